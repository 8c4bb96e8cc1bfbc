/-
  Lemmas towards the law, 8: OrdX, LiftS, WalkValid, Node, Grow2, Bound.
-/
import Derived.Test.YtbnkbepgmenblaaGreatDoorFAG
import Derived.Deep.RegionHeld3
import Derived.Deep.RegionWith
import Derived.HandedShaped
set_option linter.unusedVariables false
namespace Go.Proofs.YtbnkbepgmenblaaGreatDoor.OrdX
open Go Go.Proofs.YtbnkbepgmenblaaGreatDoor.Ord Go.Proofs.YtbnkbepgmenblaaGreatDoor.OrdG
def okX(ops:Array Oper)(l:Array Bool)(m N x:Nat):Bool:=
 ((List.range m).all fun i=> isOn l i||match dstOf ops i with
  |some d=> decide (d < N)&&(List.range i).all fun j=> isOn l j||dstOf ops j !=some d
  |none=> false)&&
 (List.range (ops.size - m)).all (fun i=> isOn l (m+i) ||(List.range m).all fun j=> j==x||isOn l j||j95 ops ops.size (m+i) j)&&
 (List.range ops.size).all (fun i=>(q36 ops i).all fun k=> decide (k < i)&&(!isOn l i||isOn l k))&& decide (m<=ops.size)&& decide (l.size=ops.size)
def okD(ops:Array Oper)(l:Array Bool)(m N:Nat):Bool:=
 (List.range m).all fun i=> isOn l i||match dstOf ops i with
  |some d=> decide (d < N)&&(List.range i).all fun j=> isOn l j||dstOf ops j !=some d
  |none=> false
section
variable {Γ : Type} {P : Program} {ops : Array Oper} {Q : Exit → Act → World → Prop} {l0 : Array Bool} {m : Nat} {E : World × Γ → World × Γ → Prop} {G : Nat → Value → World × Γ → Prop} {a0 : Act} {w0 : World × Γ}
theorem j92{N:Nat}(h:okD ops l0 m N=true){i:Nat}(hi:i < m)(hl:isOn l0 i=false): ∃d,dstOf ops i=some d/\d < N/\ ∀j,j < i->isOn l0 j=false->dstOf ops j≠some d:=by
 unfold okD at h;simp only[List.all_eq_true,List.mem_range] at h;have:=h i hi;rw[hl,Bool.false_or] at this
 split at this
 · rename_i d hd
   simp only[Bool.and_eq_true,decide_eq_true_eq,List.all_eq_true,List.mem_range,bne_iff_ne,Bool.or_eq_true] at this;refine⟨d,hd,this.1,fun j hj N4=>(this.2 j hj).resolve_left (by rw[N4];decide)⟩
 · cases this
theorem y193{N:Nat}(h:okD ops l0 m N=true){i j:Nat}(hi:i < m)(hj:j < m)(li:isOn l0 i=false)(lj:isOn l0 j=false)(hne:i≠j){d:Tmp}(hd:dstOf ops i=some d):dstOf ops j≠some d:=by
 rcases Nat.lt_or_gt_of_ne hne with hlt|hlt
 · intro e
   obtain⟨d',h1,-,h2⟩:=j92 h hj lj;rw[e] at h1;simp only[Option.some.injEq] at h1;subst h1;exact h2 i hlt li hd
 · obtain⟨d',h1,-,h2⟩:=j92 h hi li
   rw[hd] at h1;simp only[Option.some.injEq] at h1;subst h1;exact h2 j hlt lj
theorem q45{N:Nat}(h:okD ops l0 m N=true){v:Nat->Value}{s:Nat->Bool}(a:Act)(D2: ∀j,s j=true->isOn l0 j=false){i:Nat}(hs:s i=false)(K5:isOn l0 i=false)(u:Value): ∀{n:Nat},i < n->n<=m->
 putN ops (fun j=> if j=i then u else v j) (fun j=> if j=i then true else s j) a n=(putN ops v s a n).put (dstOf ops i) u
 |0,hi,_=> by omega
 |n+1,hi,hn=> by
  by_cases e:n=i
  · subst e
    have e1:(if n=n then true else s n)=true:=if_pos rfl;have e2: ¬s n=true:=by rw[hs];decide
    have e3:(if n=n then u else v n)=u:=if_pos rfl;unfold putN;rw[if_pos e1,if_neg e2,e3];rw[y24 a (v:=fun j=> if j=n then u else v j) (s:=fun j=> if j=n then true else s j) (v':=v) (s':=s) (fun j hj=>⟨by rw[if_neg (by omega)],fun _=> by rw[if_neg (by omega)]⟩)]
  · have ih:=q45 h (v:=v) a D2 hs K5 u (n:=n) (by omega) (by omega)
    unfold putN;rw[if_neg e,if_neg e,ih]
    split
    · rename_i wo
      rw[Act.put_comm];intro d hd;exact y193 h (by omega) (by omega) K5 (D2 n wo) (Ne.symm e) hd
    · rfl
theorem y46{N:Nat}(h:okD ops l0 m N=true)(v:Nat->Value)(s:Nat->Bool)(D2: ∀j,s j=true->isOn l0 j=false)(a:Act)(hN:a.tmps.size=N){k:Nat}{d:Tmp}(hd:dstOf ops k=some d)(hk:s k=true): ∀{n:Nat},k < n->n<=m->(putN ops v s a n).eval (.tmp d)=v k
 |0,hi,_=> by omega
 |n+1,hi,hn=> by
  by_cases e:n=k
  · subst e
    unfold putN;rw[if_pos hk,hd,q76,if_pos rfl,if_pos];rw[j71,hN];obtain⟨d',h1,h2,-⟩:=j92 h (i:=n) (by omega) (D2 _ hk);rw[hd] at h1;simp only[Option.some.injEq] at h1;subst h1;exact h2
  · have ih:=y46 h v s D2 a hN hd hk (n:=n) (by omega) (by omega)
    unfold putN
    split
    · rename_i wo
      cases J8:dstOf ops n with
      |none=> exact ih
      |some d'=>
       rw[q76,if_neg,ih];intro e';subst e';exact y193 h (by omega) (by omega) (D2 _ hk) (D2 _ wo) (Ne.symm e) hd J8
    · exact ih
theorem wpAnyH_orderX{S:World->Prop}{N fuel fT x:Nat}{lT lX:Array Bool}{ox:Oper}(fq:okX ops l0 m N x=true)(hN:a0.tmps.size=N)(hf:fuel=opnO l0 ops.size)(nv:doneO l0 m=lT)(qi:opnO lT ops.size=fT)
 (Gv:ops[x]? =some ox) (Gf:x < m) (y7:isOn l0 x=false) (Kj:lT.setIfInBounds x false=lX) (py:Region.noSelect ops=true) (Ow:Region.free .any ops lX x=true) (R6:(Region.ready .any ops lX).contains x=true)
 (hQ: ∀v c a w,Q (.panic c) (a.put ox.dst v) w->Q (.panic c) a w)
 (hX: ∀a w z,E w0 (w,z)->(∀t,isDst ops l0 m t=false->a.eval (.tmp t)=a0.eval (.tmp t))->(∀j d,depO ops l0 x j d=true->G j (a.eval (.tmp d)) (w,z))-> ∃u,YieldsIf P ops S ox u a/\G x u (w,z))
 (V8:E w0 w0) (hE: ∀u v w,E u v->E v w->E u w) (hG: ∀i v w w',G i v w->E w w'->G i v w') (hS: ∀w z,E w0 (w,z)->S w)
 (steps:StepsO P ops Q l0 m E G a0 w0 0 (ops.toList.take m))
 (fin: ∀(v:Nat->Value) w z,E w0 (w,z)->(∀j,j < m->isOn l0 j=false->G j (v j) (w,z))->wpAnyH P .any ops Q S fT lT (putN ops v (fun j=> !isOn l0 j) a0 m) w):
 wpAnyH P .any ops Q S fuel l0 a0 w0.1:=by
 subst Kj;subst nv;subst qi;have Q6:=fq;unfold okX at Q6;simp only[Bool.and_eq_true,decide_eq_true_eq,List.all_eq_true,List.mem_range,Bool.or_eq_true,Bool.not_eq_true'] at Q6;obtain⟨⟨⟨⟨-,iy⟩,hlowb⟩,hm⟩,hlsz⟩:=Q6;have F5:okD ops l0 m N=true:=by
  unfold okX at fq;simp only[Bool.and_eq_true] at fq;exact fq.1.1.1.1
 have U8: ∀i,i < ops.size-> ∀k∈q36 ops i,k < i:=fun i hi k hk=>(hlowb i hi k hk).1
 have jd: ∀i,isOn l0 i=true-> ∀k∈q36 ops i,isOn l0 k=true:=fun i hl k hk=> by
  by_cases hi:i < ops.size
  · exact(hlowb i hi k hk).2.resolve_left (by rw[hl];decide)
  · unfold q36 at hk
    rw[show ops[i]? =none from Array.getElem?_eq_none (by omega)] at hk;simp at hk
 have Am: ∀i,m<=i->i < ops.size->isOn l0 i=false-> ∀j,j < m->j≠x->isOn l0 j=false->j95 ops ops.size i j=true:=fun i h1 h2 hi j hj Ej hl=> by
  have:=iy (i - m) (by omega);rw[show m+(i - m)=i by omega] at this;have:=this.resolve_left (by rw[hi];decide) j hj;exact this.resolve_left (fun h=> h.elim (fun h=> Ej (by simpa using h)) (fun h=> by rw[hl] at h;cases h))
 have D2: ∀listed:Array Bool,∀j,(isOn listed j && !isOn l0 j)=true->isOn l0 j=false:=fun listed j h=> by
  simp only[Bool.and_eq_true,Bool.not_eq_true'] at h;exact h.2
 have main: ∀(fuel:Nat) (listed:Array Bool) (a:Act) (w:World) (z:Γ) (v:Nat->Value),listed.size=ops.size->(∀i,m<=i->isOn listed i=isOn l0 i)->(∀i,isOn l0 i=true->isOn listed i=true)->
  (∀i,isOn listed i=true-> ∀k∈q36 ops i,isOn listed k=true)->a=putN ops v (fun j=> isOn listed j && !isOn l0 j) a0 m->(∀j,j < m->isOn listed j=true->isOn l0 j=false->G j (v j) (w,z))->E w0 (w,z)->
  fuel=opnO listed ops.size->wpAnyH P .any ops Q S fuel listed a w:=by
  intro fuel;have done: ∀(fuel:Nat) (listed:Array Bool) (a:Act) (w:World) (z:Γ) (v:Nat->Value),listed.size=ops.size->(∀i,m<=i->isOn listed i=isOn l0 i)->a=putN ops v (fun j=> isOn listed j && !isOn l0 j) a0 m->(∀j,j < m->isOn listed j=true->isOn l0 j=false->G j (v j) (w,z))->E w0 (w,z)->
   fuel=opnO listed ops.size->(∀j,j < m->isOn listed j=true)->wpAnyH P .any ops Q S fuel listed a w:=by
   intro fuel listed a w z v hsz h1 ha hg he hf hall;have hl:listed=doneO l0 m:=by
    apply Array.ext
    · simp[doneO,hsz,hlsz]
    · intro i W4 dv
      have e1:isOn listed i=listed[i]:=by simp[isOn,Array.getD_eq_getD_getElem?,W4]
      have e2:(doneO l0 m)[i]=(decide (i < m) ||isOn l0 i):=by simp[doneO]
      rw[<-e1,e2];by_cases hi:i < m
      · rw[hall i hi];simp[hi]
      · rw[h1 i (by omega)];simp[hi]
   subst hl;subst ha;subst hf;rw[y24 (v':=v) (s':=fun j=> !isOn l0 j) a0 (fun j hj=>⟨by rw[hall j hj,Bool.true_and],fun _=> rfl⟩)];exact fin v w z he (fun j hj hl=> hg j hj (hall j hj) hl)
  induction fuel with
  |zero=>
   intro listed a w z v hsz h1 dt h2 ha hg he hf;refine done 0 listed a w z v hsz h1 ha hg he hf fun j hj=> ?_
   have: ∀n,opnO listed n=0-> ∀j,j < n->isOn listed j=true:=by
    intro n
    induction n with
    |zero=> intro _ j hj;omega
    |succ n ih=>
     intro h j hj;unfold opnO at h;by_cases e:j=n
     · subst e
       split at h
       · assumption
       · omega
     · exact ih (by omega) j (by omega)
   exact this ops.size hf.symm j (by omega)
  |succ fuel ih=>
   intro listed a w z v hsz h1 dt h2 ha hg he hf;by_cases hall: ∀j,j < m->isOn listed j=true
   · exact done _ listed a w z v hsz h1 ha hg he hf hall
   by_cases hallx: ∀j,j < m->j≠x->isOn listed j=true
   · have Nn:isOn listed x=false:=by
      cases hp:isOn listed x with
      |false=> rfl
      |true=> exact absurd (fun j hj=> if e:j=x then e▸hp else hallx j hj e) hall
     have hl:listed=(doneO l0 m).setIfInBounds x false:=by
      apply Array.ext
      · simp[doneO,hsz,hlsz]
      · intro i W4 dv
        have e1:isOn listed i=listed[i]:=by simp[isOn,Array.getD_eq_getD_getElem?,W4]
        have Dn:i <(doneO l0 m).size:=by simpa using dv
        have e2:(doneO l0 m)[i]=(decide (i < m) ||isOn l0 i):=by simp[doneO]
        rw[<-e1];by_cases e:i=x
        · subst e
          rw[Nn];simp
        · rw[Array.getElem_setIfInBounds_ne Dn (Ne.symm e),e2]
          by_cases hi:i < m
          · rw[hallx i hi e];simp[hi]
          · rw[h1 i (by omega)];simp[hi]
     have C0:listed.setIfInBounds x true=doneO l0 m:=by
      rw[hl]
      apply Array.ext
      · simp
      · intro i W4 dv
        have e2:(doneO l0 m)[i]=(decide (i < m) ||isOn l0 i):=by simp[doneO]
        by_cases e:i=x
        · subst e
          rw[e2];simp[Gf]
        · rw[Array.getElem_setIfInBounds_ne (by simpa using W4) (Ne.symm e),Array.getElem_setIfInBounds_ne dv (Ne.symm e)]
     have hd:(dstOf ops x)=ox.dst:=by unfold dstOf;rw[Gv];rfl
     have hsx:(isOn listed x && !isOn l0 x)=false:=by rw[Nn];rfl
     obtain⟨u,hy,hgx⟩:=hX a w z he (by
      intro t ht;rw[ha,q58];intro j hj hs e;unfold isDst at ht;rw[List.any_eq_false] at ht;refine ht j (List.mem_range.2 hj) ?_;rw[D2 listed j hs,e];simp) (by
      intro j d J9;unfold depO at J9;simp only[Bool.and_eq_true,beq_iff_eq,List.contains_iff_mem,Bool.not_eq_true'] at J9;have Kp:=U8 x (by omega) j J9.1.1;have N4:=hallx j (by omega) (by omega);rw[ha,y46 F5 v _ (D2 listed) a0 hN J9.1.2 (by rw[N4,J9.2];rfl) (by omega) (Nat.le_refl _)];exact hg j (by omega) N4 J9.2)
     have hfu:fuel=opnO (doneO l0 m) ops.size:=by
      have:=y95 (l:=listed) (l':=listed.setIfInBounds x true) (i:=x) Nn (by
       unfold isOn;simp[Array.getD_eq_getD_getElem?,show x < listed.size by omega]) (fun j hj=> by
       unfold isOn;simp[Array.getD_eq_getD_getElem?,Array.getElem?_setIfInBounds_ne (Ne.symm hj)]) (n:=ops.size)
      rw[if_pos (by omega),C0] at this;omega
     refine wpAnyH_take (v:=u) Gv py (hl▸Ow) (hl▸R6) (hQ u) hy (hS _ _ he) ?_;rw[C0,hfu,ha,<-hd,<-q45 F5 (s:=fun j=> isOn listed j && !isOn l0 j) a0 (D2 listed) hsx y7 u Gf (Nat.le_refl _)];rw[y24 (v':=fun j=> if j=x then u else v j) (s':=fun j=> !isOn l0 j) a0 (fun j hj=>⟨by
      by_cases e:j=x
      · simp only[if_pos e];rw[e,y7];rfl
      · simp only[if_neg e];rw[hallx j hj e,Bool.true_and],fun _=> rfl⟩)]
     refine fin _ w z he fun j hj N4=> ?_
     by_cases e:j=x
     · simp only[if_pos e];rw[e];exact hgx
     · simp only[if_neg e];exact hg j hj (hallx j hj e) N4
   · obtain⟨j1,hj11,Nv,Jg⟩:=j209 (p:=isOn listed) (n:=m) (by
      apply Classical.byContradiction
      intro h;exact hall fun j hj=> by
       cases hp:isOn listed j with
       |true=> rfl
       |false=> exact absurd ⟨j,hj,hp⟩ h)
     obtain⟨j0,nj,Ej,S9⟩: ∃j,j < m/\j≠x/\isOn listed j=false:=by
      apply Classical.byContradiction
      intro h;exact hallx fun j hj Ej=> by
       cases hp:isOn listed j with
       |true=> rfl
       |false=> exact absurd ⟨j,hj,Ej,hp⟩ h
     have gt: ∀i,i < ops.size->listed.getD i true=isOn listed i:=fun i hi=> by
      simp[isOn,Array.getD_eq_getD_getElem?,show i < listed.size by omega]
     refine⟨fun h0=> ?_,fun i hi=> ?_⟩
     · have hr:j1∈Region.ready .any ops listed:=y109 (by omega) (by rw[gt _ (by omega)];exact Nv) (fun k hk=> Jg k (U8 j1 (by omega) k hk))
       rw[h0] at hr;cases hr
     · obtain⟨r1,⟨o,ho⟩,r3⟩:=q68 hi
       have j8:i < ops.size:=(Array.getElem?_eq_some_iff.1 ho).1;have K5:isOn listed i=false:=by rw[<-gt i j8];exact r1
       have ei:isOn l0 i=false:=by
        cases hp:isOn l0 i with
        |false=> rfl
        |true=> rw[dt i hp] at K5;cases K5
       have ki:isOn l0 j0=false:=by
        cases hp:isOn l0 j0 with
        |false=> rfl
        |true=> rw[dt j0 hp] at S9;cases S9
       have rq:i < m:=by
        apply Classical.byContradiction
        intro rk;have:=j36 (l:=isOn listed) h2 ops.size i j0 r3 (Am i (by omega) j8 ei j0 nj Ej ki);rw[S9] at this;cases this
       have hst:=StepsO.get (j:=i) steps (by rw[List.getElem?_take,if_pos rq];simpa using ho);rw[Nat.zero_add] at hst;have hst:=hst.resolve_left (by rw[ei];decide);have hd:(dstOf ops i)=o.dst:=by unfold dstOf;rw[ho];rfl
       have Bn:(isOn listed i && !isOn l0 i)=false:=by rw[K5];rfl
       refine wpOp_mono ?_ (hst a w z he ?_ ?_)
       · rintro a' w' ⟨u,z',rfl,kp,qz⟩
         have C0: ∀j,isOn (listed.setIfInBounds i true) j=if j=i then true else isOn listed j:=fun j=> by
          unfold isOn;by_cases e:j=i
          · subst e
            rw[if_pos rfl];simp[Array.getD_eq_getD_getElem?,show j < listed.size by omega]
          · rw[if_neg e]
            simp[Array.getD_eq_getD_getElem?,Array.getElem?_setIfInBounds_ne (Ne.symm e)]
         refine⟨hS _ _ (hE _ _ _ he kp),ih (listed.setIfInBounds i true) _ w' z' (fun j=> if j=i then u else v j) (by simpa using hsz) ?_ ?_ ?_ ?_ ?_ (hE _ _ _ he kp) ?_⟩
         · intro j hj
           rw[C0,if_neg (by omega)];exact h1 j hj
         · intro j hj
           rw[C0]
           split
           · rfl
           · exact dt j hj
         · intro j hj k hk
           rw[C0] at hj⊢;by_cases e:k=i
           · rw[if_pos e]
           · rw[if_neg e]
             by_cases e2:j=i
             · subst e2;exact r3 k hk
             · rw[if_neg e2] at hj
               exact h2 j hj k hk
         · rw[ha,<-hd,<-q45 F5 (s:=fun j=> isOn listed j && !isOn l0 j) a0 (D2 listed) Bn ei u rq (Nat.le_refl _)]
           refine y24 a0 (fun j hj=>⟨?_,fun _=> rfl⟩);simp only[C0];by_cases e:j=i
           · rw[if_pos e,if_pos e,e,ei];rfl
           · rw[if_neg e,if_neg e]
         · intro j hj hl N4
           by_cases e:j=i
           · simp only[if_pos e];rw[e];exact qz
           · simp only[if_neg e]
             rw[C0,if_neg e] at hl;exact hG _ _ _ _ (hg j hj hl N4) kp
         · have:=y95 (l:=listed) (l':=listed.setIfInBounds i true) (i:=i) K5 (by rw[C0,if_pos rfl]) (fun j hj=> by rw[C0,if_neg hj]) (n:=ops.size)
           rw[if_pos j8] at this;omega
       · intro t ht
         rw[ha,q58];intro j hj hs e;unfold isDst at ht;rw[List.any_eq_false] at ht;refine ht j (List.mem_range.2 hj) ?_;rw[D2 listed j hs,e];simp
       · intro j d J9
         unfold depO at J9;simp only[Bool.and_eq_true,beq_iff_eq,List.contains_iff_mem,Bool.not_eq_true'] at J9;have N4:=r3 j J9.1.1;have Kp:=U8 i j8 j J9.1.1;rw[ha,y46 F5 v _ (D2 listed) a0 hN J9.1.2 (by rw[N4,J9.2];rfl) (by omega) (Nat.le_refl _)];exact hg j (by omega) N4 J9.2
 refine main fuel l0 a0 w0.1 w0.2 (fun _=> undef) hlsz (fun _ _=> rfl) (fun _ h=> h) jd ?_ ?_ V8 hf
 · have: ∀n,putN ops (fun _=> undef) (fun j=> isOn l0 j && !isOn l0 j) a0 n=a0:=fun n=> by
    induction n with
    |zero=> rfl
    |succ n ih=>
     unfold putN;rw[if_neg,ih];simp
   exact(this m).symm
 · intro j hj hl hl2
   rw[hl] at hl2;cases hl2
end
end Go.Proofs.YtbnkbepgmenblaaGreatDoor.OrdX
namespace Go.Proofs.YtbnkbepgmenblaaGreatDoor
open Go.RowKit Go.ChangeShapes Go.WideShapes Go.ChangeAt
section
variable {H : Type} {enc : TypeId × Value → H} {P : Program}
theorem j80{a:Assume}{C:Checked}{os:Os}{f:FuncId}{fn:Func}{s:ChangeSpec}{conds:List PathCond}{apart fresh handsOn again:Bool}{X:World->Array Value->Prop}
 (hX: ∀(w w':World) (args:Array Value),w.heap=w'.heap->X w args->X w' args)
 (own:ownKnob C.prog.godebug=none) (started:os.Started) (noInit:C.prog.inits.idxOf? f=none) (hfn:C.prog.funcs[f]? =some fn)
 (witness: ∃(w:World) (tape:Tape) (i:Input),w.os=os/\(w.forCall tape i).Shaped C.prog/\i.vars= []/\Input.okWide C.prog (w.forCall tape i) .any w.heap.size f i/\
  ((s.pre enc C.prog fn conds apart (w.forCall tape i).memory i.args/\X (w.forCall tape i).memory i.args)/\sizedMet enc C.prog fn (OpenSpec.ofChange s) apart (w.forCall tape i).memory i.args)/\a.holds C.prog (lone (Frame.enter C.prog f i.args .normal) [] (w.forCall tape i)))
 (contract: ∀(W:World) (base:Nat) (args:Array Value) (ds gs:List (DataW H)) (before:List MemPlace),
  (∀(j:Nat) t v,fn.params[j]? =some t->args[j]? =some v->Value.okWide C.prog W .any base t v)->
  DataW.Whole enc C.prog fn.params.toList s.vars apart W args.toList ds gs before->
  conds.all (PathCond.test C.prog ⟨fn.params.toList,ds,s.plain.varTypes C.prog,gs⟩)=true->
  (DataW.weightsEach C.prog (fn.params.toList++s.plain.varTypes C.prog) (ds++gs)).all (· <=reachBytes)=true->X W args->W.ShapedOpen C.prog->
  a.holds C.prog (lone (Frame.enter C.prog f args .normal) [] W)->
  Calls C.prog f args W fun e W'=> ∃v,e= .returned v/\s.post enc C.prog fn apart fresh handsOn again W args v W'):
 ReturnsInHanded a C os f .any (fun w args=>(s.pre enc C.prog fn conds apart w args/\X w args)/\sizedMet enc C.prog fn (OpenSpec.ofChange s) apart w args) (s.post enc C.prog fn apart fresh handsOn again):=by
 refine returnsInHanded_of_calls own started noInit witness ?_;intro w tape i _ hsh _ F5 Lv uk;obtain⟨_,_,_,fn',Ju,_,_,_,_,hval⟩:=F5;have e:fn'=fn:=Option.some.inj (Ju.symm.trans hfn);subst e;obtain⟨⟨⟨ds,gs,before,hw,hc⟩,hx⟩,hz⟩:=Lv;have hw':=DataW.Whole.of_heap (w':=w.forCall tape i) (by rfl) hw;refine(contract (w.forCall tape i) w.heap.size i.args ds gs before hval hw' hc (hz.weights hw) (hX _ _ _ (by rfl) hx) hsh uk).mono fun e W' ⟨v,he,hp⟩=> ?_
 subst he;exact ChangeSpec.post_blind hp
theorem j182{C:Checked}{os:Os}{f:FuncId}{fn:Func}{s:ChangeSpec}{tb:TypeId}{X:World->Array Value->Prop}(hX: ∀(w w':World) (args:Array Value),w.heap=w'.heap->X w args->X w' args)(own:ownKnob C.prog.godebug=none)(started:os.Started)(noInit:C.prog.inits.idxOf? f=none)(hfn:C.prog.funcs[f]? =some fn)
 (hl:laidOutB C.prog=true) (kj:(fn.params.toList.all fun t=> C.prog.readableRec t && decide (t < C.prog.types.size))=true) (hres:fn.resultTypes=#[tb]) (jv:C.prog.underlying tb=some .bool)
 (Z8:s.vars= []) (jq: ∀ds:List (DataW H),ds.length=fn.params.size->(s.fn H ds).results= [.lit (.bool true)]/\(s.fn H ds).args=ds/\(s.fn H ds).vars= [])
 (witness: ∃(w:World) (tape:Tape) (i:Input),w.os=os/\(w.forCall tape i).Shaped C.prog/\i.vars= []/\Input.okWide C.prog (w.forCall tape i) .any w.heap.size f i/\
  ((s.pre enc C.prog fn [] false (w.forCall tape i).memory i.args/\X (w.forCall tape i).memory i.args)/\sizedMet enc C.prog fn (OpenSpec.ofChange s) false (w.forCall tape i).memory i.args)/\({}:Assume).holds C.prog (lone (Frame.enter C.prog f i.args .normal) [] (w.forCall tape i)))
 (walk: ∀(W:World) (base:Nat) (args:Array Value) (ds:List (DataW H)) (p:List MemPlace),
  (∀(j:Nat) t v,fn.params[j]? =some t->args[j]? =some v->Value.okWide C.prog W .any base t v)->DataW.TrodAll enc C.prog W 0 (fun _=> true) true fn.params.toList args.toList ds p->
  (∀x∈p,x.block < W.heap.size)->X W args->W.ShapedOpen C.prog->Calls C.prog f args W fun e W'=> e= .returned (.bool true)/\Ext W W'):
 ReturnsInHanded {} C os f .any (fun w args=>(s.pre enc C.prog fn [] false w args/\X w args)/\sizedMet enc C.prog fn (OpenSpec.ofChange s) false w args) (s.post enc C.prog fn false true false false):=by
 refine j80 hX own started noInit hfn witness ?_;intro W base args ds gs before hval hW _ _ Pe hsh _;have hlt: ∀x∈before,x.block < W.heap.size:=fun x hx=> hW.lt x hx
 have zq:=hW;obtain⟨p,q,hA,hV,rfl,hfz,Lc⟩:=hW;rw[Z8] at hV;obtain⟨rfl,rfl⟩:=trodVars_none hV;simp only[List.append_nil] at hlt zq;refine(walk W base args ds p hval hA hlt Pe hsh).mono ?_;rintro e W' ⟨rfl,hE⟩;have hlen:ds.length=fn.params.size:=by
  have h1: ∀{ts:List TypeId} {vs:List Value} {es:List (DataW H)} {ps:List MemPlace},DataW.TrodAll enc C.prog W 0 (fun _=> true) true ts vs es ps->es.length=ts.length:=by
   intro ts
   induction ts with
   |nil=> intro vs es ps h;obtain⟨_,rfl,_⟩:=trodAll_nil h;rfl
   |cons t ts ih=> intro vs es ps h;obtain⟨v,vs',d,ds',p,q,rfl,rfl,rfl,h0,r⟩:=trodAll_cons h;simp[ih r]
  rw[h1 hA,Array.length_toList]
 obtain⟨e1,e2,e3⟩:=jq ds hlen;refine⟨_,rfl,ds, [],p, [],p, [],by simpa using zq, ?_, ?_, ?_,Below.frame hE _|> World.keptBut_mono (fun x hx=>⟨hx,.inr (.inl hx)⟩),fun h=> by cases h⟩
 · rw[List.append_nil,e1,hres]
   exact trodAll_mk1 (shut_bool jv _)
 · rw[List.append_nil,e2]
   exact j42 hl hE kj hA hlt
 · rw[List.append_nil,e3,Z8]
   exact rfl
end
end Go.Proofs.YtbnkbepgmenblaaGreatDoor
namespace Go.Proofs.YtbnkbepgmenblaaGreatDoor
open Go.RowKit
theorem j21(n lo hi:Int)(w:World):Calls Tryz.prog 70 #[.int .i64 n,.int .i64 lo,.int .i64 hi] w fun e w'=> e= .returned (.bool (inR n lo hi))/\w=w':=by
 by_cases h1:lo<=n
 · by_cases h2:n<=hi
   · have e:inR n lo hi=true:=j31.2 ⟨h1,h2⟩
     have E:=hdq e;have d1:decide (lo<=n)=true:=by simpa using h1
     have d2:decide (n<=hi)=true:=by simpa using h2
     clear e;go_enter Tryz.func70,Tryz.ntmps70;go_wp2_with fail;go_ret;exact⟨by rw[E.out];rfl,rfl⟩
   · have e:inR n lo hi=false:=y49.2 (.inr (by omega))
     have E:=hdq e;have d1:decide (lo<=n)=true:=by simpa using h1
     have d2:decide (n<=hi)=false:=by simpa using h2
     clear e;go_enter Tryz.func70,Tryz.ntmps70;go_wp2_with fail;go_ret;exact⟨by rw[E.out];rfl,rfl⟩
 · have e:inR n lo hi=false:=y49.2 (.inl (by omega))
   have E:=hdq e;have d1:decide (lo<=n)=false:=by simpa using h1
   clear e;go_enter Tryz.func70,Tryz.ntmps70;go_wp2_with fail;go_ret;exact⟨by rw[E.out];rfl,rfl⟩
theorem y73(k:Int)(w:World):Calls Tryz.prog 74 #[.int .i64 k] w fun e w'=> e= .returned (.int .i64 (opsT k))/\Ext w w':=by
 by_cases h1:inR k 1 16=true
 · have H1:=hdq h1
   have h2:=j31.1 h1;clear h1;have hcs: ∀j:Nat,j < 16->k=(j:Int)+1->Calls Tryz.prog 74 #[.int .i64 k] w fun e w'=> e= .returned (.int .i64 (opsT k))/\Ext w w':=by
    intro j hj hk;subst hk;have HX:=H1;go_enter Tryz.func74,Tryz.ntmps74;go_wp2_with (go_at_call 70;refine(j21 _ _ _ _).mono ?_;rw[HX.out];rintro e w1 ⟨rfl,rfl⟩)
    go_ret;refine⟨?_,(xr _).alloc _⟩;rcases(by omega:j=0\/j=1\/j=2\/j=3\/j=4\/j=5\/j=6\/j=7\/j=8\/j=9\/j=10\/j=11\/j=12\/j=13\/j=14\/j=15) with rfl|rfl|rfl|rfl|rfl|rfl|rfl|rfl|rfl|rfl|rfl|rfl|rfl|rfl|rfl|rfl <;> rfl
   exact hcs (k - 1).toNat (by omega) (by omega)
 · have h2:inR k 1 16=false:=by simpa using h1
   have H2:=hdq h2;have h3:=y49.1 h2;have e:opsT k= -1:=by
    unfold opsT
    repeat rw[if_neg (by omega)]
   have E:=hdq e;clear h1 h2 e;go_enter Tryz.func74,Tryz.ntmps74;go_wp2_with (go_at_call 70;refine(j21 _ _ _ _).mono ?_;rw[H2.out];rintro e w1 ⟨rfl,rfl⟩)
   go_ret;exact⟨by rw[E.out];rfl,xr _⟩
theorem y58(k:Int)(w:World):Calls Tryz.prog 75 #[.int .i64 k] w fun e w'=> e= .returned (.int .i64 (j15 k))/\w=w':=by
 by_cases h1:k=1
 · have e:j15 k=20:=by simp[j15,h1]
   have E:=hdq e;have d1:(k==1)=true:=by simpa using h1
   clear e h1;go_enter Tryz.func75,Tryz.ntmps75;go_wp2_with fail;go_ret;exact⟨by rw[E.out];rfl,rfl⟩
 · have d1:(k==1)=false:=by simpa using h1
   by_cases h2:k=2
   · have e:j15 k=3:=by simp[j15,h2]
     have E:=hdq e;have d2:(k==2)=true:=by simpa using h2
     clear e h1 h2;go_enter Tryz.func75,Tryz.ntmps75;go_wp2_with fail;go_ret;exact⟨by rw[E.out];rfl,rfl⟩
   · have e:j15 k=0:=by simp[j15,h1,h2]
     have E:=hdq e;have d2:(k==2)=false:=by simpa using h2
     clear e h1 h2;go_enter Tryz.func75,Tryz.ntmps75;go_wp2_with fail;go_ret;exact⟨by rw[E.out];rfl,rfl⟩
def Plus(S:Nat->Prop)(w w':World)(b:Nat):Prop:=S b\/w.heap.size<=b/\b < w'.heap.size
def New(w w':World)(t:Tr)(v:Value):Prop:=InT w' (fun b=> w.heap.size<=b/\b < w'.heap.size) t v
theorem New.since{a w w':World}{t:Tr}{v:Value}(h:New w w' t v)(ha:a.heap.size<=w.heap.size):New a w' t v:=h.mono (fun b hb=>⟨Nat.le_trans ha hb.1,hb.2⟩) (fun _ _=> rfl)
theorem New.after{w w1 w2:World}{t:Tr}{v:Value}(h:New w w1 t v)(ha:q23 w.heap.size w1 w2):New w w2 t v:=h.mono (fun b hb=>⟨hb.1,Nat.lt_of_lt_of_le hb.2 ha.2⟩) (fun b hb=> ha.1 b hb.1)
theorem New.leaf(w w':World)(k n:Int):New w w' (.mk k n []) (.agg #[.int .i64 k,.int .i64 n,.slice none 0 0]):=InT.mk_iff.2 ⟨none,0,rfl,Nat.le_refl _,Nat.zero_le _,.inl rfl⟩
theorem InK.one{w:World}{S:Nat->Prop}{e:TypeId}{t:Tr}{v0 v1 v2:Value}{g:Nat}(h:InT w S t (.agg #[v0,v1,v2]))(hg:w.heap[g]? =some (.cells #[v0,v1,v2] e (0,0)))(hS:S g):InK w S (some ⟨g,0,none⟩) [t]:=by
 refine .inr ⟨g,0,rfl,hS, ?_⟩;unfold InL;refine⟨⟨v0,v1,v2,q10 hg 0,q10 hg 1,q10 hg 2,h⟩, ?_⟩;unfold InL
 trivial
theorem y63.one{W wr w1 w:World}{e:TypeId}{t:Tr}{v0 v1 v2:Value}{g:Nat}(hM:Made wr w1 e t (.agg #[v0,v1,v2]))(C5:wr.heap.size<=w1.heap.size)(hE:Ext w1 w)(hg:w.heap[g]? =some (.cells #[v0,v1,v2] e (0,0)))(hgs:w1.heap.size<=g)(hW:W.heap.size<=wr.heap.size):y63 W w e (some ⟨g,0,none⟩) [t]:=by
 obtain⟨L,h,hf⟩:=hM;refine⟨g::L,.inr ⟨g,_,L,rfl,hg,rfl,OwnL.cons_iff.2 ⟨v0,v1,v2, [],L, [],rfl,h.mono fun b hb=> hE.heap b (hf.2 b hb).2,OwnL.nil,by simp⟩⟩,List.nodup_cons.2 ⟨fun hm=> ?_,hf.1⟩,fun b hm=> ?_⟩
 · have:=(hf.2 g hm).2
   omega
 · have:=hE.size
   rcases List.mem_cons.1 hm with rfl|hm
   · exact⟨by omega,j10 hg⟩
   · have:=hf.2 b hm
     omega
theorem q18(w:World)(k:Int)(A:Option Addr)(len cap:Nat):Calls Tryz.prog 38 #[.int .i64 k,.slice A len cap] w fun e w'=> e= .returned (.agg #[.int .i64 k,.int .i64 0,.slice A len cap])/\Ext w w':=by
 go_enter Tryz.func38,Tryz.ntmps38;go_wp2_with fail;exact bodyPost_ret (v:= .agg #[.int .i64 k,.int .i64 0,.slice A len cap]) (by simp[results,Tryz.results38,go_sem]) rfl ⟨rfl,(xr w).alloc _⟩
theorem y59(w:World)(k n:Int):Calls Tryz.prog 57 #[.int .i64 k,.int .i64 n] w fun e w'=> e= .returned (.agg #[.int .i64 k,.int .i64 n,.slice none 0 0])/\Ext w w':=by
 go_enter Tryz.func57,Tryz.ntmps57;go_wp2_with fail;exact bodyPost_ret (v:= .agg #[.int .i64 k,.int .i64 n,.slice none 0 0]) (by simp[results,Tryz.results57,go_sem]) rfl ⟨rfl,(xr w).alloc _⟩
theorem q171:(Tryz.prog.info? 26).map (fun i=>(i.zero,i.size,i.bytes))=some (some (.agg #[.int .i64 0,.int .i64 0,.slice none 0 0]),3,40):=by kernel_rfl
theorem y159(w:World)(k:Int)(A:Option Addr)(cap:Nat)(ks:List Tr)(hA:A=none->cap=0)(S:Nat->Prop)(hS: ∀b,S b->b < w.heap.size)(hK:InK w S A ks)(hn:ks.length<=1099511627776):
 Calls Tryz.prog 60 #[.int .i64 k,.slice A ks.length cap] w fun e w'=> ∃u,e= .returned u/\InT w' (Plus S w w') (.mk k 0 ks) u/\Ext w w':=by
 obtain⟨i0,hi,hz0,hz1,hz2⟩:=info_parts q171;have hK':InK (w.alloc (.cells #[.int .i64 0,.int .i64 0,.slice none 0 0] 26)) S A ks:=InK.mono (fun _ h=> h) (fun b hb=> Below.heap_alloc w _ b (hS b hb)) hK;go_enter Tryz.func60,Tryz.ntmps60;go_wp2_with (at_builtin;refine j76 _ rfl (.tmp 6) (.tmp 7) 24 rfl 26 i0 _ Tryz.underlying24 hi hz0 hz1 hz2 rfl (W:=w.alloc (.cells #[.int .i64 0,.int .i64 0,.slice none 0 0] 26)) (v:= .slice (some ⟨w.heap.size+1,0,none⟩) 0 0) (A:=A) (cap:=cap) (ks:=ks) rfl ?ow ((xr _).alloc _) rfl hA ?hS hK' hn ?_)
 case ow=> simpa using World.ownsRow_lit (base:=w.heap.size+1) (e:=26) (size:=3) (w.alloc (.cells #[.int .i64 0,.int .i64 0,.slice none 0 0] 26)) #[] 0 (by simp) (Nat.zero_le _) rfl
 case hS=> intro b hb;have:=hS b hb;simp;omega
 intro B c' w2 hB hc1 hc2 hE _;have hb:=blk1 hE;obtain⟨r0,r1,r2,p0,p1,p2⟩:=own3 hb.1;have hEs:=hE.pre;have hlt:=hb.2;clear hi hz0 hz1 hz2 hK' hb;go_wp2_with fail;refine bodyPost_ret (v:= .agg #[.int .i64 k,.int .i64 0,.slice B ks.length c']) (by simp[results,Tryz.results60,go_sem,r0,r1,r2]) rfl ⟨_,rfl,InT.mk_iff.2 ⟨_,_,rfl,hc1,hc2,hB.mono ?_ ?_⟩, ?_⟩
 · intro b hb
   unfold Plus;rw[World.size_setCell,World.size_setCell,World.size_setCell];rcases hb with hb|hb
   · exact .inl hb
   · have:=hb.1
     exact .inr ⟨by omega,hb.2⟩
 · intro b hb
   have hne:b≠w.heap.size:=by
    rcases hb with hb|hb
    · have:=hS b hb
      omega
    · have:=hb.1
      omega
   rw[Below.heap_setCell _ _ _ _ hne,Below.heap_setCell _ _ _ _ hne,Below.heap_setCell _ _ _ _ hne]
 · exact((hEs.setCell (Nat.le_refl _) _).setCell (Nat.le_refl _) _).setCell (Nat.le_refl _) _
theorem Made.three{w w':World}{e:TypeId}{t:Tr}{u:Value}(h:Made w w' e t u): ∃k n A l c,u= .agg #[.int .i64 k,.int .i64 n,.slice A l c]:=by
 obtain⟨k,n,ks⟩:=t;obtain⟨A,cap,rfl,_⟩:=Made.mk_iff.1 h;exact⟨k,n,A,_,cap,rfl⟩
theorem Lies.three{w:World}{t:Tr}{u:Value}(h:Lies w t u): ∃k n A l c,u= .agg #[.int .i64 k,.int .i64 n,.slice A l c]:=by
 obtain⟨k,n,ks⟩:=t;obtain⟨A,cap,rfl,_⟩:=Lies.mk_iff.1 h;exact⟨k,n,A,_,cap,rfl⟩
theorem Grow.only{W w w':World}{e:TypeId}{v:Value}{ks:List Tr}{L:List Nat}(h:Grow W w e v ks)(ho:Only L w w')(hL: ∀b,b∈L->b < W.heap.size):Grow W w' e v ks:=
 h.same ho.size (fun b hb hlt=> ho.block b hlt (fun hm=> by have:=hL b hm;omega))
theorem Only.below{L:List Nat}{a w w':World}{B:Nat}(h:Only L a w)(hb:Below B w w')(hB:a.heap.size<=B):Only L a w':=
 ⟨hb.os.trans h.os,hb.tape.trans h.tape,hb.output.trans h.output,Nat.le_trans h.size hb.size,fun i hi hn=>(hb.block i (by omega)).trans (h.block i hi hn)⟩
theorem Grow.step2{W wr w1 w w':World}{e:TypeId}{v v':Value}{ks:List Tr}{t:Tr}{v0 v1 v2:Value}{xs:List Value}{L:List Nat}
 (hL:OwnL wr e xs ks L) (hF:q33 W wr L) (hv: ∀g,v.ownBlock=some g-> ¬g∈L/\g < wr.heap.size/\W.heap.size<=g) (hx:xs.length=ks.length*3) (hW:W.heap.size<=wr.heap.size) (hs1:wr.heap.size<=w1.heap.size) (ar: ∀b,W.heap.size<=b->b < wr.heap.size->w1.heap[b]? =wr.heap[b]?) (hM:Made wr w1 e t (.agg #[v0,v1,v2])) (F8:Ext w1 w)
 (h2:w'.ownsRow W.heap.size e 3 v' (ks.length+1) (xs++ [v0,v1,v2])) (h3:w.grownBy w' v.ownBlock) (h4: ∀g,v'.ownBlock=some g->v.ownBlock=some g\/w.heap.size<=g):Grow W w' e v' (ks++ [t])/\Below W.heap.size w1 w'/\(∀b,wr.heap.size<=b->b < w1.heap.size->w'.heap[b]? =w1.heap[b]?):=by
 obtain⟨M,hM,lw⟩:=hM;have s1:=hs1;have s2:=F8.size;have keep: ∀b,b < w1.heap.size->(v.ownBlock≠some b)->w'.heap[b]? =w1.heap[b]? :=fun b hb hne=>(h3.block b (by omega) (fun h=> hne h.symm)).trans (F8.heap b hb)
 refine⟨⟨_,L++M,by simpa using h2,OwnL.snoc (hM.mono fun b hb=> keep b (lw.2 b hb).2 fun he=> ?_) [] hx (hL.mono fun b hb=>(keep b (by have:=(hF.2 b hb).2;omega) fun he=> ?_).trans (ar b (hF.2 b hb).1 (hF.2 b hb).2)), ?_,fun g hg hm=> ?_⟩, ?_⟩
 · have:=(hv b he).2.1
   have:=(lw.2 b hb).1;omega
 · exact(hv b he).1 hb
 · have h5:=hF.append (d:=w1) lw (Nat.le_refl _) hW hs1
   exact h5.mono (Nat.le_refl _) (by have:=h3.size;omega)
 · rcases h4 g hg with h|h
   · rcases List.mem_append.1 hm with hm|hm
     · exact(hv g h).1 hm
     · have:=(hv g h).2.1
       have:=(lw.2 g hm).1;omega
   · rcases List.mem_append.1 hm with hm|hm
     · have:=(hF.2 g hm).2
       omega
     · have:=(lw.2 g hm).2
       omega
 · refine⟨⟨h3.os.trans F8.os,h3.tape.trans F8.tape,h3.output.trans F8.output,by have:=h3.size;omega,fun b hb=> ?_⟩,fun b h0 h1=> keep b h1 (fun he=> by have:=(hv b he).2.1;omega)⟩
   exact keep b (by omega) (fun he=> by have:=(hv b he).2.2;omega)
theorem y94{P:Program}(w:World){o:Oper}{a:Act}{K:Act->World->Prop}{Q:Exit->Act->World->Prop}(s x:Operand)(t:TypeId)
 (ho:o.op= .call {callee:= .builtin .append,args:=#[s,x],argTypes:=#[t,t]})
 (e:TypeId) (i:TypeInfo) (z:Value) (ht:P.underlying t=some (.slice e)) (hi:P.info? e=some i) (hz:i.zero=some z) (hsize:i.size=3) (hby:i.bytes=40) (hzs:z.cells.size=3)
 {W wr w1:World} {v:Value} {ks:List Tr} {tr:Tr} {v0 v1 v2:Value} {gx:Nat} (hs:a.eval s=v) (hG:Grow W wr e v ks) (hW:W.heap.size<=wr.heap.size) (hs1:wr.heap.size<=w1.heap.size) (ar: ∀b,W.heap.size<=b->b < wr.heap.size->w1.heap[b]? =wr.heap[b]?) (hM:Made wr w1 e tr (.agg #[v0,v1,v2])) (F8:Ext w1 w)
 (hx:a.eval x= .slice (some ⟨gx,0,none⟩) 1 1) (hgx:w.heap[gx]? =some (.cells #[v0,v1,v2] e (0,0))) (hn:ks.length < 1099511627776)
 (h: ∀v' w',Grow W w' e v' (ks++ [tr])->Below W.heap.size w1 w'->(∀b,wr.heap.size<=b->b < w1.heap.size->w'.heap[b]? =w1.heap[b]?)->K (a.put o.dst v') w'):o.wp P a w K Q:=by
 obtain⟨xs,L,h1,h2,h3,h4⟩:=hG;have s1:=hs1;have s2:=F8.size;have hown:w.ownsRow W.heap.size e 3 v ks.length xs:=j24 h1 (fun g hg=>(F8.heap g (by have:=(h1.lt g hg).2;omega)).trans (ar g (h1.lt g hg).1 (h1.lt g hg).2));obtain⟨v',w',hr,r1,r2,r3⟩:=y18 (P:=P) w W.heap.size t o.type e i z 3 40 ht hi hz hsize hby hzs (by decide) v ks.length xs hown ⟨gx,0,none⟩ 1 1 [v0,v1,v2] rfl (q60 hgx) (j54 hM) (by unfold maxLen;omega) (by omega) (by omega);obtain⟨g1,g2,g3⟩:=Grow.step2 h2 h3 (fun g hg=>⟨h4 g hg,(h1.lt g hg).2,(h1.lt g hg).1⟩) h1.1 hW hs1 ar hM F8 r1 r2 r3;unfold Oper.wp execOp;simp only[ho,resolve,invoke,builtin,Sem.run_bind,Sem.run_pure,Result.andThen_ok,List.map_toArray,List.map_cons,List.map_nil,hs,hx,hr];exact h v' w' g1 g2 g3
theorem q41{P:Program}(w:World){ops:Array Oper}{o:Oper}{a:Act}{K:Act->World->Prop}{Q:Exit->Act->World->Prop}{E:Prop}(hgd:o.guard=none)(s x:Operand)(t:TypeId)
 (ho:o.op= .call {callee:= .builtin .append,args:=#[s,x],argTypes:=#[t,t]})
 (e:TypeId) (i:TypeInfo) (z:Value) (ht:P.underlying t=some (.slice e)) (hi:P.info? e=some i) (hz:i.zero=some z) (hsize:i.size=3) (hby:i.bytes=40) (hzs:z.cells.size=3)
 {W wr w1:World} {v:Value} {ks:List Tr} {tr:Tr} {v0 v1 v2:Value} {gx:Nat} (hs:a.eval s=v) (hG:Grow W wr e v ks) (hW:W.heap.size<=wr.heap.size) (hs1:wr.heap.size<=w1.heap.size) (ar: ∀b,W.heap.size<=b->b < wr.heap.size->w1.heap[b]? =wr.heap[b]?) (hM:Made wr w1 e tr (.agg #[v0,v1,v2])) (F8:Ext w1 w)
 (hx:a.eval x= .slice (some ⟨gx,0,none⟩) 1 1) (hgx:w.heap[gx]? =some (.cells #[v0,v1,v2] e (0,0))) (hn:ks.length < 1099511627776)
 (h: ∀v' w',Grow W w' e v' (ks++ [tr])->Below W.heap.size w1 w'->(∀b,wr.heap.size<=b->b < w1.heap.size->w'.heap[b]? =w1.heap[b]?)->K (a.put o.dst v') w'):
 if Region.wanted o (yielded ops a.tmps)=true then Oper.wp P o a w K Q else E:=by
 have hw:Region.wanted o (yielded ops a.tmps)=true:=by simp[Region.wanted,hgd]
 rw[if_pos hw];exact y94 w s x t ho e i z ht hi hz hsize hby hzs hs hG hW hs1 ar hM F8 hx hgx hn h
mutual
theorem InT.bound{w:World}{S:Nat->Prop}: ∀{t:Tr} {v:Value},InT w S t v->InT w (fun b=> S b/\b < w.heap.size) t v
 | .mk k n ks,v,h=> by
  obtain⟨A,cap,rfl,h1,h2,h3⟩:=InT.mk_iff.1 h;refine InT.mk_iff.2 ⟨A,cap,rfl,h1,h2, ?_⟩;cases ks with
  |nil=> exact .inl rfl
  |cons t ts=>
   rcases h3 with h3|⟨b,o,rfl,hb,hl⟩
   · cases h3
   · refine .inr ⟨b,o,rfl,⟨hb, ?_⟩,InL.bound hl⟩
     unfold InL at hl;obtain⟨⟨v0,v1,v2,h0,-⟩,-⟩:=hl;exact World.block_lt_of_cell? _ _ h0
theorem InL.bound{w:World}{S:Nat->Prop}{b:Nat}: ∀{o:Nat} {ks:List Tr},InL w S b o ks->InL w (fun b=> S b/\b < w.heap.size) b o ks
 |_, [],_=> by unfold InL;trivial
 |o,t::ts,h=> by
  unfold InL at h⊢;obtain⟨⟨v0,v1,v2,h0,h1,h2,ht⟩,qo⟩:=h;exact⟨⟨v0,v1,v2,h0,h1,h2,InT.bound ht⟩,InL.bound qo⟩
end
theorem InT.later{w w':World}{S:Nat->Prop}{t:Tr}{v:Value}(h:InT w S t v)(he:Ext w w'):InT w' S t v:=
 InT.mono (fun _ hb=> hb.1) (fun b hb=> he.heap b hb.2) h.bound
end Go.Proofs.YtbnkbepgmenblaaGreatDoor
