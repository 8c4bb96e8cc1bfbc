/-
  Lemmas towards the law, 6: OrdX, WalkValid, Grow2, Node, Bound, Scan, Nums, Row.
-/
import Derived.Test.YtbnkbepgmenblaaGreatTAE
import Derived.Deep.RegionHeld3
import Derived.Deep.RegionWith
set_option linter.unusedVariables false
set_option maxHeartbeats 1600000
set_option maxRecDepth 100000
namespace Go.Proofs.YtbnkbepgmenblaaGreat.OrdX
open Go Go.Proofs.YtbnkbepgmenblaaGreat.Ord Go.Proofs.YtbnkbepgmenblaaGreat.OrdG
def okX(ops:Array Oper)(l:Array Bool)(m N x:Nat):Bool:=
 ((List.range m).all fun i=> isOn l i||match dstOf ops i with
  |some d=> decide (d < N)&&(List.range i).all fun j=> isOn l j||dstOf ops j !=some d
  |none=> false)&&
 (List.range (ops.size - m)).all (fun i=> isOn l (m+i) ||(List.range m).all fun j=> j==x||isOn l j||y100 ops ops.size (m+i) j)&&
 (List.range ops.size).all (fun i=>(q46 ops i).all fun k=> decide (k < i)&&(!isOn l i||isOn l k))&& decide (m<=ops.size)&& decide (l.size=ops.size)
def okD(ops:Array Oper)(l:Array Bool)(m N:Nat):Bool:=
 (List.range m).all fun i=> isOn l i||match dstOf ops i with
  |some d=> decide (d < N)&&(List.range i).all fun j=> isOn l j||dstOf ops j !=some d
  |none=> false
section
variable {Γ : Type} {P : Program} {ops : Array Oper} {Q : Exit → Act → World → Prop} {l0 : Array Bool} {m : Nat} {E : World × Γ → World × Γ → Prop} {G : Nat → Value → World × Γ → Prop} {a0 : Act} {w0 : World × Γ}
theorem q107{N:Nat}(h:okD ops l0 m N=true){i:Nat}(hi:i < m)(hl:isOn l0 i=false): ∃d,dstOf ops i=some d/\d < N/\ ∀j,j < i->isOn l0 j=false->dstOf ops j≠some d:=by
 unfold okD at h;simp only[List.all_eq_true,List.mem_range] at h;have:=h i hi;rw[hl,Bool.false_or] at this
 split at this
 · rename_i d hd
   simp only[Bool.and_eq_true,decide_eq_true_eq,List.all_eq_true,List.mem_range,bne_iff_ne,Bool.or_eq_true] at this;refine⟨d,hd,this.1,fun j hj M0=>(this.2 j hj).resolve_left (by rw[M0];decide)⟩
 · cases this
theorem y189{N:Nat}(h:okD ops l0 m N=true){i j:Nat}(hi:i < m)(hj:j < m)(li:isOn l0 i=false)(lj:isOn l0 j=false)(hne:i≠j){d:Tmp}(hd:dstOf ops i=some d):dstOf ops j≠some d:=by
 rcases Nat.lt_or_gt_of_ne hne with hlt|hlt
 · intro e
   obtain⟨d',h1,-,h2⟩:=q107 h hj lj;rw[e] at h1;simp only[Option.some.injEq] at h1;subst h1;exact h2 i hlt li hd
 · obtain⟨d',h1,-,h2⟩:=q107 h hi li
   rw[hd] at h1;simp only[Option.some.injEq] at h1;subst h1;exact h2 j hlt lj
theorem q56{N:Nat}(h:okD ops l0 m N=true){v:Nat->Value}{s:Nat->Bool}(a:Act)(Q8: ∀j,s j=true->isOn l0 j=false){i:Nat}(hs:s i=false)(P3:isOn l0 i=false)(u:Value): ∀{n:Nat},i < n->n<=m->
 putN ops (fun j=> if j=i then u else v j) (fun j=> if j=i then true else s j) a n=(putN ops v s a n).put (dstOf ops i) u
 |0,hi,_=> by omega
 |n+1,hi,hn=> by
  by_cases e:n=i
  · subst e
    have e1:(if n=n then true else s n)=true:=if_pos rfl;have e2: ¬s n=true:=by rw[hs];decide
    have e3:(if n=n then u else v n)=u:=if_pos rfl;unfold putN;rw[if_pos e1,if_neg e2,e3];rw[y29 a (v:=fun j=> if j=n then u else v j) (s:=fun j=> if j=n then true else s j) (v':=v) (s':=s) (fun j hj=>⟨by rw[if_neg (by omega)],fun _=> by rw[if_neg (by omega)]⟩)]
  · have ih:=q56 h (v:=v) a Q8 hs P3 u (n:=n) (by omega) (by omega)
    unfold putN;rw[if_neg e,if_neg e,ih]
    split
    · rename_i ni
      rw[Act.put_comm];intro d hd;exact y189 h (by omega) (by omega) P3 (Q8 n ni) (Ne.symm e) hd
    · rfl
theorem j56{N:Nat}(h:okD ops l0 m N=true)(v:Nat->Value)(s:Nat->Bool)(Q8: ∀j,s j=true->isOn l0 j=false)(a:Act)(hN:a.tmps.size=N){k:Nat}{d:Tmp}(hd:dstOf ops k=some d)(hk:s k=true): ∀{n:Nat},k < n->n<=m->(putN ops v s a n).eval (.tmp d)=v k
 |0,hi,_=> by omega
 |n+1,hi,hn=> by
  by_cases e:n=k
  · subst e
    unfold putN;rw[if_pos hk,hd,y84,if_pos rfl,if_pos];rw[q89,hN];obtain⟨d',h1,h2,-⟩:=q107 h (i:=n) (by omega) (Q8 _ hk);rw[hd] at h1;simp only[Option.some.injEq] at h1;subst h1;exact h2
  · have ih:=j56 h v s Q8 a hN hd hk (n:=n) (by omega) (by omega)
    unfold putN
    split
    · rename_i ni
      cases R3:dstOf ops n with
      |none=> exact ih
      |some d'=>
       rw[y84,if_neg,ih];intro e';subst e';exact y189 h (by omega) (by omega) (Q8 _ hk) (Q8 _ ni) (Ne.symm e) hd R3
    · exact ih
theorem wpAnyH_orderX{S:World->Prop}{N fuel fT x:Nat}{lT lX:Array Bool}{ox:Oper}(sy:okX ops l0 m N x=true)(hN:a0.tmps.size=N)(hf:fuel=opnO l0 ops.size)(Ci:doneO l0 m=lT)(Cp:opnO lT ops.size=fT)
 (eh:ops[x]? =some ox) (wj:x < m) (J3:isOn l0 x=false) (hlX:lT.setIfInBounds x false=lX) (Cg:Region.noSelect ops=true) (hfr:Region.free .any ops lX x=true) (N5:(Region.ready .any ops lX).contains x=true)
 (hQ: ∀v c a w,Q (.panic c) (a.put ox.dst v) w->Q (.panic c) a w)
 (hX: ∀a w z,E w0 (w,z)->(∀t,isDst ops l0 m t=false->a.eval (.tmp t)=a0.eval (.tmp t))->(∀j d,depO ops l0 x j d=true->G j (a.eval (.tmp d)) (w,z))-> ∃u,YieldsIf P ops S ox u a/\G x u (w,z))
 (Ce:E w0 w0) (hE: ∀u v w,E u v->E v w->E u w) (hG: ∀i v w w',G i v w->E w w'->G i v w') (hS: ∀w z,E w0 (w,z)->S w)
 (steps:StepsO P ops Q l0 m E G a0 w0 0 (ops.toList.take m))
 (fin: ∀(v:Nat->Value) w z,E w0 (w,z)->(∀j,j < m->isOn l0 j=false->G j (v j) (w,z))->wpAnyH P .any ops Q S fT lT (putN ops v (fun j=> !isOn l0 j) a0 m) w):
 wpAnyH P .any ops Q S fuel l0 a0 w0.1:=by
 subst hlX;subst Ci;subst Cp;have cw:=sy;unfold okX at cw;simp only[Bool.and_eq_true,decide_eq_true_eq,List.all_eq_true,List.mem_range,Bool.or_eq_true,Bool.not_eq_true'] at cw;obtain⟨⟨⟨⟨-,Bb⟩,hlowb⟩,hm⟩,hlsz⟩:=cw;have S6:okD ops l0 m N=true:=by
  unfold okX at sy;simp only[Bool.and_eq_true] at sy;exact sy.1.1.1.1
 have Y0: ∀i,i < ops.size-> ∀k∈q46 ops i,k < i:=fun i hi k hk=>(hlowb i hi k hk).1
 have xy: ∀i,isOn l0 i=true-> ∀k∈q46 ops i,isOn l0 k=true:=fun i hl k hk=> by
  by_cases hi:i < ops.size
  · exact(hlowb i hi k hk).2.resolve_left (by rw[hl];decide)
  · unfold q46 at hk
    rw[show ops[i]? =none from Array.getElem?_eq_none (by omega)] at hk;simp at hk
 have Ow: ∀i,m<=i->i < ops.size->isOn l0 i=false-> ∀j,j < m->j≠x->isOn l0 j=false->y100 ops ops.size i j=true:=fun i h1 h2 hi j hj Bw hl=> by
  have:=Bb (i - m) (by omega);rw[show m+(i - m)=i by omega] at this;have:=this.resolve_left (by rw[hi];decide) j hj;exact this.resolve_left (fun h=> h.elim (fun h=> Bw (by simpa using h)) (fun h=> by rw[hl] at h;cases h))
 have Q8: ∀listed:Array Bool,∀j,(isOn listed j && !isOn l0 j)=true->isOn l0 j=false:=fun listed j h=> by
  simp only[Bool.and_eq_true,Bool.not_eq_true'] at h;exact h.2
 have main: ∀(fuel:Nat) (listed:Array Bool) (a:Act) (w:World) (z:Γ) (v:Nat->Value),listed.size=ops.size->(∀i,m<=i->isOn listed i=isOn l0 i)->(∀i,isOn l0 i=true->isOn listed i=true)->
  (∀i,isOn listed i=true-> ∀k∈q46 ops i,isOn listed k=true)->a=putN ops v (fun j=> isOn listed j && !isOn l0 j) a0 m->(∀j,j < m->isOn listed j=true->isOn l0 j=false->G j (v j) (w,z))->E w0 (w,z)->
  fuel=opnO listed ops.size->wpAnyH P .any ops Q S fuel listed a w:=by
  intro fuel;have done: ∀(fuel:Nat) (listed:Array Bool) (a:Act) (w:World) (z:Γ) (v:Nat->Value),listed.size=ops.size->(∀i,m<=i->isOn listed i=isOn l0 i)->a=putN ops v (fun j=> isOn listed j && !isOn l0 j) a0 m->(∀j,j < m->isOn listed j=true->isOn l0 j=false->G j (v j) (w,z))->E w0 (w,z)->
   fuel=opnO listed ops.size->(∀j,j < m->isOn listed j=true)->wpAnyH P .any ops Q S fuel listed a w:=by
   intro fuel listed a w z v hsz h1 ha hg he hf hall;have hl:listed=doneO l0 m:=by
    apply Array.ext
    · simp[doneO,hsz,hlsz]
    · intro i ft S7
      have e1:isOn listed i=listed[i]:=by simp[isOn,Array.getD_eq_getD_getElem?,ft]
      have e2:(doneO l0 m)[i]=(decide (i < m) ||isOn l0 i):=by simp[doneO]
      rw[<-e1,e2];by_cases hi:i < m
      · rw[hall i hi];simp[hi]
      · rw[h1 i (by omega)];simp[hi]
   subst hl;subst ha;subst hf;rw[y29 (v':=v) (s':=fun j=> !isOn l0 j) a0 (fun j hj=>⟨by rw[hall j hj,Bool.true_and],fun _=> rfl⟩)];exact fin v w z he (fun j hj hl=> hg j hj (hall j hj) hl)
  induction fuel with
  |zero=>
   intro listed a w z v hsz h1 rh h2 ha hg he hf;refine done 0 listed a w z v hsz h1 ha hg he hf fun j hj=> ?_
   have: ∀n,opnO listed n=0-> ∀j,j < n->isOn listed j=true:=by
    intro n
    induction n with
    |zero=> intro _ j hj;omega
    |succ n ih=>
     intro h j hj;unfold opnO at h;by_cases e:j=n
     · subst e
       split at h
       · assumption
       · omega
     · exact ih (by omega) j (by omega)
   exact this ops.size hf.symm j (by omega)
  |succ fuel ih=>
   intro listed a w z v hsz h1 rh h2 ha hg he hf;by_cases hall: ∀j,j < m->isOn listed j=true
   · exact done _ listed a w z v hsz h1 ha hg he hf hall
   by_cases hallx: ∀j,j < m->j≠x->isOn listed j=true
   · have V':isOn listed x=false:=by
      cases hp:isOn listed x with
      |false=> rfl
      |true=> exact absurd (fun j hj=> if e:j=x then e▸hp else hallx j hj e) hall
     have hl:listed=(doneO l0 m).setIfInBounds x false:=by
      apply Array.ext
      · simp[doneO,hsz,hlsz]
      · intro i ft S7
        have e1:isOn listed i=listed[i]:=by simp[isOn,Array.getD_eq_getD_getElem?,ft]
        have Ed:i <(doneO l0 m).size:=by simpa using S7
        have e2:(doneO l0 m)[i]=(decide (i < m) ||isOn l0 i):=by simp[doneO]
        rw[<-e1];by_cases e:i=x
        · subst e
          rw[V'];simp
        · rw[Array.getElem_setIfInBounds_ne Ed (Ne.symm e),e2]
          by_cases hi:i < m
          · rw[hallx i hi e];simp[hi]
          · rw[h1 i (by omega)];simp[hi]
     have I7:listed.setIfInBounds x true=doneO l0 m:=by
      rw[hl]
      apply Array.ext
      · simp
      · intro i ft S7
        have e2:(doneO l0 m)[i]=(decide (i < m) ||isOn l0 i):=by simp[doneO]
        by_cases e:i=x
        · subst e
          rw[e2];simp[wj]
        · rw[Array.getElem_setIfInBounds_ne (by simpa using ft) (Ne.symm e),Array.getElem_setIfInBounds_ne S7 (Ne.symm e)]
     have hd:(dstOf ops x)=ox.dst:=by unfold dstOf;rw[eh];rfl
     have hsx:(isOn listed x && !isOn l0 x)=false:=by rw[V'];rfl
     obtain⟨u,hy,hgx⟩:=hX a w z he (by
      intro t ht;rw[ha,j64];intro j hj hs e;unfold isDst at ht;rw[List.any_eq_false] at ht;refine ht j (List.mem_range.2 hj) ?_;rw[Q8 listed j hs,e];simp) (by
      intro j d V8;unfold depO at V8;simp only[Bool.and_eq_true,beq_iff_eq,List.contains_iff_mem,Bool.not_eq_true'] at V8;have hji:=Y0 x (by omega) j V8.1.1;have M0:=hallx j (by omega) (by omega);rw[ha,j56 S6 v _ (Q8 listed) a0 hN V8.1.2 (by rw[M0,V8.2];rfl) (by omega) (Nat.le_refl _)];exact hg j (by omega) M0 V8.2)
     have hfu:fuel=opnO (doneO l0 m) ops.size:=by
      have:=q105 (l:=listed) (l':=listed.setIfInBounds x true) (i:=x) V' (by
       unfold isOn;simp[Array.getD_eq_getD_getElem?,show x < listed.size by omega]) (fun j hj=> by
       unfold isOn;simp[Array.getD_eq_getD_getElem?,Array.getElem?_setIfInBounds_ne (Ne.symm hj)]) (n:=ops.size)
      rw[if_pos (by omega),I7] at this;omega
     refine wpAnyH_take (v:=u) eh Cg (hl▸hfr) (hl▸N5) (hQ u) hy (hS _ _ he) ?_;rw[I7,hfu,ha,<-hd,<-q56 S6 (s:=fun j=> isOn listed j && !isOn l0 j) a0 (Q8 listed) hsx J3 u wj (Nat.le_refl _)];rw[y29 (v':=fun j=> if j=x then u else v j) (s':=fun j=> !isOn l0 j) a0 (fun j hj=>⟨by
      by_cases e:j=x
      · simp only[if_pos e];rw[e,J3];rfl
      · simp only[if_neg e];rw[hallx j hj e,Bool.true_and],fun _=> rfl⟩)]
     refine fin _ w z he fun j hj M0=> ?_
     by_cases e:j=x
     · simp only[if_pos e];rw[e];exact hgx
     · simp only[if_neg e];exact hg j hj (hallx j hj e) M0
   · obtain⟨j1,hj11,Xx,Xz⟩:=j203 (p:=isOn listed) (n:=m) (by
      apply Classical.byContradiction
      intro h;exact hall fun j hj=> by
       cases hp:isOn listed j with
       |true=> rfl
       |false=> exact absurd ⟨j,hj,hp⟩ h)
     obtain⟨j0,jc,Bw,mi⟩: ∃j,j < m/\j≠x/\isOn listed j=false:=by
      apply Classical.byContradiction
      intro h;exact hallx fun j hj Bw=> by
       cases hp:isOn listed j with
       |true=> rfl
       |false=> exact absurd ⟨j,hj,Bw,hp⟩ h
     have gt: ∀i,i < ops.size->listed.getD i true=isOn listed i:=fun i hi=> by
      simp[isOn,Array.getD_eq_getD_getElem?,show i < listed.size by omega]
     refine⟨fun h0=> ?_,fun i hi=> ?_⟩
     · have hr:j1∈Region.ready .any ops listed:=j118 (by omega) (by rw[gt _ (by omega)];exact Xx) (fun k hk=> Xz k (Y0 j1 (by omega) k hk))
       rw[h0] at hr;cases hr
     · obtain⟨r1,⟨o,ho⟩,r3⟩:=j76 hi
       have j7:i < ops.size:=(Array.getElem?_eq_some_iff.1 ho).1;have P3:isOn listed i=false:=by rw[<-gt i j7];exact r1
       have qx:isOn l0 i=false:=by
        cases hp:isOn l0 i with
        |false=> rfl
        |true=> rw[rh i hp] at P3;cases P3
       have yr:isOn l0 j0=false:=by
        cases hp:isOn l0 j0 with
        |false=> rfl
        |true=> rw[rh j0 hp] at mi;cases mi
       have Es:i < m:=by
        apply Classical.byContradiction
        intro Cr;have:=y47 (l:=isOn listed) h2 ops.size i j0 r3 (Ow i (by omega) j7 qx j0 jc Bw yr);rw[mi] at this;cases this
       have hst:=StepsO.get (j:=i) steps (by rw[List.getElem?_take,if_pos Es];simpa using ho);rw[Nat.zero_add] at hst;have hst:=hst.resolve_left (by rw[qx];decide);have hd:(dstOf ops i)=o.dst:=by unfold dstOf;rw[ho];rfl
       have Pj:(isOn listed i && !isOn l0 i)=false:=by rw[P3];rfl
       refine wpOp_mono ?_ (hst a w z he ?_ ?_)
       · rintro a' w' ⟨u,z',rfl,qm,Bg⟩
         have I7: ∀j,isOn (listed.setIfInBounds i true) j=if j=i then true else isOn listed j:=fun j=> by
          unfold isOn;by_cases e:j=i
          · subst e
            rw[if_pos rfl];simp[Array.getD_eq_getD_getElem?,show j < listed.size by omega]
          · rw[if_neg e]
            simp[Array.getD_eq_getD_getElem?,Array.getElem?_setIfInBounds_ne (Ne.symm e)]
         refine⟨hS _ _ (hE _ _ _ he qm),ih (listed.setIfInBounds i true) _ w' z' (fun j=> if j=i then u else v j) (by simpa using hsz) ?_ ?_ ?_ ?_ ?_ (hE _ _ _ he qm) ?_⟩
         · intro j hj
           rw[I7,if_neg (by omega)];exact h1 j hj
         · intro j hj
           rw[I7]
           split
           · rfl
           · exact rh j hj
         · intro j hj k hk
           rw[I7] at hj⊢;by_cases e:k=i
           · rw[if_pos e]
           · rw[if_neg e]
             by_cases e2:j=i
             · subst e2;exact r3 k hk
             · rw[if_neg e2] at hj
               exact h2 j hj k hk
         · rw[ha,<-hd,<-q56 S6 (s:=fun j=> isOn listed j && !isOn l0 j) a0 (Q8 listed) Pj qx u Es (Nat.le_refl _)]
           refine y29 a0 (fun j hj=>⟨?_,fun _=> rfl⟩);simp only[I7];by_cases e:j=i
           · rw[if_pos e,if_pos e,e,qx];rfl
           · rw[if_neg e,if_neg e]
         · intro j hj hl M0
           by_cases e:j=i
           · simp only[if_pos e];rw[e];exact Bg
           · simp only[if_neg e]
             rw[I7,if_neg e] at hl;exact hG _ _ _ _ (hg j hj hl M0) qm
         · have:=q105 (l:=listed) (l':=listed.setIfInBounds i true) (i:=i) P3 (by rw[I7,if_pos rfl]) (fun j hj=> by rw[I7,if_neg hj]) (n:=ops.size)
           rw[if_pos j7] at this;omega
       · intro t ht
         rw[ha,j64];intro j hj hs e;unfold isDst at ht;rw[List.any_eq_false] at ht;refine ht j (List.mem_range.2 hj) ?_;rw[Q8 listed j hs,e];simp
       · intro j d V8
         unfold depO at V8;simp only[Bool.and_eq_true,beq_iff_eq,List.contains_iff_mem,Bool.not_eq_true'] at V8;have M0:=r3 j V8.1.1;have hji:=Y0 i j7 j V8.1.1;rw[ha,j56 S6 v _ (Q8 listed) a0 hN V8.1.2 (by rw[M0,V8.2];rfl) (by omega) (Nat.le_refl _)];exact hg j (by omega) M0 V8.2
 refine main fuel l0 a0 w0.1 w0.2 (fun _=> undef) hlsz (fun _ _=> rfl) (fun _ h=> h) xy ?_ ?_ Ce hf
 · have: ∀n,putN ops (fun _=> undef) (fun j=> isOn l0 j && !isOn l0 j) a0 n=a0:=fun n=> by
    induction n with
    |zero=> rfl
    |succ n ih=>
     unfold putN;rw[if_neg,ih];simp
   exact(this m).symm
 · intro j hj hl hl2
   rw[hl] at hl2;cases hl2
end
end Go.Proofs.YtbnkbepgmenblaaGreat.OrdX
namespace Go.Proofs.YtbnkbepgmenblaaGreat
open Go.RowKit
theorem q23(n lo hi:Int)(w:World):Calls Tryz.prog 62 #[.int .i64 n,.int .i64 lo,.int .i64 hi] w fun e w'=> e= .returned (.bool (inR n lo hi))/\w=w':=by
 by_cases h1:lo<=n
 · by_cases h2:n<=hi
   · have e:inR n lo hi=true:=y39.2 ⟨h1,h2⟩
     have E:=hdq e;have d1:decide (lo<=n)=true:=by simpa using h1
     have d2:decide (n<=hi)=true:=by simpa using h2
     clear e;go_enter Tryz.func62,Tryz.ntmps62;go_wp2_with fail;go_ret;exact⟨by rw[E.out];rfl,rfl⟩
   · have e:inR n lo hi=false:=j60.2 (.inr (by omega))
     have E:=hdq e;have d1:decide (lo<=n)=true:=by simpa using h1
     have d2:decide (n<=hi)=false:=by simpa using h2
     clear e;go_enter Tryz.func62,Tryz.ntmps62;go_wp2_with fail;go_ret;exact⟨by rw[E.out];rfl,rfl⟩
 · have e:inR n lo hi=false:=j60.2 (.inl (by omega))
   have E:=hdq e;have d1:decide (lo<=n)=false:=by simpa using h1
   clear e;go_enter Tryz.func62,Tryz.ntmps62;go_wp2_with fail;go_ret;exact⟨by rw[E.out];rfl,rfl⟩
theorem j79(k:Int)(w:World):Calls Tryz.prog 131 #[.int .i64 k] w fun e w'=> e= .returned (.int .i64 (opsT k))/\Ext w w':=by
 by_cases h1:inR k 1 16=true
 · have H1:=hdq h1
   have h2:=y39.1 h1;clear h1;have hcs: ∀j:Nat,j < 16->k=(j:Int)+1->Calls Tryz.prog 131 #[.int .i64 k] w fun e w'=> e= .returned (.int .i64 (opsT k))/\Ext w w':=by
    intro j hj hk;subst hk;have HX:=H1;go_enter Tryz.func131,Tryz.ntmps131;go_wp2_with (go_at_call 62;refine(q23 _ _ _ _).mono ?_;rw[HX.out];rintro e w1 ⟨rfl,rfl⟩)
    go_ret;refine⟨?_,(xr _).alloc _⟩;rcases(by omega:j=0\/j=1\/j=2\/j=3\/j=4\/j=5\/j=6\/j=7\/j=8\/j=9\/j=10\/j=11\/j=12\/j=13\/j=14\/j=15) with rfl|rfl|rfl|rfl|rfl|rfl|rfl|rfl|rfl|rfl|rfl|rfl|rfl|rfl|rfl|rfl <;> rfl
   exact hcs (k - 1).toNat (by omega) (by omega)
 · have h2:inR k 1 16=false:=by simpa using h1
   have H2:=hdq h2;have h3:=j60.1 h2;have e:opsT k= -1:=by
    unfold opsT
    repeat rw[if_neg (by omega)]
   have E:=hdq e;clear h1 h2 e;go_enter Tryz.func131,Tryz.ntmps131;go_wp2_with (go_at_call 62;refine(q23 _ _ _ _).mono ?_;rw[H2.out];rintro e w1 ⟨rfl,rfl⟩)
   go_ret;exact⟨by rw[E.out];rfl,xr _⟩
theorem q60(k:Int)(w:World):Calls Tryz.prog 132 #[.int .i64 k] w fun e w'=> e= .returned (.int .i64 (q33 k))/\w=w':=by
 by_cases h1:k=1
 · have e:q33 k=20:=by simp[q33,h1]
   have E:=hdq e;have d1:(k==1)=true:=by simpa using h1
   clear e h1;go_enter Tryz.func132,Tryz.ntmps132;go_wp2_with fail;go_ret;exact⟨by rw[E.out];rfl,rfl⟩
 · have d1:(k==1)=false:=by simpa using h1
   by_cases h2:k=2
   · have e:q33 k=3:=by simp[q33,h2]
     have E:=hdq e;have d2:(k==2)=true:=by simpa using h2
     clear e h1 h2;go_enter Tryz.func132,Tryz.ntmps132;go_wp2_with fail;go_ret;exact⟨by rw[E.out];rfl,rfl⟩
   · have e:q33 k=0:=by simp[q33,h1,h2]
     have E:=hdq e;have d2:(k==2)=false:=by simpa using h2
     clear e h1 h2;go_enter Tryz.func132,Tryz.ntmps132;go_wp2_with fail;go_ret;exact⟨by rw[E.out];rfl,rfl⟩
theorem Grow.only{W w w':World}{e:TypeId}{v:Value}{ks:List Tr}{L:List Nat}(h:Grow W w e v ks)(ho:Only L w w')(hL: ∀b,b∈L->b < W.heap.size):Grow W w' e v ks:=
 h.same ho.size (fun b hb hlt=> ho.block b hlt (fun hm=> by have:=hL b hm;omega))
theorem Only.below{L:List Nat}{a w w':World}{B:Nat}(h:Only L a w)(hb:Below B w w')(hB:a.heap.size<=B):Only L a w':=
 ⟨hb.os.trans h.os,hb.tape.trans h.tape,hb.output.trans h.output,Nat.le_trans h.size hb.size,fun i hi hn=>(hb.block i (by omega)).trans (h.block i hi hn)⟩
theorem Grow.step2{W wr w1 w w':World}{e:TypeId}{v v':Value}{ks:List Tr}{t:Tr}{v0 v1 v2:Value}{xs:List Value}{L:List Nat}
 (hL:OwnL wr e xs ks L) (hF:y44 W wr L) (hv: ∀g,v.ownBlock=some g-> ¬g∈L/\g < wr.heap.size/\W.heap.size<=g) (hx:xs.length=ks.length*3) (hW:W.heap.size<=wr.heap.size) (hs1:wr.heap.size<=w1.heap.size) (Q7: ∀b,W.heap.size<=b->b < wr.heap.size->w1.heap[b]? =wr.heap[b]?) (hM:Made wr w1 e t (.agg #[v0,v1,v2])) (M5:Ext w1 w)
 (h2:w'.ownsRow W.heap.size e 3 v' (ks.length+1) (xs++ [v0,v1,v2])) (h3:w.grownBy w' v.ownBlock) (h4: ∀g,v'.ownBlock=some g->v.ownBlock=some g\/w.heap.size<=g):Grow W w' e v' (ks++ [t])/\Below W.heap.size w1 w'/\(∀b,wr.heap.size<=b->b < w1.heap.size->w'.heap[b]? =w1.heap[b]?):=by
 obtain⟨M,hM,yj⟩:=hM;have s1:=hs1;have s2:=M5.size;have keep: ∀b,b < w1.heap.size->(v.ownBlock≠some b)->w'.heap[b]? =w1.heap[b]? :=fun b hb hne=>(h3.block b (by omega) (fun h=> hne h.symm)).trans (M5.heap b hb)
 refine⟨⟨_,L++M,by simpa using h2,OwnL.snoc (hM.mono fun b hb=> keep b (yj.2 b hb).2 fun he=> ?_) [] hx (hL.mono fun b hb=>(keep b (by have:=(hF.2 b hb).2;omega) fun he=> ?_).trans (Q7 b (hF.2 b hb).1 (hF.2 b hb).2)), ?_,fun g hg hm=> ?_⟩, ?_⟩
 · have:=(hv b he).2.1
   have:=(yj.2 b hb).1;omega
 · exact(hv b he).1 hb
 · have h5:=hF.append (d:=w1) yj (Nat.le_refl _) hW hs1
   exact h5.mono (Nat.le_refl _) (by have:=h3.size;omega)
 · rcases h4 g hg with h|h
   · rcases List.mem_append.1 hm with hm|hm
     · exact(hv g h).1 hm
     · have:=(hv g h).2.1
       have:=(yj.2 g hm).1;omega
   · rcases List.mem_append.1 hm with hm|hm
     · have:=(hF.2 g hm).2
       omega
     · have:=(yj.2 g hm).2
       omega
 · refine⟨⟨h3.os.trans M5.os,h3.tape.trans M5.tape,h3.output.trans M5.output,by have:=h3.size;omega,fun b hb=> ?_⟩,fun b h0 h1=> keep b h1 (fun he=> by have:=(hv b he).2.1;omega)⟩
   exact keep b (by omega) (fun he=> by have:=(hv b he).2.2;omega)
theorem q108{P:Program}(w:World){o:Oper}{a:Act}{K:Act->World->Prop}{Q:Exit->Act->World->Prop}(s x:Operand)(t:TypeId)
 (ho:o.op= .call {callee:= .builtin .append,args:=#[s,x],argTypes:=#[t,t]})
 (e:TypeId) (i:TypeInfo) (z:Value) (ht:P.underlying t=some (.slice e)) (hi:P.info? e=some i) (hz:i.zero=some z) (hsize:i.size=3) (hby:i.bytes=40) (hzs:z.cells.size=3)
 {W wr w1:World} {v:Value} {ks:List Tr} {tr:Tr} {v0 v1 v2:Value} {gx:Nat} (hs:a.eval s=v) (hG:Grow W wr e v ks) (hW:W.heap.size<=wr.heap.size) (hs1:wr.heap.size<=w1.heap.size) (Q7: ∀b,W.heap.size<=b->b < wr.heap.size->w1.heap[b]? =wr.heap[b]?) (hM:Made wr w1 e tr (.agg #[v0,v1,v2])) (M5:Ext w1 w)
 (hx:a.eval x= .slice (some ⟨gx,0,none⟩) 1 1) (hgx:w.heap[gx]? =some (.cells #[v0,v1,v2] e (0,0))) (hn:ks.length < 1099511627776)
 (h: ∀v' w',Grow W w' e v' (ks++ [tr])->Below W.heap.size w1 w'->(∀b,wr.heap.size<=b->b < w1.heap.size->w'.heap[b]? =w1.heap[b]?)->K (a.put o.dst v') w'):o.wp P a w K Q:=by
 obtain⟨xs,L,h1,h2,h3,h4⟩:=hG;have s1:=hs1;have s2:=M5.size;have hown:w.ownsRow W.heap.size e 3 v ks.length xs:=j27 h1 (fun g hg=>(M5.heap g (by have:=(h1.lt g hg).2;omega)).trans (Q7 g (h1.lt g hg).1 (h1.lt g hg).2));obtain⟨v',w',hr,r1,r2,r3⟩:=y18 (P:=P) w W.heap.size t o.type e i z 3 40 ht hi hz hsize hby hzs (by decide) v ks.length xs hown ⟨gx,0,none⟩ 1 1 [v0,v1,v2] rfl (q51 hgx) (y93 hM) (by unfold maxLen;omega) (by omega) (by omega);obtain⟨g1,g2,g3⟩:=Grow.step2 h2 h3 (fun g hg=>⟨h4 g hg,(h1.lt g hg).2,(h1.lt g hg).1⟩) h1.1 hW hs1 Q7 hM M5 r1 r2 r3;unfold Oper.wp execOp;simp only[ho,resolve,invoke,builtin,Sem.run_bind,Sem.run_pure,Result.andThen_ok,List.map_toArray,List.map_cons,List.map_nil,hs,hx,hr];exact h v' w' g1 g2 g3
theorem q53{P:Program}(w:World){ops:Array Oper}{o:Oper}{a:Act}{K:Act->World->Prop}{Q:Exit->Act->World->Prop}{E:Prop}(hgd:o.guard=none)(s x:Operand)(t:TypeId)
 (ho:o.op= .call {callee:= .builtin .append,args:=#[s,x],argTypes:=#[t,t]})
 (e:TypeId) (i:TypeInfo) (z:Value) (ht:P.underlying t=some (.slice e)) (hi:P.info? e=some i) (hz:i.zero=some z) (hsize:i.size=3) (hby:i.bytes=40) (hzs:z.cells.size=3)
 {W wr w1:World} {v:Value} {ks:List Tr} {tr:Tr} {v0 v1 v2:Value} {gx:Nat} (hs:a.eval s=v) (hG:Grow W wr e v ks) (hW:W.heap.size<=wr.heap.size) (hs1:wr.heap.size<=w1.heap.size) (Q7: ∀b,W.heap.size<=b->b < wr.heap.size->w1.heap[b]? =wr.heap[b]?) (hM:Made wr w1 e tr (.agg #[v0,v1,v2])) (M5:Ext w1 w)
 (hx:a.eval x= .slice (some ⟨gx,0,none⟩) 1 1) (hgx:w.heap[gx]? =some (.cells #[v0,v1,v2] e (0,0))) (hn:ks.length < 1099511627776)
 (h: ∀v' w',Grow W w' e v' (ks++ [tr])->Below W.heap.size w1 w'->(∀b,wr.heap.size<=b->b < w1.heap.size->w'.heap[b]? =w1.heap[b]?)->K (a.put o.dst v') w'):
 if Region.wanted o (yielded ops a.tmps)=true then Oper.wp P o a w K Q else E:=by
 have hw:Region.wanted o (yielded ops a.tmps)=true:=by simp[Region.wanted,hgd]
 rw[if_pos hw];exact q108 w s x t ho e i z ht hi hz hsize hby hzs hs hG hW hs1 Q7 hM M5 hx hgx hn h
def Plus(S:Nat->Prop)(w w':World)(b:Nat):Prop:=S b\/w.heap.size<=b/\b < w'.heap.size
def New(w w':World)(t:Tr)(v:Value):Prop:=InT w' (fun b=> w.heap.size<=b/\b < w'.heap.size) t v
theorem New.since{a w w':World}{t:Tr}{v:Value}(h:New w w' t v)(ha:a.heap.size<=w.heap.size):New a w' t v:=h.mono (fun b hb=>⟨Nat.le_trans ha hb.1,hb.2⟩) (fun _ _=> rfl)
theorem InK.one{w:World}{S:Nat->Prop}{e:TypeId}{t:Tr}{v0 v1 v2:Value}{g:Nat}(h:InT w S t (.agg #[v0,v1,v2]))(hg:w.heap[g]? =some (.cells #[v0,v1,v2] e (0,0)))(hS:S g):InK w S (some ⟨g,0,none⟩) [t]:=by
 refine .inr ⟨g,0,rfl,hS, ?_⟩;unfold InL;refine⟨⟨v0,v1,v2,q10 hg 0,q10 hg 1,q10 hg 2,h⟩, ?_⟩;unfold InL
 trivial
theorem q22(w:World)(k:Int)(A:Option Addr)(len cap:Nat):Calls Tryz.prog 71 #[.int .i64 k,.slice A len cap] w fun e w'=> e= .returned (.agg #[.int .i64 k,.int .i64 0,.slice A len cap])/\Ext w w':=by
 go_enter Tryz.func71,Tryz.ntmps71;go_wp2_with fail;exact bodyPost_ret (v:= .agg #[.int .i64 k,.int .i64 0,.slice A len cap]) (by simp[results,Tryz.results71,go_sem]) rfl ⟨rfl,(xr w).alloc _⟩
theorem j24(w:World)(k n:Int):Calls Tryz.prog 77 #[.int .i64 k,.int .i64 n] w fun e w'=> e= .returned (.agg #[.int .i64 k,.int .i64 n,.slice none 0 0])/\Ext w w':=by
 go_enter Tryz.func77,Tryz.ntmps77;go_wp2_with fail;exact bodyPost_ret (v:= .agg #[.int .i64 k,.int .i64 n,.slice none 0 0]) (by simp[results,Tryz.results77,go_sem]) rfl ⟨rfl,(xr w).alloc _⟩
theorem j193:(Tryz.prog.info? 25).map (fun i=>(i.zero,i.size,i.bytes))=some (some (.agg #[.int .i64 0,.int .i64 0,.slice none 0 0]),3,40):=by kernel_rfl
theorem j70(w:World)(k:Int)(A:Option Addr)(cap:Nat)(ks:List Tr)(hA:A=none->cap=0)(S:Nat->Prop)(hS: ∀b,S b->b < w.heap.size)(hK:InK w S A ks)(hn:ks.length<=1099511627776):
 Calls Tryz.prog 75 #[.int .i64 k,.slice A ks.length cap] w fun e w'=> ∃u,e= .returned u/\InT w' (Plus S w w') (.mk k 0 ks) u/\Ext w w':=by
 obtain⟨i0,hi,hz0,hz1,hz2⟩:=info_parts j193;have hK':InK (w.alloc (.cells #[.int .i64 0,.int .i64 0,.slice none 0 0] 25)) S A ks:=InK.mono (fun _ h=> h) (fun b hb=> Below.heap_alloc w _ b (hS b hb)) hK;go_enter Tryz.func75,Tryz.ntmps75;go_wp2_with (at_builtin;refine q80 _ rfl (.tmp 6) (.tmp 7) 23 rfl 25 i0 _ Tryz.underlying23 hi hz0 hz1 hz2 rfl (W:=w.alloc (.cells #[.int .i64 0,.int .i64 0,.slice none 0 0] 25)) (v:= .slice (some ⟨w.heap.size+1,0,none⟩) 0 0) (A:=A) (cap:=cap) (ks:=ks) rfl ?ow ((xr _).alloc _) rfl hA ?hS hK' hn ?_)
 case ow=> simpa using World.ownsRow_lit (base:=w.heap.size+1) (e:=25) (size:=3) (w.alloc (.cells #[.int .i64 0,.int .i64 0,.slice none 0 0] 25)) #[] 0 (by simp) (Nat.zero_le _) rfl
 case hS=> intro b hb;have:=hS b hb;simp;omega
 intro B c' w2 hB hc1 hc2 hE _;have hb:=blk1 hE;obtain⟨r0,r1,r2,p0,p1,p2⟩:=own3 hb.1;have hEs:=hE.pre;have hlt:=hb.2;clear hi hz0 hz1 hz2 hK' hb;go_wp2_with fail;refine bodyPost_ret (v:= .agg #[.int .i64 k,.int .i64 0,.slice B ks.length c']) (by simp[results,Tryz.results75,go_sem,r0,r1,r2]) rfl ⟨_,rfl,InT.mk_iff.2 ⟨_,_,rfl,hc1,hc2,hB.mono ?_ ?_⟩, ?_⟩
 · intro b hb
   unfold Plus;rw[World.size_setCell,World.size_setCell,World.size_setCell];rcases hb with hb|hb
   · exact .inl hb
   · have:=hb.1
     exact .inr ⟨by omega,hb.2⟩
 · intro b hb
   have hne:b≠w.heap.size:=by
    rcases hb with hb|hb
    · have:=hS b hb
      omega
    · have:=hb.1
      omega
   rw[Below.heap_setCell _ _ _ _ hne,Below.heap_setCell _ _ _ _ hne,Below.heap_setCell _ _ _ _ hne]
 · exact((hEs.setCell (Nat.le_refl _) _).setCell (Nat.le_refl _) _).setCell (Nat.le_refl _) _
theorem Made.three{w w':World}{e:TypeId}{t:Tr}{u:Value}(h:Made w w' e t u): ∃k n A l c,u= .agg #[.int .i64 k,.int .i64 n,.slice A l c]:=by
 obtain⟨k,n,ks⟩:=t;obtain⟨A,cap,rfl,_⟩:=Made.mk_iff.1 h;exact⟨k,n,A,_,cap,rfl⟩
theorem Lies.three{w:World}{t:Tr}{u:Value}(h:Lies w t u): ∃k n A l c,u= .agg #[.int .i64 k,.int .i64 n,.slice A l c]:=by
 obtain⟨k,n,ks⟩:=t;obtain⟨A,cap,rfl,_⟩:=Lies.mk_iff.1 h;exact⟨k,n,A,_,cap,rfl⟩
mutual
theorem InT.bound{w:World}{S:Nat->Prop}: ∀{t:Tr} {v:Value},InT w S t v->InT w (fun b=> S b/\b < w.heap.size) t v
 | .mk k n ks,v,h=> by
  obtain⟨A,cap,rfl,h1,h2,h3⟩:=InT.mk_iff.1 h;refine InT.mk_iff.2 ⟨A,cap,rfl,h1,h2, ?_⟩;cases ks with
  |nil=> exact .inl rfl
  |cons t ts=>
   rcases h3 with h3|⟨b,o,rfl,hb,hl⟩
   · cases h3
   · refine .inr ⟨b,o,rfl,⟨hb, ?_⟩,InL.bound hl⟩
     unfold InL at hl;obtain⟨⟨v0,v1,v2,h0,-⟩,-⟩:=hl;exact World.block_lt_of_cell? _ _ h0
theorem InL.bound{w:World}{S:Nat->Prop}{b:Nat}: ∀{o:Nat} {ks:List Tr},InL w S b o ks->InL w (fun b=> S b/\b < w.heap.size) b o ks
 |_, [],_=> by unfold InL;trivial
 |o,t::ts,h=> by
  unfold InL at h⊢;obtain⟨⟨v0,v1,v2,h0,h1,h2,ht⟩,Ct⟩:=h;exact⟨⟨v0,v1,v2,h0,h1,h2,InT.bound ht⟩,InL.bound Ct⟩
end
theorem InT.later{w w':World}{S:Nat->Prop}{t:Tr}{v:Value}(h:InT w S t v)(he:Ext w w'):InT w' S t v:=
 InT.mono (fun _ hb=> hb.1) (fun b hb=> he.heap b hb.2) h.bound
theorem q40{w:World}{o:Obj}{n:Nat}(h:n=w.heap.size):(w.alloc o).heap[n]? =some o:=h▸heap_alloc_new w o
def j196(t:Tr):Prop:= ∀(w:World) (B g:Nat) (v:Value) (deep c:Int),InT w (fun b=> b < B) t v->B<=g->w.heap[g]? =some (.cells #[.int .i64 c] 3 (0,0))->0<=c->c<=400->0<=deep->deep<=40->
 Calls Tryz.prog 79 #[v,.int .i64 deep,.pointer (some ⟨g,0,none⟩)] w fun e w'=> e= .returned (.bool (j38 sigT t deep c).1)/\w'.heap[g]? =some (.cells #[.int .i64 (j38 sigT t deep c).2] 3 (0,0))/\Below B w w'
theorem y136: ∀t:Tr,j196 t:=Tr.ind fun k n ks hk=> by
 intro w B g v deep c j7 hBg hblk hc0 hc1 mq uj;obtain⟨A,cap,rfl,hl,hc,h⟩:=InT.mk_iff.1 j7;clear j7;have hc':=hc;unfold maxLen at hc';have hgs:=j10 hblk;have q0:w.cell? ⟨g,0,none⟩=some (.int .i64 c):=q10 hblk 0;have q1:=y13 hblk 0;have e:j38 sigT (.mk k n ks) deep c=if 400 < c+1 then(false,c+1) else if 30 < deep then(false,c+1) else if opsT k=(ks.length:Int) then(if inR n 0 (q33 k)=true then y38 sigT ks (deep+1) (c+1) else(false,c+1)) else(false,c+1):=by
  unfold j38;rfl
 have E:=hdq e;have HB:=hdq hblk;have hW: ∀W,W=(w.setCell ⟨g,0,none⟩ (.int .i64 (c+1))).alloc (.cells #[.int .i64 k,.int .i64 n,.slice A ks.length cap] 25)->W.heap[g]? =some (.cells #[.int .i64 (c+1)] 3 (0,0))/\W.heap[w.heap.size]? =some (.cells #[.int .i64 k,.int .i64 n,.slice A ks.length cap] 25 (0,0))/\Below B w W/\w.heap.size < W.heap.size:=by
  rintro W rfl;have e0:=heap_alloc_new (w.setCell ⟨g,0,none⟩ (.int .i64 (c+1))) (.cells #[.int .i64 k,.int .i64 n,.slice A ks.length cap] 25);rw[World.size_setCell] at e0;exact⟨q196 (j11 HB.out 0 _) _,e0,((Below.refl B w).setCell hBg _).alloc (by simp;omega) _,by simp⟩
 have HW:=hdq hW;clear hW e;by_cases a1:400 < c+1
 · rw[if_pos a1] at E
   have d1:decide (400 < c+1)=true:=decide_eq_true a1;go_enter Tryz.func79,Tryz.ntmps79;go_wp2_with fail;have hb:=HW.out _ rfl;generalize (w.setCell _ _).alloc _=W at hb;obtain⟨b1,b2,b3,b4⟩:=hb;obtain⟨y0,y1,y2⟩:=y33.own3 b2;have y3: ∀y:y33 W,y.world.cell? ⟨g,0,none⟩=some (.int .i64 (c+1)):=fun y=> y33.cell (q10 b1 0) y
   have B1:=hdq b1;have B2:=hdq b2;clear b2 b1 q0 q1 hblk;refine j17 (by kernel_rfl) (by kernel_rfl) ?_
   repeat (go_big_quiet_step (first|(go_at_call 131;exact q81 (j79 _ _)) |(go_at_call 62;exact q15 (q23 _ _ _ _)) |(go_at_call 132;exact q15 (q60 _ _))))
   refine wpQuiet_nil ?_;intro w3 hw';obtain⟨⟨_,h3⟩,rfl⟩:=hw';clear y0 y1 y2 y3;go_wp2_with fail;go_ret;exact⟨by rw[E.out];rfl,by rw[E.out];exact h3.blk B1.out,b3.trans (h3.mono (by omega))⟩
 rw[if_neg a1] at E;have d1:decide (400 < c+1)=false:=decide_eq_false a1;by_cases a2:30 < deep
 · rw[if_pos a2] at E
   have d2:decide (30 < deep)=true:=decide_eq_true a2;go_enter Tryz.func79,Tryz.ntmps79;go_wp2_with fail;have hb:=HW.out _ rfl;generalize (w.setCell _ _).alloc _=W at hb;obtain⟨b1,b2,b3,b4⟩:=hb;obtain⟨y0,y1,y2⟩:=y33.own3 b2;have y3: ∀y:y33 W,y.world.cell? ⟨g,0,none⟩=some (.int .i64 (c+1)):=fun y=> y33.cell (q10 b1 0) y
   have B1:=hdq b1;have B2:=hdq b2;clear b2 b1 q0 q1 hblk;refine j17 (by kernel_rfl) (by kernel_rfl) ?_
   repeat (go_big_quiet_step (first|(go_at_call 131;exact q81 (j79 _ _)) |(go_at_call 62;exact q15 (q23 _ _ _ _)) |(go_at_call 132;exact q15 (q60 _ _))))
   refine wpQuiet_nil ?_;intro w3 hw';obtain⟨⟨_,h3⟩,rfl⟩:=hw';clear y0 y1 y2 y3;go_wp2_with fail;go_ret;exact⟨by rw[E.out];rfl,by rw[E.out];exact h3.blk B1.out,b3.trans (h3.mono (by omega))⟩
 rw[if_neg a2] at E;have d2:decide (30 < deep)=false:=decide_eq_false a2;by_cases a3:opsT k=(ks.length:Int)
 · rw[if_pos a3] at E
   have d3:(opsT k !=(ks.length:Int))=false:=by rw[a3];simp
   clear a3;obtain⟨z,hz⟩: ∃z,inR n 0 (q33 k)=z:=⟨_,rfl⟩;cases z with
   |false=>
    rw[hz,if_neg (by decide)] at E;go_enter Tryz.func79,Tryz.ntmps79;go_wp2_with fail;have hb:=HW.out _ rfl;generalize (w.setCell _ _).alloc _=W at hb;obtain⟨b1,b2,b3,b4⟩:=hb;obtain⟨y0,y1,y2⟩:=y33.own3 b2;have y3: ∀y:y33 W,y.world.cell? ⟨g,0,none⟩=some (.int .i64 (c+1)):=fun y=> y33.cell (q10 b1 0) y
    have B1:=hdq b1;have B2:=hdq b2;clear b2 b1 q0 q1 hblk;refine j17 (by kernel_rfl) (by kernel_rfl) ?_
    repeat (go_big_quiet_step (first|(go_at_call 131;exact q81 (j79 _ _)) |(go_at_call 62;exact q15 (q23 _ _ _ _)) |(go_at_call 132;exact q15 (q60 _ _))))
    refine wpQuiet_nil ?_;intro w3 hw';obtain⟨⟨_,h3⟩,rfl⟩:=hw';clear y0 y1 y2 y3;go_wp2_with fail;go_ret;exact⟨by rw[E.out];rfl,by rw[E.out];exact h3.blk B1.out,b3.trans (h3.mono (by omega))⟩
   |true=>
    rw[hz,if_pos rfl] at E;go_enter Tryz.func79,Tryz.ntmps79;go_wp2_with fail;have hb:=HW.out _ rfl;generalize (w.setCell _ _).alloc _=W at hb;obtain⟨b1,b2,b3,b4⟩:=hb;obtain⟨y0,y1,y2⟩:=y33.own3 b2;have y3: ∀y:y33 W,y.world.cell? ⟨g,0,none⟩=some (.int .i64 (c+1)):=fun y=> y33.cell (q10 b1 0) y
    have B1:=hdq b1;have B2:=hdq b2;clear b2 b1 q0 q1 hblk;refine j17 (by kernel_rfl) (by kernel_rfl) ?_
    repeat (go_big_quiet_step (first|(go_at_call 131;exact q81 (j79 _ _)) |(go_at_call 62;exact q15 (q23 _ _ _ _)) |(go_at_call 132;exact q15 (q60 _ _))))
    refine wpQuiet_nil ?_;intro w3 hw';obtain⟨⟨_,h3⟩,rfl⟩:=hw';clear y0 y1 y2 y3;clear hz;obtain⟨z0,z1,z2,-,-,-⟩:=own3 (h3.blk B2.out);have hg3:=h3.blk B1.out;have La:Below B w w3:=b3.trans (h3.mono (by omega));have B4:=hdq hg3;clear hg3;go_wp2_with fail;clear z0 z1 z2
    go_loopw [43] (fun i wr=> ∃(j:Nat) (q:Int),j<=ks.length/\i= .int .i64 j/\wr.heap[g]? =some (.cells #[.int .i64 q] 3 (0,0))/\0<=q/\q<=400/\Below B w wr/\y38 sigT ks (deep+1) (c+1)=y38 sigT (ks.drop j) (deep+1) q) (fun i _=> ks.length -(intOf i).toNat)
    case atStart=> exact⟨0,c+1,Nat.zero_le _,rfl,B4.out,by omega,by omega,La,rfl⟩
    case round=>
     obtain⟨j,q,hj,rfl,hblk,uq,Bi,Ht,dv⟩:=hrel;have HE:=hdq dv;clear dv;by_cases hlt:j < ks.length
     · obtain⟨b,o,k2,n2,A2,M3,kids,rfl,HK,c0,c1,c2,K8,L6,hK,j7,j5,jv⟩:=h.get (fun x hx=> Ht.block x hx) hlt
       have p9:=List.drop_eq_getElem_cons hlt;rw[HK.out] at p9;have hst:y38 sigT (ks.drop j) (deep+1) q=if(j38 sigT (.mk k2 n2 kids) (deep+1) q).1=true then y38 sigT (ks.drop (j+1)) (deep+1) (j38 sigT (.mk k2 n2 kids) (deep+1) q).2 else(false,(j38 sigT (.mk k2 n2 kids) (deep+1) q).2):=by rw[p9];conv=> lhs;unfold y38
       have hsp:=j89 sigT (.mk k2 n2 kids) (deep+1) q uq Bi;have ye:=hdq hblk;have hgwr:=j10 hblk;clear hblk p9;go_wp2_with fail;have C6:=(xr wr).alloc (.cells #[.int .i64 k2,.int .i64 n2,.slice A2 kids.length M3] 25);have Ob:B<=wr.heap.size:=by omega
       refine(hk _ j5 _ B g _ (deep+1) q (j7.mono (fun _ h=> h) (fun x hx=> C6.heap x (by omega))) hBg (C6.blk ye.out) uq Bi (by omega) (by omega)).mono ?_;rintro e w4 ⟨rfl,h4,h5⟩;have Fi:Below B w w4:=Ht.trans ((Below.mono C6 Ob).trans h5);generalize j38 sigT (.mk k2 n2 kids) (deep+1) q=r at hst hsp h4;obtain⟨r1,r2⟩:=r
       dsimp only at hst hsp h4
       cases r1 with
       |false=>
        rw[if_neg (by decide)] at hst;have HT:=hdq hst;have H4:=hdq h4;clear hst h4 hsp;go_wp2_with fail;go_ret;exact⟨by rw[E.out,HE.out,HT.out];rfl,by rw[E.out,HE.out,HT.out];exact H4.out,Fi⟩
       |true=>
        rw[if_pos rfl] at hst;have HT:=hdq hst;have H4:=hdq h4;have hr2:=hsp.2.2.2.2 rfl;have hr3:=hsp.2.2.1;clear hst h4 hsp;go_wp2_with fail
        go_roundw
        case rel=> exact⟨j+1,r2,by omega,by go_num,H4.out,by omega,hr2,Fi,by rw[HE.out,HT.out]⟩
        case measure=> simp[intOf];omega
     · have ye:=hdq hblk
       clear hblk;go_wp2_with fail;go_ret;have hjk:ks.drop j= []:=List.drop_of_length_le (by omega);exact⟨by rw[E.out,HE.out,hjk];rfl,by rw[E.out,HE.out,hjk];exact ye.out,Ht⟩
 · rw[if_neg a3] at E
   have d3:(opsT k !=(ks.length:Int))=true:=by rw[bne_iff_ne];exact a3
   clear a3;go_enter Tryz.func79,Tryz.ntmps79;go_wp2_with fail;have hb:=HW.out _ rfl;generalize (w.setCell _ _).alloc _=W at hb;obtain⟨b1,b2,b3,b4⟩:=hb;obtain⟨y0,y1,y2⟩:=y33.own3 b2;have y3: ∀y:y33 W,y.world.cell? ⟨g,0,none⟩=some (.int .i64 (c+1)):=fun y=> y33.cell (q10 b1 0) y
   have B1:=hdq b1;have B2:=hdq b2;clear b2 b1 q0 q1 hblk;refine j17 (by kernel_rfl) (by kernel_rfl) ?_
   repeat (go_big_quiet_step (first|(go_at_call 131;exact q81 (j79 _ _)) |(go_at_call 62;exact q15 (q23 _ _ _ _)) |(go_at_call 132;exact q15 (q60 _ _))))
   refine wpQuiet_nil ?_;intro w3 hw';obtain⟨⟨_,h3⟩,rfl⟩:=hw';clear y0 y1 y2 y3;go_wp2_with fail;go_ret;exact⟨by rw[E.out];rfl,by rw[E.out];exact h3.blk B1.out,b3.trans (h3.mono (by omega))⟩
end Go.Proofs.YtbnkbepgmenblaaGreat
namespace Go.Proofs.YtbnkbepgmenblaaGreat
open Go.RowKit Go.ChangeShapes Go.WideShapes Go.Deep
def Nums(w:World)(A:Option Addr)(ns:List Int):Prop:=ns= []\/ ∃b o,A=some ⟨b,o,none⟩/\b < w.heap.size/\ ∀j (h:j < ns.length),w.cell? ⟨b,o+j,none⟩=some (.int .i64 ns[j])
theorem Nums.ext{w w':World}{A:Option Addr}{ns:List Int}(h:Nums w A ns)(he:Ext w w'):Nums w' A ns:=by
 rcases h with h|⟨b,o,rfl,hb,hc⟩
 · exact .inl h
 · exact .inr ⟨b,o,rfl,Nat.lt_of_lt_of_le hb he.size,fun j hj=> he.cell (hc j hj)⟩
theorem Nums.get{w w':World}{A:Option Addr}{ns:List Int}(h:Nums w A ns)(he:Ext w w'){j:Nat}(hj:j < ns.length): ∃b o,A=some ⟨b,o,none⟩/\w'.cell? ⟨b,o+j,none⟩=some (.int .i64 ns[j]):=by
 rcases h with rfl|⟨b,o,rfl,hb,hc⟩
 · exact absurd hj (by simp)
 · exact⟨b,o,rfl,he.cell (hc j hj)⟩
theorem At.nums{w:World}{A:Option Addr}{ns:List Int}(h:Nums w A ns):At w (fun w'=> Nums w' A ns):=fun _ hx=> h.ext hx
section
variable {H : Type} {enc : TypeId × Value → H} {P : Program} {w : World} {spare : Nat → Bool} {held : Bool}
theorem open_nums{s i:TypeId}(hs:P.underlying s=some (.slice i))(hi:P.underlying i=some (.int .i64))(ci:P.cellsOf i=1){r:Reach}{b0:Nat}{v:Value}{d:DataW H}{p:List MemPlace}(hv:Value.okWide P w r b0 s v)(h:DataW.Trod enc P w 0 spare held s v d p):
 ∃(A:Option Addr) (cap:Nat) (ns:List Int),v= .slice A ns.length cap/\ns.length<=cap/\cap<=maxLen/\Nums w A ns:=by
 obtain⟨a0,len0,C7,rfl⟩:=okWide_slice hs hv;obtain⟨fuel,hf⟩:=h;rcases DataW.trod_slice hs hf with⟨hcs,_⟩ |⟨a,len,cap,elems,rest,n,rfl,hcs,_,_,hl,hm,hlen,Hb,_,_⟩
 · simp only[Value.cells,List.cons.injEq,and_true] at hcs
   exact⟨none,0, [],hcs,Nat.le_refl _,Nat.zero_le _,.inl rfl⟩
 · have ww: ∀j,j < len-> ∃x:Int,w.cell? (a.add j)=some (.int .i64 x):=by
    intro j hj;have hj':=Hb j hj;rw[List.getElem?_eq_getElem (by omega)] at hj';obtain⟨cs',h1,h2⟩:=Option.bind_eq_some_iff.1 hj';obtain⟨x,rfl,_,_⟩:=DataW.trod_int hi h2;obtain⟨_,_,hcell⟩:=World.cells?_some h1;rw[ci] at hcell;have q0:=hcell 0 (by omega);rw[Nat.mul_one] at q0;have e0: ∀y:Addr,y.add 0=y:=fun y=> by simp[Addr.add]
    rw[e0] at q0;exact⟨x,q0⟩
   obtain⟨ns,Cg,hp⟩:=j54 len ww;subst Cg;simp only[Value.cells,List.cons.injEq,and_true] at hcs;refine⟨some a,cap,ns,hcs,hl,hm, ?_⟩;cases ns with
   |nil=> exact .inl rfl
   |cons t0 ts=>
    obtain⟨b,o,spot⟩:=a;have hlt:b < w.heap.size/\spot=none:=by
     have q0:=hp 0 (by simp);have e0:(⟨b,o,spot⟩:Addr).add 0=⟨b,o,spot⟩:=by simp[Addr.add]
     rw[e0] at q0;exact⟨World.block_lt_of_cell? _ _ q0,by simpa using World.cell?_spot q0⟩
    obtain⟨hlt,rfl⟩:=hlt;refine .inr ⟨b,o,rfl,hlt,fun j hj=> ?_⟩;have q0:=hp j hj;rw[j71] at q0;exact q0
end
def arity(f:Int):Int:=if f=1\/f=2\/f=4 then 2 else if f=3\/f=5\/f=6 then 1 else -1
def fits(f:Int)(ns:List Int):Bool:=decide (arity f=(ns.length:Int))&& ns.all (fun n=> inR n 0 20)
def funVal(f:Int)(ns:List Int):Int×Bool:=
 if fits f ns=true then
  match ns with
  | [a]=>(if f=3 then(if a=0 then 0 else a - 1) else if f=6 then 2*a else if a=0 then 1 else 0,true)
  | [a,b]=>(if f=1 then a+b else if f=2 then a*b else if a < b then 0 else a - b,true)
  |_=>(0,false)
 else(0,false)
theorem fits_true{f:Int}{ns:List Int}(h:fits f ns=true):(∃a b,ns= [a,b]/\0<=a/\a<=20/\0<=b/\b<=20/\(f=1\/f=2\/f=4))\/(∃a,ns= [a]/\0<=a/\a<=20/\(f=3\/f=5\/f=6)):=by
 unfold fits at h;rw[Bool.and_eq_true] at h;have h1:=of_decide_eq_true h.1;have h2:=h.2;rw[List.all_eq_true] at h2;unfold arity at h1;by_cases c1:f=1\/f=2\/f=4
 · rw[if_pos c1] at h1
   match ns,h1 with
   | [a,b],_=>
    have ha:=y39.1 (h2 a (by simp));have hb:=y39.1 (h2 b (by simp));exact .inl ⟨a,b,rfl,ha.1,ha.2,hb.1,hb.2,c1⟩
   | [],h1=> simp at h1
   | [a],h1=> simp at h1
   |a::b::c::ts,h1=> simp at h1;omega
 · rw[if_neg c1] at h1
   by_cases c2:f=3\/f=5\/f=6
   · rw[if_pos c2] at h1
     match ns,h1 with
     | [a],_=>
      have ha:=y39.1 (h2 a (by simp));exact .inr ⟨a,rfl,ha.1,ha.2,c2⟩
     | [],h1=> simp at h1
     |a::b::ts,h1=> simp at h1;omega
   · rw[if_neg c2] at h1
     omega
end Go.Proofs.YtbnkbepgmenblaaGreat
namespace Go.Proofs.YtbnkbepgmenblaaGreat
open Go.RowKit
def RowL(w:World)(S:Nat->Prop):List Value->List Tr->Prop
 |_, []=> True
 |xs,t::ts=> ∃v0 v1 v2 rest,xs=v0::v1::v2::rest/\InT w S t (.agg #[v0,v1,v2])/\RowL w S rest ts
theorem RowL.cons_iff{w:World}{S:Nat->Prop}{xs:List Value}{t:Tr}{ts:List Tr}:RowL w S xs (t::ts)↔ ∃v0 v1 v2 rest,xs=v0::v1::v2::rest/\InT w S t (.agg #[v0,v1,v2])/\RowL w S rest ts:=by
 conv=> lhs;unfold RowL
theorem RowL.nil{w:World}{S:Nat->Prop}{xs:List Value}:RowL w S xs []:=by unfold RowL;trivial
theorem RowL.mono{w w':World}{S S':Nat->Prop}(hS: ∀b,S b->S' b)(hw: ∀b,S b->w'.heap[b]? =w.heap[b]?): ∀{xs:List Value} {ks:List Tr},RowL w S xs ks->RowL w' S' xs ks
 |_, [],_=> RowL.nil
 |xs,t::ts,h=> by
  obtain⟨v0,v1,v2,rest,rfl,h1,h2⟩:=RowL.cons_iff.1 h;exact RowL.cons_iff.2 ⟨v0,v1,v2,rest,rfl,h1.mono hS hw,RowL.mono hS hw h2⟩
theorem RowL.inL{w:World}{S:Nat->Prop}{b:Nat}{cs:Array Value}{e:TypeId}(hb:w.heap[b]? =some (.cells cs e (0,0))): ∀{xs pre:List Value} {ks:List Tr},RowL w S xs ks->cs.toList=pre++xs->InL w S b pre.length ks
 |_,_, [],_,_=> by unfold InL;trivial
 |xs,pre,t::ts,h,he=> by
  obtain⟨v0,v1,v2,rest,rfl,h1,h2⟩:=RowL.cons_iff.1 h;unfold InL;have hc: ∀i,w.cell? ⟨b,i,none⟩=cs.toList[i]? :=fun i=> by rw[q10 hb];simp
  refine⟨⟨v0,v1,v2, ?_, ?_, ?_,h1⟩, ?_⟩
  · rw[hc,he,List.getElem?_append_right (Nat.le_refl _)];simp
  · rw[hc,he,List.getElem?_append_right (by omega)];simp
  · rw[hc,he,List.getElem?_append_right (by omega)];simp
  · have:=RowL.inL hb (pre:=pre++ [v0,v1,v2]) h2 (by simp[he])
    simpa using this
theorem InL.rowL{w:World}{S:Nat->Prop}{b:Nat}: ∀{o:Nat} {ks:List Tr},InL w S b o ks-> ∃xs:List Value,xs.length=ks.length*3/\(∀j u,xs[j]? =some u->w.cell? ⟨b,o+j,none⟩=some u)/\(∀u∈xs,u.oneCell'=true)/\RowL w S xs ks
 |o, [],_=>⟨[],rfl,(fun j u h=> by simp at h),(fun u h=> by simp at h),RowL.nil⟩
 |o,t::ts,h=> by
  unfold InL at h;obtain⟨⟨v0,v1,v2,c0,c1,c2,ht⟩,Ct⟩:=h;obtain⟨xs,n1,n2,n3,n4⟩:=InL.rowL Ct;refine⟨v0::v1::v2::xs,by simp[n1];omega,fun j u hu=> ?_,fun u hu=> ?_,RowL.cons_iff.2 ⟨v0,v1,v2,xs,rfl,ht,n4⟩⟩
  · match j,hu with
    |0,hu=> simpa using(by simpa using hu:v0=u)▸c0
    |1,hu=> simpa using(by simpa using hu:v1=u)▸c1
    |2,hu=> simpa using(by simpa using hu:v2=u)▸c2
    |j+3,hu=>
     have:=n2 j u (by simpa using hu)
     rwa [show o+3+j=o+(j+3) by omega] at this
  · obtain⟨k,n,kids⟩:=t
    obtain⟨A,cap,hv,_⟩:=InT.mk_iff.1 ht;simp only[Value.agg.injEq,Array.mk.injEq,List.cons.injEq,and_true] at hv;obtain⟨rfl,rfl,rfl⟩:=hv;simp only[List.mem_cons] at hu;rcases hu with rfl|rfl|rfl|hu
    · rfl
    · rfl
    · rfl
    · exact n3 u hu
theorem RowL.snoc{w:World}{S:Nat->Prop}{t:Tr}{v0 v1 v2:Value}(ht:InT w S t (.agg #[v0,v1,v2]))(tail:List Value): ∀{xs:List Value} {ks:List Tr},xs.length=ks.length*3->RowL w S xs ks->RowL w S (xs++v0::v1::v2::tail) (ks++ [t])
 |xs, [],hx,h=> by
  have hx0:xs= []:=List.eq_nil_of_length_eq_zero (by simpa using hx);subst hx0;exact RowL.cons_iff.2 ⟨v0,v1,v2,tail,rfl,ht,RowL.nil⟩
 |xs,x::ks,hx,h=> by
  obtain⟨u0,u1,u2,rest,rfl,h1,h2⟩:=RowL.cons_iff.1 h;exact RowL.cons_iff.2 ⟨u0,u1,u2,_,rfl,h1,RowL.snoc ht tail (by simp only[List.length_cons] at hx;omega) h2⟩
theorem RowL.tail{w:World}{S:Nat->Prop}(tail:List Value): ∀{xs:List Value} {ks:List Tr},RowL w S xs ks->RowL w S (xs++tail) ks
 |xs, [],h=> RowL.nil
 |xs,x::ks,h=> by
  obtain⟨u0,u1,u2,rest,rfl,h1,h2⟩:=RowL.cons_iff.1 h;exact RowL.cons_iff.2 ⟨u0,u1,u2,_,rfl,h1,RowL.tail tail h2⟩
theorem RowL.set{w:World}{S:Nat->Prop}{t:Tr}{v0 v1 v2:Value}(ht:InT w S t (.agg #[v0,v1,v2])): ∀{xs:List Value} {ks:List Tr} (i:Nat),RowL w S xs ks->RowL w S (((xs.set (i*3) v0).set (i*3+1) v1).set (i*3+2) v2) (ks.set i t)
 |xs, [],i,h=> by simpa using RowL.nil
 |xs,x::ks,0,h=> by
  obtain⟨u0,u1,u2,rest,rfl,h1,h2⟩:=RowL.cons_iff.1 h;exact RowL.cons_iff.2 ⟨v0,v1,v2,rest,by simp,ht,h2⟩
 |xs,x::ks,i+1,h=> by
  obtain⟨u0,u1,u2,rest,rfl,h1,h2⟩:=RowL.cons_iff.1 h;refine RowL.cons_iff.2 ⟨u0,u1,u2,_, ?_,h1,RowL.set ht i h2⟩;rw[show(i+1)*3=i*3+1+1+1 by omega,show i*3+1+1+1+1=i*3+1+1+1+1 from rfl,show i*3+1+1+1+2=i*3+2+1+1+1 by omega];simp
def q19(X:Nat->Prop)(W w:World)(e:TypeId)(v:Value)(ks:List Tr):Prop:=
 ∃xs,w.ownsRow W.heap.size e 3 v ks.length xs/\RowL w (fun b=> b < w.heap.size/\v.ownBlock≠some b/\ ¬X b) xs ks
theorem q19.nil(X:Nat->Prop)(W w:World)(e:TypeId):q19 X W w e (.slice none 0 0) []:=⟨[],World.ownsRow_nil _ _ _ _,RowL.nil⟩
theorem q19.lit{X:Nat->Prop}{W w:World}{e:TypeId}{g:Nat}(hg:w.heap[g]? =some (.cells #[] e (0,0)))(hW:W.heap.size<=g):q19 X W w e (.slice (some ⟨g,0,none⟩) 0 0) []:=
 ⟨[],⟨rfl,.inr ⟨g,0,#[],rfl,hW,hg,Nat.le_refl _,Nat.zero_le _,rfl,rfl⟩⟩,RowL.nil⟩
theorem q19.only{X:Nat->Prop}{W w w':World}{e:TypeId}{v:Value}{ks:List Tr}{L:List Nat}(h:q19 X W w e v ks)(ho:Only L w w')(hX: ∀b,b∈L->X b)(hL: ∀b,X b->b < W.heap.size):q19 X W w' e v ks:=by
 obtain⟨xs,h1,h2⟩:=h;refine⟨xs,j27 h1 (fun g hg=> ho.block g (h1.lt g hg).2 (fun hm=> by have:=hL g (hX g hm);have:=(h1.lt g hg).1;omega)),h2.mono (fun b hb=>⟨Nat.lt_of_lt_of_le hb.1 ho.size,hb.2.1,hb.2.2⟩) (fun b hb=> ho.block b hb.1 (fun hm=> hb.2.2 (hX b hm)))⟩
theorem q19.ext{X:Nat->Prop}{W w w':World}{e:TypeId}{v:Value}{ks:List Tr}(h:q19 X W w e v ks)(he:Ext w w'):q19 X W w' e v ks:=by
 obtain⟨xs,h1,h2⟩:=h;exact⟨xs,j27 h1 (fun g hg=> he.heap g (h1.lt g hg).2),h2.mono (fun b hb=>⟨Nat.lt_of_lt_of_le hb.1 he.size,hb.2.1,hb.2.2⟩) (fun b hb=> he.heap b hb.1)⟩
theorem q19.lies{X:Nat->Prop}{W w:World}{e:TypeId}{v:Value}{ks:List Tr}(h:q19 X W w e v ks)(hL: ∀b,X b->b < W.heap.size): ∃A cap,v= .slice A ks.length cap/\ks.length<=cap/\cap<=maxLen/\InK w (fun b=> b < w.heap.size/\ ¬X b) A ks/\(ks= []\/ ∃g,A=some ⟨g,0,none⟩/\W.heap.size<=g):=by
 obtain⟨xs,h1,h2⟩:=h;rcases h1.2 with⟨rfl,h0⟩ |⟨g,cap,cur,rfl,hb,hg,ji,hcm,hcs,ht⟩
 · have:ks= []:=List.eq_nil_of_length_eq_zero h0
   subst this;exact⟨none,0,rfl,Nat.le_refl _,Nat.zero_le _,.inl rfl,.inl rfl⟩
 · refine⟨_,cap,rfl,ji,hcm,.inr ⟨g,0,rfl,⟨j10 hg,fun hm=> by have:=hL g hm;omega⟩, ?_⟩,.inr ⟨g,rfl,hb⟩⟩
   have h3:=RowL.tail (cur.toList.drop (ks.length*3)) (h2.mono (S':=fun b=> b < w.heap.size/\ ¬X b) (fun b hb=>⟨hb.1,hb.2.2⟩) (fun _ _=> rfl));rw[<-ht,List.take_append_drop] at h3;exact RowL.inL hg (pre:= []) h3 (by simp)
theorem q76{w:World}{S:Nat->Prop}{t:Tr}{v0 v1 v2:Value}(h:InT w S t (.agg #[v0,v1,v2])): ∀u∈ [v0,v1,v2],u.oneCell'=true:=by
 obtain⟨k,n,ks⟩:=t;obtain⟨A,cap,hv,_⟩:=InT.mk_iff.1 h;simp only[Value.agg.injEq,Array.mk.injEq,List.cons.injEq,and_true] at hv;obtain⟨rfl,rfl,rfl⟩:=hv;intro u hu;simp only[List.mem_cons,List.not_mem_nil,or_false] at hu;rcases hu with rfl|rfl|rfl <;> rfl
theorem y35{P:Program}(w:World){o:Oper}{a:Act}{K:Act->World->Prop}{Q:Exit->Act->World->Prop}(s x:Operand)(t:TypeId)
 (ho:o.op= .call {callee:= .builtin .append,args:=#[s,x],argTypes:=#[t,t]})
 (e:TypeId) (i:TypeInfo) (z:Value) (ht:P.underlying t=some (.slice e)) (hi:P.info? e=some i) (hz:i.zero=some z) (hsize:i.size=3) (hby:i.bytes=40) (hzs:z.cells.size=3)
 {X:Nat->Prop} {W:World} {v:Value} {ks:List Tr} {tr:Tr} {v0 v1 v2:Value} {gx:Nat} (hs:a.eval s=v) (hG:q19 X W w e v ks) (hW:W.heap.size<=w.heap.size)
 (hT:InT w (fun b=> b < w.heap.size/\v.ownBlock≠some b/\ ¬X b) tr (.agg #[v0,v1,v2]))
 (hx:a.eval x= .slice (some ⟨gx,0,none⟩) 1 1) (hgx:w.heap[gx]? =some (.cells #[v0,v1,v2] e (0,0))) (hn:ks.length < 1099511627776)
 (h: ∀v' w',q19 X W w' e v' (ks++ [tr])->Below W.heap.size w w'->K (a.put o.dst v') w') (hL: ∀b,X b->b < W.heap.size):o.wp P a w K Q:=by
 obtain⟨xs,h1,h2⟩:=hG;obtain⟨v',w',hr,r1,r2,r3⟩:=y18 (P:=P) w W.heap.size t o.type e i z 3 40 ht hi hz hsize hby hzs (by decide) v ks.length xs h1 ⟨gx,0,none⟩ 1 1 [v0,v1,v2] rfl (q51 hgx) (q76 hT) (by unfold maxLen;omega) (by omega) hW;have hB:Below W.heap.size w w':=⟨r2.os,r2.tape,r2.output,r2.size,fun b hb=> r2.block b (by omega) (fun he=> by have:=(h1.lt b he.symm).1;omega)⟩;have hS: ∀b,b < w.heap.size/\v.ownBlock≠some b/\ ¬X b->b < w'.heap.size/\v'.ownBlock≠some b/\ ¬X b:=fun b hb=> by
  refine⟨Nat.lt_of_lt_of_le hb.1 r2.size,fun he=> ?_,hb.2.2⟩;rcases r3 b he with h4|h4
  · exact hb.2.1 h4
  · omega
 have hw: ∀b,b < w.heap.size/\v.ownBlock≠some b/\ ¬X b->w'.heap[b]? =w.heap[b]? :=fun b hb=> r2.block b hb.1 (fun he=> hb.2.1 he.symm)
 have K5:q19 X W w' e v' (ks++ [tr]):=⟨_,by simpa using r1,RowL.snoc (hT.mono hS hw) [] h1.1 (h2.mono hS hw)⟩;unfold Oper.wp execOp;simp only[ho,resolve,invoke,builtin,Sem.run_bind,Sem.run_pure,Result.andThen_ok,List.map_toArray,List.map_cons,List.map_nil,hs,hx,hr];exact h v' w' K5 hB
theorem j18{P:Program}(w:World){ops:Array Oper}{rest:List Oper}{o:Oper}{a:Act}{Q:Exit->Act->World->Prop}(hgd:o.guard=none)(s x:Operand)(t:TypeId)
 (ho:o.op= .call {callee:= .builtin .append,args:=#[s,x],argTypes:=#[t,t]})
 (e:TypeId) (i:TypeInfo) (z:Value) (ht:P.underlying t=some (.slice e)) (hi:P.info? e=some i) (hz:i.zero=some z) (hsize:i.size=3) (hby:i.bytes=40) (hzs:z.cells.size=3)
 {X:Nat->Prop} {W:World} {v:Value} {ks:List Tr} {tr:Tr} {v0 v1 v2:Value} {gx:Nat} (hs:a.eval s=v) (hG:q19 X W w e v ks) (hW:W.heap.size<=w.heap.size)
 (hT:InT w (fun b=> b < w.heap.size/\v.ownBlock≠some b/\ ¬X b) tr (.agg #[v0,v1,v2]))
 (hx:a.eval x= .slice (some ⟨gx,0,none⟩) 1 1) (hgx:w.heap[gx]? =some (.cells #[v0,v1,v2] e (0,0))) (hn:ks.length < 1099511627776)
 (h: ∀v' w',q19 X W w' e v' (ks++ [tr])->Below W.heap.size w w'->wpList P ops Q rest (a.put o.dst v') w') (hL: ∀b,X b->b < W.heap.size):wpList P ops Q (o::rest) a w:=
 wpList_plain hgd fun K hK=> y35 w s x t ho e i z ht hi hz hsize hby hzs hs hG hW hT hx hgx hn (fun v' w' h1 h2=> hK _ _ (h v' w' h1 h2)) hL
theorem y27{P:Program}(w:World){ops:Array Oper}{o:Oper}{a:Act}{K:Act->World->Prop}{Q:Exit->Act->World->Prop}{E:Prop}(hgd:o.guard=none)(s x:Operand)(t:TypeId)
 (ho:o.op= .call {callee:= .builtin .append,args:=#[s,x],argTypes:=#[t,t]})
 (e:TypeId) (i:TypeInfo) (z:Value) (ht:P.underlying t=some (.slice e)) (hi:P.info? e=some i) (hz:i.zero=some z) (hsize:i.size=3) (hby:i.bytes=40) (hzs:z.cells.size=3)
 {X:Nat->Prop} {W:World} {v:Value} {ks:List Tr} {tr:Tr} {v0 v1 v2:Value} {gx:Nat} (hs:a.eval s=v) (hG:q19 X W w e v ks) (hW:W.heap.size<=w.heap.size)
 (hT:InT w (fun b=> b < w.heap.size/\v.ownBlock≠some b/\ ¬X b) tr (.agg #[v0,v1,v2]))
 (hx:a.eval x= .slice (some ⟨gx,0,none⟩) 1 1) (hgx:w.heap[gx]? =some (.cells #[v0,v1,v2] e (0,0))) (hn:ks.length < 1099511627776)
 (h: ∀v' w',q19 X W w' e v' (ks++ [tr])->Below W.heap.size w w'->K (a.put o.dst v') w') (hL: ∀b,X b->b < W.heap.size):
 if Region.wanted o (yielded ops a.tmps)=true then Oper.wp P o a w K Q else E:=by
 have hw:Region.wanted o (yielded ops a.tmps)=true:=by simp[Region.wanted,hgd]
 rw[if_pos hw];exact y35 w s x t ho e i z ht hi hz hsize hby hzs hs hG hW hT hx hgx hn h hL
theorem Made.inT{w w':World}{e:TypeId}{t:Tr}{v:Value}(h:Made w w' e t v):InT w' (fun b=> w.heap.size<=b/\b < w'.heap.size) t v:=by
 obtain⟨L,h,hf⟩:=h;exact InT.mono (fun b hb=> hf.2 b hb) (fun _ _=> rfl) h.inT
end Go.Proofs.YtbnkbepgmenblaaGreat
