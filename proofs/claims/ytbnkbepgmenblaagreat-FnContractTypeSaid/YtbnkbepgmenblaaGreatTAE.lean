/-
  Lemmas towards the law, 5: Valid, OrdG, Later, Grow, Text, Fits, Same.
-/
import Derived.Test.YtbnkbepgmenblaaGreatTAD
import Derived.BigQuiet
import Derived.Laws.AppendOwn
import Derived.Outline
import Derived.OwnWalk
import Derived.StillTailTactics
import Derived.Test.YtbnkbepgmenblaaGreatProg
set_option linter.unusedVariables false
set_option maxHeartbeats 400000
namespace Go.Proofs.YtbnkbepgmenblaaGreat
def inR(n lo hi:Int):Bool:=decide (lo<=n)&& decide (n<=hi)
theorem y39{n lo hi:Int}:inR n lo hi=true↔lo<=n/\n<=hi:=by simp[inR]
theorem j60{n lo hi:Int}:inR n lo hi=false↔n < lo\/hi < n:=by
 rw[Bool.eq_false_iff,Ne,y39];omega
structure Sig where
 ops:Int->Int
 most:Int->Int
def opsT(k:Int):Int:=if k=1 then 0 else if k=2 then 0 else if k=3 then 2 else if k=4 then 2 else if k=5 then 2 else if k=6 then 0 else if k=7 then 0 else if k=8 then 1 else if k=9 then 4 else if k=10 then 3 else if k=11 then 1 else if k=12 then 3 else if k=13 then 2 else if k=14 then 3 else if k=15 then 1 else if k=16 then 1 else -1
def q33(k:Int):Int:=if k=1 then 20 else if k=2 then 3 else 0
def sigT:Sig:=⟨opsT,q33⟩
def q88(g:Sig)(k n:Int)(len:Nat):Bool:=decide (g.ops k=(len:Int))&& inR n 0 (g.most k)
mutual
def shape(g:Sig):Tr->Int->Bool
 | .mk k n ks,depth=> decide (1<=depth)&&(q88 g k n ks.length && q24 g ks (depth - 1))
def q24(g:Sig):List Tr->Int->Bool
 | [],_=> true
 |t::ts,depth=> shape g t depth && q24 g ts depth
end
def valid(g:Sig)(t:Tr):Bool:=shape g t 30 && decide (cnt t<=400)
mutual
def cntM:Tr->Int->Int
 | .mk _ _ ks,most=> y74 ks most 1
def y74:List Tr->Int->Int->Int
 | [],_,n=> n
 |t::ts,most,n=> if n<=most then y74 ts most (n+cntM t (most - n)) else n
end
mutual
theorem q123: ∀(t:Tr) (most:Int),0<=most->1<=cntM t most/\cntM t most<=most+1/\(cntM t most<=most↔(cnt t:Int)<=most)/\(cntM t most<=most->cntM t most=cnt t)
 | .mk _ _ ks,most,h=> by
  have:=j152 ks most 1 (by omega) (by omega);simp only[cntM,cnt];omega
theorem j152: ∀(ts:List Tr) (most n:Int),1<=n->n<=most+1->n<=y74 ts most n/\y74 ts most n<=most+1/\(y74 ts most n<=most↔n+cnts ts<=most)/\(y74 ts most n<=most->y74 ts most n=n+cnts ts)
 | [],most,n,h,h'=> by simp only[y74,cnts];omega
 |t::ts,most,n,h,h'=> by
  simp only[y74,cnts];by_cases hn:n<=most
  · rw[if_pos hn]
    have h1:=q123 t (most - n) (by omega);have h2:=j152 ts most (n+cntM t (most - n)) (by omega) (by omega);have h3:=j103 t;omega
  · rw[if_neg hn]
    have h3:=j103 t;omega
end
theorem q192{g:Sig}{t:Tr}:valid g t=(shape g t 30 && decide (cntM t 400<=400)):=by
 have:=(q123 t 400 (by omega)).2.2.1;unfold valid
 congr 1
 rw[Bool.eq_iff_iff,decide_eq_true_iff,decide_eq_true_iff];omega
mutual
def j38(g:Sig):Tr->Int->Int->Bool×Int
 | .mk k n ks,deep,c=> if 400 < c+1 then(false,c+1) else if 30 < deep then(false,c+1) else if g.ops k=(ks.length:Int) then(if inR n 0 (g.most k)=true then y38 g ks (deep+1) (c+1) else(false,c+1)) else(false,c+1)
def y38(g:Sig):List Tr->Int->Int->Bool×Int
 | [],_,c=>(true,c)
 |t::ts,deep,c=> if(j38 g t deep c).1=true then y38 g ts deep (j38 g t deep c).2 else(false,(j38 g t deep c).2)
end
mutual
theorem j89(g:Sig): ∀(t:Tr) (deep c:Int),0<=c->c<=400->(j38 g t deep c).1=(shape g t (31 - deep)&& decide (c+cnt t<=400))/\((j38 g t deep c).1=true->(j38 g t deep c).2=c+cnt t)/\c<=(j38 g t deep c).2/\(j38 g t deep c).2<=401/\((j38 g t deep c).1=true->(j38 g t deep c).2<=400)
 | .mk k n ks,deep,c,h,h'=> by
  have hc:(cnt (.mk k n ks):Int)=cnts ks+1:=by simp[cnt]
  simp only[j38,shape,q88];by_cases h1:400 < c+1
  · rw[if_pos h1]
    refine⟨?_,by simp,by simp;omega,by simp;omega,by simp⟩
    symm
    rw[Bool.and_eq_false_iff];exact .inr (decide_eq_false (by omega))
  · rw[if_neg h1]
    by_cases h2:30 < deep
    · rw[if_pos h2]
      refine⟨?_,by simp,by simp;omega,by simp;omega,by simp⟩
      symm
      rw[Bool.and_eq_false_iff,Bool.and_eq_false_iff];exact .inl (.inl (decide_eq_false (by omega)))
    · rw[if_neg h2]
      by_cases h3:g.ops k=(ks.length:Int)
      · rw[if_pos h3]
        by_cases h4:inR n 0 (g.most k)=true
        · rw[if_pos h4]
          obtain⟨e1,e2,e3,e4,e5⟩:=q103 g ks (deep+1) (c+1) (by omega) (by omega);refine⟨?_,fun hh=> by rw[e2 hh];omega,by omega,e4,e5⟩;rw[e1,decide_eq_true h3,h4];have ed:31 -(deep+1)=31 - deep - 1:=by omega
          have d1:decide (1<=31 - deep)=true:=decide_eq_true (by omega);rw[ed,d1];simp only[Bool.true_and]
          congr 1
          exact decide_eq_decide.2 (by omega)
        · rw[if_neg h4]
          refine⟨?_,by simp,by simp;omega,by simp;omega,by simp⟩;simp[h4]
      · rw[if_neg h3]
        refine⟨?_,by simp,by simp;omega,by simp;omega,by simp⟩;simp[h3]
theorem q103(g:Sig): ∀(ts:List Tr) (deep c:Int),0<=c->c<=400->(y38 g ts deep c).1=(q24 g ts (31 - deep)&& decide (c+cnts ts<=400))/\((y38 g ts deep c).1=true->(y38 g ts deep c).2=c+cnts ts)/\c<=(y38 g ts deep c).2/\(y38 g ts deep c).2<=401/\((y38 g ts deep c).1=true->(y38 g ts deep c).2<=400)
 | [],deep,c,h,h'=> by
  have hc:(cnts []:Int)=0:=by simp[cnts]
  have hd:decide (c+(cnts []:Int)<=400)=true:=decide_eq_true (by omega);simp only[y38,q24];refine⟨by rw[hd];rfl,by omega,by omega,by omega,by omega⟩
 |t::ts,deep,c,h,h'=> by
  have hc:(cnts (t::ts):Int)=cnt t+cnts ts:=by simp[cnts]
  simp only[y38,q24];obtain⟨e1,e2,e3,e4,e5⟩:=j89 g t deep c h h';by_cases hs:(j38 g t deep c).1=true
  · rw[if_pos hs]
    have jw:=e2 hs;have cm:=e5 hs;obtain⟨d1,d2,d3,d4,d5⟩:=q103 g ts deep (j38 g t deep c).2 (by omega) cm;refine⟨?_,fun hh=> by rw[d2 hh,jw];omega,by omega,d4,d5⟩;rw[d1];rw[hs] at e1;have qg:=e1.symm;rw[Bool.and_eq_true] at qg;rw[qg.1];simp only[Bool.true_and]
    congr 1
    exact decide_eq_decide.2 (by omega)
  · rw[if_neg hs]
    refine⟨?_,by simp,e3,e4,by simp⟩;have hf:(j38 g t deep c).1=false:=by simpa using hs
    rw[hf] at e1;have qg:=e1.symm;rw[Bool.and_eq_false_iff] at qg
    symm
    rw[Bool.and_eq_false_iff,Bool.and_eq_false_iff];rcases qg with qg|qg
    · exact .inl (.inl qg)
    · have:=of_decide_eq_false qg
      exact .inr (decide_eq_false (by omega))
end
theorem j141(g:Sig)(t:Tr):(j38 g t 1 0).1=valid g t/\(valid g t=true->(j38 g t 1 0).2=cnt t):=by
 obtain⟨e1,e2,_⟩:=j89 g t 1 0 (by omega) (by omega);have h:(j38 g t 1 0).1=valid g t:=by
  rw[e1];unfold valid;have e:(31:Int) - 1=30:=rfl;rw[e]
  congr 1
  exact decide_eq_decide.2 (by omega)
 exact⟨h,fun hv=> by rw[e2 (h.trans hv)];omega⟩
end Go.Proofs.YtbnkbepgmenblaaGreat
namespace Go.Proofs.YtbnkbepgmenblaaGreat.OrdG
open Go Go.Proofs.YtbnkbepgmenblaaGreat.Ord
section
variable {Γ : Type} (P : Program) (ops : Array Oper) (Q : Exit → Act → World → Prop) (l0 : Array Bool) (m : Nat) (E : World × Γ → World × Γ → Prop) (G : Nat → Value → World × Γ → Prop) (a0 : Act) (w0 : World × Γ)
def y183(i:Nat)(o:Oper):Prop:=
 ∀a w z,E w0 (w,z)->(∀t,isDst ops l0 m t=false->a.eval (.tmp t)=a0.eval (.tmp t))->(∀j d,depO ops l0 i j d=true->G j (a.eval (.tmp d)) (w,z))->
  wpOp P ops Q i (fun a' w'=> ∃u z',a'=a.put o.dst u/\E (w,z) (w',z')/\G i u (w',z')) a w
def StepsO:Nat->List Oper->Prop
 |_, []=> True
 |i,o::os=>(isOn l0 i=true\/y183 P ops Q l0 m E G a0 w0 i o)/\StepsO (i+1) os
end
section
variable {Γ : Type} {P : Program} {ops : Array Oper} {Q : Exit → Act → World → Prop} {l0 : Array Bool} {m : Nat} {E : World × Γ → World × Γ → Prop} {G : Nat → Value → World × Γ → Prop} {a0 : Act} {w0 : World × Γ}
theorem StepsO.get{l:List Oper}: ∀{i j:Nat} {o:Oper},StepsO P ops Q l0 m E G a0 w0 i l->l[j]? =some o->isOn l0 (i+j)=true\/y183 P ops Q l0 m E G a0 w0 (i+j) o:=by
 induction l with
 |nil=> intro i j o h hj;simp at hj
 |cons x l ih=>
  intro i j o h hj;cases j with
  |zero=>
   simp only[List.getElem?_cons_zero,Option.some.injEq] at hj;subst hj;exact h.1
  |succ j=>
   have:=ih (j:=j) h.2 (by simpa using hj)
   rwa [show i+1+j=i+(j+1) by omega] at this
theorem wpAnyH_order{S:World->Prop}{N fuel fT:Nat}{lT:Array Bool}(S6:okO ops l0 m N=true)(hN:a0.tmps.size=N)(hf:fuel=opnO l0 ops.size)(Ci:doneO l0 m=lT)(Cp:opnO lT ops.size=fT)
 (Ce:E w0 w0) (hE: ∀u v w,E u v->E v w->E u w) (hG: ∀i v w w',G i v w->E w w'->G i v w') (hS: ∀w z,E w0 (w,z)->S w)
 (steps:StepsO P ops Q l0 m E G a0 w0 0 (ops.toList.take m))
 (fin: ∀(v:Nat->Value) w z,E w0 (w,z)->(∀j,j < m->isOn l0 j=false->G j (v j) (w,z))->wpAnyH P .any ops Q S fT lT (putN ops v (fun j=> !isOn l0 j) a0 m) w):
 wpAnyH P .any ops Q S fuel l0 a0 w0.1:=by
 subst Ci;subst Cp;have cw:=S6;unfold okO at cw;simp only[Bool.and_eq_true,decide_eq_true_eq,List.all_eq_true,List.mem_range,Bool.or_eq_true,Bool.not_eq_true'] at cw;obtain⟨⟨⟨⟨-,Bb⟩,hlowb⟩,hm⟩,hlsz⟩:=cw;have Y0: ∀i,i < ops.size-> ∀k∈q46 ops i,k < i:=fun i hi k hk=>(hlowb i hi k hk).1
 have xy: ∀i,isOn l0 i=true-> ∀k∈q46 ops i,isOn l0 k=true:=fun i hl k hk=> by
  by_cases hi:i < ops.size
  · exact(hlowb i hi k hk).2.resolve_left (by rw[hl];decide)
  · unfold q46 at hk
    rw[show ops[i]? =none from Array.getElem?_eq_none (by omega)] at hk;simp at hk
 have Ow: ∀i,m<=i->i < ops.size->isOn l0 i=false-> ∀j,j < m->isOn l0 j=false->y100 ops ops.size i j=true:=fun i h1 h2 hi j hj hl=> by
  have:=Bb (i - m) (by omega);rw[show m+(i - m)=i by omega] at this;have:=this.resolve_left (by rw[hi];decide) j hj;exact this.resolve_left (by rw[hl];decide)
 have Q8: ∀listed:Array Bool,∀j,(isOn listed j && !isOn l0 j)=true->isOn l0 j=false:=fun listed j h=> by
  simp only[Bool.and_eq_true,Bool.not_eq_true'] at h;exact h.2
 have main: ∀(fuel:Nat) (listed:Array Bool) (a:Act) (w:World) (z:Γ) (v:Nat->Value),listed.size=ops.size->(∀i,m<=i->isOn listed i=isOn l0 i)->(∀i,isOn l0 i=true->isOn listed i=true)->
  (∀i,isOn listed i=true-> ∀k∈q46 ops i,isOn listed k=true)->a=putN ops v (fun j=> isOn listed j && !isOn l0 j) a0 m->(∀j,j < m->isOn listed j=true->isOn l0 j=false->G j (v j) (w,z))->E w0 (w,z)->
  fuel=opnO listed ops.size->wpAnyH P .any ops Q S fuel listed a w:=by
  intro fuel;have done: ∀(fuel:Nat) (listed:Array Bool) (a:Act) (w:World) (z:Γ) (v:Nat->Value),listed.size=ops.size->(∀i,m<=i->isOn listed i=isOn l0 i)->a=putN ops v (fun j=> isOn listed j && !isOn l0 j) a0 m->(∀j,j < m->isOn listed j=true->isOn l0 j=false->G j (v j) (w,z))->E w0 (w,z)->
   fuel=opnO listed ops.size->(∀j,j < m->isOn listed j=true)->wpAnyH P .any ops Q S fuel listed a w:=by
   intro fuel listed a w z v hsz h1 ha hg he hf hall;have hl:listed=doneO l0 m:=by
    apply Array.ext
    · simp[doneO,hsz,hlsz]
    · intro i ft S7
      have e1:isOn listed i=listed[i]:=by simp[isOn,Array.getD_eq_getD_getElem?,ft]
      have e2:(doneO l0 m)[i]=(decide (i < m) ||isOn l0 i):=by simp[doneO]
      rw[<-e1,e2];by_cases hi:i < m
      · rw[hall i hi];simp[hi]
      · rw[h1 i (by omega)];simp[hi]
   subst hl;subst ha;subst hf;rw[y29 (v':=v) (s':=fun j=> !isOn l0 j) a0 (fun j hj=>⟨by rw[hall j hj,Bool.true_and],fun _=> rfl⟩)];exact fin v w z he (fun j hj hl=> hg j hj (hall j hj) hl)
  induction fuel with
  |zero=>
   intro listed a w z v hsz h1 rh h2 ha hg he hf;refine done 0 listed a w z v hsz h1 ha hg he hf fun j hj=> ?_
   have: ∀n,opnO listed n=0-> ∀j,j < n->isOn listed j=true:=by
    intro n
    induction n with
    |zero=> intro _ j hj;omega
    |succ n ih=>
     intro h j hj;unfold opnO at h;by_cases e:j=n
     · subst e
       split at h
       · assumption
       · omega
     · exact ih (by omega) j (by omega)
   exact this ops.size hf.symm j (by omega)
  |succ fuel ih=>
   intro listed a w z v hsz h1 rh h2 ha hg he hf;by_cases hall: ∀j,j < m->isOn listed j=true
   · exact done _ listed a w z v hsz h1 ha hg he hf hall
   · obtain⟨j0,jc,mi,my⟩:=j203 (p:=isOn listed) (n:=m) (by
      apply Classical.byContradiction
      intro h;exact hall fun j hj=> by
       cases hp:isOn listed j with
       |true=> rfl
       |false=> exact absurd ⟨j,hj,hp⟩ h)
     have gt: ∀i,i < ops.size->listed.getD i true=isOn listed i:=fun i hi=> by
      simp[isOn,Array.getD_eq_getD_getElem?,show i < listed.size by omega]
     refine⟨fun h0=> ?_,fun i hi=> ?_⟩
     · have hr:j0∈Region.ready .any ops listed:=j118 (by omega) (by rw[gt _ (by omega)];exact mi) (fun k hk=> my k (Y0 j0 (by omega) k hk))
       rw[h0] at hr;cases hr
     · obtain⟨r1,⟨o,ho⟩,r3⟩:=j76 hi
       have j7:i < ops.size:=(Array.getElem?_eq_some_iff.1 ho).1;have P3:isOn listed i=false:=by rw[<-gt i j7];exact r1
       have qx:isOn l0 i=false:=by
        cases hp:isOn l0 i with
        |false=> rfl
        |true=> rw[rh i hp] at P3;cases P3
       have yr:isOn l0 j0=false:=by
        cases hp:isOn l0 j0 with
        |false=> rfl
        |true=> rw[rh j0 hp] at mi;cases mi
       have Es:i < m:=by
        apply Classical.byContradiction
        intro Cr;have:=y47 (l:=isOn listed) h2 ops.size i j0 r3 (Ow i (by omega) j7 qx j0 jc yr);rw[mi] at this;cases this
       have hst:=StepsO.get (j:=i) steps (by rw[List.getElem?_take,if_pos Es];simpa using ho);rw[Nat.zero_add] at hst;have hst:=hst.resolve_left (by rw[qx];decide);have hd:(dstOf ops i)=o.dst:=by unfold dstOf;rw[ho];rfl
       have Pj:(isOn listed i && !isOn l0 i)=false:=by rw[P3];rfl
       refine wpOp_mono ?_ (hst a w z he ?_ ?_)
       · rintro a' w' ⟨u,z',rfl,qm,Bg⟩
         have I7: ∀j,isOn (listed.setIfInBounds i true) j=if j=i then true else isOn listed j:=fun j=> by
          unfold isOn;by_cases e:j=i
          · subst e
            rw[if_pos rfl];simp[Array.getD_eq_getD_getElem?,show j < listed.size by omega]
          · rw[if_neg e]
            simp[Array.getD_eq_getD_getElem?,Array.getElem?_setIfInBounds_ne (Ne.symm e)]
         refine⟨hS _ _ (hE _ _ _ he qm),ih (listed.setIfInBounds i true) _ w' z' (fun j=> if j=i then u else v j) (by simpa using hsz) ?_ ?_ ?_ ?_ ?_ (hE _ _ _ he qm) ?_⟩
         · intro j hj
           rw[I7,if_neg (by omega)];exact h1 j hj
         · intro j hj
           rw[I7]
           split
           · rfl
           · exact rh j hj
         · intro j hj k hk
           rw[I7] at hj⊢;by_cases e:k=i
           · rw[if_pos e]
           · rw[if_neg e]
             by_cases e2:j=i
             · subst e2;exact r3 k hk
             · rw[if_neg e2] at hj
               exact h2 j hj k hk
         · rw[ha,<-hd,<-q56 S6 (s:=fun j=> isOn listed j && !isOn l0 j) a0 (Q8 listed) Pj qx u Es (Nat.le_refl _)]
           refine y29 a0 (fun j hj=>⟨?_,fun _=> rfl⟩);simp only[I7];by_cases e:j=i
           · rw[if_pos e,if_pos e,e,qx];rfl
           · rw[if_neg e,if_neg e]
         · intro j hj hl M0
           by_cases e:j=i
           · simp only[if_pos e];rw[e];exact Bg
           · simp only[if_neg e]
             rw[I7,if_neg e] at hl;exact hG _ _ _ _ (hg j hj hl M0) qm
         · have:=q105 (l:=listed) (l':=listed.setIfInBounds i true) (i:=i) P3 (by rw[I7,if_pos rfl]) (fun j hj=> by rw[I7,if_neg hj]) (n:=ops.size)
           rw[if_pos j7] at this;omega
       · intro t ht
         rw[ha,j64];intro j hj hs e;unfold isDst at ht;rw[List.any_eq_false] at ht;refine ht j (List.mem_range.2 hj) ?_;rw[Q8 listed j hs,e];simp
       · intro j d V8
         unfold depO at V8;simp only[Bool.and_eq_true,beq_iff_eq,List.contains_iff_mem,Bool.not_eq_true'] at V8;have M0:=r3 j V8.1.1;have hji:=Y0 i j7 j V8.1.1;rw[ha,j56 S6 v _ (Q8 listed) a0 hN V8.1.2 (by rw[M0,V8.2];rfl) (by omega) (Nat.le_refl _)];exact hg j (by omega) M0 V8.2
 refine main fuel l0 a0 w0.1 w0.2 (fun _=> undef) hlsz (fun _ _=> rfl) (fun _ h=> h) xy ?_ ?_ Ce hf
 · have: ∀n,putN ops (fun _=> undef) (fun j=> isOn l0 j && !isOn l0 j) a0 n=a0:=fun n=> by
    induction n with
    |zero=> rfl
    |succ n ih=>
     unfold putN;rw[if_neg,ih];simp
   exact(this m).symm
 · intro j hj hl hl2
   rw[hl] at hl2;cases hl2
end
end Go.Proofs.YtbnkbepgmenblaaGreat.OrdG
namespace Go.Proofs.YtbnkbepgmenblaaGreat
open Go.RowKit
def At(w:World)(p:World->Prop):Prop:= ∀w',Ext w w'->p w'
theorem At.and{w:World}{p q:World->Prop}(h:At w p)(k:At w q):At w (fun w'=> p w'/\q w'):=fun x hx=>⟨h x hx,k x hx⟩
structure y33 (W:World) where
 world:World
 ext:Ext W world
instance (W:World):Nonempty (y33 W):=⟨⟨W,xr W⟩⟩
theorem j17{P:Program}{id:Nat}{Q:Exit->Act->World->Prop}{a:Act}{W:World}{l:List Oper}(hm:P.follows .mixedOrders=true)(hB:Region.lexB .any l.toArray=true)
 (h:wpQuiet P l.toArray (fun w'=> ∃x:y33 W,w'=x.world) (fun a'=> ∀w',(∃x:y33 W,w'=x.world)->Q .normal a' w') l a):(Code.region id l.toArray true).wp P Q a W:=
 wp_region_quiet (C:=fun w'=> ∃x:y33 W,w'=x.world) hm hB ⟨⟨_,(xr W).drew⟩,rfl⟩ (by simpa using h)
theorem q81{P:Program}{f:FuncId}{args:Array Value}{W:World}{x:y33 W}{v:Value}(h:Calls P f args x.world fun e w'=> e= .returned v/\Ext x.world w'):
 Calls P f args x.world fun e w''=> e= .returned v/\ ∃y:y33 W,w''=y.world:=
 h.mono fun e w' ⟨he,hw⟩=>⟨he,⟨w',x.ext.trans hw⟩,rfl⟩
theorem q15{P:Program}{f:FuncId}{args:Array Value}{W:World}{x:y33 W}{v:Value}(h:Calls P f args x.world fun e w'=> e= .returned v/\x.world=w'):
 Calls P f args x.world fun e w''=> e= .returned v/\ ∃y:y33 W,w''=y.world:=
 h.mono fun e w' ⟨he,hw⟩=>⟨he,x,hw.symm⟩
theorem y33.own3{W:World}{g:Nat}{x0 x1 x2:Value}{e:TypeId}(hb:W.heap[g]? =some (.cells #[x0,x1,x2] e (0,0))):
 (∀y:y33 W,y.world.cell? ⟨g,0,none⟩=some x0)/\(∀y:y33 W,y.world.cell? ⟨g,1,none⟩=some x1)/\(∀y:y33 W,y.world.cell? ⟨g,2,none⟩=some x2):=
 ⟨fun y=> y.ext.cell (q10 hb 0),fun y=> y.ext.cell (q10 hb 1),fun y=> y.ext.cell (q10 hb 2)⟩
theorem y33.cell{W:World}{b o:Nat}{v:Value}(h:W.cell? ⟨b,o,none⟩=some v)(y:y33 W):y.world.cell? ⟨b,o,none⟩=some v:=y.ext.cell h
theorem y18{P:Program}(w:World)(base:Nat)(t ty e:TypeId)(i:TypeInfo)(z:Value)(size bytes:Nat)(ht:P.underlying t=some (.slice e))(hi:P.info? e=some i)(hz:i.zero=some z)
 (hsize:i.size=size) (hby:i.bytes=bytes) (hzs:z.cells.size=size) (hsz:0 < size)
 (v:Value) (n:Nat) (xs:List Value) (hown:w.ownsRow base e size v n xs)
 (a:Addr) (m c:Nat) (news:List Value) (hl:news.length=m*size) (hnews: ∀j u,news[j]? =some u->w.cell? (a.add j)=some u) (h1: ∀u∈news,u.oneCell'=true)
 (h63:n+m<=maxLen) (hbytes:(n+m)*bytes<=140737488355328) (hbase:base<=w.heap.size):
 ∃v' w',(Builtin.append_ #[t,t] ty #[v,.slice (some a) m c]).run P w= .ok v' w'/\w'.ownsRow base e size v' (n+m) (xs++news)/\w.grownBy w' v.ownBlock/\
  (∀g,v'.ownBlock=some g->v.ownBlock=some g\/w.heap.size<=g):=by
 obtain⟨v',w',hr,h2,h3,h4⟩:=run_append_own (P:=P) w base t ty e i z size bytes ht hi hz hsize hby hzs hsz v n xs hown a m c news hl hnews h1 h63 hbytes hbase;refine⟨v',w',hr,h2,h3,fun g hg=> ?_⟩;rcases hown.2 with⟨rfl,rfl⟩ |⟨g0,cap,cur,rfl,_,hg0,ji,hcm,hcs,htake⟩
 · by_cases hm:m=0
   · rw[h4.2 ⟨rfl,hm⟩] at hg
     cases hg
   · have hn':m<=9223372036854775807:=by simp only[maxLen] at h63;omega
     have Ge:=run_append_nil (P:=P) w t ty e i z ht hi hz a m c news (by rw[hl,hsize]) hnews (by omega) (by omega) (by rw[hby];have hb:=hbytes;simp only[Nat.zero_add] at hb;omega);rw[Ge] at hr;cases hr
     simp only[Value.ownBlock,Option.some.injEq] at hg;exact .inr (by omega)
 · by_cases hroom:n+m<=cap
   · have hfit:n*i.size+news.length<=cur.size:=by rw[hl,hcs,hsize,<-Nat.add_mul];exact Nat.mul_le_mul_right _ hroom
     have Ge:=run_append_room (P:=P) w t ty e i ht hi g0 n cap cur hg0 a m c news (by rw[hl,hsize]) hnews h1 hroom hfit;rw[Ge] at hr;cases hr
     exact .inl hg
   · have hn':n+m<=9223372036854775807:=by simp only[maxLen] at h63;omega
     have holds: ∀j u,xs[j]? =some u->w.cell? ((⟨g0,0,none⟩:Addr).add j)=some u:=hown.cells (g:=g0) rfl;have Ge:=run_append_grow (P:=P) w t ty e i z ht hi hz ⟨g0,0,none⟩ n cap xs (by rw[hown.1,hsize]) holds a m c news (by rw[hl,hsize]) hnews (by omega) (by omega) (by rw[hby];exact growslice_fits (by omega) hbytes);rw[Ge] at hr;cases hr
     simp only[Value.ownBlock,Option.some.injEq] at hg;exact .inr (by omega)
def Grow(W w:World)(e:TypeId)(v:Value)(ks:List Tr):Prop:=
 ∃xs L,w.ownsRow W.heap.size e 3 v ks.length xs/\OwnL w e xs ks L/\y44 W w L/\ ∀g,v.ownBlock=some g-> ¬g∈L
theorem Grow.nil(W w:World)(e:TypeId):Grow W w e (.slice none 0 0) []:=
 ⟨[], [],World.ownsRow_nil _ _ _ _,OwnL.nil,y44.nil _ _,fun _ _ h=> by cases h⟩
theorem j27{w w':World}{base:Nat}{e:TypeId}{v:Value}{n:Nat}{xs:List Value}(h:w.ownsRow base e 3 v n xs)(hb: ∀g,v.ownBlock=some g->w'.heap[g]? =w.heap[g]?):w'.ownsRow base e 3 v n xs:=by
 refine⟨h.1, ?_⟩;rcases h.2 with h|⟨g,cap,cur,rfl,h1,h2,r⟩
 · exact .inl h
 · exact .inr ⟨g,cap,cur,rfl,h1,(hb g rfl).trans h2,r⟩
theorem Grow.same{W w w':World}{e:TypeId}{v:Value}{ks:List Tr}(h:Grow W w e v ks)(hs:w.heap.size<=w'.heap.size)(hb: ∀b,W.heap.size<=b->b < w.heap.size->w'.heap[b]? =w.heap[b]?):Grow W w' e v ks:=by
 obtain⟨xs,L,h1,h2,h3,h4⟩:=h;exact⟨xs,L,j27 h1 (fun g hg=> hb g (h1.lt g hg).1 (h1.lt g hg).2),h2.mono (fun b hm=> hb b (h3.2 b hm).1 (h3.2 b hm).2),h3.mono (Nat.le_refl _) hs,h4⟩
theorem Grow.ext{W w w':World}{e:TypeId}{v:Value}{ks:List Tr}(h:Grow W w e v ks)(he:Ext w w'):Grow W w' e v ks:=h.same he.size (fun b _ hb=> he.heap b hb)
theorem Grow.after{W w w':World}{e:TypeId}{v:Value}{ks:List Tr}(h:Grow W w e v ks)(ha:y25 W.heap.size w w'):Grow W w' e v ks:=h.same ha.2 (fun b hb _=> ha.1 b hb)
theorem Grow.made{W w:World}{e:TypeId}{v:Value}{ks:List Tr}(h:Grow W w e v ks): ∃A cap,v= .slice A ks.length cap/\ks.length<=cap/\cap<=maxLen/\y106 W w e A ks:=by
 obtain⟨xs,L,h1,h2,h3,h4⟩:=h;rcases h1.2 with⟨rfl,h0⟩ |⟨g,cap,cur,rfl,hb,hg,ji,hcm,hcs,ht⟩
 · have:ks= []:=List.eq_nil_of_length_eq_zero h0
   subst this;exact⟨none,0,rfl,Nat.le_refl _,Nat.zero_le _,y106.nil _ _ _ _⟩
 · refine⟨_,cap,rfl,ji,hcm,g::L,.inr ⟨g,cur,L,rfl,hg,rfl, ?_⟩,List.nodup_cons.2 ⟨h4 g rfl,h3.1⟩,fun b hm=> ?_⟩
   · have:=OwnL.tail (cur.toList.drop (ks.length*3)) h2
     rw[<-ht,List.take_append_drop] at this;exact this
   · rcases List.mem_cons.1 hm with rfl|hm
     · exact⟨hb,j10 hg⟩
     · exact h3.2 b hm
theorem y93{w w':World}{e:TypeId}{t:Tr}{v0 v1 v2:Value}(h:Made w w' e t (.agg #[v0,v1,v2])): ∀u∈ [v0,v1,v2],u.oneCell'=true:=by
 obtain⟨k,n,ks⟩:=t;obtain⟨A,cap,hv,_⟩:=Made.mk_iff.1 h;simp only[Value.agg.injEq,Array.mk.injEq,List.cons.injEq,and_true] at hv;obtain⟨rfl,rfl,rfl⟩:=hv;intro u hu;simp only[List.mem_cons,List.not_mem_nil,or_false] at hu;rcases hu with rfl|rfl|rfl <;> rfl
theorem q51{w:World}{g:Nat}{v0 v1 v2:Value}{e:TypeId}(h:w.heap[g]? =some (.cells #[v0,v1,v2] e (0,0))): ∀j u, [v0,v1,v2][j]? =some u->w.cell? ((⟨g,0,none⟩:Addr).add j)=some u:=by
 intro j u hu;rw[Addr.add_lit,Nat.zero_add,q10 h]
 simpa using hu
theorem Grow.step{W wr w1 w w':World}{e:TypeId}{v v':Value}{ks:List Tr}{t:Tr}{v0 v1 v2:Value}{xs:List Value}{L:List Nat}
 (hL:OwnL wr e xs ks L) (hF:y44 W wr L) (hv: ∀g,v.ownBlock=some g-> ¬g∈L/\g < wr.heap.size/\W.heap.size<=g) (hx:xs.length=ks.length*3) (hW:W.heap.size<=wr.heap.size) (C6:Ext wr w1) (hM:Made wr w1 e t (.agg #[v0,v1,v2])) (M5:Ext w1 w)
 (h2:w'.ownsRow W.heap.size e 3 v' (ks.length+1) (xs++ [v0,v1,v2])) (h3:w.grownBy w' v.ownBlock) (h4: ∀g,v'.ownBlock=some g->v.ownBlock=some g\/w.heap.size<=g):Grow W w' e v' (ks++ [t])/\Below W.heap.size wr w':=by
 obtain⟨M,hM,yj⟩:=hM;have s1:=C6.size;have s2:=M5.size;have keep: ∀b,b < w1.heap.size->(v.ownBlock≠some b)->w'.heap[b]? =w1.heap[b]? :=fun b hb hne=>(h3.block b (by omega) (fun h=> hne h.symm)).trans (M5.heap b hb)
 refine⟨⟨_,L++M,by simpa using h2,OwnL.snoc (hM.mono fun b hb=> keep b (yj.2 b hb).2 fun he=> ?_) [] hx (hL.mono fun b hb=>(keep b (by have:=(hF.2 b hb).2;omega) fun he=> ?_).trans (C6.heap b (hF.2 b hb).2)), ?_,fun g hg hm=> ?_⟩, ?_⟩
 · have:=(hv b he).2.1
   have:=(yj.2 b hb).1;omega
 · exact(hv b he).1 hb
 · have h5:=hF.append (d:=w1) yj (Nat.le_refl _) hW C6.size
   exact h5.mono (Nat.le_refl _) (by have:=h3.size;omega)
 · rcases h4 g hg with h|h
   · rcases List.mem_append.1 hm with hm|hm
     · exact(hv g h).1 hm
     · have:=(hv g h).2.1
       have:=(yj.2 g hm).1;omega
   · rcases List.mem_append.1 hm with hm|hm
     · have:=(hF.2 g hm).2
       omega
     · have:=(yj.2 g hm).2
       omega
 · refine⟨h3.os.trans (M5.os.trans C6.os),h3.tape.trans (M5.tape.trans C6.tape),h3.output.trans (M5.output.trans C6.output),by have:=h3.size;omega,fun b hb=> ?_⟩
   exact(keep b (by omega) (fun he=> by have:=(hv b he).2.2;omega)).trans (C6.heap b (by omega))
theorem q111{P:Program}(w:World){o:Oper}{a:Act}{K:Act->World->Prop}{Q:Exit->Act->World->Prop}(s x:Operand)(t:TypeId)
 (ho:o.op= .call {callee:= .builtin .append,args:=#[s,x],argTypes:=#[t,t]})
 (e:TypeId) (i:TypeInfo) (z:Value) (ht:P.underlying t=some (.slice e)) (hi:P.info? e=some i) (hz:i.zero=some z) (hsize:i.size=3) (hby:i.bytes=40) (hzs:z.cells.size=3)
 {W wr w1:World} {v:Value} {ks:List Tr} {tr:Tr} {v0 v1 v2:Value} {gx:Nat} (hs:a.eval s=v) (hG:Grow W wr e v ks) (hW:W.heap.size<=wr.heap.size) (C6:Ext wr w1) (hM:Made wr w1 e tr (.agg #[v0,v1,v2])) (M5:Ext w1 w)
 (hx:a.eval x= .slice (some ⟨gx,0,none⟩) 1 1) (hgx:w.heap[gx]? =some (.cells #[v0,v1,v2] e (0,0))) (hn:ks.length < 1099511627776)
 (h: ∀v' w',Grow W w' e v' (ks++ [tr])->Below W.heap.size wr w'->K (a.put o.dst v') w'):o.wp P a w K Q:=by
 obtain⟨xs,L,h1,h2,h3,h4⟩:=hG;have s1:=C6.size;have s2:=M5.size;have hown:w.ownsRow W.heap.size e 3 v ks.length xs:=j27 h1 (fun g hg=>(C6.trans M5).heap g (h1.lt g hg).2);obtain⟨v',w',hr,r1,r2,r3⟩:=y18 (P:=P) w W.heap.size t o.type e i z 3 40 ht hi hz hsize hby hzs (by decide) v ks.length xs hown ⟨gx,0,none⟩ 1 1 [v0,v1,v2] rfl (q51 hgx) (y93 hM) (by unfold maxLen;omega) (by omega) (by omega);obtain⟨g1,g2⟩:=Grow.step h2 h3 (fun g hg=>⟨h4 g hg,(h1.lt g hg).2,(h1.lt g hg).1⟩) h1.1 hW C6 hM M5 r1 r2 r3;unfold Oper.wp execOp;simp only[ho,resolve,invoke,builtin,Sem.run_bind,Sem.run_pure,Result.andThen_ok,List.map_toArray,List.map_cons,List.map_nil,hs,hx,hr];exact h v' w' g1 g2
theorem q29{P:Program}(w:World){ops:Array Oper}{o:Oper}{a:Act}{K:Act->World->Prop}{Q:Exit->Act->World->Prop}{E:Prop}(hgd:o.guard=none)(s x:Operand)(t:TypeId)
 (ho:o.op= .call {callee:= .builtin .append,args:=#[s,x],argTypes:=#[t,t]})
 (e:TypeId) (i:TypeInfo) (z:Value) (ht:P.underlying t=some (.slice e)) (hi:P.info? e=some i) (hz:i.zero=some z) (hsize:i.size=3) (hby:i.bytes=40) (hzs:z.cells.size=3)
 {W wr w1:World} {v:Value} {ks:List Tr} {tr:Tr} {v0 v1 v2:Value} {gx:Nat} (hs:a.eval s=v) (hG:Grow W wr e v ks) (hW:W.heap.size<=wr.heap.size) (C6:Ext wr w1) (hM:Made wr w1 e tr (.agg #[v0,v1,v2])) (M5:Ext w1 w)
 (hx:a.eval x= .slice (some ⟨gx,0,none⟩) 1 1) (hgx:w.heap[gx]? =some (.cells #[v0,v1,v2] e (0,0))) (hn:ks.length < 1099511627776)
 (h: ∀v' w',Grow W w' e v' (ks++ [tr])->Below W.heap.size wr w'->K (a.put o.dst v') w'):
 if Region.wanted o (yielded ops a.tmps)=true then Oper.wp P o a w K Q else E:=by
 have hw:Region.wanted o (yielded ops a.tmps)=true:=by simp[Region.wanted,hgd]
 rw[if_pos hw];exact q111 w s x t ho e i z ht hi hz hsize hby hzs hs hG hW C6 hM M5 hx hgx hn h
theorem InL.copy{w:World}{S:Nat->Prop}{b:Nat}: ∀{o:Nat} {ks:List Tr},InL w S b o ks-> ∃news:List Value,news.length=ks.length*3/\(∀j u,news[j]? =some u->w.cell? ⟨b,o+j,none⟩=some u)/\(∀u∈news,u.oneCell'=true)/\
 ∀(w':World) (S':Nat->Prop) (b' o':Nat),(∀x,S x->S' x/\w'.heap[x]? =w.heap[x]?)->(∀j u,news[j]? =some u->w'.cell? ⟨b',o'+j,none⟩=some u)->InL w' S' b' o' ks
 |o, [],_=>⟨[],rfl,(fun j u h=> by simp at h),(fun u h=> by simp at h),(fun _ _ _ _ _ _=> by unfold InL;trivial)⟩
 |o,t::ts,h=> by
  unfold InL at h;obtain⟨⟨v0,v1,v2,c0,c1,c2,ht⟩,Ct⟩:=h;obtain⟨news,n1,n2,n3,n4⟩:=InL.copy Ct;refine⟨v0::v1::v2::news,by simp[n1];omega,fun j u hu=> ?_,fun u hu=> ?_,fun w' S' b' o' hS hc=> ?_⟩
  · match j,hu with
    |0,hu=> simpa using(by simpa using hu:v0=u)▸c0
    |1,hu=> simpa using(by simpa using hu:v1=u)▸c1
    |2,hu=> simpa using(by simpa using hu:v2=u)▸c2
    |j+3,hu=>
     have:=n2 j u (by simpa using hu)
     rwa [show o+3+j=o+(j+3) by omega] at this
  · obtain⟨k,n,kids⟩:=t
    obtain⟨A,cap,hv,_⟩:=InT.mk_iff.1 ht;simp only[Value.agg.injEq,Array.mk.injEq,List.cons.injEq,and_true] at hv;obtain⟨rfl,rfl,rfl⟩:=hv;simp only[List.mem_cons] at hu;rcases hu with rfl|rfl|rfl|hu
    · rfl
    · rfl
    · rfl
    · exact n3 u hu
  · unfold InL
    refine⟨⟨v0,v1,v2,by simpa using hc 0 v0 rfl,hc 1 v1 rfl,hc 2 v2 rfl,ht.mono (fun x hx=>(hS x hx).1) (fun x hx=>(hS x hx).2)⟩,n4 w' S' b' (o'+3) hS fun j u hu=> ?_⟩;have:=hc (j+3) u (by simpa using hu)
    rwa [show o'+(j+3)=o'+3+j by omega] at this
theorem q80{P:Program}(w:World){ops:Array Oper}{rest:List Oper}{o:Oper}{a:Act}{Q:Exit->Act->World->Prop}(hgd:o.guard=none)(s x:Operand)(t:TypeId)
 (ho:o.op= .call {callee:= .builtin .append,args:=#[s,x],argTypes:=#[t,t]})
 (e:TypeId) (i:TypeInfo) (z:Value) (ht:P.underlying t=some (.slice e)) (hi:P.info? e=some i) (hz:i.zero=some z) (hsize:i.size=3) (hby:i.bytes=40) (hzs:z.cells.size=3)
 {W:World} {v:Value} {A:Option Addr} {cap:Nat} {ks:List Tr} (hs:a.eval s=v) (hown:w.ownsRow W.heap.size e 3 v 0 []) (hE:Ext W w) (hx:a.eval x= .slice A ks.length cap) (Gp:A=none->cap=0) {S:Nat->Prop} (hS: ∀b,S b->b < W.heap.size) (hK:InK W S A ks) (hn:ks.length<=1099511627776)
 (h: ∀B c' w',InK w' (fun b=> S b\/W.heap.size<=b/\b < w'.heap.size) B ks->ks.length<=c'->c'<=maxLen->Ext W w'->(B=none->c'=0)->wpList P ops Q rest (a.put o.dst (.slice B ks.length c')) w'):wpList P ops Q (o::rest) a w:=by
 refine wpList_plain hgd fun K hK'=> ?_
 have key: ∃v' w',(Builtin.append_ #[t,t] o.type #[v,.slice A ks.length cap]).run P w= .ok v' w'/\ ∃B c',v'= .slice B ks.length c'/\InK w' (fun b=> S b\/W.heap.size<=b/\b < w'.heap.size) B ks/\ks.length<=c'/\c'<=maxLen/\Ext W w'/\(B=none->c'=0):=by
  cases A with
  |none=>
   obtain rfl:=Gp rfl;have hnil:ks= []:=by
    rcases hK with h|⟨b,o,h,_⟩
    · exact h
    · cases h
   subst hnil;have hr:=run_append_owned_none (P:=P) w W.heap.size t o.type e i 3 ht hi v 0 [] hown;refine⟨v,w,hr, ?_⟩;rcases hown.2 with⟨rfl,_⟩ |⟨g,c,cur,rfl,_,_,h1,h2,_⟩
   · exact⟨none,0,rfl,.inl rfl,Nat.le_refl _,Nat.zero_le _,hE,fun _=> rfl⟩
   · exact⟨_,c,rfl,.inl rfl,h1,h2,hE,fun h=> by cases h⟩
  |some ad=>
   have I2: ∀w',w.grownBy w' v.ownBlock->Ext W w':=fun w' hg=> hE.grown hg (fun k hk=>(hown.lt k hk).1)
   have hb: ∀(news:List Value),news.length=ks.length*3->(∀j u,news[j]? =some u->w.cell? (ad.add j)=some u)->(∀u∈news,u.oneCell'=true)->
    ∃v' w',(Builtin.append_ #[t,t] o.type #[v,.slice (some ad) ks.length cap]).run P w= .ok v' w'/\Ext W w'/\ ∃B c',v'= .slice B ks.length c'/\ks.length<=c'/\c'<=maxLen/\(B=none->c'=0)/\
     (ks≠ []-> ∃g,B=some ⟨g,0,none⟩/\W.heap.size<=g/\g < w'.heap.size/\ ∀j u,news[j]? =some u->w'.cell? ⟨g,0+j,none⟩=some u):=by
    intro news n1 n2 n3;obtain⟨v',w',hr,r1,r2,r3⟩:=y18 (P:=P) w W.heap.size t o.type e i z 3 40 ht hi hz hsize hby hzs (by decide) v 0 [] hown ad ks.length cap news n1 n2 n3 (by unfold maxLen;omega) (by omega) hE.size;refine⟨v',w',hr,I2 w' r2, ?_⟩;have hc:=fun g hg=> r1.cells (g:=g) hg
    have hlt:=r1.lt;rcases r1.2 with⟨rfl,h0⟩ |⟨g,c,cur,rfl,h5,h6,h1,h2,_⟩
    · exact⟨none,0,by rw[show ks.length=0 by omega],by omega,Nat.zero_le _,fun _=> rfl,fun hne=> absurd (List.eq_nil_of_length_eq_zero (by omega)) hne⟩
    · refine⟨_,c,by rw[Nat.zero_add],by omega,h2,fun h=> by(cases h),fun _=>⟨g,rfl,h5,j10 h6,fun j u hu=> ?_⟩⟩
      have:=hc g rfl j u (by simpa using hu)
      rwa [Addr.add_lit] at this
   rcases hK with rfl|⟨b,o,hab,hb',hl⟩
   · obtain⟨v',w',hr,hx,B,c',q1,q2,q3,q4,_⟩:=hb [] rfl (fun _ _ h=> by cases h) (fun _ h=> by cases h)
     exact⟨v',w',hr,B,c',q1,.inl rfl,q2,q3,hx,q4⟩
   · obtain rfl:=Option.some.inj hab
     obtain⟨news,n1,n2,n3,n4⟩:=hl.copy;obtain⟨v',w',hr,hx,B,c',q1,q2,q3,q4,q5⟩:=hb news n1 (fun j u hu=> by rw[Addr.add_lit];exact hE.cell (n2 j u hu)) n3;refine⟨v',w',hr,B,c',q1, ?_,q2,q3,hx,q4⟩;by_cases hne:ks= []
     · exact .inl hne
     · obtain⟨g,rfl,hg0,hg,hcell⟩:=q5 hne
       exact .inr ⟨g,0,rfl,.inr ⟨hg0,hg⟩,n4 w' _ g 0 (fun x Bc=>⟨.inl Bc,hx.heap x (hS x Bc)⟩) hcell⟩
 obtain⟨v',w',hr,B,c',rfl,r1,r2,r3,r4,r5⟩:=key;unfold Oper.wp execOp;simp only[ho,resolve,invoke,builtin,Sem.run_bind,Sem.run_pure,Result.andThen_ok,List.map_toArray,List.map_cons,List.map_nil,hs,hx,hr];exact hK' _ _ (h B c' w' r1 r2 r3 r4 r5)
end Go.Proofs.YtbnkbepgmenblaaGreat
namespace Go.Proofs.YtbnkbepgmenblaaGreat
def ofL(l:List UInt8):ByteArray:=⟨l.toArray⟩
theorem j15(a b:List UInt8):ofL a++ofL b=ofL (a++b):=by
 apply ByteArray.ext
 simp[ofL]
theorem q118(l:List UInt8):(ofL l).size=l.length:=by simp[ofL,ByteArray.size]
theorem q154(l:List UInt8):(ofL l).data.toList=l:=by simp[ofL]
def decL(n:Int):List UInt8:=if n<=9 then [UInt8.ofNat (48+n.toNat)] else [UInt8.ofNat (48+n.toNat / 10),UInt8.ofNat (48+n.toNat % 10)]
def opn(k:Int):List UInt8:=
 if k=3 then [40] else if k=4 then [91] else if k=5 then [40] else if k=6 then [78] else if k=7 then [48] else if k=8 then [43] else if k=9 then [60] else if k=10 then [123] else if k=11 then [33] else if k=12 then [64,60] else if k=13 then [40] else if k=14 then [124] else if k=15 then [94] else if k=16 then [95] else []
def sep(k:Int):List UInt8:=
 if k=3 then [62] else if k=4 then [93] else if k=5 then [32] else if k=13 then [42] else [44]
def cls(k:Int):List UInt8:=
 if k=3 then [41] else if k=5 then [41] else if k=9 then [62] else if k=10 then [125] else if k=12 then [62] else if k=13 then [41] else if k=14 then [124] else []
mutual
def fmtL:Tr->List UInt8
 | .mk k n ks=> if k=1 then 35::decL n else if k=2 then 42::decL n else opn k++fmtK (sep k) ks true++cls k
def fmtK:List UInt8->List Tr->Bool->List UInt8
 |_, [],_=> []
 |s,t::ts,f=>(if f=true then [] else s)++fmtL t++fmtK s ts false
end
theorem y122(n:Int):(decL n).length<=2:=by unfold decL;split <;> simp
theorem opn_len(k:Int):(opn k).length<=2:=by
 unfold opn;by_cases h3:k=3
 · rw[if_pos h3];decide
 rw[if_neg h3];by_cases h4:k=4
 · rw[if_pos h4];decide
 rw[if_neg h4];by_cases h5:k=5
 · rw[if_pos h5];decide
 rw[if_neg h5];by_cases h6:k=6
 · rw[if_pos h6];decide
 rw[if_neg h6];by_cases h7:k=7
 · rw[if_pos h7];decide
 rw[if_neg h7];by_cases h8:k=8
 · rw[if_pos h8];decide
 rw[if_neg h8];by_cases h9:k=9
 · rw[if_pos h9];decide
 rw[if_neg h9];by_cases h10:k=10
 · rw[if_pos h10];decide
 rw[if_neg h10];by_cases h11:k=11
 · rw[if_pos h11];decide
 rw[if_neg h11];by_cases ck:k=12
 · rw[if_pos ck];decide
 rw[if_neg ck];by_cases S9:k=13
 · rw[if_pos S9];decide
 rw[if_neg S9];by_cases er:k=14
 · rw[if_pos er];decide
 rw[if_neg er];by_cases gg:k=15
 · rw[if_pos gg];decide
 rw[if_neg gg];by_cases F8:k=16
 · rw[if_pos F8];decide
 rw[if_neg F8]
 decide
theorem sep_len(k:Int):(sep k).length=1:=by
 unfold sep;by_cases h3:k=3
 · rw[if_pos h3];decide
 rw[if_neg h3];by_cases h4:k=4
 · rw[if_pos h4];decide
 rw[if_neg h4];by_cases h5:k=5
 · rw[if_pos h5];decide
 rw[if_neg h5];by_cases S9:k=13
 · rw[if_pos S9];decide
 rw[if_neg S9]
 decide
theorem cls_len(k:Int):(cls k).length<=1:=by
 unfold cls;by_cases h3:k=3
 · rw[if_pos h3];decide
 rw[if_neg h3];by_cases h5:k=5
 · rw[if_pos h5];decide
 rw[if_neg h5];by_cases h9:k=9
 · rw[if_pos h9];decide
 rw[if_neg h9];by_cases h10:k=10
 · rw[if_pos h10];decide
 rw[if_neg h10];by_cases ck:k=12
 · rw[if_pos ck];decide
 rw[if_neg ck];by_cases S9:k=13
 · rw[if_pos S9];decide
 rw[if_neg S9];by_cases er:k=14
 · rw[if_pos er];decide
 rw[if_neg er]
 decide
mutual
theorem y30: ∀t:Tr,(fmtL t).length+1<=5*cnt t
 | .mk k n ks=> by
  have h1:=y122 n;have h2:=opn_len k;have h3:=cls_len k;have h4:=q72 (sep k) (by rw[sep_len k];omega) ks true;unfold fmtL;simp only[cnt]
  split
  · simp;omega
  · split
    · simp;omega
    · simp;omega
theorem q72(s:List UInt8)(hs:s.length<=1): ∀(ts:List Tr) (f:Bool),(fmtK s ts f).length<=5*cnts ts
 | [],_=> by simp[fmtK]
 |t::ts,f=> by
  have h1:=y30 t;have h2:=q72 s hs ts false;unfold fmtK;simp only[cnts];cases f <;> simp <;> omega
end
def fmtV(t:Tr):List UInt8:=if valid sigT t=true then fmtL t else []
def y75(c:UInt8):Bool:=decide (48<=c)&& decide (c<=57)
def numS(l:List UInt8)(a:Nat)(two:Bool):Option (Int×Nat):=
 match l[a]?with
 |none=> none
 |some c=> if y75 c=true then
  (if two=true then
   match l[a+1]?with
   |none=> some ((c.toNat:Int) - 48,a+1)
   |some d=> if y75 d=true then(if c=48 then none else some (((c.toNat:Int) - 48)*10+((d.toNat:Int) - 48),a+2)) else some ((c.toNat:Int) - 48,a+1)
  else some ((c.toNat:Int) - 48,a+1))
  else none
def ser(p:Nat->Option (Tr×Nat))(l:List UInt8)(last:UInt8):Nat->Nat->Option (List Tr×Nat)
 |0,a=> some ([],a)
 |m+1,a=> match p a with
  |none=> none
  |some (t,b)=> if l[b]? =some (if m=0 then last else 44) then(ser p l last m (b+1)).map (fun x=>(t::x.1,x.2)) else none
def one(k:Int)(x:Option (Tr×Nat)):Option (Tr×Nat):=x.map fun y=>(.mk k 0 [y.1],y.2)
def rndK(c:Option UInt8):Int:=if c=some 62 then 3 else if c=some 42 then 13 else if c=some 32 then 5 else 0
def rnd(p:Nat->Option (Tr×Nat))(l:List UInt8)(a:Nat):Option (Tr×Nat):=
 match p a with
 |none=> none
 |some (x,b)=> if rndK l[b]? =0 then none else
  match p (b+1) with
  |none=> none
  |some (y,c)=> if l[c]? =some 41 then some (.mk (rndK l[b]?) 0 [x,y],c+1) else none
def sqr(p:Nat->Option (Tr×Nat))(l:List UInt8)(a:Nat):Option (Tr×Nat):=
 match p a with
 |none=> none
 |some (x,b)=> if l[b]? =some 93 then(match p (b+1) with|none=> none|some (y,c)=> some (.mk 4 0 [x,y],c)) else none
def blkK(c:UInt8):Int:=if c=60 then 9 else if c=123 then 10 else if c=124 then 14 else if c=64 then 12 else 0
def blkE(c:UInt8):UInt8:=if c=123 then 125 else if c=124 then 124 else 62
def blk(p:Nat->Option (Tr×Nat))(l:List UInt8)(a:Nat)(c:UInt8):Option (Tr×Nat):=
 if blkK c=0 then none
 else if c=64 then(if l[a+1]? =some 60 then(ser p l 62 3 (a+2)).map (fun x=>(.mk 12 0 x.1,x.2)) else none)
 else(ser p l (blkE c) (if c=60 then 4 else 3) (a+1)).map (fun x=>(.mk (blkK c) 0 x.1,x.2))
def prs:Nat->List UInt8->Nat->Option (Tr×Nat)
 |0,_,_=> none
 |d+1,l,a=>
  match l[a]?with
  |none=> none
  |some c=>
   if c=35 then(numS l (a+1) true).map (fun x=>(.mk 1 x.1 [],x.2))
   else if c=42 then(numS l (a+1) false).map (fun x=>(.mk 2 x.1 [],x.2))
   else if c=78 then some (.mk 6 0 [],a+1)
   else if c=48 then some (.mk 7 0 [],a+1)
   else if c=43 then one 8 (prs d l (a+1))
   else if c=33 then one 11 (prs d l (a+1))
   else if c=94 then one 15 (prs d l (a+1))
   else if c=95 then one 16 (prs d l (a+1))
   else if c=40 then rnd (prs d l) l (a+1)
   else if c=91 then sqr (prs d l) l (a+1)
   else blk (prs d l) l a c
def prsV(l:List UInt8):Option Tr:=
 match prs 30 l 0 with
 |none=> none
 |some (t,b)=> if l≠ []/\b=l.length/\fmtV t=l then some t else none
theorem q168{l:List UInt8}{t:Tr}(h:prsV l=some t):valid sigT t=true/\fmtL t=l:=by
 unfold prsV at h
 split at h
 · cases h
 · rename_i t' b _
   split at h
   · rename_i hh
     cases h
     obtain⟨h1,h2,h3⟩:=hh;unfold fmtV at h3
     split at h3
     · rename_i hv
       exact⟨hv,h3⟩
     · exact absurd h3.symm h1
   · cases h
end Go.Proofs.YtbnkbepgmenblaaGreat
namespace Go.Proofs.YtbnkbepgmenblaaGreat
open Go.RowKit
def q96(ks:List Tr):Bool:=decide (ks.length<=8)&& !ks.any (fun t=> !valid sigT t)
theorem j105{ks:List Tr}(h:q96 ks=true):ks.length<=8/\ ∀t∈ks,valid sigT t=true:=by
 unfold q96 at h;rw[Bool.and_eq_true,decide_eq_true_eq] at h;refine⟨h.1,fun t ht=> ?_⟩;have h2:=h.2;simp only[Bool.not_eq_true',List.any_eq_false] at h2
 simpa using h2 t ht
def j133(t:Tr):Prop:= ∀(w:World) (t':Tr) (v v':Value),Lies w t v->Lies w t' v'->
 Calls Tryz.prog 17 #[v,v'] w fun e w'=> e= .returned (.bool (eqTr t t'))/\Ext w w'
theorem j190(ks ks':List Tr)(hk: ∀t∈ks,j133 t)(w:World)(A A':Option Addr)(cap cap':Nat)(h:j26 w A ks)(hl:ks.length<=cap)(hc:cap<=maxLen)(h':j26 w A' ks')(hl':ks'.length<=cap')(hc':cap'<=maxLen):
 Calls Tryz.prog 61 #[.slice A ks.length cap,.slice A' ks'.length cap',.func (.func 17) #[] #[]] w fun e w'=> e= .returned (.bool (eqTs ks ks'))/\Ext w w':=by
 unfold maxLen at hc hc';by_cases h0:ks.length=ks'.length
 · have hd:((ks.length:Int) !=(ks'.length:Int))=false:=by rw[h0];simp
   have H0:=hdq h0;clear h0;go_enter Tryz.func61,Tryz.ntmps61;go_wp2_with fail
   go_loopw [17] (fun i wr=> ∃j:Nat,j<=ks.length/\i= .int .i64 j/\eqTs ks ks'=eqTs (ks.drop j) (ks'.drop j)/\Ext w wr) (fun i _=> ks.length -(intOf i).toNat)
   case atStart=> exact⟨0,Nat.zero_le _,rfl,rfl,xr _⟩
   case round=>
    obtain⟨j,hj,rfl,hsz,hb⟩:=hrel;have HS:=hdq hsz;clear hsz;by_cases hlt:j < ks.length
    · have Di:j < ks'.length:=by rw[<-H0.out];exact hlt
      obtain⟨b,o,k,n,B,c,kids,rfl,HK,c0,c1,c2,K8,L6,hK,j7,j5⟩:=h.get hb hlt;obtain⟨b',o',k',n',B',c',wo,rfl,HK',c0',c1',c2',hkl',Dr,hK',D6,hmem'⟩:=h'.get hb Di;have hlb:=World.block_lt_of_cell? _ _ c0';have hstep:eqTs (ks.drop j) (ks'.drop j)=(eqTr (.mk k n kids) (.mk k' n' wo)&& eqTs (ks.drop (j+1)) (ks'.drop (j+1))):=by
       rw[List.drop_eq_getElem_cons hlt,List.drop_eq_getElem_cons Di,HK.out,HK'.out]
       conv=> lhs;unfold eqTs
      have HST:=hdq hstep;clear hstep;go_wp2_with fail;refine(hk _ j5 _ (.mk k' n' wo) _ _ (j7.ext (((xr wr).alloc _).alloc _)) (D6.ext (((xr wr).alloc _).alloc _))).mono ?_;rintro e w1 ⟨rfl,hb1⟩;have hb2:=hb.trans hb1.pre.pre;generalize eqTr (.mk k n kids) (.mk k' n' wo)=q at HST;cases q with
      |false=>
       go_wp2_with fail;go_ret;exact⟨by rw[HS.out,HST.out];rfl,hb2⟩
      |true=>
       go_wp2_with fail
       go_roundw
       case rel=> exact⟨j+1,by omega,by go_num,by rw[HS.out,HST.out];rfl,hb2⟩
       case measure=> simp[intOf];omega
    · go_wp2_with fail
      go_ret;exact⟨by rw[HS.out,List.drop_of_length_le (by omega),List.drop_of_length_le (by rw[<-H0.out];omega)];rfl,hb⟩
 · have hd:((ks.length:Int) !=(ks'.length:Int))=true:=by rw[bne_iff_ne];omega
   have e:eqTs ks ks'=false:=by
    rw[Bool.eq_false_iff];intro he;exact h0 (y150 he)
   have E:=hdq e;clear e;go_enter Tryz.func61,Tryz.ntmps61;go_wp2_with fail;go_ret;exact⟨by rw[E.out];rfl,xr _⟩
theorem q66: ∀t:Tr,j133 t:=Tr.ind fun k n ks hk=> by
 intro w t' v v' h h';obtain⟨A,cap,rfl,hl,hc,hK⟩:=Lies.mk_iff.1 h;obtain⟨k',n',ks'⟩:=t';obtain⟨A',cap',rfl,hl',hc',hK'⟩:=Lies.mk_iff.1 h';clear h h';have HW:=fun W (hW:Ext w W)=> j190 ks ks' hk W A A' cap cap' (hK.ext hW) hl hc (hK'.ext hW) hl' hc'
 have HS:=hdq HW;clear HW;by_cases h1:k=k'
 · by_cases h2:n=n'
   · have e:eqTr (.mk k n ks) (.mk k' n' ks')=eqTs ks ks':=by simp[eqTr,h1,h2]
     have E:=hdq e;have d1:(k==k')=true:=by simp[h1]
     have d2:(n==n')=true:=by simp[h2]
     clear e h1 h2;go_enter Tryz.func17,Tryz.ntmps17;go_wp2_with fail;refine(HS.out _ (((xr w).alloc _).alloc _)).mono ?_;rintro e w1 ⟨rfl,hE⟩;go_wp2_with fail;go_ret;exact⟨by rw[E.out];rfl,hE.pre.pre⟩
   · have e:eqTr (.mk k n ks) (.mk k' n' ks')=false:=by simp[eqTr,h2]
     have E:=hdq e;have d1:(k==k')=true:=by simp[h1]
     have d2:(n==n')=false:=by simpa using h2
     clear e h1 h2;go_enter Tryz.func17,Tryz.ntmps17;go_wp2_with fail;go_ret;exact⟨by rw[E.out];rfl,((xr w).alloc _).alloc _⟩
 · have e:eqTr (.mk k n ks) (.mk k' n' ks')=false:=by simp[eqTr,h1]
   have E:=hdq e;have d1:(k==k')=false:=by simpa using h1
   clear e h1;go_enter Tryz.func17,Tryz.ntmps17;go_wp2_with fail;go_ret;exact⟨by rw[E.out];rfl,((xr w).alloc _).alloc _⟩
end Go.Proofs.YtbnkbepgmenblaaGreat
