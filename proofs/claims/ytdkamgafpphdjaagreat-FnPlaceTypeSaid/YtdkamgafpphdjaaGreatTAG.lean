/-
  Lemmas towards the law, 7: Valid, OrdG, Later, Grow.
-/
import Derived.Test.YtdkamgafpphdjaaGreatTAF
import Derived.BigQuiet
import Derived.Laws.AppendOwn
import Derived.OwnWalk
namespace Go.Proofs.YtdkamgafpphdjaaGreat
set_option linter.unusedVariables false
def inR(n lo hi:Int):Bool:=decide (lo<=n)&& decide (n<=hi)
theorem y37{n lo hi:Int}:inR n lo hi=true↔lo<=n/\n<=hi:=by simp[inR]
theorem q58{n lo hi:Int}:inR n lo hi=false↔n < lo\/hi < n:=by
 rw[Bool.eq_false_iff,Ne,y37];omega
structure Sig where
 ops:Int->Int
 most:Int->Int
def opsT(k:Int):Int:=if k=1 then 0 else if k=2 then 0 else if k=3 then 2 else if k=4 then 2 else if k=5 then 2 else if k=6 then 0 else if k=7 then 0 else if k=8 then 1 else if k=9 then 4 else if k=10 then 3 else if k=11 then 1 else if k=12 then 3 else if k=13 then 2 else if k=14 then 3 else if k=15 then 1 else if k=16 then 1 else -1
def q31(k:Int):Int:=if k=1 then 20 else if k=2 then 3 else 0
def sigT:Sig:=⟨opsT,q31⟩
def j79(g:Sig)(k n:Int)(len:Nat):Bool:=decide (g.ops k=(len:Int))&& inR n 0 (g.most k)
mutual
def shape(g:Sig):Tr->Int->Bool
 | .mk k n ks,depth=> decide (1<=depth)&&(j79 g k n ks.length && y23 g ks (depth - 1))
def y23(g:Sig):List Tr->Int->Bool
 | [],_=> true
 |t::ts,depth=> shape g t depth && y23 g ts depth
end
def valid(g:Sig)(t:Tr):Bool:=shape g t 30 && decide (cnt t<=400)
mutual
def cntM:Tr->Int->Int
 | .mk _ _ ks,most=> y68 ks most 1
def y68:List Tr->Int->Int->Int
 | [],_,n=> n
 |t::ts,most,n=> if n<=most then y68 ts most (n+cntM t (most - n)) else n
end
mutual
theorem y119: ∀(t:Tr) (most:Int),0<=most->1<=cntM t most/\cntM t most<=most+1/\(cntM t most<=most↔(cnt t:Int)<=most)/\(cntM t most<=most->cntM t most=cnt t)
 | .mk _ _ ks,most,h=> by
  have:=y150 ks most 1 (by omega) (by omega);simp only[cntM,cnt];omega
theorem y150: ∀(ts:List Tr) (most n:Int),1<=n->n<=most+1->n<=y68 ts most n/\y68 ts most n<=most+1/\(y68 ts most n<=most↔n+cnts ts<=most)/\(y68 ts most n<=most->y68 ts most n=n+cnts ts)
 | [],most,n,h,h'=> by simp only[y68,cnts];omega
 |t::ts,most,n,h,h'=> by
  simp only[y68,cnts];by_cases hn:n<=most
  · rw[if_pos hn]
    have h1:=y119 t (most - n) (by omega);have h2:=y150 ts most (n+cntM t (most - n)) (by omega) (by omega);have h3:=j123 t;omega
  · rw[if_neg hn]
    have h3:=j123 t;omega
end
theorem j199{g:Sig}{t:Tr}:valid g t=(shape g t 30 && decide (cntM t 400<=400)):=by
 have:=(y119 t 400 (by omega)).2.2.1;unfold valid
 congr 1
 rw[Bool.eq_iff_iff,decide_eq_true_iff,decide_eq_true_iff];omega
mutual
def j38(g:Sig):Tr->Int->Int->Bool×Int
 | .mk k n ks,deep,c=> if 400 < c+1 then(false,c+1) else if 30 < deep then(false,c+1) else if g.ops k=(ks.length:Int) then(if inR n 0 (g.most k)=true then j36 g ks (deep+1) (c+1) else(false,c+1)) else(false,c+1)
def j36(g:Sig):List Tr->Int->Int->Bool×Int
 | [],_,c=>(true,c)
 |t::ts,deep,c=> if(j38 g t deep c).1=true then j36 g ts deep (j38 g t deep c).2 else(false,(j38 g t deep c).2)
end
mutual
theorem y86(g:Sig): ∀(t:Tr) (deep c:Int),0<=c->c<=400->(j38 g t deep c).1=(shape g t (31 - deep)&& decide (c+cnt t<=400))/\((j38 g t deep c).1=true->(j38 g t deep c).2=c+cnt t)/\c<=(j38 g t deep c).2/\(j38 g t deep c).2<=401/\((j38 g t deep c).1=true->(j38 g t deep c).2<=400)
 | .mk k n ks,deep,c,h,h'=> by
  have hc:(cnt (.mk k n ks):Int)=cnts ks+1:=by simp[cnt]
  simp only[j38,shape,j79];by_cases h1:400 < c+1
  · rw[if_pos h1]
    refine⟨?_,by simp,by simp;omega,by simp;omega,by simp⟩
    symm
    rw[Bool.and_eq_false_iff];exact .inr (decide_eq_false (by omega))
  · rw[if_neg h1]
    by_cases h2:30 < deep
    · rw[if_pos h2]
      refine⟨?_,by simp,by simp;omega,by simp;omega,by simp⟩
      symm
      rw[Bool.and_eq_false_iff,Bool.and_eq_false_iff];exact .inl (.inl (decide_eq_false (by omega)))
    · rw[if_neg h2]
      by_cases h3:g.ops k=(ks.length:Int)
      · rw[if_pos h3]
        by_cases h4:inR n 0 (g.most k)=true
        · rw[if_pos h4]
          obtain⟨e1,e2,e3,e4,e5⟩:=q102 g ks (deep+1) (c+1) (by omega) (by omega);refine⟨?_,fun hh=> by rw[e2 hh];omega,by omega,e4,e5⟩;rw[e1,decide_eq_true h3,h4];have ed:31 -(deep+1)=31 - deep - 1:=by omega
          have d1:decide (1<=31 - deep)=true:=decide_eq_true (by omega);rw[ed,d1];simp only[Bool.true_and]
          congr 1
          exact decide_eq_decide.2 (by omega)
        · rw[if_neg h4]
          refine⟨?_,by simp,by simp;omega,by simp;omega,by simp⟩;simp[h4]
      · rw[if_neg h3]
        refine⟨?_,by simp,by simp;omega,by simp;omega,by simp⟩;simp[h3]
theorem q102(g:Sig): ∀(ts:List Tr) (deep c:Int),0<=c->c<=400->(j36 g ts deep c).1=(y23 g ts (31 - deep)&& decide (c+cnts ts<=400))/\((j36 g ts deep c).1=true->(j36 g ts deep c).2=c+cnts ts)/\c<=(j36 g ts deep c).2/\(j36 g ts deep c).2<=401/\((j36 g ts deep c).1=true->(j36 g ts deep c).2<=400)
 | [],deep,c,h,h'=> by
  have hc:(cnts []:Int)=0:=by simp[cnts]
  have hd:decide (c+(cnts []:Int)<=400)=true:=decide_eq_true (by omega);simp only[j36,y23];refine⟨by rw[hd];rfl,by omega,by omega,by omega,by omega⟩
 |t::ts,deep,c,h,h'=> by
  have hc:(cnts (t::ts):Int)=cnt t+cnts ts:=by simp[cnts]
  simp only[j36,y23];obtain⟨e1,e2,e3,e4,e5⟩:=y86 g t deep c h h';by_cases hs:(j38 g t deep c).1=true
  · rw[if_pos hs]
    have e2':=e2 hs;have e5':=e5 hs;obtain⟨d1,d2,d3,d4,d5⟩:=q102 g ts deep (j38 g t deep c).2 (by omega) e5';refine⟨?_,fun hh=> by rw[d2 hh,e2'];omega,by omega,d4,d5⟩;rw[d1];rw[hs] at e1;have e1':=e1.symm;rw[Bool.and_eq_true] at e1';rw[e1'.1];simp only[Bool.true_and]
    congr 1
    exact decide_eq_decide.2 (by omega)
  · rw[if_neg hs]
    refine⟨?_,by simp,e3,e4,by simp⟩;have hf:(j38 g t deep c).1=false:=by simpa using hs
    rw[hf] at e1;have e1':=e1.symm;rw[Bool.and_eq_false_iff] at e1'
    symm
    rw[Bool.and_eq_false_iff,Bool.and_eq_false_iff];rcases e1' with e1'|e1'
    · exact .inl (.inl e1')
    · have:=of_decide_eq_false e1'
      exact .inr (decide_eq_false (by omega))
end
theorem q145(g:Sig)(t:Tr):(j38 g t 1 0).1=valid g t/\(valid g t=true->(j38 g t 1 0).2=cnt t):=by
 obtain⟨e1,e2,_⟩:=y86 g t 1 0 (by omega) (by omega);have h:(j38 g t 1 0).1=valid g t:=by
  rw[e1];unfold valid;have e:(31:Int) - 1=30:=rfl;rw[e]
  congr 1
  exact decide_eq_decide.2 (by omega)
 exact⟨h,fun hv=> by rw[e2 (h.trans hv)];omega⟩
end Go.Proofs.YtdkamgafpphdjaaGreat
namespace Go.Proofs.YtdkamgafpphdjaaGreat.OrdG
open Go Go.Proofs.YtdkamgafpphdjaaGreat.Ord
set_option linter.unusedVariables false
section
variable {Γ : Type} (P : Program) (ops : Array Oper) (Q : Exit → Act → World → Prop) (l0 : Array Bool) (m : Nat) (E : World × Γ → World × Γ → Prop) (G : Nat → Value → World × Γ → Prop) (a0 : Act) (w0 : World × Γ)
def y171(i:Nat)(o:Oper):Prop:=
 ∀a w z,E w0 (w,z)->(∀t,isDst ops l0 m t=false->a.eval (.tmp t)=a0.eval (.tmp t))->(∀j d,depO ops l0 i j d=true->G j (a.eval (.tmp d)) (w,z))->
  wpOp P ops Q i (fun a' w'=> ∃u z',a'=a.put o.dst u/\E (w,z) (w',z')/\G i u (w',z')) a w
def StepsO:Nat->List Oper->Prop
 |_, []=> True
 |i,o::os=>(isOn l0 i=true\/y171 P ops Q l0 m E G a0 w0 i o)/\StepsO (i+1) os
end
section
variable {Γ : Type} {P : Program} {ops : Array Oper} {Q : Exit → Act → World → Prop} {l0 : Array Bool} {m : Nat} {E : World × Γ → World × Γ → Prop} {G : Nat → Value → World × Γ → Prop} {a0 : Act} {w0 : World × Γ}
theorem StepsO.get{l:List Oper}: ∀{i j:Nat} {o:Oper},StepsO P ops Q l0 m E G a0 w0 i l->l[j]? =some o->isOn l0 (i+j)=true\/y171 P ops Q l0 m E G a0 w0 (i+j) o:=by
 induction l with
 |nil=> intro i j o h hj;simp at hj
 |cons x l ih=>
  intro i j o h hj;cases j with
  |zero=>
   simp only[List.getElem?_cons_zero,Option.some.injEq] at hj;subst hj;exact h.1
  |succ j=>
   have:=ih (j:=j) h.2 (by simpa using hj)
   rwa [show i+1+j=i+(j+1) by omega] at this
theorem wpAnyH_order{S:World->Prop}{N fuel fT:Nat}{lT:Array Bool}(hok:okO ops l0 m N=true)(hN:a0.tmps.size=N)(hf:fuel=opnO l0 ops.size)(hlT:doneO l0 m=lT)(hfT:opnO lT ops.size=fT)
 (hE0:E w0 w0) (hE: ∀u v w,E u v->E v w->E u w) (hG: ∀i v w w',G i v w->E w w'->G i v w') (hS: ∀w z,E w0 (w,z)->S w)
 (steps:StepsO P ops Q l0 m E G a0 w0 0 (ops.toList.take m))
 (fin: ∀(v:Nat->Value) w z,E w0 (w,z)->(∀j,j < m->isOn l0 j=false->G j (v j) (w,z))->wpAnyH P .any ops Q S fT lT (putN ops v (fun j=> !isOn l0 j) a0 m) w):
 wpAnyH P .any ops Q S fuel l0 a0 w0.1:=by
 subst hlT;subst hfT;have hok2:=hok;unfold okO at hok2;simp only[Bool.and_eq_true,decide_eq_true_eq,List.all_eq_true,List.mem_range,Bool.or_eq_true,Bool.not_eq_true'] at hok2;obtain⟨⟨⟨⟨-,hupb⟩,hlowb⟩,hm⟩,hlsz⟩:=hok2;have hlow: ∀i,i < ops.size-> ∀k∈j45 ops i,k < i:=fun i hi k hk=>(hlowb i hi k hk).1
 have hdn0: ∀i,isOn l0 i=true-> ∀k∈j45 ops i,isOn l0 k=true:=fun i hl k hk=> by
  by_cases hi:i < ops.size
  · exact(hlowb i hi k hk).2.resolve_left (by rw[hl];decide)
  · unfold j45 at hk
    rw[show ops[i]? =none from Array.getElem?_eq_none (by omega)] at hk;simp at hk
 have hup: ∀i,m<=i->i < ops.size->isOn l0 i=false-> ∀j,j < m->isOn l0 j=false->y98 ops ops.size i j=true:=fun i h1 h2 hi j hj hl=> by
  have:=hupb (i - m) (by omega);rw[show m+(i - m)=i by omega] at this;have:=this.resolve_left (by rw[hi];decide) j hj;exact this.resolve_left (by rw[hl];decide)
 have hsl: ∀listed:Array Bool,∀j,(isOn listed j && !isOn l0 j)=true->isOn l0 j=false:=fun listed j h=> by
  simp only[Bool.and_eq_true,Bool.not_eq_true'] at h;exact h.2
 have main: ∀(fuel:Nat) (listed:Array Bool) (a:Act) (w:World) (z:Γ) (v:Nat->Value),listed.size=ops.size->(∀i,m<=i->isOn listed i=isOn l0 i)->(∀i,isOn l0 i=true->isOn listed i=true)->
  (∀i,isOn listed i=true-> ∀k∈j45 ops i,isOn listed k=true)->a=putN ops v (fun j=> isOn listed j && !isOn l0 j) a0 m->(∀j,j < m->isOn listed j=true->isOn l0 j=false->G j (v j) (w,z))->E w0 (w,z)->
  fuel=opnO listed ops.size->wpAnyH P .any ops Q S fuel listed a w:=by
  intro fuel;have done: ∀(fuel:Nat) (listed:Array Bool) (a:Act) (w:World) (z:Γ) (v:Nat->Value),listed.size=ops.size->(∀i,m<=i->isOn listed i=isOn l0 i)->a=putN ops v (fun j=> isOn listed j && !isOn l0 j) a0 m->(∀j,j < m->isOn listed j=true->isOn l0 j=false->G j (v j) (w,z))->E w0 (w,z)->
   fuel=opnO listed ops.size->(∀j,j < m->isOn listed j=true)->wpAnyH P .any ops Q S fuel listed a w:=by
   intro fuel listed a w z v hsz h1 ha hg he hf hall;have hl:listed=doneO l0 m:=by
    apply Array.ext
    · simp[doneO,hsz,hlsz]
    · intro i hi1 hi2
      have e1:isOn listed i=listed[i]:=by simp[isOn,Array.getD_eq_getD_getElem?,hi1]
      have e2:(doneO l0 m)[i]=(decide (i < m) ||isOn l0 i):=by simp[doneO]
      rw[<-e1,e2];by_cases hi:i < m
      · rw[hall i hi];simp[hi]
      · rw[h1 i (by omega)];simp[hi]
   subst hl;subst ha;subst hf;rw[y27 (v':=v) (s':=fun j=> !isOn l0 j) a0 (fun j hj=>⟨by rw[hall j hj,Bool.true_and],fun _=> rfl⟩)];exact fin v w z he (fun j hj hl=> hg j hj (hall j hj) hl)
  induction fuel with
  |zero=>
   intro listed a w z v hsz h1 hmo h2 ha hg he hf;refine done 0 listed a w z v hsz h1 ha hg he hf fun j hj=> ?_
   have: ∀n,opnO listed n=0-> ∀j,j < n->isOn listed j=true:=by
    intro n
    induction n with
    |zero=> intro _ j hj;omega
    |succ n ih=>
     intro h j hj;unfold opnO at h;by_cases e:j=n
     · subst e
       split at h
       · assumption
       · omega
     · exact ih (by omega) j (by omega)
   exact this ops.size hf.symm j (by omega)
  |succ fuel ih=>
   intro listed a w z v hsz h1 hmo h2 ha hg he hf;by_cases hall: ∀j,j < m->isOn listed j=true
   · exact done _ listed a w z v hsz h1 ha hg he hf hall
   · obtain⟨j0,hj0,hj1,hj2⟩:=q215 (p:=isOn listed) (n:=m) (by
      apply Classical.byContradiction
      intro h;exact hall fun j hj=> by
       cases hp:isOn listed j with
       |true=> rfl
       |false=> exact absurd ⟨j,hj,hp⟩ h)
     have gt: ∀i,i < ops.size->listed.getD i true=isOn listed i:=fun i hi=> by
      simp[isOn,Array.getD_eq_getD_getElem?,show i < listed.size by omega]
     refine⟨fun h0=> ?_,fun i hi=> ?_⟩
     · have hr:j0∈Region.ready .any ops listed:=j122 (by omega) (by rw[gt _ (by omega)];exact hj1) (fun k hk=> hj2 k (hlow j0 (by omega) k hk))
       rw[h0] at hr;cases hr
     · obtain⟨r1,⟨o,ho⟩,r3⟩:=y74 hi
       have hin:i < ops.size:=(Array.getElem?_eq_some_iff.1 ho).1;have hi0:isOn listed i=false:=by rw[<-gt i hin];exact r1
       have hil:isOn l0 i=false:=by
        cases hp:isOn l0 i with
        |false=> rfl
        |true=> rw[hmo i hp] at hi0;cases hi0
       have hj0l:isOn l0 j0=false:=by
        cases hp:isOn l0 j0 with
        |false=> rfl
        |true=> rw[hmo j0 hp] at hj1;cases hj1
       have him:i < m:=by
        apply Classical.byContradiction
        intro hge;have:=q47 (l:=isOn listed) h2 ops.size i j0 r3 (hup i (by omega) hin hil j0 hj0 hj0l);rw[hj1] at this;cases this
       have hst:=StepsO.get (j:=i) steps (by rw[List.getElem?_take,if_pos him];simpa using ho);rw[Nat.zero_add] at hst;have hst:=hst.resolve_left (by rw[hil];decide);have hd:(dstOf ops i)=o.dst:=by unfold dstOf;rw[ho];rfl
       have hsi:(isOn listed i && !isOn l0 i)=false:=by rw[hi0];rfl
       refine wpOp_mono ?_ (hst a w z he ?_ ?_)
       · rintro a' w' ⟨u,z',rfl,he',hg'⟩
         have hset: ∀j,isOn (listed.setIfInBounds i true) j=if j=i then true else isOn listed j:=fun j=> by
          unfold isOn;by_cases e:j=i
          · subst e
            rw[if_pos rfl];simp[Array.getD_eq_getD_getElem?,show j < listed.size by omega]
          · rw[if_neg e]
            simp[Array.getD_eq_getD_getElem?,Array.getElem?_setIfInBounds_ne (Ne.symm e)]
         refine⟨hS _ _ (hE _ _ _ he he'),ih (listed.setIfInBounds i true) _ w' z' (fun j=> if j=i then u else v j) (by simpa using hsz) ?_ ?_ ?_ ?_ ?_ (hE _ _ _ he he') ?_⟩
         · intro j hj
           rw[hset,if_neg (by omega)];exact h1 j hj
         · intro j hj
           rw[hset]
           split
           · rfl
           · exact hmo j hj
         · intro j hj k hk
           rw[hset] at hj⊢;by_cases e:k=i
           · rw[if_pos e]
           · rw[if_neg e]
             by_cases e2:j=i
             · subst e2;exact r3 k hk
             · rw[if_neg e2] at hj
               exact h2 j hj k hk
         · rw[ha,<-hd,<-q52 hok (s:=fun j=> isOn listed j && !isOn l0 j) a0 (hsl listed) hsi hil u him (Nat.le_refl _)]
           refine y27 a0 (fun j hj=>⟨?_,fun _=> rfl⟩);simp only[hset];by_cases e:j=i
           · rw[if_pos e,if_pos e,e,hil];rfl
           · rw[if_neg e,if_neg e]
         · intro j hj hl hjl
           by_cases e:j=i
           · simp only[if_pos e];rw[e];exact hg'
           · simp only[if_neg e]
             rw[hset,if_neg e] at hl;exact hG _ _ _ _ (hg j hj hl hjl) he'
         · have:=j96 (l:=listed) (l':=listed.setIfInBounds i true) (i:=i) hi0 (by rw[hset,if_pos rfl]) (fun j hj=> by rw[hset,if_neg hj]) (n:=ops.size)
           rw[if_pos hin] at this;omega
       · intro t ht
         rw[ha,q64];intro j hj hs e;unfold isDst at ht;rw[List.any_eq_false] at ht;refine ht j (List.mem_range.2 hj) ?_;rw[hsl listed j hs,e];simp
       · intro j d hjd
         unfold depO at hjd;simp only[Bool.and_eq_true,beq_iff_eq,List.contains_iff_mem,Bool.not_eq_true'] at hjd;have hjl:=r3 j hjd.1.1;have hji:=hlow i hin j hjd.1.1;rw[ha,y54 hok v _ (hsl listed) a0 hN hjd.1.2 (by rw[hjl,hjd.2];rfl) (by omega) (Nat.le_refl _)];exact hg j (by omega) hjl hjd.2
 refine main fuel l0 a0 w0.1 w0.2 (fun _=> undef) hlsz (fun _ _=> rfl) (fun _ h=> h) hdn0 ?_ ?_ hE0 hf
 · have: ∀n,putN ops (fun _=> undef) (fun j=> isOn l0 j && !isOn l0 j) a0 n=a0:=fun n=> by
    induction n with
    |zero=> rfl
    |succ n ih=>
     unfold putN;rw[if_neg,ih];simp
   exact(this m).symm
 · intro j hj hl hl2
   rw[hl] at hl2;cases hl2
end
end Go.Proofs.YtdkamgafpphdjaaGreat.OrdG
namespace Go.Proofs.YtdkamgafpphdjaaGreat
open Go.RowKit
set_option linter.unusedVariables false
def At(w:World)(p:World->Prop):Prop:= ∀w',Ext w w'->p w'
structure y30 (W:World) where
 world:World
 ext:Ext W world
instance (W:World):Nonempty (y30 W):=⟨⟨W,xr W⟩⟩
theorem y17{P:Program}{id:Nat}{Q:Exit->Act->World->Prop}{a:Act}{W:World}{l:List Oper}(hm:P.follows .mixedOrders=true)(hB:Region.lexB .any l.toArray=true)
 (h:wpQuiet P l.toArray (fun w'=> ∃x:y30 W,w'=x.world) (fun a'=> ∀w',(∃x:y30 W,w'=x.world)->Q .normal a' w') l a):(Code.region id l.toArray true).wp P Q a W:=
 wp_region_quiet (C:=fun w'=> ∃x:y30 W,w'=x.world) hm hB ⟨⟨_,(xr W).drew⟩,rfl⟩ (by simpa using h)
theorem q79{P:Program}{f:FuncId}{args:Array Value}{W:World}{x:y30 W}{v:Value}(h:Calls P f args x.world fun e w'=> e= .returned v/\Ext x.world w'):
 Calls P f args x.world fun e w''=> e= .returned v/\ ∃y:y30 W,w''=y.world:=
 h.mono fun e w' ⟨he,hw⟩=>⟨he,⟨w',x.ext.trans hw⟩,rfl⟩
theorem j13{P:Program}{f:FuncId}{args:Array Value}{W:World}{x:y30 W}{v:Value}(h:Calls P f args x.world fun e w'=> e= .returned v/\x.world=w'):
 Calls P f args x.world fun e w''=> e= .returned v/\ ∃y:y30 W,w''=y.world:=
 h.mono fun e w' ⟨he,hw⟩=>⟨he,x,hw.symm⟩
theorem y30.own3{W:World}{g:Nat}{x0 x1 x2:Value}{e:TypeId}(hb:W.heap[g]? =some (.cells #[x0,x1,x2] e (0,0))):
 (∀y:y30 W,y.world.cell? ⟨g,0,none⟩=some x0)/\(∀y:y30 W,y.world.cell? ⟨g,1,none⟩=some x1)/\(∀y:y30 W,y.world.cell? ⟨g,2,none⟩=some x2):=
 ⟨fun y=> y.ext.cell (y10 hb 0),fun y=> y.ext.cell (y10 hb 1),fun y=> y.ext.cell (y10 hb 2)⟩
theorem y30.cell{W:World}{b o:Nat}{v:Value}(h:W.cell? ⟨b,o,none⟩=some v)(y:y30 W):y.world.cell? ⟨b,o,none⟩=some v:=y.ext.cell h
end Go.Proofs.YtdkamgafpphdjaaGreat
namespace Go.Proofs.YtdkamgafpphdjaaGreat
open Go.RowKit
set_option linter.unusedVariables false
theorem q16{P:Program}(w:World)(base:Nat)(t ty e:TypeId)(i:TypeInfo)(z:Value)(size bytes:Nat)(ht:P.underlying t=some (.slice e))(hi:P.info? e=some i)(hz:i.zero=some z)
 (hsize:i.size=size) (hby:i.bytes=bytes) (hzs:z.cells.size=size) (hsz:0 < size)
 (v:Value) (n:Nat) (xs:List Value) (hown:w.ownsRow base e size v n xs)
 (a:Addr) (m c:Nat) (news:List Value) (hl:news.length=m*size) (hnews: ∀j u,news[j]? =some u->w.cell? (a.add j)=some u) (h1: ∀u∈news,u.oneCell'=true)
 (h63:n+m<=maxLen) (hbytes:(n+m)*bytes<=140737488355328) (hbase:base<=w.heap.size):
 ∃v' w',(Builtin.append_ #[t,t] ty #[v, .slice (some a) m c]).run P w= .ok v' w'/\w'.ownsRow base e size v' (n+m) (xs++news)/\w.grownBy w' v.ownBlock/\
  (∀g,v'.ownBlock=some g->v.ownBlock=some g\/w.heap.size<=g):=by
 obtain⟨v',w',hr,h2,h3,h4⟩:=run_append_own (P:=P) w base t ty e i z size bytes ht hi hz hsize hby hzs hsz v n xs hown a m c news hl hnews h1 h63 hbytes hbase;refine⟨v',w',hr,h2,h3,fun g hg=> ?_⟩;rcases hown.2 with⟨rfl,rfl⟩ |⟨g0,cap,cur,rfl,_,hg0,hnc,hcm,hcs,htake⟩
 · by_cases hm:m=0
   · rw[h4.2 ⟨rfl,hm⟩] at hg
     cases hg
   · have hn':m<=9223372036854775807:=by simp only[maxLen] at h63;omega
     have hr':=run_append_nil (P:=P) w t ty e i z ht hi hz a m c news (by rw[hl,hsize]) hnews (by omega) (by omega) (by rw[hby];have hb:=hbytes;simp only[Nat.zero_add] at hb;omega);rw[hr'] at hr;cases hr
     simp only[Value.ownBlock,Option.some.injEq] at hg;exact .inr (by omega)
 · by_cases hroom:n+m<=cap
   · have hfit:n*i.size+news.length<=cur.size:=by rw[hl,hcs,hsize,<-Nat.add_mul];exact Nat.mul_le_mul_right _ hroom
     have hr':=run_append_room (P:=P) w t ty e i ht hi g0 n cap cur hg0 a m c news (by rw[hl,hsize]) hnews h1 hroom hfit;rw[hr'] at hr;cases hr
     exact .inl hg
   · have hn':n+m<=9223372036854775807:=by simp only[maxLen] at h63;omega
     have holds: ∀j u,xs[j]? =some u->w.cell? ((⟨g0,0,none⟩:Addr).add j)=some u:=hown.cells (g:=g0) rfl;have hr':=run_append_grow (P:=P) w t ty e i z ht hi hz ⟨g0,0,none⟩ n cap xs (by rw[hown.1,hsize]) holds a m c news (by rw[hl,hsize]) hnews (by omega) (by omega) (by rw[hby];exact growslice_fits (by omega) hbytes);rw[hr'] at hr;cases hr
     simp only[Value.ownBlock,Option.some.injEq] at hg;exact .inr (by omega)
def Grow(W w:World)(e:TypeId)(v:Value)(ks:List Tr):Prop:=
 ∃xs L,w.ownsRow W.heap.size e 3 v ks.length xs/\OwnL w e xs ks L/\y57 W w L/\ ∀g,v.ownBlock=some g-> ¬g∈L
theorem Grow.nil(W w:World)(e:TypeId):Grow W w e (.slice none 0 0) []:=
 ⟨[], [],World.ownsRow_nil _ _ _ _,OwnL.nil,y57.nil _ _,fun _ _ h=> by cases h⟩
theorem q26{w w':World}{base:Nat}{e:TypeId}{v:Value}{n:Nat}{xs:List Value}(h:w.ownsRow base e 3 v n xs)(hb: ∀g,v.ownBlock=some g->w'.heap[g]? =w.heap[g]?):w'.ownsRow base e 3 v n xs:=by
 refine⟨h.1, ?_⟩;rcases h.2 with h|⟨g,cap,cur,rfl,h1,h2,r⟩
 · exact .inl h
 · exact .inr ⟨g,cap,cur,rfl,h1,(hb g rfl).trans h2,r⟩
theorem Grow.same{W w w':World}{e:TypeId}{v:Value}{ks:List Tr}(h:Grow W w e v ks)(hs:w.heap.size<=w'.heap.size)(hb: ∀b,W.heap.size<=b->b < w.heap.size->w'.heap[b]? =w.heap[b]?):Grow W w' e v ks:=by
 obtain⟨xs,L,h1,h2,h3,h4⟩:=h;exact⟨xs,L,q26 h1 (fun g hg=> hb g (h1.lt g hg).1 (h1.lt g hg).2),h2.mono (fun b hm=> hb b (h3.2 b hm).1 (h3.2 b hm).2),h3.mono (Nat.le_refl _) hs,h4⟩
theorem Grow.ext{W w w':World}{e:TypeId}{v:Value}{ks:List Tr}(h:Grow W w e v ks)(he:Ext w w'):Grow W w' e v ks:=h.same he.size (fun b _ hb=> he.heap b hb)
theorem Grow.after{W w w':World}{e:TypeId}{v:Value}{ks:List Tr}(h:Grow W w e v ks)(ha:y28 W.heap.size w w'):Grow W w' e v ks:=h.same ha.2 (fun b hb _=> ha.1 b hb)
theorem Grow.made{W w:World}{e:TypeId}{v:Value}{ks:List Tr}(h:Grow W w e v ks): ∃A cap,v= .slice A ks.length cap/\ks.length<=cap/\cap<=maxLen/\j136 W w e A ks:=by
 obtain⟨xs,L,h1,h2,h3,h4⟩:=h;rcases h1.2 with⟨rfl,h0⟩ |⟨g,cap,cur,rfl,hb,hg,hnc,hcm,hcs,ht⟩
 · have:ks= []:=List.eq_nil_of_length_eq_zero h0
   subst this;exact⟨none,0,rfl,Nat.le_refl _,Nat.zero_le _,j136.nil _ _ _ _⟩
 · refine⟨_,cap,rfl,hnc,hcm,g::L, .inr ⟨g,cur,L,rfl,hg,rfl, ?_⟩,List.nodup_cons.2 ⟨h4 g rfl,h3.1⟩,fun b hm=> ?_⟩
   · have:=OwnL.tail (cur.toList.drop (ks.length*3)) h2
     rw[<-ht,List.take_append_drop] at this;exact this
   · rcases List.mem_cons.1 hm with rfl|hm
     · exact⟨hb,q10 hg⟩
     · exact h3.2 b hm
theorem q92{w w':World}{e:TypeId}{t:Tr}{v0 v1 v2:Value}(h:Made w w' e t (.agg #[v0,v1,v2])): ∀u∈ [v0,v1,v2],u.oneCell'=true:=by
 obtain⟨k,n,ks⟩:=t;obtain⟨A,cap,hv,_⟩:=Made.mk_iff.1 h;simp only[Value.agg.injEq,Array.mk.injEq,List.cons.injEq,and_true] at hv;obtain⟨rfl,rfl,rfl⟩:=hv;intro u hu;simp only[List.mem_cons,List.not_mem_nil,or_false] at hu;rcases hu with rfl|rfl|rfl <;> rfl
theorem q50{w:World}{g:Nat}{v0 v1 v2:Value}{e:TypeId}(h:w.heap[g]? =some (.cells #[v0,v1,v2] e (0,0))): ∀j u, [v0,v1,v2][j]? =some u->w.cell? ((⟨g,0,none⟩:Addr).add j)=some u:=by
 intro j u hu;rw[Addr.add_lit,Nat.zero_add,y10 h]
 simpa using hu
theorem Grow.step{W wr w1 w w':World}{e:TypeId}{v v':Value}{ks:List Tr}{t:Tr}{v0 v1 v2:Value}{xs:List Value}{L:List Nat}
 (hL:OwnL wr e xs ks L) (hF:y57 W wr L) (hv: ∀g,v.ownBlock=some g-> ¬g∈L/\g < wr.heap.size/\W.heap.size<=g) (hx:xs.length=ks.length*3) (hW:W.heap.size<=wr.heap.size) (hE1:Ext wr w1) (hM:Made wr w1 e t (.agg #[v0,v1,v2])) (hE2:Ext w1 w)
 (h2:w'.ownsRow W.heap.size e 3 v' (ks.length+1) (xs++ [v0,v1,v2])) (h3:w.grownBy w' v.ownBlock) (h4: ∀g,v'.ownBlock=some g->v.ownBlock=some g\/w.heap.size<=g):Grow W w' e v' (ks++ [t])/\Below W.heap.size wr w':=by
 obtain⟨M,hM,hFM⟩:=hM;have s1:=hE1.size;have s2:=hE2.size;have keep: ∀b,b < w1.heap.size->(v.ownBlock≠some b)->w'.heap[b]? =w1.heap[b]? :=fun b hb hne=>(h3.block b (by omega) (fun h=> hne h.symm)).trans (hE2.heap b hb)
 refine⟨⟨_,L++M,by simpa using h2,OwnL.snoc (hM.mono fun b hb=> keep b (hFM.2 b hb).2 fun he=> ?_) [] hx (hL.mono fun b hb=>(keep b (by have:=(hF.2 b hb).2;omega) fun he=> ?_).trans (hE1.heap b (hF.2 b hb).2)), ?_,fun g hg hm=> ?_⟩, ?_⟩
 · have:=(hv b he).2.1
   have:=(hFM.2 b hb).1;omega
 · exact(hv b he).1 hb
 · have h5:=hF.append (d:=w1) hFM (Nat.le_refl _) hW hE1.size
   exact h5.mono (Nat.le_refl _) (by have:=h3.size;omega)
 · rcases h4 g hg with h|h
   · rcases List.mem_append.1 hm with hm|hm
     · exact(hv g h).1 hm
     · have:=(hv g h).2.1
       have:=(hFM.2 g hm).1;omega
   · rcases List.mem_append.1 hm with hm|hm
     · have:=(hF.2 g hm).2
       omega
     · have:=(hFM.2 g hm).2
       omega
 · refine⟨h3.os.trans (hE2.os.trans hE1.os),h3.tape.trans (hE2.tape.trans hE1.tape),h3.output.trans (hE2.output.trans hE1.output),by have:=h3.size;omega,fun b hb=> ?_⟩
   exact(keep b (by omega) (fun he=> by have:=(hv b he).2.2;omega)).trans (hE1.heap b (by omega))
theorem j68{P:Program}(w:World){o:Oper}{a:Act}{K:Act->World->Prop}{Q:Exit->Act->World->Prop}(s x:Operand)(t:TypeId)
 (ho:o.op= .call {callee:= .builtin .append,args:=#[s,x],argTypes:=#[t,t]})
 (e:TypeId) (i:TypeInfo) (z:Value) (ht:P.underlying t=some (.slice e)) (hi:P.info? e=some i) (hz:i.zero=some z) (hsize:i.size=3) (hby:i.bytes=40) (hzs:z.cells.size=3)
 {W wr w1:World} {v:Value} {ks:List Tr} {tr:Tr} {v0 v1 v2:Value} {gx:Nat} (hs:a.eval s=v) (hG:Grow W wr e v ks) (hW:W.heap.size<=wr.heap.size) (hE1:Ext wr w1) (hM:Made wr w1 e tr (.agg #[v0,v1,v2])) (hE2:Ext w1 w)
 (hx:a.eval x= .slice (some ⟨gx,0,none⟩) 1 1) (hgx:w.heap[gx]? =some (.cells #[v0,v1,v2] e (0,0))) (hn:ks.length < 1099511627776)
 (h: ∀v' w',Grow W w' e v' (ks++ [tr])->Below W.heap.size wr w'->K (a.put o.dst v') w'):o.wp P a w K Q:=by
 obtain⟨xs,L,h1,h2,h3,h4⟩:=hG;have s1:=hE1.size;have s2:=hE2.size;have hown:w.ownsRow W.heap.size e 3 v ks.length xs:=q26 h1 (fun g hg=>(hE1.trans hE2).heap g (h1.lt g hg).2);obtain⟨v',w',hr,r1,r2,r3⟩:=q16 (P:=P) w W.heap.size t o.type e i z 3 40 ht hi hz hsize hby hzs (by decide) v ks.length xs hown ⟨gx,0,none⟩ 1 1 [v0,v1,v2] rfl (q50 hgx) (q92 hM) (by unfold maxLen;omega) (by omega) (by omega);obtain⟨g1,g2⟩:=Grow.step h2 h3 (fun g hg=>⟨h4 g hg,(h1.lt g hg).2,(h1.lt g hg).1⟩) h1.1 hW hE1 hM hE2 r1 r2 r3;unfold Oper.wp execOp;simp only[ho,resolve,invoke,builtin,Sem.run_bind,Sem.run_pure,Result.andThen_ok,List.map_toArray,List.map_cons,List.map_nil,hs,hx,hr];exact h v' w' g1 g2
theorem q33{P:Program}(w:World){ops:Array Oper}{rest:List Oper}{o:Oper}{a:Act}{Q:Exit->Act->World->Prop}(hgd:o.guard=none)(s x:Operand)(t:TypeId)
 (ho:o.op= .call {callee:= .builtin .append,args:=#[s,x],argTypes:=#[t,t]})
 (e:TypeId) (i:TypeInfo) (z:Value) (ht:P.underlying t=some (.slice e)) (hi:P.info? e=some i) (hz:i.zero=some z) (hsize:i.size=3) (hby:i.bytes=40) (hzs:z.cells.size=3)
 {W wr w1:World} {v:Value} {ks:List Tr} {tr:Tr} {v0 v1 v2:Value} {gx:Nat} (hs:a.eval s=v) (hG:Grow W wr e v ks) (hW:W.heap.size<=wr.heap.size) (hE1:Ext wr w1) (hM:Made wr w1 e tr (.agg #[v0,v1,v2])) (hE2:Ext w1 w)
 (hx:a.eval x= .slice (some ⟨gx,0,none⟩) 1 1) (hgx:w.heap[gx]? =some (.cells #[v0,v1,v2] e (0,0))) (hn:ks.length < 1099511627776)
 (h: ∀v' w',Grow W w' e v' (ks++ [tr])->Below W.heap.size wr w'->wpList P ops Q rest (a.put o.dst v') w'):wpList P ops Q (o::rest) a w:=
 wpList_plain hgd fun K hK=> j68 w s x t ho e i z ht hi hz hsize hby hzs hs hG hW hE1 hM hE2 hx hgx hn fun v' w' h1 h2=> hK _ _ (h v' w' h1 h2)
theorem y38{P:Program}(w:World){ops:Array Oper}{o:Oper}{a:Act}{K:Act->World->Prop}{Q:Exit->Act->World->Prop}{E:Prop}(hgd:o.guard=none)(s x:Operand)(t:TypeId)
 (ho:o.op= .call {callee:= .builtin .append,args:=#[s,x],argTypes:=#[t,t]})
 (e:TypeId) (i:TypeInfo) (z:Value) (ht:P.underlying t=some (.slice e)) (hi:P.info? e=some i) (hz:i.zero=some z) (hsize:i.size=3) (hby:i.bytes=40) (hzs:z.cells.size=3)
 {W wr w1:World} {v:Value} {ks:List Tr} {tr:Tr} {v0 v1 v2:Value} {gx:Nat} (hs:a.eval s=v) (hG:Grow W wr e v ks) (hW:W.heap.size<=wr.heap.size) (hE1:Ext wr w1) (hM:Made wr w1 e tr (.agg #[v0,v1,v2])) (hE2:Ext w1 w)
 (hx:a.eval x= .slice (some ⟨gx,0,none⟩) 1 1) (hgx:w.heap[gx]? =some (.cells #[v0,v1,v2] e (0,0))) (hn:ks.length < 1099511627776)
 (h: ∀v' w',Grow W w' e v' (ks++ [tr])->Below W.heap.size wr w'->K (a.put o.dst v') w'):
 if Region.wanted o (yielded ops a.tmps)=true then Oper.wp P o a w K Q else E:=by
 have hw:Region.wanted o (yielded ops a.tmps)=true:=by simp[Region.wanted,hgd]
 rw[if_pos hw];exact j68 w s x t ho e i z ht hi hz hsize hby hzs hs hG hW hE1 hM hE2 hx hgx hn h
theorem InL.copy{w:World}{S:Nat->Prop}{b:Nat}: ∀{o:Nat} {ks:List Tr},InL w S b o ks-> ∃news:List Value,news.length=ks.length*3/\(∀j u,news[j]? =some u->w.cell? ⟨b,o+j,none⟩=some u)/\(∀u∈news,u.oneCell'=true)/\
 ∀(w':World) (S':Nat->Prop) (b' o':Nat),(∀x,S x->S' x/\w'.heap[x]? =w.heap[x]?)->(∀j u,news[j]? =some u->w'.cell? ⟨b',o'+j,none⟩=some u)->InL w' S' b' o' ks
 |o, [],_=>⟨[],rfl,(fun j u h=> by simp at h),(fun u h=> by simp at h),(fun _ _ _ _ _ _=> by unfold InL;trivial)⟩
 |o,t::ts,h=> by
  unfold InL at h;obtain⟨⟨v0,v1,v2,c0,c1,c2,ht⟩,hts⟩:=h;obtain⟨news,n1,n2,n3,n4⟩:=InL.copy hts;refine⟨v0::v1::v2::news,by simp[n1];omega,fun j u hu=> ?_,fun u hu=> ?_,fun w' S' b' o' hS hc=> ?_⟩
  · match j,hu with
    |0,hu=> simpa using(by simpa using hu:v0=u)▸c0
    |1,hu=> simpa using(by simpa using hu:v1=u)▸c1
    |2,hu=> simpa using(by simpa using hu:v2=u)▸c2
    |j+3,hu=>
     have:=n2 j u (by simpa using hu)
     rwa [show o+3+j=o+(j+3) by omega] at this
  · obtain⟨k,n,kids⟩:=t
    obtain⟨A,cap,hv,_⟩:=InT.mk_iff.1 ht;simp only[Value.agg.injEq,Array.mk.injEq,List.cons.injEq,and_true] at hv;obtain⟨rfl,rfl,rfl⟩:=hv;simp only[List.mem_cons] at hu;rcases hu with rfl|rfl|rfl|hu
    · rfl
    · rfl
    · rfl
    · exact n3 u hu
  · unfold InL
    refine⟨⟨v0,v1,v2,by simpa using hc 0 v0 rfl,hc 1 v1 rfl,hc 2 v2 rfl,ht.mono (fun x hx=>(hS x hx).1) (fun x hx=>(hS x hx).2)⟩,n4 w' S' b' (o'+3) hS fun j u hu=> ?_⟩;have:=hc (j+3) u (by simpa using hu)
    rwa [show o'+(j+3)=o'+3+j by omega] at this
theorem q81{P:Program}(w:World){ops:Array Oper}{rest:List Oper}{o:Oper}{a:Act}{Q:Exit->Act->World->Prop}(hgd:o.guard=none)(s x:Operand)(t:TypeId)
 (ho:o.op= .call {callee:= .builtin .append,args:=#[s,x],argTypes:=#[t,t]})
 (e:TypeId) (i:TypeInfo) (z:Value) (ht:P.underlying t=some (.slice e)) (hi:P.info? e=some i) (hz:i.zero=some z) (hsize:i.size=3) (hby:i.bytes=40) (hzs:z.cells.size=3)
 {W:World} {v:Value} {A:Option Addr} {cap:Nat} {ks:List Tr} (hs:a.eval s=v) (hown:w.ownsRow W.heap.size e 3 v 0 []) (hE:Ext W w) (hx:a.eval x= .slice A ks.length cap) (hcap:A=none->cap=0) {S:Nat->Prop} (hS: ∀b,S b->b < W.heap.size) (hK:InK W S A ks) (hn:ks.length<=1099511627776)
 (h: ∀B c' w',InK w' (fun b=> S b\/W.heap.size<=b/\b < w'.heap.size) B ks->ks.length<=c'->c'<=maxLen->Ext W w'->(B=none->c'=0)->wpList P ops Q rest (a.put o.dst (.slice B ks.length c')) w'):wpList P ops Q (o::rest) a w:=by
 refine wpList_plain hgd fun K hK'=> ?_
 have key: ∃v' w',(Builtin.append_ #[t,t] o.type #[v, .slice A ks.length cap]).run P w= .ok v' w'/\ ∃B c',v'= .slice B ks.length c'/\InK w' (fun b=> S b\/W.heap.size<=b/\b < w'.heap.size) B ks/\ks.length<=c'/\c'<=maxLen/\Ext W w'/\(B=none->c'=0):=by
  cases A with
  |none=>
   obtain rfl:=hcap rfl;have hnil:ks= []:=by
    rcases hK with h|⟨b,o,h,_⟩
    · exact h
    · cases h
   subst hnil;have hr:=run_append_owned_none (P:=P) w W.heap.size t o.type e i 3 ht hi v 0 [] hown;refine⟨v,w,hr, ?_⟩;rcases hown.2 with⟨rfl,_⟩ |⟨g,c,cur,rfl,_,_,h1,h2,_⟩
   · exact⟨none,0,rfl, .inl rfl,Nat.le_refl _,Nat.zero_le _,hE,fun _=> rfl⟩
   · exact⟨_,c,rfl, .inl rfl,h1,h2,hE,fun h=> by cases h⟩
  |some ad=>
   have hE': ∀w',w.grownBy w' v.ownBlock->Ext W w':=fun w' hg=> hE.grown hg (fun k hk=>(hown.lt k hk).1)
   have hb: ∀(news:List Value),news.length=ks.length*3->(∀j u,news[j]? =some u->w.cell? (ad.add j)=some u)->(∀u∈news,u.oneCell'=true)->
    ∃v' w',(Builtin.append_ #[t,t] o.type #[v, .slice (some ad) ks.length cap]).run P w= .ok v' w'/\Ext W w'/\ ∃B c',v'= .slice B ks.length c'/\ks.length<=c'/\c'<=maxLen/\(B=none->c'=0)/\
     (ks≠ []-> ∃g,B=some ⟨g,0,none⟩/\W.heap.size<=g/\g < w'.heap.size/\ ∀j u,news[j]? =some u->w'.cell? ⟨g,0+j,none⟩=some u):=by
    intro news n1 n2 n3;obtain⟨v',w',hr,r1,r2,r3⟩:=q16 (P:=P) w W.heap.size t o.type e i z 3 40 ht hi hz hsize hby hzs (by decide) v 0 [] hown ad ks.length cap news n1 n2 n3 (by unfold maxLen;omega) (by omega) hE.size;refine⟨v',w',hr,hE' w' r2, ?_⟩;have hc:=fun g hg=> r1.cells (g:=g) hg
    have hlt:=r1.lt;rcases r1.2 with⟨rfl,h0⟩ |⟨g,c,cur,rfl,h5,h6,h1,h2,_⟩
    · exact⟨none,0,by rw[show ks.length=0 by omega],by omega,Nat.zero_le _,fun _=> rfl,fun hne=> absurd (List.eq_nil_of_length_eq_zero (by omega)) hne⟩
    · refine⟨_,c,by rw[Nat.zero_add],by omega,h2,fun h=> by(cases h),fun _=>⟨g,rfl,h5,q10 h6,fun j u hu=> ?_⟩⟩
      have:=hc g rfl j u (by simpa using hu)
      rwa [Addr.add_lit] at this
   rcases hK with rfl|⟨b,o,hab,hb',hl⟩
   · obtain⟨v',w',hr,hx,B,c',q1,q2,q3,q4,_⟩:=hb [] rfl (fun _ _ h=> by cases h) (fun _ h=> by cases h)
     exact⟨v',w',hr,B,c',q1, .inl rfl,q2,q3,hx,q4⟩
   · obtain rfl:=Option.some.inj hab
     obtain⟨news,n1,n2,n3,n4⟩:=hl.copy;obtain⟨v',w',hr,hx,B,c',q1,q2,q3,q4,q5⟩:=hb news n1 (fun j u hu=> by rw[Addr.add_lit];exact hE.cell (n2 j u hu)) n3;refine⟨v',w',hr,B,c',q1, ?_,q2,q3,hx,q4⟩;by_cases hne:ks= []
     · exact .inl hne
     · obtain⟨g,rfl,hg0,hg,hcell⟩:=q5 hne
       exact .inr ⟨g,0,rfl, .inr ⟨hg0,hg⟩,n4 w' _ g 0 (fun x hxx=>⟨.inl hxx,hx.heap x (hS x hxx)⟩) hcell⟩
 obtain⟨v',w',hr,B,c',rfl,r1,r2,r3,r4,r5⟩:=key;unfold Oper.wp execOp;simp only[ho,resolve,invoke,builtin,Sem.run_bind,Sem.run_pure,Result.andThen_ok,List.map_toArray,List.map_cons,List.map_nil,hs,hx,hr];exact hK' _ _ (h B c' w' r1 r2 r3 r4 r5)
end Go.Proofs.YtdkamgafpphdjaaGreat
