/-
  Lemmas towards the law, 6: Ord, Lift, Valid.
-/
import Derived.Test.YtdkamgafpphdjaaGreatUAE
import Derived.Carry
import Derived.Deep.Slices
import Derived.Deep.Strs
import Derived.OpenShut
import Derived.OrdersHeld
namespace Go.Proofs.YtdkamgafpphdjaaGreat.Ord
open Go
set_option linter.unusedVariables false
def dstOf(ops:Array Oper)(i:Nat):Option Tmp:=(ops[i]?).bind (·.dst)
def j37(ops:Array Oper)(i:Nat):List Nat:=((ops[i]?).map fun o=>(o.after.toList.filter (Region.binds .any)).map (·.on)).getD []
def q100(ops:Array Oper):Nat->Nat->Nat->Bool
 |0,_,_=> false
 |f+1,i,j=>(j37 ops i).any fun k=> k==j||q100 ops f k j
def isOn(l:Array Bool)(i:Nat):Bool:=l.getD i false
def okO(ops:Array Oper)(l:Array Bool)(m N:Nat):Bool:=
 ((List.range m).all fun i=> isOn l i||match dstOf ops i with
  |some d=> decide (d < N)&&(List.range i).all fun j=> isOn l j||dstOf ops j !=some d
  |none=> false)&&
 (List.range (ops.size - m)).all (fun i=> isOn l (m+i) ||(List.range m).all fun j=> isOn l j||q100 ops ops.size (m+i) j)&&
 (List.range ops.size).all (fun i=>(j37 ops i).all fun k=> decide (k < i)&&(!isOn l i||isOn l k))&& decide (m<=ops.size)&& decide (l.size=ops.size)
def isDst(ops:Array Oper)(l:Array Bool)(m:Nat)(t:Nat):Bool:=(List.range m).any fun j=> !isOn l j && dstOf ops j==some t
def putN(ops:Array Oper)(v:Nat->Value)(s:Nat->Bool)(a:Act):Nat->Act
 |0=> a
 |n+1=> if s n=true then(putN ops v s a n).put (dstOf ops n) (v n) else putN ops v s a n
def depO(ops:Array Oper)(l:Array Bool)(i j d:Nat):Bool:=(j37 ops i).contains j && dstOf ops j==some d && !isOn l j
def opnO(l:Array Bool):Nat->Nat
 |0=> 0
 |n+1=> opnO l n+if isOn l n=true then 0 else 1
def doneO(l:Array Bool)(m:Nat):Array Bool:=(Array.range l.size).map fun i=> decide (i < m) ||isOn l i
section
variable (P : Program) (ops : Array Oper) (Q : Exit → Act → World → Prop) (l0 : Array Bool) (m : Nat) (E : World → World → Prop) (G : Nat → Value → World → Prop) (a0 : Act) (w0 : World)
def y194(i:Nat)(o:Oper):Prop:=
 ∀a w,E w0 w->(∀t,isDst ops l0 m t=false->a.eval (.tmp t)=a0.eval (.tmp t))->(∀j d,depO ops l0 i j d=true->G j (a.eval (.tmp d)) w)->
  wpOp P ops Q i (fun a' w'=> ∃u,a'=a.put o.dst u/\E w w'/\G i u w') a w
def StepsO:Nat->List Oper->Prop
 |_, []=> True
 |i,o::os=>(isOn l0 i=true\/y194 P ops Q l0 m E G a0 w0 i o)/\StepsO (i+1) os
end
section
variable {P : Program} {ops : Array Oper} {Q : Exit → Act → World → Prop} {l0 : Array Bool} {m : Nat} {E : World → World → Prop} {G : Nat → Value → World → Prop} {a0 : Act} {w0 : World}
theorem step_of{i:Nat}{o:Oper}{a:Act}{w:World}{R:Act->World->Prop}(ho:ops[i]? =some o)(hg:o.guard=none)(h: ∀K:Act->World->Prop,(∀a' w',R a' w'->K a' w')->o.wp P a w K Q):wpOp P ops Q i R a w:=by
 unfold wpOp;rw[ho];simp only;rw[if_pos]
 · exact .inl (h R fun _ _ h=> h)
 · unfold Region.wanted
   rw[hg]
theorem StepsO.get{l:List Oper}: ∀{i j:Nat} {o:Oper},StepsO P ops Q l0 m E G a0 w0 i l->l[j]? =some o->isOn l0 (i+j)=true\/y194 P ops Q l0 m E G a0 w0 (i+j) o:=by
 induction l with
 |nil=> intro i j o h hj;simp at hj
 |cons x l ih=>
  intro i j o h hj;cases j with
  |zero=>
   simp only[List.getElem?_cons_zero,Option.some.injEq] at hj;subst hj;exact h.1
  |succ j=>
   have:=ih (j:=j) h.2 (by simpa using hj)
   rwa [show i+1+j=i+(j+1) by omega] at this
theorem j24{v v':Nat->Value}{s s':Nat->Bool}(a:Act): ∀{n:Nat},(∀j,j < n->s j=s' j/\(s j=true->v j=v' j))->putN ops v s a n=putN ops v' s' a n
 |0,_=> rfl
 |n+1,h=> by
  have ih:=j24 a (n:=n) fun j hj=> h j (by omega)
  obtain⟨h1,h2⟩:=h n (by omega);unfold putN;rw[ih,<-h1]
  split
  · rename_i hs
    rw[h2 hs]
  · rfl
theorem y93{N:Nat}(h:okO ops l0 m N=true){i:Nat}(hi:i < m)(hl:isOn l0 i=false): ∃d,dstOf ops i=some d/\d < N/\ ∀j,j < i->isOn l0 j=false->dstOf ops j≠some d:=by
 unfold okO at h;simp only[Bool.and_eq_true,List.all_eq_true,List.mem_range] at h;have:=h.1.1.1.1 i hi;rw[hl,Bool.false_or] at this
 split at this
 · rename_i d hd
   simp only[Bool.and_eq_true,decide_eq_true_eq,List.all_eq_true,List.mem_range,bne_iff_ne,Bool.or_eq_true] at this;refine⟨d,hd,this.1,fun j hj hjl=>(this.2 j hj).resolve_left (by rw[hjl];decide)⟩
 · cases this
theorem y173{N:Nat}(h:okO ops l0 m N=true){i j:Nat}(hi:i < m)(hj:j < m)(li:isOn l0 i=false)(lj:isOn l0 j=false)(hne:i≠j){d:Tmp}(hd:dstOf ops i=some d):dstOf ops j≠some d:=by
 rcases Nat.lt_or_gt_of_ne hne with hlt|hlt
 · intro e
   obtain⟨d',h1,-,h2⟩:=y93 h hj lj;rw[e] at h1;simp only[Option.some.injEq] at h1;subst h1;exact h2 i hlt li hd
 · obtain⟨d',h1,-,h2⟩:=y93 h hi li
   rw[hd] at h1;simp only[Option.some.injEq] at h1;subst h1;exact h2 j hlt lj
theorem q47{N:Nat}(h:okO ops l0 m N=true){v:Nat->Value}{s:Nat->Bool}(a:Act)(hsl: ∀j,s j=true->isOn l0 j=false){i:Nat}(hs:s i=false)(hi0:isOn l0 i=false)(u:Value): ∀{n:Nat},i < n->n<=m->
 putN ops (fun j=> if j=i then u else v j) (fun j=> if j=i then true else s j) a n=(putN ops v s a n).put (dstOf ops i) u
 |0,hi,_=> by omega
 |n+1,hi,hn=> by
  by_cases e:n=i
  · subst e
    have e1:(if n=n then true else s n)=true:=if_pos rfl;have e2: ¬s n=true:=by rw[hs];decide
    have e3:(if n=n then u else v n)=u:=if_pos rfl;unfold putN;rw[if_pos e1,if_neg e2,e3];rw[j24 a (v:=fun j=> if j=n then u else v j) (s:=fun j=> if j=n then true else s j) (v':=v) (s':=s) (fun j hj=>⟨by rw[if_neg (by omega)],fun _=> by rw[if_neg (by omega)]⟩)]
  · have ih:=q47 h (v:=v) a hsl hs hi0 u (n:=n) (by omega) (by omega)
    unfold putN;rw[if_neg e,if_neg e,ih]
    split
    · rename_i hsn
      rw[Act.put_comm];intro d hd;exact y173 h (by omega) (by omega) hi0 (hsl n hsn) (Ne.symm e) hd
    · rfl
theorem y210(a:Act)(x:Option Tmp)(v:Value):(a.put x v).tmps.size=a.tmps.size:=by
 cases x <;> simp[Act.put]
theorem q79(v:Nat->Value)(s:Nat->Bool)(a:Act): ∀n,(putN ops v s a n).tmps.size=a.tmps.size
 |0=> rfl
 |n+1=> by
  unfold putN
  split
  · rw[y210,q79]
  · exact q79 v s a n
theorem y78(a:Act)(d:Tmp)(v:Value)(t:Tmp):(a.put (some d) v).eval (.tmp t)=if d=t then(if t < a.tmps.size then v else undef) else a.eval (.tmp t):=by
 show(a.tmps.setIfInBounds d v).getD t undef=_
 rw[Array.getD_eq_getD_getElem?,Array.getElem?_setIfInBounds]
 split
 · rename_i h
   subst h
   split <;> rfl
 · rw[show a.eval (.tmp t)=a.tmps.getD t undef from rfl,Array.getD_eq_getD_getElem?]
theorem q58(v:Nat->Value)(s:Nat->Bool)(a:Act)(t:Tmp): ∀{n:Nat},(∀j,j < n->s j=true->dstOf ops j≠some t)->(putN ops v s a n).eval (.tmp t)=a.eval (.tmp t)
 |0,_=> rfl
 |n+1,h=> by
  have ih:=q58 v s a t (n:=n) fun j hj=> h j (by omega)
  unfold putN
  split
  · rename_i hs
    cases hd:dstOf ops n with
    |none=> exact ih
    |some d=>
     rw[y78,if_neg,ih];intro e;exact h n (by omega) hs (by rw[hd,e])
  · exact ih
theorem y47{N:Nat}(h:okO ops l0 m N=true)(v:Nat->Value)(s:Nat->Bool)(hsl: ∀j,s j=true->isOn l0 j=false)(a:Act)(hN:a.tmps.size=N){k:Nat}{d:Tmp}(hd:dstOf ops k=some d)(hk:s k=true): ∀{n:Nat},k < n->n<=m->(putN ops v s a n).eval (.tmp d)=v k
 |0,hi,_=> by omega
 |n+1,hi,hn=> by
  by_cases e:n=k
  · subst e
    unfold putN;rw[if_pos hk,hd,y78,if_pos rfl,if_pos];rw[q79,hN];obtain⟨d',h1,h2,-⟩:=y93 h (i:=n) (by omega) (hsl _ hk);rw[hd] at h1;simp only[Option.some.injEq] at h1;subst h1;exact h2
  · have ih:=y47 h v s hsl a hN hd hk (n:=n) (by omega) (by omega)
    unfold putN
    split
    · rename_i hsn
      cases hd':dstOf ops n with
      |none=> exact ih
      |some d'=>
       rw[y78,if_neg,ih];intro e';subst e';exact y173 h (by omega) (by omega) (hsl _ hk) (hsl _ hsn) (Ne.symm e) hd hd'
    · exact ih
theorem q40{l:Nat->Bool}(hd: ∀i,l i=true-> ∀k∈j37 ops i,l k=true): ∀(f i j:Nat),(∀k∈j37 ops i,l k=true)->q100 ops f i j=true->l j=true
 |0,_,_,_,h=> by cases h
 |f+1,i,j,hi,h=> by
  unfold q100 at h;simp only[List.any_eq_true,Bool.or_eq_true,beq_iff_eq] at h;obtain⟨k,hk,h⟩:=h;rcases h with rfl|h
  · exact hi k hk
  · exact q40 hd f k j (hd k (hi k hk)) h
theorem q66{listed:Array Bool}{i:Nat}(h:i∈Region.ready .any ops listed):listed.getD i true=false/\(∃o,ops[i]? =some o)/\ ∀k∈j37 ops i,isOn listed k=true:=by
 obtain⟨h1,o,h2,h3⟩:=mem_ready.1 h;refine⟨h1,⟨o,h2⟩,fun k hk=> ?_⟩;unfold j37 at hk;rw[h2] at hk;simp only[Option.map_some,Option.getD_some,List.mem_map,List.mem_filter] at hk;obtain⟨e,⟨he1,he2⟩,rfl⟩:=hk;exact h3 e (by simpa using he1) he2
theorem q119{listed:Array Bool}{i:Nat}(hi:i < ops.size)(h:listed.getD i true=false)(he: ∀k∈j37 ops i,isOn listed k=true):i∈Region.ready .any ops listed:=by
 refine mem_ready.2 ⟨h,ops[i],by simp[hi],fun e h1 h2=> he e.on ?_⟩;unfold j37;rw[show ops[i]? =some ops[i] by simp[hi]];simp only[Option.map_some,Option.getD_some,List.mem_map,List.mem_filter];exact⟨e,⟨by simpa using h1,h2⟩,rfl⟩
theorem opn_le{l l':Array Bool}(h: ∀j,isOn l j=true->isOn l' j=true): ∀n,opnO l' n<=opnO l n
 |0=> Nat.le_refl _
 |n+1=> by
  have ih:=opn_le h n;unfold opnO
  split
  · omega
  · rename_i h1
    rw[if_neg (fun h2=> h1 (h n h2))];omega
theorem j100{l l':Array Bool}{i:Nat}(h0:isOn l i=false)(h1:isOn l' i=true)(h: ∀j,j≠i->isOn l' j=isOn l j): ∀{n:Nat},opnO l n=opnO l' n+if i < n then 1 else 0
 |0=> by simp[opnO]
 |n+1=> by
  have ih:=j100 h0 h1 h (n:=n);unfold opnO;by_cases e:n=i
  · subst e
    rw[ih,h0,h1];simp
  · rw[ih,h n e]
    by_cases hlt:i < n
    · rw[if_pos hlt,if_pos (by omega:i < n+1)]
      omega
    · have hlt2: ¬i < n+1:=by omega
      rw[if_neg hlt,if_neg hlt2];omega
theorem q217{p:Nat->Bool}: ∀{n:Nat},(∃j,j < n/\p j=false)-> ∃j,j < n/\p j=false/\ ∀k,k < j->p k=true
 |0,h=> by obtain⟨j,hj,-⟩:=h;omega
 |n+1,h=> by
  by_cases hq: ∃j,j < n/\p j=false
  · obtain⟨j,h1,h2⟩:=q217 hq
    exact⟨j,by omega,h2⟩
  · obtain⟨j,h1,h2⟩:=h
    have:j=n:=by
     apply Classical.byContradiction
     intro e;exact hq ⟨j,by omega,h2⟩
    subst this;refine⟨j,h1,h2,fun k hk=> ?_⟩;cases hp:p k with
    |true=> rfl
    |false=> exact absurd ⟨k,hk,hp⟩ hq
theorem wpAnyH_order{S:World->Prop}{N fuel fT:Nat}{lT:Array Bool}(hok:okO ops l0 m N=true)(hN:a0.tmps.size=N)(hf:fuel=opnO l0 ops.size)(hlT:doneO l0 m=lT)(hfT:opnO lT ops.size=fT)
 (hE0:E w0 w0) (hE: ∀u v w,E u v->E v w->E u w) (hG: ∀i v w w',G i v w->E w w'->G i v w') (hS: ∀w,E w0 w->S w)
 (steps:StepsO P ops Q l0 m E G a0 w0 0 (ops.toList.take m))
 (fin: ∀(v:Nat->Value) w,E w0 w->(∀j,j < m->isOn l0 j=false->G j (v j) w)->wpAnyH P .any ops Q S fT lT (putN ops v (fun j=> !isOn l0 j) a0 m) w):
 wpAnyH P .any ops Q S fuel l0 a0 w0:=by
 subst hlT;subst hfT;have hok2:=hok;unfold okO at hok2;simp only[Bool.and_eq_true,decide_eq_true_eq,List.all_eq_true,List.mem_range,Bool.or_eq_true,Bool.not_eq_true'] at hok2;obtain⟨⟨⟨⟨-,hupb⟩,hlowb⟩,hm⟩,hlsz⟩:=hok2;have hlow: ∀i,i < ops.size-> ∀k∈j37 ops i,k < i:=fun i hi k hk=>(hlowb i hi k hk).1
 have hdn0: ∀i,isOn l0 i=true-> ∀k∈j37 ops i,isOn l0 k=true:=fun i hl k hk=> by
  by_cases hi:i < ops.size
  · exact(hlowb i hi k hk).2.resolve_left (by rw[hl];decide)
  · unfold j37 at hk
    rw[show ops[i]? =none from Array.getElem?_eq_none (by omega)] at hk;simp at hk
 have hup: ∀i,m<=i->i < ops.size->isOn l0 i=false-> ∀j,j < m->isOn l0 j=false->q100 ops ops.size i j=true:=fun i h1 h2 hi j hj hl=> by
  have:=hupb (i - m) (by omega);rw[show m+(i - m)=i by omega] at this;have:=this.resolve_left (by rw[hi];decide) j hj;exact this.resolve_left (by rw[hl];decide)
 have hsl: ∀listed:Array Bool,∀j,(isOn listed j && !isOn l0 j)=true->isOn l0 j=false:=fun listed j h=> by
  simp only[Bool.and_eq_true,Bool.not_eq_true'] at h;exact h.2
 have main: ∀(fuel:Nat) (listed:Array Bool) (a:Act) (w:World) (v:Nat->Value),listed.size=ops.size->(∀i,m<=i->isOn listed i=isOn l0 i)->(∀i,isOn l0 i=true->isOn listed i=true)->
  (∀i,isOn listed i=true-> ∀k∈j37 ops i,isOn listed k=true)->a=putN ops v (fun j=> isOn listed j && !isOn l0 j) a0 m->(∀j,j < m->isOn listed j=true->isOn l0 j=false->G j (v j) w)->E w0 w->
  fuel=opnO listed ops.size->wpAnyH P .any ops Q S fuel listed a w:=by
  intro fuel;have done: ∀(fuel:Nat) (listed:Array Bool) (a:Act) (w:World) (v:Nat->Value),listed.size=ops.size->(∀i,m<=i->isOn listed i=isOn l0 i)->a=putN ops v (fun j=> isOn listed j && !isOn l0 j) a0 m->(∀j,j < m->isOn listed j=true->isOn l0 j=false->G j (v j) w)->E w0 w->
   fuel=opnO listed ops.size->(∀j,j < m->isOn listed j=true)->wpAnyH P .any ops Q S fuel listed a w:=by
   intro fuel listed a w v hsz h1 ha hg he hf hall;have hl:listed=doneO l0 m:=by
    apply Array.ext
    · simp[doneO,hsz,hlsz]
    · intro i hi1 hi2
      have e1:isOn listed i=listed[i]:=by simp[isOn,Array.getD_eq_getD_getElem?,hi1]
      have e2:(doneO l0 m)[i]=(decide (i < m) ||isOn l0 i):=by simp[doneO]
      rw[<-e1,e2];by_cases hi:i < m
      · rw[hall i hi];simp[hi]
      · rw[h1 i (by omega)];simp[hi]
   subst hl;subst ha;subst hf;rw[j24 (v':=v) (s':=fun j=> !isOn l0 j) a0 (fun j hj=>⟨by rw[hall j hj,Bool.true_and],fun _=> rfl⟩)];exact fin v w he (fun j hj hl=> hg j hj (hall j hj) hl)
  induction fuel with
  |zero=>
   intro listed a w v hsz h1 hmo h2 ha hg he hf;refine done 0 listed a w v hsz h1 ha hg he hf fun j hj=> ?_
   have: ∀n,opnO listed n=0-> ∀j,j < n->isOn listed j=true:=by
    intro n
    induction n with
    |zero=> intro _ j hj;omega
    |succ n ih=>
     intro h j hj;unfold opnO at h;by_cases e:j=n
     · subst e
       split at h
       · assumption
       · omega
     · exact ih (by omega) j (by omega)
   exact this ops.size hf.symm j (by omega)
  |succ fuel ih=>
   intro listed a w v hsz h1 hmo h2 ha hg he hf;by_cases hall: ∀j,j < m->isOn listed j=true
   · exact done _ listed a w v hsz h1 ha hg he hf hall
   · obtain⟨j0,hj0,hj1,hj2⟩:=q217 (p:=isOn listed) (n:=m) (by
      apply Classical.byContradiction
      intro h;exact hall fun j hj=> by
       cases hp:isOn listed j with
       |true=> rfl
       |false=> exact absurd ⟨j,hj,hp⟩ h)
     have gt: ∀i,i < ops.size->listed.getD i true=isOn listed i:=fun i hi=> by
      simp[isOn,Array.getD_eq_getD_getElem?,show i < listed.size by omega]
     refine⟨fun h0=> ?_,fun i hi=> ?_⟩
     · have hr:j0∈Region.ready .any ops listed:=q119 (by omega) (by rw[gt _ (by omega)];exact hj1) (fun k hk=> hj2 k (hlow j0 (by omega) k hk))
       rw[h0] at hr;cases hr
     · obtain⟨r1,⟨o,ho⟩,r3⟩:=q66 hi
       have hin:i < ops.size:=(Array.getElem?_eq_some_iff.1 ho).1;have hi0:isOn listed i=false:=by rw[<-gt i hin];exact r1
       have hil:isOn l0 i=false:=by
        cases hp:isOn l0 i with
        |false=> rfl
        |true=> rw[hmo i hp] at hi0;cases hi0
       have hj0l:isOn l0 j0=false:=by
        cases hp:isOn l0 j0 with
        |false=> rfl
        |true=> rw[hmo j0 hp] at hj1;cases hj1
       have him:i < m:=by
        apply Classical.byContradiction
        intro hge;have:=q40 (l:=isOn listed) h2 ops.size i j0 r3 (hup i (by omega) hin hil j0 hj0 hj0l);rw[hj1] at this;cases this
       have hst:=StepsO.get (j:=i) steps (by rw[List.getElem?_take,if_pos him];simpa using ho);rw[Nat.zero_add] at hst;have hst:=hst.resolve_left (by rw[hil];decide);have hd:(dstOf ops i)=o.dst:=by unfold dstOf;rw[ho];rfl
       have hsi:(isOn listed i && !isOn l0 i)=false:=by rw[hi0];rfl
       refine wpOp_mono ?_ (hst a w he ?_ ?_)
       · rintro a' w' ⟨u,rfl,he',hg'⟩
         have hset: ∀j,isOn (listed.setIfInBounds i true) j=if j=i then true else isOn listed j:=fun j=> by
          unfold isOn;by_cases e:j=i
          · subst e
            rw[if_pos rfl];simp[Array.getD_eq_getD_getElem?,show j < listed.size by omega]
          · rw[if_neg e]
            simp[Array.getD_eq_getD_getElem?,Array.getElem?_setIfInBounds_ne (Ne.symm e)]
         refine⟨hS _ (hE _ _ _ he he'),ih (listed.setIfInBounds i true) _ w' (fun j=> if j=i then u else v j) (by simpa using hsz) ?_ ?_ ?_ ?_ ?_ (hE _ _ _ he he') ?_⟩
         · intro j hj
           rw[hset,if_neg (by omega)];exact h1 j hj
         · intro j hj
           rw[hset]
           split
           · rfl
           · exact hmo j hj
         · intro j hj k hk
           rw[hset] at hj⊢;by_cases e:k=i
           · rw[if_pos e]
           · rw[if_neg e]
             by_cases e2:j=i
             · subst e2;exact r3 k hk
             · rw[if_neg e2] at hj
               exact h2 j hj k hk
         · rw[ha,<-hd,<-q47 hok (s:=fun j=> isOn listed j && !isOn l0 j) a0 (hsl listed) hsi hil u him (Nat.le_refl _)]
           refine j24 a0 (fun j hj=>⟨?_,fun _=> rfl⟩);simp only[hset];by_cases e:j=i
           · rw[if_pos e,if_pos e,e,hil];rfl
           · rw[if_neg e,if_neg e]
         · intro j hj hl hjl
           by_cases e:j=i
           · simp only[if_pos e];rw[e];exact hg'
           · simp only[if_neg e]
             rw[hset,if_neg e] at hl;exact hG _ _ _ _ (hg j hj hl hjl) he'
         · have:=j100 (l:=listed) (l':=listed.setIfInBounds i true) (i:=i) hi0 (by rw[hset,if_pos rfl]) (fun j hj=> by rw[hset,if_neg hj]) (n:=ops.size)
           rw[if_pos hin] at this;omega
       · intro t ht
         rw[ha,q58];intro j hj hs e;unfold isDst at ht;rw[List.any_eq_false] at ht;refine ht j (List.mem_range.2 hj) ?_;rw[hsl listed j hs,e];simp
       · intro j d hjd
         unfold depO at hjd;simp only[Bool.and_eq_true,beq_iff_eq,List.contains_iff_mem,Bool.not_eq_true'] at hjd;have hjl:=r3 j hjd.1.1;have hji:=hlow i hin j hjd.1.1;rw[ha,y47 hok v _ (hsl listed) a0 hN hjd.1.2 (by rw[hjl,hjd.2];rfl) (by omega) (Nat.le_refl _)];exact hg j (by omega) hjl hjd.2
 refine main fuel l0 a0 w0 (fun _=> undef) hlsz (fun _ _=> rfl) (fun _ h=> h) hdn0 ?_ ?_ hE0 hf
 · have: ∀n,putN ops (fun _=> undef) (fun j=> isOn l0 j && !isOn l0 j) a0 n=a0:=fun n=> by
    induction n with
    |zero=> rfl
    |succ n ih=>
     unfold putN;rw[if_neg,ih];simp
   exact(this m).symm
 · intro j hj hl hl2
   rw[hl] at hl2;cases hl2
def putO(ops:Array Oper)(v:Nat->Value)(a:Act):Nat->Act
 |0=> a
 |n+1=>(putO ops v a n).put (dstOf ops n) (v n)
theorem putN_all(v:Nat->Value)(a:Act)(k:Nat): ∀n,putN ops v (fun j=> !isOn (Array.replicate k false) j) a n=putO ops v a n
 |0=> rfl
 |n+1=> by
  unfold putN putO;rw[putN_all v a k n,if_pos];unfold isOn;rw[Array.getD_eq_getD_getElem?,Array.getElem?_replicate]
  split <;> rfl
end
end Go.Proofs.YtdkamgafpphdjaaGreat.Ord
namespace Go.Proofs.YtdkamgafpphdjaaGreat
open Go.RowKit Go.ChangeShapes Go.WideShapes Go.ChangeAt Go.Deep
set_option linter.unusedVariables false
section
variable {H : Type} {enc : TypeId × Value → H} {P : Program}
theorem q77(hl:laidOutB P=true){W W':World}(hb:Ext W W'): ∀{ts:List TypeId} {vs:List Value} {ds:List (DataW H)} {ps:List MemPlace},
 (ts.all fun t=> P.readableRec t && decide (t < P.types.size))=true->DataW.TrodAll enc P W 0 (fun _=> true) true ts vs ds ps->(∀x∈ps,x.block < W.heap.size)->
 DataW.TrodAll enc P W' 0 (fun b=> decide (b < W.heap.size)) true ts vs ds ps
 | [],vs,ds,ps,_,h,_=> by
  obtain⟨rfl,rfl,rfl⟩:=trodAll_nil h;exact trodAll_mk0
 |t::ts,vs,ds,ps,hr,h,hlt=> by
  obtain⟨v,vs',d,ds',p,q,rfl,rfl,rfl,h0,r⟩:=trodAll_cons h;simp only[List.all_cons,Bool.and_eq_true,decide_eq_true_eq] at hr;exact trodAll_cons_mk (Below.trod hl hr.1.1 hr.1.2 h0 hb (fun x hx=> hlt x (List.mem_append_left _ hx))) (q77 hl hb (by simpa using hr.2) r (fun x hx=> hlt x (List.mem_append_right _ hx)))
theorem j214{C:Checked}{os:Os}{f:FuncId}{fn:Func}{s:ChangeSpec}{tb:TypeId}(own:ownKnob C.prog.godebug=none)(started:os.Started)(noInit:C.prog.inits.idxOf? f=none)(hfn:C.prog.funcs[f]? =some fn)
 (hl:laidOutB C.prog=true) (hread:(fn.params.toList.all fun t=> C.prog.readableRec t && decide (t < C.prog.types.size))=true) (hres:fn.resultTypes=#[tb]) (hbool:C.prog.underlying tb=some .bool)
 (hvars:s.vars= []) (hspec: ∀ds:List (DataW H),ds.length=fn.params.size->(s.fn H ds).results= [.lit (.bool true)]/\(s.fn H ds).args=ds/\(s.fn H ds).vars= [])
 (witness: ∃(w:World) (tape:Tape) (i:Input),w.os=os/\(w.forCall tape i).Shaped C.prog/\i.vars= []/\Input.okWide C.prog (w.forCall tape i) .any w.heap.size f i/\
  s.pre6 enc C.prog fn [] false (w.forCall tape i).memory i.args/\({}:Assume).holds C.prog (lone (Frame.enter C.prog f i.args .normal) [] (w.forCall tape i)))
 (walk: ∀(W:World) (base:Nat) (args:Array Value) (ds:List (DataW H)) (p:List MemPlace),
  (∀(j:Nat) t v,fn.params[j]? =some t->args[j]? =some v->Value.okWide C.prog W .any base t v)->DataW.TrodAll enc C.prog W 0 (fun _=> true) true fn.params.toList args.toList ds p->
  (∀x∈p,x.block < W.heap.size)->Calls C.prog f args W fun e W'=> e= .returned (.bool true)/\Ext W W'):
 ReturnsInHanded {} C os f .any (s.pre6 enc C.prog fn [] false) (s.post enc C.prog fn false true false false):=by
 refine returnsInHanded_of_change own started noInit hfn witness ?_;intro W base args ds gs before hval hW _ _;have hlt: ∀x∈before,x.block < W.heap.size:=fun x hx=> hW.lt x hx
 have hW':=hW;obtain⟨p,q,hA,hV,rfl,hfz,hnd⟩:=hW;rw[hvars] at hV;obtain⟨rfl,rfl⟩:=trodVars_none hV;simp only[List.append_nil] at hlt hW';refine(walk W base args ds p hval hA hlt).mono ?_;rintro e W' ⟨rfl,hE⟩;have hlen:ds.length=fn.params.size:=by
  have h1: ∀{ts:List TypeId} {vs:List Value} {es:List (DataW H)} {ps:List MemPlace},DataW.TrodAll enc C.prog W 0 (fun _=> true) true ts vs es ps->es.length=ts.length:=by
   intro ts
   induction ts with
   |nil=> intro vs es ps h;obtain⟨_,rfl,_⟩:=trodAll_nil h;rfl
   |cons t ts ih=> intro vs es ps h;obtain⟨v,vs',d,ds',p,q,rfl,rfl,rfl,h0,r⟩:=trodAll_cons h;simp[ih r]
  rw[h1 hA,Array.length_toList]
 obtain⟨e1,e2,e3⟩:=hspec ds hlen;refine⟨_,rfl,ds, [],p, [],p, [],by simpa using hW', ?_, ?_, ?_,Below.frame hE _|> World.keptBut_mono (fun x hx=>⟨hx,.inr (.inl hx)⟩),fun h=> by cases h⟩
 · rw[List.append_nil,e1,hres]
   exact trodAll_mk1 (shut_bool hbool _)
 · rw[List.append_nil,e2]
   exact q77 hl hE hread hA hlt
 · rw[List.append_nil,e3,hvars]
   exact rfl
end
/-! ### A tree that came in -/
section
variable {H : Type} {enc : TypeId × Value → H} {P : Program} {w : World} {spare : Nat → Bool} {held : Bool}
structure q155 (P:Program) (t s i:TypeId) (f0 f1 f2:Field):Prop where
 ht:P.underlying t=some (.struct #[f0,f1,f2])
 hs:P.underlying s=some (.slice t)
 hi:P.underlying i=some (.int .i64)
 t0:f0.type=i
 t1:f1.type=i
 t2:f2.type=s
 o0:f0.offset=0
 o1:f1.offset=1
 o2:f2.offset=2
 ci:P.cellsOf i=1
 cs:P.cellsOf s=1
 ct:P.cellsOf t=3
abbrev fld(n:String)(t:TypeId)(o:Nat)(b:Nat):Field:={name:=n,type:=t,offset:=o,embedded:=false,tag:= "",pkgPath:= "",byteOffset:=b}
theorem j48{α:Type}{p:Nat->α->Prop}: ∀n:Nat,(∀i,i < n-> ∃x,p i x)-> ∃l:List α,l.length=n/\ ∀i (h:i < l.length),p i l[i]
 |0,_=>⟨[],rfl,fun i h=> absurd h (by simp)⟩
 |n+1,h=> by
  obtain⟨l,hl,hp⟩:=j48 n (fun i hi=> h i (by omega));obtain⟨x,hx⟩:=h n (by omega);refine⟨l++ [x],by simp[hl],fun i hi=> ?_⟩;by_cases hin:i < l.length
  · rw[List.getElem_append_left hin];exact hp i hin
  · have:i=n:=by simp at hi;omega
    subst this;rw[List.getElem_append_right (by omega)]
    simpa[hl] using hx
theorem InL.build{S:Nat->Prop}{b:Nat}: ∀{ks:List Tr} {o:Nat},(∀j (h:j < ks.length),∃v0 v1 v2,w.cell? ⟨b,o+j*3,none⟩=some v0/\w.cell? ⟨b,o+j*3+1,none⟩=some v1/\w.cell? ⟨b,o+j*3+2,none⟩=some v2/\InT w S ks[j] (.agg #[v0,v1,v2]))->InL w S b o ks
 | [],_,_=> by unfold InL;trivial
 |t::ts,o,h=> by
  unfold InL;refine⟨by have h0:=h 0 (by simp);simp only[List.getElem_cons_zero,Nat.zero_mul,Nat.add_zero] at h0;exact h0,InL.build fun j hj=> ?_⟩;have:=h (j+1) (by simpa using hj);have ea:o+(j+1)*3=o+3+j*3:=by omega
  rw[ea] at this
  simpa using this
theorem j60(b o n:Nat):(⟨b,o,none⟩:Addr).add n=⟨b,o+n,none⟩:=by
 unfold Addr.add
 split <;> simp_all
theorem y95{t s i:TypeId}{f0 f1 f2:Field}(T:q155 P t s i f0 f1 f2)(fuel:Nat)
 (ih: ∀m,m < fuel-> ∀(cs:List Value) (x:DataW H×List MemPlace),DataW.trod enc P w 0 spare held m t cs=some x-> ∃(tr:Tr) (v0 v1 v2:Value),cs= [v0,v1,v2]/\Lies w tr (.agg #[v0,v1,v2]))
 (cs:List Value) (x:DataW H×List MemPlace) (h:DataW.trod enc P w 0 spare held fuel s cs=some x):
 ∃(A:Option Addr) (cap:Nat) (ks:List Tr),cs= [.slice A ks.length cap]/\ks.length<=cap/\cap<=maxLen/\y16 w A ks:=by
 rcases DataW.trod_slice T.hs h with⟨rfl,_⟩ |⟨a,len,cap,elems,rest,n,rfl,rfl,_,_,hl,hm,hlen,hel,_,_⟩
 · exact⟨none,0, [],rfl,Nat.le_refl _,Nat.zero_le _,.inl rfl⟩
 · have hel': ∀j,j < len-> ∃tr:Tr,∃v0 v1 v2,w.cell? (a.add (j*3))=some v0/\w.cell? ((a.add (j*3)).add 1)=some v1/\w.cell? ((a.add (j*3)).add 2)=some v2/\Lies w tr (.agg #[v0,v1,v2]):=by
    intro j hj;have hj':=hel j hj;rw[List.getElem?_eq_getElem (by omega)] at hj';obtain⟨cs',h1,h2⟩:=Option.bind_eq_some_iff.1 hj';obtain⟨tr,v0,v1,v2,rfl,hL⟩:=ih n (by omega) _ _ h2;obtain⟨_,_,hcell⟩:=World.cells?_some h1;rw[T.ct] at hcell;have q0:=hcell 0 (by omega);have q1:=hcell 1 (by omega);have q2:=hcell 2 (by omega);have e0: ∀y:Addr,y.add 0=y:=fun y=> by simp[Addr.add]
    rw[e0] at q0;exact⟨tr,v0,v1,v2,q0,q1,q2,hL⟩
   obtain⟨ks,hks,hp⟩:=j48 len hel';subst hks;refine⟨some a,cap,ks,rfl,hl,hm, ?_⟩;cases ks with
   |nil=> exact .inl rfl
   |cons t0 ts=>
    obtain⟨b,o,spot⟩:=a;have hlt:b < w.heap.size/\spot=none:=by
     obtain⟨v0,v1,v2,q0,_⟩:=hp 0 (by simp);simp only[Nat.zero_mul] at q0;have e0:(⟨b,o,spot⟩:Addr).add 0=⟨b,o,spot⟩:=by simp[Addr.add]
     rw[e0] at q0;exact⟨World.block_lt_of_cell? _ _ q0,by simpa using World.cell?_spot q0⟩
    obtain⟨hlt,rfl⟩:=hlt;refine .inr ⟨b,o,rfl,hlt,InL.build fun j hj=> ?_⟩;obtain⟨v0,v1,v2,q0,q1,q2,hL⟩:=hp j hj;rw[j60] at q0 q1 q2;rw[j60] at q1 q2;exact⟨v0,v1,v2,q0,q1,q2,hL⟩
theorem j53{t s i:TypeId}{f0 f1 f2:Field}(T:q155 P t s i f0 f1 f2): ∀(fuel:Nat) (cs:List Value) (x:DataW H×List MemPlace),DataW.trod enc P w 0 spare held fuel t cs=some x->
 ∃(tr:Tr) (v0 v1 v2:Value),cs= [v0,v1,v2]/\Lies w tr (.agg #[v0,v1,v2]):=by
 intro fuel
 induction fuel using Nat.strongRecOn with
 |_ fuel ih=>
  intro cs x h;obtain⟨xs,n,rfl,_,hcl,hlen,hg⟩:=DataW.trod_struct T.ht h;rw[T.ct] at hcl
  match cs,hcl,xs,hlen with
  | [v0,v1,v2],_, [y0,y1,y2],_=>
   have g0:=hg 0 f0 rfl;have g1:=hg 1 f1 rfl;have g2:=hg 2 f2 rfl;simp[T.o0,T.o1,T.o2,T.t0,T.t1,T.t2,T.ci,T.cs] at g0 g1 g2
   obtain⟨k,hk,_,_⟩:=DataW.trod_int T.hi g0;obtain⟨m,hm,_,_⟩:=DataW.trod_int T.hi g1;simp at hk hm
   obtain⟨A,cap,ks,he,hl,hc,hK⟩:=y95 T n (fun m hm=> ih m (by omega)) _ _ g2;simp at he
   subst hk;subst hm;subst he;exact⟨.mk k m ks,_,_,_,rfl,Lies.mk hl hc hK⟩
theorem open_tree{t s i:TypeId}{f0 f1 f2:Field}(T:q155 P t s i f0 f1 f2){r:Reach}{b0:Nat}{v:Value}{d:DataW H}{p:List MemPlace}(hv:Value.okWide P w r b0 t v)(h:DataW.Trod enc P w 0 spare held t v d p): ∃tr:Tr,Lies w tr v:=by
 obtain⟨cs,rfl,hsz⟩:=okWide_struct T.ht hv;obtain⟨fuel,hf⟩:=h;obtain⟨tr,v0,v1,v2,hc,hL⟩:=j53 T fuel _ _ hf;obtain⟨l⟩:=cs;simp only[Value.cells] at hc;subst hc;exact⟨tr,hL⟩
theorem open_trees{t s i:TypeId}{f0 f1 f2:Field}(T:q155 P t s i f0 f1 f2){r:Reach}{b0:Nat}{v:Value}{d:DataW H}{p:List MemPlace}(hv:Value.okWide P w r b0 s v)(h:DataW.Trod enc P w 0 spare held s v d p):
 ∃(A:Option Addr) (cap:Nat) (ks:List Tr),v= .slice A ks.length cap/\ks.length<=cap/\cap<=maxLen/\y16 w A ks:=by
 obtain⟨a0,len,cap,rfl⟩:=okWide_slice T.hs hv;obtain⟨fuel,hf⟩:=h;obtain⟨A,cap',ks,he,r⟩:=y95 T fuel (fun m _=> j53 T m) _ _ hf;simp only[Value.cells,List.cons.injEq,and_true] at he;exact⟨A,cap',ks,he,r⟩
end
end Go.Proofs.YtdkamgafpphdjaaGreat
namespace Go.Proofs.YtdkamgafpphdjaaGreat
set_option linter.unusedVariables false
def inR(n lo hi:Int):Bool:=decide (lo<=n)&& decide (n<=hi)
theorem q33{n lo hi:Int}:inR n lo hi=true↔lo<=n/\n<=hi:=by simp[inR]
theorem y53{n lo hi:Int}:inR n lo hi=false↔n < lo\/hi < n:=by
 rw[Bool.eq_false_iff,Ne,q33];omega
structure Sig where
 ops:Int->Int
 most:Int->Int
def opsT(k:Int):Int:=if k=1 then 0 else if k=2 then 0 else if k=3 then 2 else if k=4 then 2 else if k=5 then 2 else if k=6 then 0 else if k=7 then 0 else if k=8 then 1 else if k=9 then 4 else if k=10 then 3 else if k=11 then 1 else if k=12 then 3 else if k=13 then 2 else if k=14 then 3 else if k=15 then 1 else if k=16 then 1 else -1
def q28(k:Int):Int:=if k=1 then 20 else if k=2 then 3 else 0
def sigT:Sig:=⟨opsT,q28⟩
def j75(g:Sig)(k n:Int)(len:Nat):Bool:=decide (g.ops k=(len:Int))&& inR n 0 (g.most k)
mutual
def shape(g:Sig):Tr->Int->Bool
 | .mk k n ks,depth=> decide (1<=depth)&&(j75 g k n ks.length && j21 g ks (depth - 1))
def j21(g:Sig):List Tr->Int->Bool
 | [],_=> true
 |t::ts,depth=> shape g t depth && j21 g ts depth
end
def valid(g:Sig)(t:Tr):Bool:=shape g t 30 && decide (cnt t<=400)
mutual
def cntM:Tr->Int->Int
 | .mk _ _ ks,most=> j63 ks most 1
def j63:List Tr->Int->Int->Int
 | [],_,n=> n
 |t::ts,most,n=> if n<=most then j63 ts most (n+cntM t (most - n)) else n
end
mutual
theorem q114: ∀(t:Tr) (most:Int),0<=most->1<=cntM t most/\cntM t most<=most+1/\(cntM t most<=most↔(cnt t:Int)<=most)/\(cntM t most<=most->cntM t most=cnt t)
 | .mk _ _ ks,most,h=> by
  have:=y148 ks most 1 (by omega) (by omega);simp only[cntM,cnt];omega
theorem y148: ∀(ts:List Tr) (most n:Int),1<=n->n<=most+1->n<=j63 ts most n/\j63 ts most n<=most+1/\(j63 ts most n<=most↔n+cnts ts<=most)/\(j63 ts most n<=most->j63 ts most n=n+cnts ts)
 | [],most,n,h,h'=> by simp only[j63,cnts];omega
 |t::ts,most,n,h,h'=> by
  simp only[j63,cnts];by_cases hn:n<=most
  · rw[if_pos hn]
    have h1:=q114 t (most - n) (by omega);have h2:=y148 ts most (n+cntM t (most - n)) (by omega) (by omega);have h3:=y118 t;omega
  · rw[if_neg hn]
    have h3:=y118 t;omega
end
theorem y184{g:Sig}{t:Tr}:valid g t=(shape g t 30 && decide (cntM t 400<=400)):=by
 have:=(q114 t 400 (by omega)).2.2.1;unfold valid
 congr 1
 rw[Bool.eq_iff_iff,decide_eq_true_iff,decide_eq_true_iff];omega
mutual
def j33(g:Sig):Tr->Int->Int->Bool×Int
 | .mk k n ks,deep,c=> if 400 < c+1 then(false,c+1) else if 30 < deep then(false,c+1) else if g.ops k=(ks.length:Int) then(if inR n 0 (g.most k)=true then j32 g ks (deep+1) (c+1) else(false,c+1)) else(false,c+1)
def j32(g:Sig):List Tr->Int->Int->Bool×Int
 | [],_,c=>(true,c)
 |t::ts,deep,c=> if(j33 g t deep c).1=true then j32 g ts deep (j33 g t deep c).2 else(false,(j33 g t deep c).2)
end
mutual
theorem j83(g:Sig): ∀(t:Tr) (deep c:Int),0<=c->c<=400->(j33 g t deep c).1=(shape g t (31 - deep)&& decide (c+cnt t<=400))/\((j33 g t deep c).1=true->(j33 g t deep c).2=c+cnt t)/\c<=(j33 g t deep c).2/\(j33 g t deep c).2<=401/\((j33 g t deep c).1=true->(j33 g t deep c).2<=400)
 | .mk k n ks,deep,c,h,h'=> by
  have hc:(cnt (.mk k n ks):Int)=cnts ks+1:=by simp[cnt]
  simp only[j33,shape,j75];by_cases h1:400 < c+1
  · rw[if_pos h1]
    refine⟨?_,by simp,by simp;omega,by simp;omega,by simp⟩
    symm
    rw[Bool.and_eq_false_iff];exact .inr (decide_eq_false (by omega))
  · rw[if_neg h1]
    by_cases h2:30 < deep
    · rw[if_pos h2]
      refine⟨?_,by simp,by simp;omega,by simp;omega,by simp⟩
      symm
      rw[Bool.and_eq_false_iff,Bool.and_eq_false_iff];exact .inl (.inl (decide_eq_false (by omega)))
    · rw[if_neg h2]
      by_cases h3:g.ops k=(ks.length:Int)
      · rw[if_pos h3]
        by_cases h4:inR n 0 (g.most k)=true
        · rw[if_pos h4]
          obtain⟨e1,e2,e3,e4,e5⟩:=y99 g ks (deep+1) (c+1) (by omega) (by omega);refine⟨?_,fun hh=> by rw[e2 hh];omega,by omega,e4,e5⟩;rw[e1,decide_eq_true h3,h4];have ed:31 -(deep+1)=31 - deep - 1:=by omega
          have d1:decide (1<=31 - deep)=true:=decide_eq_true (by omega);rw[ed,d1];simp only[Bool.true_and]
          congr 1
          exact decide_eq_decide.2 (by omega)
        · rw[if_neg h4]
          refine⟨?_,by simp,by simp;omega,by simp;omega,by simp⟩;simp[h4]
      · rw[if_neg h3]
        refine⟨?_,by simp,by simp;omega,by simp;omega,by simp⟩;simp[h3]
theorem y99(g:Sig): ∀(ts:List Tr) (deep c:Int),0<=c->c<=400->(j32 g ts deep c).1=(j21 g ts (31 - deep)&& decide (c+cnts ts<=400))/\((j32 g ts deep c).1=true->(j32 g ts deep c).2=c+cnts ts)/\c<=(j32 g ts deep c).2/\(j32 g ts deep c).2<=401/\((j32 g ts deep c).1=true->(j32 g ts deep c).2<=400)
 | [],deep,c,h,h'=> by
  have hc:(cnts []:Int)=0:=by simp[cnts]
  have hd:decide (c+(cnts []:Int)<=400)=true:=decide_eq_true (by omega);simp only[j32,j21];refine⟨by rw[hd];rfl,by omega,by omega,by omega,by omega⟩
 |t::ts,deep,c,h,h'=> by
  have hc:(cnts (t::ts):Int)=cnt t+cnts ts:=by simp[cnts]
  simp only[j32,j21];obtain⟨e1,e2,e3,e4,e5⟩:=j83 g t deep c h h';by_cases hs:(j33 g t deep c).1=true
  · rw[if_pos hs]
    have e2':=e2 hs;have e5':=e5 hs;obtain⟨d1,d2,d3,d4,d5⟩:=y99 g ts deep (j33 g t deep c).2 (by omega) e5';refine⟨?_,fun hh=> by rw[d2 hh,e2'];omega,by omega,d4,d5⟩;rw[d1];rw[hs] at e1;have e1':=e1.symm;rw[Bool.and_eq_true] at e1';rw[e1'.1];simp only[Bool.true_and]
    congr 1
    exact decide_eq_decide.2 (by omega)
  · rw[if_neg hs]
    refine⟨?_,by simp,e3,e4,by simp⟩;have hf:(j33 g t deep c).1=false:=by simpa using hs
    rw[hf] at e1;have e1':=e1.symm;rw[Bool.and_eq_false_iff] at e1'
    symm
    rw[Bool.and_eq_false_iff,Bool.and_eq_false_iff];rcases e1' with e1'|e1'
    · exact .inl (.inl e1')
    · have:=of_decide_eq_false e1'
      exact .inr (decide_eq_false (by omega))
end
theorem j140(g:Sig)(t:Tr):(j33 g t 1 0).1=valid g t/\(valid g t=true->(j33 g t 1 0).2=cnt t):=by
 obtain⟨e1,e2,_⟩:=j83 g t 1 0 (by omega) (by omega);have h:(j33 g t 1 0).1=valid g t:=by
  rw[e1];unfold valid;have e:(31:Int) - 1=30:=rfl;rw[e]
  congr 1
  exact decide_eq_decide.2 (by omega)
 exact⟨h,fun hv=> by rw[e2 (h.trans hv)];omega⟩
end Go.Proofs.YtdkamgafpphdjaaGreat
