/-
  Lemmas towards the law, 15: OrdN, Sub1.
-/
import Derived.Test.YtckhbnmfnpolgaaGreatC00
import Derived.Test.YtckhbnmfnpolgaaGreatCAN
open List renaming range->iT,any_eq_false->jO
open Go renaming Value->aT,Program->eR,World->aL,undef->lU,wpAnyH->iR,heap_alloc_new->aS,bodyPost_ret->aP,results->aR
open Go.Region renaming wanted->eN,ready->iY
open Bool renaming and_eq_true->aW,not_eq_true'->gW,true_and->bT
open Ne renaming symm->lR
open Array renaming getD_eq_getD_getElem?->dP,getElem_setIfInBounds_ne->jY
open Option renaming getD_some->jX
open Classical renaming byContradiction->iP
open Nat renaming le_refl->aN
open Go.RowKit.Below renaming heap_setCell->aM
open Go.Proofs.Tryz
set_option linter.all false
set_option maxRecDepth 100000
namespace Go.Proofs.YtckhbnmfnpolgaaGreat.Ord
open Go
def dstOf(ops:Array Oper)(i:Nat):Option Tmp:=(ops[i]?).bind (·.dst)
def y96(ops:Array Oper)(i:Nat):List Nat:=((ops[i]?).map fun o=>(o.after.toList.filter (Region.binds .any)).map (·.on)).getD []
def Yi(ops:Array Oper):Nat->Nat->Nat->Bool
 |0,_,_=> false
 |f+1,i,j=>(y96 ops i).any fun k=> k==j||Yi ops f k j
def isOn(l:Array Bool)(i:Nat):Bool:=l.getD i false
def isDst(ops:Array Oper)(l:Array Bool)(m:Nat)(t:Nat):Bool:=(iT m).any fun j=> !isOn l j && dstOf ops j==some t
def v8(ops:Array Oper)(v:Nat->aT)(s:Nat->Bool)(a:Act):Nat->Act
 |0=> a
 |n+1=> if s n=true then(v8 ops v s a n).put (dstOf ops n) (v n) else v8 ops v s a n
def depO(ops:Array Oper)(l:Array Bool)(i j d:Nat):Bool:=(y96 ops i).contains j && dstOf ops j==some d && !isOn l j
def opnO(l:Array Bool):Nat->Nat
 |0=> 0
 |n+1=> opnO l n+if isOn l n=true then 0 else 1
def doneO(l:Array Bool)(m:Nat):Array Bool:=(Array.range l.size).map fun i=> decide (i < m) ||isOn l i
def Mx(ops:Array Oper)(l:Array Bool)(m N:Nat):Bool:=
 (iT m).all fun i=> isOn l i||match dstOf ops i with
  |some d=> decide (d < N)&&(iT i).all fun j=> isOn l j||dstOf ops j !=some d
  |none=> true
def okX(ops:Array Oper)(l:Array Bool)(m N x:Nat):Bool:=
 Mx ops l m N &&
 (iT (ops.size - m)).all (fun i=> isOn l (m+i) ||(iT m).all fun j=> j==x||isOn l j||Yi ops ops.size (m+i) j)&&
 (iT ops.size).all (fun i=>(y96 ops i).all fun k=> decide (k < i)&&(!isOn l i||isOn l k))&& decide (m<=ops.size)&& decide (l.size=ops.size)
section
variable {Γ : Type} (P : eR) (ops : Array Oper) (Q : Exit → Act → aL → Prop) (l0 : Array Bool) (m : Nat) (E : aL × Γ → aL × Γ → Prop) (G : Nat → aT → aL × Γ → Prop) (a0 : Act) (w0 : aL × Γ)
def ur(i:Nat)(o:Oper):Prop:=
 ∀a w z,E w0 (w,z)->(∀t,isDst ops l0 m t=false->a.eval (.tmp t)=a0.eval (.tmp t))->(∀j d,depO ops l0 i j d=true->G j (a.eval (.tmp d)) (w,z))->
  wpOp P ops Q i (fun e b=> ∃u c,e=a.put o.dst u/\E (w,z) (b,c)/\G i u (b,c)) a w
def StL:List Nat->Prop
 | []=> True
 |i::is=>(∃o,ops[i]? =some o/\ur P ops Q l0 m E G a0 w0 i o)/\StL is
end
section
variable {Γ : Type} {P : eR} {ops : Array Oper} {Q : Exit → Act → aL → Prop} {l0 : Array Bool} {m : Nat} {E : aL × Γ → aL × Γ → Prop} {G : Nat → aT → aL × Γ → Prop} {a0 : Act} {w0 : aL × Γ}
theorem StL.get: ∀{is:List Nat} {i:Nat},StL P ops Q l0 m E G a0 w0 is->i∈is-> ∃o,ops[i]? =some o/\ur P ops Q l0 m E G a0 w0 i o
 | [],i,h,hi=> by cases hi
 |j::is,i,h,hi=> by
  rcases List.mem_cons.1 hi with rfl|hi
  · exact h.1
  · exact StL.get h.2 hi
theorem step_of{i:Nat}{o:Oper}{a:Act}{w:aL}{R:Act->aL->Prop}(d:ops[i]? =some o)(e:o.guard=none)(h: ∀K:Act->aL->Prop,(∀c b,R c b->K c b)->o.wp P a w K Q):wpOp P ops Q i R a w:=by
 unfold wpOp;rw[d];simp only;rw[if_pos]
 · exact .inl (h R fun _ _ h=> h)
 · unfold eN
   rw[e]
theorem bC{v v':Nat->aT}{s s':Nat->Bool}(a:Act): ∀{n:Nat},(∀j,j < n->s j=s' j/\(s j=true->v j=v' j))->v8 ops v s a n=v8 ops v' s' a n
 |0,_=> rfl
 |n+1,h=> by
  have ih:=bC a (n:=n) fun j d=> h j (by omega)
  obtain⟨c,b⟩:=h n (by omega);unfold v8;rw[ih,<-c]
  split
  · rename_i hs
    rw[b hs]
  · rfl
theorem qt{N:Nat}(h:Mx ops l0 m N=true){i:Nat}(hi:i < m)(hl:isOn l0 i=false){d:Tmp}(hd:dstOf ops i=some d):d < N/\ ∀j,j < i->isOn l0 j=false->dstOf ops j≠some d:=by
 unfold Mx at h;simp only[List.all_eq_true,List.mem_range] at h;have:=h i hi;rw[hl,Bool.false_or,hd] at this;simp only[aW,decide_eq_true_eq,List.all_eq_true,List.mem_range,bne_iff_ne,Bool.or_eq_true] at this;exact⟨this.1,fun j a b=>(this.2 j a).resolve_left (by rw[b];decide)⟩
theorem zs{N:Nat}(h:Mx ops l0 m N=true){i j:Nat}(hi:i < m)(g:j < m)(f:isOn l0 i=false)(c:isOn l0 j=false)(b:i≠j){d:Tmp}(hd:dstOf ops i=some d):dstOf ops j≠some d:=by
 rcases Nat.lt_or_gt_of_ne b with a|a
 · exact fun e=>(qt h g c e).2 i a f hd
 · exact(qt h hi f hd).2 j a c
theorem aw{N:Nat}(h:Mx ops l0 m N=true){v:Nat->aT}{s:Nat->Bool}(a:Act)(b: ∀j,s j=true->isOn l0 j=false){i:Nat}(hs:s i=false)(c:isOn l0 i=false)(u:aT): ∀{n:Nat},i < n->n<=m->
 v8 ops (fun j=> if j=i then u else v j) (fun j=> if j=i then true else s j) a n=(v8 ops v s a n).put (dstOf ops i) u
 |0,hi,_=> by omega
 |n+1,hi,hn=> by
  by_cases e:n=i
  · subst e
    have l:(if n=n then true else s n)=true:=if_pos rfl;have k: ¬s n=true:=by rw[hs];decide
    have g:(if n=n then u else v n)=u:=if_pos rfl;unfold v8;rw[if_pos l,if_neg k,g];rw[bC a (v:=fun j=> if j=n then u else v j) (s:=fun j=> if j=n then true else s j) (v':=v) (s':=s) (fun j o=>⟨by rw[if_neg (by omega)],fun _=> by rw[if_neg (by omega)]⟩)]
  · have ih:=aw h (v:=v) a b hs c u (n:=n) (by omega) (by omega)
    unfold v8;rw[if_neg e,if_neg e,ih]
    split
    · rename_i f
      rw[Act.put_comm];intro d hd;exact zs h (by omega) (by omega) c (b n f) (lR e) hd
    · rfl
theorem put_size(a:Act)(x:Option Tmp)(v:aT):(a.put x v).tmps.size=a.tmps.size:=by
 cases x <;> simp[Act.put]
theorem Qt(v:Nat->aT)(s:Nat->Bool)(a:Act): ∀n,(v8 ops v s a n).tmps.size=a.tmps.size
 |0=> rfl
 |n+1=> by
  unfold v8
  split
  · rw[put_size,Qt]
  · exact Qt v s a n
theorem eval_put(a:Act)(d:Tmp)(v:aT)(t:Tmp):(a.put (some d) v).eval (.tmp t)=if d=t then(if t < a.tmps.size then v else lU) else a.eval (.tmp t):=by
 show(a.tmps.setIfInBounds d v).getD t lU=_
 rw[dP,Array.getElem?_setIfInBounds]
 split
 · rename_i h
   subst h
   split <;> rfl
 · rw[show a.eval (.tmp t)=a.tmps.getD t lU from rfl,dP]
theorem Mv(v:Nat->aT)(s:Nat->Bool)(a:Act)(t:Tmp): ∀{n:Nat},(∀j,j < n->s j=true->dstOf ops j≠some t)->(v8 ops v s a n).eval (.tmp t)=a.eval (.tmp t)
 |0,_=> rfl
 |n+1,h=> by
  have ih:=Mv v s a t (n:=n) fun j b=> h j (by omega)
  unfold v8
  split
  · rename_i hs
    cases hd:dstOf ops n with
    |none=> exact ih
    |some d=>
     rw[eval_put,if_neg,ih];intro e;exact h n (by omega) hs (by rw[hd,e])
  · exact ih
theorem Zv{N:Nat}(h:Mx ops l0 m N=true)(v:Nat->aT)(s:Nat->Bool)(b: ∀j,s j=true->isOn l0 j=false)(a:Act)(hN:a.tmps.size=N){k:Nat}{d:Tmp}(hd:dstOf ops k=some d)(hk:s k=true): ∀{n:Nat},k < n->n<=m->(v8 ops v s a n).eval (.tmp d)=v k
 |0,hi,_=> by omega
 |n+1,hi,hn=> by
  by_cases e:n=k
  · subst e
    unfold v8;rw[if_pos hk,hd,eval_put,if_pos rfl,if_pos];rw[Qt,hN];exact(qt h (i:=n) (by omega) (b _ hk) hd).1
  · have ih:=Zv h v s b a hN hd hk (n:=n) (by omega) (by omega)
    unfold v8
    split
    · rename_i f
      cases g:dstOf ops n with
      |none=> exact ih
      |some l=>
       rw[eval_put,if_neg,ih];intro c;subst c;exact zs h (by omega) (by omega) (b _ hk) (b _ f) (lR e) hd g
    · exact ih
theorem JJ{l:Nat->Bool}(hd: ∀i,l i=true-> ∀k∈y96 ops i,l k=true): ∀(f i j:Nat),(∀k∈y96 ops i,l k=true)->Yi ops f i j=true->l j=true
 |0,_,_,_,h=> by cases h
 |f+1,i,j,hi,h=> by
  unfold Yi at h;simp only[List.any_eq_true,Bool.or_eq_true,beq_iff_eq] at h;obtain⟨k,hk,h⟩:=h;rcases h with rfl|h
  · exact hi k hk
  · exact JJ hd f k j (hd k (hi k hk)) h
theorem cG{a:Array Bool}{i:Nat}(h:i∈iY .any ops a):a.getD i true=false/\(∃o,ops[i]? =some o)/\ ∀k∈y96 ops i,isOn a k=true:=by
 obtain⟨g,o,b,d⟩:=mem_ready.1 h;refine⟨g,⟨o,b⟩,fun k hk=> ?_⟩;unfold y96 at hk;rw[b] at hk;simp only[Option.map_some,jX,List.mem_map,List.mem_filter] at hk;obtain⟨e,⟨f,c⟩,rfl⟩:=hk;exact d e (by simpa using f) c
theorem dJ{a:Array Bool}{i:Nat}(hi:i < ops.size)(h:a.getD i true=false)(c: ∀k∈y96 ops i,isOn a k=true):i∈iY .any ops a:=by
 refine mem_ready.2 ⟨h,ops[i],by simp[hi],fun e d b=> c e.on ?_⟩;unfold y96;rw[show ops[i]? =some ops[i] by simp[hi]];simp only[Option.map_some,jX,List.mem_map,List.mem_filter];exact⟨e,⟨by simpa using d,b⟩,rfl⟩
theorem Pw{l l':Array Bool}{i:Nat}(b:isOn l i=false)(c:isOn l' i=true)(h: ∀j,j≠i->isOn l' j=isOn l j): ∀{n:Nat},opnO l n=opnO l' n+if i < n then 1 else 0
 |0=> by simp[opnO]
 |n+1=> by
  have ih:=Pw b c h (n:=n);unfold opnO;by_cases e:n=i
  · subst e
    rw[ih,b,c];simp
  · rw[ih,h n e]
    by_cases a:i < n
    · rw[if_pos a,if_pos (by omega:i < n+1)]
      omega
    · have d: ¬i < n+1:=by omega
      rw[if_neg a,if_neg d];omega
theorem ws{p:Nat->Bool}: ∀{n:Nat},(∃j,j < n/\p j=false)-> ∃j,j < n/\p j=false/\ ∀k,k < j->p k=true
 |0,h=> by obtain⟨j,f,-⟩:=h;omega
 |n+1,h=> by
  by_cases b: ∃j,j < n/\p j=false
  · obtain⟨j,c,a⟩:=ws b
    exact⟨j,by omega,a⟩
  · obtain⟨j,c,a⟩:=h
    have:j=n:=by
     apply iP
     intro e;exact b ⟨j,by omega,a⟩
    subst this;refine⟨j,c,a,fun k hk=> ?_⟩;cases d:p k with
    |true=> rfl
    |false=> exact absurd ⟨k,hk,d⟩ b
theorem wpAnyH_orderX{S:aL->Prop}{N fuel fT x:Nat}{lT:Array Bool}{is:List Nat}(his:(iT m).filter (fun j=> !isOn l0 j)=is)(Lc:okX ops l0 m N x=true)(hN:a0.tmps.size=N)(hf:fuel=opnO l0 ops.size)(hlT:doneO l0 m=lT)(hfT:opnO lT ops.size=fT)
 (hx:x < m-> ∃U,ops[x]? =some U/\isOn l0 x=false/\Region.noSelect ops=true/\Region.free .any ops (lT.setIfInBounds x false) x=true/\(iY .any ops (lT.setIfInBounds x false)).contains x=true/\(∀v c a w,Q (.panic c) (a.put U.dst v) w->Q (.panic c) a w)/\
  ∀a w z,E w0 (w,z)->(∀t,isDst ops l0 m t=false->a.eval (.tmp t)=a0.eval (.tmp t))->(∀j d,depO ops l0 x j d=true->G j (a.eval (.tmp d)) (w,z))-> ∃u,YieldsIf P ops S U u a/\G x u (w,z))
 (hE0:E w0 w0) (hE: ∀u v w,E u v->E v w->E u w) (hG: ∀i v w w',G i v w->E w w'->G i v w') (hS: ∀w z,E w0 (w,z)->S w)
 (M:StL P ops Q l0 m E G a0 w0 is)
 (fin: ∀(v:Nat->aT) w z,E w0 (w,z)->(∀j,j < m->isOn l0 j=false->G j (v j) (w,z))->iR P .any ops Q S fT lT (v8 ops v (fun j=> !isOn l0 j) a0 m) w):
 iR P .any ops Q S fuel l0 a0 w0.1:=by
 subst hlT;subst hfT;have xu:=Lc;unfold okX at xu;simp only[aW,decide_eq_true_eq,List.all_eq_true,List.mem_range,Bool.or_eq_true,gW] at xu;obtain⟨⟨⟨⟨fj,Hu⟩,B⟩,hm⟩,C⟩:=xu;have rh: ∀i,i < ops.size-> ∀k∈y96 ops i,k < i:=fun i hi k hk=>(B i hi k hk).1
 have Jv: ∀i,isOn l0 i=true-> ∀k∈y96 ops i,isOn l0 k=true:=fun i hl k hk=> by
  by_cases hi:i < ops.size
  · exact(B i hi k hk).2.resolve_left (by rw[hl];decide)
  · unfold y96 at hk
    rw[show ops[i]? =none from Array.getElem?_eq_none (by omega)] at hk;simp at hk
 have hup: ∀i,m<=i->i < ops.size->isOn l0 i=false-> ∀j,j < m->j≠x->isOn l0 j=false->Yi ops ops.size i j=true:=fun i K h2 hi j f T hl=> by
  have:=Hu (i - m) (by omega);rw[show m+(i - m)=i by omega] at this;have:=this.resolve_left (by rw[hi];decide) j f;exact this.resolve_left (fun h=> h.elim (fun h=> T (by simpa using h)) (fun h=> by rw[hl] at h;cases h))
 have O: ∀b:Array Bool,∀j,(isOn b j && !isOn l0 j)=true->isOn l0 j=false:=fun b j h=> by
  simp only[aW,gW] at h;exact h.2
 have W: ∀(fuel:Nat) (b:Array Bool) (a:Act) (w:aL) (z:Γ) (v:Nat->aT),b.size=ops.size->(∀i,m<=i->isOn b i=isOn l0 i)->(∀i,isOn l0 i=true->isOn b i=true)->
  (∀i,isOn b i=true-> ∀k∈y96 ops i,isOn b k=true)->a=v8 ops v (fun j=> isOn b j && !isOn l0 j) a0 m->(∀j,j < m->isOn b j=true->isOn l0 j=false->G j (v j) (w,z))->E w0 (w,z)->
  fuel=opnO b ops.size->iR P .any ops Q S fuel b a w:=by
  intro fuel;have done: ∀(fuel:Nat) (b:Array Bool) (a:Act) (w:aL) (z:Γ) (v:Nat->aT),b.size=ops.size->(∀i,m<=i->isOn b i=isOn l0 i)->a=v8 ops v (fun j=> isOn b j && !isOn l0 j) a0 m->(∀j,j < m->isOn b j=true->isOn l0 j=false->G j (v j) (w,z))->E w0 (w,z)->
   fuel=opnO b ops.size->(∀j,j < m->isOn b j=true)->iR P .any ops Q S fuel b a w:=by
   intro fuel b a w z v r K A H D hf q;have hl:b=doneO l0 m:=by
    apply Array.ext
    · simp[doneO,r,C]
    · intro i X gm
      have e1:isOn b i=b[i]:=by simp[isOn,dP,X]
      have L:(doneO l0 m)[i]=(decide (i < m) ||isOn l0 i):=by simp[doneO]
      rw[<-e1,L];by_cases hi:i < m
      · rw[q i hi];simp[hi]
      · rw[K i (by omega)];simp[hi]
   subst hl;subst A;subst hf;rw[bC (v':=v) (s':=fun j=> !isOn l0 j) a0 (fun j f=>⟨by rw[q j f,bT],fun _=> rfl⟩)];exact fin v w z D (fun j f hl=> H j f (q j f) hl)
  induction fuel with
  |zero=>
   intro b a w z v r K Z h2 A H D hf;refine done 0 b a w z v r K A H D hf fun j f=> ?_
   have: ∀n,opnO b n=0-> ∀j,j < n->isOn b j=true:=by
    intro n
    induction n with
    |zero=> intro _ j f;omega
    |succ n ih=>
     intro h j f;unfold opnO at h;by_cases e:j=n
     · subst e
       split at h
       · assumption
       · omega
     · exact ih (by omega) j (by omega)
   exact this ops.size hf.symm j (by omega)
  |succ fuel ih=>
   intro b a w z v r K Z h2 A H D hf;by_cases q: ∀j,j < m->isOn b j=true
   · exact done _ b a w z v r K A H D hf q
   by_cases g: ∀j,j < m->j≠x->isOn b j=true
   · have Hh:x < m:=by
      apply iP
      intro h;exact q fun j f=> g j f (by omega)
     obtain⟨U,Dy,D8,vz,hfr,I4,hQ,hX⟩:=hx Hh;have Jo:isOn b x=false:=by
      cases J:isOn b x with
      |false=> rfl
      |true=> exact absurd (fun j f=> if e:j=x then e▸J else g j f e) q
     have hl:b=(doneO l0 m).setIfInBounds x false:=by
      apply Array.ext
      · simp[doneO,r,C]
      · intro i X gm
        have e1:isOn b i=b[i]:=by simp[isOn,dP,X]
        have qu:i <(doneO l0 m).size:=by simpa using gm
        have L:(doneO l0 m)[i]=(decide (i < m) ||isOn l0 i):=by simp[doneO]
        rw[<-e1];by_cases e:i=x
        · subst e
          rw[Jo];simp
        · rw[jY qu (lR e),L]
          by_cases hi:i < m
          · rw[g i hi e];simp[hi]
          · rw[K i (by omega)];simp[hi]
     have F:b.setIfInBounds x true=doneO l0 m:=by
      rw[hl]
      apply Array.ext
      · simp
      · intro i X gm
        have L:(doneO l0 m)[i]=(decide (i < m) ||isOn l0 i):=by simp[doneO]
        by_cases e:i=x
        · subst e
          rw[L];simp[Hh]
        · rw[jY (by simpa using X) (lR e),jY gm (lR e)]
     have hd:(dstOf ops x)=U.dst:=by unfold dstOf;rw[Dy];rfl
     have hsx:(isOn b x && !isOn l0 x)=false:=by rw[Jo];rfl
     obtain⟨u,hy,hgx⟩:=hX a w z D (by
      intro t ht;rw[A,Mv];intro j f hs e;unfold isDst at ht;rw[jO] at ht;refine ht j (List.mem_range.2 f) ?_;rw[O b j hs,e];simp) (by
      intro j d y;unfold depO at y;simp only[aW,beq_iff_eq,List.contains_iff_mem,gW] at y;have hji:=rh x (by omega) j y.1.1;have I:=g j (by omega) (by omega);rw[A,Zv fj v _ (O b) a0 hN y.1.2 (by rw[I,y.2];rfl) (by omega) (aN _)];exact H j (by omega) I y.2)
     have hfu:fuel=opnO (doneO l0 m) ops.size:=by
      have:=Pw (l:=b) (l':=b.setIfInBounds x true) (i:=x) Jo (by
       unfold isOn;simp[dP,show x < b.size by omega]) (fun j f=> by
       unfold isOn;simp[dP,Array.getElem?_setIfInBounds_ne (lR f)]) (n:=ops.size)
      rw[if_pos (by omega),F] at this;omega
     refine wpAnyH_take (v:=u) Dy vz (hl▸hfr) (hl▸I4) (hQ u) hy (hS _ _ D) ?_;rw[F,hfu,A,<-hd,<-aw fj (s:=fun j=> isOn b j && !isOn l0 j) a0 (O b) hsx D8 u Hh (aN _)];rw[bC (v':=fun j=> if j=x then u else v j) (s':=fun j=> !isOn l0 j) a0 (fun j f=>⟨by
      by_cases e:j=x
      · simp only[if_pos e];rw[e,D8];rfl
      · simp only[if_neg e];rw[g j f e,bT],fun _=> rfl⟩)]
     refine fin _ w z D fun j f I=> ?_
     by_cases e:j=x
     · simp only[if_pos e];rw[e];exact hgx
     · simp only[if_neg e];exact H j f (g j f e) I
   · obtain⟨j1,hj11,Io,Ic⟩:=ws (p:=isOn b) (n:=m) (by
      apply iP
      intro h;exact q fun j f=> by
       cases J:isOn b j with
       |true=> rfl
       |false=> exact absurd ⟨j,f,J⟩ h)
     obtain⟨Y,kq,T,qi⟩: ∃j,j < m/\j≠x/\isOn b j=false:=by
      apply iP
      intro h;exact g fun j f T=> by
       cases J:isOn b j with
       |true=> rfl
       |false=> exact absurd ⟨j,f,T,J⟩ h
     have gt: ∀i,i < ops.size->b.getD i true=isOn b i:=fun i hi=> by
      simp[isOn,dP,show i < b.size by omega]
     refine⟨fun h0=> ?_,fun i hi=> ?_⟩
     · have hr:j1∈iY .any ops b:=dJ (by omega) (by rw[gt _ (by omega)];exact Io) (fun k hk=> Ic k (rh j1 (by omega) k hk))
       rw[h0] at hr;cases hr
     · obtain⟨r1,⟨o,ho⟩,r3⟩:=cG hi
       have b8:i < ops.size:=(Array.getElem?_eq_some_iff.1 ho).1;have V8:isOn b i=false:=by rw[<-gt i b8];exact r1
       have El:isOn l0 i=false:=by
        cases J:isOn l0 i with
        |false=> rfl
        |true=> rw[Z i J] at V8;cases V8
       have Jl:isOn l0 Y=false:=by
        cases J:isOn l0 Y with
        |false=> rfl
        |true=> rw[Z Y J] at qi;cases qi
       have R:i < m:=by
        apply iP
        intro yx;have:=JJ (l:=isOn b) h2 ops.size i Y r3 (hup i (by omega) b8 El Y kq T Jl);rw[qi] at this;cases this
       obtain⟨o',yv,hst⟩:=M.get (i:=i) (his▸List.mem_filter.2 ⟨List.mem_range.2 R,by rw[El];rfl⟩);obtain rfl:o'=o:=by rw[ho] at yv;exact(Option.some.inj yv).symm
       have hd:(dstOf ops i)=o'.dst:=by unfold dstOf;rw[ho];rfl
       have hsi:(isOn b i && !isOn l0 i)=false:=by rw[V8];rfl
       refine wpOp_mono ?_ (hst a w z D ?_ ?_)
       · rintro a' w' ⟨u,z',rfl,zj,qp⟩
         have F: ∀j,isOn (b.setIfInBounds i true) j=if j=i then true else isOn b j:=fun j=> by
          unfold isOn;by_cases e:j=i
          · subst e
            rw[if_pos rfl];simp[dP,show j < b.size by omega]
          · rw[if_neg e]
            simp[dP,Array.getElem?_setIfInBounds_ne (lR e)]
         refine⟨hS _ _ (hE _ _ _ D zj),ih (b.setIfInBounds i true) _ w' z' (fun j=> if j=i then u else v j) (by simpa using r) ?_ ?_ ?_ ?_ ?_ (hE _ _ _ D zj) ?_⟩
         · intro j f
           rw[F,if_neg (by omega)];exact K j f
         · intro j f
           rw[F]
           split
           · rfl
           · exact Z j f
         · intro j f k hk
           rw[F] at f⊢;by_cases e:k=i
           · rw[if_pos e]
           · rw[if_neg e]
             by_cases L:j=i
             · subst L;exact r3 k hk
             · rw[if_neg L] at f
               exact h2 j f k hk
         · rw[A,<-hd,<-aw fj (s:=fun j=> isOn b j && !isOn l0 j) a0 (O b) hsi El u R (aN _)]
           refine bC a0 (fun j f=>⟨?_,fun _=> rfl⟩);simp only[F];by_cases e:j=i
           · rw[if_pos e,if_pos e,e,El];rfl
           · rw[if_neg e,if_neg e]
         · intro j f hl I
           by_cases e:j=i
           · simp only[if_pos e];rw[e];exact qp
           · simp only[if_neg e]
             rw[F,if_neg e] at hl;exact hG _ _ _ _ (H j f hl I) zj
         · have:=Pw (l:=b) (l':=b.setIfInBounds i true) (i:=i) V8 (by rw[F,if_pos rfl]) (fun j f=> by rw[F,if_neg f]) (n:=ops.size)
           rw[if_pos b8] at this;omega
       · intro t ht
         rw[A,Mv];intro j f hs e;unfold isDst at ht;rw[jO] at ht;refine ht j (List.mem_range.2 f) ?_;rw[O b j hs,e];simp
       · intro j d y
         unfold depO at y;simp only[aW,beq_iff_eq,List.contains_iff_mem,gW] at y;have I:=r3 j y.1.1;have hji:=rh i b8 j y.1.1;rw[A,Zv fj v _ (O b) a0 hN y.1.2 (by rw[I,y.2];rfl) (by omega) (aN _)];exact H j (by omega) I y.2
 refine W fuel l0 a0 w0.1 w0.2 (fun _=> lU) C (fun _ _=> rfl) (fun _ h=> h) Jv ?_ ?_ hE0 hf
 · have: ∀n,v8 ops (fun _=> lU) (fun j=> isOn l0 j && !isOn l0 j) a0 n=a0:=fun n=> by
    induction n with
    |zero=> rfl
    |succ n ih=>
     unfold v8;rw[if_neg,ih];simp
   exact(this m).symm
 · intro j f hl V
   rw[hl] at V;cases V
end
theorem aB{ops:Array Oper}{v:Nat->aT}{s:Nat->Bool}{a:Act}: ∀{n:Nat},v8 ops v s a n=((iT n).filter s).foldl (fun a j=> a.put (dstOf ops j) (v j)) a
 |0=> rfl
 |n+1=> by
  unfold v8;rw[List.range_succ,List.filter_append,List.foldl_append,aB];by_cases h:s n=true
  · rw[if_pos h];simp[h]
  · rw[if_neg h];simp[h]
theorem putN_l{ops:Array Oper}{v:Nat->aT}{s:Nat->Bool}{a:Act}{n:Nat}(is:List Nat)(h:(iT n).filter s=is):v8 ops v s a n=is.foldl (fun a j=> a.put (dstOf ops j) (v j)) a:=by rw[aB,h]
end Go.Proofs.YtckhbnmfnpolgaaGreat.Ord
namespace Go.Proofs.YtckhbnmfnpolgaaGreat
open Go Go.RowKit
theorem D3{a:Act}{t:Nat}{v:aT}(h:a.eval (.tmp t)=v):a.tmps[t]?.getD lU=v:=by
 rw[<-h];exact(dP ..).symm
def iC(W w:aL)(g:Nat):Prop:=W.heap.size<=g/\w.heap[g]? =some (.cells #[.int .i64 0,.int .i64 0,.slice none 0 0] 25 (0,0))
inductive Sp where
 |any
 |val (u:aT)
 |tree (M:Nat->Prop) (t:Tr)
 |row (M:Nat->Prop) (ts:List Tr)
 |two (M:Nat->Prop) (t:Tr) (c:aT)
 |box (W:aL)
theorem InK.news{w:aL}{M:Nat->Prop}{e:TypeId}{t:Tr}{v0 v1 v2:aT}(h:InT w M t (.agg #[v0,v1,v2]))(a:M w.heap.size):InK (w.alloc (.cells #[v0,v1,v2] e)) M (some ⟨w.heap.size,0,none⟩) [t]:=
 .inr ⟨w.heap.size,0,rfl,a,⟨⟨v0,v1,v2,U1 (aS w _) 0,U1 (aS w _) 1,U1 (aS w _) 2,h.later ((xr w).alloc _)⟩,trivial⟩⟩
theorem InK.news2{w:aL}{M:Nat->Prop}{e:TypeId}{t u:Tr}{v0 v1 v2 b c a:aT}(h:InT w M t (.agg #[v0,v1,v2]))(k:InT w M u (.agg #[b,c,a]))(d:M w.heap.size):InK (w.alloc (.cells #[v0,v1,v2,b,c,a] e)) M (some ⟨w.heap.size,0,none⟩) [t,u]:=
 .inr ⟨w.heap.size,0,rfl,d,⟨⟨v0,v1,v2,U1 (aS w _) 0,U1 (aS w _) 1,U1 (aS w _) 2,h.later ((xr w).alloc _)⟩,⟨b,c,a,U1 (aS w _) 3,U1 (aS w _) 4,U1 (aS w _) 5,k.later ((xr w).alloc _)⟩,trivial⟩⟩
theorem InK.news3{w:aL}{M:Nat->Prop}{e:TypeId}{t u x:Tr}{v0 v1 v2 d f a b g c:aT}(h:InT w M t (.agg #[v0,v1,v2]))(k:InT w M u (.agg #[d,f,a]))(l:InT w M x (.agg #[b,g,c]))(i:M w.heap.size):InK (w.alloc (.cells #[v0,v1,v2,d,f,a,b,g,c] e)) M (some ⟨w.heap.size,0,none⟩) [t,u,x]:=
 .inr ⟨w.heap.size,0,rfl,i,⟨⟨v0,v1,v2,U1 (aS w _) 0,U1 (aS w _) 1,U1 (aS w _) 2,h.later ((xr w).alloc _)⟩,⟨d,f,a,U1 (aS w _) 3,U1 (aS w _) 4,U1 (aS w _) 5,k.later ((xr w).alloc _)⟩,⟨b,g,c,U1 (aS w _) 6,U1 (aS w _) 7,U1 (aS w _) 8,l.later ((xr w).alloc _)⟩,trivial⟩⟩
def EG(x y:aL×List Nat):Prop:=Ext x.1 y.1/\(∀g,g∈x.2->g∈y.2)/\(∀g,g∈y.2->g∈x.2\/x.1.heap.size<=g)/\ ∀g,g∈y.2->g < y.1.heap.size
theorem EG.start(w:aL):EG (w, []) (w, []):=⟨xr _,fun _ h=> h,fun g h=> .inl h,fun g h=> by cases h⟩
theorem EG.trans{x y z:aL×List Nat}(h:EG x y)(k:EG y z):EG x z:=by
 refine⟨h.1.trans k.1,fun g a=> k.2.1 g (h.2.1 g a),fun g a=> ?_,k.2.2.2⟩;rcases k.2.2.1 g a with e|e
 · exact h.2.2.1 g e
 · exact .inr (Nat.le_trans h.1.size e)
theorem n9{x:aL×List Nat}{w a:aL}{z:List Nat}(h:EG x (w,z))(e:Ext w a):EG (w,z) (a,z):=
 ⟨e,fun _ h=> h,fun _ h=> .inl h,fun g b=> Nat.lt_of_lt_of_le (h.2.2.2 g b) e.size⟩
theorem EG.id{x:aL×List Nat}{w:aL}{z:List Nat}(h:EG x (w,z)):EG (w,z) (w,z):=n9 h (xr _)
theorem EG.box{x:aL×List Nat}{w:aL}{o:Obj}{z:List Nat}(h:EG x (w,z)):EG (w,z) (w.alloc o,w.heap.size::z):=by
 refine⟨(xr _).alloc _,fun _ h=> List.mem_cons_of_mem _ h,fun g a=> ?_,fun g a=> ?_⟩
 · rcases List.mem_cons.1 a with rfl|a
   · exact .inr (aN _)
   · exact .inl a
 · have:(w.alloc o).heap.size=w.heap.size+1:=by simp
   rcases List.mem_cons.1 a with rfl|a
   · show w.heap.size <(w.alloc o).heap.size;omega
   · have:=h.2.2.2 g a;show g <(w.alloc o).heap.size;simp only at this;omega
def Mz(M:Nat->Prop)(z:List Nat)(b:Nat):Prop:=M b/\ ¬b∈z
theorem Mz.later{M:Nat->Prop}{x y:aL×List Nat}(h:EG x y){b:Nat}(a:Mz M x.2 b/\b < x.1.heap.size):Mz M y.2 b:=by
 refine⟨a.1.1,fun e=> ?_⟩;rcases h.2.2.1 b e with f|f
 · exact a.1.2 f
 · have:=a.2
   omega
theorem InT.laterG{M:Nat->Prop}{x y:aL×List Nat}{t:Tr}{v:aT}(h:InT x.1 (Mz M x.2) t v)(e:EG x y):InT y.1 (Mz M y.2) t v:=
 InT.mono (fun b a=> Mz.later e a) (fun _ _=> rfl) (h.bound.later e.1)
theorem InK.laterG{M:Nat->Prop}{x y:aL×List Nat}{A:Option Addr}{a:List Tr}(h:InK x.1 (Mz M x.2) A a)(e:EG x y):InK y.1 (Mz M y.2) A a:=
 InK.mono (fun b c=> Mz.later e c) (fun _ _=> rfl) (h.bound.later e.1)
theorem InT.oldG{M:Nat->Prop}{W w:aL}{z:List Nat}{t:Tr}{v:aT}(h:InT W M t v)(e:EG (W.drew, []) (w,z)):InT w (Mz M z) t v:=
 InT.laterG (x:=(W.drew, [])) (y:=(w,z)) (InT.mono (fun b a=>⟨a,fun h=> by cases h⟩) (fun _ _=> rfl) (InT.later h (xr W).drew)) e
theorem EG.news{M:Nat->Prop}{x:aL×List Nat}{w:aL}{z:List Nat}(h:EG x (w,z))(a: ∀b,w.heap.size<=b->M b): ∀b,w.heap.size<=b->Mz M z b:=
 fun b c=>⟨a b c,fun e=> by have:=h.2.2.2 b e;simp only at this;omega⟩
theorem dp{P:eR}{ops:Array Oper}{Q:Exit->Act->aL->Prop}{i j:Nat}{o:Oper}{a:Act}{w:aL}{R:Act->aL->Prop}{y b:Bool}{d:Nat}(n:ops[i]? =some o)(g:o.guard=some (j,y))(p:Ord.dstOf ops j=some d)(hv:a.eval (.tmp d)= .bool b)
 (q:b=y-> ∀K:Act->aL->Prop,(∀f c,R f c->K f c)->o.wp P a w K Q) (l: ¬b=y->R (a.put o.dst lU) w):wpOp P ops Q i R a w:=by
 have hs:a.tmps[d]? =some (.bool b):=by
  rw[show a.eval (.tmp d)=a.tmps.getD d lU from rfl,dP] at hv;cases h:a.tmps[d]?with
  |none=> rw[h] at hv;cases hv
  |some x=> rw[h] at hv;simp only[jX] at hv;rw[hv]
 have k:yielded ops a.tmps j=some b:=by
  unfold yielded;rw[show((ops[j]?).bind fun x=> x.dst)=some d from p];simp only[Option.bind_some,hs]
 unfold wpOp;rw[n];simp only;unfold eN;rw[g];simp only[k];by_cases e:b=y
 · rw[if_pos (by simp[e])]
   exact .inl (q e R fun _ _ h=> h)
 · rw[if_neg (by simpa using e)]
   exact l e
def Sp.holdsG:Sp->aT->aL×List Nat->Prop
 | .any,_,_=> True
 | .val u,v,_=> v=u
 | .tree M t,v,x=> InT x.1 (Mz M x.2) t v
 | .row M ts,v,x=> ∃A c,v= .slice A ts.length c/\ts.length<=c/\c<=maxLen/\InK x.1 (Mz M x.2) A ts
 | .two M t c,v,x=> ∃u,v= .tuple #[u,c]/\InT x.1 (Mz M x.2) t u
 | .box W,v,x=> ∃g,v= .pointer (some ⟨g,0,none⟩)/\g∈x.2/\iC W x.1 g
theorem Sp.extG: ∀{s:Sp} {v:aT} {x y:aL×List Nat},s.holdsG v x->EG x y->s.holdsG v y
 | .any,_,_,_,_,_=> trivial
 | .val u,_,_,_,h,_=> h
 | .tree M t,_,_,_,h,e=> InT.laterG h e
 | .row M ts,_,_,_,h,e=> by
  obtain⟨A,c,b,a,d,i⟩:=h;exact⟨A,c,b,a,d,InK.laterG i e⟩
 | .two M t c,_,_,_,h,e=> by
  obtain⟨u,b,a⟩:=h;exact⟨u,b,InT.laterG a e⟩
 | .box W,_,_,_,h,e=> by
  obtain⟨g,b,f,a,d⟩:=h;exact⟨g,b,e.2.1 g f,a,e.1.blk d⟩
def jc(l:List Sp)(i:Nat)(v:aT)(x:aL×List Nat):Prop:=(l.getD i .any).holdsG v x
theorem eE(l:List Sp): ∀i v x y,jc l i v x->EG x y->jc l i v y:=fun i v x y h e=> Sp.extG h e
theorem Vi{P:eR}{ops:Array Oper}{Q:Exit->Act->aL->Prop}{S:aL->Prop}{l0:Array Bool}{a0:Act}{fuel:Nat}{W:aL}(m N:Nat)(lT:Array Bool)(c:Nat)(l:List Sp)(is:List Nat)(hS: ∀w,Ext W w->S w)(hc:(((iT m).filter (fun j=> !Ord.isOn l0 j)==is)&& Ord.okX ops l0 m N m && fuel==Ord.opnO l0 ops.size && Ord.doneO l0 m==lT && Ord.opnO lT ops.size==c)=true)(hN:a0.tmps.size=N)
 (b:Ord.StL P ops Q l0 m EG (jc l) a0 (W, []) is)
 (fin: ∀(v:Nat->aT) w z,EG (W, []) (w,z)->(∀j,j < m->Ord.isOn l0 j=false->jc l j (v j) (w,z))->iR P .any ops Q S c lT (is.foldl (fun a j=> a.put (Ord.dstOf ops j) (v j)) a0) w):
 iR P .any ops Q S fuel l0 a0 W:=by
 simp only[aW,beq_iff_eq] at hc;obtain⟨⟨⟨⟨d,n⟩,i⟩,f⟩,g⟩:=hc;exact Ord.wpAnyH_orderX (w0:=(W, [])) d n hN i f g (fun h=> absurd h (Nat.lt_irrefl _)) (EG.start _) (fun _ _ _ h e=> h.trans e) (eE _) (fun w z h=> hS w h.1) b (fun v w z h k=> by rw[Ord.putN_l is d];exact fin v w z h k)
theorem cl{P:eR}{ops:Array Oper}{Q:Exit->Act->aL->Prop}{S:aL->Prop}{l0:Array Bool}{a0:Act}{fuel:Nat}{e:Oper}{W:aL}(m N x:Nat)(lT:Array Bool)(f:Nat)(l:List Sp)(is:List Nat)(hS: ∀w,Ext W w->S w)(hc:(((iT m).filter (fun j=> !Ord.isOn l0 j)==is)&& Ord.okX ops l0 m N x && fuel==Ord.opnO l0 ops.size && Ord.doneO l0 m==lT && Ord.opnO lT ops.size==f && !Ord.isOn l0 x && Region.noSelect ops && Region.free .any ops (lT.setIfInBounds x false) x &&(iY .any ops (lT.setIfInBounds x false)).contains x)=true)(hN:a0.tmps.size=N)
 (B:ops[x]? =some e) (q: ∀v c a w,Q (.panic c) (a.put e.dst v) w->Q (.panic c) a w)
 (C: ∀a w z,EG (W, []) (w,z)->(∀t,Ord.isDst ops l0 m t=false->a.eval (.tmp t)=a0.eval (.tmp t))->(∀j d,Ord.depO ops l0 x j d=true->jc l j (a.eval (.tmp d)) (w,z))-> ∃u,YieldsIf P ops S e u a/\jc l x u (w,z))
 (b:Ord.StL P ops Q l0 m EG (jc l) a0 (W, []) is)
 (fin: ∀(v:Nat->aT) w z,EG (W, []) (w,z)->(∀j,j < m->Ord.isOn l0 j=false->jc l j (v j) (w,z))->iR P .any ops Q S f lT (is.foldl (fun a j=> a.put (Ord.dstOf ops j) (v j)) a0) w):
 iR P .any ops Q S fuel l0 a0 W:=by
 simp only[aW,beq_iff_eq,gW] at hc;obtain⟨⟨⟨⟨⟨⟨⟨⟨g,A⟩,r⟩,o⟩,p⟩,y⟩,s⟩,h8⟩,n⟩:=hc;exact Ord.wpAnyH_orderX (w0:=(W, [])) g A hN r o p (fun _=>⟨e,B,y,s,h8,n,q,C⟩) (EG.start _) (fun _ _ _ h i=> h.trans i) (eE _) (fun w z h=> hS w h.1) b (fun v w z h k=> by rw[Ord.putN_l is g];exact fin v w z h k)
theorem EG.ext{W w:aL}{z:List Nat}(h:EG (W, []) (w,z)):Ext W w:=h.1
theorem InT.oldG'{M:Nat->Prop}{W w:aL}{z:List Nat}{t:Tr}{v:aT}(h:InT W M t v)(e:EG (W, []) (w,z)):InT w (Mz M z) t v:=
 InT.laterG (x:=(W, [])) (y:=(w,z)) (InT.mono (fun b a=>⟨a,fun h=> by cases h⟩) (fun _ _=> rfl) h) e
theorem InK.oldG'{M:Nat->Prop}{W w:aL}{z:List Nat}{A:Option Addr}{a:List Tr}(h:InK W M A a)(e:EG (W, []) (w,z)):InK w (Mz M z) A a:=
 InK.laterG (x:=(W, [])) (y:=(w,z)) (InK.mono (fun b c=>⟨c,fun h=> by cases h⟩) (fun _ _=> rfl) h) e
theorem Wj{l:List Sp}{j t:Nat}{a:Act}{u:aT}{x:aL×List Nat}(h:jc l j (a.eval (.tmp t)) x)(e:l.getD j .any= .val u):a.tmps[t]?.getD lU=u:=by
 unfold jc at h;rw[e] at h;exact D3 h
theorem md{M:Nat->Prop}{W w:aL}{z:List Nat}(hN: ∀b,W.heap.size<=b->M b)(h:EG (W, []) (w,z)): ∀b,w.heap.size<=b->Mz M z b:=EG.news h fun b a=> hN b (Nat.le_trans h.1.size a)
theorem Off.new3{W w:aL}{g:Nat}{j i d:aT}{e:TypeId}(X:Ext W w)(f:W.heap.size<=g)(h:w.heap[g]? =some (.cells #[j,i,d] e (0,0)))(c b a:aT):
 Ext W (((w.setCell ⟨g,0,none⟩ c).setCell ⟨g,1,none⟩ b).setCell ⟨g,2,none⟩ a)/\(((w.setCell ⟨g,0,none⟩ c).setCell ⟨g,1,none⟩ b).setCell ⟨g,2,none⟩ a).heap[g]? =some (.cells #[c,b,a] e (0,0)):=
 ⟨X.set3 f _ _ _,N5 (N5 (N5 h 0 c) 1 b) 2 a⟩
theorem De{w a:aL}{g r:Nat}{o:Obj}(X:Ext w a)(b:a.heap.size<=g)(h:w.heap[r]? =some o):g≠r:=by
 have:=X.size;have:=O1 h;omega
end Go.Proofs.YtckhbnmfnpolgaaGreat
namespace Go.Proofs.YtckhbnmfnpolgaaGreat
open Go.RowKit
def RJ(a c b B:Nat)(x i d:Int)(e:Option Addr)(f g:Nat)(w:aL)(s:Bool):Prop:=(a < B/\c < B/\b < B)/\w.heap[a]? =some (.cells #[.int .i64 x] 3 (0,0))/\w.heap[c]? =some (.cells #[.int .i64 i,.int .i64 d,.slice e f g] 25 (0,0))/\w.heap[b]? =some (.cells #[.bool s] 4 (0,0))
theorem Rt(a:aL)(K O d B:Nat)(x f g:Int)(Au:Option Addr)(c:List Tr)(cu:Nat)(J3:Lies a (.mk f g c) (M0 f g Au c.length cu))(ko:j0 D0 (.mk f g c)=true)(S:K≠d)(I:O≠d)(hx0:0<=x)(hx1:x<=1000):
 Vk a K O d [d] (RJ K O d B x f g Au c.length cu) (Pl (.mk f g c) x) (Rf (.mk f g c) x):=by
 intro w s n b ha hI N7 Q8 R F;obtain⟨M,q,y,l⟩:=hI;have c1:=U1 q 0;obtain⟨y0,y1,y2,-,-,-⟩:=own3 y;have c3:=U1 l 0;have l1:=O1 q;have l2:=O1 y;have l3:=O1 l;have T:=hdq q;have H:=hdq y;have X:=hdq l;have U:=hdq (fun m W=> fC m W);have t:=hdq (fun W (hW:Ext w W)=> Yy (.mk f g c) b 0 W _ (J3.ext (ha.trans hW)) ko R F (by omega) (by omega));have hg:Pl (.mk f g c) x n b=if n - b=x then okT (shfT b (.mk f g c) 0) else .mk 1 (if x < n - b then n - 1 else n) []:=rfl
 have hh:Rf (.mk f g c) x n b=if n - b=x then j0 D0 (shfT b (.mk f g c) 0) else true:=rfl
 rw[hg,hh];clear hg hh;by_cases h:n - b=x
 · rw[if_pos h,if_pos h]
   have d1:(n - b==x)=true:=beq_iff_eq.2 h;clear h U;generalize j0 D0 (shfT b (.mk f g c) 0)=vb at t⊢;generalize okT (shfT b (.mk f g c) 0)=rt at t⊢;clear q y l;have hx:=(xr w).alloc (H0 0 0 none 0 0);have F3:=aS w (H0 0 0 none 0 0);go_enter func158,ntmps158;go_wp2_with fail;refine(t.out _ hx).mono ?_;rintro e w1 ⟨u,rfl,hM,i⟩;obtain⟨Y,D,J,N,V,rfl⟩:=hM.three';have C:=(hx.trans i).blk X.out;have g3:=U1 C 0;have f3:=ib C 0;have g4:=O1 C;have qR:=i.blk F3;obtain⟨o,A,k,f0,f1,f2⟩:=own3 qR;have gR:=O1 qR;clear c1 c3 y0 y1 y2 t;cases s <;> cases vb
   all_goals go_wp2_with fail
   all_goals(
    have o2:=fun r=>(((((oE (L:= [d]) (hx.trans i)).setCell (p:=⟨d,0,none⟩) (by simp) r).setNew (p:=⟨w.heap.size,0,none⟩) (aN _) (m0 Y)).setNew (p:=⟨w.heap.size,1,none⟩) (aN _) (m0 D)).setNew (p:=⟨w.heap.size,2,none⟩) (aN _) (.slice J N V)).alloc (H0 Y D J N V)
    have hz:(w.alloc (H0 0 0 none 0 0)).heap.size=w.heap.size+1:=by simp
    refine aP (v:= M0 Y D J N V) (by simp[aR,results158,go_sem,o,A,k,gR]) rfl ⟨_,rfl, ?_,o2 _,M,(o2 _).blk T.out (by simpa using S),(o2 _).blk H.out (by simpa using I), ?_⟩
    · exact((hM.after ((((ja.refl _ _).setCell (p:=⟨d,0,none⟩) (by show d < _;omega) _).setCell (p:=⟨w.heap.size,0,none⟩) (by show w.heap.size < _;omega) _).setCell (p:=⟨w.heap.size,1,none⟩) (by show w.heap.size < _;omega) _|>.setCell (p:=⟨w.heap.size,2,none⟩) (by show w.heap.size < _;omega) _)).ext ((xr _).alloc _)).since (by omega)
    · rw[Below.heap_alloc _ _ _ (by simp;omega),aM _ _ _ _ (by show d≠w.heap.size;omega),aM _ _ _ _ (by show d≠w.heap.size;omega),aM _ _ _ _ (by show d≠w.heap.size;omega),N5 C 0 _]
      rfl)
 · rw[if_neg h,if_neg h,Bool.and_true]
   have d1:(n - b==x)=false:=beq_eq_false_iff_ne.2 h;clear t h q y l;by_cases j:x < n - b
   · rw[if_pos j]
     have d2:decide (x < n - b)=true:=decide_eq_true j;clear j;go_enter func158,ntmps158;go_wp2_with fail;refine(U.out _ _).mono ?_;rintro e w1 ⟨rfl,i⟩;have z:=i.newBlk;obtain⟨o,A,k,f0,f1,f2⟩:=own3 z;have o2:=((D1.refl [d] w).alloc (H0 0 0 none 0 0)).trans (oE i);have Z:=(Ext.blk i.pre X.out);clear z;go_wp2_with fail;refine aP (v:= M0 1 (n - 1) none 0 0) (by simp[aR,results158,go_sem,o,A,k]) rfl ⟨_,rfl,W0.leaf _ _ _ _ _, ?_,M, ?_, ?_, ?_⟩
     · exact(((o2.setNew (by simp) _).setNew (by simp) _).setNew (by simp) _)
     · exact(((o2.setNew (by simp) _).setNew (by simp) _).setNew (by simp) _).blk T.out (by simpa using S)
     · exact(((o2.setNew (by simp) _).setNew (by simp) _).setNew (by simp) _).blk H.out (by simpa using I)
     · rw[aM _ _ _ _ (by show d≠w.heap.size;omega),aM _ _ _ _ (by show d≠w.heap.size;omega),aM _ _ _ _ (by show d≠w.heap.size;omega),Z]
   · rw[if_neg j]
     have d2:decide (x < n - b)=false:=decide_eq_false j;clear j;go_enter func158,ntmps158;go_wp2_with fail;refine(U.out _ _).mono ?_;rintro e w1 ⟨rfl,i⟩;have z:=i.newBlk;obtain⟨o,A,k,f0,f1,f2⟩:=own3 z;have o2:=((D1.refl [d] w).alloc (H0 0 0 none 0 0)).trans (oE i);have Z:=(Ext.blk i.pre X.out);clear z;go_wp2_with fail;refine aP (v:= M0 1 n none 0 0) (by simp[aR,results158,go_sem,o,A,k]) rfl ⟨_,rfl,W0.leaf _ _ _ _ _, ?_,M, ?_, ?_, ?_⟩
     · exact(((o2.setNew (by simp) _).setNew (by simp) _).setNew (by simp) _)
     · exact(((o2.setNew (by simp) _).setNew (by simp) _).setNew (by simp) _).blk T.out (by simpa using S)
     · exact(((o2.setNew (by simp) _).setNew (by simp) _).setNew (by simp) _).blk H.out (by simpa using I)
     · rw[aM _ _ _ _ (by show d≠w.heap.size;omega),aM _ _ _ _ (by show d≠w.heap.size;omega),aM _ _ _ _ (by show d≠w.heap.size;omega),Z]
theorem IC(t:Tr)(x:Int)(u:Tr)(w:aL)(v vu:aT)(b8:Lies w t v)(hv:j0 D0 t=true)(J3:Lies w u vu)(ko:j0 D0 u=true)(hx0:0<=x)(hx1:x<=1000):
 Calls prog 119 #[v,m0 x,vu] w fun e w'=> ∃r,e= .returned (.tuple #[r,.bool (j0 D0 (Z0 u t x 0))])/\W0 w w' 25 (okT (Z0 u t x 0)) r/\Ext w w':=by
 obtain⟨hs,C0⟩:=Z3 hv;obtain⟨c,L⟩:=nH (x:=x) (Z3 ko).2 hv;obtain⟨vb,R⟩: ∃vb,vb=j0 D0 (Z0 u t x 0):=⟨_,rfl⟩;obtain⟨K,j⟩: ∃K,K=okT (Z0 u t x 0):=⟨_,rfl⟩;rw[<-R,<-j];have M:g8 (Rf u x) t 0=true->K=okT (P8 (Pl u x) t 0):=fun h=> by rw[L h];exact j
 have ut:vb=false->K=j2:=fun h=> by rw[j];unfold okT;rw[<-R,h];rfl
 have nh:=(Z3 ko).2;obtain⟨d,g,a⟩:=u;obtain⟨o,p,rfl,Kk,vq,-⟩:=Lies.mk_iff.1 J3;have wx:=fun W (hW:Ext w W) D H i (hp:w.heap.size<=i) (I6:D≠i) (oz:H≠i) (h1:W.heap[D]? =some (.cells #[m0 x] 3 (0,0))) (h2:W.heap[H]? =some (H0 d g o a.length p)) (h3:W.heap[i]? =some (.cells #[.bool true] 4 (0,0)))=>
  ZH t w W v 0 30 D H i [i] W.heap.size (RJ D H i W.heap.size x d g o a.length p) (Pl (.mk d g a) x) (Rf (.mk d g a) x) true hs b8 hW (fun x hx=> by rw[List.mem_singleton.1 hx];exact⟨hp,O1 h3⟩) (by omega) (by omega)
   (Rt w D H i _ x d g o a p J3 ko I6 oz hx0 hx1) (fun N w2 s h z=>⟨h.1,z.blk h.2.1,z.blk h.2.2.1,z.blk h.2.2.2⟩) (aN _) (fun N w2 s h z hl=>⟨h.1,(z D h.1.1).trans h.2.1,(z H h.1.2.1).trans h.2.2.1,(z i h.1.2.2).trans h.2.2.2⟩) ⟨⟨O1 h1,O1 h2,O1 h3⟩,h1,h2,h3⟩
 simp only[bT] at wx;rw[<-R] at c;have Z:=hdq wx;clear wx L hs j R;generalize P8 (Pl (.mk d g a) x) t 0=r at c Z M;generalize g8 (Rf (.mk d g a) x) t 0=f at c Z M;obtain⟨k,n,T⟩:=t;obtain⟨A,cap,rfl,hl,hc,hK⟩:=Lies.mk_iff.1 b8;have hE:=((((xr w).alloc (H0 k n A T.length cap)).alloc (.cells #[m0 x] 3)).alloc (H0 d g o a.length p)).alloc (H0 0 0 none 0 0);have qz:=bn ((xr ((((w.alloc (H0 k n A T.length cap)).alloc (.cells #[m0 x] 3)).alloc (H0 d g o a.length p)).alloc (H0 0 0 none 0 0))).alloc (.cells #[.bool true] 4));have Y:=aS ((((w.alloc (H0 k n A T.length cap)).alloc (.cells #[m0 x] 3)).alloc (H0 d g o a.length p)).alloc (H0 0 0 none 0 0)) (.cells #[.bool true] 4);have W8:=hE.alloc (.cells #[.bool true] 4);have hsz:(((((w.alloc (H0 k n A T.length cap)).alloc (.cells #[m0 x] 3)).alloc (H0 d g o a.length p)).alloc (H0 0 0 none 0 0)).alloc (.cells #[.bool true] 4)).heap.size=w.heap.size+1+1+1+1+1:=by simp
 obtain⟨J,y,l,q,-⟩:=qz;simp only[World.size_alloc] at Y;go_enter func119,ntmps119;go_wp2_with fail;generalize World.alloc _ _=wa at W8 J y l q Y hsz;clear hE;refine(Z.out wa W8 _ _ _ (by omega) (by omega) (by omega) y l Y).mono ?_;rintro e N ⟨u,rfl,hM,ho,hI⟩;obtain⟨C,B,F⟩:=r;obtain⟨O,X,rfl,hl2,hc2,Kr⟩:=W0.mk_iff.1 hM;have V:=ho.blk q (by simp);have i3:=hI.2.2.2;have hc5:=U1 i3 0;have Iu:=O1 i3;have Z2:=O1 V;have Lm:=ho.size;have xl:Ext w N:=ho.ext W8 (fun x hx=> by rw[List.mem_singleton.1 hx];omega);obtain⟨s0,s1,s2,f0,f1,f2⟩:=own3 V;clear Z J y l q Y hI i3;have hx:=(xr N).alloc (H0 C B O F.length X);cases f with
 |false=>
  rw[Bool.false_and] at c;have U:=hdq c.symm;have S:=hdq (ut c.symm);clear c M ut;go_wp2_with fail;refine aP (v:= .tuple #[M0 0 0 none 0 0,.bool false]) (by simp[aR,results119,go_sem,s0,s1,s2,Z2]) rfl ⟨M0 0 0 none 0 0,by rw[U.out],by rw[S.out];exact W0.leaf _ _ _ _ _, ?_⟩;exact(((xl.setCell (by simp;omega) _).setCell (by simp;omega) _).setCell (by simp;omega) _).alloc _
 |true=>
  rw[bT] at c;have HV:=hdq (fun W (hW:Ext N W)=> Lw C B F O X W (hM.lies.ext hW));generalize fj:j0 D0 (.mk C B F)=b at HV;have hO:K=if b=true then .mk C B F else j2:=by rw[M rfl];unfold okT;rw[fj]
  rw[fj] at c;have U:=hdq c.symm;have S:=hdq hO;clear hO c fj M ut;go_wp2_with fail;refine(HV.out _ hx).mono ?_;cases b with
  |true=>
   simp only[if_true];rintro e w2 ⟨rfl,I⟩;obtain⟨q0,q1,q2,g0,g1,g2⟩:=own3 ((hx.trans I).blk V);go_wp2_with fail;refine aP (v:= .tuple #[M0 C B O F.length X,.bool true]) (by simp[aR,results119,go_sem,q0,q1,q2]) rfl ⟨M0 C B O F.length X,by rw[U.out], ?_, ?_⟩
   · rw[S.out]
     simp only[if_true];exact W0.since (((hM.ext (hx.trans I)).after ((((ja.refl _ _).setCell (by simp;omega) _).setCell (by simp;omega) _).setCell (by simp;omega) _))) (by omega)
   · exact(((((xl.trans hx).trans I).setCell (by simp;omega) _).setCell (by simp;omega) _).setCell (by simp;omega) _)
  |false=>
   simp only[Bool.false_eq_true,if_false];rintro e w2 ⟨rfl,I⟩;obtain⟨q0,q1,q2,g0,g1,g2⟩:=own3 ((hx.trans I).blk V);go_wp2_with fail;refine aP (v:= .tuple #[M0 0 0 none 0 0,.bool false]) (by simp[aR,results119,go_sem,q0,q1,q2]) rfl ⟨M0 0 0 none 0 0,by rw[U.out],by rw[S.out];exact W0.leaf _ _ _ _ _, ?_⟩;exact(((((xl.trans hx).trans I).setCell (by simp;omega) _).setCell (by simp;omega) _).setCell (by simp;omega) _)
