/-
  Lemmas towards the law, 15: OrdN, Sub1.
-/
import Derived.Test.YtckhbnmfnpolgaaGreatBAN
open List renaming range->iO,any_eq_false->iR
open Go renaming Value->aS,Program->eP,World->aK,undef->kV,wpAnyH->jR,heap_alloc_new->aR,bodyPost_ret->aO,results->aQ
open Go.Region renaming wanted->eL,ready->jQ
open Bool renaming and_eq_true->aW,not_eq_true'->gN,true_and->bQ
open Array renaming getD_eq_getD_getElem?->dK,getElem_setIfInBounds_ne->jM
open Option renaming getD_some->jL
open Classical renaming byContradiction->gV
open Nat renaming le_refl->aM
open Go.RowKit.Below renaming heap_setCell->aL
open Go.Proofs.Tryz
set_option linter.unusedVariables false
set_option maxRecDepth 100000
namespace Go.Proofs.YtckhbnmfnpolgaaGreat.Ord
open Go
def dstOf(ops:Array Oper)(i:Nat):Option Tmp:=(ops[i]?).bind (·.dst)
def y95(ops:Array Oper)(i:Nat):List Nat:=((ops[i]?).map fun o=>(o.after.toList.filter (Region.binds .any)).map (·.on)).getD []
def Sj(ops:Array Oper):Nat->Nat->Nat->Bool
 |0,_,_=> false
 |f+1,i,j=>(y95 ops i).any fun k=> k==j||Sj ops f k j
def isOn(l:Array Bool)(i:Nat):Bool:=l.getD i false
def isDst(ops:Array Oper)(l:Array Bool)(m:Nat)(t:Nat):Bool:=(iO m).any fun j=> !isOn l j && dstOf ops j==some t
def M8(ops:Array Oper)(v:Nat->aS)(s:Nat->Bool)(a:Act):Nat->Act
 |0=> a
 |n+1=> if s n=true then(M8 ops v s a n).put (dstOf ops n) (v n) else M8 ops v s a n
def depO(ops:Array Oper)(l:Array Bool)(i j d:Nat):Bool:=(y95 ops i).contains j && dstOf ops j==some d && !isOn l j
def opnO(l:Array Bool):Nat->Nat
 |0=> 0
 |n+1=> opnO l n+if isOn l n=true then 0 else 1
def doneO(l:Array Bool)(m:Nat):Array Bool:=(Array.range l.size).map fun i=> decide (i < m) ||isOn l i
def jw(ops:Array Oper)(l:Array Bool)(m N:Nat):Bool:=
 (iO m).all fun i=> isOn l i||match dstOf ops i with
  |some d=> decide (d < N)&&(iO i).all fun j=> isOn l j||dstOf ops j !=some d
  |none=> true
def okX(ops:Array Oper)(l:Array Bool)(m N x:Nat):Bool:=
 jw ops l m N &&
 (iO (ops.size - m)).all (fun i=> isOn l (m+i) ||(iO m).all fun j=> j==x||isOn l j||Sj ops ops.size (m+i) j)&&
 (iO ops.size).all (fun i=>(y95 ops i).all fun k=> decide (k < i)&&(!isOn l i||isOn l k))&& decide (m<=ops.size)&& decide (l.size=ops.size)
section
variable {Γ : Type} (P : eP) (ops : Array Oper) (Q : Exit → Act → aK → Prop) (l0 : Array Bool) (m : Nat) (E : aK × Γ → aK × Γ → Prop) (G : Nat → aS → aK × Γ → Prop) (a0 : Act) (w0 : aK × Γ)
def Nq(i:Nat)(o:Oper):Prop:=
 ∀a w z,E w0 (w,z)->(∀t,isDst ops l0 m t=false->a.eval (.tmp t)=a0.eval (.tmp t))->(∀j d,depO ops l0 i j d=true->G j (a.eval (.tmp d)) (w,z))->
  wpOp P ops Q i (fun e c=> ∃u b,e=a.put o.dst u/\E (w,z) (c,b)/\G i u (c,b)) a w
def StL:List Nat->Prop
 | []=> True
 |i::is=>(∃o,ops[i]? =some o/\Nq P ops Q l0 m E G a0 w0 i o)/\StL is
end
section
variable {Γ : Type} {P : eP} {ops : Array Oper} {Q : Exit → Act → aK → Prop} {l0 : Array Bool} {m : Nat} {E : aK × Γ → aK × Γ → Prop} {G : Nat → aS → aK × Γ → Prop} {a0 : Act} {w0 : aK × Γ}
theorem StL.get: ∀{is:List Nat} {i:Nat},StL P ops Q l0 m E G a0 w0 is->i∈is-> ∃o,ops[i]? =some o/\Nq P ops Q l0 m E G a0 w0 i o
 | [],i,h,hi=> by cases hi
 |j::is,i,h,hi=> by
  rcases List.mem_cons.1 hi with rfl|hi
  · exact h.1
  · exact StL.get h.2 hi
theorem step_of{i:Nat}{o:Oper}{a:Act}{w:aK}{R:Act->aK->Prop}(e:ops[i]? =some o)(d:o.guard=none)(h: ∀K:Act->aK->Prop,(∀b c,R b c->K b c)->o.wp P a w K Q):wpOp P ops Q i R a w:=by
 unfold wpOp;rw[e];simp only;rw[if_pos]
 · exact .inl (h R fun _ _ h=> h)
 · unfold eL
   rw[d]
theorem Vy{v v':Nat->aS}{s s':Nat->Bool}(a:Act): ∀{n:Nat},(∀j,j < n->s j=s' j/\(s j=true->v j=v' j))->M8 ops v s a n=M8 ops v' s' a n
 |0,_=> rfl
 |n+1,h=> by
  have ih:=Vy a (n:=n) fun j d=> h j (by omega)
  obtain⟨b,c⟩:=h n (by omega);unfold M8;rw[ih,<-b]
  split
  · rename_i hs
    rw[c hs]
  · rfl
theorem vv{N:Nat}(h:jw ops l0 m N=true){i:Nat}(hi:i < m)(hl:isOn l0 i=false){d:Tmp}(hd:dstOf ops i=some d):d < N/\ ∀j,j < i->isOn l0 j=false->dstOf ops j≠some d:=by
 unfold jw at h;simp only[List.all_eq_true,List.mem_range] at h;have:=h i hi;rw[hl,Bool.false_or,hd] at this;simp only[aW,decide_eq_true_eq,List.all_eq_true,List.mem_range,bne_iff_ne,Bool.or_eq_true] at this;exact⟨this.1,fun j a b=>(this.2 j a).resolve_left (by rw[b];decide)⟩
theorem Lq{N:Nat}(h:jw ops l0 m N=true){i j:Nat}(hi:i < m)(g:j < m)(f:isOn l0 i=false)(c:isOn l0 j=false)(b:i≠j){d:Tmp}(hd:dstOf ops i=some d):dstOf ops j≠some d:=by
 rcases Nat.lt_or_gt_of_ne b with a|a
 · exact fun e=>(vv h g c e).2 i a f hd
 · exact(vv h hi f hd).2 j a c
theorem zs{N:Nat}(h:jw ops l0 m N=true){v:Nat->aS}{s:Nat->Bool}(a:Act)(b: ∀j,s j=true->isOn l0 j=false){i:Nat}(hs:s i=false)(c:isOn l0 i=false)(u:aS): ∀{n:Nat},i < n->n<=m->
 M8 ops (fun j=> if j=i then u else v j) (fun j=> if j=i then true else s j) a n=(M8 ops v s a n).put (dstOf ops i) u
 |0,hi,_=> by omega
 |n+1,hi,hn=> by
  by_cases e:n=i
  · subst e
    have f:(if n=n then true else s n)=true:=if_pos rfl;have k: ¬s n=true:=by rw[hs];decide
    have l:(if n=n then u else v n)=u:=if_pos rfl;unfold M8;rw[if_pos f,if_neg k,l];rw[Vy a (v:=fun j=> if j=n then u else v j) (s:=fun j=> if j=n then true else s j) (v':=v) (s':=s) (fun j o=>⟨by rw[if_neg (by omega)],fun _=> by rw[if_neg (by omega)]⟩)]
  · have ih:=zs h (v:=v) a b hs c u (n:=n) (by omega) (by omega)
    unfold M8;rw[if_neg e,if_neg e,ih]
    split
    · rename_i g
      rw[Act.put_comm];intro d hd;exact Lq h (by omega) (by omega) c (b n g) (Ne.symm e) hd
    · rfl
theorem WG(a:Act)(x:Option Tmp)(v:aS):(a.put x v).tmps.size=a.tmps.size:=by
 cases x <;> simp[Act.put]
theorem gs(v:Nat->aS)(s:Nat->Bool)(a:Act): ∀n,(M8 ops v s a n).tmps.size=a.tmps.size
 |0=> rfl
 |n+1=> by
  unfold M8
  split
  · rw[WG,gs]
  · exact gs v s a n
theorem Nv(a:Act)(d:Tmp)(v:aS)(t:Tmp):(a.put (some d) v).eval (.tmp t)=if d=t then(if t < a.tmps.size then v else kV) else a.eval (.tmp t):=by
 show(a.tmps.setIfInBounds d v).getD t kV=_
 rw[dK,Array.getElem?_setIfInBounds]
 split
 · rename_i h
   subst h
   split <;> rfl
 · rw[show a.eval (.tmp t)=a.tmps.getD t kV from rfl,dK]
theorem du(v:Nat->aS)(s:Nat->Bool)(a:Act)(t:Tmp): ∀{n:Nat},(∀j,j < n->s j=true->dstOf ops j≠some t)->(M8 ops v s a n).eval (.tmp t)=a.eval (.tmp t)
 |0,_=> rfl
 |n+1,h=> by
  have ih:=du v s a t (n:=n) fun j b=> h j (by omega)
  unfold M8
  split
  · rename_i hs
    cases hd:dstOf ops n with
    |none=> exact ih
    |some d=>
     rw[Nv,if_neg,ih];intro e;exact h n (by omega) hs (by rw[hd,e])
  · exact ih
theorem Qs{N:Nat}(h:jw ops l0 m N=true)(v:Nat->aS)(s:Nat->Bool)(b: ∀j,s j=true->isOn l0 j=false)(a:Act)(hN:a.tmps.size=N){k:Nat}{d:Tmp}(hd:dstOf ops k=some d)(hk:s k=true): ∀{n:Nat},k < n->n<=m->(M8 ops v s a n).eval (.tmp d)=v k
 |0,hi,_=> by omega
 |n+1,hi,hn=> by
  by_cases e:n=k
  · subst e
    unfold M8;rw[if_pos hk,hd,Nv,if_pos rfl,if_pos];rw[gs,hN];exact(vv h (i:=n) (by omega) (b _ hk) hd).1
  · have ih:=Qs h v s b a hN hd hk (n:=n) (by omega) (by omega)
    unfold M8
    split
    · rename_i g
      cases c:dstOf ops n with
      |none=> exact ih
      |some l=>
       rw[Nv,if_neg,ih];intro f;subst f;exact Lq h (by omega) (by omega) (b _ hk) (b _ g) (Ne.symm e) hd c
    · exact ih
theorem aJ{l:Nat->Bool}(hd: ∀i,l i=true-> ∀k∈y95 ops i,l k=true): ∀(f i j:Nat),(∀k∈y95 ops i,l k=true)->Sj ops f i j=true->l j=true
 |0,_,_,_,h=> by cases h
 |f+1,i,j,hi,h=> by
  unfold Sj at h;simp only[List.any_eq_true,Bool.or_eq_true,beq_iff_eq] at h;obtain⟨k,hk,h⟩:=h;rcases h with rfl|h
  · exact hi k hk
  · exact aJ hd f k j (hd k (hi k hk)) h
theorem IG{a:Array Bool}{i:Nat}(h:i∈jQ .any ops a):a.getD i true=false/\(∃o,ops[i]? =some o)/\ ∀k∈y95 ops i,isOn a k=true:=by
 obtain⟨c,o,b,g⟩:=mem_ready.1 h;refine⟨c,⟨o,b⟩,fun k hk=> ?_⟩;unfold y95 at hk;rw[b] at hk;simp only[Option.map_some,jL,List.mem_map,List.mem_filter] at hk;obtain⟨e,⟨d,f⟩,rfl⟩:=hk;exact g e (by simpa using d) f
theorem UF{a:Array Bool}{i:Nat}(hi:i < ops.size)(h:a.getD i true=false)(d: ∀k∈y95 ops i,isOn a k=true):i∈jQ .any ops a:=by
 refine mem_ready.2 ⟨h,ops[i],by simp[hi],fun e b c=> d e.on ?_⟩;unfold y95;rw[show ops[i]? =some ops[i] by simp[hi]];simp only[Option.map_some,jL,List.mem_map,List.mem_filter];exact⟨e,⟨by simpa using b,c⟩,rfl⟩
theorem Nt{l l':Array Bool}{i:Nat}(b:isOn l i=false)(c:isOn l' i=true)(h: ∀j,j≠i->isOn l' j=isOn l j): ∀{n:Nat},opnO l n=opnO l' n+if i < n then 1 else 0
 |0=> by simp[opnO]
 |n+1=> by
  have ih:=Nt b c h (n:=n);unfold opnO;by_cases e:n=i
  · subst e
    rw[ih,b,c];simp
  · rw[ih,h n e]
    by_cases a:i < n
    · rw[if_pos a,if_pos (by omega:i < n+1)]
      omega
    · have d: ¬i < n+1:=by omega
      rw[if_neg a,if_neg d];omega
theorem Zq{p:Nat->Bool}: ∀{n:Nat},(∃j,j < n/\p j=false)-> ∃j,j < n/\p j=false/\ ∀k,k < j->p k=true
 |0,h=> by obtain⟨j,f,-⟩:=h;omega
 |n+1,h=> by
  by_cases b: ∃j,j < n/\p j=false
  · obtain⟨j,c,a⟩:=Zq b
    exact⟨j,by omega,a⟩
  · obtain⟨j,c,a⟩:=h
    have:j=n:=by
     apply gV
     intro e;exact b ⟨j,by omega,a⟩
    subst this;refine⟨j,c,a,fun k hk=> ?_⟩;cases d:p k with
    |true=> rfl
    |false=> exact absurd ⟨k,hk,d⟩ b
theorem wpAnyH_orderX{S:aK->Prop}{N fuel fT x:Nat}{X:Array Bool}{is:List Nat}(his:(iO m).filter (fun j=> !isOn l0 j)=is)(Kl:okX ops l0 m N x=true)(hN:a0.tmps.size=N)(hf:fuel=opnO l0 ops.size)(hlT:doneO l0 m=X)(hfT:opnO X ops.size=fT)
 (hx:x < m-> ∃Z,ops[x]? =some Z/\isOn l0 x=false/\Region.noSelect ops=true/\Region.free .any ops (X.setIfInBounds x false) x=true/\(jQ .any ops (X.setIfInBounds x false)).contains x=true/\(∀v c a w,Q (.panic c) (a.put Z.dst v) w->Q (.panic c) a w)/\
  ∀a w z,E w0 (w,z)->(∀t,isDst ops l0 m t=false->a.eval (.tmp t)=a0.eval (.tmp t))->(∀j d,depO ops l0 x j d=true->G j (a.eval (.tmp d)) (w,z))-> ∃u,YieldsIf P ops S Z u a/\G x u (w,z))
 (hE0:E w0 w0) (hE: ∀u v w,E u v->E v w->E u w) (hG: ∀i v w w',G i v w->E w w'->G i v w') (hS: ∀w z,E w0 (w,z)->S w)
 (M:StL P ops Q l0 m E G a0 w0 is)
 (fin: ∀(v:Nat->aS) w z,E w0 (w,z)->(∀j,j < m->isOn l0 j=false->G j (v j) (w,z))->jR P .any ops Q S fT X (M8 ops v (fun j=> !isOn l0 j) a0 m) w):
 jR P .any ops Q S fuel l0 a0 w0.1:=by
 subst hlT;subst hfT;have su:=Kl;unfold okX at su;simp only[aW,decide_eq_true_eq,List.all_eq_true,List.mem_range,Bool.or_eq_true,gN] at su;obtain⟨⟨⟨⟨ce,Eh⟩,A⟩,hm⟩,D⟩:=su;have ot: ∀i,i < ops.size-> ∀k∈y95 ops i,k < i:=fun i hi k hk=>(A i hi k hk).1
 have Js: ∀i,isOn l0 i=true-> ∀k∈y95 ops i,isOn l0 k=true:=fun i hl k hk=> by
  by_cases hi:i < ops.size
  · exact(A i hi k hk).2.resolve_left (by rw[hl];decide)
  · unfold y95 at hk
    rw[show ops[i]? =none from Array.getElem?_eq_none (by omega)] at hk;simp at hk
 have hup: ∀i,m<=i->i < ops.size->isOn l0 i=false-> ∀j,j < m->j≠x->isOn l0 j=false->Sj ops ops.size i j=true:=fun i K h2 hi j f V hl=> by
  have:=Eh (i - m) (by omega);rw[show m+(i - m)=i by omega] at this;have:=this.resolve_left (by rw[hi];decide) j f;exact this.resolve_left (fun h=> h.elim (fun h=> V (by simpa using h)) (fun h=> by rw[hl] at h;cases h))
 have O: ∀b:Array Bool,∀j,(isOn b j && !isOn l0 j)=true->isOn l0 j=false:=fun b j h=> by
  simp only[aW,gN] at h;exact h.2
 have W: ∀(fuel:Nat) (b:Array Bool) (a:Act) (w:aK) (z:Γ) (v:Nat->aS),b.size=ops.size->(∀i,m<=i->isOn b i=isOn l0 i)->(∀i,isOn l0 i=true->isOn b i=true)->
  (∀i,isOn b i=true-> ∀k∈y95 ops i,isOn b k=true)->a=M8 ops v (fun j=> isOn b j && !isOn l0 j) a0 m->(∀j,j < m->isOn b j=true->isOn l0 j=false->G j (v j) (w,z))->E w0 (w,z)->
  fuel=opnO b ops.size->jR P .any ops Q S fuel b a w:=by
  intro fuel;have done: ∀(fuel:Nat) (b:Array Bool) (a:Act) (w:aK) (z:Γ) (v:Nat->aS),b.size=ops.size->(∀i,m<=i->isOn b i=isOn l0 i)->a=M8 ops v (fun j=> isOn b j && !isOn l0 j) a0 m->(∀j,j < m->isOn b j=true->isOn l0 j=false->G j (v j) (w,z))->E w0 (w,z)->
   fuel=opnO b ops.size->(∀j,j < m->isOn b j=true)->jR P .any ops Q S fuel b a w:=by
   intro fuel b a w z v r K B I C hf q;have hl:b=doneO l0 m:=by
    apply Array.ext
    · simp[doneO,r,D]
    · intro i R ft
      have e1:isOn b i=b[i]:=by simp[isOn,dK,R]
      have L:(doneO l0 m)[i]=(decide (i < m) ||isOn l0 i):=by simp[doneO]
      rw[<-e1,L];by_cases hi:i < m
      · rw[q i hi];simp[hi]
      · rw[K i (by omega)];simp[hi]
   subst hl;subst B;subst hf;rw[Vy (v':=v) (s':=fun j=> !isOn l0 j) a0 (fun j f=>⟨by rw[q j f,bQ],fun _=> rfl⟩)];exact fin v w z C (fun j f hl=> I j f (q j f) hl)
  induction fuel with
  |zero=>
   intro b a w z v r K lg h2 B I C hf;refine done 0 b a w z v r K B I C hf fun j f=> ?_
   have: ∀n,opnO b n=0-> ∀j,j < n->isOn b j=true:=by
    intro n
    induction n with
    |zero=> intro _ j f;omega
    |succ n ih=>
     intro h j f;unfold opnO at h;by_cases e:j=n
     · subst e
       split at h
       · assumption
       · omega
     · exact ih (by omega) j (by omega)
   exact this ops.size hf.symm j (by omega)
  |succ fuel ih=>
   intro b a w z v r K lg h2 B I C hf;by_cases q: ∀j,j < m->isOn b j=true
   · exact done _ b a w z v r K B I C hf q
   by_cases g: ∀j,j < m->j≠x->isOn b j=true
   · have Ih:x < m:=by
      apply gV
      intro h;exact q fun j f=> g j f (by omega)
     obtain⟨Z,Cm,D5,uk,hfr,F9,hQ,hX⟩:=hx Ih;have Ib:isOn b x=false:=by
      cases H:isOn b x with
      |false=> rfl
      |true=> exact absurd (fun j f=> if e:j=x then e▸H else g j f e) q
     have hl:b=(doneO l0 m).setIfInBounds x false:=by
      apply Array.ext
      · simp[doneO,r,D]
      · intro i R ft
        have e1:isOn b i=b[i]:=by simp[isOn,dK,R]
        have ng:i <(doneO l0 m).size:=by simpa using ft
        have L:(doneO l0 m)[i]=(decide (i < m) ||isOn l0 i):=by simp[doneO]
        rw[<-e1];by_cases e:i=x
        · subst e
          rw[Ib];simp
        · rw[jM ng (Ne.symm e),L]
          by_cases hi:i < m
          · rw[g i hi e];simp[hi]
          · rw[K i (by omega)];simp[hi]
     have F:b.setIfInBounds x true=doneO l0 m:=by
      rw[hl]
      apply Array.ext
      · simp
      · intro i R ft
        have L:(doneO l0 m)[i]=(decide (i < m) ||isOn l0 i):=by simp[doneO]
        by_cases e:i=x
        · subst e
          rw[L];simp[Ih]
        · rw[jM (by simpa using R) (Ne.symm e),jM ft (Ne.symm e)]
     have hd:(dstOf ops x)=Z.dst:=by unfold dstOf;rw[Cm];rfl
     have hsx:(isOn b x && !isOn l0 x)=false:=by rw[Ib];rfl
     obtain⟨u,hy,hgx⟩:=hX a w z C (by
      intro t ht;rw[B,du];intro j f hs e;unfold isDst at ht;rw[iR] at ht;refine ht j (List.mem_range.2 f) ?_;rw[O b j hs,e];simp) (by
      intro j d y;unfold depO at y;simp only[aW,beq_iff_eq,List.contains_iff_mem,gN] at y;have hji:=ot x (by omega) j y.1.1;have J:=g j (by omega) (by omega);rw[B,Qs ce v _ (O b) a0 hN y.1.2 (by rw[J,y.2];rfl) (by omega) (aM _)];exact I j (by omega) J y.2)
     have hfu:fuel=opnO (doneO l0 m) ops.size:=by
      have:=Nt (l:=b) (l':=b.setIfInBounds x true) (i:=x) Ib (by
       unfold isOn;simp[dK,show x < b.size by omega]) (fun j f=> by
       unfold isOn;simp[dK,Array.getElem?_setIfInBounds_ne (Ne.symm f)]) (n:=ops.size)
      rw[if_pos (by omega),F] at this;omega
     refine wpAnyH_take (v:=u) Cm uk (hl▸hfr) (hl▸F9) (hQ u) hy (hS _ _ C) ?_;rw[F,hfu,B,<-hd,<-zs ce (s:=fun j=> isOn b j && !isOn l0 j) a0 (O b) hsx D5 u Ih (aM _)];rw[Vy (v':=fun j=> if j=x then u else v j) (s':=fun j=> !isOn l0 j) a0 (fun j f=>⟨by
      by_cases e:j=x
      · simp only[if_pos e];rw[e,D5];rfl
      · simp only[if_neg e];rw[g j f e,bQ],fun _=> rfl⟩)]
     refine fin _ w z C fun j f J=> ?_
     by_cases e:j=x
     · simp only[if_pos e];rw[e];exact hgx
     · simp only[if_neg e];exact I j f (g j f e) J
   · obtain⟨j1,hj11,He,Gu⟩:=Zq (p:=isOn b) (n:=m) (by
      apply gV
      intro h;exact q fun j f=> by
       cases H:isOn b j with
       |true=> rfl
       |false=> exact absurd ⟨j,f,H⟩ h)
     obtain⟨Y,jc,V,od⟩: ∃j,j < m/\j≠x/\isOn b j=false:=by
      apply gV
      intro h;exact g fun j f V=> by
       cases H:isOn b j with
       |true=> rfl
       |false=> exact absurd ⟨j,f,V,H⟩ h
     have gt: ∀i,i < ops.size->b.getD i true=isOn b i:=fun i hi=> by
      simp[isOn,dK,show i < b.size by omega]
     refine⟨fun h0=> ?_,fun i hi=> ?_⟩
     · have hr:j1∈jQ .any ops b:=UF (by omega) (by rw[gt _ (by omega)];exact He) (fun k hk=> Gu k (ot j1 (by omega) k hk))
       rw[h0] at hr;cases hr
     · obtain⟨r1,⟨o,ho⟩,r3⟩:=IG hi
       have b8:i < ops.size:=(Array.getElem?_eq_some_iff.1 ho).1;have U0:isOn b i=false:=by rw[<-gt i b8];exact r1
       have Dx:isOn l0 i=false:=by
        cases H:isOn l0 i with
        |false=> rfl
        |true=> rw[lg i H] at U0;cases U0
       have Jc:isOn l0 Y=false:=by
        cases H:isOn l0 Y with
        |false=> rfl
        |true=> rw[lg Y H] at od;cases od
       have T:i < m:=by
        apply gV
        intro wy;have:=aJ (l:=isOn b) h2 ops.size i Y r3 (hup i (by omega) b8 Dx Y jc V Jc);rw[od] at this;cases this
       obtain⟨o',Dm,hst⟩:=M.get (i:=i) (his▸List.mem_filter.2 ⟨List.mem_range.2 T,by rw[Dx];rfl⟩);obtain rfl:o'=o:=by rw[ho] at Dm;exact(Option.some.inj Dm).symm
       have hd:(dstOf ops i)=o'.dst:=by unfold dstOf;rw[ho];rfl
       have hsi:(isOn b i && !isOn l0 i)=false:=by rw[U0];rfl
       refine wpOp_mono ?_ (hst a w z C ?_ ?_)
       · rintro a' w' ⟨u,z',rfl,xi,sq⟩
         have F: ∀j,isOn (b.setIfInBounds i true) j=if j=i then true else isOn b j:=fun j=> by
          unfold isOn;by_cases e:j=i
          · subst e
            rw[if_pos rfl];simp[dK,show j < b.size by omega]
          · rw[if_neg e]
            simp[dK,Array.getElem?_setIfInBounds_ne (Ne.symm e)]
         refine⟨hS _ _ (hE _ _ _ C xi),ih (b.setIfInBounds i true) _ w' z' (fun j=> if j=i then u else v j) (by simpa using r) ?_ ?_ ?_ ?_ ?_ (hE _ _ _ C xi) ?_⟩
         · intro j f
           rw[F,if_neg (by omega)];exact K j f
         · intro j f
           rw[F]
           split
           · rfl
           · exact lg j f
         · intro j f k hk
           rw[F] at f⊢;by_cases e:k=i
           · rw[if_pos e]
           · rw[if_neg e]
             by_cases L:j=i
             · subst L;exact r3 k hk
             · rw[if_neg L] at f
               exact h2 j f k hk
         · rw[B,<-hd,<-zs ce (s:=fun j=> isOn b j && !isOn l0 j) a0 (O b) hsi Dx u T (aM _)]
           refine Vy a0 (fun j f=>⟨?_,fun _=> rfl⟩);simp only[F];by_cases e:j=i
           · rw[if_pos e,if_pos e,e,Dx];rfl
           · rw[if_neg e,if_neg e]
         · intro j f hl J
           by_cases e:j=i
           · simp only[if_pos e];rw[e];exact sq
           · simp only[if_neg e]
             rw[F,if_neg e] at hl;exact hG _ _ _ _ (I j f hl J) xi
         · have:=Nt (l:=b) (l':=b.setIfInBounds i true) (i:=i) U0 (by rw[F,if_pos rfl]) (fun j f=> by rw[F,if_neg f]) (n:=ops.size)
           rw[if_pos b8] at this;omega
       · intro t ht
         rw[B,du];intro j f hs e;unfold isDst at ht;rw[iR] at ht;refine ht j (List.mem_range.2 f) ?_;rw[O b j hs,e];simp
       · intro j d y
         unfold depO at y;simp only[aW,beq_iff_eq,List.contains_iff_mem,gN] at y;have J:=r3 j y.1.1;have hji:=ot i b8 j y.1.1;rw[B,Qs ce v _ (O b) a0 hN y.1.2 (by rw[J,y.2];rfl) (by omega) (aM _)];exact I j (by omega) J y.2
 refine W fuel l0 a0 w0.1 w0.2 (fun _=> kV) D (fun _ _=> rfl) (fun _ h=> h) Js ?_ ?_ hE0 hf
 · have: ∀n,M8 ops (fun _=> kV) (fun j=> isOn l0 j && !isOn l0 j) a0 n=a0:=fun n=> by
    induction n with
    |zero=> rfl
    |succ n ih=>
     unfold M8;rw[if_neg,ih];simp
   exact(this m).symm
 · intro j f hl U
   rw[hl] at U;cases U
end
theorem By{ops:Array Oper}{v:Nat->aS}{s:Nat->Bool}{a:Act}: ∀{n:Nat},M8 ops v s a n=((iO n).filter s).foldl (fun a j=> a.put (dstOf ops j) (v j)) a
 |0=> rfl
 |n+1=> by
  unfold M8;rw[List.range_succ,List.filter_append,List.foldl_append,By];by_cases h:s n=true
  · rw[if_pos h];simp[h]
  · rw[if_neg h];simp[h]
theorem putN_l{ops:Array Oper}{v:Nat->aS}{s:Nat->Bool}{a:Act}{n:Nat}(is:List Nat)(h:(iO n).filter s=is):M8 ops v s a n=is.foldl (fun a j=> a.put (dstOf ops j) (v j)) a:=by rw[By,h]
end Go.Proofs.YtckhbnmfnpolgaaGreat.Ord
namespace Go.Proofs.YtckhbnmfnpolgaaGreat
open Go Go.RowKit
theorem S4{a:Act}{t:Nat}{v:aS}(h:a.eval (.tmp t)=v):a.tmps[t]?.getD kV=v:=by
 rw[<-h];exact(dK ..).symm
def EB(W w:aK)(g:Nat):Prop:=W.heap.size<=g/\w.heap[g]? =some (.cells #[.int .i64 0,.int .i64 0,.slice none 0 0] 25 (0,0))
inductive Sp where
 |any
 |val (u:aS)
 |tree (M:Nat->Prop) (t:Tr)
 |row (M:Nat->Prop) (ts:List Tr)
 |two (M:Nat->Prop) (t:Tr) (c:aS)
 |box (W:aK)
theorem InK.news{w:aK}{M:Nat->Prop}{e:TypeId}{t:Tr}{v0 v1 v2:aS}(h:InT w M t (.agg #[v0,v1,v2]))(a:M w.heap.size):InK (w.alloc (.cells #[v0,v1,v2] e)) M (some ⟨w.heap.size,0,none⟩) [t]:=
 .inr ⟨w.heap.size,0,rfl,a,⟨⟨v0,v1,v2,i1 (aR w _) 0,i1 (aR w _) 1,i1 (aR w _) 2,h.later ((xr w).alloc _)⟩,trivial⟩⟩
theorem InK.news2{w:aK}{M:Nat->Prop}{e:TypeId}{t u:Tr}{v0 v1 v2 c b a:aS}(h:InT w M t (.agg #[v0,v1,v2]))(k:InT w M u (.agg #[c,b,a]))(d:M w.heap.size):InK (w.alloc (.cells #[v0,v1,v2,c,b,a] e)) M (some ⟨w.heap.size,0,none⟩) [t,u]:=
 .inr ⟨w.heap.size,0,rfl,d,⟨⟨v0,v1,v2,i1 (aR w _) 0,i1 (aR w _) 1,i1 (aR w _) 2,h.later ((xr w).alloc _)⟩,⟨c,b,a,i1 (aR w _) 3,i1 (aR w _) 4,i1 (aR w _) 5,k.later ((xr w).alloc _)⟩,trivial⟩⟩
theorem InK.news3{w:aK}{M:Nat->Prop}{e:TypeId}{t u x:Tr}{v0 v1 v2 g a c f b d:aS}(h:InT w M t (.agg #[v0,v1,v2]))(k:InT w M u (.agg #[g,a,c]))(l:InT w M x (.agg #[f,b,d]))(i:M w.heap.size):InK (w.alloc (.cells #[v0,v1,v2,g,a,c,f,b,d] e)) M (some ⟨w.heap.size,0,none⟩) [t,u,x]:=
 .inr ⟨w.heap.size,0,rfl,i,⟨⟨v0,v1,v2,i1 (aR w _) 0,i1 (aR w _) 1,i1 (aR w _) 2,h.later ((xr w).alloc _)⟩,⟨g,a,c,i1 (aR w _) 3,i1 (aR w _) 4,i1 (aR w _) 5,k.later ((xr w).alloc _)⟩,⟨f,b,d,i1 (aR w _) 6,i1 (aR w _) 7,i1 (aR w _) 8,l.later ((xr w).alloc _)⟩,trivial⟩⟩
def EG(x y:aK×List Nat):Prop:=Ext x.1 y.1/\(∀g,g∈x.2->g∈y.2)/\(∀g,g∈y.2->g∈x.2\/x.1.heap.size<=g)/\ ∀g,g∈y.2->g < y.1.heap.size
theorem EG.start(w:aK):EG (w, []) (w, []):=⟨xr _,fun _ h=> h,fun g h=> .inl h,fun g h=> by cases h⟩
theorem EG.trans{x y z:aK×List Nat}(h:EG x y)(k:EG y z):EG x z:=by
 refine⟨h.1.trans k.1,fun g a=> k.2.1 g (h.2.1 g a),fun g a=> ?_,k.2.2.2⟩;rcases k.2.2.1 g a with e|e
 · exact h.2.2.1 g e
 · exact .inr (Nat.le_trans h.1.size e)
theorem Ma{x:aK×List Nat}{w a:aK}{z:List Nat}(h:EG x (w,z))(e:Ext w a):EG (w,z) (a,z):=
 ⟨e,fun _ h=> h,fun _ h=> .inl h,fun g b=> Nat.lt_of_lt_of_le (h.2.2.2 g b) e.size⟩
theorem EG.id{x:aK×List Nat}{w:aK}{z:List Nat}(h:EG x (w,z)):EG (w,z) (w,z):=Ma h (xr _)
theorem EG.box{x:aK×List Nat}{w:aK}{o:Obj}{z:List Nat}(h:EG x (w,z)):EG (w,z) (w.alloc o,w.heap.size::z):=by
 refine⟨(xr _).alloc _,fun _ h=> List.mem_cons_of_mem _ h,fun g a=> ?_,fun g a=> ?_⟩
 · rcases List.mem_cons.1 a with rfl|a
   · exact .inr (aM _)
   · exact .inl a
 · have:(w.alloc o).heap.size=w.heap.size+1:=by simp
   rcases List.mem_cons.1 a with rfl|a
   · show w.heap.size <(w.alloc o).heap.size;omega
   · have:=h.2.2.2 g a;show g <(w.alloc o).heap.size;simp only at this;omega
def Mz(M:Nat->Prop)(z:List Nat)(b:Nat):Prop:=M b/\ ¬b∈z
theorem Mz.later{M:Nat->Prop}{x y:aK×List Nat}(h:EG x y){b:Nat}(a:Mz M x.2 b/\b < x.1.heap.size):Mz M y.2 b:=by
 refine⟨a.1.1,fun e=> ?_⟩;rcases h.2.2.1 b e with f|f
 · exact a.1.2 f
 · have:=a.2
   omega
theorem InT.laterG{M:Nat->Prop}{x y:aK×List Nat}{t:Tr}{v:aS}(h:InT x.1 (Mz M x.2) t v)(e:EG x y):InT y.1 (Mz M y.2) t v:=
 InT.mono (fun b a=> Mz.later e a) (fun _ _=> rfl) (h.bound.later e.1)
theorem InK.laterG{M:Nat->Prop}{x y:aK×List Nat}{A:Option Addr}{a:List Tr}(h:InK x.1 (Mz M x.2) A a)(e:EG x y):InK y.1 (Mz M y.2) A a:=
 InK.mono (fun b c=> Mz.later e c) (fun _ _=> rfl) (h.bound.later e.1)
theorem InT.oldG{M:Nat->Prop}{W w:aK}{z:List Nat}{t:Tr}{v:aS}(h:InT W M t v)(e:EG (W.drew, []) (w,z)):InT w (Mz M z) t v:=
 InT.laterG (x:=(W.drew, [])) (y:=(w,z)) (InT.mono (fun b a=>⟨a,fun h=> by cases h⟩) (fun _ _=> rfl) (InT.later h (xr W).drew)) e
theorem EG.news{M:Nat->Prop}{x:aK×List Nat}{w:aK}{z:List Nat}(h:EG x (w,z))(a: ∀b,w.heap.size<=b->M b): ∀b,w.heap.size<=b->Mz M z b:=
 fun b c=>⟨a b c,fun e=> by have:=h.2.2.2 b e;simp only at this;omega⟩
theorem Fm{P:eP}{ops:Array Oper}{Q:Exit->Act->aK->Prop}{i j:Nat}{o:Oper}{a:Act}{w:aK}{R:Act->aK->Prop}{y b:Bool}{d:Nat}(p:ops[i]? =some o)(n:o.guard=some (j,y))(g:Ord.dstOf ops j=some d)(hv:a.eval (.tmp d)= .bool b)
 (k:b=y-> ∀K:Act->aK->Prop,(∀c f,R c f->K c f)->o.wp P a w K Q) (q: ¬b=y->R (a.put o.dst kV) w):wpOp P ops Q i R a w:=by
 have hs:a.tmps[d]? =some (.bool b):=by
  rw[show a.eval (.tmp d)=a.tmps.getD d kV from rfl,dK] at hv;cases h:a.tmps[d]?with
  |none=> rw[h] at hv;cases hv
  |some x=> rw[h] at hv;simp only[jL] at hv;rw[hv]
 have l:yielded ops a.tmps j=some b:=by
  unfold yielded;rw[show((ops[j]?).bind fun x=> x.dst)=some d from g];simp only[Option.bind_some,hs]
 unfold wpOp;rw[p];simp only;unfold eL;rw[n];simp only[l];by_cases e:b=y
 · rw[if_pos (by simp[e])]
   exact .inl (k e R fun _ _ h=> h)
 · rw[if_neg (by simpa using e)]
   exact q e
def Sp.holdsG:Sp->aS->aK×List Nat->Prop
 | .any,_,_=> True
 | .val u,v,_=> v=u
 | .tree M t,v,x=> InT x.1 (Mz M x.2) t v
 | .row M ts,v,x=> ∃A c,v= .slice A ts.length c/\ts.length<=c/\c<=maxLen/\InK x.1 (Mz M x.2) A ts
 | .two M t c,v,x=> ∃u,v= .tuple #[u,c]/\InT x.1 (Mz M x.2) t u
 | .box W,v,x=> ∃g,v= .pointer (some ⟨g,0,none⟩)/\g∈x.2/\EB W x.1 g
theorem Sp.extG: ∀{s:Sp} {v:aS} {x y:aK×List Nat},s.holdsG v x->EG x y->s.holdsG v y
 | .any,_,_,_,_,_=> trivial
 | .val u,_,_,_,h,_=> h
 | .tree M t,_,_,_,h,e=> InT.laterG h e
 | .row M ts,_,_,_,h,e=> by
  obtain⟨A,c,a,b,d,i⟩:=h;exact⟨A,c,a,b,d,InK.laterG i e⟩
 | .two M t c,_,_,_,h,e=> by
  obtain⟨u,a,b⟩:=h;exact⟨u,a,InT.laterG b e⟩
 | .box W,_,_,_,h,e=> by
  obtain⟨g,a,f,b,d⟩:=h;exact⟨g,a,e.2.1 g f,b,e.1.blk d⟩
def rd(l:List Sp)(i:Nat)(v:aS)(x:aK×List Nat):Prop:=(l.getD i .any).holdsG v x
theorem ox(l:List Sp): ∀i v x y,rd l i v x->EG x y->rd l i v y:=fun i v x y h e=> Sp.extG h e
theorem Wo{P:eP}{ops:Array Oper}{Q:Exit->Act->aK->Prop}{S:aK->Prop}{l0:Array Bool}{a0:Act}{fuel:Nat}{W:aK}(m N:Nat)(c:Array Bool)(e:Nat)(l:List Sp)(is:List Nat)(hS: ∀w,Ext W w->S w)(hc:(((iO m).filter (fun j=> !Ord.isOn l0 j)==is)&& Ord.okX ops l0 m N m && fuel==Ord.opnO l0 ops.size && Ord.doneO l0 m==c && Ord.opnO c ops.size==e)=true)(hN:a0.tmps.size=N)
 (b:Ord.StL P ops Q l0 m EG (rd l) a0 (W, []) is)
 (fin: ∀(v:Nat->aS) w z,EG (W, []) (w,z)->(∀j,j < m->Ord.isOn l0 j=false->rd l j (v j) (w,z))->jR P .any ops Q S e c (is.foldl (fun a j=> a.put (Ord.dstOf ops j) (v j)) a0) w):
 jR P .any ops Q S fuel l0 a0 W:=by
 simp only[aW,beq_iff_eq] at hc;obtain⟨⟨⟨⟨d,f⟩,i⟩,n⟩,g⟩:=hc;exact Ord.wpAnyH_orderX (w0:=(W, [])) d f hN i n g (fun h=> absurd h (Nat.lt_irrefl _)) (EG.start _) (fun _ _ _ h o=> h.trans o) (ox _) (fun w z h=> hS w h.1) b (fun v w z h k=> by rw[Ord.putN_l is d];exact fin v w z h k)
theorem Wi{P:eP}{ops:Array Oper}{Q:Exit->Act->aK->Prop}{S:aK->Prop}{l0:Array Bool}{a0:Act}{fuel:Nat}{f:Oper}{W:aK}(m N x:Nat)(e:Array Bool)(i:Nat)(l:List Sp)(is:List Nat)(hS: ∀w,Ext W w->S w)(hc:(((iO m).filter (fun j=> !Ord.isOn l0 j)==is)&& Ord.okX ops l0 m N x && fuel==Ord.opnO l0 ops.size && Ord.doneO l0 m==e && Ord.opnO e ops.size==i && !Ord.isOn l0 x && Region.noSelect ops && Region.free .any ops (e.setIfInBounds x false) x &&(jQ .any ops (e.setIfInBounds x false)).contains x)=true)(hN:a0.tmps.size=N)
 (F:ops[x]? =some f) (s: ∀v c a w,Q (.panic c) (a.put f.dst v) w->Q (.panic c) a w)
 (y: ∀a w z,EG (W, []) (w,z)->(∀t,Ord.isDst ops l0 m t=false->a.eval (.tmp t)=a0.eval (.tmp t))->(∀j d,Ord.depO ops l0 x j d=true->rd l j (a.eval (.tmp d)) (w,z))-> ∃u,YieldsIf P ops S f u a/\rd l x u (w,z))
 (b:Ord.StL P ops Q l0 m EG (rd l) a0 (W, []) is)
 (fin: ∀(v:Nat->aS) w z,EG (W, []) (w,z)->(∀j,j < m->Ord.isOn l0 j=false->rd l j (v j) (w,z))->jR P .any ops Q S i e (is.foldl (fun a j=> a.put (Ord.dstOf ops j) (v j)) a0) w):
 jR P .any ops Q S fuel l0 a0 W:=by
 simp only[aW,beq_iff_eq,gN] at hc;obtain⟨⟨⟨⟨⟨⟨⟨⟨g,n⟩,A⟩,B⟩,p⟩,C⟩,q⟩,o⟩,r⟩:=hc;exact Ord.wpAnyH_orderX (w0:=(W, [])) g n hN A B p (fun _=>⟨f,F,C,q,o,r,s,y⟩) (EG.start _) (fun _ _ _ h D=> h.trans D) (ox _) (fun w z h=> hS w h.1) b (fun v w z h k=> by rw[Ord.putN_l is g];exact fin v w z h k)
theorem EG.ext{W w:aK}{z:List Nat}(h:EG (W, []) (w,z)):Ext W w:=h.1
theorem InT.oldG'{M:Nat->Prop}{W w:aK}{z:List Nat}{t:Tr}{v:aS}(h:InT W M t v)(e:EG (W, []) (w,z)):InT w (Mz M z) t v:=
 InT.laterG (x:=(W, [])) (y:=(w,z)) (InT.mono (fun b a=>⟨a,fun h=> by cases h⟩) (fun _ _=> rfl) h) e
theorem InK.oldG'{M:Nat->Prop}{W w:aK}{z:List Nat}{A:Option Addr}{a:List Tr}(h:InK W M A a)(e:EG (W, []) (w,z)):InK w (Mz M z) A a:=
 InK.laterG (x:=(W, [])) (y:=(w,z)) (InK.mono (fun b c=>⟨c,fun h=> by cases h⟩) (fun _ _=> rfl) h) e
theorem Ei{l:List Sp}{j t:Nat}{a:Act}{u:aS}{x:aK×List Nat}(h:rd l j (a.eval (.tmp t)) x)(e:l.getD j .any= .val u):a.tmps[t]?.getD kV=u:=by
 unfold rd at h;rw[e] at h;exact S4 h
theorem Re{M:Nat->Prop}{W w:aK}{z:List Nat}(hN: ∀b,W.heap.size<=b->M b)(h:EG (W, []) (w,z)): ∀b,w.heap.size<=b->Mz M z b:=EG.news h fun b a=> hN b (Nat.le_trans h.1.size a)
theorem Off.new3{W w:aK}{g:Nat}{j f i:aS}{e:TypeId}(X:Ext W w)(d:W.heap.size<=g)(h:w.heap[g]? =some (.cells #[j,f,i] e (0,0)))(c a b:aS):
 Ext W (((w.setCell ⟨g,0,none⟩ c).setCell ⟨g,1,none⟩ a).setCell ⟨g,2,none⟩ b)/\(((w.setCell ⟨g,0,none⟩ c).setCell ⟨g,1,none⟩ a).setCell ⟨g,2,none⟩ b).heap[g]? =some (.cells #[c,a,b] e (0,0)):=
 ⟨X.set3 d _ _ _,M6 (M6 (M6 h 0 c) 1 a) 2 b⟩
theorem Xf{w a:aK}{g r:Nat}{o:Obj}(X:Ext w a)(b:a.heap.size<=g)(h:w.heap[r]? =some o):g≠r:=by
 have:=X.size;have:=O1 h;omega
end Go.Proofs.YtckhbnmfnpolgaaGreat
namespace Go.Proofs.YtckhbnmfnpolgaaGreat
open Go.RowKit
def PI(b c a B:Nat)(x g d:Int)(i:Option Addr)(e f:Nat)(w:aK)(s:Bool):Prop:=(b < B/\c < B/\a < B)/\w.heap[b]? =some (.cells #[.int .i64 x] 3 (0,0))/\w.heap[c]? =some (.cells #[.int .i64 g,.int .i64 d,.slice i e f] 25 (0,0))/\w.heap[a]? =some (.cells #[.bool s] 4 (0,0))
theorem xu(a:aK)(I Y d B:Nat)(x f g:Int)(Au:Option Addr)(c:List Tr)(cu:Nat)(I5:Lies a (.mk f g c) (.agg #[.int .i64 f,.int .i64 g,.slice Au c.length cu]))(ir:j0 m0 (.mk f g c)=true)(J:I≠d)(S:Y≠d)(hx0:0<=x)(hx1:x<=1000):
 Lj a I Y d [d] (PI I Y d B x f g Au c.length cu) (Vk (.mk f g c) x) (Sf (.mk f g c) x):=by
 intro w s n b ha hI M4 P4 D Z;obtain⟨M,k,t,z⟩:=hI;have c1:=i1 k 0;obtain⟨y0,y1,y2,-,-,-⟩:=own3 t;have c3:=i1 z 0;have l1:=O1 k;have l2:=O1 t;have l3:=O1 z;have F:=hdq k;have R:=hdq t;have T:=hdq z;have U:=hdq (fun m W=> nD m W);have A:=hdq (fun W (hW:Ext w W)=> oD (.mk f g c) b 0 W _ (I5.ext (ha.trans hW)) ir D Z (by omega) (by omega));have hg:Vk (.mk f g c) x n b=if n - b=x then okT (shfT b (.mk f g c) 0) else .mk 1 (if x < n - b then n - 1 else n) []:=rfl
 have hh:Sf (.mk f g c) x n b=if n - b=x then j0 m0 (shfT b (.mk f g c) 0) else true:=rfl
 rw[hg,hh];clear hg hh;by_cases h:n - b=x
 · rw[if_pos h,if_pos h]
   have d1:(n - b==x)=true:=beq_iff_eq.2 h;clear h U;generalize j0 m0 (shfT b (.mk f g c) 0)=vb at A⊢;generalize okT (shfT b (.mk f g c) 0)=rt at A⊢;clear k t z;have hx:=(xr w).alloc (.cells #[.int .i64 0,.int .i64 0,.slice none 0 0] 25);have E1:=aR w (.cells #[.int .i64 0,.int .i64 0,.slice none 0 0] 25);go_enter func158,ntmps158;go_wp2_with fail;refine(A.out _ hx).mono ?_;rintro e w1 ⟨u,rfl,hM,i⟩;obtain⟨X,N,O,V,K,rfl⟩:=hM.three';have C:=(hx.trans i).blk T.out;have g3:=i1 C 0;have f3:=Ob C 0;have g4:=O1 C;have qR:=i.blk E1;obtain⟨o,l,q,f0,f1,f2⟩:=own3 qR;have gR:=O1 qR;clear c1 c3 y0 y1 y2 A;cases s <;> cases vb
   all_goals go_wp2_with fail
   all_goals(
    have o2:=fun r=>(((((oE (L:= [d]) (hx.trans i)).setCell (p:=⟨d,0,none⟩) (by simp) r).setNew (p:=⟨w.heap.size,0,none⟩) (aM _) (.int .i64 X)).setNew (p:=⟨w.heap.size,1,none⟩) (aM _) (.int .i64 N)).setNew (p:=⟨w.heap.size,2,none⟩) (aM _) (.slice O V K)).alloc (.cells #[.int .i64 X,.int .i64 N,.slice O V K] 25)
    have hz:(w.alloc (.cells #[.int .i64 0,.int .i64 0,.slice none 0 0] 25)).heap.size=w.heap.size+1:=by simp
    refine aO (v:= .agg #[.int .i64 X,.int .i64 N,.slice O V K]) (by simp[aQ,results158,go_sem,o,l,q,gR]) rfl ⟨_,rfl, ?_,o2 _,M,(o2 _).blk F.out (by simpa using J),(o2 _).blk R.out (by simpa using S), ?_⟩
    · exact((hM.after ((((pa.refl _ _).setCell (p:=⟨d,0,none⟩) (by show d < _;omega) _).setCell (p:=⟨w.heap.size,0,none⟩) (by show w.heap.size < _;omega) _).setCell (p:=⟨w.heap.size,1,none⟩) (by show w.heap.size < _;omega) _|>.setCell (p:=⟨w.heap.size,2,none⟩) (by show w.heap.size < _;omega) _)).ext ((xr _).alloc _)).since (by omega)
    · rw[Below.heap_alloc _ _ _ (by simp;omega),aL _ _ _ _ (by show d≠w.heap.size;omega),aL _ _ _ _ (by show d≠w.heap.size;omega),aL _ _ _ _ (by show d≠w.heap.size;omega),M6 C 0 _]
      rfl)
 · rw[if_neg h,if_neg h,Bool.and_true]
   have d1:(n - b==x)=false:=beq_eq_false_iff_ne.2 h;clear A h k t z;by_cases j:x < n - b
   · rw[if_pos j]
     have d2:decide (x < n - b)=true:=decide_eq_true j;clear j;go_enter func158,ntmps158;go_wp2_with fail;refine(U.out _ _).mono ?_;rintro e w1 ⟨rfl,i⟩;have y:=i.newBlk;obtain⟨o,l,q,f0,f1,f2⟩:=own3 y;have o2:=((X0.refl [d] w).alloc (.cells #[.int .i64 0,.int .i64 0,.slice none 0 0] 25)).trans (oE i);have H:=(Ext.blk i.pre T.out);clear y;go_wp2_with fail;refine aO (v:= .agg #[.int .i64 1,.int .i64 (n - 1),.slice none 0 0]) (by simp[aQ,results158,go_sem,o,l,q]) rfl ⟨_,rfl,P0.leaf _ _ _ _ _, ?_,M, ?_, ?_, ?_⟩
     · exact(((o2.setNew (by simp) _).setNew (by simp) _).setNew (by simp) _)
     · exact(((o2.setNew (by simp) _).setNew (by simp) _).setNew (by simp) _).blk F.out (by simpa using J)
     · exact(((o2.setNew (by simp) _).setNew (by simp) _).setNew (by simp) _).blk R.out (by simpa using S)
     · rw[aL _ _ _ _ (by show d≠w.heap.size;omega),aL _ _ _ _ (by show d≠w.heap.size;omega),aL _ _ _ _ (by show d≠w.heap.size;omega),H]
   · rw[if_neg j]
     have d2:decide (x < n - b)=false:=decide_eq_false j;clear j;go_enter func158,ntmps158;go_wp2_with fail;refine(U.out _ _).mono ?_;rintro e w1 ⟨rfl,i⟩;have y:=i.newBlk;obtain⟨o,l,q,f0,f1,f2⟩:=own3 y;have o2:=((X0.refl [d] w).alloc (.cells #[.int .i64 0,.int .i64 0,.slice none 0 0] 25)).trans (oE i);have H:=(Ext.blk i.pre T.out);clear y;go_wp2_with fail;refine aO (v:= .agg #[.int .i64 1,.int .i64 n,.slice none 0 0]) (by simp[aQ,results158,go_sem,o,l,q]) rfl ⟨_,rfl,P0.leaf _ _ _ _ _, ?_,M, ?_, ?_, ?_⟩
     · exact(((o2.setNew (by simp) _).setNew (by simp) _).setNew (by simp) _)
     · exact(((o2.setNew (by simp) _).setNew (by simp) _).setNew (by simp) _).blk F.out (by simpa using J)
     · exact(((o2.setNew (by simp) _).setNew (by simp) _).setNew (by simp) _).blk R.out (by simpa using S)
     · rw[aL _ _ _ _ (by show d≠w.heap.size;omega),aL _ _ _ _ (by show d≠w.heap.size;omega),aL _ _ _ _ (by show d≠w.heap.size;omega),H]
theorem oA(t:Tr)(x:Int)(u:Tr)(w:aK)(v vu:aS)(b8:Lies w t v)(hv:j0 m0 t=true)(I5:Lies w u vu)(Z:j0 m0 u=true)(hx0:0<=x)(hx1:x<=1000):
 Calls prog 119 #[v,.int .i64 x,vu] w fun e w'=> ∃r,e= .returned (.tuple #[r,.bool (j0 m0 (Q0 u t x 0))])/\P0 w w' 25 (okT (Q0 u t x 0)) r/\Ext w w':=by
 obtain⟨hs,C7⟩:=Z3 hv;obtain⟨g,J⟩:=fG (x:=x) (Z3 Z).2 hv;obtain⟨vb,Y⟩: ∃vb,vb=j0 m0 (Q0 u t x 0):=⟨_,rfl⟩;obtain⟨L,j⟩: ∃L,L=okT (Q0 u t x 0):=⟨_,rfl⟩;rw[<-Y,<-j];have K:C8 (Sf u x) t 0=true->L=okT (a9 (Vk u x) t 0):=fun h=> by rw[J h];exact j
 have sw:vb=false->L=E2:=fun h=> by rw[j];unfold okT;rw[<-Y,h];rfl
 have lr:=(Z3 Z).2;obtain⟨c,d,a⟩:=u;obtain⟨z,p,rfl,Et,wn,-⟩:=Lies.mk_iff.1 I5;have rr:=fun W (hW:Ext w W) D I i (hp:w.heap.size<=i) (G6:D≠i) (mb:I≠i) (h1:W.heap[D]? =some (.cells #[.int .i64 x] 3 (0,0))) (h2:W.heap[I]? =some (.cells #[.int .i64 c,.int .i64 d,.slice z a.length p] 25 (0,0))) (h3:W.heap[i]? =some (.cells #[.bool true] 4 (0,0)))=>
  iG t w W v 0 30 D I i [i] W.heap.size (PI D I i W.heap.size x c d z a.length p) (Vk (.mk c d a) x) (Sf (.mk c d a) x) true hs b8 hW (fun x hx=> by rw[List.mem_singleton.1 hx];exact⟨hp,O1 h3⟩) (by omega) (by omega)
   (xu w D I i _ x c d z a p I5 Z G6 mb hx0 hx1) (fun M w2 s h q=>⟨h.1,q.blk h.2.1,q.blk h.2.2.1,q.blk h.2.2.2⟩) (aM _) (fun M w2 s h q hl=>⟨h.1,(q D h.1.1).trans h.2.1,(q I h.1.2.1).trans h.2.2.1,(q i h.1.2.2).trans h.2.2.2⟩) ⟨⟨O1 h1,O1 h2,O1 h3⟩,h1,h2,h3⟩
 simp only[bQ] at rr;rw[<-Y] at g;have ol:=hdq rr;clear rr J hs j Y;generalize a9 (Vk (.mk c d a) x) t 0=r at g ol K;generalize C8 (Sf (.mk c d a) x) t 0=f at g ol K;obtain⟨k,n,R⟩:=t;obtain⟨A,cap,rfl,hl,hc,hK⟩:=Lies.mk_iff.1 b8;have hE:=((((xr w).alloc (.cells #[.int .i64 k,.int .i64 n,.slice A R.length cap] 25)).alloc (.cells #[.int .i64 x] 3)).alloc (.cells #[.int .i64 c,.int .i64 d,.slice z a.length p] 25)).alloc (.cells #[.int .i64 0,.int .i64 0,.slice none 0 0] 25);have np:=jn ((xr ((((w.alloc (.cells #[.int .i64 k,.int .i64 n,.slice A R.length cap] 25)).alloc (.cells #[.int .i64 x] 3)).alloc (.cells #[.int .i64 c,.int .i64 d,.slice z a.length p] 25)).alloc (.cells #[.int .i64 0,.int .i64 0,.slice none 0 0] 25))).alloc (.cells #[.bool true] 4));have S:=aR ((((w.alloc (.cells #[.int .i64 k,.int .i64 n,.slice A R.length cap] 25)).alloc (.cells #[.int .i64 x] 3)).alloc (.cells #[.int .i64 c,.int .i64 d,.slice z a.length p] 25)).alloc (.cells #[.int .i64 0,.int .i64 0,.slice none 0 0] 25)) (.cells #[.bool true] 4);have U4:=hE.alloc (.cells #[.bool true] 4);have hsz:(((((w.alloc (.cells #[.int .i64 k,.int .i64 n,.slice A R.length cap] 25)).alloc (.cells #[.int .i64 x] 3)).alloc (.cells #[.int .i64 c,.int .i64 d,.slice z a.length p] 25)).alloc (.cells #[.int .i64 0,.int .i64 0,.slice none 0 0] 25)).alloc (.cells #[.bool true] 4)).heap.size=w.heap.size+1+1+1+1+1:=by simp
 obtain⟨N,y,o,l,-⟩:=np;simp only[World.size_alloc] at S;go_enter func119,ntmps119;go_wp2_with fail;generalize World.alloc _ _=wa at U4 N y o l S hsz;clear hE;refine(ol.out wa U4 _ _ _ (by omega) (by omega) (by omega) y o S).mono ?_;rintro e M ⟨u,rfl,hM,ho,hI⟩;obtain⟨B,C,F⟩:=r;obtain⟨X,V,rfl,hl2,hc2,Kn⟩:=P0.mk_iff.1 hM;have U:=ho.blk l (by simp);have i3:=hI.2.2.2;have hc5:=i1 i3 0;have Gx:=O1 i3;have V6:=O1 U;have Iz:=ho.size;have uw:Ext w M:=ho.ext U4 (fun x hx=> by rw[List.mem_singleton.1 hx];omega);obtain⟨s0,s1,s2,f0,f1,f2⟩:=own3 U;clear ol N y o l S hI i3;have hx:=(xr M).alloc (.cells #[.int .i64 B,.int .i64 C,.slice X F.length V] 25);cases f with
 |false=>
  rw[Bool.false_and] at g;have O:=hdq g.symm;have T:=hdq (sw g.symm);clear g K sw;go_wp2_with fail;refine aO (v:= .tuple #[.agg #[.int .i64 0,.int .i64 0,.slice none 0 0],.bool false]) (by simp[aQ,results119,go_sem,s0,s1,s2,V6]) rfl ⟨.agg #[.int .i64 0,.int .i64 0,.slice none 0 0],by rw[O.out],by rw[T.out];exact P0.leaf _ _ _ _ _, ?_⟩;exact(((uw.setCell (by simp;omega) _).setCell (by simp;omega) _).setCell (by simp;omega) _).alloc _
 |true=>
  rw[bQ] at g;have HV:=hdq (fun W (hW:Ext M W)=> Pt B C F X V W (hM.lies.ext hW));generalize ce:j0 m0 (.mk B C F)=b at HV;have hO:L=if b=true then .mk B C F else E2:=by rw[K rfl];unfold okT;rw[ce]
  rw[ce] at g;have O:=hdq g.symm;have T:=hdq hO;clear hO g ce K sw;go_wp2_with fail;refine(HV.out _ hx).mono ?_;cases b with
  |true=>
   simp only[if_true];rintro e w2 ⟨rfl,H⟩;obtain⟨q0,q1,q2,g0,g1,g2⟩:=own3 ((hx.trans H).blk U);go_wp2_with fail;refine aO (v:= .tuple #[.agg #[.int .i64 B,.int .i64 C,.slice X F.length V],.bool true]) (by simp[aQ,results119,go_sem,q0,q1,q2]) rfl ⟨.agg #[.int .i64 B,.int .i64 C,.slice X F.length V],by rw[O.out], ?_, ?_⟩
   · rw[T.out]
     simp only[if_true];exact P0.since (((hM.ext (hx.trans H)).after ((((pa.refl _ _).setCell (by simp;omega) _).setCell (by simp;omega) _).setCell (by simp;omega) _))) (by omega)
   · exact(((((uw.trans hx).trans H).setCell (by simp;omega) _).setCell (by simp;omega) _).setCell (by simp;omega) _)
  |false=>
   simp only[Bool.false_eq_true,if_false];rintro e w2 ⟨rfl,H⟩;obtain⟨q0,q1,q2,g0,g1,g2⟩:=own3 ((hx.trans H).blk U);go_wp2_with fail;refine aO (v:= .tuple #[.agg #[.int .i64 0,.int .i64 0,.slice none 0 0],.bool false]) (by simp[aQ,results119,go_sem,q0,q1,q2]) rfl ⟨.agg #[.int .i64 0,.int .i64 0,.slice none 0 0],by rw[O.out],by rw[T.out];exact P0.leaf _ _ _ _ _, ?_⟩;exact(((((uw.trans hx).trans H).setCell (by simp;omega) _).setCell (by simp;omega) _).setCell (by simp;omega) _)
