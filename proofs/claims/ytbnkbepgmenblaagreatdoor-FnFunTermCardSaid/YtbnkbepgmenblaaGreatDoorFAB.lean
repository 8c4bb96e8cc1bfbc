/-
  Lemmas towards the law, 2: MTy, MGood.
-/
import Derived.Test.YtbnkbepgmenblaaGreatDoorFAA
set_option linter.unusedVariables false
namespace Go.Proofs.YtbnkbepgmenblaaGreatDoor.M
open Tm
def lk(G:List Tm)(n:Nat):Option Tm:=(G[n]?).map fun A=> A.ren (fun i=> i+(n+1))
def stepTy(p:Tm):Tm:= .pi .nat (.pi (.app (wk p) (.var 0)) (.app (p.ren (fun i=> i+2)) (.succ (.var 1))))
inductive Ty:List Tm->Tm->Tm->Prop where
 |var {G n A}:lk G n=some A->Ty G (.var n) A
 |sort {G n}:Ty G (.sort n) (.sort (n+1))
 |nat {G}:Ty G .nat (.sort 0)
 |zero {G}:Ty G .zero .nat
 |succ {G a A}:Ty G a A->Cv A .nat->Ty G (.succ a) .nat
 |pi {G A B S S' i k}:Ty G A S->HR S (.sort i)->Ty (A::G) B S'->HR S' (.sort k)->Ty G (.pi A B) (.sort (max i k))
 |sg {G A B S S' i k}:Ty G A S->HR S (.sort i)->Ty (A::G) B S'->HR S' (.sort k)->Ty G (.sg A B) (.sort (max i k))
 |lam {G A t B S i}:Ty G A S->HR S (.sort i)->Ty (A::G) t B->Ty G (.lam A t) (.pi A B)
 |app {G f a F A C R}:Ty G f F->HR F (.pi C R)->Ty G a A->Cv A C->Ty G (.app f a) (R.inst a)
 |elim {G p z s a F Z S A C D k}:Ty G p F->HR F (.pi C D)->Cv C .nat->HR D (.sort k)->Ty G z Z->Cv Z (.app p .zero)->Ty G s S->Cv S (stepTy p)->Ty G a A->Cv A .nat->Ty G (.elim p z s a) (.app p a)
 |id {G T a b S A B i}:Ty G T S->HR S (.sort i)->Ty G a A->Cv A T->Ty G b B->Cv B T->Ty G (.id T a b) (.sort i)
 |refl {G a A}:Ty G a A->Ty G (.refl a) (.id A a a)
 |move {G p e a E T B C F T' D k A}:Ty G e E->HR E (.id T B C)->Ty G p F->HR F (.pi T' D)->Cv T' T->HR D (.sort k)->Ty G a A->Cv A (.app p B)->Ty G (.move p e a) (.app p C)
 |pair {G T a b S i C D A B}:Ty G T S->HR S (.sort i)->HR T (.sg C D)->Ty G a A->Cv A C->Ty G b B->Cv B (D.inst a)->Ty G (.pair T a b) T
 |fst {G a A C D}:Ty G a A->HR A (.sg C D)->Ty G (.fst a) C
 |snd {G a A C D}:Ty G a A->HR A (.sg C D)->Ty G (.snd a) (D.inst (.fst a))
theorem HR.pi_det{T C R C' R':Tm}(h:HR T (.pi C R))(k:HR T (.pi C' R')):C=C'/\R=R':=by
 have:=h.det k (by simp[hk]) (by simp[hk])
 simpa using this
theorem HR.sg_det{T C R C' R':Tm}(h:HR T (.sg C R))(k:HR T (.sg C' R')):C=C'/\R=R':=by
 have:=h.det k (by simp[hk]) (by simp[hk])
 simpa using this
theorem HR.id_det{T X a b X' a' b':Tm}(h:HR T (.id X a b))(k:HR T (.id X' a' b')):X=X'/\a=a'/\b=b':=by
 have:=h.det k (by simp[hk]) (by simp[hk])
 simpa using this
theorem HR.sort_det{T:Tm}{i j:Nat}(h:HR T (.sort i))(k:HR T (.sort j)):i=j:=by
 have:=h.det k (by simp[hk]) (by simp[hk])
 simpa using this
theorem Ty.det{G:List Tm}{t A:Tm}(h:Ty G t A): ∀{B:Tm},Ty G t B->A=B:=by
 induction h with
 |var h=> intro B k;cases k with|var k=> rw[h] at k;exact Option.some.inj k
 |sort=> intro B k;cases k;rfl
 |nat=> intro B k;cases k;rfl
 |zero=> intro B k;cases k;rfl
 |succ=> intro B k;cases k;rfl
 |pi h1 h2 h3 h4 i1 i2=>
  intro B k;cases k with
  |pi k1 k2 k3 k4=>
   obtain rfl:=i1 k1;obtain rfl:=i2 k3;rw[h2.sort_det k2,h4.sort_det k4]
 |sg h1 h2 h3 h4 i1 i2=>
  intro B k;cases k with
  |sg k1 k2 k3 k4=>
   obtain rfl:=i1 k1;obtain rfl:=i2 k3;rw[h2.sort_det k2,h4.sort_det k4]
 |lam h1 h2 h3 i1 i2=>
  intro B k;cases k with
  |lam k1 k2 k3=> rw[i2 k3]
 |app h1 h2 h3 h4 i1 i2=>
  intro B k;cases k with
  |app k1 k2 k3 k4=>
   obtain rfl:=i1 k1;obtain⟨-,rfl⟩:=h2.pi_det k2
   rfl
 |elim=> intro B k;cases k;rfl
 |id h1 h2 h3 h4 h5 h6 i1 i2 i3=>
  intro B k;cases k with
  |id k1 k2=>
   obtain rfl:=i1 k1;rw[h2.sort_det k2]
 |refl h i=> intro B k;cases k with|refl k=> rw[i k]
 |move h1 h2 h3 h4 h5 h6 h7 h8 i1 i2 i3=>
  intro B k;cases k with
  |move k1 k2=>
   obtain rfl:=i1 k1;obtain⟨-,-,rfl⟩:=h2.id_det k2
   rfl
 |pair=> intro B k;cases k;rfl
 |fst h1 h2 i1=>
  intro B k;cases k with
  |fst k1 k2=>
   obtain rfl:=i1 k1;exact(h2.sg_det k2).1
 |snd h1 h2 i1=>
  intro B k;cases k with
  |snd k1 k2=>
   obtain rfl:=i1 k1;rw[(h2.sg_det k2).2]
def j48(G D:List Tm)(r:Nat->Nat):Prop:= ∀n A,lk G n=some A->lk D (r n)=some (A.ren r)
theorem y53(A:Tm)(G:List Tm):lk (A::G) 0=some (wk A):=rfl
theorem y55(A:Tm)(G:List Tm)(n:Nat):lk (A::G) (n+1)=(lk G n).map wk:=by
 unfold lk;rw[List.getElem?_cons_succ,Option.map_map]
 congr 1
 funext B
 show _=(B.ren _).ren _
 rw[ren_ren]
 rfl
theorem j48.up{G D:List Tm}{r:Nat->Nat}(h:j48 G D r)(A:Tm):j48 (A::G) (A.ren r::D) (upr r):=by
 intro n B hB;cases n with
 |zero=>
  rw[y53] at hB;obtain rfl:=Option.some.inj hB
  show lk (A.ren r::D) 0=_
  rw[y53,j188]
 |succ n=>
  rw[y55] at hB;obtain⟨X,h1,rfl⟩:=Option.map_eq_some_iff.1 hB
  show lk (A.ren r::D) (r n+1)=_
  rw[y55,h n X h1,j188]
  rfl
theorem j48.wk(A:Tm)(G:List Tm):j48 G (A::G) Nat.succ:=by
 intro n B hB
 show lk (A::G) (n+1)=_
 rw[y55,hB]
 rfl
theorem y154(p:Tm)(r:Nat->Nat):(stepTy p).ren r=stepTy (p.ren r):=by
 unfold stepTy;simp only[Tm.ren,upr];rw[j188,ren_ren,ren_ren]
 rfl
theorem Ty.ren{G:List Tm}{t A:Tm}(h:Ty G t A): ∀{D:List Tm} {r:Nat->Nat},j48 G D r->Ty D (t.ren r) (A.ren r):=by
 induction h with
 |var h=> intro D r hr;exact .var (hr _ _ h)
 |sort=> intro D r hr;exact .sort
 |nat=> intro D r hr;exact .nat
 |zero=> intro D r hr;exact .zero
 |succ h1 h2 i1=> intro D r hr;exact .succ (i1 hr) (h2.ren r)
 |pi h1 h2 h3 h4 i1 i2=> intro D r hr;exact .pi (i1 hr) (h2.ren r) (i2 (hr.up _)) (h4.ren (upr r))
 |sg h1 h2 h3 h4 i1 i2=> intro D r hr;exact .sg (i1 hr) (h2.ren r) (i2 (hr.up _)) (h4.ren (upr r))
 |lam h1 h2 h3 i1 i2=> intro D r hr;exact .lam (i1 hr) (h2.ren r) (i2 (hr.up _))
 |app h1 h2 h3 h4 i1 i2=> intro D r hr;rw[j88];exact .app (i1 hr) (h2.ren r) (i2 hr) (h4.ren r)
 |elim h1 h2 h3 h4 h5 h6 h7 h8 h9 h10 i1 i2 i3 i4=>
  intro D r hr;exact .elim (i1 hr) (h2.ren r) (h3.ren r) (h4.ren (upr r)) (i2 hr) (h6.ren r) (i3 hr) (by rw[<-y154];exact h8.ren r) (i4 hr) (h10.ren r)
 |id h1 h2 h3 h4 h5 h6 i1 i2 i3=> intro D r hr;exact .id (i1 hr) (h2.ren r) (i2 hr) (h4.ren r) (i3 hr) (h6.ren r)
 |refl h i=> intro D r hr;exact .refl (i hr)
 |move h1 h2 h3 h4 h5 h6 h7 h8 i1 i2 i3=> intro D r hr;exact .move (i1 hr) (h2.ren r) (i2 hr) (h4.ren r) (h5.ren r) (h6.ren (upr r)) (i3 hr) (h8.ren r)
 |pair h1 h2 h3 h4 h5 h6 h7 i1 i2 i3=> intro D r hr;exact .pair (i1 hr) (h2.ren r) (h3.ren r) (i2 hr) (h5.ren r) (i3 hr) (by rw[<-j88];exact h7.ren r)
 |fst h1 h2 i1=> intro D r hr;exact .fst (i1 hr) (h2.ren r)
 |snd h1 h2 i1=> intro D r hr;rw[j88];exact .snd (i1 hr) (h2.ren r)
theorem Ty.wk{G:List Tm}{t A:Tm}(h:Ty G t A)(X:Tm):Ty (X::G) (Tm.wk t) (Tm.wk A):=h.ren (j48.wk X G)
def q26(G D:List Tm)(s:Nat->Tm):Prop:= ∀n A,lk G n=some A-> ∃X,Ty D (s n) X/\Cv X (A.sub s)
theorem q26.up{G D:List Tm}{s:Nat->Tm}(h:q26 G D s)(A:Tm):q26 (A::G) (A.sub s::D) (ups s):=by
 intro n B hB;cases n with
 |zero=>
  rw[y53] at hB;obtain rfl:=Option.some.inj hB;exact⟨_,.var (y53 _ _),by rw[q139];exact Cv.rfl' _⟩
 |succ n=>
  rw[y55] at hB;obtain⟨X,h1,rfl⟩:=Option.map_eq_some_iff.1 hB;obtain⟨Y,h2,h3⟩:=h n X h1;exact⟨_,h2.wk _,by rw[q139];exact h3.ren _⟩
theorem q26.cns{G D:List Tm}{s:Nat->Tm}(h:q26 G D s){A u X:Tm}(hu:Ty D u X)(hX:Cv X (A.sub s)):q26 (A::G) D (Tm.cns u s):=by
 intro n B hB;cases n with
 |zero=>
  rw[y53] at hB;obtain rfl:=Option.some.inj hB;exact⟨X,hu,by rw[y75];exact hX⟩
 |succ n=>
  rw[y55] at hB;obtain⟨Y,h1,rfl⟩:=Option.map_eq_some_iff.1 hB;obtain⟨Z,h2,h3⟩:=h n Y h1;exact⟨Z,h2,by rw[y75];exact h3⟩
theorem q26.var(G:List Tm):q26 G G Tm.var:=by
 intro n A h;exact⟨A,.var h,by rw[y17];exact Cv.rfl' _⟩
theorem j105(p:Tm)(s:Nat->Tm):(stepTy p).sub s=stepTy (p.sub s):=by
 unfold stepTy;simp only[Tm.sub,ups];rw[q139,q81,j134]
 congr 3
 · congr 1
   funext n
   exact ren_ren _ _ _
theorem Cv.stepTy{p q:Tm}(h:Cv p q):Cv (Go.Proofs.YtbnkbepgmenblaaGreatDoor.M.stepTy p) (Go.Proofs.YtbnkbepgmenblaaGreatDoor.M.stepTy q):=
 .pi (Cv.rfl' _) (.pi (.app (h.ren _) (Cv.rfl' _)) (.app (h.ren _) (Cv.rfl' _)))
theorem Ty.sub{G:List Tm}{t A:Tm}(h:Ty G t A): ∀{D:List Tm} {s:Nat->Tm},q26 G D s-> ∃A',Ty D (t.sub s) A'/\Cv A' (A.sub s):=by
 induction h with
 |var h=> intro D s hs;exact hs _ _ h
 |sort=> intro D s hs;exact⟨_,.sort,Cv.rfl' _⟩
 |nat=> intro D s hs;exact⟨_,.nat,Cv.rfl' _⟩
 |zero=> intro D s hs;exact⟨_,.zero,Cv.rfl' _⟩
 |succ h1 h2 i1=>
  intro D s hs;obtain⟨A',k1,k2⟩:=i1 hs;exact⟨_,.succ k1 (k2.trans (h2.sub s)),Cv.rfl' _⟩
 |pi h1 h2 h3 h4 i1 i2=>
  intro D s hs;obtain⟨A',k1,k2⟩:=i1 hs;obtain⟨B',l1,l2⟩:=i2 (hs.up _);exact⟨_,.pi k1 (k2.trans (h2.sub s).cv).to_sort l1 (l2.trans (h4.sub (ups s)).cv).to_sort,Cv.rfl' _⟩
 |sg h1 h2 h3 h4 i1 i2=>
  intro D s hs;obtain⟨A',k1,k2⟩:=i1 hs;obtain⟨B',l1,l2⟩:=i2 (hs.up _);exact⟨_,.sg k1 (k2.trans (h2.sub s).cv).to_sort l1 (l2.trans (h4.sub (ups s)).cv).to_sort,Cv.rfl' _⟩
 |lam h1 h2 h3 i1 i2=>
  intro D s hs;obtain⟨A',k1,k2⟩:=i1 hs;obtain⟨B',l1,l2⟩:=i2 (hs.up _);exact⟨_,.lam k1 (k2.trans (h2.sub s).cv).to_sort l1,.pi (Cv.rfl' _) l2⟩
 | @app G f a F A C R h1 h2 h3 h4 i1 i2=>
  intro D s hs;obtain⟨F',k1,k2⟩:=i1 hs;obtain⟨A',l1,l2⟩:=i2 hs;obtain⟨C',R',m1,m2,m3⟩:=(k2.trans (h2.sub s).cv).to_pi;exact⟨_,.app k1 m1 l1 ((l2.trans (h4.sub s)).trans m2.symm),by rw[y29];exact m3.inst (Cv.rfl' _)⟩
 | @elim G p z s a F Z S A C D k h1 h2 h3 h4 h5 h6 h7 h8 h9 h10 i1 i2 i3 i4=>
  intro D q hq;obtain⟨F',k1,k2⟩:=i1 hq;obtain⟨Z',l1,l2⟩:=i2 hq;obtain⟨S',m1,m2⟩:=i3 hq;obtain⟨A',n1,n2⟩:=i4 hq;obtain⟨C',D',o1,o2,o3⟩:=(k2.trans (h2.sub q).cv).to_pi;exact⟨_,.elim k1 o1 (o2.trans (h3.sub q)) (o3.trans (h4.sub (ups q)).cv).to_sort l1 (l2.trans (h6.sub q)) m1 (m2.trans (by rw[<-j105];exact h8.sub q)) n1 (n2.trans (h10.sub q)),Cv.rfl' _⟩
 |id h1 h2 h3 h4 h5 h6 i1 i2 i3=>
  intro D s hs;obtain⟨A',k1,k2⟩:=i1 hs;obtain⟨B',l1,l2⟩:=i2 hs;obtain⟨C',m1,m2⟩:=i3 hs;exact⟨_,.id k1 (k2.trans (h2.sub s).cv).to_sort l1 (l2.trans (h4.sub s)) m1 (m2.trans (h6.sub s)),Cv.rfl' _⟩
 |refl h i=>
  intro D s hs;obtain⟨A',k1,k2⟩:=i hs;exact⟨_,.refl k1,.id k2 (Cv.rfl' _) (Cv.rfl' _)⟩
 | @move G p e a E T B C F T' D k A h1 h2 h3 h4 h5 h6 h7 h8 i1 i2 i3=>
  intro D q hq;obtain⟨E',k1,k2⟩:=i1 hq;obtain⟨F',l1,l2⟩:=i2 hq;obtain⟨A',m1,m2⟩:=i3 hq;obtain⟨X,Y,Z,n1,n2,n3,n4⟩:=(k2.trans (h2.sub q).cv).to_id;obtain⟨C',D',o1,o2,o3⟩:=(l2.trans (h4.sub q).cv).to_pi;exact⟨_,.move k1 n1 l1 o1 ((o2.trans (h5.sub q)).trans n2.symm) (o3.trans (h6.sub (ups q)).cv).to_sort m1 ((m2.trans (h8.sub q)).trans (.app (Cv.rfl' _) n3.symm)),.app (Cv.rfl' _) n4⟩
 | @pair G T a b S i C D A B h1 h2 h3 h4 h5 h6 h7 i1 i2 i3=>
  intro X q hq;obtain⟨S',k1,k2⟩:=i1 hq;obtain⟨A',l1,l2⟩:=i2 hq;obtain⟨B',m1,m2⟩:=i3 hq;exact⟨_,.pair k1 (k2.trans (h2.sub q).cv).to_sort (h3.sub q) l1 (l2.trans (h5.sub q)) m1 (m2.trans (by have:=h7.sub q;rwa [y29] at this)),Cv.rfl' _⟩
 |fst h1 h2 i1=>
  intro D s hs;obtain⟨A',k1,k2⟩:=i1 hs;obtain⟨C',R',m1,m2,m3⟩:=(k2.trans (h2.sub s).cv).to_sg;exact⟨_,.fst k1 m1,m2⟩
 |snd h1 h2 i1=>
  intro D s hs;obtain⟨A',k1,k2⟩:=i1 hs;obtain⟨C',R',m1,m2,m3⟩:=(k2.trans (h2.sub s).cv).to_sg;exact⟨_,.snd k1 m1,by rw[y29];exact m3.inst (Cv.rfl' _)⟩
inductive Wn:Tm->Prop where
 |var (n):Wn (.var n)
 |app {f} (a):Wn f->Wn (.app f a)
 |elim {a} (p z s):Wn a->Wn (.elim p z s a)
 |move {e} (p a):Wn e->Wn (.move p e a)
 |fst {a}:Wn a->Wn (.fst a)
 |snd {a}:Wn a->Wn (.snd a)
def Ne(t:Tm):Prop:= ∃n,HR t n/\Wn n
theorem Wn.hk{t:Tm}(h:Wn t):Go.Proofs.YtbnkbepgmenblaaGreatDoor.M.hk t=0:=by cases h <;> rfl
theorem Wn.stuck{t u:Tm}(h:Wn t): ¬Hd t u:=by
 induction h generalizing u with
 |var n=> intro k;cases k
 |app a h ih=> intro k;cases k with
  |beta=> cases h
  |app _ k=> exact ih k
 |elim p z s h ih=> intro k;cases k with
  |ez=> cases h
  |es=> cases h
  |elim _ _ _ k=> exact ih k
 |move p a h ih=> intro k;cases k with
  |mr=> cases h
  |move _ _ k=> exact ih k
 |fst h ih=> intro k;cases k with
  |fp=> cases h
  |fst k=> exact ih k
 |snd h ih=> intro k;cases k with
  |sp=> cases h
  |snd k=> exact ih k
theorem Ne.not{t c:Tm}(h:Ne t)(k:HR t c)(hc:hk c≠0):False:=by
 obtain⟨n,h1,h2⟩:=h;have h3:=h1.after k hc;cases h3 with
 |refl=> exact hc h2.hk
 |step h4 _=> exact h2.stuck h4
theorem Ne.exp{t u:Tm}(h:HR t u)(k:Ne u):Ne t:=by
 obtain⟨n,h1,h2⟩:=k;exact⟨n,h.trans h1,h2⟩
theorem Ne.app{f:Tm}(h:Ne f)(a:Tm):Ne (.app f a):=by
 obtain⟨n,h1,h2⟩:=h;exact⟨_,h1.map (F:=fun x=> .app x a) fun h=> .app _ h,h2.app a⟩
theorem Ne.elim{a:Tm}(h:Ne a)(p z s:Tm):Ne (.elim p z s a):=by
 obtain⟨n,h1,h2⟩:=h;exact⟨_,h1.map (F:=fun x=> .elim p z s x) fun h=> .elim _ _ _ h,h2.elim p z s⟩
theorem Ne.move{e:Tm}(h:Ne e)(p a:Tm):Ne (.move p e a):=by
 obtain⟨n,h1,h2⟩:=h;exact⟨_,h1.map (F:=fun x=> .move p x a) fun h=> .move _ _ h,h2.move p a⟩
theorem Ne.fst{a:Tm}(h:Ne a):Ne (.fst a):=by
 obtain⟨n,h1,h2⟩:=h;exact⟨_,h1.map (F:=fun x=> .fst x) fun h=> .fst h,h2.fst⟩
theorem Ne.snd{a:Tm}(h:Ne a):Ne (.snd a):=by
 obtain⟨n,h1,h2⟩:=h;exact⟨_,h1.map (F:=fun x=> .snd x) fun h=> .snd h,h2.snd⟩
theorem Ne.var(n:Nat):Ne (.var n):=⟨_,.refl _,.var n⟩
section
variable (G : List Tm) (W : Tm → Prop)
def Gd(C:Tm)(Q P:Tm->Prop)(d:Tm):Prop:=W d/\(∃A,Ty G d A/\Cv A C/\Q A)/\P d
inductive NatP:Tm->Prop where
 |zero {a}:HR a .zero->NatP a
 |succ {a b A}:HR a (.succ b)->W b->Ty G b A->Cv A .nat->W A->NatP b->NatP a
 |ne {a}:Ne a->NatP a
inductive GT (k:Nat->Prop) (U: ∀j,k j->Tm->Prop):Tm->(Tm->Prop)->(Tm->Prop)->Prop where
 |nat {T Q P}:HR T .nat->(∀A,Q A↔W A/\HR A .nat)->(∀a,P a↔NatP G W a)->GT k U T Q P
 |sort {T Q P j} (h:k j):HR T (.sort j)->(∀A,Q A↔W A/\HR A (.sort j))->(∀a,P a↔U j h a)->GT k U T Q P
 |pi {T Q P C R QC PC} {Qd Pd:Tm->Tm->Prop}:HR T (.pi C R)->GT k U C QC PC->QC C->(∀d,Gd G W C QC PC d->GT k U (R.inst d) (Qd d) (Pd d))->(∀d,Gd G W C QC PC d->Qd d (R.inst d))->
  (∀A,Q A↔W A/\ ∃C' R',HR A (.pi C' R')/\Cv C' C/\QC C'/\ ∀d,Gd G W C QC PC d->Qd d (R'.inst d))->(∀f,P f↔ ∀d,Gd G W C QC PC d->Pd d (.app f d))->GT k U T Q P
 |sg {T Q P C R QC PC} {Qd Pd:Tm->Tm->Prop}:HR T (.sg C R)->GT k U C QC PC->QC C->(∀d,Gd G W C QC PC d->GT k U (R.inst d) (Qd d) (Pd d))->(∀d,Gd G W C QC PC d->Qd d (R.inst d))->
  (∀A,Q A↔W A/\ ∃C' R',HR A (.sg C' R')/\Cv C' C/\QC C'/\ ∀d,Gd G W C QC PC d->Qd d (R'.inst d))->(∀f,P f↔PC (.fst f)/\ ∀d,Gd G W C QC PC d->Cv d (.fst f)->Pd d (.snd f))->GT k U T Q P
 |id {T Q P X u v QX PX}:HR T (.id X u v)->GT k U X QX PX->QX X->Gd G W X QX PX u->Gd G W X QX PX v->
  (∀A,Q A↔W A/\ ∃X' u' v',HR A (.id X' u' v')/\Cv X' X/\Cv u' u/\Cv v' v/\QX X'/\Gd G W X QX PX u'/\Gd G W X QX PX v')->(∀e,P e↔(∃b,HR e (.refl b)/\Cv b u/\Cv b v)\/Ne e)->GT k U T Q P
 |ne {T Q P}:Ne T->(∀A,Q A↔W A/\Ne A)->(∀a,P a↔True)->GT k U T Q P
def Uv:Nat->Tm->Prop
 |k=> fun A=> ∃Q P,GT G W (fun j=> j < k) (fun j (h:j < k)=> Uv j) A Q P
termination_by k=> k
decreasing_by exact h
def GL(k:Nat->Prop):Tm->(Tm->Prop)->(Tm->Prop)->Prop:=GT G W k fun j _=> Uv G W j
theorem y78(k:Nat)(A:Tm):Uv G W k A↔ ∃Q P,GL G W (fun j=> j < k) A Q P:=by
 rw[Uv];rfl
end
variable {G : List Tm} {W : Tm → Prop}
theorem GT.up{k k':Nat->Prop}(hk: ∀j,k j->k' j){V:Nat->Tm->Prop}{T:Tm}{Q P:Tm->Prop}(h:GT G W k (fun j _=> V j) T Q P):GT G W k' (fun j _=> V j) T Q P:=by
 induction h with
 |nat h1 h2 h3=> exact .nat h1 h2 h3
 |sort h h1 h2 h3=> exact .sort (hk _ h) h1 h2 h3
 |pi h1 h2 h3 h4 h5 h6 h7 i1 i2=> exact .pi h1 i1 h3 i2 h5 h6 h7
 |sg h1 h2 h3 h4 h5 h6 h7 i1 i2=> exact .sg h1 i1 h3 i2 h5 h6 h7
 |id h1 h2 h3 h4 h5 h6 h7 i1=> exact .id h1 i1 h3 h4 h5 h6 h7
 |ne h1 h2 h3=> exact .ne h1 h2 h3
theorem GL.up{k k':Nat->Prop}(hk: ∀j,k j->k' j){T:Tm}{Q P:Tm->Prop}(h:GL G W k T Q P):GL G W k' T Q P:=GT.up hk h
theorem GT.exp{k:Nat->Prop}{U}{T T':Tm}{Q P:Tm->Prop}(hr:HR T' T)(h:GT G W k U T Q P):GT G W k U T' Q P:=by
 cases h with
 |nat h1 h2 h3=> exact .nat (hr.trans h1) h2 h3
 |sort h h1 h2 h3=> exact .sort h (hr.trans h1) h2 h3
 |pi h1 h2 h3 h4 h5 h6 h7=> exact .pi (hr.trans h1) h2 h3 h4 h5 h6 h7
 |sg h1 h2 h3 h4 h5 h6 h7=> exact .sg (hr.trans h1) h2 h3 h4 h5 h6 h7
 |id h1 h2 h3 h4 h5 h6 h7=> exact .id (hr.trans h1) h2 h3 h4 h5 h6 h7
 |ne h1 h2 h3=> exact .ne (h1.exp hr) h2 h3
theorem GT.w{k:Nat->Prop}{U}{T A:Tm}{Q P:Tm->Prop}(h:GT G W k U T Q P)(hA:Q A):W A:=by
 cases h with
 |nat h1 h2 h3=> exact((h2 A).1 hA).1
 |sort h h1 h2 h3=> exact((h2 A).1 hA).1
 |pi h1 h2 h3 h4 h5 h6 h7=> exact((h6 A).1 hA).1
 |sg h1 h2 h3 h4 h5 h6 h7=> exact((h6 A).1 hA).1
 |id h1 h2 h3 h4 h5 h6 h7=> exact((h6 A).1 hA).1
 |ne h1 h2 h3=> exact((h2 A).1 hA).1
theorem GT.q{k:Nat->Prop}{U}{T:Tm}{Q P:Tm->Prop}(h:GT G W k U T Q P)(hT:W T):Q T:=by
 cases h with
 |nat h1 h2 h3=> exact(h2 T).2 ⟨hT,h1⟩
 |sort h h1 h2 h3=> exact(h2 T).2 ⟨hT,h1⟩
 |pi h1 h2 h3 h4 h5 h6 h7=> exact(h6 T).2 ⟨hT,_,_,h1,Cv.rfl' _,h3,h5⟩
 |sg h1 h2 h3 h4 h5 h6 h7=> exact(h6 T).2 ⟨hT,_,_,h1,Cv.rfl' _,h3,h5⟩
 |id h1 h2 h3 h4 h5 h6 h7=> exact(h6 T).2 ⟨hT,_,_,_,h1,Cv.rfl' _,Cv.rfl' _,Cv.rfl' _,h3,h4,h5⟩
 |ne h1 h2 h3=> exact(h2 T).2 ⟨hT,h1⟩
theorem Gd.cv{C C':Tm}{Q P:Tm->Prop}(h:Cv C C'){d:Tm}:Gd G W C Q P d↔Gd G W C' Q P d:=by
 constructor
 · rintro⟨h1,⟨A,h2,h3,h4⟩,h5⟩;exact⟨h1,⟨A,h2,h3.trans h,h4⟩,h5⟩
 · rintro⟨h1,⟨A,h2,h3,h4⟩,h5⟩;exact⟨h1,⟨A,h2,h3.trans h.symm,h4⟩,h5⟩
theorem Gd.iff{C C':Tm}{Q P Q' P':Tm->Prop}(h:Cv C C')(hQ: ∀A,Q A↔Q' A)(hP: ∀a,P a↔P' a){d:Tm}:Gd G W C Q P d↔Gd G W C' Q' P' d:=by
 obtain rfl:Q=Q':=funext fun A=> propext (hQ A)
 obtain rfl:P=P':=funext fun A=> propext (hP A)
 exact Gd.cv h
theorem GT.re{k:Nat->Prop}{U}{T:Tm}{Q P:Tm->Prop}(h:GT G W k U T Q P): ∀{A:Tm},Q A->GT G W k U A Q P:=by
 induction h with
 |nat h1 h2 h3=> intro A hA;exact .nat ((h2 A).1 hA).2 h2 h3
 |sort h h1 h2 h3=> intro A hA;exact .sort h ((h2 A).1 hA).2 h2 h3
 |pi h1 h2 h3 h4 h5 h6 h7 i1 i2=>
  intro A hA;obtain⟨k0,C',R',k1,k2,k3,k4⟩:=(h6 A).1 hA;refine .pi k1 (i1 k3) k3 (fun d hd=> i2 d ((Gd.cv k2).1 hd) (k4 d ((Gd.cv k2).1 hd))) (fun d hd=> k4 d ((Gd.cv k2).1 hd)) (fun B=> ?_) (fun f=> ?_)
  · rw[h6 B]
    constructor
    · rintro⟨l0,C2,R2,l1,l2,l3,l4⟩;exact⟨l0,C2,R2,l1,l2.trans k2.symm,l3,fun d hd=> l4 d ((Gd.cv k2).1 hd)⟩
    · rintro⟨l0,C2,R2,l1,l2,l3,l4⟩;exact⟨l0,C2,R2,l1,l2.trans k2,l3,fun d hd=> l4 d ((Gd.cv k2).2 hd)⟩
  · rw[h7 f]
    exact⟨fun l d hd=> l d ((Gd.cv k2).1 hd),fun l d hd=> l d ((Gd.cv k2).2 hd)⟩
 |sg h1 h2 h3 h4 h5 h6 h7 i1 i2=>
  intro A hA;obtain⟨k0,C',R',k1,k2,k3,k4⟩:=(h6 A).1 hA;refine .sg k1 (i1 k3) k3 (fun d hd=> i2 d ((Gd.cv k2).1 hd) (k4 d ((Gd.cv k2).1 hd))) (fun d hd=> k4 d ((Gd.cv k2).1 hd)) (fun B=> ?_) (fun f=> ?_)
  · rw[h6 B]
    constructor
    · rintro⟨l0,C2,R2,l1,l2,l3,l4⟩;exact⟨l0,C2,R2,l1,l2.trans k2.symm,l3,fun d hd=> l4 d ((Gd.cv k2).1 hd)⟩
    · rintro⟨l0,C2,R2,l1,l2,l3,l4⟩;exact⟨l0,C2,R2,l1,l2.trans k2,l3,fun d hd=> l4 d ((Gd.cv k2).2 hd)⟩
  · rw[h7 f]
    exact⟨fun l=>⟨l.1,fun d hd=> l.2 d ((Gd.cv k2).1 hd)⟩,fun l=>⟨l.1,fun d hd=> l.2 d ((Gd.cv k2).2 hd)⟩⟩
 |id h1 h2 h3 h4 h5 h6 h7 i1=>
  intro A hA;obtain⟨k0,X',u',v',k1,k2,ku,kv,k3,k4,k5⟩:=(h6 A).1 hA;refine .id k1 (i1 k3) k3 ((Gd.cv k2).2 k4) ((Gd.cv k2).2 k5) (fun B=> ?_) (fun e=> ?_)
  · rw[h6 B]
    constructor
    · rintro⟨l0,X2,u2,v2,l1,l2,lu,lv,l3,l4,l5⟩;exact⟨l0,X2,u2,v2,l1,l2.trans k2.symm,lu.trans ku.symm,lv.trans kv.symm,l3,(Gd.cv k2).2 l4,(Gd.cv k2).2 l5⟩
    · rintro⟨l0,X2,u2,v2,l1,l2,lu,lv,l3,l4,l5⟩;exact⟨l0,X2,u2,v2,l1,l2.trans k2,lu.trans ku,lv.trans kv,l3,(Gd.cv k2).1 l4,(Gd.cv k2).1 l5⟩
  · rw[h7 e]
    constructor
    · rintro(⟨b,l1,l2,l3⟩ |l)
      · exact .inl ⟨b,l1,l2.trans ku.symm,l3.trans kv.symm⟩
      · exact .inr l
    · rintro(⟨b,l1,l2,l3⟩ |l)
      · exact .inl ⟨b,l1,l2.trans ku,l3.trans kv⟩
      · exact .inr l
 |ne h1 h2 h3=> intro A hA;exact .ne ((h2 A).1 hA).2 h2 h3
theorem q40{T T' c c':Tm}(h:Cv T T')(k:HR T c)(k':HR T' c')(hc:hk c≠0)(hc':hk c'≠0):hk c=hk c':=
 ((k.cv.symm.trans h).trans k'.cv).hk hc hc'
theorem y65{T T' c:Tm}(h:Cv T T')(k:HR T c)(hc:hk c≠0)(k':Ne T'):False:=by
 obtain⟨c0,h1,h2,-⟩:=(h.symm.trans k.cv).can hc;exact k'.not h1 (by rw[h2];exact hc)
theorem GT.eq{k k':Nat->Prop}{V:Nat->Tm->Prop}{T:Tm}{Q P:Tm->Prop}(h:GT G W k (fun j _=> V j) T Q P): ∀{T':Tm} {Q' P':Tm->Prop},GT G W k' (fun j _=> V j) T' Q' P'->Cv T T'->(∀A,Q A↔Q' A)/\(∀a,P a↔P' a):=by
 induction h with
 |nat h1 h2 h3=>
  intro T' Q' P' g e;cases g with
  |nat g1 g2 g3=> exact⟨fun A=> by rw[h2,g2],fun a=> by rw[h3,g3]⟩
  |ne g1 g2 g3=> exact(y65 e h1 (by simp[hk]) g1).elim
  |sort _ g1=> have:=q40 e h1 g1 (by simp[hk]) (by simp[hk]);simp[hk] at this
  |pi g1=> have:=q40 e h1 g1 (by simp[hk]) (by simp[hk]);simp[hk] at this
  |sg g1=> have:=q40 e h1 g1 (by simp[hk]) (by simp[hk]);simp[hk] at this
  |id g1=> have:=q40 e h1 g1 (by simp[hk]) (by simp[hk]);simp[hk] at this
 |sort hj h1 h2 h3=>
  intro T' Q' P' g e;cases g with
  |sort _ g1 g2 g3=>
   obtain rfl:=((h1.cv.symm.trans e).trans g1.cv).sort_inj;exact⟨fun A=> by rw[h2,g2],fun a=> by rw[h3,g3]⟩
  |ne g1 g2 g3=> exact(y65 e h1 (by simp[hk]) g1).elim
  |nat g1=> have:=q40 e h1 g1 (by simp[hk]) (by simp[hk]);simp[hk] at this
  |pi g1=> have:=q40 e h1 g1 (by simp[hk]) (by simp[hk]);simp[hk] at this
  |sg g1=> have:=q40 e h1 g1 (by simp[hk]) (by simp[hk]);simp[hk] at this
  |id g1=> have:=q40 e h1 g1 (by simp[hk]) (by simp[hk]);simp[hk] at this
 | @pi T Q P C R QC PC Qd Pd h1 h2 h3 h4 h5 h6 h7 i1 i2=>
  intro T' Q' P' g e;cases g with
  | @pi _ _ _ C' R' QC' PC' Qd' Pd' g1 g2 g3 g4 g5 g6 g7=>
   obtain⟨e1,e2⟩:=((h1.cv.symm.trans e).trans g1.cv).pi_inj;obtain⟨q1,q2⟩:=i1 g2 e1;have hg: ∀d,Gd G W C QC PC d↔Gd G W C' QC' PC' d:=fun d=> Gd.iff e1 q1 q2
   have hd: ∀d,Gd G W C QC PC d->(∀A,Qd d A↔Qd' d A)/\(∀a,Pd d a↔Pd' d a):=fun d hd=> i2 d hd (g4 d ((hg d).1 hd)) (e2.inst (Cv.rfl' _))
   refine⟨fun A=> ?_,fun a=> ?_⟩
   · rw[h6,g6]
     constructor
     · rintro⟨l0,C2,R2,l1,l2,l3,l4⟩;exact⟨l0,C2,R2,l1,l2.trans e1,(q1 _).1 l3,fun d h=>((hd d ((hg d).2 h)).1 _).1 (l4 d ((hg d).2 h))⟩
     · rintro⟨l0,C2,R2,l1,l2,l3,l4⟩;exact⟨l0,C2,R2,l1,l2.trans e1.symm,(q1 _).2 l3,fun d h=>((hd d h).1 _).2 (l4 d ((hg d).1 h))⟩
   · rw[h7,g7]
     exact⟨fun l d h=>((hd d ((hg d).2 h)).2 _).1 (l d ((hg d).2 h)),fun l d h=>((hd d h).2 _).2 (l d ((hg d).1 h))⟩
  |ne g1 g2 g3=> exact(y65 e h1 (by simp[hk]) g1).elim
  |nat g1=> have:=q40 e h1 g1 (by simp[hk]) (by simp[hk]);simp[hk] at this
  |sort _ g1=> have:=q40 e h1 g1 (by simp[hk]) (by simp[hk]);simp[hk] at this
  |sg g1=> have:=q40 e h1 g1 (by simp[hk]) (by simp[hk]);simp[hk] at this
  |id g1=> have:=q40 e h1 g1 (by simp[hk]) (by simp[hk]);simp[hk] at this
 | @sg T Q P C R QC PC Qd Pd h1 h2 h3 h4 h5 h6 h7 i1 i2=>
  intro T' Q' P' g e;cases g with
  | @sg _ _ _ C' R' QC' PC' Qd' Pd' g1 g2 g3 g4 g5 g6 g7=>
   obtain⟨e1,e2⟩:=((h1.cv.symm.trans e).trans g1.cv).sg_inj;obtain⟨q1,q2⟩:=i1 g2 e1;have hg: ∀d,Gd G W C QC PC d↔Gd G W C' QC' PC' d:=fun d=> Gd.iff e1 q1 q2
   have hd: ∀d,Gd G W C QC PC d->(∀A,Qd d A↔Qd' d A)/\(∀a,Pd d a↔Pd' d a):=fun d hd=> i2 d hd (g4 d ((hg d).1 hd)) (e2.inst (Cv.rfl' _))
   refine⟨fun A=> ?_,fun a=> ?_⟩
   · rw[h6,g6]
     constructor
     · rintro⟨l0,C2,R2,l1,l2,l3,l4⟩;exact⟨l0,C2,R2,l1,l2.trans e1,(q1 _).1 l3,fun d h=>((hd d ((hg d).2 h)).1 _).1 (l4 d ((hg d).2 h))⟩
     · rintro⟨l0,C2,R2,l1,l2,l3,l4⟩;exact⟨l0,C2,R2,l1,l2.trans e1.symm,(q1 _).2 l3,fun d h=>((hd d h).1 _).2 (l4 d ((hg d).1 h))⟩
   · rw[h7,g7,q2]
     exact⟨fun l=>⟨l.1,fun d h k=>((hd d ((hg d).2 h)).2 _).1 (l.2 d ((hg d).2 h) k)⟩,fun l=>⟨l.1,fun d h k=>((hd d h).2 _).2 (l.2 d ((hg d).1 h) k)⟩⟩
  |ne g1 g2 g3=> exact(y65 e h1 (by simp[hk]) g1).elim
  |nat g1=> have:=q40 e h1 g1 (by simp[hk]) (by simp[hk]);simp[hk] at this
  |sort _ g1=> have:=q40 e h1 g1 (by simp[hk]) (by simp[hk]);simp[hk] at this
  |pi g1=> have:=q40 e h1 g1 (by simp[hk]) (by simp[hk]);simp[hk] at this
  |id g1=> have:=q40 e h1 g1 (by simp[hk]) (by simp[hk]);simp[hk] at this
 | @id T Q P X u v QX PX h1 h2 h3 h4 h5 h6 h7 i1=>
  intro T' Q' P' g e;cases g with
  | @id _ _ _ X' u' v' QX' PX' g1 g2 g3 g4 g5 g6 g7=>
   obtain⟨e1,e2,e3⟩:=((h1.cv.symm.trans e).trans g1.cv).id_inj;obtain⟨q1,q2⟩:=i1 g2 e1;have hg: ∀d,Gd G W X QX PX d↔Gd G W X' QX' PX' d:=fun d=> Gd.iff e1 q1 q2
   refine⟨fun A=> ?_,fun a=> ?_⟩
   · rw[h6,g6]
     constructor
     · rintro⟨l0,X2,u2,v2,l1,l2,lu,lv,l3,l4,l5⟩;exact⟨l0,X2,u2,v2,l1,l2.trans e1,lu.trans e2,lv.trans e3,(q1 _).1 l3,(hg _).1 l4,(hg _).1 l5⟩
     · rintro⟨l0,X2,u2,v2,l1,l2,lu,lv,l3,l4,l5⟩;exact⟨l0,X2,u2,v2,l1,l2.trans e1.symm,lu.trans e2.symm,lv.trans e3.symm,(q1 _).2 l3,(hg _).2 l4,(hg _).2 l5⟩
   · rw[h7,g7]
     constructor
     · rintro(⟨b,l1,l2,l3⟩ |l)
       · exact .inl ⟨b,l1,l2.trans e2,l3.trans e3⟩
       · exact .inr l
     · rintro(⟨b,l1,l2,l3⟩ |l)
       · exact .inl ⟨b,l1,l2.trans e2.symm,l3.trans e3.symm⟩
       · exact .inr l
  |ne g1 g2 g3=> exact(y65 e h1 (by simp[hk]) g1).elim
  |nat g1=> have:=q40 e h1 g1 (by simp[hk]) (by simp[hk]);simp[hk] at this
  |sort _ g1=> have:=q40 e h1 g1 (by simp[hk]) (by simp[hk]);simp[hk] at this
  |pi g1=> have:=q40 e h1 g1 (by simp[hk]) (by simp[hk]);simp[hk] at this
  |sg g1=> have:=q40 e h1 g1 (by simp[hk]) (by simp[hk]);simp[hk] at this
 |ne h1 h2 h3=>
  intro T' Q' P' g e;cases g with
  |ne g1 g2 g3=> exact⟨fun A=> by rw[h2,g2],fun a=> by rw[h3,g3]⟩
  |nat g1=> exact(y65 e.symm g1 (by simp[hk]) h1).elim
  |sort _ g1=> exact(y65 e.symm g1 (by simp[hk]) h1).elim
  |pi g1=> exact(y65 e.symm g1 (by simp[hk]) h1).elim
  |sg g1=> exact(y65 e.symm g1 (by simp[hk]) h1).elim
  |id g1=> exact(y65 e.symm g1 (by simp[hk]) h1).elim
theorem NatP.exp{a b:Tm}(h:HR a b)(k:NatP G W b):NatP G W a:=by
 cases k with
 |zero k=> exact .zero (h.trans k)
 |succ k1 k2 k3 k4 k5 k6=> exact .succ (h.trans k1) k2 k3 k4 k5 k6
 |ne k=> exact .ne (k.exp h)
theorem GT.back{k:Nat->Prop}{U}(hU: ∀j h a b,HR a b->U j h b->U j h a){T:Tm}{Q P:Tm->Prop}(h:GT G W k U T Q P): ∀{a b:Tm},HR a b->P b->P a:=by
 induction h with
 |nat h1 h2 h3=> intro a b hr hb;rw[h3] at hb⊢;exact hb.exp hr
 |sort h h1 h2 h3=> intro a b hr hb;rw[h3] at hb⊢;exact hU _ _ _ _ hr hb
 |pi h1 h2 h3 h4 h5 h6 h7 i1 i2=>
  intro a b hr hb;rw[h7] at hb⊢;exact fun d hd=> i2 d hd (hr.map (F:=fun x=> .app x d) fun h=> .app _ h) (hb d hd)
 |sg h1 h2 h3 h4 h5 h6 h7 i1 i2=>
  intro a b hr hb;rw[h7] at hb⊢;exact⟨i1 (hr.map (F:=fun x=> .fst x) fun h=> .fst h) hb.1,fun d hd hc=> i2 d hd (hr.map (F:=fun x=> .snd x) fun h=> .snd h) (hb.2 d hd (hc.trans hr.cv.fst))⟩
 |id h1 h2 h3 h4 h5 h6 h7 i1=>
  intro a b hr hb;rw[h7] at hb⊢;rcases hb with⟨c,l1,l2,l3⟩ |l
  · exact .inl ⟨c,hr.trans l1,l2,l3⟩
  · exact .inr (l.exp hr)
 |ne h1 h2 h3=> intro a b hr hb;rw[h3];trivial
theorem GT.stuck{k:Nat->Prop}{U}(hU: ∀j h a,Ne a->U j h a){T:Tm}{Q P:Tm->Prop}(h:GT G W k U T Q P): ∀{a:Tm},Ne a->P a:=by
 induction h with
 |nat h1 h2 h3=> intro a ha;rw[h3];exact .ne ha
 |sort h h1 h2 h3=> intro a ha;rw[h3];exact hU _ _ _ ha
 |pi h1 h2 h3 h4 h5 h6 h7 i1 i2=>
  intro a ha;rw[h7];exact fun d hd=> i2 d hd (ha.app d)
 |sg h1 h2 h3 h4 h5 h6 h7 i1 i2=>
  intro a ha;rw[h7];exact⟨i1 ha.fst,fun d hd hc=> i2 d hd ha.snd⟩
 |id h1 h2 h3 h4 h5 h6 h7 i1=>
  intro a ha;rw[h7];exact .inr ha
 |ne h1 h2 h3=> intro a ha;rw[h3];trivial
theorem GL.back{k:Nat->Prop}{T:Tm}{Q P:Tm->Prop}(h:GL G W k T Q P){a b:Tm}(hr:HR a b)(hb:P b):P a:=
 GT.back (fun j _ a b hr hb=> by
  rw[y78] at hb⊢;obtain⟨Q,P,hb⟩:=hb;exact⟨Q,P,GT.exp hr hb⟩) h hr hb
theorem GL.stuck{k:Nat->Prop}{T:Tm}{Q P:Tm->Prop}(h:GL G W k T Q P){a:Tm}(ha:Ne a):P a:=
 GT.stuck (fun j _ a ha=> by
  rw[y78];exact⟨_,_,.ne ha (fun _=> Iff.rfl) (fun _=> Iff.rfl)⟩) h ha
theorem GL.eq{k k':Nat->Prop}{T T':Tm}{Q P Q' P':Tm->Prop}(h:GL G W k T Q P)(h':GL G W k' T' Q' P')(e:Cv T T'):(∀A,Q A↔Q' A)/\(∀a,P a↔P' a):=GT.eq h h' e
theorem GL.re{k:Nat->Prop}{T A:Tm}{Q P:Tm->Prop}(h:GL G W k T Q P)(hA:Q A):GL G W k A Q P:=GT.re h hA
theorem GL.w{k:Nat->Prop}{T A:Tm}{Q P:Tm->Prop}(h:GL G W k T Q P)(hA:Q A):W A:=GT.w h hA
theorem GL.q{k:Nat->Prop}{T:Tm}{Q P:Tm->Prop}(h:GL G W k T Q P)(hT:W T):Q T:=GT.q h hT
theorem GL.gd{k k':Nat->Prop}{T T':Tm}{Q P Q' P':Tm->Prop}(h:GL G W k T Q P)(h':GL G W k' T' Q' P')(e:Cv T T'){d:Tm}(hd:Gd G W T Q P d):Gd G W T' Q' P' d:=
 (Gd.iff e (h.eq h' e).1 (h.eq h' e).2).1 hd
theorem GL.nat_inv{k:Nat->Prop}{T:Tm}{Q P:Tm->Prop}(h:GL G W k T Q P)(e:Cv T .nat): ∀a,P a↔NatP G W a:=
 (h.eq (k':=k) (.nat (.refl _) (fun _=> Iff.rfl) (fun _=> Iff.rfl)) e).2
theorem GL.sort_inv{k:Nat->Prop}{T:Tm}{Q P:Tm->Prop}{j:Nat}(h:GL G W k T Q P)(e:HR T (.sort j)):k j/\ ∀a,P a↔Uv G W j a:=by
 cases h with
 |sort hj g1 g2 g3=> obtain rfl:=e.sort_det g1;exact⟨hj,g3⟩
 |ne g1 g2 g3=> exact(g1.not e (by simp[hk])).elim
 |nat g1=> have:=e.det g1 (by simp[hk]) (by simp[hk]);cases this
 |pi g1=> have:=e.det g1 (by simp[hk]) (by simp[hk]);cases this
 |sg g1=> have:=e.det g1 (by simp[hk]) (by simp[hk]);cases this
 |id g1=> have:=e.det g1 (by simp[hk]) (by simp[hk]);cases this
theorem GL.pi_inv{k:Nat->Prop}{T C R:Tm}{Q P:Tm->Prop}(h:GL G W k T Q P)(e:HR T (.pi C R)): ∃(QC PC:Tm->Prop) (Qd Pd:Tm->Tm->Prop),GL G W k C QC PC/\QC C/\(∀d,Gd G W C QC PC d->GL G W k (R.inst d) (Qd d) (Pd d))/\(∀d,Gd G W C QC PC d->Qd d (R.inst d))/\
 (∀A,Q A↔W A/\ ∃C' R',HR A (.pi C' R')/\Cv C' C/\QC C'/\ ∀d,Gd G W C QC PC d->Qd d (R'.inst d))/\(∀f,P f↔ ∀d,Gd G W C QC PC d->Pd d (.app f d)):=by
 cases h with
 |pi g1 g2 g3 g4 g5 g6 g7=> obtain⟨rfl,rfl⟩:=e.pi_det g1;exact⟨_,_,_,_,g2,g3,g4,g5,g6,g7⟩
 |ne g1 g2 g3=> exact(g1.not e (by simp[hk])).elim
 |nat g1=> have:=e.det g1 (by simp[hk]) (by simp[hk]);cases this
 |sort _ g1=> have:=e.det g1 (by simp[hk]) (by simp[hk]);cases this
 |sg g1=> have:=e.det g1 (by simp[hk]) (by simp[hk]);cases this
 |id g1=> have:=e.det g1 (by simp[hk]) (by simp[hk]);cases this
theorem GL.sg_inv{k:Nat->Prop}{T C R:Tm}{Q P:Tm->Prop}(h:GL G W k T Q P)(e:HR T (.sg C R)): ∃(QC PC:Tm->Prop) (Qd Pd:Tm->Tm->Prop),GL G W k C QC PC/\QC C/\(∀d,Gd G W C QC PC d->GL G W k (R.inst d) (Qd d) (Pd d))/\(∀d,Gd G W C QC PC d->Qd d (R.inst d))/\
 (∀A,Q A↔W A/\ ∃C' R',HR A (.sg C' R')/\Cv C' C/\QC C'/\ ∀d,Gd G W C QC PC d->Qd d (R'.inst d))/\(∀f,P f↔PC (.fst f)/\ ∀d,Gd G W C QC PC d->Cv d (.fst f)->Pd d (.snd f)):=by
 cases h with
 |sg g1 g2 g3 g4 g5 g6 g7=> obtain⟨rfl,rfl⟩:=e.sg_det g1;exact⟨_,_,_,_,g2,g3,g4,g5,g6,g7⟩
 |ne g1 g2 g3=> exact(g1.not e (by simp[hk])).elim
 |nat g1=> have:=e.det g1 (by simp[hk]) (by simp[hk]);cases this
 |sort _ g1=> have:=e.det g1 (by simp[hk]) (by simp[hk]);cases this
 |pi g1=> have:=e.det g1 (by simp[hk]) (by simp[hk]);cases this
 |id g1=> have:=e.det g1 (by simp[hk]) (by simp[hk]);cases this
theorem GL.id_inv{k:Nat->Prop}{T X u v:Tm}{Q P:Tm->Prop}(h:GL G W k T Q P)(e:HR T (.id X u v)): ∃QX PX:Tm->Prop,GL G W k X QX PX/\QX X/\Gd G W X QX PX u/\Gd G W X QX PX v/\(∀e,P e↔(∃b,HR e (.refl b)/\Cv b u/\Cv b v)\/Ne e):=by
 cases h with
 |id g1 g2 g3 g4 g5 g6 g7=> obtain⟨rfl,rfl,rfl⟩:=e.id_det g1;exact⟨_,_,g2,g3,g4,g5,g7⟩
 |ne g1 g2 g3=> exact(g1.not e (by simp[hk])).elim
 |nat g1=> have:=e.det g1 (by simp[hk]) (by simp[hk]);cases this
 |sort _ g1=> have:=e.det g1 (by simp[hk]) (by simp[hk]);cases this
 |pi g1=> have:=e.det g1 (by simp[hk]) (by simp[hk]);cases this
 |sg g1=> have:=e.det g1 (by simp[hk]) (by simp[hk]);cases this
end Go.Proofs.YtbnkbepgmenblaaGreatDoor.M
