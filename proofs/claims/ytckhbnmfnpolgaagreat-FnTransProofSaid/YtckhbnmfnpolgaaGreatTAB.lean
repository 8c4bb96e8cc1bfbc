/- Lemmas towards the law. -/
import Derived.Test.YtckhbnmfnpolgaaGreatTAA
open Nat renaming le_refl->aP,strongRecOn->lQ
set_option linter.all false
namespace Go.Proofs.YtckhbnmfnpolgaaGreat.M
open Tm
inductive Wn:Tm->Prop where
 |var (n):Wn (.var n)
 |app {f} (a):Wn f->Wn (.app f a)
 |elim {a} (p z s):Wn a->Wn (.elim p z s a)
 |move {e} (p a):Wn e->Wn (.move p e a)
 |fst {a}:Wn a->Wn (.fst a)
 |snd {a}:Wn a->Wn (.snd a)
def Ne(t:Tm):Prop:= ∃n,HR t n/\Wn n
theorem Wn.hk{t:Tm}(h:Wn t):Go.Proofs.YtckhbnmfnpolgaaGreat.M.hk t=0:=by cases h <;> rfl
theorem Wn.stuck{t u:Tm}(h:Wn t): ¬Hd t u:=by
 induction h generalizing u with
 |var n=> intro k;cases k
 |app a h ih=> intro k;cases k with
  |beta=> cases h
  |app _ k=> exact ih k
 |elim p z s h ih=> intro k;cases k with
  |ez=> cases h
  |es=> cases h
  |elim _ _ _ k=> exact ih k
 |move p a h ih=> intro k;cases k with
  |mr=> cases h
  |move _ _ k=> exact ih k
 |fst h ih=> intro k;cases k with
  |fp=> cases h
  |fst k=> exact ih k
 |snd h ih=> intro k;cases k with
  |sp=> cases h
  |snd k=> exact ih k
theorem Ne.not{t c:Tm}(h:Ne t)(k:HR t c)(hc:hk c≠0):False:=by
 obtain⟨n,e,a⟩:=h;have b:=e.after k hc;cases b with
 |refl=> exact hc a.hk
 |step d _=> exact a.stuck d
theorem Ne.exp{t u:Tm}(h:HR t u)(k:Ne u):Ne t:=by
 obtain⟨n,b,a⟩:=k;exact⟨n,h.trans b,a⟩
theorem Ne.app{f:Tm}(h:Ne f)(a:Tm):Ne (.app f a):=by
 obtain⟨n,c,b⟩:=h;exact⟨_,c.map (F:=fun x=> .app x a) fun h=> .app _ h,b.app a⟩
theorem Ne.elim{a:Tm}(h:Ne a)(p z s:Tm):Ne (.elim p z s a):=by
 obtain⟨n,c,b⟩:=h;exact⟨_,c.map (F:=fun x=> .elim p z s x) fun h=> .elim _ _ _ h,b.elim p z s⟩
theorem Ne.move{e:Tm}(h:Ne e)(p a:Tm):Ne (.move p e a):=by
 obtain⟨n,c,b⟩:=h;exact⟨_,c.map (F:=fun x=> .move p x a) fun h=> .move _ _ h,b.move p a⟩
theorem Ne.fst{a:Tm}(h:Ne a):Ne (.fst a):=by
 obtain⟨n,c,b⟩:=h;exact⟨_,c.map (F:=fun x=> .fst x) fun h=> .fst h,b.fst⟩
theorem Ne.snd{a:Tm}(h:Ne a):Ne (.snd a):=by
 obtain⟨n,c,b⟩:=h;exact⟨_,c.map (F:=fun x=> .snd x) fun h=> .snd h,b.snd⟩
theorem Ne.var(n:Nat):Ne (.var n):=⟨_,.refl _,.var n⟩
section
variable (G : List Tm) (W : Tm → Prop)
def Gd(C:Tm)(Q P:Tm->Prop)(d:Tm):Prop:=W d/\(∃A,Ty G d A/\Cv A C/\Q A)/\P d
inductive Nd:Tm->Prop where
 |zero {a}:HR a .zero->Nd a
 |succ {a b A}:HR a (.succ b)->W b->Ty G b A->Cv A .nat->W A->Nd b->Nd a
 |ne {a}:Ne a->Nd a
inductive GT (k:Nat->Prop) (U: ∀j,k j->Tm->Prop):Tm->(Tm->Prop)->(Tm->Prop)->Prop where
 |nat {T Q P}:HR T .nat->(∀A,Q A↔W A/\HR A .nat)->(∀a,P a↔Nd G W a)->GT k U T Q P
 |sort {T Q P j} (h:k j):HR T (.sort j)->(∀A,Q A↔W A/\HR A (.sort j))->(∀a,P a↔U j h a)->GT k U T Q P
 |pi {T Q P C R QC PC} {Qd Pd:Tm->Tm->Prop}:HR T (.pi C R)->GT k U C QC PC->QC C->(∀d,Gd G W C QC PC d->GT k U (R.inst d) (Qd d) (Pd d))->(∀d,Gd G W C QC PC d->Qd d (R.inst d))->
  (∀A,Q A↔W A/\ ∃C' R',HR A (.pi C' R')/\Cv C' C/\QC C'/\ ∀d,Gd G W C QC PC d->Qd d (R'.inst d))->(∀f,P f↔ ∀d,Gd G W C QC PC d->Pd d (.app f d))->GT k U T Q P
 |sg {T Q P C R QC PC} {Qd Pd:Tm->Tm->Prop}:HR T (.sg C R)->GT k U C QC PC->QC C->(∀d,Gd G W C QC PC d->GT k U (R.inst d) (Qd d) (Pd d))->(∀d,Gd G W C QC PC d->Qd d (R.inst d))->
  (∀A,Q A↔W A/\ ∃C' R',HR A (.sg C' R')/\Cv C' C/\QC C'/\ ∀d,Gd G W C QC PC d->Qd d (R'.inst d))->(∀f,P f↔PC (.fst f)/\ ∀d,Gd G W C QC PC d->Cv d (.fst f)->Pd d (.snd f))->GT k U T Q P
 |id {T Q P X u v QX PX}:HR T (.id X u v)->GT k U X QX PX->QX X->Gd G W X QX PX u->Gd G W X QX PX v->
  (∀A,Q A↔W A/\ ∃X' u' v',HR A (.id X' u' v')/\Cv X' X/\Cv u' u/\Cv v' v/\QX X'/\Gd G W X QX PX u'/\Gd G W X QX PX v')->(∀e,P e↔(∃b,HR e (.refl b)/\Cv b u/\Cv b v)\/Ne e)->GT k U T Q P
 |ne {T Q P}:Ne T->(∀A,Q A↔W A/\Ne A)->(∀a,P a↔True)->GT k U T Q P
def Uv:Nat->Tm->Prop
 |k=> fun A=> ∃Q P,GT G W (fun j=> j < k) (fun j (h:j < k)=> Uv j) A Q P
termination_by k=> k
decreasing_by exact h
def GL(k:Nat->Prop):Tm->(Tm->Prop)->(Tm->Prop)->Prop:=GT G W k fun j _=> Uv G W j
theorem Rr(k:Nat)(A:Tm):Uv G W k A↔ ∃Q P,GL G W (fun j=> j < k) A Q P:=by
 rw[Uv];rfl
end
variable {G : List Tm} {W : Tm → Prop}
theorem GT.up{k m:Nat->Prop}(hk: ∀j,k j->m j){V:Nat->Tm->Prop}{T:Tm}{Q P:Tm->Prop}(h:GT G W k (fun j _=> V j) T Q P):GT G W m (fun j _=> V j) T Q P:=by
 induction h with
 |nat b c a=> exact .nat b c a
 |sort h b c a=> exact .sort (hk _ h) b c a
 |pi b c a i e g f d l=> exact .pi b d a l e g f
 |sg b c a i e g f d l=> exact .sg b d a l e g f
 |id b c a i e g f d=> exact .id b d a i e g f
 |ne b c a=> exact .ne b c a
theorem GL.up{k a:Nat->Prop}(hk: ∀j,k j->a j){T:Tm}{Q P:Tm->Prop}(h:GL G W k T Q P):GL G W a T Q P:=GT.up hk h
theorem GT.exp{k:Nat->Prop}{U}{T i:Tm}{Q P:Tm->Prop}(hr:HR i T)(h:GT G W k U T Q P):GT G W k U i Q P:=by
 cases h with
 |nat c b a=> exact .nat (hr.trans c) b a
 |sort h c b a=> exact .sort h (hr.trans c) b a
 |pi c b a d e g f=> exact .pi (hr.trans c) b a d e g f
 |sg c b a d e g f=> exact .sg (hr.trans c) b a d e g f
 |id c b a d e g f=> exact .id (hr.trans c) b a d e g f
 |ne c b a=> exact .ne (c.exp hr) b a
theorem GT.w{k:Nat->Prop}{U}{T A:Tm}{Q P:Tm->Prop}(h:GT G W k U T Q P)(hA:Q A):W A:=by
 cases h with
 |nat d a b=> exact((a A).1 hA).1
 |sort h d a b=> exact((a A).1 hA).1
 |pi d a b e f c g=> exact((c A).1 hA).1
 |sg d a b e f c g=> exact((c A).1 hA).1
 |id d a b e f c g=> exact((c A).1 hA).1
 |ne d a b=> exact((a A).1 hA).1
theorem GT.q{k:Nat->Prop}{U}{T:Tm}{Q P:Tm->Prop}(h:GT G W k U T Q P)(hT:W T):Q T:=by
 cases h with
 |nat a c b=> exact(c T).2 ⟨hT,a⟩
 |sort h a c b=> exact(c T).2 ⟨hT,a⟩
 |pi a c b f d e g=> exact(e T).2 ⟨hT,_,_,a,Cv.rfl' _,b,d⟩
 |sg a c b f d e g=> exact(e T).2 ⟨hT,_,_,a,Cv.rfl' _,b,d⟩
 |id a c b f d e g=> exact(e T).2 ⟨hT,_,_,_,a,Cv.rfl' _,Cv.rfl' _,Cv.rfl' _,b,f,d⟩
 |ne a c b=> exact(c T).2 ⟨hT,a⟩
theorem Gd.cv{C g:Tm}{Q P:Tm->Prop}(h:Cv C g){d:Tm}:Gd G W C Q P d↔Gd G W g Q P d:=by
 constructor
 · rintro⟨f,⟨A,a,b,c⟩,e⟩;exact⟨f,⟨A,a,b.trans h,c⟩,e⟩
 · rintro⟨f,⟨A,a,b,c⟩,e⟩;exact⟨f,⟨A,a,b.trans h.symm,c⟩,e⟩
theorem Gd.iff{C e:Tm}{Q P c b:Tm->Prop}(h:Cv C e)(f: ∀A,Q A↔c A)(hP: ∀a,P a↔b a){d:Tm}:Gd G W C Q P d↔Gd G W e c b d:=by
 obtain rfl:Q=c:=funext fun A=> propext (f A)
 obtain rfl:P=b:=funext fun A=> propext (hP A)
 exact Gd.cv h
theorem GT.re{k:Nat->Prop}{U}{T:Tm}{Q P:Tm->Prop}(h:GT G W k U T Q P): ∀{A:Tm},Q A->GT G W k U A Q P:=by
 induction h with
 |nat x m o=> intro A hA;exact .nat ((m A).1 hA).2 m o
 |sort h x m o=> intro A hA;exact .sort h ((m A).1 hA).2 m o
 |pi x m o J K q v u C=>
  intro A hA;obtain⟨L,N,O,w,a,p,s⟩:=(q A).1 hA;refine .pi w (u p) p (fun d hd=> C d ((Gd.cv a).1 hd) (s d ((Gd.cv a).1 hd))) (fun d hd=> s d ((Gd.cv a).1 hd)) (fun B=> ?_) (fun f=> ?_)
  · rw[q B]
    constructor
    · rintro⟨n,r,t,c,i,g,j⟩;exact⟨n,r,t,c,i.trans a.symm,g,fun d hd=> j d ((Gd.cv a).1 hd)⟩
    · rintro⟨n,r,t,c,i,g,j⟩;exact⟨n,r,t,c,i.trans a,g,fun d hd=> j d ((Gd.cv a).2 hd)⟩
  · rw[v f]
    exact⟨fun l d hd=> l d ((Gd.cv a).1 hd),fun l d hd=> l d ((Gd.cv a).2 hd)⟩
 |sg x m o J K q v u C=>
  intro A hA;obtain⟨L,N,O,w,a,p,s⟩:=(q A).1 hA;refine .sg w (u p) p (fun d hd=> C d ((Gd.cv a).1 hd) (s d ((Gd.cv a).1 hd))) (fun d hd=> s d ((Gd.cv a).1 hd)) (fun B=> ?_) (fun f=> ?_)
  · rw[q B]
    constructor
    · rintro⟨n,r,t,c,i,g,j⟩;exact⟨n,r,t,c,i.trans a.symm,g,fun d hd=> j d ((Gd.cv a).1 hd)⟩
    · rintro⟨n,r,t,c,i,g,j⟩;exact⟨n,r,t,c,i.trans a,g,fun d hd=> j d ((Gd.cv a).2 hd)⟩
  · rw[v f]
    exact⟨fun l=>⟨l.1,fun d hd=> l.2 d ((Gd.cv a).1 hd)⟩,fun l=>⟨l.1,fun d hd=> l.2 d ((Gd.cv a).2 hd)⟩⟩
 |id x m o J K q v u=>
  intro A hA;obtain⟨L,R,S,V,w,a,y,z,p,s,M⟩:=(q A).1 hA;refine .id w (u p) p ((Gd.cv a).2 s) ((Gd.cv a).2 M) (fun B=> ?_) (fun e=> ?_)
  · rw[q B]
    constructor
    · rintro⟨n,E,F,v2,c,i,I,D,g,j,H⟩;exact⟨n,E,F,v2,c,i.trans a.symm,I.trans y.symm,D.trans z.symm,g,(Gd.cv a).2 j,(Gd.cv a).2 H⟩
    · rintro⟨n,E,F,v2,c,i,I,D,g,j,H⟩;exact⟨n,E,F,v2,c,i.trans a,I.trans y,D.trans z,g,(Gd.cv a).1 j,(Gd.cv a).1 H⟩
  · rw[v e]
    constructor
    · rintro(⟨b,c,i,g⟩ |l)
      · exact .inl ⟨b,c,i.trans y.symm,g.trans z.symm⟩
      · exact .inr l
    · rintro(⟨b,c,i,g⟩ |l)
      · exact .inl ⟨b,c,i.trans y,g.trans z⟩
      · exact .inr l
 |ne x m o=> intro A hA;exact .ne ((m A).1 hA).2 m o
theorem te{T d c b:Tm}(h:Cv T d)(k:HR T c)(e:HR d b)(hc:hk c≠0)(a:hk b≠0):hk c=hk b:=
 ((k.cv.symm.trans h).trans e.cv).hk hc a
theorem Fm{T a c:Tm}(h:Cv T a)(k:HR T c)(hc:hk c≠0)(e:Ne a):False:=by
 obtain⟨f,d,b,-⟩:=(h.symm.trans k.cv).can hc;exact e.not d (by rw[b];exact hc)
theorem GT.eq{k k':Nat->Prop}{V:Nat->Tm->Prop}{T:Tm}{Q P:Tm->Prop}(h:GT G W k (fun j _=> V j) T Q P): ∀{z:Tm} {E B:Tm->Prop},GT G W k' (fun j _=> V j) z E B->Cv T z->(∀A,Q A↔E A)/\(∀a,P a↔B a):=by
 induction h with
 |nat f D x=>
  intro z E B g e;cases g with
  |nat c m r=> exact⟨fun A=> by rw[D,m],fun a=> by rw[x,r]⟩
  |ne c m r=> exact(Fm e f (by simp[hk]) c).elim
  |sort _ c=> have:=te e f c (by simp[hk]) (by simp[hk]);simp[hk] at this
  |pi c=> have:=te e f c (by simp[hk]) (by simp[hk]);simp[hk] at this
  |sg c=> have:=te e f c (by simp[hk]) (by simp[hk]);simp[hk] at this
  |id c=> have:=te e f c (by simp[hk]) (by simp[hk]);simp[hk] at this
 |sort hj f D x=>
  intro z E B g e;cases g with
  |sort _ c m r=>
   obtain rfl:=((f.cv.symm.trans e).trans c.cv).sort_inj;exact⟨fun A=> by rw[D,m],fun a=> by rw[x,r]⟩
  |ne c m r=> exact(Fm e f (by simp[hk]) c).elim
  |nat c=> have:=te e f c (by simp[hk]) (by simp[hk]);simp[hk] at this
  |pi c=> have:=te e f c (by simp[hk]) (by simp[hk]);simp[hk] at this
  |sg c=> have:=te e f c (by simp[hk]) (by simp[hk]);simp[hk] at this
  |id c=> have:=te e f c (by simp[hk]) (by simp[hk]);simp[hk] at this
 | @pi T Q P C R QC Y Qd Pd f D x h4 h5 Z N U i2=>
  intro z E B g e;cases g with
  | @pi _ _ _ C' R' H K J F c m r g4 g5 O S=>
   obtain⟨q,y⟩:=((f.cv.symm.trans e).trans c.cv).pi_inj;obtain⟨s,M⟩:=U m q;have i: ∀d,Gd G W C QC Y d↔Gd G W C' H K d:=fun d=> Gd.iff q s M
   have hd: ∀d,Gd G W C QC Y d->(∀A,Qd d A↔J d A)/\(∀a,Pd d a↔F d a):=fun d hd=> i2 d hd (g4 d ((i d).1 hd)) (y.inst (Cv.rfl' _))
   refine⟨fun A=> ?_,fun a=> ?_⟩
   · rw[Z,O]
     constructor
     · rintro⟨w,I,L,n,p,o,t⟩;exact⟨w,I,L,n,p.trans q,(s _).1 o,fun d h=>((hd d ((i d).2 h)).1 _).1 (t d ((i d).2 h))⟩
     · rintro⟨w,I,L,n,p,o,t⟩;exact⟨w,I,L,n,p.trans q.symm,(s _).2 o,fun d h=>((hd d h).1 _).2 (t d ((i d).1 h))⟩
   · rw[N,S]
     exact⟨fun l d h=>((hd d ((i d).2 h)).2 _).1 (l d ((i d).2 h)),fun l d h=>((hd d h).2 _).2 (l d ((i d).1 h))⟩
  |ne c m r=> exact(Fm e f (by simp[hk]) c).elim
  |nat c=> have:=te e f c (by simp[hk]) (by simp[hk]);simp[hk] at this
  |sort _ c=> have:=te e f c (by simp[hk]) (by simp[hk]);simp[hk] at this
  |sg c=> have:=te e f c (by simp[hk]) (by simp[hk]);simp[hk] at this
  |id c=> have:=te e f c (by simp[hk]) (by simp[hk]);simp[hk] at this
 | @sg T Q P C R QC Y Qd Pd f D x h4 h5 Z N U i2=>
  intro z E B g e;cases g with
  | @sg _ _ _ C' R' H K J F c m r g4 g5 O S=>
   obtain⟨q,y⟩:=((f.cv.symm.trans e).trans c.cv).sg_inj;obtain⟨s,M⟩:=U m q;have i: ∀d,Gd G W C QC Y d↔Gd G W C' H K d:=fun d=> Gd.iff q s M
   have hd: ∀d,Gd G W C QC Y d->(∀A,Qd d A↔J d A)/\(∀a,Pd d a↔F d a):=fun d hd=> i2 d hd (g4 d ((i d).1 hd)) (y.inst (Cv.rfl' _))
   refine⟨fun A=> ?_,fun a=> ?_⟩
   · rw[Z,O]
     constructor
     · rintro⟨w,I,L,n,p,o,t⟩;exact⟨w,I,L,n,p.trans q,(s _).1 o,fun d h=>((hd d ((i d).2 h)).1 _).1 (t d ((i d).2 h))⟩
     · rintro⟨w,I,L,n,p,o,t⟩;exact⟨w,I,L,n,p.trans q.symm,(s _).2 o,fun d h=>((hd d h).1 _).2 (t d ((i d).1 h))⟩
   · rw[N,S,M]
     exact⟨fun l=>⟨l.1,fun d h k=>((hd d ((i d).2 h)).2 _).1 (l.2 d ((i d).2 h) k)⟩,fun l=>⟨l.1,fun d h k=>((hd d h).2 _).2 (l.2 d ((i d).1 h) k)⟩⟩
  |ne c m r=> exact(Fm e f (by simp[hk]) c).elim
  |nat c=> have:=te e f c (by simp[hk]) (by simp[hk]);simp[hk] at this
  |sort _ c=> have:=te e f c (by simp[hk]) (by simp[hk]);simp[hk] at this
  |pi c=> have:=te e f c (by simp[hk]) (by simp[hk]);simp[hk] at this
  |id c=> have:=te e f c (by simp[hk]) (by simp[hk]);simp[hk] at this
 | @id T Q P X u v QX PX f D x h4 h5 Z N U=>
  intro z E B g e;cases g with
  | @id _ _ _ X' u' v' QX' PX' c m r g4 g5 O S=>
   obtain⟨q,y,e3⟩:=((f.cv.symm.trans e).trans c.cv).id_inj;obtain⟨s,M⟩:=U m q;have i: ∀d,Gd G W X QX PX d↔Gd G W X' QX' PX' d:=fun d=> Gd.iff q s M
   refine⟨fun A=> ?_,fun a=> ?_⟩
   · rw[Z,O]
     constructor
     · rintro⟨w,X2,u2,v2,n,p,lu,lv,o,t,l5⟩;exact⟨w,X2,u2,v2,n,p.trans q,lu.trans y,lv.trans e3,(s _).1 o,(i _).1 t,(i _).1 l5⟩
     · rintro⟨w,X2,u2,v2,n,p,lu,lv,o,t,l5⟩;exact⟨w,X2,u2,v2,n,p.trans q.symm,lu.trans y.symm,lv.trans e3.symm,(s _).2 o,(i _).2 t,(i _).2 l5⟩
   · rw[N,S]
     constructor
     · rintro(⟨b,n,p,o⟩ |l)
       · exact .inl ⟨b,n,p.trans y,o.trans e3⟩
       · exact .inr l
     · rintro(⟨b,n,p,o⟩ |l)
       · exact .inl ⟨b,n,p.trans y.symm,o.trans e3.symm⟩
       · exact .inr l
  |ne c m r=> exact(Fm e f (by simp[hk]) c).elim
  |nat c=> have:=te e f c (by simp[hk]) (by simp[hk]);simp[hk] at this
  |sort _ c=> have:=te e f c (by simp[hk]) (by simp[hk]);simp[hk] at this
  |pi c=> have:=te e f c (by simp[hk]) (by simp[hk]);simp[hk] at this
  |sg c=> have:=te e f c (by simp[hk]) (by simp[hk]);simp[hk] at this
 |ne f D x=>
  intro z E B g e;cases g with
  |ne c m r=> exact⟨fun A=> by rw[D,m],fun a=> by rw[x,r]⟩
  |nat c=> exact(Fm e.symm c (by simp[hk]) f).elim
  |sort _ c=> exact(Fm e.symm c (by simp[hk]) f).elim
  |pi c=> exact(Fm e.symm c (by simp[hk]) f).elim
  |sg c=> exact(Fm e.symm c (by simp[hk]) f).elim
  |id c=> exact(Fm e.symm c (by simp[hk]) f).elim
theorem Nd.exp{a b:Tm}(h:HR a b)(k:Nd G W b):Nd G W a:=by
 cases k with
 |zero k=> exact .zero (h.trans k)
 |succ d g e i c f=> exact .succ (h.trans d) g e i c f
 |ne k=> exact .ne (k.exp h)
theorem GT.back{k:Nat->Prop}{U}(u: ∀j h a b,HR a b->U j h b->U j h a){T:Tm}{Q P:Tm->Prop}(h:GT G W k U T Q P): ∀{a b:Tm},HR a b->P b->P a:=by
 induction h with
 |nat m i f=> intro a b hr e;rw[f] at e⊢;exact e.exp hr
 |sort h m i f=> intro a b hr e;rw[f] at e⊢;exact u _ _ _ _ hr e
 |pi m i f p q r g n o=>
  intro a b hr e;rw[g] at e⊢;exact fun d hd=> o d hd (hr.map (F:=fun x=> .app x d) fun h=> .app _ h) (e d hd)
 |sg m i f p q r g n o=>
  intro a b hr e;rw[g] at e⊢;exact⟨n (hr.map (F:=fun x=> .fst x) fun h=> .fst h) e.1,fun d hd hc=> o d hd (hr.map (F:=fun x=> .snd x) fun h=> .snd h) (e.2 d hd (hc.trans hr.cv.fst))⟩
 |id m i f p q r g n=>
  intro a b hr e;rw[g] at e⊢;rcases e with⟨c,s,v,t⟩ |l
  · exact .inl ⟨c,hr.trans s,v,t⟩
  · exact .inr (l.exp hr)
 |ne m i f=> intro a b hr e;rw[f];trivial
theorem GT.stuck{k:Nat->Prop}{U}(p: ∀j h a,Ne a->U j h a){T:Tm}{Q P:Tm->Prop}(h:GT G W k U T Q P): ∀{a:Tm},Ne a->P a:=by
 induction h with
 |nat g f c=> intro a b;rw[c];exact .ne b
 |sort h g f c=> intro a b;rw[c];exact p _ _ _ b
 |pi g f c m n o e i l=>
  intro a b;rw[e];exact fun d hd=> l d hd (b.app d)
 |sg g f c m n o e i l=>
  intro a b;rw[e];exact⟨i b.fst,fun d hd hc=> l d hd b.snd⟩
 |id g f c m n o e i=>
  intro a b;rw[e];exact .inr b
 |ne g f c=> intro a b;rw[c];trivial
theorem GL.back{k:Nat->Prop}{T:Tm}{Q P:Tm->Prop}(h:GL G W k T Q P){a b:Tm}(hr:HR a b)(c:P b):P a:=
 GT.back (fun j _ a b hr c=> by
  rw[Rr] at c⊢;obtain⟨Q,P,c⟩:=c;exact⟨Q,P,GT.exp hr c⟩) h hr c
theorem GL.stuck{k:Nat->Prop}{T:Tm}{Q P:Tm->Prop}(h:GL G W k T Q P){a:Tm}(b:Ne a):P a:=
 GT.stuck (fun j _ a b=> by
  rw[Rr];exact⟨_,_,.ne b (fun _=> Iff.rfl) (fun _=> Iff.rfl)⟩) h b
theorem GL.eq{k k':Nat->Prop}{T c:Tm}{Q P d b:Tm->Prop}(h:GL G W k T Q P)(f:GL G W k' c d b)(e:Cv T c):(∀A,Q A↔d A)/\(∀a,P a↔b a):=GT.eq h f e
theorem GL.re{k:Nat->Prop}{T A:Tm}{Q P:Tm->Prop}(h:GL G W k T Q P)(hA:Q A):GL G W k A Q P:=GT.re h hA
theorem GL.w{k:Nat->Prop}{T A:Tm}{Q P:Tm->Prop}(h:GL G W k T Q P)(hA:Q A):W A:=GT.w h hA
theorem GL.q{k:Nat->Prop}{T:Tm}{Q P:Tm->Prop}(h:GL G W k T Q P)(hT:W T):Q T:=GT.q h hT
theorem GL.gd{k g:Nat->Prop}{T a:Tm}{Q P f b:Tm->Prop}(h:GL G W k T Q P)(c:GL G W g a f b)(e:Cv T a){d:Tm}(hd:Gd G W T Q P d):Gd G W a f b d:=
 (Gd.iff e (h.eq c e).1 (h.eq c e).2).1 hd
theorem GL.nat_inv{k:Nat->Prop}{T:Tm}{Q P:Tm->Prop}(h:GL G W k T Q P)(e:Cv T .nat): ∀a,P a↔Nd G W a:=
 (h.eq (k':=k) (.nat (.refl _) (fun _=> Iff.rfl) (fun _=> Iff.rfl)) e).2
theorem GL.sort_inv{k:Nat->Prop}{T:Tm}{Q P:Tm->Prop}{j:Nat}(h:GL G W k T Q P)(e:HR T (.sort j)):k j/\ ∀a,P a↔Uv G W j a:=by
 cases h with
 |sort d b f c=> obtain rfl:=e.sort_det b;exact⟨d,c⟩
 |ne b f c=> exact(b.not e (by simp[hk])).elim
 |nat b=> have:=e.det b (by simp[hk]) (by simp[hk]);cases this
 |pi b=> have:=e.det b (by simp[hk]) (by simp[hk]);cases this
 |sg b=> have:=e.det b (by simp[hk]) (by simp[hk]);cases this
 |id b=> have:=e.det b (by simp[hk]) (by simp[hk]);cases this
theorem GL.pi_inv{k:Nat->Prop}{T C R:Tm}{Q P:Tm->Prop}(h:GL G W k T Q P)(e:HR T (.pi C R)): ∃(b c:Tm->Prop) (i l:Tm->Tm->Prop),GL G W k C b c/\b C/\(∀d,Gd G W C b c d->GL G W k (R.inst d) (i d) (l d))/\(∀d,Gd G W C b c d->i d (R.inst d))/\
 (∀A,Q A↔W A/\ ∃g n,HR A (.pi g n)/\Cv g C/\b g/\ ∀d,Gd G W C b c d->i d (n.inst d))/\(∀f,P f↔ ∀d,Gd G W C b c d->l d (.app f d)):=by
 cases h with
 |pi a j m r p q o=> obtain⟨rfl,rfl⟩:=e.pi_det a;exact⟨_,_,_,_,j,m,r,p,q,o⟩
 |ne a j m=> exact(a.not e (by simp[hk])).elim
 |nat a=> have:=e.det a (by simp[hk]) (by simp[hk]);cases this
 |sort _ a=> have:=e.det a (by simp[hk]) (by simp[hk]);cases this
 |sg a=> have:=e.det a (by simp[hk]) (by simp[hk]);cases this
 |id a=> have:=e.det a (by simp[hk]) (by simp[hk]);cases this
theorem GL.sg_inv{k:Nat->Prop}{T C R:Tm}{Q P:Tm->Prop}(h:GL G W k T Q P)(e:HR T (.sg C R)): ∃(b c:Tm->Prop) (i l:Tm->Tm->Prop),GL G W k C b c/\b C/\(∀d,Gd G W C b c d->GL G W k (R.inst d) (i d) (l d))/\(∀d,Gd G W C b c d->i d (R.inst d))/\
 (∀A,Q A↔W A/\ ∃g n,HR A (.sg g n)/\Cv g C/\b g/\ ∀d,Gd G W C b c d->i d (n.inst d))/\(∀f,P f↔c (.fst f)/\ ∀d,Gd G W C b c d->Cv d (.fst f)->l d (.snd f)):=by
 cases h with
 |sg a j m r p q o=> obtain⟨rfl,rfl⟩:=e.sg_det a;exact⟨_,_,_,_,j,m,r,p,q,o⟩
 |ne a j m=> exact(a.not e (by simp[hk])).elim
 |nat a=> have:=e.det a (by simp[hk]) (by simp[hk]);cases this
 |sort _ a=> have:=e.det a (by simp[hk]) (by simp[hk]);cases this
 |pi a=> have:=e.det a (by simp[hk]) (by simp[hk]);cases this
 |id a=> have:=e.det a (by simp[hk]) (by simp[hk]);cases this
theorem GL.id_inv{k:Nat->Prop}{T X u v:Tm}{Q P:Tm->Prop}(h:GL G W k T Q P)(e:HR T (.id X u v)): ∃c d:Tm->Prop,GL G W k X c d/\c X/\Gd G W X c d u/\Gd G W X c d v/\(∀e,P e↔(∃b,HR e (.refl b)/\Cv b u/\Cv b v)\/Ne e):=by
 cases h with
 |id a f g l j m i=> obtain⟨rfl,rfl,rfl⟩:=e.id_det a;exact⟨_,_,f,g,l,j,i⟩
 |ne a f g=> exact(a.not e (by simp[hk])).elim
 |nat a=> have:=e.det a (by simp[hk]) (by simp[hk]);cases this
 |sort _ a=> have:=e.det a (by simp[hk]) (by simp[hk]);cases this
 |pi a=> have:=e.det a (by simp[hk]) (by simp[hk]);cases this
 |sg a=> have:=e.det a (by simp[hk]) (by simp[hk]);cases this
def dep:Tm->Nat
 | .var _=> 1
 | .sort _=> 1
 | .pi A B=> max (dep A) (dep B)+1
 | .lam A t=> max (dep A) (dep t)+1
 | .app f a=> max (dep f) (dep a)+1
 | .nat=> 1
 | .zero=> 1
 | .succ a=> dep a+1
 | .elim p z s a=> max (max (dep p) (dep z)) (max (dep s) (dep a))+1
 | .id T a b=> max (dep T) (max (dep a) (dep b))+1
 | .refl a=> dep a+1
 | .move p e a=> max (dep p) (max (dep e) (dep a))+1
 | .sg A B=> max (dep A) (dep B)+1
 | .pair T a b=> max (dep T) (max (dep a) (dep b))+1
 | .fst a=> dep a+1
 | .snd a=> dep a+1
theorem dep_pos(t:Tm):1<=dep t:=by cases t <;> simp[dep]
theorem dep_ren(t:Tm): ∀r:Nat->Nat,dep (t.ren r)=dep t:=by
 induction t <;> intro r <;> simp only[ren,dep, *]
theorem Ur(t:Tm): ∀(s:Nat->Tm) (d:Nat),(∀n,dep (s n)<=d+1)->dep (t.sub s)<=dep t+d:=by
 have f: ∀(s:Nat->Tm) (d:Nat),(∀n,dep (s n)<=d+1)-> ∀n,dep (ups s n)<=d+1:=by
  intro s d h n;cases n with
  |zero=> show 1<=d+1;omega
  |succ n=> show dep ((s n).ren _)<=_;rw[dep_ren];exact h n
 induction t <;> intro s d h <;>(try have e:=f s d h) <;> simp only[sub,dep]
 case var n=> exact Nat.le_trans (h n) (by omega)
 case pi A B a b=> have:=a s d h;have:=b _ d e;omega
 case lam A B a b=> have:=a s d h;have:=b _ d e;omega
 case sg A B a b=> have:=a s d h;have:=b _ d e;omega
 case app a b=> have:=a s d h;have:=b s d h;omega
 case succ a=> have:=a s d h;omega
 case refl a=> have:=a s d h;omega
 case fst a=> have:=a s d h;omega
 case snd a=> have:=a s d h;omega
 case elim a b c g=> have:=a s d h;have:=b s d h;have:=c s d h;have:=g s d h;omega
 case id a b c=> have:=a s d h;have:=b s d h;have:=c s d h;omega
 case move a b c=> have:=a s d h;have:=b s d h;have:=c s d h;omega
 case pair a b c=> have:=a s d h;have:=b s d h;have:=c s d h;omega
 all_goals omega
theorem dep_inst(t u:Tm):dep (t.inst u)+1<=dep t+dep u:=by
 have a:=dep_pos u;have:=Ur t (cns u var) (dep u - 1) (fun n=> by
  cases n with
  |zero=> show dep u<=_;omega
  |succ n=> show 1<=dep u - 1+1;omega)
 show dep (t.sub _)+1<=_
 omega
theorem BE{t:Tm}(h:dep t<=1):(∃n,t=var n)\/(∃n,t=sort n)\/t=nat\/t=zero:=by
 cases t with
 |var n=> exact .inl ⟨n,rfl⟩
 |sort n=> exact .inr (.inl ⟨n,rfl⟩)
 |nat=> exact .inr (.inr (.inl rfl))
 |zero=> exact .inr (.inr (.inr rfl))
 |pi A B=> have:=dep_pos A;simp only[dep] at h;omega
 |lam A B=> have:=dep_pos A;simp only[dep] at h;omega
 |app A B=> have:=dep_pos A;simp only[dep] at h;omega
 |succ A=> have:=dep_pos A;simp only[dep] at h;omega
 |elim A=> have:=dep_pos A;simp only[dep] at h;omega
 |id A=> have:=dep_pos A;simp only[dep] at h;omega
 |refl A=> have:=dep_pos A;simp only[dep] at h;omega
 |move A=> have:=dep_pos A;simp only[dep] at h;omega
 |sg A=> have:=dep_pos A;simp only[dep] at h;omega
 |pair A=> have:=dep_pos A;simp only[dep] at h;omega
 |fst A=> have:=dep_pos A;simp only[dep] at h;omega
 |snd A=> have:=dep_pos A;simp only[dep] at h;omega
theorem Ng{b:Tm}(h:dep b<=1)(a:Tm):b.inst a=a\/dep (b.inst a)<=1:=by
 rcases BE h with⟨n,rfl⟩ |⟨n,rfl⟩ |rfl|rfl
 · cases n with
   |zero=> exact .inl rfl
   |succ n=> exact .inr (aP _)
 all_goals exact .inr (aP _)
inductive Ev:Nat->Tm->Tm->Prop where
 |now {t}:hk t≠0->Ev 0 t t
 |step {n a b c}:Hd a b->Ev n b c->Ev (n+1) a c
theorem Ev.of{a b:Tm}(h:HR a b):hk b≠0-> ∃n,Ev n a b:=by
 induction h with
 |refl t=> exact fun k=>⟨0,.now k⟩
 |step c _ ih=> intro k;obtain⟨n,e⟩:=ih k;exact⟨n+1,.step c e⟩
theorem Ev.hr{n:Nat}{a b:Tm}(h:Ev n a b):HR a b/\hk b≠0:=by
 induction h with
 |now k=> exact⟨.refl _,k⟩
 |step c _ ih=> exact⟨.step c ih.1,ih.2⟩
theorem Ev.det{n m:Nat}{a b c:Tm}(h:Ev n a b)(k:Ev m a c):b=c:=h.hr.1.det k.hr.1 h.hr.2 k.hr.2
theorem Ev.val{n:Nat}{t u:Tm}(h:Ev n t u)(k:hk t≠0):u=t:=by
 cases h with
 |now=> rfl
 |step a=> exact absurd a.hk k
theorem Ev.var{n i:Nat}{u:Tm}(h:Ev n (.var i) u):False:=by
 cases h with
 |now k=> exact k rfl
 |step a=> cases a
theorem Ev.app: ∀{n:Nat} {f a u:Tm},Ev n (.app f a) u-> ∃A b i j,Ev i f (.lam A b)/\Ev j (b.inst a) u/\j < n
 |0,f,a,u,h=> by cases h with|now k=> exact absurd rfl k
 |n+1,f,a,u,h=> by
  cases h with
  |step l c=>
   cases l with
   |beta A b=> exact⟨_,_,0,n,.now (by simp[M.hk]),c,by omega⟩
   |app _ d=>
    obtain⟨A,b,i,j,g,e,hl⟩:=Ev.app c;exact⟨A,b,i+1,j,.step d g,e,by omega⟩
theorem Ev.elim: ∀{n:Nat} {p z s a u:Tm},Ev n (.elim p z s a) u->(∃i j,Ev i a .zero/\Ev j z u/\j < n)\/ ∃m i j,Ev i a (.succ m)/\Ev j (.app (.app s m) (.elim p z s m)) u/\j < n
 |0,p,z,s,a,u,h=> by cases h with|now k=> exact absurd rfl k
 |n+1,p,z,s,a,u,h=> by
  cases h with
  |step f c=>
   cases f with
   |ez=> exact .inl ⟨0,n,.now (by simp[M.hk]),c,by omega⟩
   |es _ _ _ m=> exact .inr ⟨_,0,n,.now (by simp[M.hk]),c,by omega⟩
   |elim _ _ _ e=>
    rcases Ev.elim c with⟨i,j,d,b,hl⟩ |⟨m,i,j,d,b,hl⟩
    · exact .inl ⟨i+1,j,.step e d,b,by omega⟩
    · exact .inr ⟨m,i+1,j,.step e d,b,by omega⟩
theorem Ev.move: ∀{n:Nat} {p e a u:Tm},Ev n (.move p e a) u-> ∃b i j,Ev i e (.refl b)/\Ev j a u/\j < n
 |0,p,e,a,u,h=> by cases h with|now k=> exact absurd rfl k
 |n+1,p,e,a,u,h=> by
  cases h with
  |step l c=>
   cases l with
   |mr _ b=> exact⟨_,0,n,.now (by simp[M.hk]),c,by omega⟩
   |move _ _ d=>
    obtain⟨b,i,j,g,f,hl⟩:=Ev.move c;exact⟨b,i+1,j,.step d g,f,by omega⟩
theorem Ev.fst: ∀{n:Nat} {e u:Tm},Ev n (.fst e) u-> ∃T a b i j,Ev i e (.pair T a b)/\Ev j a u/\j < n
 |0,e,u,h=> by cases h with|now k=> exact absurd rfl k
 |n+1,e,u,h=> by
  cases h with
  |step l c=>
   cases l with
   |fp T a b=> exact⟨_,_,_,0,n,.now (by simp[M.hk]),c,by omega⟩
   |fst d=>
    obtain⟨T,a,b,i,j,g,f,hl⟩:=Ev.fst c;exact⟨T,a,b,i+1,j,.step d g,f,by omega⟩
theorem Ev.snd: ∀{n:Nat} {e u:Tm},Ev n (.snd e) u-> ∃T a b i j,Ev i e (.pair T a b)/\Ev j b u/\j < n
 |0,e,u,h=> by cases h with|now k=> exact absurd rfl k
 |n+1,e,u,h=> by
  cases h with
  |step l c=>
   cases l with
   |sp T a b=> exact⟨_,_,_,0,n,.now (by simp[M.hk]),c,by omega⟩
   |snd d=>
    obtain⟨T,a,b,i,j,g,f,hl⟩:=Ev.snd c;exact⟨T,a,b,i+1,j,.step d g,f,by omega⟩
theorem CL{n:Nat}{t u:Tm}(d:dep t<=1)(h:Ev n t u):u=t:=by
 rcases BE d with⟨n,rfl⟩ |⟨n,rfl⟩ |rfl|rfl
 · exact h.var.elim
 all_goals exact h.val (by simp[hk])
theorem v8{n:Nat}{t u:Tm}(d:dep t<=1)(h:Ev n t u):dep u<=1:=by rw[CL d h];exact d
theorem QL{n:Nat}{t u:Tm}(d:dep t<=2)(h:Ev n t u):u=t\/dep u<=1:=by
 by_cases k:hk t=0
 · right
   cases t <;> simp only[dep] at d <;> first|(simp[hk] at k;done) |skip
   case var=> exact h.var.elim
   case app f a=>
    obtain⟨A,b,i,j,e,-,-⟩:=h.app;have:=v8 (by omega) e;have:=dep_pos A;simp only[dep] at*;omega
   case elim p z s a=>
    rcases h.elim with⟨i,j,-,e,-⟩ |⟨m,i,j,e,-⟩
    · exact v8 (by omega) e
    · have:=v8 (by omega) e
      have:=dep_pos m;simp only[dep] at*;omega
   case move p e a=>
    obtain⟨b,i,j,-,e,-⟩:=h.move;exact v8 (by omega) e
   case fst e=>
    obtain⟨T,a,b,i,j,e,-⟩:=h.fst;have:=v8 (by omega) e;have:=dep_pos T;simp only[dep] at*;omega
   case snd e=>
    obtain⟨T,a,b,i,j,e,-⟩:=h.snd;have:=v8 (by omega) e;have:=dep_pos T;simp only[dep] at*;omega
 · exact .inl (h.val k)
theorem Ob{n:Nat}{t u:Tm}(d:dep t<=2)(h:Ev n t u):dep u<=2:=by
 rcases QL d h with rfl|h
 · exact d
 · omega
theorem AL{n:Nat}{t u:Tm}(d:dep t<=3)(h:Ev n t u):u=t\/dep u<=2:=by
 by_cases k:hk t=0
 · right
   cases t <;> simp only[dep] at d <;> first|(simp[hk] at k;done) |skip
   case var=> exact h.var.elim
   case app f a=>
    obtain⟨A,b,i,j,e,c,-⟩:=h.app;have g:dep b<=1:=by
     have:=Ob (by omega) e;simp only[dep] at this;omega
    rcases Ng g a with h|h
    · rw[h] at c
      exact Ob (by omega) c
    · have:=v8 h c
      omega
   case elim p z s a=>
    rcases h.elim with⟨i,j,-,e,-⟩ |⟨m,i,j,e,c,-⟩
    · exact Ob (by omega) e
    · exfalso
      have hm:dep m<=1:=by
       have:=Ob (by omega) e;simp only[dep] at this;omega
      obtain⟨A,b,i,j,o,-,-⟩:=c.app;obtain⟨x,r,v,w,q,l,-⟩:=o.app;have g:dep r<=1:=by
       have:=Ob (by omega) q;simp only[dep] at this;omega
      have:dep (lam A b)<=1:=by
       rcases Ng g m with h|h
       · rw[h] at l
         exact v8 hm l
       · exact v8 h l
      have:=dep_pos A;simp only[dep] at*;omega
   case move p e a=>
    obtain⟨b,i,j,-,e,-⟩:=h.move;exact Ob (by omega) e
   case fst e=>
    obtain⟨T,a,b,i,j,e,c,-⟩:=h.fst;have:=Ob (by omega) e;simp only[dep] at this;have:=v8 (by omega) c;omega
   case snd e=>
    obtain⟨T,a,b,i,j,e,c,-⟩:=h.snd;have:=Ob (by omega) e;simp only[dep] at this;have:=v8 (by omega) c;omega
 · exact .inl (h.val k)
theorem ev3'{n:Nat}{t u:Tm}(d:dep t<=3)(h:Ev n t u):dep u<=3:=by
 rcases AL d h with rfl|h
 · exact d
 · omega
theorem Nu{n:Nat}{b a u:Tm}{k:Nat}(d:dep b<=1)(f:1<=k)(h:Ev n (b.inst a) u)(c: ∀m,Ev m a u->dep u<=k):dep u<=k:=by
 rcases Ng d a with e|e
 · rw[e] at h
   exact c _ h
 · have:=v8 e h
   omega
theorem sL(a:Tm)(l:dep a<=3): ∀(n:Nat) (c u:Tm),dep c<=2->Ev n (c.inst a) u->dep u<=4:=by
 intro n
 induction n using lQ with
 |ind n ih=>
  intro c u d h;have o: ∀m,Ev m a u->dep u<=4:=fun m e=> by have:=ev3' l e;omega
  by_cases k:hk (c.inst a)=0
  · cases c <;> simp only[dep] at d <;> first|(simp[hk,inst,sub] at k;done) |skip
    case var=> exact Nu (aP _) (by omega) h o
    case app f x=>
     obtain⟨A,b,i,j,e,g,hl⟩:=Ev.app (f:=f.inst a) (a:=x.inst a) h;have C:dep b<=2:=by
      have:=Nu (k:=3) (by omega) (by omega) e fun m e=> ev3' l e
      simp only[dep] at this;omega
     rcases Ng (b:=x) (by omega) a with w|w
     · rw[w] at g
       exact ih j hl b u C g
     · have:=dep_inst b (x.inst a)
       have:=Ob (by omega) g;omega
    case elim p z s x=>
     rcases Ev.elim (p:=p.inst a) (z:=z.inst a) (s:=s.inst a) (a:=x.inst a) h with⟨i,j,-,e,-⟩ |⟨m,i,j,e,g,-⟩
     · exact Nu (by omega) (by omega) e o
     · exfalso
       obtain⟨A,b,E,I,B,-,-⟩:=g.app;obtain⟨D,J,F,H,q,-,-⟩:=B.app;rcases Ng (b:=x) (by omega) a with v|v
       · rcases Ng (b:=s) (by omega) a with r|r
         · rw[v] at e
           rw[r] at q;cases e.det q
         · have:=v8 r q
           have:=dep_pos D;simp only[dep] at*;omega
       · have:=v8 v e
         have:=dep_pos m;simp only[dep] at*;omega
    case move p e x=>
     obtain⟨b,i,j,-,g,-⟩:=Ev.move (p:=p.inst a) (e:=e.inst a) (a:=x.inst a) h;exact Nu (by omega) (by omega) g o
    case fst e=>
     obtain⟨T,x,y,i,j,t,g,-⟩:=Ev.fst (e:=e.inst a) h;have:=Nu (k:=3) (by omega) (by omega) t fun m e=> ev3' l e
     simp only[dep] at this;have:=Ob (by omega) g;omega
    case snd e=>
     obtain⟨T,x,y,i,j,t,g,-⟩:=Ev.snd (e:=e.inst a) h;have:=Nu (k:=3) (by omega) (by omega) t fun m e=> ev3' l e
     simp only[dep] at this;have:=Ob (by omega) g;omega
  · rw[h.val k]
    have:=dep_inst c a;omega
theorem IL(m:Tm)(hm:dep m<=2){n:Nat}{b B c:Tm}(l:dep b<=2)(h:Ev n (b.inst m) (.lam B c)):dep c<=1\/c=wk m:=by
 have D: ∀{n:Nat} {B c:Tm},Ev n m (.lam B c)->dep c<=1:=fun e=> by
  have:=Ob hm e;simp only[dep] at this;omega
 have ll: ∀{n:Nat} {x B c:Tm},dep x<=1->Ev n (x.inst m) (.lam B c)->dep c<=1:=fun{n x B c} hx e=> by
  rcases Ng hx m with g|g
  · rw[g] at e
    exact D e
  · have:=v8 g e
    have:=dep_pos B;simp only[dep] at*;omega
 by_cases k:hk (b.inst m)=0
 · left
   cases b <;> simp only[dep] at l <;> first|(simp[hk,inst,sub] at k;done) |skip
   case var=> exact ll (aP _) h
   case app f x=>
    obtain⟨A,b,i,j,e,d,hl⟩:=Ev.app (f:=f.inst m) (a:=x.inst m) h;have l:=ll (by omega) e;rcases Ng l (x.inst m) with g|g
    · rw[g] at d
      exact ll (by omega) d
    · have:=v8 g d
      have:=dep_pos B;simp only[dep] at*;omega
   case elim p z s x=>
    rcases Ev.elim (p:=p.inst m) (z:=z.inst m) (s:=s.inst m) (a:=x.inst m) h with⟨i,j,-,e,-⟩ |⟨u,i,j,e,d,-⟩
    · exact ll (by omega) e
    · exfalso
      obtain⟨A,b,E,J,v,-,-⟩:=d.app;obtain⟨C,K,H,I,o,-,-⟩:=v.app;rcases Ng (b:=x) (by omega) m with g|g
      · rcases Ng (b:=s) (by omega) m with q|q
        · rw[g] at e
          rw[q] at o;cases e.det o
        · have:=v8 q o
          have:=dep_pos C;simp only[dep] at*;omega
      · have:=v8 g e
        have:=dep_pos u;simp only[dep] at*;omega
   case move p e x=>
    obtain⟨b,i,j,-,d,-⟩:=Ev.move (p:=p.inst m) (e:=e.inst m) (a:=x.inst m) h;exact ll (by omega) d
   case fst e=>
    obtain⟨T,x,y,i,j,r,d,-⟩:=Ev.fst (e:=e.inst m) h;have:=Nu (k:=2) (by omega) (by omega) r fun m e=> Ob hm e
    simp only[dep] at this;have:=v8 (by omega) d;simp only[dep] at this;omega
   case snd e=>
    obtain⟨T,x,y,i,j,r,d,-⟩:=Ev.snd (e:=e.inst m) h;have:=Nu (k:=2) (by omega) (by omega) r fun m e=> Ob hm e
    simp only[dep] at this;have:=v8 (by omega) d;simp only[dep] at this;omega
 · have e:=h.val k
   cases b <;> first|(exfalso;cases e;done) |skip
   case var n=> exact .inl (ll (aP _) h)
   case lam F w=>
    simp only[inst,sub,lam.injEq] at e;obtain⟨-,rfl⟩:=e;simp only[dep] at l;rcases BE (t:=w) (by omega) with⟨n,rfl⟩ |⟨n,rfl⟩ |rfl|rfl
    · match n with
      |0=> exact .inl (aP _)
      |1=> exact .inr rfl
      |n+2=> exact .inl (aP _)
    all_goals exact .inl (aP _)
theorem uL: ∀(n:Nat) (t u:Tm),dep t<=4->Ev n t u->dep u<=4:=by
 intro n
 induction n using lQ with
 |ind n ih=>
  intro t u d h;by_cases k:hk t=0
  · cases t <;> simp only[dep] at d <;> first|(simp[hk] at k;done) |skip
    case var=> exact h.var.elim
    case app f a=>
     obtain⟨A,b,i,j,e,g,-⟩:=h.app;have o:dep b<=2:=by
      have:=ev3' (by omega) e;simp only[dep] at this;omega
     exact sL a (by omega) j b u o g
    case elim p z s a=>
     rcases h.elim with⟨i,j,-,e,hl⟩ |⟨m,i,j,e,g,hl⟩
     · have:=ev3' (by omega) e
       omega
     · have hm:dep m<=2:=by
        have:=ev3' (by omega) e;simp only[dep] at this;omega
       obtain⟨B,c,C,w,r,l,E⟩:=g.app;obtain⟨A,b,F,D,x,y,v⟩:=r.app;have o:dep b<=2:=by
        have:=ev3' (by omega) x;simp only[dep] at this;omega
       rcases IL m hm o y with hc|rfl
       · rcases Ng hc (.elim p z s m) with q|q
         · rw[q] at l
           exact ih w (by omega) _ u (by simp only[dep];omega) l
         · have:=v8 q l
           omega
       · rw[wk_inst] at l
         have:=Ob hm l;omega
    case move p e a=>
     obtain⟨b,i,j,-,e,-⟩:=h.move;have:=ev3' (by omega) e;omega
    case fst e=>
     obtain⟨T,a,b,i,j,e,g,-⟩:=h.fst;have:=ev3' (by omega) e;simp only[dep] at this;have:=Ob (by omega) g;omega
    case snd e=>
     obtain⟨T,a,b,i,j,e,g,-⟩:=h.snd;have:=ev3' (by omega) e;simp only[dep] at this;have:=Ob (by omega) g;omega
  · rw[h.val k]
    exact d
