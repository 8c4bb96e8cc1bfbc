/-
  Lemmas towards the law, 3: MThm, MDepT, MCtx, MSr.
-/
import Derived.Test.YtckhbnmfnpolgaaGreatBAB
open Iff renaming rfl->iY
open Nat renaming le_trans->bK,le_refl->aM
set_option linter.unusedVariables false
namespace Go.Proofs.YtckhbnmfnpolgaaGreat.M
open Tm
def fvb(n:Nat):Tm->Prop
 | .var i=> i < n
 | .sort _=> True
 | .pi A B=> fvb n A/\fvb (n+1) B
 | .lam A t=> fvb n A/\fvb (n+1) t
 | .app f a=> fvb n f/\fvb n a
 | .nat=> True
 | .zero=> True
 | .succ a=> fvb n a
 | .elim p z s a=> fvb n p/\fvb n z/\fvb n s/\fvb n a
 | .id T a b=> fvb n T/\fvb n a/\fvb n b
 | .refl a=> fvb n a
 | .move p e a=> fvb n p/\fvb n e/\fvb n a
 | .sg A B=> fvb n A/\fvb (n+1) B
 | .pair T a b=> fvb n T/\fvb n a/\fvb n b
 | .fst a=> fvb n a
 | .snd a=> fvb n a
theorem lk_lt{G:List Tm}{n:Nat}{A:Tm}(h:lk G n=some A):n < G.length:=by
 unfold lk at h;obtain⟨B,a,-⟩:=Option.map_eq_some_iff.1 h;exact(List.getElem?_eq_some_iff.1 a).1
theorem Ty.fv{G:List Tm}{t A:Tm}(h:Ty G t A):fvb G.length t:=by
 induction h <;> simp only[fvb,List.length_cons] at* <;> first|exact lk_lt (by assumption) |(repeat' apply And.intro) <;> assumption
structure Ye (G:List Tm) (W:Tm->Prop):Prop where
 var: ∀n,W (.var n)
 sort: ∀n,W (.sort n)
 nat:W .nat
 zero:W .zero
 succ: ∀{a},W a->W (.succ a)
 pi: ∀{A} B,W A->W (.pi A B)
 sg: ∀{A} B,W A->W (.sg A B)
 lam: ∀{A} t,W A->W (.lam A t)
 app: ∀{f a},W f->W a->W (.app f a)
 elim: ∀{p z s a},W p->W z->W s->W a->W (.elim p z s a)
 id: ∀{T a b},W T->W a->W b->W (.id T a b)
 refl: ∀{a},W a->(∀A,Ty G a A->W A)->W (.refl a)
 move: ∀{p e a},W p->W e->W a->W (.move p e a)
 pair: ∀{T a b},W T->W a->W b->W (.pair T a b)
 fst: ∀{a},W a->W (.fst a)
 snd: ∀{a},W a->W (.snd a)
variable {G : List Tm} {W : Tm → Prop}
def Xe:Nat->Prop:=fun _=> True
def Ok(G:List Tm)(W:Tm->Prop)(T a:Tm):Prop:= ∃Q P,GL G W Xe T Q P/\Q T/\Gd G W T Q P a
theorem Ok.own{T a:Tm}(h:Ok G W T a): ∃A,Ty G a A/\Ok G W A a/\Cv A T:=by
 obtain⟨Q,P,d,i,g,⟨A,c,f,b⟩,e⟩:=h;exact⟨A,c,⟨Q,P,d.re b,b,g,⟨A,c,Cv.rfl' _,b⟩,e⟩,f⟩
theorem Ok.w{T a:Tm}(h:Ok G W T a):W a:=by
 obtain⟨Q,P,d,f,b,c,e⟩:=h;exact b
theorem Ok.wt{T a:Tm}(h:Ok G W T a):W T:=by
 obtain⟨Q,P,b,c,d⟩:=h;exact b.w c
theorem Ok.gd{T b a:Tm}(h:Ok G W T a){k:Nat->Prop}{Q P:Tm->Prop}(g:GL G W k b Q P)(e:Cv T b):Gd G W b Q P a:=by
 obtain⟨f,i,c,j,d⟩:=h;exact c.gd g e d
theorem Ok.p{T b a:Tm}(h:Ok G W T a){k:Nat->Prop}{Q P:Tm->Prop}(g:GL G W k b Q P)(e:Cv T b):P a:=(h.gd g e).2.2
theorem Ok.ty{T a:Tm}(h:Ok G W T a){j:Nat}(e:HR T (.sort j)): ∃Q P,GL G W (fun i=> i < j) a Q P/\Q a:=by
 obtain⟨Q,P,d,n,f,l,b⟩:=h;obtain⟨m,c⟩:=d.sort_inv e;rw[c,go] at b;obtain⟨k,g,b⟩:=b;exact⟨k,g,b,b.q f⟩
theorem GL.top{k:Nat->Prop}{T:Tm}{Q P:Tm->Prop}(h:GL G W k T Q P):GL G W Xe T Q P:=h.up fun _ _=> trivial
theorem Ok.of{k:Nat->Prop}{T a:Tm}{Q P:Tm->Prop}(h:GL G W k T Q P)(b:Q T)(hd:Gd G W T Q P a):Ok G W T a:=⟨Q,P,h.top,b,hd⟩
def Vl(G:List Tm)(W:Tm->Prop)(n:Nat)(D:List Tm)(a s:Nat->Tm):Prop:= ∀x,x < n-> ∃X,Ty D (a x) X/\Ok G W (X.sub s) ((a x).sub s)
theorem Vl.now{n:Nat}{D:List Tm}{a s:Nat->Tm}(h:Vl G W n D a s):Vl G W n G (fun x=>(a x).sub s) Tm.var:=by
 intro x hx;obtain⟨X,f,d⟩:=h x hx;obtain⟨A,c,b,e⟩:=d.own;refine⟨A,c, ?_⟩;rw[Zb,Zb];exact b
theorem Vl.cns{n:Nat}{D:List Tm}{a s:Nat->Tm}(h:Vl G W n D a s){A d:Tm}(hd:Ok G W ((A.sub a).sub s) d):Vl G W (n+1) (A.sub a::D) (ups a) (Tm.cns d s):=by
 intro x hx;cases x with
 |zero=> exact⟨_,.var (j60 _ _),by rw[Do];exact hd⟩
 |succ x=>
  obtain⟨X,b,c⟩:=h x (by omega);refine⟨_,b.wk _, ?_⟩
  show Ok G W _ ((Tm.wk (a x)).sub _)
  rw[Do,Do];exact c
def S1(G:List Tm)(W:Tm->Prop)(t:Tm):Prop:= ∀(n:Nat) (D:List Tm) (a s:Nat->Tm) (T:Tm),fvb n t->Vl G W n D a s->Ya D G s->Ty D (t.sub a) T-> ∃Q P,GL G W Xe (T.sub s) Q P/\Q (T.sub s)
def S3(G:List Tm)(W:Tm->Prop)(t:Tm):Prop:= ∀(n:Nat) (D:List Tm) (a s:Nat->Tm) (T:Tm),fvb n t->Vl G W n D a s->Ya D G s->Ty D (t.sub a) T->Ok G W (T.sub s) ((t.sub a).sub s)
theorem fin{t:Tm}(f:S1 G W t)(l: ∀(n:Nat) (D:List Tm) (a s:Nat->Tm) (T:Tm) (Q P:Tm->Prop),fvb n t->Vl G W n D a s->Ya D G s->Ty D (t.sub a) T->GL G W Xe (T.sub s) Q P->Q (T.sub s)->
 (∃A,Ty G ((t.sub a).sub s) A/\Cv A (T.sub s)/\Q A)->W ((t.sub a).sub s)/\P ((t.sub a).sub s)):S3 G W t:=by
 intro n D a s T hf hv hs ht;obtain⟨Q,P,b,g⟩:=f n D a s T hf hv hs ht;obtain⟨A,d,c⟩:=ht.sub hs;have e:(t.sub a).sub s=t.sub (fun x=>(a x).sub s):=Rm t s a;obtain⟨o,m,m1,i⟩:=f n G _ Tm.var A hf hv.now (Ya.var G) (by rw[<-e];exact d);rw[Zb] at m1 i;have hA:Q A:=((m1.eq b c).1 A).1 i;obtain⟨j,k⟩:=l n D a s T Q P hf hv hs ht b g ⟨A,d,c,hA⟩;exact⟨Q,P,b,g,j,⟨A,d,c,hA⟩,k⟩
theorem Ok.papp{F f:Tm}(h:Ok G W F f){C R:Tm}(e:HR F (.pi C R)){T a:Tm}(t:Ok G W T a)(k:Cv T C): ∃Q P,GL G W Xe (R.inst a) Q P/\Q (R.inst a)/\P (.app f a)/\ ∀A,Ty G f A-> ∃c b,HR A (.pi c b)/\Cv c C/\Q (b.inst a):=by
 obtain⟨Q,P,i,H,I,⟨A,j,w,s⟩,l⟩:=h;obtain⟨y,E,x,v,u,B,r,m,q,o⟩:=i.pi_inv e;have hd:=t.gd u k;refine⟨_,_,r a hd,m a hd,(o f).1 l a hd,fun D d=> ?_⟩;obtain rfl:=j.det d;obtain⟨-,c,b,p,n,z,g⟩:=(q _).1 s;exact⟨c,b,p,n,g a hd⟩
theorem Ok.fam{F f:Tm}(h:Ok G W F f){C D:Tm}{k:Nat}(e:HR F (.pi C D))(n:HR D (.sort k)){T a:Tm}(o:Ok G W T a)(c:Cv T C)(p:W (.app f a)): ∃Q P,GL G W Xe (.app f a) Q P/\Q (.app f a):=by
 obtain⟨Q,P,g,s,d,-⟩:=h.papp e o c;obtain⟨r,i⟩:=g.sort_inv (j:=k) (by have:=n.sub (Tm.cns a Tm.var);exact this);rw[i,go] at d;obtain⟨l,m,b⟩:=d;exact⟨l,m,b.top,GL.q b p⟩
theorem Lg{k:Nat->Prop}:GL G W k .nat (fun A=> W A/\HR A .nat) (Nc G W):= .nat (.refl _) (fun _=> iY) (fun _=> iY)
theorem wg{k:Nat->Prop}{j:Nat}(h:k j):GL G W k (.sort j) (fun A=> W A/\HR A (.sort j)) (Uv G W j):= .sort h (.refl _) (fun _=> iY) (fun _=> iY)
theorem Ok.nat(f:Ye G W){b A:Tm}(d:W b)(g:Ty G b A)(a:Cv A .nat)(c:W A)(e:Nc G W b):Ok G W .nat b:=⟨_,_,Lg,⟨f.nat,.refl _⟩,d,⟨A,g,a,c,a.to_nat⟩,e⟩
theorem RA(j:Ye G W){p z s F C D Z S:Tm}{k:Nat}(d:Ok G W F p)(v:HR F (.pi C D))(E:Cv C .nat)(q:HR D (.sort k))(e:Ok G W Z z)(J:Cv Z (.app p .zero))(hs:Ok G W S s)(I:Cv S (stepTy p)):
 ∀{a:Tm},Nc G W a->W a-> ∀{A:Tm},Ty G a A->Cv A .nat->W A-> ∀{Q P:Tm->Prop},GL G W Xe (.app p a) Q P->P (.elim p z s a):=by
 intro a h
 induction h with
 | @zero a h=>
  intro L A hA o K Q P g;refine g.back ((h.map (F:=fun x=> .elim p z s x) fun h=> .elim _ _ _ h).trans (.one (.ez p z s))) ?_;exact e.p g (J.trans (.app (Cv.rfl' _) h.cv.symm))
 | @succ a b B y c m n t h6 ih=>
  intro L A hA o K Q P g;refine g.back ((y.map (F:=fun x=> .elim p z s x) fun h=> .elim _ _ _ h).trans (.one (.es p z s b))) ?_;have H:=Ok.nat j c m n t h6;obtain⟨C1,R1,r1,r2,r3⟩:=I.to_pi;obtain⟨Q1,P1,f,s2,l,-⟩:=hs.papp r1 H r2.symm;have e1:Cv (R1.inst b) (.pi (.app p b) (.app (Tm.wk p) (.succ (Tm.wk b)))):=by
   have:=r3.inst (Cv.rfl' b);have e2:(Tm.pi (.app (Tm.wk p) (.var 0)) (.app (p.ren (fun i=> i+2)) (.succ (.var 1)))).inst b= .pi (.app p b) (.app (Tm.wk p) (.succ (Tm.wk b))):=by
    unfold Tm.inst;simp only[Tm.sub,ups,Tm.cns];rw[Do,Zb,Nw]
    congr 2
    rw[Tm.wk,Ki]
    rfl
   rwa [e2] at this
  obtain⟨Qb,M,u,r⟩:=d.fam v q H E.symm (j.app d.w c);have sx:Ty G (.elim p z s b) (.app p b):=by
   obtain⟨Fp,V,p2,p3⟩:=d.own;obtain⟨Zz,z1,z2,Y⟩:=e.own;obtain⟨Ss,f,s2,l⟩:=hs.own;obtain⟨C',D',q1,q2,N⟩:=(p3.trans v.cv).to_pi;exact .elim V q1 (q2.trans E) (N.trans q.cv).to_sort z1 (Y.trans J) f (l.trans I) m n
  have he:Ok G W (.app p b) (.elim p z s b):=⟨Qb,M,u,r,j.elim d.w e.w hs.w c,⟨_,sx,Cv.rfl' _,r⟩,ih c m n t u⟩;obtain⟨C2,T,t1,t2,R⟩:=e1.to_pi;obtain⟨QC,PC,Qd,Pd,X,g2,g3,g4,g5,U⟩:=f.pi_inv t1;have hd:=he.gd X t2.symm;have h7:=(U _).1 l _ hd;have O:=g3 _ hd;have e3:Cv (T.inst (.elim p z s b)) (.app p a):=by
   have:=R.inst (Cv.rfl' (.elim p z s b));have e4:(Tm.app (Tm.wk p) (.succ (Tm.wk b))).inst (.elim p z s b)= .app p (.succ b):=by
    show Tm.app ((Tm.wk p).inst _) (.succ ((Tm.wk b).inst _))=_
    rw[q80,q80]
   rw[e4] at this;exact this.trans (.app (Cv.rfl' _) y.cv.symm)
  exact((O.eq g e3).2 _).1 h7
 |ne h=> intro L A hA o K Q P g;exact g.stuck (h.elim p z s)
theorem Ny(i:Ye G W){L:Nat->Prop}{A B:Tm}{a b:Tm->Prop}(c:W A)(e:GL G W L A a b)(j: ∀d,Gd G W A a b d-> ∃Q P,GL G W L (B.inst d) Q P/\Q (B.inst d)): ∃Q P,GL G W L (.pi A B) Q P/\Q (.pi A B):=by
 have h: ∀d,∃X:(Tm->Prop)×(Tm->Prop),Gd G W A a b d->GL G W L (B.inst d) X.1 X.2/\X.1 (B.inst d):=fun d=> by
  by_cases hd:Gd G W A a b d
  · obtain⟨Q,P,f,k⟩:=j d hd
    exact⟨(Q,P),fun _=>⟨f,k⟩⟩
  · exact⟨(fun _=> True,fun _=> True),fun h=> absurd h hd⟩
 obtain⟨F,hF⟩:=Classical.axiomOfChoice h;have g:GL G W L (.pi A B) _ _:= .pi (Qd:=fun d=>(F d).1) (Pd:=fun d=>(F d).2) (.refl _) e (e.q c) (fun d hd=>(hF d hd).1) (fun d hd=>(hF d hd).2) (fun _=> iY) (fun _=> iY);exact⟨_,_,g,g.q (i.pi B c)⟩
theorem tI(i:Ye G W){L:Nat->Prop}{A B:Tm}{a b:Tm->Prop}(c:W A)(e:GL G W L A a b)(j: ∀d,Gd G W A a b d-> ∃Q P,GL G W L (B.inst d) Q P/\Q (B.inst d)): ∃Q P,GL G W L (.sg A B) Q P/\Q (.sg A B):=by
 have h: ∀d,∃X:(Tm->Prop)×(Tm->Prop),Gd G W A a b d->GL G W L (B.inst d) X.1 X.2/\X.1 (B.inst d):=fun d=> by
  by_cases hd:Gd G W A a b d
  · obtain⟨Q,P,f,k⟩:=j d hd
    exact⟨(Q,P),fun _=>⟨f,k⟩⟩
  · exact⟨(fun _=> True,fun _=> True),fun h=> absurd h hd⟩
 obtain⟨F,hF⟩:=Classical.axiomOfChoice h;have g:GL G W L (.sg A B) _ _:= .sg (Qd:=fun d=>(F d).1) (Pd:=fun d=>(F d).2) (.refl _) e (e.q c) (fun d hd=>(hF d hd).1) (fun d hd=>(hF d hd).2) (fun _=> iY) (fun _=> iY);exact⟨_,_,g,g.q (i.sg B c)⟩
theorem below{B:Tm}(f:S3 G W B){n:Nat}{D:List Tm}{a s:Nat->Tm}{A T:Tm}(hf:fvb (n+1) B)(hv:Vl G W n D a s)(hs:Ya D G s)(ht:Ty (A.sub a::D) (B.sub (ups a)) T){L:Nat->Prop}{b c:Tm->Prop}(i:GL G W L ((A.sub a).sub s) b c)(j:b ((A.sub a).sub s)){d:Tm}(hd:Gd G W ((A.sub a).sub s) b c d):
 Ok G W (T.sub (Tm.cns d s)) (((B.sub (ups a)).sub (ups s)).inst d):=by
 have ce:=Ok.of i j hd;obtain⟨k,e,l,g⟩:=ce.own;rw[YH];exact f (n+1) _ _ _ T hf (hv.cns ce) (hs.cns e g) ht
theorem Ok.sgp{A a:Tm}(h:Ok G W A a){C R:Tm}(e:HR A (.sg C R))(q:Ye G W): ∃(b c:Tm->Prop) (g f:Tm->Tm->Prop),GL G W Xe C b c/\b C/\Gd G W C b c (.fst a)/\(∀d,Gd G W C b c d->GL G W Xe (R.inst d) (g d) (f d))/\(∀d,Gd G W C b c d->g d (R.inst d))/\f (.fst a) (.snd a):=by
 obtain⟨Q,P,j,I,w,⟨F,l,E,y⟩,n⟩:=h;obtain⟨b,c,g,f,B,p,x,o,v,s⟩:=j.sg_inv e;obtain⟨-,z,H,t,r,m,D⟩:=(v _).1 y;obtain⟨u,k⟩:=(s _).1 n;have i:Gd G W C b c (.fst a):=⟨q.fst w,⟨z,.fst l t,r,m⟩,u⟩;exact⟨b,c,g,f,B,p,i,x,o,k _ i (Cv.rfl' _)⟩
theorem pB(v:Ye G W): ∀t:Tm,S3 G W t:=by
 intro t
 induction t with
 |var x=>
  intro n D c s T hf hv hs ht;obtain⟨X,r,C⟩:=hv x hf;obtain rfl:=r.det ht;exact C
 |sort i=>
  refine fin (fun n D c s T hf hv hs ht=> ?_) (fun n D c s T Q P hf hv hs ht g K _=> ?_)
  · cases ht with
    |sort=> exact⟨_,_,wg trivial,v.sort _,.refl _⟩
  · cases ht with
    |sort=>
     refine⟨v.sort _, ?_⟩;rw[(g.sort_inv (.refl _)).2,go];exact⟨_,_,wg (Nat.lt_succ_self _)⟩
 |nat=>
  refine fin (fun n D c s T hf hv hs ht=> ?_) (fun n D c s T Q P hf hv hs ht g K _=> ?_)
  · cases ht with
    |nat=> exact⟨_,_,wg trivial,v.sort _,.refl _⟩
  · cases ht with
    |nat=>
     refine⟨v.nat, ?_⟩;rw[(g.sort_inv (.refl _)).2,go];exact⟨_,_,Lg⟩
 |zero=>
  refine fin (fun n D c s T hf hv hs ht=> ?_) (fun n D c s T Q P hf hv hs ht g K _=> ?_)
  · cases ht with
    |zero=> exact⟨_,_,Lg,v.nat,.refl _⟩
  · cases ht with
    |zero=>
     refine⟨v.zero, ?_⟩;rw[g.nat_inv (Cv.rfl' _)];exact .zero (.refl _)
 |succ a ih=>
  refine fin (fun n D c s T hf hv hs ht=> ?_) (fun n D c s T Q P hf hv hs ht g K _=> ?_)
  · cases ht with
    |succ=> exact⟨_,_,Lg,v.nat,.refl _⟩
  · cases ht with
    |succ r C=>
     have u:=ih n D c s _ hf hv hs r;obtain⟨A,o,y,I⟩:=u.own;refine⟨v.succ u.w, ?_⟩;rw[g.nat_inv (Cv.rfl' _)];have e:=I.trans (C.sub s);exact .succ (.refl _) u.w o e y.wt (u.p (Lg (k:=Xe)) (C.sub s))
 |pi A B iA iB=>
  refine fin (fun n D c s T hf hv hs ht=> ?_) (fun n D c s T Q P hf hv hs ht g K _=> ?_)
  · cases ht with
    |pi=> exact⟨_,_,wg trivial,v.sort _,.refl _⟩
  · cases ht with
    | @pi _ _ _ S S' i k r C E J=>
     have hA:=iA n D c s _ hf.1 hv hs r;refine⟨v.pi _ hA.w, ?_⟩;rw[(g.sort_inv (.refl _)).2,go];obtain⟨QA,PA,V,qA⟩:=hA.ty (C.sub s);obtain⟨Q',P',g',-⟩:=Ny (L:=fun j=> j < max i k) v (B:=(B.sub (ups c)).sub (ups s)) hA.w (V.up fun j hj=> by omega) (fun d hd=> by
      obtain⟨Q,P,o,y⟩:=(below iB hf.2 hv hs E V qA hd).ty (J.sub _);exact⟨Q,P,o.up fun j hj=> by omega,y⟩)
     exact⟨Q',P',g'⟩
 |sg A B iA iB=>
  refine fin (fun n D c s T hf hv hs ht=> ?_) (fun n D c s T Q P hf hv hs ht g K _=> ?_)
  · cases ht with
    |sg=> exact⟨_,_,wg trivial,v.sort _,.refl _⟩
  · cases ht with
    | @sg _ _ _ S S' i k r C E J=>
     have hA:=iA n D c s _ hf.1 hv hs r;refine⟨v.sg _ hA.w, ?_⟩;rw[(g.sort_inv (.refl _)).2,go];obtain⟨QA,PA,V,qA⟩:=hA.ty (C.sub s);obtain⟨Q',P',g',-⟩:=tI (L:=fun j=> j < max i k) v (B:=(B.sub (ups c)).sub (ups s)) hA.w (V.up fun j hj=> by omega) (fun d hd=> by
      obtain⟨Q,P,o,y⟩:=(below iB hf.2 hv hs E V qA hd).ty (J.sub _);exact⟨Q,P,o.up fun j hj=> by omega,y⟩)
     exact⟨Q',P',g'⟩
 |lam A t iA it=>
  refine fin (fun n D c s T hf hv hs ht=> ?_) (fun n D c s T Q P hf hv hs ht g K _=> ?_)
  · cases ht with
    | @lam _ _ _ B S i r C E=>
     have hA:=iA n D c s _ hf.1 hv hs r;obtain⟨QA,PA,V,qA⟩:=hA.ty (C.sub s);exact Ny v (B:=B.sub (ups s)) hA.w V.top (fun d hd=> by
      obtain⟨Q,P,o,y,-⟩:=below it hf.2 hv hs E V qA hd;rw[<-YH] at o y;exact⟨Q,P,o,y⟩)
  · cases ht with
    | @lam _ _ _ B S i r C E=>
     have hA:=iA n D c s _ hf.1 hv hs r;obtain⟨QC,PC,Qd,Pd,g1,g2,M,g4,g5,g6⟩:=g.pi_inv (.refl _);refine⟨v.lam _ hA.w,(g6 _).2 fun d hd=> ?_⟩;refine(M d hd).back (.one (.beta _ _ _)) ?_;have Y:=below it hf.2 hv hs E g1 g2 hd;rw[<-YH] at Y;exact Y.p (M d hd) (Cv.rfl' _)
 |app f a jf H=>
  have key: ∀(n:Nat) (D:List Tm) (c s:Nat->Tm) (T:Tm),fvb n (.app f a)->Vl G W n D c s->Ya D G s->Ty D ((Tm.app f a).sub c) T->W (((Tm.app f a).sub c).sub s)/\ ∃Q P,GL G W Xe (T.sub s) Q P/\Q (T.sub s)/\P (((Tm.app f a).sub c).sub s):=by
   intro n D c s T hf hv hs ht;cases ht with
   |app r C E J=>
    have hF:=jf n D c s _ hf.1 hv hs r;have hA:=H n D c s _ hf.2 hv hs E;obtain⟨Q,P,o,y,I,-⟩:=hF.papp (C.sub s) hA (J.sub s);refine⟨v.app hF.w hA.w,Q,P, ?_, ?_,I⟩
    · rw[Hk];exact o
    · rw[Hk];exact y
  refine fin (fun n D c s T hf hv hs ht=> ?_) (fun n D c s T Q P hf hv hs ht g K _=> ?_)
  · obtain⟨-,Q,P,o,y,-⟩:=key n D c s T hf hv hs ht
    exact⟨Q,P,o,y⟩
  · obtain⟨w,Q',P',o,y,I⟩:=key n D c s T hf hv hs ht
    exact⟨w,((o.eq g (Cv.rfl' _)).2 _).1 I⟩
 |elim p z s' a jp jz js H=>
  refine fin (fun n D c s T hf hv hs ht=> ?_) (fun n D c s T Q P hf hv hs ht g K _=> ?_)
  · cases ht with
    |elim r C E J N U h7 h8 h9 R=>
     have O:=jp n D c s _ hf.1 hv hs r;have u:=H n D c s _ hf.2.2.2 hv hs h9;exact O.fam (C.sub s) (J.sub (ups s)) u ((R.trans E.symm).sub s) (v.app O.w u.w)
  · cases ht with
    |elim r C E J N U h7 h8 h9 R=>
     have O:=jp n D c s _ hf.1 hv hs r;have hz:=jz n D c s _ hf.2.1 hv hs N;have hS:=js n D c s _ hf.2.2.1 hv hs h7;have u:=H n D c s _ hf.2.2.2 hv hs h9;refine⟨v.elim O.w hz.w hS.w u.w, ?_⟩;obtain⟨A,o,y,I⟩:=u.own;exact RA v O (C.sub s) (E.sub s) (J.sub (ups s)) hz (U.sub s) hS (by have:=h8.sub s;rwa [Yy] at this) (u.p (Lg (k:=Xe)) (R.sub s)) u.w o (I.trans (R.sub s)) y.wt g
 |id T a b jT H jb=>
  refine fin (fun n D c s T hf hv hs ht=> ?_) (fun n D c s T Q P hf hv hs ht g K _=> ?_)
  · cases ht with
    |id=> exact⟨_,_,wg trivial,v.sort _,.refl _⟩
  · cases ht with
    |id r C E J N U=>
     have hT:=jT n D c s _ hf.1 hv hs r;have u:=H n D c s _ hf.2.1 hv hs E;have Y:=jb n D c s _ hf.2.2 hv hs N;refine⟨v.id hT.w u.w Y.w, ?_⟩;rw[(g.sort_inv (.refl _)).2,go];obtain⟨QX,PX,Z,qX⟩:=hT.ty (C.sub s);exact⟨_,_,.id (.refl _) Z qX (u.gd Z (J.sub s)) (Y.gd Z (U.sub s)) (fun _=> iY) (fun _=> iY)⟩
 |refl a H=>
  refine fin (fun n D c s T hf hv hs ht=> ?_) (fun n D c s T Q P hf hv hs ht g K _=> ?_)
  · cases ht with
    | @refl _ _ A r=>
     have u:=H n D c s _ hf hv hs r;obtain⟨QX,PX,Z,qX,dX⟩:=u;have g:GL G W Xe (.id (A.sub s) ((a.sub c).sub s) ((a.sub c).sub s)) _ _:= .id (.refl _) Z qX dX dX (fun _=> iY) (fun _=> iY);exact⟨_,_,g,g.q (v.id (Z.w qX) dX.1 dX.1)⟩
  · cases ht with
    | @refl _ _ A r=>
     have u:=H n D c s _ hf hv hs r;refine⟨v.refl u.w fun A0 ba=> ?_, ?_⟩
     · obtain⟨A1,o,y,I⟩:=u.own
       obtain rfl:=o.det ba;exact y.wt
     · obtain⟨QX,PX,-,-,-,-,l⟩:=g.id_inv (.refl _)
       exact(l _).2 (.inl ⟨_,.refl _,Cv.rfl' _,Cv.rfl' _⟩)
 |move p e a jp je H=>
  have key: ∀(n:Nat) (D:List Tm) (c s:Nat->Tm) (T:Tm),fvb n (.move p e a)->Vl G W n D c s->Ya D G s->Ty D ((Tm.move p e a).sub c) T->W (((Tm.move p e a).sub c).sub s)/\ ∃Q P,GL G W Xe (T.sub s) Q P/\Q (T.sub s)/\P (((Tm.move p e a).sub c).sub s):=by
   intro n D c s T hf hv hs ht;cases ht with
   |move r C E J N U h7 h8=>
    have he:=je n D c s _ hf.2.1 hv hs r;have O:=jp n D c s _ hf.1 hv hs E;have u:=H n D c s _ hf.2.2 hv hs h7;obtain⟨Q,P,o,y,I,k4,k5⟩:=he;obtain⟨QX,PX,Z,qX,d1,d2,l⟩:=o.id_inv (C.sub s);have hC:=Ok.of Z qX d2;obtain⟨QT,PT,gT,qT⟩:=O.fam (J.sub s) (U.sub (ups s)) hC (N.symm.sub s) (v.app O.w d2.1);refine⟨v.move O.w I u.w,QT,PT,gT,qT, ?_⟩;rcases(l _).1 k5 with⟨b,m1,m2,m3⟩ |m
    · refine gT.back ((m1.map (F:=fun x=> .move _ x _) fun h=> .move _ _ h).trans (.one (.mr _ _ _))) ?_
      exact u.p gT ((h8.sub s).trans (.app (Cv.rfl' _) (m2.symm.trans m3)))
    · exact gT.stuck (m.move _ _)
  refine fin (fun n D c s T hf hv hs ht=> ?_) (fun n D c s T Q P hf hv hs ht g K _=> ?_)
  · obtain⟨-,Q,P,o,y,-⟩:=key n D c s T hf hv hs ht
    exact⟨Q,P,o,y⟩
  · obtain⟨w,Q',P',o,y,I⟩:=key n D c s T hf hv hs ht
    exact⟨w,((o.eq g (Cv.rfl' _)).2 _).1 I⟩
 |pair T a b jT H jb=>
  refine fin (fun n D c s T hf hv hs ht=> ?_) (fun n D c s T Q P hf hv hs ht g K _=> ?_)
  · cases ht with
    |pair r C E J N U h7=>
     have hT:=jT n D c s _ hf.1 hv hs r;obtain⟨Q,P,o,y⟩:=hT.ty (C.sub s);exact⟨Q,P,o.top,y⟩
  · cases ht with
    |pair r C E J N U h7=>
     have hT:=jT n D c s _ hf.1 hv hs r;have u:=H n D c s _ hf.2.1 hv hs J;have Y:=jb n D c s _ hf.2.2 hv hs U;refine⟨v.pair hT.w u.w Y.w, ?_⟩;obtain⟨QC,PC,Qd,Pd,g1,g2,M,g4,g5,g6⟩:=g.sg_inv (E.sub s);refine(g6 _).2 ⟨g1.back (.one (.fp _ _ _)) (u.p g1 (N.sub s)),fun d hd hc=>(M d hd).back (.one (.sp _ _ _)) (Y.p (M d hd) ?_)⟩;have e:=h7.sub s;rw[Hk] at e;exact e.trans ((Cv.rfl' _).inst (hc.trans (HR.one (.fp _ _ _)).cv).symm)
 |fst a H=>
  have key: ∀(n:Nat) (D:List Tm) (c s:Nat->Tm) (T:Tm),fvb n (.fst a)->Vl G W n D c s->Ya D G s->Ty D ((Tm.fst a).sub c) T->W (((Tm.fst a).sub c).sub s)/\ ∃Q P,GL G W Xe (T.sub s) Q P/\Q (T.sub s)/\P (((Tm.fst a).sub c).sub s):=by
   intro n D c s T hf hv hs ht;cases ht with
   |fst r C=>
    have u:=H n D c s _ hf hv hs r;obtain⟨QC,PC,Qd,Pd,g1,g2,M,-⟩:=u.sgp (C.sub s) v;exact⟨v.fst u.w,QC,PC,g1,g2,M.2.2⟩
  refine fin (fun n D c s T hf hv hs ht=> ?_) (fun n D c s T Q P hf hv hs ht g K _=> ?_)
  · obtain⟨-,Q,P,o,y,-⟩:=key n D c s T hf hv hs ht
    exact⟨Q,P,o,y⟩
  · obtain⟨w,Q',P',o,y,I⟩:=key n D c s T hf hv hs ht
    exact⟨w,((o.eq g (Cv.rfl' _)).2 _).1 I⟩
 |snd a H=>
  have key: ∀(n:Nat) (D:List Tm) (c s:Nat->Tm) (T:Tm),fvb n (.snd a)->Vl G W n D c s->Ya D G s->Ty D ((Tm.snd a).sub c) T->W (((Tm.snd a).sub c).sub s)/\ ∃Q P,GL G W Xe (T.sub s) Q P/\Q (T.sub s)/\P (((Tm.snd a).sub c).sub s):=by
   intro n D c s T hf hv hs ht;cases ht with
   |snd r C=>
    have u:=H n D c s _ hf hv hs r;obtain⟨QC,PC,Qd,Pd,g1,g2,M,g4,g5,g6⟩:=u.sgp (C.sub s) v;refine⟨v.snd u.w,Qd (.fst ((a.sub c).sub s)),Pd (.fst ((a.sub c).sub s)), ?_, ?_,g6⟩
    · rw[Hk];exact g4 _ M
    · rw[Hk];exact g5 _ M
  refine fin (fun n D c s T hf hv hs ht=> ?_) (fun n D c s T Q P hf hv hs ht g K _=> ?_)
  · obtain⟨-,Q,P,o,y,-⟩:=key n D c s T hf hv hs ht
    exact⟨Q,P,o,y⟩
  · obtain⟨w,Q',P',o,y,I⟩:=key n D c s T hf hv hs ht
    exact⟨w,((o.eq g (Cv.rfl' _)).2 _).1 I⟩
def DG(G:List Tm)(k:Nat):Prop:= ∀A,A∈G->dep A<=k
theorem DG.nil{k:Nat}:DG [] k:=fun _ h=> by simp at h
theorem DG.cons{G:List Tm}{k:Nat}{A:Tm}(h:DG G k)(a:dep A<=k):DG (A::G) k:=fun B b=> by
 rcases List.mem_cons.1 b with rfl|b
 · exact a
 · exact h B b
theorem DG.lk{G:List Tm}{k n:Nat}{A:Tm}(h:DG G k)(e:lk G n=some A):dep A<=k:=by
 unfold M.lk at e;rw[Option.map_eq_some_iff] at e;obtain⟨B,a,rfl⟩:=e;rw[dep_ren];exact h B (List.mem_of_getElem? a)
theorem DG.up{G:List Tm}{k m:Nat}(h:DG G k)(e:k<=m):DG G m:=fun A hA=> bK (h A hA) e
theorem Pw{G:List Tm}{t T:Tm}{k:Nat}(hG:DG G k)(hk:1<=k)(d:dep t<=1)(h:Ty G t T):dep T<=k:=by
 rcases Jz d with⟨n,rfl⟩ |⟨n,rfl⟩ |rfl|rfl
 · cases h with|var h=> exact hG.lk h
 all_goals cases h;exact hk
theorem HR.ev{a b:Tm}(h:HR a b)(k:hk b≠0): ∃n,Ev n a b:=Ev.of h k
theorem pJ{G:List Tm}{q Q u:Tm}{n:Nat}(hG:DG G 3)(d:dep q<=2)(h:Ty G q Q)(e:Ev n Q u):
 dep u<=3\/(∃T v,q=refl v/\u= .id T v v)\/ ∃A t B,q=lam A t/\u=pi A B/\dep t<=1/\Ty (A::G) t B:=by
 by_cases l:dep q<=1
 · exact .inl (ev3' (Pw hG (by omega) l h) e)
 cases h with
 |var=> exact absurd (aM _) l
 |sort=> exact absurd (aM _) l
 |nat=> exact absurd (aM _) l
 |zero=> exact absurd (aM _) l
 |succ=> exact .inl (by have:=T7 (aM _) e;omega)
 |pi=> exact .inl (by have:=T7 (aM _) e;omega)
 |sg=> exact .inl (by have:=T7 (aM _) e;omega)
 |id=> exact .inl (by have:=T7 (aM _) e;omega)
 |lam c g o=>
  rw[e.val (by simp[hk])];exact .inr (.inr ⟨_,_,_,rfl,rfl,by simp only[dep] at d;omega,o⟩)
 | @app _ f a F A C R c g o r=>
  simp only[dep] at d;obtain⟨m,j⟩:=g.ev (by simp[hk]);have:=ev3' (Pw hG (by omega) (by omega) c) j;simp only[dep] at this;have:=dep_inst R a;exact .inl (ev3' (by omega) e)
 | @elim _ p z s a=>
  simp only[dep] at d;exact .inl (ev3' (by simp only[dep];omega) e)
 |refl=>
  rw[e.val (by simp[hk])];exact .inr (.inl ⟨_,_,rfl,rfl⟩)
 | @move _ p x a E T B C F w D k A c g=>
  simp only[dep] at d;obtain⟨m,j⟩:=g.ev (by simp[hk]);have:=ev3' (Pw hG (by omega) (by omega) c) j;simp only[dep] at this;exact .inl (ev3' (by simp only[dep];omega) e)
 | @pair _ T a b S i C D A B c=>
  simp only[dep] at d;exact .inl (ev3' (by omega) e)
 | @fst _ a A C D c g=>
  simp only[dep] at d;obtain⟨m,j⟩:=g.ev (by simp[hk]);have:=ev3' (Pw hG (by omega) (by omega) c) j;simp only[dep] at this;exact .inl (ev3' (by omega) e)
 | @snd _ a A C D c g=>
  simp only[dep] at d;obtain⟨m,j⟩:=g.ev (by simp[hk]);have:=ev3' (Pw hG (by omega) (by omega) c) j;simp only[dep] at this;have:=dep_inst D (.fst a);simp only[dep] at this;exact .inl (ev3' (by omega) e)
theorem Xn{G:List Tm}{A t B a:Tm}(hG:DG G 3)(d:dep t<=1)(hA:dep A<=3)(h:Ty (A::G) t B):dep (B.inst a)<=3:=by
 rcases Jz d with⟨n,rfl⟩ |⟨n,rfl⟩ |rfl|rfl
 · cases h with
   |var h=>
    cases n with
    |zero=>
     rw[j60] at h;obtain rfl:=Option.some.inj h;rw[q80];exact hA
    |succ n=>
     rw[j61,Option.map_eq_some_iff] at h;obtain⟨C,b,rfl⟩:=h;rw[q80];exact hG.lk b
 all_goals cases h;exact(show 1<=3 by omega)
theorem ty3{G:List Tm}{q Q T l r:Tm}{n:Nat}(hG:DG G 3)(d:dep q<=3)(h:Ty G q Q)(e:Ev n Q (.id T l r)):l=r\/dep l<=3:=by
 have fin: ∀{k:Nat} {X:Tm},dep X<=4->Ev k X (.id T l r)->l=r\/dep l<=3:=fun L e=> by
  have:=GJ _ _ _ L e;simp only[dep] at this;omega
 by_cases w:dep q<=1
 · exact fin (bK (Pw hG (by omega) w h) (by omega)) e
 have g: ∀{x X c:Tm} {m:Nat},dep x<=2->Ty G x X->Ev m X c->dep c<=3\/(∃T v,x=refl v/\c= .id T v v)\/ ∃A t B,x=lam A t/\c=pi A B/\dep t<=1/\Ty (A::G) t B:=fun a b c=> pJ hG a b c
 cases h with
 |var=> exact absurd (aM _) w
 |sort=> exact absurd (aM _) w
 |nat=> exact absurd (aM _) w
 |zero=> exact absurd (aM _) w
 |succ=> exact fin (by simp[dep]) e
 |pi=> exact fin (by simp[dep]) e
 |sg=> exact fin (by simp[dep]) e
 |id=> exact fin (by simp[dep]) e
 |lam j o M=> cases e.val (by simp[hk])
 | @app _ f a F A C R j o M N=>
  simp only[dep] at d;obtain⟨m,u⟩:=o.ev (by simp[hk]);rcases g (by omega) j u with h|⟨_,_,-,h⟩ |⟨y,t,B,rfl,h,J,ht⟩
  · simp only[dep] at h
    have:=dep_inst R a;exact fin (by omega) e
  · cases h
  · injection h with H I
    subst H I;simp only[dep] at d;exact fin (bK (Xn hG J (by omega) ht) (by omega)) e
 | @elim _ p z s a=>
  simp only[dep] at d;exact fin (by simp only[dep];omega) e
 |refl=>
  cases e.val (by simp[hk])
  exact .inl rfl
 | @move _ p x a E T B C F O D k A j o=>
  simp only[dep] at d;obtain⟨m,u⟩:=o.ev (by simp[hk]);rcases g (by omega) j u with h|⟨_,v,rfl,h⟩ |⟨y,t,B,-,h,-⟩
  · simp only[dep] at h
    exact fin (by simp only[dep];omega) e
  · injection h with H I K
    subst K;simp only[dep] at d;exact fin (by simp only[dep];omega) e
  · cases h
 | @pair _ T a b S i C D A B j=>
  simp only[dep] at d;exact fin (by omega) e
 | @fst _ a A C D j o=>
  simp only[dep] at d;obtain⟨m,u⟩:=o.ev (by simp[hk]);rcases g (by omega) j u with h|⟨_,v,-,h⟩ |⟨y,t,B,-,h,-⟩
  · simp only[dep] at h
    exact fin (by omega) e
  · cases h
  · cases h
 | @snd _ a A C D j o=>
  simp only[dep] at d;obtain⟨m,u⟩:=o.ev (by simp[hk]);rcases g (by omega) j u with h|⟨_,v,-,h⟩ |⟨y,t,B,-,h,-⟩
  · simp only[dep] at h
    have:=dep_inst D (.fst a);simp only[dep] at this;exact fin (by omega) e
  · cases h
  · cases h
def Wf(G:List Tm):Prop:= ∀n A,G[n]? =some A-> ∃S i,Ty (G.drop (n+1)) A S/\HR S (.sort i)
theorem Zd.drop(G:List Tm)(k:Nat):Zd (G.drop k) G (fun i=> i+k):=by
 intro n A h;unfold lk at h⊢;rw[List.getElem?_drop] at h;obtain⟨B,a,rfl⟩:=Option.map_eq_some_iff.1 h
 show Option.map _ G[n+k]? =_
 rw[Nat.add_comm n k,a,Option.map_some,ren_ren]
 congr 2
 funext i
 show i+(n+k+1)=i+(n+1)+k
 omega
variable {G : List Tm} {W : Tm → Prop}
theorem vars(b:Ye G W)(hG:Wf G): ∀(m x:Nat),G.length<=x+m-> ∀A,lk G x=some A->Ok G W A (.var x):=by
 intro m
 induction m with
 |zero=> intro x hx A hA;have:=lk_lt hA;omega
 |succ m ih=>
  intro x hx A hA;have k:=lk_lt hA;have d:=hA;unfold lk at d;obtain⟨a,f,rfl⟩:=Option.map_eq_some_iff.1 d;obtain⟨S,i,e,l⟩:=hG x a f;have j:=e.ren (Zd.drop G (x+1));have hf:=e.fv;rw[List.length_drop] at hf;have hk:=pB b a (G.length -(x+1)) G (fun y=> .var (y+(x+1))) Tm.var (S.ren fun i=> i+(x+1)) hf (fun y n=> by
   have hy2:y+(x+1) < G.length:=by omega
   obtain⟨X,c⟩: ∃X,lk G (y+(x+1))=some X:=by
    unfold lk;rw[List.getElem?_eq_getElem hy2];exact⟨_,rfl⟩
   refine⟨X,.var c, ?_⟩;rw[Zb,Zb];exact ih _ (by omega) X c) (Ya.var G) (by rw[<-Ki];exact j)
  rw[Zb,Zb,<-Ki] at hk;obtain⟨Q,P,g,q⟩:=hk.ty (l.ren _);exact Ok.of g q ⟨b.var x,⟨_,.var hA,Cv.rfl' _,q⟩,g.stuck (Ne.var x)⟩
theorem AC(b:Ye G W)(hG:Wf G){t T:Tm}(h:Ty G t T):Ok G W T t:=by
 have hk:=pB b t G.length G Tm.var Tm.var T h.fv (fun x hx=> by
  obtain⟨X,a⟩: ∃X,lk G x=some X:=by
   unfold lk;rw[List.getElem?_eq_getElem hx];exact⟨_,rfl⟩
  refine⟨X,.var a, ?_⟩;rw[Zb,Zb];exact vars b hG G.length x (by omega) X a) (Ya.var G) (by rw[Zb];exact h)
 rw[Zb,Zb,Zb] at hk;exact hk
theorem CA(a:Ye G W)(hG:Wf G){t T:Tm}(h:Ty G t T):W T:=(AC a hG h).wt
theorem allW(c:Ye G W)(hG:Wf G): ∀t:Tm,W t:=by
 intro t
 induction t with
 |var n=> exact c.var n
 |sort n=> exact c.sort n
 |nat=> exact c.nat
 |zero=> exact c.zero
 |succ a i=> exact c.succ i
 |pi A B i j=> exact c.pi B i
 |sg A B i j=> exact c.sg B i
 |lam A t i j=> exact c.lam t i
 |app f a i j=> exact c.app i j
 |elim p z s a i j k l=> exact c.elim i j k l
 |id T a b i j k=> exact c.id i j k
 |refl a i=> exact c.refl i fun A h=> CA c hG h
 |move p e a i j k=> exact c.move i j k
 |pair T a b i j k=> exact c.pair i j k
 |fst a i=> exact c.fst i
 |snd a i=> exact c.snd i
theorem Ya.ctx{A b:Tm}(G:List Tm)(h:Cv b A):Ya (A::G) (b::G) Tm.var:=by
 intro n B a;cases n with
 |zero=>
  rw[j60] at a;obtain rfl:=Option.some.inj a;exact⟨_,.var (j60 _ _),by rw[Zb];exact h.ren _⟩
 |succ n=>
  rw[j61] at a;obtain⟨X,c,rfl⟩:=Option.map_eq_some_iff.1 a;exact⟨_,.var (by rw[j61,c];rfl),by rw[Zb];exact Cv.rfl' _⟩
theorem Ty.ctx{G:List Tm}{A b t B:Tm}(h:Ty (A::G) t B)(k:Cv b A): ∃a,Ty (b::G) t a/\Cv a B:=by
 have:=h.sub (Ya.ctx G k)
 rwa [Zb,Zb] at this
theorem Ty.ins{G:List Tm}{A t B u X:Tm}(h:Ty (A::G) t B)(b:Ty G u X)(k:Cv X A): ∃a,Ty G (t.inst u) a/\Cv a (B.inst u):=
 h.sub ((Ya.var G).cns b (by rwa [Zb]))
theorem lI(p a:Tm):(Tm.pi (.app (wk p) (.var 0)) (.app (p.ren (fun i=> i+2)) (.succ (.var 1)))).inst a= .pi (.app p a) (.app (wk p) (.succ (wk a))):=by
 unfold inst;simp only[Tm.sub,cns,ups];rw[Do,Zb,Nw]
 congr 2
 show p.sub _=p.ren Nat.succ
 rw[Ki]
 rfl
theorem pI(p a u:Tm):(Tm.app (wk p) (.succ (wk a))).inst u= .app p (.succ a):=by
 show Tm.app ((wk p).inst u) (.succ ((wk a).inst u))=_
 rw[q80,q80]
theorem Ty.par{t t':Tm}(h:Par t t'): ∀{G:List Tm} {A:Tm},Ty G t A-> ∃Z,Ty G t' Z/\Cv Z A:=by
 induction h with
 |var n=> intro G A k;exact⟨_,k,Cv.rfl' _⟩
 |sort n=> intro G A k;exact⟨_,k,Cv.rfl' _⟩
 |nat=> intro G A k;exact⟨_,k,Cv.rfl' _⟩
 |zero=> intro G A k;exact⟨_,k,Cv.rfl' _⟩
 |pi c v d m=>
  intro G A k;cases k with
  |pi g i j l=>
   obtain⟨S1,f,e⟩:=d g;obtain⟨S2,o,q⟩:=m j;obtain⟨S3,r,u⟩:=o.ctx c.cv.symm;exact⟨_,.pi f (e.trans i.cv).to_sort r ((u.trans q).trans l.cv).to_sort,Cv.rfl' _⟩
 |sg c v d m=>
  intro G A k;cases k with
  |sg g i j l=>
   obtain⟨S1,f,e⟩:=d g;obtain⟨S2,o,q⟩:=m j;obtain⟨S3,r,u⟩:=o.ctx c.cv.symm;exact⟨_,.sg f (e.trans i.cv).to_sort r ((u.trans q).trans l.cv).to_sort,Cv.rfl' _⟩
 |lam c v d m=>
  intro G A k;cases k with
  |lam g i j=>
   obtain⟨S1,f,e⟩:=d g;obtain⟨S2,o,q⟩:=m j;obtain⟨S3,r,u⟩:=o.ctx c.cv.symm;exact⟨_,.lam f (e.trans i.cv).to_sort r,.pi c.cv.symm (u.trans q)⟩
 |app c v d m=>
  intro G A k;cases k with
  |app g i j l=>
   obtain⟨F',f,e⟩:=d g;obtain⟨C,o,q⟩:=m j;obtain⟨I,R',m1,B,x⟩:=(e.trans i.cv).to_pi;exact⟨_,.app f m1 o ((q.trans l).trans B.symm),x.inst v.cv.symm⟩
 |succ c d=>
  intro G A k;cases k with
  |succ g i=>
   obtain⟨S1,f,e⟩:=d g;exact⟨_,.succ f (e.trans i),Cv.rfl' _⟩
 |elim c v Q h4 d m F X=>
  intro G A k;cases k with
  |elim g i j l w y D E R H=>
   obtain⟨F',f,e⟩:=d g;obtain⟨Z',o,q⟩:=m w;obtain⟨S',r,u⟩:=F D;obtain⟨Z,O,P⟩:=X R;obtain⟨I,K,m1,B,x⟩:=(e.trans i.cv).to_pi;exact⟨_,.elim f m1 (B.trans j) (x.trans l.cv).to_sort o ((q.trans y).trans (.app c.cv (Cv.rfl' _))) r ((u.trans E).trans (Cv.stepTy c.cv)) O (P.trans H),.app c.cv.symm h4.cv.symm⟩
 |id c v Q d m F=>
  intro G A k;cases k with
  |id g i j l w y=>
   obtain⟨S',f,e⟩:=d g;obtain⟨C,o,q⟩:=m j;obtain⟨Y',r,u⟩:=F w;exact⟨_,.id f (e.trans i.cv).to_sort o ((q.trans l).trans c.cv) r ((u.trans y).trans c.cv),Cv.rfl' _⟩
 |refl c d=>
  intro G A k;cases k with
  |refl g=>
   obtain⟨C,f,e⟩:=d g;exact⟨_,.refl f,.id e c.cv.symm c.cv.symm⟩
 |move c v Q d m F=>
  intro G A k;cases k with
  |move g i j l w y D E=>
   obtain⟨E',f,e⟩:=m g;obtain⟨F',o,q⟩:=d j;obtain⟨C,r,u⟩:=F D;obtain⟨U,B',I,m1,B,x,m4⟩:=(e.trans i.cv).to_id;obtain⟨P',K,n1,V,n3⟩:=(q.trans l.cv).to_pi;exact⟨_,.move f m1 o n1 ((V.trans w).trans B.symm) (n3.trans y.cv).to_sort r ((u.trans E).trans (.app c.cv x.symm)),.app c.cv.symm m4⟩
 |pair c v Q d m F=>
  intro G A k;cases k with
  |pair g i j l w y D=>
   obtain⟨S',f,e⟩:=d g;obtain⟨C,o,q⟩:=m l;obtain⟨Y',r,u⟩:=F y;obtain⟨I,K,m1,B,x⟩:=(c.cv.symm.trans j.cv).to_sg;exact⟨_,.pair f (e.trans i.cv).to_sort m1 o ((q.trans w).trans B.symm) r ((u.trans D).trans (x.symm.inst v.cv)),c.cv.symm⟩
 |fst c d=>
  intro G A k;cases k with
  |fst g i=>
   obtain⟨C,f,e⟩:=d g;obtain⟨I,K,m1,B,x⟩:=(e.trans i.cv).to_sg;exact⟨_,.fst f m1,B⟩
 |snd c d=>
  intro G A k;cases k with
  |snd g i=>
   obtain⟨C,f,e⟩:=d g;obtain⟨I,K,m1,B,x⟩:=(e.trans i.cv).to_sg;exact⟨_,.snd f m1,x.inst (.fst c.cv.symm)⟩
 |beta c v d m=>
  intro G A k;cases k with
  |app g i j l=>
   cases g with
   |lam M L N=>
    obtain⟨rfl,rfl⟩:=(HR.refl _).pi_det i;obtain⟨B',f,e⟩:=d N;obtain⟨C,o,q⟩:=m j;obtain⟨Y,r,u⟩:=f.ins o (q.trans l);exact⟨Y,r,u.trans (e.inst v.cv.symm)⟩
 |ez c d=>
  intro G A k;cases k with
  |elim g i j l w y D E R H=>
   obtain⟨Z',f,e⟩:=d w;exact⟨_,f,e.trans y⟩
 | @es p p' z z' s S a J c v Q h4 d m F X=>
  intro G A k;cases k with
  |elim g i j l w y D E R H=>
   cases R with
   |succ M L=>
    obtain⟨F',f,e⟩:=d g;obtain⟨Z',o,q⟩:=m w;obtain⟨S',r,u⟩:=F D;obtain⟨N',O,P⟩:=X M;obtain⟨I,K,m1,B,x⟩:=(e.trans i.cv).to_pi;have hE:Ty G (.elim p' z' S J) (.app p' J):= .elim f m1 (B.trans j) (x.trans l.cv).to_sort o ((q.trans y).trans (.app c.cv (Cv.rfl' _))) r ((u.trans E).trans (Cv.stepTy c.cv)) O (P.trans L);obtain⟨C1,R1,n1,V,n3⟩:=(u.trans E).to_pi;have hA:Ty G (.app S J) (R1.inst J):= .app r n1 O ((P.trans L).trans V.symm);have e1:=n3.inst (Cv.rfl' J);rw[lI] at e1;obtain⟨C2,R2,o1,o2,o3⟩:=e1.to_pi;refine⟨_,.app hA o1 hE ((Cv.app c.cv.symm (Cv.rfl' _)).trans o2.symm), ?_⟩;have e2:=o3.inst (Cv.rfl' (Tm.elim p' z' S J));rw[pI] at e2;exact e2.trans (.app (Cv.rfl' _) (.succ h4.cv.symm))
 |mr c d=>
  intro G A k;cases k with
  |move g i j l w y D E=>
   cases g with
   |refl M=>
    obtain⟨rfl,rfl,rfl⟩:=(HR.refl _).id_det i;obtain⟨C,f,e⟩:=d D;exact⟨_,f,e.trans E⟩
 |fp c d=>
  intro G A k;cases k with
  |fst g i=>
   cases g with
   |pair M L N l4 l5 l6 l7=>
    obtain⟨rfl,rfl⟩:=N.sg_det i;obtain⟨C,f,e⟩:=d l4;exact⟨_,f,e.trans l5⟩
 | @sp T a b b' c d=>
  intro G A k;cases k with
  |snd g i=>
   cases g with
   |pair M L N l4 l5 l6 l7=>
    obtain⟨rfl,rfl⟩:=N.sg_det i;obtain⟨C,f,e⟩:=d l6;exact⟨_,f,(e.trans l7).trans ((Cv.rfl' _).inst (HR.one (.fp T a b)).cv.symm)⟩
theorem Ty.red{t a:Tm}(h:Red t a): ∀{G:List Tm} {A:Tm},Ty G t A-> ∃b,Ty G a b/\Cv b A:=by
 induction h with
 |refl=> intro G A k;exact⟨_,k,Cv.rfl' _⟩
 |step e i ih=>
  intro G A k;obtain⟨B,f,d⟩:=Ty.par e k;obtain⟨C,c,g⟩:=ih f;exact⟨C,c,g.trans d⟩
def W4(G:List Tm)(A:Tm)(k:Nat):Prop:= ∃S,Ty G A S/\HR S (.sort k)
theorem W4.det{G:List Tm}{A:Tm}{i k:Nat}(h:W4 G A i)(c:W4 G A k):i=k:=by
 obtain⟨S,b,d⟩:=h;obtain⟨f,e,a⟩:=c;obtain rfl:=b.det e;exact d.sort_det a
theorem W4.red{G:List Tm}{A B:Tm}{i:Nat}(h:W4 G A i)(r:Red A B):W4 G B i:=by
 obtain⟨S,b,c⟩:=h;obtain⟨e,d,a⟩:=Ty.red r b;exact⟨e,d,(a.trans c.cv).to_sort⟩
theorem W4.cv{G:List Tm}{A B:Tm}{i k:Nat}(h:W4 G A i)(a:W4 G B k)(e:Cv A B):i=k:=by
 obtain⟨C,b,c⟩:=e;exact(h.red b).det (a.red c)
theorem W4.sub{G D:List Tm}{A:Tm}{i:Nat}{s:Nat->Tm}(h:W4 G A i)(hs:Ya G D s):W4 D (A.sub s) i:=by
 obtain⟨S,b,c⟩:=h;obtain⟨e,d,a⟩:=b.sub hs;exact⟨e,d,(a.trans (c.sub s).cv).to_sort⟩
theorem W4.ren{G D:List Tm}{A:Tm}{i:Nat}{r:Nat->Nat}(h:W4 G A i)(hr:Zd G D r):W4 D (A.ren r) i:=by
 obtain⟨S,a,b⟩:=h;exact⟨_,a.ren hr,b.ren r⟩
theorem W4.ctx{G:List Tm}{A a B:Tm}{i:Nat}(h:W4 (A::G) B i)(k:Cv a A):W4 (a::G) B i:=by
 have:=h.sub (Ya.ctx G k)
 rwa [Zb] at this
theorem W4.ins{G:List Tm}{A B u X:Tm}{i:Nat}(h:W4 (A::G) B i)(a:Ty G u X)(k:Cv X A):W4 G (B.inst u) i:=
 h.sub ((Ya.var G).cns a (by rwa [Zb]))
theorem W4.sort(G:List Tm)(n:Nat):W4 G (.sort n) (n+1):=⟨_,.sort,.refl _⟩
theorem W4.nat(G:List Tm):W4 G .nat 0:=⟨_,.nat,.refl _⟩
theorem W4.pi_inv{G:List Tm}{C R:Tm}{k:Nat}(h:W4 G (.pi C R) k): ∃i j,W4 G C i/\W4 (C::G) R j/\k=max i j:=by
 obtain⟨S,c,f⟩:=h;cases c with
 |pi d b a e=> exact⟨_,_,⟨_,d,b⟩,⟨_,a,e⟩,(f.sort_det (.refl _))⟩
theorem W4.sg_inv{G:List Tm}{C R:Tm}{k:Nat}(h:W4 G (.sg C R) k): ∃i j,W4 G C i/\W4 (C::G) R j/\k=max i j:=by
 obtain⟨S,c,f⟩:=h;cases c with
 |sg d b a e=> exact⟨_,_,⟨_,d,b⟩,⟨_,a,e⟩,(f.sort_det (.refl _))⟩
theorem W4.pi{G:List Tm}{C R:Tm}{i j:Nat}(h:W4 G C i)(k:W4 (C::G) R j):W4 G (.pi C R) (max i j):=by
 obtain⟨S,b,c⟩:=h;obtain⟨e,d,a⟩:=k;exact⟨_,.pi b c d a,.refl _⟩
theorem W4.id_inv{G:List Tm}{T a b:Tm}{k:Nat}(h:W4 G (.id T a b) k):W4 G T k/\(∃A,Ty G a A/\Cv A T)/\ ∃B,Ty G b B/\Cv B T:=by
 obtain⟨S,e,l⟩:=h;cases e with
 |id i d c j g f=>
  obtain rfl:=l.sort_det (.refl _);exact⟨⟨_,i,d⟩,⟨_,c,j⟩,⟨_,g,f⟩⟩
theorem Wf.nil:Wf []:=by
 intro n A h;simp at h
theorem Wf.cons{G:List Tm}{A:Tm}{i:Nat}(hG:Wf G)(h:W4 G A i):Wf (A::G):=by
 intro n B a;cases n with
 |zero=>
  obtain rfl:A=B:=by simpa using a
  obtain⟨S,b,c⟩:=h;exact⟨S,i,b,c⟩
 |succ n=> exact hG n B (by simpa using a)
theorem Ty.corr{G:List Tm}{t A:Tm}(h:Ty G t A):Wf G-> ∃k,W4 G A k:=by
 induction h with
 | @var G n A h=>
  intro hG;unfold lk at h;obtain⟨B,b,rfl⟩:=Option.map_eq_some_iff.1 h;obtain⟨S,i,a,d⟩:=hG n B b;exact⟨i,W4.ren ⟨S,a,d⟩ (Zd.drop G (n+1))⟩
 |sort=> intro hG;exact⟨_,W4.sort _ _⟩
 |nat=> intro hG;exact⟨_,W4.sort _ _⟩
 |zero=> intro hG;exact⟨_,W4.nat _⟩
 |succ=> intro hG;exact⟨_,W4.nat _⟩
 |pi=> intro hG;exact⟨_,W4.sort _ _⟩
 |sg=> intro hG;exact⟨_,W4.sort _ _⟩
 |lam b a d c o=>
  intro hG;obtain⟨k,hk⟩:=o (hG.cons ⟨_,b,a⟩);exact⟨_,W4.pi ⟨_,b,a⟩ hk⟩
 |app b a d e c o=>
  intro hG;obtain⟨k,hk⟩:=c hG;obtain⟨i,j,-,l,-⟩:=(hk.red a.red).pi_inv;exact⟨j,l.ins d e⟩
 |elim b a d e g m q p r f=>
  intro hG;exact⟨_,_,.app b a r (f.trans d.symm),e.sub (cns _ Tm.var)⟩
 |id=> intro hG;exact⟨_,W4.sort _ _⟩
 |refl h i=>
  intro hG;obtain⟨k,S,b,a⟩:=i hG;exact⟨_,_,.id b a h (Cv.rfl' _) h (Cv.rfl' _),.refl _⟩
 |move b a d e g m q p c=>
  intro hG;obtain⟨k,hk⟩:=c hG;obtain⟨-,-,C,u,s⟩:=(hk.red a.red).id_inv;exact⟨_,_,.app d e u (s.trans g.symm),m.sub (cns _ Tm.var)⟩
 |pair b a=> intro hG;exact⟨_,_,b,a⟩
 |fst b a c=>
  intro hG;obtain⟨k,hk⟩:=c hG;obtain⟨i,j,l,-,-⟩:=(hk.red a.red).sg_inv;exact⟨_,l⟩
 |snd b a c=>
  intro hG;obtain⟨k,hk⟩:=c hG;obtain⟨i,j,-,l,-⟩:=(hk.red a.red).sg_inv;exact⟨_,l.ins (.fst b a) (Cv.rfl' _)⟩
