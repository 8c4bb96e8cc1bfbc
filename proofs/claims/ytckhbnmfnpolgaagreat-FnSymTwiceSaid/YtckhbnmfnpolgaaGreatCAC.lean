/-
  Lemmas towards the law, 3: MThm, MDepT, MCtx, MSr.
-/
import Derived.Test.YtckhbnmfnpolgaaGreatCAB
open Iff renaming rfl->jU
open Nat renaming le_trans->bL,le_refl->aN
set_option linter.all false
namespace Go.Proofs.YtckhbnmfnpolgaaGreat.M
open Tm
def fvb(n:Nat):Tm->Prop
 | .var i=> i < n
 | .sort _=> True
 | .pi A B=> fvb n A/\fvb (n+1) B
 | .lam A t=> fvb n A/\fvb (n+1) t
 | .app f a=> fvb n f/\fvb n a
 | .nat=> True
 | .zero=> True
 | .succ a=> fvb n a
 | .elim p z s a=> fvb n p/\fvb n z/\fvb n s/\fvb n a
 | .id T a b=> fvb n T/\fvb n a/\fvb n b
 | .refl a=> fvb n a
 | .move p e a=> fvb n p/\fvb n e/\fvb n a
 | .sg A B=> fvb n A/\fvb (n+1) B
 | .pair T a b=> fvb n T/\fvb n a/\fvb n b
 | .fst a=> fvb n a
 | .snd a=> fvb n a
theorem lk_lt{G:List Tm}{n:Nat}{A:Tm}(h:lk G n=some A):n < G.length:=by
 unfold lk at h;obtain⟨B,a,-⟩:=Option.map_eq_some_iff.1 h;exact(List.getElem?_eq_some_iff.1 a).1
theorem Ty.fv{G:List Tm}{t A:Tm}(h:Ty G t A):fvb G.length t:=by
 induction h <;> simp only[fvb,List.length_cons] at* <;> first|exact lk_lt (by assumption) |(repeat' apply And.intro) <;> assumption
structure If (G:List Tm) (W:Tm->Prop):Prop where
 var: ∀n,W (.var n)
 sort: ∀n,W (.sort n)
 nat:W .nat
 zero:W .zero
 succ: ∀{a},W a->W (.succ a)
 pi: ∀{A} B,W A->W (.pi A B)
 sg: ∀{A} B,W A->W (.sg A B)
 lam: ∀{A} t,W A->W (.lam A t)
 app: ∀{f a},W f->W a->W (.app f a)
 elim: ∀{p z s a},W p->W z->W s->W a->W (.elim p z s a)
 id: ∀{T a b},W T->W a->W b->W (.id T a b)
 refl: ∀{a},W a->(∀A,Ty G a A->W A)->W (.refl a)
 move: ∀{p e a},W p->W e->W a->W (.move p e a)
 pair: ∀{T a b},W T->W a->W b->W (.pair T a b)
 fst: ∀{a},W a->W (.fst a)
 snd: ∀{a},W a->W (.snd a)
variable {G : List Tm} {W : Tm → Prop}
def Te:Nat->Prop:=fun _=> True
def Ok(G:List Tm)(W:Tm->Prop)(T a:Tm):Prop:= ∃Q P,GL G W Te T Q P/\Q T/\Gd G W T Q P a
theorem Ok.own{T a:Tm}(h:Ok G W T a): ∃A,Ty G a A/\Ok G W A a/\Cv A T:=by
 obtain⟨Q,P,g,i,f,⟨A,c,d,b⟩,e⟩:=h;exact⟨A,c,⟨Q,P,g.re b,b,f,⟨A,c,Cv.rfl' _,b⟩,e⟩,d⟩
theorem Ok.w{T a:Tm}(h:Ok G W T a):W a:=by
 obtain⟨Q,P,f,e,b,d,c⟩:=h;exact b
theorem Ok.wt{T a:Tm}(h:Ok G W T a):W T:=by
 obtain⟨Q,P,c,b,d⟩:=h;exact c.w b
theorem Ok.gd{T b a:Tm}(h:Ok G W T a){k:Nat->Prop}{Q P:Tm->Prop}(g:GL G W k b Q P)(e:Cv T b):Gd G W b Q P a:=by
 obtain⟨f,i,d,j,c⟩:=h;exact d.gd g e c
theorem Ok.p{T b a:Tm}(h:Ok G W T a){k:Nat->Prop}{Q P:Tm->Prop}(g:GL G W k b Q P)(e:Cv T b):P a:=(h.gd g e).2.2
theorem Ok.ty{T a:Tm}(h:Ok G W T a){j:Nat}(e:HR T (.sort j)): ∃Q P,GL G W (fun i=> i < j) a Q P/\Q a:=by
 obtain⟨Q,P,k,m,g,l,b⟩:=h;obtain⟨n,f⟩:=k.sort_inv e;rw[f,Bm] at b;obtain⟨c,d,b⟩:=b;exact⟨c,d,b,b.q g⟩
theorem GL.top{k:Nat->Prop}{T:Tm}{Q P:Tm->Prop}(h:GL G W k T Q P):GL G W Te T Q P:=h.up fun _ _=> trivial
theorem Ok.of{k:Nat->Prop}{T a:Tm}{Q P:Tm->Prop}(h:GL G W k T Q P)(b:Q T)(hd:Gd G W T Q P a):Ok G W T a:=⟨Q,P,h.top,b,hd⟩
def Vl(G:List Tm)(W:Tm->Prop)(n:Nat)(D:List Tm)(a s:Nat->Tm):Prop:= ∀x,x < n-> ∃X,Ty D (a x) X/\Ok G W (X.sub s) ((a x).sub s)
theorem Vl.now{n:Nat}{D:List Tm}{a s:Nat->Tm}(h:Vl G W n D a s):Vl G W n G (fun x=>(a x).sub s) Tm.var:=by
 intro x hx;obtain⟨X,f,b⟩:=h x hx;obtain⟨A,d,c,e⟩:=b.own;refine⟨A,d, ?_⟩;rw[ac,ac];exact c
theorem Vl.cns{n:Nat}{D:List Tm}{a s:Nat->Tm}(h:Vl G W n D a s){A d:Tm}(hd:Ok G W ((A.sub a).sub s) d):Vl G W (n+1) (A.sub a::D) (ups a) (Tm.cns d s):=by
 intro x hx;cases x with
 |zero=> exact⟨_,.var (lk_zero _ _),by rw[No];exact hd⟩
 |succ x=>
  obtain⟨X,c,b⟩:=h x (by omega);refine⟨_,c.wk _, ?_⟩
  show Ok G W _ ((Tm.wk (a x)).sub _)
  rw[No,No];exact b
def S1(G:List Tm)(W:Tm->Prop)(t:Tm):Prop:= ∀(n:Nat) (D:List Tm) (a s:Nat->Tm) (T:Tm),fvb n t->Vl G W n D a s->Xa D G s->Ty D (t.sub a) T-> ∃Q P,GL G W Te (T.sub s) Q P/\Q (T.sub s)
def S3(G:List Tm)(W:Tm->Prop)(t:Tm):Prop:= ∀(n:Nat) (D:List Tm) (a s:Nat->Tm) (T:Tm),fvb n t->Vl G W n D a s->Xa D G s->Ty D (t.sub a) T->Ok G W (T.sub s) ((t.sub a).sub s)
theorem fin{t:Tm}(i:S1 G W t)(l: ∀(n:Nat) (D:List Tm) (a s:Nat->Tm) (T:Tm) (Q P:Tm->Prop),fvb n t->Vl G W n D a s->Xa D G s->Ty D (t.sub a) T->GL G W Te (T.sub s) Q P->Q (T.sub s)->
 (∃A,Ty G ((t.sub a).sub s) A/\Cv A (T.sub s)/\Q A)->W ((t.sub a).sub s)/\P ((t.sub a).sub s)):S3 G W t:=by
 intro n D a s T hf hv hs ht;obtain⟨Q,P,b,g⟩:=i n D a s T hf hv hs ht;obtain⟨A,c,d⟩:=ht.sub hs;have e:(t.sub a).sub s=t.sub (fun x=>(a x).sub s):=Yq t s a;obtain⟨o,m,m1,f⟩:=i n G _ Tm.var A hf hv.now (Xa.var G) (by rw[<-e];exact c);rw[ac] at m1 f;have hA:Q A:=((m1.eq b d).1 A).1 f;obtain⟨k,j⟩:=l n D a s T Q P hf hv hs ht b g ⟨A,c,d,hA⟩;exact⟨Q,P,b,g,k,⟨A,c,d,hA⟩,j⟩
theorem Ok.papp{F f:Tm}(h:Ok G W F f){C R:Tm}(e:HR F (.pi C R)){T a:Tm}(l:Ok G W T a)(k:Cv T C): ∃Q P,GL G W Te (R.inst a) Q P/\Q (R.inst a)/\P (.app f a)/\ ∀A,Ty G f A-> ∃b c,HR A (.pi b c)/\Cv b C/\Q (c.inst a):=by
 obtain⟨Q,P,u,y,w,⟨A,i,H,q⟩,p⟩:=h;obtain⟨E,B,D,v,j,x,m,n,g,s⟩:=u.pi_inv e;have hd:=l.gd j k;refine⟨_,_,m a hd,n a hd,(s f).1 p a hd,fun I d=> ?_⟩;obtain rfl:=i.det d;obtain⟨-,b,c,r,t,z,o⟩:=(g _).1 q;exact⟨b,c,r,t,o a hd⟩
theorem Ok.fam{F f:Tm}(h:Ok G W F f){C D:Tm}{k:Nat}(e:HR F (.pi C D))(o:HR D (.sort k)){T a:Tm}(l:Ok G W T a)(c:Cv T C)(g:W (.app f a)): ∃Q P,GL G W Te (.app f a) Q P/\Q (.app f a):=by
 obtain⟨Q,P,p,r,b,-⟩:=h.papp e l c;obtain⟨s,n⟩:=p.sort_inv (j:=k) (by have:=o.sub (Tm.cns a Tm.var);exact this);rw[n,Bm] at b;obtain⟨m,i,d⟩:=b;exact⟨m,i,d.top,GL.q d g⟩
theorem Wg{k:Nat->Prop}:GL G W k .nat (fun A=> W A/\HR A .nat) (Oc G W):= .nat (.refl _) (fun _=> jU) (fun _=> jU)
theorem qg{k:Nat->Prop}{j:Nat}(h:k j):GL G W k (.sort j) (fun A=> W A/\HR A (.sort j)) (Uv G W j):= .sort h (.refl _) (fun _=> jU) (fun _=> jU)
theorem Ok.nat(d:If G W){b A:Tm}(g:W b)(f:Ty G b A)(a:Cv A .nat)(e:W A)(c:Oc G W b):Ok G W .nat b:=⟨_,_,Wg,⟨d.nat,.refl _⟩,g,⟨A,f,a,e,a.to_nat⟩,c⟩
theorem FC(l:If G W){p z s F C D Z S:Tm}{k:Nat}(d:Ok G W F p)(I:HR F (.pi C D))(u:Cv C .nat)(L:HR D (.sort k))(e:Ok G W Z z)(H:Cv Z (.app p .zero))(hs:Ok G W S s)(t:Cv S (stepTy p)):
 ∀{a:Tm},Oc G W a->W a-> ∀{A:Tm},Ty G a A->Cv A .nat->W A-> ∀{Q P:Tm->Prop},GL G W Te (.app p a) Q P->P (.elim p z s a):=by
 intro a h
 induction h with
 | @zero a h=>
  intro q A hA K E Q P g;refine g.back ((h.map (F:=fun x=> .elim p z s x) fun h=> .elim _ _ _ h).trans (.one (.ez p z s))) ?_;exact e.p g (H.trans (.app (Cv.rfl' _) h.cv.symm))
 | @succ a b B r c j f v h6 ih=>
  intro q A hA K E Q P g;refine g.back ((r.map (F:=fun x=> .elim p z s x) fun h=> .elim _ _ _ h).trans (.one (.es p z s b))) ?_;have y:=Ok.nat l c j f v h6;obtain⟨C1,M,r1,X,V⟩:=t.to_pi;obtain⟨Q1,P1,n,U,m,-⟩:=hs.papp r1 y X.symm;have e1:Cv (M.inst b) (.pi (.app p b) (.app (Tm.wk p) (.succ (Tm.wk b)))):=by
   have:=V.inst (Cv.rfl' b);have e2:(Tm.pi (.app (Tm.wk p) (.var 0)) (.app (p.ren (fun i=> i+2)) (.succ (.var 1)))).inst b= .pi (.app p b) (.app (Tm.wk p) (.succ (Tm.wk b))):=by
    unfold Tm.inst;simp only[Tm.sub,ups,Tm.cns];rw[No,ac,yy]
    congr 2
    rw[Tm.wk,pj]
    rfl
   rwa [e2] at this
  obtain⟨Qb,Pb,o,J⟩:=d.fam I L y u.symm (l.app d.w c);have xv:Ty G (.elim p z s b) (.app p b):=by
   obtain⟨Fp,p1,p2,p3⟩:=d.own;obtain⟨Zz,z1,z2,z3⟩:=e.own;obtain⟨Ss,n,U,m⟩:=hs.own;obtain⟨C',D',q1,O,T⟩:=(p3.trans I.cv).to_pi;exact .elim p1 q1 (O.trans u) (T.trans L.cv).to_sort z1 (z3.trans H) n (m.trans t) j f
  have he:Ok G W (.app p b) (.elim p z s b):=⟨Qb,Pb,o,J,l.elim d.w e.w hs.w c,⟨_,xv,Cv.rfl' _,J⟩,ih c j f v o⟩;obtain⟨C2,R,t1,t2,t3⟩:=e1.to_pi;obtain⟨QC,PC,Qd,Pd,N,g2,g3,g4,g5,g6⟩:=n.pi_inv t1;have hd:=he.gd N t2.symm;have Y:=(g6 _).1 m _ hd;have h8:=g3 _ hd;have e3:Cv (R.inst (.elim p z s b)) (.app p a):=by
   have:=t3.inst (Cv.rfl' (.elim p z s b));have e4:(Tm.app (Tm.wk p) (.succ (Tm.wk b))).inst (.elim p z s b)= .app p (.succ b):=by
    show Tm.app ((Tm.wk p).inst _) (.succ ((Tm.wk b).inst _))=_
    rw[wk_inst,wk_inst]
   rw[e4] at this;exact this.trans (.app (Cv.rfl' _) r.cv.symm)
  exact((h8.eq g e3).2 _).1 Y
 |ne h=> intro q A hA K E Q P g;exact g.stuck (h.elim p z s)
theorem tC(f:If G W){L:Nat->Prop}{A B:Tm}{a b:Tm->Prop}(c:W A)(e:GL G W L A a b)(hB: ∀d,Gd G W A a b d-> ∃Q P,GL G W L (B.inst d) Q P/\Q (B.inst d)): ∃Q P,GL G W L (.pi A B) Q P/\Q (.pi A B):=by
 have h: ∀d,∃X:(Tm->Prop)×(Tm->Prop),Gd G W A a b d->GL G W L (B.inst d) X.1 X.2/\X.1 (B.inst d):=fun d=> by
  by_cases hd:Gd G W A a b d
  · obtain⟨Q,P,j,i⟩:=hB d hd
    exact⟨(Q,P),fun _=>⟨j,i⟩⟩
  · exact⟨(fun _=> True,fun _=> True),fun h=> absurd h hd⟩
 obtain⟨F,hF⟩:=Classical.axiomOfChoice h;have g:GL G W L (.pi A B) _ _:= .pi (Qd:=fun d=>(F d).1) (Pd:=fun d=>(F d).2) (.refl _) e (e.q c) (fun d hd=>(hF d hd).1) (fun d hd=>(hF d hd).2) (fun _=> jU) (fun _=> jU);exact⟨_,_,g,g.q (f.pi B c)⟩
theorem vJ(f:If G W){L:Nat->Prop}{A B:Tm}{a b:Tm->Prop}(c:W A)(e:GL G W L A a b)(hB: ∀d,Gd G W A a b d-> ∃Q P,GL G W L (B.inst d) Q P/\Q (B.inst d)): ∃Q P,GL G W L (.sg A B) Q P/\Q (.sg A B):=by
 have h: ∀d,∃X:(Tm->Prop)×(Tm->Prop),Gd G W A a b d->GL G W L (B.inst d) X.1 X.2/\X.1 (B.inst d):=fun d=> by
  by_cases hd:Gd G W A a b d
  · obtain⟨Q,P,j,i⟩:=hB d hd
    exact⟨(Q,P),fun _=>⟨j,i⟩⟩
  · exact⟨(fun _=> True,fun _=> True),fun h=> absurd h hd⟩
 obtain⟨F,hF⟩:=Classical.axiomOfChoice h;have g:GL G W L (.sg A B) _ _:= .sg (Qd:=fun d=>(F d).1) (Pd:=fun d=>(F d).2) (.refl _) e (e.q c) (fun d hd=>(hF d hd).1) (fun d hd=>(hF d hd).2) (fun _=> jU) (fun _=> jU);exact⟨_,_,g,g.q (f.sg B c)⟩
theorem below{B:Tm}(k:S3 G W B){n:Nat}{D:List Tm}{a s:Nat->Tm}{A T:Tm}(hf:fvb (n+1) B)(hv:Vl G W n D a s)(hs:Xa D G s)(ht:Ty (A.sub a::D) (B.sub (ups a)) T){L:Nat->Prop}{b c:Tm->Prop}(g:GL G W L ((A.sub a).sub s) b c)(i:b ((A.sub a).sub s)){d:Tm}(hd:Gd G W ((A.sub a).sub s) b c d):
 Ok G W (T.sub (Tm.cns d s)) (((B.sub (ups a)).sub (ups s)).inst d):=by
 have e:=Ok.of g i hd;obtain⟨l,f,m,j⟩:=e.own;rw[QI];exact k (n+1) _ _ _ T hf (hv.cns e) (hs.cns f j) ht
theorem Ok.sgp{A a:Tm}(h:Ok G W A a){C R:Tm}(e:HR A (.sg C R))(l:If G W): ∃(b c:Tm->Prop) (g f:Tm->Tm->Prop),GL G W Te C b c/\b C/\Gd G W C b c (.fst a)/\(∀d,Gd G W C b c d->GL G W Te (R.inst d) (g d) (f d))/\(∀d,Gd G W C b c d->g d (R.inst d))/\f (.fst a) (.snd a):=by
 obtain⟨Q,P,z,E,k,⟨D,m,H,u⟩,t⟩:=h;obtain⟨b,c,g,f,o,n,q,s,j,w⟩:=z.sg_inv e;obtain⟨-,r,I,v,y,p,F⟩:=(j _).1 u;obtain⟨x,B⟩:=(w _).1 t;have i:Gd G W C b c (.fst a):=⟨l.fst k,⟨r,.fst m v,y,p⟩,x⟩;exact⟨b,c,g,f,o,n,i,q,s,B _ i (Cv.rfl' _)⟩
theorem iE(v:If G W): ∀t:Tm,S3 G W t:=by
 intro t
 induction t with
 |var x=>
  intro n D c s T hf hv hs ht;obtain⟨X,r,C⟩:=hv x hf;obtain rfl:=r.det ht;exact C
 |sort i=>
  refine fin (fun n D c s T hf hv hs ht=> ?_) (fun n D c s T Q P hf hv hs ht g K _=> ?_)
  · cases ht with
    |sort=> exact⟨_,_,qg trivial,v.sort _,.refl _⟩
  · cases ht with
    |sort=>
     refine⟨v.sort _, ?_⟩;rw[(g.sort_inv (.refl _)).2,Bm];exact⟨_,_,qg (Nat.lt_succ_self _)⟩
 |nat=>
  refine fin (fun n D c s T hf hv hs ht=> ?_) (fun n D c s T Q P hf hv hs ht g K _=> ?_)
  · cases ht with
    |nat=> exact⟨_,_,qg trivial,v.sort _,.refl _⟩
  · cases ht with
    |nat=>
     refine⟨v.nat, ?_⟩;rw[(g.sort_inv (.refl _)).2,Bm];exact⟨_,_,Wg⟩
 |zero=>
  refine fin (fun n D c s T hf hv hs ht=> ?_) (fun n D c s T Q P hf hv hs ht g K _=> ?_)
  · cases ht with
    |zero=> exact⟨_,_,Wg,v.nat,.refl _⟩
  · cases ht with
    |zero=>
     refine⟨v.zero, ?_⟩;rw[g.nat_inv (Cv.rfl' _)];exact .zero (.refl _)
 |succ a ih=>
  refine fin (fun n D c s T hf hv hs ht=> ?_) (fun n D c s T Q P hf hv hs ht g K _=> ?_)
  · cases ht with
    |succ=> exact⟨_,_,Wg,v.nat,.refl _⟩
  · cases ht with
    |succ r C=>
     have u:=ih n D c s _ hf hv hs r;obtain⟨A,o,y,I⟩:=u.own;refine⟨v.succ u.w, ?_⟩;rw[g.nat_inv (Cv.rfl' _)];have e:=I.trans (C.sub s);exact .succ (.refl _) u.w o e y.wt (u.p (Wg (k:=Te)) (C.sub s))
 |pi A B iA iB=>
  refine fin (fun n D c s T hf hv hs ht=> ?_) (fun n D c s T Q P hf hv hs ht g K _=> ?_)
  · cases ht with
    |pi=> exact⟨_,_,qg trivial,v.sort _,.refl _⟩
  · cases ht with
    | @pi _ _ _ S S' i k r C E J=>
     have hA:=iA n D c s _ hf.1 hv hs r;refine⟨v.pi _ hA.w, ?_⟩;rw[(g.sort_inv (.refl _)).2,Bm];obtain⟨QA,PA,V,qA⟩:=hA.ty (C.sub s);obtain⟨Q',P',g',-⟩:=tC (L:=fun j=> j < max i k) v (B:=(B.sub (ups c)).sub (ups s)) hA.w (V.up fun j hj=> by omega) (fun d hd=> by
      obtain⟨Q,P,o,y⟩:=(below iB hf.2 hv hs E V qA hd).ty (J.sub _);exact⟨Q,P,o.up fun j hj=> by omega,y⟩)
     exact⟨Q',P',g'⟩
 |sg A B iA iB=>
  refine fin (fun n D c s T hf hv hs ht=> ?_) (fun n D c s T Q P hf hv hs ht g K _=> ?_)
  · cases ht with
    |sg=> exact⟨_,_,qg trivial,v.sort _,.refl _⟩
  · cases ht with
    | @sg _ _ _ S S' i k r C E J=>
     have hA:=iA n D c s _ hf.1 hv hs r;refine⟨v.sg _ hA.w, ?_⟩;rw[(g.sort_inv (.refl _)).2,Bm];obtain⟨QA,PA,V,qA⟩:=hA.ty (C.sub s);obtain⟨Q',P',g',-⟩:=vJ (L:=fun j=> j < max i k) v (B:=(B.sub (ups c)).sub (ups s)) hA.w (V.up fun j hj=> by omega) (fun d hd=> by
      obtain⟨Q,P,o,y⟩:=(below iB hf.2 hv hs E V qA hd).ty (J.sub _);exact⟨Q,P,o.up fun j hj=> by omega,y⟩)
     exact⟨Q',P',g'⟩
 |lam A t iA it=>
  refine fin (fun n D c s T hf hv hs ht=> ?_) (fun n D c s T Q P hf hv hs ht g K _=> ?_)
  · cases ht with
    | @lam _ _ _ B S i r C E=>
     have hA:=iA n D c s _ hf.1 hv hs r;obtain⟨QA,PA,V,qA⟩:=hA.ty (C.sub s);exact tC v (B:=B.sub (ups s)) hA.w V.top (fun d hd=> by
      obtain⟨Q,P,o,y,-⟩:=below it hf.2 hv hs E V qA hd;rw[<-QI] at o y;exact⟨Q,P,o,y⟩)
  · cases ht with
    | @lam _ _ _ B S i r C E=>
     have hA:=iA n D c s _ hf.1 hv hs r;obtain⟨QC,PC,Qd,Pd,g1,g2,M,g4,g5,g6⟩:=g.pi_inv (.refl _);refine⟨v.lam _ hA.w,(g6 _).2 fun d hd=> ?_⟩;refine(M d hd).back (.one (.beta _ _ _)) ?_;have Y:=below it hf.2 hv hs E g1 g2 hd;rw[<-QI] at Y;exact Y.p (M d hd) (Cv.rfl' _)
 |app f a jf H=>
  have key: ∀(n:Nat) (D:List Tm) (c s:Nat->Tm) (T:Tm),fvb n (.app f a)->Vl G W n D c s->Xa D G s->Ty D ((Tm.app f a).sub c) T->W (((Tm.app f a).sub c).sub s)/\ ∃Q P,GL G W Te (T.sub s) Q P/\Q (T.sub s)/\P (((Tm.app f a).sub c).sub s):=by
   intro n D c s T hf hv hs ht;cases ht with
   |app r C E J=>
    have hF:=jf n D c s _ hf.1 hv hs r;have hA:=H n D c s _ hf.2 hv hs E;obtain⟨Q,P,o,y,I,-⟩:=hF.papp (C.sub s) hA (J.sub s);refine⟨v.app hF.w hA.w,Q,P, ?_, ?_,I⟩
    · rw[Wi];exact o
    · rw[Wi];exact y
  refine fin (fun n D c s T hf hv hs ht=> ?_) (fun n D c s T Q P hf hv hs ht g K _=> ?_)
  · obtain⟨-,Q,P,o,y,-⟩:=key n D c s T hf hv hs ht
    exact⟨Q,P,o,y⟩
  · obtain⟨w,Q',P',o,y,I⟩:=key n D c s T hf hv hs ht
    exact⟨w,((o.eq g (Cv.rfl' _)).2 _).1 I⟩
 |elim p z s' a jp jz js H=>
  refine fin (fun n D c s T hf hv hs ht=> ?_) (fun n D c s T Q P hf hv hs ht g K _=> ?_)
  · cases ht with
    |elim r C E J U O h7 h8 h9 R=>
     have N:=jp n D c s _ hf.1 hv hs r;have u:=H n D c s _ hf.2.2.2 hv hs h9;exact N.fam (C.sub s) (J.sub (ups s)) u ((R.trans E.symm).sub s) (v.app N.w u.w)
  · cases ht with
    |elim r C E J U O h7 h8 h9 R=>
     have N:=jp n D c s _ hf.1 hv hs r;have hz:=jz n D c s _ hf.2.1 hv hs U;have hS:=js n D c s _ hf.2.2.1 hv hs h7;have u:=H n D c s _ hf.2.2.2 hv hs h9;refine⟨v.elim N.w hz.w hS.w u.w, ?_⟩;obtain⟨A,o,y,I⟩:=u.own;exact FC v N (C.sub s) (E.sub s) (J.sub (ups s)) hz (O.sub s) hS (by have:=h8.sub s;rwa [Ry] at this) (u.p (Wg (k:=Te)) (R.sub s)) u.w o (I.trans (R.sub s)) y.wt g
 |id T a b jT H jb=>
  refine fin (fun n D c s T hf hv hs ht=> ?_) (fun n D c s T Q P hf hv hs ht g K _=> ?_)
  · cases ht with
    |id=> exact⟨_,_,qg trivial,v.sort _,.refl _⟩
  · cases ht with
    |id r C E J U O=>
     have hT:=jT n D c s _ hf.1 hv hs r;have u:=H n D c s _ hf.2.1 hv hs E;have Y:=jb n D c s _ hf.2.2 hv hs U;refine⟨v.id hT.w u.w Y.w, ?_⟩;rw[(g.sort_inv (.refl _)).2,Bm];obtain⟨QX,PX,Z,qX⟩:=hT.ty (C.sub s);exact⟨_,_,.id (.refl _) Z qX (u.gd Z (J.sub s)) (Y.gd Z (O.sub s)) (fun _=> jU) (fun _=> jU)⟩
 |refl a H=>
  refine fin (fun n D c s T hf hv hs ht=> ?_) (fun n D c s T Q P hf hv hs ht g K _=> ?_)
  · cases ht with
    | @refl _ _ A r=>
     have u:=H n D c s _ hf hv hs r;obtain⟨QX,PX,Z,qX,dX⟩:=u;have g:GL G W Te (.id (A.sub s) ((a.sub c).sub s) ((a.sub c).sub s)) _ _:= .id (.refl _) Z qX dX dX (fun _=> jU) (fun _=> jU);exact⟨_,_,g,g.q (v.id (Z.w qX) dX.1 dX.1)⟩
  · cases ht with
    | @refl _ _ A r=>
     have u:=H n D c s _ hf hv hs r;refine⟨v.refl u.w fun A0 bu=> ?_, ?_⟩
     · obtain⟨A1,o,y,I⟩:=u.own
       obtain rfl:=o.det bu;exact y.wt
     · obtain⟨QX,PX,-,-,-,-,l⟩:=g.id_inv (.refl _)
       exact(l _).2 (.inl ⟨_,.refl _,Cv.rfl' _,Cv.rfl' _⟩)
 |move p e a jp je H=>
  have key: ∀(n:Nat) (D:List Tm) (c s:Nat->Tm) (T:Tm),fvb n (.move p e a)->Vl G W n D c s->Xa D G s->Ty D ((Tm.move p e a).sub c) T->W (((Tm.move p e a).sub c).sub s)/\ ∃Q P,GL G W Te (T.sub s) Q P/\Q (T.sub s)/\P (((Tm.move p e a).sub c).sub s):=by
   intro n D c s T hf hv hs ht;cases ht with
   |move r C E J U O h7 h8=>
    have he:=je n D c s _ hf.2.1 hv hs r;have N:=jp n D c s _ hf.1 hv hs E;have u:=H n D c s _ hf.2.2 hv hs h7;obtain⟨Q,P,o,y,I,k4,k5⟩:=he;obtain⟨QX,PX,Z,qX,d1,d2,l⟩:=o.id_inv (C.sub s);have hC:=Ok.of Z qX d2;obtain⟨QT,PT,gT,qT⟩:=N.fam (J.sub s) (O.sub (ups s)) hC (U.symm.sub s) (v.app N.w d2.1);refine⟨v.move N.w I u.w,QT,PT,gT,qT, ?_⟩;rcases(l _).1 k5 with⟨b,m1,m2,m3⟩ |m
    · refine gT.back ((m1.map (F:=fun x=> .move _ x _) fun h=> .move _ _ h).trans (.one (.mr _ _ _))) ?_
      exact u.p gT ((h8.sub s).trans (.app (Cv.rfl' _) (m2.symm.trans m3)))
    · exact gT.stuck (m.move _ _)
  refine fin (fun n D c s T hf hv hs ht=> ?_) (fun n D c s T Q P hf hv hs ht g K _=> ?_)
  · obtain⟨-,Q,P,o,y,-⟩:=key n D c s T hf hv hs ht
    exact⟨Q,P,o,y⟩
  · obtain⟨w,Q',P',o,y,I⟩:=key n D c s T hf hv hs ht
    exact⟨w,((o.eq g (Cv.rfl' _)).2 _).1 I⟩
 |pair T a b jT H jb=>
  refine fin (fun n D c s T hf hv hs ht=> ?_) (fun n D c s T Q P hf hv hs ht g K _=> ?_)
  · cases ht with
    |pair r C E J U O h7=>
     have hT:=jT n D c s _ hf.1 hv hs r;obtain⟨Q,P,o,y⟩:=hT.ty (C.sub s);exact⟨Q,P,o.top,y⟩
  · cases ht with
    |pair r C E J U O h7=>
     have hT:=jT n D c s _ hf.1 hv hs r;have u:=H n D c s _ hf.2.1 hv hs J;have Y:=jb n D c s _ hf.2.2 hv hs O;refine⟨v.pair hT.w u.w Y.w, ?_⟩;obtain⟨QC,PC,Qd,Pd,g1,g2,M,g4,g5,g6⟩:=g.sg_inv (E.sub s);refine(g6 _).2 ⟨g1.back (.one (.fp _ _ _)) (u.p g1 (U.sub s)),fun d hd hc=>(M d hd).back (.one (.sp _ _ _)) (Y.p (M d hd) ?_)⟩;have e:=h7.sub s;rw[Wi] at e;exact e.trans ((Cv.rfl' _).inst (hc.trans (HR.one (.fp _ _ _)).cv).symm)
 |fst a H=>
  have key: ∀(n:Nat) (D:List Tm) (c s:Nat->Tm) (T:Tm),fvb n (.fst a)->Vl G W n D c s->Xa D G s->Ty D ((Tm.fst a).sub c) T->W (((Tm.fst a).sub c).sub s)/\ ∃Q P,GL G W Te (T.sub s) Q P/\Q (T.sub s)/\P (((Tm.fst a).sub c).sub s):=by
   intro n D c s T hf hv hs ht;cases ht with
   |fst r C=>
    have u:=H n D c s _ hf hv hs r;obtain⟨QC,PC,Qd,Pd,g1,g2,M,-⟩:=u.sgp (C.sub s) v;exact⟨v.fst u.w,QC,PC,g1,g2,M.2.2⟩
  refine fin (fun n D c s T hf hv hs ht=> ?_) (fun n D c s T Q P hf hv hs ht g K _=> ?_)
  · obtain⟨-,Q,P,o,y,-⟩:=key n D c s T hf hv hs ht
    exact⟨Q,P,o,y⟩
  · obtain⟨w,Q',P',o,y,I⟩:=key n D c s T hf hv hs ht
    exact⟨w,((o.eq g (Cv.rfl' _)).2 _).1 I⟩
 |snd a H=>
  have key: ∀(n:Nat) (D:List Tm) (c s:Nat->Tm) (T:Tm),fvb n (.snd a)->Vl G W n D c s->Xa D G s->Ty D ((Tm.snd a).sub c) T->W (((Tm.snd a).sub c).sub s)/\ ∃Q P,GL G W Te (T.sub s) Q P/\Q (T.sub s)/\P (((Tm.snd a).sub c).sub s):=by
   intro n D c s T hf hv hs ht;cases ht with
   |snd r C=>
    have u:=H n D c s _ hf hv hs r;obtain⟨QC,PC,Qd,Pd,g1,g2,M,g4,g5,g6⟩:=u.sgp (C.sub s) v;refine⟨v.snd u.w,Qd (.fst ((a.sub c).sub s)),Pd (.fst ((a.sub c).sub s)), ?_, ?_,g6⟩
    · rw[Wi];exact g4 _ M
    · rw[Wi];exact g5 _ M
  refine fin (fun n D c s T hf hv hs ht=> ?_) (fun n D c s T Q P hf hv hs ht g K _=> ?_)
  · obtain⟨-,Q,P,o,y,-⟩:=key n D c s T hf hv hs ht
    exact⟨Q,P,o,y⟩
  · obtain⟨w,Q',P',o,y,I⟩:=key n D c s T hf hv hs ht
    exact⟨w,((o.eq g (Cv.rfl' _)).2 _).1 I⟩
def DG(G:List Tm)(k:Nat):Prop:= ∀A,A∈G->dep A<=k
theorem DG.nil{k:Nat}:DG [] k:=fun _ h=> by simp at h
theorem DG.cons{G:List Tm}{k:Nat}{A:Tm}(h:DG G k)(a:dep A<=k):DG (A::G) k:=fun B hB=> by
 rcases List.mem_cons.1 hB with rfl|hB
 · exact a
 · exact h B hB
theorem DG.lk{G:List Tm}{k n:Nat}{A:Tm}(h:DG G k)(e:lk G n=some A):dep A<=k:=by
 unfold M.lk at e;rw[Option.map_eq_some_iff] at e;obtain⟨B,hB,rfl⟩:=e;rw[dep_ren];exact h B (List.mem_of_getElem? hB)
theorem DG.up{G:List Tm}{k m:Nat}(h:DG G k)(e:k<=m):DG G m:=fun A hA=> bL (h A hA) e
theorem sx{G:List Tm}{t T:Tm}{k:Nat}(hG:DG G k)(hk:1<=k)(d:dep t<=1)(h:Ty G t T):dep T<=k:=by
 rcases Py d with⟨n,rfl⟩ |⟨n,rfl⟩ |rfl|rfl
 · cases h with|var h=> exact hG.lk h
 all_goals cases h;exact hk
theorem HR.ev{a b:Tm}(h:HR a b)(k:hk b≠0): ∃n,Ev n a b:=Ev.of h k
theorem EK{G:List Tm}{q Q u:Tm}{n:Nat}(hG:DG G 3)(d:dep q<=2)(h:Ty G q Q)(e:Ev n Q u):
 dep u<=3\/(∃T v,q=refl v/\u= .id T v v)\/ ∃A t B,q=lam A t/\u=pi A B/\dep t<=1/\Ty (A::G) t B:=by
 by_cases l:dep q<=1
 · exact .inl (ev3' (sx hG (by omega) l h) e)
 cases h with
 |var=> exact absurd (aN _) l
 |sort=> exact absurd (aN _) l
 |nat=> exact absurd (aN _) l
 |zero=> exact absurd (aN _) l
 |succ=> exact .inl (by have:=d7 (aN _) e;omega)
 |pi=> exact .inl (by have:=d7 (aN _) e;omega)
 |sg=> exact .inl (by have:=d7 (aN _) e;omega)
 |id=> exact .inl (by have:=d7 (aN _) e;omega)
 |lam c g o=>
  rw[e.val (by simp[hk])];exact .inr (.inr ⟨_,_,_,rfl,rfl,by simp only[dep] at d;omega,o⟩)
 | @app _ f a F A C R c g o r=>
  simp only[dep] at d;obtain⟨m,j⟩:=g.ev (by simp[hk]);have:=ev3' (sx hG (by omega) (by omega) c) j;simp only[dep] at this;have:=dep_inst R a;exact .inl (ev3' (by omega) e)
 | @elim _ p z s a=>
  simp only[dep] at d;exact .inl (ev3' (by simp only[dep];omega) e)
 |refl=>
  rw[e.val (by simp[hk])];exact .inr (.inl ⟨_,_,rfl,rfl⟩)
 | @move _ p x a E T B C F w D k A c g=>
  simp only[dep] at d;obtain⟨m,j⟩:=g.ev (by simp[hk]);have:=ev3' (sx hG (by omega) (by omega) c) j;simp only[dep] at this;exact .inl (ev3' (by simp only[dep];omega) e)
 | @pair _ T a b S i C D A B c=>
  simp only[dep] at d;exact .inl (ev3' (by omega) e)
 | @fst _ a A C D c g=>
  simp only[dep] at d;obtain⟨m,j⟩:=g.ev (by simp[hk]);have:=ev3' (sx hG (by omega) (by omega) c) j;simp only[dep] at this;exact .inl (ev3' (by omega) e)
 | @snd _ a A C D c g=>
  simp only[dep] at d;obtain⟨m,j⟩:=g.ev (by simp[hk]);have:=ev3' (sx hG (by omega) (by omega) c) j;simp only[dep] at this;have:=dep_inst D (.fst a);simp only[dep] at this;exact .inl (ev3' (by omega) e)
theorem Zl{G:List Tm}{A t B a:Tm}(hG:DG G 3)(d:dep t<=1)(hA:dep A<=3)(h:Ty (A::G) t B):dep (B.inst a)<=3:=by
 rcases Py d with⟨n,rfl⟩ |⟨n,rfl⟩ |rfl|rfl
 · cases h with
   |var h=>
    cases n with
    |zero=>
     rw[lk_zero] at h;obtain rfl:=Option.some.inj h;rw[wk_inst];exact hA
    |succ n=>
     rw[j62,Option.map_eq_some_iff] at h;obtain⟨C,hC,rfl⟩:=h;rw[wk_inst];exact hG.lk hC
 all_goals cases h;exact(show 1<=3 by omega)
theorem ty3{G:List Tm}{q Q T l r:Tm}{n:Nat}(hG:DG G 3)(d:dep q<=3)(h:Ty G q Q)(e:Ev n Q (.id T l r)):l=r\/dep l<=3:=by
 have fin: ∀{k:Nat} {X:Tm},dep X<=4->Ev k X (.id T l r)->l=r\/dep l<=3:=fun M e=> by
  have:=uK _ _ _ M e;simp only[dep] at this;omega
 by_cases w:dep q<=1
 · exact fin (bL (sx hG (by omega) w h) (by omega)) e
 have g: ∀{x X c:Tm} {m:Nat},dep x<=2->Ty G x X->Ev m X c->dep c<=3\/(∃T v,x=refl v/\c= .id T v v)\/ ∃A t B,x=lam A t/\c=pi A B/\dep t<=1/\Ty (A::G) t B:=fun a b c=> EK hG a b c
 cases h with
 |var=> exact absurd (aN _) w
 |sort=> exact absurd (aN _) w
 |nat=> exact absurd (aN _) w
 |zero=> exact absurd (aN _) w
 |succ=> exact fin (by simp[dep]) e
 |pi=> exact fin (by simp[dep]) e
 |sg=> exact fin (by simp[dep]) e
 |id=> exact fin (by simp[dep]) e
 |lam j o K=> cases e.val (by simp[hk])
 | @app _ f a F A C R j o K N=>
  simp only[dep] at d;obtain⟨m,u⟩:=o.ev (by simp[hk]);rcases g (by omega) j u with h|⟨_,_,-,h⟩ |⟨y,t,B,rfl,h,J,ht⟩
  · simp only[dep] at h
    have:=dep_inst R a;exact fin (by omega) e
  · cases h
  · injection h with I H
    subst I H;simp only[dep] at d;exact fin (bL (Zl hG J (by omega) ht) (by omega)) e
 | @elim _ p z s a=>
  simp only[dep] at d;exact fin (by simp only[dep];omega) e
 |refl=>
  cases e.val (by simp[hk])
  exact .inl rfl
 | @move _ p x a E T B C F O D k A j o=>
  simp only[dep] at d;obtain⟨m,u⟩:=o.ev (by simp[hk]);rcases g (by omega) j u with h|⟨_,v,rfl,h⟩ |⟨y,t,B,-,h,-⟩
  · simp only[dep] at h
    exact fin (by simp only[dep];omega) e
  · injection h with I H L
    subst L;simp only[dep] at d;exact fin (by simp only[dep];omega) e
  · cases h
 | @pair _ T a b S i C D A B j=>
  simp only[dep] at d;exact fin (by omega) e
 | @fst _ a A C D j o=>
  simp only[dep] at d;obtain⟨m,u⟩:=o.ev (by simp[hk]);rcases g (by omega) j u with h|⟨_,v,-,h⟩ |⟨y,t,B,-,h,-⟩
  · simp only[dep] at h
    exact fin (by omega) e
  · cases h
  · cases h
 | @snd _ a A C D j o=>
  simp only[dep] at d;obtain⟨m,u⟩:=o.ev (by simp[hk]);rcases g (by omega) j u with h|⟨_,v,-,h⟩ |⟨y,t,B,-,h,-⟩
  · simp only[dep] at h
    have:=dep_inst D (.fst a);simp only[dep] at this;exact fin (by omega) e
  · cases h
  · cases h
def Wf(G:List Tm):Prop:= ∀n A,G[n]? =some A-> ∃S i,Ty (G.drop (n+1)) A S/\HR S (.sort i)
theorem RenOk.drop(G:List Tm)(k:Nat):RenOk (G.drop k) G (fun i=> i+k):=by
 intro n A h;unfold lk at h⊢;rw[List.getElem?_drop] at h;obtain⟨B,a,rfl⟩:=Option.map_eq_some_iff.1 h
 show Option.map _ G[n+k]? =_
 rw[Nat.add_comm n k,a,Option.map_some,ren_ren]
 congr 2
 funext i
 show i+(n+k+1)=i+(n+1)+k
 omega
variable {G : List Tm} {W : Tm → Prop}
theorem vars(b:If G W)(hG:Wf G): ∀(m x:Nat),G.length<=x+m-> ∀A,lk G x=some A->Ok G W A (.var x):=by
 intro m
 induction m with
 |zero=> intro x hx A hA;have:=lk_lt hA;omega
 |succ m ih=>
  intro x hx A hA;have k:=lk_lt hA;have d:=hA;unfold lk at d;obtain⟨a,l,rfl⟩:=Option.map_eq_some_iff.1 d;obtain⟨S,i,c,f⟩:=hG x a l;have j:=c.ren (RenOk.drop G (x+1));have hf:=c.fv;rw[List.length_drop] at hf;have hk:=iE b a (G.length -(x+1)) G (fun y=> .var (y+(x+1))) Tm.var (S.ren fun i=> i+(x+1)) hf (fun y n=> by
   have hy2:y+(x+1) < G.length:=by omega
   obtain⟨X,e⟩: ∃X,lk G (y+(x+1))=some X:=by
    unfold lk;rw[List.getElem?_eq_getElem hy2];exact⟨_,rfl⟩
   refine⟨X,.var e, ?_⟩;rw[ac,ac];exact ih _ (by omega) X e) (Xa.var G) (by rw[<-pj];exact j)
  rw[ac,ac,<-pj] at hk;obtain⟨Q,P,g,q⟩:=hk.ty (f.ren _);exact Ok.of g q ⟨b.var x,⟨_,.var hA,Cv.rfl' _,q⟩,g.stuck (Ne.var x)⟩
theorem uF(a:If G W)(hG:Wf G){t T:Tm}(h:Ty G t T):Ok G W T t:=by
 have hk:=iE a t G.length G Tm.var Tm.var T h.fv (fun x hx=> by
  obtain⟨X,b⟩: ∃X,lk G x=some X:=by
   unfold lk;rw[List.getElem?_eq_getElem hx];exact⟨_,rfl⟩
  refine⟨X,.var b, ?_⟩;rw[ac,ac];exact vars a hG G.length x (by omega) X b) (Xa.var G) (by rw[ac];exact h)
 rw[ac,ac,ac] at hk;exact hk
theorem zB(a:If G W)(hG:Wf G){t T:Tm}(h:Ty G t T):W T:=(uF a hG h).wt
theorem allW(c:If G W)(hG:Wf G): ∀t:Tm,W t:=by
 intro t
 induction t with
 |var n=> exact c.var n
 |sort n=> exact c.sort n
 |nat=> exact c.nat
 |zero=> exact c.zero
 |succ a i=> exact c.succ i
 |pi A B i j=> exact c.pi B i
 |sg A B i j=> exact c.sg B i
 |lam A t i j=> exact c.lam t i
 |app f a i j=> exact c.app i j
 |elim p z s a i j k l=> exact c.elim i j k l
 |id T a b i j k=> exact c.id i j k
 |refl a i=> exact c.refl i fun A h=> zB c hG h
 |move p e a i j k=> exact c.move i j k
 |pair T a b i j k=> exact c.pair i j k
 |fst a i=> exact c.fst i
 |snd a i=> exact c.snd i
theorem Xa.ctx{A a:Tm}(G:List Tm)(h:Cv a A):Xa (A::G) (a::G) Tm.var:=by
 intro n B hB;cases n with
 |zero=>
  rw[lk_zero] at hB;obtain rfl:=Option.some.inj hB;exact⟨_,.var (lk_zero _ _),by rw[ac];exact h.ren _⟩
 |succ n=>
  rw[j62] at hB;obtain⟨X,b,rfl⟩:=Option.map_eq_some_iff.1 hB;exact⟨_,.var (by rw[j62,b];rfl),by rw[ac];exact Cv.rfl' _⟩
theorem Ty.ctx{G:List Tm}{A b t B:Tm}(h:Ty (A::G) t B)(k:Cv b A): ∃a,Ty (b::G) t a/\Cv a B:=by
 have:=h.sub (Xa.ctx G k)
 rwa [ac,ac] at this
theorem Ty.ins{G:List Tm}{A t B u X:Tm}(h:Ty (A::G) t B)(b:Ty G u X)(k:Cv X A): ∃a,Ty G (t.inst u) a/\Cv a (B.inst u):=
 h.sub ((Xa.var G).cns b (by rwa [ac]))
theorem xF(p a:Tm):(Tm.pi (.app (wk p) (.var 0)) (.app (p.ren (fun i=> i+2)) (.succ (.var 1)))).inst a= .pi (.app p a) (.app (wk p) (.succ (wk a))):=by
 unfold inst;simp only[Tm.sub,cns,ups];rw[No,ac,yy]
 congr 2
 show p.sub _=p.ren Nat.succ
 rw[pj]
 rfl
theorem TH(p a u:Tm):(Tm.app (wk p) (.succ (wk a))).inst u= .app p (.succ a):=by
 show Tm.app ((wk p).inst u) (.succ ((wk a).inst u))=_
 rw[wk_inst,wk_inst]
theorem Ty.par{t t':Tm}(h:Par t t'): ∀{G:List Tm} {A:Tm},Ty G t A-> ∃A',Ty G t' A'/\Cv A' A:=by
 induction h with
 |var n=> intro G A k;exact⟨_,k,Cv.rfl' _⟩
 |sort n=> intro G A k;exact⟨_,k,Cv.rfl' _⟩
 |nat=> intro G A k;exact⟨_,k,Cv.rfl' _⟩
 |zero=> intro G A k;exact⟨_,k,Cv.rfl' _⟩
 |pi c w e o=>
  intro G A k;cases k with
  |pi g i j l=>
   obtain⟨S1,f,d⟩:=e g;obtain⟨S2,m,q⟩:=o j;obtain⟨S3,u,r⟩:=m.ctx c.cv.symm;exact⟨_,.pi f (d.trans i.cv).to_sort u ((r.trans q).trans l.cv).to_sort,Cv.rfl' _⟩
 |sg c w e o=>
  intro G A k;cases k with
  |sg g i j l=>
   obtain⟨S1,f,d⟩:=e g;obtain⟨S2,m,q⟩:=o j;obtain⟨S3,u,r⟩:=m.ctx c.cv.symm;exact⟨_,.sg f (d.trans i.cv).to_sort u ((r.trans q).trans l.cv).to_sort,Cv.rfl' _⟩
 |lam c w e o=>
  intro G A k;cases k with
  |lam g i j=>
   obtain⟨S1,f,d⟩:=e g;obtain⟨S2,m,q⟩:=o j;obtain⟨S3,u,r⟩:=m.ctx c.cv.symm;exact⟨_,.lam f (d.trans i.cv).to_sort u,.pi c.cv.symm (r.trans q)⟩
 |app c w e o=>
  intro G A k;cases k with
  |app g i j l=>
   obtain⟨F',f,d⟩:=e g;obtain⟨D,m,q⟩:=o j;obtain⟨I,R',m1,v,x⟩:=(d.trans i.cv).to_pi;exact⟨_,.app f m1 m ((q.trans l).trans v.symm),x.inst w.cv.symm⟩
 |succ c e=>
  intro G A k;cases k with
  |succ g i=>
   obtain⟨S1,f,d⟩:=e g;exact⟨_,.succ f (d.trans i),Cv.rfl' _⟩
 |elim c w Q h4 e o E V=>
  intro G A k;cases k with
  |elim g i j l y B C F O H=>
   obtain⟨F',f,d⟩:=e g;obtain⟨Z',m,q⟩:=o y;obtain⟨X,u,r⟩:=E C;obtain⟨A',P,R⟩:=V O;obtain⟨I,M,m1,v,x⟩:=(d.trans i.cv).to_pi;exact⟨_,.elim f m1 (v.trans j) (x.trans l.cv).to_sort m ((q.trans B).trans (.app c.cv (Cv.rfl' _))) u ((r.trans F).trans (Cv.stepTy c.cv)) P (R.trans H),.app c.cv.symm h4.cv.symm⟩
 |id c w Q e o E=>
  intro G A k;cases k with
  |id g i j l y B=>
   obtain⟨X,f,d⟩:=e g;obtain⟨D,m,q⟩:=o j;obtain⟨Y',u,r⟩:=E y;exact⟨_,.id f (d.trans i.cv).to_sort m ((q.trans l).trans c.cv) u ((r.trans B).trans c.cv),Cv.rfl' _⟩
 |refl c e=>
  intro G A k;cases k with
  |refl g=>
   obtain⟨D,f,d⟩:=e g;exact⟨_,.refl f,.id d c.cv.symm c.cv.symm⟩
 |move c w Q e o E=>
  intro G A k;cases k with
  |move g i j l y B C F=>
   obtain⟨E',f,d⟩:=o g;obtain⟨F',m,q⟩:=e j;obtain⟨D,u,r⟩:=E C;obtain⟨U,B',I,m1,v,x,m4⟩:=(d.trans i.cv).to_id;obtain⟨P',M,S,Z,n3⟩:=(q.trans l.cv).to_pi;exact⟨_,.move f m1 m S ((Z.trans y).trans v.symm) (n3.trans B.cv).to_sort u ((r.trans F).trans (.app c.cv x.symm)),.app c.cv.symm m4⟩
 |pair c w Q e o E=>
  intro G A k;cases k with
  |pair g i j l y B C=>
   obtain⟨X,f,d⟩:=e g;obtain⟨D,m,q⟩:=o l;obtain⟨Y',u,r⟩:=E B;obtain⟨I,M,m1,v,x⟩:=(c.cv.symm.trans j.cv).to_sg;exact⟨_,.pair f (d.trans i.cv).to_sort m1 m ((q.trans y).trans v.symm) u ((r.trans C).trans (x.symm.inst w.cv)),c.cv.symm⟩
 |fst c e=>
  intro G A k;cases k with
  |fst g i=>
   obtain⟨D,f,d⟩:=e g;obtain⟨I,M,m1,v,x⟩:=(d.trans i.cv).to_sg;exact⟨_,.fst f m1,v⟩
 |snd c e=>
  intro G A k;cases k with
  |snd g i=>
   obtain⟨D,f,d⟩:=e g;obtain⟨I,M,m1,v,x⟩:=(d.trans i.cv).to_sg;exact⟨_,.snd f m1,x.inst (.fst c.cv.symm)⟩
 |beta c w e o=>
  intro G A k;cases k with
  |app g i j l=>
   cases g with
   |lam K L N=>
    obtain⟨rfl,rfl⟩:=(HR.refl _).pi_det i;obtain⟨B',f,d⟩:=e N;obtain⟨D,m,q⟩:=o j;obtain⟨Y,u,r⟩:=f.ins m (q.trans l);exact⟨Y,u,r.trans (d.inst w.cv.symm)⟩
 |ez c e=>
  intro G A k;cases k with
  |elim g i j l y B C F O H=>
   obtain⟨Z',f,d⟩:=e y;exact⟨_,f,d.trans B⟩
 | @es p p' z z' s s' a J c w Q h4 e o E V=>
  intro G A k;cases k with
  |elim g i j l y B C F O H=>
   cases O with
   |succ K L=>
    obtain⟨F',f,d⟩:=e g;obtain⟨Z',m,q⟩:=o y;obtain⟨X,u,r⟩:=E C;obtain⟨N',P,R⟩:=V K;obtain⟨I,M,m1,v,x⟩:=(d.trans i.cv).to_pi;have hE:Ty G (.elim p' z' s' J) (.app p' J):= .elim f m1 (v.trans j) (x.trans l.cv).to_sort m ((q.trans B).trans (.app c.cv (Cv.rfl' _))) u ((r.trans F).trans (Cv.stepTy c.cv)) P (R.trans L);obtain⟨C1,R1,S,Z,n3⟩:=(r.trans F).to_pi;have hA:Ty G (.app s' J) (R1.inst J):= .app u S P ((R.trans L).trans Z.symm);have e1:=n3.inst (Cv.rfl' J);rw[xF] at e1;obtain⟨C2,R2,o1,o2,o3⟩:=e1.to_pi;refine⟨_,.app hA o1 hE ((Cv.app c.cv.symm (Cv.rfl' _)).trans o2.symm), ?_⟩;have e2:=o3.inst (Cv.rfl' (Tm.elim p' z' s' J));rw[TH] at e2;exact e2.trans (.app (Cv.rfl' _) (.succ h4.cv.symm))
 |mr c e=>
  intro G A k;cases k with
  |move g i j l y B C F=>
   cases g with
   |refl K=>
    obtain⟨rfl,rfl,rfl⟩:=(HR.refl _).id_det i;obtain⟨D,f,d⟩:=e C;exact⟨_,f,d.trans F⟩
 |fp c e=>
  intro G A k;cases k with
  |fst g i=>
   cases g with
   |pair K L N l4 l5 l6 l7=>
    obtain⟨rfl,rfl⟩:=N.sg_det i;obtain⟨D,f,d⟩:=e l4;exact⟨_,f,d.trans l5⟩
 | @sp T a b b' c e=>
  intro G A k;cases k with
  |snd g i=>
   cases g with
   |pair K L N l4 l5 l6 l7=>
    obtain⟨rfl,rfl⟩:=N.sg_det i;obtain⟨D,f,d⟩:=e l6;exact⟨_,f,(d.trans l7).trans ((Cv.rfl' _).inst (HR.one (.fp T a b)).cv.symm)⟩
theorem Ty.red{t b:Tm}(h:Red t b): ∀{G:List Tm} {A:Tm},Ty G t A-> ∃a,Ty G b a/\Cv a A:=by
 induction h with
 |refl=> intro G A k;exact⟨_,k,Cv.rfl' _⟩
 |step f i ih=>
  intro G A k;obtain⟨B,e,d⟩:=Ty.par f k;obtain⟨C,c,g⟩:=ih e;exact⟨C,c,g.trans d⟩
def U4(G:List Tm)(A:Tm)(k:Nat):Prop:= ∃S,Ty G A S/\HR S (.sort k)
theorem U4.det{G:List Tm}{A:Tm}{i k:Nat}(h:U4 G A i)(c:U4 G A k):i=k:=by
 obtain⟨S,e,b⟩:=h;obtain⟨f,d,a⟩:=c;obtain rfl:=e.det d;exact b.sort_det a
theorem U4.red{G:List Tm}{A B:Tm}{i:Nat}(h:U4 G A i)(r:Red A B):U4 G B i:=by
 obtain⟨S,d,b⟩:=h;obtain⟨e,c,a⟩:=Ty.red r d;exact⟨e,c,(a.trans b.cv).to_sort⟩
theorem U4.cv{G:List Tm}{A B:Tm}{i k:Nat}(h:U4 G A i)(a:U4 G B k)(e:Cv A B):i=k:=by
 obtain⟨C,c,b⟩:=e;exact(h.red c).det (a.red b)
theorem U4.sub{G D:List Tm}{A:Tm}{i:Nat}{s:Nat->Tm}(h:U4 G A i)(hs:Xa G D s):U4 D (A.sub s) i:=by
 obtain⟨S,d,b⟩:=h;obtain⟨e,c,a⟩:=d.sub hs;exact⟨e,c,(a.trans (b.sub s).cv).to_sort⟩
theorem U4.ren{G D:List Tm}{A:Tm}{i:Nat}{r:Nat->Nat}(h:U4 G A i)(hr:RenOk G D r):U4 D (A.ren r) i:=by
 obtain⟨S,b,a⟩:=h;exact⟨_,b.ren hr,a.ren r⟩
theorem U4.ctx{G:List Tm}{A a B:Tm}{i:Nat}(h:U4 (A::G) B i)(k:Cv a A):U4 (a::G) B i:=by
 have:=h.sub (Xa.ctx G k)
 rwa [ac] at this
theorem U4.ins{G:List Tm}{A B u X:Tm}{i:Nat}(h:U4 (A::G) B i)(a:Ty G u X)(k:Cv X A):U4 G (B.inst u) i:=
 h.sub ((Xa.var G).cns a (by rwa [ac]))
theorem U4.sort(G:List Tm)(n:Nat):U4 G (.sort n) (n+1):=⟨_,.sort,.refl _⟩
theorem U4.nat(G:List Tm):U4 G .nat 0:=⟨_,.nat,.refl _⟩
theorem U4.pi_inv{G:List Tm}{C R:Tm}{k:Nat}(h:U4 G (.pi C R) k): ∃i j,U4 G C i/\U4 (C::G) R j/\k=max i j:=by
 obtain⟨S,e,a⟩:=h;cases e with
 |pi d c b f=> exact⟨_,_,⟨_,d,c⟩,⟨_,b,f⟩,(a.sort_det (.refl _))⟩
theorem U4.sg_inv{G:List Tm}{C R:Tm}{k:Nat}(h:U4 G (.sg C R) k): ∃i j,U4 G C i/\U4 (C::G) R j/\k=max i j:=by
 obtain⟨S,e,a⟩:=h;cases e with
 |sg d c b f=> exact⟨_,_,⟨_,d,c⟩,⟨_,b,f⟩,(a.sort_det (.refl _))⟩
theorem U4.pi{G:List Tm}{C R:Tm}{i j:Nat}(h:U4 G C i)(k:U4 (C::G) R j):U4 G (.pi C R) (max i j):=by
 obtain⟨S,d,b⟩:=h;obtain⟨e,c,a⟩:=k;exact⟨_,.pi d b c a,.refl _⟩
theorem U4.id_inv{G:List Tm}{T a b:Tm}{k:Nat}(h:U4 G (.id T a b) k):U4 G T k/\(∃A,Ty G a A/\Cv A T)/\ ∃B,Ty G b B/\Cv B T:=by
 obtain⟨S,j,d⟩:=h;cases j with
 |id i g f l c e=>
  obtain rfl:=d.sort_det (.refl _);exact⟨⟨_,i,g⟩,⟨_,f,l⟩,⟨_,c,e⟩⟩
theorem Wf.nil:Wf []:=by
 intro n A h;simp at h
theorem Wf.cons{G:List Tm}{A:Tm}{i:Nat}(hG:Wf G)(h:U4 G A i):Wf (A::G):=by
 intro n B hB;cases n with
 |zero=>
  obtain rfl:A=B:=by simpa using hB
  obtain⟨S,b,a⟩:=h;exact⟨S,i,b,a⟩
 |succ n=> exact hG n B (by simpa using hB)
theorem Ty.corr{G:List Tm}{t A:Tm}(h:Ty G t A):Wf G-> ∃k,U4 G A k:=by
 induction h with
 | @var G n A h=>
  intro hG;unfold lk at h;obtain⟨B,b,rfl⟩:=Option.map_eq_some_iff.1 h;obtain⟨S,i,a,c⟩:=hG n B b;exact⟨i,U4.ren ⟨S,a,c⟩ (RenOk.drop G (n+1))⟩
 |sort=> intro hG;exact⟨_,U4.sort _ _⟩
 |nat=> intro hG;exact⟨_,U4.sort _ _⟩
 |zero=> intro hG;exact⟨_,U4.nat _⟩
 |succ=> intro hG;exact⟨_,U4.nat _⟩
 |pi=> intro hG;exact⟨_,U4.sort _ _⟩
 |sg=> intro hG;exact⟨_,U4.sort _ _⟩
 |lam b a c d g=>
  intro hG;obtain⟨k,hk⟩:=g (hG.cons ⟨_,b,a⟩);exact⟨_,U4.pi ⟨_,b,a⟩ hk⟩
 |app b a c e d g=>
  intro hG;obtain⟨k,hk⟩:=d hG;obtain⟨i,j,-,l,-⟩:=(hk.red a.red).pi_inv;exact⟨j,l.ins c e⟩
 |elim b a c e o m q h8 p f=>
  intro hG;exact⟨_,_,.app b a p (f.trans c.symm),e.sub (cns _ Tm.var)⟩
 |id=> intro hG;exact⟨_,U4.sort _ _⟩
 |refl h i=>
  intro hG;obtain⟨k,S,b,a⟩:=i hG;exact⟨_,_,.id b a h (Cv.rfl' _) h (Cv.rfl' _),.refl _⟩
 |move b a c e o m q h8 d=>
  intro hG;obtain⟨k,hk⟩:=d hG;obtain⟨-,-,C,r,s⟩:=(hk.red a.red).id_inv;exact⟨_,_,.app c e r (s.trans o.symm),m.sub (cns _ Tm.var)⟩
 |pair b a=> intro hG;exact⟨_,_,b,a⟩
 |fst b a d=>
  intro hG;obtain⟨k,hk⟩:=d hG;obtain⟨i,j,l,-,-⟩:=(hk.red a.red).sg_inv;exact⟨_,l⟩
 |snd b a d=>
  intro hG;obtain⟨k,hk⟩:=d hG;obtain⟨i,j,-,l,-⟩:=(hk.red a.red).sg_inv;exact⟨_,l.ins (.fst b a) (Cv.rfl' _)⟩
