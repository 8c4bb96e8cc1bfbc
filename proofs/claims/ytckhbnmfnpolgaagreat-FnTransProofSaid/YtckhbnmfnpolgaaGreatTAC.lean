/- Lemmas towards the law. -/
import Derived.Test.YtckhbnmfnpolgaaGreatTAB
open Iff renaming rfl->kM
open Nat renaming le_trans->bM,le_refl->aP
set_option linter.all false
namespace Go.Proofs.YtckhbnmfnpolgaaGreat.M
open Tm
def fvb(n:Nat):Tm->Prop
 | .var i=> i < n
 | .sort _=> True
 | .pi A B=> fvb n A/\fvb (n+1) B
 | .lam A t=> fvb n A/\fvb (n+1) t
 | .app f a=> fvb n f/\fvb n a
 | .nat=> True
 | .zero=> True
 | .succ a=> fvb n a
 | .elim p z s a=> fvb n p/\fvb n z/\fvb n s/\fvb n a
 | .id T a b=> fvb n T/\fvb n a/\fvb n b
 | .refl a=> fvb n a
 | .move p e a=> fvb n p/\fvb n e/\fvb n a
 | .sg A B=> fvb n A/\fvb (n+1) B
 | .pair T a b=> fvb n T/\fvb n a/\fvb n b
 | .fst a=> fvb n a
 | .snd a=> fvb n a
theorem lk_lt{G:List Tm}{n:Nat}{A:Tm}(h:lk G n=some A):n < G.length:=by
 unfold lk at h;obtain⟨B,a,-⟩:=Option.map_eq_some_iff.1 h;exact(List.getElem?_eq_some_iff.1 a).1
theorem Ty.fv{G:List Tm}{t A:Tm}(h:Ty G t A):fvb G.length t:=by
 induction h <;> simp only[fvb,List.length_cons] at* <;> first|exact lk_lt (by assumption) |(repeat' apply And.intro) <;> assumption
structure wg (G:List Tm) (W:Tm->Prop):Prop where
 var: ∀n,W (.var n)
 sort: ∀n,W (.sort n)
 nat:W .nat
 zero:W .zero
 succ: ∀{a},W a->W (.succ a)
 pi: ∀{A} B,W A->W (.pi A B)
 sg: ∀{A} B,W A->W (.sg A B)
 lam: ∀{A} t,W A->W (.lam A t)
 app: ∀{f a},W f->W a->W (.app f a)
 elim: ∀{p z s a},W p->W z->W s->W a->W (.elim p z s a)
 id: ∀{T a b},W T->W a->W b->W (.id T a b)
 refl: ∀{a},W a->(∀A,Ty G a A->W A)->W (.refl a)
 move: ∀{p e a},W p->W e->W a->W (.move p e a)
 pair: ∀{T a b},W T->W a->W b->W (.pair T a b)
 fst: ∀{a},W a->W (.fst a)
 snd: ∀{a},W a->W (.snd a)
variable {G : List Tm} {W : Tm → Prop}
def Rf:Nat->Prop:=fun _=> True
def Ok(G:List Tm)(W:Tm->Prop)(T a:Tm):Prop:= ∃Q P,GL G W Rf T Q P/\Q T/\Gd G W T Q P a
theorem Ok.own{T a:Tm}(h:Ok G W T a): ∃A,Ty G a A/\Ok G W A a/\Cv A T:=by
 obtain⟨Q,P,e,i,d,⟨A,c,g,b⟩,f⟩:=h;exact⟨A,c,⟨Q,P,e.re b,b,d,⟨A,c,Cv.rfl' _,b⟩,f⟩,g⟩
theorem Ok.w{T a:Tm}(h:Ok G W T a):W a:=by
 obtain⟨Q,P,d,c,b,e,f⟩:=h;exact b
theorem Ok.wt{T a:Tm}(h:Ok G W T a):W T:=by
 obtain⟨Q,P,c,b,d⟩:=h;exact c.w b
theorem Ok.gd{T b a:Tm}(h:Ok G W T a){k:Nat->Prop}{Q P:Tm->Prop}(g:GL G W k b Q P)(e:Cv T b):Gd G W b Q P a:=by
 obtain⟨i,j,d,f,c⟩:=h;exact d.gd g e c
theorem Ok.p{T b a:Tm}(h:Ok G W T a){k:Nat->Prop}{Q P:Tm->Prop}(g:GL G W k b Q P)(e:Cv T b):P a:=(h.gd g e).2.2
theorem Ok.ty{T a:Tm}(h:Ok G W T a){j:Nat}(e:HR T (.sort j)): ∃Q P,GL G W (fun i=> i < j) a Q P/\Q a:=by
 obtain⟨Q,P,g,l,d,n,b⟩:=h;obtain⟨m,f⟩:=g.sort_inv e;rw[f,Rr] at b;obtain⟨k,c,b⟩:=b;exact⟨k,c,b,b.q d⟩
theorem GL.top{k:Nat->Prop}{T:Tm}{Q P:Tm->Prop}(h:GL G W k T Q P):GL G W Rf T Q P:=h.up fun _ _=> trivial
theorem Ok.of{k:Nat->Prop}{T a:Tm}{Q P:Tm->Prop}(h:GL G W k T Q P)(b:Q T)(hd:Gd G W T Q P a):Ok G W T a:=⟨Q,P,h.top,b,hd⟩
def Vl(G:List Tm)(W:Tm->Prop)(n:Nat)(D:List Tm)(a s:Nat->Tm):Prop:= ∀x,x < n-> ∃X,Ty D (a x) X/\Ok G W (X.sub s) ((a x).sub s)
theorem Vl.now{n:Nat}{D:List Tm}{a s:Nat->Tm}(h:Vl G W n D a s):Vl G W n G (fun x=>(a x).sub s) Tm.var:=by
 intro x hx;obtain⟨X,f,b⟩:=h x hx;obtain⟨A,c,d,e⟩:=b.own;refine⟨A,c, ?_⟩;rw[Xc,Xc];exact d
theorem Vl.cns{n:Nat}{D:List Tm}{a s:Nat->Tm}(h:Vl G W n D a s){A d:Tm}(hd:Ok G W ((A.sub a).sub s) d):Vl G W (n+1) (A.sub a::D) (ups a) (Tm.cns d s):=by
 intro x hx;cases x with
 |zero=> exact⟨_,.var (lk_zero _ _),by rw[Yo];exact hd⟩
 |succ x=>
  obtain⟨X,c,b⟩:=h x (by omega);refine⟨_,c.wk _, ?_⟩
  show Ok G W _ ((Tm.wk (a x)).sub _)
  rw[Yo,Yo];exact b
def S1(G:List Tm)(W:Tm->Prop)(t:Tm):Prop:= ∀(n:Nat) (D:List Tm) (a s:Nat->Tm) (T:Tm),fvb n t->Vl G W n D a s->Vb D G s->Ty D (t.sub a) T-> ∃Q P,GL G W Rf (T.sub s) Q P/\Q (T.sub s)
def S3(G:List Tm)(W:Tm->Prop)(t:Tm):Prop:= ∀(n:Nat) (D:List Tm) (a s:Nat->Tm) (T:Tm),fvb n t->Vl G W n D a s->Vb D G s->Ty D (t.sub a) T->Ok G W (T.sub s) ((t.sub a).sub s)
theorem fin{t:Tm}(i:S1 G W t)(l: ∀(n:Nat) (D:List Tm) (a s:Nat->Tm) (T:Tm) (Q P:Tm->Prop),fvb n t->Vl G W n D a s->Vb D G s->Ty D (t.sub a) T->GL G W Rf (T.sub s) Q P->Q (T.sub s)->
 (∃A,Ty G ((t.sub a).sub s) A/\Cv A (T.sub s)/\Q A)->W ((t.sub a).sub s)/\P ((t.sub a).sub s)):S3 G W t:=by
 intro n D a s T hf hv hs ht;obtain⟨Q,P,c,g⟩:=i n D a s T hf hv hs ht;obtain⟨A,b,d⟩:=ht.sub hs;have e:(t.sub a).sub s=t.sub (fun x=>(a x).sub s):=ws t s a;obtain⟨o,m,m1,f⟩:=i n G _ Tm.var A hf hv.now (Vb.var G) (by rw[<-e];exact b);rw[Xc] at m1 f;have hA:Q A:=((m1.eq c d).1 A).1 f;obtain⟨k,j⟩:=l n D a s T Q P hf hv hs ht c g ⟨A,b,d,hA⟩;exact⟨Q,P,c,g,k,⟨A,b,d,hA⟩,j⟩
theorem Ok.papp{F f:Tm}(h:Ok G W F f){C R:Tm}(e:HR F (.pi C R)){T a:Tm}(l:Ok G W T a)(k:Cv T C): ∃Q P,GL G W Rf (R.inst a) Q P/\Q (R.inst a)/\P (.app f a)/\ ∀A,Ty G f A-> ∃b c,HR A (.pi b c)/\Cv b C/\Q (c.inst a):=by
 obtain⟨Q,P,u,E,w,⟨A,i,y,t⟩,n⟩:=h;obtain⟨v,H,I,z,g,x,q,s,j,p⟩:=u.pi_inv e;have hd:=l.gd g k;refine⟨_,_,q a hd,s a hd,(p f).1 n a hd,fun D d=> ?_⟩;obtain rfl:=i.det d;obtain⟨-,b,c,o,r,B,m⟩:=(j _).1 t;exact⟨b,c,o,r,m a hd⟩
theorem Ok.fam{F f:Tm}(h:Ok G W F f){C D:Tm}{k:Nat}(e:HR F (.pi C D))(o:HR D (.sort k)){T a:Tm}(l:Ok G W T a)(c:Cv T C)(i:W (.app f a)): ∃Q P,GL G W Rf (.app f a) Q P/\Q (.app f a):=by
 obtain⟨Q,P,p,r,b,-⟩:=h.papp e l c;obtain⟨s,m⟩:=p.sort_inv (j:=k) (by have:=o.sub (Tm.cns a Tm.var);exact this);rw[m,Rr] at b;obtain⟨n,g,d⟩:=b;exact⟨n,g,d.top,GL.q d i⟩
theorem Zi{k:Nat->Prop}:GL G W k .nat (fun A=> W A/\HR A .nat) (Nd G W):= .nat (.refl _) (fun _=> kM) (fun _=> kM)
theorem aj{k:Nat->Prop}{j:Nat}(h:k j):GL G W k (.sort j) (fun A=> W A/\HR A (.sort j)) (Uv G W j):= .sort h (.refl _) (fun _=> kM) (fun _=> kM)
theorem Ok.nat(d:wg G W){b A:Tm}(g:W b)(c:Ty G b A)(a:Cv A .nat)(e:W A)(f:Nd G W b):Ok G W .nat b:=⟨_,_,Zi,⟨d.nat,.refl _⟩,g,⟨A,c,a,e,a.to_nat⟩,f⟩
theorem FA(j:wg G W){p z s F C D Z S:Tm}{k:Nat}(c:Ok G W F p)(E:HR F (.pi C D))(L:Cv C .nat)(q:HR D (.sort k))(l:Ok G W Z z)(r:Cv Z (.app p .zero))(hs:Ok G W S s)(o:Cv S (stepTy p)):
 ∀{a:Tm},Nd G W a->W a-> ∀{A:Tm},Ty G a A->Cv A .nat->W A-> ∀{Q P:Tm->Prop},GL G W Rf (.app p a) Q P->P (.elim p z s a):=by
 intro a h
 induction h with
 | @zero a h=>
  intro u A hA v y Q P g;refine g.back ((h.map (F:=fun x=> .elim p z s x) fun h=> .elim _ _ _ h).trans (.one (.ez p z s))) ?_;exact l.p g (r.trans (.app (Cv.rfl' _) h.cv.symm))
 | @succ a b B t d e f I h6 ih=>
  intro u A hA v y Q P g;refine g.back ((t.map (F:=fun x=> .elim p z s x) fun h=> .elim _ _ _ h).trans (.one (.es p z s b))) ?_;have J:=Ok.nat j d e f I h6;obtain⟨C1,R1,r1,r2,T⟩:=o.to_pi;obtain⟨Q1,P1,n,N,m,-⟩:=hs.papp r1 J r2.symm;have U:Cv (R1.inst b) (.pi (.app p b) (.app (Tm.wk p) (.succ (Tm.wk b)))):=by
   have:=T.inst (Cv.rfl' b);have e2:(Tm.pi (.app (Tm.wk p) (.var 0)) (.app (p.ren (fun i=> i+2)) (.succ (.var 1)))).inst b= .pi (.app p b) (.app (Tm.wk p) (.succ (Tm.wk b))):=by
    unfold Tm.inst;simp only[Tm.sub,ups,Tm.cns];rw[Yo,Xc,Wz]
    congr 2
    rw[Tm.wk,dm]
    rfl
   rwa [e2] at this
  obtain⟨Qb,X,K,H⟩:=c.fam E q J L.symm (j.app c.w d);have wh:Ty G (.elim p z s b) (.app p b):=by
   obtain⟨Fp,p1,p2,M⟩:=c.own;obtain⟨Zz,V,z2,z3⟩:=l.own;obtain⟨Ss,n,N,m⟩:=hs.own;obtain⟨C',D',q1,q2,q3⟩:=(M.trans E.cv).to_pi;exact .elim p1 q1 (q2.trans L) (q3.trans q.cv).to_sort V (z3.trans r) n (m.trans o) e f
  have R:Ok G W (.app p b) (.elim p z s b):=⟨Qb,X,K,H,j.elim c.w l.w hs.w d,⟨_,wh,Cv.rfl' _,H⟩,ih d e f I K⟩;obtain⟨C2,R2,t1,t2,t3⟩:=U.to_pi;obtain⟨QC,PC,Qd,Pd,Y,g2,g3,g4,g5,g6⟩:=n.pi_inv t1;have hd:=R.gd Y t2.symm;have h7:=(g6 _).1 m _ hd;have h8:=g3 _ hd;have O:Cv (R2.inst (.elim p z s b)) (.app p a):=by
   have:=t3.inst (Cv.rfl' (.elim p z s b));have e4:(Tm.app (Tm.wk p) (.succ (Tm.wk b))).inst (.elim p z s b)= .app p (.succ b):=by
    show Tm.app ((Tm.wk p).inst _) (.succ ((Tm.wk b).inst _))=_
    rw[wk_inst,wk_inst]
   rw[e4] at this;exact this.trans (.app (Cv.rfl' _) t.cv.symm)
  exact((h8.eq g O).2 _).1 h7
 |ne h=> intro u A hA v y Q P g;exact g.stuck (h.elim p z s)
theorem gB(i:wg G W){L:Nat->Prop}{A B:Tm}{a b:Tm->Prop}(c:W A)(e:GL G W L A a b)(k: ∀d,Gd G W A a b d-> ∃Q P,GL G W L (B.inst d) Q P/\Q (B.inst d)): ∃Q P,GL G W L (.pi A B) Q P/\Q (.pi A B):=by
 have h: ∀d,∃X:(Tm->Prop)×(Tm->Prop),Gd G W A a b d->GL G W L (B.inst d) X.1 X.2/\X.1 (B.inst d):=fun d=> by
  by_cases hd:Gd G W A a b d
  · obtain⟨Q,P,j,f⟩:=k d hd
    exact⟨(Q,P),fun _=>⟨j,f⟩⟩
  · exact⟨(fun _=> True,fun _=> True),fun h=> absurd h hd⟩
 obtain⟨F,hF⟩:=Classical.axiomOfChoice h;have g:GL G W L (.pi A B) _ _:= .pi (Qd:=fun d=>(F d).1) (Pd:=fun d=>(F d).2) (.refl _) e (e.q c) (fun d hd=>(hF d hd).1) (fun d hd=>(hF d hd).2) (fun _=> kM) (fun _=> kM);exact⟨_,_,g,g.q (i.pi B c)⟩
theorem XH(i:wg G W){L:Nat->Prop}{A B:Tm}{a b:Tm->Prop}(c:W A)(e:GL G W L A a b)(k: ∀d,Gd G W A a b d-> ∃Q P,GL G W L (B.inst d) Q P/\Q (B.inst d)): ∃Q P,GL G W L (.sg A B) Q P/\Q (.sg A B):=by
 have h: ∀d,∃X:(Tm->Prop)×(Tm->Prop),Gd G W A a b d->GL G W L (B.inst d) X.1 X.2/\X.1 (B.inst d):=fun d=> by
  by_cases hd:Gd G W A a b d
  · obtain⟨Q,P,j,f⟩:=k d hd
    exact⟨(Q,P),fun _=>⟨j,f⟩⟩
  · exact⟨(fun _=> True,fun _=> True),fun h=> absurd h hd⟩
 obtain⟨F,hF⟩:=Classical.axiomOfChoice h;have g:GL G W L (.sg A B) _ _:= .sg (Qd:=fun d=>(F d).1) (Pd:=fun d=>(F d).2) (.refl _) e (e.q c) (fun d hd=>(hF d hd).1) (fun d hd=>(hF d hd).2) (fun _=> kM) (fun _=> kM);exact⟨_,_,g,g.q (i.sg B c)⟩
theorem below{B:Tm}(g:S3 G W B){n:Nat}{D:List Tm}{a s:Nat->Tm}{A T:Tm}(hf:fvb (n+1) B)(hv:Vl G W n D a s)(hs:Vb D G s)(ht:Ty (A.sub a::D) (B.sub (ups a)) T){L:Nat->Prop}{b c:Tm->Prop}(k:GL G W L ((A.sub a).sub s) b c)(f:b ((A.sub a).sub s)){d:Tm}(hd:Gd G W ((A.sub a).sub s) b c d):
 Ok G W (T.sub (Tm.cns d s)) (((B.sub (ups a)).sub (ups s)).inst d):=by
 have e:=Ok.of k f hd;obtain⟨l,i,m,j⟩:=e.own;rw[MG];exact g (n+1) _ _ _ T hf (hv.cns e) (hs.cns i j) ht
theorem Ok.sgp{A a:Tm}(h:Ok G W A a){C R:Tm}(e:HR A (.sg C R))(s:wg G W): ∃(b c:Tm->Prop) (g f:Tm->Tm->Prop),GL G W Rf C b c/\b C/\Gd G W C b c (.fst a)/\(∀d,Gd G W C b c d->GL G W Rf (R.inst d) (g d) (f d))/\(∀d,Gd G W C b c d->g d (R.inst d))/\f (.fst a) (.snd a):=by
 obtain⟨Q,P,B,H,j,⟨D,m,E,y⟩,p⟩:=h;obtain⟨b,c,g,f,l,k,v,x,n,u⟩:=B.sg_inv e;obtain⟨-,o,I,q,w,r,F⟩:=(n _).1 y;obtain⟨t,z⟩:=(u _).1 p;have i:Gd G W C b c (.fst a):=⟨s.fst j,⟨o,.fst m q,w,r⟩,t⟩;exact⟨b,c,g,f,l,k,i,v,x,z _ i (Cv.rfl' _)⟩
theorem eC(v:wg G W): ∀t:Tm,S3 G W t:=by
 intro t
 induction t with
 |var x=>
  intro n D c s T hf hv hs ht;obtain⟨X,r,C⟩:=hv x hf;obtain rfl:=r.det ht;exact C
 |sort i=>
  refine fin (fun n D c s T hf hv hs ht=> ?_) (fun n D c s T Q P hf hv hs ht g K _=> ?_)
  · cases ht with
    |sort=> exact⟨_,_,aj trivial,v.sort _,.refl _⟩
  · cases ht with
    |sort=>
     refine⟨v.sort _, ?_⟩;rw[(g.sort_inv (.refl _)).2,Rr];exact⟨_,_,aj (Nat.lt_succ_self _)⟩
 |nat=>
  refine fin (fun n D c s T hf hv hs ht=> ?_) (fun n D c s T Q P hf hv hs ht g K _=> ?_)
  · cases ht with
    |nat=> exact⟨_,_,aj trivial,v.sort _,.refl _⟩
  · cases ht with
    |nat=>
     refine⟨v.nat, ?_⟩;rw[(g.sort_inv (.refl _)).2,Rr];exact⟨_,_,Zi⟩
 |zero=>
  refine fin (fun n D c s T hf hv hs ht=> ?_) (fun n D c s T Q P hf hv hs ht g K _=> ?_)
  · cases ht with
    |zero=> exact⟨_,_,Zi,v.nat,.refl _⟩
  · cases ht with
    |zero=>
     refine⟨v.zero, ?_⟩;rw[g.nat_inv (Cv.rfl' _)];exact .zero (.refl _)
 |succ a ih=>
  refine fin (fun n D c s T hf hv hs ht=> ?_) (fun n D c s T Q P hf hv hs ht g K _=> ?_)
  · cases ht with
    |succ=> exact⟨_,_,Zi,v.nat,.refl _⟩
  · cases ht with
    |succ r C=>
     have u:=ih n D c s _ hf hv hs r;obtain⟨A,o,y,J⟩:=u.own;refine⟨v.succ u.w, ?_⟩;rw[g.nat_inv (Cv.rfl' _)];have e:=J.trans (C.sub s);exact .succ (.refl _) u.w o e y.wt (u.p (Zi (k:=Rf)) (C.sub s))
 |pi A B iA iB=>
  refine fin (fun n D c s T hf hv hs ht=> ?_) (fun n D c s T Q P hf hv hs ht g K _=> ?_)
  · cases ht with
    |pi=> exact⟨_,_,aj trivial,v.sort _,.refl _⟩
  · cases ht with
    | @pi _ _ _ S S' i k r C E I=>
     have hA:=iA n D c s _ hf.1 hv hs r;refine⟨v.pi _ hA.w, ?_⟩;rw[(g.sort_inv (.refl _)).2,Rr];obtain⟨QA,PA,V,qA⟩:=hA.ty (C.sub s);obtain⟨Q',P',g',-⟩:=gB (L:=fun j=> j < max i k) v (B:=(B.sub (ups c)).sub (ups s)) hA.w (V.up fun j hj=> by omega) (fun d hd=> by
      obtain⟨Q,P,o,y⟩:=(below iB hf.2 hv hs E V qA hd).ty (I.sub _);exact⟨Q,P,o.up fun j hj=> by omega,y⟩)
     exact⟨Q',P',g'⟩
 |sg A B iA iB=>
  refine fin (fun n D c s T hf hv hs ht=> ?_) (fun n D c s T Q P hf hv hs ht g K _=> ?_)
  · cases ht with
    |sg=> exact⟨_,_,aj trivial,v.sort _,.refl _⟩
  · cases ht with
    | @sg _ _ _ S S' i k r C E I=>
     have hA:=iA n D c s _ hf.1 hv hs r;refine⟨v.sg _ hA.w, ?_⟩;rw[(g.sort_inv (.refl _)).2,Rr];obtain⟨QA,PA,V,qA⟩:=hA.ty (C.sub s);obtain⟨Q',P',g',-⟩:=XH (L:=fun j=> j < max i k) v (B:=(B.sub (ups c)).sub (ups s)) hA.w (V.up fun j hj=> by omega) (fun d hd=> by
      obtain⟨Q,P,o,y⟩:=(below iB hf.2 hv hs E V qA hd).ty (I.sub _);exact⟨Q,P,o.up fun j hj=> by omega,y⟩)
     exact⟨Q',P',g'⟩
 |lam A t iA it=>
  refine fin (fun n D c s T hf hv hs ht=> ?_) (fun n D c s T Q P hf hv hs ht g K _=> ?_)
  · cases ht with
    | @lam _ _ _ B S i r C E=>
     have hA:=iA n D c s _ hf.1 hv hs r;obtain⟨QA,PA,V,qA⟩:=hA.ty (C.sub s);exact gB v (B:=B.sub (ups s)) hA.w V.top (fun d hd=> by
      obtain⟨Q,P,o,y,-⟩:=below it hf.2 hv hs E V qA hd;rw[<-MG] at o y;exact⟨Q,P,o,y⟩)
  · cases ht with
    | @lam _ _ _ B S i r C E=>
     have hA:=iA n D c s _ hf.1 hv hs r;obtain⟨QC,PC,Qd,Pd,g1,g2,M,g4,g5,g6⟩:=g.pi_inv (.refl _);refine⟨v.lam _ hA.w,(g6 _).2 fun d hd=> ?_⟩;refine(M d hd).back (.one (.beta _ _ _)) ?_;have Y:=below it hf.2 hv hs E g1 g2 hd;rw[<-MG] at Y;exact Y.p (M d hd) (Cv.rfl' _)
 |app f a jf H=>
  have key: ∀(n:Nat) (D:List Tm) (c s:Nat->Tm) (T:Tm),fvb n (.app f a)->Vl G W n D c s->Vb D G s->Ty D ((Tm.app f a).sub c) T->W (((Tm.app f a).sub c).sub s)/\ ∃Q P,GL G W Rf (T.sub s) Q P/\Q (T.sub s)/\P (((Tm.app f a).sub c).sub s):=by
   intro n D c s T hf hv hs ht;cases ht with
   |app r C E I=>
    have hF:=jf n D c s _ hf.1 hv hs r;have hA:=H n D c s _ hf.2 hv hs E;obtain⟨Q,P,o,y,J,-⟩:=hF.papp (C.sub s) hA (I.sub s);refine⟨v.app hF.w hA.w,Q,P, ?_, ?_,J⟩
    · rw[Tk];exact o
    · rw[Tk];exact y
  refine fin (fun n D c s T hf hv hs ht=> ?_) (fun n D c s T Q P hf hv hs ht g K _=> ?_)
  · obtain⟨-,Q,P,o,y,-⟩:=key n D c s T hf hv hs ht
    exact⟨Q,P,o,y⟩
  · obtain⟨w,Q',P',o,y,J⟩:=key n D c s T hf hv hs ht
    exact⟨w,((o.eq g (Cv.rfl' _)).2 _).1 J⟩
 |elim p z s' a jp jz js H=>
  refine fin (fun n D c s T hf hv hs ht=> ?_) (fun n D c s T Q P hf hv hs ht g K _=> ?_)
  · cases ht with
    |elim r C E I U R h7 h8 h9 N=>
     have O:=jp n D c s _ hf.1 hv hs r;have u:=H n D c s _ hf.2.2.2 hv hs h9;exact O.fam (C.sub s) (I.sub (ups s)) u ((N.trans E.symm).sub s) (v.app O.w u.w)
  · cases ht with
    |elim r C E I U R h7 h8 h9 N=>
     have O:=jp n D c s _ hf.1 hv hs r;have hz:=jz n D c s _ hf.2.1 hv hs U;have hS:=js n D c s _ hf.2.2.1 hv hs h7;have u:=H n D c s _ hf.2.2.2 hv hs h9;refine⟨v.elim O.w hz.w hS.w u.w, ?_⟩;obtain⟨A,o,y,J⟩:=u.own;exact FA v O (C.sub s) (E.sub s) (I.sub (ups s)) hz (R.sub s) hS (by have:=h8.sub s;rwa [UA] at this) (u.p (Zi (k:=Rf)) (N.sub s)) u.w o (J.trans (N.sub s)) y.wt g
 |id T a b jT H jb=>
  refine fin (fun n D c s T hf hv hs ht=> ?_) (fun n D c s T Q P hf hv hs ht g K _=> ?_)
  · cases ht with
    |id=> exact⟨_,_,aj trivial,v.sort _,.refl _⟩
  · cases ht with
    |id r C E I U R=>
     have hT:=jT n D c s _ hf.1 hv hs r;have u:=H n D c s _ hf.2.1 hv hs E;have Y:=jb n D c s _ hf.2.2 hv hs U;refine⟨v.id hT.w u.w Y.w, ?_⟩;rw[(g.sort_inv (.refl _)).2,Rr];obtain⟨QX,PX,Z,qX⟩:=hT.ty (C.sub s);exact⟨_,_,.id (.refl _) Z qX (u.gd Z (I.sub s)) (Y.gd Z (R.sub s)) (fun _=> kM) (fun _=> kM)⟩
 |refl a H=>
  refine fin (fun n D c s T hf hv hs ht=> ?_) (fun n D c s T Q P hf hv hs ht g K _=> ?_)
  · cases ht with
    | @refl _ _ A r=>
     have u:=H n D c s _ hf hv hs r;obtain⟨QX,PX,Z,qX,dX⟩:=u;have g:GL G W Rf (.id (A.sub s) ((a.sub c).sub s) ((a.sub c).sub s)) _ _:= .id (.refl _) Z qX dX dX (fun _=> kM) (fun _=> kM);exact⟨_,_,g,g.q (v.id (Z.w qX) dX.1 dX.1)⟩
  · cases ht with
    | @refl _ _ A r=>
     have u:=H n D c s _ hf hv hs r;refine⟨v.refl u.w fun A0 ay=> ?_, ?_⟩
     · obtain⟨A1,o,y,J⟩:=u.own
       obtain rfl:=o.det ay;exact y.wt
     · obtain⟨QX,PX,-,-,-,-,l⟩:=g.id_inv (.refl _)
       exact(l _).2 (.inl ⟨_,.refl _,Cv.rfl' _,Cv.rfl' _⟩)
 |move p e a jp je H=>
  have key: ∀(n:Nat) (D:List Tm) (c s:Nat->Tm) (T:Tm),fvb n (.move p e a)->Vl G W n D c s->Vb D G s->Ty D ((Tm.move p e a).sub c) T->W (((Tm.move p e a).sub c).sub s)/\ ∃Q P,GL G W Rf (T.sub s) Q P/\Q (T.sub s)/\P (((Tm.move p e a).sub c).sub s):=by
   intro n D c s T hf hv hs ht;cases ht with
   |move r C E I U R h7 h8=>
    have he:=je n D c s _ hf.2.1 hv hs r;have O:=jp n D c s _ hf.1 hv hs E;have u:=H n D c s _ hf.2.2 hv hs h7;obtain⟨Q,P,o,y,J,k4,k5⟩:=he;obtain⟨QX,PX,Z,qX,d1,d2,l⟩:=o.id_inv (C.sub s);have hC:=Ok.of Z qX d2;obtain⟨QT,PT,gT,qT⟩:=O.fam (I.sub s) (R.sub (ups s)) hC (U.symm.sub s) (v.app O.w d2.1);refine⟨v.move O.w J u.w,QT,PT,gT,qT, ?_⟩;rcases(l _).1 k5 with⟨b,m1,m2,m3⟩ |m
    · refine gT.back ((m1.map (F:=fun x=> .move _ x _) fun h=> .move _ _ h).trans (.one (.mr _ _ _))) ?_
      exact u.p gT ((h8.sub s).trans (.app (Cv.rfl' _) (m2.symm.trans m3)))
    · exact gT.stuck (m.move _ _)
  refine fin (fun n D c s T hf hv hs ht=> ?_) (fun n D c s T Q P hf hv hs ht g K _=> ?_)
  · obtain⟨-,Q,P,o,y,-⟩:=key n D c s T hf hv hs ht
    exact⟨Q,P,o,y⟩
  · obtain⟨w,Q',P',o,y,J⟩:=key n D c s T hf hv hs ht
    exact⟨w,((o.eq g (Cv.rfl' _)).2 _).1 J⟩
 |pair T a b jT H jb=>
  refine fin (fun n D c s T hf hv hs ht=> ?_) (fun n D c s T Q P hf hv hs ht g K _=> ?_)
  · cases ht with
    |pair r C E I U R h7=>
     have hT:=jT n D c s _ hf.1 hv hs r;obtain⟨Q,P,o,y⟩:=hT.ty (C.sub s);exact⟨Q,P,o.top,y⟩
  · cases ht with
    |pair r C E I U R h7=>
     have hT:=jT n D c s _ hf.1 hv hs r;have u:=H n D c s _ hf.2.1 hv hs I;have Y:=jb n D c s _ hf.2.2 hv hs R;refine⟨v.pair hT.w u.w Y.w, ?_⟩;obtain⟨QC,PC,Qd,Pd,g1,g2,M,g4,g5,g6⟩:=g.sg_inv (E.sub s);refine(g6 _).2 ⟨g1.back (.one (.fp _ _ _)) (u.p g1 (U.sub s)),fun d hd hc=>(M d hd).back (.one (.sp _ _ _)) (Y.p (M d hd) ?_)⟩;have e:=h7.sub s;rw[Tk] at e;exact e.trans ((Cv.rfl' _).inst (hc.trans (HR.one (.fp _ _ _)).cv).symm)
 |fst a H=>
  have key: ∀(n:Nat) (D:List Tm) (c s:Nat->Tm) (T:Tm),fvb n (.fst a)->Vl G W n D c s->Vb D G s->Ty D ((Tm.fst a).sub c) T->W (((Tm.fst a).sub c).sub s)/\ ∃Q P,GL G W Rf (T.sub s) Q P/\Q (T.sub s)/\P (((Tm.fst a).sub c).sub s):=by
   intro n D c s T hf hv hs ht;cases ht with
   |fst r C=>
    have u:=H n D c s _ hf hv hs r;obtain⟨QC,PC,Qd,Pd,g1,g2,M,-⟩:=u.sgp (C.sub s) v;exact⟨v.fst u.w,QC,PC,g1,g2,M.2.2⟩
  refine fin (fun n D c s T hf hv hs ht=> ?_) (fun n D c s T Q P hf hv hs ht g K _=> ?_)
  · obtain⟨-,Q,P,o,y,-⟩:=key n D c s T hf hv hs ht
    exact⟨Q,P,o,y⟩
  · obtain⟨w,Q',P',o,y,J⟩:=key n D c s T hf hv hs ht
    exact⟨w,((o.eq g (Cv.rfl' _)).2 _).1 J⟩
 |snd a H=>
  have key: ∀(n:Nat) (D:List Tm) (c s:Nat->Tm) (T:Tm),fvb n (.snd a)->Vl G W n D c s->Vb D G s->Ty D ((Tm.snd a).sub c) T->W (((Tm.snd a).sub c).sub s)/\ ∃Q P,GL G W Rf (T.sub s) Q P/\Q (T.sub s)/\P (((Tm.snd a).sub c).sub s):=by
   intro n D c s T hf hv hs ht;cases ht with
   |snd r C=>
    have u:=H n D c s _ hf hv hs r;obtain⟨QC,PC,Qd,Pd,g1,g2,M,g4,g5,g6⟩:=u.sgp (C.sub s) v;refine⟨v.snd u.w,Qd (.fst ((a.sub c).sub s)),Pd (.fst ((a.sub c).sub s)), ?_, ?_,g6⟩
    · rw[Tk];exact g4 _ M
    · rw[Tk];exact g5 _ M
  refine fin (fun n D c s T hf hv hs ht=> ?_) (fun n D c s T Q P hf hv hs ht g K _=> ?_)
  · obtain⟨-,Q,P,o,y,-⟩:=key n D c s T hf hv hs ht
    exact⟨Q,P,o,y⟩
  · obtain⟨w,Q',P',o,y,J⟩:=key n D c s T hf hv hs ht
    exact⟨w,((o.eq g (Cv.rfl' _)).2 _).1 J⟩
def DG(G:List Tm)(k:Nat):Prop:= ∀A,A∈G->dep A<=k
theorem DG.nil{k:Nat}:DG [] k:=fun _ h=> by simp at h
theorem DG.cons{G:List Tm}{k:Nat}{A:Tm}(h:DG G k)(a:dep A<=k):DG (A::G) k:=fun B b=> by
 rcases List.mem_cons.1 b with rfl|b
 · exact a
 · exact h B b
theorem DG.lk{G:List Tm}{k n:Nat}{A:Tm}(h:DG G k)(e:lk G n=some A):dep A<=k:=by
 unfold M.lk at e;rw[Option.map_eq_some_iff] at e;obtain⟨B,a,rfl⟩:=e;rw[dep_ren];exact h B (List.mem_of_getElem? a)
theorem DG.up{G:List Tm}{k m:Nat}(h:DG G k)(e:k<=m):DG G m:=fun A hA=> bM (h A hA) e
theorem pA{G:List Tm}{t T:Tm}{k:Nat}(hG:DG G k)(hk:1<=k)(d:dep t<=1)(h:Ty G t T):dep T<=k:=by
 rcases BE d with⟨n,rfl⟩ |⟨n,rfl⟩ |rfl|rfl
 · cases h with|var h=> exact hG.lk h
 all_goals cases h;exact hk
theorem HR.ev{a b:Tm}(h:HR a b)(k:hk b≠0): ∃n,Ev n a b:=Ev.of h k
theorem tL{G:List Tm}{q Q u:Tm}{n:Nat}(hG:DG G 3)(d:dep q<=2)(h:Ty G q Q)(e:Ev n Q u):
 dep u<=3\/(∃T v,q=refl v/\u= .id T v v)\/ ∃A t B,q=lam A t/\u=pi A B/\dep t<=1/\Ty (A::G) t B:=by
 by_cases l:dep q<=1
 · exact .inl (ev3' (pA hG (by omega) l h) e)
 cases h with
 |var=> exact absurd (aP _) l
 |sort=> exact absurd (aP _) l
 |nat=> exact absurd (aP _) l
 |zero=> exact absurd (aP _) l
 |succ=> exact .inl (by have:=v8 (aP _) e;omega)
 |pi=> exact .inl (by have:=v8 (aP _) e;omega)
 |sg=> exact .inl (by have:=v8 (aP _) e;omega)
 |id=> exact .inl (by have:=v8 (aP _) e;omega)
 |lam c g o=>
  rw[e.val (by simp[hk])];exact .inr (.inr ⟨_,_,_,rfl,rfl,by simp only[dep] at d;omega,o⟩)
 | @app _ f a F A C R c g o r=>
  simp only[dep] at d;obtain⟨m,j⟩:=g.ev (by simp[hk]);have:=ev3' (pA hG (by omega) (by omega) c) j;simp only[dep] at this;have:=dep_inst R a;exact .inl (ev3' (by omega) e)
 | @elim _ p z s a=>
  simp only[dep] at d;exact .inl (ev3' (by simp only[dep];omega) e)
 |refl=>
  rw[e.val (by simp[hk])];exact .inr (.inl ⟨_,_,rfl,rfl⟩)
 | @move _ p x a E T B C F w D k A c g=>
  simp only[dep] at d;obtain⟨m,j⟩:=g.ev (by simp[hk]);have:=ev3' (pA hG (by omega) (by omega) c) j;simp only[dep] at this;exact .inl (ev3' (by simp only[dep];omega) e)
 | @pair _ T a b S i C D A B c=>
  simp only[dep] at d;exact .inl (ev3' (by omega) e)
 | @fst _ a A C D c g=>
  simp only[dep] at d;obtain⟨m,j⟩:=g.ev (by simp[hk]);have:=ev3' (pA hG (by omega) (by omega) c) j;simp only[dep] at this;exact .inl (ev3' (by omega) e)
 | @snd _ a A C D c g=>
  simp only[dep] at d;obtain⟨m,j⟩:=g.ev (by simp[hk]);have:=ev3' (pA hG (by omega) (by omega) c) j;simp only[dep] at this;have:=dep_inst D (.fst a);simp only[dep] at this;exact .inl (ev3' (by omega) e)
theorem Zr{G:List Tm}{A t B a:Tm}(hG:DG G 3)(d:dep t<=1)(hA:dep A<=3)(h:Ty (A::G) t B):dep (B.inst a)<=3:=by
 rcases BE d with⟨n,rfl⟩ |⟨n,rfl⟩ |rfl|rfl
 · cases h with
   |var h=>
    cases n with
    |zero=>
     rw[lk_zero] at h;obtain rfl:=Option.some.inj h;rw[wk_inst];exact hA
    |succ n=>
     rw[q63,Option.map_eq_some_iff] at h;obtain⟨C,b,rfl⟩:=h;rw[wk_inst];exact hG.lk b
 all_goals cases h;exact(show 1<=3 by omega)
theorem ty3{G:List Tm}{q Q T l r:Tm}{n:Nat}(hG:DG G 3)(d:dep q<=3)(h:Ty G q Q)(e:Ev n Q (.id T l r)):l=r\/dep l<=3:=by
 have fin: ∀{k:Nat} {X:Tm},dep X<=4->Ev k X (.id T l r)->l=r\/dep l<=3:=fun M e=> by
  have:=uL _ _ _ M e;simp only[dep] at this;omega
 by_cases w:dep q<=1
 · exact fin (bM (pA hG (by omega) w h) (by omega)) e
 have g: ∀{x X c:Tm} {m:Nat},dep x<=2->Ty G x X->Ev m X c->dep c<=3\/(∃T v,x=refl v/\c= .id T v v)\/ ∃A t B,x=lam A t/\c=pi A B/\dep t<=1/\Ty (A::G) t B:=fun a b c=> tL hG a b c
 cases h with
 |var=> exact absurd (aP _) w
 |sort=> exact absurd (aP _) w
 |nat=> exact absurd (aP _) w
 |zero=> exact absurd (aP _) w
 |succ=> exact fin (by simp[dep]) e
 |pi=> exact fin (by simp[dep]) e
 |sg=> exact fin (by simp[dep]) e
 |id=> exact fin (by simp[dep]) e
 |lam j o J=> cases e.val (by simp[hk])
 | @app _ f a F A C R j o J N=>
  simp only[dep] at d;obtain⟨m,u⟩:=o.ev (by simp[hk]);rcases g (by omega) j u with h|⟨_,_,-,h⟩ |⟨y,t,B,rfl,h,K,ht⟩
  · simp only[dep] at h
    have:=dep_inst R a;exact fin (by omega) e
  · cases h
  · injection h with H I
    subst H I;simp only[dep] at d;exact fin (bM (Zr hG K (by omega) ht) (by omega)) e
 | @elim _ p z s a=>
  simp only[dep] at d;exact fin (by simp only[dep];omega) e
 |refl=>
  cases e.val (by simp[hk])
  exact .inl rfl
 | @move _ p x a E T B C F O D k A j o=>
  simp only[dep] at d;obtain⟨m,u⟩:=o.ev (by simp[hk]);rcases g (by omega) j u with h|⟨_,v,rfl,h⟩ |⟨y,t,B,-,h,-⟩
  · simp only[dep] at h
    exact fin (by simp only[dep];omega) e
  · injection h with H I L
    subst L;simp only[dep] at d;exact fin (by simp only[dep];omega) e
  · cases h
 | @pair _ T a b S i C D A B j=>
  simp only[dep] at d;exact fin (by omega) e
 | @fst _ a A C D j o=>
  simp only[dep] at d;obtain⟨m,u⟩:=o.ev (by simp[hk]);rcases g (by omega) j u with h|⟨_,v,-,h⟩ |⟨y,t,B,-,h,-⟩
  · simp only[dep] at h
    exact fin (by omega) e
  · cases h
  · cases h
 | @snd _ a A C D j o=>
  simp only[dep] at d;obtain⟨m,u⟩:=o.ev (by simp[hk]);rcases g (by omega) j u with h|⟨_,v,-,h⟩ |⟨y,t,B,-,h,-⟩
  · simp only[dep] at h
    have:=dep_inst D (.fst a);simp only[dep] at this;exact fin (by omega) e
  · cases h
  · cases h
def Wf(G:List Tm):Prop:= ∀n A,G[n]? =some A-> ∃S i,Ty (G.drop (n+1)) A S/\HR S (.sort i)
theorem RenOk.drop(G:List Tm)(k:Nat):RenOk (G.drop k) G (fun i=> i+k):=by
 intro n A h;unfold lk at h⊢;rw[List.getElem?_drop] at h;obtain⟨B,a,rfl⟩:=Option.map_eq_some_iff.1 h
 show Option.map _ G[n+k]? =_
 rw[Nat.add_comm n k,a,Option.map_some,ren_ren]
 congr 2
 funext i
 show i+(n+k+1)=i+(n+1)+k
 omega
variable {G : List Tm} {W : Tm → Prop}
theorem vars(c:wg G W)(hG:Wf G): ∀(m x:Nat),G.length<=x+m-> ∀A,lk G x=some A->Ok G W A (.var x):=by
 intro m
 induction m with
 |zero=> intro x hx A hA;have:=lk_lt hA;omega
 |succ m ih=>
  intro x hx A hA;have j:=lk_lt hA;have d:=hA;unfold lk at d;obtain⟨a,l,rfl⟩:=Option.map_eq_some_iff.1 d;obtain⟨S,i,b,f⟩:=hG x a l;have k:=b.ren (RenOk.drop G (x+1));have hf:=b.fv;rw[List.length_drop] at hf;have hk:=eC c a (G.length -(x+1)) G (fun y=> .var (y+(x+1))) Tm.var (S.ren fun i=> i+(x+1)) hf (fun y n=> by
   have hy2:y+(x+1) < G.length:=by omega
   obtain⟨X,e⟩: ∃X,lk G (y+(x+1))=some X:=by
    unfold lk;rw[List.getElem?_eq_getElem hy2];exact⟨_,rfl⟩
   refine⟨X,.var e, ?_⟩;rw[Xc,Xc];exact ih _ (by omega) X e) (Vb.var G) (by rw[<-dm];exact k)
  rw[Xc,Xc,<-dm] at hk;obtain⟨Q,P,g,q⟩:=hk.ty (f.ren _);exact Ok.of g q ⟨c.var x,⟨_,.var hA,Cv.rfl' _,q⟩,g.stuck (Ne.var x)⟩
theorem vI(b:wg G W)(hG:Wf G){t T:Tm}(h:Ty G t T):Ok G W T t:=by
 have hk:=eC b t G.length G Tm.var Tm.var T h.fv (fun x hx=> by
  obtain⟨X,a⟩: ∃X,lk G x=some X:=by
   unfold lk;rw[List.getElem?_eq_getElem hx];exact⟨_,rfl⟩
  refine⟨X,.var a, ?_⟩;rw[Xc,Xc];exact vars b hG G.length x (by omega) X a) (Vb.var G) (by rw[Xc];exact h)
 rw[Xc,Xc,Xc] at hk;exact hk
theorem lC(a:wg G W)(hG:Wf G){t T:Tm}(h:Ty G t T):W T:=(vI a hG h).wt
theorem allW(c:wg G W)(hG:Wf G): ∀t:Tm,W t:=by
 intro t
 induction t with
 |var n=> exact c.var n
 |sort n=> exact c.sort n
 |nat=> exact c.nat
 |zero=> exact c.zero
 |succ a i=> exact c.succ i
 |pi A B i j=> exact c.pi B i
 |sg A B i j=> exact c.sg B i
 |lam A t i j=> exact c.lam t i
 |app f a i j=> exact c.app i j
 |elim p z s a i j k l=> exact c.elim i j k l
 |id T a b i j k=> exact c.id i j k
 |refl a i=> exact c.refl i fun A h=> lC c hG h
 |move p e a i j k=> exact c.move i j k
 |pair T a b i j k=> exact c.pair i j k
 |fst a i=> exact c.fst i
 |snd a i=> exact c.snd i
theorem Vb.ctx{A b:Tm}(G:List Tm)(h:Cv b A):Vb (A::G) (b::G) Tm.var:=by
 intro n B a;cases n with
 |zero=>
  rw[lk_zero] at a;obtain rfl:=Option.some.inj a;exact⟨_,.var (lk_zero _ _),by rw[Xc];exact h.ren _⟩
 |succ n=>
  rw[q63] at a;obtain⟨X,c,rfl⟩:=Option.map_eq_some_iff.1 a;exact⟨_,.var (by rw[q63,c];rfl),by rw[Xc];exact Cv.rfl' _⟩
theorem Ty.ctx{G:List Tm}{A a t B:Tm}(h:Ty (A::G) t B)(k:Cv a A): ∃b,Ty (a::G) t b/\Cv b B:=by
 have:=h.sub (Vb.ctx G k)
 rwa [Xc,Xc] at this
theorem Ty.ins{G:List Tm}{A t B u X:Tm}(h:Ty (A::G) t B)(b:Ty G u X)(k:Cv X A): ∃a,Ty G (t.inst u) a/\Cv a (B.inst u):=
 h.sub ((Vb.var G).cns b (by rwa [Xc]))
theorem JK(p a:Tm):(Tm.pi (.app (wk p) (.var 0)) (.app (p.ren (fun i=> i+2)) (.succ (.var 1)))).inst a= .pi (.app p a) (.app (wk p) (.succ (wk a))):=by
 unfold inst;simp only[Tm.sub,cns,ups];rw[Yo,Xc,Wz]
 congr 2
 show p.sub _=p.ren Nat.succ
 rw[dm]
 rfl
theorem qJ(p a u:Tm):(Tm.app (wk p) (.succ (wk a))).inst u= .app p (.succ a):=by
 show Tm.app ((wk p).inst u) (.succ ((wk a).inst u))=_
 rw[wk_inst,wk_inst]
theorem Ty.par{t t':Tm}(h:Par t t'): ∀{G:List Tm} {A:Tm},Ty G t A-> ∃A',Ty G t' A'/\Cv A' A:=by
 induction h with
 |var n=> intro G A k;exact⟨_,k,Cv.rfl' _⟩
 |sort n=> intro G A k;exact⟨_,k,Cv.rfl' _⟩
 |nat=> intro G A k;exact⟨_,k,Cv.rfl' _⟩
 |zero=> intro G A k;exact⟨_,k,Cv.rfl' _⟩
 |pi c B f l=>
  intro G A k;cases k with
  |pi g i j q=>
   obtain⟨S1,d,e⟩:=f g;obtain⟨S2,o,m⟩:=l j;obtain⟨S3,u,r⟩:=o.ctx c.cv.symm;exact⟨_,.pi d (e.trans i.cv).to_sort u ((r.trans m).trans q.cv).to_sort,Cv.rfl' _⟩
 |sg c B f l=>
  intro G A k;cases k with
  |sg g i j q=>
   obtain⟨S1,d,e⟩:=f g;obtain⟨S2,o,m⟩:=l j;obtain⟨S3,u,r⟩:=o.ctx c.cv.symm;exact⟨_,.sg d (e.trans i.cv).to_sort u ((r.trans m).trans q.cv).to_sort,Cv.rfl' _⟩
 |lam c B f l=>
  intro G A k;cases k with
  |lam g i j=>
   obtain⟨S1,d,e⟩:=f g;obtain⟨S2,o,m⟩:=l j;obtain⟨S3,u,r⟩:=o.ctx c.cv.symm;exact⟨_,.lam d (e.trans i.cv).to_sort u,.pi c.cv.symm (r.trans m)⟩
 |app c B f l=>
  intro G A k;cases k with
  |app g i j q=>
   obtain⟨X,d,e⟩:=f g;obtain⟨D,o,m⟩:=l j;obtain⟨I,R',m1,w,y⟩:=(e.trans i.cv).to_pi;exact⟨_,.app d m1 o ((m.trans q).trans w.symm),y.inst B.cv.symm⟩
 |succ c f=>
  intro G A k;cases k with
  |succ g i=>
   obtain⟨S1,d,e⟩:=f g;exact⟨_,.succ d (e.trans i),Cv.rfl' _⟩
 |elim c B O V f l E i4=>
  intro G A k;cases k with
  |elim g i j q x v C F Q H=>
   obtain⟨X,d,e⟩:=f g;obtain⟨Z',o,m⟩:=l x;obtain⟨S',u,r⟩:=E C;obtain⟨A',R,P⟩:=i4 Q;obtain⟨I,M,m1,w,y⟩:=(e.trans i.cv).to_pi;exact⟨_,.elim d m1 (w.trans j) (y.trans q.cv).to_sort o ((m.trans v).trans (.app c.cv (Cv.rfl' _))) u ((r.trans F).trans (Cv.stepTy c.cv)) R (P.trans H),.app c.cv.symm V.cv.symm⟩
 |id c B O f l E=>
  intro G A k;cases k with
  |id g i j q x v=>
   obtain⟨S',d,e⟩:=f g;obtain⟨D,o,m⟩:=l j;obtain⟨Y',u,r⟩:=E x;exact⟨_,.id d (e.trans i.cv).to_sort o ((m.trans q).trans c.cv) u ((r.trans v).trans c.cv),Cv.rfl' _⟩
 |refl c f=>
  intro G A k;cases k with
  |refl g=>
   obtain⟨D,d,e⟩:=f g;exact⟨_,.refl d,.id e c.cv.symm c.cv.symm⟩
 |move c B O f l E=>
  intro G A k;cases k with
  |move g i j q x v C F=>
   obtain⟨E',d,e⟩:=l g;obtain⟨X,o,m⟩:=f j;obtain⟨D,u,r⟩:=E C;obtain⟨U,B',I,m1,w,y,m4⟩:=(e.trans i.cv).to_id;obtain⟨P',M,S,n2,n3⟩:=(m.trans q.cv).to_pi;exact⟨_,.move d m1 o S ((n2.trans x).trans w.symm) (n3.trans v.cv).to_sort u ((r.trans F).trans (.app c.cv y.symm)),.app c.cv.symm m4⟩
 |pair c B O f l E=>
  intro G A k;cases k with
  |pair g i j q x v C=>
   obtain⟨S',d,e⟩:=f g;obtain⟨D,o,m⟩:=l q;obtain⟨Y',u,r⟩:=E v;obtain⟨I,M,m1,w,y⟩:=(c.cv.symm.trans j.cv).to_sg;exact⟨_,.pair d (e.trans i.cv).to_sort m1 o ((m.trans x).trans w.symm) u ((r.trans C).trans (y.symm.inst B.cv)),c.cv.symm⟩
 |fst c f=>
  intro G A k;cases k with
  |fst g i=>
   obtain⟨D,d,e⟩:=f g;obtain⟨I,M,m1,w,y⟩:=(e.trans i.cv).to_sg;exact⟨_,.fst d m1,w⟩
 |snd c f=>
  intro G A k;cases k with
  |snd g i=>
   obtain⟨D,d,e⟩:=f g;obtain⟨I,M,m1,w,y⟩:=(e.trans i.cv).to_sg;exact⟨_,.snd d m1,y.inst (.fst c.cv.symm)⟩
 |beta c B f l=>
  intro G A k;cases k with
  |app g i j q=>
   cases g with
   |lam K N L=>
    obtain⟨rfl,rfl⟩:=(HR.refl _).pi_det i;obtain⟨B',d,e⟩:=f L;obtain⟨D,o,m⟩:=l j;obtain⟨Y,u,r⟩:=d.ins o (m.trans q);exact⟨Y,u,r.trans (e.inst B.cv.symm)⟩
 |ez c f=>
  intro G A k;cases k with
  |elim g i j q x v C F Q H=>
   obtain⟨Z',d,e⟩:=f x;exact⟨_,d,e.trans v⟩
 | @es p Z z z' s s' a J c B O V f l E i4=>
  intro G A k;cases k with
  |elim g i j q x v C F Q H=>
   cases Q with
   |succ K N=>
    obtain⟨X,d,e⟩:=f g;obtain⟨Z',o,m⟩:=l x;obtain⟨S',u,r⟩:=E C;obtain⟨N',R,P⟩:=i4 K;obtain⟨I,M,m1,w,y⟩:=(e.trans i.cv).to_pi;have hE:Ty G (.elim Z z' s' J) (.app Z J):= .elim d m1 (w.trans j) (y.trans q.cv).to_sort o ((m.trans v).trans (.app c.cv (Cv.rfl' _))) u ((r.trans F).trans (Cv.stepTy c.cv)) R (P.trans N);obtain⟨C1,R1,S,n2,n3⟩:=(r.trans F).to_pi;have hA:Ty G (.app s' J) (R1.inst J):= .app u S R ((P.trans N).trans n2.symm);have e1:=n3.inst (Cv.rfl' J);rw[JK] at e1;obtain⟨C2,R2,o1,o2,o3⟩:=e1.to_pi;refine⟨_,.app hA o1 hE ((Cv.app c.cv.symm (Cv.rfl' _)).trans o2.symm), ?_⟩;have e2:=o3.inst (Cv.rfl' (Tm.elim Z z' s' J));rw[qJ] at e2;exact e2.trans (.app (Cv.rfl' _) (.succ V.cv.symm))
 |mr c f=>
  intro G A k;cases k with
  |move g i j q x v C F=>
   cases g with
   |refl K=>
    obtain⟨rfl,rfl,rfl⟩:=(HR.refl _).id_det i;obtain⟨D,d,e⟩:=f C;exact⟨_,d,e.trans F⟩
 |fp c f=>
  intro G A k;cases k with
  |fst g i=>
   cases g with
   |pair K N L l4 l5 l6 l7=>
    obtain⟨rfl,rfl⟩:=L.sg_det i;obtain⟨D,d,e⟩:=f l4;exact⟨_,d,e.trans l5⟩
 | @sp T a b b' c f=>
  intro G A k;cases k with
  |snd g i=>
   cases g with
   |pair K N L l4 l5 l6 l7=>
    obtain⟨rfl,rfl⟩:=L.sg_det i;obtain⟨D,d,e⟩:=f l6;exact⟨_,d,(e.trans l7).trans ((Cv.rfl' _).inst (HR.one (.fp T a b)).cv.symm)⟩
theorem Ty.red{t b:Tm}(h:Red t b): ∀{G:List Tm} {A:Tm},Ty G t A-> ∃a,Ty G b a/\Cv a A:=by
 induction h with
 |refl=> intro G A k;exact⟨_,k,Cv.rfl' _⟩
 |step g i ih=>
  intro G A k;obtain⟨B,c,e⟩:=Ty.par g k;obtain⟨C,d,f⟩:=ih c;exact⟨C,d,f.trans e⟩
def O5(G:List Tm)(A:Tm)(k:Nat):Prop:= ∃S,Ty G A S/\HR S (.sort k)
theorem O5.det{G:List Tm}{A:Tm}{i k:Nat}(h:O5 G A i)(e:O5 G A k):i=k:=by
 obtain⟨S,d,a⟩:=h;obtain⟨f,b,c⟩:=e;obtain rfl:=d.det b;exact a.sort_det c
theorem O5.red{G:List Tm}{A B:Tm}{i:Nat}(h:O5 G A i)(r:Red A B):O5 G B i:=by
 obtain⟨S,e,a⟩:=h;obtain⟨c,b,d⟩:=Ty.red r e;exact⟨c,b,(d.trans a.cv).to_sort⟩
theorem O5.cv{G:List Tm}{A B:Tm}{i k:Nat}(h:O5 G A i)(c:O5 G B k)(e:Cv A B):i=k:=by
 obtain⟨C,a,b⟩:=e;exact(h.red a).det (c.red b)
theorem O5.sub{G D:List Tm}{A:Tm}{i:Nat}{s:Nat->Tm}(h:O5 G A i)(hs:Vb G D s):O5 D (A.sub s) i:=by
 obtain⟨S,e,a⟩:=h;obtain⟨c,b,d⟩:=e.sub hs;exact⟨c,b,(d.trans (a.sub s).cv).to_sort⟩
theorem O5.ren{G D:List Tm}{A:Tm}{i:Nat}{r:Nat->Nat}(h:O5 G A i)(hr:RenOk G D r):O5 D (A.ren r) i:=by
 obtain⟨S,b,a⟩:=h;exact⟨_,b.ren hr,a.ren r⟩
theorem O5.ctx{G:List Tm}{A a B:Tm}{i:Nat}(h:O5 (A::G) B i)(k:Cv a A):O5 (a::G) B i:=by
 have:=h.sub (Vb.ctx G k)
 rwa [Xc] at this
theorem O5.ins{G:List Tm}{A B u X:Tm}{i:Nat}(h:O5 (A::G) B i)(a:Ty G u X)(k:Cv X A):O5 G (B.inst u) i:=
 h.sub ((Vb.var G).cns a (by rwa [Xc]))
theorem O5.sort(G:List Tm)(n:Nat):O5 G (.sort n) (n+1):=⟨_,.sort,.refl _⟩
theorem O5.nat(G:List Tm):O5 G .nat 0:=⟨_,.nat,.refl _⟩
theorem O5.pi_inv{G:List Tm}{C R:Tm}{k:Nat}(h:O5 G (.pi C R) k): ∃i j,O5 G C i/\O5 (C::G) R j/\k=max i j:=by
 obtain⟨S,f,a⟩:=h;cases f with
 |pi b d c e=> exact⟨_,_,⟨_,b,d⟩,⟨_,c,e⟩,(a.sort_det (.refl _))⟩
theorem O5.sg_inv{G:List Tm}{C R:Tm}{k:Nat}(h:O5 G (.sg C R) k): ∃i j,O5 G C i/\O5 (C::G) R j/\k=max i j:=by
 obtain⟨S,d,a⟩:=h;cases d with
 |sg b e c f=> exact⟨_,_,⟨_,b,e⟩,⟨_,c,f⟩,(a.sort_det (.refl _))⟩
theorem O5.pi{G:List Tm}{C R:Tm}{i j:Nat}(h:O5 G C i)(k:O5 (C::G) R j):O5 G (.pi C R) (max i j):=by
 obtain⟨S,d,a⟩:=h;obtain⟨e,b,c⟩:=k;exact⟨_,.pi d a b c,.refl _⟩
theorem O5.id_inv{G:List Tm}{T a b:Tm}{k:Nat}(h:O5 G (.id T a b) k):O5 G T k/\(∃A,Ty G a A/\Cv A T)/\ ∃B,Ty G b B/\Cv B T:=by
 obtain⟨S,l,d⟩:=h;cases l with
 |id e i f j c g=>
  obtain rfl:=d.sort_det (.refl _);exact⟨⟨_,e,i⟩,⟨_,f,j⟩,⟨_,c,g⟩⟩
theorem Wf.cons{G:List Tm}{A:Tm}{i:Nat}(hG:Wf G)(h:O5 G A i):Wf (A::G):=by
 intro n B a;cases n with
 |zero=>
  obtain rfl:A=B:=by simpa using a
  obtain⟨S,c,b⟩:=h;exact⟨S,i,c,b⟩
 |succ n=> exact hG n B (by simpa using a)
theorem Ty.corr{G:List Tm}{t A:Tm}(h:Ty G t A):Wf G-> ∃k,O5 G A k:=by
 induction h with
 | @var G n A h=>
  intro hG;unfold lk at h;obtain⟨B,b,rfl⟩:=Option.map_eq_some_iff.1 h;obtain⟨S,i,a,d⟩:=hG n B b;exact⟨i,O5.ren ⟨S,a,d⟩ (RenOk.drop G (n+1))⟩
 |sort=> intro hG;exact⟨_,O5.sort _ _⟩
 |nat=> intro hG;exact⟨_,O5.sort _ _⟩
 |zero=> intro hG;exact⟨_,O5.nat _⟩
 |succ=> intro hG;exact⟨_,O5.nat _⟩
 |pi=> intro hG;exact⟨_,O5.sort _ _⟩
 |sg=> intro hG;exact⟨_,O5.sort _ _⟩
 |lam b a d c m=>
  intro hG;obtain⟨k,hk⟩:=m (hG.cons ⟨_,b,a⟩);exact⟨_,O5.pi ⟨_,b,a⟩ hk⟩
 |app b a d e c m=>
  intro hG;obtain⟨k,hk⟩:=c hG;obtain⟨i,j,-,l,-⟩:=(hk.red a.red).pi_inv;exact⟨j,l.ins d e⟩
 |elim b a d e g o q h8 p f=>
  intro hG;exact⟨_,_,.app b a p (f.trans d.symm),e.sub (cns _ Tm.var)⟩
 |id=> intro hG;exact⟨_,O5.sort _ _⟩
 |refl h i=>
  intro hG;obtain⟨k,S,b,a⟩:=i hG;exact⟨_,_,.id b a h (Cv.rfl' _) h (Cv.rfl' _),.refl _⟩
 |move b a d e g o q h8 c=>
  intro hG;obtain⟨k,hk⟩:=c hG;obtain⟨-,-,C,r,s⟩:=(hk.red a.red).id_inv;exact⟨_,_,.app d e r (s.trans g.symm),o.sub (cns _ Tm.var)⟩
 |pair b a=> intro hG;exact⟨_,_,b,a⟩
 |fst b a c=>
  intro hG;obtain⟨k,hk⟩:=c hG;obtain⟨i,j,l,-,-⟩:=(hk.red a.red).sg_inv;exact⟨_,l⟩
 |snd b a c=>
  intro hG;obtain⟨k,hk⟩:=c hG;obtain⟨i,j,-,l,-⟩:=(hk.red a.red).sg_inv;exact⟨_,l.ins (.fst b a) (Cv.rfl' _)⟩
