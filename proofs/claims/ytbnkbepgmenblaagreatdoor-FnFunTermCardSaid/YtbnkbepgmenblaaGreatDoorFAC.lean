/-
  Lemmas towards the law, 3: MThm, MCtx, MSr.
-/
import Derived.Test.YtbnkbepgmenblaaGreatDoorFAB
set_option linter.unusedVariables false
namespace Go.Proofs.YtbnkbepgmenblaaGreatDoor.M
open Tm
def fvb(n:Nat):Tm->Prop
 | .var i=> i < n
 | .sort _=> True
 | .pi A B=> fvb n A/\fvb (n+1) B
 | .lam A t=> fvb n A/\fvb (n+1) t
 | .app f a=> fvb n f/\fvb n a
 | .nat=> True
 | .zero=> True
 | .succ a=> fvb n a
 | .elim p z s a=> fvb n p/\fvb n z/\fvb n s/\fvb n a
 | .id T a b=> fvb n T/\fvb n a/\fvb n b
 | .refl a=> fvb n a
 | .move p e a=> fvb n p/\fvb n e/\fvb n a
 | .sg A B=> fvb n A/\fvb (n+1) B
 | .pair T a b=> fvb n T/\fvb n a/\fvb n b
 | .fst a=> fvb n a
 | .snd a=> fvb n a
theorem lk_lt{G:List Tm}{n:Nat}{A:Tm}(h:lk G n=some A):n < G.length:=by
 unfold lk at h;obtain⟨B,h1,-⟩:=Option.map_eq_some_iff.1 h;exact(List.getElem?_eq_some_iff.1 h1).1
theorem Ty.fv{G:List Tm}{t A:Tm}(h:Ty G t A):fvb G.length t:=by
 induction h <;> simp only[fvb,List.length_cons] at* <;> first|exact lk_lt (by assumption) |(repeat' apply And.intro) <;> assumption
structure WOk (G:List Tm) (W:Tm->Prop):Prop where
 var: ∀n,W (.var n)
 sort: ∀n,W (.sort n)
 nat:W .nat
 zero:W .zero
 succ: ∀{a},W a->W (.succ a)
 pi: ∀{A} B,W A->W (.pi A B)
 sg: ∀{A} B,W A->W (.sg A B)
 lam: ∀{A} t,W A->W (.lam A t)
 app: ∀{f a},W f->W a->W (.app f a)
 elim: ∀{p z s a},W p->W z->W s->W a->W (.elim p z s a)
 id: ∀{T a b},W T->W a->W b->W (.id T a b)
 refl: ∀{a},W a->(∀A,Ty G a A->W A)->W (.refl a)
 move: ∀{p e a},W p->W e->W a->W (.move p e a)
 pair: ∀{T a b},W T->W a->W b->W (.pair T a b)
 fst: ∀{a},W a->W (.fst a)
 snd: ∀{a},W a->W (.snd a)
variable {G : List Tm} {W : Tm → Prop}
def Top:Nat->Prop:=fun _=> True
def Ok(G:List Tm)(W:Tm->Prop)(T a:Tm):Prop:= ∃Q P,GL G W Top T Q P/\Q T/\Gd G W T Q P a
theorem Ok.own{T a:Tm}(h:Ok G W T a): ∃A,Ty G a A/\Ok G W A a/\Cv A T:=by
 obtain⟨Q,P,h1,h2,h3,⟨A,h4,h5,h6⟩,h7⟩:=h;exact⟨A,h4,⟨Q,P,h1.re h6,h6,h3,⟨A,h4,Cv.rfl' _,h6⟩,h7⟩,h5⟩
theorem Ok.w{T a:Tm}(h:Ok G W T a):W a:=by
 obtain⟨Q,P,h1,h2,h3,h4,h5⟩:=h;exact h3
theorem Ok.wt{T a:Tm}(h:Ok G W T a):W T:=by
 obtain⟨Q,P,h1,h2,h3⟩:=h;exact h1.w h2
theorem Ok.gd{T T' a:Tm}(h:Ok G W T a){k:Nat->Prop}{Q P:Tm->Prop}(g:GL G W k T' Q P)(e:Cv T T'):Gd G W T' Q P a:=by
 obtain⟨Q0,P0,h1,h2,h3⟩:=h;exact h1.gd g e h3
theorem Ok.p{T T' a:Tm}(h:Ok G W T a){k:Nat->Prop}{Q P:Tm->Prop}(g:GL G W k T' Q P)(e:Cv T T'):P a:=(h.gd g e).2.2
theorem Ok.ty{T a:Tm}(h:Ok G W T a){j:Nat}(e:HR T (.sort j)): ∃Q P,GL G W (fun i=> i < j) a Q P/\Q a:=by
 obtain⟨Q,P,h1,h2,h3,h4,h5⟩:=h;obtain⟨k1,k2⟩:=h1.sort_inv e;rw[k2,y78] at h5;obtain⟨Q',P',h5⟩:=h5;exact⟨Q',P',h5,h5.q h3⟩
theorem GL.top{k:Nat->Prop}{T:Tm}{Q P:Tm->Prop}(h:GL G W k T Q P):GL G W Top T Q P:=h.up fun _ _=> trivial
theorem Ok.of{k:Nat->Prop}{T a:Tm}{Q P:Tm->Prop}(h:GL G W k T Q P)(hq:Q T)(hd:Gd G W T Q P a):Ok G W T a:=⟨Q,P,h.top,hq,hd⟩
def Vl(G:List Tm)(W:Tm->Prop)(n:Nat)(D:List Tm)(th s:Nat->Tm):Prop:= ∀x,x < n-> ∃X,Ty D (th x) X/\Ok G W (X.sub s) ((th x).sub s)
theorem Vl.now{n:Nat}{D:List Tm}{th s:Nat->Tm}(h:Vl G W n D th s):Vl G W n G (fun x=>(th x).sub s) Tm.var:=by
 intro x hx;obtain⟨X,h1,h2⟩:=h x hx;obtain⟨A,k1,k2,k3⟩:=h2.own;refine⟨A,k1, ?_⟩;rw[y17,y17];exact k2
theorem Vl.cns{n:Nat}{D:List Tm}{th s:Nat->Tm}(h:Vl G W n D th s){A d:Tm}(hd:Ok G W ((A.sub th).sub s) d):Vl G W (n+1) (A.sub th::D) (ups th) (Tm.cns d s):=by
 intro x hx;cases x with
 |zero=> exact⟨_,.var (y53 _ _),by rw[y75];exact hd⟩
 |succ x=>
  obtain⟨X,h1,h2⟩:=h x (by omega);refine⟨_,h1.wk _, ?_⟩
  show Ok G W _ ((Tm.wk (th x)).sub _)
  rw[y75,y75];exact h2
def S1(G:List Tm)(W:Tm->Prop)(t:Tm):Prop:= ∀(n:Nat) (D:List Tm) (th s:Nat->Tm) (T:Tm),fvb n t->Vl G W n D th s->q26 D G s->Ty D (t.sub th) T-> ∃Q P,GL G W Top (T.sub s) Q P/\Q (T.sub s)
def S3(G:List Tm)(W:Tm->Prop)(t:Tm):Prop:= ∀(n:Nat) (D:List Tm) (th s:Nat->Tm) (T:Tm),fvb n t->Vl G W n D th s->q26 D G s->Ty D (t.sub th) T->Ok G W (T.sub s) ((t.sub th).sub s)
theorem fin{t:Tm}(h1:S1 G W t)(h2: ∀(n:Nat) (D:List Tm) (th s:Nat->Tm) (T:Tm) (Q P:Tm->Prop),fvb n t->Vl G W n D th s->q26 D G s->Ty D (t.sub th) T->GL G W Top (T.sub s) Q P->Q (T.sub s)->
 (∃A,Ty G ((t.sub th).sub s) A/\Cv A (T.sub s)/\Q A)->W ((t.sub th).sub s)/\P ((t.sub th).sub s)):S3 G W t:=by
 intro n D th s T hf hv hs ht;obtain⟨Q,P,k1,k2⟩:=h1 n D th s T hf hv hs ht;obtain⟨A,l1,l2⟩:=ht.sub hs;have e:(t.sub th).sub s=t.sub (fun x=>(th x).sub s):=q111 t s th;obtain⟨Q2,P2,m1,m2⟩:=h1 n G _ Tm.var A hf hv.now (q26.var G) (by rw[<-e];exact l1);rw[y17] at m1 m2;have hA:Q A:=((m1.eq k1 l2).1 A).1 m2;obtain⟨n1,n2⟩:=h2 n D th s T Q P hf hv hs ht k1 k2 ⟨A,l1,l2,hA⟩;exact⟨Q,P,k1,k2,n1,⟨A,l1,l2,hA⟩,n2⟩
theorem Ok.papp{F f:Tm}(h:Ok G W F f){C R:Tm}(e:HR F (.pi C R)){T a:Tm}(ha:Ok G W T a)(k:Cv T C): ∃Q P,GL G W Top (R.inst a) Q P/\Q (R.inst a)/\P (.app f a)/\ ∀A,Ty G f A-> ∃C' R',HR A (.pi C' R')/\Cv C' C/\Q (R'.inst a):=by
 obtain⟨Q,P,h1,h2,h3,⟨A,h4,h5,h6⟩,h7⟩:=h;obtain⟨QC,PC,Qd,Pd,g1,g2,g3,g4,g5,g6⟩:=h1.pi_inv e;have hd:=ha.gd g1 k;refine⟨_,_,g3 a hd,g4 a hd,(g6 f).1 h7 a hd,fun A' hA'=> ?_⟩;obtain rfl:=h4.det hA';obtain⟨-,C',R',l1,l2,l3,l4⟩:=(g5 _).1 h6;exact⟨C',R',l1,l2,l4 a hd⟩
theorem Ok.fam{F f:Tm}(h:Ok G W F f){C D:Tm}{k:Nat}(e:HR F (.pi C D))(eD:HR D (.sort k)){T a:Tm}(ha:Ok G W T a)(c:Cv T C)(hw:W (.app f a)): ∃Q P,GL G W Top (.app f a) Q P/\Q (.app f a):=by
 obtain⟨Q,P,h1,h2,h3,-⟩:=h.papp e ha c;obtain⟨k1,k2⟩:=h1.sort_inv (j:=k) (by have:=eD.sub (Tm.cns a Tm.var);exact this);rw[k2,y78] at h3;obtain⟨Q',P',h4⟩:=h3;exact⟨Q',P',h4.top,GL.q h4 hw⟩
theorem q151{k:Nat->Prop}:GL G W k .nat (fun A=> W A/\HR A .nat) (NatP G W):= .nat (.refl _) (fun _=> Iff.rfl) (fun _=> Iff.rfl)
theorem q104{k:Nat->Prop}{j:Nat}(h:k j):GL G W k (.sort j) (fun A=> W A/\HR A (.sort j)) (Uv G W j):= .sort h (.refl _) (fun _=> Iff.rfl) (fun _=> Iff.rfl)
theorem Ok.nat(hW:WOk G W){b A:Tm}(h1:W b)(h2:Ty G b A)(h3:Cv A .nat)(h4:W A)(h5:NatP G W b):Ok G W .nat b:=⟨_,_,q151,⟨hW.nat,.refl _⟩,h1,⟨A,h2,h3,h4,h3.to_nat⟩,h5⟩
theorem elimP(hW:WOk G W){p z s F C D Z S:Tm}{k:Nat}(hp:Ok G W F p)(eF:HR F (.pi C D))(eC:Cv C .nat)(eD:HR D (.sort k))(hz:Ok G W Z z)(eZ:Cv Z (.app p .zero))(hs:Ok G W S s)(eS:Cv S (stepTy p)):
 ∀{a:Tm},NatP G W a->W a-> ∀{A:Tm},Ty G a A->Cv A .nat->W A-> ∀{Q P:Tm->Prop},GL G W Top (.app p a) Q P->P (.elim p z s a):=by
 intro a h
 induction h with
 | @zero a h=>
  intro hw A hA eA wA Q P g;refine g.back ((h.map (F:=fun x=> .elim p z s x) fun h=> .elim _ _ _ h).trans (.one (.ez p z s))) ?_;exact hz.p g (eZ.trans (.app (Cv.rfl' _) h.cv.symm))
 | @succ a b B h1 h2 h3 h4 h5 h6 ih=>
  intro hw A hA eA wA Q P g;refine g.back ((h1.map (F:=fun x=> .elim p z s x) fun h=> .elim _ _ _ h).trans (.one (.es p z s b))) ?_;have hb:=Ok.nat hW h2 h3 h4 h5 h6;obtain⟨C1,R1,r1,r2,r3⟩:=eS.to_pi;obtain⟨Q1,P1,s1,s2,s3,-⟩:=hs.papp r1 hb r2.symm;have e1:Cv (R1.inst b) (.pi (.app p b) (.app (Tm.wk p) (.succ (Tm.wk b)))):=by
   have:=r3.inst (Cv.rfl' b);have e2:(Tm.pi (.app (Tm.wk p) (.var 0)) (.app (p.ren (fun i=> i+2)) (.succ (.var 1)))).inst b= .pi (.app p b) (.app (Tm.wk p) (.succ (Tm.wk b))):=by
    unfold Tm.inst;simp only[Tm.sub,ups,Tm.cns];rw[y75,y17,q81]
    congr 2
    rw[Tm.wk,q51]
    rfl
   rwa [e2] at this
  obtain⟨Qb,Pb,f1,f2⟩:=hp.fam eF eD hb eC.symm (hW.app hp.w h2);have ve:Ty G (.elim p z s b) (.app p b):=by
   obtain⟨Fp,p1,p2,p3⟩:=hp.own;obtain⟨Zz,z1,z2,z3⟩:=hz.own;obtain⟨Ss,s1,s2,s3⟩:=hs.own;obtain⟨C',D',q1,q2,q3⟩:=(p3.trans eF.cv).to_pi;exact .elim p1 q1 (q2.trans eC) (q3.trans eD.cv).to_sort z1 (z3.trans eZ) s1 (s3.trans eS) h3 h4
  have he:Ok G W (.app p b) (.elim p z s b):=⟨Qb,Pb,f1,f2,hW.elim hp.w hz.w hs.w h2,⟨_,ve,Cv.rfl' _,f2⟩,ih h2 h3 h4 h5 f1⟩;obtain⟨C2,R2,t1,t2,t3⟩:=e1.to_pi;obtain⟨QC,PC,Qd,Pd,g1,g2,g3,g4,g5,g6⟩:=s1.pi_inv t1;have hd:=he.gd g1 t2.symm;have h7:=(g6 _).1 s3 _ hd;have h8:=g3 _ hd;have e3:Cv (R2.inst (.elim p z s b)) (.app p a):=by
   have:=t3.inst (Cv.rfl' (.elim p z s b));have e4:(Tm.app (Tm.wk p) (.succ (Tm.wk b))).inst (.elim p z s b)= .app p (.succ b):=by
    show Tm.app ((Tm.wk p).inst _) (.succ ((Tm.wk b).inst _))=_
    rw[q118,q118]
   rw[e4] at this;exact this.trans (.app (Cv.rfl' _) h1.cv.symm)
  exact((h8.eq g e3).2 _).1 h7
 |ne h=> intro hw A hA eA wA Q P g;exact g.stuck (h.elim p z s)
theorem mkpi(hW:WOk G W){L:Nat->Prop}{A B:Tm}{QA PA:Tm->Prop}(wA:W A)(gA:GL G W L A QA PA)(hB: ∀d,Gd G W A QA PA d-> ∃Q P,GL G W L (B.inst d) Q P/\Q (B.inst d)): ∃Q P,GL G W L (.pi A B) Q P/\Q (.pi A B):=by
 have h: ∀d,∃X:(Tm->Prop)×(Tm->Prop),Gd G W A QA PA d->GL G W L (B.inst d) X.1 X.2/\X.1 (B.inst d):=fun d=> by
  by_cases hd:Gd G W A QA PA d
  · obtain⟨Q,P,h1,h2⟩:=hB d hd
    exact⟨(Q,P),fun _=>⟨h1,h2⟩⟩
  · exact⟨(fun _=> True,fun _=> True),fun h=> absurd h hd⟩
 obtain⟨F,hF⟩:=Classical.axiomOfChoice h;have g:GL G W L (.pi A B) _ _:= .pi (Qd:=fun d=>(F d).1) (Pd:=fun d=>(F d).2) (.refl _) gA (gA.q wA) (fun d hd=>(hF d hd).1) (fun d hd=>(hF d hd).2) (fun _=> Iff.rfl) (fun _=> Iff.rfl);exact⟨_,_,g,g.q (hW.pi B wA)⟩
theorem mksg(hW:WOk G W){L:Nat->Prop}{A B:Tm}{QA PA:Tm->Prop}(wA:W A)(gA:GL G W L A QA PA)(hB: ∀d,Gd G W A QA PA d-> ∃Q P,GL G W L (B.inst d) Q P/\Q (B.inst d)): ∃Q P,GL G W L (.sg A B) Q P/\Q (.sg A B):=by
 have h: ∀d,∃X:(Tm->Prop)×(Tm->Prop),Gd G W A QA PA d->GL G W L (B.inst d) X.1 X.2/\X.1 (B.inst d):=fun d=> by
  by_cases hd:Gd G W A QA PA d
  · obtain⟨Q,P,h1,h2⟩:=hB d hd
    exact⟨(Q,P),fun _=>⟨h1,h2⟩⟩
  · exact⟨(fun _=> True,fun _=> True),fun h=> absurd h hd⟩
 obtain⟨F,hF⟩:=Classical.axiomOfChoice h;have g:GL G W L (.sg A B) _ _:= .sg (Qd:=fun d=>(F d).1) (Pd:=fun d=>(F d).2) (.refl _) gA (gA.q wA) (fun d hd=>(hF d hd).1) (fun d hd=>(hF d hd).2) (fun _=> Iff.rfl) (fun _=> Iff.rfl);exact⟨_,_,g,g.q (hW.sg B wA)⟩
theorem below{B:Tm}(iB:S3 G W B){n:Nat}{D:List Tm}{th s:Nat->Tm}{A T:Tm}(hf:fvb (n+1) B)(hv:Vl G W n D th s)(hs:q26 D G s)(ht:Ty (A.sub th::D) (B.sub (ups th)) T){L:Nat->Prop}{QA PA:Tm->Prop}(gA:GL G W L ((A.sub th).sub s) QA PA)(qA:QA ((A.sub th).sub s)){d:Tm}(hd:Gd G W ((A.sub th).sub s) QA PA d):
 Ok G W (T.sub (Tm.cns d s)) (((B.sub (ups th)).sub (ups s)).inst d):=by
 have F5:=Ok.of gA qA hd;obtain⟨A0,k1,k2,k3⟩:=F5.own;rw[j51];exact iB (n+1) _ _ _ T hf (hv.cns F5) (hs.cns k1 k3) ht
theorem Ok.sgp{A a:Tm}(h:Ok G W A a){C R:Tm}(e:HR A (.sg C R))(hW:WOk G W): ∃(QC PC:Tm->Prop) (Qd Pd:Tm->Tm->Prop),GL G W Top C QC PC/\QC C/\Gd G W C QC PC (.fst a)/\(∀d,Gd G W C QC PC d->GL G W Top (R.inst d) (Qd d) (Pd d))/\(∀d,Gd G W C QC PC d->Qd d (R.inst d))/\Pd (.fst a) (.snd a):=by
 obtain⟨Q,P,h1,h2,h3,⟨A0,h4,h5,h6⟩,h7⟩:=h;obtain⟨QC,PC,Qd,Pd,g1,g2,g3,g4,g5,g6⟩:=h1.sg_inv e;obtain⟨-,C',R',l1,l2,l3,l4⟩:=(g5 _).1 h6;obtain⟨p1,p2⟩:=(g6 _).1 h7;have hg:Gd G W C QC PC (.fst a):=⟨hW.fst h3,⟨C',.fst h4 l1,l2,l3⟩,p1⟩;exact⟨QC,PC,Qd,Pd,g1,g2,hg,g3,g4,p2 _ hg (Cv.rfl' _)⟩
theorem good(hW:WOk G W): ∀t:Tm,S3 G W t:=by
 intro t
 induction t with
 |var x=>
  intro n D th s T hf hv hs ht;obtain⟨X,h1,h2⟩:=hv x hf;obtain rfl:=h1.det ht;exact h2
 |sort i=>
  refine fin (fun n D th s T hf hv hs ht=> ?_) (fun n D th s T Q P hf hv hs ht g gq _=> ?_)
  · cases ht with
    |sort=> exact⟨_,_,q104 trivial,hW.sort _,.refl _⟩
  · cases ht with
    |sort=>
     refine⟨hW.sort _, ?_⟩;rw[(g.sort_inv (.refl _)).2,y78];exact⟨_,_,q104 (Nat.lt_succ_self _)⟩
 |nat=>
  refine fin (fun n D th s T hf hv hs ht=> ?_) (fun n D th s T Q P hf hv hs ht g gq _=> ?_)
  · cases ht with
    |nat=> exact⟨_,_,q104 trivial,hW.sort _,.refl _⟩
  · cases ht with
    |nat=>
     refine⟨hW.nat, ?_⟩;rw[(g.sort_inv (.refl _)).2,y78];exact⟨_,_,q151⟩
 |zero=>
  refine fin (fun n D th s T hf hv hs ht=> ?_) (fun n D th s T Q P hf hv hs ht g gq _=> ?_)
  · cases ht with
    |zero=> exact⟨_,_,q151,hW.nat,.refl _⟩
  · cases ht with
    |zero=>
     refine⟨hW.zero, ?_⟩;rw[g.nat_inv (Cv.rfl' _)];exact .zero (.refl _)
 |succ a ih=>
  refine fin (fun n D th s T hf hv hs ht=> ?_) (fun n D th s T Q P hf hv hs ht g gq _=> ?_)
  · cases ht with
    |succ=> exact⟨_,_,q151,hW.nat,.refl _⟩
  · cases ht with
    |succ h1 h2=>
     have ha:=ih n D th s _ hf hv hs h1;obtain⟨A,k1,k2,k3⟩:=ha.own;refine⟨hW.succ ha.w, ?_⟩;rw[g.nat_inv (Cv.rfl' _)];have e:=k3.trans (h2.sub s);exact .succ (.refl _) ha.w k1 e k2.wt (ha.p (q151 (k:=Top)) (h2.sub s))
 |pi A B iA iB=>
  refine fin (fun n D th s T hf hv hs ht=> ?_) (fun n D th s T Q P hf hv hs ht g gq _=> ?_)
  · cases ht with
    |pi=> exact⟨_,_,q104 trivial,hW.sort _,.refl _⟩
  · cases ht with
    | @pi _ _ _ S S' i k h1 h2 h3 h4=>
     have hA:=iA n D th s _ hf.1 hv hs h1;refine⟨hW.pi _ hA.w, ?_⟩;rw[(g.sort_inv (.refl _)).2,y78];obtain⟨QA,PA,gA,qA⟩:=hA.ty (h2.sub s);obtain⟨Q',P',g',-⟩:=mkpi (L:=fun j=> j < max i k) hW (B:=(B.sub (ups th)).sub (ups s)) hA.w (gA.up fun j hj=> by omega) (fun d hd=> by
      obtain⟨Q,P,k1,k2⟩:=(below iB hf.2 hv hs h3 gA qA hd).ty (h4.sub _);exact⟨Q,P,k1.up fun j hj=> by omega,k2⟩)
     exact⟨Q',P',g'⟩
 |sg A B iA iB=>
  refine fin (fun n D th s T hf hv hs ht=> ?_) (fun n D th s T Q P hf hv hs ht g gq _=> ?_)
  · cases ht with
    |sg=> exact⟨_,_,q104 trivial,hW.sort _,.refl _⟩
  · cases ht with
    | @sg _ _ _ S S' i k h1 h2 h3 h4=>
     have hA:=iA n D th s _ hf.1 hv hs h1;refine⟨hW.sg _ hA.w, ?_⟩;rw[(g.sort_inv (.refl _)).2,y78];obtain⟨QA,PA,gA,qA⟩:=hA.ty (h2.sub s);obtain⟨Q',P',g',-⟩:=mksg (L:=fun j=> j < max i k) hW (B:=(B.sub (ups th)).sub (ups s)) hA.w (gA.up fun j hj=> by omega) (fun d hd=> by
      obtain⟨Q,P,k1,k2⟩:=(below iB hf.2 hv hs h3 gA qA hd).ty (h4.sub _);exact⟨Q,P,k1.up fun j hj=> by omega,k2⟩)
     exact⟨Q',P',g'⟩
 |lam A t iA it=>
  refine fin (fun n D th s T hf hv hs ht=> ?_) (fun n D th s T Q P hf hv hs ht g gq _=> ?_)
  · cases ht with
    | @lam _ _ _ B S i h1 h2 h3=>
     have hA:=iA n D th s _ hf.1 hv hs h1;obtain⟨QA,PA,gA,qA⟩:=hA.ty (h2.sub s);exact mkpi hW (B:=B.sub (ups s)) hA.w gA.top (fun d hd=> by
      obtain⟨Q,P,k1,k2,-⟩:=below it hf.2 hv hs h3 gA qA hd;rw[<-j51] at k1 k2;exact⟨Q,P,k1,k2⟩)
  · cases ht with
    | @lam _ _ _ B S i h1 h2 h3=>
     have hA:=iA n D th s _ hf.1 hv hs h1;obtain⟨QC,PC,Qd,Pd,g1,g2,g3,g4,g5,g6⟩:=g.pi_inv (.refl _);refine⟨hW.lam _ hA.w,(g6 _).2 fun d hd=> ?_⟩;refine(g3 d hd).back (.one (.beta _ _ _)) ?_;have hb:=below it hf.2 hv hs h3 g1 g2 hd;rw[<-j51] at hb;exact hb.p (g3 d hd) (Cv.rfl' _)
 |app f a jf ja=>
  have key: ∀(n:Nat) (D:List Tm) (th s:Nat->Tm) (T:Tm),fvb n (.app f a)->Vl G W n D th s->q26 D G s->Ty D ((Tm.app f a).sub th) T->W (((Tm.app f a).sub th).sub s)/\ ∃Q P,GL G W Top (T.sub s) Q P/\Q (T.sub s)/\P (((Tm.app f a).sub th).sub s):=by
   intro n D th s T hf hv hs ht;cases ht with
   |app h1 h2 h3 h4=>
    have hF:=jf n D th s _ hf.1 hv hs h1;have hA:=ja n D th s _ hf.2 hv hs h3;obtain⟨Q,P,k1,k2,k3,-⟩:=hF.papp (h2.sub s) hA (h4.sub s);refine⟨hW.app hF.w hA.w,Q,P, ?_, ?_,k3⟩
    · rw[y29];exact k1
    · rw[y29];exact k2
  refine fin (fun n D th s T hf hv hs ht=> ?_) (fun n D th s T Q P hf hv hs ht g gq _=> ?_)
  · obtain⟨-,Q,P,k1,k2,-⟩:=key n D th s T hf hv hs ht
    exact⟨Q,P,k1,k2⟩
  · obtain⟨w,Q',P',k1,k2,k3⟩:=key n D th s T hf hv hs ht
    exact⟨w,((k1.eq g (Cv.rfl' _)).2 _).1 k3⟩
 |elim p z s' a jp jz js ja=>
  refine fin (fun n D th s T hf hv hs ht=> ?_) (fun n D th s T Q P hf hv hs ht g gq _=> ?_)
  · cases ht with
    |elim h1 h2 h3 h4 h5 h6 h7 h8 h9 h10=>
     have hp:=jp n D th s _ hf.1 hv hs h1;have ha:=ja n D th s _ hf.2.2.2 hv hs h9;exact hp.fam (h2.sub s) (h4.sub (ups s)) ha ((h10.trans h3.symm).sub s) (hW.app hp.w ha.w)
  · cases ht with
    |elim h1 h2 h3 h4 h5 h6 h7 h8 h9 h10=>
     have hp:=jp n D th s _ hf.1 hv hs h1;have hz:=jz n D th s _ hf.2.1 hv hs h5;have hS:=js n D th s _ hf.2.2.1 hv hs h7;have ha:=ja n D th s _ hf.2.2.2 hv hs h9;refine⟨hW.elim hp.w hz.w hS.w ha.w, ?_⟩;obtain⟨A,k1,k2,k3⟩:=ha.own;exact elimP hW hp (h2.sub s) (h3.sub s) (h4.sub (ups s)) hz (h6.sub s) hS (by have:=h8.sub s;rwa [j105] at this) (ha.p (q151 (k:=Top)) (h10.sub s)) ha.w k1 (k3.trans (h10.sub s)) k2.wt g
 |id T a b jT ja jb=>
  refine fin (fun n D th s T hf hv hs ht=> ?_) (fun n D th s T Q P hf hv hs ht g gq _=> ?_)
  · cases ht with
    |id=> exact⟨_,_,q104 trivial,hW.sort _,.refl _⟩
  · cases ht with
    |id h1 h2 h3 h4 h5 h6=>
     have hT:=jT n D th s _ hf.1 hv hs h1;have ha:=ja n D th s _ hf.2.1 hv hs h3;have hb:=jb n D th s _ hf.2.2 hv hs h5;refine⟨hW.id hT.w ha.w hb.w, ?_⟩;rw[(g.sort_inv (.refl _)).2,y78];obtain⟨QX,PX,gX,qX⟩:=hT.ty (h2.sub s);exact⟨_,_,.id (.refl _) gX qX (ha.gd gX (h4.sub s)) (hb.gd gX (h6.sub s)) (fun _=> Iff.rfl) (fun _=> Iff.rfl)⟩
 |refl a ja=>
  refine fin (fun n D th s T hf hv hs ht=> ?_) (fun n D th s T Q P hf hv hs ht g gq _=> ?_)
  · cases ht with
    | @refl _ _ A h1=>
     have ha:=ja n D th s _ hf hv hs h1;obtain⟨QX,PX,gX,qX,dX⟩:=ha;have g:GL G W Top (.id (A.sub s) ((a.sub th).sub s) ((a.sub th).sub s)) _ _:= .id (.refl _) gX qX dX dX (fun _=> Iff.rfl) (fun _=> Iff.rfl);exact⟨_,_,g,g.q (hW.id (gX.w qX) dX.1 dX.1)⟩
  · cases ht with
    | @refl _ _ A h1=>
     have ha:=ja n D th s _ hf hv hs h1;refine⟨hW.refl ha.w fun A0 pu=> ?_, ?_⟩
     · obtain⟨A1,k1,k2,k3⟩:=ha.own
       obtain rfl:=k1.det pu;exact k2.wt
     · obtain⟨QX,PX,-,-,-,-,l⟩:=g.id_inv (.refl _)
       exact(l _).2 (.inl ⟨_,.refl _,Cv.rfl' _,Cv.rfl' _⟩)
 |move p e a jp je ja=>
  have key: ∀(n:Nat) (D:List Tm) (th s:Nat->Tm) (T:Tm),fvb n (.move p e a)->Vl G W n D th s->q26 D G s->Ty D ((Tm.move p e a).sub th) T->W (((Tm.move p e a).sub th).sub s)/\ ∃Q P,GL G W Top (T.sub s) Q P/\Q (T.sub s)/\P (((Tm.move p e a).sub th).sub s):=by
   intro n D th s T hf hv hs ht;cases ht with
   |move h1 h2 h3 h4 h5 h6 h7 h8=>
    have he:=je n D th s _ hf.2.1 hv hs h1;have hp:=jp n D th s _ hf.1 hv hs h3;have ha:=ja n D th s _ hf.2.2 hv hs h7;obtain⟨Q,P,k1,k2,k3,k4,k5⟩:=he;obtain⟨QX,PX,gX,qX,d1,d2,l⟩:=k1.id_inv (h2.sub s);have hC:=Ok.of gX qX d2;obtain⟨QT,PT,gT,qT⟩:=hp.fam (h4.sub s) (h6.sub (ups s)) hC (h5.symm.sub s) (hW.app hp.w d2.1);refine⟨hW.move hp.w k3 ha.w,QT,PT,gT,qT, ?_⟩;rcases(l _).1 k5 with⟨b,m1,m2,m3⟩ |m
    · refine gT.back ((m1.map (F:=fun x=> .move _ x _) fun h=> .move _ _ h).trans (.one (.mr _ _ _))) ?_
      exact ha.p gT ((h8.sub s).trans (.app (Cv.rfl' _) (m2.symm.trans m3)))
    · exact gT.stuck (m.move _ _)
  refine fin (fun n D th s T hf hv hs ht=> ?_) (fun n D th s T Q P hf hv hs ht g gq _=> ?_)
  · obtain⟨-,Q,P,k1,k2,-⟩:=key n D th s T hf hv hs ht
    exact⟨Q,P,k1,k2⟩
  · obtain⟨w,Q',P',k1,k2,k3⟩:=key n D th s T hf hv hs ht
    exact⟨w,((k1.eq g (Cv.rfl' _)).2 _).1 k3⟩
 |pair T a b jT ja jb=>
  refine fin (fun n D th s T hf hv hs ht=> ?_) (fun n D th s T Q P hf hv hs ht g gq _=> ?_)
  · cases ht with
    |pair h1 h2 h3 h4 h5 h6 h7=>
     have hT:=jT n D th s _ hf.1 hv hs h1;obtain⟨Q,P,k1,k2⟩:=hT.ty (h2.sub s);exact⟨Q,P,k1.top,k2⟩
  · cases ht with
    |pair h1 h2 h3 h4 h5 h6 h7=>
     have hT:=jT n D th s _ hf.1 hv hs h1;have ha:=ja n D th s _ hf.2.1 hv hs h4;have hb:=jb n D th s _ hf.2.2 hv hs h6;refine⟨hW.pair hT.w ha.w hb.w, ?_⟩;obtain⟨QC,PC,Qd,Pd,g1,g2,g3,g4,g5,g6⟩:=g.sg_inv (h3.sub s);refine(g6 _).2 ⟨g1.back (.one (.fp _ _ _)) (ha.p g1 (h5.sub s)),fun d hd hc=>(g3 d hd).back (.one (.sp _ _ _)) (hb.p (g3 d hd) ?_)⟩;have e:=h7.sub s;rw[y29] at e;exact e.trans ((Cv.rfl' _).inst (hc.trans (HR.one (.fp _ _ _)).cv).symm)
 |fst a ja=>
  have key: ∀(n:Nat) (D:List Tm) (th s:Nat->Tm) (T:Tm),fvb n (.fst a)->Vl G W n D th s->q26 D G s->Ty D ((Tm.fst a).sub th) T->W (((Tm.fst a).sub th).sub s)/\ ∃Q P,GL G W Top (T.sub s) Q P/\Q (T.sub s)/\P (((Tm.fst a).sub th).sub s):=by
   intro n D th s T hf hv hs ht;cases ht with
   |fst h1 h2=>
    have ha:=ja n D th s _ hf hv hs h1;obtain⟨QC,PC,Qd,Pd,g1,g2,g3,-⟩:=ha.sgp (h2.sub s) hW;exact⟨hW.fst ha.w,QC,PC,g1,g2,g3.2.2⟩
  refine fin (fun n D th s T hf hv hs ht=> ?_) (fun n D th s T Q P hf hv hs ht g gq _=> ?_)
  · obtain⟨-,Q,P,k1,k2,-⟩:=key n D th s T hf hv hs ht
    exact⟨Q,P,k1,k2⟩
  · obtain⟨w,Q',P',k1,k2,k3⟩:=key n D th s T hf hv hs ht
    exact⟨w,((k1.eq g (Cv.rfl' _)).2 _).1 k3⟩
 |snd a ja=>
  have key: ∀(n:Nat) (D:List Tm) (th s:Nat->Tm) (T:Tm),fvb n (.snd a)->Vl G W n D th s->q26 D G s->Ty D ((Tm.snd a).sub th) T->W (((Tm.snd a).sub th).sub s)/\ ∃Q P,GL G W Top (T.sub s) Q P/\Q (T.sub s)/\P (((Tm.snd a).sub th).sub s):=by
   intro n D th s T hf hv hs ht;cases ht with
   |snd h1 h2=>
    have ha:=ja n D th s _ hf hv hs h1;obtain⟨QC,PC,Qd,Pd,g1,g2,g3,g4,g5,g6⟩:=ha.sgp (h2.sub s) hW;refine⟨hW.snd ha.w,Qd (.fst ((a.sub th).sub s)),Pd (.fst ((a.sub th).sub s)), ?_, ?_,g6⟩
    · rw[y29];exact g4 _ g3
    · rw[y29];exact g5 _ g3
  refine fin (fun n D th s T hf hv hs ht=> ?_) (fun n D th s T Q P hf hv hs ht g gq _=> ?_)
  · obtain⟨-,Q,P,k1,k2,-⟩:=key n D th s T hf hv hs ht
    exact⟨Q,P,k1,k2⟩
  · obtain⟨w,Q',P',k1,k2,k3⟩:=key n D th s T hf hv hs ht
    exact⟨w,((k1.eq g (Cv.rfl' _)).2 _).1 k3⟩
def Wf(G:List Tm):Prop:= ∀n A,G[n]? =some A-> ∃S i,Ty (G.drop (n+1)) A S/\HR S (.sort i)
theorem j48.drop(G:List Tm)(k:Nat):j48 (G.drop k) G (fun i=> i+k):=by
 intro n A h;unfold lk at h⊢;rw[List.getElem?_drop] at h;obtain⟨B,h1,rfl⟩:=Option.map_eq_some_iff.1 h
 show Option.map _ G[n+k]? =_
 rw[Nat.add_comm n k,h1,Option.map_some,ren_ren]
 congr 2
 funext i
 show i+(n+k+1)=i+(n+1)+k
 omega
variable {G : List Tm} {W : Tm → Prop}
theorem vars(hW:WOk G W)(hG:Wf G): ∀(m x:Nat),G.length<=x+m-> ∀A,lk G x=some A->Ok G W A (.var x):=by
 intro m
 induction m with
 |zero=> intro x hx A hA;have:=lk_lt hA;omega
 |succ m ih=>
  intro x hx A hA;have hlt:=lk_lt hA;have rc:=hA;unfold lk at rc;obtain⟨A0,h1,rfl⟩:=Option.map_eq_some_iff.1 rc;obtain⟨S,i,h2,h3⟩:=hG x A0 h1;have h4:=h2.ren (j48.drop G (x+1));have hf:=h2.fv;rw[List.length_drop] at hf;have hk:=good hW A0 (G.length -(x+1)) G (fun y=> .var (y+(x+1))) Tm.var (S.ren fun i=> i+(x+1)) hf (fun y hy=> by
   have hy2:y+(x+1) < G.length:=by omega
   obtain⟨X,hX⟩: ∃X,lk G (y+(x+1))=some X:=by
    unfold lk;rw[List.getElem?_eq_getElem hy2];exact⟨_,rfl⟩
   refine⟨X,.var hX, ?_⟩;rw[y17,y17];exact ih _ (by omega) X hX) (q26.var G) (by rw[<-q51];exact h4)
  rw[y17,y17,<-q51] at hk;obtain⟨Q,P,g,q⟩:=hk.ty (h3.ren _);exact Ok.of g q ⟨hW.var x,⟨_,.var hA,Cv.rfl' _,q⟩,g.stuck (Ne.var x)⟩
theorem typed(hW:WOk G W)(hG:Wf G){t T:Tm}(h:Ty G t T):Ok G W T t:=by
 have hk:=good hW t G.length G Tm.var Tm.var T h.fv (fun x hx=> by
  obtain⟨X,hX⟩: ∃X,lk G x=some X:=by
   unfold lk;rw[List.getElem?_eq_getElem hx];exact⟨_,rfl⟩
  refine⟨X,.var hX, ?_⟩;rw[y17,y17];exact vars hW hG G.length x (by omega) X hX) (q26.var G) (by rw[y17];exact h)
 rw[y17,y17,y17] at hk;exact hk
theorem typeW(hW:WOk G W)(hG:Wf G){t T:Tm}(h:Ty G t T):W T:=(typed hW hG h).wt
theorem allW(hW:WOk G W)(hG:Wf G): ∀t:Tm,W t:=by
 intro t
 induction t with
 |var n=> exact hW.var n
 |sort n=> exact hW.sort n
 |nat=> exact hW.nat
 |zero=> exact hW.zero
 |succ a i=> exact hW.succ i
 |pi A B i j=> exact hW.pi B i
 |sg A B i j=> exact hW.sg B i
 |lam A t i j=> exact hW.lam t i
 |app f a i j=> exact hW.app i j
 |elim p z s a i j k l=> exact hW.elim i j k l
 |id T a b i j k=> exact hW.id i j k
 |refl a i=> exact hW.refl i fun A h=> typeW hW hG h
 |move p e a i j k=> exact hW.move i j k
 |pair T a b i j k=> exact hW.pair i j k
 |fst a i=> exact hW.fst i
 |snd a i=> exact hW.snd i
theorem q26.ctx{A A':Tm}(G:List Tm)(h:Cv A' A):q26 (A::G) (A'::G) Tm.var:=by
 intro n B hB;cases n with
 |zero=>
  rw[y53] at hB;obtain rfl:=Option.some.inj hB;exact⟨_,.var (y53 _ _),by rw[y17];exact h.ren _⟩
 |succ n=>
  rw[y55] at hB;obtain⟨X,h1,rfl⟩:=Option.map_eq_some_iff.1 hB;exact⟨_,.var (by rw[y55,h1];rfl),by rw[y17];exact Cv.rfl' _⟩
theorem Ty.ctx{G:List Tm}{A A' t B:Tm}(h:Ty (A::G) t B)(k:Cv A' A): ∃B',Ty (A'::G) t B'/\Cv B' B:=by
 have:=h.sub (q26.ctx G k)
 rwa [y17,y17] at this
theorem Ty.ins{G:List Tm}{A t B u X:Tm}(h:Ty (A::G) t B)(hu:Ty G u X)(k:Cv X A): ∃B',Ty G (t.inst u) B'/\Cv B' (B.inst u):=
 h.sub ((q26.var G).cns hu (by rwa [y17]))
theorem q200(p a:Tm):(Tm.pi (.app (wk p) (.var 0)) (.app (p.ren (fun i=> i+2)) (.succ (.var 1)))).inst a= .pi (.app p a) (.app (wk p) (.succ (wk a))):=by
 unfold inst;simp only[Tm.sub,cns,ups];rw[y75,y17,q81]
 congr 2
 show p.sub _=p.ren Nat.succ
 rw[q51]
 rfl
theorem y202(p a u:Tm):(Tm.app (wk p) (.succ (wk a))).inst u= .app p (.succ a):=by
 show Tm.app ((wk p).inst u) (.succ ((wk a).inst u))=_
 rw[q118,q118]
theorem Ty.par{t t':Tm}(h:Par t t'): ∀{G:List Tm} {A:Tm},Ty G t A-> ∃A',Ty G t' A'/\Cv A' A:=by
 induction h with
 |var n=> intro G A k;exact⟨_,k,Cv.rfl' _⟩
 |sort n=> intro G A k;exact⟨_,k,Cv.rfl' _⟩
 |nat=> intro G A k;exact⟨_,k,Cv.rfl' _⟩
 |zero=> intro G A k;exact⟨_,k,Cv.rfl' _⟩
 |pi h1 h2 i1 i2=>
  intro G A k;cases k with
  |pi k1 k2 k3 k4=>
   obtain⟨S1,a1,a2⟩:=i1 k1;obtain⟨S2,b1,b2⟩:=i2 k3;obtain⟨S3,c1,c2⟩:=b1.ctx h1.cv.symm;exact⟨_,.pi a1 (a2.trans k2.cv).to_sort c1 ((c2.trans b2).trans k4.cv).to_sort,Cv.rfl' _⟩
 |sg h1 h2 i1 i2=>
  intro G A k;cases k with
  |sg k1 k2 k3 k4=>
   obtain⟨S1,a1,a2⟩:=i1 k1;obtain⟨S2,b1,b2⟩:=i2 k3;obtain⟨S3,c1,c2⟩:=b1.ctx h1.cv.symm;exact⟨_,.sg a1 (a2.trans k2.cv).to_sort c1 ((c2.trans b2).trans k4.cv).to_sort,Cv.rfl' _⟩
 |lam h1 h2 i1 i2=>
  intro G A k;cases k with
  |lam k1 k2 k3=>
   obtain⟨S1,a1,a2⟩:=i1 k1;obtain⟨S2,b1,b2⟩:=i2 k3;obtain⟨S3,c1,c2⟩:=b1.ctx h1.cv.symm;exact⟨_,.lam a1 (a2.trans k2.cv).to_sort c1,.pi h1.cv.symm (c2.trans b2)⟩
 |app h1 h2 i1 i2=>
  intro G A k;cases k with
  |app k1 k2 k3 k4=>
   obtain⟨F',a1,a2⟩:=i1 k1;obtain⟨X',b1,b2⟩:=i2 k3;obtain⟨C',R',m1,m2,m3⟩:=(a2.trans k2.cv).to_pi;exact⟨_,.app a1 m1 b1 ((b2.trans k4).trans m2.symm),m3.inst h2.cv.symm⟩
 |succ h1 i1=>
  intro G A k;cases k with
  |succ k1 k2=>
   obtain⟨S1,a1,a2⟩:=i1 k1;exact⟨_,.succ a1 (a2.trans k2),Cv.rfl' _⟩
 |elim h1 h2 h3 h4 i1 i2 i3 i4=>
  intro G A k;cases k with
  |elim k1 k2 k3 k4 k5 k6 k7 k8 k9 k10=>
   obtain⟨F',a1,a2⟩:=i1 k1;obtain⟨Z',b1,b2⟩:=i2 k5;obtain⟨S',c1,c2⟩:=i3 k7;obtain⟨A',d1,d2⟩:=i4 k9;obtain⟨C',D',m1,m2,m3⟩:=(a2.trans k2.cv).to_pi;exact⟨_,.elim a1 m1 (m2.trans k3) (m3.trans k4.cv).to_sort b1 ((b2.trans k6).trans (.app h1.cv (Cv.rfl' _))) c1 ((c2.trans k8).trans (Cv.stepTy h1.cv)) d1 (d2.trans k10),.app h1.cv.symm h4.cv.symm⟩
 |id h1 h2 h3 i1 i2 i3=>
  intro G A k;cases k with
  |id k1 k2 k3 k4 k5 k6=>
   obtain⟨S',a1,a2⟩:=i1 k1;obtain⟨X',b1,b2⟩:=i2 k3;obtain⟨Y',c1,c2⟩:=i3 k5;exact⟨_,.id a1 (a2.trans k2.cv).to_sort b1 ((b2.trans k4).trans h1.cv) c1 ((c2.trans k6).trans h1.cv),Cv.rfl' _⟩
 |refl h1 i1=>
  intro G A k;cases k with
  |refl k1=>
   obtain⟨X',a1,a2⟩:=i1 k1;exact⟨_,.refl a1,.id a2 h1.cv.symm h1.cv.symm⟩
 |move h1 h2 h3 i1 i2 i3=>
  intro G A k;cases k with
  |move k1 k2 k3 k4 k5 k6 k7 k8=>
   obtain⟨E',a1,a2⟩:=i2 k1;obtain⟨F',b1,b2⟩:=i1 k3;obtain⟨X',c1,c2⟩:=i3 k7;obtain⟨U,B',C',m1,m2,m3,m4⟩:=(a2.trans k2.cv).to_id;obtain⟨P',D',n1,n2,n3⟩:=(b2.trans k4.cv).to_pi;exact⟨_,.move a1 m1 b1 n1 ((n2.trans k5).trans m2.symm) (n3.trans k6.cv).to_sort c1 ((c2.trans k8).trans (.app h1.cv m3.symm)),.app h1.cv.symm m4⟩
 |pair h1 h2 h3 i1 i2 i3=>
  intro G A k;cases k with
  |pair k1 k2 k3 k4 k5 k6 k7=>
   obtain⟨S',a1,a2⟩:=i1 k1;obtain⟨X',b1,b2⟩:=i2 k4;obtain⟨Y',c1,c2⟩:=i3 k6;obtain⟨C',D',m1,m2,m3⟩:=(h1.cv.symm.trans k3.cv).to_sg;exact⟨_,.pair a1 (a2.trans k2.cv).to_sort m1 b1 ((b2.trans k5).trans m2.symm) c1 ((c2.trans k7).trans (m3.symm.inst h2.cv)),h1.cv.symm⟩
 |fst h1 i1=>
  intro G A k;cases k with
  |fst k1 k2=>
   obtain⟨X',a1,a2⟩:=i1 k1;obtain⟨C',D',m1,m2,m3⟩:=(a2.trans k2.cv).to_sg;exact⟨_,.fst a1 m1,m2⟩
 |snd h1 i1=>
  intro G A k;cases k with
  |snd k1 k2=>
   obtain⟨X',a1,a2⟩:=i1 k1;obtain⟨C',D',m1,m2,m3⟩:=(a2.trans k2.cv).to_sg;exact⟨_,.snd a1 m1,m3.inst (.fst h1.cv.symm)⟩
 |beta h1 h2 i1 i2=>
  intro G A k;cases k with
  |app k1 k2 k3 k4=>
   cases k1 with
   |lam l1 l2 l3=>
    obtain⟨rfl,rfl⟩:=(HR.refl _).pi_det k2;obtain⟨B',a1,a2⟩:=i1 l3;obtain⟨X',b1,b2⟩:=i2 k3;obtain⟨Y,c1,c2⟩:=a1.ins b1 (b2.trans k4);exact⟨Y,c1,c2.trans (a2.inst h2.cv.symm)⟩
 |ez h1 i1=>
  intro G A k;cases k with
  |elim k1 k2 k3 k4 k5 k6 k7 k8 k9 k10=>
   obtain⟨Z',a1,a2⟩:=i1 k5;exact⟨_,a1,a2.trans k6⟩
 | @es p p' z z' s s' a a' h1 h2 h3 h4 i1 i2 i3 i4=>
  intro G A k;cases k with
  |elim k1 k2 k3 k4 k5 k6 k7 k8 k9 k10=>
   cases k9 with
   |succ l1 l2=>
    obtain⟨F',a1,a2⟩:=i1 k1;obtain⟨Z',b1,b2⟩:=i2 k5;obtain⟨S',c1,c2⟩:=i3 k7;obtain⟨N',d1,d2⟩:=i4 l1;obtain⟨C',D',m1,m2,m3⟩:=(a2.trans k2.cv).to_pi;have hE:Ty G (.elim p' z' s' a') (.app p' a'):= .elim a1 m1 (m2.trans k3) (m3.trans k4.cv).to_sort b1 ((b2.trans k6).trans (.app h1.cv (Cv.rfl' _))) c1 ((c2.trans k8).trans (Cv.stepTy h1.cv)) d1 (d2.trans l2);obtain⟨C1,R1,n1,n2,n3⟩:=(c2.trans k8).to_pi;have hA:Ty G (.app s' a') (R1.inst a'):= .app c1 n1 d1 ((d2.trans l2).trans n2.symm);have e1:=n3.inst (Cv.rfl' a');rw[q200] at e1;obtain⟨C2,R2,o1,o2,o3⟩:=e1.to_pi;refine⟨_,.app hA o1 hE ((Cv.app h1.cv.symm (Cv.rfl' _)).trans o2.symm), ?_⟩;have e2:=o3.inst (Cv.rfl' (Tm.elim p' z' s' a'));rw[y202] at e2;exact e2.trans (.app (Cv.rfl' _) (.succ h4.cv.symm))
 |mr h1 i1=>
  intro G A k;cases k with
  |move k1 k2 k3 k4 k5 k6 k7 k8=>
   cases k1 with
   |refl l1=>
    obtain⟨rfl,rfl,rfl⟩:=(HR.refl _).id_det k2;obtain⟨X',a1,a2⟩:=i1 k7;exact⟨_,a1,a2.trans k8⟩
 |fp h1 i1=>
  intro G A k;cases k with
  |fst k1 k2=>
   cases k1 with
   |pair l1 l2 l3 l4 l5 l6 l7=>
    obtain⟨rfl,rfl⟩:=l3.sg_det k2;obtain⟨X',a1,a2⟩:=i1 l4;exact⟨_,a1,a2.trans l5⟩
 | @sp T a b b' h1 i1=>
  intro G A k;cases k with
  |snd k1 k2=>
   cases k1 with
   |pair l1 l2 l3 l4 l5 l6 l7=>
    obtain⟨rfl,rfl⟩:=l3.sg_det k2;obtain⟨X',a1,a2⟩:=i1 l6;exact⟨_,a1,(a2.trans l7).trans ((Cv.rfl' _).inst (HR.one (.fp T a b)).cv.symm)⟩
theorem Ty.red{t t':Tm}(h:Red t t'): ∀{G:List Tm} {A:Tm},Ty G t A-> ∃A',Ty G t' A'/\Cv A' A:=by
 induction h with
 |refl=> intro G A k;exact⟨_,k,Cv.rfl' _⟩
 |step h1 h2 ih=>
  intro G A k;obtain⟨B,k1,k2⟩:=Ty.par h1 k;obtain⟨C,k3,k4⟩:=ih k1;exact⟨C,k3,k4.trans k2⟩
def Lev(G:List Tm)(A:Tm)(k:Nat):Prop:= ∃S,Ty G A S/\HR S (.sort k)
theorem Lev.det{G:List Tm}{A:Tm}{i k:Nat}(h:Lev G A i)(h':Lev G A k):i=k:=by
 obtain⟨S,h1,h2⟩:=h;obtain⟨S',h3,h4⟩:=h';obtain rfl:=h1.det h3;exact h2.sort_det h4
theorem Lev.red{G:List Tm}{A B:Tm}{i:Nat}(h:Lev G A i)(r:Red A B):Lev G B i:=by
 obtain⟨S,h1,h2⟩:=h;obtain⟨S',h3,h4⟩:=Ty.red r h1;exact⟨S',h3,(h4.trans h2.cv).to_sort⟩
theorem Lev.cv{G:List Tm}{A B:Tm}{i k:Nat}(h:Lev G A i)(h':Lev G B k)(e:Cv A B):i=k:=by
 obtain⟨C,e1,e2⟩:=e;exact(h.red e1).det (h'.red e2)
theorem Lev.sub{G D:List Tm}{A:Tm}{i:Nat}{s:Nat->Tm}(h:Lev G A i)(hs:q26 G D s):Lev D (A.sub s) i:=by
 obtain⟨S,h1,h2⟩:=h;obtain⟨S',h3,h4⟩:=h1.sub hs;exact⟨S',h3,(h4.trans (h2.sub s).cv).to_sort⟩
theorem Lev.ren{G D:List Tm}{A:Tm}{i:Nat}{r:Nat->Nat}(h:Lev G A i)(hr:j48 G D r):Lev D (A.ren r) i:=by
 obtain⟨S,h1,h2⟩:=h;exact⟨_,h1.ren hr,h2.ren r⟩
theorem Lev.ctx{G:List Tm}{A A' B:Tm}{i:Nat}(h:Lev (A::G) B i)(k:Cv A' A):Lev (A'::G) B i:=by
 have:=h.sub (q26.ctx G k)
 rwa [y17] at this
theorem Lev.ins{G:List Tm}{A B u X:Tm}{i:Nat}(h:Lev (A::G) B i)(hu:Ty G u X)(k:Cv X A):Lev G (B.inst u) i:=
 h.sub ((q26.var G).cns hu (by rwa [y17]))
theorem Lev.sort(G:List Tm)(n:Nat):Lev G (.sort n) (n+1):=⟨_,.sort,.refl _⟩
theorem Lev.nat(G:List Tm):Lev G .nat 0:=⟨_,.nat,.refl _⟩
theorem Lev.pi_inv{G:List Tm}{C R:Tm}{k:Nat}(h:Lev G (.pi C R) k): ∃i j,Lev G C i/\Lev (C::G) R j/\k=max i j:=by
 obtain⟨S,h1,h2⟩:=h;cases h1 with
 |pi k1 k2 k3 k4=> exact⟨_,_,⟨_,k1,k2⟩,⟨_,k3,k4⟩,(h2.sort_det (.refl _))⟩
theorem Lev.sg_inv{G:List Tm}{C R:Tm}{k:Nat}(h:Lev G (.sg C R) k): ∃i j,Lev G C i/\Lev (C::G) R j/\k=max i j:=by
 obtain⟨S,h1,h2⟩:=h;cases h1 with
 |sg k1 k2 k3 k4=> exact⟨_,_,⟨_,k1,k2⟩,⟨_,k3,k4⟩,(h2.sort_det (.refl _))⟩
theorem Lev.pi{G:List Tm}{C R:Tm}{i j:Nat}(h:Lev G C i)(k:Lev (C::G) R j):Lev G (.pi C R) (max i j):=by
 obtain⟨S,h1,h2⟩:=h;obtain⟨S',h3,h4⟩:=k;exact⟨_,.pi h1 h2 h3 h4,.refl _⟩
theorem Lev.id_inv{G:List Tm}{T a b:Tm}{k:Nat}(h:Lev G (.id T a b) k):Lev G T k/\(∃A,Ty G a A/\Cv A T)/\ ∃B,Ty G b B/\Cv B T:=by
 obtain⟨S,h1,h2⟩:=h;cases h1 with
 |id k1 k2 k3 k4 k5 k6=>
  obtain rfl:=h2.sort_det (.refl _);exact⟨⟨_,k1,k2⟩,⟨_,k3,k4⟩,⟨_,k5,k6⟩⟩
theorem Wf.nil:Wf []:=by
 intro n A h;simp at h
theorem Wf.cons{G:List Tm}{A:Tm}{i:Nat}(hG:Wf G)(h:Lev G A i):Wf (A::G):=by
 intro n B hB;cases n with
 |zero=>
  obtain rfl:A=B:=by simpa using hB
  obtain⟨S,h1,h2⟩:=h;exact⟨S,i,h1,h2⟩
 |succ n=> exact hG n B (by simpa using hB)
theorem Ty.corr{G:List Tm}{t A:Tm}(h:Ty G t A):Wf G-> ∃k,Lev G A k:=by
 induction h with
 | @var G n A h=>
  intro hG;unfold lk at h;obtain⟨B,h1,rfl⟩:=Option.map_eq_some_iff.1 h;obtain⟨S,i,h2,h3⟩:=hG n B h1;exact⟨i,Lev.ren ⟨S,h2,h3⟩ (j48.drop G (n+1))⟩
 |sort=> intro hG;exact⟨_,Lev.sort _ _⟩
 |nat=> intro hG;exact⟨_,Lev.sort _ _⟩
 |zero=> intro hG;exact⟨_,Lev.nat _⟩
 |succ=> intro hG;exact⟨_,Lev.nat _⟩
 |pi=> intro hG;exact⟨_,Lev.sort _ _⟩
 |sg=> intro hG;exact⟨_,Lev.sort _ _⟩
 |lam h1 h2 h3 i1 i2=>
  intro hG;obtain⟨k,hk⟩:=i2 (hG.cons ⟨_,h1,h2⟩);exact⟨_,Lev.pi ⟨_,h1,h2⟩ hk⟩
 |app h1 h2 h3 h4 i1 i2=>
  intro hG;obtain⟨k,hk⟩:=i1 hG;obtain⟨i,j,-,l,-⟩:=(hk.red h2.red).pi_inv;exact⟨j,l.ins h3 h4⟩
 |elim h1 h2 h3 h4 h5 h6 h7 h8 h9 h10=>
  intro hG;exact⟨_,_,.app h1 h2 h9 (h10.trans h3.symm),h4.sub (cns _ Tm.var)⟩
 |id=> intro hG;exact⟨_,Lev.sort _ _⟩
 |refl h i=>
  intro hG;obtain⟨k,S,h1,h2⟩:=i hG;exact⟨_,_,.id h1 h2 h (Cv.rfl' _) h (Cv.rfl' _),.refl _⟩
 |move h1 h2 h3 h4 h5 h6 h7 h8 i1=>
  intro hG;obtain⟨k,hk⟩:=i1 hG;obtain⟨-,-,C,l1,l2⟩:=(hk.red h2.red).id_inv;exact⟨_,_,.app h3 h4 l1 (l2.trans h5.symm),h6.sub (cns _ Tm.var)⟩
 |pair h1 h2=> intro hG;exact⟨_,_,h1,h2⟩
 |fst h1 h2 i1=>
  intro hG;obtain⟨k,hk⟩:=i1 hG;obtain⟨i,j,l,-,-⟩:=(hk.red h2.red).sg_inv;exact⟨_,l⟩
 |snd h1 h2 i1=>
  intro hG;obtain⟨k,hk⟩:=i1 hG;obtain⟨i,j,-,l,-⟩:=(hk.red h2.red).sg_inv;exact⟨_,l.ins (.fst h1 h2) (Cv.rfl' _)⟩
end Go.Proofs.YtbnkbepgmenblaaGreatDoor.M
