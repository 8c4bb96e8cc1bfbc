/-
  Lemmas towards the law, 4: MLim, MEv4, MCanon.
-/
import Derived.Test.YtckhbnmfnpolgaaGreatBAC
set_option linter.unusedVariables false
namespace Go.Proofs.YtckhbnmfnpolgaaGreat.M
open Tm
def M2:List Tm->Tm->Prop
 |_,.var _=> True
 |_,.sort n=> n < 3
 |G,.pi A B=> M2 G A/\M2 (A::G) B
 |G,.lam A t=> M2 G A/\M2 (A::G) t/\ ∀B k,Ty (A::G) t B->W4 (A::G) B k->k<=3
 |G,.app f a=> M2 G f/\M2 G a
 |_,.nat=> True
 |_,.zero=> True
 |G,.succ a=> M2 G a
 |G,.elim p z s a=> M2 G p/\M2 G z/\M2 G s/\M2 G a
 |G,.id T a b=> M2 G T/\M2 G a/\M2 G b
 |G,.refl a=> M2 G a/\ ∀B k,Ty G a B->W4 G B k->k<=3
 |G,.move p e a=> M2 G p/\M2 G e/\M2 G a
 |G,.sg A B=> M2 G A/\M2 (A::G) B
 |G,.pair T a b=> M2 G T/\M2 G a/\M2 G b
 |G,.fst a=> M2 G a
 |G,.snd a=> M2 G a
theorem M2.subG(Z:List Tm->List Tm->(Nat->Tm)->Prop)(B: ∀G D s,Z G D s-> ∀n A,lk G n=some A->M2 D (s n))
 (v: ∀G D s A i,W4 G A i->Ya G D s->Z G D s->Z (A::G) (A.sub s::D) (ups s)) {G:List Tm} {t A:Tm} (h:Ty G t A):
 ∀{D:List Tm} {s:Nat->Tm},Wf G->Ya G D s->Z G D s->M2 G t->M2 D (t.sub s):=by
 induction h with
 |var h=> intro D s hG hs a hl;exact B _ _ _ a _ _ h
 |sort=> intro D s hG hs a hl;exact hl
 |nat=> intro D s hG hs a hl;exact hl
 |zero=> intro D s hG hs a hl;exact hl
 |succ d e b=> intro D s hG hs a hl;exact b hG hs a hl
 |pi d e g l b f=> intro D s hG hs a hl;exact⟨b hG hs a hl.1,f (hG.cons ⟨_,d,e⟩) (hs.up _) (v _ _ _ _ _ ⟨_,d,e⟩ hs a) hl.2⟩
 |sg d e g l b f=> intro D s hG hs a hl;exact⟨b hG hs a hl.1,f (hG.cons ⟨_,d,e⟩) (hs.up _) (v _ _ _ _ _ ⟨_,d,e⟩ hs a) hl.2⟩
 |lam d e g b f=>
  intro D s hG hs a hl;refine⟨b hG hs a hl.1,f (hG.cons ⟨_,d,e⟩) (hs.up _) (v _ _ _ _ _ ⟨_,d,e⟩ hs a) hl.2.1,fun x C p hk=> ?_⟩;obtain⟨k,c⟩:=g.corr (hG.cons ⟨_,d,e⟩);obtain⟨r,m,u⟩:=g.sub (hs.up _);obtain rfl:=m.det p;rw[<-(c.sub (hs.up _)).cv hk u.symm];exact hl.2.2 _ _ g c
 |app d e g l b f=> intro D s hG hs a hl;exact⟨b hG hs a hl.1,f hG hs a hl.2⟩
 |elim d e g l o q w y F z b f j E=> intro D s hG hs a hl;exact⟨b hG hs a hl.1,f hG hs a hl.2.1,j hG hs a hl.2.2.1,E hG hs a hl.2.2.2⟩
 |id d e g l o q b f j=> intro D s hG hs a hl;exact⟨b hG hs a hl.1,f hG hs a hl.2.1,j hG hs a hl.2.2⟩
 |refl g f=>
  intro D s hG hs a hl;refine⟨f hG hs a hl.1,fun x C p hk=> ?_⟩;obtain⟨k,c⟩:=g.corr hG;obtain⟨r,m,u⟩:=g.sub hs;obtain rfl:=m.det p;rw[<-(c.sub hs).cv hk u.symm];exact hl.2 _ _ g c
 |move d e g l o q w y b f j=> intro D s hG hs a hl;exact⟨f hG hs a hl.1,b hG hs a hl.2.1,j hG hs a hl.2.2⟩
 |pair d e g l o q w b f j=> intro D s hG hs a hl;exact⟨b hG hs a hl.1,f hG hs a hl.2.1,j hG hs a hl.2.2⟩
 |fst d e b=> intro D s hG hs a hl;exact b hG hs a hl
 |snd d e b=> intro D s hG hs a hl;exact b hG hs a hl
theorem M2.var'{G:List Tm}{t:Tm}(h: ∃m,t= .var m):M2 G t:=by
 obtain⟨m,rfl⟩:=h;exact trivial
theorem M2.vars{G D:List Tm}{t A:Tm}{s:Nat->Tm}(h:Ty G t A)(hG:Wf G)(hs:Ya G D s)(hv: ∀n,∃m,s n= .var m)(hl:M2 G t):M2 D (t.sub s):=
 M2.subG (fun _ _ s=> ∀n,∃m,s n= .var m) (fun _ _ s a n _ _=> M2.var' (a n)) (fun _ _ s _ _ _ _ a n=> by
  cases n with
  |zero=> exact⟨0,rfl⟩
  |succ n=>
   obtain⟨m,hm⟩:=a n;exact⟨m+1,by show wk (s n)=_;rw[hm];rfl⟩) h hG hs hv hl
theorem M2.ctx{G:List Tm}{A a t B:Tm}(h:Ty (A::G) t B)(hG:Wf (A::G))(e:Cv a A)(hl:M2 (A::G) t):M2 (a::G) t:=by
 have:=M2.vars h hG (Ya.ctx G e) (fun n=>⟨n,rfl⟩) hl
 rwa [Zb] at this
theorem Zd.sub{G D:List Tm}{r:Nat->Nat}(h:Zd G D r):Ya G D (fun n=> .var (r n)):=by
 intro n A hA;exact⟨_,.var (h n A hA),by rw[<-Ki];exact Cv.rfl' _⟩
theorem M2.ren{G D:List Tm}{t A:Tm}{r:Nat->Nat}(h:Ty G t A)(hG:Wf G)(hr:Zd G D r)(hl:M2 G t):M2 D (t.ren r):=by
 rw[Ki];exact M2.vars h hG hr.sub (fun n=>⟨_,rfl⟩) hl
theorem M2.sub{G D:List Tm}{t A:Tm}{s:Nat->Tm}(h:Ty G t A)(hG:Wf G)(d:Wf D)(hs:Ya G D s)(hv: ∀n A,lk G n=some A->M2 D (s n))(hl:M2 G t):M2 D (t.sub s):=
 M2.subG (fun G D s=> Wf D/\ ∀n A,lk G n=some A->M2 D (s n)) (fun _ _ s a=> a.2) (fun G D s A i hi hs a=> by
  refine⟨a.1.cons (hi.sub hs),fun n B c=> ?_⟩;cases n with
  |zero=> exact trivial
  |succ n=>
   rw[j61] at c;obtain⟨X,b,rfl⟩:=Option.map_eq_some_iff.1 c;obtain⟨Y,e,f⟩:=hs n X b;exact M2.ren e a.1 (Zd.wk _ _) (a.2 n X b)) h hG hs ⟨d,hv⟩ hl
theorem M2.ins{G:List Tm}{A t B u X:Tm}(h:Ty (A::G) t B)(hG:Wf (A::G))(a:Wf G)(hl:M2 (A::G) t)(c:Ty G u X)(k:Cv X A)(b:M2 G u):M2 G (t.inst u):=
 M2.sub h hG a ((Ya.var G).cns c (by rwa [Zb])) (fun n B d=> by
  cases n with
  |zero=> exact b
  |succ n=> exact trivial) hl
theorem M2.par{t L:Tm}(h:Par t L): ∀{G:List Tm} {A:Tm},Wf G->Ty G t A->M2 G t->M2 G L:=by
 induction h with
 |var n=> intro G A hG k hl;exact hl
 |sort n=> intro G A hG k hl;exact hl
 |nat=> intro G A hG k hl;exact hl
 |zero=> intro G A hG k hl;exact hl
 |pi e j d i=>
  intro G A hG k hl;cases k with
  |pi b g f l=>
   have m:=hG.cons ⟨_,b,g⟩;obtain⟨M,u,H⟩:=Ty.par j f;exact⟨d hG b hl.1,M2.ctx u m e.cv.symm (i m f hl.2)⟩
 |sg e j d i=>
  intro G A hG k hl;cases k with
  |sg b g f l=>
   have m:=hG.cons ⟨_,b,g⟩;obtain⟨M,u,H⟩:=Ty.par j f;exact⟨d hG b hl.1,M2.ctx u m e.cv.symm (i m f hl.2)⟩
 |lam e j d i=>
  intro G A hG k hl;cases k with
  |lam b g f=>
   have m:=hG.cons ⟨_,b,g⟩;obtain⟨M,u,H⟩:=Ty.par j f;refine⟨d hG b hl.1,M2.ctx u m e.cv.symm (i m f hl.2.1),fun K T F hk=> ?_⟩;obtain⟨k,c⟩:=f.corr m;obtain⟨O,E,D⟩:=u.ctx e.cv.symm;obtain rfl:=E.det F;rw[<-(c.ctx e.cv.symm).cv hk (D.trans H).symm];exact hl.2.2 _ _ f c
 |app e j d i=>
  intro G A hG k hl;cases k with
  |app b g f l=> exact⟨d hG b hl.1,i hG f hl.2⟩
 |succ e d=>
  intro G A hG k hl;cases k with
  |succ b g=> exact d hG b hl
 |elim e j B Q d i q I=>
  intro G A hG k hl;cases k with
  |elim b g f l o r p C z v=> exact⟨d hG b hl.1,i hG o hl.2.1,q hG p hl.2.2.1,I hG z hl.2.2.2⟩
 |id e j B d i q=>
  intro G A hG k hl;cases k with
  |id b g f l o r=> exact⟨d hG b hl.1,i hG f hl.2.1,q hG o hl.2.2⟩
 |refl e d=>
  intro G A hG k hl;cases k with
  |refl b=>
   refine⟨d hG b hl.1,fun K T F hk=> ?_⟩;obtain⟨k,c⟩:=b.corr hG;obtain⟨O,E,D⟩:=Ty.par e b;obtain rfl:=E.det F;rw[<-c.cv hk D.symm];exact hl.2 _ _ b c
 |move e j B d i q=>
  intro G A hG k hl;cases k with
  |move b g f l o r p C=> exact⟨d hG f hl.1,i hG b hl.2.1,q hG p hl.2.2⟩
 |pair e j B d i q=>
  intro G A hG k hl;cases k with
  |pair b g f l o r p=> exact⟨d hG b hl.1,i hG l hl.2.1,q hG r hl.2.2⟩
 |fst e d=>
  intro G A hG k hl;cases k with
  |fst b g=> exact d hG b hl
 |snd e d=>
  intro G A hG k hl;cases k with
  |snd b g=> exact d hG b hl
 |beta e j d i=>
  intro G A hG k hl;cases k with
  |app b g f l=>
   cases b with
   |lam w y x=>
    obtain⟨rfl,rfl⟩:=(HR.refl _).pi_det g;have m:=hG.cons ⟨_,w,y⟩;obtain⟨K,S,X⟩:=Ty.par e x;obtain⟨W,U,V⟩:=Ty.par j f;exact M2.ins S m hG (d m x hl.1.2.1) U (V.trans l) (i hG f hl.2)
 |ez e d=>
  intro G A hG k hl;cases k with
  |elim b g f l o r p C z v=> exact d hG o hl.2.1
 |es e j B Q d i q I=>
  intro G A hG k hl;cases k with
  |elim b g f l o r p C z v=>
   cases z with
   |succ w y=>
    have a:=I hG w hl.2.2.2;have s:=q hG p hl.2.2.1;exact⟨⟨s,a⟩,d hG b hl.1,i hG o hl.2.1,s,a⟩
 |mr e d=>
  intro G A hG k hl;cases k with
  |move b g f l o r p C=> exact d hG p hl.2.2
 |fp e d=>
  intro G A hG k hl;cases k with
  |fst b g=>
   cases b with
   |pair w y x J R N P=> exact d hG J hl.2.1
 |sp e d=>
  intro G A hG k hl;cases k with
  |snd b g=>
   cases b with
   |pair w y x J R N P=> exact d hG N hl.2.2
theorem M2.red{t b:Tm}(h:Red t b): ∀{G:List Tm} {A:Tm},Wf G->Ty G t A->M2 G t->M2 G b:=by
 induction h with
 |refl=> intro G A hG k hl;exact hl
 |step a e ih=>
  intro G A hG k hl;obtain⟨B,c,d⟩:=Ty.par a k;exact ih hG c (M2.par a hG k hl)
def y6(G:List Tm)(B:Tm):Prop:=M2 G B/\ ∃k,k<=3/\W4 G B k
def zc(G:List Tm):Prop:= ∀n A,G[n]? =some A->y6 (G.drop (n+1)) A
theorem zc.wf{G:List Tm}(h:zc G):Wf G:=by
 intro n A hA;obtain⟨-,k,-,S,a,b⟩:=h n A hA;exact⟨S,k,a,b⟩
theorem zc.nil:zc []:=by
 intro n A h;simp at h
theorem zc.cons{G:List Tm}{A:Tm}(hG:zc G)(h:y6 G A):zc (A::G):=by
 intro n B a;cases n with
 |zero=>
  obtain rfl:A=B:=by simpa using a
  exact h
 |succ n=> exact hG n B (by simpa using a)
theorem lev_le{G:List Tm}{S:Tm}{i:Nat}(h:S= .sort 3\/y6 G S)(r:HR S (.sort i)):i<=3:=by
 rcases h with rfl|⟨-,k,hk,l⟩
 · have:=r.sort_det (.refl _) |>.symm
   have:=(HR.refl (Tm.sort 3)).sort_det r;omega
 · have:=(l.red r.red).det (W4.sort G i)
   omega
theorem y6.red{G:List Tm}{A B:Tm}(hG:Wf G)(h:y6 G A)(r:Red A B):y6 G B:=by
 obtain⟨b,k,hk,S,a,c⟩:=h;exact⟨M2.red r hG a b,k,hk,W4.red ⟨S,a,c⟩ r⟩
theorem y6.sort{G:List Tm}{i:Nat}(h:i<=3):Tm.sort i= .sort 3\/y6 G (.sort i):=by
 by_cases e:i=3
 · exact .inl (by rw[e])
 · exact .inr ⟨by show i < 3;omega,i+1,by omega,W4.sort G i⟩
theorem y6.pi_inv{G:List Tm}{C R:Tm}(h:y6 G (.pi C R)):y6 G C/\y6 (C::G) R:=by
 obtain⟨a,k,hk,l⟩:=h;obtain⟨i,j,c,b,rfl⟩:=l.pi_inv;exact⟨⟨a.1,i,by omega,c⟩,a.2,j,by omega,b⟩
theorem y6.sg_inv{G:List Tm}{C R:Tm}(h:y6 G (.sg C R)):y6 G C/\y6 (C::G) R:=by
 obtain⟨a,k,hk,l⟩:=h;obtain⟨i,j,c,b,rfl⟩:=l.sg_inv;exact⟨⟨a.1,i,by omega,c⟩,a.2,j,by omega,b⟩
theorem y6.ins{G:List Tm}{C R u X:Tm}(hG:Wf G)(f:y6 G C)(h:y6 (C::G) R)(a:Ty G u X)(k:Cv X C)(l:M2 G u):y6 G (R.inst u):=by
 obtain⟨-,i,-,e⟩:=f;obtain⟨d,j,c,S,b,g⟩:=h;exact⟨M2.ins b (hG.cons e) hG d a k l,j,c,W4.ins ⟨S,b,g⟩ a k⟩
theorem y6.not3{G:List Tm}{F:Tm}(h:F= .sort 3\/y6 G F){c:Tm}(r:HR F c)(hc:hk c≠0)(a:hk c≠2):y6 G F:=by
 rcases h with rfl|h
 · have:=(HR.refl (Tm.sort 3)).det r (by simp[hk]) hc
   rw[<-this] at a;simp[hk] at a
 · exact h
theorem M2.type{G:List Tm}{t A:Tm}(h:Ty G t A):zc G->M2 G t->A= .sort 3\/y6 G A:=by
 induction h with
 | @var G n A h=>
  intro hG hl;unfold lk at h;obtain⟨B,e,rfl⟩:=Option.map_eq_some_iff.1 h;obtain⟨o,k,hk,S,d,j⟩:=hG n B e;have hd:Wf (G.drop (n+1)):=fun m C x=> by
   rw[List.getElem?_drop] at x;obtain⟨-,J,-,F,g,q⟩:=hG _ C x;rw[List.drop_drop];exact⟨F,J,by rw[show n+1+(m+1)=n+1+m+1 from rfl];exact g,q⟩
  exact .inr ⟨M2.ren d hd (Zd.drop G (n+1)) o,k,hk,W4.ren ⟨S,d,j⟩ (Zd.drop G (n+1))⟩
 | @sort G n=>
  intro hG hl;have:n < 3:=hl;exact y6.sort (by omega)
 |nat=> intro hG hl;exact y6.sort (by omega)
 |zero=> intro hG hl;exact .inr ⟨trivial,0,by omega,W4.nat _⟩
 |succ=> intro hG hl;exact .inr ⟨trivial,0,by omega,W4.nat _⟩
 |pi e d j g f l=>
  intro hG hl;have a:=lev_le (f hG hl.1) d;have b:=lev_le (l (hG.cons ⟨hl.1,_,a,_,e,d⟩) hl.2) g;exact y6.sort (by omega)
 |sg e d j g f l=>
  intro hG hl;have a:=lev_le (f hG hl.1) d;have b:=lev_le (l (hG.cons ⟨hl.1,_,a,_,e,d⟩) hl.2) g;exact y6.sort (by omega)
 |lam e d j f l=>
  intro hG hl;have a:=lev_le (f hG hl.1) d;have w:=hG.cons ⟨hl.1,_,a,_,e,d⟩;obtain⟨k,c⟩:=j.corr w.wf;have hk:=hl.2.2 _ _ j c;rcases l w hl.2.1 with rfl|b
  · have:=c.det (W4.sort _ 3)
    omega
  · exact .inr ⟨⟨hl.1,b.1⟩,_,by omega,W4.pi ⟨_,e,d⟩ c⟩
 |app e d j g f l=>
  intro hG hl;obtain⟨o,p⟩:=((y6.not3 (f hG hl.1) d (by simp[hk]) (by simp[hk])).red hG.wf d.red).pi_inv;exact .inr (y6.ins hG.wf o p j g hl.2)
 |elim e d j g q r v y E s f l u M=>
  intro hG hl;obtain⟨o,p⟩:=((y6.not3 (f hG hl.1) d (by simp[hk]) (by simp[hk])).red hG.wf d.red).pi_inv;obtain⟨-,i,-,K⟩:=o;have b:=lev_le (.inr p) g;exact .inr ⟨⟨hl.1,hl.2.2.2⟩,_,b,_,.app e d E (s.trans j.symm),g.sub (cns _ Tm.var)⟩
 |id e d j g q r f l u=> intro hG hl;exact y6.sort (lev_le (f hG hl.1) d)
 |refl h i=>
  intro hG hl;obtain⟨k,c⟩:=h.corr hG.wf;have hk:=hl.2 _ _ h c;rcases i hG hl.1 with rfl|b
  · have:=c.det (W4.sort _ 3)
    omega
  · obtain⟨S,e,d⟩:=c
    exact .inr ⟨⟨b.1,hl.1,hl.1⟩,k,hk,_,.id e d h (Cv.rfl' _) h (Cv.rfl' _),.refl _⟩
 |move e d j g q r v y f l u=>
  intro hG hl;obtain⟨z,L,-,D⟩:=(y6.not3 (f hG hl.2.1) d (by simp[hk]) (by simp[hk])).red hG.wf d.red;obtain⟨-,-,C,I,H⟩:=D.id_inv;obtain⟨o,p⟩:=((y6.not3 (l hG hl.1) g (by simp[hk]) (by simp[hk])).red hG.wf g.red).pi_inv;have b:=lev_le (.inr p) r;exact .inr ⟨⟨hl.1,z.2.2⟩,_,b,_,.app j g I (H.trans q.symm),r.sub (cns _ Tm.var)⟩
 |pair e d j g q r v f l u=> intro hG hl;exact .inr ⟨hl.1,_,lev_le (f hG hl.1) d,_,e,d⟩
 |fst e d f=>
  intro hG hl;exact .inr ((y6.not3 (f hG hl) d (by simp[hk]) (by simp[hk])).red hG.wf d.red).sg_inv.1
 |snd e d f=>
  intro hG hl;obtain⟨o,p⟩:=((y6.not3 (f hG hl) d (by simp[hk]) (by simp[hk])).red hG.wf d.red).sg_inv;exact .inr (y6.ins hG.wf o p (.fst e d) (Cv.rfl' _) hl)
theorem Pg{v x u:Tm}{n:Nat}(hv:dep v<=1)(a:2<=dep u)(h:Ev n (v.inst x) u):v.inst x=x:=by
 rcases lf hv x with e|e
 · exact e
 · have:=T7 e h
   omega
theorem nw{A b:Tm}:2<=dep (lam A b):=by have:=dep_pos A;simp only[dep];omega
theorem uB{a:Tm}:2<=dep (succ a):=by have:=dep_pos a;simp only[dep];omega
theorem zD{T a b:Tm}:2<=dep (pair T a b):=by have:=dep_pos a;simp only[dep];omega
theorem dm{A b:Tm}:2<=dep (pi A b):=by have:=dep_pos A;simp only[dep];omega
theorem Wp{A b:Tm}:2<=dep (sg A b):=by have:=dep_pos A;simp only[dep];omega
theorem Mk{v x u:Tm}{n k:Nat}(hv:dep v<=1)(hx:dep x<=3)(h:Ev n (v.inst x) u):dep u<=3:=by
 rcases lf hv x with e|e
 · rw[e] at h;exact ev3' hx h
 · have:=T7 e h;omega
theorem Kj{n:Nat}{f A b:Tm}(d:dep f<=3)(h:Ev n f (lam A b)):dep b<=2:=by
 have:=ev3' d h;simp only[dep] at this;omega
theorem BJ: ∀(n:Nat) {b x u:Tm},dep b<=2->dep x<=3->Ev n (b.inst x) u->dep u<=4:=by
 intro n
 induction n using Nat.strongRecOn with
 |_ n ih=>
  intro b x u t hx h;by_cases k:hk (b.inst x)=0
  · cases b <;> simp only[dep] at t <;> first|(simp[Tm.inst,Tm.sub,hk] at k;done) |skip
    case var i=>
     have:=Mk (k:=0) (v:= .var i) (by simp[dep]) hx h;omega
    case app f a=>
     obtain⟨A,d,i,j,c,g,hl⟩:=Ev.app (show Ev n (.app (f.inst x) (a.inst x)) u from h);have hf:=Pg (by omega) nw c;rw[hf] at c;have hd:=Kj hx c;refine ih j hl hd ?_ g;rcases lf (b:=a) (by omega) x with e|e
     · rw[e];exact hx
     · omega
    case elim p z s a=>
     rcases Ev.elim (show Ev n (.elim (p.inst x) (z.inst x) (s.inst x) (a.inst x)) u from h) with⟨i,j,c,g,hl⟩ |⟨m,i,j,c,g,hl⟩
     · have:=Mk (k:=0) (by omega) hx g
       omega
     · have r:=Pg (by omega) uB c
       obtain⟨A,d,B,D,w,-,-⟩:=g.app;obtain⟨A,d,C,y,o,-,-⟩:=w.app;have hs:=Pg (by omega) nw o;rw[r] at c;rw[hs] at o;cases c.det o
    case move p e a=>
     obtain⟨q,i,j,-,g,-⟩:=Ev.move (show Ev n (.move (p.inst x) (e.inst x) (a.inst x)) u from h);have:=Mk (k:=0) (by omega) hx g;omega
    case fst e=>
     obtain⟨T,a,q,i,j,c,g,-⟩:=Ev.fst (show Ev n (.fst (e.inst x)) u from h);have l:=Mk (k:=0) (by omega) hx c;simp only[dep] at l;have:=ev3' (by omega) g;omega
    case snd e=>
     obtain⟨T,a,q,i,j,c,g,-⟩:=Ev.snd (show Ev n (.snd (e.inst x)) u from h);have l:=Mk (k:=0) (by omega) hx c;simp only[dep] at l;have:=ev3' (by omega) g;omega
  · obtain rfl:=h.val k
    have:=dep_inst b x;omega
theorem Nk{p a c u:Tm}{i j k F:Nat}(N:dep p<=3)(J:Ev i (.app p a) (.sort k))(Q:Ev j (.app p c) u)(y:(∃A B,u= .pi A B)\/ ∃A B,u= .sg A B)(hc:Ev F c .zero\/ ∃m,Ev F c (.succ m)):False:=by
 have I:2<=dep u:=by rcases y with⟨A,B,rfl⟩ |⟨A,B,rfl⟩ <;> first|exact dm|exact Wp
 have r: ∀{n:Nat} {w:Tm},Ev n c w->(w= .zero\/ ∃m,w= .succ m):=fun e=> by
  rcases hc with hc|⟨m,hc⟩
  · exact .inl (e.det hc)
  · exact .inr ⟨m,e.det hc⟩
 have M: ∀{n:Nat},Ev n c u->False:=fun e=> by
  rcases r e with h|⟨m,h⟩ <;> rcases y with⟨A,B,rfl⟩ |⟨A,B,rfl⟩ <;> cases h
 obtain⟨A,q,X,U,H,V,-⟩:=J.app;obtain⟨A',q',j1,o,W,l,-⟩:=Q.app;cases H.det W
 have K:=Kj N H;have x: ∀{v:Tm} {n:Nat},dep v<=1->Ev n (v.inst c) u->False:=fun hv e=> by
  have:=Pg hv I e;rw[this] at e;exact M e
 by_cases D:hk (q.inst c)=0
 · cases q <;> simp only[dep] at K <;> first|(simp[Tm.inst,Tm.sub,hk] at D;done) |skip
   case var n=> exact x (v:= .var n) (by simp[dep]) l
   case app f b=>
    obtain⟨A,d,i,j,g,-,-⟩:=Ev.app (show Ev o (.app (f.inst c) (b.inst c)) u from l);have:=Pg (by omega) nw g;rw[this] at g;rcases r g with h|⟨m,h⟩ <;> cases h
   case elim P Z S B=>
    rcases Ev.elim (show Ev o (.elim (P.inst c) (Z.inst c) (S.inst c) (B.inst c)) u from l) with⟨i,j,-,t,-⟩ |⟨m,i,j,-,t,-⟩
    · exact x (by omega) t
    · obtain⟨A,d,U,o,R,-,-⟩:=t.app
      obtain⟨A,d,i3,Y,z,-,-⟩:=R.app;have:=Pg (by omega) nw z;rw[this] at z;rcases r z with h|⟨m,h⟩ <;> cases h
   case move P E B=>
    obtain⟨G,i,j,-,t,-⟩:=Ev.move (show Ev o (.move (P.inst c) (E.inst c) (B.inst c)) u from l);exact x (by omega) t
   case fst E=>
    obtain⟨T,O,G,i,j,g,-,-⟩:=Ev.fst (show Ev o (.fst (E.inst c)) u from l);have:=Pg (by omega) zD g;rw[this] at g;rcases r g with h|⟨m,h⟩ <;> cases h
   case snd E=>
    obtain⟨T,O,G,i,j,g,-,-⟩:=Ev.snd (show Ev o (.snd (E.inst c)) u from l);have:=Pg (by omega) zD g;rw[this] at g;rcases r g with h|⟨m,h⟩ <;> cases h
 · have L:=l.val D
   have lit:q.inst a= .sort k->hk q≠0-> ∃i,q= .sort i:=fun h s=> by
    cases q <;> first|(cases h;done) |exact⟨_,rfl⟩ |(exact absurd rfl s)
   by_cases s:hk q=0
   · cases q <;> first|(simp[hk] at s;done) |(exact absurd rfl D) |skip
     exact x (v:= .var _) (by simp[dep]) l
   · have C:hk (q.inst a)≠0:=by
      cases q <;> first|(exact absurd rfl s) |exact Nat.succ_ne_zero _
     obtain⟨i,rfl⟩:=lit (V.val C).symm s;rcases y with⟨A,B,rfl⟩ |⟨A,B,rfl⟩ <;> cases L
theorem HR.appl{f b:Tm}(h:HR f b)(a:Tm):HR (.app f a) (.app b a):=by
 induction h with
 |refl=> exact .refl _
 |step c _ ih=> exact .step (.app a c) ih
theorem HR.eliml{a b:Tm}(h:HR a b)(p z s:Tm):HR (.elim p z s a) (.elim p z s b):=by
 induction h with
 |refl=> exact .refl _
 |step c _ ih=> exact .step (.elim p z s c) ih
theorem mJ{G:List Tm}{p z s a0:Tm}{k i0:Nat}(hp:dep p<=3)(hz:dep z<=3)(hs:dep s<=3)(hS:Ev i0 (.app p a0) (.sort k)): ∀(n:Nat) {m u:Tm},dep m<=3->(∃S,Ty G (.elim p z s m) S)->Ev n (.elim p z s m) u->dep u<=5:=by
 intro n
 induction n using Nat.strongRecOn with
 |_ n ih=>
  intro m u hm hT h;rcases h.elim with⟨i,j,X,e2,hl⟩ |⟨y,i,j,X,e2,hl⟩
  · have:=ev3' hz e2
    omega
  · have Ez:=ev3' hm X
    simp only[dep] at Ez;obtain⟨A,J,i2,x,f1,l,hl2⟩:=e2.app;obtain⟨A1,b1,i3,j3,g1,g2,-⟩:=f1.app;have hb1:=Kj hs g1;have hd:=dep_inst b1 y;have V:=Kj (by omega) g2;have W:HR (.elim p z s m) (J.inst (.elim p z s y)):=
     (HR.eliml X.hr.1 p z s).trans (.step (.es p z s y) ((HR.appl f1.hr.1 _).trans (.one (.beta A J _))))
    obtain⟨S,hT⟩:=hT;obtain⟨N,r,-⟩:=Ty.red W.red hT;obtain⟨Y,K⟩: ∃Y,Y=Tm.elim p z s y:=⟨_,rfl⟩;have IH: ∀{g:Nat} {w:Tm},g < n->(∃S,Ty G Y S)->Ev g Y w->dep w<=5:=fun L C M=> by
     rw[K] at C M;exact ih _ L (by omega) C M
    have t: ∀{g:Nat} {w:Tm},Ev g Y w-> ∀{F U:Tm},Ty G Y F->HR F U->((∃A B,U= .pi A B)\/ ∃A B,U= .sg A B)->False:=fun L F U C M h4=> by
     rw[K] at L C;have hc:(∃I,Ev I y .zero)\/ ∃I D,Ev I y (.succ D):=by
      rcases L.elim with⟨i,j,b,-,-⟩ |⟨D,i,j,b,-,-⟩
      · exact .inl ⟨_,b⟩
      · exact .inr ⟨_,_,b⟩
     cases C with
     |elim=>
      obtain⟨x,o⟩:=Ev.of M (by rcases h4 with⟨A,B,rfl⟩ |⟨A,B,rfl⟩ <;> simp[hk]);rcases hc with⟨I,hc⟩ |⟨I,D,hc⟩
      · exact Nk hp hS o h4 (.inl hc)
      · exact Nk hp hS o h4 (.inr ⟨D,hc⟩)
    rw[<-K] at l r;have hdY:dep Y<=4:=by rw[K];simp only[dep];omega
    have O: ∀{v:Tm} {g:Nat},dep v<=1->g < n->(∃S,Ty G (v.inst Y) S)->Ev g (v.inst Y) u->dep u<=5:=fun{v g} hv hj ht e=> by
     rcases lf hv Y with q|q
     · rw[q] at e ht;exact IH hj ht e
     · have:=T7 q e;omega
    by_cases iu:hk (J.inst Y)=0
    · cases J <;> simp only[dep] at V <;> first|(simp[Tm.inst,Tm.sub,hk] at iu;done) |skip
      case var i=> exact O (v:= .var i) (by simp[dep]) (by omega) ⟨_,r⟩ l
      case app f c=>
       obtain⟨A,d,b,o,a,-,-⟩:=Ev.app (show Ev x (.app (f.inst Y) (c.inst Y)) u from l);have hf:=Pg (by omega) nw a;cases(show Ty G (.app (f.inst Y) (c.inst Y)) N from r) with
       |app t1 t2 t3 t4=>
        rw[hf] at a t1;exact(t a t1 t2 (.inl ⟨_,_,rfl⟩)).elim
      case elim P Z S1 B=>
       rcases Ev.elim (show Ev x (.elim (P.inst Y) (Z.inst Y) (S1.inst Y) (B.inst Y)) u from l) with⟨b,o,-,H,Y2⟩ |⟨D,b,o,a,H,Y2⟩
       · cases(show Ty G (.elim (P.inst Y) (Z.inst Y) (S1.inst Y) (B.inst Y)) N from r) with
         |elim t1 t2 t3 t4 t5=> exact O (by omega) (by omega) ⟨_,t5⟩ H
       · obtain⟨A,d,q3,q4,r3,-,-⟩:=H.app
         obtain⟨A,d,q5,q6,R,-,-⟩:=r3.app;have hB:=Pg (by omega) uB a;have Q:=Pg (by omega) nw R;rw[hB] at a;rw[Q] at R;cases a.det R
      case move P E B=>
       obtain⟨b',b,o,-,H,Y2⟩:=Ev.move (show Ev x (.move (P.inst Y) (E.inst Y) (B.inst Y)) u from l);cases(show Ty G (.move (P.inst Y) (E.inst Y) (B.inst Y)) N from r) with
       |move t1 t2 t3 t4 t5 t6 t7=> exact O (by omega) (by omega) ⟨_,t7⟩ H
      case fst E=>
       obtain⟨T,a',b',b,o,a,-,-⟩:=Ev.fst (show Ev x (.fst (E.inst Y)) u from l);have hf:=Pg (by omega) zD a;cases(show Ty G (.fst (E.inst Y)) N from r) with
       |fst t1 t2=>
        rw[hf] at a t1;exact(t a t1 t2 (.inr ⟨_,_,rfl⟩)).elim
      case snd E=>
       obtain⟨T,a',b',b,o,a,-,-⟩:=Ev.snd (show Ev x (.snd (E.inst Y)) u from l);have hf:=Pg (by omega) zD a;cases(show Ty G (.snd (E.inst Y)) _ from r) with
       |snd t1 t2=>
        rw[hf] at a t1;exact(t a t1 t2 (.inr ⟨_,_,rfl⟩)).elim
    · obtain rfl:=l.val iu
      have:=dep_inst J Y;omega
theorem ev4t{G:List Tm}{A S u:Tm}{n k:Nat}(d:dep A<=4)(h:Ty G A S)(hS:HR S (.sort k))(e:Ev n A u):dep u<=5:=by
 by_cases m:hk A=0
 · cases A <;> simp only[dep] at d <;> first|(simp[hk] at m;done) |skip
   case var=> exact e.var.elim
   case app f x=>
    obtain⟨A,b,i,j,g,c,-⟩:=e.app;have:=BJ j (Kj (by omega) g) (by omega) c;omega
   case elim p z s a=>
    have o:=h;cases h with
    |elim=>
     obtain⟨r,hS⟩:=Ev.of hS (by simp[hk]);exact mJ (by omega) (by omega) (by omega) hS n (by omega) ⟨_,o⟩ e
   case move p q a=>
    obtain⟨b,i,j,-,c,-⟩:=e.move;have:=ev3' (by omega) c;omega
   case fst q=>
    obtain⟨T,a,b,i,j,g,c,-⟩:=e.fst;have l:=ev3' (by omega) g;simp only[dep] at l;have:=ev3' (by omega) c;omega
   case snd q=>
    obtain⟨T,a,b,i,j,g,c,-⟩:=e.snd;have l:=ev3' (by omega) g;simp only[dep] at l;have:=ev3' (by omega) c;omega
 · obtain rfl:=e.val m
   omega
theorem XC(G:List Tm):Ye G fun _=> True:=by constructor <;> intros <;> trivial
theorem Wn.open{t:Tm}(h:Wn t): ¬fvb 0 t:=by
 induction h with
 |var n=> exact fun k=> Nat.not_lt_zero n k
 |app a _ ih=> exact fun k=> ih k.1
 |elim p z s _ ih=> exact fun k=> ih k.2.2.2
 |move p a _ ih=> exact fun k=> ih k.2.1
 |fst _ ih=> exact fun k=> ih k
 |snd _ ih=> exact fun k=> ih k
theorem Ne.closed{t A:Tm}(h:Ty [] t A)(k:Ne t):False:=by
 obtain⟨n,a,b⟩:=k;obtain⟨d,c,-⟩:=Ty.red a.red h;exact b.open c.fv
theorem closed_sides{e E X l r:Tm}(h:Ty [] e E)(k:HR E (.id X l r)):Cv l r:=by
 obtain⟨Q,P,g,q,gd⟩:=AC (XC []) (by intro n A hA;simp at hA) h;obtain⟨d,f,-,-,-,-,hP⟩:=g.id_inv k;rcases((hP e).1 gd.2.2) with⟨b,-,a,c⟩ |a
 · exact a.symm.trans c
 · exact(Ne.closed h a).elim
