/- Lemmas towards the law. -/
import Derived.Test.YtckhbnmfnpolgaaGreatTAC
set_option linter.all false
namespace Go.Proofs.YtckhbnmfnpolgaaGreat.M
open Tm
def j2:List Tm->Tm->Prop
 |_,.var _=> True
 |_,.sort n=> n < 3
 |G,.pi A B=> j2 G A/\j2 (A::G) B
 |G,.lam A t=> j2 G A/\j2 (A::G) t/\ ∀B k,Ty (A::G) t B->O5 (A::G) B k->k<=3
 |G,.app f a=> j2 G f/\j2 G a
 |_,.nat=> True
 |_,.zero=> True
 |G,.succ a=> j2 G a
 |G,.elim p z s a=> j2 G p/\j2 G z/\j2 G s/\j2 G a
 |G,.id T a b=> j2 G T/\j2 G a/\j2 G b
 |G,.refl a=> j2 G a/\ ∀B k,Ty G a B->O5 G B k->k<=3
 |G,.move p e a=> j2 G p/\j2 G e/\j2 G a
 |G,.sg A B=> j2 G A/\j2 (A::G) B
 |G,.pair T a b=> j2 G T/\j2 G a/\j2 G b
 |G,.fst a=> j2 G a
 |G,.snd a=> j2 G a
theorem j2.subG(Z:List Tm->List Tm->(Nat->Tm)->Prop)(y: ∀G D s,Z G D s-> ∀n A,lk G n=some A->j2 D (s n))
 (q: ∀G D s A i,O5 G A i->Vb G D s->Z G D s->Z (A::G) (A.sub s::D) (ups s)) {G:List Tm} {t A:Tm} (h:Ty G t A):
 ∀{D:List Tm} {s:Nat->Tm},Wf G->Vb G D s->Z G D s->j2 G t->j2 D (t.sub s):=by
 induction h with
 |var h=> intro D s hG hs a hl;exact y _ _ _ a _ _ h
 |sort=> intro D s hG hs a hl;exact hl
 |nat=> intro D s hG hs a hl;exact hl
 |zero=> intro D s hG hs a hl;exact hl
 |succ f e b=> intro D s hG hs a hl;exact b hG hs a hl
 |pi f e g l b d=> intro D s hG hs a hl;exact⟨b hG hs a hl.1,d (hG.cons ⟨_,f,e⟩) (hs.up _) (q _ _ _ _ _ ⟨_,f,e⟩ hs a) hl.2⟩
 |sg f e g l b d=> intro D s hG hs a hl;exact⟨b hG hs a hl.1,d (hG.cons ⟨_,f,e⟩) (hs.up _) (q _ _ _ _ _ ⟨_,f,e⟩ hs a) hl.2⟩
 |lam f e g b d=>
  intro D s hG hs a hl;refine⟨b hG hs a hl.1,d (hG.cons ⟨_,f,e⟩) (hs.up _) (q _ _ _ _ _ ⟨_,f,e⟩ hs a) hl.2.1,fun C z v hk=> ?_⟩;obtain⟨k,c⟩:=g.corr (hG.cons ⟨_,f,e⟩);obtain⟨p,m,r⟩:=g.sub (hs.up _);obtain rfl:=m.det v;rw[<-(c.sub (hs.up _)).cv hk r.symm];exact hl.2.2 _ _ g c
 |app f e g l b d=> intro D s hG hs a hl;exact⟨b hG hs a hl.1,d hG hs a hl.2⟩
 |elim f e g l o u w h8 E x b d j B=> intro D s hG hs a hl;exact⟨b hG hs a hl.1,d hG hs a hl.2.1,j hG hs a hl.2.2.1,B hG hs a hl.2.2.2⟩
 |id f e g l o u b d j=> intro D s hG hs a hl;exact⟨b hG hs a hl.1,d hG hs a hl.2.1,j hG hs a hl.2.2⟩
 |refl g d=>
  intro D s hG hs a hl;refine⟨d hG hs a hl.1,fun C z v hk=> ?_⟩;obtain⟨k,c⟩:=g.corr hG;obtain⟨p,m,r⟩:=g.sub hs;obtain rfl:=m.det v;rw[<-(c.sub hs).cv hk r.symm];exact hl.2 _ _ g c
 |move f e g l o u w h8 b d j=> intro D s hG hs a hl;exact⟨d hG hs a hl.1,b hG hs a hl.2.1,j hG hs a hl.2.2⟩
 |pair f e g l o u w b d j=> intro D s hG hs a hl;exact⟨b hG hs a hl.1,d hG hs a hl.2.1,j hG hs a hl.2.2⟩
 |fst f e b=> intro D s hG hs a hl;exact b hG hs a hl
 |snd f e b=> intro D s hG hs a hl;exact b hG hs a hl
theorem j2.var'{G:List Tm}{t:Tm}(h: ∃m,t= .var m):j2 G t:=by
 obtain⟨m,rfl⟩:=h;exact trivial
theorem j2.vars{G D:List Tm}{t A:Tm}{s:Nat->Tm}(h:Ty G t A)(hG:Wf G)(hs:Vb G D s)(hv: ∀n,∃m,s n= .var m)(hl:j2 G t):j2 D (t.sub s):=
 j2.subG (fun _ _ s=> ∀n,∃m,s n= .var m) (fun _ _ s a n _ _=> j2.var' (a n)) (fun _ _ s _ _ _ _ a n=> by
  cases n with
  |zero=> exact⟨0,rfl⟩
  |succ n=>
   obtain⟨m,hm⟩:=a n;exact⟨m+1,by show wk (s n)=_;rw[hm];rfl⟩) h hG hs hv hl
theorem j2.ctx{G:List Tm}{A a t B:Tm}(h:Ty (A::G) t B)(hG:Wf (A::G))(e:Cv a A)(hl:j2 (A::G) t):j2 (a::G) t:=by
 have:=j2.vars h hG (Vb.ctx G e) (fun n=>⟨n,rfl⟩) hl
 rwa [Xc] at this
theorem RenOk.sub{G D:List Tm}{r:Nat->Nat}(h:RenOk G D r):Vb G D (fun n=> .var (r n)):=by
 intro n A hA;exact⟨_,.var (h n A hA),by rw[<-dm];exact Cv.rfl' _⟩
theorem j2.ren{G D:List Tm}{t A:Tm}{r:Nat->Nat}(h:Ty G t A)(hG:Wf G)(hr:RenOk G D r)(hl:j2 G t):j2 D (t.ren r):=by
 rw[dm];exact j2.vars h hG hr.sub (fun n=>⟨_,rfl⟩) hl
theorem j2.sub{G D:List Tm}{t A:Tm}{s:Nat->Tm}(h:Ty G t A)(hG:Wf G)(d:Wf D)(hs:Vb G D s)(hv: ∀n A,lk G n=some A->j2 D (s n))(hl:j2 G t):j2 D (t.sub s):=
 j2.subG (fun G D s=> Wf D/\ ∀n A,lk G n=some A->j2 D (s n)) (fun _ _ s a=> a.2) (fun G D s A i hi hs a=> by
  refine⟨a.1.cons (hi.sub hs),fun n B c=> ?_⟩;cases n with
  |zero=> exact trivial
  |succ n=>
   rw[q63] at c;obtain⟨X,b,rfl⟩:=Option.map_eq_some_iff.1 c;obtain⟨Y,e,f⟩:=hs n X b;exact j2.ren e a.1 (RenOk.wk _ _) (a.2 n X b)) h hG hs ⟨d,hv⟩ hl
theorem j2.ins{G:List Tm}{A t B u X:Tm}(h:Ty (A::G) t B)(hG:Wf (A::G))(a:Wf G)(hl:j2 (A::G) t)(c:Ty G u X)(k:Cv X A)(b:j2 G u):j2 G (t.inst u):=
 j2.sub h hG a ((Vb.var G).cns c (by rwa [Xc])) (fun n B d=> by
  cases n with
  |zero=> exact b
  |succ n=> exact trivial) hl
theorem j2.par{t L:Tm}(h:Par t L): ∀{G:List Tm} {A:Tm},Wf G->Ty G t A->j2 G t->j2 G L:=by
 induction h with
 |var n=> intro G A hG k hl;exact hl
 |sort n=> intro G A hG k hl;exact hl
 |nat=> intro G A hG k hl;exact hl
 |zero=> intro G A hG k hl;exact hl
 |pi f j d i=>
  intro G A hG k hl;cases k with
  |pi b g e m=>
   have l:=hG.cons ⟨_,b,g⟩;obtain⟨M,u,H⟩:=Ty.par j e;exact⟨d hG b hl.1,j2.ctx u l f.cv.symm (i l e hl.2)⟩
 |sg f j d i=>
  intro G A hG k hl;cases k with
  |sg b g e m=>
   have l:=hG.cons ⟨_,b,g⟩;obtain⟨M,u,H⟩:=Ty.par j e;exact⟨d hG b hl.1,j2.ctx u l f.cv.symm (i l e hl.2)⟩
 |lam f j d i=>
  intro G A hG k hl;cases k with
  |lam b g e=>
   have l:=hG.cons ⟨_,b,g⟩;obtain⟨M,u,H⟩:=Ty.par j e;refine⟨d hG b hl.1,j2.ctx u l f.cv.symm (i l e hl.2.1),fun N S I hk=> ?_⟩;obtain⟨k,c⟩:=e.corr l;obtain⟨U,F,D⟩:=u.ctx f.cv.symm;obtain rfl:=F.det I;rw[<-(c.ctx f.cv.symm).cv hk (D.trans H).symm];exact hl.2.2 _ _ e c
 |app f j d i=>
  intro G A hG k hl;cases k with
  |app b g e m=> exact⟨d hG b hl.1,i hG e hl.2⟩
 |succ f d=>
  intro G A hG k hl;cases k with
  |succ b g=> exact d hG b hl
 |elim f j x P d i p E=>
  intro G A hG k hl;cases k with
  |elim b g e m o r q C z v=> exact⟨d hG b hl.1,i hG o hl.2.1,p hG q hl.2.2.1,E hG z hl.2.2.2⟩
 |id f j x d i p=>
  intro G A hG k hl;cases k with
  |id b g e m o r=> exact⟨d hG b hl.1,i hG e hl.2.1,p hG o hl.2.2⟩
 |refl f d=>
  intro G A hG k hl;cases k with
  |refl b=>
   refine⟨d hG b hl.1,fun N S I hk=> ?_⟩;obtain⟨k,c⟩:=b.corr hG;obtain⟨U,F,D⟩:=Ty.par f b;obtain rfl:=F.det I;rw[<-c.cv hk D.symm];exact hl.2 _ _ b c
 |move f j x d i p=>
  intro G A hG k hl;cases k with
  |move b g e m o r q C=> exact⟨d hG e hl.1,i hG b hl.2.1,p hG q hl.2.2⟩
 |pair f j x d i p=>
  intro G A hG k hl;cases k with
  |pair b g e m o r q=> exact⟨d hG b hl.1,i hG m hl.2.1,p hG r hl.2.2⟩
 |fst f d=>
  intro G A hG k hl;cases k with
  |fst b g=> exact d hG b hl
 |snd f d=>
  intro G A hG k hl;cases k with
  |snd b g=> exact d hG b hl
 |beta f j d i=>
  intro G A hG k hl;cases k with
  |app b g e m=>
   cases b with
   |lam w B y=>
    obtain⟨rfl,rfl⟩:=(HR.refl _).pi_det g;have l:=hG.cons ⟨_,w,B⟩;obtain⟨N,V,X⟩:=Ty.par f y;obtain⟨W,O,R⟩:=Ty.par j e;exact j2.ins V l hG (d l y hl.1.2.1) O (R.trans m) (i hG e hl.2)
 |ez f d=>
  intro G A hG k hl;cases k with
  |elim b g e m o r q C z v=> exact d hG o hl.2.1
 |es f j x P d i p E=>
  intro G A hG k hl;cases k with
  |elim b g e m o r q C z v=>
   cases z with
   |succ w B=>
    have a:=E hG w hl.2.2.2;have s:=p hG q hl.2.2.1;exact⟨⟨s,a⟩,d hG b hl.1,i hG o hl.2.1,s,a⟩
 |mr f d=>
  intro G A hG k hl;cases k with
  |move b g e m o r q C=> exact d hG q hl.2.2
 |fp f d=>
  intro G A hG k hl;cases k with
  |fst b g=>
   cases b with
   |pair w B y J T K Q=> exact d hG J hl.2.1
 |sp f d=>
  intro G A hG k hl;cases k with
  |snd b g=>
   cases b with
   |pair w B y J T K Q=> exact d hG K hl.2.2
theorem j2.red{t a:Tm}(h:Red t a): ∀{G:List Tm} {A:Tm},Wf G->Ty G t A->j2 G t->j2 G a:=by
 induction h with
 |refl=> intro G A hG k hl;exact hl
 |step b d ih=>
  intro G A hG k hl;obtain⟨B,c,e⟩:=Ty.par b k;exact ih hG c (j2.par b hG k hl)
def a7(G:List Tm)(B:Tm):Prop:=j2 G B/\ ∃k,k<=3/\O5 G B k
def rc(G:List Tm):Prop:= ∀n A,G[n]? =some A->a7 (G.drop (n+1)) A
theorem rc.wf{G:List Tm}(h:rc G):Wf G:=by
 intro n A hA;obtain⟨-,k,-,S,b,a⟩:=h n A hA;exact⟨S,k,b,a⟩
theorem rc.nil:rc []:=by
 intro n A h;simp at h
theorem rc.cons{G:List Tm}{A:Tm}(hG:rc G)(h:a7 G A):rc (A::G):=by
 intro n B a;cases n with
 |zero=>
  obtain rfl:A=B:=by simpa using a
  exact h
 |succ n=> exact hG n B (by simpa using a)
theorem lev_le{G:List Tm}{S:Tm}{i:Nat}(h:S= .sort 3\/a7 G S)(r:HR S (.sort i)):i<=3:=by
 rcases h with rfl|⟨-,k,hk,l⟩
 · have:=r.sort_det (.refl _) |>.symm
   have:=(HR.refl (Tm.sort 3)).sort_det r;omega
 · have:=(l.red r.red).det (O5.sort G i)
   omega
theorem a7.red{G:List Tm}{A B:Tm}(hG:Wf G)(h:a7 G A)(r:Red A B):a7 G B:=by
 obtain⟨c,k,hk,S,a,b⟩:=h;exact⟨j2.red r hG a c,k,hk,O5.red ⟨S,a,b⟩ r⟩
theorem a7.sort{G:List Tm}{i:Nat}(h:i<=3):Tm.sort i= .sort 3\/a7 G (.sort i):=by
 by_cases e:i=3
 · exact .inl (by rw[e])
 · exact .inr ⟨by show i < 3;omega,i+1,by omega,O5.sort G i⟩
theorem a7.pi_inv{G:List Tm}{C R:Tm}(h:a7 G (.pi C R)):a7 G C/\a7 (C::G) R:=by
 obtain⟨a,k,hk,l⟩:=h;obtain⟨i,j,c,b,rfl⟩:=l.pi_inv;exact⟨⟨a.1,i,by omega,c⟩,a.2,j,by omega,b⟩
theorem a7.sg_inv{G:List Tm}{C R:Tm}(h:a7 G (.sg C R)):a7 G C/\a7 (C::G) R:=by
 obtain⟨a,k,hk,l⟩:=h;obtain⟨i,j,c,b,rfl⟩:=l.sg_inv;exact⟨⟨a.1,i,by omega,c⟩,a.2,j,by omega,b⟩
theorem a7.ins{G:List Tm}{C R u X:Tm}(hG:Wf G)(d:a7 G C)(h:a7 (C::G) R)(a:Ty G u X)(k:Cv X C)(g:j2 G u):a7 G (R.inst u):=by
 obtain⟨-,i,-,f⟩:=d;obtain⟨l,j,e,S,b,c⟩:=h;exact⟨j2.ins b (hG.cons f) hG l a k g,j,e,O5.ins ⟨S,b,c⟩ a k⟩
theorem a7.not3{G:List Tm}{F:Tm}(h:F= .sort 3\/a7 G F){c:Tm}(r:HR F c)(hc:hk c≠0)(a:hk c≠2):a7 G F:=by
 rcases h with rfl|h
 · have:=(HR.refl (Tm.sort 3)).det r (by simp[hk]) hc
   rw[<-this] at a;simp[hk] at a
 · exact h
theorem j2.type{G:List Tm}{t A:Tm}(h:Ty G t A):rc G->j2 G t->A= .sort 3\/a7 G A:=by
 induction h with
 | @var G n A h=>
  intro hG hl;unfold lk at h;obtain⟨B,e,rfl⟩:=Option.map_eq_some_iff.1 h;obtain⟨o,k,hk,S,d,j⟩:=hG n B e;have hd:Wf (G.drop (n+1)):=fun m C v=> by
   rw[List.getElem?_drop] at v;obtain⟨-,F,-,I,g,q⟩:=hG _ C v;rw[List.drop_drop];exact⟨I,F,by rw[show n+1+(m+1)=n+1+m+1 from rfl];exact g,q⟩
  exact .inr ⟨j2.ren d hd (RenOk.drop G (n+1)) o,k,hk,O5.ren ⟨S,d,j⟩ (RenOk.drop G (n+1))⟩
 | @sort G n=>
  intro hG hl;have:n < 3:=hl;exact a7.sort (by omega)
 |nat=> intro hG hl;exact a7.sort (by omega)
 |zero=> intro hG hl;exact .inr ⟨trivial,0,by omega,O5.nat _⟩
 |succ=> intro hG hl;exact .inr ⟨trivial,0,by omega,O5.nat _⟩
 |pi e d j g f l=>
  intro hG hl;have a:=lev_le (f hG hl.1) d;have b:=lev_le (l (hG.cons ⟨hl.1,_,a,_,e,d⟩) hl.2) g;exact a7.sort (by omega)
 |sg e d j g f l=>
  intro hG hl;have a:=lev_le (f hG hl.1) d;have b:=lev_le (l (hG.cons ⟨hl.1,_,a,_,e,d⟩) hl.2) g;exact a7.sort (by omega)
 |lam e d j f l=>
  intro hG hl;have a:=lev_le (f hG hl.1) d;have w:=hG.cons ⟨hl.1,_,a,_,e,d⟩;obtain⟨k,c⟩:=j.corr w.wf;have hk:=hl.2.2 _ _ j c;rcases l w hl.2.1 with rfl|b
  · have:=c.det (O5.sort _ 3)
    omega
  · exact .inr ⟨⟨hl.1,b.1⟩,_,by omega,O5.pi ⟨_,e,d⟩ c⟩
 |app e d j g f l=>
  intro hG hl;obtain⟨o,p⟩:=((a7.not3 (f hG hl.1) d (by simp[hk]) (by simp[hk])).red hG.wf d.red).pi_inv;exact .inr (a7.ins hG.wf o p j g hl.2)
 |elim e d j g q r x h8 y s f l u L=>
  intro hG hl;obtain⟨o,p⟩:=((a7.not3 (f hG hl.1) d (by simp[hk]) (by simp[hk])).red hG.wf d.red).pi_inv;obtain⟨-,i,-,J⟩:=o;have b:=lev_le (.inr p) g;exact .inr ⟨⟨hl.1,hl.2.2.2⟩,_,b,_,.app e d y (s.trans j.symm),g.sub (cns _ Tm.var)⟩
 |id e d j g q r f l u=> intro hG hl;exact a7.sort (lev_le (f hG hl.1) d)
 |refl h i=>
  intro hG hl;obtain⟨k,c⟩:=h.corr hG.wf;have hk:=hl.2 _ _ h c;rcases i hG hl.1 with rfl|b
  · have:=c.det (O5.sort _ 3)
    omega
  · obtain⟨S,e,d⟩:=c
    exact .inr ⟨⟨b.1,hl.1,hl.1⟩,k,hk,_,.id e d h (Cv.rfl' _) h (Cv.rfl' _),.refl _⟩
 |move e d j g q r x h8 f l u=>
  intro hG hl;obtain⟨E,K,-,z⟩:=(a7.not3 (f hG hl.2.1) d (by simp[hk]) (by simp[hk])).red hG.wf d.red;obtain⟨-,-,C,D,H⟩:=z.id_inv;obtain⟨o,p⟩:=((a7.not3 (l hG hl.1) g (by simp[hk]) (by simp[hk])).red hG.wf g.red).pi_inv;have b:=lev_le (.inr p) r;exact .inr ⟨⟨hl.1,E.2.2⟩,_,b,_,.app j g D (H.trans q.symm),r.sub (cns _ Tm.var)⟩
 |pair e d j g q r x f l u=> intro hG hl;exact .inr ⟨hl.1,_,lev_le (f hG hl.1) d,_,e,d⟩
 |fst e d f=>
  intro hG hl;exact .inr ((a7.not3 (f hG hl) d (by simp[hk]) (by simp[hk])).red hG.wf d.red).sg_inv.1
 |snd e d f=>
  intro hG hl;obtain⟨o,p⟩:=((a7.not3 (f hG hl) d (by simp[hk]) (by simp[hk])).red hG.wf d.red).sg_inv;exact .inr (a7.ins hG.wf o p (.fst e d) (Cv.rfl' _) hl)
theorem Si{v x u:Tm}{n:Nat}(hv:dep v<=1)(a:2<=dep u)(h:Ev n (v.inst x) u):v.inst x=x:=by
 rcases Ng hv x with e|e
 · exact e
 · have:=v8 e h
   omega
theorem Tz{A b:Tm}:2<=dep (lam A b):=by have:=dep_pos A;simp only[dep];omega
theorem TC{a:Tm}:2<=dep (succ a):=by have:=dep_pos a;simp only[dep];omega
theorem OF{T a b:Tm}:2<=dep (pair T a b):=by have:=dep_pos a;simp only[dep];omega
theorem Pp{A b:Tm}:2<=dep (pi A b):=by have:=dep_pos A;simp only[dep];omega
theorem jl{v x u:Tm}{n k:Nat}(hv:dep v<=1)(hx:dep x<=3)(h:Ev n (v.inst x) u):dep u<=3:=by
 rcases Ng hv x with e|e
 · rw[e] at h;exact ev3' hx h
 · have:=v8 e h;omega
theorem nl{n:Nat}{f A b:Tm}(d:dep f<=3)(h:Ev n f (lam A b)):dep b<=2:=by
 have:=ev3' d h;simp only[dep] at this;omega
theorem xL: ∀(n:Nat) {b x u:Tm},dep b<=2->dep x<=3->Ev n (b.inst x) u->dep u<=4:=by
 intro n
 induction n using Nat.strongRecOn with
 |_ n ih=>
  intro b x u w hx h;by_cases k:hk (b.inst x)=0
  · cases b <;> simp only[dep] at w <;> first|(simp[Tm.inst,Tm.sub,hk] at k;done) |skip
    case var i=>
     have:=jl (k:=0) (v:= .var i) (by simp[dep]) hx h;omega
    case app f a=>
     obtain⟨A,d,i,j,c,g,hl⟩:=Ev.app (show Ev n (.app (f.inst x) (a.inst x)) u from h);have hf:=Si (by omega) Tz c;rw[hf] at c;have hd:=nl hx c;refine ih j hl hd ?_ g;rcases Ng (b:=a) (by omega) x with e|e
     · rw[e];exact hx
     · omega
    case elim p z s a=>
     rcases Ev.elim (show Ev n (.elim (p.inst x) (z.inst x) (s.inst x) (a.inst x)) u from h) with⟨i,j,c,g,hl⟩ |⟨m,i,j,c,g,hl⟩
     · have:=jl (k:=0) (by omega) hx g
       omega
     · have t:=Si (by omega) TC c
       obtain⟨A,d,D,B,r,-,-⟩:=g.app;obtain⟨A,d,y,C,l,-,-⟩:=r.app;have hs:=Si (by omega) Tz l;rw[t] at c;rw[hs] at l;cases c.det l
    case move p e a=>
     obtain⟨q,i,j,-,g,-⟩:=Ev.move (show Ev n (.move (p.inst x) (e.inst x) (a.inst x)) u from h);have:=jl (k:=0) (by omega) hx g;omega
    case fst e=>
     obtain⟨T,a,q,i,j,c,g,-⟩:=Ev.fst (show Ev n (.fst (e.inst x)) u from h);have o:=jl (k:=0) (by omega) hx c;simp only[dep] at o;have:=ev3' (by omega) g;omega
    case snd e=>
     obtain⟨T,a,q,i,j,c,g,-⟩:=Ev.snd (show Ev n (.snd (e.inst x)) u from h);have o:=jl (k:=0) (by omega) hx c;simp only[dep] at o;have:=ev3' (by omega) g;omega
  · obtain rfl:=h.val k
    have:=dep_inst b x;omega
theorem Rj{p a c u:Tm}{i j k F:Nat}(M:dep p<=3)(W:Ev i (.app p a) (.sort k))(U:Ev j (.app p c) u)(y:(∃A B,u= .pi A B)\/ ∃A B,u= .sg A B)(hc:Ev F c .zero\/ ∃m,Ev F c (.succ m)):False:=by
 have I:2<=dep u:=by rcases y with⟨A,B,rfl⟩ |⟨A,B,rfl⟩ <;> first|exact Pp|exact dep_sg2
 have r: ∀{n:Nat} {w:Tm},Ev n c w->(w= .zero\/ ∃m,w= .succ m):=fun e=> by
  rcases hc with hc|⟨m,hc⟩
  · exact .inl (e.det hc)
  · exact .inr ⟨m,e.det hc⟩
 have V: ∀{n:Nat},Ev n c u->False:=fun e=> by
  rcases r e with h|⟨m,h⟩ <;> rcases y with⟨A,B,rfl⟩ |⟨A,B,rfl⟩ <;> cases h
 obtain⟨A,q,X,N,H,O,-⟩:=W.app;obtain⟨A',q',j1,o,L,l,-⟩:=U.app;cases H.det L
 have Q:=nl M H;have x: ∀{v:Tm} {n:Nat},dep v<=1->Ev n (v.inst c) u->False:=fun hv e=> by
  have:=Si hv I e;rw[this] at e;exact V e
 by_cases D:hk (q.inst c)=0
 · cases q <;> simp only[dep] at Q <;> first|(simp[Tm.inst,Tm.sub,hk] at D;done) |skip
   case var n=> exact x (v:= .var n) (by simp[dep]) l
   case app f b=>
    obtain⟨A,d,i,j,g,-,-⟩:=Ev.app (show Ev o (.app (f.inst c) (b.inst c)) u from l);have:=Si (by omega) Tz g;rw[this] at g;rcases r g with h|⟨m,h⟩ <;> cases h
   case elim P Z S B=>
    rcases Ev.elim (show Ev o (.elim (P.inst c) (Z.inst c) (S.inst c) (B.inst c)) u from l) with⟨i,j,-,s,-⟩ |⟨m,i,j,-,s,-⟩
    · exact x (by omega) s
    · obtain⟨A,d,N,o,K,-,-⟩:=s.app
      obtain⟨A,d,Y,j3,z,-,-⟩:=K.app;have:=Si (by omega) Tz z;rw[this] at z;rcases r z with h|⟨m,h⟩ <;> cases h
   case move P E B=>
    obtain⟨G,i,j,-,s,-⟩:=Ev.move (show Ev o (.move (P.inst c) (E.inst c) (B.inst c)) u from l);exact x (by omega) s
   case fst E=>
    obtain⟨T,R,G,i,j,g,-,-⟩:=Ev.fst (show Ev o (.fst (E.inst c)) u from l);have:=Si (by omega) OF g;rw[this] at g;rcases r g with h|⟨m,h⟩ <;> cases h
   case snd E=>
    obtain⟨T,R,G,i,j,g,-,-⟩:=Ev.snd (show Ev o (.snd (E.inst c)) u from l);have:=Si (by omega) OF g;rw[this] at g;rcases r g with h|⟨m,h⟩ <;> cases h
 · have J:=l.val D
   have lit:q.inst a= .sort k->hk q≠0-> ∃i,q= .sort i:=fun h t=> by
    cases q <;> first|(cases h;done) |exact⟨_,rfl⟩ |(exact absurd rfl t)
   by_cases t:hk q=0
   · cases q <;> first|(simp[hk] at t;done) |(exact absurd rfl D) |skip
     exact x (v:= .var _) (by simp[dep]) l
   · have C:hk (q.inst a)≠0:=by
      cases q <;> first|(exact absurd rfl t) |exact Nat.succ_ne_zero _
     obtain⟨i,rfl⟩:=lit (O.val C).symm t;rcases y with⟨A,B,rfl⟩ |⟨A,B,rfl⟩ <;> cases J
theorem HR.appl{f b:Tm}(h:HR f b)(a:Tm):HR (.app f a) (.app b a):=by
 induction h with
 |refl=> exact .refl _
 |step c _ ih=> exact .step (.app a c) ih
theorem HR.eliml{a b:Tm}(h:HR a b)(p z s:Tm):HR (.elim p z s a) (.elim p z s b):=by
 induction h with
 |refl=> exact .refl _
 |step c _ ih=> exact .step (.elim p z s c) ih
theorem JL{G:List Tm}{p z s a0:Tm}{k i0:Nat}(hp:dep p<=3)(hz:dep z<=3)(hs:dep s<=3)(hS:Ev i0 (.app p a0) (.sort k)): ∀(n:Nat) {m u:Tm},dep m<=3->(∃S,Ty G (.elim p z s m) S)->Ev n (.elim p z s m) u->dep u<=5:=by
 intro n
 induction n using Nat.strongRecOn with
 |_ n ih=>
  intro m u hm hT h;rcases h.elim with⟨i,j,R,X,hl⟩ |⟨y,i,j,R,X,hl⟩
  · have:=ev3' hz X
    omega
  · have La:=ev3' hm R
    simp only[dep] at La;obtain⟨A,D,i2,x,f1,o,hl2⟩:=X.app;obtain⟨A1,b1,i3,j3,g1,g2,-⟩:=f1.app;have hb1:=nl hs g1;have hd:=dep_inst b1 y;have W:=nl (by omega) g2;have hHR:HR (.elim p z s m) (D.inst (.elim p z s y)):=
     (HR.eliml R.hr.1 p z s).trans (.step (.es p z s y) ((HR.appl f1.hr.1 _).trans (.one (.beta A D _))))
    obtain⟨S,hT⟩:=hT;obtain⟨N,r,-⟩:=Ty.red hHR.red hT;obtain⟨Y,L⟩: ∃Y,Y=Tm.elim p z s y:=⟨_,rfl⟩;have IH: ∀{g:Nat} {w:Tm},g < n->(∃S,Ty G Y S)->Ev g Y w->dep w<=5:=fun M J K=> by
     rw[L] at J K;exact ih _ M (by omega) J K
    have t: ∀{g:Nat} {w:Tm},Ev g Y w-> ∀{F U:Tm},Ty G Y F->HR F U->((∃A B,U= .pi A B)\/ ∃A B,U= .sg A B)->False:=fun M F U J K O=> by
     rw[L] at M J;have hc:(∃C,Ev C y .zero)\/ ∃C H,Ev C y (.succ H):=by
      rcases M.elim with⟨i,j,b,-,-⟩ |⟨H,i,j,b,-,-⟩
      · exact .inl ⟨_,b⟩
      · exact .inr ⟨_,_,b⟩
     cases J with
     |elim=>
      obtain⟨x,l⟩:=Ev.of K (by rcases O with⟨A,B,rfl⟩ |⟨A,B,rfl⟩ <;> simp[hk]);rcases hc with⟨C,hc⟩ |⟨C,H,hc⟩
      · exact Rj hp hS l O (.inl hc)
      · exact Rj hp hS l O (.inr ⟨H,hc⟩)
    rw[<-L] at o r;have hdY:dep Y<=4:=by rw[L];simp only[dep];omega
    have lf: ∀{v:Tm} {g:Nat},dep v<=1->g < n->(∃S,Ty G (v.inst Y) S)->Ev g (v.inst Y) u->dep u<=5:=fun{v g} hv hj ht e=> by
     rcases Ng hv Y with q|q
     · rw[q] at e ht;exact IH hj ht e
     · have:=v8 q e;omega
    by_cases lg:hk (D.inst Y)=0
    · cases D <;> simp only[dep] at W <;> first|(simp[Tm.inst,Tm.sub,hk] at lg;done) |skip
      case var i=> exact lf (v:= .var i) (by simp[dep]) (by omega) ⟨_,r⟩ o
      case app f c=>
       obtain⟨A,d,b,l,a,-,-⟩:=Ev.app (show Ev x (.app (f.inst Y) (c.inst Y)) u from o);have hf:=Si (by omega) Tz a;cases(show Ty G (.app (f.inst Y) (c.inst Y)) N from r) with
       |app t1 t2 t3 t4=>
        rw[hf] at a t1;exact(t a t1 t2 (.inl ⟨_,_,rfl⟩)).elim
      case elim P Z S1 B=>
       rcases Ev.elim (show Ev x (.elim (P.inst Y) (Z.inst Y) (S1.inst Y) (B.inst Y)) u from o) with⟨b,l,-,I,I8⟩ |⟨H,b,l,a,I,I8⟩
       · cases(show Ty G (.elim (P.inst Y) (Z.inst Y) (S1.inst Y) (B.inst Y)) N from r) with
         |elim t1 t2 t3 t4 t5=> exact lf (by omega) (by omega) ⟨_,t5⟩ I
       · obtain⟨A,d,q3,q4,r3,-,-⟩:=I.app
         obtain⟨A,d,q5,q6,Q,-,-⟩:=r3.app;have hB:=Si (by omega) TC a;have V:=Si (by omega) Tz Q;rw[hB] at a;rw[V] at Q;cases a.det Q
      case move P E B=>
       obtain⟨b',b,l,-,I,I8⟩:=Ev.move (show Ev x (.move (P.inst Y) (E.inst Y) (B.inst Y)) u from o);cases(show Ty G (.move (P.inst Y) (E.inst Y) (B.inst Y)) N from r) with
       |move t1 t2 t3 t4 t5 t6 t7=> exact lf (by omega) (by omega) ⟨_,t7⟩ I
      case fst E=>
       obtain⟨T,a',b',b,l,a,-,-⟩:=Ev.fst (show Ev x (.fst (E.inst Y)) u from o);have hf:=Si (by omega) OF a;cases(show Ty G (.fst (E.inst Y)) N from r) with
       |fst t1 t2=>
        rw[hf] at a t1;exact(t a t1 t2 (.inr ⟨_,_,rfl⟩)).elim
      case snd E=>
       obtain⟨T,a',b',b,l,a,-,-⟩:=Ev.snd (show Ev x (.snd (E.inst Y)) u from o);have hf:=Si (by omega) OF a;cases(show Ty G (.snd (E.inst Y)) _ from r) with
       |snd t1 t2=>
        rw[hf] at a t1;exact(t a t1 t2 (.inr ⟨_,_,rfl⟩)).elim
    · obtain rfl:=o.val lg
      have:=dep_inst D Y;omega
theorem ev4t{G:List Tm}{A S u:Tm}{n k:Nat}(d:dep A<=4)(h:Ty G A S)(hS:HR S (.sort k))(e:Ev n A u):dep u<=5:=by
 by_cases m:hk A=0
 · cases A <;> simp only[dep] at d <;> first|(simp[hk] at m;done) |skip
   case var=> exact e.var.elim
   case app f x=>
    obtain⟨A,b,i,j,g,c,-⟩:=e.app;have:=xL j (nl (by omega) g) (by omega) c;omega
   case elim p z s a=>
    have o:=h;cases h with
    |elim=>
     obtain⟨r,hS⟩:=Ev.of hS (by simp[hk]);exact JL (by omega) (by omega) (by omega) hS n (by omega) ⟨_,o⟩ e
   case move p q a=>
    obtain⟨b,i,j,-,c,-⟩:=e.move;have:=ev3' (by omega) c;omega
   case fst q=>
    obtain⟨T,a,b,i,j,g,c,-⟩:=e.fst;have l:=ev3' (by omega) g;simp only[dep] at l;have:=ev3' (by omega) c;omega
   case snd q=>
    obtain⟨T,a,b,i,j,g,c,-⟩:=e.snd;have l:=ev3' (by omega) g;simp only[dep] at l;have:=ev3' (by omega) c;omega
 · obtain rfl:=e.val m
   omega
