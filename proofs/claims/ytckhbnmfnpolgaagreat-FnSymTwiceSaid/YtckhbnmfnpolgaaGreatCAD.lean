/-
  Lemmas towards the law, 4: MLim, MEv4.
-/
import Derived.Test.YtckhbnmfnpolgaaGreatCAC
set_option linter.all false
namespace Go.Proofs.YtckhbnmfnpolgaaGreat.M
open Tm
def Lim:List Tm->Tm->Prop
 |_,.var _=> True
 |_,.sort n=> n < 3
 |G,.pi A B=> Lim G A/\Lim (A::G) B
 |G,.lam A t=> Lim G A/\Lim (A::G) t/\ ∀B k,Ty (A::G) t B->U4 (A::G) B k->k<=3
 |G,.app f a=> Lim G f/\Lim G a
 |_,.nat=> True
 |_,.zero=> True
 |G,.succ a=> Lim G a
 |G,.elim p z s a=> Lim G p/\Lim G z/\Lim G s/\Lim G a
 |G,.id T a b=> Lim G T/\Lim G a/\Lim G b
 |G,.refl a=> Lim G a/\ ∀B k,Ty G a B->U4 G B k->k<=3
 |G,.move p e a=> Lim G p/\Lim G e/\Lim G a
 |G,.sg A B=> Lim G A/\Lim (A::G) B
 |G,.pair T a b=> Lim G T/\Lim G a/\Lim G b
 |G,.fst a=> Lim G a
 |G,.snd a=> Lim G a
theorem Lim.subG(Z:List Tm->List Tm->(Nat->Tm)->Prop)(x: ∀G D s,Z G D s-> ∀n A,lk G n=some A->Lim D (s n))
 (o: ∀G D s A i,U4 G A i->Xa G D s->Z G D s->Z (A::G) (A.sub s::D) (ups s)) {G:List Tm} {t A:Tm} (h:Ty G t A):
 ∀{D:List Tm} {s:Nat->Tm},Wf G->Xa G D s->Z G D s->Lim G t->Lim D (t.sub s):=by
 induction h with
 |var h=> intro D s hG hs a hl;exact x _ _ _ a _ _ h
 |sort=> intro D s hG hs a hl;exact hl
 |nat=> intro D s hG hs a hl;exact hl
 |zero=> intro D s hG hs a hl;exact hl
 |succ f d b=> intro D s hG hs a hl;exact b hG hs a hl
 |pi f d g l b e=> intro D s hG hs a hl;exact⟨b hG hs a hl.1,e (hG.cons ⟨_,f,d⟩) (hs.up _) (o _ _ _ _ _ ⟨_,f,d⟩ hs a) hl.2⟩
 |sg f d g l b e=> intro D s hG hs a hl;exact⟨b hG hs a hl.1,e (hG.cons ⟨_,f,d⟩) (hs.up _) (o _ _ _ _ _ ⟨_,f,d⟩ hs a) hl.2⟩
 |lam f d g b e=>
  intro D s hG hs a hl;refine⟨b hG hs a hl.1,e (hG.cons ⟨_,f,d⟩) (hs.up _) (o _ _ _ _ _ ⟨_,f,d⟩ hs a) hl.2.1,fun y w hB hk=> ?_⟩;obtain⟨k,c⟩:=g.corr (hG.cons ⟨_,f,d⟩);obtain⟨p,r,m⟩:=g.sub (hs.up _);obtain rfl:=r.det hB;rw[<-(c.sub (hs.up _)).cv hk m.symm];exact hl.2.2 _ _ g c
 |app f d g l b e=> intro D s hG hs a hl;exact⟨b hG hs a hl.1,e hG hs a hl.2⟩
 |elim f d g l u q v h8 C z b e j B=> intro D s hG hs a hl;exact⟨b hG hs a hl.1,e hG hs a hl.2.1,j hG hs a hl.2.2.1,B hG hs a hl.2.2.2⟩
 |id f d g l u q b e j=> intro D s hG hs a hl;exact⟨b hG hs a hl.1,e hG hs a hl.2.1,j hG hs a hl.2.2⟩
 |refl g e=>
  intro D s hG hs a hl;refine⟨e hG hs a hl.1,fun y w hB hk=> ?_⟩;obtain⟨k,c⟩:=g.corr hG;obtain⟨p,r,m⟩:=g.sub hs;obtain rfl:=r.det hB;rw[<-(c.sub hs).cv hk m.symm];exact hl.2 _ _ g c
 |move f d g l u q v h8 b e j=> intro D s hG hs a hl;exact⟨e hG hs a hl.1,b hG hs a hl.2.1,j hG hs a hl.2.2⟩
 |pair f d g l u q v b e j=> intro D s hG hs a hl;exact⟨b hG hs a hl.1,e hG hs a hl.2.1,j hG hs a hl.2.2⟩
 |fst f d b=> intro D s hG hs a hl;exact b hG hs a hl
 |snd f d b=> intro D s hG hs a hl;exact b hG hs a hl
theorem Lim.var'{G:List Tm}{t:Tm}(h: ∃m,t= .var m):Lim G t:=by
 obtain⟨m,rfl⟩:=h;exact trivial
theorem Lim.vars{G D:List Tm}{t A:Tm}{s:Nat->Tm}(h:Ty G t A)(hG:Wf G)(hs:Xa G D s)(hv: ∀n,∃m,s n= .var m)(hl:Lim G t):Lim D (t.sub s):=
 Lim.subG (fun _ _ s=> ∀n,∃m,s n= .var m) (fun _ _ s a n _ _=> Lim.var' (a n)) (fun _ _ s _ _ _ _ a n=> by
  cases n with
  |zero=> exact⟨0,rfl⟩
  |succ n=>
   obtain⟨m,hm⟩:=a n;exact⟨m+1,by show wk (s n)=_;rw[hm];rfl⟩) h hG hs hv hl
theorem Lim.ctx{G:List Tm}{A a t B:Tm}(h:Ty (A::G) t B)(hG:Wf (A::G))(e:Cv a A)(hl:Lim (A::G) t):Lim (a::G) t:=by
 have:=Lim.vars h hG (Xa.ctx G e) (fun n=>⟨n,rfl⟩) hl
 rwa [ac] at this
theorem RenOk.sub{G D:List Tm}{r:Nat->Nat}(h:RenOk G D r):Xa G D (fun n=> .var (r n)):=by
 intro n A hA;exact⟨_,.var (h n A hA),by rw[<-pj];exact Cv.rfl' _⟩
theorem Lim.ren{G D:List Tm}{t A:Tm}{r:Nat->Nat}(h:Ty G t A)(hG:Wf G)(hr:RenOk G D r)(hl:Lim G t):Lim D (t.ren r):=by
 rw[pj];exact Lim.vars h hG hr.sub (fun n=>⟨_,rfl⟩) hl
theorem Lim.sub{G D:List Tm}{t A:Tm}{s:Nat->Tm}(h:Ty G t A)(hG:Wf G)(hD:Wf D)(hs:Xa G D s)(hv: ∀n A,lk G n=some A->Lim D (s n))(hl:Lim G t):Lim D (t.sub s):=
 Lim.subG (fun G D s=> Wf D/\ ∀n A,lk G n=some A->Lim D (s n)) (fun _ _ s a=> a.2) (fun G D s A i hi hs a=> by
  refine⟨a.1.cons (hi.sub hs),fun n B hB=> ?_⟩;cases n with
  |zero=> exact trivial
  |succ n=>
   rw[j62] at hB;obtain⟨X,b,rfl⟩:=Option.map_eq_some_iff.1 hB;obtain⟨Y,c,d⟩:=hs n X b;exact Lim.ren c a.1 (RenOk.wk _ _) (a.2 n X b)) h hG hs ⟨hD,hv⟩ hl
theorem Lim.ins{G:List Tm}{A t B u X:Tm}(h:Ty (A::G) t B)(hG:Wf (A::G))(hD:Wf G)(hl:Lim (A::G) t)(b:Ty G u X)(k:Cv X A)(a:Lim G u):Lim G (t.inst u):=
 Lim.sub h hG hD ((Xa.var G).cns b (by rwa [ac])) (fun n B hB=> by
  cases n with
  |zero=> exact a
  |succ n=> exact trivial) hl
theorem Lim.par{t M:Tm}(h:Par t M): ∀{G:List Tm} {A:Tm},Wf G->Ty G t A->Lim G t->Lim G M:=by
 induction h with
 |var n=> intro G A hG k hl;exact hl
 |sort n=> intro G A hG k hl;exact hl
 |nat=> intro G A hG k hl;exact hl
 |zero=> intro G A hG k hl;exact hl
 |pi f j d i=>
  intro G A hG k hl;cases k with
  |pi b g e l=>
   have m:=hG.cons ⟨_,b,g⟩;obtain⟨K,u,D⟩:=Ty.par j e;exact⟨d hG b hl.1,Lim.ctx u m f.cv.symm (i m e hl.2)⟩
 |sg f j d i=>
  intro G A hG k hl;cases k with
  |sg b g e l=>
   have m:=hG.cons ⟨_,b,g⟩;obtain⟨K,u,D⟩:=Ty.par j e;exact⟨d hG b hl.1,Lim.ctx u m f.cv.symm (i m e hl.2)⟩
 |lam f j d i=>
  intro G A hG k hl;cases k with
  |lam b g e=>
   have m:=hG.cons ⟨_,b,g⟩;obtain⟨K,u,D⟩:=Ty.par j e;refine⟨d hG b hl.1,Lim.ctx u m f.cv.symm (i m e hl.2.1),fun I N hB hk=> ?_⟩;obtain⟨k,c⟩:=e.corr m;obtain⟨T,E,H⟩:=u.ctx f.cv.symm;obtain rfl:=E.det hB;rw[<-(c.ctx f.cv.symm).cv hk (H.trans D).symm];exact hl.2.2 _ _ e c
 |app f j d i=>
  intro G A hG k hl;cases k with
  |app b g e l=> exact⟨d hG b hl.1,i hG e hl.2⟩
 |succ f d=>
  intro G A hG k hl;cases k with
  |succ b g=> exact d hG b hl
 |elim f j x O d i p F=>
  intro G A hG k hl;cases k with
  |elim b g e l o r q B y w=> exact⟨d hG b hl.1,i hG o hl.2.1,p hG q hl.2.2.1,F hG y hl.2.2.2⟩
 |id f j x d i p=>
  intro G A hG k hl;cases k with
  |id b g e l o r=> exact⟨d hG b hl.1,i hG e hl.2.1,p hG o hl.2.2⟩
 |refl f d=>
  intro G A hG k hl;cases k with
  |refl b=>
   refine⟨d hG b hl.1,fun I N hB hk=> ?_⟩;obtain⟨k,c⟩:=b.corr hG;obtain⟨T,E,H⟩:=Ty.par f b;obtain rfl:=E.det hB;rw[<-c.cv hk H.symm];exact hl.2 _ _ b c
 |move f j x d i p=>
  intro G A hG k hl;cases k with
  |move b g e l o r q B=> exact⟨d hG e hl.1,i hG b hl.2.1,p hG q hl.2.2⟩
 |pair f j x d i p=>
  intro G A hG k hl;cases k with
  |pair b g e l o r q=> exact⟨d hG b hl.1,i hG l hl.2.1,p hG r hl.2.2⟩
 |fst f d=>
  intro G A hG k hl;cases k with
  |fst b g=> exact d hG b hl
 |snd f d=>
  intro G A hG k hl;cases k with
  |snd b g=> exact d hG b hl
 |beta f j d i=>
  intro G A hG k hl;cases k with
  |app b g e l=>
   cases b with
   |lam v C z=>
    obtain⟨rfl,rfl⟩:=(HR.refl _).pi_det g;have m:=hG.cons ⟨_,v,C⟩;obtain⟨I,R,V⟩:=Ty.par f z;obtain⟨W,S,P⟩:=Ty.par j e;exact Lim.ins R m hG (d m z hl.1.2.1) S (P.trans l) (i hG e hl.2)
 |ez f d=>
  intro G A hG k hl;cases k with
  |elim b g e l o r q B y w=> exact d hG o hl.2.1
 |es f j x O d i p F=>
  intro G A hG k hl;cases k with
  |elim b g e l o r q B y w=>
   cases y with
   |succ v C=>
    have a:=F hG v hl.2.2.2;have s:=p hG q hl.2.2.1;exact⟨⟨s,a⟩,d hG b hl.1,i hG o hl.2.1,s,a⟩
 |mr f d=>
  intro G A hG k hl;cases k with
  |move b g e l o r q B=> exact d hG q hl.2.2
 |fp f d=>
  intro G A hG k hl;cases k with
  |fst b g=>
   cases b with
   |pair v C z L U J Q=> exact d hG L hl.2.1
 |sp f d=>
  intro G A hG k hl;cases k with
  |snd b g=>
   cases b with
   |pair v C z L U J Q=> exact d hG J hl.2.2
theorem Lim.red{t a:Tm}(h:Red t a): ∀{G:List Tm} {A:Tm},Wf G->Ty G t A->Lim G t->Lim G a:=by
 induction h with
 |refl=> intro G A hG k hl;exact hl
 |step b d ih=>
  intro G A hG k hl;obtain⟨B,c,e⟩:=Ty.par b k;exact ih hG c (Lim.par b hG k hl)
def y6(G:List Tm)(B:Tm):Prop:=Lim G B/\ ∃k,k<=3/\U4 G B k
def Wb(G:List Tm):Prop:= ∀n A,G[n]? =some A->y6 (G.drop (n+1)) A
theorem Wb.wf{G:List Tm}(h:Wb G):Wf G:=by
 intro n A hA;obtain⟨-,k,-,S,b,a⟩:=h n A hA;exact⟨S,k,b,a⟩
theorem Wb.nil:Wb []:=by
 intro n A h;simp at h
theorem Wb.cons{G:List Tm}{A:Tm}(hG:Wb G)(h:y6 G A):Wb (A::G):=by
 intro n B hB;cases n with
 |zero=>
  obtain rfl:A=B:=by simpa using hB
  exact h
 |succ n=> exact hG n B (by simpa using hB)
theorem lev_le{G:List Tm}{S:Tm}{i:Nat}(h:S= .sort 3\/y6 G S)(r:HR S (.sort i)):i<=3:=by
 rcases h with rfl|⟨-,k,hk,l⟩
 · have:=r.sort_det (.refl _) |>.symm
   have:=(HR.refl (Tm.sort 3)).sort_det r;omega
 · have:=(l.red r.red).det (U4.sort G i)
   omega
theorem y6.red{G:List Tm}{A B:Tm}(hG:Wf G)(h:y6 G A)(r:Red A B):y6 G B:=by
 obtain⟨c,k,hk,S,a,b⟩:=h;exact⟨Lim.red r hG a c,k,hk,U4.red ⟨S,a,b⟩ r⟩
theorem y6.sort{G:List Tm}{i:Nat}(h:i<=3):Tm.sort i= .sort 3\/y6 G (.sort i):=by
 by_cases e:i=3
 · exact .inl (by rw[e])
 · exact .inr ⟨by show i < 3;omega,i+1,by omega,U4.sort G i⟩
theorem y6.pi_inv{G:List Tm}{C R:Tm}(h:y6 G (.pi C R)):y6 G C/\y6 (C::G) R:=by
 obtain⟨a,k,hk,l⟩:=h;obtain⟨i,j,c,b,rfl⟩:=l.pi_inv;exact⟨⟨a.1,i,by omega,c⟩,a.2,j,by omega,b⟩
theorem y6.sg_inv{G:List Tm}{C R:Tm}(h:y6 G (.sg C R)):y6 G C/\y6 (C::G) R:=by
 obtain⟨a,k,hk,l⟩:=h;obtain⟨i,j,c,b,rfl⟩:=l.sg_inv;exact⟨⟨a.1,i,by omega,c⟩,a.2,j,by omega,b⟩
theorem y6.ins{G:List Tm}{C R u X:Tm}(hG:Wf G)(hC:y6 G C)(h:y6 (C::G) R)(b:Ty G u X)(k:Cv X C)(c:Lim G u):y6 G (R.inst u):=by
 obtain⟨-,i,-,f⟩:=hC;obtain⟨g,j,e,S,a,d⟩:=h;exact⟨Lim.ins a (hG.cons f) hG g b k c,j,e,U4.ins ⟨S,a,d⟩ b k⟩
theorem y6.not3{G:List Tm}{F:Tm}(h:F= .sort 3\/y6 G F){c:Tm}(r:HR F c)(hc:hk c≠0)(a:hk c≠2):y6 G F:=by
 rcases h with rfl|h
 · have:=(HR.refl (Tm.sort 3)).det r (by simp[hk]) hc
   rw[<-this] at a;simp[hk] at a
 · exact h
theorem Lim.type{G:List Tm}{t A:Tm}(h:Ty G t A):Wb G->Lim G t->A= .sort 3\/y6 G A:=by
 induction h with
 | @var G n A h=>
  intro hG hl;unfold lk at h;obtain⟨B,e,rfl⟩:=Option.map_eq_some_iff.1 h;obtain⟨o,k,hk,S,d,j⟩:=hG n B e;have hd:Wf (G.drop (n+1)):=fun m C hC=> by
   rw[List.getElem?_drop] at hC;obtain⟨-,x,-,z,g,q⟩:=hG _ C hC;rw[List.drop_drop];exact⟨z,x,by rw[show n+1+(m+1)=n+1+m+1 from rfl];exact g,q⟩
  exact .inr ⟨Lim.ren d hd (RenOk.drop G (n+1)) o,k,hk,U4.ren ⟨S,d,j⟩ (RenOk.drop G (n+1))⟩
 | @sort G n=>
  intro hG hl;have:n < 3:=hl;exact y6.sort (by omega)
 |nat=> intro hG hl;exact y6.sort (by omega)
 |zero=> intro hG hl;exact .inr ⟨trivial,0,by omega,U4.nat _⟩
 |succ=> intro hG hl;exact .inr ⟨trivial,0,by omega,U4.nat _⟩
 |pi e d j g f l=>
  intro hG hl;have a:=lev_le (f hG hl.1) d;have b:=lev_le (l (hG.cons ⟨hl.1,_,a,_,e,d⟩) hl.2) g;exact y6.sort (by omega)
 |sg e d j g f l=>
  intro hG hl;have a:=lev_le (f hG hl.1) d;have b:=lev_le (l (hG.cons ⟨hl.1,_,a,_,e,d⟩) hl.2) g;exact y6.sort (by omega)
 |lam e d j f l=>
  intro hG hl;have a:=lev_le (f hG hl.1) d;have v:=hG.cons ⟨hl.1,_,a,_,e,d⟩;obtain⟨k,c⟩:=j.corr v.wf;have hk:=hl.2.2 _ _ j c;rcases l v hl.2.1 with rfl|b
  · have:=c.det (U4.sort _ 3)
    omega
  · exact .inr ⟨⟨hl.1,b.1⟩,_,by omega,U4.pi ⟨_,e,d⟩ c⟩
 |app e d j g f l=>
  intro hG hl;obtain⟨o,p⟩:=((y6.not3 (f hG hl.1) d (by simp[hk]) (by simp[hk])).red hG.wf d.red).pi_inv;exact .inr (y6.ins hG.wf o p j g hl.2)
 |elim e d j g q r w h8 y u f l s I=>
  intro hG hl;obtain⟨o,p⟩:=((y6.not3 (f hG hl.1) d (by simp[hk]) (by simp[hk])).red hG.wf d.red).pi_inv;obtain⟨-,i,-,K⟩:=o;have b:=lev_le (.inr p) g;exact .inr ⟨⟨hl.1,hl.2.2.2⟩,_,b,_,.app e d y (u.trans j.symm),g.sub (cns _ Tm.var)⟩
 |id e d j g q r f l s=> intro hG hl;exact y6.sort (lev_le (f hG hl.1) d)
 |refl h i=>
  intro hG hl;obtain⟨k,c⟩:=h.corr hG.wf;have hk:=hl.2 _ _ h c;rcases i hG hl.1 with rfl|b
  · have:=c.det (U4.sort _ 3)
    omega
  · obtain⟨S,e,d⟩:=c
    exact .inr ⟨⟨b.1,hl.1,hl.1⟩,k,hk,_,.id e d h (Cv.rfl' _) h (Cv.rfl' _),.refl _⟩
 |move e d j g q r w h8 f l s=>
  intro hG hl;obtain⟨D,J,-,H⟩:=(y6.not3 (f hG hl.2.1) d (by simp[hk]) (by simp[hk])).red hG.wf d.red;obtain⟨-,-,C,E,F⟩:=H.id_inv;obtain⟨o,p⟩:=((y6.not3 (l hG hl.1) g (by simp[hk]) (by simp[hk])).red hG.wf g.red).pi_inv;have b:=lev_le (.inr p) r;exact .inr ⟨⟨hl.1,D.2.2⟩,_,b,_,.app j g E (F.trans q.symm),r.sub (cns _ Tm.var)⟩
 |pair e d j g q r w f l s=> intro hG hl;exact .inr ⟨hl.1,_,lev_le (f hG hl.1) d,_,e,d⟩
 |fst e d f=>
  intro hG hl;exact .inr ((y6.not3 (f hG hl) d (by simp[hk]) (by simp[hk])).red hG.wf d.red).sg_inv.1
 |snd e d f=>
  intro hG hl;obtain⟨o,p⟩:=((y6.not3 (f hG hl) d (by simp[hk]) (by simp[hk])).red hG.wf d.red).sg_inv;exact .inr (y6.ins hG.wf o p (.fst e d) (Cv.rfl' _) hl)
theorem Xg{v x u:Tm}{n:Nat}(hv:dep v<=1)(a:2<=dep u)(h:Ev n (v.inst x) u):v.inst x=x:=by
 rcases kf hv x with e|e
 · exact e
 · have:=d7 e h
   omega
theorem Ox{A b:Tm}:2<=dep (lam A b):=by have:=dep_pos A;simp only[dep];omega
theorem pC{a:Tm}:2<=dep (succ a):=by have:=dep_pos a;simp only[dep];omega
theorem yE{T a b:Tm}:2<=dep (pair T a b):=by have:=dep_pos a;simp only[dep];omega
theorem Nm{A b:Tm}:2<=dep (pi A b):=by have:=dep_pos A;simp only[dep];omega
theorem Uq{A b:Tm}:2<=dep (sg A b):=by have:=dep_pos A;simp only[dep];omega
theorem Qj{v x u:Tm}{n k:Nat}(hv:dep v<=1)(hx:dep x<=3)(h:Ev n (v.inst x) u):dep u<=3:=by
 rcases kf hv x with e|e
 · rw[e] at h;exact ev3' hx h
 · have:=d7 e h;omega
theorem yk{n:Nat}{f A b:Tm}(d:dep f<=3)(h:Ev n f (lam A b)):dep b<=2:=by
 have:=ev3' d h;simp only[dep] at this;omega
theorem BK: ∀(n:Nat) {b x u:Tm},dep b<=2->dep x<=3->Ev n (b.inst x) u->dep u<=4:=by
 intro n
 induction n using Nat.strongRecOn with
 |_ n ih=>
  intro b x u r hx h;by_cases k:hk (b.inst x)=0
  · cases b <;> simp only[dep] at r <;> first|(simp[Tm.inst,Tm.sub,hk] at k;done) |skip
    case var i=>
     have:=Qj (k:=0) (v:= .var i) (by simp[dep]) hx h;omega
    case app f a=>
     obtain⟨A,d,i,j,c,g,hl⟩:=Ev.app (show Ev n (.app (f.inst x) (a.inst x)) u from h);have hf:=Xg (by omega) Ox c;rw[hf] at c;have hd:=yk hx c;refine ih j hl hd ?_ g;rcases kf (b:=a) (by omega) x with e|e
     · rw[e];exact hx
     · omega
    case elim p z s a=>
     rcases Ev.elim (show Ev n (.elim (p.inst x) (z.inst x) (s.inst x) (a.inst x)) u from h) with⟨i,j,c,g,hl⟩ |⟨m,i,j,c,g,hl⟩
     · have:=Qj (k:=0) (by omega) hx g
       omega
     · have t:=Xg (by omega) pC c
       obtain⟨A,d,D,y,w,-,-⟩:=g.app;obtain⟨A,d,B,C,l,-,-⟩:=w.app;have hs:=Xg (by omega) Ox l;rw[t] at c;rw[hs] at l;cases c.det l
    case move p e a=>
     obtain⟨q,i,j,-,g,-⟩:=Ev.move (show Ev n (.move (p.inst x) (e.inst x) (a.inst x)) u from h);have:=Qj (k:=0) (by omega) hx g;omega
    case fst e=>
     obtain⟨T,a,q,i,j,c,g,-⟩:=Ev.fst (show Ev n (.fst (e.inst x)) u from h);have o:=Qj (k:=0) (by omega) hx c;simp only[dep] at o;have:=ev3' (by omega) g;omega
    case snd e=>
     obtain⟨T,a,q,i,j,c,g,-⟩:=Ev.snd (show Ev n (.snd (e.inst x)) u from h);have o:=Qj (k:=0) (by omega) hx c;simp only[dep] at o;have:=ev3' (by omega) g;omega
  · obtain rfl:=h.val k
    have:=dep_inst b x;omega
theorem Yj{p a c u:Tm}{i j k F:Nat}(L:dep p<=3)(W:Ev i (.app p a) (.sort k))(K:Ev j (.app p c) u)(D:(∃A B,u= .pi A B)\/ ∃A B,u= .sg A B)(hc:Ev F c .zero\/ ∃m,Ev F c (.succ m)):False:=by
 have I:2<=dep u:=by rcases D with⟨A,B,rfl⟩ |⟨A,B,rfl⟩ <;> first|exact Nm|exact Uq
 have t: ∀{n:Nat} {w:Tm},Ev n c w->(w= .zero\/ ∃m,w= .succ m):=fun e=> by
  rcases hc with hc|⟨m,hc⟩
  · exact .inl (e.det hc)
  · exact .inr ⟨m,e.det hc⟩
 have O: ∀{n:Nat},Ev n c u->False:=fun e=> by
  rcases t e with h|⟨m,h⟩ <;> rcases D with⟨A,B,rfl⟩ |⟨A,B,rfl⟩ <;> cases h
 obtain⟨A,q,i1,N,H,U,-⟩:=W.app;obtain⟨A',q',X,o,R,l,-⟩:=K.app;cases H.det R
 have Q:=yk L H;have x: ∀{v:Tm} {n:Nat},dep v<=1->Ev n (v.inst c) u->False:=fun hv e=> by
  have:=Xg hv I e;rw[this] at e;exact O e
 by_cases C:hk (q.inst c)=0
 · cases q <;> simp only[dep] at Q <;> first|(simp[Tm.inst,Tm.sub,hk] at C;done) |skip
   case var n=> exact x (v:= .var n) (by simp[dep]) l
   case app f b=>
    obtain⟨A,d,i,j,g,-,-⟩:=Ev.app (show Ev o (.app (f.inst c) (b.inst c)) u from l);have:=Xg (by omega) Ox g;rw[this] at g;rcases t g with h|⟨m,h⟩ <;> cases h
   case elim P Z S B=>
    rcases Ev.elim (show Ev o (.elim (P.inst c) (Z.inst c) (S.inst c) (B.inst c)) u from l) with⟨i,j,-,r,-⟩ |⟨m,i,j,-,r,-⟩
    · exact x (by omega) r
    · obtain⟨A,d,N,o,M,-,-⟩:=r.app
      obtain⟨A,d,Y,j3,z,-,-⟩:=M.app;have:=Xg (by omega) Ox z;rw[this] at z;rcases t z with h|⟨m,h⟩ <;> cases h
   case move P E B=>
    obtain⟨G,i,j,-,r,-⟩:=Ev.move (show Ev o (.move (P.inst c) (E.inst c) (B.inst c)) u from l);exact x (by omega) r
   case fst E=>
    obtain⟨T,J,G,i,j,g,-,-⟩:=Ev.fst (show Ev o (.fst (E.inst c)) u from l);have:=Xg (by omega) yE g;rw[this] at g;rcases t g with h|⟨m,h⟩ <;> cases h
   case snd E=>
    obtain⟨T,J,G,i,j,g,-,-⟩:=Ev.snd (show Ev o (.snd (E.inst c)) u from l);have:=Xg (by omega) yE g;rw[this] at g;rcases t g with h|⟨m,h⟩ <;> cases h
 · have V:=l.val C
   have lit:q.inst a= .sort k->hk q≠0-> ∃i,q= .sort i:=fun h s=> by
    cases q <;> first|(cases h;done) |exact⟨_,rfl⟩ |(exact absurd rfl s)
   by_cases s:hk q=0
   · cases q <;> first|(simp[hk] at s;done) |(exact absurd rfl C) |skip
     exact x (v:= .var _) (by simp[dep]) l
   · have y:hk (q.inst a)≠0:=by
      cases q <;> first|(exact absurd rfl s) |exact Nat.succ_ne_zero _
     obtain⟨i,rfl⟩:=lit (U.val y).symm s;rcases D with⟨A,B,rfl⟩ |⟨A,B,rfl⟩ <;> cases V
theorem HR.appl{f b:Tm}(h:HR f b)(a:Tm):HR (.app f a) (.app b a):=by
 induction h with
 |refl=> exact .refl _
 |step c _ ih=> exact .step (.app a c) ih
theorem HR.eliml{a b:Tm}(h:HR a b)(p z s:Tm):HR (.elim p z s a) (.elim p z s b):=by
 induction h with
 |refl=> exact .refl _
 |step c _ ih=> exact .step (.elim p z s c) ih
theorem yK{G:List Tm}{p z s a0:Tm}{k i0:Nat}(hp:dep p<=3)(hz:dep z<=3)(hs:dep s<=3)(hS:Ev i0 (.app p a0) (.sort k)): ∀(n:Nat) {m u:Tm},dep m<=3->(∃S,Ty G (.elim p z s m) S)->Ev n (.elim p z s m) u->dep u<=5:=by
 intro n
 induction n using Nat.strongRecOn with
 |_ n ih=>
  intro m u hm hT h;rcases h.elim with⟨i,j,e1,W,hl⟩ |⟨y,i,j,e1,W,hl⟩
  · have:=ev3' hz W
    omega
  · have Gt:=ev3' hm e1
    simp only[dep] at Gt;obtain⟨A,J,i2,x,f1,o,hl2⟩:=W.app;obtain⟨A1,b1,i3,j3,g1,g2,-⟩:=f1.app;have hb1:=yk hs g1;have hd:=dep_inst b1 y;have hb2:=yk (by omega) g2;have O:HR (.elim p z s m) (J.inst (.elim p z s y)):=
     (HR.eliml e1.hr.1 p z s).trans (.step (.es p z s y) ((HR.appl f1.hr.1 _).trans (.one (.beta A J _))))
    obtain⟨S,hT⟩:=hT;obtain⟨L,t,-⟩:=Ty.red O.red hT;obtain⟨Y,K⟩: ∃Y,Y=Tm.elim p z s y:=⟨_,rfl⟩;have IH: ∀{l:Nat} {w:Tm},l < n->(∃S,Ty G Y S)->Ev l Y w->dep w<=5:=fun M H N=> by
     rw[K] at H N;exact ih _ M (by omega) H N
    have r: ∀{l:Nat} {w:Tm},Ev l Y w-> ∀{F U:Tm},Ty G Y F->HR F U->((∃A B,U= .pi A B)\/ ∃A B,U= .sg A B)->False:=fun M F U H N V=> by
     rw[K] at M H;have hc:(∃D,Ev D y .zero)\/ ∃D C,Ev D y (.succ C):=by
      rcases M.elim with⟨i,j,b,-,-⟩ |⟨C,i,j,b,-,-⟩
      · exact .inl ⟨_,b⟩
      · exact .inr ⟨_,_,b⟩
     cases H with
     |elim=>
      obtain⟨x,g⟩:=Ev.of N (by rcases V with⟨A,B,rfl⟩ |⟨A,B,rfl⟩ <;> simp[hk]);rcases hc with⟨D,hc⟩ |⟨D,C,hc⟩
      · exact Yj hp hS g V (.inl hc)
      · exact Yj hp hS g V (.inr ⟨C,hc⟩)
    rw[<-K] at o t;have hdY:dep Y<=4:=by rw[K];simp only[dep];omega
    have Q: ∀{v:Tm} {l:Nat},dep v<=1->l < n->(∃S,Ty G (v.inst Y) S)->Ev l (v.inst Y) u->dep u<=5:=fun{v l} hv hj ht e=> by
     rcases kf hv Y with q|q
     · rw[q] at e ht;exact IH hj ht e
     · have:=d7 q e;omega
    by_cases kg:hk (J.inst Y)=0
    · cases J <;> simp only[dep] at hb2 <;> first|(simp[Tm.inst,Tm.sub,hk] at kg;done) |skip
      case var i=> exact Q (v:= .var i) (by simp[dep]) (by omega) ⟨_,t⟩ o
      case app f c=>
       obtain⟨A,d,b,g,a,-,-⟩:=Ev.app (show Ev x (.app (f.inst Y) (c.inst Y)) u from o);have hf:=Xg (by omega) Ox a;cases(show Ty G (.app (f.inst Y) (c.inst Y)) L from t) with
       |app t1 t2 t3 t4=>
        rw[hf] at a t1;exact(r a t1 t2 (.inl ⟨_,_,rfl⟩)).elim
      case elim P Z S1 B=>
       rcases Ev.elim (show Ev x (.elim (P.inst Y) (Z.inst Y) (S1.inst Y) (B.inst Y)) u from o) with⟨b,g,-,I,Q9⟩ |⟨C,b,g,a,I,Q9⟩
       · cases(show Ty G (.elim (P.inst Y) (Z.inst Y) (S1.inst Y) (B.inst Y)) L from t) with
         |elim t1 t2 t3 t4 t5=> exact Q (by omega) (by omega) ⟨_,t5⟩ I
       · obtain⟨A,d,q3,q4,r3,-,-⟩:=I.app
         obtain⟨A,d,q5,q6,X,-,-⟩:=r3.app;have hB:=Xg (by omega) pC a;have R:=Xg (by omega) Ox X;rw[hB] at a;rw[R] at X;cases a.det X
      case move P E B=>
       obtain⟨b',b,g,-,I,Q9⟩:=Ev.move (show Ev x (.move (P.inst Y) (E.inst Y) (B.inst Y)) u from o);cases(show Ty G (.move (P.inst Y) (E.inst Y) (B.inst Y)) L from t) with
       |move t1 t2 t3 t4 t5 t6 t7=> exact Q (by omega) (by omega) ⟨_,t7⟩ I
      case fst E=>
       obtain⟨T,a',b',b,g,a,-,-⟩:=Ev.fst (show Ev x (.fst (E.inst Y)) u from o);have hf:=Xg (by omega) yE a;cases(show Ty G (.fst (E.inst Y)) L from t) with
       |fst t1 t2=>
        rw[hf] at a t1;exact(r a t1 t2 (.inr ⟨_,_,rfl⟩)).elim
      case snd E=>
       obtain⟨T,a',b',b,g,a,-,-⟩:=Ev.snd (show Ev x (.snd (E.inst Y)) u from o);have hf:=Xg (by omega) yE a;cases(show Ty G (.snd (E.inst Y)) _ from t) with
       |snd t1 t2=>
        rw[hf] at a t1;exact(r a t1 t2 (.inr ⟨_,_,rfl⟩)).elim
    · obtain rfl:=o.val kg
      have:=dep_inst J Y;omega
theorem ev4t{G:List Tm}{A S u:Tm}{n k:Nat}(d:dep A<=4)(h:Ty G A S)(hS:HR S (.sort k))(e:Ev n A u):dep u<=5:=by
 by_cases m:hk A=0
 · cases A <;> simp only[dep] at d <;> first|(simp[hk] at m;done) |skip
   case var=> exact e.var.elim
   case app f x=>
    obtain⟨A,b,i,j,g,c,-⟩:=e.app;have:=BK j (yk (by omega) g) (by omega) c;omega
   case elim p z s a=>
    have o:=h;cases h with
    |elim=>
     obtain⟨r,hS⟩:=Ev.of hS (by simp[hk]);exact yK (by omega) (by omega) (by omega) hS n (by omega) ⟨_,o⟩ e
   case move p q a=>
    obtain⟨b,i,j,-,c,-⟩:=e.move;have:=ev3' (by omega) c;omega
   case fst q=>
    obtain⟨T,a,b,i,j,g,c,-⟩:=e.fst;have l:=ev3' (by omega) g;simp only[dep] at l;have:=ev3' (by omega) c;omega
   case snd q=>
    obtain⟨T,a,b,i,j,g,c,-⟩:=e.snd;have l:=ev3' (by omega) g;simp only[dep] at l;have:=ev3' (by omega) c;omega
 · obtain rfl:=e.val m
   omega
