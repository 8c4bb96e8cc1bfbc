/-
  Lemmas towards the law, 4: MLim.
-/
import Derived.Test.YtbnkbepgmenblaaGreatDoorFAC
set_option linter.unusedVariables false
namespace Go.Proofs.YtbnkbepgmenblaaGreatDoor.M
open Tm
def Lim:List Tm->Tm->Prop
 |_,.var _=> True
 |_,.sort n=> n < 3
 |G,.pi A B=> Lim G A/\Lim (A::G) B
 |G,.lam A t=> Lim G A/\Lim (A::G) t/\ ∀B k,Ty (A::G) t B->Lev (A::G) B k->k<=3
 |G,.app f a=> Lim G f/\Lim G a
 |_,.nat=> True
 |_,.zero=> True
 |G,.succ a=> Lim G a
 |G,.elim p z s a=> Lim G p/\Lim G z/\Lim G s/\Lim G a
 |G,.id T a b=> Lim G T/\Lim G a/\Lim G b
 |G,.refl a=> Lim G a/\ ∀B k,Ty G a B->Lev G B k->k<=3
 |G,.move p e a=> Lim G p/\Lim G e/\Lim G a
 |G,.sg A B=> Lim G A/\Lim (A::G) B
 |G,.pair T a b=> Lim G T/\Lim G a/\Lim G b
 |G,.fst a=> Lim G a
 |G,.snd a=> Lim G a
theorem Lim.subG(Z:List Tm->List Tm->(Nat->Tm)->Prop)(z0: ∀G D s,Z G D s-> ∀n A,lk G n=some A->Lim D (s n))
 (z1: ∀G D s A i,Lev G A i->q26 G D s->Z G D s->Z (A::G) (A.sub s::D) (ups s)) {G:List Tm} {t A:Tm} (h:Ty G t A):
 ∀{D:List Tm} {s:Nat->Tm},Wf G->q26 G D s->Z G D s->Lim G t->Lim D (t.sub s):=by
 induction h with
 |var h=> intro D s hG hs hz hl;exact z0 _ _ _ hz _ _ h
 |sort=> intro D s hG hs hz hl;exact hl
 |nat=> intro D s hG hs hz hl;exact hl
 |zero=> intro D s hG hs hz hl;exact hl
 |succ h1 h2 i1=> intro D s hG hs hz hl;exact i1 hG hs hz hl
 |pi h1 h2 h3 h4 i1 i2=> intro D s hG hs hz hl;exact⟨i1 hG hs hz hl.1,i2 (hG.cons ⟨_,h1,h2⟩) (hs.up _) (z1 _ _ _ _ _ ⟨_,h1,h2⟩ hs hz) hl.2⟩
 |sg h1 h2 h3 h4 i1 i2=> intro D s hG hs hz hl;exact⟨i1 hG hs hz hl.1,i2 (hG.cons ⟨_,h1,h2⟩) (hs.up _) (z1 _ _ _ _ _ ⟨_,h1,h2⟩ hs hz) hl.2⟩
 |lam h1 h2 h3 i1 i2=>
  intro D s hG hs hz hl;refine⟨i1 hG hs hz hl.1,i2 (hG.cons ⟨_,h1,h2⟩) (hs.up _) (z1 _ _ _ _ _ ⟨_,h1,h2⟩ hs hz) hl.2.1,fun B' k' hB hk=> ?_⟩;obtain⟨k,c⟩:=h3.corr (hG.cons ⟨_,h1,h2⟩);obtain⟨B'',c1,c2⟩:=h3.sub (hs.up _);obtain rfl:=c1.det hB;rw[<-(c.sub (hs.up _)).cv hk c2.symm];exact hl.2.2 _ _ h3 c
 |app h1 h2 h3 h4 i1 i2=> intro D s hG hs hz hl;exact⟨i1 hG hs hz hl.1,i2 hG hs hz hl.2⟩
 |elim h1 h2 h3 h4 h5 h6 h7 h8 h9 h10 i1 i2 i3 i4=> intro D s hG hs hz hl;exact⟨i1 hG hs hz hl.1,i2 hG hs hz hl.2.1,i3 hG hs hz hl.2.2.1,i4 hG hs hz hl.2.2.2⟩
 |id h1 h2 h3 h4 h5 h6 i1 i2 i3=> intro D s hG hs hz hl;exact⟨i1 hG hs hz hl.1,i2 hG hs hz hl.2.1,i3 hG hs hz hl.2.2⟩
 |refl h3 i2=>
  intro D s hG hs hz hl;refine⟨i2 hG hs hz hl.1,fun B' k' hB hk=> ?_⟩;obtain⟨k,c⟩:=h3.corr hG;obtain⟨B'',c1,c2⟩:=h3.sub hs;obtain rfl:=c1.det hB;rw[<-(c.sub hs).cv hk c2.symm];exact hl.2 _ _ h3 c
 |move h1 h2 h3 h4 h5 h6 h7 h8 i1 i2 i3=> intro D s hG hs hz hl;exact⟨i2 hG hs hz hl.1,i1 hG hs hz hl.2.1,i3 hG hs hz hl.2.2⟩
 |pair h1 h2 h3 h4 h5 h6 h7 i1 i2 i3=> intro D s hG hs hz hl;exact⟨i1 hG hs hz hl.1,i2 hG hs hz hl.2.1,i3 hG hs hz hl.2.2⟩
 |fst h1 h2 i1=> intro D s hG hs hz hl;exact i1 hG hs hz hl
 |snd h1 h2 i1=> intro D s hG hs hz hl;exact i1 hG hs hz hl
theorem Lim.var'{G:List Tm}{t:Tm}(h: ∃m,t= .var m):Lim G t:=by
 obtain⟨m,rfl⟩:=h;exact trivial
theorem Lim.vars{G D:List Tm}{t A:Tm}{s:Nat->Tm}(h:Ty G t A)(hG:Wf G)(hs:q26 G D s)(hv: ∀n,∃m,s n= .var m)(hl:Lim G t):Lim D (t.sub s):=
 Lim.subG (fun _ _ s=> ∀n,∃m,s n= .var m) (fun _ _ s hz n _ _=> Lim.var' (hz n)) (fun _ _ s _ _ _ _ hz n=> by
  cases n with
  |zero=> exact⟨0,rfl⟩
  |succ n=>
   obtain⟨m,hm⟩:=hz n;exact⟨m+1,by show wk (s n)=_;rw[hm];rfl⟩) h hG hs hv hl
theorem Lim.ctx{G:List Tm}{A A' t B:Tm}(h:Ty (A::G) t B)(hG:Wf (A::G))(e:Cv A' A)(hl:Lim (A::G) t):Lim (A'::G) t:=by
 have:=Lim.vars h hG (q26.ctx G e) (fun n=>⟨n,rfl⟩) hl
 rwa [y17] at this
theorem j48.sub{G D:List Tm}{r:Nat->Nat}(h:j48 G D r):q26 G D (fun n=> .var (r n)):=by
 intro n A hA;exact⟨_,.var (h n A hA),by rw[<-q51];exact Cv.rfl' _⟩
theorem Lim.ren{G D:List Tm}{t A:Tm}{r:Nat->Nat}(h:Ty G t A)(hG:Wf G)(hr:j48 G D r)(hl:Lim G t):Lim D (t.ren r):=by
 rw[q51];exact Lim.vars h hG hr.sub (fun n=>⟨_,rfl⟩) hl
theorem Lim.sub{G D:List Tm}{t A:Tm}{s:Nat->Tm}(h:Ty G t A)(hG:Wf G)(hD:Wf D)(hs:q26 G D s)(hv: ∀n A,lk G n=some A->Lim D (s n))(hl:Lim G t):Lim D (t.sub s):=
 Lim.subG (fun G D s=> Wf D/\ ∀n A,lk G n=some A->Lim D (s n)) (fun _ _ s hz=> hz.2) (fun G D s A i hi hs hz=> by
  refine⟨hz.1.cons (hi.sub hs),fun n B hB=> ?_⟩;cases n with
  |zero=> exact trivial
  |succ n=>
   rw[y55] at hB;obtain⟨X,h1,rfl⟩:=Option.map_eq_some_iff.1 hB;obtain⟨Y,h2,h3⟩:=hs n X h1;exact Lim.ren h2 hz.1 (j48.wk _ _) (hz.2 n X h1)) h hG hs ⟨hD,hv⟩ hl
theorem Lim.ins{G:List Tm}{A t B u X:Tm}(h:Ty (A::G) t B)(hG:Wf (A::G))(hD:Wf G)(hl:Lim (A::G) t)(hu:Ty G u X)(k:Cv X A)(lu:Lim G u):Lim G (t.inst u):=
 Lim.sub h hG hD ((q26.var G).cns hu (by rwa [y17])) (fun n B hB=> by
  cases n with
  |zero=> exact lu
  |succ n=> exact trivial) hl
theorem Lim.par{t t':Tm}(h:Par t t'): ∀{G:List Tm} {A:Tm},Wf G->Ty G t A->Lim G t->Lim G t':=by
 induction h with
 |var n=> intro G A hG k hl;exact hl
 |sort n=> intro G A hG k hl;exact hl
 |nat=> intro G A hG k hl;exact hl
 |zero=> intro G A hG k hl;exact hl
 |pi h1 h2 i1 i2=>
  intro G A hG k hl;cases k with
  |pi k1 k2 k3 k4=>
   have N7:=hG.cons ⟨_,k1,k2⟩;obtain⟨B1,c1,c2⟩:=Ty.par h2 k3;exact⟨i1 hG k1 hl.1,Lim.ctx c1 N7 h1.cv.symm (i2 N7 k3 hl.2)⟩
 |sg h1 h2 i1 i2=>
  intro G A hG k hl;cases k with
  |sg k1 k2 k3 k4=>
   have N7:=hG.cons ⟨_,k1,k2⟩;obtain⟨B1,c1,c2⟩:=Ty.par h2 k3;exact⟨i1 hG k1 hl.1,Lim.ctx c1 N7 h1.cv.symm (i2 N7 k3 hl.2)⟩
 |lam h1 h2 i1 i2=>
  intro G A hG k hl;cases k with
  |lam k1 k2 k3=>
   have N7:=hG.cons ⟨_,k1,k2⟩;obtain⟨B1,c1,c2⟩:=Ty.par h2 k3;refine⟨i1 hG k1 hl.1,Lim.ctx c1 N7 h1.cv.symm (i2 N7 k3 hl.2.1),fun B' k' hB hk=> ?_⟩;obtain⟨k,c⟩:=k3.corr N7;obtain⟨B2,d1,d2⟩:=c1.ctx h1.cv.symm;obtain rfl:=d1.det hB;rw[<-(c.ctx h1.cv.symm).cv hk (d2.trans c2).symm];exact hl.2.2 _ _ k3 c
 |app h1 h2 i1 i2=>
  intro G A hG k hl;cases k with
  |app k1 k2 k3 k4=> exact⟨i1 hG k1 hl.1,i2 hG k3 hl.2⟩
 |succ h1 i1=>
  intro G A hG k hl;cases k with
  |succ k1 k2=> exact i1 hG k1 hl
 |elim h1 h2 h3 h4 i1 i2 i3 i4=>
  intro G A hG k hl;cases k with
  |elim k1 k2 k3 k4 k5 k6 k7 k8 k9 k10=> exact⟨i1 hG k1 hl.1,i2 hG k5 hl.2.1,i3 hG k7 hl.2.2.1,i4 hG k9 hl.2.2.2⟩
 |id h1 h2 h3 i1 i2 i3=>
  intro G A hG k hl;cases k with
  |id k1 k2 k3 k4 k5 k6=> exact⟨i1 hG k1 hl.1,i2 hG k3 hl.2.1,i3 hG k5 hl.2.2⟩
 |refl h1 i1=>
  intro G A hG k hl;cases k with
  |refl k1=>
   refine⟨i1 hG k1 hl.1,fun B' k' hB hk=> ?_⟩;obtain⟨k,c⟩:=k1.corr hG;obtain⟨B2,d1,d2⟩:=Ty.par h1 k1;obtain rfl:=d1.det hB;rw[<-c.cv hk d2.symm];exact hl.2 _ _ k1 c
 |move h1 h2 h3 i1 i2 i3=>
  intro G A hG k hl;cases k with
  |move k1 k2 k3 k4 k5 k6 k7 k8=> exact⟨i1 hG k3 hl.1,i2 hG k1 hl.2.1,i3 hG k7 hl.2.2⟩
 |pair h1 h2 h3 i1 i2 i3=>
  intro G A hG k hl;cases k with
  |pair k1 k2 k3 k4 k5 k6 k7=> exact⟨i1 hG k1 hl.1,i2 hG k4 hl.2.1,i3 hG k6 hl.2.2⟩
 |fst h1 i1=>
  intro G A hG k hl;cases k with
  |fst k1 k2=> exact i1 hG k1 hl
 |snd h1 i1=>
  intro G A hG k hl;cases k with
  |snd k1 k2=> exact i1 hG k1 hl
 |beta h1 h2 i1 i2=>
  intro G A hG k hl;cases k with
  |app k1 k2 k3 k4=>
   cases k1 with
   |lam l1 l2 l3=>
    obtain⟨rfl,rfl⟩:=(HR.refl _).pi_det k2;have N7:=hG.cons ⟨_,l1,l2⟩;obtain⟨B',a1,a2⟩:=Ty.par h1 l3;obtain⟨X',b1,b2⟩:=Ty.par h2 k3;exact Lim.ins a1 N7 hG (i1 N7 l3 hl.1.2.1) b1 (b2.trans k4) (i2 hG k3 hl.2)
 |ez h1 i1=>
  intro G A hG k hl;cases k with
  |elim k1 k2 k3 k4 k5 k6 k7 k8 k9 k10=> exact i1 hG k5 hl.2.1
 |es h1 h2 h3 h4 i1 i2 i3 i4=>
  intro G A hG k hl;cases k with
  |elim k1 k2 k3 k4 k5 k6 k7 k8 k9 k10=>
   cases k9 with
   |succ l1 l2=>
    have a:=i4 hG l1 hl.2.2.2;have s:=i3 hG k7 hl.2.2.1;exact⟨⟨s,a⟩,i1 hG k1 hl.1,i2 hG k5 hl.2.1,s,a⟩
 |mr h1 i1=>
  intro G A hG k hl;cases k with
  |move k1 k2 k3 k4 k5 k6 k7 k8=> exact i1 hG k7 hl.2.2
 |fp h1 i1=>
  intro G A hG k hl;cases k with
  |fst k1 k2=>
   cases k1 with
   |pair l1 l2 l3 l4 l5 l6 l7=> exact i1 hG l4 hl.2.1
 |sp h1 i1=>
  intro G A hG k hl;cases k with
  |snd k1 k2=>
   cases k1 with
   |pair l1 l2 l3 l4 l5 l6 l7=> exact i1 hG l6 hl.2.2
theorem Lim.red{t t':Tm}(h:Red t t'): ∀{G:List Tm} {A:Tm},Wf G->Ty G t A->Lim G t->Lim G t':=by
 induction h with
 |refl=> intro G A hG k hl;exact hl
 |step h1 h2 ih=>
  intro G A hG k hl;obtain⟨B,k1,k2⟩:=Ty.par h1 k;exact ih hG k1 (Lim.par h1 hG k hl)
def TyB(G:List Tm)(B:Tm):Prop:=Lim G B/\ ∃k,k<=3/\Lev G B k
def WfL(G:List Tm):Prop:= ∀n A,G[n]? =some A->TyB (G.drop (n+1)) A
theorem WfL.wf{G:List Tm}(h:WfL G):Wf G:=by
 intro n A hA;obtain⟨-,k,-,S,h1,h2⟩:=h n A hA;exact⟨S,k,h1,h2⟩
theorem WfL.nil:WfL []:=by
 intro n A h;simp at h
theorem WfL.cons{G:List Tm}{A:Tm}(hG:WfL G)(h:TyB G A):WfL (A::G):=by
 intro n B hB;cases n with
 |zero=>
  obtain rfl:A=B:=by simpa using hB
  exact h
 |succ n=> exact hG n B (by simpa using hB)
theorem lev_le{G:List Tm}{S:Tm}{i:Nat}(h:S= .sort 3\/TyB G S)(r:HR S (.sort i)):i<=3:=by
 rcases h with rfl|⟨-,k,hk,l⟩
 · have:=r.sort_det (.refl _) |>.symm
   have:=(HR.refl (Tm.sort 3)).sort_det r;omega
 · have:=(l.red r.red).det (Lev.sort G i)
   omega
theorem TyB.red{G:List Tm}{A B:Tm}(hG:Wf G)(h:TyB G A)(r:Red A B):TyB G B:=by
 obtain⟨h1,k,hk,S,h2,h3⟩:=h;exact⟨Lim.red r hG h2 h1,k,hk,Lev.red ⟨S,h2,h3⟩ r⟩
theorem TyB.sort{G:List Tm}{i:Nat}(h:i<=3):Tm.sort i= .sort 3\/TyB G (.sort i):=by
 by_cases e:i=3
 · exact .inl (by rw[e])
 · exact .inr ⟨by show i < 3;omega,i+1,by omega,Lev.sort G i⟩
theorem TyB.pi_inv{G:List Tm}{C R:Tm}(h:TyB G (.pi C R)):TyB G C/\TyB (C::G) R:=by
 obtain⟨h1,k,hk,l⟩:=h;obtain⟨i,j,l1,l2,rfl⟩:=l.pi_inv;exact⟨⟨h1.1,i,by omega,l1⟩,h1.2,j,by omega,l2⟩
theorem TyB.sg_inv{G:List Tm}{C R:Tm}(h:TyB G (.sg C R)):TyB G C/\TyB (C::G) R:=by
 obtain⟨h1,k,hk,l⟩:=h;obtain⟨i,j,l1,l2,rfl⟩:=l.sg_inv;exact⟨⟨h1.1,i,by omega,l1⟩,h1.2,j,by omega,l2⟩
theorem TyB.ins{G:List Tm}{C R u X:Tm}(hG:Wf G)(hC:TyB G C)(h:TyB (C::G) R)(hu:Ty G u X)(k:Cv X C)(lu:Lim G u):TyB G (R.inst u):=by
 obtain⟨-,i,-,lC⟩:=hC;obtain⟨h1,j,hj,S,h2,h3⟩:=h;exact⟨Lim.ins h2 (hG.cons lC) hG h1 hu k lu,j,hj,Lev.ins ⟨S,h2,h3⟩ hu k⟩
theorem TyB.not3{G:List Tm}{F:Tm}(h:F= .sort 3\/TyB G F){c:Tm}(r:HR F c)(hc:hk c≠0)(hc2:hk c≠2):TyB G F:=by
 rcases h with rfl|h
 · have:=(HR.refl (Tm.sort 3)).det r (by simp[hk]) hc
   rw[<-this] at hc2;simp[hk] at hc2
 · exact h
theorem Lim.type{G:List Tm}{t A:Tm}(h:Ty G t A):WfL G->Lim G t->A= .sort 3\/TyB G A:=by
 induction h with
 | @var G n A h=>
  intro hG hl;unfold lk at h;obtain⟨B,h1,rfl⟩:=Option.map_eq_some_iff.1 h;obtain⟨b1,k,hk,S,h2,h3⟩:=hG n B h1;have hd:Wf (G.drop (n+1)):=fun m C hC=> by
   rw[List.getElem?_drop] at hC;obtain⟨-,k',-,S',h4,h5⟩:=hG _ C hC;rw[List.drop_drop];exact⟨S',k',by rw[show n+1+(m+1)=n+1+m+1 from rfl];exact h4,h5⟩
  exact .inr ⟨Lim.ren h2 hd (j48.drop G (n+1)) b1,k,hk,Lev.ren ⟨S,h2,h3⟩ (j48.drop G (n+1))⟩
 | @sort G n=>
  intro hG hl;have:n < 3:=hl;exact TyB.sort (by omega)
 |nat=> intro hG hl;exact TyB.sort (by omega)
 |zero=> intro hG hl;exact .inr ⟨trivial,0,by omega,Lev.nat _⟩
 |succ=> intro hG hl;exact .inr ⟨trivial,0,by omega,Lev.nat _⟩
 |pi h1 h2 h3 h4 i1 i2=>
  intro hG hl;have a:=lev_le (i1 hG hl.1) h2;have b:=lev_le (i2 (hG.cons ⟨hl.1,_,a,_,h1,h2⟩) hl.2) h4;exact TyB.sort (by omega)
 |sg h1 h2 h3 h4 i1 i2=>
  intro hG hl;have a:=lev_le (i1 hG hl.1) h2;have b:=lev_le (i2 (hG.cons ⟨hl.1,_,a,_,h1,h2⟩) hl.2) h4;exact TyB.sort (by omega)
 |lam h1 h2 h3 i1 i2=>
  intro hG hl;have a:=lev_le (i1 hG hl.1) h2;have N7:=hG.cons ⟨hl.1,_,a,_,h1,h2⟩;obtain⟨k,c⟩:=h3.corr N7.wf;have hk:=hl.2.2 _ _ h3 c;rcases i2 N7 hl.2.1 with rfl|b
  · have:=c.det (Lev.sort _ 3)
    omega
  · exact .inr ⟨⟨hl.1,b.1⟩,_,by omega,Lev.pi ⟨_,h1,h2⟩ c⟩
 |app h1 h2 h3 h4 i1 i2=>
  intro hG hl;obtain⟨b1,b2⟩:=((TyB.not3 (i1 hG hl.1) h2 (by simp[hk]) (by simp[hk])).red hG.wf h2.red).pi_inv;exact .inr (TyB.ins hG.wf b1 b2 h3 h4 hl.2)
 |elim h1 h2 h3 h4 h5 h6 h7 h8 h9 h10 i1 i2 i3 i4=>
  intro hG hl;obtain⟨b1,b2⟩:=((TyB.not3 (i1 hG hl.1) h2 (by simp[hk]) (by simp[hk])).red hG.wf h2.red).pi_inv;obtain⟨-,i,-,lC⟩:=b1;have b:=lev_le (.inr b2) h4;exact .inr ⟨⟨hl.1,hl.2.2.2⟩,_,b,_,.app h1 h2 h9 (h10.trans h3.symm),h4.sub (cns _ Tm.var)⟩
 |id h1 h2 h3 h4 h5 h6 i1 i2 i3=> intro hG hl;exact TyB.sort (lev_le (i1 hG hl.1) h2)
 |refl h i=>
  intro hG hl;obtain⟨k,c⟩:=h.corr hG.wf;have hk:=hl.2 _ _ h c;rcases i hG hl.1 with rfl|b
  · have:=c.det (Lev.sort _ 3)
    omega
  · obtain⟨S,h1,h2⟩:=c
    exact .inr ⟨⟨b.1,hl.1,hl.1⟩,k,hk,_,.id h1 h2 h (Cv.rfl' _) h (Cv.rfl' _),.refl _⟩
 |move h1 h2 h3 h4 h5 h6 h7 h8 i1 i2 i3=>
  intro hG hl;obtain⟨bE,kE,-,lE⟩:=(TyB.not3 (i1 hG hl.2.1) h2 (by simp[hk]) (by simp[hk])).red hG.wf h2.red;obtain⟨-,-,C,l1,l2⟩:=lE.id_inv;obtain⟨b1,b2⟩:=((TyB.not3 (i2 hG hl.1) h4 (by simp[hk]) (by simp[hk])).red hG.wf h4.red).pi_inv;have b:=lev_le (.inr b2) h6;exact .inr ⟨⟨hl.1,bE.2.2⟩,_,b,_,.app h3 h4 l1 (l2.trans h5.symm),h6.sub (cns _ Tm.var)⟩
 |pair h1 h2 h3 h4 h5 h6 h7 i1 i2 i3=> intro hG hl;exact .inr ⟨hl.1,_,lev_le (i1 hG hl.1) h2,_,h1,h2⟩
 |fst h1 h2 i1=>
  intro hG hl;exact .inr ((TyB.not3 (i1 hG hl) h2 (by simp[hk]) (by simp[hk])).red hG.wf h2.red).sg_inv.1
 |snd h1 h2 i1=>
  intro hG hl;obtain⟨b1,b2⟩:=((TyB.not3 (i1 hG hl) h2 (by simp[hk]) (by simp[hk])).red hG.wf h2.red).sg_inv;exact .inr (TyB.ins hG.wf b1 b2 (.fst h1 h2) (Cv.rfl' _) hl)
end Go.Proofs.YtbnkbepgmenblaaGreatDoor.M
