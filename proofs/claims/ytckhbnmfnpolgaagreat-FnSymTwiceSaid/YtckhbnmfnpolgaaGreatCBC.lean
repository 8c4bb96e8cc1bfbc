/-
  Lemmas towards the law, 29: MAgT, V2S, MTotS, InfG, InfE.
-/
import Derived.Test.YtckhbnmfnpolgaaGreatC00
import Derived.Test.YtckhbnmfnpolgaaGreatCBB
open Option.some renaming inj->bY,injEq->bX
open Go renaming World->aL,Value->aT,Calls->aX,results->aR,bodyPost_ret->aP,wpAnyH_done->bP
open Nat renaming le_trans->bL,le_refl->aN,le_succ->aQ
open Go.World renaming alloc->aO,setCell->cM
open Go.Proofs.Tryz
set_option linter.all false
set_option maxHeartbeats 8000000
set_option maxRecDepth 100000
namespace Go.Proofs.YtckhbnmfnpolgaaGreat
open Go.RowKit
open M (Hd HR Cv Ty Lim Wb y6 U4 If)
theorem okS{f:Nat}{G:List M.Tm}{t:M.Tm}{s:Tr}(hG:O6 G)(hv:j0 D0 (enc t)=true)(e:Q0 f (ctxE G) (enc t)=some (s,0)):G.length<=20/\ ∃b,S0 b (ctxE G) (enc t)=some (s,0):=by
 have hl:G.length<=20:=by
  cases f with
  |zero=> cases e
  |succ f=>
   by_cases h:G.length<=20
   · exact h
   · exfalso
     generalize enc t=x at e;obtain⟨k,n,i⟩:=x;unfold Q0 at e;rw[if_pos (.inr (by rw[q28];omega))] at e;simp at e
 obtain⟨b,r,d⟩:=Zt 20 G (by omega) hG t hv;refine⟨hl,b, ?_⟩;rcases(q164 f b (ctxE G) (enc t) hv (by rw[q28];exact hl)).okS e with h|h
 · rw[d] at h;cases h
 · exact h
theorem jt{f:Nat}{G:List M.Tm}{t:M.Tm}{s:Tr}(hG:O6 G)(hv:j0 D0 (enc t)=true)(e:Q0 f (ctxE G) (enc t)=some (s,0)): ∃A,s=enc A/\Ty G t A/\Lim G t/\j0 D0 (enc A)=true:=by
 obtain⟨-,d,b⟩:=okS hG hv e;exact snd d G t s hG hv b
theorem Rg{f:Nat}{G:List M.Tm}{t A:M.Tm}{s:Tr}(hG:O6 G)(hv:j0 D0 (enc t)=true)(h:Ty G t A)(e:Q0 f (ctxE G) (enc t)=some (s,0)):s=enc A/\j0 D0 (enc A)=true:=by
 obtain⟨B,rfl,b,-,v⟩:=jt hG hv e;obtain rfl:=b.det h;exact⟨rfl,v⟩
theorem gg{f:Nat}{G:List M.Tm}{t:M.Tm}{k:Int}{s:Tr}(hG:O6 G)(hv:j0 D0 (enc t)=true)(e:X0 (Q0 f (ctxE G) (enc t)) k=some (s,0)): ∃b,X0 (S0 b (ctxE G) (enc t)) k=some (s,0):=by
 obtain⟨u,j,i⟩:=M8 e;obtain⟨-,b,d⟩:=okS hG hv j;exact⟨b,by rw[d];exact i⟩
theorem Ue{f:Nat}{G:List Tr}{k n:Int}{b:List Tr}(h:Nb (ke G (Q0 f) (ia (Q0 f) G k b) k n b)):Nb (Q0 (f+1) G (.mk k n b)):=by
 unfold Q0;by_cases e:j0 D0 (.mk k n b)=false\/20 < G.length
 · rw[if_pos e];exact Nb.one (.inr rfl)
 · rw[if_neg e];exact h.thn fun s _=> Nb.mk s
theorem Nt{f:Nat}{G:List M.Tm}{k:Int}{A t:M.Tm}(hk:E4 k 1=1)(h:Nb (Q0 f (ctxE (A::G)) (enc t))):Nb (ia (Q0 f) (ctxE G) k [enc A,enc t] 1):=by
 unfold ia;rw[if_neg (by rw[hk];decide),show ctxE G++ [kd [enc A,enc t] 0]=ctxE (A::G) from(yd A G).symm];exact h
theorem Ny{f:Nat}{G:List M.Tm}{k:Int}{A t:M.Tm}{s:Tr}(hk:E4 k 1=1)(h:ia (Q0 f) (ctxE G) k [enc A,enc t] 1=some (s,0)):Q0 f (ctxE (A::G)) (enc t)=some (s,0):=by
 unfold ia at h
 rwa [if_neg (by rw[hk];decide),show ctxE G++ [kd [enc A,enc t] 0]=ctxE (A::G) from(yd A G).symm] at h
theorem dj: ∀(f:Nat) (G:List M.Tm) (t A:M.Tm),O6 G->j0 D0 (enc t)=true->Ty G t A->Lim G t->Nb (Q0 f (ctxE G) (enc t))
 |0,G,t,A,hG,hv,h,hl=> by intro s c e;cases e
 |f+1,G,t,A,hG,hv,h,hl=> by
  have ih:=dj f G;have I:=dj f;have K: ∀{X S:M.Tm} {i:Nat},Ty G X S->HR S (.sort i)->Lim G X->y6 G X:=fun{X S i} d l m=>⟨m,i,M.lev_le (Lim.type d hG.wf m) l,S,d,l⟩
  have lev: ∀{X S:M.Tm} {i:Nat},j0 D0 (enc X)=true->Ty G X S->HR S (.sort i)->Lim G X->Nb (X0 (Q0 f (ctxE G) (enc X)) 2):=fun{X S i} v d l m=>
   (ih X S hG v d m).frm fun s e=>⟨S,.sort i,(Rg hG v d e).1,l,by simp[M.hk],rfl⟩
  have chk: ∀{X S W:M.Tm} {y:An},j0 D0 (enc X)=true->Ty G X S->Cv S W->Lim G X->Nb y->Nb (W3 (Q0 f (ctxE G) (enc X)) (enc W) y):=fun{X S W y} v d l m hy=>
   (ih X S hG v d m).chk (fun s e=>⟨S,(Rg hG v d e).1,l⟩) hy
  have fam: ∀{X F C D T:M.Tm} {j:Nat} {y:An},j0 D0 (enc X)=true->Ty G X F->HR F (.pi C D)->Cv C T->HR D (.sort j)->Lim G X->Nb y->Nb (v9 (Q0 f (ctxE G) (enc X)) (enc T) y):=fun{X F C D T j y} v d l m o J hy=>
   (ih X F hG v d J).fam (fun s e=>⟨F,C,D,j,(Rg hG v d e).1,l,m,o⟩) hy
  cases h with
  | @var _ n A h=>
   have hn:=M.lk_lt h;refine Ue (show Nb (some (Mr (ctxE G) (n:Int))) from ?_);unfold Mr;rw[if_neg (by rw[q28];omega)];exact Nb.ok _
  | @sort _ n=>
   have hn:n < 3:=hl;refine Ue (show Nb (some (if 3<=(n:Int) then(j2,(1:Int)) else(m6 ((n:Int)+1),0))) from ?_);rw[if_neg (by omega)];exact Nb.ok _
  |nat=> exact Ue (Nb.ok (m6 0))
  |zero=> exact Ue (Nb.ok n5)
  | @succ _ a X d l=> exact Ue (chk (W:= .nat) (J1 hv (by simp)) d l hl (Nb.ok n5))
  | @pi _ A B S H i k d l m o=>
   have q:=hG.cons (K d l hl.1) (J1 hv (by simp));exact Ue ((lev (J1 hv (by simp)) d l hl.1).thn fun s _=>((Nt rfl (I _ B H q (J1 hv (by simp)) m hl.2)).frm fun s e=>⟨H,.sort k,(Rg q (J1 hv (by simp)) m (Ny rfl e)).1,o,by simp[M.hk],rfl⟩).thn fun _ _=> Nb.ok _)
  | @sg _ A B S H i k d l m o=>
   have q:=hG.cons (K d l hl.1) (J1 hv (by simp));exact Ue ((lev (J1 hv (by simp)) d l hl.1).thn fun s _=>((Nt rfl (I _ B H q (J1 hv (by simp)) m hl.2)).frm fun s e=>⟨H,.sort k,(Rg q (J1 hv (by simp)) m (Ny rfl e)).1,o,by simp[M.hk],rfl⟩).thn fun _ _=> Nb.ok _)
  | @lam _ A t B S i d l m=>
   have bA:=K d l hl.1;have q:=hG.cons bA (J1 hv (by simp));refine Ue ((lev (J1 hv (by simp)) d l hl.1).thn fun s _=>(Nt rfl (I _ t B q (J1 hv (by simp)) m hl.2.1)).thn fun b e=> ?_);obtain⟨rfl,vB⟩:=Rg q (J1 hv (by simp)) m (Ny rfl e);obtain⟨k,lk⟩:=m.corr q.wf.wf;have hk:=hl.2.2 B k m lk;have lB:Lim (A::G) B:=by
    rcases Lim.type m q.wf hl.2.1 with rfl|b
    · have:=lk.det (U4.sort _ 3)
      omega
    · exact b.1
   obtain⟨H,k1,k2⟩:=lk;have e2:ctxE G++ [kd [enc A,enc t] 0]=ctxE (A::G):=(yd A G).symm;rw[e2];exact(lev (J1 hv (by simp)) d l hl.1).thn fun _ _=>((I _ B H q vB k1 lB).frm fun s e=>⟨H,.sort k,(Rg q vB k1 e).1,k2,by simp[M.hk],rfl⟩).thn fun _ _=> Nb.ok _
  | @app _ g a F X C R d l m o=>
   refine Ue (((ih g F hG (J1 hv (by simp)) d hl.1).frm fun s e=>⟨F,.pi C R,(Rg hG (J1 hv (by simp)) d e).1,l,by simp[M.hk],rfl⟩).thn fun s e=> ?_);obtain⟨f',V⟩:=gg hG (J1 hv (by simp)) e;obtain⟨F',C',R',rfl,tF,rF,-,-,-⟩:=Wk (snd f') hG (J1 hv (by simp)) V;obtain rfl:=tF.det d;obtain⟨rfl,rfl⟩:=rF.pi_det l;exact chk (W:=C') (J1 hv (by simp)) m o hl.2 (Nb.ok _)
  | @elim _ p z s a F Z S X C D k d l m o J L O h8 h9 h10=>
   refine Ue (fam (T:= .nat) (J1 hv (by simp)) d l m o hl.1 (chk (W:= .app p .zero) (J1 hv (by simp)) J L hl.2.1 ?_));rw[show Sb (kd [enc p,enc z,enc s,enc a] 0)=enc (M.stepTy p) from aq p];exact chk (J1 hv (by simp)) O h8 hl.2.2.1 (chk (W:= .nat) (J1 hv (by simp)) h9 h10 hl.2.2.2 (Nb.ok _))
  | @id _ T a b S X Y i d l m o J L=>
   exact Ue ((lev (J1 hv (by simp)) d l hl.1).thn fun s _=> chk (J1 hv (by simp)) m o hl.2.1 (chk (J1 hv (by simp)) J L hl.2.2 (Nb.ok _)))
  | @refl _ a X d=>
   refine Ue ((ih a X hG (J1 hv (by simp)) d hl.1).thn fun s e=> ?_);obtain⟨rfl,vX⟩:=Rg hG (J1 hv (by simp)) d e;obtain⟨k,lk⟩:=d.corr hG.wf.wf;have hk:=hl.2 X k d lk;have lX:Lim G X:=by
    rcases Lim.type d hG.wf hl.1 with rfl|b
    · have:=lk.det (U4.sort _ 3)
      omega
    · exact b.1
   obtain⟨H,k1,k2⟩:=lk;exact(lev vX k1 k2 lX).thn fun _ _=> Nb.ok _
  | @move _ p e a E T b c F T' D k X d l m o J L O h8=>
   refine Ue (((ih e E hG (J1 hv (by simp)) d hl.2.1).frm fun s V=>⟨E,.id T b c,(Rg hG (J1 hv (by simp)) d V).1,l,by simp[M.hk],rfl⟩).thn fun s V=> ?_);obtain⟨f',e''⟩:=gg hG (J1 hv (by simp)) V;obtain⟨E',U,b',c',rfl,tE,rE,-,-,-,-⟩:=Qn (snd f') hG (J1 hv (by simp)) e'';obtain rfl:=tE.det d;obtain⟨rfl,rfl,rfl⟩:=rE.id_det l;exact fam (T:=U) (J1 hv (by simp)) m o J L hl.1 (chk (W:= .app p b') (J1 hv (by simp)) O h8 hl.2.2 (Nb.ok _))
  | @pair _ T a b S i C D X Y d l m o J L O=>
   refine Ue ((lev (J1 hv (by simp)) d l hl.1).thn fun s _=>(Nb.shp (F:=A) m (by simp[M.hk]) rfl).thn fun s e=> ?_);have e1:i4 (enc A) 13=(s,0):=bY e;obtain⟨e2,e3⟩:=ry (t:=enc A) (kind:=13) (by rw[e1]);rw[e1] at e2 e3;obtain⟨B,rfl,rB,hs,-⟩:=wi e2;obtain rfl:=Qq rB hs m (by simp[M.hk]);refine chk (W:=C) (J1 hv (by simp)) o J hl.2.1 ?_;rw[show Z0 (kd [enc A,enc a,enc b] 1) (kd (enc (.sg C D)).kids 1) 0 0=enc (D.inst a) from tm D a];exact chk (J1 hv (by simp)) L O hl.2.2 (Nb.ok _)
  | @fst _ a X C D d l=> exact Ue (((ih a X hG (J1 hv (by simp)) d hl).frm fun s e=>⟨X,.sg A D,(Rg hG (J1 hv (by simp)) d e).1,l,by simp[M.hk],rfl⟩).thn fun _ _=> Nb.ok _)
  | @snd _ a X C D d l=> exact Ue (((ih a X hG (J1 hv (by simp)) d hl).frm fun s e=>⟨X,.sg C D,(Rg hG (J1 hv (by simp)) d e).1,l,by simp[M.hk],rfl⟩).thn fun _ _=> Nb.ok _)
theorem PB{f d:Nat}{G:List M.Tm}{t A:M.Tm}(hG:O6 G)(hl:G.length<=20)(hv:j0 D0 (enc t)=true)(h:Ty G t A)(b:Lim G t):Rl False (Q0 f (ctxE G) (enc t)) (S0 d (ctxE G) (enc t)):=by
 intro s c i j e l;rcases q164 f d (ctxE G) (enc t) hv (by rw[q28];exact hl) s c i j e l with k|⟨-,-,-,rfl,-⟩
 · exact .inl k
 · rcases dj f G t A hG hv h b s 1 e with h|h <;> cases h
end Go.Proofs.YtckhbnmfnpolgaaGreat
namespace Go.Proofs.YtckhbnmfnpolgaaGreat
open Go Go.RowKit
structure SJ (w:aL) (N:Nat->Prop) (A:Option Addr) (G:List Tr) (ca:Nat):Prop where
 hN: ∀b,w.heap.size<=b->N b
 hl:G.length<=ca
 hc:ca<=maxLen
 hG:InK w N A G
 h21:G.length<=21
 hA:A=none->ca=0
 hv: ∀x∈G,j0 D0 x=true
theorem SJ.ext{w w':aL}{N:Nat->Prop}{A:Option Addr}{G:List Tr}{ca:Nat}(h:SJ w N A G ca)(e:Ext w w'):SJ w' N A G ca:=
 ⟨fun b d=> h.hN b (bL e.size d),h.hl,h.hc,h.hG.later e,h.h21,h.hA,h.hv⟩
theorem SJ.keep{w w':aL}{N:Nat->Prop}{A:Option Addr}{G:List Tr}{ca:Nat}(h:SJ w N A G ca)(e:Ext w w'){g:Nat}(f:w.heap.size<=g)(d:g < w'.heap.size):SJ w' (fun b=> N b/\b≠g) A G ca:=
 ⟨Ia h.hN e.size d,h.hl,h.hc,h.hG.keep e f,h.h21,h.hA,h.hv⟩
def a9(f:Nat):Prop:= ∀(G:List Tr) (t:Tr) (r:Tr×Int),Q0 f G t=some r-> ∀(w:aL) (N:Nat->Prop) (A:Option Addr) (ca:Nat) (v:aT),SJ w N A G ca->InT w N t v->
 aX prog 89 #[.slice A G.length ca,v] w (q8 N w r)
theorem Bo(s:Tr)(kind:Int):i4 s kind=if(Ua s).2=0 then(if(Ua s).1.kind=kind then((Ua s).1,0) else(j2,1)) else(j2,(Ua s).2):=by
 unfold i4 Ua;by_cases h:(W6 s 200).2≠0
 · simp[h]
 · simp only[if_neg h,if_true]
   by_cases b:(W6 s 200).1.kind=kind
   · rw[if_neg (by simpa using b),if_pos b]
   · rw[if_pos b,if_neg b]
theorem ZB{s:Tr}{kind:Int}{r:Tr×Int}(h:i4 s kind=r): ∃X d,Ua s=(X,d)/\(d=0->(X.kind=kind->r=(X,0))/\(X.kind≠kind->r=(j2,1)))/\(d≠0->r=(j2,d)):=by
 rw[Bo] at h;refine⟨(Ua s).1,(Ua s).2,rfl,fun hd=>⟨fun hk=> ?_,fun hk=> ?_⟩,fun hd=> ?_⟩
 · rw[if_pos hd,if_pos hk] at h;exact h.symm
 · rw[if_pos hd,if_neg hk] at h;exact h.symm
 · rw[if_neg hd] at h;exact h.symm
theorem vp{x:An}{kind:Int}{s:Tr}(h:X0 x kind=some (s,0)):s.kind=kind/\(s.kids.length:Int)=U0 kind/\j0 D0 s=true:=Mi h
theorem OC{x:An}{kind:Int}{r:Tr×Int}(h:X0 x kind=some r): ∃s c,x=some (s,c)/\(c=0->i4 s kind=r)/\(c≠0->r=(j2,c)):=by
 obtain⟨s,c,e,b,d⟩:=Ud h;exact⟨s,c,e,fun hc=> by simpa using b hc,d⟩
theorem Kx(k:Int)(w:aL)(N:Nat->Prop)(hN: ∀b,w.heap.size<=b->N b)(A:Option Addr)(c:Nat)(d:List Tr)(hK:InK w N A d)(j:d≠ [])(hc:d.length<=c)(hn:d.length<=1000):
 aX prog 60 #[m0 k,.slice A d.length c] w fun e w'=> ∃u,e= .returned u/\InT w' N (.mk k 0 d) u/\Ext w w':=
 (IE w k A c d (fun h=> by
  rcases hK with i|⟨o,p,i,-⟩
  · exact absurd i j
  · rw[h] at i;cases i) (fun b=> N b/\b < w.heap.size) (fun b f=> f.2) hK.bound (by omega)).mono fun e w' ⟨u,n,m,l⟩=>⟨u,n,m.mono (fun b f=> by
    rcases f with f|f
    · exact f.1
    · exact hN b f.1) (fun _ _=> rfl),l⟩
theorem Gw(t u:Tr)(ht:j0 D0 t=true)(i:j0 D0 u=true)(w:aL)(N:Nat->Prop)(hN: ∀b,w.heap.size<=b->N b)(f d:aT)(k:Lies w t f)(n:Lies w u d):
 aX prog 121 #[f,m0 0,d,m0 0] w fun e w'=> ∃r,e= .returned r/\InT w' N (Z0 u t 0 0) r/\Ext w w':=
 (Xy t w f 0 u d 0 30 (Z3 ht).1 k (by have:=(Z3 ht).2;omega) (Z3 i).1 (by have:=(Z3 i).2;omega) n (by omega) (by have:=(Z3 ht).2;omega) (by omega) (by have:=(Z3 ht).2;omega)).mono fun e w' ⟨r,m,j,l⟩=>⟨r,m,j.at' hN,l⟩
theorem Xo(t:Tr)(y:Int)(ht:j0 D0 t=true)(d:0<=y)(hy2:y<=1000)(w:aL)(N:Nat->Prop)(hN: ∀b,w.heap.size<=b->N b)(v:aT)(j:Lies w t v):
 aX prog 104 #[v,m0 y,m0 0] w fun e w'=> ∃r,e= .returned r/\InT w' N (shfT y t 0) r/\Ext w w':=
 (ID t w v y 0 30 (Z3 ht).1 j (by have:=(Z3 ht).2;omega) d (by omega) (by omega) (by have:=(Z3 ht).2;omega)).mono fun e w' ⟨r,f,i,k⟩=>⟨r,f,i.at' hN,k⟩
def Ug(N:Nat->Prop)(w:aL)(r:Tr×Int)(e:Ending)(w':aL):Prop:= ∃u t,e= .returned (.tuple #[u,.int .i64 r.2])/\InT w' N t u/\(r.2=0->t=r.1)/\Ext w w'
theorem q8.r{N:Nat->Prop}{w:aL}{r:Tr×Int}{e:Ending}{w':aL}(h:q8 N w r e w'):Ug N w r e w':=by
 obtain⟨u,f,b,d⟩:=h;exact⟨u,_,f,b,fun _=> rfl,d⟩
theorem Tl{r:Tr×Int}{c:Int}{T:Tr}(h:r=(j2,c))(hc:c≠0):r.2=c/\(c=0->T=r.1):=by
 subst h;exact⟨rfl,fun h=> absurd h hc⟩
theorem yr{r:Tr×Int}{T:Tr}(h:some (T,(0:Int))=some r):r.2=0/\((0:Int)=0->T=r.1):=by
 obtain rfl:=bY h;exact⟨rfl,fun _=> rfl⟩
theorem Tk{r:Tr×Int}{c:Int}{T:Tr}(d:c=0->some (T,(0:Int))=some r)(b:c≠0->r=(j2,c)):r.2=c/\(c=0->T=r.1):=by
 by_cases hc:c=0
 · subst hc
   exact yr (d rfl)
 · exact Tl (b hc) hc
section
variable {r : Nat} {w w' w0 w1 : aL} {P Q : aL → Prop}
theorem SJ.off{N:Nat->Prop}{A:Option Addr}{G:List Tr}{ca:Nat}(h:SJ w N A G ca)(hN: ∀b,N b->b≠r)(w':aL)(e:Off r w w'):SJ w' N A G ca:=
 ⟨fun b d=> h.hN b (bL e.1 d),h.hl,h.hc,h.hG.off e hN,h.h21,h.hA,h.hv⟩
theorem ie{N:Nat->Prop}{A:Option Addr}{G:List Tr}{ca:Nat}{f l j i n d:aT}{e k:TypeId}(o:w1=(w0.alloc (.cells #[f,l,j] e)).alloc (.cells #[i,n,d] k))(p:SJ w0 N A G ca):
 Ext w0 w1/\w1.heap[w0.heap.size+1]? =some (.cells #[i,n,d] k)/\ ∀w',Off (w0.heap.size+1) w1 w'->SJ w' (fun b=> N b/\b≠w0.heap.size+1) A G ca/\w'.cell? ⟨w0.heap.size,0,none⟩=some f/\w'.cell? ⟨w0.heap.size,1,none⟩=some l/\w'.cell? ⟨w0.heap.size,2,none⟩=some j/\w0.heap.size < w'.heap.size:=by
 obtain⟨v,q,s,m⟩:=box2 o;exact⟨m,q,both ((p.keep m (g:=w0.heap.size+1) (by omega) (by omega)).off fun b h=> h.2) (m7 v (by omega))⟩
end
theorem Qa(k:Int){w:aL}{N:Nat->Prop}(hN: ∀b,w.heap.size<=b->N b){A:Option Addr}{c:Nat}{d:List Tr}(hK:InK w N A d)(hc:(d.length==c && decide (0 < c)&& decide (c < 9))=true):
 aX prog 60 #[m0 k,.slice A c c] w fun e w'=> ∃f i,e= .returned (M0 k 0 f c i)/\InT w' N (.mk k 0 d) (M0 k 0 f c i)/\Ext w w':=by
 simp only[Bool.and_eq_true,beq_iff_eq,decide_eq_true_eq] at hc;obtain⟨⟨rfl,l⟩,o⟩:=hc;refine(Kx k w N hN A _ d hK (fun h=> by rw[h] at l;simp at l) (aN _) (by omega)).mono fun e w' ⟨u,m,j,n⟩=> ?_
 obtain⟨f,i,rfl,-⟩:=InT.mk_iff.1 j;exact⟨f,i,m,j,n⟩
theorem Si{t:Tr}{k n d:Int}{f:List Tr}(h:Ua t=(.mk k n f,d))(w:aL)(M:Nat->Prop)(l: ∀b,w.heap.size<=b->M b)(v:aT)(p:Lies w t v):
 aX prog 45 #[v] w fun e w'=> ∃A c,e= .returned (.tuple #[M0 k n A f.length c,m0 d])/\InT w' M (.mk k n f) (M0 k n A f.length c)/\InK w' M A f/\Ext w w':=
 (DH t w v p).mono fun e w' ⟨u,m,i,o⟩=> by
  rw[h] at m i;obtain⟨A,c,rfl,-,-,hK⟩:=InT.mk_iff.1 i;exact⟨A,c,m,InT.mono (fun b j=> l b j) (fun _ _=> rfl) i,InK.mono (fun b j=> l b j) (fun _ _=> rfl) hK,o⟩
section
variable {P : Program} {fn : Func} {a : Act} {w W : aL} {N : Nat → Prop} {r : Tr × Int} {c : Int} {g : Nat} {t : Tr} {u x y z : aT}
theorem Vg(e:(aR fn a.tmps).run P W= .ok (.tuple #[M0 0 0 none 0 0,m0 c]) W)(b:r=(j2,c))(hc:c≠0)(x:Ext w W)(d:a.defers= []):bodyPost P fn (Ug N w r) .ret a W:=
 aP e d ⟨_,.mk 0 0 [],by rw[b],d5 _ _ 0 0,fun h=> absurd (by rw[b] at h;exact h) hc,x⟩
theorem Va{w0:aL}(f:(aR fn a.tmps).run P (((w.setCell ⟨g,0,none⟩ x).setCell ⟨g,1,none⟩ y).setCell ⟨g,2,none⟩ z)= .ok (.tuple #[u,m0 c]) (((w.setCell ⟨g,0,none⟩ x).setCell ⟨g,1,none⟩ y).setCell ⟨g,2,none⟩ z))
 (hT:InT w (fun b=> N b/\b≠g) t u) (hr:r.2=c/\(c=0->t=r.1)) (X:Ext w0 w) (d:w0.heap.size<=g) (e:a.defers= []):bodyPost P fn (Ug N w0 r) .ret a (((w.setCell ⟨g,0,none⟩ x).setCell ⟨g,1,none⟩ y).setCell ⟨g,2,none⟩ z):=
 aP f e ⟨_,t,by rw[hr.1],hT.ret _ _ _,fun h=> hr.2 (hr.1.symm.trans h),X.set3 d _ _ _⟩
end
theorem Rp{s:Tr}{kind:Int}{r:Tr×Int}(h:i4 s kind=r): ∃k n b d,Hid (Ua s=(.mk k n b,d))/\Hid (d≠0->r=(j2,d))/\Hid (d=0->k≠kind->r=(j2,1))/\Hid (d=0->k=kind->r=(.mk k n b,0)):=by
 obtain⟨⟨k,n,b⟩,d,i,e,f⟩:=ZB h;exact⟨k,n,b,d,hdq i,hdq f,hdq fun hd=>(e hd).2,hdq fun hd=>(e hd).1⟩
theorem uI{w0 w1:aL}{N:Nat->Prop}{A:Option Addr}{G:List Tr}{ca:Nat}{f k j i m d:aT}{e o:TypeId}(n:w1=(w0.alloc (.cells #[f,k,j] e)).alloc (.cells #[i,m,d] o))(p:SJ w0 N A G ca):
 Ext w0 w1/\w1.heap[w0.heap.size]? =some (.cells #[f,k,j] e)/\ ∀w',Off w0.heap.size w1 w'->SJ w' (fun b=> N b/\b≠w0.heap.size) A G ca/\w'.cell? ⟨w0.heap.size+1,0,none⟩=some i/\w'.cell? ⟨w0.heap.size+1,1,none⟩=some m/\w'.cell? ⟨w0.heap.size+1,2,none⟩=some d/\w0.heap.size+1 < w'.heap.size:=by
 obtain⟨v,q,s,l⟩:=box2 n;exact⟨l,v,both ((p.keep l (g:=w0.heap.size) (aN _) (by omega)).off fun b h=> h.2) (m7 q (by omega))⟩
end Go.Proofs.YtckhbnmfnpolgaaGreat
namespace Go.Proofs.YtckhbnmfnpolgaaGreat
open Go.RowKit
open M (Hd HR Cv Ty Lim Wb y6 U4 If)
theorem S4.ite{p:Prop}[Decidable p]{x y u v:An}(h:S4 x u)(k:S4 y v):S4 (if p then x else y) (if p then u else v):=by
 by_cases e:p
 · rw[if_pos e,if_pos e];exact h
 · rw[if_neg e,if_neg e];exact k
theorem dE: ∀(f:Nat) (G:List Tr) (t:Tr),S4 (Q0 f G t) (Q0 (f+1) G t)
 |0,G,t=> fun r h=> by cases h
 |f+1,G,.mk k n b=> by
  have h:=dE f;have k: ∀i,S4 (ia (Q0 f) G k b i) (ia (Q0 (f+1)) G k b i):=fun i=>(h _ _).ite (h _ _)
  have z:=S4.rfl';exact(z _).ite (S4.thn (S4.ite (z _) <|S4.ite (z _) <|S4.ite (z _) <|S4.ite (z _) <|
   S4.ite ((k 0).chk _ (z _)) <|
   S4.ite (((k 0).frm 2).thn fun _=>((k 1).frm 2).thn fun _=> z _) <|
   S4.ite (((k 0).frm 2).thn fun _=>(k 1).thn fun _=>((h _ _).frm 2).thn fun _=>((h _ _).frm 2).thn fun _=> z _) <|
   S4.ite (((k 0).frm 3).thn fun _=>(k 1).chk _ (z _)) <|
   S4.ite ((k 0).fam _ ((k 1).chk _ ((k 2).chk _ ((k 3).chk _ (z _))))) <|
   S4.ite (((k 0).frm 2).thn fun _=>(k 1).chk _ ((k 2).chk _ (z _))) <|
   S4.ite ((k 0).thn fun _=>((h _ _).frm 2).thn fun _=> z _) <|
   S4.ite (((k 1).frm 10).thn fun _=>(k 0).fam _ ((k 2).chk _ (z _))) <|
   S4.ite (((k 0).frm 2).thn fun _=>(z _).thn fun _=>(k 1).chk _ ((k 2).chk _ (z _))) <|
   ((k 0).frm 13).thn fun _=> z _) fun _=> z _)
theorem Ij{f b:Nat}(h:f<=b)(G:List Tr)(t:Tr):S4 (Q0 f G t) (Q0 b G t):=by
 induction h with
 |refl=> exact S4.rfl' _
 |step _ ih=> exact fun r e=> dE _ G t r (ih r e)
def i8(G:List Tr)(t:Tr):Prop:= ∃f,Is (Q0 f G t)
theorem i8.at{G:List Tr}{t:Tr}(h:i8 G t): ∃f,∀b,f<=b->Is (Q0 b G t):=by
 obtain⟨f,r,e⟩:=h;exact⟨f,fun b hf=>⟨r,Ij hf G t r e⟩⟩
theorem i8.of{G:List Tr}{k n:Int}{b:List Tr}(f:Nat)(h:Is (ke G (Q0 f) (ia (Q0 f) G k b) k n b)):i8 G (.mk k n b):=by
 refine⟨f+1, ?_⟩;unfold Q0;by_cases e:j0 D0 (.mk k n b)=false\/20 < G.length
 · rw[if_pos e];exact Is.mk _
 · rw[if_neg e];exact h.thn fun _ _=> Is.mk _
section
variable {G : List M.Tm}
theorem Xq{f:Nat}{k:Int}{A t:M.Tm}(hk:E4 k 1=1)(h:Is (Q0 f (ctxE (A::G)) (enc t))):Is (ia (Q0 f) (ctxE G) k [enc A,enc t] 1):=by
 unfold ia;rw[if_neg (by rw[hk];decide),show ctxE G++ [kd [enc A,enc t] 0]=ctxE (A::G) from(yd A G).symm];exact h
theorem Mw(hG:O6 G)(o: ∀A,y6 G A->j0 D0 (enc A)=true-> ∀t,j0 D0 (enc t)=true->i8 (ctxE (A::G)) (enc t)){A:M.Tm}(hA:j0 D0 (enc A)=true)(h:i8 (ctxE G) (enc A))(t:M.Tm)(ht:j0 D0 (enc t)=true):
 ∃f,∀d,f<=d->Is (Q0 d (ctxE G) (enc A))/\ ∀s,X0 (Q0 d (ctxE G) (enc A)) 2=some (s,0)->Is (Q0 d (ctxE (A::G)) (enc t)):=by
 obtain⟨e,k⟩:=h.at;by_cases l: ∃s,X0 (Q0 e (ctxE G) (enc A)) 2=some (s,0)
 · obtain⟨s,hs⟩:=l
   obtain⟨d,j⟩:=gg hG hA hs;obtain⟨S,i,-,-,-,-,b,-⟩:=Sd (snd d) hG hA j;obtain⟨n,m⟩:=(o A b hA t ht).at;exact⟨max e n,fun d hf=>⟨k d (by omega),fun _ _=> m d (by omega)⟩⟩
 · refine⟨e,fun d hf=>⟨k d hf,fun s hs=> ?_⟩⟩
   exfalso
   obtain⟨r,hr⟩:=k e (aN _);have:=Ij hf (ctxE G) (enc A) r hr;rw[this] at hs;rw[hr] at l;exact l ⟨s,hs⟩
def nr(G:List M.Tm)(t:M.Tm):Prop:=j0 D0 (enc t)=true->i8 (ctxE G) (enc t)
theorem YD(hG:O6 G)(J: ∀A,y6 G A->j0 D0 (enc A)=true-> ∀t,j0 D0 (enc t)=true->i8 (ctxE (A::G)) (enc t)):If G (nr G) where
 var:=fun n hv=> i8.of 0 (Is.mk (Mr (ctxE G) (n:Int)))
 sort:=fun n hv=> i8.of 0 (Is.mk (if 3<=(n:Int) then(j2,(1:Int)) else(m6 ((n:Int)+1),0)))
 nat:=fun hv=> i8.of 0 (Is.mk (m6 0,0))
 zero:=fun hv=> i8.of 0 (Is.mk (n5,0))
 succ:=fun{a} h hv=> by
  obtain⟨f,d⟩:=(h (L7 hv (by simp))).at;exact i8.of f ((d f (aN _)).chk n5 (Is.mk _))
 pi:=fun{A} B h hv=> by
  obtain⟨f,d⟩:=Mw hG J (L7 hv (by simp)) (h (L7 hv (by simp))) B (L7 hv (by simp));obtain⟨m,o⟩:=d f (aN _);exact i8.of f ((m.frm 2).thn fun s hs=>((Xq rfl (o s hs)).frm 2).thn fun _ _=> Is.mk _)
 sg:=fun{A} B h hv=> by
  obtain⟨f,d⟩:=Mw hG J (L7 hv (by simp)) (h (L7 hv (by simp))) B (L7 hv (by simp));obtain⟨m,o⟩:=d f (aN _);exact i8.of f ((m.frm 2).thn fun s hs=>((Xq rfl (o s hs)).frm 2).thn fun _ _=> Is.mk _)
 lam:=fun{A} t h hv=> by
  have hA:=L7 hv (show enc A∈ [enc A,enc t] by simp);have ht:=L7 hv (show enc t∈ [enc A,enc t] by simp);obtain⟨f,d⟩:=Mw hG J hA (h hA) t ht;obtain⟨m,o⟩:=d f (aN _);have e2:ctxE G++ [kd [enc A,enc t] 0]=ctxE (A::G):=(yd A G).symm;by_cases H: ∃s b,X0 (Q0 f (ctxE G) (enc A)) 2=some (s,0)/\Q0 f (ctxE (A::G)) (enc t)=some (b,0)
  · obtain⟨s,b,K,I⟩:=H
    obtain⟨Z,X⟩:=gg hG hA K;obtain⟨S,i,-,-,-,-,V,-⟩:=Sd (snd Z) hG hA X;obtain⟨B,rfl,-,-,vB⟩:=jt (hG.cons V hA) ht I;obtain⟨j,L⟩:=(J A V hA B vB).at;refine i8.of (max f j) ?_;obtain⟨R,Y⟩:=d (max f j) (by omega);refine(R.frm 2).thn fun F e4=>(Xq rfl (Y F e4)).thn fun b' e5=>(R.frm 2).thn fun _ _=> ?_
    have E:=Ny rfl e5;rw[Ij (show f<=max f j by omega) _ _ _ I] at E;simp only[bX,Prod.mk.injEq,and_true] at E;subst E;rw[e2];exact((L (max f j) (by omega)).frm 2).thn fun _ _=> Is.mk _
  · refine i8.of f ?_
    refine(m.frm 2).thn fun s K=>(Xq rfl (o s K)).thn fun b I=> ?_
    exact absurd ⟨s,b,K,Ny rfl I⟩ H
 app:=fun{g a} h k hv=> by
  obtain⟨l,d⟩:=(h (L7 hv (by simp))).at;obtain⟨j,m⟩:=(k (L7 hv (by simp))).at;exact i8.of (max l j) (((d _ (Nat.le_max_left ..)).frm 3).thn fun _ _=>(m _ (Nat.le_max_right ..)).chk _ (Is.mk _))
 elim:=fun{p z s a} d m o L hv=> by
  obtain⟨l,q⟩:=(d (L7 hv (by simp))).at;obtain⟨j,v⟩:=(m (L7 hv (by simp))).at;obtain⟨D,C⟩:=(o (L7 hv (by simp))).at;obtain⟨f4,g4⟩:=(L (L7 hv (by simp))).at;exact i8.of (l+j+D+f4) ((q _ (by omega)).fam _ ((v _ (by omega)).chk _ ((C _ (by omega)).chk _ ((g4 _ (by omega)).chk _ (Is.mk _)))))
 id:=fun{T a b} d m o hv=> by
  obtain⟨l,q⟩:=(d (L7 hv (by simp))).at;obtain⟨j,v⟩:=(m (L7 hv (by simp))).at;obtain⟨D,C⟩:=(o (L7 hv (by simp))).at;exact i8.of (l+j+D) (((q _ (by omega)).frm 2).thn fun _ _=>(v _ (by omega)).chk _ ((C _ (by omega)).chk _ (Is.mk _)))
 refl:=fun{a} h k hv=> by
  have U:=L7 hv (show enc a∈ [enc a] by simp);obtain⟨l,q⟩:=(h U).at;by_cases H: ∃s,Q0 l (ctxE G) (enc a)=some (s,0)
  · obtain⟨s,e⟩:=H
    obtain⟨A,rfl,tA,-,vA⟩:=jt hG U e;obtain⟨j,v⟩:=(k A tA vA).at;refine i8.of (l+j) ((q _ (by omega)).thn fun F O=> ?_);have E:Q0 (l+j) (ctxE G) (enc a)=some (F,0):=O;rw[Ij (show l<=l+j by omega) _ _ _ e] at E;simp only[bX,Prod.mk.injEq,and_true] at E;subst E;exact((v (l+j) (by omega)).frm 2).thn fun _ _=> Is.mk _
  · exact i8.of l ((q _ (by omega)).thn fun F O=> absurd ⟨F,O⟩ H)
 move:=fun{p e a} d m o hv=> by
  obtain⟨l,q⟩:=(d (L7 hv (by simp))).at;obtain⟨j,v⟩:=(m (L7 hv (by simp))).at;obtain⟨D,C⟩:=(o (L7 hv (by simp))).at;exact i8.of (l+j+D) (((v _ (by omega)).frm 10).thn fun _ _=>(q _ (by omega)).fam _ ((C _ (by omega)).chk _ (Is.mk _)))
 pair:=fun{T a b} d m o hv=> by
  obtain⟨l,q⟩:=(d (L7 hv (by simp))).at;obtain⟨j,v⟩:=(m (L7 hv (by simp))).at;obtain⟨D,C⟩:=(o (L7 hv (by simp))).at;exact i8.of (l+j+D) (((q _ (by omega)).frm 2).thn fun _ _=>(Is.mk _).thn fun _ _=>(v _ (by omega)).chk _ ((C _ (by omega)).chk _ (Is.mk _)))
 fst:=fun{a} h hv=> by
  obtain⟨f,d⟩:=(h (L7 hv (by simp))).at;exact i8.of f (((d f (aN _)).frm 13).thn fun _ _=> Is.mk _)
 snd:=fun{a} h hv=> by
  obtain⟨f,d⟩:=(h (L7 hv (by simp))).at;exact i8.of f (((d f (aN _)).frm 13).thn fun _ _=> Is.mk _)
end
theorem Qw: ∀(d:Nat) (G:List M.Tm),21<=G.length+d->O6 G-> ∀t,nr G t:=by
 intro d
 induction d with
 |zero=>
  intro G hd hG t hv;refine⟨1, ?_⟩;generalize enc t=x;obtain⟨k,n,e⟩:=x;unfold Q0;rw[if_pos (.inr (by rw[q28];omega))];exact Is.mk _
 |succ d ih=>
  intro G hd hG;exact fun t=> M.allW (YD hG fun A b v t=> ih (A::G) (by simp only[List.length_cons];omega) (hG.cons b v) t) hG.wf.wf t
end Go.Proofs.YtckhbnmfnpolgaaGreat
namespace Go.Proofs.YtckhbnmfnpolgaaGreat
open Go.RowKit
attribute [local go_sem ↓] Go.wp_at_zero Go.wp_at_succ
theorem y130{wC:aL}{A:Option Addr}{ca:Nat}{G:List Tr}{s:Tr->An}(hI:ue wC A ca G s)(w0:aL)(N:Nat->Prop)(hx:Ext wC w0)(hN: ∀b,w0.heap.size<=b->N b)(hG:InK w0 N A G)(t:Tr)(v:aT)(ht:InT w0 N t v)(hv:j0 D0 t=true)(kind:Int)(r:Tr×Int)(h:X0 (s t) kind=some r):aX prog 95 #[.slice A G.length ca,v,m0 kind] w0 (q8 N w0 r):=by
 obtain⟨sA,c,h1,h2,h3⟩:=Ud h;obtain⟨k,n,ks⟩:=t;obtain⟨At,ct,rfl,hl,hc,hK⟩:=InT.mk_iff.1 ht;have HT:=hdq ht;have HI:=hdq hI;have HN:=hdq hN;have HG:=hdq hG;have HV:=hdq hv;have H1:=hdq h1;have H2:=hdq h2;have T:=hdq h3;clear h1 h2 h3;clear h hK ht hI hN hG hv;obtain⟨w1,I⟩: ∃x,x=((w0.alloc (H0 k n At ks.length ct)).alloc (H0 0 0 none 0 0)):=⟨_,rfl⟩;obtain⟨U,C,s1,m⟩:=box2 I;obtain⟨M,p⟩: ∃M,M=(fun b=> N b/\b≠w0.heap.size+1):=⟨_,rfl⟩;have O3:=hdq (show∀b,w1.heap.size<=b->M b from p▸Ia HN.out m.size (by omega));have zr:=hdq (show InK w1 M A G from p▸HG.out.keep m (aQ _));have Gg:=hdq (show InT w1 M (.mk k n ks) _ from p▸HT.out.keep m (aQ _));have HM:=hdq p;clear p;go_enter func95,ntmps95;go_wp2_with fail;rw[<-I];clear I;refine(HI.out w1 M (hx.trans m) O3.out zr.out _ _ Gg.out HV.out _ H1.out).mono ?_;rintro e j ⟨u,rfl,hT,B⟩;have s2:=B.size;obtain⟨Y,H,R,L,Z,rfl⟩:=hT.three;have T1:=hdq hT;clear hT;by_cases f:c=0
 case neg=>
  obtain rfl:=T.out f;have t1:(c !=0)=true:=by simp[f]
  clear f T;have l:=B;have F:=cb3 (l.blk U);have o:=cbn (l.blk C);have F9:Ext j (j.alloc (H0 Y H R L Z)):=(xr j).alloc _;have K:=m;have S:=K.trans B;have Pr:=cbn (F9.blk (l.blk C));go_wp2_with fail;refine aP (v:= .tuple #[M0 0 0 none 0 0,m0 c]) (by simp[aR,results95,go_sem,o,Pr]) rfl ⟨_,rfl,d5 _ _ 0 0,((S.trans F9).set3 (by omega) _ _ _)⟩
 obtain⟨⟨⟨q1,q2,q3⟩,d⟩,V⟩: ∃q,i4 sA kind=q:=⟨_,rfl⟩;obtain rfl:r=(.mk q1 q2 q3,d):=by rw[<-V];simpa using(H2.out f).symm
 subst f;clear H2 T;have l:=B;have F:=cb3 (l.blk U);have o:=m9 (l.blk C);obtain⟨E,i⟩: ∃x,x=j.alloc (H0 Y H R L Z):=⟨_,rfl⟩;have X:Ext j E:=i▸(xr j).alloc _;have O:=heap_alloc_new j (H0 Y H R L Z);rw[<-i] at O;have s3:j.heap.size < E.heap.size:=O1 O;go_wp2_with fail;rw[<-i];clear i;clear F o;have j4:=l.trans X;have T6:=X;have J:=hdq (Qz sA kind E M (fun b hb=> O3.out b (by have:=j4.size;omega)) _ (T1.out.lies'.ext T6));rw[V] at J;refine(J.out).mono ?_;rintro e w4 ⟨u,rfl,hT,D⟩;have s4:=D.size;simp only at hT⊢;obtain⟨a2,b2,A2,l2,c2,rfl⟩:=hT.three;have T2:=hdq hT;clear hT V J;have o9:=j4.trans D;have F:=cb3 (o9.blk U);have o:=m9 (o9.blk C);have U7:=D;have Zx:=cb3 (U7.blk O);have K:=m;have S:=K.trans B;have l9:=S.trans X;have s8:=l9.trans D;go_wp2_with fail;refine aP (v:= .tuple #[M0 a2 b2 A2 l2 c2,m0 d]) (by simp[aR,results95,go_sem,o]) rfl ⟨_,rfl,InT.ret (HM.out▸T2.out) _ _ _,(s8.set3 (by omega) _ _ _)⟩
theorem Sv{wC:aL}{A:Option Addr}{ca:Nat}{G:List Tr}{f:Tr->An}(l:ue wC A ca G f)(w0:aL)(N:Nat->Prop)(hx:Ext wC w0)(hN: ∀b,w0.heap.size<=b->N b)(hG:InK w0 N A G)(t:Tr)(v:aT)(ht:InT w0 N t v)(hv:j0 D0 t=true)(r:Tr×Int)(h:X0 (f t) 2=some r):aX prog 49 #[.slice A G.length ca,v] w0 fun e w'=> e= .returned (.tuple #[m0 r.1.num,m0 r.2])/\Ext w0 w':=by
 obtain⟨⟨V,K,R⟩,d⟩:=r;have s:=hdq h;obtain⟨k,n,p⟩:=t;obtain⟨At,ct,rfl,hl,hc,hK⟩:=InT.mk_iff.1 ht;have o:=hdq ht;have C:=hdq l;have F:=hdq hN;have q:=hdq hG;have D:=hdq hv;clear h hK ht l hN hG hv;obtain⟨w1,j⟩: ∃x,x=(w0.alloc (H0 k n At p.length ct)):=⟨_,rfl⟩;obtain⟨O,X,i⟩:=QB j;go_enter func49,ntmps49;go_wp2_with fail;rw[<-j];clear j;refine(y130 C.out w1 N (hx.trans i) (fun b Y=> F.out b (by have:=i.size;omega)) (q.out.later i) _ _ (o.out.later i) D.out 2 _ s.out).mono ?_;rintro e J ⟨u,rfl,hT,m⟩;have T:=m.size;obtain⟨S,U,rfl,L,H,I⟩:=InT.mk_iff.1 hT;clear hT I;have E:=i;have B:=E.trans m;go_wp2_with fail;go_ret2;exact⟨rfl,B.alloc _⟩
end Go.Proofs.YtckhbnmfnpolgaaGreat
namespace Go.Proofs.YtckhbnmfnpolgaaGreat
open Go Go.RowKit
attribute [local go_sem ↓] Go.wp_at_zero Go.wp_at_succ
theorem zF{wC:aL}{p1 p2:Nat}{A:Option Addr}{G:List Tr}{At:Option Addr}{f:List Tr}{ty:Nat->An}(k n:Int)(ca ct:Nat)(q:f.length<=ct)(l8:ct<=maxLen)(w0:aL)(N:Nat->Prop)(hJ:Mb wC w0 N p1 p2 A G At f ty)(j6:f.length=4)(hv0:j0 D0 (kd f 0)=true)(r:Tr×Int)(h:km ty (kd f 0) (kd f 3)=some r):aX prog 147 #[.agg #[.slice A G.length ca,m0 k,m0 n,.slice At f.length ct,.func (.func 105) #[] #[.pointer (some ⟨p1,0,none⟩),.pointer (some ⟨p2,0,none⟩)]]] w0 (q8 N w0 r):=by
 have im:=hdq hv0;clear hv0;obtain⟨c,H,C,I⟩:=Jn h;clear h;obtain⟨b,o,rfl,-,⟨O8,Q6,O7,P5,P4,K0⟩,⟨ah,bm,aj,dc,df,K1⟩,⟨pk,oo,ot,po,pg,K2⟩,k31,k32,k33,k34,k35,K3⟩:=q38 hJ.hK j6;have hp:=oK j6;have J2:=hdq j6;clear j6;go_enter func147,ntmps147;go_wp2_with fail;generalize Y:aO (aO w0 _) _=w1;obtain⟨j,br,S⟩:=Ze Y.symm hJ.hN;have l:=hdq (hJ.keep j (g:=w0.heap.size+1) (aQ _) (O1 br));have hz:w1.heap.size=w0.heap.size+1+1:=by rw[<-Y];simp
 clear hJ;have F:=hdq (both S (both (K0.up j (aQ _)) (both (K1.up j (aQ _)) (both (K2.up j (aQ _)) (K3.up j (aQ _))))));have X:=xr w1;have Q:=F.out _ X.off;clear S Y K0 K1 K2 K3;generalize Y:aO w1 _=w2;obtain⟨m,e⟩:=nb Y;rw[hz] at m;clear hz;replace F:=hdq (both (rb F.out (X.trans e)) (m7 m (by omega)));replace X:=X.trans e;replace l:=hdq (l.out.ext X);replace br:=X.blk br;replace j:=j.trans X;replace X:=xr w2;replace Q:=F.out _ X.off;clear Y m e;refine rgn (w0.heap.size+1) (by kernel_rfl) X ?_;replace X:=X.drew;refine O2 [0] 3 (by kernel_rfl) X.off (fun _ _ _ _ _ h=> h) ?_;refine tk rfl (by rfl) (by intro w X;have Q:=F.out _ X;go_simp;(try with_reducible rfl)) ?_
 try simp only[N2]
 replace Q:=F.out _ X.off;refine O0 1 (by kernel_rfl) rfl rfl (fun K hK=> ?_)
 go_simp
 go_at_call 56
 refine(de _ 6 none 0 0).mono ?_;rintro e w3 ⟨rfl,e⟩;replace X:=X.trans e;replace Q:=F.out _ X.off;refine hK.out _ _ X.off (fun _=> ?_);clear hK K;refine O0 2 (by kernel_rfl) rfl rfl (fun K hK=> ?_)
 go_simp
 go_at_call 181
 refine(YC k n ca ct q l8 _ _ (l.out.ext X) 0 (by rw[J2.out];decide) n5 _ (d5 _ _ 6 0) c H.out).mono ?_;rintro e w4 ⟨rfl,e⟩;replace X:=X.trans e;replace Q:=F.out _ X.off;refine hK.out _ _ X.off (fun _=> ?_);clear hK K;refine O2 [3] 0 (by kernel_rfl) X.off (fun _ _ _ _ _ h=> h) ?_;refine tk rfl (by rfl) (by intro w X;go_simp;(try with_reducible rfl)) ?_
 try simp only[N2]
 refine bP (by kernel_rfl) ?_ _;obtain⟨T,t⟩ |rfl:=cz c
 · have R:=cbn (X.blk br)
   go_wp2_with fail;exact D9 (by simp[aR,results147,go_sem,R]) (I.out T.out) ((j.trans X).set3 (aQ _) _ _ _) rfl
 obtain⟨d,p,h2,s,O⟩:=Mn (C.out rfl);clear H C I;have H:=hdq p;have C:=hdq h2;have I:=hdq s;have Z:=hdq O;clear p h2 s O;go_wp2_with fail;refine rgn (w0.heap.size+1) (by kernel_rfl) X ?_;replace X:=X.drew;refine O2 [0] 10 (by kernel_rfl) X.off (fun _ _ _ _ _ h=> h) ?_;refine tk rfl (by rfl) (by intro w X;have Q:=F.out _ X;go_simp;(try with_reducible rfl)) ?_
 try simp only[N2]
 replace Q:=F.out _ X.off;refine cl 9 70 7 #[true,true,true,true,true,true,true,true,true,false,false] 2 [.any,Sp.tree (fun b=> N b/\b≠w0.heap.size+1) (.mk 7 0 []),Sp.row (fun b=> N b/\b≠w0.heap.size+1) [kd f 0,(.mk 7 0 [])],Sp.tree (fun b=> N b/\b≠w0.heap.size+1) (.mk 5 0 [kd f 0,(.mk 7 0 [])]),Sp.two (fun b=> N b/\b≠w0.heap.size+1) (mkV (.mk 5 0 [kd f 0,.mk 7 0 []])).1 (m0 (mkV (.mk 5 0 [kd f 0,.mk 7 0 []])).2),Sp.two (fun b=> N b/\b≠w0.heap.size+1) (mkV (.mk 5 0 [kd f 0,.mk 7 0 []])).1 (m0 (mkV (.mk 5 0 [kd f 0,.mk 7 0 []])).2),Sp.tree (fun b=> N b/\b≠w0.heap.size+1) (mkV (.mk 5 0 [kd f 0,.mk 7 0 []])).1,Sp.val (m0 (mkV (.mk 5 0 [kd f 0,.mk 7 0 []])).2),Sp.box w4.drew] [1,2,3,4,5,6,7,8] (fun w h=>(X.trans h).off) (by kernel_rfl) rfl rfl (fun _ _ _ _ h=> h) ?hx3 ?st3 ?fi3
 case hx3=>(intro a w z hE J D;obtain⟨u5,B,h5⟩: ∃u,a.eval (.tmp 23)= .tuple #[u,m0 (mkV (.mk 5 0 [kd f 0,.mk 7 0 []])).2]/\InT w (Mz _ z) (mkV (.mk 5 0 [kd f 0,.mk 7 0 []])).1 u:=D 5 23 (by kernel_rfl);replace B:=D3 B;exact⟨m0 (mkV (.mk 5 0 [kd f 0,.mk 7 0 []])).2,Or.inl ⟨by rfl,fun w'' _=> by go_simp⟩,rfl⟩)
 case st3=>
  repeat' first|exact trivial|refine And.intro ⟨_,rfl, ?_⟩ ?_
  all_goals(intro a w z hE J D;refine Ord.step_of rfl rfl ?_;intro K hK)
  · (go_simp;go_at_call 56;refine(de w 7 none 0 0).mono ?_;rintro e w' ⟨rfl,E⟩;exact hK _ _ ⟨_,z,rfl,n9 hE E,d5 _ _ _ _⟩)
  · (have f24:=D3 (show a.eval (.tmp 24)= M0 O8 Q6 O7 P5 P4 from J 24 (by kernel_rfl));have p:InT w (Mz _ z) (.mk 7 0 []) (a.eval (.tmp 25)):=D 1 25 (by kernel_rfl);obtain⟨_,_,_,_,_,f1⟩:=p.three;rw[f1] at p;replace f1:=D3 f1;go_simp;obtain⟨E,h⟩:=K6 25 (Q.1.2.1.i.oldG' hE) p (md Q.1.1.1 hE);exact hK _ _ ⟨_,z,rfl,n9 hE E,_,2,rfl,aN _,by decide,h⟩)
  · (obtain⟨A2,c2,f2,Ii,Kc,Kn⟩: ∃A c,a.eval (.tmp 26)= .slice A 2 c/\2<=c/\c<=maxLen/\InK w (Mz _ z) A [kd f 0,(.mk 7 0 [])]:=D 2 26 (by kernel_rfl);replace f2:=D3 f2;go_simp;go_at_call 56;refine(de w 5 A2 2 c2).mono ?_;rintro e w' ⟨rfl,E⟩;exact hK _ _ ⟨_,z,rfl,n9 hE E,InT.mk_iff.2 ⟨_,_,rfl,Ii,Kc,Kn.later E⟩⟩)
  · (have s:InT w (Mz _ z) (.mk 5 0 [kd f 0,(.mk 7 0 [])]) (a.eval (.tmp 27)):=D 3 27 (by kernel_rfl);obtain⟨_,_,_,_,_,f3⟩:=s.three;rw[f3] at s;replace f3:=D3 f3;go_simp;go_at_call 103;refine(Ng s).mono ?_;rintro e w' ⟨_,_,_,_,_,rfl,hu,E⟩;exact hK _ _ ⟨_,z,rfl,n9 hE E,_,rfl,hu⟩)
  · (obtain⟨u4,f4,O⟩: ∃u,a.eval (.tmp 28)= .tuple #[u,m0 (mkV (.mk 5 0 [kd f 0,.mk 7 0 []])).2]/\InT w (Mz _ z) (mkV (.mk 5 0 [kd f 0,.mk 7 0 []])).1 u:=D 4 28 (by kernel_rfl);replace f4:=D3 f4;go_simp;exact hK _ _ ⟨_,z,rfl,hE.id,_,rfl,O⟩)
  · (obtain⟨u5,B,h5⟩: ∃u,a.eval (.tmp 23)= .tuple #[u,m0 (mkV (.mk 5 0 [kd f 0,.mk 7 0 []])).2]/\InT w (Mz _ z) (mkV (.mk 5 0 [kd f 0,.mk 7 0 []])).1 u:=D 5 23 (by kernel_rfl);replace B:=D3 B;go_simp;exact hK _ _ ⟨_,z,rfl,hE.id,h5⟩)
  · (obtain⟨u5,B,h5⟩: ∃u,a.eval (.tmp 23)= .tuple #[u,m0 (mkV (.mk 5 0 [kd f 0,.mk 7 0 []])).2]/\InT w (Mz _ z) (mkV (.mk 5 0 [kd f 0,.mk 7 0 []])).1 u:=D 5 23 (by kernel_rfl);replace B:=D3 B;go_simp;exact hK _ _ ⟨_,z,rfl,hE.id,rfl⟩)
  · (go_simp;exact hK _ _ ⟨_,_,rfl,EG.box hE,_,rfl,List.mem_cons_self ..,(show _<=w.heap.size from hE.1.size),heap_alloc_new _ _⟩)
 case fi3=>
  intro v w' z hE hG;have ht:InT w' (Mz _ z) (mkV (.mk 5 0 [kd f 0,.mk 7 0 []])).1 (v 6):=hG 6 (by decide) (by kernel_rfl);obtain⟨a1,a2,a3,a4,a5,C4⟩:=ht.three;rw[C4] at ht;obtain⟨gb,hv2,gz,bl,bx⟩: ∃g,v 8= .pointer (some ⟨g,0,none⟩)/\g∈z/\w4.drew.heap.size<=g/\w'.heap[g]? =_:=hG 8 (by decide) (by kernel_rfl);have hv3:v 7= m0 (mkV (.mk 5 0 [kd f 0,.mk 7 0 []])).2:=hG 7 (by decide) (by kernel_rfl);simp only[List.foldl,Ord.dstOf,List.getElem?_toArray,List.getElem?_cons_zero,List.getElem?_cons_succ,Option.bind_some,Act.put,List.setIfInBounds_toArray,List.set_cons_zero,List.set_cons_succ];rw[C4,hv2,hv3];replace ht:=(InT.mono (fun b (hb:Mz _ z b)=>(⟨hb.1,fun h=> hb.2 (h▸gz)⟩:(fun b=> N b/\b≠w0.heap.size+1) b/\b≠gb)) (fun _ _=> rfl) ht).ret (m0 a1) (m0 a2) (.slice a3 a4 a5);have L:=De X bl br;have yq:=bL X.size bl;have X1:=X;replace X:=X.trans hE.1;have Zx:=cbn bx;clear hG hE gz C4 hv2;refine O0 9 (by kernel_rfl) rfl rfl (fun K hK=> ?_)
  go_simp
  have e:=Off.new3 X (bL X1.size bl) bx (m0 a1) (m0 a2) (.slice a3 a4 a5);refine hK.out _ _ e.1.off (fun _=> ?_);clear hK K Zx;replace X:=e.1;have m:=e.2;generalize cM (cM (cM w' _ _) _ _) _ _=w5 at*;refine O2 [10] 0 (by kernel_rfl) X.off (fun _ _ _ _ _ h=> h) ?_;refine tk rfl (by rfl) (by intro w X;go_simp;(try with_reducible rfl)) ?_
  try simp only[N2]
  refine bP (by kernel_rfl) ?_ _;clear bx e X1;have F0:=F;have HJ0:=l;have dy:=br;have e0:=j;have U:=X;have V:=m;have Cw:=L;replace F:=hdq (both (rb F.out X) (both (m7 m L) (ht.up (xr _))));replace l:=hdq (l.out.ext X);replace br:=X.blk br;replace j:=j.trans X;replace X:=xr w5;replace Q:=F.out _ X.off;clear m ht L bl;go_wp2_with fail;refine(gy k n ca ct q l8 _ _ (l.out.ext X) 1 (by rw[J2.out];decide) _ _ Q.2.2 _ d H.out C.out).mono ?_;rintro e w6 ⟨rfl,e⟩;replace X:=X.trans e;replace Q:=F.out _ X.off;replace U:=U.trans e;obtain⟨T,t⟩ |rfl:=cz d
  · have R:=cbn (X.blk br)
    go_wp2_with fail;exact D9 (by simp[aR,results147,go_sem,R]) (Z.out T.out) ((j.trans X).set3 (aQ _) _ _ _) rfl
  obtain⟨d,p,h2,s,O⟩:=Mn (I.out rfl);clear H C I Z;have H:=hdq p;have C:=hdq h2;have I:=hdq s;have Z:=hdq O;clear p h2 s O;go_wp2_with fail;refine(uH (kd f 0) _ (fun b=>(N b/\b≠w0.heap.size+1)/\b≠gb) (Ia Q.1.1.1.1 (aN _) Q.2.1.2.2.2) _ ((F0.out _ (xr _).off).1.2.1.i.keep U yq) im.out).mono ?_;rintro e w7 ⟨u,rfl,hT,e⟩;obtain⟨u1,u2,u3,u4,u5,rfl⟩:=hT.three;replace U:=U.trans e;replace X:=X.trans e;replace Q:=F.out _ X.off;have Zx:=cbn (X.blk V);obtain⟨X2,m⟩:=Off.new3 U yq (X.blk V) (m0 u1) (m0 u2) (.slice u3 u4 u5);have Q2:=F0.out _ X2.off;have Q3:=cb3 m;replace hT:=hT.ret (m0 u1) (m0 u2) (.slice u3 u4 u5);go_wp2_with fail;clear Zx Q Q2 Q3 X F l br j U V;generalize cM (cM (cM w7 _ _) _ _) _ _=w8 at*;have F:=F0;have l:=HJ0;have br:=dy;have j:=e0;have X:=X2;clear F0 HJ0 dy e0 X2;replace F:=hdq (both (rb F.out X) (both (m7 m Cw) (hT.up (xr _))));replace l:=hdq (l.out.ext X);replace br:=X.blk br;replace j:=j.trans X;replace X:=xr w8;have Q:=F.out _ X.off;clear m hT Cw yq;refine(gy k n ca ct q l8 _ _ (l.out.ext X) 2 (by rw[J2.out];decide) _ _ Q.2.2 _ d H.out C.out).mono ?_;rintro e w9 ⟨rfl,e⟩;replace X:=X.trans e;replace Q:=F.out _ X.off;obtain⟨T,t⟩ |rfl:=cz d
  · have R:=cbn (X.blk br)
    go_wp2_with fail;exact D9 (by simp[aR,results147,go_sem,R]) (Z.out T.out) ((j.trans X).set3 (aQ _) _ _ _) rfl
  obtain⟨c,G1,G2,G3⟩:=Sc (I.out rfl);clear H C I Z;go_wp2_with fail;refine rgn (w0.heap.size+1) (by kernel_rfl) X ?_;replace X:=X.drew;refine O2 [0] 3 (by kernel_rfl) X.off (fun _ _ _ _ _ h=> h) ?_;refine tk rfl (by rfl) (by intro w X;have Q:=F.out _ X;go_simp;(try with_reducible rfl)) ?_
  try simp only[N2]
  replace Q:=F.out _ X.off;refine O0 1 (by kernel_rfl) rfl rfl (fun K hK=> ?_)
  go_simp
  go_at_call 56
  refine(de _ 6 none 0 0).mono ?_;rintro e T3 ⟨rfl,e⟩;replace X:=X.trans e;replace Q:=F.out _ X.off;refine hK.out _ _ X.off (fun _=> ?_);clear hK K;refine O0 2 (by kernel_rfl) rfl rfl (fun K hK=> ?_)
  go_simp
  go_at_call 141
  refine(JE k n ca ct q l8 _ _ (l.out.ext X) 3 (by rw[J2.out];decide) n5 _ (d5 _ _ 6 0) c G1.out).mono ?_;rintro e ee ⟨rfl,e⟩;replace X:=X.trans e;replace Q:=F.out _ X.off;refine hK.out _ _ X.off (fun _=> ?_);clear hK K;refine O2 [3] 0 (by kernel_rfl) X.off (fun _ _ _ _ _ h=> h) ?_;refine tk rfl (by rfl) (by intro w X;go_simp;(try with_reducible rfl)) ?_
  try simp only[N2]
  refine bP (by kernel_rfl) ?_ _;obtain⟨T,t⟩ |rfl:=cz c
  · have R:=cbn (X.blk br)
    go_wp2_with fail;exact D9 (by simp[aR,results147,go_sem,R]) (G3.out T.out) ((j.trans X).set3 (aQ _) _ _ _) rfl
  have HR:=hdq (bY (G2.out rfl));clear G1 G2 G3;go_wp2_with fail;refine rgn (w0.heap.size+1) (by kernel_rfl) X ?_;replace X:=X.drew;refine O2 [0,1,2,3,4,5] 7 (by kernel_rfl) X.off (fun _ _ _ _ _ h=> h) ?_
  iterate 6 (refine tk rfl (by rfl) (by intro w X;have Q:=F.out _ X;go_simp;(try with_reducible rfl)) ?_;try simp only[N2])
  replace Q:=F.out _ X.off;refine O0 6 (by kernel_rfl) rfl rfl (fun K hK=> ?_)
  go_simp
  obtain⟨e,o6⟩:=K6 25 Q.1.1.2.1.i Q.1.1.2.2.2.2.i Q.1.1.1.1;replace X:=X.trans e;replace Q:=F.out _ X.off;refine hK.out _ _ X.off (fun _=> ?_);clear hK K;refine O0 7 (by kernel_rfl) rfl rfl (fun K hK=> ?_)
  go_simp
  go_at_call 56
  refine(rg 5 o6 rfl).mono ?_;rintro e iu ⟨rfl,hx,e⟩;replace X:=X.trans e;replace Q:=F.out _ X.off;refine hK.out _ _ X.off (fun _=> ?_);clear hK K;refine O0 8 (by kernel_rfl) rfl rfl (fun K hK=> ?_)
  go_simp
  go_at_call 103
  refine(Ng hx).mono ?_;rintro e rk ⟨_,_,_,_,_,rfl,hz,e⟩;replace X:=X.trans e;replace Q:=F.out _ X.off;refine hK.out _ _ X.off (fun _=> ?_);clear hK K;refine O2 [9,10] 2 (by kernel_rfl) X.off (fun _ _ _ _ _ h=> h) ?_
  iterate 2 (refine tk rfl (by rfl) (by intro w X;go_simp;(try with_reducible rfl)) ?_;try simp only[N2])
  have R:=cbn (X.blk br);refine O0 11 (by kernel_rfl) rfl rfl (fun K hK=> ?_)
  go_simp
  refine hK.out _ _ (X.off.set3 _ _ _) (fun _=> ?_);clear hK K;refine O2 [12] 0 (by kernel_rfl) (X.off.set3 _ _ _) (fun _ _ _ _ _ h=> h) ?_;refine tk rfl (by rfl) (by intro w X;go_simp;(try with_reducible rfl)) ?_
  try simp only[N2]
  refine bP (by kernel_rfl) ?_ _;go_wp2_with fail;exact R6 (by simp[aR,results147,go_sem,R]) (hz) (dd HR.out.symm) (j.trans X) (aQ _) rfl
