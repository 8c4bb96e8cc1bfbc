/-
  Lemmas towards the law, 29: MAgT, V2S, MTotS, InfG, InfE.
-/
import Derived.Test.YtckhbnmfnpolgaaGreatBBB
open Option.some renaming inj->bZ,injEq->bW
open Go renaming World->aK,Value->aS,Calls->aV,results->aQ,bodyPost_ret->aO,wpAnyH_done->bP
open Nat renaming le_trans->bK,le_refl->aM,le_succ->aP
open Go.World renaming alloc->aN,setCell->cP
open Go.Proofs.Tryz
set_option linter.unusedVariables false
set_option maxHeartbeats 8000000
set_option maxRecDepth 100000
namespace Go.Proofs.YtckhbnmfnpolgaaGreat
open Go.RowKit
open M (Hd HR Cv Ty M2 zc y6 W4 Ye)
theorem okS{f:Nat}{G:List M.Tm}{t:M.Tm}{s:Tr}(hG:X6 G)(hv:j0 m0 (enc t)=true)(e:M0 f (ctxE G) (enc t)=some (s,0)):G.length<=20/\ ∃b,N0 b (ctxE G) (enc t)=some (s,0):=by
 have hl:G.length<=20:=by
  cases f with
  |zero=> cases e
  |succ f=>
   by_cases h:G.length<=20
   · exact h
   · exfalso
     generalize enc t=x at e;obtain⟨k,n,i⟩:=x;unfold M0 at e;rw[if_pos (.inr (by rw[y26];omega))] at e;simp at e
 obtain⟨b,r,d⟩:=tt 20 G (by omega) hG t hv;refine⟨hl,b, ?_⟩;rcases(y162 f b (ctxE G) (enc t) hv (by rw[y26];exact hl)).okS e with h|h
 · rw[d] at h;cases h
 · exact h
theorem Qr{f:Nat}{G:List M.Tm}{t:M.Tm}{s:Tr}(hG:X6 G)(hv:j0 m0 (enc t)=true)(e:M0 f (ctxE G) (enc t)=some (s,0)): ∃A,s=enc A/\Ty G t A/\M2 G t/\j0 m0 (enc A)=true:=by
 obtain⟨-,b,d⟩:=okS hG hv e;exact snd b G t s hG hv d
theorem eg{f:Nat}{G:List M.Tm}{t A:M.Tm}{s:Tr}(hG:X6 G)(hv:j0 m0 (enc t)=true)(h:Ty G t A)(e:M0 f (ctxE G) (enc t)=some (s,0)):s=enc A/\j0 m0 (enc A)=true:=by
 obtain⟨B,rfl,b,-,v⟩:=Qr hG hv e;obtain rfl:=b.det h;exact⟨rfl,v⟩
theorem Og{f:Nat}{G:List M.Tm}{t:M.Tm}{k:Int}{s:Tr}(hG:X6 G)(hv:j0 m0 (enc t)=true)(e:V0 (M0 f (ctxE G) (enc t)) k=some (s,0)): ∃b,V0 (N0 b (ctxE G) (enc t)) k=some (s,0):=by
 obtain⟨u,d,i⟩:=v9 e;obtain⟨-,b,j⟩:=okS hG hv d;exact⟨b,by rw[j];exact i⟩
theorem Te{f:Nat}{G:List Tr}{k n:Int}{b:List Tr}(h:Nb (de G (M0 f) (ja (M0 f) G k b) k n b)):Nb (M0 (f+1) G (.mk k n b)):=by
 unfold M0;by_cases e:j0 m0 (.mk k n b)=false\/20 < G.length
 · rw[if_pos e];exact Nb.one (.inr rfl)
 · rw[if_neg e];exact h.thn fun s _=> Nb.mk s
theorem Ts{f:Nat}{G:List M.Tm}{k:Int}{A t:M.Tm}(hk:E4 k 1=1)(h:Nb (M0 f (ctxE (A::G)) (enc t))):Nb (ja (M0 f) (ctxE G) k [enc A,enc t] 1):=by
 unfold ja;rw[if_neg (by rw[hk];decide),show ctxE G++ [kd [enc A,enc t] 0]=ctxE (A::G) from(md A G).symm];exact h
theorem aA{f:Nat}{G:List M.Tm}{k:Int}{A t:M.Tm}{s:Tr}(hk:E4 k 1=1)(h:ja (M0 f) (ctxE G) k [enc A,enc t] 1=some (s,0)):M0 f (ctxE (A::G)) (enc t)=some (s,0):=by
 unfold ja at h
 rwa [if_neg (by rw[hk];decide),show ctxE G++ [kd [enc A,enc t] 0]=ctxE (A::G) from(md A G).symm] at h
theorem Yi: ∀(f:Nat) (G:List M.Tm) (t A:M.Tm),X6 G->j0 m0 (enc t)=true->Ty G t A->M2 G t->Nb (M0 f (ctxE G) (enc t))
 |0,G,t,A,hG,hv,h,hl=> by intro s c e;cases e
 |f+1,G,t,A,hG,hv,h,hl=> by
  have ih:=Yi f G;have H:=Yi f;have K: ∀{X S:M.Tm} {i:Nat},Ty G X S->HR S (.sort i)->M2 G X->y6 G X:=fun{X S i} d l m=>⟨m,i,M.lev_le (M2.type d hG.wf m) l,S,d,l⟩
  have lev: ∀{X S:M.Tm} {i:Nat},j0 m0 (enc X)=true->Ty G X S->HR S (.sort i)->M2 G X->Nb (V0 (M0 f (ctxE G) (enc X)) 2):=fun{X S i} v d l m=>
   (ih X S hG v d m).frm fun s e=>⟨S,.sort i,(eg hG v d e).1,l,by simp[M.hk],rfl⟩
  have chk: ∀{X S W:M.Tm} {y:An},j0 m0 (enc X)=true->Ty G X S->Cv S W->M2 G X->Nb y->Nb (P3 (M0 f (ctxE G) (enc X)) (enc W) y):=fun{X S W y} v d l m hy=>
   (ih X S hG v d m).chk (fun s e=>⟨S,(eg hG v d e).1,l⟩) hy
  have fam: ∀{X F C D T:M.Tm} {j:Nat} {y:An},j0 m0 (enc X)=true->Ty G X F->HR F (.pi C D)->Cv C T->HR D (.sort j)->M2 G X->Nb y->Nb (da (M0 f (ctxE G) (enc X)) (enc T) y):=fun{X F C D T j y} v d l m o I hy=>
   (ih X F hG v d I).fam (fun s e=>⟨F,C,D,j,(eg hG v d e).1,l,m,o⟩) hy
  cases h with
  | @var _ n A h=>
   have hn:=M.lk_lt h;refine Te (show Nb (some (Wq (ctxE G) (n:Int))) from ?_);unfold Wq;rw[if_neg (by rw[y26];omega)];exact Nb.ok _
  | @sort _ n=>
   have hn:n < 3:=hl;refine Te (show Nb (some (if 3<=(n:Int) then(E2,(1:Int)) else(m6 ((n:Int)+1),0))) from ?_);rw[if_neg (by omega)];exact Nb.ok _
  |nat=> exact Te (Nb.ok (m6 0))
  |zero=> exact Te (Nb.ok i5)
  | @succ _ a X d l=> exact Te (chk (W:= .nat) (Z0 hv (by simp)) d l hl (Nb.ok i5))
  | @pi _ A B S J i k d l m o=>
   have q:=hG.cons (K d l hl.1) (Z0 hv (by simp));exact Te ((lev (Z0 hv (by simp)) d l hl.1).thn fun s _=>((Ts rfl (H _ B J q (Z0 hv (by simp)) m hl.2)).frm fun s e=>⟨J,.sort k,(eg q (Z0 hv (by simp)) m (aA rfl e)).1,o,by simp[M.hk],rfl⟩).thn fun _ _=> Nb.ok _)
  | @sg _ A B S J i k d l m o=>
   have q:=hG.cons (K d l hl.1) (Z0 hv (by simp));exact Te ((lev (Z0 hv (by simp)) d l hl.1).thn fun s _=>((Ts rfl (H _ B J q (Z0 hv (by simp)) m hl.2)).frm fun s e=>⟨J,.sort k,(eg q (Z0 hv (by simp)) m (aA rfl e)).1,o,by simp[M.hk],rfl⟩).thn fun _ _=> Nb.ok _)
  | @lam _ A t B S i d l m=>
   have bA:=K d l hl.1;have q:=hG.cons bA (Z0 hv (by simp));refine Te ((lev (Z0 hv (by simp)) d l hl.1).thn fun s _=>(Ts rfl (H _ t B q (Z0 hv (by simp)) m hl.2.1)).thn fun b e=> ?_);obtain⟨rfl,vB⟩:=eg q (Z0 hv (by simp)) m (aA rfl e);obtain⟨k,lk⟩:=m.corr q.wf.wf;have hk:=hl.2.2 B k m lk;have lB:M2 (A::G) B:=by
    rcases M2.type m q.wf hl.2.1 with rfl|b
    · have:=lk.det (W4.sort _ 3)
      omega
    · exact b.1
   obtain⟨J,k1,k2⟩:=lk;have e2:ctxE G++ [kd [enc A,enc t] 0]=ctxE (A::G):=(md A G).symm;rw[e2];exact(lev (Z0 hv (by simp)) d l hl.1).thn fun _ _=>((H _ B J q vB k1 lB).frm fun s e=>⟨J,.sort k,(eg q vB k1 e).1,k2,by simp[M.hk],rfl⟩).thn fun _ _=> Nb.ok _
  | @app _ g a F X C R d l m o=>
   refine Te (((ih g F hG (Z0 hv (by simp)) d hl.1).frm fun s e=>⟨F,.pi C R,(eg hG (Z0 hv (by simp)) d e).1,l,by simp[M.hk],rfl⟩).thn fun s e=> ?_);obtain⟨f',O⟩:=Og hG (Z0 hv (by simp)) e;obtain⟨F',C',R',rfl,tF,rF,-,-,-⟩:=vi (snd f') hG (Z0 hv (by simp)) O;obtain rfl:=tF.det d;obtain⟨rfl,rfl⟩:=rF.pi_det l;exact chk (W:=C') (Z0 hv (by simp)) m o hl.2 (Nb.ok _)
  | @elim _ p z s a F Z S X C D k d l m o I L V h8 h9 h10=>
   refine Te (fam (T:= .nat) (Z0 hv (by simp)) d l m o hl.1 (chk (W:= .app p .zero) (Z0 hv (by simp)) I L hl.2.1 ?_));rw[show Wb (kd [enc p,enc z,enc s,enc a] 0)=enc (M.stepTy p) from Up p];exact chk (Z0 hv (by simp)) V h8 hl.2.2.1 (chk (W:= .nat) (Z0 hv (by simp)) h9 h10 hl.2.2.2 (Nb.ok _))
  | @id _ T a b S X Y i d l m o I L=>
   exact Te ((lev (Z0 hv (by simp)) d l hl.1).thn fun s _=> chk (Z0 hv (by simp)) m o hl.2.1 (chk (Z0 hv (by simp)) I L hl.2.2 (Nb.ok _)))
  | @refl _ a X d=>
   refine Te ((ih a X hG (Z0 hv (by simp)) d hl.1).thn fun s e=> ?_);obtain⟨rfl,vX⟩:=eg hG (Z0 hv (by simp)) d e;obtain⟨k,lk⟩:=d.corr hG.wf.wf;have hk:=hl.2 X k d lk;have lX:M2 G X:=by
    rcases M2.type d hG.wf hl.1 with rfl|b
    · have:=lk.det (W4.sort _ 3)
      omega
    · exact b.1
   obtain⟨J,k1,k2⟩:=lk;exact(lev vX k1 k2 lX).thn fun _ _=> Nb.ok _
  | @move _ p e a E T b c F T' D k X d l m o I L V h8=>
   refine Te (((ih e E hG (Z0 hv (by simp)) d hl.2.1).frm fun s O=>⟨E,.id T b c,(eg hG (Z0 hv (by simp)) d O).1,l,by simp[M.hk],rfl⟩).thn fun s O=> ?_);obtain⟨f',e''⟩:=Og hG (Z0 hv (by simp)) O;obtain⟨E',U,b',c',rfl,tE,rE,-,-,-,-⟩:=ym (snd f') hG (Z0 hv (by simp)) e'';obtain rfl:=tE.det d;obtain⟨rfl,rfl,rfl⟩:=rE.id_det l;exact fam (T:=U) (Z0 hv (by simp)) m o I L hl.1 (chk (W:= .app p b') (Z0 hv (by simp)) V h8 hl.2.2 (Nb.ok _))
  | @pair _ T a b S i C D X Y d l m o I L V=>
   refine Te ((lev (Z0 hv (by simp)) d l hl.1).thn fun s _=>(Nb.shp (F:=A) m (by simp[M.hk]) rfl).thn fun s e=> ?_);have e1:d4 (enc A) 13=(s,0):=bZ e;obtain⟨e2,e3⟩:=bw (t:=enc A) (kind:=13) (by rw[e1]);rw[e1] at e2 e3;obtain⟨B,rfl,rB,hs,-⟩:=Vg e2;obtain rfl:=Mo rB hs m (by simp[M.hk]);refine chk (W:=C) (Z0 hv (by simp)) o I hl.2.1 ?_;rw[show Q0 (kd [enc A,enc a,enc b] 1) (kd (enc (.sg C D)).kids 1) 0 0=enc (D.inst a) from xo D a];exact chk (Z0 hv (by simp)) L V hl.2.2 (Nb.ok _)
  | @fst _ a X C D d l=> exact Te (((ih a X hG (Z0 hv (by simp)) d hl).frm fun s e=>⟨X,.sg A D,(eg hG (Z0 hv (by simp)) d e).1,l,by simp[M.hk],rfl⟩).thn fun _ _=> Nb.ok _)
  | @snd _ a X C D d l=> exact Te (((ih a X hG (Z0 hv (by simp)) d hl).frm fun s e=>⟨X,.sg C D,(eg hG (Z0 hv (by simp)) d e).1,l,by simp[M.hk],rfl⟩).thn fun _ _=> Nb.ok _)
theorem mI{f d:Nat}{G:List M.Tm}{t A:M.Tm}(hG:X6 G)(hl:G.length<=20)(hv:j0 m0 (enc t)=true)(h:Ty G t A)(b:M2 G t):Rl False (M0 f (ctxE G) (enc t)) (N0 d (ctxE G) (enc t)):=by
 intro s c i k e l;rcases y162 f d (ctxE G) (enc t) hv (by rw[y26];exact hl) s c i k e l with j|⟨-,-,-,rfl,-⟩
 · exact .inl j
 · rcases Yi f G t A hG hv h b s 1 e with h|h <;> cases h
end Go.Proofs.YtckhbnmfnpolgaaGreat
namespace Go.Proofs.YtckhbnmfnpolgaaGreat
open Go Go.RowKit
structure SJ (w:aK) (N:Nat->Prop) (A:Option Addr) (G:List Tr) (ca:Nat):Prop where
 hN: ∀b,w.heap.size<=b->N b
 hl:G.length<=ca
 hc:ca<=maxLen
 hG:InK w N A G
 h21:G.length<=21
 hA:A=none->ca=0
 hv: ∀x∈G,j0 m0 x=true
theorem SJ.ext{w w':aK}{N:Nat->Prop}{A:Option Addr}{G:List Tr}{ca:Nat}(h:SJ w N A G ca)(e:Ext w w'):SJ w' N A G ca:=
 ⟨fun b d=> h.hN b (bK e.size d),h.hl,h.hc,h.hG.later e,h.h21,h.hA,h.hv⟩
theorem SJ.keep{w w':aK}{N:Nat->Prop}{A:Option Addr}{G:List Tr}{ca:Nat}(h:SJ w N A G ca)(e:Ext w w'){g:Nat}(f:w.heap.size<=g)(d:g < w'.heap.size):SJ w' (fun b=> N b/\b≠g) A G ca:=
 ⟨Oa h.hN e.size d,h.hl,h.hc,h.hG.keep e f,h.h21,h.hA,h.hv⟩
def k9(f:Nat):Prop:= ∀(G:List Tr) (t:Tr) (r:Tr×Int),M0 f G t=some r-> ∀(w:aK) (N:Nat->Prop) (A:Option Addr) (ca:Nat) (v:aS),SJ w N A G ca->InT w N t v->
 aV prog 89 #[.slice A G.length ca,v] w (N9 N w r)
theorem pn(s:Tr)(kind:Int):d4 s kind=if(Sa s).2=0 then(if(Sa s).1.kind=kind then((Sa s).1,0) else(E2,1)) else(E2,(Sa s).2):=by
 unfold d4 Sa;by_cases h:(d7 s 200).2≠0
 · simp[h]
 · simp only[if_neg h,if_true]
   by_cases b:(d7 s 200).1.kind=kind
   · rw[if_neg (by simpa using b),if_pos b]
   · rw[if_pos b,if_neg b]
theorem Mx{s:Tr}{kind:Int}{r:Tr×Int}(h:d4 s kind=r): ∃X d,Sa s=(X,d)/\(d=0->(X.kind=kind->r=(X,0))/\(X.kind≠kind->r=(E2,1)))/\(d≠0->r=(E2,d)):=by
 rw[pn] at h;refine⟨(Sa s).1,(Sa s).2,rfl,fun hd=>⟨fun hk=> ?_,fun hk=> ?_⟩,fun hd=> ?_⟩
 · rw[if_pos hd,if_pos hk] at h;exact h.symm
 · rw[if_pos hd,if_neg hk] at h;exact h.symm
 · rw[if_neg hd] at h;exact h.symm
theorem sm{x:An}{kind:Int}{s:Tr}(h:V0 x kind=some (s,0)):s.kind=kind/\(s.kids.length:Int)=O0 kind/\j0 m0 s=true:=Yk h
theorem mA{x:An}{kind:Int}{r:Tr×Int}(h:V0 x kind=some r): ∃s c,x=some (s,c)/\(c=0->d4 s kind=r)/\(c≠0->r=(E2,c)):=by
 obtain⟨s,c,b,d,e⟩:=Xd h;exact⟨s,c,b,fun hc=> by simpa using d hc,e⟩
theorem Xm(k:Int)(w:aK)(N:Nat->Prop)(hN: ∀b,w.heap.size<=b->N b)(A:Option Addr)(c:Nat)(f:List Tr)(hK:InK w N A f)(j:f≠ [])(hc:f.length<=c)(hn:f.length<=1000):
 aV prog 60 #[.int .i64 k,.slice A f.length c] w fun e w'=> ∃u,e= .returned u/\InT w' N (.mk k 0 f) u/\Ext w w':=
 (xD w k A c f (fun h=> by
  rcases hK with i|⟨o,p,i,-⟩
  · exact absurd i j
  · rw[h] at i;cases i) (fun b=> N b/\b < w.heap.size) (fun b d=> d.2) hK.bound (by omega)).mono fun e w' ⟨u,l,m,n⟩=>⟨u,l,m.mono (fun b d=> by
    rcases d with d|d
    · exact d.1
    · exact hN b d.1) (fun _ _=> rfl),n⟩
theorem Rs(t u:Tr)(ht:j0 m0 t=true)(i:j0 m0 u=true)(w:aK)(N:Nat->Prop)(hN: ∀b,w.heap.size<=b->N b)(f d:aS)(m:Lies w t f)(l:Lies w u d):
 aV prog 121 #[f,.int .i64 0,d,.int .i64 0] w fun e w'=> ∃r,e= .returned r/\InT w' N (Q0 u t 0 0) r/\Ext w w':=
 (Sz t w f 0 u d 0 30 (Z3 ht).1 m (by have:=(Z3 ht).2;omega) (Z3 i).1 (by have:=(Z3 i).2;omega) l (by omega) (by have:=(Z3 ht).2;omega) (by omega) (by have:=(Z3 ht).2;omega)).mono fun e w' ⟨r,j,n,k⟩=>⟨r,j,n.at' hN,k⟩
theorem rv(t:Tr)(y:Int)(ht:j0 m0 t=true)(k:0<=y)(hy2:y<=1000)(w:aK)(N:Nat->Prop)(hN: ∀b,w.heap.size<=b->N b)(v:aS)(i:Lies w t v):
 aV prog 104 #[v,.int .i64 y,.int .i64 0] w fun e w'=> ∃r,e= .returned r/\InT w' N (shfT y t 0) r/\Ext w w':=
 (kC t w v y 0 30 (Z3 ht).1 i (by have:=(Z3 ht).2;omega) k (by omega) (by omega) (by have:=(Z3 ht).2;omega)).mono fun e w' ⟨r,d,j,f⟩=>⟨r,d,j.at' hN,f⟩
def Qg(N:Nat->Prop)(w:aK)(r:Tr×Int)(e:Ending)(w':aK):Prop:= ∃u t,e= .returned (.tuple #[u,.int .i64 r.2])/\InT w' N t u/\(r.2=0->t=r.1)/\Ext w w'
theorem N9.r{N:Nat->Prop}{w:aK}{r:Tr×Int}{e:Ending}{w':aK}(h:N9 N w r e w'):Qg N w r e w':=by
 obtain⟨u,b,d,f⟩:=h;exact⟨u,_,b,d,fun _=> rfl,f⟩
theorem Tk{r:Tr×Int}{c:Int}{T:Tr}(h:r=(E2,c))(hc:c≠0):r.2=c/\(c=0->T=r.1):=by
 subst h;exact⟨rfl,fun h=> absurd h hc⟩
theorem aq{r:Tr×Int}{T:Tr}(h:some (T,(0:Int))=some r):r.2=0/\((0:Int)=0->T=r.1):=by
 obtain rfl:=bZ h;exact⟨rfl,fun _=> rfl⟩
theorem Pk{r:Tr×Int}{c:Int}{T:Tr}(b:c=0->some (T,(0:Int))=some r)(d:c≠0->r=(E2,c)):r.2=c/\(c=0->T=r.1):=by
 by_cases hc:c=0
 · subst hc
   exact aq (b rfl)
 · exact Tk (d hc) hc
section
variable {r : Nat} {w w' w0 w1 : aK} {P Q : aK → Prop}
theorem SJ.off{N:Nat->Prop}{A:Option Addr}{G:List Tr}{ca:Nat}(h:SJ w N A G ca)(hN: ∀b,N b->b≠r)(w':aK)(e:Off r w w'):SJ w' N A G ca:=
 ⟨fun b d=> h.hN b (bK e.1 d),h.hl,h.hc,h.hG.off e hN,h.h21,h.hA,h.hv⟩
theorem Yd{N:Nat->Prop}{A:Option Addr}{G:List Tr}{ca:Nat}{k d f i l m:aS}{e j:TypeId}(q:w1=(w0.alloc (.cells #[k,d,f] e)).alloc (.cells #[i,l,m] j))(o:SJ w0 N A G ca):
 Ext w0 w1/\w1.heap[w0.heap.size+1]? =some (.cells #[i,l,m] j)/\ ∀w',Off (w0.heap.size+1) w1 w'->SJ w' (fun b=> N b/\b≠w0.heap.size+1) A G ca/\w'.cell? ⟨w0.heap.size,0,none⟩=some k/\w'.cell? ⟨w0.heap.size,1,none⟩=some d/\w'.cell? ⟨w0.heap.size,2,none⟩=some f/\w0.heap.size < w'.heap.size:=by
 obtain⟨p,v,s,n⟩:=box2 q;exact⟨n,v,both ((o.keep n (g:=w0.heap.size+1) (by omega) (by omega)).off fun b h=> h.2) (U9 p (by omega))⟩
end
theorem Ra(k:Int){w:aK}{N:Nat->Prop}(hN: ∀b,w.heap.size<=b->N b){A:Option Addr}{c:Nat}{i:List Tr}(hK:InK w N A i)(hc:(i.length==c && decide (0 < c)&& decide (c < 9))=true):
 aV prog 60 #[.int .i64 k,.slice A c c] w fun e w'=> ∃f d,e= .returned (.agg #[.int .i64 k,.int .i64 0,.slice f c d])/\InT w' N (.mk k 0 i) (.agg #[.int .i64 k,.int .i64 0,.slice f c d])/\Ext w w':=by
 simp only[Bool.and_eq_true,beq_iff_eq,decide_eq_true_eq] at hc;obtain⟨⟨rfl,j⟩,o⟩:=hc;refine(Xm k w N hN A _ i hK (fun h=> by rw[h] at j;simp at j) (aM _) (by omega)).mono fun e w' ⟨u,n,l,m⟩=> ?_
 obtain⟨f,d,rfl,-⟩:=InT.mk_iff.1 l;exact⟨f,d,n,l,m⟩
theorem Qj{t:Tr}{k n d:Int}{f:List Tr}(h:Sa t=(.mk k n f,d))(w:aK)(M:Nat->Prop)(l: ∀b,w.heap.size<=b->M b)(v:aS)(o:Lies w t v):
 aV prog 45 #[v] w fun e w'=> ∃A c,e= .returned (.tuple #[.agg #[.int .i64 k,.int .i64 n,.slice A f.length c],.int .i64 d])/\InT w' M (.mk k n f) (.agg #[.int .i64 k,.int .i64 n,.slice A f.length c])/\InK w' M A f/\Ext w w':=
 (uF t w v o).mono fun e w' ⟨u,m,i,p⟩=> by
  rw[h] at m i;obtain⟨A,c,rfl,-,-,hK⟩:=InT.mk_iff.1 i;exact⟨A,c,m,InT.mono (fun b j=> l b j) (fun _ _=> rfl) i,InK.mono (fun b j=> l b j) (fun _ _=> rfl) hK,p⟩
section
variable {P : Program} {fn : Func} {a : Act} {w W : aK} {N : Nat → Prop} {r : Tr × Int} {c : Int} {g : Nat} {t : Tr} {u x y z : aS}
theorem Zf(d:(aQ fn a.tmps).run P W= .ok (.tuple #[.agg #[.int .i64 0,.int .i64 0,.slice none 0 0],.int .i64 c]) W)(b:r=(E2,c))(hc:c≠0)(x:Ext w W)(e:a.defers= []):bodyPost P fn (Qg N w r) .ret a W:=
 aO d e ⟨_,.mk 0 0 [],by rw[b],F5 _ _ 0 0,fun h=> absurd (by rw[b] at h;exact h) hc,x⟩
theorem Ua{w0:aK}(e:(aQ fn a.tmps).run P (((w.setCell ⟨g,0,none⟩ x).setCell ⟨g,1,none⟩ y).setCell ⟨g,2,none⟩ z)= .ok (.tuple #[u,.int .i64 c]) (((w.setCell ⟨g,0,none⟩ x).setCell ⟨g,1,none⟩ y).setCell ⟨g,2,none⟩ z))
 (hT:InT w (fun b=> N b/\b≠g) t u) (hr:r.2=c/\(c=0->t=r.1)) (X:Ext w0 w) (d:w0.heap.size<=g) (f:a.defers= []):bodyPost P fn (Qg N w0 r) .ret a (((w.setCell ⟨g,0,none⟩ x).setCell ⟨g,1,none⟩ y).setCell ⟨g,2,none⟩ z):=
 aO e f ⟨_,t,by rw[hr.1],hT.ret _ _ _,fun h=> hr.2 (hr.1.symm.trans h),X.set3 d _ _ _⟩
end
theorem Zn{s:Tr}{kind:Int}{r:Tr×Int}(h:d4 s kind=r): ∃k n b d,Hid (Sa s=(.mk k n b,d))/\Hid (d≠0->r=(E2,d))/\Hid (d=0->k≠kind->r=(E2,1))/\Hid (d=0->k=kind->r=(.mk k n b,0)):=by
 obtain⟨⟨k,n,b⟩,d,f,e,i⟩:=Mx h;exact⟨k,n,b,d,hdq f,hdq i,hdq fun hd=>(e hd).2,hdq fun hd=>(e hd).1⟩
theorem XH{w0 w1:aK}{N:Nat->Prop}{A:Option Addr}{G:List Tr}{ca:Nat}{j d f i k l:aS}{e o:TypeId}(q:w1=(w0.alloc (.cells #[j,d,f] e)).alloc (.cells #[i,k,l] o))(n:SJ w0 N A G ca):
 Ext w0 w1/\w1.heap[w0.heap.size]? =some (.cells #[j,d,f] e)/\ ∀w',Off w0.heap.size w1 w'->SJ w' (fun b=> N b/\b≠w0.heap.size) A G ca/\w'.cell? ⟨w0.heap.size+1,0,none⟩=some i/\w'.cell? ⟨w0.heap.size+1,1,none⟩=some k/\w'.cell? ⟨w0.heap.size+1,2,none⟩=some l/\w0.heap.size+1 < w'.heap.size:=by
 obtain⟨p,v,s,m⟩:=box2 q;exact⟨m,p,both ((n.keep m (g:=w0.heap.size) (aM _) (by omega)).off fun b h=> h.2) (U9 v (by omega))⟩
end Go.Proofs.YtckhbnmfnpolgaaGreat
namespace Go.Proofs.YtckhbnmfnpolgaaGreat
open Go.RowKit
open M (Hd HR Cv Ty M2 zc y6 W4 Ye)
theorem V4.ite{p:Prop}[Decidable p]{x y u v:An}(h:V4 x u)(k:V4 y v):V4 (if p then x else y) (if p then u else v):=by
 by_cases e:p
 · rw[if_pos e,if_pos e];exact h
 · rw[if_neg e,if_neg e];exact k
theorem Kz: ∀(f:Nat) (G:List Tr) (t:Tr),V4 (M0 f G t) (M0 (f+1) G t)
 |0,G,t=> fun r h=> by cases h
 |f+1,G,.mk k n b=> by
  have h:=Kz f;have k: ∀i,V4 (ja (M0 f) G k b i) (ja (M0 (f+1)) G k b i):=fun i=>(h _ _).ite (h _ _)
  have z:=V4.rfl';exact(z _).ite (V4.thn (V4.ite (z _) <|V4.ite (z _) <|V4.ite (z _) <|V4.ite (z _) <|
   V4.ite ((k 0).chk _ (z _)) <|
   V4.ite (((k 0).frm 2).thn fun _=>((k 1).frm 2).thn fun _=> z _) <|
   V4.ite (((k 0).frm 2).thn fun _=>(k 1).thn fun _=>((h _ _).frm 2).thn fun _=>((h _ _).frm 2).thn fun _=> z _) <|
   V4.ite (((k 0).frm 3).thn fun _=>(k 1).chk _ (z _)) <|
   V4.ite ((k 0).fam _ ((k 1).chk _ ((k 2).chk _ ((k 3).chk _ (z _))))) <|
   V4.ite (((k 0).frm 2).thn fun _=>(k 1).chk _ ((k 2).chk _ (z _))) <|
   V4.ite ((k 0).thn fun _=>((h _ _).frm 2).thn fun _=> z _) <|
   V4.ite (((k 1).frm 10).thn fun _=>(k 0).fam _ ((k 2).chk _ (z _))) <|
   V4.ite (((k 0).frm 2).thn fun _=>(z _).thn fun _=>(k 1).chk _ ((k 2).chk _ (z _))) <|
   ((k 0).frm 13).thn fun _=> z _) fun _=> z _)
theorem Zj{f b:Nat}(h:f<=b)(G:List Tr)(t:Tr):V4 (M0 f G t) (M0 b G t):=by
 induction h with
 |refl=> exact V4.rfl' _
 |step _ ih=> exact fun r e=> Kz _ G t r (ih r e)
def v8(G:List Tr)(t:Tr):Prop:= ∃f,Is (M0 f G t)
theorem v8.at{G:List Tr}{t:Tr}(h:v8 G t): ∃f,∀b,f<=b->Is (M0 b G t):=by
 obtain⟨f,r,e⟩:=h;exact⟨f,fun b hf=>⟨r,Zj hf G t r e⟩⟩
theorem v8.of{G:List Tr}{k n:Int}{b:List Tr}(f:Nat)(h:Is (de G (M0 f) (ja (M0 f) G k b) k n b)):v8 G (.mk k n b):=by
 refine⟨f+1, ?_⟩;unfold M0;by_cases e:j0 m0 (.mk k n b)=false\/20 < G.length
 · rw[if_pos e];exact Is.mk _
 · rw[if_neg e];exact h.thn fun _ _=> Is.mk _
section
variable {G : List M.Tm}
theorem Np{f:Nat}{k:Int}{A t:M.Tm}(hk:E4 k 1=1)(h:Is (M0 f (ctxE (A::G)) (enc t))):Is (ja (M0 f) (ctxE G) k [enc A,enc t] 1):=by
 unfold ja;rw[if_neg (by rw[hk];decide),show ctxE G++ [kd [enc A,enc t] 0]=ctxE (A::G) from(md A G).symm];exact h
theorem Xu(hG:X6 G)(n: ∀A,y6 G A->j0 m0 (enc A)=true-> ∀t,j0 m0 (enc t)=true->v8 (ctxE (A::G)) (enc t)){A:M.Tm}(hA:j0 m0 (enc A)=true)(h:v8 (ctxE G) (enc A))(t:M.Tm)(ht:j0 m0 (enc t)=true):
 ∃f,∀d,f<=d->Is (M0 d (ctxE G) (enc A))/\ ∀s,V0 (M0 d (ctxE G) (enc A)) 2=some (s,0)->Is (M0 d (ctxE (A::G)) (enc t)):=by
 obtain⟨e,j⟩:=h.at;by_cases l: ∃s,V0 (M0 e (ctxE G) (enc A)) 2=some (s,0)
 · obtain⟨s,hs⟩:=l
   obtain⟨d,k⟩:=Og hG hA hs;obtain⟨S,i,-,-,-,-,b,-⟩:=Ld (snd d) hG hA k;obtain⟨o,m⟩:=(n A b hA t ht).at;exact⟨max e o,fun d hf=>⟨j d (by omega),fun _ _=> m d (by omega)⟩⟩
 · refine⟨e,fun d hf=>⟨j d hf,fun s hs=> ?_⟩⟩
   exfalso
   obtain⟨r,hr⟩:=j e (aM _);have:=Zj hf (ctxE G) (enc A) r hr;rw[this] at hs;rw[hr] at l;exact l ⟨s,hs⟩
def er(G:List M.Tm)(t:M.Tm):Prop:=j0 m0 (enc t)=true->v8 (ctxE G) (enc t)
theorem jD(hG:X6 G)(I: ∀A,y6 G A->j0 m0 (enc A)=true-> ∀t,j0 m0 (enc t)=true->v8 (ctxE (A::G)) (enc t)):Ye G (er G) where
 var:=fun n hv=> v8.of 0 (Is.mk (Wq (ctxE G) (n:Int)))
 sort:=fun n hv=> v8.of 0 (Is.mk (if 3<=(n:Int) then(E2,(1:Int)) else(m6 ((n:Int)+1),0)))
 nat:=fun hv=> v8.of 0 (Is.mk (m6 0,0))
 zero:=fun hv=> v8.of 0 (Is.mk (i5,0))
 succ:=fun{a} h hv=> by
  obtain⟨f,d⟩:=(h (j8 hv (by simp))).at;exact v8.of f ((d f (aM _)).chk i5 (Is.mk _))
 pi:=fun{A} B h hv=> by
  obtain⟨f,d⟩:=Xu hG I (j8 hv (by simp)) (h (j8 hv (by simp))) B (j8 hv (by simp));obtain⟨m,o⟩:=d f (aM _);exact v8.of f ((m.frm 2).thn fun s hs=>((Np rfl (o s hs)).frm 2).thn fun _ _=> Is.mk _)
 sg:=fun{A} B h hv=> by
  obtain⟨f,d⟩:=Xu hG I (j8 hv (by simp)) (h (j8 hv (by simp))) B (j8 hv (by simp));obtain⟨m,o⟩:=d f (aM _);exact v8.of f ((m.frm 2).thn fun s hs=>((Np rfl (o s hs)).frm 2).thn fun _ _=> Is.mk _)
 lam:=fun{A} t h hv=> by
  have hA:=j8 hv (show enc A∈ [enc A,enc t] by simp);have ht:=j8 hv (show enc t∈ [enc A,enc t] by simp);obtain⟨f,d⟩:=Xu hG I hA (h hA) t ht;obtain⟨m,o⟩:=d f (aM _);have e2:ctxE G++ [kd [enc A,enc t] 0]=ctxE (A::G):=(md A G).symm;by_cases H: ∃s b,V0 (M0 f (ctxE G) (enc A)) 2=some (s,0)/\M0 f (ctxE (A::G)) (enc t)=some (b,0)
  · obtain⟨s,b,J,K⟩:=H
    obtain⟨Z,X⟩:=Og hG hA J;obtain⟨S,i,-,-,-,-,R,-⟩:=Ld (snd Z) hG hA X;obtain⟨B,rfl,-,-,vB⟩:=Qr (hG.cons R hA) ht K;obtain⟨j,L⟩:=(I A R hA B vB).at;refine v8.of (max f j) ?_;obtain⟨V,r3⟩:=d (max f j) (by omega);refine(V.frm 2).thn fun F e4=>(Np rfl (r3 F e4)).thn fun b' e5=>(V.frm 2).thn fun _ _=> ?_
    have C:=aA rfl e5;rw[Zj (show f<=max f j by omega) _ _ _ K] at C;simp only[bW,Prod.mk.injEq,and_true] at C;subst C;rw[e2];exact((L (max f j) (by omega)).frm 2).thn fun _ _=> Is.mk _
  · refine v8.of f ?_
    refine(m.frm 2).thn fun s J=>(Np rfl (o s J)).thn fun b K=> ?_
    exact absurd ⟨s,b,J,aA rfl K⟩ H
 app:=fun{g a} h k hv=> by
  obtain⟨l,d⟩:=(h (j8 hv (by simp))).at;obtain⟨j,m⟩:=(k (j8 hv (by simp))).at;exact v8.of (max l j) (((d _ (Nat.le_max_left ..)).frm 3).thn fun _ _=>(m _ (Nat.le_max_right ..)).chk _ (Is.mk _))
 elim:=fun{p z s a} d m o L hv=> by
  obtain⟨l,q⟩:=(d (j8 hv (by simp))).at;obtain⟨j,v⟩:=(m (j8 hv (by simp))).at;obtain⟨D,E⟩:=(o (j8 hv (by simp))).at;obtain⟨f4,g4⟩:=(L (j8 hv (by simp))).at;exact v8.of (l+j+D+f4) ((q _ (by omega)).fam _ ((v _ (by omega)).chk _ ((E _ (by omega)).chk _ ((g4 _ (by omega)).chk _ (Is.mk _)))))
 id:=fun{T a b} d m o hv=> by
  obtain⟨l,q⟩:=(d (j8 hv (by simp))).at;obtain⟨j,v⟩:=(m (j8 hv (by simp))).at;obtain⟨D,E⟩:=(o (j8 hv (by simp))).at;exact v8.of (l+j+D) (((q _ (by omega)).frm 2).thn fun _ _=>(v _ (by omega)).chk _ ((E _ (by omega)).chk _ (Is.mk _)))
 refl:=fun{a} h k hv=> by
  have U:=j8 hv (show enc a∈ [enc a] by simp);obtain⟨l,q⟩:=(h U).at;by_cases H: ∃s,M0 l (ctxE G) (enc a)=some (s,0)
  · obtain⟨s,e⟩:=H
    obtain⟨A,rfl,tA,-,Y⟩:=Qr hG U e;obtain⟨j,v⟩:=(k A tA Y).at;refine v8.of (l+j) ((q _ (by omega)).thn fun F O=> ?_);have C:M0 (l+j) (ctxE G) (enc a)=some (F,0):=O;rw[Zj (show l<=l+j by omega) _ _ _ e] at C;simp only[bW,Prod.mk.injEq,and_true] at C;subst C;exact((v (l+j) (by omega)).frm 2).thn fun _ _=> Is.mk _
  · exact v8.of l ((q _ (by omega)).thn fun F O=> absurd ⟨F,O⟩ H)
 move:=fun{p e a} d m o hv=> by
  obtain⟨l,q⟩:=(d (j8 hv (by simp))).at;obtain⟨j,v⟩:=(m (j8 hv (by simp))).at;obtain⟨D,E⟩:=(o (j8 hv (by simp))).at;exact v8.of (l+j+D) (((v _ (by omega)).frm 10).thn fun _ _=>(q _ (by omega)).fam _ ((E _ (by omega)).chk _ (Is.mk _)))
 pair:=fun{T a b} d m o hv=> by
  obtain⟨l,q⟩:=(d (j8 hv (by simp))).at;obtain⟨j,v⟩:=(m (j8 hv (by simp))).at;obtain⟨D,E⟩:=(o (j8 hv (by simp))).at;exact v8.of (l+j+D) (((q _ (by omega)).frm 2).thn fun _ _=>(Is.mk _).thn fun _ _=>(v _ (by omega)).chk _ ((E _ (by omega)).chk _ (Is.mk _)))
 fst:=fun{a} h hv=> by
  obtain⟨f,d⟩:=(h (j8 hv (by simp))).at;exact v8.of f (((d f (aM _)).frm 13).thn fun _ _=> Is.mk _)
 snd:=fun{a} h hv=> by
  obtain⟨f,d⟩:=(h (j8 hv (by simp))).at;exact v8.of f (((d f (aM _)).frm 13).thn fun _ _=> Is.mk _)
end
theorem rx: ∀(d:Nat) (G:List M.Tm),21<=G.length+d->X6 G-> ∀t,er G t:=by
 intro d
 induction d with
 |zero=>
  intro G hd hG t hv;refine⟨1, ?_⟩;generalize enc t=x;obtain⟨k,n,e⟩:=x;unfold M0;rw[if_pos (.inr (by rw[y26];omega))];exact Is.mk _
 |succ d ih=>
  intro G hd hG;exact fun t=> M.allW (jD hG fun A b v t=> ih (A::G) (by simp only[List.length_cons];omega) (hG.cons b v) t) hG.wf.wf t
end Go.Proofs.YtckhbnmfnpolgaaGreat
namespace Go.Proofs.YtckhbnmfnpolgaaGreat
open Go.RowKit
attribute [local go_sem ↓] Go.wp_at_zero Go.wp_at_succ
theorem y125{wC:aK}{A:Option Addr}{ca:Nat}{G:List Tr}{p:Tr->An}(hI:Ce wC A ca G p)(w0:aK)(N:Nat->Prop)(hx:Ext wC w0)(hN: ∀b,w0.heap.size<=b->N b)(hG:InK w0 N A G)(t:Tr)(v:aS)(ht:InT w0 N t v)(hv:j0 m0 t=true)(kind:Int)(r:Tr×Int)(h:V0 (p t) kind=some r):aV prog 95 #[.slice A G.length ca,v,.int .i64 kind] w0 (N9 N w0 r):=by
 obtain⟨sA,c,h1,h2,h3⟩:=Xd h;obtain⟨k,n,ks⟩:=t;obtain⟨At,ct,rfl,hl,hc,hK⟩:=InT.mk_iff.1 ht;have HT:=hdq ht;have HI:=hdq hI;have HN:=hdq hN;have HG:=hdq hG;have HV:=hdq hv;have H1:=hdq h1;have H2:=hdq h2;have J:=hdq h3;clear h1 h2 h3;clear h hK ht hI hN hG hv;obtain⟨w1,U⟩: ∃x,x=((w0.alloc (.cells #[.int .i64 k,.int .i64 n,.slice At ks.length ct] 25)).alloc (.cells #[.int .i64 0,.int .i64 0,.slice none 0 0] 25)):=⟨_,rfl⟩;obtain⟨K,C,s1,m⟩:=box2 U;obtain⟨M,o⟩: ∃M,M=(fun b=> N b/\b≠w0.heap.size+1):=⟨_,rfl⟩;have P5:=hdq (show∀b,w1.heap.size<=b->M b from o▸Oa HN.out m.size (by omega));have Ao:=hdq (show InK w1 M A G from o▸HG.out.keep m (aP _));have Gl:=hdq (show InT w1 M (.mk k n ks) _ from o▸HT.out.keep m (aP _));have HM:=hdq o;clear o;go_enter func95,ntmps95;go_wp2_with fail;rw[<-U];clear U;refine(HI.out w1 M (hx.trans m) P5.out Ao.out _ _ Gl.out HV.out _ H1.out).mono ?_;rintro e j ⟨u,rfl,hT,B⟩;have s2:=B.size;obtain⟨O,Y,X,H,E,rfl⟩:=hT.three;have T1:=hdq hT;clear hT;by_cases f:c=0
 case neg=>
  obtain rfl:=J.out f;have t1:(c !=0)=true:=by simp[f]
  clear f J;have l:=B;have S:=cb3 (l.blk K);have s:=cbn (l.blk C);have I7:Ext j (j.alloc (.cells #[.int .i64 O,.int .i64 Y,.slice X H E] 25)):=(xr j).alloc _;have L:=m;have T:=L.trans B;have Pr:=cbn (I7.blk (l.blk C));go_wp2_with fail;refine aO (v:= .tuple #[.agg #[.int .i64 0,.int .i64 0,.slice none 0 0],.int .i64 c]) (by simp[aQ,results95,go_sem,s,Pr]) rfl ⟨_,rfl,F5 _ _ 0 0,((T.trans I7).set3 (by omega) _ _ _)⟩
 obtain⟨⟨⟨q1,q2,q3⟩,d⟩,I⟩: ∃q,d4 sA kind=q:=⟨_,rfl⟩;obtain rfl:r=(.mk q1 q2 q3,d):=by rw[<-I];simpa using(H2.out f).symm
 subst f;clear H2 J;have l:=B;have S:=cb3 (l.blk K);have s:=Z9 (l.blk C);obtain⟨V,i⟩: ∃x,x=j.alloc (.cells #[.int .i64 O,.int .i64 Y,.slice X H E] 25):=⟨_,rfl⟩;have R:Ext j V:=i▸(xr j).alloc _;have F:=heap_alloc_new j (.cells #[.int .i64 O,.int .i64 Y,.slice X H E] 25);rw[<-i] at F;have s3:j.heap.size < V.heap.size:=O1 F;go_wp2_with fail;rw[<-i];clear i;clear S s;have Z:=l.trans R;have T5:=R;have io:=hdq (qB sA kind V M (fun b hb=> P5.out b (by have:=Z.size;omega)) _ (T1.out.lies'.ext T5));rw[I] at io;refine(io.out).mono ?_;rintro e w4 ⟨u,rfl,hT,D⟩;have s4:=D.size;simp only at hT⊢;obtain⟨a2,b2,A2,l2,c2,rfl⟩:=hT.three;have T2:=hdq hT;clear hT I io;have o9:=Z.trans D;have S:=cb3 (o9.blk K);have s:=Z9 (o9.blk C);have S7:=D;have Zx:=cb3 (S7.blk F);have L:=m;have T:=L.trans B;have l9:=T.trans R;have q9:=l9.trans D;go_wp2_with fail;refine aO (v:= .tuple #[.agg #[.int .i64 a2,.int .i64 b2,.slice A2 l2 c2],.int .i64 d]) (by simp[aQ,results95,go_sem,s]) rfl ⟨_,rfl,InT.ret (HM.out▸T2.out) _ _ _,(q9.set3 (by omega) _ _ _)⟩
theorem Ot{wC:aK}{A:Option Addr}{ca:Nat}{G:List Tr}{i:Tr->An}(l:Ce wC A ca G i)(w0:aK)(N:Nat->Prop)(hx:Ext wC w0)(hN: ∀b,w0.heap.size<=b->N b)(hG:InK w0 N A G)(t:Tr)(v:aS)(ht:InT w0 N t v)(hv:j0 m0 t=true)(r:Tr×Int)(h:V0 (i t) 2=some r):aV prog 49 #[.slice A G.length ca,v] w0 fun e w'=> e= .returned (.tuple #[.int .i64 r.1.num,.int .i64 r.2])/\Ext w0 w':=by
 obtain⟨⟨T,O,K⟩,d⟩:=r;have F:=hdq h;obtain⟨k,n,I⟩:=t;obtain⟨At,ct,rfl,hl,hc,hK⟩:=InT.mk_iff.1 ht;have q:=hdq ht;have p:=hdq l;have D:=hdq hN;have B:=hdq hG;have H:=hdq hv;clear h hK ht l hN hG hv;obtain⟨w1,j⟩: ∃x,x=(w0.alloc (.cells #[.int .i64 k,.int .i64 n,.slice At I.length ct] 25)):=⟨_,rfl⟩;obtain⟨Y,L,f⟩:=rC j;go_enter func49,ntmps49;go_wp2_with fail;rw[<-j];clear j;refine(y125 p.out w1 N (hx.trans f) (fun b V=> D.out b (by have:=f.size;omega)) (B.out.later f) _ _ (q.out.later f) H.out 2 _ F.out).mono ?_;rintro e S ⟨u,rfl,hT,m⟩;have X:=m.size;obtain⟨U,J,rfl,R,C,E⟩:=InT.mk_iff.1 hT;clear hT E;have o:=f;have s:=o.trans m;go_wp2_with fail;go_ret2;exact⟨rfl,s.alloc _⟩
end Go.Proofs.YtckhbnmfnpolgaaGreat
namespace Go.Proofs.YtckhbnmfnpolgaaGreat
open Go Go.RowKit
attribute [local go_sem ↓] Go.wp_at_zero Go.wp_at_succ
theorem CI{wC:aK}{p1 p2:Nat}{A:Option Addr}{G:List Tr}{At:Option Addr}{f:List Tr}{ty:Nat->An}(k n:Int)(ca ct:Nat)(s:f.length<=ct)(l8:ct<=maxLen)(w0:aK)(N:Nat->Prop)(hJ:Rb wC w0 N p1 p2 A G At f ty)(j4:f.length=4)(hv0:j0 m0 (kd f 0)=true)(r:Tr×Int)(h:em ty (kd f 0) (kd f 3)=some r):aV prog 147 #[.agg #[.slice A G.length ca,.int .i64 k,.int .i64 n,.slice At f.length ct,.func (.func 105) #[] #[.pointer (some ⟨p1,0,none⟩),.pointer (some ⟨p2,0,none⟩)]]] w0 (N9 N w0 r):=by
 have gh:=hdq hv0;clear hv0;obtain⟨c,C,D,H⟩:=Ll h;clear h;obtain⟨b,o,rfl,-,⟨O3,N6,O6,O7,O9,K0⟩,⟨ax,Y7,Y6,Z2,aa,K1⟩,⟨mh,ma,ml,mg,mj,K2⟩,k31,k32,k33,k34,k35,K3⟩:=y37 hJ.hK j4;have hp:=rJ j4;have I4:=hdq j4;clear j4;go_enter func147,ntmps147;go_wp2_with fail;generalize Z:aN (aN w0 _) _=w1;obtain⟨j,br,S⟩:=Ue Z.symm hJ.hN;have m:=hdq (hJ.keep j (g:=w0.heap.size+1) (aP _) (O1 br));have hz:w1.heap.size=w0.heap.size+1+1:=by rw[<-Z];simp
 clear hJ;have F:=hdq (both S (both (K0.up j (aP _)) (both (K1.up j (aP _)) (both (K2.up j (aP _)) (K3.up j (aP _))))));have X:=xr w1;have Q:=F.out _ X.off;clear S Z K0 K1 K2 K3;generalize Z:aN w1 _=w2;obtain⟨p,e⟩:=nb Z;rw[hz] at p;clear hz;replace F:=hdq (both (rb F.out (X.trans e)) (U9 p (by omega)));replace X:=X.trans e;replace m:=hdq (m.out.ext X);replace br:=X.blk br;replace j:=j.trans X;replace X:=xr w2;replace Q:=F.out _ X.off;clear Z p e;refine rgn (w0.heap.size+1) (by kernel_rfl) X ?_;replace X:=X.drew;refine W2 [0] 3 (by kernel_rfl) X.off (fun _ _ _ _ _ h=> h) ?_;refine tk rfl (by rfl) (by intro w X;have Q:=F.out _ X;go_simp;(try with_reducible rfl)) ?_
 try simp only[I3]
 replace Q:=F.out _ X.off;refine H0 1 (by kernel_rfl) rfl rfl (fun K hK=> ?_)
 go_simp
 go_at_call 56
 refine(Oe _ 6 none 0 0).mono ?_;rintro e w3 ⟨rfl,e⟩;replace X:=X.trans e;replace Q:=F.out _ X.off;refine hK.out _ _ X.off (fun _=> ?_);clear hK K;refine H0 2 (by kernel_rfl) rfl rfl (fun K hK=> ?_)
 go_simp
 go_at_call 181
 refine(Rz k n ca ct s l8 _ _ (m.out.ext X) 0 (by rw[I4.out];decide) i5 _ (F5 _ _ 6 0) c C.out).mono ?_;rintro e w4 ⟨rfl,e⟩;replace X:=X.trans e;replace Q:=F.out _ X.off;refine hK.out _ _ X.off (fun _=> ?_);clear hK K;refine W2 [3] 0 (by kernel_rfl) X.off (fun _ _ _ _ _ h=> h) ?_;refine tk rfl (by rfl) (by intro w X;go_simp;(try with_reducible rfl)) ?_
 try simp only[I3]
 refine bP (by kernel_rfl) ?_ _;obtain⟨V,t⟩ |rfl:=cz c
 · have R:=cbn (X.blk br)
   go_wp2_with fail;exact ya (by simp[aQ,results147,go_sem,R]) (H.out V.out) ((j.trans X).set3 (aP _) _ _ _) rfl
 obtain⟨d,q,h2,B,Y⟩:=mp (D.out rfl);clear C D H;have C:=hdq q;have D:=hdq h2;have H:=hdq B;have H4:=hdq Y;clear q h2 B Y;go_wp2_with fail;refine rgn (w0.heap.size+1) (by kernel_rfl) X ?_;replace X:=X.drew;refine W2 [0] 10 (by kernel_rfl) X.off (fun _ _ _ _ _ h=> h) ?_;refine tk rfl (by rfl) (by intro w X;have Q:=F.out _ X;go_simp;(try with_reducible rfl)) ?_
 try simp only[I3]
 replace Q:=F.out _ X.off;refine Wi 9 70 7 #[true,true,true,true,true,true,true,true,true,false,false] 2 [.any,Sp.tree (fun b=> N b/\b≠w0.heap.size+1) (.mk 7 0 []),Sp.row (fun b=> N b/\b≠w0.heap.size+1) [kd f 0,(.mk 7 0 [])],Sp.tree (fun b=> N b/\b≠w0.heap.size+1) (.mk 5 0 [kd f 0,(.mk 7 0 [])]),Sp.two (fun b=> N b/\b≠w0.heap.size+1) (mkV (.mk 5 0 [kd f 0,.mk 7 0 []])).1 (.int .i64 (mkV (.mk 5 0 [kd f 0,.mk 7 0 []])).2),Sp.two (fun b=> N b/\b≠w0.heap.size+1) (mkV (.mk 5 0 [kd f 0,.mk 7 0 []])).1 (.int .i64 (mkV (.mk 5 0 [kd f 0,.mk 7 0 []])).2),Sp.tree (fun b=> N b/\b≠w0.heap.size+1) (mkV (.mk 5 0 [kd f 0,.mk 7 0 []])).1,Sp.val (.int .i64 (mkV (.mk 5 0 [kd f 0,.mk 7 0 []])).2),Sp.box w4.drew] [1,2,3,4,5,6,7,8] (fun w h=>(X.trans h).off) (by kernel_rfl) rfl rfl (fun _ _ _ _ h=> h) ?hx3 ?st3 ?fi3
 case hx3=>(intro a w z l L J;obtain⟨u5,I,h5⟩: ∃u,a.eval (.tmp 23)= .tuple #[u,.int .i64 (mkV (.mk 5 0 [kd f 0,.mk 7 0 []])).2]/\InT w (Mz _ z) (mkV (.mk 5 0 [kd f 0,.mk 7 0 []])).1 u:=J 5 23 (by kernel_rfl);replace I:=S4 I;exact⟨.int .i64 (mkV (.mk 5 0 [kd f 0,.mk 7 0 []])).2,Or.inl ⟨by rfl,fun w'' _=> by go_simp⟩,rfl⟩)
 case st3=>
  repeat' first|exact trivial|refine And.intro ⟨_,rfl, ?_⟩ ?_
  all_goals(intro a w z l L J;refine Ord.step_of rfl rfl ?_;intro K hK)
  · (go_simp;go_at_call 56;refine(Oe w 7 none 0 0).mono ?_;rintro e w' ⟨rfl,E⟩;exact hK _ _ ⟨_,z,rfl,Ma l E,F5 _ _ _ _⟩)
  · (have f24:=S4 (show a.eval (.tmp 24)= .agg #[.int .i64 O3,.int .i64 N6,.slice O6 O7 O9] from L 24 (by kernel_rfl));have q:InT w (Mz _ z) (.mk 7 0 []) (a.eval (.tmp 25)):=J 1 25 (by kernel_rfl);obtain⟨_,_,_,_,_,f1⟩:=q.three;rw[f1] at q;replace f1:=S4 f1;go_simp;obtain⟨E,h⟩:=k7 25 (Q.1.2.1.i.oldG' l) q (Re Q.1.1.1 l);exact hK _ _ ⟨_,z,rfl,Ma l E,_,2,rfl,aM _,by decide,h⟩)
  · (obtain⟨A2,c2,f2,Jg,Ji,Hi⟩: ∃A c,a.eval (.tmp 26)= .slice A 2 c/\2<=c/\c<=maxLen/\InK w (Mz _ z) A [kd f 0,(.mk 7 0 [])]:=J 2 26 (by kernel_rfl);replace f2:=S4 f2;go_simp;go_at_call 56;refine(Oe w 5 A2 2 c2).mono ?_;rintro e w' ⟨rfl,E⟩;exact hK _ _ ⟨_,z,rfl,Ma l E,InT.mk_iff.2 ⟨_,_,rfl,Jg,Ji,Hi.later E⟩⟩)
  · (have B:InT w (Mz _ z) (.mk 5 0 [kd f 0,(.mk 7 0 [])]) (a.eval (.tmp 27)):=J 3 27 (by kernel_rfl);obtain⟨_,_,_,_,_,f3⟩:=B.three;rw[f3] at B;replace f3:=S4 f3;go_simp;go_at_call 103;refine(Vf B).mono ?_;rintro e w' ⟨_,_,_,_,_,rfl,hu,E⟩;exact hK _ _ ⟨_,z,rfl,Ma l E,_,rfl,hu⟩)
  · (obtain⟨u4,f4,Y⟩: ∃u,a.eval (.tmp 28)= .tuple #[u,.int .i64 (mkV (.mk 5 0 [kd f 0,.mk 7 0 []])).2]/\InT w (Mz _ z) (mkV (.mk 5 0 [kd f 0,.mk 7 0 []])).1 u:=J 4 28 (by kernel_rfl);replace f4:=S4 f4;go_simp;exact hK _ _ ⟨_,z,rfl,l.id,_,rfl,Y⟩)
  · (obtain⟨u5,I,h5⟩: ∃u,a.eval (.tmp 23)= .tuple #[u,.int .i64 (mkV (.mk 5 0 [kd f 0,.mk 7 0 []])).2]/\InT w (Mz _ z) (mkV (.mk 5 0 [kd f 0,.mk 7 0 []])).1 u:=J 5 23 (by kernel_rfl);replace I:=S4 I;go_simp;exact hK _ _ ⟨_,z,rfl,l.id,h5⟩)
  · (obtain⟨u5,I,h5⟩: ∃u,a.eval (.tmp 23)= .tuple #[u,.int .i64 (mkV (.mk 5 0 [kd f 0,.mk 7 0 []])).2]/\InT w (Mz _ z) (mkV (.mk 5 0 [kd f 0,.mk 7 0 []])).1 u:=J 5 23 (by kernel_rfl);replace I:=S4 I;go_simp;exact hK _ _ ⟨_,z,rfl,l.id,rfl⟩)
  · (go_simp;exact hK _ _ ⟨_,_,rfl,EG.box l,_,rfl,List.mem_cons_self ..,(show _<=w.heap.size from l.1.size),heap_alloc_new _ _⟩)
 case fi3=>
  intro v w' z l hG;have ht:InT w' (Mz _ z) (mkV (.mk 5 0 [kd f 0,.mk 7 0 []])).1 (v 6):=hG 6 (by decide) (by kernel_rfl);obtain⟨a1,a2,a3,a4,a5,D1⟩:=ht.three;rw[D1] at ht;obtain⟨gb,hv2,gz,bl,bx⟩: ∃g,v 8= .pointer (some ⟨g,0,none⟩)/\g∈z/\w4.drew.heap.size<=g/\w'.heap[g]? =_:=hG 8 (by decide) (by kernel_rfl);have hv3:v 7= .int .i64 (mkV (.mk 5 0 [kd f 0,.mk 7 0 []])).2:=hG 7 (by decide) (by kernel_rfl);simp only[List.foldl,Ord.dstOf,List.getElem?_toArray,List.getElem?_cons_zero,List.getElem?_cons_succ,Option.bind_some,Act.put,List.setIfInBounds_toArray,List.set_cons_zero,List.set_cons_succ];rw[D1,hv2,hv3];replace ht:=(InT.mono (fun b (hb:Mz _ z b)=>(⟨hb.1,fun h=> hb.2 (h▸gz)⟩:(fun b=> N b/\b≠w0.heap.size+1) b/\b≠gb)) (fun _ _=> rfl) ht).ret (.int .i64 a1) (.int .i64 a2) (.slice a3 a4 a5);have T:=Xf X bl br;have El:=bK X.size bl;have X1:=X;replace X:=X.trans l.1;have Zx:=cbn bx;clear hG l gz D1 hv2;refine H0 9 (by kernel_rfl) rfl rfl (fun K hK=> ?_)
  go_simp
  have e:=Off.new3 X (bK X1.size bl) bx (.int .i64 a1) (.int .i64 a2) (.slice a3 a4 a5);refine hK.out _ _ e.1.off (fun _=> ?_);clear hK K Zx;replace X:=e.1;have p:=e.2;generalize cP (cP (cP w' _ _) _ _) _ _=w5 at*;refine W2 [10] 0 (by kernel_rfl) X.off (fun _ _ _ _ _ h=> h) ?_;refine tk rfl (by rfl) (by intro w X;go_simp;(try with_reducible rfl)) ?_
  try simp only[I3]
  refine bP (by kernel_rfl) ?_ _;clear bx e X1;have F0:=F;have HJ0:=m;have bk:=br;have e0:=j;have O:=X;have U:=p;have yn:=T;replace F:=hdq (both (rb F.out X) (both (U9 p T) (ht.up (xr _))));replace m:=hdq (m.out.ext X);replace br:=X.blk br;replace j:=j.trans X;replace X:=xr w5;replace Q:=F.out _ X.off;clear p ht T bl;go_wp2_with fail;refine(kw k n ca ct s l8 _ _ (m.out.ext X) 1 (by rw[I4.out];decide) _ _ Q.2.2 _ d C.out D.out).mono ?_;rintro e w6 ⟨rfl,e⟩;replace X:=X.trans e;replace Q:=F.out _ X.off;replace O:=O.trans e;obtain⟨V,t⟩ |rfl:=cz d
  · have R:=cbn (X.blk br)
    go_wp2_with fail;exact ya (by simp[aQ,results147,go_sem,R]) (H4.out V.out) ((j.trans X).set3 (aP _) _ _ _) rfl
  obtain⟨d,q,h2,B,Y⟩:=mp (H.out rfl);clear C D H H4;have C:=hdq q;have D:=hdq h2;have H:=hdq B;have H4:=hdq Y;clear q h2 B Y;go_wp2_with fail;refine(MF (kd f 0) _ (fun b=>(N b/\b≠w0.heap.size+1)/\b≠gb) (Oa Q.1.1.1.1 (aM _) Q.2.1.2.2.2) _ ((F0.out _ (xr _).off).1.2.1.i.keep O El) gh.out).mono ?_;rintro e w7 ⟨u,rfl,hT,e⟩;obtain⟨u1,u2,u3,u4,u5,rfl⟩:=hT.three;replace O:=O.trans e;replace X:=X.trans e;replace Q:=F.out _ X.off;have Zx:=cbn (X.blk U);obtain⟨X2,p⟩:=Off.new3 O El (X.blk U) (.int .i64 u1) (.int .i64 u2) (.slice u3 u4 u5);have Q2:=F0.out _ X2.off;have Q3:=cb3 p;replace hT:=hT.ret (.int .i64 u1) (.int .i64 u2) (.slice u3 u4 u5);go_wp2_with fail;clear Zx Q Q2 Q3 X F m br j O U;generalize cP (cP (cP w7 _ _) _ _) _ _=w8 at*;have F:=F0;have m:=HJ0;have br:=bk;have j:=e0;have X:=X2;clear F0 HJ0 bk e0 X2;replace F:=hdq (both (rb F.out X) (both (U9 p yn) (hT.up (xr _))));replace m:=hdq (m.out.ext X);replace br:=X.blk br;replace j:=j.trans X;replace X:=xr w8;have Q:=F.out _ X.off;clear p hT yn El;refine(kw k n ca ct s l8 _ _ (m.out.ext X) 2 (by rw[I4.out];decide) _ _ Q.2.2 _ d C.out D.out).mono ?_;rintro e w9 ⟨rfl,e⟩;replace X:=X.trans e;replace Q:=F.out _ X.off;obtain⟨V,t⟩ |rfl:=cz d
  · have R:=cbn (X.blk br)
    go_wp2_with fail;exact ya (by simp[aQ,results147,go_sem,R]) (H4.out V.out) ((j.trans X).set3 (aP _) _ _ _) rfl
  obtain⟨c,G1,G2,G3⟩:=Mc (H.out rfl);clear C D H H4;go_wp2_with fail;refine rgn (w0.heap.size+1) (by kernel_rfl) X ?_;replace X:=X.drew;refine W2 [0] 3 (by kernel_rfl) X.off (fun _ _ _ _ _ h=> h) ?_;refine tk rfl (by rfl) (by intro w X;have Q:=F.out _ X;go_simp;(try with_reducible rfl)) ?_
  try simp only[I3]
  replace Q:=F.out _ X.off;refine H0 1 (by kernel_rfl) rfl rfl (fun K hK=> ?_)
  go_simp
  go_at_call 56
  refine(Oe _ 6 none 0 0).mono ?_;rintro e W9 ⟨rfl,e⟩;replace X:=X.trans e;replace Q:=F.out _ X.off;refine hK.out _ _ X.off (fun _=> ?_);clear hK K;refine H0 2 (by kernel_rfl) rfl rfl (fun K hK=> ?_)
  go_simp
  go_at_call 141
  refine(qD k n ca ct s l8 _ _ (m.out.ext X) 3 (by rw[I4.out];decide) i5 _ (F5 _ _ 6 0) c G1.out).mono ?_;rintro e bh ⟨rfl,e⟩;replace X:=X.trans e;replace Q:=F.out _ X.off;refine hK.out _ _ X.off (fun _=> ?_);clear hK K;refine W2 [3] 0 (by kernel_rfl) X.off (fun _ _ _ _ _ h=> h) ?_;refine tk rfl (by rfl) (by intro w X;go_simp;(try with_reducible rfl)) ?_
  try simp only[I3]
  refine bP (by kernel_rfl) ?_ _;obtain⟨V,t⟩ |rfl:=cz c
  · have R:=cbn (X.blk br)
    go_wp2_with fail;exact ya (by simp[aQ,results147,go_sem,R]) (G3.out V.out) ((j.trans X).set3 (aP _) _ _ _) rfl
  have HR:=hdq (bZ (G2.out rfl));clear G1 G2 G3;go_wp2_with fail;refine rgn (w0.heap.size+1) (by kernel_rfl) X ?_;replace X:=X.drew;refine W2 [0,1,2,3,4,5] 7 (by kernel_rfl) X.off (fun _ _ _ _ _ h=> h) ?_
  iterate 6 (refine tk rfl (by rfl) (by intro w X;have Q:=F.out _ X;go_simp;(try with_reducible rfl)) ?_;try simp only[I3])
  replace Q:=F.out _ X.off;refine H0 6 (by kernel_rfl) rfl rfl (fun K hK=> ?_)
  go_simp
  obtain⟨e,o7⟩:=k7 25 Q.1.1.2.1.i Q.1.1.2.2.2.2.i Q.1.1.1.1;replace X:=X.trans e;replace Q:=F.out _ X.off;refine hK.out _ _ X.off (fun _=> ?_);clear hK K;refine H0 7 (by kernel_rfl) rfl rfl (fun K hK=> ?_)
  go_simp
  go_at_call 56
  refine(Sm 5 o7 rfl).mono ?_;rintro e im ⟨rfl,hx,e⟩;replace X:=X.trans e;replace Q:=F.out _ X.off;refine hK.out _ _ X.off (fun _=> ?_);clear hK K;refine H0 8 (by kernel_rfl) rfl rfl (fun K hK=> ?_)
  go_simp
  go_at_call 103
  refine(Vf hx).mono ?_;rintro e wh ⟨_,_,_,_,_,rfl,hz,e⟩;replace X:=X.trans e;replace Q:=F.out _ X.off;refine hK.out _ _ X.off (fun _=> ?_);clear hK K;refine W2 [9,10] 2 (by kernel_rfl) X.off (fun _ _ _ _ _ h=> h) ?_
  iterate 2 (refine tk rfl (by rfl) (by intro w X;go_simp;(try with_reducible rfl)) ?_;try simp only[I3])
  have R:=cbn (X.blk br);refine H0 11 (by kernel_rfl) rfl rfl (fun K hK=> ?_)
  go_simp
  refine hK.out _ _ (X.off.set3 _ _ _) (fun _=> ?_);clear hK K;refine W2 [12] 0 (by kernel_rfl) (X.off.set3 _ _ _) (fun _ _ _ _ _ h=> h) ?_;refine tk rfl (by rfl) (by intro w X;go_simp;(try with_reducible rfl)) ?_
  try simp only[I3]
  refine bP (by kernel_rfl) ?_ _;go_wp2_with fail;exact n7 (by simp[aQ,results147,go_sem,R]) (hz) (me HR.out.symm) (j.trans X) (aP _) rfl
