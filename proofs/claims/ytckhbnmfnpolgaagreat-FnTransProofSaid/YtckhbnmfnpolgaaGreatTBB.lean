/- Lemmas towards the law. -/
import Derived.Test.YtckhbnmfnpolgaaGreatTBA
open Option.some renaming inj->cN,injEq->cM
open Go renaming World->aN,Value->aU,Calls->aY,results->aS,bodyPost_ret->aQ,wpAnyH_done->bO
open Nat renaming le_trans->bM,le_refl->aP,le_succ->aR
open Go.World renaming alloc->aO,setCell->bT
open Go.Proofs.Tryz
set_option linter.all false
set_option maxHeartbeats 8000000
set_option maxRecDepth 100000
namespace Go.Proofs.YtckhbnmfnpolgaaGreat
open Go.RowKit
open M (Hd HR Cv Ty j2 rc a7 O5 wg)
theorem okS{f:Nat}{G:List M.Tm}{t:M.Tm}{s:Tr}(hG:y6 G)(hv:valid sigT (enc t)=true)(e:O0 f (ctxE G) (enc t)=some (s,0)):G.length<=20/\ ∃b,P0 b (ctxE G) (enc t)=some (s,0):=by
 have hl:G.length<=20:=by
  cases f with
  |zero=> cases e
  |succ f=>
   by_cases h:G.length<=20
   · exact h
   · exfalso
     generalize enc t=x at e;obtain⟨k,n,i⟩:=x;unfold O0 at e;rw[if_pos (.inr (by rw[q28];omega))] at e;simp at e
 obtain⟨b,r,d⟩:=Tv 20 G (by omega) hG t hv;refine⟨hl,b, ?_⟩;rcases(j166 f b (ctxE G) (enc t) hv (by rw[q28];exact hl)).okS e with h|h
 · rw[d] at h;cases h
 · exact h
theorem Dz{f:Nat}{G:List M.Tm}{t:M.Tm}{s:Tr}(hG:y6 G)(hv:valid sigT (enc t)=true)(e:O0 f (ctxE G) (enc t)=some (s,0)): ∃A,s=enc A/\Ty G t A/\j2 G t/\valid sigT (enc A)=true:=by
 obtain⟨-,b,d⟩:=okS hG hv e;exact snd b G t s hG hv d
theorem Ri{f:Nat}{G:List M.Tm}{t A:M.Tm}{s:Tr}(hG:y6 G)(hv:valid sigT (enc t)=true)(h:Ty G t A)(e:O0 f (ctxE G) (enc t)=some (s,0)):s=enc A/\valid sigT (enc A)=true:=by
 obtain⟨B,rfl,b,-,v⟩:=Dz hG hv e;obtain rfl:=b.det h;exact⟨rfl,v⟩
theorem Ti{f:Nat}{G:List M.Tm}{t:M.Tm}{k:Int}{s:Tr}(hG:y6 G)(hv:valid sigT (enc t)=true)(e:Q0 (O0 f (ctxE G) (enc t)) k=some (s,0)): ∃b,Q0 (P0 b (ctxE G) (enc t)) k=some (s,0):=by
 obtain⟨u,i,j⟩:=ga e;obtain⟨-,b,d⟩:=okS hG hv i;exact⟨b,by rw[d];exact j⟩
theorem If{f:Nat}{G:List Tr}{k n:Int}{b:List Tr}(h:Nb (qf G (O0 f) (Sa (O0 f) G k b) k n b)):Nb (O0 (f+1) G (.mk k n b)):=by
 unfold O0;by_cases e:valid sigT (.mk k n b)=false\/20 < G.length
 · rw[if_pos e];exact Nb.one (.inr rfl)
 · rw[if_neg e];exact h.thn fun s _=> Nb.mk s
theorem Bz{f:Nat}{G:List M.Tm}{k:Int}{A t:M.Tm}(hk:T4 k 1=1)(h:Nb (O0 f (ctxE (A::G)) (enc t))):Nb (Sa (O0 f) (ctxE G) k [enc A,enc t] 1):=by
 unfold Sa;rw[if_neg (by rw[hk];decide),show ctxE G++ [kd [enc A,enc t] 0]=ctxE (A::G) from(de A G).symm];exact h
theorem LD{f:Nat}{G:List M.Tm}{k:Int}{A t:M.Tm}{s:Tr}(hk:T4 k 1=1)(h:Sa (O0 f) (ctxE G) k [enc A,enc t] 1=some (s,0)):O0 f (ctxE (A::G)) (enc t)=some (s,0):=by
 unfold Sa at h
 rwa [if_neg (by rw[hk];decide),show ctxE G++ [kd [enc A,enc t] 0]=ctxE (A::G) from(de A G).symm] at h
theorem lm: ∀(f:Nat) (G:List M.Tm) (t A:M.Tm),y6 G->valid sigT (enc t)=true->Ty G t A->j2 G t->Nb (O0 f (ctxE G) (enc t))
 |0,G,t,A,hG,hv,h,hl=> by intro s c e;cases e
 |f+1,G,t,A,hG,hv,h,hl=> by
  have ih:=lm f G;have H:=lm f;have K: ∀{X S:M.Tm} {i:Nat},Ty G X S->HR S (.sort i)->j2 G X->a7 G X:=fun{X S i} d l m=>⟨m,i,M.lev_le (j2.type d hG.wf m) l,S,d,l⟩
  have lev: ∀{X S:M.Tm} {i:Nat},valid sigT (enc X)=true->Ty G X S->HR S (.sort i)->j2 G X->Nb (Q0 (O0 f (ctxE G) (enc X)) 2):=fun{X S i} v d l m=>
   (ih X S hG v d m).frm fun s e=>⟨S,.sort i,(Ri hG v d e).1,l,by simp[M.hk],rfl⟩
  have chk: ∀{X S W:M.Tm} {y:An},valid sigT (enc X)=true->Ty G X S->Cv S W->j2 G X->Nb y->Nb (E4 (O0 f (ctxE G) (enc X)) (enc W) y):=fun{X S W y} v d l m hy=>
   (ih X S hG v d m).chk (fun s e=>⟨S,(Ri hG v d e).1,l⟩) hy
  have fam: ∀{X F C D T:M.Tm} {j:Nat} {y:An},valid sigT (enc X)=true->Ty G X F->HR F (.pi C D)->Cv C T->HR D (.sort j)->j2 G X->Nb y->Nb (Ea (O0 f (ctxE G) (enc X)) (enc T) y):=fun{X F C D T j y} v d l m o I hy=>
   (ih X F hG v d I).fam (fun s e=>⟨F,C,D,j,(Ri hG v d e).1,l,m,o⟩) hy
  cases h with
  | @var _ n A h=>
   have hn:=M.lk_lt h;refine If (show Nb (some (ju (ctxE G) (n:Int))) from ?_);unfold ju;rw[if_neg (by rw[q28];omega)];exact Nb.ok _
  | @sort _ n=>
   have hn:n < 3:=hl;refine If (show Nb (some (if 3<=(n:Int) then(D2,(1:Int)) else(m7 ((n:Int)+1),0))) from ?_);rw[if_neg (by omega)];exact Nb.ok _
  |nat=> exact If (Nb.ok (m7 0))
  |zero=> exact If (Nb.ok L6)
  | @succ _ a X d l=> exact If (chk (W:= .nat) (Z0 hv (by simp)) d l hl (Nb.ok L6))
  | @pi _ A B S J i k d l m o=>
   have q:=hG.cons (K d l hl.1) (Z0 hv (by simp));exact If ((lev (Z0 hv (by simp)) d l hl.1).thn fun s _=>((Bz rfl (H _ B J q (Z0 hv (by simp)) m hl.2)).frm fun s e=>⟨J,.sort k,(Ri q (Z0 hv (by simp)) m (LD rfl e)).1,o,by simp[M.hk],rfl⟩).thn fun _ _=> Nb.ok _)
  | @sg _ A B S J i k d l m o=>
   have q:=hG.cons (K d l hl.1) (Z0 hv (by simp));exact If ((lev (Z0 hv (by simp)) d l hl.1).thn fun s _=>((Bz rfl (H _ B J q (Z0 hv (by simp)) m hl.2)).frm fun s e=>⟨J,.sort k,(Ri q (Z0 hv (by simp)) m (LD rfl e)).1,o,by simp[M.hk],rfl⟩).thn fun _ _=> Nb.ok _)
  | @lam _ A t B S i d l m=>
   have bA:=K d l hl.1;have q:=hG.cons bA (Z0 hv (by simp));refine If ((lev (Z0 hv (by simp)) d l hl.1).thn fun s _=>(Bz rfl (H _ t B q (Z0 hv (by simp)) m hl.2.1)).thn fun b e=> ?_);obtain⟨rfl,vB⟩:=Ri q (Z0 hv (by simp)) m (LD rfl e);obtain⟨k,lk⟩:=m.corr q.wf.wf;have hk:=hl.2.2 B k m lk;have lB:j2 (A::G) B:=by
    rcases j2.type m q.wf hl.2.1 with rfl|b
    · have:=lk.det (O5.sort _ 3)
      omega
    · exact b.1
   obtain⟨J,k1,k2⟩:=lk;have e2:ctxE G++ [kd [enc A,enc t] 0]=ctxE (A::G):=(de A G).symm;rw[e2];exact(lev (Z0 hv (by simp)) d l hl.1).thn fun _ _=>((H _ B J q vB k1 lB).frm fun s e=>⟨J,.sort k,(Ri q vB k1 e).1,k2,by simp[M.hk],rfl⟩).thn fun _ _=> Nb.ok _
  | @app _ g a F X C R d l m o=>
   refine If (((ih g F hG (Z0 hv (by simp)) d hl.1).frm fun s e=>⟨F,.pi C R,(Ri hG (Z0 hv (by simp)) d e).1,l,by simp[M.hk],rfl⟩).thn fun s e=> ?_);obtain⟨f',O⟩:=Ti hG (Z0 hv (by simp)) e;obtain⟨F',C',R',rfl,tF,rF,-,-,-⟩:=Vk (snd f') hG (Z0 hv (by simp)) O;obtain rfl:=tF.det d;obtain⟨rfl,rfl⟩:=rF.pi_det l;exact chk (W:=C') (Z0 hv (by simp)) m o hl.2 (Nb.ok _)
  | @elim _ p z s a F Z S X C D k d l m o I L V h8 h9 h10=>
   refine If (fam (T:= .nat) (Z0 hv (by simp)) d l m o hl.1 (chk (W:= .app p .zero) (Z0 hv (by simp)) I L hl.2.1 ?_));rw[show Oc (kd [enc p,enc z,enc s,enc a] 0)=enc (M.stepTy p) from uq p];exact chk (Z0 hv (by simp)) V h8 hl.2.2.1 (chk (W:= .nat) (Z0 hv (by simp)) h9 h10 hl.2.2.2 (Nb.ok _))
  | @id _ T a b S X Y i d l m o I L=>
   exact If ((lev (Z0 hv (by simp)) d l hl.1).thn fun s _=> chk (Z0 hv (by simp)) m o hl.2.1 (chk (Z0 hv (by simp)) I L hl.2.2 (Nb.ok _)))
  | @refl _ a X d=>
   refine If ((ih a X hG (Z0 hv (by simp)) d hl.1).thn fun s e=> ?_);obtain⟨rfl,vX⟩:=Ri hG (Z0 hv (by simp)) d e;obtain⟨k,lk⟩:=d.corr hG.wf.wf;have hk:=hl.2 X k d lk;have lX:j2 G X:=by
    rcases j2.type d hG.wf hl.1 with rfl|b
    · have:=lk.det (O5.sort _ 3)
      omega
    · exact b.1
   obtain⟨J,k1,k2⟩:=lk;exact(lev vX k1 k2 lX).thn fun _ _=> Nb.ok _
  | @move _ p e a E T b c F T' D k X d l m o I L V h8=>
   refine If (((ih e E hG (Z0 hv (by simp)) d hl.2.1).frm fun s O=>⟨E,.id T b c,(Ri hG (Z0 hv (by simp)) d O).1,l,by simp[M.hk],rfl⟩).thn fun s O=> ?_);obtain⟨f',e''⟩:=Ti hG (Z0 hv (by simp)) O;obtain⟨E',U,b',c',rfl,tE,rE,-,-,-,-⟩:=yq (snd f') hG (Z0 hv (by simp)) e'';obtain rfl:=tE.det d;obtain⟨rfl,rfl,rfl⟩:=rE.id_det l;exact fam (T:=U) (Z0 hv (by simp)) m o I L hl.1 (chk (W:= .app p b') (Z0 hv (by simp)) V h8 hl.2.2 (Nb.ok _))
  | @pair _ T a b S i C D X Y d l m o I L V=>
   refine If ((lev (Z0 hv (by simp)) d l hl.1).thn fun s _=>(Nb.shp (F:=A) m (by simp[M.hk]) rfl).thn fun s e=> ?_);have e1:S4 (enc A) 13=(s,0):=cN e;obtain⟨e2,e3⟩:=Vz (t:=enc A) (kind:=13) (by rw[e1]);rw[e1] at e2 e3;obtain⟨B,rfl,rB,hs,-⟩:=nj e2;obtain rfl:=Us rB hs m (by simp[M.hk]);refine chk (W:=C) (Z0 hv (by simp)) o I hl.2.1 ?_;rw[show X0 (kd [enc A,enc a,enc b] 1) (kd (enc (.sg C D)).kids 1) 0 0=enc (D.inst a) from Yp D a];exact chk (Z0 hv (by simp)) L V hl.2.2 (Nb.ok _)
  | @fst _ a X C D d l=> exact If (((ih a X hG (Z0 hv (by simp)) d hl).frm fun s e=>⟨X,.sg A D,(Ri hG (Z0 hv (by simp)) d e).1,l,by simp[M.hk],rfl⟩).thn fun _ _=> Nb.ok _)
  | @snd _ a X C D d l=> exact If (((ih a X hG (Z0 hv (by simp)) d hl).frm fun s e=>⟨X,.sg C D,(Ri hG (Z0 hv (by simp)) d e).1,l,by simp[M.hk],rfl⟩).thn fun _ _=> Nb.ok _)
theorem vm{f e:Nat}{G:List M.Tm}{t A:M.Tm}(hG:y6 G)(hl:G.length<=20)(hv:valid sigT (enc t)=true)(h:Ty G t A)(b:j2 G t):Rl False (O0 f (ctxE G) (enc t)) (P0 e (ctxE G) (enc t)):=by
 intro s c i j d k;rcases j166 f e (ctxE G) (enc t) hv (by rw[q28];exact hl) s c i j d k with l|⟨-,-,-,rfl,-⟩
 · exact .inl l
 · rcases lm f G t A hG hv h b s 1 d with h|h <;> cases h
end Go.Proofs.YtckhbnmfnpolgaaGreat
namespace Go.Proofs.YtckhbnmfnpolgaaGreat
open Go Go.RowKit
structure SJ (w:aN) (N:Nat->Prop) (A:Option Addr) (G:List Tr) (ca:Nat):Prop where
 hN: ∀b,w.heap.size<=b->N b
 hl:G.length<=ca
 hc:ca<=maxLen
 hG:InK w N A G
 h21:G.length<=21
 hA:A=none->ca=0
 hv: ∀x∈G,valid sigT x=true
theorem SJ.ext{w w':aN}{N:Nat->Prop}{A:Option Addr}{G:List Tr}{ca:Nat}(h:SJ w N A G ca)(e:Ext w w'):SJ w' N A G ca:=
 ⟨fun b d=> h.hN b (bM e.size d),h.hl,h.hc,h.hG.later e,h.h21,h.hA,h.hv⟩
theorem SJ.keep{w w':aN}{N:Nat->Prop}{A:Option Addr}{G:List Tr}{ca:Nat}(h:SJ w N A G ca)(e:Ext w w'){g:Nat}(f:w.heap.size<=g)(d:g < w'.heap.size):SJ w' (fun b=> N b/\b≠g) A G ca:=
 ⟨Va h.hN e.size d,h.hl,h.hc,h.hG.keep e f,h.h21,h.hA,h.hv⟩
def xa(f:Nat):Prop:= ∀(G:List Tr) (t:Tr) (r:Tr×Int),O0 f G t=some r-> ∀(w:aN) (N:Nat->Prop) (A:Option Addr) (ca:Nat) (v:aU),SJ w N A G ca->InT w N t v->
 aY prog 89 #[.slice A G.length ca,v] w (n9 N w r)
theorem aq(s:Tr)(kind:Int):S4 s kind=if(Rb s).2=0 then(if(Rb s).1.kind=kind then((Rb s).1,0) else(D2,1)) else(D2,(Rb s).2):=by
 unfold S4 Rb;by_cases h:(b8 s 200).2≠0
 · simp[h]
 · simp only[if_neg h,if_true]
   by_cases b:(b8 s 200).1.kind=kind
   · rw[if_neg (by simpa using b),if_pos b]
   · rw[if_pos b,if_neg b]
theorem QD{s:Tr}{kind:Int}{r:Tr×Int}(h:S4 s kind=r): ∃X d,Rb s=(X,d)/\(d=0->(X.kind=kind->r=(X,0))/\(X.kind≠kind->r=(D2,1)))/\(d≠0->r=(D2,d)):=by
 rw[aq] at h;refine⟨(Rb s).1,(Rb s).2,rfl,fun hd=>⟨fun hk=> ?_,fun hk=> ?_⟩,fun hd=> ?_⟩
 · rw[if_pos hd,if_pos hk] at h;exact h.symm
 · rw[if_pos hd,if_neg hk] at h;exact h.symm
 · rw[if_neg hd] at h;exact h.symm
theorem Qs{x:An}{kind:Int}{s:Tr}(h:Q0 x kind=some (s,0)):s.kind=kind/\(s.kids.length:Int)=S0 kind/\valid sigT s=true:=vi h
theorem ZA{x:An}{kind:Int}{r:Tr×Int}(h:Q0 x kind=some r): ∃s c,x=some (s,c)/\(c=0->S4 s kind=r)/\(c≠0->r=(D2,c)):=by
 obtain⟨s,c,e,b,d⟩:=we h;exact⟨s,c,e,fun hc=> by simpa using b hc,d⟩
theorem Xt(k:Int)(w:aN)(N:Nat->Prop)(hN: ∀b,w.heap.size<=b->N b)(A:Option Addr)(c:Nat)(f:List Tr)(hK:InK w N A f)(j:f≠ [])(hc:f.length<=c)(hn:f.length<=1000):
 aY prog 60 #[j0 k,.slice A f.length c] w fun e w'=> ∃u,e= .returned u/\InT w' N (.mk k 0 f) u/\Ext w w':=
 (RF w k A c f (fun h=> by
  rcases hK with i|⟨p,o,i,-⟩
  · exact absurd i j
  · rw[h] at i;cases i) (fun b=> N b/\b < w.heap.size) (fun b d=> d.2) hK.bound (by omega)).mono fun e w' ⟨u,n,m,l⟩=>⟨u,n,m.mono (fun b d=> by
    rcases d with d|d
    · exact d.1
    · exact hN b d.1) (fun _ _=> rfl),l⟩
theorem Vx(t u:Tr)(ht:valid sigT t=true)(i:valid sigT u=true)(w:aN)(N:Nat->Prop)(hN: ∀b,w.heap.size<=b->N b)(f d:aU)(n:Lies w t f)(l:Lies w u d):
 aY prog 121 #[f,j0 0,d,j0 0] w fun e w'=> ∃r,e= .returned r/\InT w' N (X0 u t 0 0) r/\Ext w w':=
 (oB t w f 0 u d 0 30 (N4 ht).1 n (by have:=(N4 ht).2;omega) (N4 i).1 (by have:=(N4 i).2;omega) l (by omega) (by have:=(N4 ht).2;omega) (by omega) (by have:=(N4 ht).2;omega)).mono fun e w' ⟨r,m,j,k⟩=>⟨r,m,j.at' hN,k⟩
theorem so(t:Tr)(y:Int)(ht:valid sigT t=true)(i:0<=y)(hy2:y<=1000)(w:aN)(N:Nat->Prop)(hN: ∀b,w.heap.size<=b->N b)(v:aU)(k:Lies w t v):
 aY prog 104 #[v,j0 y,j0 0] w fun e w'=> ∃r,e= .returned r/\InT w' N (shfT y t 0) r/\Ext w w':=
 (LA t w v y 0 30 (N4 ht).1 k (by have:=(N4 ht).2;omega) i (by omega) (by omega) (by have:=(N4 ht).2;omega)).mono fun e w' ⟨r,j,d,f⟩=>⟨r,j,d.at' hN,f⟩
def Ni(N:Nat->Prop)(w:aN)(r:Tr×Int)(e:Ending)(w':aN):Prop:= ∃u t,e= .returned (.tuple #[u,.int .i64 r.2])/\InT w' N t u/\(r.2=0->t=r.1)/\Ext w w'
theorem n9.r{N:Nat->Prop}{w:aN}{r:Tr×Int}{e:Ending}{w':aN}(h:n9 N w r e w'):Ni N w r e w':=by
 obtain⟨u,f,b,d⟩:=h;exact⟨u,_,f,b,fun _=> rfl,d⟩
theorem um{r:Tr×Int}{c:Int}{T:Tr}(h:r=(D2,c))(hc:c≠0):r.2=c/\(c=0->T=r.1):=by
 subst h;exact⟨rfl,fun h=> absurd h hc⟩
theorem jt{r:Tr×Int}{T:Tr}(h:some (T,(0:Int))=some r):r.2=0/\((0:Int)=0->T=r.1):=by
 obtain rfl:=cN h;exact⟨rfl,fun _=> rfl⟩
theorem Nl{r:Tr×Int}{c:Int}{T:Tr}(d:c=0->some (T,(0:Int))=some r)(b:c≠0->r=(D2,c)):r.2=c/\(c=0->T=r.1):=by
 by_cases hc:c=0
 · subst hc
   exact jt (d rfl)
 · exact um (b hc) hc
section
variable {r : Nat} {w w' w0 w1 : aN} {P Q : aN → Prop}
theorem SJ.off{N:Nat->Prop}{A:Option Addr}{G:List Tr}{ca:Nat}(h:SJ w N A G ca)(hN: ∀b,N b->b≠r)(w':aN)(e:Off r w w'):SJ w' N A G ca:=
 ⟨fun b d=> h.hN b (bM e.1 d),h.hl,h.hc,h.hG.off e hN,h.h21,h.hA,h.hv⟩
theorem Se{N:Nat->Prop}{A:Option Addr}{G:List Tr}{ca:Nat}{i n l m f d:aU}{e k:TypeId}(o:w1=(w0.alloc (.cells #[i,n,l] e)).alloc (.cells #[m,f,d] k))(q:SJ w0 N A G ca):
 Ext w0 w1/\w1.heap[w0.heap.size+1]? =some (.cells #[m,f,d] k)/\ ∀w',Off (w0.heap.size+1) w1 w'->SJ w' (fun b=> N b/\b≠w0.heap.size+1) A G ca/\w'.cell? ⟨w0.heap.size,0,none⟩=some i/\w'.cell? ⟨w0.heap.size,1,none⟩=some n/\w'.cell? ⟨w0.heap.size,2,none⟩=some l/\w0.heap.size < w'.heap.size:=by
 obtain⟨p,v,s,j⟩:=box2 o;exact⟨j,v,both ((q.keep j (g:=w0.heap.size+1) (by omega) (by omega)).off fun b h=> h.2) (k8 p (by omega))⟩
end
theorem db(k:Int){w:aN}{N:Nat->Prop}(hN: ∀b,w.heap.size<=b->N b){A:Option Addr}{c:Nat}{i:List Tr}(hK:InK w N A i)(hc:(i.length==c && decide (0 < c)&& decide (c < 9))=true):
 aY prog 60 #[j0 k,.slice A c c] w fun e w'=> ∃f d,e= .returned (m0 k 0 f c d)/\InT w' N (.mk k 0 i) (m0 k 0 f c d)/\Ext w w':=by
 simp only[Bool.and_eq_true,beq_iff_eq,decide_eq_true_eq] at hc;obtain⟨⟨rfl,l⟩,o⟩:=hc;refine(Xt k w N hN A _ i hK (fun h=> by rw[h] at l;simp at l) (aP _) (by omega)).mono fun e w' ⟨u,m,j,n⟩=> ?_
 obtain⟨f,d,rfl,-⟩:=InT.mk_iff.1 j;exact⟨f,d,m,j,n⟩
theorem cl{t:Tr}{k n d:Int}{f:List Tr}(h:Rb t=(.mk k n f,d))(w:aN)(M:Nat->Prop)(l: ∀b,w.heap.size<=b->M b)(v:aU)(p:Lies w t v):
 aY prog 45 #[v] w fun e w'=> ∃A c,e= .returned (.tuple #[m0 k n A f.length c,j0 d])/\InT w' M (.mk k n f) (m0 k n A f.length c)/\InK w' M A f/\Ext w w':=
 (GH t w v p).mono fun e w' ⟨u,m,j,o⟩=> by
  rw[h] at m j;obtain⟨A,c,rfl,-,-,hK⟩:=InT.mk_iff.1 j;exact⟨A,c,m,InT.mono (fun b i=> l b i) (fun _ _=> rfl) j,InK.mono (fun b i=> l b i) (fun _ _=> rfl) hK,o⟩
section
variable {P : Program} {fn : Func} {a : Act} {w W : aN} {N : Nat → Prop} {r : Tr × Int} {c : Int} {g : Nat} {t : Tr} {u x y z : aU}
theorem Yi(e:(aS fn a.tmps).run P W= .ok (.tuple #[m0 0 0 none 0 0,j0 c]) W)(b:r=(D2,c))(hc:c≠0)(x:Ext w W)(d:a.defers= []):bodyPost P fn (Ni N w r) .ret a W:=
 aQ e d ⟨_,.mk 0 0 [],by rw[b],Z5 _ _ 0 0,fun h=> absurd (by rw[b] at h;exact h) hc,x⟩
theorem pb{w0:aN}(f:(aS fn a.tmps).run P (((w.setCell ⟨g,0,none⟩ x).setCell ⟨g,1,none⟩ y).setCell ⟨g,2,none⟩ z)= .ok (.tuple #[u,j0 c]) (((w.setCell ⟨g,0,none⟩ x).setCell ⟨g,1,none⟩ y).setCell ⟨g,2,none⟩ z))
 (hT:InT w (fun b=> N b/\b≠g) t u) (hr:r.2=c/\(c=0->t=r.1)) (X:Ext w0 w) (e:w0.heap.size<=g) (d:a.defers= []):bodyPost P fn (Ni N w0 r) .ret a (((w.setCell ⟨g,0,none⟩ x).setCell ⟨g,1,none⟩ y).setCell ⟨g,2,none⟩ z):=
 aQ f d ⟨_,t,by rw[hr.1],hT.ret _ _ _,fun h=> hr.2 (hr.1.symm.trans h),X.set3 e _ _ _⟩
end
theorem ss{s:Tr}{kind:Int}{r:Tr×Int}(h:S4 s kind=r): ∃k n b d,Hid (Rb s=(.mk k n b,d))/\Hid (d≠0->r=(D2,d))/\Hid (d=0->k≠kind->r=(D2,1))/\Hid (d=0->k=kind->r=(.mk k n b,0)):=by
 obtain⟨⟨k,n,b⟩,d,i,e,f⟩:=QD h;exact⟨k,n,b,d,hdq i,hdq f,hdq fun hd=>(e hd).2,hdq fun hd=>(e hd).1⟩
theorem qI{w0 w1:aN}{N:Nat->Prop}{A:Option Addr}{G:List Tr}{ca:Nat}{i m k l f d:aU}{e v:TypeId}(n:w1=(w0.alloc (.cells #[i,m,k] e)).alloc (.cells #[l,f,d] v))(p:SJ w0 N A G ca):
 Ext w0 w1/\w1.heap[w0.heap.size]? =some (.cells #[i,m,k] e)/\ ∀w',Off w0.heap.size w1 w'->SJ w' (fun b=> N b/\b≠w0.heap.size) A G ca/\w'.cell? ⟨w0.heap.size+1,0,none⟩=some l/\w'.cell? ⟨w0.heap.size+1,1,none⟩=some f/\w'.cell? ⟨w0.heap.size+1,2,none⟩=some d/\w0.heap.size+1 < w'.heap.size:=by
 obtain⟨o,q,s,j⟩:=box2 n;exact⟨j,o,both ((p.keep j (g:=w0.heap.size) (aP _) (by omega)).off fun b h=> h.2) (k8 q (by omega))⟩
end Go.Proofs.YtckhbnmfnpolgaaGreat
namespace Go.Proofs.YtckhbnmfnpolgaaGreat
open Go.RowKit
open M (Hd HR Cv Ty j2 rc a7 O5 wg)
theorem i5.ite{p:Prop}[Decidable p]{x y u v:An}(h:i5 x u)(k:i5 y v):i5 (if p then x else y) (if p then u else v):=by
 by_cases e:p
 · rw[if_pos e,if_pos e];exact h
 · rw[if_neg e,if_neg e];exact k
theorem ZD: ∀(f:Nat) (G:List Tr) (t:Tr),i5 (O0 f G t) (O0 (f+1) G t)
 |0,G,t=> fun r h=> by cases h
 |f+1,G,.mk k n b=> by
  have h:=ZD f;have k: ∀i,i5 (Sa (O0 f) G k b i) (Sa (O0 (f+1)) G k b i):=fun i=>(h _ _).ite (h _ _)
  have z:=i5.rfl';exact(z _).ite (i5.thn (i5.ite (z _) <|i5.ite (z _) <|i5.ite (z _) <|i5.ite (z _) <|
   i5.ite ((k 0).chk _ (z _)) <|
   i5.ite (((k 0).frm 2).thn fun _=>((k 1).frm 2).thn fun _=> z _) <|
   i5.ite (((k 0).frm 2).thn fun _=>(k 1).thn fun _=>((h _ _).frm 2).thn fun _=>((h _ _).frm 2).thn fun _=> z _) <|
   i5.ite (((k 0).frm 3).thn fun _=>(k 1).chk _ (z _)) <|
   i5.ite ((k 0).fam _ ((k 1).chk _ ((k 2).chk _ ((k 3).chk _ (z _))))) <|
   i5.ite (((k 0).frm 2).thn fun _=>(k 1).chk _ ((k 2).chk _ (z _))) <|
   i5.ite ((k 0).thn fun _=>((h _ _).frm 2).thn fun _=> z _) <|
   i5.ite (((k 1).frm 10).thn fun _=>(k 0).fam _ ((k 2).chk _ (z _))) <|
   i5.ite (((k 0).frm 2).thn fun _=>(z _).thn fun _=>(k 1).chk _ ((k 2).chk _ (z _))) <|
   ((k 0).frm 13).thn fun _=> z _) fun _=> z _)
theorem am{f b:Nat}(h:f<=b)(G:List Tr)(t:Tr):i5 (O0 f G t) (O0 b G t):=by
 induction h with
 |refl=> exact i5.rfl' _
 |step _ ih=> exact fun r e=> ZD _ G t r (ih r e)
def m9(G:List Tr)(t:Tr):Prop:= ∃f,Is (O0 f G t)
theorem m9.at{G:List Tr}{t:Tr}(h:m9 G t): ∃f,∀b,f<=b->Is (O0 b G t):=by
 obtain⟨f,r,e⟩:=h;exact⟨f,fun b hf=>⟨r,am hf G t r e⟩⟩
theorem m9.of{G:List Tr}{k n:Int}{b:List Tr}(f:Nat)(h:Is (qf G (O0 f) (Sa (O0 f) G k b) k n b)):m9 G (.mk k n b):=by
 refine⟨f+1, ?_⟩;unfold O0;by_cases e:valid sigT (.mk k n b)=false\/20 < G.length
 · rw[if_pos e];exact Is.mk _
 · rw[if_neg e];exact h.thn fun _ _=> Is.mk _
section
variable {G : List M.Tm}
theorem Ym{f:Nat}{k:Int}{A t:M.Tm}(hk:T4 k 1=1)(h:Is (O0 f (ctxE (A::G)) (enc t))):Is (Sa (O0 f) (ctxE G) k [enc A,enc t] 1):=by
 unfold Sa;rw[if_neg (by rw[hk];decide),show ctxE G++ [kd [enc A,enc t] 0]=ctxE (A::G) from(de A G).symm];exact h
theorem qy(hG:y6 G)(o: ∀A,a7 G A->valid sigT (enc A)=true-> ∀t,valid sigT (enc t)=true->m9 (ctxE (A::G)) (enc t)){A:M.Tm}(hA:valid sigT (enc A)=true)(h:m9 (ctxE G) (enc A))(t:M.Tm)(ht:valid sigT (enc t)=true):
 ∃f,∀d,f<=d->Is (O0 d (ctxE G) (enc A))/\ ∀s,Q0 (O0 d (ctxE G) (enc A)) 2=some (s,0)->Is (O0 d (ctxE (A::G)) (enc t)):=by
 obtain⟨e,l⟩:=h.at;by_cases j: ∃s,Q0 (O0 e (ctxE G) (enc A)) 2=some (s,0)
 · obtain⟨s,hs⟩:=j
   obtain⟨d,k⟩:=Ti hG hA hs;obtain⟨S,i,-,-,-,-,b,-⟩:=pe (snd d) hG hA k;obtain⟨n,m⟩:=(o A b hA t ht).at;exact⟨max e n,fun d hf=>⟨l d (by omega),fun _ _=> m d (by omega)⟩⟩
 · refine⟨e,fun d hf=>⟨l d hf,fun s hs=> ?_⟩⟩
   exfalso
   obtain⟨r,hr⟩:=l e (aP _);have:=am hf (ctxE G) (enc A) r hr;rw[this] at hs;rw[hr] at j;exact j ⟨s,hs⟩
def Qt(G:List M.Tm)(t:M.Tm):Prop:=valid sigT (enc t)=true->m9 (ctxE G) (enc t)
theorem DE(hG:y6 G)(K: ∀A,a7 G A->valid sigT (enc A)=true-> ∀t,valid sigT (enc t)=true->m9 (ctxE (A::G)) (enc t)):wg G (Qt G) where
 var:=fun n hv=> m9.of 0 (Is.mk (ju (ctxE G) (n:Int)))
 sort:=fun n hv=> m9.of 0 (Is.mk (if 3<=(n:Int) then(D2,(1:Int)) else(m7 ((n:Int)+1),0)))
 nat:=fun hv=> m9.of 0 (Is.mk (m7 0,0))
 zero:=fun hv=> m9.of 0 (Is.mk (L6,0))
 succ:=fun{a} h hv=> by
  obtain⟨f,d⟩:=(h (g9 hv (by simp))).at;exact m9.of f ((d f (aP _)).chk L6 (Is.mk _))
 pi:=fun{A} B h hv=> by
  obtain⟨f,d⟩:=qy hG K (g9 hv (by simp)) (h (g9 hv (by simp))) B (g9 hv (by simp));obtain⟨m,o⟩:=d f (aP _);exact m9.of f ((m.frm 2).thn fun s hs=>((Ym rfl (o s hs)).frm 2).thn fun _ _=> Is.mk _)
 sg:=fun{A} B h hv=> by
  obtain⟨f,d⟩:=qy hG K (g9 hv (by simp)) (h (g9 hv (by simp))) B (g9 hv (by simp));obtain⟨m,o⟩:=d f (aP _);exact m9.of f ((m.frm 2).thn fun s hs=>((Ym rfl (o s hs)).frm 2).thn fun _ _=> Is.mk _)
 lam:=fun{A} t h hv=> by
  have hA:=g9 hv (show enc A∈ [enc A,enc t] by simp);have ht:=g9 hv (show enc t∈ [enc A,enc t] by simp);obtain⟨f,d⟩:=qy hG K hA (h hA) t ht;obtain⟨m,o⟩:=d f (aP _);have e2:ctxE G++ [kd [enc A,enc t] 0]=ctxE (A::G):=(de A G).symm;by_cases H: ∃s b,Q0 (O0 f (ctxE G) (enc A)) 2=some (s,0)/\O0 f (ctxE (A::G)) (enc t)=some (b,0)
  · obtain⟨s,b,J,I⟩:=H
    obtain⟨f',Y⟩:=Ti hG hA J;obtain⟨S,i,-,-,-,-,V,-⟩:=pe (snd f') hG hA Y;obtain⟨B,rfl,-,-,vB⟩:=Dz (hG.cons V hA) ht I;obtain⟨j,L⟩:=(K A V hA B vB).at;refine m9.of (max f j) ?_;obtain⟨U,r3⟩:=d (max f j) (by omega);refine(U.frm 2).thn fun F e4=>(Ym rfl (r3 F e4)).thn fun b' e5=>(U.frm 2).thn fun _ _=> ?_
    have E:=LD rfl e5;rw[am (show f<=max f j by omega) _ _ _ I] at E;simp only[cM,Prod.mk.injEq,and_true] at E;subst E;rw[e2];exact((L (max f j) (by omega)).frm 2).thn fun _ _=> Is.mk _
  · refine m9.of f ?_
    refine(m.frm 2).thn fun s J=>(Ym rfl (o s J)).thn fun b I=> ?_
    exact absurd ⟨s,b,J,LD rfl I⟩ H
 app:=fun{g a} h k hv=> by
  obtain⟨l,d⟩:=(h (g9 hv (by simp))).at;obtain⟨j,m⟩:=(k (g9 hv (by simp))).at;exact m9.of (max l j) (((d _ (Nat.le_max_left ..)).frm 3).thn fun _ _=>(m _ (Nat.le_max_right ..)).chk _ (Is.mk _))
 elim:=fun{p z s a} d m o L hv=> by
  obtain⟨l,q⟩:=(d (g9 hv (by simp))).at;obtain⟨j,v⟩:=(m (g9 hv (by simp))).at;obtain⟨C,D⟩:=(o (g9 hv (by simp))).at;obtain⟨f4,g4⟩:=(L (g9 hv (by simp))).at;exact m9.of (l+j+C+f4) ((q _ (by omega)).fam _ ((v _ (by omega)).chk _ ((D _ (by omega)).chk _ ((g4 _ (by omega)).chk _ (Is.mk _)))))
 id:=fun{T a b} d m o hv=> by
  obtain⟨l,q⟩:=(d (g9 hv (by simp))).at;obtain⟨j,v⟩:=(m (g9 hv (by simp))).at;obtain⟨C,D⟩:=(o (g9 hv (by simp))).at;exact m9.of (l+j+C) (((q _ (by omega)).frm 2).thn fun _ _=>(v _ (by omega)).chk _ ((D _ (by omega)).chk _ (Is.mk _)))
 refl:=fun{a} h k hv=> by
  have R:=g9 hv (show enc a∈ [enc a] by simp);obtain⟨l,q⟩:=(h R).at;by_cases H: ∃s,O0 l (ctxE G) (enc a)=some (s,0)
  · obtain⟨s,e⟩:=H
    obtain⟨A,rfl,X,-,Z⟩:=Dz hG R e;obtain⟨j,v⟩:=(k A X Z).at;refine m9.of (l+j) ((q _ (by omega)).thn fun F O=> ?_);have E:O0 (l+j) (ctxE G) (enc a)=some (F,0):=O;rw[am (show l<=l+j by omega) _ _ _ e] at E;simp only[cM,Prod.mk.injEq,and_true] at E;subst E;exact((v (l+j) (by omega)).frm 2).thn fun _ _=> Is.mk _
  · exact m9.of l ((q _ (by omega)).thn fun F O=> absurd ⟨F,O⟩ H)
 move:=fun{p e a} d m o hv=> by
  obtain⟨l,q⟩:=(d (g9 hv (by simp))).at;obtain⟨j,v⟩:=(m (g9 hv (by simp))).at;obtain⟨C,D⟩:=(o (g9 hv (by simp))).at;exact m9.of (l+j+C) (((v _ (by omega)).frm 10).thn fun _ _=>(q _ (by omega)).fam _ ((D _ (by omega)).chk _ (Is.mk _)))
 pair:=fun{T a b} d m o hv=> by
  obtain⟨l,q⟩:=(d (g9 hv (by simp))).at;obtain⟨j,v⟩:=(m (g9 hv (by simp))).at;obtain⟨C,D⟩:=(o (g9 hv (by simp))).at;exact m9.of (l+j+C) (((q _ (by omega)).frm 2).thn fun _ _=>(Is.mk _).thn fun _ _=>(v _ (by omega)).chk _ ((D _ (by omega)).chk _ (Is.mk _)))
 fst:=fun{a} h hv=> by
  obtain⟨f,d⟩:=(h (g9 hv (by simp))).at;exact m9.of f (((d f (aP _)).frm 13).thn fun _ _=> Is.mk _)
 snd:=fun{a} h hv=> by
  obtain⟨f,d⟩:=(h (g9 hv (by simp))).at;exact m9.of f (((d f (aP _)).frm 13).thn fun _ _=> Is.mk _)
end
theorem py: ∀(d:Nat) (G:List M.Tm),21<=G.length+d->y6 G-> ∀t,Qt G t:=by
 intro d
 induction d with
 |zero=>
  intro G hd hG t hv;refine⟨1, ?_⟩;generalize enc t=x;obtain⟨k,n,e⟩:=x;unfold O0;rw[if_pos (.inr (by rw[q28];omega))];exact Is.mk _
 |succ d ih=>
  intro G hd hG;exact fun t=> M.allW (DE hG fun A b v t=> ih (A::G) (by simp only[List.length_cons];omega) (hG.cons b v) t) hG.wf.wf t
end Go.Proofs.YtckhbnmfnpolgaaGreat
namespace Go.Proofs.YtckhbnmfnpolgaaGreat
open Go.RowKit
attribute [local go_sem ↓] Go.wp_at_zero Go.wp_at_succ
theorem q138{wC:aN}{A:Option Addr}{ca:Nat}{G:List Tr}{B:Tr->An}(hI:kf wC A ca G B)(w0:aN)(N:Nat->Prop)(hx:Ext wC w0)(hN: ∀b,w0.heap.size<=b->N b)(hG:InK w0 N A G)(t:Tr)(v:aU)(ht:InT w0 N t v)(hv:valid sigT t=true)(kind:Int)(r:Tr×Int)(h:Q0 (B t) kind=some r):aY prog 95 #[.slice A G.length ca,v,j0 kind] w0 (n9 N w0 r):=by
 obtain⟨sA,c,h1,h2,h3⟩:=we h;obtain⟨k,n,ks⟩:=t;obtain⟨At,ct,rfl,hl,hc,hK⟩:=InT.mk_iff.1 ht;have HT:=hdq ht;have HI:=hdq hI;have HN:=hdq hN;have HG:=hdq hG;have HV:=hdq hv;have H1:=hdq h1;have H2:=hdq h2;have R:=hdq h3;clear h1 h2 h3;clear h hK ht hI hN hG hv;obtain⟨w1,E⟩: ∃x,x=((w0.alloc (D0 k n At ks.length ct)).alloc M0):=⟨_,rfl⟩;obtain⟨T,D,s1,m⟩:=box2 E;obtain⟨M,o⟩: ∃M,M=(fun b=> N b/\b≠w0.heap.size+1):=⟨_,rfl⟩;have O6:=hdq (show∀b,w1.heap.size<=b->M b from o▸Va HN.out m.size (by omega));have Dl:=hdq (show InK w1 M A G from o▸HG.out.keep m (aR _));have Kc:=hdq (show InT w1 M (.mk k n ks) _ from o▸HT.out.keep m (aR _));have HM:=hdq o;clear o;go_enter func95,ntmps95;go_wp2_with fail;rw[<-E];clear E;refine(HI.out w1 M (hx.trans m) O6.out Dl.out _ _ Kc.out HV.out _ H1.out).mono ?_;rintro e j ⟨u,rfl,hT,s⟩;have s2:=s.size;obtain⟨Z,X,H,I,O,rfl⟩:=hT.three;have T1:=hdq hT;clear hT;by_cases f:c=0
 case neg=>
  obtain rfl:=R.out f;have t1:(c !=0)=true:=by simp[f]
  clear f R;have l:=s;have K:=cb3 (l.blk T);have p:=cbn (l.blk D);have G7:Ext j (j.alloc (D0 Z X H I O)):=(xr j).alloc _;have Y:=m;have L:=Y.trans s;have Pr:=cbn (G7.blk (l.blk D));go_wp2_with fail;refine aQ (v:= .tuple #[m0 0 0 none 0 0,j0 c]) (by simp[aS,results95,go_sem,p,Pr]) rfl ⟨_,rfl,Z5 _ _ 0 0,((L.trans G7).set3 (by omega) _ _ _)⟩
 obtain⟨⟨⟨q1,q2,q3⟩,d⟩,J⟩: ∃q,S4 sA kind=q:=⟨_,rfl⟩;obtain rfl:r=(.mk q1 q2 q3,d):=by rw[<-J];simpa using(H2.out f).symm
 subst f;clear H2 R;have l:=s;have K:=cb3 (l.blk T);have p:=Ca (l.blk D);obtain⟨V,i⟩: ∃x,x=j.alloc (D0 Z X H I O):=⟨_,rfl⟩;have F:Ext j V:=i▸(xr j).alloc _;have S:=heap_alloc_new j (D0 Z X H I O);rw[<-i] at S;have s3:j.heap.size < V.heap.size:=D1 S;go_wp2_with fail;rw[<-i];clear i;clear K p;have j5:=l.trans F;have V2:=F;have U:=hdq (NE sA kind V M (fun b hb=> O6.out b (by have:=j5.size;omega)) _ (T1.out.lies'.ext V2));rw[J] at U;refine(U.out).mono ?_;rintro e w4 ⟨u,rfl,hT,C⟩;have s4:=C.size;simp only at hT⊢;obtain⟨a2,b2,A2,l2,c2,rfl⟩:=hT.three;have T2:=hdq hT;clear hT J U;have p5:=j5.trans C;have K:=cb3 (p5.blk T);have p:=Ca (p5.blk D);have U6:=C;have Zx:=cb3 (U6.blk S);have Y:=m;have L:=Y.trans s;have o6:=L.trans F;have s9:=o6.trans C;go_wp2_with fail;refine aQ (v:= .tuple #[m0 a2 b2 A2 l2 c2,j0 d]) (by simp[aS,results95,go_sem,p]) rfl ⟨_,rfl,InT.ret (HM.out▸T2.out) _ _ _,(s9.set3 (by omega) _ _ _)⟩
theorem zz{wC:aN}{A:Option Addr}{ca:Nat}{G:List Tr}{f:Tr->An}(m:kf wC A ca G f)(w0:aN)(N:Nat->Prop)(hx:Ext wC w0)(hN: ∀b,w0.heap.size<=b->N b)(hG:InK w0 N A G)(t:Tr)(v:aU)(ht:InT w0 N t v)(hv:valid sigT t=true)(r:Tr×Int)(h:Q0 (f t) 2=some r):aY prog 49 #[.slice A G.length ca,v] w0 fun e w'=> e= .returned (.tuple #[j0 r.1.num,j0 r.2])/\Ext w0 w':=by
 obtain⟨⟨L,V,O⟩,d⟩:=r;have E:=hdq h;obtain⟨k,n,F⟩:=t;obtain⟨At,ct,rfl,hl,hc,hK⟩:=InT.mk_iff.1 ht;have C:=hdq ht;have I:=hdq m;have s:=hdq hN;have q:=hdq hG;have H:=hdq hv;clear h hK ht m hN hG hv;obtain⟨w1,j⟩: ∃x,x=(w0.alloc (D0 k n At F.length ct)):=⟨_,rfl⟩;obtain⟨S,X,i⟩:=FB j;go_enter func49,ntmps49;go_wp2_with fail;rw[<-j];clear j;refine(q138 I.out w1 N (hx.trans i) (fun b T=> s.out b (by have:=i.size;omega)) (q.out.later i) _ _ (C.out.later i) H.out 2 _ E.out).mono ?_;rintro e Y ⟨u,rfl,hT,l⟩;have K:=l.size;obtain⟨U,J,rfl,R,o,p⟩:=InT.mk_iff.1 hT;clear hT p;have B:=i;have D:=B.trans l;go_wp2_with fail;go_ret2;exact⟨rfl,D.alloc _⟩
end Go.Proofs.YtckhbnmfnpolgaaGreat
namespace Go.Proofs.YtckhbnmfnpolgaaGreat
open Go Go.RowKit
attribute [local go_sem ↓] Go.wp_at_zero Go.wp_at_succ
theorem uJ{wC:aN}{p1 p2:Nat}{A:Option Addr}{G:List Tr}{At:Option Addr}{f:List Tr}{ty:Nat->An}(k n:Int)(ca ct:Nat)(s:f.length<=ct)(l9:ct<=maxLen)(w0:aN)(N:Nat->Prop)(hJ:zc wC w0 N p1 p2 A G At f ty)(j7:f.length=4)(Z:valid sigT (kd f 0)=true)(r:Tr×Int)(h:Wm ty (kd f 0) (kd f 3)=some r):aY prog 147 #[.agg #[.slice A G.length ca,j0 k,j0 n,.slice At f.length ct,.func (.func 105) #[] #[O2 p1,O2 p2]]] w0 (n9 N w0 r):=by
 have jy:=hdq Z;clear Z;obtain⟨c,J,I,H⟩:=Bs h;clear h;obtain⟨b,o,rfl,-,⟨O9,P3,P6,Q5,R6,K0⟩,⟨eh,ax,dv,df,bm,K1⟩,⟨ou,pn,oy,pq,pd,K2⟩,k31,k32,k33,k34,k35,K3⟩:=j37 hJ.hK j7;have hp:=zL j7;have J3:=hdq j7;clear j7;go_enter func147,ntmps147;go_wp2_with fail;generalize Y:aO (aO w0 _) _=w1;obtain⟨j,br,S⟩:=Nf Y.symm hJ.hN;have l:=hdq (hJ.keep j (g:=w0.heap.size+1) (aR _) (D1 br));have hz:w1.heap.size=w0.heap.size+1+1:=by rw[<-Y];simp
 clear hJ;have F:=hdq (both S (both (K0.up j (aR _)) (both (K1.up j (aR _)) (both (K2.up j (aR _)) (K3.up j (aR _))))));have X:=xr w1;have Q:=F.out _ X.off;clear S Y K0 K1 K2 K3;generalize Y:aO w1 _=w2;obtain⟨m,e⟩:=nb Y;rw[hz] at m;clear hz;replace F:=hdq (both (rb F.out (X.trans e)) (k8 m (by omega)));replace X:=X.trans e;replace l:=hdq (l.out.ext X);replace br:=X.blk br;replace j:=j.trans X;replace X:=xr w2;replace Q:=F.out _ X.off;clear Y m e;refine rgn (w0.heap.size+1) (by kernel_rfl) X ?_;replace X:=X.drew;refine B3 [0] 3 (by kernel_rfl) X.off (fun _ _ _ _ _ h=> h) ?_;refine tk rfl (by rfl) (by intro w X;have Q:=F.out _ X;go_simp;(try with_reducible rfl)) ?_
 try simp only[W2]
 replace Q:=F.out _ X.off;refine H0 1 (by kernel_rfl) rfl rfl (fun K hK=> ?_)
 go_simp
 go_at_call 56
 refine(Qe _ 6 none 0 0).mono ?_;rintro e w3 ⟨rfl,e⟩;replace X:=X.trans e;replace Q:=F.out _ X.off;refine hK.out _ _ X.off (fun _=> ?_);refine H0 2 (by kernel_rfl) rfl rfl (fun K hK=> ?_)
 go_simp
 go_at_call 181
 refine(GD k n ca ct s l9 _ _ (l.out.ext X) 0 (by rw[J3.out];decide) L6 _ (Z5 _ _ 6 0) c J.out).mono ?_;rintro e w4 ⟨rfl,e⟩;replace X:=X.trans e;replace Q:=F.out _ X.off;refine hK.out _ _ X.off (fun _=> ?_);refine B3 [3] 0 (by kernel_rfl) X.off (fun _ _ _ _ _ h=> h) ?_;refine tk rfl (by rfl) (by intro w X;go_simp;(try with_reducible rfl)) ?_
 try simp only[W2]
 refine bO (by kernel_rfl) ?_ _;obtain⟨T,t⟩ |rfl:=cz c
 · have R:=cbn (X.blk br)
   go_wp2_with fail;exact v9 (by simp[aS,results147,go_sem,R]) (H.out T.out) ((j.trans X).set3 (aR _) _ _ _) rfl
 obtain⟨d,q,h2,p,L⟩:=Xs (I.out rfl);clear J I H;have J:=hdq q;have I:=hdq h2;have H:=hdq p;have H4:=hdq L;clear q h2 p L;go_wp2_with fail;refine rgn (w0.heap.size+1) (by kernel_rfl) X ?_;replace X:=X.drew;refine B3 [0] 10 (by kernel_rfl) X.off (fun _ _ _ _ _ h=> h) ?_;refine tk rfl (by rfl) (by intro w X;have Q:=F.out _ X;go_simp;(try with_reducible rfl)) ?_
 try simp only[W2]
 replace Q:=F.out _ X.off;refine fk 9 70 7 #[true,true,true,true,true,true,true,true,true,false,false] 2 [.any,Sp.tree (fun b=> N b/\b≠w0.heap.size+1) (.mk 7 0 []),Sp.row (fun b=> N b/\b≠w0.heap.size+1) [kd f 0,(.mk 7 0 [])],Sp.tree (fun b=> N b/\b≠w0.heap.size+1) (.mk 5 0 [kd f 0,(.mk 7 0 [])]),Sp.two (fun b=> N b/\b≠w0.heap.size+1) (mkV (.mk 5 0 [kd f 0,.mk 7 0 []])).1 (j0 (mkV (.mk 5 0 [kd f 0,.mk 7 0 []])).2),Sp.two (fun b=> N b/\b≠w0.heap.size+1) (mkV (.mk 5 0 [kd f 0,.mk 7 0 []])).1 (j0 (mkV (.mk 5 0 [kd f 0,.mk 7 0 []])).2),Sp.tree (fun b=> N b/\b≠w0.heap.size+1) (mkV (.mk 5 0 [kd f 0,.mk 7 0 []])).1,Sp.val (j0 (mkV (.mk 5 0 [kd f 0,.mk 7 0 []])).2),Sp.box w4.drew] [1,2,3,4,5,6,7,8] (fun w h=>(X.trans h).off) (by kernel_rfl) rfl rfl (fun _ _ _ _ h=> h) ?hx3 ?st3 ?fi3
 case hx3=>(intro a w z hE D E;obtain⟨u5,C,h5⟩: ∃u,a.eval (.tmp 23)= .tuple #[u,j0 (mkV (.mk 5 0 [kd f 0,.mk 7 0 []])).2]/\InT w (Mz _ z) (mkV (.mk 5 0 [kd f 0,.mk 7 0 []])).1 u:=E 5 23 (by kernel_rfl);replace C:=v4 C;exact⟨j0 (mkV (.mk 5 0 [kd f 0,.mk 7 0 []])).2,Or.inl ⟨by rfl,fun w'' _=> by go_simp⟩,rfl⟩)
 case st3=>
  repeat' first|exact trivial|refine And.intro ⟨_,rfl, ?_⟩ ?_
  all_goals(intro a w z hE D E;refine Ord.step_of rfl rfl ?_;intro K hK)
  · (go_simp;go_at_call 56;refine(Qe w 7 none 0 0).mono ?_;rintro e w' ⟨rfl,B⟩;exact hK _ _ ⟨_,z,rfl,E9 hE B,Z5 _ _ _ _⟩)
  · (have f24:=v4 (show a.eval (.tmp 24)= m0 O9 P3 P6 Q5 R6 from D 24 (by kernel_rfl));have q:InT w (Mz _ z) (.mk 7 0 []) (a.eval (.tmp 25)):=E 1 25 (by kernel_rfl);obtain⟨_,_,_,_,_,f1⟩:=q.three;rw[f1] at q;replace f1:=v4 f1;go_simp;obtain⟨B,h⟩:=n7 25 (Q.1.2.1.i.oldG' hE) q (Mc Q.1.1.1 hE);exact hK _ _ ⟨_,z,rfl,E9 hE B,_,2,rfl,aP _,by decide,h⟩)
  · (obtain⟨A2,c2,f2,Jl,Ms,Hr⟩: ∃A c,a.eval (.tmp 26)= .slice A 2 c/\2<=c/\c<=maxLen/\InK w (Mz _ z) A [kd f 0,(.mk 7 0 [])]:=E 2 26 (by kernel_rfl);replace f2:=v4 f2;go_simp;go_at_call 56;refine(Qe w 5 A2 2 c2).mono ?_;rintro e w' ⟨rfl,B⟩;exact hK _ _ ⟨_,z,rfl,E9 hE B,InT.mk_iff.2 ⟨_,_,rfl,Jl,Ms,Hr.later B⟩⟩)
  · (have p:InT w (Mz _ z) (.mk 5 0 [kd f 0,(.mk 7 0 [])]) (a.eval (.tmp 27)):=E 3 27 (by kernel_rfl);obtain⟨_,_,_,_,_,f3⟩:=p.three;rw[f3] at p;replace f3:=v4 f3;go_simp;go_at_call 103;refine(Qi p).mono ?_;rintro e w' ⟨_,_,_,_,_,rfl,hu,B⟩;exact hK _ _ ⟨_,z,rfl,E9 hE B,_,rfl,hu⟩)
  · (obtain⟨u4,f4,L⟩: ∃u,a.eval (.tmp 28)= .tuple #[u,j0 (mkV (.mk 5 0 [kd f 0,.mk 7 0 []])).2]/\InT w (Mz _ z) (mkV (.mk 5 0 [kd f 0,.mk 7 0 []])).1 u:=E 4 28 (by kernel_rfl);replace f4:=v4 f4;go_simp;exact hK _ _ ⟨_,z,rfl,hE.id,_,rfl,L⟩)
  · (obtain⟨u5,C,h5⟩: ∃u,a.eval (.tmp 23)= .tuple #[u,j0 (mkV (.mk 5 0 [kd f 0,.mk 7 0 []])).2]/\InT w (Mz _ z) (mkV (.mk 5 0 [kd f 0,.mk 7 0 []])).1 u:=E 5 23 (by kernel_rfl);replace C:=v4 C;go_simp;exact hK _ _ ⟨_,z,rfl,hE.id,h5⟩)
  · (obtain⟨u5,C,h5⟩: ∃u,a.eval (.tmp 23)= .tuple #[u,j0 (mkV (.mk 5 0 [kd f 0,.mk 7 0 []])).2]/\InT w (Mz _ z) (mkV (.mk 5 0 [kd f 0,.mk 7 0 []])).1 u:=E 5 23 (by kernel_rfl);replace C:=v4 C;go_simp;exact hK _ _ ⟨_,z,rfl,hE.id,rfl⟩)
  · (go_simp;exact hK _ _ ⟨_,_,rfl,EG.box hE,_,rfl,List.mem_cons_self ..,(show _<=w.heap.size from hE.1.size),heap_alloc_new _ _⟩)
 case fi3=>
  intro v w' z hE hG;have ht:InT w' (Mz _ z) (mkV (.mk 5 0 [kd f 0,.mk 7 0 []])).1 (v 6):=hG 6 (by decide) (by kernel_rfl);obtain⟨a1,a2,a3,a4,a5,B8⟩:=ht.three;rw[B8] at ht;obtain⟨gb,hv2,gz,bl,bx⟩: ∃g,v 8= O2 g/\g∈z/\w4.drew.heap.size<=g/\w'.heap[g]? =_:=hG 8 (by decide) (by kernel_rfl);have hv3:v 7= j0 (mkV (.mk 5 0 [kd f 0,.mk 7 0 []])).2:=hG 7 (by decide) (by kernel_rfl);simp only[List.foldl,Ord.dstOf,List.getElem?_toArray,List.getElem?_cons_zero,List.getElem?_cons_succ,Option.bind_some,Act.put,List.setIfInBounds_toArray,List.set_cons_zero,List.set_cons_succ];rw[B8,hv2,hv3];replace ht:=(InT.mono (fun b (hb:Mz _ z b)=>(⟨hb.1,fun h=> hb.2 (h▸gz)⟩:(fun b=> N b/\b≠w0.heap.size+1) b/\b≠gb)) (fun _ _=> rfl) ht).ret (j0 a1) (j0 a2) (.slice a3 a4 a5);have U:=kp X bl br;have zg:=bM X.size bl;have X1:=X;replace X:=X.trans hE.1;have Zx:=cbn bx;clear hG hE gz B8 hv2;refine H0 9 (by kernel_rfl) rfl rfl (fun K hK=> ?_)
  go_simp
  have e:=Off.new3 X (bM X1.size bl) bx (j0 a1) (j0 a2) (.slice a3 a4 a5);refine hK.out _ _ e.1.off (fun _=> ?_);clear hK K Zx;replace X:=e.1;have m:=e.2;generalize bT (bT (bT w' _ _) _ _) _ _=w5 at*;refine B3 [10] 0 (by kernel_rfl) X.off (fun _ _ _ _ _ h=> h) ?_;refine tk rfl (by rfl) (by intro w X;go_simp;(try with_reducible rfl)) ?_
  try simp only[W2]
  refine bO (by kernel_rfl) ?_ _;clear bx e X1;have F0:=F;have HJ0:=l;have er:=br;have e0:=j;have O:=X;have V:=m;have Dh:=U;replace F:=hdq (both (rb F.out X) (both (k8 m U) (ht.up (xr _))));replace l:=hdq (l.out.ext X);replace br:=X.blk br;replace j:=j.trans X;replace X:=xr w5;replace Q:=F.out _ X.off;clear m ht U bl;go_wp2_with fail;refine(tA k n ca ct s l9 _ _ (l.out.ext X) 1 (by rw[J3.out];decide) _ _ Q.2.2 _ d J.out I.out).mono ?_;rintro e w6 ⟨rfl,e⟩;replace X:=X.trans e;replace Q:=F.out _ X.off;replace O:=O.trans e;obtain⟨T,t⟩ |rfl:=cz d
  · have R:=cbn (X.blk br)
    go_wp2_with fail;exact v9 (by simp[aS,results147,go_sem,R]) (H4.out T.out) ((j.trans X).set3 (aR _) _ _ _) rfl
  obtain⟨d,q,h2,p,L⟩:=Xs (H.out rfl);clear J I H H4;have J:=hdq q;have I:=hdq h2;have H:=hdq p;have H4:=hdq L;clear q h2 p L;go_wp2_with fail;refine(dG (kd f 0) _ (fun b=>(N b/\b≠w0.heap.size+1)/\b≠gb) (Va Q.1.1.1.1 (aP _) Q.2.1.2.2.2) _ ((F0.out _ (xr _).off).1.2.1.i.keep O zg) jy.out).mono ?_;rintro e w7 ⟨u,rfl,hT,e⟩;obtain⟨u1,u2,u3,u4,u5,rfl⟩:=hT.three;replace O:=O.trans e;replace X:=X.trans e;replace Q:=F.out _ X.off;have Zx:=cbn (X.blk V);obtain⟨X2,m⟩:=Off.new3 O zg (X.blk V) (j0 u1) (j0 u2) (.slice u3 u4 u5);have Q2:=F0.out _ X2.off;have Q3:=cb3 m;replace hT:=hT.ret (j0 u1) (j0 u2) (.slice u3 u4 u5);go_wp2_with fail;clear Zx Q Q2 Q3 X F l br j O V;generalize bT (bT (bT w7 _ _) _ _) _ _=w8 at*;have F:=F0;have l:=HJ0;have br:=er;have j:=e0;have X:=X2;clear F0 HJ0 er e0 X2;replace F:=hdq (both (rb F.out X) (both (k8 m Dh) (hT.up (xr _))));replace l:=hdq (l.out.ext X);replace br:=X.blk br;replace j:=j.trans X;replace X:=xr w8;have Q:=F.out _ X.off;clear m hT Dh zg;refine(tA k n ca ct s l9 _ _ (l.out.ext X) 2 (by rw[J3.out];decide) _ _ Q.2.2 _ d J.out I.out).mono ?_;rintro e w9 ⟨rfl,e⟩;replace X:=X.trans e;replace Q:=F.out _ X.off;obtain⟨T,t⟩ |rfl:=cz d
  · have R:=cbn (X.blk br)
    go_wp2_with fail;exact v9 (by simp[aS,results147,go_sem,R]) (H4.out T.out) ((j.trans X).set3 (aR _) _ _ _) rfl
  obtain⟨c,G1,G2,G3⟩:=yd (H.out rfl);clear J I H H4;go_wp2_with fail;refine rgn (w0.heap.size+1) (by kernel_rfl) X ?_;replace X:=X.drew;refine B3 [0] 3 (by kernel_rfl) X.off (fun _ _ _ _ _ h=> h) ?_;refine tk rfl (by rfl) (by intro w X;have Q:=F.out _ X;go_simp;(try with_reducible rfl)) ?_
  try simp only[W2]
  replace Q:=F.out _ X.off;refine H0 1 (by kernel_rfl) rfl rfl (fun K hK=> ?_)
  go_simp
  go_at_call 56
  refine(Qe _ 6 none 0 0).mono ?_;rintro e S6 ⟨rfl,e⟩;replace X:=X.trans e;replace Q:=F.out _ X.off;refine hK.out _ _ X.off (fun _=> ?_);refine H0 2 (by kernel_rfl) rfl rfl (fun K hK=> ?_)
  go_simp
  go_at_call 141
  refine(GF k n ca ct s l9 _ _ (l.out.ext X) 3 (by rw[J3.out];decide) L6 _ (Z5 _ _ 6 0) c G1.out).mono ?_;rintro e Y4 ⟨rfl,e⟩;replace X:=X.trans e;replace Q:=F.out _ X.off;refine hK.out _ _ X.off (fun _=> ?_);refine B3 [3] 0 (by kernel_rfl) X.off (fun _ _ _ _ _ h=> h) ?_;refine tk rfl (by rfl) (by intro w X;go_simp;(try with_reducible rfl)) ?_
  try simp only[W2]
  refine bO (by kernel_rfl) ?_ _;obtain⟨T,t⟩ |rfl:=cz c
  · have R:=cbn (X.blk br)
    go_wp2_with fail;exact v9 (by simp[aS,results147,go_sem,R]) (G3.out T.out) ((j.trans X).set3 (aR _) _ _ _) rfl
  have HR:=hdq (cN (G2.out rfl));clear G1 G2 G3;go_wp2_with fail;refine rgn (w0.heap.size+1) (by kernel_rfl) X ?_;replace X:=X.drew;refine B3 [0,1,2,3,4,5] 7 (by kernel_rfl) X.off (fun _ _ _ _ _ h=> h) ?_
  iterate 6 (refine tk rfl (by rfl) (by intro w X;have Q:=F.out _ X;go_simp;(try with_reducible rfl)) ?_;try simp only[W2])
  replace Q:=F.out _ X.off;refine H0 6 (by kernel_rfl) rfl rfl (fun K hK=> ?_)
  go_simp
  obtain⟨e,o7⟩:=n7 25 Q.1.1.2.1.i Q.1.1.2.2.2.2.i Q.1.1.1.1;replace X:=X.trans e;replace Q:=F.out _ X.off;refine hK.out _ _ X.off (fun _=> ?_);refine H0 7 (by kernel_rfl) rfl rfl (fun K hK=> ?_)
  go_simp
  go_at_call 56
  refine(yk 5 o7 rfl).mono ?_;rintro e ki ⟨rfl,hx,e⟩;replace X:=X.trans e;replace Q:=F.out _ X.off;refine hK.out _ _ X.off (fun _=> ?_);refine H0 8 (by kernel_rfl) rfl rfl (fun K hK=> ?_)
  go_simp
  go_at_call 103
  refine(Qi hx).mono ?_;rintro e si ⟨_,_,_,_,_,rfl,hz,e⟩;replace X:=X.trans e;replace Q:=F.out _ X.off;refine hK.out _ _ X.off (fun _=> ?_);refine B3 [9,10] 2 (by kernel_rfl) X.off (fun _ _ _ _ _ h=> h) ?_
  iterate 2 (refine tk rfl (by rfl) (by intro w X;go_simp;(try with_reducible rfl)) ?_;try simp only[W2])
  have R:=cbn (X.blk br);refine H0 11 (by kernel_rfl) rfl rfl (fun K hK=> ?_)
  go_simp
  refine hK.out _ _ (X.off.set3 _ _ _) (fun _=> ?_);refine B3 [12] 0 (by kernel_rfl) (X.off.set3 _ _ _) (fun _ _ _ _ _ h=> h) ?_;refine tk rfl (by rfl) (by intro w X;go_simp;(try with_reducible rfl)) ?_
  try simp only[W2]
  refine bO (by kernel_rfl) ?_ _;go_wp2_with fail;exact L7 (by simp[aS,results147,go_sem,R]) (hz) (Od HR.out.symm) (j.trans X) (aR _) rfl
