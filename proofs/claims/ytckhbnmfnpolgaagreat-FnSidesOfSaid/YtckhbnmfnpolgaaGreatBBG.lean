/-
  Lemmas towards the law, 33: MAgD, SInfC, SInfL, InfV, Dr.
-/
import Derived.Test.YtckhbnmfnpolgaaGreatBBF
open List renaming length_cons->bY,length_append->cL,mem_cons_self->gX,getElem?_toArray->eM,getElem?_cons_zero->dV,getElem?_cons_succ->dP,setIfInBounds_toArray->aT,set_cons_zero->bM,set_cons_succ->bL,not_mem_nil->fW
open Go renaming World->aK,Calls->aV,wpAnyH_done->bP,results->aQ,heap_alloc_new->aR
open Go.World renaming alloc->aN,setCell->cP
open Nat renaming le_succ->aP,le_refl->aM,mul_le_mul_right->jX
open Go.Proofs.Tryz
set_option linter.unusedVariables false
set_option maxHeartbeats 8000000
set_option maxRecDepth 100000
namespace Go.Proofs.YtckhbnmfnpolgaaGreat
open Go.RowKit
open M (Hd HR Cv Ty M2 zc y6 W4 dep DG fvb)
theorem UG(p:M.Tm):cnt (enc (M.stepTy p))=2*cnt (enc p)+8:=by
 simp only[M.stepTy,enc,cnt,W1,M.Tm.wk,Pl];omega
theorem nB{p:M.Tm}{n:Nat}(h:fvb n p)(v:j0 m0 (enc p)=true)(hd:n+dep p<=17)(hc:cnt (enc p)<=196):j0 m0 (enc (M.stepTy p))=true:=by
 have s:=YE v;have a:=M.dep_ren p Nat.succ;have b:=M.dep_ren p fun i=> i+2
 have c:=M.dep_pos p;refine Yz (n:=n) ⟨trivial,⟨Xt _ _ _ _ (fun i h=> Nat.succ_lt_succ h) h,Nat.succ_pos _⟩,Xt _ _ _ _ (fun i h=> by omega) h,by show 1 < _;omega⟩ ⟨trivial,⟨Ru _ _ s,trivial⟩,Ru _ _ s,trivial⟩ ?_ (by rw[UG];omega);simp only[M.stepTy,dep,M.Tm.wk,a,b];omega
theorem VA{p T l r:M.Tm}(c:j0 m0 (enc p)=true)(hd:D0 m0 (enc p) 29=true)(h:j0 m0 (enc (.id T l r))=true)(hc:cnt (enc p)+cnt (enc l)<=399):j0 m0 (enc (.app p l))=true:=by
 have a:=(Z4 (Z3 h).1).2.2.2 (enc l) (by simp);have b:D0 m0 (enc (.app p l)) 30=true:=by
  show(true &&(true &&(D0 m0 (enc p) (30 - 1)&&(D0 m0 (enc l) (30 - 1)&& true))))=true
  rw[a,show(30:Int) - 1=29 from rfl,hd]
  rfl
 unfold j0;rw[b,Bool.true_and,decide_eq_true_eq];simp only[enc,cnt,W1];omega
theorem CB{k n:Int}{a:List Tr}{x:Tr}(h:j0 m0 (.mk k n a)=true)(hm:x∈a):D0 m0 x 29=true:=(Z4 (Z3 h).1).2.2.2 x hm
theorem iI: ∀(t:M.Tm) (G:List M.Tm),X6 G->DG G 3->dep t<=4->G.length+dep t<=16->j0 m0 (enc t)=true->Ag G t:=by
 intro t
 induction t with
 |var n=> intro G hG c d hn hv;exact g9 hG (by omega) _ hv trivial trivial
 |sort n=> intro G hG c d hn hv;exact g9 hG (by omega) _ hv trivial trivial
 |nat=> intro G hG c d hn hv;exact g9 hG (by omega) _ hv trivial trivial
 |zero=> intro G hG c d hn hv;exact g9 hG (by omega) _ hv trivial trivial
 |pi A B g i=> intro G hG c d hn hv;simp only[dep] at d hn;exact g9 hG (by omega) _ hv ⟨g G hG c (by omega) (by omega) (Z0 hv (by simp)),fun b _=> i (A::G) (hG.cons b (Z0 hv (by simp))) (c.cons (by omega)) (by omega) (by simp only[bY];omega) (Z0 hv (by simp))⟩ trivial
 |lam A B g i=> intro G hG c d hn hv;simp only[dep] at d hn;exact g9 hG (by omega) _ hv ⟨g G hG c (by omega) (by omega) (Z0 hv (by simp)),fun b _=> i (A::G) (hG.cons b (Z0 hv (by simp))) (c.cons (by omega)) (by omega) (by simp only[bY];omega) (Z0 hv (by simp))⟩ trivial
 |sg A B g i=> intro G hG c d hn hv;simp only[dep] at d hn;exact g9 hG (by omega) _ hv ⟨g G hG c (by omega) (by omega) (Z0 hv (by simp)),fun b _=> i (A::G) (hG.cons b (Z0 hv (by simp))) (c.cons (by omega)) (by omega) (by simp only[bY];omega) (Z0 hv (by simp))⟩ trivial
 |app f a g i=> intro G hG c d hn hv;simp only[dep] at d hn;exact g9 hG (by omega) _ hv ⟨g G hG c (by omega) (by omega) (Z0 hv (by simp)),i G hG c (by omega) (by omega) (Z0 hv (by simp))⟩ trivial
 |succ a g=> intro G hG c d hn hv;simp only[dep] at d hn;exact g9 hG (by omega) _ hv (g G hG c (by omega) (by omega) (Z0 hv (by simp))) trivial
 |refl a g=> intro G hG c d hn hv;simp only[dep] at d hn;exact g9 hG (by omega) _ hv (g G hG c (by omega) (by omega) (Z0 hv (by simp))) trivial
 |fst a g=> intro G hG c d hn hv;simp only[dep] at d hn;exact g9 hG (by omega) _ hv (g G hG c (by omega) (by omega) (Z0 hv (by simp))) trivial
 |snd a g=> intro G hG c d hn hv;simp only[dep] at d hn;exact g9 hG (by omega) _ hv (g G hG c (by omega) (by omega) (Z0 hv (by simp))) trivial
 |id T a b g i j=> intro G hG c d hn hv;simp only[dep] at d hn;exact g9 hG (by omega) _ hv ⟨g G hG c (by omega) (by omega) (Z0 hv (by simp)),i G hG c (by omega) (by omega) (Z0 hv (by simp)),j G hG c (by omega) (by omega) (Z0 hv (by simp))⟩ trivial
 |elim p z s a g i j y=>
  intro G hG c d hn hv;simp only[dep] at d hn;have k:j0 m0 (enc p)=true:=Z0 hv (by simp);refine g9 hG (by omega) _ hv ⟨g G hG c (by omega) (by omega) k,i G hG c (by omega) (by omega) (Z0 hv (by simp)),j G hG c (by omega) (by omega) (Z0 hv (by simp)),y G hG c (by omega) (by omega) (Z0 hv (by simp))⟩ (.inl fun F hF=> ?_);have m:3*cnt (enc p)+1<=64:=Ns p 3 (by omega);exact nB hF.fv k (by omega) (by omega)
 |move p e a g i j=>
  intro G hG c d hn hv;simp only[dep] at d hn;have k:j0 m0 (enc p)=true:=Z0 hv (by simp);refine g9 hG (by omega) _ hv ⟨g G hG c (by omega) (by omega) k,i G hG c (by omega) (by omega) (Z0 hv (by simp)),j G hG c (by omega) (by omega) (Z0 hv (by simp))⟩ (.inl fun E T l r m o hi=> ?_);have u:3*cnt (enc p)+1<=64:=Ns p 3 (by omega);obtain⟨n,ev⟩:=o.ev (by simp[M.hk]);refine VA k (CB hv (by simp)) hi ?_;rcases M.ty3 c (by omega) m ev with rfl|hl
  · have q:=(Z3 hi).2
    simp only[enc,cnt,W1] at q;omega
  · have:3*cnt (enc l)+1<=64:=Ns l 3 hl
    omega
 |pair T a b g i j=>
  intro G hG c d hn hv;simp only[dep] at d hn;refine g9 hG (by omega) _ hv ⟨g G hG c (by omega) (by omega) (Z0 hv (by simp)),i G hG c (by omega) (by omega) (Z0 hv (by simp)),j G hG c (by omega) (by omega) (Z0 hv (by simp))⟩ (.inl fun S C D X m o v u=> ?_);obtain⟨n,ev⟩:=o.ev (by simp[M.hk]);have q:=M.ev3' (by omega) ev;simp only[dep] at q;have H:=M.dep_inst D a;have J:3*cnt (enc (D.inst a))+1<=256:=Ns _ 4 (by omega);obtain⟨I,x,-⟩:=m.red o.red;have w:fvb G.length (.sg C D):=x.fv;refine Yz (n:=G.length) (eI w.2 u.fv) (RF (YE v).2 (YE (Z0 hv (by simp)))) (by omega) (by omega)
end Go.Proofs.YtckhbnmfnpolgaaGreat
namespace Go.Proofs.YtckhbnmfnpolgaaGreat
open Go.RowKit
attribute [local go_sem ↓] Go.wp_at_zero Go.wp_at_succ
theorem AE{f:Nat}(H:k9 f){G:List Tr}{A:Option Addr}{ca:Nat}(a:aK)(N:Nat->Prop)(P:SJ a N A G ca)(k n:Int)(g:List Tr)(I:g.length=4)(x:j0 m0 (kd g 0)=true)(v:Value)(hT:InT a N (.mk k n g) v)(ty:Nat->An)(Y:ty 0=M0 f G (kd g 0))(Z:ty 1=M0 f G (kd g 1))(U:ty 2=M0 f G (kd g 2))(h3:ty 3=M0 f G (kd g 3))(r:Tr×Int)(h:Qn ty (kd g 0) (kd g 3)=some r):aV prog 165 #[.slice A G.length ca,v] a (Qg N a r):=by
 unfold Qn at h;rw[Y,Z,U,h3] at h;obtain⟨c,z,y,B⟩:=Ll h;clear h Y Z U h3;have gh:=hdq x;clear x;obtain⟨At,ct,rfl,-,l8,hK⟩:=InT.mk_iff.1 hT;obtain⟨b,o,rfl,-,⟨O3,N6,O6,O7,O9,T⟩,⟨ax,Y7,Y6,Z2,aa,W⟩,⟨mh,ma,ml,mg,mj,K2⟩,k31,k32,k33,k34,k35,V⟩:=y37 hK I;rw[I];clear hT hK I;go_enter func165,ntmps165;go_wp2_with fail;generalize p:aN (aN a _) _=L;obtain⟨j,br,S⟩:=Yd p.symm P;have O:L.heap.size=a.heap.size+1+1:=by rw[<-p];simp
 have F:=hdq (both S (both (T.up j (aP _)) (both (W.up j (aP _)) (both (K2.up j (aP _)) (V.up j (aP _))))));have X:=xr L;have Q:=F.out _ X.off;clear S P p T W K2 V;generalize p:aN L _=w2;obtain⟨s,e⟩:=nb p;rw[O] at s;clear O;replace F:=hdq (both (rb F.out (X.trans e)) (U9 s (by omega)));replace X:=X.trans e;replace br:=X.blk br;replace j:=j.trans X;replace X:=xr w2;replace Q:=F.out _ X.off;clear p s e;refine(y15 _ 6 0).mono ?_;rintro e w3 ⟨rfl,e⟩;replace X:=X.trans e;replace Q:=F.out _ X.off;go_wp2_with fail;generalize p:aN w3 _=w4;obtain⟨s,e⟩:=nb p;replace F:=hdq (both (rb F.out (X.trans e)) (U9 s (X.ne br)));replace X:=X.trans e;replace br:=X.blk br;replace j:=j.trans X;replace X:=xr w4;replace Q:=F.out _ X.off;clear p s e;refine(bJ H _ _ Q.1.1.1.1 _ i5 _ _ Q.1.1.2.1.i (F5 _ (fun _=> True) 6 0).lies' c z.out).mono ?_;rintro e w5 ⟨rfl,e⟩;replace X:=X.trans e;replace Q:=F.out _ X.off;obtain⟨q,t⟩ |rfl:=cz c
 · go_wp2_with fail
   refine rgn (a.heap.size+1) (by kernel_rfl) X ?_;replace X:=X.drew;refine W2 [0,1,2,3,4,7] 4 (by kernel_rfl) X.off (fun _ _ _ _ _ h=> h) ?_
   iterate 6 (refine tk rfl (by rfl) (by intro w X;have Q:=F.out _ X;go_simp;(try with_reducible rfl)) ?_;try simp only[I3])
   replace Q:=F.out _ X.off;refine H0 5 (by kernel_rfl) rfl rfl (fun K hK=> ?_)
   go_simp
   obtain⟨e,m⟩:=k7 25 Q.1.1.2.1.i Q.1.1.2.2.2.2.i Q.1.1.1.1.hN;replace X:=X.trans e;replace Q:=F.out _ X.off;refine hK.out _ _ X.off (fun _=> ?_);clear hK K;refine H0 6 (by kernel_rfl) rfl rfl (fun K hK=> ?_)
   go_simp
   go_at_call 60
   refine(Ra 5 Q.1.1.1.1.hN m rfl).mono ?_;rintro e w6 ⟨M,J,rfl,hx,e⟩;replace X:=X.trans e;replace Q:=F.out _ X.off;refine hK.out _ _ X.off (fun _=> ?_);clear hK K;have R:=cbn (X.blk br);refine H0 8 (by kernel_rfl) rfl rfl (fun K hK=> ?_)
   go_simp
   refine hK.out _ _ (X.off.set3 _ _ _) (fun _=> ?_);clear hK K;refine W2 [9] 0 (by kernel_rfl) (X.off.set3 _ _ _) (fun _ _ _ _ _ h=> h) ?_;refine tk rfl (by rfl) (by intro w X;go_simp;(try with_reducible rfl)) ?_
   try simp only[I3]
   refine bP (by kernel_rfl) ?_ _;go_wp2_with fail;exact Ua (by simp[aQ,results165,go_sem,R]) (hx) (Tk (B.out q.out) q.out) (j.trans X) (aP _) rfl
 obtain⟨c,C,D,E⟩:=Mc (y.out rfl);clear z y B;go_wp2_with fail;refine rgn (a.heap.size+1) (by kernel_rfl) X ?_;replace X:=X.drew;refine W2 [0,1,2,3,4,5] 5 (by kernel_rfl) X.off (fun _ _ _ _ _ h=> h) ?_
 iterate 6 (refine tk rfl (by rfl) (by intro w X;have Q:=F.out _ X;go_simp;(try with_reducible rfl)) ?_;try simp only[I3])
 replace Q:=F.out _ X.off;refine H0 6 (by kernel_rfl) rfl rfl (fun K hK=> ?_)
 go_simp
 go_at_call 62
 refine(y15 _ 7 0).mono ?_;rintro e w6 ⟨rfl,e⟩;replace X:=X.trans e;replace Q:=F.out _ X.off;refine hK.out _ _ X.off (fun _=> ?_);clear hK K;refine H0 7 (by kernel_rfl) rfl rfl (fun K hK=> ?_)
 go_simp
 obtain⟨e,m⟩:=k7 25 Q.1.1.2.1.i (F5 _ _ 7 0) Q.1.1.1.1.hN;replace X:=X.trans e;replace Q:=F.out _ X.off;refine hK.out _ _ X.off (fun _=> ?_);clear hK K;refine H0 8 (by kernel_rfl) rfl rfl (fun K hK=> ?_)
 go_simp
 go_at_call 60
 refine(Ra 5 Q.1.1.1.1.hN m rfl).mono ?_;rintro e w7 ⟨A8,c8,rfl,hx,e⟩;replace X:=X.trans e;replace Q:=F.out _ X.off;refine hK.out _ _ X.off (fun _=> ?_);clear hK K;refine H0 9 (by kernel_rfl) rfl rfl (fun K hK=> ?_)
 go_simp
 go_at_call 116
 refine(cl H _ _ Q.1.1.1.1 (kd g 1) _ _ _ Q.1.1.2.2.1.i hx.lies' c C.out).mono ?_;rintro e w8 ⟨rfl,e⟩;replace X:=X.trans e;replace Q:=F.out _ X.off;refine hK.out _ _ X.off (fun _=> ?_);clear hK K;refine W2 [10] 0 (by kernel_rfl) X.off (fun _ _ _ _ _ h=> h) ?_;refine tk rfl (by rfl) (by intro w X;go_simp;(try with_reducible rfl)) ?_
 try simp only[I3]
 refine bP (by kernel_rfl) ?_ _;clear hx m;obtain⟨q,t⟩ |rfl:=cz c
 · go_wp2_with fail
   refine rgn (a.heap.size+1) (by kernel_rfl) X ?_;replace X:=X.drew;refine W2 [0,1,2,3,4,7] 4 (by kernel_rfl) X.off (fun _ _ _ _ _ h=> h) ?_
   iterate 6 (refine tk rfl (by rfl) (by intro w X;have Q:=F.out _ X;go_simp;(try with_reducible rfl)) ?_;try simp only[I3])
   replace Q:=F.out _ X.off;refine H0 5 (by kernel_rfl) rfl rfl (fun K hK=> ?_)
   go_simp
   obtain⟨e,m⟩:=k7 25 Q.1.1.2.1.i Q.1.1.2.2.2.2.i Q.1.1.1.1.hN;replace X:=X.trans e;replace Q:=F.out _ X.off;refine hK.out _ _ X.off (fun _=> ?_);clear hK K;refine H0 6 (by kernel_rfl) rfl rfl (fun K hK=> ?_)
   go_simp
   go_at_call 60
   refine(Ra 5 Q.1.1.1.1.hN m rfl).mono ?_;rintro e w9 ⟨M,J,rfl,hx,e⟩;replace X:=X.trans e;replace Q:=F.out _ X.off;refine hK.out _ _ X.off (fun _=> ?_);clear hK K;have R:=cbn (X.blk br);refine H0 8 (by kernel_rfl) rfl rfl (fun K hK=> ?_)
   go_simp
   refine hK.out _ _ (X.off.set3 _ _ _) (fun _=> ?_);clear hK K;refine W2 [9] 0 (by kernel_rfl) (X.off.set3 _ _ _) (fun _ _ _ _ _ h=> h) ?_;refine tk rfl (by rfl) (by intro w X;go_simp;(try with_reducible rfl)) ?_
   try simp only[I3]
   refine bP (by kernel_rfl) ?_ _;go_wp2_with fail;exact Ua (by simp[aQ,results165,go_sem,R]) (hx) (Tk (E.out q.out) q.out) (j.trans X) (aP _) rfl
 obtain⟨c,z,y,B⟩:=Mc (D.out rfl);clear C D E;go_wp2_with fail;refine rgn (a.heap.size+1) (by kernel_rfl) X ?_;replace X:=X.drew;refine W2 [0,1,2,3,4,5] 3 (by kernel_rfl) X.off (fun _ _ _ _ _ h=> h) ?_
 iterate 6 (refine tk rfl (by rfl) (by intro w X;have Q:=F.out _ X;go_simp;(try with_reducible rfl)) ?_;try simp only[I3])
 replace Q:=F.out _ X.off;refine H0 6 (by kernel_rfl) rfl rfl (fun K hK=> ?_)
 go_simp
 go_at_call 190
 refine(KE _ gh.out _ _ Q.1.1.1.1.hN _ Q.1.1.2.1.l).mono ?_;rintro e w9 ⟨u,rfl,hx,e⟩;replace X:=X.trans e;replace Q:=F.out _ X.off;refine hK.out _ _ X.off (fun _=> ?_);clear hK K;obtain⟨_,_,_,_,_,rfl⟩:=hx.three;refine H0 7 (by kernel_rfl) rfl rfl (fun K hK=> ?_)
 go_simp
 go_at_call 116
 refine(cl H _ _ Q.1.1.1.1 (kd g 2) _ _ _ Q.1.1.2.2.2.1.i hx.lies' c z.out).mono ?_;rintro e W9 ⟨rfl,e⟩;replace X:=X.trans e;replace Q:=F.out _ X.off;refine hK.out _ _ X.off (fun _=> ?_);clear hK K;refine W2 [8] 0 (by kernel_rfl) X.off (fun _ _ _ _ _ h=> h) ?_;refine tk rfl (by rfl) (by intro w X;go_simp;(try with_reducible rfl)) ?_
 try simp only[I3]
 refine bP (by kernel_rfl) ?_ _;clear hx;obtain⟨q,t⟩ |rfl:=cz c
 · go_wp2_with fail
   refine rgn (a.heap.size+1) (by kernel_rfl) X ?_;replace X:=X.drew;refine W2 [0,1,2,3,4,7] 4 (by kernel_rfl) X.off (fun _ _ _ _ _ h=> h) ?_
   iterate 6 (refine tk rfl (by rfl) (by intro w X;have Q:=F.out _ X;go_simp;(try with_reducible rfl)) ?_;try simp only[I3])
   replace Q:=F.out _ X.off;refine H0 5 (by kernel_rfl) rfl rfl (fun K hK=> ?_)
   go_simp
   obtain⟨e,m⟩:=k7 25 Q.1.1.2.1.i Q.1.1.2.2.2.2.i Q.1.1.1.1.hN;replace X:=X.trans e;replace Q:=F.out _ X.off;refine hK.out _ _ X.off (fun _=> ?_);clear hK K;refine H0 6 (by kernel_rfl) rfl rfl (fun K hK=> ?_)
   go_simp
   go_at_call 60
   refine(Ra 5 Q.1.1.1.1.hN m rfl).mono ?_;rintro e bh ⟨M,J,rfl,hx,e⟩;replace X:=X.trans e;replace Q:=F.out _ X.off;refine hK.out _ _ X.off (fun _=> ?_);clear hK K;have R:=cbn (X.blk br);refine H0 8 (by kernel_rfl) rfl rfl (fun K hK=> ?_)
   go_simp
   refine hK.out _ _ (X.off.set3 _ _ _) (fun _=> ?_);clear hK K;refine W2 [9] 0 (by kernel_rfl) (X.off.set3 _ _ _) (fun _ _ _ _ _ h=> h) ?_;refine tk rfl (by rfl) (by intro w X;go_simp;(try with_reducible rfl)) ?_
   try simp only[I3]
   refine bP (by kernel_rfl) ?_ _;go_wp2_with fail;exact Ua (by simp[aQ,results165,go_sem,R]) (hx) (Tk (B.out q.out) q.out) (j.trans X) (aP _) rfl
 obtain⟨d,C,D,E⟩:=Mc (y.out rfl);clear z y B;go_wp2_with fail;refine rgn (a.heap.size+1) (by kernel_rfl) X ?_;replace X:=X.drew;refine W2 [0,1,2,3,4,5] 2 (by kernel_rfl) X.off (fun _ _ _ _ _ h=> h) ?_
 iterate 6 (refine tk rfl (by rfl) (by intro w X;have Q:=F.out _ X;go_simp;(try with_reducible rfl)) ?_;try simp only[I3])
 replace Q:=F.out _ X.off;refine H0 6 (by kernel_rfl) rfl rfl (fun K hK=> ?_)
 go_simp
 go_at_call 116
 refine(cl H _ _ Q.1.1.1.1 (kd g 3) i5 _ _ Q.1.1.2.2.2.2.i (F5 _ (fun _=> True) 6 0).lies' d C.out).mono ?_;rintro e bh ⟨rfl,e⟩;replace X:=X.trans e;replace Q:=F.out _ X.off;refine hK.out _ _ X.off (fun _=> ?_);clear hK K;refine W2 [7] 0 (by kernel_rfl) X.off (fun _ _ _ _ _ h=> h) ?_;refine tk rfl (by rfl) (by intro w X;go_simp;(try with_reducible rfl)) ?_
 try simp only[I3]
 refine bP (by kernel_rfl) ?_ _;go_wp2_with fail;refine rgn (a.heap.size+1) (by kernel_rfl) X ?_;replace X:=X.drew;refine W2 [0,1,2,3,4,7] 4 (by kernel_rfl) X.off (fun _ _ _ _ _ h=> h) ?_
 iterate 6 (refine tk rfl (by rfl) (by intro w X;have Q:=F.out _ X;go_simp;(try with_reducible rfl)) ?_;try simp only[I3])
 replace Q:=F.out _ X.off;refine H0 5 (by kernel_rfl) rfl rfl (fun K hK=> ?_)
 go_simp
 obtain⟨e,m⟩:=k7 25 Q.1.1.2.1.i Q.1.1.2.2.2.2.i Q.1.1.1.1.hN;replace X:=X.trans e;replace Q:=F.out _ X.off;refine hK.out _ _ X.off (fun _=> ?_);clear hK K;refine H0 6 (by kernel_rfl) rfl rfl (fun K hK=> ?_)
 go_simp
 go_at_call 60
 refine(Ra 5 Q.1.1.1.1.hN m rfl).mono ?_;rintro e im ⟨M,J,rfl,hx,e⟩;replace X:=X.trans e;replace Q:=F.out _ X.off;refine hK.out _ _ X.off (fun _=> ?_);clear hK K;have R:=cbn (X.blk br);refine H0 8 (by kernel_rfl) rfl rfl (fun K hK=> ?_)
 go_simp
 refine hK.out _ _ (X.off.set3 _ _ _) (fun _=> ?_);clear hK K;refine W2 [9] 0 (by kernel_rfl) (X.off.set3 _ _ _) (fun _ _ _ _ _ h=> h) ?_;refine tk rfl (by rfl) (by intro w X;go_simp;(try with_reducible rfl)) ?_
 try simp only[I3]
 refine bP (by kernel_rfl) ?_ _;go_wp2_with fail;exact Ua (by simp[aQ,results165,go_sem,R]) (hx) (Pk D.out E.out) (j.trans X) (aP _) rfl
theorem SJ.oldG'{M:Nat->Prop}{W w:aK}{z:List Nat}{A:Option Addr}{G:List Tr}{ca:Nat}(h:SJ W M A G ca)(e:EG (W, []) (w,z)):SJ w (Mz M z) A G ca:=
 ⟨Re h.hN e,h.hl,h.hc,h.hG.oldG' e,h.h21,h.hA,h.hv⟩
theorem SJ.row{w:aK}{N:Nat->Prop}{A:Option Addr}{G:List Tr}{ca:Nat}(hn: ∀b,w.heap.size<=b->N b)(c:G.length<=ca)(d:ca<=maxLen)(a:InK w N A G)(h:(0 < G.length/\G.length<=21)/\ ∀x∈G,j0 m0 x=true):SJ w N A G ca:=
 ⟨hn,c,d,a,h.1.2,fun hA=> by
  obtain⟨b,o,e,-⟩:=InK.kid a h.1.1;exact absurd (e.symm.trans hA) (by simp),h.2⟩
theorem Kq{G b:List Tr}{t:Tr}(f:b=G++ [t]){A:Option Addr}{ca:Nat}(a:aK)(N:Nat->Prop)(g:SJ a N A G ca)(k:G.length<=20)(m:j0 m0 t=true)(v:Value)(ht:InT a N t v):
 aV prog 186 #[.slice A G.length ca,v] a fun e d=> ∃B c,e= .returned (.slice B b.length c)/\SJ d N B b c/\Ext a d:=
 (FE a N g k t m v ht).mono fun e d ⟨B,c,l,j,i⟩=>⟨B,c,by rw[l,f,cL];rfl,f▸j,i⟩
theorem KG{f:Nat}(T:k9 f){G:List Tr}{A:Option Addr}{ca:Nat}(g:aK)(N:Nat->Prop)(p:SJ g N A G ca)(E:G.length<=20)(k n:Int)(d:List Tr)(q:d.length=2)(a:j0 m0 (kd d 0)=true)(v:Value)(hT:InT g N (.mk k n d) v)(ty:Nat->An)(P:ty 0=M0 f G (kd d 0))(y:ty 1=M0 f (G++ [kd d 0]) (kd d 1))(r:Tr×Int)(h:ue ty=some r):aV prog 162 #[.slice A G.length ca,v] g (N9 N g r):=by
 obtain⟨j,l⟩: ∃j,j=G++ [kd d 0]:=⟨_,rfl⟩;rw[<-l] at y;have Y:=hdq (show(0 < j.length/\j.length<=21)/\ ∀x∈j,j0 m0 x=true from⟨by rw[l];simp;omega,l▸fun x hx=>(List.mem_append.1 hx).elim (p.hv x) fun e=>(List.mem_singleton.1 e)▸a⟩);have Z:=hdq l;have xf:=hdq E;have W:=hdq a;clear l E a;unfold ue at h;rw[P,y] at h;obtain⟨s,c,J,U,O⟩:=k8 h;clear h P y Y;obtain⟨At,ct,rfl,-,l8,hK⟩:=InT.mk_iff.1 hT;obtain⟨b,o,rfl,-,⟨O3,N6,O6,O7,O9,D⟩,ax,Y7,Y6,Z2,aa,L⟩:=q17 hK q;rw[q];clear hT hK q;go_enter func162,ntmps162;go_wp2_with fail;generalize V:aN (aN g _) _=w1;obtain⟨m,br,S⟩:=Yd V.symm p;have F:=hdq (both S (both (D.up m (aP _)) (L.up m (aP _))));have X:=xr w1;have Q:=F.out _ X.off;clear S p V D L;refine(Tt T _ _ Q.1.1 _ _ Q.2.1.i _ J.out).mono ?_;rintro e w2 ⟨rfl,e⟩;replace X:=X.trans e;replace Q:=F.out _ X.off;simp only;obtain⟨z,t⟩ |rfl:=cz c
 · have R:=cbn (X.blk br)
   go_wp2_with fail;exact ya (by simp[aQ,results162,go_sem,R]) (O.out z.out) ((m.trans X).set3 (aP _) _ _ _) rfl
 obtain⟨u,c,C,I,M⟩:=k8 (U.out rfl);clear J U O;go_wp2_with fail;refine rgn (g.heap.size+1) (by kernel_rfl) X ?_;replace X:=X.drew;refine W2 [0,1,2,3,4,6,7,8,9] 7 (by kernel_rfl) X.off (fun _ _ _ _ _ h=> h) ?_
 iterate 9 (refine tk rfl (by rfl) (by intro w X;have Q:=F.out _ X;go_simp;(try with_reducible rfl)) ?_;try simp only[I3])
 replace Q:=F.out _ X.off;refine H0 5 (by kernel_rfl) rfl rfl (fun K hK=> ?_)
 go_simp
 go_at_call 186
 refine(Kq Z.out _ _ Q.1.1 xf.out W.out _ Q.2.1.i).mono ?_;rintro e w3 ⟨B,c2,rfl,H,e⟩;replace X:=X.trans e;replace Q:=F.out _ X.off;refine hK.out _ _ X.off (fun _=> ?_);clear hK K;refine H0 10 (by kernel_rfl) rfl rfl (fun K hK=> ?_)
 go_simp
 go_at_call 128
 refine(Tt T _ _ H _ _ Q.2.2.i _ C.out).mono ?_;rintro e w4 ⟨rfl,e⟩;replace X:=X.trans e;replace Q:=F.out _ X.off;refine hK.out _ _ X.off (fun _=> ?_);clear hK K;refine W2 [11,12,13,14,15] 0 (by kernel_rfl) X.off (fun _ _ _ _ _ h=> h) ?_
 iterate 5 (refine tk rfl (by rfl) (by intro w X;go_simp;(try with_reducible rfl)) ?_;try simp only[I3])
 refine bP (by kernel_rfl) ?_ _;clear H;obtain⟨z,t⟩ |rfl:=cz c
 · have R:=cbn (X.blk br)
   go_wp2_with fail;exact ya (by simp[aQ,results162,go_sem,R]) (M.out z.out) ((m.trans X).set3 (aP _) _ _ _) rfl
 obtain rfl:=Option.some.inj (I.out rfl);clear C I M;go_wp2_with fail;refine(JG s.num u.num _).mono ?_;rintro e w5 ⟨rfl,e⟩;replace X:=X.trans e;replace Q:=F.out _ X.off;go_wp2_with fail;refine(y15 _ 2 (max s.num u.num)).mono ?_;rintro e w6 ⟨rfl,e⟩;replace X:=X.trans e;replace Q:=F.out _ X.off;have R:=cbn (X.blk br);go_wp2_with fail;exact n7 (by simp[aQ,results162,go_sem,R]) (F5 _ _ 2 (max s.num u.num)) (rfl) (m.trans X) (aP _) rfl
theorem pH{x y:An}{T:Tr}{r:Tr×Int}(h:thn x (fun _=> thn y fun _=> some (T,0))=some r): ∃q:Tr×Int,thn x (fun a=> thn y fun b=> some (m6 (max a.num b.num),0))=some q/\r.2=q.2/\(q.2=0->T=r.1):=by
 obtain⟨s,c,rfl,g,i⟩:=Xd h;by_cases hc:c=0
 · subst hc
   obtain⟨k,d,rfl,f,j⟩:=Xd (g rfl);by_cases hd:d=0
   · subst hd
     obtain rfl:=(Option.some.inj (f rfl)).symm;exact⟨(m6 (max s.num k.num),0),by simp[thn],rfl,fun _=> rfl⟩
   · exact⟨(E2,d),by simp[thn,hd],by rw[j hd],fun e=> absurd e hd⟩
 · exact⟨(E2,c),by simp[thn,hc],by rw[i hc],fun e=> absurd e hc⟩
theorem DH{f:Nat}(HI:k9 f){G:List Tr}{A:Option Addr}{ca:Nat}(y:aK)(N:Nat->Prop)(hJ:SJ y N A G ca)(et:G.length<=20)(k n:Int)(p:List Tr)(j4:p.length=2)(M:j0 m0 (kd p 0)=true)(v:Value)(hT:InT y N (.mk k n p) v)(ty:Nat->An)(h0:ty 0=M0 f G (kd p 0))(h1:ty 1=M0 f (G++ [kd p 0]) (kd p 1))(r:Tr×Int)(h:zp (M0 f) G ty (kd p 0)=some r):aV prog 163 #[.slice A G.length ca,v] y (Qg N y r):=by
 unfold zp at h;rw[h0] at h;obtain⟨E,G5⟩: ∃E,E=G++ [kd p 0]:=⟨_,rfl⟩;rw[<-G5] at h1;have mo:=hdq (show(0 < E.length/\E.length<=21)/\ ∀x∈E,j0 m0 x=true from⟨by rw[G5];simp;omega,G5▸fun x hx=>(List.mem_append.1 hx).elim (hJ.hv x) fun e=>(List.mem_singleton.1 e)▸M⟩);have Cc:=hdq G5;have xf:=hdq et;have gh:=hdq M;clear G5 et M;rw[h1,<-Cc.out] at h;obtain⟨s,c,G1,zf,G3⟩:=k8 h;clear h h0 h1;obtain⟨At,ct,rfl,-,l8,hK⟩:=InT.mk_iff.1 hT;obtain⟨b,o,rfl,-,⟨O3,N6,O6,O7,O9,K0⟩,ax,Y7,Y6,Z2,aa,K1⟩:=q17 hK j4;rw[j4];clear hT hK j4;go_enter func163,ntmps163;go_wp2_with fail;generalize hw:aN (aN y _) _=w1;obtain⟨J,br,S⟩:=Yd hw.symm hJ;have F:=hdq (both S (both (K0.up J (aP _)) (K1.up J (aP _))));have X:=xr w1;have Q:=F.out _ X.off;clear S hJ hw K0 K1;refine(Tt HI _ _ Q.1.1 _ _ Q.2.1.i _ G1.out).mono ?_;rintro e w2 ⟨rfl,e⟩;replace X:=X.trans e;replace Q:=F.out _ X.off;simp only;obtain⟨HC,t⟩ |rfl:=cz c
 · have R:=cbn (X.blk br)
   go_wp2_with fail;exact Zf (by simp[aQ,results163,go_sem,R]) (G3.out HC.out) HC.out ((J.trans X).set3 (aP _) _ _ _) rfl
 obtain⟨C,c,H1,H2,H3⟩:=k8 (zf.out rfl);clear G1 zf G3;go_wp2_with fail;refine rgn (y.heap.size+1) (by kernel_rfl) X ?_;replace X:=X.drew;refine W2 [0,1,2,3,4,6,7,8,9] 8 (by kernel_rfl) X.off (fun _ _ _ _ _ h=> h) ?_
 iterate 9 (refine tk rfl (by rfl) (by intro w X;have Q:=F.out _ X;go_simp;(try with_reducible rfl)) ?_;try simp only[I3])
 replace Q:=F.out _ X.off;refine Wi 15 59 13 #[true,true,true,true,true,true,true,true,true,true,true,true,true,true,true,false,false] 2 [.any,.any,.any,.any,.any,Sp.row (fun b=> N b/\b≠y.heap.size+1) E,.any,.any,.any,.any,Sp.two (fun b=> N b/\b≠y.heap.size+1) C (.int .i64 c),Sp.two (fun b=> N b/\b≠y.heap.size+1) C (.int .i64 c),Sp.tree (fun b=> N b/\b≠y.heap.size+1) C,Sp.val (.int .i64 c),Sp.box w2.drew] [5,10,11,12,13,14] (fun w h=>(X.trans h).off) (by kernel_rfl) rfl rfl (fun _ _ _ _ h=> h) ?hx1 ?st1 ?fi1
 case hx1=>(intro a w z d l L;obtain⟨u11,m,P⟩: ∃u,a.eval (.tmp 26)= .tuple #[u,.int .i64 c]/\InT w (Mz _ z) C u:=L 11 26 (by kernel_rfl);replace m:=S4 m;exact⟨.int .i64 c,Or.inl ⟨by rfl,fun w'' _=> by go_simp⟩,rfl⟩)
 case st1=>
  repeat' first|exact trivial|refine And.intro ⟨_,rfl, ?_⟩ ?_
  all_goals(intro a w z d l L;refine Ord.step_of rfl rfl ?_;intro K hK)
  · (have f27:=S4 (show a.eval (.tmp 27)= .slice A G.length ca from l 27 (by kernel_rfl));have f31:=S4 (show a.eval (.tmp 31)= .agg #[.int .i64 O3,.int .i64 N6,.slice O6 O7 O9] from l 31 (by kernel_rfl));go_simp;go_at_call 186;refine(Kq Cc.out _ _ (SJ.oldG' Q.1.1 d) xf.out gh.out _ (Q.2.1.i.oldG' d)).mono ?_;rintro e I ⟨B,c,rfl,hj,U⟩;exact hK _ _ ⟨_,z,rfl,Ma d U,B,c,rfl,hj.hl,hj.hc,hj.hG⟩)
  · (obtain⟨A5,c5,f5,kg,nt,kt⟩: ∃A c,a.eval (.tmp 32)= .slice A E.length c/\E.length<=c/\c<=maxLen/\InK w (Mz _ z) A E:=L 5 32 (by kernel_rfl);replace f5:=S4 f5;have f36:=S4 (show a.eval (.tmp 36)= .agg #[.int .i64 ax,.int .i64 Y7,.slice Y6 Z2 aa] from l 36 (by kernel_rfl));go_simp;go_at_call 89;refine(HI E (kd p 1) (C,c) H1.out _ _ _ _ _ (SJ.row (Re Q.1.1.hN d) kg nt kt mo.out) (Q.2.2.i.oldG' d)).mono ?_;rintro e I ⟨u,rfl,hu,U⟩;exact hK _ _ ⟨_,z,rfl,Ma d U,u,rfl,hu⟩)
  · (obtain⟨u10,f10,h10⟩: ∃u,a.eval (.tmp 37)= .tuple #[u,.int .i64 c]/\InT w (Mz _ z) C u:=L 10 37 (by kernel_rfl);replace f10:=S4 f10;go_simp;exact hK _ _ ⟨_,z,rfl,d.id,_,rfl,h10⟩)
  · (obtain⟨u11,m,P⟩: ∃u,a.eval (.tmp 26)= .tuple #[u,.int .i64 c]/\InT w (Mz _ z) C u:=L 11 26 (by kernel_rfl);replace m:=S4 m;go_simp;exact hK _ _ ⟨_,z,rfl,d.id,P⟩)
  · (obtain⟨u11,m,P⟩: ∃u,a.eval (.tmp 26)= .tuple #[u,.int .i64 c]/\InT w (Mz _ z) C u:=L 11 26 (by kernel_rfl);replace m:=S4 m;go_simp;exact hK _ _ ⟨_,z,rfl,d.id,rfl⟩)
  · (go_simp;exact hK _ _ ⟨_,_,rfl,EG.box d,_,rfl,gX ..,(show _<=w.heap.size from d.1.size),aR _ _⟩)
 case fi1=>
  intro v I z d hG;have ht:InT I (Mz _ z) C (v 12):=hG 12 (by decide) (by kernel_rfl);obtain⟨a1,Y,Z,a4,W,V⟩:=ht.three;rw[V] at ht;obtain⟨gb,H,gz,O,T⟩: ∃g,v 14= .pointer (some ⟨g,0,none⟩)/\g∈z/\w2.drew.heap.size<=g/\I.heap[g]? =_:=hG 14 (by decide) (by kernel_rfl);have hv3:v 13= .int .i64 c:=hG 13 (by decide) (by kernel_rfl);simp only[List.foldl,Ord.dstOf,eM,dV,dP,Option.bind_some,Act.put,aT,bM,bL];rw[V,H,hv3];replace ht:=(InT.mono (fun b (hb:Mz _ z b)=>(⟨hb.1,fun h=> hb.2 (h▸gz)⟩:(fun b=> N b/\b≠y.heap.size+1) b/\b≠gb)) (fun _ _=> rfl) ht).ret (.int .i64 a1) (.int .i64 Y) (.slice Z a4 W);have D:=Xf X O br;have X1:=X;replace X:=X.trans d.1;have Zx:=cbn T;clear hG d gz V H;refine H0 15 (by kernel_rfl) rfl rfl (fun K hK=> ?_)
  go_simp
  have e:=Off.new3 X (Nat.le_trans X1.size O) T (.int .i64 a1) (.int .i64 Y) (.slice Z a4 W);refine hK.out _ _ e.1.off (fun _=> ?_);clear hK K Zx;replace X:=e.1;have bq:=e.2;generalize cP (cP (cP I _ _) _ _) _ _=w3 at*;refine W2 [16] 0 (by kernel_rfl) X.off (fun _ _ _ _ _ h=> h) ?_;refine tk rfl (by rfl) (by intro w X;go_simp;(try with_reducible rfl)) ?_
  try simp only[I3]
  refine bP (by kernel_rfl) ?_ _;clear T e X1;replace F:=hdq (both (rb F.out X) (both (U9 bq D) (ht.up (xr _))));replace br:=X.blk br;replace J:=J.trans X;replace X:=xr w3;replace Q:=F.out _ X.off;clear bq ht D O;obtain⟨HC,t⟩ |rfl:=cz c
  · have R:=cbn (X.blk br)
    go_wp2_with fail;exact Zf (by simp[aQ,results163,go_sem,R]) (H3.out HC.out) HC.out ((J.trans X).set3 (aP _) _ _ _) rfl
  obtain⟨q,q1,q2⟩:=pH (H2.out rfl);clear H1 H2 H3;have Q1:=hdq q1;clear q1;have Q2:=hdq q2;clear q2;go_wp2_with fail;refine rgn (y.heap.size+1) (by kernel_rfl) X ?_;replace X:=X.drew;refine W2 [0,1,2,3,4] 4 (by kernel_rfl) X.off (fun _ _ _ _ _ h=> h) ?_
  iterate 5 (refine tk rfl (by rfl) (by intro w X;have Q:=F.out _ X;go_simp;(try with_reducible rfl)) ?_;try simp only[I3])
  replace Q:=F.out _ X.off;refine Wo 8 59 #[true,true,true,true,true,true,true,true,false] 1 [.any,.any,.any,.any,.any,Sp.row (fun b=> N b/\b≠y.heap.size+1) [kd p 0,C],Sp.tree (fun b=> N b/\b≠y.heap.size+1) (.mk 3 0 [kd p 0,C]),Sp.box w3.drew] [5,6,7] (fun w h=>(X.trans h).off) (by kernel_rfl) rfl ?st2 ?fi2
  case st2=>
   repeat' first|exact trivial|refine And.intro ⟨_,rfl, ?_⟩ ?_
   all_goals(intro a w z d l L;refine Ord.step_of rfl rfl ?_;intro K hK)
   · (have f47:=S4 (show a.eval (.tmp 47)= .agg #[.int .i64 O3,.int .i64 N6,.slice O6 O7 O9] from l 47 (by kernel_rfl));have f48:=S4 (show a.eval (.tmp 48)= .agg #[.int .i64 a1,.int .i64 Y,.slice Z a4 W] from l 48 (by kernel_rfl));go_simp;obtain⟨U,h⟩:=k7 25 (Q.1.2.1.i.oldG' d) (Q.2.2.oldG' d) (Re Q.1.1.1.hN d);exact hK _ _ ⟨_,z,rfl,Ma d U,_,2,rfl,aM _,by decide,h⟩)
   · (obtain⟨A5,c5,f5,kg,nt,kt⟩: ∃A c,a.eval (.tmp 49)= .slice A 2 c/\2<=c/\c<=maxLen/\InK w (Mz _ z) A [kd p 0,C]:=L 5 49 (by kernel_rfl);replace f5:=S4 f5;go_simp;go_at_call 60;refine(Xm 3 _ _ (Re Q.1.1.1.hN d) A5 c5 _ kt (by simp) kg (by simp)).mono ?_;rintro e I ⟨u,rfl,hx,U⟩;exact hK _ _ ⟨_,z,rfl,Ma d U,hx⟩)
   · (go_simp;exact hK _ _ ⟨_,_,rfl,EG.box d,_,rfl,gX ..,(show _<=w.heap.size from d.1.size),aR _ _⟩)
  case fi2=>
   intro v I z d hG;have ht:InT I (Mz _ z) (.mk 3 0 [kd p 0,C]) (v 6):=hG 6 (by decide) (by kernel_rfl);obtain⟨a1,Y,Z,a4,W,V⟩:=ht.three;rw[V] at ht;obtain⟨gb,H,gz,O,T⟩: ∃g,v 7= .pointer (some ⟨g,0,none⟩)/\g∈z/\w3.drew.heap.size<=g/\I.heap[g]? =_:=hG 7 (by decide) (by kernel_rfl);simp only[List.foldl,Ord.dstOf,eM,dV,dP,Option.bind_some,Act.put,aT,bM,bL];rw[V,H];replace ht:=(InT.mono (fun b (hb:Mz _ z b)=>(⟨hb.1,fun h=> hb.2 (h▸gz)⟩:(fun b=> N b/\b≠y.heap.size+1) b/\b≠gb)) (fun _ _=> rfl) ht).ret (.int .i64 a1) (.int .i64 Y) (.slice Z a4 W);have D:=Xf X O br;have X1:=X;replace X:=X.trans d.1;have Zx:=cbn T;clear hG d gz V H;refine H0 8 (by kernel_rfl) rfl rfl (fun K hK=> ?_)
   go_simp
   have e:=Off.new3 X (Nat.le_trans X1.size O) T (.int .i64 a1) (.int .i64 Y) (.slice Z a4 W);refine hK.out _ _ e.1.off (fun _=> ?_);clear hK K Zx;replace X:=e.1;have bq:=e.2;generalize cP (cP (cP I _ _) _ _) _ _=w4 at*;refine bP (by kernel_rfl) ?_ _;clear T e X1;replace F:=hdq (both (rb F.out X) (both (U9 bq D) (ht.up (xr _))));replace br:=X.blk br;replace J:=J.trans X;replace X:=xr w4;replace Q:=F.out _ X.off;clear bq ht D O;go_wp2_with fail;refine(KG HI _ _ Q.1.1.1.1 xf.out 3 0 [kd p 0,C] rfl gh.out _ Q.2.2 (fun j=> if j=0 then M0 f G (kd p 0) else M0 f E C) rfl (by rw[Cc.out];rfl) q Q1.out).mono ?_;rintro e w5 ⟨u,rfl,hT,e⟩;replace X:=X.trans e;replace Q:=F.out _ X.off;obtain⟨_,_,_,_,_,rfl⟩:=hT.three;simp only;have R:=cbn (X.blk br);have R':=fun o=> cbn ((X.alloc o).blk br)
   go_wp2_with fail;exact Ua (by simp[aQ,results163,go_sem,R,R']) (InT.later Q.2.2 ((xr _).alloc _)) (Q2.out) ((J.trans X).alloc _) (aP _) rfl
end Go.Proofs.YtckhbnmfnpolgaaGreat
namespace Go.Proofs.YtckhbnmfnpolgaaGreat
open Go.RowKit
theorem Qz{m:Int}(a:0<=m)(b:m<=3):j0 m0 (m6 m)=true:=by
 rcases(by omega:m=0\/m=1\/m=2\/m=3) with rfl|rfl|rfl|rfl <;> decide+kernel
theorem Ox:j0 m0 i5=true:=by decide+kernel
theorem Lx{x:An}{s:Tr}(h:V0 x 2=some (s,0)):0<=s.num/\s.num<=3:=by
 obtain⟨hk,-,hv⟩:=Yk h;obtain⟨k,n,c⟩:=s;obtain⟨-,b,a,-⟩:=Z4 (Z3 hv).1;rw[show k=2 from hk] at a;exact⟨b,a⟩
theorem Se{X:Tr×Int}{u:Tr}(h:some X=some (u,(0:Int)))(a:X.2=0->j0 m0 X.1=true):j0 m0 u=true:=by
 have e:X=(u,0):=by simpa using h
 have:=a (by rw[e])
 rwa [e] at this
theorem Nr(X:Tr):(mkV X).2=0->j0 m0 (mkV X).1=true:=fun h=> by
 obtain⟨a,b⟩:=Uq h;rw[b];exact a
theorem EF{G:List Tr}{j:Tr->An}{ty:Nat->An}{k n:Int}{d:List Tr}{u:Tr}(hv:j0 m0 (.mk k n d)=true)(h:Vb G j ty k n d=some (u,0)):j0 m0 u=true:=by
 obtain⟨p,z,x,-⟩:=Z4 (Z3 hv).1;have r: ∀i,i < d.length->j0 m0 (kd d i)=true:=fun i hi=> Cd (t:= .mk k n d) hv hi
 unfold Vb at h;rcases qv (show O0 k=(d.length:Int) from p) with⟨rfl,hm⟩ |⟨rfl,hm⟩ |⟨rfl,hm⟩ |⟨rfl,hm⟩ |⟨rfl,hm⟩ |⟨rfl,hm⟩ |⟨rfl,hm⟩ |⟨rfl,hm⟩ |⟨rfl,hm⟩ |⟨rfl,hm⟩ |⟨rfl,hm⟩ |⟨rfl,hm⟩ |⟨rfl,hm⟩ |⟨rfl,hm⟩ |⟨rfl,hm⟩ |⟨rfl,hm⟩
 · have h:some (Xg G n)=some (u,0):=by simpa using h
   refine Se h fun g=> ?_
   unfold Xg at g⊢
   split at g
   · simp at g
   · rename_i l
     rw[if_neg l];exact Nr _ g
 · have h:some (if n=3 then(E2,1) else(m6 (n+1),(0:Int)))=some (u,0):=by simpa using h
   refine Se h fun g=> ?_
   split at g
   · simp at g
   · rename_i l
     rw[if_neg l];have:Ja 2=3:=rfl;have:n<=Ja 2:=x;exact Qz (by omega) (by omega)
 · have h:ue ty=some (u,0):=by simpa using h
   obtain⟨a,e,h⟩:=v9 h;obtain⟨b,f,h⟩:=v9 h;have:=Lx e;have:=Lx f;refine Se h fun _=> Qz (by show 0<=max a.num b.num;omega) (by show max a.num b.num<=3;omega)
 · have h:qn j ty (kd d 0)=some (u,0):=by simpa using h
   obtain⟨a,e,h⟩:=v9 h;obtain⟨b,f,h⟩:=v9 h;obtain⟨o,v,h⟩:=v9 h;obtain⟨q,y,h⟩:=v9 h;obtain rfl:o=u:=by simpa using h
   exact Se v (Nr _)
 · have h:dk ty (kd d 1)=some (u,0):=by simpa using h
   obtain⟨a,e,h⟩:=v9 h;obtain⟨s,f,-,h⟩:=Sg h;exact Se h (Nr _)
 · have h:some (m6 0,(0:Int))=some (u,0):=by simpa using h
   exact Se h fun _=> Qz (by decide) (by decide)
 · have h:some (i5,(0:Int))=some (u,0):=by simpa using h
   exact Se h fun _=> Ox
 · have h:P3 (ty 0) i5 (some (i5,0))=some (u,0):=by simpa using h
   obtain⟨s,f,-,h⟩:=Sg h;exact Se h fun _=> Ox
 · have h:em ty (kd d 0) (kd d 3)=some (u,0):=by simpa using h
   obtain⟨F,s,c,-,-,-,-,-,-,h⟩:=Ov h;obtain⟨w,-,h⟩:=v9 h;obtain⟨s,-,-,h⟩:=Sg h;obtain⟨w,-,h⟩:=v9 h;obtain⟨s,-,-,h⟩:=Sg h;obtain⟨s,-,-,h⟩:=Sg h;exact Se h (Nr _)
 · have h:Le ty (kd d 0)=some (u,0):=by simpa using h
   obtain⟨a,e,h⟩:=v9 h;obtain⟨s,-,-,h⟩:=Sg h;obtain⟨s,-,-,h⟩:=Sg h;have:=Lx e;exact Se h fun _=> Qz this.1 this.2
 · have h:Ho j ty (kd d 0)=some (u,0):=by simpa using h
   obtain⟨a,e,h⟩:=v9 h;obtain⟨b,f,h⟩:=v9 h;exact Se h (Nr _)
 · have h:bn ty (kd d 0)=some (u,0):=by simpa using h
   obtain⟨a,e,h⟩:=v9 h;obtain⟨F,s,c,-,-,-,-,-,-,h⟩:=Ov h;obtain⟨w,-,h⟩:=v9 h;obtain⟨s,-,-,h⟩:=Sg h;exact Se h (Nr _)
 · have h:ue ty=some (u,0):=by simpa using h
   obtain⟨a,e,h⟩:=v9 h;obtain⟨b,f,h⟩:=v9 h;have:=Lx e;have:=Lx f;refine Se h fun _=> Qz (by show 0<=max a.num b.num;omega) (by show max a.num b.num<=3;omega)
 · have h:lo ty (kd d 0) (kd d 1)=some (u,0):=by simpa using h
   obtain⟨a,e,h⟩:=v9 h;obtain⟨b,f,h⟩:=v9 h;obtain⟨s,-,-,h⟩:=Sg h;obtain⟨w,-,h⟩:=v9 h;obtain⟨s,-,-,h⟩:=Sg h;exact Se h fun _=> r 0 (by omega)
 · have h:jj ty 15 (kd d 0)=some (u,0):=by simpa using h
   obtain⟨s,e,h⟩:=v9 h;rw[if_pos rfl] at h;obtain⟨-,hl,m⟩:=Yk e;have:O0 13=2:=rfl;exact Se h fun _=> Cd m (by omega)
 · have h:jj ty 16 (kd d 0)=some (u,0):=by simpa using h
   obtain⟨s,e,h⟩:=v9 h;rw[if_neg (by decide)] at h;exact Se h (Nr _)
theorem mF{f:Nat}{G:List Tr}{t u:Tr}(hv:j0 m0 t=true)(h:N0 f G t=some (u,0)):j0 m0 u=true:=by
 cases f with
 |zero=> cases h
 |succ f=>
  obtain⟨k,n,a⟩:=t;exact EF hv h
end Go.Proofs.YtckhbnmfnpolgaaGreat
namespace Go.Proofs.YtckhbnmfnpolgaaGreat
open Go Go.RowKit
attribute [local go_sem ↓] Go.wp_at_zero Go.wp_at_succ
theorem xp(k:Int):O0 k<=4:=by
 unfold O0
 repeat' split
 all_goals omega
theorem yB{k:Int}(h:k∈ [(1:Int),7,6,2,1]):decide (0 < O0 k)=false:=by
 simp only[List.mem_cons,fW,or_false] at h;rcases h with rfl|rfl|rfl|rfl|rfl <;> decide
theorem JF{k:Int}(h:0 < Ja k):decide (0 < O0 k)=false:=by
 unfold Ja at h
 split at h
 · rename_i e;rw[e];decide
 · split at h
   · rename_i e;rw[e];decide
   · omega
def Vj(d q:Nat):Prop:= ∀(w:aK) (g m:Nat),Rd w g m->m+q < 1000000->aV prog 112 #[.pointer (some ⟨g,0,none⟩),.int .i64 d] w (DQ w g (m+q) fun t=> dT t<=max 1 d)
theorem eD(d q:Nat)(hd:d<=4)(ih:2<=d->Vj (d - 1) q):Vj d (3+4*q):=by
 intro z g m V hm;have k:=hdq V.lt;go_enter func112,ntmps112;go_wp2_with fail;rw[show z.heap.size+1=(aN z (.cells #[.int .i64 0,.int .i64 0,.slice none 0 0] 25)).heap.size by simp];generalize w:aN z _=T;obtain⟨br,e⟩:=nb w;have Z:=(St.of V e).id;have Y:X0 [g] z T:=oE e;clear w e V;refine(numD [1,5,4,8,9,3,6,7,11,15,14,10,12,13,16,2] rfl rfl Z.2 (by omega)).mono ?_;rintro e H ⟨kd,rfl,-,o,R⟩;replace Z:=Z.tr o R;clear o R;by_cases ot:d < 2
 · have t0:decide ((d:Int) < 2)=true:=decide_eq_true (by omega)
   go_wp2_with fail;refine(numD [1,7,6,2,1] rfl rfl Z.2 (by omega)).mono ?_;rintro e l ⟨kd,rfl,hk,o,R⟩;replace Z:=Z.tr o R;clear o R;go_wp2_with fail;have y:=Z.1.size;have B:=O1 br;have f:T.heap.size<=l.heap.size/\g < l.heap.size/\z.heap.size≠l.heap.size:=by have:=k.out;omega
   generalize w:aN l _=O;obtain⟨a,e⟩:=nb w;replace Z:=Z.up e;generalize l.heap.size=r at*;clear w e y B;refine(Pu kd _).mono ?_;rintro e D ⟨rfl,rfl⟩;by_cases E:0 < Ja kd
   · have t2:decide (0 < Ja kd)=true:=decide_eq_true E
     go_wp2_with fail;have M:=Z.2;refine(numD [0,1,0,2,1,3] rfl rfl M (by omega)).mono ?_;rintro e p ⟨x,rfl,-,o,R⟩;replace a:=o.keepBlk a (by simp;omega);replace Z:=Z.tr o R;clear M o R;have C:=cbn a;go_wp2_with fail;replace a:=M6 a 1 (.int .i64 x);replace Z:St _ (cP p ⟨r,1,none⟩ (.int .i64 x)) g _:=⟨Z.1.setNew f.1 _,Z.2.set f.2.1 _⟩;generalize cP p ⟨r,1,none⟩ (.int .i64 x)=w6 at a Z⊢;clear C
     go_loopw [7] (fun i wr=> i= .int .i64 0/\wr=w6) (fun _ _=> 0)
     case atStart=> exact⟨rfl,rfl⟩
     case round=>
      obtain⟨rfl,rfl⟩:=hrel;have t3:=yB hk;have R:=cbn (Z.br br (by have:=k.out;omega));have C:=cbn a;go_wp2_with fail;refine(Qf kd _).mono ?_;rintro e D ⟨rfl,rfl⟩;go_wp2_with fail;exact Na (by simp[aQ,results112,go_sem,R]) (by simp[dT,gr];omega) (F5 _ _ kd x) Y Z k.out (aM _) (by omega) rfl
   have t2:decide (0 < Ja kd)=false:=decide_eq_false E;go_wp2_with fail
   go_loopw [7] (fun i wr=> i= .int .i64 0/\wr=O) (fun _ _=> 0)
   case atStart=> exact⟨rfl,rfl⟩
   case round=>
    obtain⟨rfl,rfl⟩:=hrel;have t3:=yB hk;have R:=cbn (Z.br br (by have:=k.out;omega));have C:=cbn a;go_wp2_with fail;refine(Qf kd _).mono ?_;rintro e D ⟨rfl,rfl⟩;go_wp2_with fail;exact Na (by simp[aQ,results112,go_sem,R]) (by simp[dT,gr];omega) (F5 _ _ kd 0) Y Z k.out (aM _) (by omega) rfl
 have t0:decide ((d:Int) < 2)=false:=decide_eq_false (by omega);have HI:=hdq (ih (by omega));clear ih;go_wp2_with fail;have y:=Z.1.size;have B:=O1 br;have f:T.heap.size<=H.heap.size/\g < H.heap.size/\z.heap.size≠H.heap.size:=by have:=k.out;omega
 generalize w:aN H _=l;obtain⟨a,e⟩:=nb w;replace Z:=Z.up e;generalize H.heap.size=r at*;clear w e y B;refine(Pu kd _).mono ?_;rintro e D ⟨rfl,rfl⟩;by_cases E:0 < Ja kd
 · have t2:decide (0 < Ja kd)=true:=decide_eq_true E
   go_wp2_with fail;have M:=Z.2;refine(numD [0,1,0,2,1,3] rfl rfl M (by omega)).mono ?_;rintro e O ⟨x,rfl,-,o,R⟩;replace a:=o.keepBlk a (by simp;omega);replace Z:=Z.tr o R;clear M o R;have C:=cbn a;go_wp2_with fail;replace a:=M6 a 1 (.int .i64 x);replace Z:St _ (cP O ⟨r,1,none⟩ (.int .i64 x)) g _:=⟨Z.1.setNew f.1 _,Z.2.set f.2.1 _⟩;generalize cP O ⟨r,1,none⟩ (.int .i64 x)=p at a Z⊢;clear C
   go_loopw [7] (fun i wr=> i= .int .i64 0/\wr=p) (fun _ _=> 0)
   case atStart=> exact⟨rfl,rfl⟩
   case round=>
    obtain⟨rfl,rfl⟩:=hrel;have t3:=JF E;have R:=cbn (Z.br br (by have:=k.out;omega));have C:=cbn a;go_wp2_with fail;refine(Qf kd _).mono ?_;rintro e D ⟨rfl,rfl⟩;go_wp2_with fail;exact Na (by simp[aQ,results112,go_sem,R]) (by simp[dT,gr];omega) (F5 _ _ kd x) Y Z k.out (aM _) (by omega) rfl
 have t2:decide (0 < Ja kd)=false:=decide_eq_false E;have hW:r < l.heap.size:=O1 a;have tx:g < l.heap.size:=by omega
 go_wp2_with fail
 go_loopw [7] (fun i wr=> ∃(j:Nat) (v:Value) (ts:List Tr),i= .int .i64 j/\j<=4/\(j:Int)<=max 0 (O0 kd)/\wr.heap[r]? =some (.cells #[.int .i64 kd,.int .i64 0,v] 25 (0,0))/\xb l wr v ts/\Hid (ts.length=j)/\St T wr g (m+3+j*q)/\l.heap.size<=wr.heap.size/\Hid (∀s∈ts,dT s+1<=max 1 d)) (fun i _=> 5 -(intOf i).toNat)
 case atStart=> exact⟨0,_, [],rfl,by omega,by omega,a,i9.nil _ _ _ _,hdq rfl,⟨Z.1,Z.2.mono (by omega)⟩,aM _,hdq (by simp)⟩
 case round=>
  clear a Z;obtain⟨j,v,ts,rfl,hj,hjk,a,hG,HL,Z,hle,HD⟩:=hrel;have h4:=xp kd;by_cases J:(j:Int) < O0 kd
  · have t1:decide ((j:Int) < O0 kd)=true:=decide_eq_true J
    have zu:j<=3:=by omega
    have zk:j*q<=3*q:=jX _ zu;have HC:=hdq (fun Q (e:Ext wr Q)=>(show aV prog 112 #[.pointer (some ⟨g,0,none⟩),.int .i64 ((d:Int) - 1)] Q (DQ Q g _ fun t=> dT t<=max 1 (d - 1)) from by rw[show(d:Int) - 1=((d - 1:Nat):Int) by omega];exact HI.out Q g _ (Z.2.ext e) (by omega)));have HS:=hdq (show m+3+j*q+q=m+3+(j+1)*q from by rw[Nat.add_mul];omega);have pk:=hdq (IntWalk.i64_in ((d:Int) - 1) ⟨by omega,by omega⟩);obtain⟨A,c,rfl,-⟩:=hG.row;have v6:=i1 a 2;have HB:=hdq a;have HGr:=hdq hG;have HZ:=hdq Z;clear hG a zk Z;go_wp2_with fail;refine(Qf kd _).mono ?_;rintro e D ⟨rfl,rfl⟩;go_wp2_with fail
    go_region_law (first
     |(go_simp;go_at_call 112;(try rw[pk.out]);(with_reducible refine(HC.out _ (xr wr).drew).mono ?_);rintro e p ⟨t,u,rfl,I,L,R5,S⟩;have W:=hdq I;clear I;obtain⟨k5,n5,A5,l5,c5,rfl⟩:=L.three;have P:=S.keepBlk HB.out (by simp;omega);have v5:=i1 P 2;have F:r < p.heap.size:=O1 P)
     |(refine nJ (.tmp 32) (.tmp 37) (HGr.out.ext (xr wr).drew) S tx ((xr p).alloc (.cells #[.int .i64 k5,.int .i64 n5,.slice A5 l5 c5] 25)) hle L (by rw[HL.out];omega) rfl rfl (by rfl) (by rfl) (aR _ _) ?_;intro A6 c6 w6 qi N;have U:=(N.block r (by omega)).trans (((xr p).alloc (.cells #[.int .i64 k5,.int .i64 n5,.slice A5 l5 c5] 25)).blk P);have v7:=i1 U 2;have f7:=Ob U 2))
    all_goals(
     have Z6:=(((HZ.out.dr).tr S R5).up ((xr p).alloc (.cells #[.int .i64 k5,.int .i64 n5,.slice A5 l5 c5] 25))).below N (by omega) (by omega);have Bz:=N.size;have F:=S.size;simp only[World.size_alloc] at Bz;rw[HS.out] at Z6;rw[cL,List.length_singleton] at qi;have G:=hdq Z6;have HG6:=hdq qi;have X:=hdq U;clear Z6 qi U N P v5;go_wp2_with fail
     go_roundw
     case rel=> exact⟨j+1,_,ts++ [t],by go_num,by omega,by omega,M6 X.out 2 _,HG6.out.on (X0.one w6 r 2 _) hW,hdq (by rw[cL,HL.out];rfl),⟨G.out.1.setNew f.1 _,G.out.2.set f.2.1 _⟩,by have:wr.heap.size<=p.heap.size:=F;simp;omega,hdq (fun s hs=> by
      rcases List.mem_append.1 hs with h|h
      · exact HD.out s h
      · rw[List.mem_singleton.1 h];have:=W.out;omega)⟩
     case measure=> simp[intOf];omega)
  have t1:decide ((j:Int) < O0 kd)=false:=decide_eq_false J;obtain⟨A,c,rfl,q1,q2,-,K⟩:=hG.row;have C:=cbn a;have R:=cbn (Z.br br (by have:=k.out;omega));have hT:InT wr (fun b=> z.heap.size < b) (.mk kd 0 ts) (.agg #[.int .i64 kd,.int .i64 0,.slice A ts.length c]):=InT.mk_iff.2 ⟨A,c,rfl,q1,q2,InK.mono (fun b hb=> by have:=O1 br;have:=hb.1;omega) (fun _ _=> rfl) K⟩;have zk:j*q<=4*q:=jX _ hj;have HDT:=hdq (show dT (.mk kd 0 ts)<=max 1 d by
   have:=fk (ts:=ts) (n:=max 1 d - 1) (fun s hs=> by have:=HD.out s hs;omega);simp only[dT];omega)
  clear a hG K;go_wp2_with fail;refine(Qf kd _).mono ?_;rintro e D ⟨rfl,rfl⟩;go_wp2_with fail;exact Na (by simp[aQ,results112,go_sem,R]) HDT.out hT Y Z k.out (aM _) (by omega) rfl
theorem Vz: ∀d,d<=4->nd d<=1023
 |0,_=> by decide
 |1,_=> by decide
 |2,_=> by decide
 |3,_=> by decide
 |4,_=> by decide
theorem VB: ∀d,d<=4->Vj d (nd d)
 |0,_=> eD 0 0 (by omega) (fun h=> absurd h (by omega))
 |d+1,h=> eD (d+1) (nd d) h (fun _=> VB d (by omega))
theorem Sv(b:aK)(g m:Nat)(i:Rd b g m)(hm:m < 900000):aV prog 69 #[.pointer (some ⟨g,0,none⟩)] b (DQ b g (m+1024) fun t=> j0 m0 t=true/\dT t<=4):=by
 have c:=hdq i.lt;go_enter func69,ntmps69;go_wp2_with fail;rw[show b.heap.size+1=(aN b (.cells #[.int .i64 0,.int .i64 0,.slice none 0 0] 25)).heap.size by simp];generalize f:aN b _=q;obtain⟨br,e⟩:=nb f;have Z:=(St.of i e).id;have Y:X0 [g] b q:=oE e;clear f e i;refine(numD [3,4,2,3,1] rfl rfl Z.2 (by omega)).mono ?_;rintro e z ⟨d,rfl,hd,o,R⟩;replace Z:=Z.tr o R;clear o R;obtain⟨n,rfl,hn⟩: ∃n:Nat,d=n/\n<=4:=by
  simp only[List.mem_cons,fW,or_false] at hd;exact⟨d.toNat,by omega,by omega⟩
 have s:=Vz n hn;clear hd;go_wp2_with fail;refine(VB n hn _ g _ Z.2 (by omega)).mono ?_;intro e p h;obtain⟨j,y,w,v,C,ca,rfl,A,a,o,Z⟩:=h.at Z br;clear o;go_wp2_with fail;generalize f:aN p _=x;obtain⟨k,e⟩:=nb f;have F:=hdq (Xl (r:=b.heap.size) (g:=g) k (by have:=O1 br;have:=Z.1.size;omega) (by have:=O1 br;have:=c.out;have:=Z.1.size;omega));replace br:=e.blk (Z.br br (by have:=c.out;omega));replace Y:=Y.trans (Z.up e).1;replace Z:=(Z.up e).id;replace a:=a.later e;have Q:=F.out _ Z.off;clear f k e;refine(oi j _ _ a.lies').mono ?_;rintro e B ⟨rfl,e⟩;replace Z:=Z.up e;replace a:=a.later e;replace Q:=F.out _ Z.off;cases l:j0 m0 j with
 |true=>
  have R:=cbn (Z.br br (by have:=c.out;omega));go_wp2_with fail;exact Na (by simp[aQ,results69,go_sem,R]) (⟨l,by omega⟩) a Y Z c.out (aM _) (by omega) rfl
 |false=>
  go_wp2_with fail;refine(y15 _ 7 0).mono ?_;rintro e u ⟨rfl,e⟩;replace Z:=Z.up e;replace a:=a.later e;replace Q:=F.out _ Z.off;have R:=cbn (Z.br br (by have:=c.out;omega));go_wp2_with fail;exact Na (by simp[aQ,results69,go_sem,R]) (⟨by decide,by decide⟩) (F5 _ _ 7 0) Y Z c.out (aM _) (by omega) rfl
