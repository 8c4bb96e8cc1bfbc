/-
  Lemmas towards the law, 33: MAgD, SInfC, SInfL, InfV, Dr.
-/
import Derived.Test.YtckhbnmfnpolgaaGreatC00
import Derived.Test.YtckhbnmfnpolgaaGreatCBF
open List renaming length_cons->cN,length_append->cR,mem_cons_self->gL,getElem?_toArray->dZ,getElem?_cons_zero->dQ,getElem?_cons_succ->dL,setIfInBounds_toArray->aU,set_cons_zero->bN,set_cons_succ->bM,not_mem_nil->gN
open Go renaming World->aL,Calls->aX,wpAnyH_done->bP,results->aR,heap_alloc_new->aS
open Go.World renaming alloc->aO,setCell->cM
open Nat renaming le_succ->aQ,le_refl->aN,mul_le_mul_right->kQ
open Go.Proofs.Tryz
set_option linter.all false
set_option maxHeartbeats 8000000
set_option maxRecDepth 100000
namespace Go.Proofs.YtckhbnmfnpolgaaGreat
open Go.RowKit
open M (Hd HR Cv Ty Lim Wb y6 U4 dep DG fvb)
theorem yF(p:M.Tm):cnt (enc (M.stepTy p))=2*cnt (enc p)+8:=by
 simp only[M.stepTy,enc,cnt,W1,M.Tm.wk,Zq];omega
theorem LC{p:M.Tm}{n:Nat}(h:fvb n p)(v:j0 D0 (enc p)=true)(hd:n+dep p<=17)(hc:cnt (enc p)<=196):j0 D0 (enc (M.stepTy p))=true:=by
 have s:=nI v;have b:=M.dep_ren p Nat.succ;have a:=M.dep_ren p fun i=> i+2
 have c:=M.dep_pos p;refine WD (n:=n) ⟨trivial,⟨Ot _ _ _ _ (fun i h=> Nat.succ_lt_succ h) h,Nat.succ_pos _⟩,Ot _ _ _ _ (fun i h=> by omega) h,by show 1 < _;omega⟩ ⟨trivial,⟨Nv _ _ s,trivial⟩,Nv _ _ s,trivial⟩ ?_ (by rw[yF];omega);simp only[M.stepTy,dep,M.Tm.wk,b,a];omega
theorem TC{p T l r:M.Tm}(c:j0 D0 (enc p)=true)(hd:P0 D0 (enc p) 29=true)(h:j0 D0 (enc (.id T l r))=true)(hc:cnt (enc p)+cnt (enc l)<=399):j0 D0 (enc (.app p l))=true:=by
 have a:=(Z4 (Z3 h).1).2.2.2 (enc l) (by simp);have b:P0 D0 (enc (.app p l)) 30=true:=by
  show(true &&(true &&(P0 D0 (enc p) (30 - 1)&&(P0 D0 (enc l) (30 - 1)&& true))))=true
  rw[a,show(30:Int) - 1=29 from rfl,hd]
  rfl
 unfold j0;rw[b,Bool.true_and,decide_eq_true_eq];simp only[enc,cnt,W1];omega
theorem Tz{k n:Int}{a:List Tr}{x:Tr}(h:j0 D0 (.mk k n a)=true)(hm:x∈a):P0 D0 x 29=true:=(Z4 (Z3 h).1).2.2.2 x hm
theorem yG: ∀(t:M.Tm) (G:List M.Tm),O6 G->DG G 3->dep t<=4->G.length+dep t<=16->j0 D0 (enc t)=true->Ag G t:=by
 intro t
 induction t with
 |var n=> intro G hG hD d hn hv;exact k8 hG (by omega) _ hv trivial trivial
 |sort n=> intro G hG hD d hn hv;exact k8 hG (by omega) _ hv trivial trivial
 |nat=> intro G hG hD d hn hv;exact k8 hG (by omega) _ hv trivial trivial
 |zero=> intro G hG hD d hn hv;exact k8 hG (by omega) _ hv trivial trivial
 |pi A B c g=> intro G hG hD d hn hv;simp only[dep] at d hn;exact k8 hG (by omega) _ hv ⟨c G hG hD (by omega) (by omega) (J1 hv (by simp)),fun b _=> g (A::G) (hG.cons b (J1 hv (by simp))) (hD.cons (by omega)) (by omega) (by simp only[cN];omega) (J1 hv (by simp))⟩ trivial
 |lam A B c g=> intro G hG hD d hn hv;simp only[dep] at d hn;exact k8 hG (by omega) _ hv ⟨c G hG hD (by omega) (by omega) (J1 hv (by simp)),fun b _=> g (A::G) (hG.cons b (J1 hv (by simp))) (hD.cons (by omega)) (by omega) (by simp only[cN];omega) (J1 hv (by simp))⟩ trivial
 |sg A B c g=> intro G hG hD d hn hv;simp only[dep] at d hn;exact k8 hG (by omega) _ hv ⟨c G hG hD (by omega) (by omega) (J1 hv (by simp)),fun b _=> g (A::G) (hG.cons b (J1 hv (by simp))) (hD.cons (by omega)) (by omega) (by simp only[cN];omega) (J1 hv (by simp))⟩ trivial
 |app f a c g=> intro G hG hD d hn hv;simp only[dep] at d hn;exact k8 hG (by omega) _ hv ⟨c G hG hD (by omega) (by omega) (J1 hv (by simp)),g G hG hD (by omega) (by omega) (J1 hv (by simp))⟩ trivial
 |succ a c=> intro G hG hD d hn hv;simp only[dep] at d hn;exact k8 hG (by omega) _ hv (c G hG hD (by omega) (by omega) (J1 hv (by simp))) trivial
 |refl a c=> intro G hG hD d hn hv;simp only[dep] at d hn;exact k8 hG (by omega) _ hv (c G hG hD (by omega) (by omega) (J1 hv (by simp))) trivial
 |fst a c=> intro G hG hD d hn hv;simp only[dep] at d hn;exact k8 hG (by omega) _ hv (c G hG hD (by omega) (by omega) (J1 hv (by simp))) trivial
 |snd a c=> intro G hG hD d hn hv;simp only[dep] at d hn;exact k8 hG (by omega) _ hv (c G hG hD (by omega) (by omega) (J1 hv (by simp))) trivial
 |id T a b c g i=> intro G hG hD d hn hv;simp only[dep] at d hn;exact k8 hG (by omega) _ hv ⟨c G hG hD (by omega) (by omega) (J1 hv (by simp)),g G hG hD (by omega) (by omega) (J1 hv (by simp)),i G hG hD (by omega) (by omega) (J1 hv (by simp))⟩ trivial
 |elim p z s a c g i v=>
  intro G hG hD d hn hv;simp only[dep] at d hn;have j:j0 D0 (enc p)=true:=J1 hv (by simp);refine k8 hG (by omega) _ hv ⟨c G hG hD (by omega) (by omega) j,g G hG hD (by omega) (by omega) (J1 hv (by simp)),i G hG hD (by omega) (by omega) (J1 hv (by simp)),v G hG hD (by omega) (by omega) (J1 hv (by simp))⟩ (.inl fun F hF=> ?_);have m:3*cnt (enc p)+1<=64:=Xw p 3 (by omega);exact LC hF.fv j (by omega) (by omega)
 |move p e a c g i=>
  intro G hG hD d hn hv;simp only[dep] at d hn;have j:j0 D0 (enc p)=true:=J1 hv (by simp);refine k8 hG (by omega) _ hv ⟨c G hG hD (by omega) (by omega) j,g G hG hD (by omega) (by omega) (J1 hv (by simp)),i G hG hD (by omega) (by omega) (J1 hv (by simp))⟩ (.inl fun E T l r m k hi=> ?_);have q:3*cnt (enc p)+1<=64:=Xw p 3 (by omega);obtain⟨n,ev⟩:=k.ev (by simp[M.hk]);refine TC j (Tz hv (by simp)) hi ?_;rcases M.ty3 hD (by omega) m ev with rfl|hl
  · have o:=(Z3 hi).2
    simp only[enc,cnt,W1] at o;omega
  · have:3*cnt (enc l)+1<=64:=Xw l 3 hl
    omega
 |pair T a b c g i=>
  intro G hG hD d hn hv;simp only[dep] at d hn;refine k8 hG (by omega) _ hv ⟨c G hG hD (by omega) (by omega) (J1 hv (by simp)),g G hG hD (by omega) (by omega) (J1 hv (by simp)),i G hG hD (by omega) (by omega) (J1 hv (by simp))⟩ (.inl fun S C D X m k vs q=> ?_);obtain⟨n,ev⟩:=k.ev (by simp[M.hk]);have o:=M.ev3' (by omega) ev;simp only[dep] at o;have y:=M.dep_inst D a;have x:3*cnt (enc (D.inst a))+1<=256:=Xw _ 4 (by omega);obtain⟨w,u,-⟩:=m.red k.red;have h8:fvb G.length (.sg C D):=u.fv;refine WD (n:=G.length) (YH h8.2 q.fv) (dG (nI vs).2 (nI (J1 hv (by simp)))) (by omega) (by omega)
end Go.Proofs.YtckhbnmfnpolgaaGreat
namespace Go.Proofs.YtckhbnmfnpolgaaGreat
open Go.RowKit
attribute [local go_sem ↓] Go.wp_at_zero Go.wp_at_succ
theorem AJ{f:Nat}(D:a9 f){G:List Tr}{A:Option Addr}{ca:Nat}(a:aL)(N:Nat->Prop)(U:SJ a N A G ca)(k n:Int)(g:List Tr)(I:g.length=4)(x:j0 D0 (kd g 0)=true)(v:Value)(hT:InT a N (.mk k n g) v)(ty:Nat->An)(Z:ty 0=Q0 f G (kd g 0))(W:ty 1=Q0 f G (kd g 1))(T:ty 2=Q0 f G (kd g 2))(h3:ty 3=Q0 f G (kd g 3))(r:Tr×Int)(h:Vo ty (kd g 0) (kd g 3)=some r):aX prog 165 #[.slice A G.length ca,v] a (Ug N a r):=by
 unfold Vo at h;rw[Z,W,T,h3] at h;obtain⟨c,z,B,y⟩:=Jn h;clear h Z W T h3;have im:=hdq x;clear x;obtain⟨At,ct,rfl,-,l8,hK⟩:=InT.mk_iff.1 hT;obtain⟨b,o,rfl,-,⟨O8,Q6,O7,P5,P4,K0⟩,⟨ah,bm,aj,dc,df,O⟩,⟨pk,oo,ot,po,pg,Y⟩,k31,k32,k33,k34,k35,V⟩:=q38 hK I;rw[I];clear hT hK I;go_enter func165,ntmps165;go_wp2_with fail;generalize p:aO (aO a _) _=M;obtain⟨j,br,S⟩:=ie p.symm U;have P:M.heap.size=a.heap.size+1+1:=by rw[<-p];simp
 have F:=hdq (both S (both (K0.up j (aQ _)) (both (O.up j (aQ _)) (both (Y.up j (aQ _)) (V.up j (aQ _))))));have X:=xr M;have Q:=F.out _ X.off;clear S U p K0 O Y V;generalize p:aO M _=w2;obtain⟨s,e⟩:=nb p;rw[P] at s;clear P;replace F:=hdq (both (rb F.out (X.trans e)) (m7 s (by omega)));replace X:=X.trans e;replace br:=X.blk br;replace j:=j.trans X;replace X:=xr w2;replace Q:=F.out _ X.off;clear p s e;refine(q15 _ 6 0).mono ?_;rintro e w3 ⟨rfl,e⟩;replace X:=X.trans e;replace Q:=F.out _ X.off;go_wp2_with fail;generalize p:aO w3 _=w4;obtain⟨s,e⟩:=nb p;replace F:=hdq (both (rb F.out (X.trans e)) (m7 s (X.ne br)));replace X:=X.trans e;replace br:=X.blk br;replace j:=j.trans X;replace X:=xr w4;replace Q:=F.out _ X.off;clear p s e;refine(VJ D _ _ Q.1.1.1.1 _ n5 _ _ Q.1.1.2.1.i (d5 _ (fun _=> True) 6 0).lies' c z.out).mono ?_;rintro e w5 ⟨rfl,e⟩;replace X:=X.trans e;replace Q:=F.out _ X.off;obtain⟨q,t⟩ |rfl:=cz c
 · go_wp2_with fail
   refine rgn (a.heap.size+1) (by kernel_rfl) X ?_;replace X:=X.drew;refine O2 [0,1,2,3,4,7] 4 (by kernel_rfl) X.off (fun _ _ _ _ _ h=> h) ?_
   iterate 6 (refine tk rfl (by rfl) (by intro w X;have Q:=F.out _ X;go_simp;(try with_reducible rfl)) ?_;try simp only[N2])
   replace Q:=F.out _ X.off;refine O0 5 (by kernel_rfl) rfl rfl (fun K hK=> ?_)
   go_simp
   obtain⟨e,m⟩:=K6 25 Q.1.1.2.1.i Q.1.1.2.2.2.2.i Q.1.1.1.1.hN;replace X:=X.trans e;replace Q:=F.out _ X.off;refine hK.out _ _ X.off (fun _=> ?_);clear hK K;refine O0 6 (by kernel_rfl) rfl rfl (fun K hK=> ?_)
   go_simp
   go_at_call 60
   refine(Qa 5 Q.1.1.1.1.hN m rfl).mono ?_;rintro e w6 ⟨J,L,rfl,hx,e⟩;replace X:=X.trans e;replace Q:=F.out _ X.off;refine hK.out _ _ X.off (fun _=> ?_);clear hK K;have R:=cbn (X.blk br);refine O0 8 (by kernel_rfl) rfl rfl (fun K hK=> ?_)
   go_simp
   refine hK.out _ _ (X.off.set3 _ _ _) (fun _=> ?_);clear hK K;refine O2 [9] 0 (by kernel_rfl) (X.off.set3 _ _ _) (fun _ _ _ _ _ h=> h) ?_;refine tk rfl (by rfl) (by intro w X;go_simp;(try with_reducible rfl)) ?_
   try simp only[N2]
   refine bP (by kernel_rfl) ?_ _;go_wp2_with fail;exact Va (by simp[aR,results165,go_sem,R]) (hx) (Tl (y.out q.out) q.out) (j.trans X) (aQ _) rfl
 obtain⟨c,E,C,H⟩:=Sc (B.out rfl);clear z B y;go_wp2_with fail;refine rgn (a.heap.size+1) (by kernel_rfl) X ?_;replace X:=X.drew;refine O2 [0,1,2,3,4,5] 5 (by kernel_rfl) X.off (fun _ _ _ _ _ h=> h) ?_
 iterate 6 (refine tk rfl (by rfl) (by intro w X;have Q:=F.out _ X;go_simp;(try with_reducible rfl)) ?_;try simp only[N2])
 replace Q:=F.out _ X.off;refine O0 6 (by kernel_rfl) rfl rfl (fun K hK=> ?_)
 go_simp
 go_at_call 62
 refine(q15 _ 7 0).mono ?_;rintro e w6 ⟨rfl,e⟩;replace X:=X.trans e;replace Q:=F.out _ X.off;refine hK.out _ _ X.off (fun _=> ?_);clear hK K;refine O0 7 (by kernel_rfl) rfl rfl (fun K hK=> ?_)
 go_simp
 obtain⟨e,m⟩:=K6 25 Q.1.1.2.1.i (d5 _ _ 7 0) Q.1.1.1.1.hN;replace X:=X.trans e;replace Q:=F.out _ X.off;refine hK.out _ _ X.off (fun _=> ?_);clear hK K;refine O0 8 (by kernel_rfl) rfl rfl (fun K hK=> ?_)
 go_simp
 go_at_call 60
 refine(Qa 5 Q.1.1.1.1.hN m rfl).mono ?_;rintro e w7 ⟨A8,c8,rfl,hx,e⟩;replace X:=X.trans e;replace Q:=F.out _ X.off;refine hK.out _ _ X.off (fun _=> ?_);clear hK K;refine O0 9 (by kernel_rfl) rfl rfl (fun K hK=> ?_)
 go_simp
 go_at_call 116
 refine(Ml D _ _ Q.1.1.1.1 (kd g 1) _ _ _ Q.1.1.2.2.1.i hx.lies' c E.out).mono ?_;rintro e w8 ⟨rfl,e⟩;replace X:=X.trans e;replace Q:=F.out _ X.off;refine hK.out _ _ X.off (fun _=> ?_);clear hK K;refine O2 [10] 0 (by kernel_rfl) X.off (fun _ _ _ _ _ h=> h) ?_;refine tk rfl (by rfl) (by intro w X;go_simp;(try with_reducible rfl)) ?_
 try simp only[N2]
 refine bP (by kernel_rfl) ?_ _;clear hx m;obtain⟨q,t⟩ |rfl:=cz c
 · go_wp2_with fail
   refine rgn (a.heap.size+1) (by kernel_rfl) X ?_;replace X:=X.drew;refine O2 [0,1,2,3,4,7] 4 (by kernel_rfl) X.off (fun _ _ _ _ _ h=> h) ?_
   iterate 6 (refine tk rfl (by rfl) (by intro w X;have Q:=F.out _ X;go_simp;(try with_reducible rfl)) ?_;try simp only[N2])
   replace Q:=F.out _ X.off;refine O0 5 (by kernel_rfl) rfl rfl (fun K hK=> ?_)
   go_simp
   obtain⟨e,m⟩:=K6 25 Q.1.1.2.1.i Q.1.1.2.2.2.2.i Q.1.1.1.1.hN;replace X:=X.trans e;replace Q:=F.out _ X.off;refine hK.out _ _ X.off (fun _=> ?_);clear hK K;refine O0 6 (by kernel_rfl) rfl rfl (fun K hK=> ?_)
   go_simp
   go_at_call 60
   refine(Qa 5 Q.1.1.1.1.hN m rfl).mono ?_;rintro e w9 ⟨J,L,rfl,hx,e⟩;replace X:=X.trans e;replace Q:=F.out _ X.off;refine hK.out _ _ X.off (fun _=> ?_);clear hK K;have R:=cbn (X.blk br);refine O0 8 (by kernel_rfl) rfl rfl (fun K hK=> ?_)
   go_simp
   refine hK.out _ _ (X.off.set3 _ _ _) (fun _=> ?_);clear hK K;refine O2 [9] 0 (by kernel_rfl) (X.off.set3 _ _ _) (fun _ _ _ _ _ h=> h) ?_;refine tk rfl (by rfl) (by intro w X;go_simp;(try with_reducible rfl)) ?_
   try simp only[N2]
   refine bP (by kernel_rfl) ?_ _;go_wp2_with fail;exact Va (by simp[aR,results165,go_sem,R]) (hx) (Tl (H.out q.out) q.out) (j.trans X) (aQ _) rfl
 obtain⟨c,z,B,y⟩:=Sc (C.out rfl);clear E C H;go_wp2_with fail;refine rgn (a.heap.size+1) (by kernel_rfl) X ?_;replace X:=X.drew;refine O2 [0,1,2,3,4,5] 3 (by kernel_rfl) X.off (fun _ _ _ _ _ h=> h) ?_
 iterate 6 (refine tk rfl (by rfl) (by intro w X;have Q:=F.out _ X;go_simp;(try with_reducible rfl)) ?_;try simp only[N2])
 replace Q:=F.out _ X.off;refine O0 6 (by kernel_rfl) rfl rfl (fun K hK=> ?_)
 go_simp
 go_at_call 190
 refine(bH _ im.out _ _ Q.1.1.1.1.hN _ Q.1.1.2.1.l).mono ?_;rintro e w9 ⟨u,rfl,hx,e⟩;replace X:=X.trans e;replace Q:=F.out _ X.off;refine hK.out _ _ X.off (fun _=> ?_);clear hK K;obtain⟨_,_,_,_,_,rfl⟩:=hx.three;refine O0 7 (by kernel_rfl) rfl rfl (fun K hK=> ?_)
 go_simp
 go_at_call 116
 refine(Ml D _ _ Q.1.1.1.1 (kd g 2) _ _ _ Q.1.1.2.2.2.1.i hx.lies' c z.out).mono ?_;rintro e T3 ⟨rfl,e⟩;replace X:=X.trans e;replace Q:=F.out _ X.off;refine hK.out _ _ X.off (fun _=> ?_);clear hK K;refine O2 [8] 0 (by kernel_rfl) X.off (fun _ _ _ _ _ h=> h) ?_;refine tk rfl (by rfl) (by intro w X;go_simp;(try with_reducible rfl)) ?_
 try simp only[N2]
 refine bP (by kernel_rfl) ?_ _;clear hx;obtain⟨q,t⟩ |rfl:=cz c
 · go_wp2_with fail
   refine rgn (a.heap.size+1) (by kernel_rfl) X ?_;replace X:=X.drew;refine O2 [0,1,2,3,4,7] 4 (by kernel_rfl) X.off (fun _ _ _ _ _ h=> h) ?_
   iterate 6 (refine tk rfl (by rfl) (by intro w X;have Q:=F.out _ X;go_simp;(try with_reducible rfl)) ?_;try simp only[N2])
   replace Q:=F.out _ X.off;refine O0 5 (by kernel_rfl) rfl rfl (fun K hK=> ?_)
   go_simp
   obtain⟨e,m⟩:=K6 25 Q.1.1.2.1.i Q.1.1.2.2.2.2.i Q.1.1.1.1.hN;replace X:=X.trans e;replace Q:=F.out _ X.off;refine hK.out _ _ X.off (fun _=> ?_);clear hK K;refine O0 6 (by kernel_rfl) rfl rfl (fun K hK=> ?_)
   go_simp
   go_at_call 60
   refine(Qa 5 Q.1.1.1.1.hN m rfl).mono ?_;rintro e ee ⟨J,L,rfl,hx,e⟩;replace X:=X.trans e;replace Q:=F.out _ X.off;refine hK.out _ _ X.off (fun _=> ?_);clear hK K;have R:=cbn (X.blk br);refine O0 8 (by kernel_rfl) rfl rfl (fun K hK=> ?_)
   go_simp
   refine hK.out _ _ (X.off.set3 _ _ _) (fun _=> ?_);clear hK K;refine O2 [9] 0 (by kernel_rfl) (X.off.set3 _ _ _) (fun _ _ _ _ _ h=> h) ?_;refine tk rfl (by rfl) (by intro w X;go_simp;(try with_reducible rfl)) ?_
   try simp only[N2]
   refine bP (by kernel_rfl) ?_ _;go_wp2_with fail;exact Va (by simp[aR,results165,go_sem,R]) (hx) (Tl (y.out q.out) q.out) (j.trans X) (aQ _) rfl
 obtain⟨d,E,C,H⟩:=Sc (B.out rfl);clear z B y;go_wp2_with fail;refine rgn (a.heap.size+1) (by kernel_rfl) X ?_;replace X:=X.drew;refine O2 [0,1,2,3,4,5] 2 (by kernel_rfl) X.off (fun _ _ _ _ _ h=> h) ?_
 iterate 6 (refine tk rfl (by rfl) (by intro w X;have Q:=F.out _ X;go_simp;(try with_reducible rfl)) ?_;try simp only[N2])
 replace Q:=F.out _ X.off;refine O0 6 (by kernel_rfl) rfl rfl (fun K hK=> ?_)
 go_simp
 go_at_call 116
 refine(Ml D _ _ Q.1.1.1.1 (kd g 3) n5 _ _ Q.1.1.2.2.2.2.i (d5 _ (fun _=> True) 6 0).lies' d E.out).mono ?_;rintro e ee ⟨rfl,e⟩;replace X:=X.trans e;replace Q:=F.out _ X.off;refine hK.out _ _ X.off (fun _=> ?_);clear hK K;refine O2 [7] 0 (by kernel_rfl) X.off (fun _ _ _ _ _ h=> h) ?_;refine tk rfl (by rfl) (by intro w X;go_simp;(try with_reducible rfl)) ?_
 try simp only[N2]
 refine bP (by kernel_rfl) ?_ _;go_wp2_with fail;refine rgn (a.heap.size+1) (by kernel_rfl) X ?_;replace X:=X.drew;refine O2 [0,1,2,3,4,7] 4 (by kernel_rfl) X.off (fun _ _ _ _ _ h=> h) ?_
 iterate 6 (refine tk rfl (by rfl) (by intro w X;have Q:=F.out _ X;go_simp;(try with_reducible rfl)) ?_;try simp only[N2])
 replace Q:=F.out _ X.off;refine O0 5 (by kernel_rfl) rfl rfl (fun K hK=> ?_)
 go_simp
 obtain⟨e,m⟩:=K6 25 Q.1.1.2.1.i Q.1.1.2.2.2.2.i Q.1.1.1.1.hN;replace X:=X.trans e;replace Q:=F.out _ X.off;refine hK.out _ _ X.off (fun _=> ?_);clear hK K;refine O0 6 (by kernel_rfl) rfl rfl (fun K hK=> ?_)
 go_simp
 go_at_call 60
 refine(Qa 5 Q.1.1.1.1.hN m rfl).mono ?_;rintro e iu ⟨J,L,rfl,hx,e⟩;replace X:=X.trans e;replace Q:=F.out _ X.off;refine hK.out _ _ X.off (fun _=> ?_);clear hK K;have R:=cbn (X.blk br);refine O0 8 (by kernel_rfl) rfl rfl (fun K hK=> ?_)
 go_simp
 refine hK.out _ _ (X.off.set3 _ _ _) (fun _=> ?_);clear hK K;refine O2 [9] 0 (by kernel_rfl) (X.off.set3 _ _ _) (fun _ _ _ _ _ h=> h) ?_;refine tk rfl (by rfl) (by intro w X;go_simp;(try with_reducible rfl)) ?_
 try simp only[N2]
 refine bP (by kernel_rfl) ?_ _;go_wp2_with fail;exact Va (by simp[aR,results165,go_sem,R]) (hx) (Tk C.out H.out) (j.trans X) (aQ _) rfl
theorem SJ.oldG'{M:Nat->Prop}{W w:aL}{z:List Nat}{A:Option Addr}{G:List Tr}{ca:Nat}(h:SJ W M A G ca)(e:EG (W, []) (w,z)):SJ w (Mz M z) A G ca:=
 ⟨md h.hN e,h.hl,h.hc,h.hG.oldG' e,h.h21,h.hA,h.hv⟩
theorem SJ.row{w:aL}{N:Nat->Prop}{A:Option Addr}{G:List Tr}{ca:Nat}(hn: ∀b,w.heap.size<=b->N b)(d:G.length<=ca)(c:ca<=maxLen)(a:InK w N A G)(h:(0 < G.length/\G.length<=21)/\ ∀x∈G,j0 D0 x=true):SJ w N A G ca:=
 ⟨hn,d,c,a,h.1.2,fun hA=> by
  obtain⟨b,o,e,-⟩:=InK.kid a h.1.1;exact absurd (e.symm.trans hA) (by simp),h.2⟩
theorem Xr{G d:List Tr}{t:Tr}(f:d=G++ [t]){A:Option Addr}{ca:Nat}(a:aL)(N:Nat->Prop)(k:SJ a N A G ca)(g:G.length<=20)(l:j0 D0 t=true)(v:Value)(ht:InT a N t v):
 aX prog 186 #[.slice A G.length ca,v] a fun e b=> ∃B c,e= .returned (.slice B d.length c)/\SJ b N B d c/\Ext a b:=
 (zJ a N k g t l v ht).mono fun e b ⟨B,c,i,j,m⟩=>⟨B,c,by rw[i,f,cR];rfl,f▸j,m⟩
theorem KG{f:Nat}(H:a9 f){G:List Tr}{A:Option Addr}{ca:Nat}(g:aL)(N:Nat->Prop)(p:SJ g N A G ca)(I:G.length<=20)(k n:Int)(d:List Tr)(u:d.length=2)(a:j0 D0 (kd d 0)=true)(v:Value)(hT:InT g N (.mk k n d) v)(ty:Nat->An)(P:ty 0=Q0 f G (kd d 0))(z:ty 1=Q0 f (G++ [kd d 0]) (kd d 1))(r:Tr×Int)(h:te ty=some r):aX prog 162 #[.slice A G.length ca,v] g (q8 N g r):=by
 obtain⟨l,j⟩: ∃l,l=G++ [kd d 0]:=⟨_,rfl⟩;rw[<-j] at z;have W:=hdq (show(0 < l.length/\l.length<=21)/\ ∀x∈l,j0 D0 x=true from⟨by rw[j];simp;omega,j▸fun x hx=>(List.mem_append.1 hx).elim (p.hv x) fun e=>(List.mem_singleton.1 e)▸a⟩);have Z:=hdq j;have Y:=hdq I;have im:=hdq a;clear j I a;unfold te at h;rw[P,z] at h;obtain⟨s,c,L,O,J⟩:=a7 h;clear h P z W;obtain⟨At,ct,rfl,-,l8,hK⟩:=InT.mk_iff.1 hT;obtain⟨b,o,rfl,-,⟨O8,Q6,O7,P5,P4,T⟩,ah,bm,aj,dc,df,C⟩:=q17 hK u;rw[u];clear hT hK u;go_enter func162,ntmps162;go_wp2_with fail;generalize E:aO (aO g _) _=w1;obtain⟨m,br,S⟩:=ie E.symm p;have F:=hdq (both S (both (T.up m (aQ _)) (C.up m (aQ _))));have X:=xr w1;have Q:=F.out _ X.off;clear S p E T C;refine(wv H _ _ Q.1.1 _ _ Q.2.1.i _ L.out).mono ?_;rintro e w2 ⟨rfl,e⟩;replace X:=X.trans e;replace Q:=F.out _ X.off;simp only;obtain⟨y,t⟩ |rfl:=cz c
 · have R:=cbn (X.blk br)
   go_wp2_with fail;exact D9 (by simp[aR,results162,go_sem,R]) (J.out y.out) ((m.trans X).set3 (aQ _) _ _ _) rfl
 obtain⟨q,c,M,D,U⟩:=a7 (O.out rfl);clear L O J;go_wp2_with fail;refine rgn (g.heap.size+1) (by kernel_rfl) X ?_;replace X:=X.drew;refine O2 [0,1,2,3,4,6,7,8,9] 7 (by kernel_rfl) X.off (fun _ _ _ _ _ h=> h) ?_
 iterate 9 (refine tk rfl (by rfl) (by intro w X;have Q:=F.out _ X;go_simp;(try with_reducible rfl)) ?_;try simp only[N2])
 replace Q:=F.out _ X.off;refine O0 5 (by kernel_rfl) rfl rfl (fun K hK=> ?_)
 go_simp
 go_at_call 186
 refine(Xr Z.out _ _ Q.1.1 Y.out im.out _ Q.2.1.i).mono ?_;rintro e w3 ⟨B,c2,rfl,V,e⟩;replace X:=X.trans e;replace Q:=F.out _ X.off;refine hK.out _ _ X.off (fun _=> ?_);clear hK K;refine O0 10 (by kernel_rfl) rfl rfl (fun K hK=> ?_)
 go_simp
 go_at_call 128
 refine(wv H _ _ V _ _ Q.2.2.i _ M.out).mono ?_;rintro e w4 ⟨rfl,e⟩;replace X:=X.trans e;replace Q:=F.out _ X.off;refine hK.out _ _ X.off (fun _=> ?_);clear hK K;refine O2 [11,12,13,14,15] 0 (by kernel_rfl) X.off (fun _ _ _ _ _ h=> h) ?_
 iterate 5 (refine tk rfl (by rfl) (by intro w X;go_simp;(try with_reducible rfl)) ?_;try simp only[N2])
 refine bP (by kernel_rfl) ?_ _;clear V;obtain⟨y,t⟩ |rfl:=cz c
 · have R:=cbn (X.blk br)
   go_wp2_with fail;exact D9 (by simp[aR,results162,go_sem,R]) (U.out y.out) ((m.trans X).set3 (aQ _) _ _ _) rfl
 obtain rfl:=Option.some.inj (D.out rfl);clear M D U;go_wp2_with fail;refine(gI s.num q.num _).mono ?_;rintro e w5 ⟨rfl,e⟩;replace X:=X.trans e;replace Q:=F.out _ X.off;go_wp2_with fail;refine(q15 _ 2 (max s.num q.num)).mono ?_;rintro e w6 ⟨rfl,e⟩;replace X:=X.trans e;replace Q:=F.out _ X.off;have R:=cbn (X.blk br);go_wp2_with fail;exact R6 (by simp[aR,results162,go_sem,R]) (d5 _ _ 2 (max s.num q.num)) (rfl) (m.trans X) (aQ _) rfl
theorem MG{x y:An}{T:Tr}{r:Tr×Int}(h:thn x (fun _=> thn y fun _=> some (T,0))=some r): ∃q:Tr×Int,thn x (fun a=> thn y fun b=> some (m6 (max a.num b.num),0))=some q/\r.2=q.2/\(q.2=0->T=r.1):=by
 obtain⟨s,c,rfl,g,f⟩:=Ud h;by_cases hc:c=0
 · subst hc
   obtain⟨j,d,rfl,i,k⟩:=Ud (g rfl);by_cases hd:d=0
   · subst hd
     obtain rfl:=(Option.some.inj (i rfl)).symm;exact⟨(m6 (max s.num j.num),0),by simp[thn],rfl,fun _=> rfl⟩
   · exact⟨(j2,d),by simp[thn,hd],by rw[k hd],fun e=> absurd e hd⟩
 · exact⟨(j2,c),by simp[thn,hc],by rw[f hc],fun e=> absurd e hc⟩
theorem AG{f:Nat}(HI:a9 f){G:List Tr}{A:Option Addr}{ca:Nat}(m:aL)(N:Nat->Prop)(hJ:SJ m N A G ca)(fh:G.length<=20)(k n:Int)(y:List Tr)(j6:y.length=2)(L:j0 D0 (kd y 0)=true)(v:Value)(hT:InT m N (.mk k n y) v)(ty:Nat->An)(h0:ty 0=Q0 f G (kd y 0))(h1:ty 1=Q0 f (G++ [kd y 0]) (kd y 1))(r:Tr×Int)(h:Wo (Q0 f) G ty (kd y 0)=some r):aX prog 163 #[.slice A G.length ca,v] m (Ug N m r):=by
 unfold Wo at h;rw[h0] at h;obtain⟨E,I2⟩: ∃E,E=G++ [kd y 0]:=⟨_,rfl⟩;rw[<-I2] at h1;have ou:=hdq (show(0 < E.length/\E.length<=21)/\ ∀x∈E,j0 D0 x=true from⟨by rw[I2];simp;omega,I2▸fun x hx=>(List.mem_append.1 hx).elim (hJ.hv x) fun e=>(List.mem_singleton.1 e)▸L⟩);have Cy:=hdq I2;have yt:=hdq fh;have im:=hdq L;clear I2 fh L;rw[h1,<-Cy.out] at h;obtain⟨s,c,G1,Az,G3⟩:=a7 h;clear h h0 h1;obtain⟨At,ct,rfl,-,l8,hK⟩:=InT.mk_iff.1 hT;obtain⟨b,o,rfl,-,⟨O8,Q6,O7,P5,P4,K0⟩,ah,bm,aj,dc,df,K1⟩:=q17 hK j6;rw[j6];clear hT hK j6;go_enter func163,ntmps163;go_wp2_with fail;generalize hw:aO (aO m _) _=w1;obtain⟨I,br,S⟩:=ie hw.symm hJ;have F:=hdq (both S (both (K0.up I (aQ _)) (K1.up I (aQ _))));have X:=xr w1;have Q:=F.out _ X.off;clear S hJ hw K0 K1;refine(wv HI _ _ Q.1.1 _ _ Q.2.1.i _ G1.out).mono ?_;rintro e w2 ⟨rfl,e⟩;replace X:=X.trans e;replace Q:=F.out _ X.off;simp only;obtain⟨HC,t⟩ |rfl:=cz c
 · have R:=cbn (X.blk br)
   go_wp2_with fail;exact Vg (by simp[aR,results163,go_sem,R]) (G3.out HC.out) HC.out ((I.trans X).set3 (aQ _) _ _ _) rfl
 obtain⟨p,c,H1,H2,H3⟩:=a7 (Az.out rfl);clear G1 Az G3;go_wp2_with fail;refine rgn (m.heap.size+1) (by kernel_rfl) X ?_;replace X:=X.drew;refine O2 [0,1,2,3,4,6,7,8,9] 8 (by kernel_rfl) X.off (fun _ _ _ _ _ h=> h) ?_
 iterate 9 (refine tk rfl (by rfl) (by intro w X;have Q:=F.out _ X;go_simp;(try with_reducible rfl)) ?_;try simp only[N2])
 replace Q:=F.out _ X.off;refine cl 15 59 13 #[true,true,true,true,true,true,true,true,true,true,true,true,true,true,true,false,false] 2 [.any,.any,.any,.any,.any,Sp.row (fun b=> N b/\b≠m.heap.size+1) E,.any,.any,.any,.any,Sp.two (fun b=> N b/\b≠m.heap.size+1) p (m0 c),Sp.two (fun b=> N b/\b≠m.heap.size+1) p (m0 c),Sp.tree (fun b=> N b/\b≠m.heap.size+1) p,Sp.val (m0 c),Sp.box w2.drew] [5,10,11,12,13,14] (fun w h=>(X.trans h).off) (by kernel_rfl) rfl rfl (fun _ _ _ _ h=> h) ?hx1 ?st1 ?fi1
 case hx1=>(intro a w z hE d J;obtain⟨u11,l,P⟩: ∃u,a.eval (.tmp 26)= .tuple #[u,m0 c]/\InT w (Mz _ z) p u:=J 11 26 (by kernel_rfl);replace l:=D3 l;exact⟨m0 c,Or.inl ⟨by rfl,fun w'' _=> by go_simp⟩,rfl⟩)
 case st1=>
  repeat' first|exact trivial|refine And.intro ⟨_,rfl, ?_⟩ ?_
  all_goals(intro a w z hE d J;refine Ord.step_of rfl rfl ?_;intro K hK)
  · (have f27:=D3 (show a.eval (.tmp 27)= .slice A G.length ca from d 27 (by kernel_rfl));have f31:=D3 (show a.eval (.tmp 31)= M0 O8 Q6 O7 P5 P4 from d 31 (by kernel_rfl));go_simp;go_at_call 186;refine(Xr Cy.out _ _ (SJ.oldG' Q.1.1 hE) yt.out im.out _ (Q.2.1.i.oldG' hE)).mono ?_;rintro e H ⟨B,c,rfl,hj,O⟩;exact hK _ _ ⟨_,z,rfl,n9 hE O,B,c,rfl,hj.hl,hj.hc,hj.hG⟩)
  · (obtain⟨A5,c5,f5,mj,ri,mq⟩: ∃A c,a.eval (.tmp 32)= .slice A E.length c/\E.length<=c/\c<=maxLen/\InK w (Mz _ z) A E:=J 5 32 (by kernel_rfl);replace f5:=D3 f5;have f36:=D3 (show a.eval (.tmp 36)= M0 ah bm aj dc df from d 36 (by kernel_rfl));go_simp;go_at_call 89;refine(HI E (kd y 1) (p,c) H1.out _ _ _ _ _ (SJ.row (md Q.1.1.hN hE) mj ri mq ou.out) (Q.2.2.i.oldG' hE)).mono ?_;rintro e H ⟨u,rfl,hu,O⟩;exact hK _ _ ⟨_,z,rfl,n9 hE O,u,rfl,hu⟩)
  · (obtain⟨u10,f10,h10⟩: ∃u,a.eval (.tmp 37)= .tuple #[u,m0 c]/\InT w (Mz _ z) p u:=J 10 37 (by kernel_rfl);replace f10:=D3 f10;go_simp;exact hK _ _ ⟨_,z,rfl,hE.id,_,rfl,h10⟩)
  · (obtain⟨u11,l,P⟩: ∃u,a.eval (.tmp 26)= .tuple #[u,m0 c]/\InT w (Mz _ z) p u:=J 11 26 (by kernel_rfl);replace l:=D3 l;go_simp;exact hK _ _ ⟨_,z,rfl,hE.id,P⟩)
  · (obtain⟨u11,l,P⟩: ∃u,a.eval (.tmp 26)= .tuple #[u,m0 c]/\InT w (Mz _ z) p u:=J 11 26 (by kernel_rfl);replace l:=D3 l;go_simp;exact hK _ _ ⟨_,z,rfl,hE.id,rfl⟩)
  · (go_simp;exact hK _ _ ⟨_,_,rfl,EG.box hE,_,rfl,gL ..,(show _<=w.heap.size from hE.1.size),aS _ _⟩)
 case fi1=>
  intro v H z hE hG;have ht:InT H (Mz _ z) p (v 12):=hG 12 (by decide) (by kernel_rfl);obtain⟨Z,U,V,W,Y,T⟩:=ht.three;rw[T] at ht;obtain⟨gb,D,gz,M,bx⟩: ∃g,v 14= .pointer (some ⟨g,0,none⟩)/\g∈z/\w2.drew.heap.size<=g/\H.heap[g]? =_:=hG 14 (by decide) (by kernel_rfl);have hv3:v 13= m0 c:=hG 13 (by decide) (by kernel_rfl);simp only[List.foldl,Ord.dstOf,dZ,dQ,dL,Option.bind_some,Act.put,aU,bN,bM];rw[T,D,hv3];replace ht:=(InT.mono (fun b (hb:Mz _ z b)=>(⟨hb.1,fun h=> hb.2 (h▸gz)⟩:(fun b=> N b/\b≠m.heap.size+1) b/\b≠gb)) (fun _ _=> rfl) ht).ret (m0 Z) (m0 U) (.slice V W Y);have C:=De X M br;have X1:=X;replace X:=X.trans hE.1;have Zx:=cbn bx;clear hG hE gz T D;refine O0 15 (by kernel_rfl) rfl rfl (fun K hK=> ?_)
  go_simp
  have e:=Off.new3 X (Nat.le_trans X1.size M) bx (m0 Z) (m0 U) (.slice V W Y);refine hK.out _ _ e.1.off (fun _=> ?_);clear hK K Zx;replace X:=e.1;have bq:=e.2;generalize cM (cM (cM H _ _) _ _) _ _=w3 at*;refine O2 [16] 0 (by kernel_rfl) X.off (fun _ _ _ _ _ h=> h) ?_;refine tk rfl (by rfl) (by intro w X;go_simp;(try with_reducible rfl)) ?_
  try simp only[N2]
  refine bP (by kernel_rfl) ?_ _;clear bx e X1;replace F:=hdq (both (rb F.out X) (both (m7 bq C) (ht.up (xr _))));replace br:=X.blk br;replace I:=I.trans X;replace X:=xr w3;replace Q:=F.out _ X.off;clear bq ht C M;obtain⟨HC,t⟩ |rfl:=cz c
  · have R:=cbn (X.blk br)
    go_wp2_with fail;exact Vg (by simp[aR,results163,go_sem,R]) (H3.out HC.out) HC.out ((I.trans X).set3 (aQ _) _ _ _) rfl
  obtain⟨q,q1,q2⟩:=MG (H2.out rfl);clear H1 H2 H3;have Q1:=hdq q1;clear q1;have Q2:=hdq q2;clear q2;go_wp2_with fail;refine rgn (m.heap.size+1) (by kernel_rfl) X ?_;replace X:=X.drew;refine O2 [0,1,2,3,4] 4 (by kernel_rfl) X.off (fun _ _ _ _ _ h=> h) ?_
  iterate 5 (refine tk rfl (by rfl) (by intro w X;have Q:=F.out _ X;go_simp;(try with_reducible rfl)) ?_;try simp only[N2])
  replace Q:=F.out _ X.off;refine Vi 8 59 #[true,true,true,true,true,true,true,true,false] 1 [.any,.any,.any,.any,.any,Sp.row (fun b=> N b/\b≠m.heap.size+1) [kd y 0,p],Sp.tree (fun b=> N b/\b≠m.heap.size+1) (.mk 3 0 [kd y 0,p]),Sp.box w3.drew] [5,6,7] (fun w h=>(X.trans h).off) (by kernel_rfl) rfl ?st2 ?fi2
  case st2=>
   repeat' first|exact trivial|refine And.intro ⟨_,rfl, ?_⟩ ?_
   all_goals(intro a w z hE d J;refine Ord.step_of rfl rfl ?_;intro K hK)
   · (have f47:=D3 (show a.eval (.tmp 47)= M0 O8 Q6 O7 P5 P4 from d 47 (by kernel_rfl));have f48:=D3 (show a.eval (.tmp 48)= M0 Z U V W Y from d 48 (by kernel_rfl));go_simp;obtain⟨O,h⟩:=K6 25 (Q.1.2.1.i.oldG' hE) (Q.2.2.oldG' hE) (md Q.1.1.1.hN hE);exact hK _ _ ⟨_,z,rfl,n9 hE O,_,2,rfl,aN _,by decide,h⟩)
   · (obtain⟨A5,c5,f5,mj,ri,mq⟩: ∃A c,a.eval (.tmp 49)= .slice A 2 c/\2<=c/\c<=maxLen/\InK w (Mz _ z) A [kd y 0,p]:=J 5 49 (by kernel_rfl);replace f5:=D3 f5;go_simp;go_at_call 60;refine(Kx 3 _ _ (md Q.1.1.1.hN hE) A5 c5 _ mq (by simp) mj (by simp)).mono ?_;rintro e H ⟨u,rfl,hx,O⟩;exact hK _ _ ⟨_,z,rfl,n9 hE O,hx⟩)
   · (go_simp;exact hK _ _ ⟨_,_,rfl,EG.box hE,_,rfl,gL ..,(show _<=w.heap.size from hE.1.size),aS _ _⟩)
  case fi2=>
   intro v H z hE hG;have ht:InT H (Mz _ z) (.mk 3 0 [kd y 0,p]) (v 6):=hG 6 (by decide) (by kernel_rfl);obtain⟨Z,U,V,W,Y,T⟩:=ht.three;rw[T] at ht;obtain⟨gb,D,gz,M,bx⟩: ∃g,v 7= .pointer (some ⟨g,0,none⟩)/\g∈z/\w3.drew.heap.size<=g/\H.heap[g]? =_:=hG 7 (by decide) (by kernel_rfl);simp only[List.foldl,Ord.dstOf,dZ,dQ,dL,Option.bind_some,Act.put,aU,bN,bM];rw[T,D];replace ht:=(InT.mono (fun b (hb:Mz _ z b)=>(⟨hb.1,fun h=> hb.2 (h▸gz)⟩:(fun b=> N b/\b≠m.heap.size+1) b/\b≠gb)) (fun _ _=> rfl) ht).ret (m0 Z) (m0 U) (.slice V W Y);have C:=De X M br;have X1:=X;replace X:=X.trans hE.1;have Zx:=cbn bx;clear hG hE gz T D;refine O0 8 (by kernel_rfl) rfl rfl (fun K hK=> ?_)
   go_simp
   have e:=Off.new3 X (Nat.le_trans X1.size M) bx (m0 Z) (m0 U) (.slice V W Y);refine hK.out _ _ e.1.off (fun _=> ?_);clear hK K Zx;replace X:=e.1;have bq:=e.2;generalize cM (cM (cM H _ _) _ _) _ _=w4 at*;refine bP (by kernel_rfl) ?_ _;clear bx e X1;replace F:=hdq (both (rb F.out X) (both (m7 bq C) (ht.up (xr _))));replace br:=X.blk br;replace I:=I.trans X;replace X:=xr w4;replace Q:=F.out _ X.off;clear bq ht C M;go_wp2_with fail;refine(KG HI _ _ Q.1.1.1.1 yt.out 3 0 [kd y 0,p] rfl im.out _ Q.2.2 (fun j=> if j=0 then Q0 f G (kd y 0) else Q0 f E p) rfl (by rw[Cy.out];rfl) q Q1.out).mono ?_;rintro e w5 ⟨u,rfl,hT,e⟩;replace X:=X.trans e;replace Q:=F.out _ X.off;obtain⟨_,_,_,_,_,rfl⟩:=hT.three;simp only;have R:=cbn (X.blk br);have R':=fun o=> cbn ((X.alloc o).blk br)
   go_wp2_with fail;exact Va (by simp[aR,results163,go_sem,R,R']) (InT.later Q.2.2 ((xr _).alloc _)) (Q2.out) ((I.trans X).alloc _) (aQ _) rfl
end Go.Proofs.YtckhbnmfnpolgaaGreat
namespace Go.Proofs.YtckhbnmfnpolgaaGreat
open Go.RowKit
theorem jE{m:Int}(a:0<=m)(b:m<=3):j0 D0 (m6 m)=true:=by
 rcases(by omega:m=0\/m=1\/m=2\/m=3) with rfl|rfl|rfl|rfl <;> decide+kernel
theorem UB:j0 D0 n5=true:=by decide+kernel
theorem YA{x:An}{s:Tr}(h:X0 x 2=some (s,0)):0<=s.num/\s.num<=3:=by
 obtain⟨hk,-,hv⟩:=Mi h;obtain⟨k,n,c⟩:=s;obtain⟨-,b,a,-⟩:=Z4 (Z3 hv).1;rw[show k=2 from hk] at a;exact⟨b,a⟩
theorem Xe{X:Tr×Int}{u:Tr}(h:some X=some (u,(0:Int)))(a:X.2=0->j0 D0 X.1=true):j0 D0 u=true:=by
 have e:X=(u,0):=by simpa using h
 have:=a (by rw[e])
 rwa [e] at this
theorem Ru(X:Tr):(mkV X).2=0->j0 D0 (mkV X).1=true:=fun h=> by
 obtain⟨b,a⟩:=ds h;rw[a];exact b
theorem RF{G:List Tr}{g:Tr->An}{ty:Nat->An}{k n:Int}{d:List Tr}{u:Tr}(hv:j0 D0 (.mk k n d)=true)(h:Ub G g ty k n d=some (u,0)):j0 D0 u=true:=by
 obtain⟨r,z,x,-⟩:=Z4 (Z3 hv).1;have v: ∀i,i < d.length->j0 D0 (kd d i)=true:=fun i hi=> Vc (t:= .mk k n d) hv hi
 unfold Ub at h;rcases Nu (show U0 k=(d.length:Int) from r) with⟨rfl,hm⟩ |⟨rfl,hm⟩ |⟨rfl,hm⟩ |⟨rfl,hm⟩ |⟨rfl,hm⟩ |⟨rfl,hm⟩ |⟨rfl,hm⟩ |⟨rfl,hm⟩ |⟨rfl,hm⟩ |⟨rfl,hm⟩ |⟨rfl,hm⟩ |⟨rfl,hm⟩ |⟨rfl,hm⟩ |⟨rfl,hm⟩ |⟨rfl,hm⟩ |⟨rfl,hm⟩
 · have h:some (ji G n)=some (u,0):=by simpa using h
   refine Xe h fun j=> ?_
   unfold ji at j⊢
   split at j
   · simp at j
   · rename_i l
     rw[if_neg l];exact Ru _ j
 · have h:some (if n=3 then(j2,1) else(m6 (n+1),(0:Int)))=some (u,0):=by simpa using h
   refine Xe h fun j=> ?_
   split at j
   · simp at j
   · rename_i l
     rw[if_neg l];have:Ma 2=3:=rfl;have:n<=Ma 2:=x;exact jE (by omega) (by omega)
 · have h:te ty=some (u,0):=by simpa using h
   obtain⟨a,e,h⟩:=M8 h;obtain⟨b,f,h⟩:=M8 h;have:=YA e;have:=YA f;refine Xe h fun _=> jE (by show 0<=max a.num b.num;omega) (by show max a.num b.num<=3;omega)
 · have h:Oo g ty (kd d 0)=some (u,0):=by simpa using h
   obtain⟨a,e,h⟩:=M8 h;obtain⟨b,f,h⟩:=M8 h;obtain⟨o,p,h⟩:=M8 h;obtain⟨q,y,h⟩:=M8 h;obtain rfl:o=u:=by simpa using h
   exact Xe p (Ru _)
 · have h:bj ty (kd d 1)=some (u,0):=by simpa using h
   obtain⟨a,e,h⟩:=M8 h;obtain⟨s,f,-,h⟩:=ti h;exact Xe h (Ru _)
 · have h:some (m6 0,(0:Int))=some (u,0):=by simpa using h
   exact Xe h fun _=> jE (by decide) (by decide)
 · have h:some (n5,(0:Int))=some (u,0):=by simpa using h
   exact Xe h fun _=> UB
 · have h:W3 (ty 0) n5 (some (n5,0))=some (u,0):=by simpa using h
   obtain⟨s,f,-,h⟩:=ti h;exact Xe h fun _=> UB
 · have h:km ty (kd d 0) (kd d 3)=some (u,0):=by simpa using h
   obtain⟨F,s,c,-,-,-,-,-,-,h⟩:=Nw h;obtain⟨w,-,h⟩:=M8 h;obtain⟨s,-,-,h⟩:=ti h;obtain⟨w,-,h⟩:=M8 h;obtain⟨s,-,-,h⟩:=ti h;obtain⟨s,-,-,h⟩:=ti h;exact Xe h (Ru _)
 · have h:Oe ty (kd d 0)=some (u,0):=by simpa using h
   obtain⟨a,e,h⟩:=M8 h;obtain⟨s,-,-,h⟩:=ti h;obtain⟨s,-,-,h⟩:=ti h;have:=YA e;exact Xe h fun _=> jE this.1 this.2
 · have h:sq g ty (kd d 0)=some (u,0):=by simpa using h
   obtain⟨a,e,h⟩:=M8 h;obtain⟨b,f,h⟩:=M8 h;exact Xe h (Ru _)
 · have h:Pn ty (kd d 0)=some (u,0):=by simpa using h
   obtain⟨a,e,h⟩:=M8 h;obtain⟨F,s,c,-,-,-,-,-,-,h⟩:=Nw h;obtain⟨w,-,h⟩:=M8 h;obtain⟨s,-,-,h⟩:=ti h;exact Xe h (Ru _)
 · have h:te ty=some (u,0):=by simpa using h
   obtain⟨a,e,h⟩:=M8 h;obtain⟨b,f,h⟩:=M8 h;have:=YA e;have:=YA f;refine Xe h fun _=> jE (by show 0<=max a.num b.num;omega) (by show max a.num b.num<=3;omega)
 · have h:Tq ty (kd d 0) (kd d 1)=some (u,0):=by simpa using h
   obtain⟨a,e,h⟩:=M8 h;obtain⟨b,f,h⟩:=M8 h;obtain⟨s,-,-,h⟩:=ti h;obtain⟨w,-,h⟩:=M8 h;obtain⟨s,-,-,h⟩:=ti h;exact Xe h fun _=> v 0 (by omega)
 · have h:Mk ty 15 (kd d 0)=some (u,0):=by simpa using h
   obtain⟨s,e,h⟩:=M8 h;rw[if_pos rfl] at h;obtain⟨-,hl,m⟩:=Mi e;have:U0 13=2:=rfl;exact Xe h fun _=> Vc m (by omega)
 · have h:Mk ty 16 (kd d 0)=some (u,0):=by simpa using h
   obtain⟨s,e,h⟩:=M8 h;rw[if_neg (by decide)] at h;exact Xe h (Ru _)
theorem oI{f:Nat}{G:List Tr}{t u:Tr}(hv:j0 D0 t=true)(h:S0 f G t=some (u,0)):j0 D0 u=true:=by
 cases f with
 |zero=> cases h
 |succ f=>
  obtain⟨k,n,a⟩:=t;exact RF hv h
end Go.Proofs.YtckhbnmfnpolgaaGreat
namespace Go.Proofs.YtckhbnmfnpolgaaGreat
open Go Go.RowKit
attribute [local go_sem ↓] Go.wp_at_zero Go.wp_at_succ
theorem lm(k:Int):U0 k<=4:=by
 unfold U0
 repeat' split
 all_goals omega
theorem ED{k:Int}(h:k∈ [(1:Int),7,6,2,1]):decide (0 < U0 k)=false:=by
 simp only[List.mem_cons,gN,or_false] at h;rcases h with rfl|rfl|rfl|rfl|rfl <;> decide
theorem PF{k:Int}(h:0 < Ma k):decide (0 < U0 k)=false:=by
 unfold Ma at h
 split at h
 · rename_i e;rw[e];decide
 · split at h
   · rename_i e;rw[e];decide
   · omega
def Vj(d q:Nat):Prop:= ∀(w:aL) (g m:Nat),Rd w g m->m+q < 1000000->aX prog 112 #[.pointer (some ⟨g,0,none⟩),.int .i64 d] w (DQ w g (m+q) fun t=> dT t<=max 1 d)
theorem cA(d q:Nat)(hd:d<=4)(ih:2<=d->Vj (d - 1) q):Vj d (3+4*q):=by
 intro y g m hR hm;have l:=hdq hR.lt;go_enter func112,ntmps112;go_wp2_with fail;rw[show y.heap.size+1=(aO y (.cells #[.int .i64 0,.int .i64 0,.slice none 0 0] 25)).heap.size by simp];generalize w:aO y _=T;obtain⟨br,e⟩:=nb w;have Z:=(St.of hR e).id;have Y:D1 [g] y T:=oE e;clear w e hR;refine(numD [1,5,4,8,9,3,6,7,11,15,14,10,12,13,16,2] rfl rfl Z.2 (by omega)).mono ?_;rintro e G ⟨kd,rfl,-,o,R⟩;replace Z:=Z.tr o R;clear o R;by_cases rh:d < 2
 · have t0:decide ((d:Int) < 2)=true:=decide_eq_true (by omega)
   go_wp2_with fail;refine(numD [1,7,6,2,1] rfl rfl Z.2 (by omega)).mono ?_;rintro e k ⟨kd,rfl,hk,o,R⟩;replace Z:=Z.tr o R;clear o R;go_wp2_with fail;have B:=Z.1.size;have z:=O1 br;have f:T.heap.size<=k.heap.size/\g < k.heap.size/\y.heap.size≠k.heap.size:=by have:=l.out;omega
   generalize w:aO k _=O;obtain⟨a,e⟩:=nb w;replace Z:=Z.up e;generalize k.heap.size=p at*;clear w e B z;refine(It kd _).mono ?_;rintro e E ⟨rfl,rfl⟩;by_cases D:0 < Ma kd
   · have t2:decide (0 < Ma kd)=true:=decide_eq_true D
     go_wp2_with fail;have H:=Z.2;refine(numD [0,1,0,2,1,3] rfl rfl H (by omega)).mono ?_;rintro e r ⟨x,rfl,-,o,R⟩;replace a:=o.keepBlk a (by simp;omega);replace Z:=Z.tr o R;clear H o R;have C:=cbn a;go_wp2_with fail;replace a:=N5 a 1 (.int .i64 x);replace Z:St _ (cM r ⟨p,1,none⟩ (.int .i64 x)) g _:=⟨Z.1.setNew f.1 _,Z.2.set f.2.1 _⟩;generalize cM r ⟨p,1,none⟩ (.int .i64 x)=w6 at a Z⊢;clear C
     go_loopw [7] (fun i wr=> i= .int .i64 0/\wr=w6) (fun _ _=> 0)
     case atStart=> exact⟨rfl,rfl⟩
     case round=>
      obtain⟨rfl,rfl⟩:=hrel;have t3:=ED hk;have R:=cbn (Z.br br (by have:=l.out;omega));have C:=cbn a;go_wp2_with fail;refine(Tf kd _).mono ?_;rintro e E ⟨rfl,rfl⟩;go_wp2_with fail;exact Oa (by simp[aR,results112,go_sem,R]) (by simp[dT,qs];omega) (d5 _ _ kd x) Y Z l.out (aN _) (by omega) rfl
   have t2:decide (0 < Ma kd)=false:=decide_eq_false D;go_wp2_with fail
   go_loopw [7] (fun i wr=> i= .int .i64 0/\wr=O) (fun _ _=> 0)
   case atStart=> exact⟨rfl,rfl⟩
   case round=>
    obtain⟨rfl,rfl⟩:=hrel;have t3:=ED hk;have R:=cbn (Z.br br (by have:=l.out;omega));have C:=cbn a;go_wp2_with fail;refine(Tf kd _).mono ?_;rintro e E ⟨rfl,rfl⟩;go_wp2_with fail;exact Oa (by simp[aR,results112,go_sem,R]) (by simp[dT,qs];omega) (d5 _ _ kd 0) Y Z l.out (aN _) (by omega) rfl
 have t0:decide ((d:Int) < 2)=false:=decide_eq_false (by omega);have HI:=hdq (ih (by omega));clear ih;go_wp2_with fail;have B:=Z.1.size;have z:=O1 br;have f:T.heap.size<=G.heap.size/\g < G.heap.size/\y.heap.size≠G.heap.size:=by have:=l.out;omega
 generalize w:aO G _=k;obtain⟨a,e⟩:=nb w;replace Z:=Z.up e;generalize G.heap.size=p at*;clear w e B z;refine(It kd _).mono ?_;rintro e E ⟨rfl,rfl⟩;by_cases D:0 < Ma kd
 · have t2:decide (0 < Ma kd)=true:=decide_eq_true D
   go_wp2_with fail;have H:=Z.2;refine(numD [0,1,0,2,1,3] rfl rfl H (by omega)).mono ?_;rintro e O ⟨x,rfl,-,o,R⟩;replace a:=o.keepBlk a (by simp;omega);replace Z:=Z.tr o R;clear H o R;have C:=cbn a;go_wp2_with fail;replace a:=N5 a 1 (.int .i64 x);replace Z:St _ (cM O ⟨p,1,none⟩ (.int .i64 x)) g _:=⟨Z.1.setNew f.1 _,Z.2.set f.2.1 _⟩;generalize cM O ⟨p,1,none⟩ (.int .i64 x)=r at a Z⊢;clear C
   go_loopw [7] (fun i wr=> i= .int .i64 0/\wr=r) (fun _ _=> 0)
   case atStart=> exact⟨rfl,rfl⟩
   case round=>
    obtain⟨rfl,rfl⟩:=hrel;have t3:=PF D;have R:=cbn (Z.br br (by have:=l.out;omega));have C:=cbn a;go_wp2_with fail;refine(Tf kd _).mono ?_;rintro e E ⟨rfl,rfl⟩;go_wp2_with fail;exact Oa (by simp[aR,results112,go_sem,R]) (by simp[dT,qs];omega) (d5 _ _ kd x) Y Z l.out (aN _) (by omega) rfl
 have t2:decide (0 < Ma kd)=false:=decide_eq_false D;have hW:p < k.heap.size:=O1 a;have wj:g < k.heap.size:=by omega
 go_wp2_with fail
 go_loopw [7] (fun i wr=> ∃(j:Nat) (v:Value) (ts:List Tr),i= .int .i64 j/\j<=4/\(j:Int)<=max 0 (U0 kd)/\wr.heap[p]? =some (.cells #[.int .i64 kd,.int .i64 0,v] 25 (0,0))/\kb k wr v ts/\Hid (ts.length=j)/\St T wr g (m+3+j*q)/\k.heap.size<=wr.heap.size/\Hid (∀s∈ts,dT s+1<=max 1 d)) (fun i _=> 5 -(intOf i).toNat)
 case atStart=> exact⟨0,_, [],rfl,by omega,by omega,a,T8.nil _ _ _ _,hdq rfl,⟨Z.1,Z.2.mono (by omega)⟩,aN _,hdq (by simp)⟩
 case round=>
  clear a Z;obtain⟨j,v,ts,rfl,hj,hjk,a,hG,HL,Z,hle,HD⟩:=hrel;have h4:=lm kd;by_cases M:(j:Int) < U0 kd
  · have t1:decide ((j:Int) < U0 kd)=true:=decide_eq_true M
    have Co:j<=3:=by omega
    have Bi:j*q<=3*q:=kQ _ Co;have HC:=hdq (fun S (e:Ext wr S)=>(show aX prog 112 #[.pointer (some ⟨g,0,none⟩),.int .i64 ((d:Int) - 1)] S (DQ S g _ fun t=> dT t<=max 1 (d - 1)) from by rw[show(d:Int) - 1=((d - 1:Nat):Int) by omega];exact HI.out S g _ (Z.2.ext e) (by omega)));have HS:=hdq (show m+3+j*q+q=m+3+(j+1)*q from by rw[Nat.add_mul];omega);have px:=hdq (IntWalk.i64_in ((d:Int) - 1) ⟨by omega,by omega⟩);obtain⟨A,c,rfl,-⟩:=hG.row;have v6:=U1 a 2;have HB:=hdq a;have HGr:=hdq hG;have HZ:=hdq Z;clear hG a Bi Z;go_wp2_with fail;refine(Tf kd _).mono ?_;rintro e E ⟨rfl,rfl⟩;go_wp2_with fail
    go_region_law (first
     |(go_simp;go_at_call 112;(try rw[px.out]);(with_reducible refine(HC.out _ (xr wr).drew).mono ?_);rintro e r ⟨t,u,rfl,J,F,R5,N⟩;have HD5:=hdq J;clear J;obtain⟨k5,V,A5,l5,W,rfl⟩:=F.three;have P:=N.keepBlk HB.out (by simp;omega);have v5:=U1 P 2;have I:p < r.heap.size:=O1 P)
     |(refine pK (.tmp 32) (.tmp 37) (HGr.out.ext (xr wr).drew) N wj ((xr r).alloc (.cells #[.int .i64 k5,.int .i64 V,.slice A5 l5 W] 25)) hle F (by rw[HL.out];omega) rfl rfl (by rfl) (by rfl) (aS _ _) ?_;intro A6 c6 w6 sj Q;have U:=(Q.block p (by omega)).trans (((xr r).alloc (.cells #[.int .i64 k5,.int .i64 V,.slice A5 l5 W] 25)).blk P);have v7:=U1 U 2;have f7:=ib U 2))
    all_goals(
     have X:=(((HZ.out.dr).tr N R5).up ((xr r).alloc (.cells #[.int .i64 k5,.int .i64 V,.slice A5 l5 W] 25))).below Q (by omega) (by omega);have Aq:=Q.size;have I:=N.size;simp only[World.size_alloc] at Aq;rw[HS.out] at X;rw[cR,List.length_singleton] at sj;have L:=hdq X;have HG6:=hdq sj;have HB7:=hdq U;clear X sj U Q P v5;go_wp2_with fail
     go_roundw
     case rel=> exact⟨j+1,_,ts++ [t],by go_num,by omega,by omega,N5 HB7.out 2 _,HG6.out.on (D1.one w6 p 2 _) hW,hdq (by rw[cR,HL.out];rfl),⟨L.out.1.setNew f.1 _,L.out.2.set f.2.1 _⟩,by have:wr.heap.size<=r.heap.size:=I;simp;omega,hdq (fun s hs=> by
      rcases List.mem_append.1 hs with h|h
      · exact HD.out s h
      · rw[List.mem_singleton.1 h];have:=HD5.out;omega)⟩
     case measure=> simp[intOf];omega)
  have t1:decide ((j:Int) < U0 kd)=false:=decide_eq_false M;obtain⟨A,c,rfl,q1,q2,-,K⟩:=hG.row;have C:=cbn a;have R:=cbn (Z.br br (by have:=l.out;omega));have hT:InT wr (fun b=> y.heap.size < b) (.mk kd 0 ts) (.agg #[.int .i64 kd,.int .i64 0,.slice A ts.length c]):=InT.mk_iff.2 ⟨A,c,rfl,q1,q2,InK.mono (fun b hb=> by have:=O1 br;have:=hb.1;omega) (fun _ _=> rfl) K⟩;have Bi:j*q<=4*q:=kQ _ hj;have HDT:=hdq (show dT (.mk kd 0 ts)<=max 1 d by
   have:=Nj (ts:=ts) (n:=max 1 d - 1) (fun s hs=> by have:=HD.out s hs;omega);simp only[dT];omega)
  clear a hG K;go_wp2_with fail;refine(Tf kd _).mono ?_;rintro e E ⟨rfl,rfl⟩;go_wp2_with fail;exact Oa (by simp[aR,results112,go_sem,R]) HDT.out hT Y Z l.out (aN _) (by omega) rfl
theorem Vz: ∀d,d<=4->nd d<=1023
 |0,_=> by decide
 |1,_=> by decide
 |2,_=> by decide
 |3,_=> by decide
 |4,_=> by decide
theorem vD: ∀d,d<=4->Vj d (nd d)
 |0,_=> cA 0 0 (by omega) (fun h=> absurd h (by omega))
 |d+1,h=> cA (d+1) (nd d) h (fun _=> vD d (by omega))
theorem Wu(b:aL)(g m:Nat)(i:Rd b g m)(hm:m < 900000):aX prog 69 #[.pointer (some ⟨g,0,none⟩)] b (DQ b g (m+1024) fun t=> j0 D0 t=true/\dT t<=4):=by
 have c:=hdq i.lt;go_enter func69,ntmps69;go_wp2_with fail;rw[show b.heap.size+1=(aO b (.cells #[.int .i64 0,.int .i64 0,.slice none 0 0] 25)).heap.size by simp];generalize f:aO b _=s;obtain⟨br,e⟩:=nb f;have Z:=(St.of i e).id;have Y:D1 [g] b s:=oE e;clear f e i;refine(numD [3,4,2,3,1] rfl rfl Z.2 (by omega)).mono ?_;rintro e w ⟨d,rfl,hd,o,R⟩;replace Z:=Z.tr o R;clear o R;obtain⟨n,rfl,hn⟩: ∃n:Nat,d=n/\n<=4:=by
  simp only[List.mem_cons,gN,or_false] at hd;exact⟨d.toNat,by omega,by omega⟩
 have q:=Vz n hn;clear hd;go_wp2_with fail;refine(vD n hn _ g _ Z.2 (by omega)).mono ?_;intro e l h;obtain⟨k,A,B,x,z,ca,rfl,u,a,o,Z⟩:=h.at Z br;clear o;go_wp2_with fail;generalize f:aO l _=C;obtain⟨j,e⟩:=nb f;have F:=hdq (nq (r:=b.heap.size) (g:=g) j (by have:=O1 br;have:=Z.1.size;omega) (by have:=O1 br;have:=c.out;have:=Z.1.size;omega));replace br:=e.blk (Z.br br (by have:=c.out;omega));replace Y:=Y.trans (Z.up e).1;replace Z:=(Z.up e).id;replace a:=a.later e;have Q:=F.out _ Z.off;clear f j e;refine(li k _ _ a.lies').mono ?_;rintro e y ⟨rfl,e⟩;replace Z:=Z.up e;replace a:=a.later e;replace Q:=F.out _ Z.off;cases p:j0 D0 k with
 |true=>
  have R:=cbn (Z.br br (by have:=c.out;omega));go_wp2_with fail;exact Oa (by simp[aR,results69,go_sem,R]) (⟨p,by omega⟩) a Y Z c.out (aN _) (by omega) rfl
 |false=>
  go_wp2_with fail;refine(q15 _ 7 0).mono ?_;rintro e v ⟨rfl,e⟩;replace Z:=Z.up e;replace a:=a.later e;replace Q:=F.out _ Z.off;have R:=cbn (Z.br br (by have:=c.out;omega));go_wp2_with fail;exact Oa (by simp[aR,results69,go_sem,R]) (⟨by decide,by decide⟩) (d5 _ _ 7 0) Y Z c.out (aN _) (by omega) rfl
