/- Lemmas towards the law. -/
import Derived.Test.YtckhbnmfnpolgaaGreatTBE
open List renaming length_cons->bX,length_append->cV,mem_cons_self->fP,getElem?_toArray->dV,getElem?_cons_zero->dR,getElem?_cons_succ->dO,setIfInBounds_toArray->aV,set_cons_zero->bP,set_cons_succ->bN,not_mem_nil->gM
open Go renaming World->aN,Calls->aY,wpAnyH_done->bO,results->aS,heap_alloc_new->aT
open Go.World renaming alloc->aO,setCell->bT
open Nat renaming le_succ->aR,le_refl->aP,mul_le_mul_right->kY
open Go.Proofs.Tryz
set_option linter.all false
set_option maxHeartbeats 8000000
set_option maxRecDepth 100000
namespace Go.Proofs.YtckhbnmfnpolgaaGreat
open Go.RowKit
open M (Hd HR Cv Ty j2 rc a7 O5 dep DG fvb)
theorem lH(p:M.Tm):cnt (enc (M.stepTy p))=2*cnt (enc p)+8:=by
 simp only[M.stepTy,enc,cnt,O1,M.Tm.wk,Nr];omega
theorem GC{p:M.Tm}{n:Nat}(h:fvb n p)(v:valid sigT (enc p)=true)(hd:n+dep p<=17)(hc:cnt (enc p)<=196):valid sigT (enc (M.stepTy p))=true:=by
 have s:=KI v;have b:=M.dep_ren p Nat.succ;have a:=M.dep_ren p fun i=> i+2
 have c:=M.dep_pos p;refine mF (n:=n) ⟨trivial,⟨ox _ _ _ _ (fun i h=> Nat.succ_lt_succ h) h,Nat.succ_pos _⟩,ox _ _ _ _ (fun i h=> by omega) h,by show 1 < _;omega⟩ ⟨trivial,⟨Xv _ _ s,trivial⟩,Xv _ _ s,trivial⟩ ?_ (by rw[lH];omega);simp only[M.stepTy,dep,M.Tm.wk,b,a];omega
theorem qv{p T l r:M.Tm}(c:valid sigT (enc p)=true)(hd:I0 sigT (enc p) 29=true)(h:valid sigT (enc (.id T l r))=true)(hc:cnt (enc p)+cnt (enc l)<=399):valid sigT (enc (.app p l))=true:=by
 have b:=(m6 (N4 h).1).2.2.2 (enc l) (by simp);have a:I0 sigT (enc (.app p l)) 30=true:=by
  show(true &&(true &&(I0 sigT (enc p) (30 - 1)&&(I0 sigT (enc l) (30 - 1)&& true))))=true
  rw[b,show(30:Int) - 1=29 from rfl,hd]
  rfl
 unfold valid;rw[a,Bool.true_and,decide_eq_true_eq];simp only[enc,cnt,O1];omega
theorem pv{k n:Int}{a:List Tr}{x:Tr}(h:valid sigT (.mk k n a)=true)(hm:x∈a):I0 sigT x 29=true:=(m6 (N4 h).1).2.2.2 x hm
theorem ZF: ∀(t:M.Tm) (G:List M.Tm),y6 G->DG G 3->dep t<=4->G.length+dep t<=16->valid sigT (enc t)=true->Ag G t:=by
 intro t
 induction t with
 |var n=> intro G hG c d hn hv;exact k7 hG (by omega) _ hv trivial trivial
 |sort n=> intro G hG c d hn hv;exact k7 hG (by omega) _ hv trivial trivial
 |nat=> intro G hG c d hn hv;exact k7 hG (by omega) _ hv trivial trivial
 |zero=> intro G hG c d hn hv;exact k7 hG (by omega) _ hv trivial trivial
 |pi A B g i=> intro G hG c d hn hv;simp only[dep] at d hn;exact k7 hG (by omega) _ hv ⟨g G hG c (by omega) (by omega) (Z0 hv (by simp)),fun b _=> i (A::G) (hG.cons b (Z0 hv (by simp))) (c.cons (by omega)) (by omega) (by simp only[bX];omega) (Z0 hv (by simp))⟩ trivial
 |lam A B g i=> intro G hG c d hn hv;simp only[dep] at d hn;exact k7 hG (by omega) _ hv ⟨g G hG c (by omega) (by omega) (Z0 hv (by simp)),fun b _=> i (A::G) (hG.cons b (Z0 hv (by simp))) (c.cons (by omega)) (by omega) (by simp only[bX];omega) (Z0 hv (by simp))⟩ trivial
 |sg A B g i=> intro G hG c d hn hv;simp only[dep] at d hn;exact k7 hG (by omega) _ hv ⟨g G hG c (by omega) (by omega) (Z0 hv (by simp)),fun b _=> i (A::G) (hG.cons b (Z0 hv (by simp))) (c.cons (by omega)) (by omega) (by simp only[bX];omega) (Z0 hv (by simp))⟩ trivial
 |app f a g i=> intro G hG c d hn hv;simp only[dep] at d hn;exact k7 hG (by omega) _ hv ⟨g G hG c (by omega) (by omega) (Z0 hv (by simp)),i G hG c (by omega) (by omega) (Z0 hv (by simp))⟩ trivial
 |succ a g=> intro G hG c d hn hv;simp only[dep] at d hn;exact k7 hG (by omega) _ hv (g G hG c (by omega) (by omega) (Z0 hv (by simp))) trivial
 |refl a g=> intro G hG c d hn hv;simp only[dep] at d hn;exact k7 hG (by omega) _ hv (g G hG c (by omega) (by omega) (Z0 hv (by simp))) trivial
 |fst a g=> intro G hG c d hn hv;simp only[dep] at d hn;exact k7 hG (by omega) _ hv (g G hG c (by omega) (by omega) (Z0 hv (by simp))) trivial
 |snd a g=> intro G hG c d hn hv;simp only[dep] at d hn;exact k7 hG (by omega) _ hv (g G hG c (by omega) (by omega) (Z0 hv (by simp))) trivial
 |id T a b g i j=> intro G hG c d hn hv;simp only[dep] at d hn;exact k7 hG (by omega) _ hv ⟨g G hG c (by omega) (by omega) (Z0 hv (by simp)),i G hG c (by omega) (by omega) (Z0 hv (by simp)),j G hG c (by omega) (by omega) (Z0 hv (by simp))⟩ trivial
 |elim p z s a g i j w=>
  intro G hG c d hn hv;simp only[dep] at d hn;have k:valid sigT (enc p)=true:=Z0 hv (by simp);refine k7 hG (by omega) _ hv ⟨g G hG c (by omega) (by omega) k,i G hG c (by omega) (by omega) (Z0 hv (by simp)),j G hG c (by omega) (by omega) (Z0 hv (by simp)),w G hG c (by omega) (by omega) (Z0 hv (by simp))⟩ (.inl fun F hF=> ?_);have o:3*cnt (enc p)+1<=64:=Vw p 3 (by omega);exact GC hF.fv k (by omega) (by omega)
 |move p e a g i j=>
  intro G hG c d hn hv;simp only[dep] at d hn;have k:valid sigT (enc p)=true:=Z0 hv (by simp);refine k7 hG (by omega) _ hv ⟨g G hG c (by omega) (by omega) k,i G hG c (by omega) (by omega) (Z0 hv (by simp)),j G hG c (by omega) (by omega) (Z0 hv (by simp))⟩ (.inl fun E T l r o m hi=> ?_);have u:3*cnt (enc p)+1<=64:=Vw p 3 (by omega);obtain⟨n,ev⟩:=m.ev (by simp[M.hk]);refine qv k (pv hv (by simp)) hi ?_;rcases M.ty3 c (by omega) o ev with rfl|hl
  · have q:=(N4 hi).2
    simp only[enc,cnt,O1] at q;omega
  · have:3*cnt (enc l)+1<=64:=Vw l 3 hl
    omega
 |pair T a b g i j=>
  intro G hG c d hn hv;simp only[dep] at d hn;refine k7 hG (by omega) _ hv ⟨g G hG c (by omega) (by omega) (Z0 hv (by simp)),i G hG c (by omega) (by omega) (Z0 hv (by simp)),j G hG c (by omega) (by omega) (Z0 hv (by simp))⟩ (.inl fun S C D X o m vs u=> ?_);obtain⟨n,ev⟩:=m.ev (by simp[M.hk]);have q:=M.ev3' (by omega) ev;simp only[dep] at q;have x:=M.dep_inst D a;have y:3*cnt (enc (D.inst a))+1<=256:=Vw _ 4 (by omega);obtain⟨H,v,-⟩:=o.red m.red;have h8:fvb G.length (.sg C D):=v.fv;refine mF (n:=G.length) (nH h8.2 u.fv) (bK (KI vs).2 (KI (Z0 hv (by simp)))) (by omega) (by omega)
end Go.Proofs.YtckhbnmfnpolgaaGreat
namespace Go.Proofs.YtckhbnmfnpolgaaGreat
open Go.RowKit
attribute [local go_sem ↓] Go.wp_at_zero Go.wp_at_succ
theorem OI{f:Nat}(C:xa f){G:List Tr}{A:Option Addr}{ca:Nat}(a:aN)(N:Nat->Prop)(P:SJ a N A G ca)(k n:Int)(j:List Tr)(I:j.length=4)(x:valid sigT (kd j 0)=true)(v:Value)(hT:InT a N (.mk k n j) v)(ty:Nat->An)(W:ty 0=O0 f G (kd j 0))(Y:ty 1=O0 f G (kd j 1))(h2:ty 2=O0 f G (kd j 2))(O:ty 3=O0 f G (kd j 3))(r:Tr×Int)(h:Xn ty (kd j 0) (kd j 3)=some r):aY prog 165 #[.slice A G.length ca,v] a (Ni N a r):=by
 unfold Xn at h;rw[W,Y,h2,O] at h;obtain⟨c,y,B,z⟩:=Bs h;clear h W Y h2 O;have jy:=hdq x;clear x;obtain⟨At,ct,rfl,-,l9,hK⟩:=InT.mk_iff.1 hT;obtain⟨b,o,rfl,-,⟨O9,P3,P6,Q5,R6,Z⟩,⟨eh,ax,dv,df,bm,K1⟩,⟨ou,pn,oy,pq,pd,U⟩,k31,k32,k33,k34,k35,V⟩:=j37 hK I;rw[I];clear hT hK I;go_enter func165,ntmps165;go_wp2_with fail;generalize p:aO (aO a _) _=J;obtain⟨g,br,S⟩:=Se p.symm P;have T:J.heap.size=a.heap.size+1+1:=by rw[<-p];simp
 have F:=hdq (both S (both (Z.up g (aR _)) (both (K1.up g (aR _)) (both (U.up g (aR _)) (V.up g (aR _))))));have X:=xr J;have Q:=F.out _ X.off;clear S P p Z K1 U V;generalize p:aO J _=w2;obtain⟨s,e⟩:=nb p;rw[T] at s;clear T;replace F:=hdq (both (rb F.out (X.trans e)) (k8 s (by omega)));replace X:=X.trans e;replace br:=X.blk br;replace g:=g.trans X;replace X:=xr w2;replace Q:=F.out _ X.off;clear p s e;refine(y15 _ 6 0).mono ?_;rintro e w3 ⟨rfl,e⟩;replace X:=X.trans e;replace Q:=F.out _ X.off;go_wp2_with fail;generalize p:aO w3 _=w4;obtain⟨s,e⟩:=nb p;replace F:=hdq (both (rb F.out (X.trans e)) (k8 s (X.ne br)));replace X:=X.trans e;replace br:=X.blk br;replace g:=g.trans X;replace X:=xr w4;replace Q:=F.out _ X.off;clear p s e;refine(QB C _ _ Q.1.1.1.1 _ L6 _ _ Q.1.1.2.1.i (Z5 _ (fun _=> True) 6 0).lies' c y.out).mono ?_;rintro e w5 ⟨rfl,e⟩;replace X:=X.trans e;replace Q:=F.out _ X.off;obtain⟨q,t⟩ |rfl:=cz c
 · go_wp2_with fail
   refine rgn (a.heap.size+1) (by kernel_rfl) X ?_;replace X:=X.drew;refine B3 [0,1,2,3,4,7] 4 (by kernel_rfl) X.off (fun _ _ _ _ _ h=> h) ?_
   iterate 6 (refine tk rfl (by rfl) (by intro w X;have Q:=F.out _ X;go_simp;(try with_reducible rfl)) ?_;try simp only[W2])
   replace Q:=F.out _ X.off;refine H0 5 (by kernel_rfl) rfl rfl (fun K hK=> ?_)
   go_simp
   obtain⟨e,m⟩:=n7 25 Q.1.1.2.1.i Q.1.1.2.2.2.2.i Q.1.1.1.1.hN;replace X:=X.trans e;replace Q:=F.out _ X.off;refine hK.out _ _ X.off (fun _=> ?_);refine H0 6 (by kernel_rfl) rfl rfl (fun K hK=> ?_)
   go_simp
   go_at_call 60
   refine(db 5 Q.1.1.1.1.hN m rfl).mono ?_;rintro e w6 ⟨L,M,rfl,hx,e⟩;replace X:=X.trans e;replace Q:=F.out _ X.off;refine hK.out _ _ X.off (fun _=> ?_);have R:=cbn (X.blk br);refine H0 8 (by kernel_rfl) rfl rfl (fun K hK=> ?_)
   go_simp
   refine hK.out _ _ (X.off.set3 _ _ _) (fun _=> ?_);refine B3 [9] 0 (by kernel_rfl) (X.off.set3 _ _ _) (fun _ _ _ _ _ h=> h) ?_;refine tk rfl (by rfl) (by intro w X;go_simp;(try with_reducible rfl)) ?_
   try simp only[W2]
   refine bO (by kernel_rfl) ?_ _;go_wp2_with fail;exact pb (by simp[aS,results165,go_sem,R]) (hx) (um (z.out q.out) q.out) (g.trans X) (aR _) rfl
 obtain⟨c,H,E,D⟩:=yd (B.out rfl);clear y B z;go_wp2_with fail;refine rgn (a.heap.size+1) (by kernel_rfl) X ?_;replace X:=X.drew;refine B3 [0,1,2,3,4,5] 5 (by kernel_rfl) X.off (fun _ _ _ _ _ h=> h) ?_
 iterate 6 (refine tk rfl (by rfl) (by intro w X;have Q:=F.out _ X;go_simp;(try with_reducible rfl)) ?_;try simp only[W2])
 replace Q:=F.out _ X.off;refine H0 6 (by kernel_rfl) rfl rfl (fun K hK=> ?_)
 go_simp
 go_at_call 62
 refine(y15 _ 7 0).mono ?_;rintro e w6 ⟨rfl,e⟩;replace X:=X.trans e;replace Q:=F.out _ X.off;refine hK.out _ _ X.off (fun _=> ?_);refine H0 7 (by kernel_rfl) rfl rfl (fun K hK=> ?_)
 go_simp
 obtain⟨e,m⟩:=n7 25 Q.1.1.2.1.i (Z5 _ _ 7 0) Q.1.1.1.1.hN;replace X:=X.trans e;replace Q:=F.out _ X.off;refine hK.out _ _ X.off (fun _=> ?_);refine H0 8 (by kernel_rfl) rfl rfl (fun K hK=> ?_)
 go_simp
 go_at_call 60
 refine(db 5 Q.1.1.1.1.hN m rfl).mono ?_;rintro e w7 ⟨A8,c8,rfl,hx,e⟩;replace X:=X.trans e;replace Q:=F.out _ X.off;refine hK.out _ _ X.off (fun _=> ?_);refine H0 9 (by kernel_rfl) rfl rfl (fun K hK=> ?_)
 go_simp
 go_at_call 116
 refine(Sm C _ _ Q.1.1.1.1 (kd j 1) _ _ _ Q.1.1.2.2.1.i hx.lies' c H.out).mono ?_;rintro e w8 ⟨rfl,e⟩;replace X:=X.trans e;replace Q:=F.out _ X.off;refine hK.out _ _ X.off (fun _=> ?_);refine B3 [10] 0 (by kernel_rfl) X.off (fun _ _ _ _ _ h=> h) ?_;refine tk rfl (by rfl) (by intro w X;go_simp;(try with_reducible rfl)) ?_
 try simp only[W2]
 refine bO (by kernel_rfl) ?_ _;clear hx m;obtain⟨q,t⟩ |rfl:=cz c
 · go_wp2_with fail
   refine rgn (a.heap.size+1) (by kernel_rfl) X ?_;replace X:=X.drew;refine B3 [0,1,2,3,4,7] 4 (by kernel_rfl) X.off (fun _ _ _ _ _ h=> h) ?_
   iterate 6 (refine tk rfl (by rfl) (by intro w X;have Q:=F.out _ X;go_simp;(try with_reducible rfl)) ?_;try simp only[W2])
   replace Q:=F.out _ X.off;refine H0 5 (by kernel_rfl) rfl rfl (fun K hK=> ?_)
   go_simp
   obtain⟨e,m⟩:=n7 25 Q.1.1.2.1.i Q.1.1.2.2.2.2.i Q.1.1.1.1.hN;replace X:=X.trans e;replace Q:=F.out _ X.off;refine hK.out _ _ X.off (fun _=> ?_);refine H0 6 (by kernel_rfl) rfl rfl (fun K hK=> ?_)
   go_simp
   go_at_call 60
   refine(db 5 Q.1.1.1.1.hN m rfl).mono ?_;rintro e w9 ⟨L,M,rfl,hx,e⟩;replace X:=X.trans e;replace Q:=F.out _ X.off;refine hK.out _ _ X.off (fun _=> ?_);have R:=cbn (X.blk br);refine H0 8 (by kernel_rfl) rfl rfl (fun K hK=> ?_)
   go_simp
   refine hK.out _ _ (X.off.set3 _ _ _) (fun _=> ?_);refine B3 [9] 0 (by kernel_rfl) (X.off.set3 _ _ _) (fun _ _ _ _ _ h=> h) ?_;refine tk rfl (by rfl) (by intro w X;go_simp;(try with_reducible rfl)) ?_
   try simp only[W2]
   refine bO (by kernel_rfl) ?_ _;go_wp2_with fail;exact pb (by simp[aS,results165,go_sem,R]) (hx) (um (D.out q.out) q.out) (g.trans X) (aR _) rfl
 obtain⟨c,y,B,z⟩:=yd (E.out rfl);clear H E D;go_wp2_with fail;refine rgn (a.heap.size+1) (by kernel_rfl) X ?_;replace X:=X.drew;refine B3 [0,1,2,3,4,5] 3 (by kernel_rfl) X.off (fun _ _ _ _ _ h=> h) ?_
 iterate 6 (refine tk rfl (by rfl) (by intro w X;have Q:=F.out _ X;go_simp;(try with_reducible rfl)) ?_;try simp only[W2])
 replace Q:=F.out _ X.off;refine H0 6 (by kernel_rfl) rfl rfl (fun K hK=> ?_)
 go_simp
 go_at_call 190
 refine(QI _ jy.out _ _ Q.1.1.1.1.hN _ Q.1.1.2.1.l).mono ?_;rintro e w9 ⟨u,rfl,hx,e⟩;replace X:=X.trans e;replace Q:=F.out _ X.off;refine hK.out _ _ X.off (fun _=> ?_);obtain⟨_,_,_,_,_,rfl⟩:=hx.three;refine H0 7 (by kernel_rfl) rfl rfl (fun K hK=> ?_)
 go_simp
 go_at_call 116
 refine(Sm C _ _ Q.1.1.1.1 (kd j 2) _ _ _ Q.1.1.2.2.2.1.i hx.lies' c y.out).mono ?_;rintro e S6 ⟨rfl,e⟩;replace X:=X.trans e;replace Q:=F.out _ X.off;refine hK.out _ _ X.off (fun _=> ?_);refine B3 [8] 0 (by kernel_rfl) X.off (fun _ _ _ _ _ h=> h) ?_;refine tk rfl (by rfl) (by intro w X;go_simp;(try with_reducible rfl)) ?_
 try simp only[W2]
 refine bO (by kernel_rfl) ?_ _;clear hx;obtain⟨q,t⟩ |rfl:=cz c
 · go_wp2_with fail
   refine rgn (a.heap.size+1) (by kernel_rfl) X ?_;replace X:=X.drew;refine B3 [0,1,2,3,4,7] 4 (by kernel_rfl) X.off (fun _ _ _ _ _ h=> h) ?_
   iterate 6 (refine tk rfl (by rfl) (by intro w X;have Q:=F.out _ X;go_simp;(try with_reducible rfl)) ?_;try simp only[W2])
   replace Q:=F.out _ X.off;refine H0 5 (by kernel_rfl) rfl rfl (fun K hK=> ?_)
   go_simp
   obtain⟨e,m⟩:=n7 25 Q.1.1.2.1.i Q.1.1.2.2.2.2.i Q.1.1.1.1.hN;replace X:=X.trans e;replace Q:=F.out _ X.off;refine hK.out _ _ X.off (fun _=> ?_);refine H0 6 (by kernel_rfl) rfl rfl (fun K hK=> ?_)
   go_simp
   go_at_call 60
   refine(db 5 Q.1.1.1.1.hN m rfl).mono ?_;rintro e Y4 ⟨L,M,rfl,hx,e⟩;replace X:=X.trans e;replace Q:=F.out _ X.off;refine hK.out _ _ X.off (fun _=> ?_);have R:=cbn (X.blk br);refine H0 8 (by kernel_rfl) rfl rfl (fun K hK=> ?_)
   go_simp
   refine hK.out _ _ (X.off.set3 _ _ _) (fun _=> ?_);refine B3 [9] 0 (by kernel_rfl) (X.off.set3 _ _ _) (fun _ _ _ _ _ h=> h) ?_;refine tk rfl (by rfl) (by intro w X;go_simp;(try with_reducible rfl)) ?_
   try simp only[W2]
   refine bO (by kernel_rfl) ?_ _;go_wp2_with fail;exact pb (by simp[aS,results165,go_sem,R]) (hx) (um (z.out q.out) q.out) (g.trans X) (aR _) rfl
 obtain⟨d,H,E,D⟩:=yd (B.out rfl);clear y B z;go_wp2_with fail;refine rgn (a.heap.size+1) (by kernel_rfl) X ?_;replace X:=X.drew;refine B3 [0,1,2,3,4,5] 2 (by kernel_rfl) X.off (fun _ _ _ _ _ h=> h) ?_
 iterate 6 (refine tk rfl (by rfl) (by intro w X;have Q:=F.out _ X;go_simp;(try with_reducible rfl)) ?_;try simp only[W2])
 replace Q:=F.out _ X.off;refine H0 6 (by kernel_rfl) rfl rfl (fun K hK=> ?_)
 go_simp
 go_at_call 116
 refine(Sm C _ _ Q.1.1.1.1 (kd j 3) L6 _ _ Q.1.1.2.2.2.2.i (Z5 _ (fun _=> True) 6 0).lies' d H.out).mono ?_;rintro e Y4 ⟨rfl,e⟩;replace X:=X.trans e;replace Q:=F.out _ X.off;refine hK.out _ _ X.off (fun _=> ?_);refine B3 [7] 0 (by kernel_rfl) X.off (fun _ _ _ _ _ h=> h) ?_;refine tk rfl (by rfl) (by intro w X;go_simp;(try with_reducible rfl)) ?_
 try simp only[W2]
 refine bO (by kernel_rfl) ?_ _;go_wp2_with fail;refine rgn (a.heap.size+1) (by kernel_rfl) X ?_;replace X:=X.drew;refine B3 [0,1,2,3,4,7] 4 (by kernel_rfl) X.off (fun _ _ _ _ _ h=> h) ?_
 iterate 6 (refine tk rfl (by rfl) (by intro w X;have Q:=F.out _ X;go_simp;(try with_reducible rfl)) ?_;try simp only[W2])
 replace Q:=F.out _ X.off;refine H0 5 (by kernel_rfl) rfl rfl (fun K hK=> ?_)
 go_simp
 obtain⟨e,m⟩:=n7 25 Q.1.1.2.1.i Q.1.1.2.2.2.2.i Q.1.1.1.1.hN;replace X:=X.trans e;replace Q:=F.out _ X.off;refine hK.out _ _ X.off (fun _=> ?_);refine H0 6 (by kernel_rfl) rfl rfl (fun K hK=> ?_)
 go_simp
 go_at_call 60
 refine(db 5 Q.1.1.1.1.hN m rfl).mono ?_;rintro e ki ⟨L,M,rfl,hx,e⟩;replace X:=X.trans e;replace Q:=F.out _ X.off;refine hK.out _ _ X.off (fun _=> ?_);have R:=cbn (X.blk br);refine H0 8 (by kernel_rfl) rfl rfl (fun K hK=> ?_)
 go_simp
 refine hK.out _ _ (X.off.set3 _ _ _) (fun _=> ?_);refine B3 [9] 0 (by kernel_rfl) (X.off.set3 _ _ _) (fun _ _ _ _ _ h=> h) ?_;refine tk rfl (by rfl) (by intro w X;go_simp;(try with_reducible rfl)) ?_
 try simp only[W2]
 refine bO (by kernel_rfl) ?_ _;go_wp2_with fail;exact pb (by simp[aS,results165,go_sem,R]) (hx) (Nl E.out D.out) (g.trans X) (aR _) rfl
theorem SJ.oldG'{M:Nat->Prop}{W w:aN}{z:List Nat}{A:Option Addr}{G:List Tr}{ca:Nat}(h:SJ W M A G ca)(e:EG (W, []) (w,z)):SJ w (Mz M z) A G ca:=
 ⟨Mc h.hN e,h.hl,h.hc,h.hG.oldG' e,h.h21,h.hA,h.hv⟩
theorem SJ.row{w:aN}{N:Nat->Prop}{A:Option Addr}{G:List Tr}{ca:Nat}(hn: ∀b,w.heap.size<=b->N b)(d:G.length<=ca)(c:ca<=maxLen)(a:InK w N A G)(h:(0 < G.length/\G.length<=21)/\ ∀x∈G,valid sigT x=true):SJ w N A G ca:=
 ⟨hn,d,c,a,h.1.2,fun hA=> by
  obtain⟨b,o,e,-⟩:=InK.kid a h.1.1;exact absurd (e.symm.trans hA) (by simp),h.2⟩
theorem qt{G d:List Tr}{t:Tr}(f:d=G++ [t]){A:Option Addr}{ca:Nat}(a:aN)(N:Nat->Prop)(l:SJ a N A G ca)(k:G.length<=20)(m:valid sigT t=true)(v:Value)(ht:InT a N t v):
 aY prog 186 #[.slice A G.length ca,v] a fun e b=> ∃B c,e= .returned (.slice B d.length c)/\SJ b N B d c/\Ext a b:=
 (AI a N l k t m v ht).mono fun e b ⟨B,c,g,i,j⟩=>⟨B,c,by rw[g,f,cV];rfl,f▸i,j⟩
theorem kK{f:Nat}(C:xa f){G:List Tr}{A:Option Addr}{ca:Nat}(g:aN)(N:Nat->Prop)(q:SJ g N A G ca)(M:G.length<=20)(k n:Int)(a:List Tr)(u:a.length=2)(d:valid sigT (kd a 0)=true)(v:Value)(hT:InT g N (.mk k n a) v)(ty:Nat->An)(E:ty 0=O0 f G (kd a 0))(z:ty 1=O0 f (G++ [kd a 0]) (kd a 1))(r:Tr×Int)(h:tf ty=some r):aY prog 162 #[.slice A G.length ca,v] g (n9 N g r):=by
 obtain⟨l,m⟩: ∃l,l=G++ [kd a 0]:=⟨_,rfl⟩;rw[<-m] at z;have W:=hdq (show(0 < l.length/\l.length<=21)/\ ∀x∈l,valid sigT x=true from⟨by rw[m];simp;omega,m▸fun x hx=>(List.mem_append.1 hx).elim (q.hv x) fun e=>(List.mem_singleton.1 e)▸d⟩);have dc:=hdq m;have yz:=hdq M;have Z:=hdq d;clear m M d;unfold tf at h;rw[E,z] at h;obtain⟨s,c,D,U,L⟩:=g8 h;clear h E z W;obtain⟨At,ct,rfl,-,l9,hK⟩:=InT.mk_iff.1 hT;obtain⟨b,o,rfl,-,⟨O9,P3,P6,Q5,R6,O⟩,eh,ax,dv,df,bm,P⟩:=y17 hK u;rw[u];clear hT hK u;go_enter func162,ntmps162;go_wp2_with fail;generalize J:aO (aO g _) _=Y;obtain⟨j,br,S⟩:=Se J.symm q;have F:=hdq (both S (both (O.up j (aR _)) (P.up j (aR _))));have X:=xr Y;have Q:=F.out _ X.off;clear S q J O P;refine(Ow C _ _ Q.1.1 _ _ Q.2.1.i _ D.out).mono ?_;rintro e w2 ⟨rfl,e⟩;replace X:=X.trans e;replace Q:=F.out _ X.off;simp only;obtain⟨y,t⟩ |rfl:=cz c
 · have R:=cbn (X.blk br)
   go_wp2_with fail;exact v9 (by simp[aS,results162,go_sem,R]) (L.out y.out) ((j.trans X).set3 (aR _) _ _ _) rfl
 obtain⟨p,c,V,T,I⟩:=g8 (U.out rfl);clear D U L;go_wp2_with fail;refine rgn (g.heap.size+1) (by kernel_rfl) X ?_;replace X:=X.drew;refine B3 [0,1,2,3,4,6,7,8,9] 7 (by kernel_rfl) X.off (fun _ _ _ _ _ h=> h) ?_
 iterate 9 (refine tk rfl (by rfl) (by intro w X;have Q:=F.out _ X;go_simp;(try with_reducible rfl)) ?_;try simp only[W2])
 replace Q:=F.out _ X.off;refine H0 5 (by kernel_rfl) rfl rfl (fun K hK=> ?_)
 go_simp
 go_at_call 186
 refine(qt dc.out _ _ Q.1.1 yz.out Z.out _ Q.2.1.i).mono ?_;rintro e w3 ⟨B,c2,rfl,H,e⟩;replace X:=X.trans e;replace Q:=F.out _ X.off;refine hK.out _ _ X.off (fun _=> ?_);refine H0 10 (by kernel_rfl) rfl rfl (fun K hK=> ?_)
 go_simp
 go_at_call 128
 refine(Ow C _ _ H _ _ Q.2.2.i _ V.out).mono ?_;rintro e w4 ⟨rfl,e⟩;replace X:=X.trans e;replace Q:=F.out _ X.off;refine hK.out _ _ X.off (fun _=> ?_);refine B3 [11,12,13,14,15] 0 (by kernel_rfl) X.off (fun _ _ _ _ _ h=> h) ?_
 iterate 5 (refine tk rfl (by rfl) (by intro w X;go_simp;(try with_reducible rfl)) ?_;try simp only[W2])
 refine bO (by kernel_rfl) ?_ _;clear H;obtain⟨y,t⟩ |rfl:=cz c
 · have R:=cbn (X.blk br)
   go_wp2_with fail;exact v9 (by simp[aS,results162,go_sem,R]) (I.out y.out) ((j.trans X).set3 (aR _) _ _ _) rfl
 obtain rfl:=Option.some.inj (T.out rfl);clear V T I;go_wp2_with fail;refine(YI s.num p.num _).mono ?_;rintro e w5 ⟨rfl,e⟩;replace X:=X.trans e;replace Q:=F.out _ X.off;go_wp2_with fail;refine(y15 _ 2 (max s.num p.num)).mono ?_;rintro e w6 ⟨rfl,e⟩;replace X:=X.trans e;replace Q:=F.out _ X.off;have R:=cbn (X.blk br);go_wp2_with fail;exact L7 (by simp[aS,results162,go_sem,R]) (Z5 _ _ 2 (max s.num p.num)) (rfl) (j.trans X) (aR _) rfl
theorem vK{x y:An}{T:Tr}{r:Tr×Int}(h:thn x (fun _=> thn y fun _=> some (T,0))=some r): ∃q:Tr×Int,thn x (fun a=> thn y fun b=> some (m7 (max a.num b.num),0))=some q/\r.2=q.2/\(q.2=0->T=r.1):=by
 obtain⟨s,c,rfl,j,f⟩:=we h;by_cases hc:c=0
 · subst hc
   obtain⟨g,d,rfl,i,k⟩:=we (j rfl);by_cases hd:d=0
   · subst hd
     obtain rfl:=(Option.some.inj (i rfl)).symm;exact⟨(m7 (max s.num g.num),0),by simp[thn],rfl,fun _=> rfl⟩
   · exact⟨(D2,d),by simp[thn,hd],by rw[k hd],fun e=> absurd e hd⟩
 · exact⟨(D2,c),by simp[thn,hc],by rw[f hc],fun e=> absurd e hc⟩
theorem jH{f:Nat}(HI:xa f){G:List Tr}{A:Option Addr}{ca:Nat}(p:aN)(N:Nat->Prop)(hJ:SJ p N A G ca)(ig:G.length<=20)(k n:Int)(m:List Tr)(j7:m.length=2)(M:valid sigT (kd m 0)=true)(v:Value)(hT:InT p N (.mk k n m) v)(ty:Nat->An)(h0:ty 0=O0 f G (kd m 0))(h1:ty 1=O0 f (G++ [kd m 0]) (kd m 1))(r:Tr×Int)(h:Wo (O0 f) G ty (kd m 0)=some r):aY prog 163 #[.slice A G.length ca,v] p (Ni N p r):=by
 unfold Wo at h;rw[h0] at h;obtain⟨E,I5⟩: ∃E,E=G++ [kd m 0]:=⟨_,rfl⟩;rw[<-I5] at h1;have qp:=hdq (show(0 < E.length/\E.length<=21)/\ ∀x∈E,valid sigT x=true from⟨by rw[I5];simp;omega,I5▸fun x hx=>(List.mem_append.1 hx).elim (hJ.hv x) fun e=>(List.mem_singleton.1 e)▸M⟩);have dc:=hdq I5;have yz:=hdq ig;have jy:=hdq M;clear I5 ig M;rw[h1,<-dc.out] at h;obtain⟨s,c,G1,Eb,G3⟩:=g8 h;clear h h0 h1;obtain⟨At,ct,rfl,-,l9,hK⟩:=InT.mk_iff.1 hT;obtain⟨b,o,rfl,-,⟨O9,P3,P6,Q5,R6,K0⟩,eh,ax,dv,df,bm,K1⟩:=y17 hK j7;rw[j7];clear hT hK j7;go_enter func163,ntmps163;go_wp2_with fail;generalize hw:aO (aO p _) _=w1;obtain⟨I,br,S⟩:=Se hw.symm hJ;have F:=hdq (both S (both (K0.up I (aR _)) (K1.up I (aR _))));have X:=xr w1;have Q:=F.out _ X.off;clear S hJ hw K0 K1;refine(Ow HI _ _ Q.1.1 _ _ Q.2.1.i _ G1.out).mono ?_;rintro e w2 ⟨rfl,e⟩;replace X:=X.trans e;replace Q:=F.out _ X.off;simp only;obtain⟨HC,t⟩ |rfl:=cz c
 · have R:=cbn (X.blk br)
   go_wp2_with fail;exact Yi (by simp[aS,results163,go_sem,R]) (G3.out HC.out) HC.out ((I.trans X).set3 (aR _) _ _ _) rfl
 obtain⟨y,c,H1,H2,H3⟩:=g8 (Eb.out rfl);clear G1 Eb G3;go_wp2_with fail;refine rgn (p.heap.size+1) (by kernel_rfl) X ?_;replace X:=X.drew;refine B3 [0,1,2,3,4,6,7,8,9] 8 (by kernel_rfl) X.off (fun _ _ _ _ _ h=> h) ?_
 iterate 9 (refine tk rfl (by rfl) (by intro w X;have Q:=F.out _ X;go_simp;(try with_reducible rfl)) ?_;try simp only[W2])
 replace Q:=F.out _ X.off;refine fk 15 59 13 #[true,true,true,true,true,true,true,true,true,true,true,true,true,true,true,false,false] 2 [.any,.any,.any,.any,.any,Sp.row (fun b=> N b/\b≠p.heap.size+1) E,.any,.any,.any,.any,Sp.two (fun b=> N b/\b≠p.heap.size+1) y (j0 c),Sp.two (fun b=> N b/\b≠p.heap.size+1) y (j0 c),Sp.tree (fun b=> N b/\b≠p.heap.size+1) y,Sp.val (j0 c),Sp.box w2.drew] [5,10,11,12,13,14] (fun w h=>(X.trans h).off) (by kernel_rfl) rfl rfl (fun _ _ _ _ h=> h) ?hx1 ?st1 ?fi1
 case hx1=>(intro a w z hE d J;obtain⟨Kw,l,O⟩: ∃u,a.eval (.tmp 26)= .tuple #[u,j0 c]/\InT w (Mz _ z) y u:=J 11 26 (by kernel_rfl);replace l:=v4 l;exact⟨j0 c,Or.inl ⟨by rfl,fun w'' _=> by go_simp⟩,rfl⟩)
 case st1=>
  repeat' first|exact trivial|refine And.intro ⟨_,rfl, ?_⟩ ?_
  all_goals(intro a w z hE d J;refine Ord.step_of rfl rfl ?_;intro K hK)
  · (have f27:=v4 (show a.eval (.tmp 27)= .slice A G.length ca from d 27 (by kernel_rfl));have f31:=v4 (show a.eval (.tmp 31)= m0 O9 P3 P6 Q5 R6 from d 31 (by kernel_rfl));go_simp;go_at_call 186;refine(qt dc.out _ _ (SJ.oldG' Q.1.1 hE) yz.out jy.out _ (Q.2.1.i.oldG' hE)).mono ?_;rintro e H ⟨B,c,rfl,hj,L⟩;exact hK _ _ ⟨_,z,rfl,E9 hE L,B,c,rfl,hj.hl,hj.hc,hj.hG⟩)
  · (obtain⟨A5,c5,f5,ly,sq,mz⟩: ∃A c,a.eval (.tmp 32)= .slice A E.length c/\E.length<=c/\c<=maxLen/\InK w (Mz _ z) A E:=J 5 32 (by kernel_rfl);replace f5:=v4 f5;have f36:=v4 (show a.eval (.tmp 36)= m0 eh ax dv df bm from d 36 (by kernel_rfl));go_simp;go_at_call 89;refine(HI E (kd m 1) (y,c) H1.out _ _ _ _ _ (SJ.row (Mc Q.1.1.hN hE) ly sq mz qp.out) (Q.2.2.i.oldG' hE)).mono ?_;rintro e H ⟨u,rfl,hu,L⟩;exact hK _ _ ⟨_,z,rfl,E9 hE L,u,rfl,hu⟩)
  · (obtain⟨u10,f10,h10⟩: ∃u,a.eval (.tmp 37)= .tuple #[u,j0 c]/\InT w (Mz _ z) y u:=J 10 37 (by kernel_rfl);replace f10:=v4 f10;go_simp;exact hK _ _ ⟨_,z,rfl,hE.id,_,rfl,h10⟩)
  · (obtain⟨Kw,l,O⟩: ∃u,a.eval (.tmp 26)= .tuple #[u,j0 c]/\InT w (Mz _ z) y u:=J 11 26 (by kernel_rfl);replace l:=v4 l;go_simp;exact hK _ _ ⟨_,z,rfl,hE.id,O⟩)
  · (obtain⟨Kw,l,O⟩: ∃u,a.eval (.tmp 26)= .tuple #[u,j0 c]/\InT w (Mz _ z) y u:=J 11 26 (by kernel_rfl);replace l:=v4 l;go_simp;exact hK _ _ ⟨_,z,rfl,hE.id,rfl⟩)
  · (go_simp;exact hK _ _ ⟨_,_,rfl,EG.box hE,_,rfl,fP ..,(show _<=w.heap.size from hE.1.size),aT _ _⟩)
 case fi1=>
  intro v H z hE hG;have ht:InT H (Mz _ z) y (v 12):=hG 12 (by decide) (by kernel_rfl);obtain⟨Z,W,U,Y,V,P⟩:=ht.three;rw[P] at ht;obtain⟨gb,D,gz,T,bx⟩: ∃g,v 14= O2 g/\g∈z/\w2.drew.heap.size<=g/\H.heap[g]? =_:=hG 14 (by decide) (by kernel_rfl);have hv3:v 13= j0 c:=hG 13 (by decide) (by kernel_rfl);simp only[List.foldl,Ord.dstOf,dV,dR,dO,Option.bind_some,Act.put,aV,bP,bN];rw[P,D,hv3];replace ht:=(InT.mono (fun b (hb:Mz _ z b)=>(⟨hb.1,fun h=> hb.2 (h▸gz)⟩:(fun b=> N b/\b≠p.heap.size+1) b/\b≠gb)) (fun _ _=> rfl) ht).ret (j0 Z) (j0 W) (.slice U Y V);have C:=kp X T br;have X1:=X;replace X:=X.trans hE.1;have Zx:=cbn bx;clear hG hE gz P D;refine H0 15 (by kernel_rfl) rfl rfl (fun K hK=> ?_)
  go_simp
  have e:=Off.new3 X (Nat.le_trans X1.size T) bx (j0 Z) (j0 W) (.slice U Y V);refine hK.out _ _ e.1.off (fun _=> ?_);clear hK K Zx;replace X:=e.1;have bq:=e.2;generalize bT (bT (bT H _ _) _ _) _ _=w3 at*;refine B3 [16] 0 (by kernel_rfl) X.off (fun _ _ _ _ _ h=> h) ?_;refine tk rfl (by rfl) (by intro w X;go_simp;(try with_reducible rfl)) ?_
  try simp only[W2]
  refine bO (by kernel_rfl) ?_ _;clear bx e X1;replace F:=hdq (both (rb F.out X) (both (k8 bq C) (ht.up (xr _))));replace br:=X.blk br;replace I:=I.trans X;replace X:=xr w3;replace Q:=F.out _ X.off;clear bq ht C T;obtain⟨HC,t⟩ |rfl:=cz c
  · have R:=cbn (X.blk br)
    go_wp2_with fail;exact Yi (by simp[aS,results163,go_sem,R]) (H3.out HC.out) HC.out ((I.trans X).set3 (aR _) _ _ _) rfl
  obtain⟨q,q1,q2⟩:=vK (H2.out rfl);clear H1 H2 H3;have Q1:=hdq q1;clear q1;have Q2:=hdq q2;clear q2;go_wp2_with fail;refine rgn (p.heap.size+1) (by kernel_rfl) X ?_;replace X:=X.drew;refine B3 [0,1,2,3,4] 4 (by kernel_rfl) X.off (fun _ _ _ _ _ h=> h) ?_
  iterate 5 (refine tk rfl (by rfl) (by intro w X;have Q:=F.out _ X;go_simp;(try with_reducible rfl)) ?_;try simp only[W2])
  replace Q:=F.out _ X.off;refine Ci 8 59 #[true,true,true,true,true,true,true,true,false] 1 [.any,.any,.any,.any,.any,Sp.row (fun b=> N b/\b≠p.heap.size+1) [kd m 0,y],Sp.tree (fun b=> N b/\b≠p.heap.size+1) (.mk 3 0 [kd m 0,y]),Sp.box w3.drew] [5,6,7] (fun w h=>(X.trans h).off) (by kernel_rfl) rfl ?st2 ?fi2
  case st2=>
   repeat' first|exact trivial|refine And.intro ⟨_,rfl, ?_⟩ ?_
   all_goals(intro a w z hE d J;refine Ord.step_of rfl rfl ?_;intro K hK)
   · (have f47:=v4 (show a.eval (.tmp 47)= m0 O9 P3 P6 Q5 R6 from d 47 (by kernel_rfl));have f48:=v4 (show a.eval (.tmp 48)= m0 Z W U Y V from d 48 (by kernel_rfl));go_simp;obtain⟨L,h⟩:=n7 25 (Q.1.2.1.i.oldG' hE) (Q.2.2.oldG' hE) (Mc Q.1.1.1.hN hE);exact hK _ _ ⟨_,z,rfl,E9 hE L,_,2,rfl,aP _,by decide,h⟩)
   · (obtain⟨A5,c5,f5,ly,sq,mz⟩: ∃A c,a.eval (.tmp 49)= .slice A 2 c/\2<=c/\c<=maxLen/\InK w (Mz _ z) A [kd m 0,y]:=J 5 49 (by kernel_rfl);replace f5:=v4 f5;go_simp;go_at_call 60;refine(Xt 3 _ _ (Mc Q.1.1.1.hN hE) A5 c5 _ mz (by simp) ly (by simp)).mono ?_;rintro e H ⟨u,rfl,hx,L⟩;exact hK _ _ ⟨_,z,rfl,E9 hE L,hx⟩)
   · (go_simp;exact hK _ _ ⟨_,_,rfl,EG.box hE,_,rfl,fP ..,(show _<=w.heap.size from hE.1.size),aT _ _⟩)
  case fi2=>
   intro v H z hE hG;have ht:InT H (Mz _ z) (.mk 3 0 [kd m 0,y]) (v 6):=hG 6 (by decide) (by kernel_rfl);obtain⟨Z,W,U,Y,V,P⟩:=ht.three;rw[P] at ht;obtain⟨gb,D,gz,T,bx⟩: ∃g,v 7= O2 g/\g∈z/\w3.drew.heap.size<=g/\H.heap[g]? =_:=hG 7 (by decide) (by kernel_rfl);simp only[List.foldl,Ord.dstOf,dV,dR,dO,Option.bind_some,Act.put,aV,bP,bN];rw[P,D];replace ht:=(InT.mono (fun b (hb:Mz _ z b)=>(⟨hb.1,fun h=> hb.2 (h▸gz)⟩:(fun b=> N b/\b≠p.heap.size+1) b/\b≠gb)) (fun _ _=> rfl) ht).ret (j0 Z) (j0 W) (.slice U Y V);have C:=kp X T br;have X1:=X;replace X:=X.trans hE.1;have Zx:=cbn bx;clear hG hE gz P D;refine H0 8 (by kernel_rfl) rfl rfl (fun K hK=> ?_)
   go_simp
   have e:=Off.new3 X (Nat.le_trans X1.size T) bx (j0 Z) (j0 W) (.slice U Y V);refine hK.out _ _ e.1.off (fun _=> ?_);clear hK K Zx;replace X:=e.1;have bq:=e.2;generalize bT (bT (bT H _ _) _ _) _ _=w4 at*;refine bO (by kernel_rfl) ?_ _;clear bx e X1;replace F:=hdq (both (rb F.out X) (both (k8 bq C) (ht.up (xr _))));replace br:=X.blk br;replace I:=I.trans X;replace X:=xr w4;replace Q:=F.out _ X.off;clear bq ht C T;go_wp2_with fail;refine(kK HI _ _ Q.1.1.1.1 yz.out 3 0 [kd m 0,y] rfl jy.out _ Q.2.2 (fun j=> if j=0 then O0 f G (kd m 0) else O0 f E y) rfl (by rw[dc.out];rfl) q Q1.out).mono ?_;rintro e w5 ⟨u,rfl,hT,e⟩;replace X:=X.trans e;replace Q:=F.out _ X.off;obtain⟨_,_,_,_,_,rfl⟩:=hT.three;simp only;have R:=cbn (X.blk br);have R':=fun o=> cbn ((X.alloc o).blk br)
   go_wp2_with fail;exact pb (by simp[aS,results163,go_sem,R,R']) (InT.later Q.2.2 ((xr _).alloc _)) (Q2.out) ((I.trans X).alloc _) (aR _) rfl
end Go.Proofs.YtckhbnmfnpolgaaGreat
namespace Go.Proofs.YtckhbnmfnpolgaaGreat
open Go.RowKit
theorem sF{m:Int}(b:0<=m)(a:m<=3):valid sigT (m7 m)=true:=by
 rcases(by omega:m=0\/m=1\/m=2\/m=3) with rfl|rfl|rfl|rfl <;> decide+kernel
theorem FE:valid sigT L6=true:=by decide+kernel
theorem NA{x:An}{s:Tr}(h:Q0 x 2=some (s,0)):0<=s.num/\s.num<=3:=by
 obtain⟨hk,-,hv⟩:=vi h;obtain⟨k,n,c⟩:=s;obtain⟨-,b,a,-⟩:=m6 (N4 hv).1;rw[show k=2 from hk] at a;exact⟨b,a⟩
theorem Of{X:Tr×Int}{u:Tr}(h:some X=some (u,(0:Int)))(a:X.2=0->valid sigT X.1=true):valid sigT u=true:=by
 have e:X=(u,0):=by simpa using h
 have:=a (by rw[e])
 rwa [e] at this
theorem Jv(X:Tr):(mkV X).2=0->valid sigT (mkV X).1=true:=fun h=> by
 obtain⟨a,b⟩:=Zt h;rw[b];exact a
theorem jJ{G:List Tr}{g:Tr->An}{ty:Nat->An}{k n:Int}{d:List Tr}{u:Tr}(hv:valid sigT (.mk k n d)=true)(h:Sc G g ty k n d=some (u,0)):valid sigT u=true:=by
 obtain⟨v,z,x,-⟩:=m6 (N4 hv).1;have r: ∀i,i < d.length->valid sigT (kd d i)=true:=fun i hi=> qd (t:= .mk k n d) hv hi
 unfold Sc at h;rcases Py (show S0 k=(d.length:Int) from v) with⟨rfl,hm⟩ |⟨rfl,hm⟩ |⟨rfl,hm⟩ |⟨rfl,hm⟩ |⟨rfl,hm⟩ |⟨rfl,hm⟩ |⟨rfl,hm⟩ |⟨rfl,hm⟩ |⟨rfl,hm⟩ |⟨rfl,hm⟩ |⟨rfl,hm⟩ |⟨rfl,hm⟩ |⟨rfl,hm⟩ |⟨rfl,hm⟩ |⟨rfl,hm⟩ |⟨rfl,hm⟩
 · have h:some (Oj G n)=some (u,0):=by simpa using h
   refine Of h fun j=> ?_
   unfold Oj at j⊢
   split at j
   · simp at j
   · rename_i m
     rw[if_neg m];exact Jv _ j
 · have h:some (if n=3 then(D2,1) else(m7 (n+1),(0:Int)))=some (u,0):=by simpa using h
   refine Of h fun j=> ?_
   split at j
   · simp at j
   · rename_i m
     rw[if_neg m];have:Za 2=3:=rfl;have:n<=Za 2:=x;exact sF (by omega) (by omega)
 · have h:tf ty=some (u,0):=by simpa using h
   obtain⟨a,e,h⟩:=ga h;obtain⟨b,f,h⟩:=ga h;have:=NA e;have:=NA f;refine Of h fun _=> sF (by show 0<=max a.num b.num;omega) (by show max a.num b.num<=3;omega)
 · have h:gr g ty (kd d 0)=some (u,0):=by simpa using h
   obtain⟨a,e,h⟩:=ga h;obtain⟨b,f,h⟩:=ga h;obtain⟨o,p,h⟩:=ga h;obtain⟨q,y,h⟩:=ga h;obtain rfl:o=u:=by simpa using h
   exact Of p (Jv _)
 · have h:Zl ty (kd d 1)=some (u,0):=by simpa using h
   obtain⟨a,e,h⟩:=ga h;obtain⟨s,f,-,h⟩:=ej h;exact Of h (Jv _)
 · have h:some (m7 0,(0:Int))=some (u,0):=by simpa using h
   exact Of h fun _=> sF (by decide) (by decide)
 · have h:some (L6,(0:Int))=some (u,0):=by simpa using h
   exact Of h fun _=> FE
 · have h:E4 (ty 0) L6 (some (L6,0))=some (u,0):=by simpa using h
   obtain⟨s,f,-,h⟩:=ej h;exact Of h fun _=> FE
 · have h:Wm ty (kd d 0) (kd d 3)=some (u,0):=by simpa using h
   obtain⟨F,s,c,-,-,-,-,-,-,h⟩:=Iy h;obtain⟨w,-,h⟩:=ga h;obtain⟨s,-,-,h⟩:=ej h;obtain⟨w,-,h⟩:=ga h;obtain⟨s,-,-,h⟩:=ej h;obtain⟨s,-,-,h⟩:=ej h;exact Of h (Jv _)
 · have h:Ve ty (kd d 0)=some (u,0):=by simpa using h
   obtain⟨a,e,h⟩:=ga h;obtain⟨s,-,-,h⟩:=ej h;obtain⟨s,-,-,h⟩:=ej h;have:=NA e;exact Of h fun _=> sF this.1 this.2
 · have h:qn g ty (kd d 0)=some (u,0):=by simpa using h
   obtain⟨a,e,h⟩:=ga h;obtain⟨b,f,h⟩:=ga h;exact Of h (Jv _)
 · have h:kr ty (kd d 0)=some (u,0):=by simpa using h
   obtain⟨a,e,h⟩:=ga h;obtain⟨F,s,c,-,-,-,-,-,-,h⟩:=Iy h;obtain⟨w,-,h⟩:=ga h;obtain⟨s,-,-,h⟩:=ej h;exact Of h (Jv _)
 · have h:tf ty=some (u,0):=by simpa using h
   obtain⟨a,e,h⟩:=ga h;obtain⟨b,f,h⟩:=ga h;have:=NA e;have:=NA f;refine Of h fun _=> sF (by show 0<=max a.num b.num;omega) (by show max a.num b.num<=3;omega)
 · have h:No ty (kd d 0) (kd d 1)=some (u,0):=by simpa using h
   obtain⟨a,e,h⟩:=ga h;obtain⟨b,f,h⟩:=ga h;obtain⟨s,-,-,h⟩:=ej h;obtain⟨w,-,h⟩:=ga h;obtain⟨s,-,-,h⟩:=ej h;exact Of h fun _=> r 0 (by omega)
 · have h:uk ty 15 (kd d 0)=some (u,0):=by simpa using h
   obtain⟨s,e,h⟩:=ga h;rw[if_pos rfl] at h;obtain⟨-,hl,l⟩:=vi e;have:S0 13=2:=rfl;exact Of h fun _=> qd l (by omega)
 · have h:uk ty 16 (kd d 0)=some (u,0):=by simpa using h
   obtain⟨s,e,h⟩:=ga h;rw[if_neg (by decide)] at h;exact Of h (Jv _)
theorem LI{f:Nat}{G:List Tr}{t u:Tr}(hv:valid sigT t=true)(h:P0 f G t=some (u,0)):valid sigT u=true:=by
 cases f with
 |zero=> cases h
 |succ f=>
  obtain⟨k,n,a⟩:=t;exact jJ hv h
end Go.Proofs.YtckhbnmfnpolgaaGreat
namespace Go.Proofs.YtckhbnmfnpolgaaGreat
open Go Go.RowKit
attribute [local go_sem ↓] Go.wp_at_zero Go.wp_at_succ
theorem Sq(k:Int):S0 k<=4:=by
 unfold S0
 repeat' split
 all_goals omega
theorem fE{k:Int}(h:k∈ [(1:Int),7,6,2,1]):decide (0 < S0 k)=false:=by
 simp only[List.mem_cons,gM,or_false] at h;rcases h with rfl|rfl|rfl|rfl|rfl <;> decide
theorem CH{k:Int}(h:0 < Za k):decide (0 < S0 k)=false:=by
 unfold Za at h
 split at h
 · rename_i e;rw[e];decide
 · split at h
   · rename_i e;rw[e];decide
   · omega
def Yk(d q:Nat):Prop:= ∀(w:aN) (g m:Nat),Rd w g m->m+q < 1000000->aY prog 112 #[.pointer (some ⟨g,0,none⟩),.int .i64 d] w (DQ w g (m+q) fun t=> dT t<=max 1 d)
theorem JA(d q:Nat)(hd:d<=4)(ih:2<=d->Yk (d - 1) q):Yk d (3+4*q):=by
 intro z g m X hm;have p:=hdq X.lt;go_enter func112,ntmps112;go_wp2_with fail;rw[show z.heap.size+1=(aO z (.cells #[j0 0,j0 0,.slice none 0 0] 25)).heap.size by simp];generalize w:aO z _=O;obtain⟨br,e⟩:=nb w;have Z:=(St.of X e).id;have Y:i1 [g] z O:=oE e;clear w e X;refine(numD [1,5,4,8,9,3,6,7,11,15,14,10,12,13,16,2] rfl rfl Z.2 (by omega)).mono ?_;rintro e L ⟨kd,rfl,-,o,R⟩;replace Z:=Z.tr o R;clear o R;by_cases qm:d < 2
 · have t0:decide ((d:Int) < 2)=true:=decide_eq_true (by omega)
   go_wp2_with fail;refine(numD [1,7,6,2,1] rfl rfl Z.2 (by omega)).mono ?_;rintro e l ⟨kd,rfl,hk,o,R⟩;replace Z:=Z.tr o R;clear o R;go_wp2_with fail;have y:=Z.1.size;have B:=D1 br;have f:O.heap.size<=l.heap.size/\g < l.heap.size/\z.heap.size≠l.heap.size:=by have:=p.out;omega
   generalize w:aO l _=T;obtain⟨a,e⟩:=nb w;replace Z:=Z.up e;generalize l.heap.size=r at*;clear w e y B;refine(gx kd _).mono ?_;rintro e E ⟨rfl,rfl⟩;by_cases D:0 < Za kd
   · have t2:decide (0 < Za kd)=true:=decide_eq_true D
     go_wp2_with fail;have H:=Z.2;refine(numD [0,1,0,2,1,3] rfl rfl H (by omega)).mono ?_;rintro e k ⟨x,rfl,-,o,R⟩;replace a:=o.keepBlk a (by simp;omega);replace Z:=Z.tr o R;clear H o R;have C:=cbn a;go_wp2_with fail;replace a:=b6 a 1 (j0 x);replace Z:St _ (bT k ⟨r,1,none⟩ (j0 x)) g _:=⟨Z.1.setNew f.1 _,Z.2.set f.2.1 _⟩;generalize bT k ⟨r,1,none⟩ (j0 x)=V at a Z⊢;clear C
     go_loopw [7] (fun i wr=> i= j0 0/\wr=V) (fun _ _=> 0)
     case atStart=> exact⟨rfl,rfl⟩
     case round=>
      obtain⟨rfl,rfl⟩:=hrel;have t3:=fE hk;have R:=cbn (Z.br br (by have:=p.out;omega));have C:=cbn a;go_wp2_with fail;refine(di kd _).mono ?_;rintro e E ⟨rfl,rfl⟩;go_wp2_with fail;exact kb (by simp[aS,results112,go_sem,R]) (by simp[dT,ku];omega) (Z5 _ _ kd x) Y Z p.out (aP _) (by omega) rfl
   have t2:decide (0 < Za kd)=false:=decide_eq_false D;go_wp2_with fail
   go_loopw [7] (fun i wr=> i= j0 0/\wr=T) (fun _ _=> 0)
   case atStart=> exact⟨rfl,rfl⟩
   case round=>
    obtain⟨rfl,rfl⟩:=hrel;have t3:=fE hk;have R:=cbn (Z.br br (by have:=p.out;omega));have C:=cbn a;go_wp2_with fail;refine(di kd _).mono ?_;rintro e E ⟨rfl,rfl⟩;go_wp2_with fail;exact kb (by simp[aS,results112,go_sem,R]) (by simp[dT,ku];omega) (Z5 _ _ kd 0) Y Z p.out (aP _) (by omega) rfl
 have t0:decide ((d:Int) < 2)=false:=decide_eq_false (by omega);have HI:=hdq (ih (by omega));clear ih;go_wp2_with fail;have y:=Z.1.size;have B:=D1 br;have f:O.heap.size<=L.heap.size/\g < L.heap.size/\z.heap.size≠L.heap.size:=by have:=p.out;omega
 generalize w:aO L _=l;obtain⟨a,e⟩:=nb w;replace Z:=Z.up e;generalize L.heap.size=r at*;clear w e y B;refine(gx kd _).mono ?_;rintro e E ⟨rfl,rfl⟩;by_cases D:0 < Za kd
 · have t2:decide (0 < Za kd)=true:=decide_eq_true D
   go_wp2_with fail;have H:=Z.2;refine(numD [0,1,0,2,1,3] rfl rfl H (by omega)).mono ?_;rintro e T ⟨x,rfl,-,o,R⟩;replace a:=o.keepBlk a (by simp;omega);replace Z:=Z.tr o R;clear H o R;have C:=cbn a;go_wp2_with fail;replace a:=b6 a 1 (j0 x);replace Z:St _ (bT T ⟨r,1,none⟩ (j0 x)) g _:=⟨Z.1.setNew f.1 _,Z.2.set f.2.1 _⟩;generalize bT T ⟨r,1,none⟩ (j0 x)=k at a Z⊢;clear C
   go_loopw [7] (fun i wr=> i= j0 0/\wr=k) (fun _ _=> 0)
   case atStart=> exact⟨rfl,rfl⟩
   case round=>
    obtain⟨rfl,rfl⟩:=hrel;have t3:=CH D;have R:=cbn (Z.br br (by have:=p.out;omega));have C:=cbn a;go_wp2_with fail;refine(di kd _).mono ?_;rintro e E ⟨rfl,rfl⟩;go_wp2_with fail;exact kb (by simp[aS,results112,go_sem,R]) (by simp[dT,ku];omega) (Z5 _ _ kd x) Y Z p.out (aP _) (by omega) rfl
 have t2:decide (0 < Za kd)=false:=decide_eq_false D;have hW:r < l.heap.size:=D1 a;have xv:g < l.heap.size:=by omega
 go_wp2_with fail
 go_loopw [7] (fun i wr=> ∃(j:Nat) (v:Value) (ts:List Tr),i= j0 j/\j<=4/\(j:Int)<=max 0 (S0 kd)/\wr.heap[r]? =some (.cells #[j0 kd,j0 0,v] 25 (0,0))/\ec l wr v ts/\Hid (ts.length=j)/\St O wr g (m+3+j*q)/\l.heap.size<=wr.heap.size/\Hid (∀s∈ts,dT s+1<=max 1 d)) (fun i _=> 5 -(intOf i).toNat)
 case atStart=> exact⟨0,_, [],rfl,by omega,by omega,a,ja.nil _ _ _ _,hdq rfl,⟨Z.1,Z.2.mono (by omega)⟩,aP _,hdq (by simp)⟩
 case round=>
  clear a Z;obtain⟨j,v,ts,rfl,hj,hjk,a,hG,HL,Z,hle,HD⟩:=hrel;have h4:=Sq kd;by_cases I:(j:Int) < S0 kd
  · have t1:decide ((j:Int) < S0 kd)=true:=decide_eq_true I
    have Ak:j<=3:=by omega
    have Cs:j*q<=3*q:=kY _ Ak;have HC:=hdq (fun U (e:Ext wr U)=>(show aY prog 112 #[O2 g,j0 ((d:Int) - 1)] U (DQ U g _ fun t=> dT t<=max 1 (d - 1)) from by rw[show(d:Int) - 1=((d - 1:Nat):Int) by omega];exact HI.out U g _ (Z.2.ext e) (by omega)));have HS:=hdq (show m+3+j*q+q=m+3+(j+1)*q from by rw[Nat.add_mul];omega);have sf:=hdq (IntWalk.i64_in ((d:Int) - 1) ⟨by omega,by omega⟩);obtain⟨A,c,rfl,-⟩:=hG.row;have v6:=E1 a 2;have HB:=hdq a;have HGr:=hdq hG;have HZ:=hdq Z;clear hG a Cs Z;go_wp2_with fail;refine(di kd _).mono ?_;rintro e E ⟨rfl,rfl⟩;go_wp2_with fail
    go_region_law (first
     |(go_simp;go_at_call 112;(try rw[sf.out]);(with_reducible refine(HC.out _ (xr wr).drew).mono ?_);rintro e k ⟨t,u,rfl,J,G,R5,Q⟩;have HD5:=hdq J;clear J;obtain⟨k5,n5,A5,l5,c5,rfl⟩:=G.three;have S:=Q.keepBlk HB.out (by simp;omega);have v5:=E1 S 2;have F:r < k.heap.size:=D1 S)
     |(refine EL (.tmp 32) (.tmp 37) (HGr.out.ext (xr wr).drew) Q xv ((xr k).alloc (D0 k5 n5 A5 l5 c5)) hle G (by rw[HL.out];omega) rfl rfl (by rfl) (by rfl) (aT _ _) ?_;intro A6 c6 V tz N;have P:=(N.block r (by omega)).trans (((xr k).alloc (D0 k5 n5 A5 l5 c5)).blk S);have v7:=E1 P 2;have f7:=mc P 2))
    all_goals(
     have Z6:=(((HZ.out.dr).tr Q R5).up ((xr k).alloc (D0 k5 n5 A5 l5 c5))).below N (by omega) (by omega);have Do:=N.size;have F:=Q.size;simp only[World.size_alloc] at Do;rw[HS.out] at Z6;rw[cV,List.length_singleton] at tz;have M:=hdq Z6;have HG6:=hdq tz;have W:=hdq P;clear Z6 tz P N S v5;go_wp2_with fail
     go_roundw
     case rel=> exact⟨j+1,_,ts++ [t],by go_num,by omega,by omega,b6 W.out 2 _,HG6.out.on (i1.one V r 2 _) hW,hdq (by rw[cV,HL.out];rfl),⟨M.out.1.setNew f.1 _,M.out.2.set f.2.1 _⟩,by have:wr.heap.size<=k.heap.size:=F;simp;omega,hdq (fun s hs=> by
      rcases List.mem_append.1 hs with h|h
      · exact HD.out s h
      · rw[List.mem_singleton.1 h];have:=HD5.out;omega)⟩
     case measure=> simp[intOf];omega)
  have t1:decide ((j:Int) < S0 kd)=false:=decide_eq_false I;obtain⟨A,c,rfl,q1,q2,-,K⟩:=hG.row;have C:=cbn a;have R:=cbn (Z.br br (by have:=p.out;omega));have hT:InT wr (fun b=> z.heap.size < b) (.mk kd 0 ts) (m0 kd 0 A ts.length c):=InT.mk_iff.2 ⟨A,c,rfl,q1,q2,InK.mono (fun b hb=> by have:=D1 br;have:=hb.1;omega) (fun _ _=> rfl) K⟩;have Cs:j*q<=4*q:=kY _ hj;have HDT:=hdq (show dT (.mk kd 0 ts)<=max 1 d by
   have:=Xj (ts:=ts) (n:=max 1 d - 1) (fun s hs=> by have:=HD.out s hs;omega);simp only[dT];omega)
  clear a hG K;go_wp2_with fail;refine(di kd _).mono ?_;rintro e E ⟨rfl,rfl⟩;go_wp2_with fail;exact kb (by simp[aS,results112,go_sem,R]) HDT.out hT Y Z p.out (aP _) (by omega) rfl
theorem oF: ∀d,d<=4->nd d<=1023
 |0,_=> by decide
 |1,_=> by decide
 |2,_=> by decide
 |3,_=> by decide
 |4,_=> by decide
theorem dC: ∀d,d<=4->Yk d (nd d)
 |0,_=> JA 0 0 (by omega) (fun h=> absurd h (by omega))
 |d+1,h=> JA (d+1) (nd d) h (fun _=> dC d (by omega))
theorem qz(b:aN)(g m:Nat)(i:Rd b g m)(hm:m < 900000):aY prog 69 #[O2 g] b (DQ b g (m+1024) fun t=> valid sigT t=true/\dT t<=4):=by
 have c:=hdq i.lt;go_enter func69,ntmps69;go_wp2_with fail;rw[show b.heap.size+1=(aO b (.cells #[j0 0,j0 0,.slice none 0 0] 25)).heap.size by simp];generalize f:aO b _=q;obtain⟨br,e⟩:=nb f;have Z:=(St.of i e).id;have Y:i1 [g] b q:=oE e;clear f e i;refine(numD [3,4,2,3,1] rfl rfl Z.2 (by omega)).mono ?_;rintro e C ⟨d,rfl,hd,o,R⟩;replace Z:=Z.tr o R;clear o R;obtain⟨n,rfl,hn⟩: ∃n:Nat,d=n/\n<=4:=by
  simp only[List.mem_cons,gM,or_false] at hd;exact⟨d.toNat,by omega,by omega⟩
 have l:=oF n hn;clear hd;go_wp2_with fail;refine(dC n hn _ g _ Z.2 (by omega)).mono ?_;intro e s h;obtain⟨j,u,w,z,y,ca,rfl,B,a,o,Z⟩:=h.at Z br;clear o;go_wp2_with fail;generalize f:aO s _=x;obtain⟨k,e⟩:=nb f;have F:=hdq (Yn (r:=b.heap.size) (g:=g) k (by have:=D1 br;have:=Z.1.size;omega) (by have:=D1 br;have:=c.out;have:=Z.1.size;omega));replace br:=e.blk (Z.br br (by have:=c.out;omega));replace Y:=Y.trans (Z.up e).1;replace Z:=(Z.up e).id;replace a:=a.later e;have Q:=F.out _ Z.off;clear f k e;refine(rj j _ _ a.lies').mono ?_;rintro e A ⟨rfl,e⟩;replace Z:=Z.up e;replace a:=a.later e;replace Q:=F.out _ Z.off;cases p:valid sigT j with
 |true=>
  have R:=cbn (Z.br br (by have:=c.out;omega));go_wp2_with fail;exact kb (by simp[aS,results69,go_sem,R]) (⟨p,by omega⟩) a Y Z c.out (aP _) (by omega) rfl
 |false=>
  go_wp2_with fail;refine(y15 _ 7 0).mono ?_;rintro e v ⟨rfl,e⟩;replace Z:=Z.up e;replace a:=a.later e;replace Q:=F.out _ Z.off;have R:=cbn (Z.br br (by have:=c.out;omega));go_wp2_with fail;exact kb (by simp[aS,results69,go_sem,R]) (⟨by decide,by decide⟩) (Z5 _ _ 7 0) Y Z c.out (aP _) (by omega) rfl
