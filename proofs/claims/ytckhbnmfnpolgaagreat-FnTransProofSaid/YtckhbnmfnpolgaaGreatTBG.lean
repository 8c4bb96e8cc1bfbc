/- Lemmas towards the law. -/
import Derived.Test.YtckhbnmfnpolgaaGreatTBF
open List renaming length_cons->bX
open Go renaming World->aN,Value->aU,Calls->aY,results->aS,wpAnyH_done->bO,maxLen->aW,bodyPost_ret->aQ
open Go.World renaming alloc->aO
open Nat renaming le_succ->aR,le_refl->aP
open Go.IntWalk renaming i64_in->eO
open Go.Proofs.Tryz
set_option linter.all false
set_option maxHeartbeats 8000000
set_option maxRecDepth 100000
namespace Go.Proofs.YtckhbnmfnpolgaaGreat
open Go.RowKit
open M (Hd HR Cv Ty j2 rc a7 O5 dep DG fvb)
def SG:M.Tm->Prop
 | .pi A B=> dep A<=4/\SG A/\SG B
 | .lam A B=> dep A<=4/\SG A/\SG B
 | .sg A B=> dep A<=4/\SG A/\SG B
 | .app f a=> SG f/\SG a
 | .succ a=> SG a
 | .elim p z s a=> valid sigT (enc (M.stepTy p))=true/\SG p/\SG z/\SG s/\SG a
 | .id T a b=> SG T/\SG a/\SG b
 | .refl a=> SG a
 | .move p e a=>((∃x,e= .refl x)\/(∃n,e= .var n)/\cnt (enc p)<=300)/\SG p/\SG e/\SG a
 | .pair T a b=>(∃X Y,T= .sg X Y/\valid sigT (enc (Y.inst a))=true)/\SG T/\SG a/\SG b
 | .fst a=> SG a
 | .snd a=> SG a
 |_=> True
theorem HR.at{a b:M.Tm}(h:HR a b)(k:M.hk a≠0):b=a:=by
 cases h with
 |refl=> rfl
 |step c=> exact absurd c.hk k
theorem kl{G:List M.Tm}{p e a:M.Tm}(hG:y6 G)(g:DG G 4)(hv:valid sigT (enc (.move p e a))=true)(h:(∃x,e= .refl x)\/(∃n,e= .var n)/\cnt (enc p)<=300): ∀E T l r,Ty G e E->HR E (.id T l r)->valid sigT (enc (.id T l r))=true->valid sigT (enc (.app p l))=true:=by
 intro E T l r b d hi;refine qv (Z0 hv (by simp)) (pv hv (by simp)) hi ?_;rcases h with⟨x,rfl⟩ |h
 · cases b with
   |refl b=>
    cases HR.at d (by simp[M.hk])
    have c:=(N4 hv).2;simp only[enc,cnt,O1] at c;omega
 · obtain⟨n,rfl⟩:=h.1
   have hE:dep E<=4:=by
    cases b with
    |var b=> exact g.lk b
   obtain⟨m,ev⟩:=d.ev (by simp[M.hk]);rcases j2.type b hG.wf trivial with rfl|⟨-,k,-,S,f,c⟩
   · cases ev.val (by simp[M.hk])
   · have i:=M.ev4t hE f c ev
     simp only[dep] at i;have:3*cnt (enc l)+1<=256:=Vw l 4 (by omega);have:=h.2;omega
theorem Ov: ∀(t:M.Tm) (G:List M.Tm),SG t->y6 G->DG G 4->G.length<=20->valid sigT (enc t)=true->Ag G t:=by
 intro t
 induction t with
 |var n=> intro G h hG c hl hv;exact k7 hG hl _ hv trivial trivial
 |sort n=> intro G h hG c hl hv;exact k7 hG hl _ hv trivial trivial
 |nat=> intro G h hG c hl hv;exact k7 hG hl _ hv trivial trivial
 |zero=> intro G h hG c hl hv;exact k7 hG hl _ hv trivial trivial
 |pi A B d g=> intro G h hG c hl hv;exact k7 hG hl _ hv ⟨d G h.2.1 hG c hl (Z0 hv (by simp)),fun b j=> g (A::G) h.2.2 (hG.cons b (Z0 hv (by simp))) (c.cons h.1) (by simp only[bX];omega) (Z0 hv (by simp))⟩ trivial
 |lam A B d g=> intro G h hG c hl hv;exact k7 hG hl _ hv ⟨d G h.2.1 hG c hl (Z0 hv (by simp)),fun b j=> g (A::G) h.2.2 (hG.cons b (Z0 hv (by simp))) (c.cons h.1) (by simp only[bX];omega) (Z0 hv (by simp))⟩ trivial
 |sg A B d g=> intro G h hG c hl hv;exact k7 hG hl _ hv ⟨d G h.2.1 hG c hl (Z0 hv (by simp)),fun b j=> g (A::G) h.2.2 (hG.cons b (Z0 hv (by simp))) (c.cons h.1) (by simp only[bX];omega) (Z0 hv (by simp))⟩ trivial
 |app f a d g=> intro G h hG c hl hv;exact k7 hG hl _ hv ⟨d G h.1 hG c hl (Z0 hv (by simp)),g G h.2 hG c hl (Z0 hv (by simp))⟩ trivial
 |succ a d=> intro G h hG c hl hv;exact k7 hG hl _ hv (d G h hG c hl (Z0 hv (by simp))) trivial
 |refl a d=> intro G h hG c hl hv;exact k7 hG hl _ hv (d G h hG c hl (Z0 hv (by simp))) trivial
 |fst a d=> intro G h hG c hl hv;exact k7 hG hl _ hv (d G h hG c hl (Z0 hv (by simp))) trivial
 |snd a d=> intro G h hG c hl hv;exact k7 hG hl _ hv (d G h hG c hl (Z0 hv (by simp))) trivial
 |id T a b d g i=> intro G h hG c hl hv;exact k7 hG hl _ hv ⟨d G h.1 hG c hl (Z0 hv (by simp)),g G h.2.1 hG c hl (Z0 hv (by simp)),i G h.2.2 hG c hl (Z0 hv (by simp))⟩ trivial
 |elim p z s a d g i m=>
  intro G h hG c hl hv;exact k7 hG hl _ hv ⟨d G h.2.1 hG c hl (Z0 hv (by simp)),g G h.2.2.1 hG c hl (Z0 hv (by simp)),i G h.2.2.2.1 hG c hl (Z0 hv (by simp)),m G h.2.2.2.2 hG c hl (Z0 hv (by simp))⟩ (.inl fun _ _=> h.1)
 |pair T a b d g i=>
  intro G h hG c hl hv;refine k7 hG hl _ hv ⟨d G h.2.1 hG c hl (Z0 hv (by simp)),g G h.2.2.1 hG c hl (Z0 hv (by simp)),i G h.2.2.2 hG c hl (Z0 hv (by simp))⟩ (.inl fun S X Y Z v l o r=> ?_);obtain⟨u,q,rfl,k⟩:=h.1;have:=HR.at l (by simp[M.hk]);cases this
  exact k
 |move p e a d g i=>
  intro G h hG c hl hv;exact k7 hG hl _ hv ⟨d G h.2.1 hG c hl (Z0 hv (by simp)),g G h.2.2.1 hG c hl (Z0 hv (by simp)),i G h.2.2.2 hG c hl (Z0 hv (by simp))⟩ (.inl (kl hG c hv h.1))
def KM(t:M.Tm):Prop:=SG t\/dep t<=4
theorem DG.mono4{G:List M.Tm}(h:DG G 3):DG G 4:=h.up (by omega)
theorem KM.ag{t:M.Tm}{G:List M.Tm}(h:KM t)(hG:y6 G)(a:DG G 3)(hl:G.length<=12)(v:valid sigT (enc t)=true):Ag G t:=by
 rcases h with h|h
 · exact Ov t G h hG (DG.mono4 a) (by omega) v
 · exact ZF t G hG a h (by omega) v
def cA(G:List M.Tm):M.Tm->Prop
 | .pi A B=> KM A/\(KM B/\dep A<=3\/SG B/\dep A<=4)
 | .lam A B=> KM A/\(KM B/\dep A<=3\/SG B/\dep A<=4)
 | .sg A B=> KM A/\(KM B/\dep A<=3\/SG B/\dep A<=4)
 | .app f a=> KM f/\KM a
 | .succ a=> KM a
 | .elim p z s a=>(valid sigT (enc (M.stepTy p))=true\/dep p<=4)/\KM p/\KM z/\KM s/\KM a
 | .id T a b=> KM T/\KM a/\KM b
 | .refl a=> KM a
 | .move p e a=>((∃x,e= .refl x)\/(∃n,e= .var n)/\cnt (enc p)<=300\/li G a)/\KM p/\KM e/\KM a
 | .pair T a b=>((∃X Y,T= .sg X Y/\valid sigT (enc (Y.inst a))=true)\/li G b)/\KM T/\KM a/\KM b
 | .fst a=> KM a
 | .snd a=> KM a
 |_=> True
theorem cA.under{G:List M.Tm}{A B:M.Tm}(h:KM B/\dep A<=3\/SG B/\dep A<=4)(hG:y6 (A::G))(a:DG G 3)(hl:G.length<=11)(v:valid sigT (enc B)=true):Ag (A::G) B:=by
 rcases h with⟨h,d⟩ |⟨h,d⟩
 · exact h.ag hG (a.cons d) (by simp only[bX];omega) v
 · exact Ov B (A::G) h hG ((DG.mono4 a).cons d) (by simp only[bX];omega) v
theorem jx{G:List M.Tm}(hG:y6 G)(d:DG G 3)(hl:G.length<=11): ∀t:M.Tm,cA G t->valid sigT (enc t)=true->Ag G t:=by
 have K: ∀{k n:Int} {g:List Tr} {x:M.Tm},valid sigT (.mk k n g)=true->enc x∈g->KM x->Ag G x:=fun hv hm h=> h.ag hG d (by omega) (Z0 hv hm)
 intro t h hv;cases t with
 |var n=> exact k7 hG (by omega) _ hv trivial trivial
 |sort n=> exact k7 hG (by omega) _ hv trivial trivial
 |nat=> exact k7 hG (by omega) _ hv trivial trivial
 |zero=> exact k7 hG (by omega) _ hv trivial trivial
 |pi A B=> exact k7 hG (by omega) _ hv ⟨K hv (by simp) h.1,fun b _=> cA.under h.2 (hG.cons b (Z0 hv (by simp))) d hl (Z0 hv (by simp))⟩ trivial
 |lam A B=> exact k7 hG (by omega) _ hv ⟨K hv (by simp) h.1,fun b _=> cA.under h.2 (hG.cons b (Z0 hv (by simp))) d hl (Z0 hv (by simp))⟩ trivial
 |sg A B=> exact k7 hG (by omega) _ hv ⟨K hv (by simp) h.1,fun b _=> cA.under h.2 (hG.cons b (Z0 hv (by simp))) d hl (Z0 hv (by simp))⟩ trivial
 |app f a=> exact k7 hG (by omega) _ hv ⟨K hv (by simp) h.1,K hv (by simp) h.2⟩ trivial
 |succ a=> exact k7 hG (by omega) _ hv (K hv (by simp) h) trivial
 |refl a=> exact k7 hG (by omega) _ hv (K hv (by simp) h) trivial
 |fst a=> exact k7 hG (by omega) _ hv (K hv (by simp) h) trivial
 |snd a=> exact k7 hG (by omega) _ hv (K hv (by simp) h) trivial
 |id T a b=> exact k7 hG (by omega) _ hv ⟨K hv (by simp) h.1,K hv (by simp) h.2.1,K hv (by simp) h.2.2⟩ trivial
 |elim p z s a=>
  refine k7 hG (by omega) _ hv ⟨K hv (by simp) h.2.1,K hv (by simp) h.2.2.1,K hv (by simp) h.2.2.2.1,K hv (by simp) h.2.2.2.2⟩ (.inl fun F hF=> ?_);rcases h.1 with c|c
  · exact c
  · have l:3*cnt (enc p)+1<=256:=Vw p 4 c
    exact GC hF.fv (Z0 hv (by simp)) (by omega) (by omega)
 |pair T a b=>
  refine k7 hG (by omega) _ hv ⟨K hv (by simp) h.2.1,K hv (by simp) h.2.2.1,K hv (by simp) h.2.2.2⟩ ?_;rcases h.1 with c|c
  · refine .inl fun S X Y Z o j q u=> ?_
    obtain⟨r,m,rfl,i⟩:=c;cases HR.at j (by simp[M.hk])
    exact i
  · exact .inr c
 |move p e a=>
  refine k7 hG (by omega) _ hv ⟨K hv (by simp) h.2.1,K hv (by simp) h.2.2.1,K hv (by simp) h.2.2.2⟩ ?_;rcases h.1 with c|c|c
  · exact .inl (kl hG (DG.mono4 d) hv (.inl c))
  · exact .inl (kl hG (DG.mono4 d) hv (.inr c))
  · exact .inr c
end Go.Proofs.YtckhbnmfnpolgaaGreat
namespace Go.Proofs.YtckhbnmfnpolgaaGreat
open Go.RowKit
attribute [local go_sem ↓] Go.wp_at_zero Go.wp_at_succ
theorem uH{f:Nat}(E:xa f){G:List Tr}{A:Option Addr}{ca:Nat}(d:aN)(N:Nat->Prop)(H:SJ d N A G ca)(k n:Int)(j:List Tr)(D:j.length=3)(v:aU)(hT:InT d N (.mk k n j) v)(ty:Nat->An)(M:ty 0=O0 f G (kd j 0))(O:ty 1=O0 f G (kd j 1))(Z:ty 2=O0 f G (kd j 2))(r:Tr×Int)(h:Nq ty (kd j 0)=some r):aY prog 167 #[.slice A G.length ca,v] d (Ni N d r):=by
 unfold Nq at h;rw[M,O,Z] at h;obtain⟨s,c,q,B,y⟩:=g8 h;clear h M O Z;obtain⟨At,ct,rfl,-,l9,hK⟩:=InT.mk_iff.1 hT;obtain⟨b,o,rfl,-,⟨O9,P3,P6,Q5,R6,T⟩,⟨eh,ax,dv,df,bm,U⟩,ou,pn,oy,pq,pd,L⟩:=j19 hK D;rw[D];clear hT hK D;go_enter func167,ntmps167;go_wp2_with fail;generalize x:aO (aO d _) _=w1;obtain⟨g,br,S⟩:=Se x.symm H;have F:=hdq (both S (both (T.up g (aR _)) (both (U.up g (aR _)) (L.up g (aR _)))));have X:=xr w1;have Q:=F.out _ X.off;clear S H x T U L;refine(MF E _ _ Q.1.1 _ _ Q.2.2.1.i 10 _ q.out).mono ?_;rintro e w2 ⟨u,rfl,hT,e⟩;replace X:=X.trans e;replace Q:=F.out _ X.off;simp only at hT⊢;obtain⟨ka,na,p8⟩:=s;obtain⟨A1,c1,rfl,-,-,hK⟩:=InT.mk_iff.1 hT;clear hT;obtain⟨p,t⟩ |rfl:=cz c
 · have R:=cbn (X.blk br)
   have R':=fun o=> cbn ((X.alloc o).blk br)
   go_wp2_with fail;exact Yi (by simp[aS,results167,go_sem,R,R']) (y.out p.out) p.out (((g.trans X).alloc _).set3 (aR _) _ _ _) rfl
 obtain⟨-,a,-⟩:=Qs q.out;have C:=B.out rfl;simp only[Tr.kids] at a C;have a:p8.length=3:=by have:S0 10=3:=rfl;omega
 clear q B y;obtain⟨c,H1,Y,P⟩:=Bs C;clear C;obtain⟨b2,o2,rfl,z,⟨qq,pw,px,qs,rq,J⟩,⟨f11,f12,f13,f14,f15,I⟩,f21,f22,f23,f24,f25,V⟩:=j19 hK a;rw[a];clear hK a;go_wp2_with fail;generalize x:aO w2 _=w3;obtain⟨W,e⟩:=nb x;replace F:=hdq (both (rb F.out (X.trans e)) (both (k8 W (X.ne br)) (both (J.fm z e) (both (I.fm z e) (V.fm z e)))));replace X:=X.trans e;replace br:=X.blk br;replace g:=g.trans X;replace X:=xr w3;replace Q:=F.out _ X.off;clear x W e;clear J I V z;refine rgn (d.heap.size+1) (by kernel_rfl) X ?_;replace X:=X.drew;refine B3 [0,1,2,3,4,5,6,7,8] 2 (by kernel_rfl) X.off (fun _ _ _ _ _ h=> h) ?_
 iterate 9 (refine tk rfl (by rfl) (by intro w X;have Q:=F.out _ X;go_simp;(try with_reducible rfl)) ?_;try simp only[W2])
 replace Q:=F.out _ X.off;refine H0 9 (by kernel_rfl) rfl rfl (fun K hK=> ?_)
 go_simp
 go_at_call 189
 refine(QB E _ _ Q.1.1.1 _ _ _ _ Q.1.2.1.i Q.2.2.1.l c H1.out).mono ?_;rintro e w4 ⟨rfl,e⟩;replace X:=X.trans e;replace Q:=F.out _ X.off;refine hK.out _ _ X.off (fun _=> ?_);refine B3 [10] 0 (by kernel_rfl) X.off (fun _ _ _ _ _ h=> h) ?_;refine tk rfl (by rfl) (by intro w X;go_simp;(try with_reducible rfl)) ?_
 try simp only[W2]
 refine bO (by kernel_rfl) ?_ _;obtain⟨p,t⟩ |rfl:=cz c
 · go_wp2_with fail
   refine rgn (d.heap.size+1) (by kernel_rfl) X ?_;replace X:=X.drew;refine B3 [0,1,2,3,4,5,6,7,10] 4 (by kernel_rfl) X.off (fun _ _ _ _ _ h=> h) ?_
   iterate 9 (refine tk rfl (by rfl) (by intro w X;have Q:=F.out _ X;go_simp;(try with_reducible rfl)) ?_;try simp only[W2])
   replace Q:=F.out _ X.off;refine H0 8 (by kernel_rfl) rfl rfl (fun K hK=> ?_)
   go_simp
   obtain⟨e,m⟩:=n7 25 Q.1.2.1.i Q.2.2.2.2.i Q.1.1.1.hN;replace X:=X.trans e;replace Q:=F.out _ X.off;refine hK.out _ _ X.off (fun _=> ?_);refine H0 9 (by kernel_rfl) rfl rfl (fun K hK=> ?_)
   go_simp
   go_at_call 60
   refine(db 5 Q.1.1.1.hN m rfl).mono ?_;rintro e w5 ⟨A9,c9,rfl,hx,e⟩;replace X:=X.trans e;replace Q:=F.out _ X.off;refine hK.out _ _ X.off (fun _=> ?_);have R:=cbn (X.blk br);refine H0 11 (by kernel_rfl) rfl rfl (fun K hK=> ?_)
   go_simp
   refine hK.out _ _ (X.off.set3 _ _ _) (fun _=> ?_);refine B3 [12] 0 (by kernel_rfl) (X.off.set3 _ _ _) (fun _ _ _ _ _ h=> h) ?_;refine tk rfl (by rfl) (by intro w X;go_simp;(try with_reducible rfl)) ?_
   try simp only[W2]
   refine bO (by kernel_rfl) ?_ _;go_wp2_with fail;exact pb (by simp[aS,results167,go_sem,R]) (hx) (um (P.out p.out) p.out) (g.trans X) (aR _) rfl
 obtain⟨c,q,B,y⟩:=yd (Y.out rfl);clear H1 Y P;go_wp2_with fail;refine rgn (d.heap.size+1) (by kernel_rfl) X ?_;replace X:=X.drew;refine B3 [0,1,2,3,4,5,6,7,8,9,10,11,12] 4 (by kernel_rfl) X.off (fun _ _ _ _ _ h=> h) ?_
 iterate 13 (refine tk rfl (by rfl) (by intro w X;have Q:=F.out _ X;go_simp;(try with_reducible rfl)) ?_;try simp only[W2])
 replace Q:=F.out _ X.off;refine H0 13 (by kernel_rfl) rfl rfl (fun K hK=> ?_)
 go_simp
 obtain⟨e,m⟩:=n7 25 Q.1.2.1.i Q.2.2.2.1.i Q.1.1.1.hN;replace X:=X.trans e;replace Q:=F.out _ X.off;refine hK.out _ _ X.off (fun _=> ?_);refine H0 14 (by kernel_rfl) rfl rfl (fun K hK=> ?_)
 go_simp
 go_at_call 60
 refine(db 5 Q.1.1.1.hN m rfl).mono ?_;rintro e w5 ⟨A14,c14,rfl,hx,e⟩;replace X:=X.trans e;replace Q:=F.out _ X.off;refine hK.out _ _ X.off (fun _=> ?_);refine H0 15 (by kernel_rfl) rfl rfl (fun K hK=> ?_)
 go_simp
 go_at_call 116
 refine(Sm E _ _ Q.1.1.1 (kd j 2) _ _ _ Q.1.2.2.2.i hx.lies' c q.out).mono ?_;rintro e w6 ⟨rfl,e⟩;replace X:=X.trans e;replace Q:=F.out _ X.off;refine hK.out _ _ X.off (fun _=> ?_);refine B3 [16] 0 (by kernel_rfl) X.off (fun _ _ _ _ _ h=> h) ?_;refine tk rfl (by rfl) (by intro w X;go_simp;(try with_reducible rfl)) ?_
 try simp only[W2]
 refine bO (by kernel_rfl) ?_ _;clear hx m;go_wp2_with fail;refine rgn (d.heap.size+1) (by kernel_rfl) X ?_;replace X:=X.drew;refine B3 [0,1,2,3,4,5,6,7,10] 4 (by kernel_rfl) X.off (fun _ _ _ _ _ h=> h) ?_
 iterate 9 (refine tk rfl (by rfl) (by intro w X;have Q:=F.out _ X;go_simp;(try with_reducible rfl)) ?_;try simp only[W2])
 replace Q:=F.out _ X.off;refine H0 8 (by kernel_rfl) rfl rfl (fun K hK=> ?_)
 go_simp
 obtain⟨e,m⟩:=n7 25 Q.1.2.1.i Q.2.2.2.2.i Q.1.1.1.hN;replace X:=X.trans e;replace Q:=F.out _ X.off;refine hK.out _ _ X.off (fun _=> ?_);refine H0 9 (by kernel_rfl) rfl rfl (fun K hK=> ?_)
 go_simp
 go_at_call 60
 refine(db 5 Q.1.1.1.hN m rfl).mono ?_;rintro e w7 ⟨A9,c9,rfl,hx,e⟩;replace X:=X.trans e;replace Q:=F.out _ X.off;refine hK.out _ _ X.off (fun _=> ?_);have R:=cbn (X.blk br);refine H0 11 (by kernel_rfl) rfl rfl (fun K hK=> ?_)
 go_simp
 refine hK.out _ _ (X.off.set3 _ _ _) (fun _=> ?_);refine B3 [12] 0 (by kernel_rfl) (X.off.set3 _ _ _) (fun _ _ _ _ _ h=> h) ?_;refine tk rfl (by rfl) (by intro w X;go_simp;(try with_reducible rfl)) ?_
 try simp only[W2]
 refine bO (by kernel_rfl) ?_ _;go_wp2_with fail;exact pb (by simp[aS,results167,go_sem,R]) (hx) (Nl B.out y.out) (g.trans X) (aR _) rfl
theorem dJ{f:Nat}(m:xa f){G:List Tr}{A:Option Addr}{ca:Nat}(a:aN)(N:Nat->Prop)(c:SJ a N A G ca)(n:Int)(i:List Tr)(j:0<=n)(l:n<=3)(v:aU)(hT:InT a N (.mk 2 n i) v)(ty:Nat->An)(r:Tr×Int)(h:some (if 3<=n then(D2,1) else(m7 (n+1),0))=some r):aY prog 169 #[.slice A G.length ca,v] a (n9 N a r):=by
 obtain⟨At,ct,rfl,-,k,hK⟩:=InT.mk_iff.1 hT;clear hT;by_cases hn:3<=n
 · obtain rfl:r=(D2,1):=by rw[if_pos hn] at h;simpa using h.symm
   have t1:decide ((3:Int)<=n)=true:=decide_eq_true hn;clear h hn;go_enter func169,ntmps169;go_wp2_with fail;exact v9 (by simp[aS,results169,go_sem,pL]) rfl (((xr _).alloc _).alloc _) rfl
 obtain rfl:r=(m7 (n+1),0):=by rw[if_neg hn] at h;simpa using h.symm
 have t1:decide ((3:Int)<=n)=false:=decide_eq_false hn;have b:IntKind.i64.wrap (n+1)=n+1:=eO _ ⟨by omega,by omega⟩;clear h hn;go_enter func169,ntmps169;go_wp2_with fail;generalize b:aO (aO a _) _=d;obtain⟨g,br,S⟩:=Se b.symm c;have F:=hdq (S);have X:=xr d;have Q:=F.out _ X.off;clear S c b;refine(y15 _ 2 (n+1)).mono ?_;rintro e o ⟨rfl,e⟩;replace X:=X.trans e;replace Q:=F.out _ X.off;have R:=cbn (X.blk br);go_wp2_with fail;exact L7 (by simp[aS,results169,go_sem,R]) (Z5 _ _ 2 (n+1)) (rfl) (g.trans X) (aR _) rfl
theorem zJ{f:Nat}(k:xa f){G:List Tr}{A:Option Addr}{ca:Nat}(a:aN)(N:Nat->Prop)(c:SJ a N A G ca)(n:Int)(i:List Tr)(v:aU)(hT:InT a N (.mk 6 n i) v)(ty:Nat->An)(r:Tr×Int)(h:some (m7 0,0)=some r):aY prog 169 #[.slice A G.length ca,v] a (n9 N a r):=by
 obtain⟨At,ct,rfl,-,j,hK⟩:=InT.mk_iff.1 hT;clear hT;obtain rfl:r=(m7 0,0):=by simpa using h.symm
 clear h;go_enter func169,ntmps169;go_wp2_with fail;generalize b:aO (aO a _) _=d;obtain⟨g,br,S⟩:=Se b.symm c;have F:=hdq (S);have X:=xr d;have Q:=F.out _ X.off;clear S c b;refine(y15 _ 2 0).mono ?_;rintro e l ⟨rfl,e⟩;replace X:=X.trans e;replace Q:=F.out _ X.off;have R:=cbn (X.blk br);go_wp2_with fail;exact L7 (by simp[aS,results169,go_sem,R]) (Z5 _ _ 2 0) (rfl) (g.trans X) (aR _) rfl
theorem jI{f:Nat}(k:xa f){G:List Tr}{A:Option Addr}{ca:Nat}(a:aN)(N:Nat->Prop)(c:SJ a N A G ca)(n:Int)(i:List Tr)(v:aU)(hT:InT a N (.mk 7 n i) v)(ty:Nat->An)(r:Tr×Int)(h:some (L6,0)=some r):aY prog 169 #[.slice A G.length ca,v] a (n9 N a r):=by
 obtain⟨At,ct,rfl,-,j,hK⟩:=InT.mk_iff.1 hT;clear hT;obtain rfl:r=(L6,0):=by simpa using h.symm
 clear h;go_enter func169,ntmps169;go_wp2_with fail;generalize b:aO (aO a _) _=d;obtain⟨g,br,S⟩:=Se b.symm c;have F:=hdq (S);have X:=xr d;have Q:=F.out _ X.off;clear S c b;refine(y15 _ 6 0).mono ?_;rintro e l ⟨rfl,e⟩;replace X:=X.trans e;replace Q:=F.out _ X.off;have R:=cbn (X.blk br);go_wp2_with fail;exact L7 (by simp[aS,results169,go_sem,R]) (Z5 _ _ 6 0) (rfl) (g.trans X) (aR _) rfl
theorem wH{f:Nat}(HI:xa f){G:List Tr}{A:Option Addr}{ca:Nat}(b:aN)(N:Nat->Prop)(c:SJ b N A G ca)(n:Int)(J:List Tr)(p:0<=n)(t:n<=20)(v:aU)(hT:InT b N (.mk 1 n J) v)(ty:Nat->An)(r:Tr×Int)(h:some (ju G n)=some r):aY prog 169 #[.slice A G.length ca,v] b (n9 N b r):=by
 obtain⟨At,ct,rfl,-,Y,hK⟩:=InT.mk_iff.1 hT;clear hT;by_cases a:(G.length:Int)<=n
 · obtain rfl:r=(D2,1):=by unfold ju at h;rw[if_pos a] at h;simpa using h.symm
   have t1:decide ((G.length:Int)<=n)=true:=decide_eq_true a;clear h a p t;go_enter func169,ntmps169;go_wp2_with fail;exact v9 (by simp[aS,results169,go_sem,pL]) rfl (((xr _).alloc _).alloc _) rfl
 have t1:decide ((G.length:Int)<=n)=false:=decide_eq_false a;have m:=c.h21;obtain⟨i,hi⟩: ∃i:Nat,(G.length:Int) - 1 - n=(i:Int):=⟨G.length - 1 - n.toNat,by omega⟩;have z:G.length - 1 - n.toNat=i:=by omega
 have q:i < G.length:=by omega
 have E:(i:Int) <(G.length:Int):=by omega
 have D:IntKind.i64.wrap ((G.length:Int) - 1)=(G.length:Int) - 1:=eO _ ⟨by omega,by omega⟩;have j:IntKind.i64.wrap ((G.length:Int) - 1 - n)=(i:Int):=by rw[hi];exact eO _ ⟨by omega,by omega⟩
 have d:IntKind.i64.wrap (n+1)=n+1:=eO _ ⟨by omega,by omega⟩;have s:=hdq (fun W M I V (B:Lies W (kd G i) V)=> so (kd G i) (n+1) (c.hv _ (Pk q)) (by omega) (by omega) W M I V B);obtain⟨bg,og,rfl,H,y⟩:=ae c.hG (by omega);obtain⟨x1,Z,T,U,P,g⟩:=y i q;rw[Nat.mul_comm] at g;obtain⟨L,k⟩: ∃X,shfT (n+1) (kd G i) 0=X:=⟨_,rfl⟩;obtain rfl:r=(L,0):=by unfold ju at h;rw[if_neg a,z,k] at h;simpa using h.symm
 rw[k] at s;clear h k y z hi p t a m H;go_enter func169,ntmps169;go_wp2_with fail;generalize o:aO (aO b _) _=C;obtain⟨x,br,S⟩:=Se o.symm c;have F:=hdq (both S (g.up x (aR _)));have X:=xr C;have Q:=F.out _ X.off;clear S c o g;refine rgn (b.heap.size+1) (by kernel_rfl) X ?_;replace X:=X.drew;refine B3 [0,1,2,3,4,5,6,7,8,9,10,11] 3 (by kernel_rfl) X.off (fun _ _ _ _ _ h=> h) ?_
 iterate 12 (refine tk rfl (by rfl) (by intro w X;have Q:=F.out _ X;go_simp;(try with_reducible rfl)) ?_;try simp only[W2])
 replace Q:=F.out _ X.off;refine H0 12 (by kernel_rfl) rfl rfl (fun K hK=> ?_)
 go_simp
 go_at_call 104
 refine(s.out _ _ Q.1.1.hN _ Q.2.l).mono ?_;rintro e O ⟨u,rfl,hx,e⟩;replace X:=X.trans e;replace Q:=F.out _ X.off;refine hK.out _ _ X.off (fun _=> ?_);obtain⟨_,_,_,_,_,rfl⟩:=hx.three;clear D j d t1;have R:=cbn (X.blk br);refine H0 13 (by kernel_rfl) rfl rfl (fun K hK=> ?_)
 go_simp
 refine hK.out _ _ (X.off.set3 _ _ _) (fun _=> ?_);refine B3 [14] 0 (by kernel_rfl) (X.off.set3 _ _ _) (fun _ _ _ _ _ h=> h) ?_;refine tk rfl (by rfl) (by intro w X;go_simp;(try with_reducible rfl)) ?_
 try simp only[W2]
 refine bO (by kernel_rfl) ?_ _;go_wp2_with fail;exact L7 (by simp[aS,results169,go_sem,R]) (hx) (rfl) (x.trans X) (aR _) rfl
theorem EK{f:Nat}(O:xa f){G:List Tr}{A:Option Addr}{ca:Nat}(g:aN)(N:Nat->Prop)(t:SJ g N A G ca)(n:Int)(m:List Tr)(q:m.length=1)(v:aU)(hT:InT g N (.mk 8 n m) v)(ty:Nat->An)(y:ty 0=O0 f G (kd m 0))(r:Tr×Int)(h:E4 (ty 0) L6 (some (L6,0))=some r):aY prog 169 #[.slice A G.length ca,v] g (Ni N g r):=by
 rw[y] at h;obtain⟨c,H,L,D⟩:=yd h;clear h y;obtain⟨At,ct,rfl,-,V,hK⟩:=InT.mk_iff.1 hT;obtain⟨b,o,rfl,-,M,J,U,B,T,u⟩:=q16 hK q;rw[q];clear hT hK q;go_enter func169,ntmps169;go_wp2_with fail;generalize s:aO (aO g _) _=E;obtain⟨x,br,S⟩:=Se s.symm t;have F:=hdq (both S (u.up x (aR _)));have X:=xr E;have Q:=F.out _ X.off;clear S t s u;refine rgn (g.heap.size+1) (by kernel_rfl) X ?_;replace X:=X.drew;refine B3 [1,2,3,4,5] 5 (by kernel_rfl) X.off (fun _ _ _ _ _ h=> h) ?_
 iterate 5 (refine tk rfl (by rfl) (by intro w X;have Q:=F.out _ X;go_simp;(try with_reducible rfl)) ?_;try simp only[W2])
 replace Q:=F.out _ X.off;refine Ci 8 93 #[true,true,true,true,true,true,true,true,false,false] 2 [Sp.val (m0 6 0 none 0 0),.any,.any,.any,.any,.any,Sp.val (m0 6 0 none 0 0),Sp.val (j0 c)] [0,6,7] (fun w h=>(X.trans h).off) (by kernel_rfl) rfl ?st1 ?fi1
 case st1=>
  repeat' first|exact trivial|refine And.intro ⟨_,rfl, ?_⟩ ?_
  all_goals(intro a w z hE d C;refine Ord.step_of rfl rfl ?_;intro K hK)
  · (go_simp;go_at_call 62;refine(y15 w 6 0).mono ?_;rintro e p ⟨rfl,l⟩;exact hK _ _ ⟨_,z,rfl,E9 hE l,rfl⟩)
  · (go_simp;go_at_call 62;refine(y15 w 6 0).mono ?_;rintro e p ⟨rfl,l⟩;exact hK _ _ ⟨_,z,rfl,E9 hE l,rfl⟩)
  · (have I:=v4 (show a.eval (.tmp 50)= .slice A G.length ca from d 50 (by kernel_rfl));have P:=v4 (show a.eval (.tmp 54)= m0 M J U B T from d 54 (by kernel_rfl));have W:=ck (C 6 55 (by kernel_rfl)) rfl;go_simp;go_at_call 116;refine(Sm O _ _ (SJ.oldG' Q.1.1 hE) (kd m 0) L6 _ _ (Q.2.i.oldG' hE) (Z5 _ (fun _=> True) 6 0).lies' c H.out).mono ?_;rintro e p ⟨rfl,l⟩;exact hK _ _ ⟨_,z,rfl,E9 hE l,rfl⟩)
 case fi1=>
  intro v p z hE hG;have j:v 0= m0 6 0 none 0 0:=hG 0 (by decide) (by kernel_rfl);have k:v 7= j0 c:=hG 7 (by decide) (by kernel_rfl);simp only[List.foldl,Ord.dstOf,List.getElem?_toArray,List.getElem?_cons_zero,List.getElem?_cons_succ,Option.bind_some,Act.put,List.setIfInBounds_toArray,List.set_cons_zero,List.set_cons_succ];rw[j,k];replace X:=X.trans hE.1;replace Q:=F.out _ X.off;clear hG hE j k;have R:=cbn (X.blk br);refine H0 8 (by kernel_rfl) rfl rfl (fun K hK=> ?_)
  go_simp
  refine hK.out _ _ (X.off.set3 _ _ _) (fun _=> ?_);refine B3 [9] 0 (by kernel_rfl) (X.off.set3 _ _ _) (fun _ _ _ _ _ h=> h) ?_;refine tk rfl (by rfl) (by intro w X;go_simp;(try with_reducible rfl)) ?_
  try simp only[W2]
  refine bO (by kernel_rfl) ?_ _;go_wp2_with fail;exact pb (by simp[aS,results169,go_sem,R]) (Z5 _ _ 6 0) (Nl L.out D.out) (x.trans X) (aR _) rfl
theorem DK{f:Nat}(I:xa f){G:List Tr}{A:Option Addr}{ca:Nat}(d:aN)(N:Nat->Prop)(z:SJ d N A G ca)(n:Int)(l:List Tr)(q:l.length=1)(v:aU)(hT:InT d N (.mk 11 n l) v)(ty:Nat->An)(E:ty 0=O0 f G (kd l 0))(r:Tr×Int)(h:ur (O0 f G) ty (kd l 0)=some r):aY prog 169 #[.slice A G.length ca,v] d (Ni N d r):=by
 unfold ur at h;rw[E] at h;obtain⟨s,c,B,D,y⟩:=g8 h;clear h E;obtain⟨At,ct,rfl,-,l9,hK⟩:=InT.mk_iff.1 hT;obtain⟨b,o,rfl,-,O9,Z,Y,W,R6,C⟩:=q16 hK q;rw[q];clear hT hK q;go_enter func169,ntmps169;go_wp2_with fail;generalize a:aO (aO d _) _=M;obtain⟨g,br,S⟩:=Se a.symm z;have F:=hdq (both S (C.up g (aR _)));have X:=xr M;have Q:=F.out _ X.off;clear S z a C;refine(I G (kd l 0) (s,c) B.out _ _ A ca _ Q.1.1 Q.2.i).mono ?_;rintro e J ⟨u,rfl,hT,e⟩;replace X:=X.trans e;replace Q:=F.out _ X.off;obtain⟨_,_,_,_,_,rfl⟩:=hT.three;simp only;obtain⟨p,t⟩ |rfl:=cz c
 · go_wp2_with fail
   generalize a:aO J _=x;obtain⟨m,e⟩:=nb a;replace F:=hdq (both (rb F.out (X.trans e)) (both (k8 m (X.ne br)) (hT.up e)));replace X:=X.trans e;replace br:=X.blk br;replace g:=g.trans X;replace X:=xr x;replace Q:=F.out _ X.off;clear a m e;clear hT;refine rgn (d.heap.size+1) (by kernel_rfl) X ?_;replace X:=X.drew;refine B3 [0,1,2,3,4,5,6,7,8,11] 4 (by kernel_rfl) X.off (fun _ _ _ _ _ h=> h) ?_
   iterate 10 (refine tk rfl (by rfl) (by intro w X;have Q:=F.out _ X;go_simp;(try with_reducible rfl)) ?_;try simp only[W2])
   replace Q:=F.out _ X.off;refine H0 9 (by kernel_rfl) rfl rfl (fun K hK=> ?_)
   go_simp
   obtain⟨e,k⟩:=Zc 25 Q.2.2 Q.1.2.i Q.1.2.i Q.1.1.1.hN;replace X:=X.trans e;replace Q:=F.out _ X.off;refine hK.out _ _ X.off (fun _=> ?_);refine H0 10 (by kernel_rfl) rfl rfl (fun K hK=> ?_)
   go_simp
   go_at_call 60
   refine(db 10 Q.1.1.1.hN k rfl).mono ?_;rintro e O ⟨H,j,rfl,hx,e⟩;replace X:=X.trans e;replace Q:=F.out _ X.off;refine hK.out _ _ X.off (fun _=> ?_);have R:=cbn (X.blk br);refine H0 12 (by kernel_rfl) rfl rfl (fun K hK=> ?_)
   go_simp
   refine hK.out _ _ (X.off.set3 _ _ _) (fun _=> ?_);refine B3 [13] 0 (by kernel_rfl) (X.off.set3 _ _ _) (fun _ _ _ _ _ h=> h) ?_;refine tk rfl (by rfl) (by intro w X;go_simp;(try with_reducible rfl)) ?_
   try simp only[W2]
   refine bO (by kernel_rfl) ?_ _;go_wp2_with fail;exact pb (by simp[aS,results169,go_sem,R]) (hx) (um (y.out p.out) p.out) (g.trans X) (aR _) rfl
 obtain⟨V,c,U,P,L⟩:=g8 (D.out rfl);clear B D y;go_wp2_with fail;generalize a:aO J _=x;obtain⟨m,e⟩:=nb a;replace F:=hdq (both (rb F.out (X.trans e)) (both (k8 m (X.ne br)) (hT.up e)));replace X:=X.trans e;replace br:=X.blk br;replace g:=g.trans X;replace X:=xr x;replace Q:=F.out _ X.off;clear a m e;clear hT;refine(Ow I _ _ Q.1.1.1 _ _ Q.2.2 _ U.out).mono ?_;rintro e O ⟨rfl,e⟩;replace X:=X.trans e;replace Q:=F.out _ X.off;simp only;obtain⟨p,t⟩ |rfl:=cz c
 · go_wp2_with fail
   refine rgn (d.heap.size+1) (by kernel_rfl) X ?_;replace X:=X.drew;refine B3 [0,1,2,3,4,5,6,7,8,11] 4 (by kernel_rfl) X.off (fun _ _ _ _ _ h=> h) ?_
   iterate 10 (refine tk rfl (by rfl) (by intro w X;have Q:=F.out _ X;go_simp;(try with_reducible rfl)) ?_;try simp only[W2])
   replace Q:=F.out _ X.off;refine H0 9 (by kernel_rfl) rfl rfl (fun K hK=> ?_)
   go_simp
   obtain⟨e,k⟩:=Zc 25 Q.2.2 Q.1.2.i Q.1.2.i Q.1.1.1.hN;replace X:=X.trans e;replace Q:=F.out _ X.off;refine hK.out _ _ X.off (fun _=> ?_);refine H0 10 (by kernel_rfl) rfl rfl (fun K hK=> ?_)
   go_simp
   go_at_call 60
   refine(db 10 Q.1.1.1.hN k rfl).mono ?_;rintro e T ⟨H,j,rfl,hx,e⟩;replace X:=X.trans e;replace Q:=F.out _ X.off;refine hK.out _ _ X.off (fun _=> ?_);have R:=cbn (X.blk br);refine H0 12 (by kernel_rfl) rfl rfl (fun K hK=> ?_)
   go_simp
   refine hK.out _ _ (X.off.set3 _ _ _) (fun _=> ?_);refine B3 [13] 0 (by kernel_rfl) (X.off.set3 _ _ _) (fun _ _ _ _ _ h=> h) ?_;refine tk rfl (by rfl) (by intro w X;go_simp;(try with_reducible rfl)) ?_
   try simp only[W2]
   refine bO (by kernel_rfl) ?_ _;go_wp2_with fail;exact pb (by simp[aS,results169,go_sem,R]) (hx) (um (L.out p.out) p.out) (g.trans X) (aR _) rfl
 go_wp2_with fail;refine rgn (d.heap.size+1) (by kernel_rfl) X ?_;replace X:=X.drew;refine B3 [0,1,2,3,4,5,6,7,8,11] 4 (by kernel_rfl) X.off (fun _ _ _ _ _ h=> h) ?_
 iterate 10 (refine tk rfl (by rfl) (by intro w X;have Q:=F.out _ X;go_simp;(try with_reducible rfl)) ?_;try simp only[W2])
 replace Q:=F.out _ X.off;refine H0 9 (by kernel_rfl) rfl rfl (fun K hK=> ?_)
 go_simp
 obtain⟨e,k⟩:=Zc 25 Q.2.2 Q.1.2.i Q.1.2.i Q.1.1.1.hN;replace X:=X.trans e;replace Q:=F.out _ X.off;refine hK.out _ _ X.off (fun _=> ?_);refine H0 10 (by kernel_rfl) rfl rfl (fun K hK=> ?_)
 go_simp
 go_at_call 60
 refine(db 10 Q.1.1.1.hN k rfl).mono ?_;rintro e T ⟨H,j,rfl,hx,e⟩;replace X:=X.trans e;replace Q:=F.out _ X.off;refine hK.out _ _ X.off (fun _=> ?_);have R:=cbn (X.blk br);refine H0 12 (by kernel_rfl) rfl rfl (fun K hK=> ?_)
 go_simp
 refine hK.out _ _ (X.off.set3 _ _ _) (fun _=> ?_);refine B3 [13] 0 (by kernel_rfl) (X.off.set3 _ _ _) (fun _ _ _ _ _ h=> h) ?_;refine tk rfl (by rfl) (by intro w X;go_simp;(try with_reducible rfl)) ?_
 try simp only[W2]
 refine bO (by kernel_rfl) ?_ _;go_wp2_with fail;exact pb (by simp[aS,results169,go_sem,R]) (hx) (jt (P.out (by trivial))) (g.trans X) (aR _) rfl
theorem oL{f:Nat}(t:xa f){G:List Tr}{A:Option Addr}{ca:Nat}(c:aN)(N:Nat->Prop)(g:SJ c N A G ca)(k n:Int)(a:List Tr)(hk:k≠1/\k≠2/\k≠6/\k≠7/\k≠8/\k≠11)(l:a.length=1)(b:valid sigT (.mk 15 0 [kd a 0])=true)(v:aU)(hT:InT c N (.mk k n a) v)(ty:Nat->An)(j:ty 0=O0 f G (kd a 0))(r:Tr×Int)(h:Zk ty k (kd a 0)=some r):aY prog 169 #[.slice A G.length ca,v] c (n9 N c r):=by
 have H:=hdq h;clear h;have p:=hdq b;clear b;have w:=hdq j;clear j;have q:=hdq l;clear l;have o:=hdq hT;obtain⟨At,ct,rfl,-⟩:=InT.mk_iff.1 hT;clear hT;have t1:(k==1)=false:=by simp[hk]
 have t2:(k==2)=false:=by simp[hk]
 have x:(k==6)=false:=by simp[hk]
 have z:(k==7)=false:=by simp[hk]
 have y:(k==8)=false:=by simp[hk]
 have s:(k==11)=false:=by simp[hk]
 clear hk;go_enter func169,ntmps169;go_wp2_with fail;generalize d:aO (aO c _) _=m;obtain⟨i,br,S⟩:=Se d.symm g;have F:=hdq (S);have X:=xr m;have Q:=F.out _ X.off;clear S g d;refine(AK t _ _ Q.1 k n a q.out p.out _ (o.out.keep (i.trans X) (aR _)) ty w.out r H.out).mono ?_;rintro e B ⟨u,rfl,hT,e⟩;replace X:=X.trans e;replace Q:=F.out _ X.off;obtain⟨_,_,_,_,_,rfl⟩:=hT.three;have R:=cbn (X.blk br);go_wp2_with fail;exact L7 (by simp[aS,results169,go_sem,R]) (hT) (rfl) (i.trans X) (aR _) rfl
theorem lK{f:Nat}{G:List Tr}{k n:Int}{a:List Tr}(hv:valid sigT (.mk k n a)=true){i:Nat}{s:Tr}(hi:i < a.length)(h:Ma (P0 f) G k a i=some (s,0)):valid sigT s=true:=by
 have hk:valid sigT (kd a i)=true:=qd (t:= .mk k n a) hv hi;unfold Ma at h
 split at h
 · exact LI hk h
 · split at h
   · simp at h
   · exact LI hk h
def RK(f:aN)(N:Nat->Prop)(G:List Tr)(k:Int)(g:List Tr)(i:Nat)(e:Ending)(d:aN):Prop:=
 ∃b a H c,e= .returned (.tuple #[.slice b (H:List Tr).length a,.int .i64 c])/\Ext f d/\((c=2/\H= []/\T4 k i≠0/\20<=G.length)\/(c=0/\H.length<=a/\a<=aW/\InK d N b H/\((T4 k i=0/\H=G)\/(T4 k i≠0/\G.length < 20/\H=G++ [kd g 0]))))
theorem nG(G:List Tr)(k n:Int)(a:List Tr)(d:aN)(N:Nat->Prop)(hN: ∀b,d.heap.size<=b->N b)(A At:Option Addr)(ca ct:Nat)(hG:InK d N A G)(hK:InK d N At a)(F:a.length<=ct)(V:ct<=aW)(H:G.length<=ca)(v:ca<=aW)(i:Nat)(hi:i < a.length):
 aY prog 106 #[.slice A G.length ca,m0 k n At a.length ct,j0 i] d (RK d N G k a i):=by
 have c:=(xr d).alloc (D0 k n At a.length ct);have E:=heap_alloc_new d (D0 k n At a.length ct);obtain⟨g,f⟩: ∃x,x=d.alloc (D0 k n At a.length ct):=⟨_,rfl⟩;rw[<-f] at c E;obtain⟨b,o,rfl,C⟩:=InK.kid hK (by omega);obtain⟨T,R,U,k4,O,s,t,r,hT⟩:=C 0 (by omega);simp only[Nat.mul_zero,Nat.add_zero] at s t r;have B:=hdq hT;have y:=hdq hG;have I:=hdq hN;have j:=hdq (fun W=> Kx k i W);unfold RK;have L:(0:Int) <(a.length:Int):=by omega
 have Z:0 < a.length:=by omega
 clear C hT hG hK hN;have M:=c.cell s;have uf:=c.cell t;have P:=c.cell r;clear s t r;obtain⟨S,Y,X,-,-,-⟩:=own3 E;obtain⟨u,z⟩: ∃u,u=T4 k i:=⟨_,rfl⟩;rw[<-z] at j⊢;clear z;by_cases h:u=0
 · have t1:(u==0)=true:=by simp[h]
   go_enter func106,ntmps106;go_wp2_with fail;rw[<-f];clear f;refine(j.out g).mono ?_;rintro e l ⟨rfl,rfl⟩;go_wp2_with fail;go_ret2;exact⟨A,ca,G,0,rfl,c,.inr ⟨rfl,H,v,y.out.later c,.inl ⟨h,rfl⟩⟩⟩
 · have t1:(u==0)=false:=by simp[h]
   by_cases D:20<=G.length
   · go_enter func106,ntmps106
     go_wp2_with fail;rw[<-f];clear f;refine(j.out g).mono ?_;rintro e l ⟨rfl,rfl⟩;go_wp2_with fail;refine(RH G (kd a 0) g N A ca _ (B.out.later c) D).mono ?_;rintro e l ⟨rfl,p⟩;go_wp2_with fail;go_ret2;exact⟨none,0, [],2,rfl,c.trans p,.inl ⟨rfl,rfl,h,D⟩⟩
   · go_enter func106,ntmps106
     go_wp2_with fail;rw[<-f];clear f;refine(j.out g).mono ?_;rintro e l ⟨rfl,rfl⟩;go_wp2_with fail;refine(BH G (kd a 0) g N (fun b Q=> I.out b (by have:=c.size;omega)) A ca _ (y.out.later c) (B.out.later c) (by omega)).mono ?_;rintro e l ⟨J,K,rfl,m,q,w,p⟩;go_wp2_with fail;go_ret2;exact⟨J,K,G++ [kd a 0],0,by simp,c.trans p,.inr ⟨rfl,by simpa using m,q,w,.inr ⟨h,by omega,rfl⟩⟩⟩
def Sl(f:Nat):Prop:= ∀(a:aN) (N:Nat->Prop) (A:Option Addr) (ca:Nat) (G:List Tr) (t:Tr) (v:aU) (r:Tr×Int),(∀b,a.heap.size<=b->N b)->G.length<=ca->ca<=aW->InK a N A G->(∀x∈G,valid sigT x=true)->G.length<=20->InT a N t v->valid sigT t=true->P0 f G t=some r->
 aY prog 64 #[.slice A G.length ca,v] a (n9 N a r)
theorem bH(f:Nat)(IH:Sl f)(Z:aN)(S t:Nat)(A At:Option Addr)(ca ct:Nat)(G:List Tr)(k n:Int)(a:List Tr)(bi:Z.heap[S]? =some (.cells #[.slice A G.length ca] 23 (0,0)))(ui:Z.heap[t]? =some (D0 k n At a.length ct))(U:a.length<=ct)(l9:ct<=aW)(F8:G.length<=ca)(P:ca<=aW)(kt: ∀x∈G,valid sigT x=true)(hL:G.length<=20)(pg:valid sigT (.mk k n a)=true):UK Z S t A G At a (Ma (P0 f) G k a):=by
 intro p N hx hN hG hK i hi r hr;have em: ∀x∈a,valid sigT x=true:=fun x hm=> wA pg hm
 have Eg:=hdq em;have zr:=hdq kt;have Gm:=hdq IH;have HN:=hdq hN;have HG:=hdq hG;have HK:=hdq hK;have HR:=hdq hr;obtain⟨b,o,rfl,J5⟩:=InK.kid hK (by omega);obtain⟨k1,k2,k3,k4,k5,D,E,I,hT⟩:=J5 i hi;rw[Nat.mul_comm 3 i] at D E I;have HT:=hdq hT;have s:=hx.blk bi;have j:=hx.blk ui;have hpi:(i:Int) <(a.length:Int):=by omega
 clear J5 hT hG hK hN IH em kt hr pg bi ui hx;obtain⟨y,L⟩: ∃x,x=(p.alloc M0):=⟨_,rfl⟩;obtain⟨T,s1,l⟩:=FB L;obtain⟨M,m⟩: ∃M,M=(fun b=> N b/\b≠p.heap.size):=⟨_,rfl⟩;have O6:=hdq (show∀b,y.heap.size<=b->M b from m▸Va HN.out l.size (by omega));have Dl:=hdq (show InK y M A G from m▸HG.out.keep l (aP _));have xh:=hdq (show InK y M _ a from m▸HK.out.keep l (aP _));have Kc:=hdq (show InT y M (kd a i) _ from m▸HT.out.keep l (aP _));have HM:=hdq m;clear m;have zA:p.cell? ⟨S,0,none⟩=some (.slice A G.length ca):=E1 s 0;have K:p.cell? ⟨t,0,none⟩=some (j0 k):=E1 j 0;have R:p.cell? ⟨t,1,none⟩=some (j0 n):=E1 j 1;have J:p.cell? ⟨t,2,none⟩=some (.slice (some ⟨b,o,none⟩) a.length ct):=E1 j 2;have lA:=D1 s;have lB:=D1 j;go_enter func105,ntmps105;go_wp2_with fail;rw[<-L];clear L;clear zA K R J lA lB;refine(nG G k n a y M O6.out A _ ca ct Dl.out xh.out U l9 F8 P i hi).mono ?_;rintro e w2 ⟨A',c',H,c,rfl,B,hO⟩;have s2:=B.size;rcases hO with⟨rfl,rfl,C,ig⟩ |⟨rfl,Q,Y,w,hH⟩
 · obtain rfl:r=(D2,2):=by
    have:=HR.out;unfold Ma at this;rw[if_neg C,if_pos ig] at this
    simpa using this.symm
   clear D E I;have q:=B;have z:=Ca (q.blk T);have X:=l;have g:=X.trans B;have W:=yA (g.blk s);have ZB:=cb3 (g.blk j);go_wp2_with fail;refine aQ (v:= .tuple #[m0 0 0 none 0 0,j0 2]) (by simp[aS,results105,go_sem,z]) rfl ⟨_,rfl,Z5 _ _ 0 0,(g.set3 (by omega) _ _ _)⟩
 · have F:Hid (P0 f H (kd a i)=some r/\(∀x∈H,valid sigT x=true)/\H.length<=20):=hdq (by
    have:=HR.out;unfold Ma at this;rcases hH with⟨C,rfl⟩ |⟨C,ig,rfl⟩
    · rw[if_pos C] at this
      exact⟨this,zr.out,hL⟩
    · rw[if_neg C,if_neg (by omega)] at this
      refine⟨this,fun x hx=> ?_,by simp;omega⟩;rcases List.mem_append.1 hx with hx|hx
      · exact zr.out x hx
      · rw[List.mem_singleton.1 hx]
        exact Eg.out _ (Pk (by omega)))
   have kg:=hdq w;clear hH w HR;have X:=l;have g:=X.trans B;have Mb:=g.cell D;have uf:=g.cell E;have kq:=g.cell I;clear D E I;have q:=B;have z:=Ca (q.blk T);have W:=yA (g.blk s);have ZB:=cb3 (g.blk j);go_wp2_with fail;clear z W ZB;refine(Gm.out w2 M A' c' H (kd a i) _ r (fun b hb=> O6.out b (by have:=q.size;omega)) Q Y kg.out F.out.2.1 F.out.2.2 (Kc.out.later q) (Eg.out _ (Pk hi)) F.out.1).mono ?_;rintro e w3 ⟨u,rfl,hT,O⟩;have s3:=O.size;obtain⟨⟨q1,q2,q3⟩,d⟩:=r;simp only at hT⊢;obtain⟨a2,b2,A2,l2,c2,rfl⟩:=hT.three;have T2:=hdq hT;clear hT F Mb uf kq;have j5:=q.trans O;have z:=Ca (j5.blk T);have V:=g.trans O;have W:=yA (V.blk s);have ZB:=cb3 (V.blk j);go_wp2_with fail;refine aQ (v:= .tuple #[m0 a2 b2 A2 l2 c2,j0 d]) (by simp[aS,results105,go_sem,z]) rfl ⟨_,rfl,InT.ret (HM.out▸T2.out) _ _ _,(V.set3 (by omega) _ _ _)⟩
theorem UC: ∀f,Sl f
 |0=> fun m N A ca G t v r hN q c hG I K ht hv hr=> by cases hr
 |f+1=> fun m N A ca G t v r hN q c hG I K ht hv hr=> by
  obtain⟨k,n,a⟩:=t;have j:=hdq (show Sc G (P0 f G) (Ma (P0 f) G k a) k n a=some r from hr);obtain⟨At,ct,rfl,o,O,hK⟩:=InT.mk_iff.1 ht;have Q:=hdq (UC f);have V:=hdq hN;have HG:=hdq hG;have HK:=hdq hK;have H:=hdq hv;have z:=hdq I;clear hN hG hK hv I ht hr;obtain⟨g,w⟩: ∃x,x=(((m.alloc (.cells #[.slice A G.length ca] 23)).alloc (D0 k n At a.length ct)).alloc M0):=⟨_,rfl⟩;obtain⟨E,J,P,s1,p⟩:=be w;obtain⟨M,l⟩: ∃M,M=(fun b=> N b/\b≠m.heap.size+1+1):=⟨_,rfl⟩;have Z:=hdq (show∀b,g.heap.size<=b->M b from l▸Va V.out p.size (by omega));have Dl:=hdq (show InK g M A G from l▸HG.out.keep p (by omega));have xh:=hdq (show InK g M At a from l▸HK.out.keep p (by omega));have HM:=hdq l;clear l;have L:=hdq (bH f Q.out g _ _ A At ca ct G k n a E J o O q c z.out K H.out);have HJ:Hid (zc g g M (m.heap.size) (m.heap.size+1) A G At a (Ma (P0 f) G k a)):=hdq ⟨L.out,xr _,Z.out,Dl.out,xh.out⟩;have HI:Hid (kf g A ca G (P0 f G)):=hdq (fun W N' hx y C5 t' v' X B U xx=> Q.out W N' A ca G t' v' U y q c C5 z.out K X B xx);have T:Hid (∀i s,i < a.length->Ma (P0 f) G k a i=some (s,0)->valid sigT s=true):=hdq (fun i s hi hs=> lK H.out hi hs);go_enter func64,ntmps64;go_wp2_with fail;rw[<-w];clear w;have R:=yA E;have S:=cb3 J;have C:=Ca P;go_wp2_with fail;clear R S C;refine(MJ k n ca ct o O g M HJ.out (P0 f G) HI.out H.out z.out q c T.out r j.out).mono ?_;rintro e w2 ⟨u,rfl,hT,F⟩;have s2:=F.size;obtain⟨⟨q1,q2,q3⟩,d⟩:=r;simp only at hT⊢;obtain⟨Y,b2,A2,l2,c2,rfl⟩:=hT.three;have T2:=hdq hT;clear hT j;have D:=F;have R:=yA (D.blk E);have S:=cb3 (D.blk J);have C:=Ca (D.blk P);have j8:=p;have d9:=j8.trans F;go_wp2_with fail;refine aQ (v:= .tuple #[m0 Y b2 A2 l2 c2,j0 d]) (by simp[aS,results64,go_sem,C]) rfl ⟨_,rfl,InT.ret (HM.out▸T2.out) _ _ _,(d9.set3 (by omega) _ _ _)⟩
