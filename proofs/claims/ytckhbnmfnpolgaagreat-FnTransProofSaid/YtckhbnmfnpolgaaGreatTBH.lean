/- Lemmas towards the law. -/
import Derived.Test.YtckhbnmfnpolgaaGreatTBG
open List renaming replicate->iR,take_of_length_le->fY,take_succ_eq_append_getElem->iS
open Go renaming World->aN,Calls->aY,maxLen->aW,heap_alloc_new->aT,results->aS
open Go.World renaming alloc->aO
open Nat renaming zero_le->cO,eq_zero_or_pos->lU,le_succ->aR
open Go.Proofs.Tryz
set_option linter.all false
set_option maxHeartbeats 40000000
set_option maxRecDepth 100000
namespace Go.Proofs.YtckhbnmfnpolgaaGreat
open Go Go.RowKit
attribute [local go_sem ↓] Go.wp_at_zero Go.wp_at_succ
inductive MW (ctx:List Tr) (t:Tr):List Tr->Tr->Prop where
 |same {t':Tr}:MR t t'->MW ctx t ctx t'
 |tail {c:List Tr} {t':Tr}:c=ctx.tail->MR t t'->MW ctx t c t'
 |last {u t':Tr}:valid sigT u=true/\dT u<=4->MR t t'->MW ctx t (ctx++ [u]) t'
 |long {c:List Tr} {t':Tr}:(∃q,c=ctx++iR q (.mk 6 0 []))->MR t t'->MW ctx t c t'
 |any {t':Tr}:valid sigT t'=true/\dT t'<=4->MW ctx t ctx t'
 |kid {k n:Int} {ks:List Tr} {i:Nat} {u:Tr}:t= .mk k n ks->i < ks.length->valid sigT u=true/\dT u<=4->MW ctx t ctx (.mk k n (ks.set i u))
theorem Yf(t:Tr)(w:aN)(g m:Nat)(v:Value)(i:Lies w t v)(k:cnt t<=400)(d:Rd w g m)(hm:m < 900000):aY prog 70 #[O2 g,v] w (DQ w g (m+2) (MR t)):=
 (iH t w g m v i (by omega) d hm).mono fun e j ⟨c,u,f,a,b⟩=>⟨c,u,f,a.2,b⟩
theorem bw(w:aN)(g m:Nat)(a:Rd w g m)(hm:m < 900000):aY prog 69 #[O2 g] w (DQ w g (m+1024) fun t=> valid sigT t=true/\dT t<=4):=qz w g m a hm
theorem rJ(ctx:List Tr)(t:Tr)(p:aN)(g m:Nat)(v:Value)(A:Option Addr)(cap:Nat)(hR:Rd p g m)(hm:m < 700000)(hT:InT p (fun b=> g < b) t v)(l9:cnt t<=400)(hK:InK p (fun b=> g < b) A ctx)(hl:ctx.length<=cap)(hc:cap<=aW)(su:ctx.length<=5)(D4: ∀x∈ctx,cnt x<=400):
 aY prog 55 #[.pointer (some ⟨g,0,none⟩),.slice A ctx.length cap,v] p (CQ p g (m+1030) fun c t'=> c.length<=9/\MW ctx t c t'):=by
 have d:=hdq hR.lt;have Cq:=hdq D4;have hcc:=hc;unfold aW at hcc;obtain⟨k,n,ks⟩:=t;obtain⟨At,ct,rfl,-,-,-⟩:=InT.mk_iff.1 hT;obtain⟨KL,Bn⟩: ∃L,ks.length=L:=⟨_,rfl⟩;obtain⟨N,hN⟩: ∃N,ctx.length=N:=⟨_,rfl⟩;rw[Bn] at hT⊢;rw[hN] at hl su⊢;have HKL:=hdq Bn;have f:=hdq hN;have I:=hdq l9;have HK:=hdq hK;clear D4 Bn hN l9 hK;go_enter func55,ntmps55;go_wp2_with fail;generalize hw:aO (aO p _) _=B;obtain⟨bt,br,s,e⟩:=box2 hw.symm;have F:=hdq (both (fun w' (X:OfD (p.heap.size+1) g B w')=>(((hT.bound).later e).dw X (fun b G=> by omega)).lies') (Yn (r:=p.heap.size+1) (g:=g) bt (by omega) (by have:=d.out;omega)));have Z:=(St.of hR e).id;have Y:i1 [g] p B:=oE e;have xv:g < B.heap.size:=by have:=d.out;have:=e.size;omega
 have HE:=hdq e;have hs1:B.heap.size=p.heap.size+1+1:=by rw[<-hw];simp
 have mf:ec B (B.alloc (.cells #[] 25)) (.slice (some ⟨p.heap.size+1+1,0,none⟩) 0 0) []:=by rw[<-hs1];exact ec.lit (xr B)
 clear hw hR hT bt e s hs1;have C:=(xr B).alloc (.cells #[] 25);generalize aO B _=wq at mf C⊢
 go_loopw [8,9] (fun v i wr=> ∃j,j<=N/\i= .int .i64 j/\ec B wr v (ctx.take j)/\Ext B wr) (fun _ i _=> N -(intOf i).toNat)
 case atStart=> exact⟨0,cO _,rfl,mf,C⟩
 case round=>
  obtain⟨j,hj,rfl,hG,hx⟩:=hrel;clear mf C;by_cases D:j < N
  · obtain⟨b,o,rfl,G,hk⟩:=ae HK.out (by rw[f.out];omega)
    obtain⟨x1,x2,x3,x4,x5,K0⟩:=hk j (by rw[f.out];omega);rw[Nat.mul_comm] at K0;have K1:=K0.ex (HE.out.trans hx);have hj':(j:Int) <(N:Int):=by omega
    have jc:=hdq (show ctx.take (j+1)=ctx.take j++ [kd ctx j] from by rw[<-List.take_append_getElem (by rw[f.out];exact D)];unfold kd;rw[List.getD_eq_getElem?_getD,List.getElem?_eq_getElem (by rw[f.out];exact D)];rfl);have HLEN:=hdq (show(ctx.take j).length < 1000 by rw[List.length_take];omega);clear hk K0;go_wp2_with fail;refine(Sf _ _ _ K1.l (by have:=Cq.out _ (Pk (ks:=ctx) (i:=j) (by rw[f.out];exact D));omega)).mono ?_;rintro e w2 ⟨u,rfl,hM,e2⟩;obtain⟨a1,a2,a3,a4,a5,rfl⟩:=hM.three';have e3:=e2.alloc (.cells #[.int .i64 a1,.int .i64 a2,.slice a3 a4 a5] 25);clear K1;go_wp2_with (at_builtin;refine pJ (.tmp 17) (.tmp 23) hG e3 hx ((E2.made hM).ext ((xr w2).alloc (.cells #[.int .i64 a1,.int .i64 a2,.slice a3 a4 a5] 25))) HLEN.out rfl rfl rfl rfl (aT _ _) ?_)
    intro A5 c5 w5 C6 z6;generalize (ctx.take j++ [kd ctx j]).length=LL at C6⊢;go_wp2_with fail
    go_roundw
    case rel=> exact⟨j+1,by omega,by go_num,by rw[jc.out];exact C6,Below.trans (hx.trans e3) z6⟩
    case measure=> simp[intOf];omega
  obtain rfl:N=j:=by omega
  rw[fY (by rw[f.out];omega)] at hG;obtain⟨A2,c2,rfl,V,q2,W,K⟩:=hG.row;rw[f.out] at V hG⊢;replace K:InK wr (fun b=> p.heap.size+1 < b) A2 ctx:=InK.mono (fun b G=> Z.news br b G.1) (fun _ _=> rfl) K;replace Z:=Z.up hx;have hcm:=q2;unfold aW at hcm;have om:=Z.1.size;clear D hl hc hcc HK;go_wp2_with fail;refine(Qf _ g _ 30 Z.2 (by omega)).mono ?_;rintro e w2 ⟨x,rfl,C,-,R,o⟩;replace Z:=Z.tr o R;replace K:=K.dl o (bb (by have:=d.out;omega));replace hG:=hG.on o xv;replace om:=Z.1.size;clear o R C hx;have Q:=F.out _ Z.off;by_cases h0:x=0
  · subst h0
    obtain rfl|hN0:=lU N
    · go_wp2_with fail
      refine(Yf _ _ g _ _ Q.1 I.out Z.2 (by omega)).mono ?_;intro e E h;obtain⟨P,O,S,T,M,ca,rfl,z,a,o,Z⟩:=h.at Z br;replace K:=K.dl o (bb (by have:=d.out;omega));clear o;replace Q:=F.out _ Z.off;have R:=cbn (Z.br br (by have:=d.out;omega));go_wp2_with fail;exact Zb (A:=A2) (n:=0) (c:=c2) (by simp[aS,results55,go_sem,R]) (⟨(by have:=f.out;omega),.same z⟩) f.out ⟨V,q2,W⟩ K a Y Z d.out (aR _) (by omega) rfl
    have dn:(0:Int) <(N:Int):=by omega
    obtain⟨gb,ob,rfl,-,-⟩:=ae K (by rw[f.out];exact hN0);obtain⟨t1,J,gf⟩: ∃t1 J,ctx=t1::J:=by
     cases hh:ctx with
     |nil=> have:=f.out;rw[hh] at this;simp at this;omega
     |cons t1 J=> exact⟨t1,J,rfl⟩
    obtain⟨N1,rfl⟩: ∃N1,N=N1+1:=⟨N - 1,by omega⟩;have U:=hdq (show J.length=N1/\J=ctx.tail from⟨by have:=f.out;rw[gf] at this;simpa using this,by rw[gf];rfl⟩);rw[gf] at K;replace K:=InK.tail K;clear hG gf W;go_wp2_with fail
    · obtain rfl:N1=0:=by omega
      replace K:InK w2 (fun b=> p.heap.size+1 < b) (some ⟨gb,ob,none⟩) []:=by have:=U.out.1;exact InK.nil' _ _ _
      obtain rfl:J= []:=List.eq_nil_of_length_eq_zero U.out.1;go_wp2_with fail;refine(Yf _ _ g _ _ Q.1 I.out Z.2 (by omega)).mono ?_;intro e E h;obtain⟨P,O,S,T,M,ca,rfl,z,a,o,Z⟩:=h.at Z br;replace K:=K.dl o (bb (by have:=d.out;omega));clear o;replace Q:=F.out _ Z.off;have R:=cbn (Z.br br (by have:=d.out;omega));go_wp2_with fail;exact Zb (A:=(some ⟨gb,ob,none⟩)) (n:=0) (c:=0) (by simp[aS,results55,go_sem,R]) (⟨by simp,.tail U.out.2 z⟩) rfl ⟨by omega,by unfold aW;omega,fun h=> by cases h⟩ K a Y Z d.out (aR _) (by omega) rfl
    · go_wp2_with fail
      refine(Yf _ _ g _ _ Q.1 I.out Z.2 (by omega)).mono ?_;intro e E h;obtain⟨P,O,S,T,M,ca,rfl,z,a,o,Z⟩:=h.at Z br;replace K:=K.dl o (bb (by have:=d.out;omega));clear o;replace Q:=F.out _ Z.off;have R:=cbn (Z.br br (by have:=d.out;omega));go_wp2_with fail;exact Zb (A:=(some ⟨gb,ob+3,none⟩)) (n:=N1) (c:=(c2 - 1)) (by simp[aS,results55,go_sem,R]) (⟨by have:=U.out.1;omega,.tail U.out.2 z⟩) U.out.1 ⟨by omega,by unfold aW;omega,fun h=> by cases h⟩ K a Y Z d.out (aR _) (by omega) rfl
  have t0:(x==0)=false:=beq_eq_false_iff_ne.2 h0;by_cases h1:x=1
  · subst h1
    go_wp2_with fail;refine(bw _ g _ Z.2 (by omega)).mono ?_;rintro e E ⟨t1,u1,rfl,B8,W5,R,o⟩;obtain⟨a1,a2,a3,a4,a5,rfl⟩:=W5.three;have e:=(xr E).alloc (.cells #[.int .i64 a1,.int .i64 a2,.slice a3 a4 a5] 25);replace Z:=(Z.tr o R).up e;have qi:=hdq B8;clear B8;go_wp2_with (at_builtin;refine eL (.tmp 36) (.tmp 39) hG o xv e om (W5.ext e) (by rw[f.out];omega) rfl rfl rfl rfl (aT _ _) ?_)
    intro A3 c3 w4 rk hB;replace Z:=Z.below hB (Nat.le_refl _) xv;have HLL:=hdq (show(ctx++ [t1]).length=N+1 from(by rw[List.length_append,f.out];rfl));rw[show ctx.length+1=N+1 by rw[f.out]] at rk⊢;obtain⟨-,Aq,K4⟩:=rk.row';replace K4:InK w4 (fun b=> p.heap.size+1 < b) A3 (ctx++ [t1]):=InK.mono (fun b G=> by have:=D1 br;have:=G.1;omega) (fun _ _=> rfl) K4;clear hG K o R e W5 hB rk;have Q:=F.out _ Z.off;go_wp2_with fail;refine(Yf _ _ g _ _ Q.1 I.out Z.2 (by omega)).mono ?_;intro e w5 h;obtain⟨P,O,S,T,M,ca,rfl,z,a,o,Z⟩:=h.at Z br;replace K4:=K4.dl o (bb (by have:=d.out;omega));clear o;replace Q:=F.out _ Z.off;have R:=cbn (Z.br br (by have:=d.out;omega));go_wp2_with fail;exact Zb (A:=A3) (n:=(N+1)) (c:=c3) (by simp[aS,results55,go_sem,R]) (⟨(by have:=HLL.out;omega),.last qi.out z⟩) HLL.out Aq K4 a Y Z d.out (aR _) (by omega) rfl
  have t1:(x==1)=false:=beq_eq_false_iff_ne.2 h1;by_cases h2:x=2
  · subst h2
    clear K;go_wp2_with fail
    go_loopw [8] (fun vo wr=> ∃(v:Value) (L q:Nat),v=vo/\Hid ((ctx++iR q (.mk 6 0 []):List Tr).length=L)/\L<=9/\(∃A c,v= .slice A L c)/\ec B wr v (ctx++iR q (.mk 6 0 []))/\St B wr g (m+1)) (fun v _=> match v with| .slice _ n _=> 10 - n|_=> 0)
    case atStart=> exact⟨_,N,0,rfl,hdq (by simpa using f.out),by omega,⟨_,_,rfl⟩,by simpa using hG,Z⟩
    case round=>
     clear hG Z Q;obtain⟨_,L,q,rfl,HL,hL9,⟨A3,c3,rfl⟩,hG,Z⟩:=hrel;by_cases D:L<=8
     · have hd:decide ((L:Int)<=8)=true:=decide_eq_true (by omega)
       go_wp2_with fail;refine(y15 _ 6 0).mono ?_;rintro e w5 ⟨rfl,e5⟩;have e6:=e5.alloc (.cells #[.int .i64 6,.int .i64 0,.slice none 0 0] 25);have hs:=Z.1.size;replace Z:=Z.up e6;go_wp2_with (at_builtin;refine eL (g:=g) (tr:= .mk 6 0 []) (.tmp 46) (.tmp 48) hG (i1.refl _ _) xv e6 hs (E2.leaf _ _ 6 0) (by rw[HL.out];omega) rfl rfl rfl rfl (aT _ _) ?_)
       intro A4 c4 w7 zn hB;rw[show ctx.length+(q+1)=L+1 by have:=HL.out;simp at this;omega] at zn⊢;rw[<-List.replicate_succ'] at zn;go_wp2_with fail
       go_roundw
       case rel=> exact⟨_,L+1,q+1,rfl,hdq (by have:=HL.out;simp at this⊢;omega),by omega,⟨_,_,rfl⟩,zn,Z.below hB (Nat.le_refl _) xv⟩
       case measure=> simp;omega
     have hd:decide ((L:Int)<=8)=false:=decide_eq_false (by omega);obtain⟨-,W8,K⟩:=hG.row';replace K:InK wr (fun b=> p.heap.size+1 < b) A3 _:=InK.mono (fun b G=> by have:=D1 br;have:=G.1;omega) (fun _ _=> rfl) K;have Q:=F.out _ Z.off;clear hG;go_wp2_with fail;refine(Yf _ _ g _ _ Q.1 I.out Z.2 (by omega)).mono ?_;intro e E h;obtain⟨P,O,S,T,M,ca,rfl,z,a,o,Z⟩:=h.at Z br;replace K:=K.dl o (bb (by have:=d.out;omega));clear o;replace Q:=F.out _ Z.off;have R:=cbn (Z.br br (by have:=d.out;omega));go_wp2_with fail;exact Zb (A:=A3) (n:=L) (c:=c3) (by simp[aS,results55,go_sem,R]) (⟨(by have:=HL.out;omega),.long ⟨_,rfl⟩ z⟩) HL.out W8 K a Y Z d.out (aR _) (by omega) rfl
  have t2:(x==2)=false:=beq_eq_false_iff_ne.2 h2;by_cases h3:x=3
  · subst h3
    go_wp2_with fail;refine(bw _ g _ Z.2 (by omega)).mono ?_;intro e E h;obtain⟨P,O,S,T,M,ca,rfl,z,a,o,Z⟩:=h.at Z br;replace K:=K.dl o (bb (by have:=d.out;omega));clear o;replace Q:=F.out _ Z.off;have R:=cbn (Z.br br (by have:=d.out;omega));go_wp2_with fail;exact Zb (by simp[aS,results55,go_sem,R]) (⟨by have:=f.out;omega,.any z⟩) f.out ⟨V,q2,W⟩ K a Y Z d.out (aR _) (by omega) rfl
  have t3:(x==3)=false:=beq_eq_false_iff_ne.2 h3;by_cases h4:x=4
  · subst h4
    obtain rfl|lg:=lU KL
    · go_wp2_with fail
      refine(Yf _ _ g _ _ Q.1 I.out Z.2 (by omega)).mono ?_;intro e E h;obtain⟨P,O,S,T,M,ca,rfl,z,a,o,Z⟩:=h.at Z br;replace K:=K.dl o (bb (by have:=d.out;omega));clear o;replace Q:=F.out _ Z.off;have R:=cbn (Z.br br (by have:=d.out;omega));go_wp2_with fail;exact Zb (A:=A2) (n:=N) (c:=c2) (by simp[aS,results55,go_sem,R]) (⟨(by have:=f.out;omega),.same z⟩) f.out ⟨V,q2,W⟩ K a Y Z d.out (aR _) (by omega) rfl
    have H:=K;clear K;have hkp:(0:Int) <(KL:Int):=by omega
    go_wp2_with fail;refine Oe (p.heap.size+1) (by kernel_rfl) Z fun E e Z=> ?_
    replace H:=H.later e;replace Q:=F.out _ Z.off;refine B3 [0,1,2,3,4,5,7] 5 (by kernel_rfl) Z.off (fun _ _ _ _ _ h=> h) ?_
    iterate 7 (refine tk rfl (by rfl) (by intro w X;have Q:=F.out _ X;go_simp;(try with_reducible rfl)) ?_;try simp only[W2])
    refine H0 6 (by kernel_rfl) rfl rfl (fun K hK=> ?_)
    go_simp
    go_at_call 67
    refine(Qf _ g _ (KL:Int) Z.2 (by omega)).mono ?_;rintro e w4 ⟨y,rfl,hy0,hy1,R,o⟩;replace Z:=Z.tr o R;replace H:=H.dl o (bb (by have:=d.out;omega));clear o R;replace Q:=F.out _ Z.off;refine hK.out _ _ Z.off (fun _=> ?_);obtain⟨i,rfl⟩:=Int.eq_ofNat_of_zero_le hy0;have hi:i < ks.length:=by rw[HKL.out];omega
    refine H0 8 (by kernel_rfl) rfl rfl (fun K hK=> ?_)
    go_simp
    go_at_call 69
    have hsz:=Z.1.size;refine(bw _ g _ Z.2 (by omega)).mono ?_;rintro e w5 ⟨tu,uu,rfl,Mu,hu,R,o⟩;obtain⟨_,_,_,_,_,rfl⟩:=hu.three;replace Z:=Z.tr o R;replace H:=H.dl o (bb (by have:=d.out;omega));replace Q:=F.out _ Z.off;have hsz':=o.size;clear o R;refine hK.out _ _ Z.off (fun _=> ?_);refine H0 9 (by kernel_rfl) rfl rfl (fun K hK=> ?_)
    go_simp
    go_at_call 101
    refine(bJ k n ks tu i w4.heap.size _ _ _ Q.1 hu hsz' hi (by have:=I.out;omega)).mono ?_;rintro e w6 ⟨u,rfl,hx,e⟩;obtain⟨_,_,_,_,_,rfl⟩:=hx.three;replace hx:=InT.mono (S':=fun b=> p.heap.size+1 < b) (fun b G=> by have:=D1 br;have:=G.1;omega) (fun _ _=> rfl) hx;replace Z:=Z.up e;replace H:=H.later e;replace Q:=F.out _ Z.off;refine hK.out _ _ Z.off (fun _=> ?_);refine B3 [10] 1 (by kernel_rfl) Z.off (fun _ _ _ _ _ h=> h) ?_;refine tk rfl (by rfl) (by intro w X;have Q:=F.out _ X;go_simp;(try with_reducible rfl)) ?_
    try simp only[W2]
    have R:=cbn (Z.br br (by have:=d.out;omega));refine H0 11 (by kernel_rfl) rfl rfl (fun K hK=> ?_)
    go_simp
    refine hK.out _ _ (Z.off.set3 _ _ _) (fun _=> ?_);refine wpAnyH_done (by kernel_rfl) ?_ _;go_wp2_with fail;exact Zb (by simp[aS,results55,go_sem,R]) (⟨by have:=f.out;omega,.kid rfl hi Mu⟩) f.out ⟨V,q2,W⟩ H hx Y Z d.out (aR _) (by omega) rfl
  have t4:(x==4)=false:=beq_eq_false_iff_ne.2 h4;go_wp2_with fail;refine(Yf _ _ g _ _ Q.1 I.out Z.2 (by omega)).mono ?_;intro e E h;obtain⟨P,O,S,T,M,ca,rfl,z,a,o,Z⟩:=h.at Z br;replace K:=K.dl o (bb (by have:=d.out;omega));clear o;replace Q:=F.out _ Z.off;have R:=cbn (Z.br br (by have:=d.out;omega));go_wp2_with fail;exact Zb (A:=A2) (n:=N) (c:=c2) (by simp[aS,results55,go_sem,R]) (⟨(by have:=f.out;omega),.same z⟩) f.out ⟨V,q2,W⟩ K a Y Z d.out (aR _) (by omega) rfl
end Go.Proofs.YtckhbnmfnpolgaaGreat
namespace Go.Proofs.YtckhbnmfnpolgaaGreat
open Go.RowKit
open M (Hd HR Cv Ty j2 rc a7 O5 dep DG fvb)
def kc:M.Tm->Bool
 | .pi A B=> decide (dep A<=4)&& kc A && kc B
 | .lam A B=> decide (dep A<=4)&& kc A && kc B
 | .sg A B=> decide (dep A<=4)&& kc A && kc B
 | .app f a=> kc f && kc a
 | .succ a=> kc a
 | .elim p z s a=> valid sigT (enc (M.stepTy p))&& kc p && kc z && kc s && kc a
 | .id T a b=> kc T && kc a && kc b
 | .refl a=> kc a
 | .move p e a=>(match e with| .refl _=> true| .var _=> decide (cnt (enc p)<=300) |_=> false)&& kc p && kc e && kc a
 | .pair T a b=>(match T with| .sg X Y=> valid sigT (enc (Y.inst a)) |_=> false)&& kc T && kc a && kc b
 | .fst a=> kc a
 | .snd a=> kc a
 |_=> true
theorem ds: ∀{t:M.Tm},kc t=true->SG t:=by
 intro t
 induction t <;> intro h <;> simp only[kc,Bool.and_eq_true,decide_eq_true_eq] at h <;> simp only[SG] <;> try trivial
 case pi c d=> exact⟨h.1.1,c h.1.2,d h.2⟩
 case lam c d=> exact⟨h.1.1,c h.1.2,d h.2⟩
 case sg c d=> exact⟨h.1.1,c h.1.2,d h.2⟩
 case app c d=> exact⟨c h.1,d h.2⟩
 case succ c=> exact c h
 case refl c=> exact c h
 case fst c=> exact c h
 case snd c=> exact c h
 case id c d f=> exact⟨c h.1.1,d h.1.2,f h.2⟩
 case elim c d f i=> exact⟨h.1.1.1.1,c h.1.1.1.2,d h.1.1.2,f h.1.2,i h.2⟩
 case move p e a c d f=>
  refine⟨?_,c h.1.1.2,d h.1.2,f h.2⟩;have g:=h.1.1.1
  split at g
  · exact .inl ⟨_,rfl⟩
  · exact .inr ⟨⟨_,rfl⟩,of_decide_eq_true g⟩
  · cases g
 case pair T a b c d f=>
  refine⟨?_,c h.1.1.2,d h.1.2,f h.2⟩;have g:=h.1.1.1
  split at g
  · exact⟨_,_,rfl,g⟩
  · cases g
def zp:M.Tm->Nat->M.Tm->M.Tm
 | .pi A B,i,u=> if i=0 then .pi u B else .pi A u
 | .lam A B,i,u=> if i=0 then .lam u B else .lam A u
 | .sg A B,i,u=> if i=0 then .sg u B else .sg A u
 | .app f a,i,u=> if i=0 then .app u a else .app f u
 | .succ a,i,u=> .succ u
 | .elim p z s a,i,u=> if i=0 then .elim u z s a else if i=1 then .elim p u s a else if i=2 then .elim p z u a else .elim p z s u
 | .id T a b,i,u=> if i=0 then .id u a b else if i=1 then .id T u b else .id T a u
 | .refl a,i,u=> .refl u
 | .move p e a,i,u=> if i=0 then .move u e a else if i=1 then .move p u a else .move p e u
 | .pair T a b,i,u=> if i=0 then .pair u a b else if i=1 then .pair T u b else .pair T a u
 | .fst a,i,u=> .fst u
 | .snd a,i,u=> .snd u
 |t,_,_=> t
def ef(G:List M.Tm):M.Tm->Prop
 | .pi A B=> dep A<=3
 | .lam A B=> dep A<=3
 | .sg A B=> dep A<=3
 | .move p e a=> li G a
 | .pair T a b=> li G b
 |_=> True
theorem Qp{G:List M.Tm}{t u:M.Tm}(h:SG t)(hs:ef G t)(d:dep u<=4)(i:Nat):cA G (zp t i u):=by
 have K:KM u:= .inr d;cases t <;> simp only[zp] <;>(try simp only[SG] at h) <;>(try simp only[ef] at hs) <;>(try trivial)
 case pi A B=>
  split
  · exact⟨K,.inr ⟨h.2.2,d⟩⟩
  · exact⟨.inl h.2.1,.inl ⟨K,hs⟩⟩
 case lam A B=>
  split
  · exact⟨K,.inr ⟨h.2.2,d⟩⟩
  · exact⟨.inl h.2.1,.inl ⟨K,hs⟩⟩
 case sg A B=>
  split
  · exact⟨K,.inr ⟨h.2.2,d⟩⟩
  · exact⟨.inl h.2.1,.inl ⟨K,hs⟩⟩
 case app f a=>
  split
  · exact⟨K,.inl h.2⟩
  · exact⟨.inl h.1,K⟩
 case elim p z s a=>
  split
  · exact⟨.inr d,K,.inl h.2.2.1,.inl h.2.2.2.1,.inl h.2.2.2.2⟩
  · split
    · exact⟨.inl h.1,.inl h.2.1,K,.inl h.2.2.2.1,.inl h.2.2.2.2⟩
    · split
      · exact⟨.inl h.1,.inl h.2.1,.inl h.2.2.1,K,.inl h.2.2.2.2⟩
      · exact⟨.inl h.1,.inl h.2.1,.inl h.2.2.1,.inl h.2.2.2.1,K⟩
 case id T a b=>
  split
  · exact⟨K,.inl h.2.1,.inl h.2.2⟩
  · split
    · exact⟨.inl h.1,K,.inl h.2.2⟩
    · exact⟨.inl h.1,.inl h.2.1,K⟩
 case move p e a=>
  have c:3*cnt (enc u)+1<=256:=Vw u 4 d
  split
  · exact⟨h.1.elim .inl fun q=> .inr (.inl ⟨q.1,by omega⟩),K,.inl h.2.2.1,.inl h.2.2.2⟩
  · split
    · exact⟨.inr (.inr hs),.inl h.2.1,K,.inl h.2.2.2⟩
    · exact⟨h.1.elim .inl fun q=> .inr (.inl q),.inl h.2.1,.inl h.2.2.1,K⟩
 case pair T a b=>
  split
  · exact⟨.inr hs,K,.inl h.2.2.1,.inl h.2.2.2⟩
  · split
    · exact⟨.inr hs,.inl h.2.1,K,.inl h.2.2.2⟩
    · exact⟨.inl h.1,.inl h.2.1,.inl h.2.2.1,K⟩
inductive NC:Nat->M.Tm->Prop where
 |var {n i}:i < n->NC n (.var i)
 |zero {n}:NC n .zero
 |succ {n a}:NC n a->NC n (.succ a)
 |app {n a b}:NC (n+1) a->NC n b->NC n (.app (.lam .nat a) b)
 |elim {n z s a}:NC n z->NC (n+2) s->NC n a->NC n (.elim (.lam .nat .nat) z (.lam .nat (.lam .nat s)) a)
 |fst {n a b}:NC n a->NC n b->NC n (.fst (.pair (.sg .nat .nat) a b))
 |snd {n a b}:NC n a->NC n b->NC n (.snd (.pair (.sg .nat .nat) a b))
 |move {n x a}:NC n x->NC n a->NC n (.move (.lam .nat .nat) (.refl x) a)
theorem NC.sg{n:Nat}{t:M.Tm}(h:NC n t):SG t:=by
 induction h with
 |var=> trivial
 |zero=> trivial
 |succ _ a=> exact a
 |app _ _ a b=> exact⟨⟨by simp[dep],trivial,a⟩,b⟩
 |elim _ _ _ a b c=> exact⟨by decide+kernel,⟨by simp[dep],trivial,trivial⟩,a,⟨by simp[dep],trivial,by simp[dep],trivial,b⟩,c⟩
 |fst _ _ a b=> exact⟨⟨_,_,rfl,by show valid sigT (enc .nat)=true;decide+kernel⟩,⟨by simp[dep],trivial,trivial⟩,a,b⟩
 |snd _ _ a b=> exact⟨⟨_,_,rfl,by show valid sigT (enc .nat)=true;decide+kernel⟩,⟨by simp[dep],trivial,trivial⟩,a,b⟩
 |move _ _ a b=> exact⟨.inl ⟨_,rfl⟩,⟨by simp[dep],trivial,trivial⟩,a,b⟩
def NG(n:Nat)(G:List M.Tm):Prop:= ∀i,i < n->M.lk G i=some .nat
theorem NG.cons{n:Nat}{G:List M.Tm}(h:NG n G):NG (n+1) (.nat::G):=fun i hi=> by
 cases i with
 |zero=> rfl
 |succ i=>
  have a:=h i (by omega);unfold M.lk at a⊢;rw[Option.map_eq_some_iff] at a⊢;obtain⟨A,b,c⟩:=a;refine⟨A,by simpa using b, ?_⟩;cases A <;> first|rfl|(cases c;done)
def NT(T:M.Tm):Prop:=T= .nat\/ ∃x,T= .app (.lam .nat .nat) x
theorem NT.hr{T:M.Tm}(h:NT T):HR T .nat:=by
 rcases h with rfl|⟨x,rfl⟩
 · exact .refl _
 · exact .one (.beta _ _ _)
theorem Zu(G:List M.Tm):Ty G (.lam .nat .nat) (.pi .nat (.sort 0)):= .lam .nat (.refl _) .nat
theorem mC(G:List M.Tm):j2 G (.lam .nat .nat):=⟨trivial,trivial,fun B k e a=> by
 cases e
 obtain⟨S,b,c⟩:=a;cases b
 cases c with
 |refl=> decide
 |step d _=> cases d⟩
theorem NT.lev{G:List M.Tm}{T:M.Tm}{k:Nat}(h:NT T)(l:O5 G T k):k=0:=by
 obtain⟨S,b,a⟩:=l;rcases h with rfl|⟨x,rfl⟩
 · cases b
   exact(a.sort_det (.refl _))
 · cases b with
   |app t1 t2 c d=>
    cases t1.det (Zu G)
    cases HR.at t2 (by simp[M.hk])
    exact(a.sort_det (.refl _))
theorem NC.ty{n:Nat}{t:M.Tm}(h:NC n t): ∀{G:List M.Tm},NG n G-> ∃T,Ty G t T/\NT T/\j2 G t:=by
 have i: ∀(G:List M.Tm) (x:M.Tm),Cv .nat (.app (.lam .nat .nat) x):=fun G x=>(show Cv (.app (.lam .nat .nat) x) .nat from(HR.one (.beta .nat .nat x)).cv).symm
 induction h with
 |var hi=> intro G hG;exact⟨_,.var (hG _ hi),.inl rfl,trivial⟩
 |zero=> intro G hG;exact⟨_,.zero,.inl rfl,trivial⟩
 |succ _ a=>
  intro G hG;obtain⟨T,l,j,m⟩:=a hG;exact⟨_,.succ l j.hr.cv,.inl rfl,m⟩
 |app _ _ a b=>
  intro G hG;obtain⟨T,l,j,m⟩:=a hG.cons;obtain⟨U,L,E,N⟩:=b hG;refine⟨_,.app (.lam .nat (.refl _) l) (.refl _) L E.hr.cv, ?_,⟨trivial,m,fun B k c e=> ?_⟩,N⟩
  · rcases j with rfl|⟨x,rfl⟩
    · exact .inl rfl
    · exact .inr ⟨_,rfl⟩
  · cases c.det l
    rw[j.lev e]
    decide
 |elim _ _ _ a b w=>
  intro G hG;obtain⟨Z,Q,P,R⟩:=a hG;obtain⟨S,s,o,D⟩:=b hG.cons.cons;obtain⟨A,d,g,f⟩:=w hG;have t1:Ty (.nat::G) (.lam .nat _) (.pi .nat S):= .lam .nat (.refl _) s;refine⟨_,.elim (Zu G) (.refl _) (Cv.rfl' _) (.refl _) Q (P.hr.cv.trans (i G _)) (.lam .nat (.refl _) t1) ?_ d g.hr.cv,.inr ⟨_,rfl⟩,mC G,R,⟨trivial,⟨trivial,D,fun B k c e=> ?_⟩,fun B k c e=> ?_⟩,f⟩
  · exact Cv.pi (Cv.rfl' _) (Cv.pi (i G (.var 0)) (o.hr.cv.trans (i G (.succ (.var 1)))))
  · cases c.det s
    rw[o.lev e]
    decide
  · cases c.det t1
    obtain⟨X,y,V⟩:=e;cases y with
    |pi I J K z=>
     cases I
     have O:=J.sort_det (.refl _);have F:=o.lev ⟨_,K,z⟩;have C:=V.sort_det (.refl _);subst O F C
     decide
 |fst _ _ a b=>
  intro G hG;obtain⟨A,d,g,f⟩:=a hG;obtain⟨B,p,q,r⟩:=b hG;exact⟨_,.fst (.pair (.sg .nat (.refl _) .nat (.refl _)) (.refl _) (.refl _) d g.hr.cv p q.hr.cv) (.refl _),.inl rfl,⟨trivial,trivial⟩,f,r⟩
 |snd _ _ a b=>
  intro G hG;obtain⟨A,d,g,f⟩:=a hG;obtain⟨B,p,q,r⟩:=b hG;exact⟨_,.snd (.pair (.sg .nat (.refl _) .nat (.refl _)) (.refl _) (.refl _) d g.hr.cv p q.hr.cv) (.refl _),.inl rfl,⟨trivial,trivial⟩,f,r⟩
 |move _ _ a b=>
  intro G hG;obtain⟨X,v,u,H⟩:=a hG;obtain⟨A,d,g,f⟩:=b hG;refine⟨_,.move (.refl v) (.refl _) (Zu G) (.refl _) u.hr.cv.symm (.refl _) d (g.hr.cv.trans (i G _)),.inr ⟨_,rfl⟩,mC G,⟨H,fun B k c e=> ?_⟩,f⟩;cases c.det v
  rw[u.lev e]
  decide
end Go.Proofs.YtckhbnmfnpolgaaGreat
namespace Go.Proofs.YtckhbnmfnpolgaaGreat
open Go.RowKit
attribute [local go_sem ↓] Go.wp_at_zero Go.wp_at_succ
def FD(k:Int):Nat:=if k=3 then 162 else if k=13 then 162 else if k=4 then 163 else if k=5 then 164 else if k=9 then 165 else if k=10 then 166 else if k=12 then 167 else if k=14 then 168 else 169
theorem BJ{k:Int}(h:k≠3/\k≠13/\k≠4/\k≠5/\k≠9/\k≠10/\k≠12/\k≠14):(k==3)=false/\(k==13)=false/\(k==4)=false/\(k==5)=false/\(k==9)=false/\(k==10)=false/\(k==12)=false/\(k==14)=false:=by simp[h]
theorem Ff{G:List Tr}{A:Option Addr}{ca:Nat}(a:aN)(N:Nat->Prop)(d:SJ a N A G ca)(k n:Int)(g:List Tr)(v:Value)(hT:InT a N (.mk k n g) v)(r:Tr×Int)(hc: ∀c,c=FD k-> ∀w M v,SJ w M A G ca->InT w M (.mk k n g) v->aY prog c #[.slice A G.length ca,v] w (Ni M w r)):aY prog 129 #[.slice A G.length ca,v] a (Ni N a r):=by
 have m:=hdq hc;clear hc;have l:=hdq hT;obtain⟨At,ct,rfl,-⟩:=InT.mk_iff.1 hT;clear hT;obtain rfl|rfl|rfl|rfl|rfl|rfl|rfl|rfl|hk:k=3\/k=13\/k=4\/k=5\/k=9\/k=10\/k=12\/k=14\/(k≠3/\k≠13/\k≠4/\k≠5/\k≠9/\k≠10/\k≠12/\k≠14):=by omega
 all_goals
  try have t:=BJ hk
  go_enter func129,ntmps129;go_wp2_with fail;generalize b:aO (aO a _) _=i;obtain⟨f,br,S⟩:=Se b.symm d;have F:=hdq (S);have X:=xr i;have Q:=F.out _ X.off;clear S d b;refine(m.out _ (by first|rfl|simp[FD,hk]) _ _ _ Q.1 (l.out.keep (f.trans X) (aR _))).mono ?_;rintro e p ⟨u,o,rfl,hT,j,e⟩;replace X:=X.trans e;replace Q:=F.out _ X.off;obtain⟨_,_,_,_,_,rfl⟩:=hT.three;have R:=cbn (X.blk br);go_wp2_with fail;exact pb (by simp[aS,results129,go_sem,R]) (hT) (⟨rfl,j⟩) (f.trans X) (aR _) rfl
theorem vH{f:Nat}(l:xa f){G:List Tr}{A:Option Addr}{ca:Nat}(g:aN)(N:Nat->Prop)(j:SJ g N A G ca)(o:G.length<=20)(k n:Int)(a:List Tr)(hv:valid sigT (.mk k n a)=true)(v:Value)(hT:InT g N (.mk k n a) v)(r:Tr×Int)(h:qf G (O0 f) (Sa (O0 f) G k a) k n a=some r):aY prog 129 #[.slice A G.length ca,v] g (Ni N g r):=by
 obtain⟨u,p,s,-⟩:=m6 (N4 hv).1;have m: ∀i,i < a.length->valid sigT (kd a i)=true:=fun i hi=> qd (t:= .mk k n a) hv hi
 unfold qf at h;rcases Py (show S0 k=(a.length:Int) from u) with⟨rfl,hm⟩ |⟨rfl,hm⟩ |⟨rfl,hm⟩ |⟨rfl,hm⟩ |⟨rfl,hm⟩ |⟨rfl,hm⟩ |⟨rfl,hm⟩ |⟨rfl,hm⟩ |⟨rfl,hm⟩ |⟨rfl,hm⟩ |⟨rfl,hm⟩ |⟨rfl,hm⟩ |⟨rfl,hm⟩ |⟨rfl,hm⟩ |⟨rfl,hm⟩ |⟨rfl,hm⟩
 · exact Ff g N j 1 n a v hT r (fun c hc w M e b d=> by subst hc;exact(wH l w M b n a p s e d (Sa (O0 f) G 1 a) r (by simpa using h)).mono fun _ _ q=> q.r)
 · exact Ff g N j 2 n a v hT r (fun c hc w M e b d=> by subst hc;exact(dJ l w M b n a p s e d (Sa (O0 f) G 2 a) r (by simpa using h)).mono fun _ _ q=> q.r)
 · exact Ff g N j 3 n a v hT r (fun c hc w M e b d=> by subst hc;exact(kK l w M b o 3 n a hm (m 0 (by omega)) e d (Sa (O0 f) G 3 a) rfl rfl r (by simpa using h)).mono fun _ _ q=> q.r)
 · exact Ff g N j 4 n a v hT r (fun c hc w M e b d=> by subst hc;exact jH l w M b o 4 n a hm (m 0 (by omega)) e d (Sa (O0 f) G 4 a) rfl rfl r (by simpa using h))
 · exact Ff g N j 5 n a v hT r (fun c hc w M e b d=> by subst hc;exact(DI l w M b 5 n a hm (m 1 (by omega)) e d (Sa (O0 f) G 5 a) rfl rfl r (by simpa using h)).mono fun _ _ q=> q.r)
 · exact Ff g N j 6 n a v hT r (fun c hc w M e b d=> by subst hc;exact(zJ l w M b n a e d (Sa (O0 f) G 6 a) r (by simpa using h)).mono fun _ _ q=> q.r)
 · exact Ff g N j 7 n a v hT r (fun c hc w M e b d=> by subst hc;exact(jI l w M b n a e d (Sa (O0 f) G 7 a) r (by simpa using h)).mono fun _ _ q=> q.r)
 · exact Ff g N j 8 n a v hT r (fun c hc w M e b d=> by subst hc;exact EK l w M b n a hm e d (Sa (O0 f) G 8 a) rfl r (by simpa using h))
 · exact Ff g N j 9 n a v hT r (fun c hc w M e b d=> by subst hc;exact OI l w M b 9 n a hm (m 0 (by omega)) e d (Sa (O0 f) G 9 a) rfl rfl rfl rfl r (by simpa using h))
 · exact Ff g N j 10 n a v hT r (fun c hc w M e b d=> by subst hc;exact xK l w M b 10 n a hm e d (Sa (O0 f) G 10 a) rfl rfl rfl r (by simpa using h))
 · exact Ff g N j 11 n a v hT r (fun c hc w M e b d=> by subst hc;exact DK l w M b n a hm e d (Sa (O0 f) G 11 a) rfl r (by simpa using h))
 · exact Ff g N j 12 n a v hT r (fun c hc w M e b d=> by subst hc;exact uH l w M b 12 n a hm e d (Sa (O0 f) G 12 a) rfl rfl rfl r (by simpa using h))
 · exact Ff g N j 13 n a v hT r (fun c hc w M e b d=> by subst hc;exact(kK l w M b o 13 n a hm (m 0 (by omega)) e d (Sa (O0 f) G 13 a) rfl rfl r (by simpa using h)).mono fun _ _ q=> q.r)
 · exact Ff g N j 14 n a v hT r (fun c hc w M e b d=> by subst hc;exact aH l w M b 14 n a hm (m 1 (by omega)) e d (Sa (O0 f) G 14 a) rfl rfl rfl r (by simpa using h))
 · exact Ff g N j 15 n a v hT r (fun c hc w M e b d=> by subst hc;exact(oL l w M b 15 n a (by decide) hm (Dw hv hm (by decide)) e d (Sa (O0 f) G 15 a) rfl r (by simpa using h)).mono fun _ _ q=> q.r)
 · exact Ff g N j 16 n a v hT r (fun c hc w M e b d=> by subst hc;exact(oL l w M b 16 n a (by decide) hm (Dw hv hm (by decide)) e d (Sa (O0 f) G 16 a) rfl r (by simpa using h)).mono fun _ _ q=> q.r)
theorem qG(t:Tr):(valid sigT t=true/\mkV t=(t,0))\/(valid sigT t=false/\mkV t=(D2,2)):=by
 unfold mkV;cases h:valid sigT t
 · exact .inr ⟨rfl,by simp[h]⟩
 · exact .inl ⟨rfl,by simp[h]⟩
theorem AH{f:Nat}(T:xa f):xa (f+1):=by
 intro G t r h C N A ca v x hT;obtain⟨k,n,p⟩:=t;unfold O0 at h;obtain⟨K,b⟩: ∃z,valid sigT (.mk k n p)=z:=⟨_,rfl⟩;have j:=hdq (fun W (M:Ext C W)=> b▸rj (.mk k n p) W v (hT.lies'.ext M));rw[b] at h;obtain⟨At,ct,rfl,-⟩:=InT.mk_iff.1 hT;have L:=hdq hT;clear hT;go_enter func89,ntmps89;go_wp2_with fail;generalize g:aO (aO C _) _=w;obtain⟨a,br,S⟩:=Se g.symm x;have F:=hdq (S);have X:=xr w;have Q:=F.out _ X.off;clear S x g;refine(j.out w a).mono ?_;rintro e Z ⟨rfl,e⟩;replace X:=X.trans e;replace Q:=F.out _ X.off;cases K with
 |false=>
  have H:=hdq (show r=(D2,2) by simpa using h.symm);clear h b j;have R:=cbn (X.blk br);go_wp2_with fail;exact v9 (by simp[aS,results89,go_sem,R]) (H.out) ((a.trans X).set3 (aR _) _ _ _) rfl
 |true=>
  by_cases hl:20 < G.length
  · have t1:decide ((20:Int) <(G.length:Int))=true:=decide_eq_true (by omega)
    have H:=hdq (show r=(D2,2) by simpa[hl] using h.symm);clear h b hl j;have R:=cbn (X.blk br);go_wp2_with fail;exact v9 (by simp[aS,results89,go_sem,R]) (H.out) ((a.trans X).set3 (aR _) _ _ _) rfl
  have t1:decide ((20:Int) <(G.length:Int))=false:=decide_eq_false (by omega);rw[if_neg (by simp[hl])] at h;obtain⟨s,c,D,B,q⟩:=g8 h;have I:=hdq (Nat.not_lt.1 hl);have P:=hdq b;clear h b hl j;go_wp2_with fail;refine(vH T _ _ Q.1 I.out k n p P.out _ (L.out.keep (a.trans X) (aR _)) (s,c) D.out).mono ?_;rintro e V ⟨u,l,rfl,hT,y,e⟩;replace X:=X.trans e;replace Q:=F.out _ X.off;obtain⟨_,_,_,_,_,rfl⟩:=hT.three;have HR:=hdq y;clear y t1;simp only;obtain⟨U,t⟩ |rfl:=cz c
  · have R:=cbn (X.blk br)
    have O:=fun o=> cbn ((X.alloc o).blk br)
    go_wp2_with fail;exact v9 (by simp[aS,results89,go_sem,R,O]) (q.out U.out) (((a.trans X).alloc _).set3 (aR _) _ _ _) rfl
  obtain rfl:l=s:=HR.out (by trivial);have i:=hdq (show r=mkV l by simpa using(B.out (by trivial)).symm);clear D B q HR;go_wp2_with fail;generalize g:aO V _=J;obtain⟨E,e⟩:=nb g;replace F:=hdq (both (rb F.out (X.trans e)) (both (k8 E (X.ne br)) (hT.up e)));replace X:=X.trans e;replace br:=X.blk br;replace a:=a.trans X;replace X:=xr J;replace Q:=F.out _ X.off;clear g E e;clear hT;refine(rj l _ _ Q.2.2.lies').mono ?_;rintro e Y ⟨rfl,e⟩;replace X:=X.trans e;replace Q:=F.out _ X.off;rcases qG l with⟨d,hm⟩ |⟨d,hm⟩
  · have m:=hdq (i.out.trans hm)
    rw[d];clear d hm i;have R:=cbn (X.blk br);go_wp2_with fail;exact L7 (by simp[aS,results89,go_sem,R]) (Q.2.2) (m.out) (a.trans X) (aR _) rfl
  have m:=hdq (i.out.trans hm);rw[d];clear d hm i;have R:=cbn (X.blk br);go_wp2_with fail;exact v9 (by simp[aS,results89,go_sem,R]) (m.out) ((a.trans X).set3 (aR _) _ _ _) rfl
theorem Tp: ∀f,xa f
 |0=> fun G t r h=> by unfold O0 at h;cases h
 |f+1=> AH (Tp f)
abbrev AllN:Nat->Prop:=fun _=> True
theorem InK.all{w:aN}{A:Option Addr}{a:List Tr}(h:V8 w A a):InK w AllN A a:=InK.mono (fun _ _=> trivial) (fun _ _=> rfl) h
theorem InT.all{w:aN}{t:Tr}{v:Value}(h:Lies w t v):InT w AllN t v:=InT.mono (fun _ _=> trivial) (fun _ _=> rfl) h
theorem ov{f:Nat}{w:aN}{A:Option Addr}{ca:Nat}{G:List Tr}(c:G.length<=ca)(b:ca<=aW)(hv: ∀x∈G,valid sigT x=true)(d:G.length<=20):kf w A ca G (P0 f G):=
 fun W N hx hN hG t v ht a r hr=> UC f W N A ca G t v r hN c b hG hv d ht a hr
theorem FH(f:Nat)(a:List Tr)(w:aN)(A:Option Addr)(cap:Nat)(hK:V8 w A a)(hl:a.length<=cap)(hc:cap<=aW)(r:Tr×Int)(h:ccV f a=some r):
 aY prog 92 #[.slice A a.length cap] w fun e m=> e= .returned (j0 r.2)/\Ext w m:=by
 have M:=hc;unfold aW at M;by_cases h8:a.length<=8
 · have d8:decide ((8:Int) <(a.length:Int))=false:=decide_eq_false (by omega)
   have v:Hid (∀t∈a,valid sigT t=false->r.2=3):=hdq fun t ht hv=> by
    have:Qc a=false:=by
     unfold Qc;rw[Bool.and_eq_false_iff];refine .inr ?_;simp only[Bool.not_eq_false',List.any_eq_true];exact⟨t,ht,by simp[hv]⟩
    unfold ccV at h;rw[if_neg (by simp[this])] at h;have e:(D2,(3:Int))=r:=by simpa using h
    rw[<-e]
   have HG:Hid ((∀t∈a,valid sigT t=true)->ccR f [] a=some r):=hdq fun hv=> by
    have:Qc a=true:=by
     unfold Qc;rw[Bool.and_eq_true,decide_eq_true_eq];refine⟨h8, ?_⟩;simp only[Bool.not_eq_true',List.any_eq_false];intro t ht;simp[hv t ht]
    unfold ccV at h
    rwa [if_pos this] at h
   clear h;have HK:=hdq hK;go_enter func92,ntmps92;go_wp2_with fail
   go_loopw [14] (fun i wr=> ∃j:Nat,j<=a.length/\i= j0 j/\Hid (∀t∈a.take j,valid sigT t=true)/\Ext w wr) (fun i _=> a.length -(intOf i).toNat)
   case atStart=> exact⟨0,cO _,rfl,hdq (by simp),xr _⟩
   case round=>
    obtain⟨j,hj,rfl,n,hx⟩:=hrel;by_cases d:j < a.length
    · obtain⟨b,o,l,k,p,u,q16,rfl,N,L,R,P,l1,m1,X,E,O⟩:=hK.get hx d
      have hj':(j:Int) <(a.length:Int):=by omega
      have hE:=hx.alloc (D0 l k p q16.length u);have C:=(xr wr).alloc (D0 l k p q16.length u);have HV:=hdq (Qo (.mk l k q16) _ _ (E.ext C));go_wp2_with fail;refine HV.out.mono ?_;rintro e w1 ⟨rfl,B⟩;have z:=hE.trans B;obtain⟨I,Q⟩: ∃I,valid sigT (.mk l k q16)=I:=⟨_,rfl⟩;rw[Q];have Ej:=hdq Q;clear Q HV L R P;cases I with
      |false=>
       go_wp2_with fail;go_ret;exact⟨by rw[v.out _ O Ej.out];rfl,z⟩
      |true=>
       have Il:Hid (∀t∈a.take (j+1),valid sigT t=true):=hdq fun t ht=> by
        rw[iS d,List.mem_append,List.mem_singleton] at ht;rcases ht with ht|rfl
        · exact n.out t ht
        · rw[N.out];exact Ej.out
       go_wp2_with fail
       go_roundw
       case rel=> exact⟨j+1,by omega,by go_num,Il,z⟩
       case measure=> simp[intOf];omega
    · have hv: ∀t∈a,valid sigT t=true:=by
       have:=n.out
       rwa [fY (by omega)] at this
      have av:=hdq hv;have Ij:=hdq (HG.out hv);clear hv n HG v;go_wp2_with fail
      go_loopw [24] (fun i wr=> ∃j:Nat,j<=a.length/\i= j0 j/\Hid (ccR f (a.take j) (a.drop j)=some r)/\Ext w wr) (fun i _=> a.length -(intOf i).toNat)
      case atStart=> exact⟨0,cO _,rfl,Ij,hx⟩
      case round=>
       obtain⟨i,hi,rfl,HR,hx2⟩:=hrel;by_cases d:i < a.length
       · obtain⟨b,o,l,k,p,u,q16,rfl,N,L,R,P,l1,m1,X,E,O⟩:=hK.get hx2 d
         have hi':(i:Int) <(a.length:Int):=by omega
         have W6:(0:Int)<=(i:Int):=by omega
         have hic:(i:Int)<=(cap:Int):=by omega
         have C:=(xr wr).alloc (D0 l k p q16.length u);have bi:=aT wr (D0 l k p q16.length u);obtain⟨sA,c,B,h2,V⟩:=we (by
          have:=HR.out;rw[List.drop_eq_getElem_cons d,ccR] at this;exact this)
         rw[N.out] at B;have U:=hdq B;have T:=hdq h2;have v:=hdq V;have O7:=hdq E;have S:=hdq (fun(W:aN) (K:Ext wr W)=> zz (wC:=wr) (ov (f:=f) (w:=wr) (A:=some ⟨b,o,none⟩) (ca:=cap) (G:=a.take i) (by simp;omega) hc (fun x hm=> av.out x (List.mem_of_mem_take hm)) (by simp;omega)) W AllN K (fun _ _=> trivial) ((InK.all (HK.out.ext (hx2.trans K))).take i) (.mk l k q16) _ (InT.all (O7.out.ext K)) (av.out _ O) _ U.out);rw[show(a.take i).length=i from by simp;omega] at S;clear B h2 V E X HR;go_wp2_with fail;obtain⟨H,D,F,-,-,-⟩:=own3 bi;have y:=hdq (show∀m,Ext (wr.alloc (D0 l k p q16.length u)) m->m.cell? ⟨wr.heap.size,0,none⟩=some (j0 l)/\m.cell? ⟨wr.heap.size,1,none⟩=some (j0 k)/\m.cell? ⟨wr.heap.size,2,none⟩=some (.slice p q16.length u) from fun m h=>⟨h.cell H,h.cell D,h.cell F⟩);obtain⟨q,J⟩: ∃q,wr.alloc (D0 l k p q16.length u)=q:=⟨_,rfl⟩;rw[J] at y C H D F;rw[J];obtain⟨g,Y⟩: ∃g,wr.heap.size=g:=⟨_,rfl⟩;rw[Y] at y H D F⊢;clear J Y bi L R P
         go_region_held3 (fun m=> m.cell? ⟨g,0,none⟩=some (j0 l)/\m.cell? ⟨g,1,none⟩=some (j0 k)/\m.cell? ⟨g,2,none⟩=some (.slice p q16.length u))
          (first|exact y.out _ ((xr _).drew) |exact y.out _ ((xr _).drew.trans e2))
          (first|(go_at_call 49;refine(S.out _ (C.trans (xr _).drew)).mono ?_;rintro e w2 ⟨rfl,e2⟩))
         have z:=(hx2.trans C).trans ((xr _).drew.trans e2);clear y H D F S;by_cases s:c=0
         · subst s
           have Z:=hdq (T.out rfl);rw[<-iS d] at Z;clear U T v;go_wp2_with fail
           go_roundw
           case rel=> exact⟨i+1,by omega,by go_num,Z,z⟩
           case measure=> simp[intOf];omega
         · have t1:(c !=0)=true:=by simp[s]
           have hr:=v.out s;clear U T v s;go_wp2_with fail;go_ret;exact⟨by rw[hr];rfl,z⟩
       · have hr:r=(D2,0):=by
          have:=HR.out;rw[List.drop_of_length_le (by omega)] at this
          simpa[ccR] using this.symm
         go_wp2_with fail;go_ret;exact⟨by rw[hr];rfl,hx2⟩
 · have d8:decide ((8:Int) <(a.length:Int))=true:=decide_eq_true (by omega)
   have hr:r.2=3:=by
    unfold ccV Qc at h;rw[decide_eq_false h8,Bool.false_and,if_neg (by simp)] at h;have e:(D2,(3:Int))=r:=by simpa using h
    rw[<-e]
   go_enter func92,ntmps92;go_wp2_with fail;go_ret;exact⟨by rw[hr];rfl,xr _⟩
