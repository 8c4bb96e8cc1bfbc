/-
  Lemmas towards the law, 35: D5m, MNat, SInfK, InfL.
-/
import Derived.Test.YtckhbnmfnpolgaaGreatBBH
open List renaming replicate->gO,take_of_length_le->fN,take_succ_eq_append_getElem->gP
open Go renaming World->aK,Calls->aV,maxLen->aU,heap_alloc_new->aR,results->aQ
open Go.World renaming alloc->aN
open Nat renaming zero_le->bT,eq_zero_or_pos->jO,le_succ->aP
open Go.Proofs.Tryz
set_option linter.unusedVariables false
set_option maxHeartbeats 40000000
set_option maxRecDepth 100000
namespace Go.Proofs.YtckhbnmfnpolgaaGreat
open Go Go.RowKit
attribute [local go_sem ↓] Go.wp_at_zero Go.wp_at_succ
inductive MW (ctx:List Tr) (t:Tr):List Tr->Tr->Prop where
 |same {t':Tr}:MR t t'->MW ctx t ctx t'
 |tail {c:List Tr} {t':Tr}:c=ctx.tail->MR t t'->MW ctx t c t'
 |last {u t':Tr}:j0 m0 u=true/\dT u<=4->MR t t'->MW ctx t (ctx++ [u]) t'
 |long {c:List Tr} {t':Tr}:(∃q,c=ctx++gO q (.mk 6 0 []))->MR t t'->MW ctx t c t'
 |any {t':Tr}:j0 m0 t'=true/\dT t'<=4->MW ctx t ctx t'
 |kid {k n:Int} {ks:List Tr} {i:Nat} {u:Tr}:t= .mk k n ks->i < ks.length->j0 m0 u=true/\dT u<=4->MW ctx t ctx (.mk k n (ks.set i u))
theorem Mf(t:Tr)(w:aK)(g m:Nat)(v:Value)(f:Lies w t v)(j:cnt t<=400)(a:Rd w g m)(hm:m < 900000):aV prog 70 #[.pointer (some ⟨g,0,none⟩),v] w (DQ w g (m+2) (MR t)):=
 (eE t w g m v f (by omega) a hm).mono fun e k ⟨d,u,b,c,i⟩=>⟨d,u,b,c.2,i⟩
theorem Qt(w:aK)(g m:Nat)(a:Rd w g m)(hm:m < 900000):aV prog 69 #[.pointer (some ⟨g,0,none⟩)] w (DQ w g (m+1024) fun t=> j0 m0 t=true/\dT t<=4):=Sv w g m a hm
theorem bH(ctx:List Tr)(t:Tr)(p:aK)(g m:Nat)(v:Value)(A:Option Addr)(cap:Nat)(hR:Rd p g m)(hm:m < 700000)(hT:InT p (fun b=> g < b) t v)(l8:cnt t<=400)(hK:InK p (fun b=> g < b) A ctx)(hl:ctx.length<=cap)(hc:cap<=aU)(mi:ctx.length<=5)(C7: ∀x∈ctx,cnt x<=400):
 aV prog 55 #[.pointer (some ⟨g,0,none⟩),.slice A ctx.length cap,v] p (CQ p g (m+1030) fun c t'=> c.length<=9/\MW ctx t c t'):=by
 have d:=hdq hR.lt;have ye:=hdq C7;have hcc:=hc;unfold aU at hcc;obtain⟨k,n,ks⟩:=t;obtain⟨At,ct,rfl,-,-,-⟩:=InT.mk_iff.1 hT;obtain⟨KL,Aq⟩: ∃L,ks.length=L:=⟨_,rfl⟩;obtain⟨N,hN⟩: ∃N,ctx.length=N:=⟨_,rfl⟩;rw[Aq] at hT⊢;rw[hN] at hl mi⊢;have HKL:=hdq Aq;have f:=hdq hN;have I:=hdq l8;have HK:=hdq hK;clear C7 Aq hN l8 hK;go_enter func55,ntmps55;go_wp2_with fail;generalize hw:aN (aN p _) _=B;obtain⟨bt,br,s,e⟩:=box2 hw.symm;have F:=hdq (both (fun w' (X:OfD (p.heap.size+1) g B w')=>(((hT.bound).later e).dw X (fun b G=> by omega)).lies') (Xl (r:=p.heap.size+1) (g:=g) bt (by omega) (by have:=d.out;omega)));have Z:=(St.of hR e).id;have Y:X0 [g] p B:=oE e;have tx:g < B.heap.size:=by have:=d.out;have:=e.size;omega
 have HE:=hdq e;have hs1:B.heap.size=p.heap.size+1+1:=by rw[<-hw];simp
 have gv:xb B (B.alloc (.cells #[] 25)) (.slice (some ⟨p.heap.size+1+1,0,none⟩) 0 0) []:=by rw[<-hs1];exact xb.lit (xr B)
 clear hw hR hT bt e s hs1;have C:=(xr B).alloc (.cells #[] 25);generalize aN B _=wq at gv C⊢
 go_loopw [8,9] (fun v i wr=> ∃j,j<=N/\i= .int .i64 j/\xb B wr v (ctx.take j)/\Ext B wr) (fun _ i _=> N -(intOf i).toNat)
 case atStart=> exact⟨0,bT _,rfl,gv,C⟩
 case round=>
  obtain⟨j,hj,rfl,hG,hx⟩:=hrel;clear gv C;by_cases D:j < N
  · obtain⟨b,o,rfl,G,hk⟩:=fd HK.out (by rw[f.out];omega)
    obtain⟨x1,x2,x3,x4,x5,K0⟩:=hk j (by rw[f.out];omega);rw[Nat.mul_comm] at K0;have K1:=K0.ex (HE.out.trans hx);have hj':(j:Int) <(N:Int):=by omega
    have gj:=hdq (show ctx.take (j+1)=ctx.take j++ [kd ctx j] from by rw[<-List.take_append_getElem (by rw[f.out];exact D)];unfold kd;rw[List.getD_eq_getElem?_getD,List.getElem?_eq_getElem (by rw[f.out];exact D)];rfl);have HLEN:=hdq (show(ctx.take j).length < 1000 by rw[List.length_take];omega);clear hk K0;go_wp2_with fail;refine(Yg _ _ _ K1.l (by have:=ye.out _ (Li (ks:=ctx) (i:=j) (by rw[f.out];exact D));omega)).mono ?_;rintro e w2 ⟨u,rfl,hM,e2⟩;obtain⟨a1,a2,a3,a4,a5,rfl⟩:=hM.three';have e3:=e2.alloc (.cells #[.int .i64 a1,.int .i64 a2,.slice a3 a4 a5] 25);clear K1;go_wp2_with (at_builtin;refine mH (.tmp 17) (.tmp 23) hG e3 hx ((j2.made hM).ext ((xr w2).alloc (.cells #[.int .i64 a1,.int .i64 a2,.slice a3 a4 a5] 25))) HLEN.out rfl rfl rfl rfl (aR _ _) ?_)
    intro A5 c5 w5 B9 x7;generalize (ctx.take j++ [kd ctx j]).length=LL at B9⊢;go_wp2_with fail
    go_roundw
    case rel=> exact⟨j+1,by omega,by go_num,by rw[gj.out];exact B9,Below.trans (hx.trans e3) x7⟩
    case measure=> simp[intOf];omega
  obtain rfl:N=j:=by omega
  rw[fN (by rw[f.out];omega)] at hG;obtain⟨A2,c2,rfl,q1,V,U,K⟩:=hG.row;rw[f.out] at q1 hG⊢;replace K:InK wr (fun b=> p.heap.size+1 < b) A2 ctx:=InK.mono (fun b G=> Z.news br b G.1) (fun _ _=> rfl) K;replace Z:=Z.up hx;have hcm:=V;unfold aU at hcm;have ju:=Z.1.size;clear D hl hc hcc HK;go_wp2_with fail;refine(Pf _ g _ 30 Z.2 (by omega)).mono ?_;rintro e w2 ⟨x,rfl,C,-,R,o⟩;replace Z:=Z.tr o R;replace K:=K.dl o (La (by have:=d.out;omega));replace hG:=hG.on o tx;replace ju:=Z.1.size;clear o R C hx;have Q:=F.out _ Z.off;by_cases h0:x=0
  · subst h0
    obtain rfl|hN0:=jO N
    · go_wp2_with fail
      refine(Mf _ _ g _ _ Q.1 I.out Z.2 (by omega)).mono ?_;intro e H h;obtain⟨J,O,M,T,S,ca,rfl,z,a,o,Z⟩:=h.at Z br;replace K:=K.dl o (La (by have:=d.out;omega));clear o;replace Q:=F.out _ Z.off;have R:=cbn (Z.br br (by have:=d.out;omega));go_wp2_with fail;exact db (A:=A2) (n:=0) (c:=c2) (by simp[aQ,results55,go_sem,R]) (⟨(by have:=f.out;omega),.same z⟩) f.out ⟨q1,V,U⟩ K a Y Z d.out (aP _) (by omega) rfl
    have dn:(0:Int) <(N:Int):=by omega
    obtain⟨gb,ob,rfl,-,-⟩:=fd K (by rw[f.out];exact hN0);obtain⟨t1,P,di⟩: ∃t1 P,ctx=t1::P:=by
     cases hh:ctx with
     |nil=> have:=f.out;rw[hh] at this;simp at this;omega
     |cons t1 P=> exact⟨t1,P,rfl⟩
    obtain⟨N1,rfl⟩: ∃N1,N=N1+1:=⟨N - 1,by omega⟩;have W:=hdq (show P.length=N1/\P=ctx.tail from⟨by have:=f.out;rw[di] at this;simpa using this,by rw[di];rfl⟩);rw[di] at K;replace K:=InK.tail K;clear hG di U;go_wp2_with fail
    · obtain rfl:N1=0:=by omega
      replace K:InK w2 (fun b=> p.heap.size+1 < b) (some ⟨gb,ob,none⟩) []:=by have:=W.out.1;exact InK.nil' _ _ _
      obtain rfl:P= []:=List.eq_nil_of_length_eq_zero W.out.1;go_wp2_with fail;refine(Mf _ _ g _ _ Q.1 I.out Z.2 (by omega)).mono ?_;intro e H h;obtain⟨J,O,M,T,S,ca,rfl,z,a,o,Z⟩:=h.at Z br;replace K:=K.dl o (La (by have:=d.out;omega));clear o;replace Q:=F.out _ Z.off;have R:=cbn (Z.br br (by have:=d.out;omega));go_wp2_with fail;exact db (A:=(some ⟨gb,ob,none⟩)) (n:=0) (c:=0) (by simp[aQ,results55,go_sem,R]) (⟨by simp,.tail W.out.2 z⟩) rfl ⟨by omega,by unfold aU;omega,fun h=> by cases h⟩ K a Y Z d.out (aP _) (by omega) rfl
    · go_wp2_with fail
      refine(Mf _ _ g _ _ Q.1 I.out Z.2 (by omega)).mono ?_;intro e H h;obtain⟨J,O,M,T,S,ca,rfl,z,a,o,Z⟩:=h.at Z br;replace K:=K.dl o (La (by have:=d.out;omega));clear o;replace Q:=F.out _ Z.off;have R:=cbn (Z.br br (by have:=d.out;omega));go_wp2_with fail;exact db (A:=(some ⟨gb,ob+3,none⟩)) (n:=N1) (c:=(c2 - 1)) (by simp[aQ,results55,go_sem,R]) (⟨by have:=W.out.1;omega,.tail W.out.2 z⟩) W.out.1 ⟨by omega,by unfold aU;omega,fun h=> by cases h⟩ K a Y Z d.out (aP _) (by omega) rfl
  have t0:(x==0)=false:=beq_eq_false_iff_ne.2 h0;by_cases h1:x=1
  · subst h1
    go_wp2_with fail;refine(Qt _ g _ Z.2 (by omega)).mono ?_;rintro e H ⟨t1,u1,rfl,D1,T9,R,o⟩;obtain⟨a1,a2,a3,a4,a5,rfl⟩:=T9.three;have e:=(xr H).alloc (.cells #[.int .i64 a1,.int .i64 a2,.slice a3 a4 a5] 25);replace Z:=(Z.tr o R).up e;have nc:=hdq D1;clear D1;go_wp2_with (at_builtin;refine UI (.tmp 36) (.tmp 39) hG o tx e ju (T9.ext e) (by rw[f.out];omega) rfl rfl rfl rfl (aR _ _) ?_)
    intro A3 c3 w4 pd hB;replace Z:=Z.below hB (Nat.le_refl _) tx;have HLL:=hdq (show(ctx++ [t1]).length=N+1 from(by rw[List.length_append,f.out];rfl));rw[show ctx.length+1=N+1 by rw[f.out]] at pd⊢;obtain⟨-,zz,K4⟩:=pd.row';replace K4:InK w4 (fun b=> p.heap.size+1 < b) A3 (ctx++ [t1]):=InK.mono (fun b G=> by have:=O1 br;have:=G.1;omega) (fun _ _=> rfl) K4;clear hG K o R e T9 hB pd;have Q:=F.out _ Z.off;go_wp2_with fail;refine(Mf _ _ g _ _ Q.1 I.out Z.2 (by omega)).mono ?_;intro e w5 h;obtain⟨J,O,M,T,S,ca,rfl,z,a,o,Z⟩:=h.at Z br;replace K4:=K4.dl o (La (by have:=d.out;omega));clear o;replace Q:=F.out _ Z.off;have R:=cbn (Z.br br (by have:=d.out;omega));go_wp2_with fail;exact db (A:=A3) (n:=(N+1)) (c:=c3) (by simp[aQ,results55,go_sem,R]) (⟨(by have:=HLL.out;omega),.last nc.out z⟩) HLL.out zz K4 a Y Z d.out (aP _) (by omega) rfl
  have t1:(x==1)=false:=beq_eq_false_iff_ne.2 h1;by_cases h2:x=2
  · subst h2
    clear K;go_wp2_with fail
    go_loopw [8] (fun vo wr=> ∃(v:Value) (L q:Nat),v=vo/\Hid ((ctx++gO q (.mk 6 0 []):List Tr).length=L)/\L<=9/\(∃A c,v= .slice A L c)/\xb B wr v (ctx++gO q (.mk 6 0 []))/\St B wr g (m+1)) (fun v _=> match v with| .slice _ n _=> 10 - n|_=> 0)
    case atStart=> exact⟨_,N,0,rfl,hdq (by simpa using f.out),by omega,⟨_,_,rfl⟩,by simpa using hG,Z⟩
    case round=>
     clear hG Z Q;obtain⟨_,L,q,rfl,HL,hL9,⟨A3,c3,rfl⟩,hG,Z⟩:=hrel;by_cases D:L<=8
     · have hd:decide ((L:Int)<=8)=true:=decide_eq_true (by omega)
       go_wp2_with fail;refine(y15 _ 6 0).mono ?_;rintro e w5 ⟨rfl,e5⟩;have e6:=e5.alloc (.cells #[.int .i64 6,.int .i64 0,.slice none 0 0] 25);have hs:=Z.1.size;replace Z:=Z.up e6;go_wp2_with (at_builtin;refine UI (g:=g) (tr:= .mk 6 0 []) (.tmp 46) (.tmp 48) hG (X0.refl _ _) tx e6 hs (j2.leaf _ _ 6 0) (by rw[HL.out];omega) rfl rfl rfl rfl (aR _ _) ?_)
       intro A4 c4 w7 xc hB;rw[show ctx.length+(q+1)=L+1 by have:=HL.out;simp at this;omega] at xc⊢;rw[<-List.replicate_succ'] at xc;go_wp2_with fail
       go_roundw
       case rel=> exact⟨_,L+1,q+1,rfl,hdq (by have:=HL.out;simp at this⊢;omega),by omega,⟨_,_,rfl⟩,xc,Z.below hB (Nat.le_refl _) tx⟩
       case measure=> simp;omega
     have hd:decide ((L:Int)<=8)=false:=decide_eq_false (by omega);obtain⟨-,U2,K⟩:=hG.row';replace K:InK wr (fun b=> p.heap.size+1 < b) A3 _:=InK.mono (fun b G=> by have:=O1 br;have:=G.1;omega) (fun _ _=> rfl) K;have Q:=F.out _ Z.off;clear hG;go_wp2_with fail;refine(Mf _ _ g _ _ Q.1 I.out Z.2 (by omega)).mono ?_;intro e H h;obtain⟨J,O,M,T,S,ca,rfl,z,a,o,Z⟩:=h.at Z br;replace K:=K.dl o (La (by have:=d.out;omega));clear o;replace Q:=F.out _ Z.off;have R:=cbn (Z.br br (by have:=d.out;omega));go_wp2_with fail;exact db (A:=A3) (n:=L) (c:=c3) (by simp[aQ,results55,go_sem,R]) (⟨(by have:=HL.out;omega),.long ⟨_,rfl⟩ z⟩) HL.out U2 K a Y Z d.out (aP _) (by omega) rfl
  have t2:(x==2)=false:=beq_eq_false_iff_ne.2 h2;by_cases h3:x=3
  · subst h3
    go_wp2_with fail;refine(Qt _ g _ Z.2 (by omega)).mono ?_;intro e H h;obtain⟨J,O,M,T,S,ca,rfl,z,a,o,Z⟩:=h.at Z br;replace K:=K.dl o (La (by have:=d.out;omega));clear o;replace Q:=F.out _ Z.off;have R:=cbn (Z.br br (by have:=d.out;omega));go_wp2_with fail;exact db (by simp[aQ,results55,go_sem,R]) (⟨by have:=f.out;omega,.any z⟩) f.out ⟨q1,V,U⟩ K a Y Z d.out (aP _) (by omega) rfl
  have t3:(x==3)=false:=beq_eq_false_iff_ne.2 h3;by_cases h4:x=4
  · subst h4
    obtain rfl|iu:=jO KL
    · go_wp2_with fail
      refine(Mf _ _ g _ _ Q.1 I.out Z.2 (by omega)).mono ?_;intro e H h;obtain⟨J,O,M,T,S,ca,rfl,z,a,o,Z⟩:=h.at Z br;replace K:=K.dl o (La (by have:=d.out;omega));clear o;replace Q:=F.out _ Z.off;have R:=cbn (Z.br br (by have:=d.out;omega));go_wp2_with fail;exact db (A:=A2) (n:=N) (c:=c2) (by simp[aQ,results55,go_sem,R]) (⟨(by have:=f.out;omega),.same z⟩) f.out ⟨q1,V,U⟩ K a Y Z d.out (aP _) (by omega) rfl
    have E:=K;clear K;have hkp:(0:Int) <(KL:Int):=by omega
    go_wp2_with fail;refine Vd (p.heap.size+1) (by kernel_rfl) Z fun H e Z=> ?_
    replace E:=E.later e;replace Q:=F.out _ Z.off;refine W2 [0,1,2,3,4,5,7] 5 (by kernel_rfl) Z.off (fun _ _ _ _ _ h=> h) ?_
    iterate 7 (refine tk rfl (by rfl) (by intro w X;have Q:=F.out _ X;go_simp;(try with_reducible rfl)) ?_;try simp only[I3])
    refine H0 6 (by kernel_rfl) rfl rfl (fun K hK=> ?_)
    go_simp
    go_at_call 67
    refine(Pf _ g _ (KL:Int) Z.2 (by omega)).mono ?_;rintro e w4 ⟨y,rfl,hy0,hy1,R,o⟩;replace Z:=Z.tr o R;replace E:=E.dl o (La (by have:=d.out;omega));clear o R;replace Q:=F.out _ Z.off;refine hK.out _ _ Z.off (fun _=> ?_);clear hK K;obtain⟨i,rfl⟩:=Int.eq_ofNat_of_zero_le hy0;have hi:i < ks.length:=by rw[HKL.out];omega
    refine H0 8 (by kernel_rfl) rfl rfl (fun K hK=> ?_)
    go_simp
    go_at_call 69
    have hsz:=Z.1.size;refine(Qt _ g _ Z.2 (by omega)).mono ?_;rintro e w5 ⟨tu,uu,rfl,Mu,hu,R,o⟩;obtain⟨_,_,_,_,_,rfl⟩:=hu.three;replace Z:=Z.tr o R;replace E:=E.dl o (La (by have:=d.out;omega));replace Q:=F.out _ Z.off;have hsz':=o.size;clear o R;refine hK.out _ _ Z.off (fun _=> ?_);clear hK K;refine H0 9 (by kernel_rfl) rfl rfl (fun K hK=> ?_)
    go_simp
    go_at_call 101
    refine(zI k n ks tu i w4.heap.size _ _ _ Q.1 hu hsz' hi (by have:=I.out;omega)).mono ?_;rintro e w6 ⟨u,rfl,hx,e⟩;obtain⟨_,_,_,_,_,rfl⟩:=hx.three;replace hx:=InT.mono (S':=fun b=> p.heap.size+1 < b) (fun b G=> by have:=O1 br;have:=G.1;omega) (fun _ _=> rfl) hx;replace Z:=Z.up e;replace E:=E.later e;replace Q:=F.out _ Z.off;refine hK.out _ _ Z.off (fun _=> ?_);clear hK K;refine W2 [10] 1 (by kernel_rfl) Z.off (fun _ _ _ _ _ h=> h) ?_;refine tk rfl (by rfl) (by intro w X;have Q:=F.out _ X;go_simp;(try with_reducible rfl)) ?_
    try simp only[I3]
    have R:=cbn (Z.br br (by have:=d.out;omega));refine H0 11 (by kernel_rfl) rfl rfl (fun K hK=> ?_)
    go_simp
    refine hK.out _ _ (Z.off.set3 _ _ _) (fun _=> ?_);clear hK K;refine wpAnyH_done (by kernel_rfl) ?_ _;go_wp2_with fail;exact db (by simp[aQ,results55,go_sem,R]) (⟨by have:=f.out;omega,.kid rfl hi Mu⟩) f.out ⟨q1,V,U⟩ E hx Y Z d.out (aP _) (by omega) rfl
  have t4:(x==4)=false:=beq_eq_false_iff_ne.2 h4;go_wp2_with fail;refine(Mf _ _ g _ _ Q.1 I.out Z.2 (by omega)).mono ?_;intro e H h;obtain⟨J,O,M,T,S,ca,rfl,z,a,o,Z⟩:=h.at Z br;replace K:=K.dl o (La (by have:=d.out;omega));clear o;replace Q:=F.out _ Z.off;have R:=cbn (Z.br br (by have:=d.out;omega));go_wp2_with fail;exact db (A:=A2) (n:=N) (c:=c2) (by simp[aQ,results55,go_sem,R]) (⟨(by have:=f.out;omega),.same z⟩) f.out ⟨q1,V,U⟩ K a Y Z d.out (aP _) (by omega) rfl
end Go.Proofs.YtckhbnmfnpolgaaGreat
namespace Go.Proofs.YtckhbnmfnpolgaaGreat
open Go.RowKit
open M (Hd HR Cv Ty M2 zc y6 W4 dep DG fvb)
def ac:M.Tm->Bool
 | .pi A B=> decide (dep A<=4)&& ac A && ac B
 | .lam A B=> decide (dep A<=4)&& ac A && ac B
 | .sg A B=> decide (dep A<=4)&& ac A && ac B
 | .app f a=> ac f && ac a
 | .succ a=> ac a
 | .elim p z s a=> j0 m0 (enc (M.stepTy p))&& ac p && ac z && ac s && ac a
 | .id T a b=> ac T && ac a && ac b
 | .refl a=> ac a
 | .move p e a=>(match e with| .refl _=> true| .var _=> decide (cnt (enc p)<=300) |_=> false)&& ac p && ac e && ac a
 | .pair T a b=>(match T with| .sg X Y=> j0 m0 (enc (Y.inst a)) |_=> false)&& ac T && ac a && ac b
 | .fst a=> ac a
 | .snd a=> ac a
 |_=> true
theorem Br: ∀{t:M.Tm},ac t=true->SG t:=by
 intro t
 induction t <;> intro h <;> simp only[ac,Bool.and_eq_true,decide_eq_true_eq] at h <;> simp only[SG] <;> try trivial
 case pi c d=> exact⟨h.1.1,c h.1.2,d h.2⟩
 case lam c d=> exact⟨h.1.1,c h.1.2,d h.2⟩
 case sg c d=> exact⟨h.1.1,c h.1.2,d h.2⟩
 case app c d=> exact⟨c h.1,d h.2⟩
 case succ c=> exact c h
 case refl c=> exact c h
 case fst c=> exact c h
 case snd c=> exact c h
 case id c d g=> exact⟨c h.1.1,d h.1.2,g h.2⟩
 case elim c d g i=> exact⟨h.1.1.1.1,c h.1.1.1.2,d h.1.1.2,g h.1.2,i h.2⟩
 case move p e a c d g=>
  refine⟨?_,c h.1.1.2,d h.1.2,g h.2⟩;have f:=h.1.1.1
  split at f
  · exact .inl ⟨_,rfl⟩
  · exact .inr ⟨⟨_,rfl⟩,of_decide_eq_true f⟩
  · cases f
 case pair T a b c d g=>
  refine⟨?_,c h.1.1.2,d h.1.2,g h.2⟩;have f:=h.1.1.1
  split at f
  · exact⟨_,_,rfl,f⟩
  · cases f
def ao:M.Tm->Nat->M.Tm->M.Tm
 | .pi A B,i,u=> if i=0 then .pi u B else .pi A u
 | .lam A B,i,u=> if i=0 then .lam u B else .lam A u
 | .sg A B,i,u=> if i=0 then .sg u B else .sg A u
 | .app f a,i,u=> if i=0 then .app u a else .app f u
 | .succ a,i,u=> .succ u
 | .elim p z s a,i,u=> if i=0 then .elim u z s a else if i=1 then .elim p u s a else if i=2 then .elim p z u a else .elim p z s u
 | .id T a b,i,u=> if i=0 then .id u a b else if i=1 then .id T u b else .id T a u
 | .refl a,i,u=> .refl u
 | .move p e a,i,u=> if i=0 then .move u e a else if i=1 then .move p u a else .move p e u
 | .pair T a b,i,u=> if i=0 then .pair u a b else if i=1 then .pair T u b else .pair T a u
 | .fst a,i,u=> .fst u
 | .snd a,i,u=> .snd u
 |t,_,_=> t
def ke(G:List M.Tm):M.Tm->Prop
 | .pi A B=> dep A<=3
 | .lam A B=> dep A<=3
 | .sg A B=> dep A<=3
 | .move p e a=> Tg G a
 | .pair T a b=> Tg G b
 |_=> True
theorem tn{G:List M.Tm}{t u:M.Tm}(h:SG t)(hs:ke G t)(d:dep u<=4)(i:Nat):Zv G (ao t i u):=by
 have K:KM u:= .inr d;cases t <;> simp only[ao] <;>(try simp only[SG] at h) <;>(try simp only[ke] at hs) <;>(try trivial)
 case pi A B=>
  split
  · exact⟨K,.inr ⟨h.2.2,d⟩⟩
  · exact⟨.inl h.2.1,.inl ⟨K,hs⟩⟩
 case lam A B=>
  split
  · exact⟨K,.inr ⟨h.2.2,d⟩⟩
  · exact⟨.inl h.2.1,.inl ⟨K,hs⟩⟩
 case sg A B=>
  split
  · exact⟨K,.inr ⟨h.2.2,d⟩⟩
  · exact⟨.inl h.2.1,.inl ⟨K,hs⟩⟩
 case app f a=>
  split
  · exact⟨K,.inl h.2⟩
  · exact⟨.inl h.1,K⟩
 case elim p z s a=>
  split
  · exact⟨.inr d,K,.inl h.2.2.1,.inl h.2.2.2.1,.inl h.2.2.2.2⟩
  · split
    · exact⟨.inl h.1,.inl h.2.1,K,.inl h.2.2.2.1,.inl h.2.2.2.2⟩
    · split
      · exact⟨.inl h.1,.inl h.2.1,.inl h.2.2.1,K,.inl h.2.2.2.2⟩
      · exact⟨.inl h.1,.inl h.2.1,.inl h.2.2.1,.inl h.2.2.2.1,K⟩
 case id T a b=>
  split
  · exact⟨K,.inl h.2.1,.inl h.2.2⟩
  · split
    · exact⟨.inl h.1,K,.inl h.2.2⟩
    · exact⟨.inl h.1,.inl h.2.1,K⟩
 case move p e a=>
  have c:3*cnt (enc u)+1<=256:=Ns u 4 d
  split
  · exact⟨h.1.elim .inl fun q=> .inr (.inl ⟨q.1,by omega⟩),K,.inl h.2.2.1,.inl h.2.2.2⟩
  · split
    · exact⟨.inr (.inr hs),.inl h.2.1,K,.inl h.2.2.2⟩
    · exact⟨h.1.elim .inl fun q=> .inr (.inl q),.inl h.2.1,.inl h.2.2.1,K⟩
 case pair T a b=>
  split
  · exact⟨.inr hs,K,.inl h.2.2.1,.inl h.2.2.2⟩
  · split
    · exact⟨.inr hs,.inl h.2.1,K,.inl h.2.2.2⟩
    · exact⟨.inl h.1,.inl h.2.1,.inl h.2.2.1,K⟩
inductive NC:Nat->M.Tm->Prop where
 |var {n i}:i < n->NC n (.var i)
 |zero {n}:NC n .zero
 |succ {n a}:NC n a->NC n (.succ a)
 |app {n a b}:NC (n+1) a->NC n b->NC n (.app (.lam .nat a) b)
 |elim {n z s a}:NC n z->NC (n+2) s->NC n a->NC n (.elim (.lam .nat .nat) z (.lam .nat (.lam .nat s)) a)
 |fst {n a b}:NC n a->NC n b->NC n (.fst (.pair (.sg .nat .nat) a b))
 |snd {n a b}:NC n a->NC n b->NC n (.snd (.pair (.sg .nat .nat) a b))
 |move {n x a}:NC n x->NC n a->NC n (.move (.lam .nat .nat) (.refl x) a)
theorem NC.sg{n:Nat}{t:M.Tm}(h:NC n t):SG t:=by
 induction h with
 |var=> trivial
 |zero=> trivial
 |succ _ a=> exact a
 |app _ _ a b=> exact⟨⟨by simp[dep],trivial,a⟩,b⟩
 |elim _ _ _ a b c=> exact⟨by decide+kernel,⟨by simp[dep],trivial,trivial⟩,a,⟨by simp[dep],trivial,by simp[dep],trivial,b⟩,c⟩
 |fst _ _ a b=> exact⟨⟨_,_,rfl,by show j0 m0 (enc .nat)=true;decide+kernel⟩,⟨by simp[dep],trivial,trivial⟩,a,b⟩
 |snd _ _ a b=> exact⟨⟨_,_,rfl,by show j0 m0 (enc .nat)=true;decide+kernel⟩,⟨by simp[dep],trivial,trivial⟩,a,b⟩
 |move _ _ a b=> exact⟨.inl ⟨_,rfl⟩,⟨by simp[dep],trivial,trivial⟩,a,b⟩
def NG(n:Nat)(G:List M.Tm):Prop:= ∀i,i < n->M.lk G i=some .nat
theorem NG.cons{n:Nat}{G:List M.Tm}(h:NG n G):NG (n+1) (.nat::G):=fun i hi=> by
 cases i with
 |zero=> rfl
 |succ i=>
  have a:=h i (by omega);unfold M.lk at a⊢;rw[Option.map_eq_some_iff] at a⊢;obtain⟨A,b,c⟩:=a;refine⟨A,by simpa using b, ?_⟩;cases A <;> first|rfl|(cases c;done)
def NT(T:M.Tm):Prop:=T= .nat\/ ∃x,T= .app (.lam .nat .nat) x
theorem NT.hr{T:M.Tm}(h:NT T):HR T .nat:=by
 rcases h with rfl|⟨x,rfl⟩
 · exact .refl _
 · exact .one (.beta _ _ _)
theorem Ku(G:List M.Tm):Ty G (.lam .nat .nat) (.pi .nat (.sort 0)):= .lam .nat (.refl _) .nat
theorem RC(G:List M.Tm):M2 G (.lam .nat .nat):=⟨trivial,trivial,fun B k b d=> by
 cases b
 obtain⟨S,e,a⟩:=d;cases e
 cases a with
 |refl=> decide
 |step c _=> cases c⟩
theorem NT.lev{G:List M.Tm}{T:M.Tm}{k:Nat}(h:NT T)(l:W4 G T k):k=0:=by
 obtain⟨S,a,b⟩:=l;rcases h with rfl|⟨x,rfl⟩
 · cases a
   exact(b.sort_det (.refl _))
 · cases a with
   |app t1 t2 d c=>
    cases t1.det (Ku G)
    cases HR.at t2 (by simp[M.hk])
    exact(b.sort_det (.refl _))
theorem NC.ty{n:Nat}{t:M.Tm}(h:NC n t): ∀{G:List M.Tm},NG n G-> ∃T,Ty G t T/\NT T/\M2 G t:=by
 have j: ∀(G:List M.Tm) (x:M.Tm),Cv .nat (.app (.lam .nat .nat) x):=fun G x=>(show Cv (.app (.lam .nat .nat) x) .nat from(HR.one (.beta .nat .nat x)).cv).symm
 induction h with
 |var hi=> intro G hG;exact⟨_,.var (hG _ hi),.inl rfl,trivial⟩
 |zero=> intro G hG;exact⟨_,.zero,.inl rfl,trivial⟩
 |succ _ a=>
  intro G hG;obtain⟨T,i,l,p⟩:=a hG;exact⟨_,.succ i l.hr.cv,.inl rfl,p⟩
 |app _ _ a b=>
  intro G hG;obtain⟨T,i,l,p⟩:=a hG.cons;obtain⟨U,E,z,J⟩:=b hG;refine⟨_,.app (.lam .nat (.refl _) i) (.refl _) E z.hr.cv, ?_,⟨trivial,p,fun B k g e=> ?_⟩,J⟩
  · rcases l with rfl|⟨x,rfl⟩
    · exact .inl rfl
    · exact .inr ⟨_,rfl⟩
  · cases g.det i
    rw[l.lev e]
    decide
 |elim _ _ _ a b Q=>
  intro G hG;obtain⟨Z,N,C,K⟩:=a hG;obtain⟨S,u,q,H⟩:=b hG.cons.cons;obtain⟨A,f,c,d⟩:=Q hG;have t1:Ty (.nat::G) (.lam .nat _) (.pi .nat S):= .lam .nat (.refl _) u;refine⟨_,.elim (Ku G) (.refl _) (Cv.rfl' _) (.refl _) N (C.hr.cv.trans (j G _)) (.lam .nat (.refl _) t1) ?_ f c.hr.cv,.inr ⟨_,rfl⟩,RC G,K,⟨trivial,⟨trivial,H,fun B k g e=> ?_⟩,fun B k g e=> ?_⟩,d⟩
  · exact Cv.pi (Cv.rfl' _) (Cv.pi (j G (.var 0)) (q.hr.cv.trans (j G (.succ (.var 1)))))
  · cases g.det u
    rw[q.lev e]
    decide
  · cases g.det t1
    obtain⟨X,w,F⟩:=e;cases w with
    |pi y P R I=>
     cases y
     have L:=P.sort_det (.refl _);have O:=q.lev ⟨_,R,I⟩;have V:=F.sort_det (.refl _);subst L O V
     decide
 |fst _ _ a b=>
  intro G hG;obtain⟨A,f,c,d⟩:=a hG;obtain⟨B,o,r,m⟩:=b hG;exact⟨_,.fst (.pair (.sg .nat (.refl _) .nat (.refl _)) (.refl _) (.refl _) f c.hr.cv o r.hr.cv) (.refl _),.inl rfl,⟨trivial,trivial⟩,d,m⟩
 |snd _ _ a b=>
  intro G hG;obtain⟨A,f,c,d⟩:=a hG;obtain⟨B,o,r,m⟩:=b hG;exact⟨_,.snd (.pair (.sg .nat (.refl _) .nat (.refl _)) (.refl _) (.refl _) f c.hr.cv o r.hr.cv) (.refl _),.inl rfl,⟨trivial,trivial⟩,d,m⟩
 |move _ _ a b=>
  intro G hG;obtain⟨X,s,v,D⟩:=a hG;obtain⟨A,f,c,d⟩:=b hG;refine⟨_,.move (.refl s) (.refl _) (Ku G) (.refl _) v.hr.cv.symm (.refl _) f (c.hr.cv.trans (j G _)),.inr ⟨_,rfl⟩,RC G,⟨D,fun B k g e=> ?_⟩,d⟩;cases g.det s
  rw[v.lev e]
  decide
end Go.Proofs.YtckhbnmfnpolgaaGreat
namespace Go.Proofs.YtckhbnmfnpolgaaGreat
open Go.RowKit
attribute [local go_sem ↓] Go.wp_at_zero Go.wp_at_succ
def DC(k:Int):Nat:=if k=3 then 162 else if k=13 then 162 else if k=4 then 163 else if k=5 then 164 else if k=9 then 165 else if k=10 then 166 else if k=12 then 167 else if k=14 then 168 else 169
theorem qE{k:Int}(h:k≠3/\k≠13/\k≠4/\k≠5/\k≠9/\k≠10/\k≠12/\k≠14):(k==3)=false/\(k==13)=false/\(k==4)=false/\(k==5)=false/\(k==9)=false/\(k==10)=false/\(k==12)=false/\(k==14)=false:=by simp[h]
theorem Ve{G:List Tr}{A:Option Addr}{ca:Nat}(a:aK)(N:Nat->Prop)(b:SJ a N A G ca)(k n:Int)(g:List Tr)(v:Value)(hT:InT a N (.mk k n g) v)(r:Tr×Int)(hc: ∀c,c=DC k-> ∀w M v,SJ w M A G ca->InT w M (.mk k n g) v->aV prog c #[.slice A G.length ca,v] w (Qg M w r)):aV prog 129 #[.slice A G.length ca,v] a (Qg N a r):=by
 have l:=hdq hc;clear hc;have j:=hdq hT;obtain⟨At,ct,rfl,-⟩:=InT.mk_iff.1 hT;clear hT;obtain rfl|rfl|rfl|rfl|rfl|rfl|rfl|rfl|hk:k=3\/k=13\/k=4\/k=5\/k=9\/k=10\/k=12\/k=14\/(k≠3/\k≠13/\k≠4/\k≠5/\k≠9/\k≠10/\k≠12/\k≠14):=by omega
 all_goals
  try have t:=qE hk
  go_enter func129,ntmps129;go_wp2_with fail;generalize f:aN (aN a _) _=m;obtain⟨d,br,S⟩:=Yd f.symm b;have F:=hdq (S);have X:=xr m;have Q:=F.out _ X.off;clear S b f;refine(l.out _ (by first|rfl|simp[DC,hk]) _ _ _ Q.1 (j.out.keep (d.trans X) (aP _))).mono ?_;rintro e p ⟨u,o,rfl,hT,i,e⟩;replace X:=X.trans e;replace Q:=F.out _ X.off;obtain⟨_,_,_,_,_,rfl⟩:=hT.three;have R:=cbn (X.blk br);go_wp2_with fail;exact Ua (by simp[aQ,results129,go_sem,R]) (hT) (⟨rfl,i⟩) (d.trans X) (aP _) rfl
theorem AI{f:Nat}(l:k9 f){G:List Tr}{A:Option Addr}{ca:Nat}(g:aK)(N:Nat->Prop)(j:SJ g N A G ca)(o:G.length<=20)(k n:Int)(a:List Tr)(hv:j0 m0 (.mk k n a)=true)(v:Value)(hT:InT g N (.mk k n a) v)(r:Tr×Int)(h:de G (M0 f) (ja (M0 f) G k a) k n a=some r):aV prog 129 #[.slice A G.length ca,v] g (Qg N g r):=by
 obtain⟨u,p,s,-⟩:=Z4 (Z3 hv).1;have m: ∀i,i < a.length->j0 m0 (kd a i)=true:=fun i hi=> Cd (t:= .mk k n a) hv hi
 unfold de at h;rcases qv (show O0 k=(a.length:Int) from u) with⟨rfl,hm⟩ |⟨rfl,hm⟩ |⟨rfl,hm⟩ |⟨rfl,hm⟩ |⟨rfl,hm⟩ |⟨rfl,hm⟩ |⟨rfl,hm⟩ |⟨rfl,hm⟩ |⟨rfl,hm⟩ |⟨rfl,hm⟩ |⟨rfl,hm⟩ |⟨rfl,hm⟩ |⟨rfl,hm⟩ |⟨rfl,hm⟩ |⟨rfl,hm⟩ |⟨rfl,hm⟩
 · exact Ve g N j 1 n a v hT r (fun c hc w M e b d=> by subst hc;exact(sF l w M b n a p s e d (ja (M0 f) G 1 a) r (by simpa using h)).mono fun _ _ q=> q.r)
 · exact Ve g N j 2 n a v hT r (fun c hc w M e b d=> by subst hc;exact(pE l w M b n a p s e d (ja (M0 f) G 2 a) r (by simpa using h)).mono fun _ _ q=> q.r)
 · exact Ve g N j 3 n a v hT r (fun c hc w M e b d=> by subst hc;exact(KG l w M b o 3 n a hm (m 0 (by omega)) e d (ja (M0 f) G 3 a) rfl rfl r (by simpa using h)).mono fun _ _ q=> q.r)
 · exact Ve g N j 4 n a v hT r (fun c hc w M e b d=> by subst hc;exact DH l w M b o 4 n a hm (m 0 (by omega)) e d (ja (M0 f) G 4 a) rfl rfl r (by simpa using h))
 · exact Ve g N j 5 n a v hT r (fun c hc w M e b d=> by subst hc;exact(gE l w M b 5 n a hm (m 1 (by omega)) e d (ja (M0 f) G 5 a) rfl rfl r (by simpa using h)).mono fun _ _ q=> q.r)
 · exact Ve g N j 6 n a v hT r (fun c hc w M e b d=> by subst hc;exact(cE l w M b n a e d (ja (M0 f) G 6 a) r (by simpa using h)).mono fun _ _ q=> q.r)
 · exact Ve g N j 7 n a v hT r (fun c hc w M e b d=> by subst hc;exact(dI l w M b n a e d (ja (M0 f) G 7 a) r (by simpa using h)).mono fun _ _ q=> q.r)
 · exact Ve g N j 8 n a v hT r (fun c hc w M e b d=> by subst hc;exact ID l w M b n a hm e d (ja (M0 f) G 8 a) rfl r (by simpa using h))
 · exact Ve g N j 9 n a v hT r (fun c hc w M e b d=> by subst hc;exact AE l w M b 9 n a hm (m 0 (by omega)) e d (ja (M0 f) G 9 a) rfl rfl rfl rfl r (by simpa using h))
 · exact Ve g N j 10 n a v hT r (fun c hc w M e b d=> by subst hc;exact DF l w M b 10 n a hm e d (ja (M0 f) G 10 a) rfl rfl rfl r (by simpa using h))
 · exact Ve g N j 11 n a v hT r (fun c hc w M e b d=> by subst hc;exact FF l w M b n a hm e d (ja (M0 f) G 11 a) rfl r (by simpa using h))
 · exact Ve g N j 12 n a v hT r (fun c hc w M e b d=> by subst hc;exact kI l w M b 12 n a hm e d (ja (M0 f) G 12 a) rfl rfl rfl r (by simpa using h))
 · exact Ve g N j 13 n a v hT r (fun c hc w M e b d=> by subst hc;exact(KG l w M b o 13 n a hm (m 0 (by omega)) e d (ja (M0 f) G 13 a) rfl rfl r (by simpa using h)).mono fun _ _ q=> q.r)
 · exact Ve g N j 14 n a v hT r (fun c hc w M e b d=> by subst hc;exact WE l w M b 14 n a hm (m 1 (by omega)) e d (ja (M0 f) G 14 a) rfl rfl rfl r (by simpa using h))
 · exact Ve g N j 15 n a v hT r (fun c hc w M e b d=> by subst hc;exact(RI l w M b 15 n a (by decide) hm (qs hv hm (by decide)) e d (ja (M0 f) G 15 a) rfl r (by simpa using h)).mono fun _ _ q=> q.r)
 · exact Ve g N j 16 n a v hT r (fun c hc w M e b d=> by subst hc;exact(RI l w M b 16 n a (by decide) hm (qs hv hm (by decide)) e d (ja (M0 f) G 16 a) rfl r (by simpa using h)).mono fun _ _ q=> q.r)
theorem TF(t:Tr):(j0 m0 t=true/\mkV t=(t,0))\/(j0 m0 t=false/\mkV t=(E2,2)):=by
 unfold mkV;cases h:j0 m0 t
 · exact .inr ⟨rfl,by simp[h]⟩
 · exact .inl ⟨rfl,by simp[h]⟩
theorem LF{f:Nat}(J:k9 f):k9 (f+1):=by
 intro G t r h B N A ca v w hT;obtain⟨k,n,p⟩:=t;unfold M0 at h;obtain⟨V,b⟩: ∃z,j0 m0 (.mk k n p)=z:=⟨_,rfl⟩;have j:=hdq (fun W (O:Ext B W)=> b▸oi (.mk k n p) W v (hT.lies'.ext O));rw[b] at h;obtain⟨At,ct,rfl,-⟩:=InT.mk_iff.1 hT;have K:=hdq hT;clear hT;go_enter func89,ntmps89;go_wp2_with fail;generalize g:aN (aN B _) _=C;obtain⟨a,br,S⟩:=Yd g.symm w;have F:=hdq (S);have X:=xr C;have Q:=F.out _ X.off;clear S w g;refine(j.out C a).mono ?_;rintro e Y ⟨rfl,e⟩;replace X:=X.trans e;replace Q:=F.out _ X.off;cases V with
 |false=>
  have H:=hdq (show r=(E2,2) by simpa using h.symm);clear h b j;have R:=cbn (X.blk br);go_wp2_with fail;exact ya (by simp[aQ,results89,go_sem,R]) (H.out) ((a.trans X).set3 (aP _) _ _ _) rfl
 |true=>
  by_cases hl:20 < G.length
  · have t1:decide ((20:Int) <(G.length:Int))=true:=decide_eq_true (by omega)
    have H:=hdq (show r=(E2,2) by simpa[hl] using h.symm);clear h b hl j;have R:=cbn (X.blk br);go_wp2_with fail;exact ya (by simp[aQ,results89,go_sem,R]) (H.out) ((a.trans X).set3 (aP _) _ _ _) rfl
  have t1:decide ((20:Int) <(G.length:Int))=false:=decide_eq_false (by omega);rw[if_neg (by simp[hl])] at h;obtain⟨s,c,x,y,D⟩:=k8 h;have U:=hdq (Nat.not_lt.1 hl);have I:=hdq b;clear h b hl j;go_wp2_with fail;refine(AI J _ _ Q.1 U.out k n p I.out _ (K.out.keep (a.trans X) (aP _)) (s,c) x.out).mono ?_;rintro e T ⟨u,i,rfl,hT,q,e⟩;replace X:=X.trans e;replace Q:=F.out _ X.off;obtain⟨_,_,_,_,_,rfl⟩:=hT.three;have HR:=hdq q;clear q t1;simp only;obtain⟨P,t⟩ |rfl:=cz c
  · have R:=cbn (X.blk br)
    have M:=fun o=> cbn ((X.alloc o).blk br)
    go_wp2_with fail;exact ya (by simp[aQ,results89,go_sem,R,M]) (D.out P.out) (((a.trans X).alloc _).set3 (aP _) _ _ _) rfl
  obtain rfl:i=s:=HR.out (by trivial);have l:=hdq (show r=mkV i by simpa using(y.out (by trivial)).symm);clear x y D HR;go_wp2_with fail;generalize g:aN T _=L;obtain⟨E,e⟩:=nb g;replace F:=hdq (both (rb F.out (X.trans e)) (both (U9 E (X.ne br)) (hT.up e)));replace X:=X.trans e;replace br:=X.blk br;replace a:=a.trans X;replace X:=xr L;replace Q:=F.out _ X.off;clear g E e;clear hT;refine(oi i _ _ Q.2.2.lies').mono ?_;rintro e Z ⟨rfl,e⟩;replace X:=X.trans e;replace Q:=F.out _ X.off;rcases TF i with⟨d,hm⟩ |⟨d,hm⟩
  · have m:=hdq (l.out.trans hm)
    rw[d];clear d hm l;have R:=cbn (X.blk br);go_wp2_with fail;exact n7 (by simp[aQ,results89,go_sem,R]) (Q.2.2) (m.out) (a.trans X) (aP _) rfl
  have m:=hdq (l.out.trans hm);rw[d];clear d hm l;have R:=cbn (X.blk br);go_wp2_with fail;exact ya (by simp[aQ,results89,go_sem,R]) (m.out) ((a.trans X).set3 (aP _) _ _ _) rfl
theorem Fr: ∀f,k9 f
 |0=> fun G t r h=> by unfold M0 at h;cases h
 |f+1=> LF (Fr f)
abbrev AllN:Nat->Prop:=fun _=> True
theorem InK.all{w:aK}{A:Option Addr}{a:List Tr}(h:q24 w A a):InK w AllN A a:=InK.mono (fun _ _=> trivial) (fun _ _=> rfl) h
theorem InT.all{w:aK}{t:Tr}{v:Value}(h:Lies w t v):InT w AllN t v:=InT.mono (fun _ _=> trivial) (fun _ _=> rfl) h
theorem sv{f:Nat}{w:aK}{A:Option Addr}{ca:Nat}{G:List Tr}(c:G.length<=ca)(a:ca<=aU)(hv: ∀x∈G,j0 m0 x=true)(d:G.length<=20):Ce w A ca G (N0 f G):=
 fun W N hx hN hG t v ht b r hr=> Lz f W N A ca G t v r hN c a hG hv d ht b hr
theorem KH(f:Nat)(a:List Tr)(w:aK)(A:Option Addr)(cap:Nat)(hK:q24 w A a)(hl:a.length<=cap)(hc:cap<=aU)(r:Tr×Int)(h:Zc f a=some r):
 aV prog 92 #[.slice A a.length cap] w fun e n=> e= .returned (.int .i64 r.2)/\Ext w n:=by
 have P:=hc;unfold aU at P;by_cases V:a.length<=8
 · have d8:decide ((8:Int) <(a.length:Int))=false:=decide_eq_false (by omega)
   have v:Hid (∀t∈a,j0 m0 t=false->r.2=3):=hdq fun t ht hv=> by
    have:Xb a=false:=by
     unfold Xb;rw[Bool.and_eq_false_iff];refine .inr ?_;simp only[Bool.not_eq_false',List.any_eq_true];exact⟨t,ht,by simp[hv]⟩
    unfold Zc at h;rw[if_neg (by simp[this])] at h;have e:(E2,(3:Int))=r:=by simpa using h
    rw[<-e]
   have HG:Hid ((∀t∈a,j0 m0 t=true)->ccR f [] a=some r):=hdq fun hv=> by
    have:Xb a=true:=by
     unfold Xb;rw[Bool.and_eq_true,decide_eq_true_eq];refine⟨V, ?_⟩;simp only[Bool.not_eq_true',List.any_eq_false];intro t ht;simp[hv t ht]
    unfold Zc at h
    rwa [if_pos this] at h
   clear h;have HK:=hdq hK;go_enter func92,ntmps92;go_wp2_with fail
   go_loopw [14] (fun i wr=> ∃j:Nat,j<=a.length/\i= .int .i64 j/\Hid (∀t∈a.take j,j0 m0 t=true)/\Ext w wr) (fun i _=> a.length -(intOf i).toNat)
   case atStart=> exact⟨0,bT _,rfl,hdq (by simp),xr _⟩
   case round=>
    obtain⟨j,hj,rfl,m,hx⟩:=hrel;by_cases d:j < a.length
    · obtain⟨b,o,k,l,u,p,j15,rfl,O,K,I,S,l1,m1,X,F,M⟩:=hK.get hx d
      have hj':(j:Int) <(a.length:Int):=by omega
      have hE:=hx.alloc (.cells #[.int .i64 k,.int .i64 l,.slice u j15.length p] 25);have y:=(xr wr).alloc (.cells #[.int .i64 k,.int .i64 l,.slice u j15.length p] 25);have HV:=hdq (kr (.mk k l j15) _ _ (F.ext y));go_wp2_with fail;refine HV.out.mono ?_;rintro e w1 ⟨rfl,B⟩;have z:=hE.trans B;obtain⟨U,N⟩: ∃U,j0 m0 (.mk k l j15)=U:=⟨_,rfl⟩;rw[N];have Z:=hdq N;clear N HV K I S;cases U with
      |false=>
       go_wp2_with fail;go_ret;exact⟨by rw[v.out _ M Z.out];rfl,z⟩
      |true=>
       have Em:Hid (∀t∈a.take (j+1),j0 m0 t=true):=hdq fun t ht=> by
        rw[gP d,List.mem_append,List.mem_singleton] at ht;rcases ht with ht|rfl
        · exact m.out t ht
        · rw[O.out];exact Z.out
       go_wp2_with fail
       go_roundw
       case rel=> exact⟨j+1,by omega,by go_num,Em,z⟩
       case measure=> simp[intOf];omega
    · have hv: ∀t∈a,j0 m0 t=true:=by
       have:=m.out
       rwa [fN (by omega)] at this
      have Y3:=hdq hv;have Hu:=hdq (HG.out hv);clear hv m HG v;go_wp2_with fail
      go_loopw [24] (fun i wr=> ∃j:Nat,j<=a.length/\i= .int .i64 j/\Hid (ccR f (a.take j) (a.drop j)=some r)/\Ext w wr) (fun i _=> a.length -(intOf i).toNat)
      case atStart=> exact⟨0,bT _,rfl,Hu,hx⟩
      case round=>
       obtain⟨i,hi,rfl,HR,hx2⟩:=hrel;by_cases d:i < a.length
       · obtain⟨b,o,k,l,u,p,j15,rfl,O,K,I,S,l1,m1,X,F,M⟩:=hK.get hx2 d
         have hi':(i:Int) <(a.length:Int):=by omega
         have U0:(0:Int)<=(i:Int):=by omega
         have hic:(i:Int)<=(cap:Int):=by omega
         have y:=(xr wr).alloc (.cells #[.int .i64 k,.int .i64 l,.slice u j15.length p] 25);have Y9:=aR wr (.cells #[.int .i64 k,.int .i64 l,.slice u j15.length p] 25);obtain⟨sA,c,B,Y,h3⟩:=Xd (by
          have:=HR.out;rw[List.drop_eq_getElem_cons d,ccR] at this;exact this)
         rw[O.out] at B;have J:=hdq B;have Q:=hdq Y;have v:=hdq h3;have N5:=hdq F;have R:=hdq (fun(W:aK) (T:Ext wr W)=> Ot (wC:=wr) (sv (f:=f) (w:=wr) (A:=some ⟨b,o,none⟩) (ca:=cap) (G:=a.take i) (by simp;omega) hc (fun x hm=> Y3.out x (List.mem_of_mem_take hm)) (by simp;omega)) W AllN T (fun _ _=> trivial) ((InK.all (HK.out.ext (hx2.trans T))).take i) (.mk k l j15) _ (InT.all (N5.out.ext T)) (Y3.out _ M) _ J.out);rw[show(a.take i).length=i from by simp;omega] at R;clear B Y h3 F X HR;go_wp2_with fail;obtain⟨H,E,D,-,-,-⟩:=own3 Y9;have C:=hdq (show∀n,Ext (wr.alloc (.cells #[.int .i64 k,.int .i64 l,.slice u j15.length p] 25)) n->n.cell? ⟨wr.heap.size,0,none⟩=some (.int .i64 k)/\n.cell? ⟨wr.heap.size,1,none⟩=some (.int .i64 l)/\n.cell? ⟨wr.heap.size,2,none⟩=some (.slice u j15.length p) from fun n h=>⟨h.cell H,h.cell E,h.cell D⟩);obtain⟨q,L⟩: ∃q,wr.alloc (.cells #[.int .i64 k,.int .i64 l,.slice u j15.length p] 25)=q:=⟨_,rfl⟩;rw[L] at C y H E D;rw[L];obtain⟨g,hg⟩: ∃g,wr.heap.size=g:=⟨_,rfl⟩;rw[hg] at C H E D⊢;clear L hg Y9 K I S
         go_region_held3 (fun n=> n.cell? ⟨g,0,none⟩=some (.int .i64 k)/\n.cell? ⟨g,1,none⟩=some (.int .i64 l)/\n.cell? ⟨g,2,none⟩=some (.slice u j15.length p))
          (first|exact C.out _ ((xr _).drew) |exact C.out _ ((xr _).drew.trans e2))
          (first|(go_at_call 49;refine(R.out _ (y.trans (xr _).drew)).mono ?_;rintro e w2 ⟨rfl,e2⟩))
         have z:=(hx2.trans y).trans ((xr _).drew.trans e2);clear C H E D R;by_cases s:c=0
         · subst s
           have I9:=hdq (Q.out rfl);rw[<-gP d] at I9;clear J Q v;go_wp2_with fail
           go_roundw
           case rel=> exact⟨i+1,by omega,by go_num,I9,z⟩
           case measure=> simp[intOf];omega
         · have t1:(c !=0)=true:=by simp[s]
           have hr:=v.out s;clear J Q v s;go_wp2_with fail;go_ret;exact⟨by rw[hr];rfl,z⟩
       · have hr:r=(E2,0):=by
          have:=HR.out;rw[List.drop_of_length_le (by omega)] at this
          simpa[ccR] using this.symm
         go_wp2_with fail;go_ret;exact⟨by rw[hr];rfl,hx2⟩
 · have d8:decide ((8:Int) <(a.length:Int))=true:=decide_eq_true (by omega)
   have hr:r.2=3:=by
    unfold Zc Xb at h;rw[decide_eq_false V,Bool.false_and,if_neg (by simp)] at h;have e:(E2,(3:Int))=r:=by simpa using h
    rw[<-e]
   go_enter func92,ntmps92;go_wp2_with fail;go_ret;exact⟨by rw[hr];rfl,xr _⟩
