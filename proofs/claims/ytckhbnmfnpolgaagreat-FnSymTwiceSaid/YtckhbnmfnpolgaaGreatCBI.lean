/-
  Lemmas towards the law, 35: D5m, MNat, SInfK, InfL.
-/
import Derived.Test.YtckhbnmfnpolgaaGreatCBH
open List renaming replicate->gX,take_of_length_le->fU,take_succ_eq_append_getElem->gY
open Go renaming World->aL,Calls->aX,maxLen->aV,heap_alloc_new->aS,results->aR
open Go.World renaming alloc->aO
open Nat renaming zero_le->bV,eq_zero_or_pos->kX,le_succ->aQ
open Go.Proofs.Tryz
set_option linter.all false
set_option maxHeartbeats 40000000
set_option maxRecDepth 100000
namespace Go.Proofs.YtckhbnmfnpolgaaGreat
open Go Go.RowKit
attribute [local go_sem ↓] Go.wp_at_zero Go.wp_at_succ
inductive MW (ctx:List Tr) (t:Tr):List Tr->Tr->Prop where
 |same {t':Tr}:MR t t'->MW ctx t ctx t'
 |tail {c:List Tr} {t':Tr}:c=ctx.tail->MR t t'->MW ctx t c t'
 |last {u t':Tr}:j0 D0 u=true/\dT u<=4->MR t t'->MW ctx t (ctx++ [u]) t'
 |long {c:List Tr} {t':Tr}:(∃q,c=ctx++gX q (.mk 6 0 []))->MR t t'->MW ctx t c t'
 |any {t':Tr}:j0 D0 t'=true/\dT t'<=4->MW ctx t ctx t'
 |kid {k n:Int} {ks:List Tr} {i:Nat} {u:Tr}:t= .mk k n ks->i < ks.length->j0 D0 u=true/\dT u<=4->MW ctx t ctx (.mk k n (ks.set i u))
theorem mf(t:Tr)(w:aL)(g m:Nat)(v:Value)(f:Lies w t v)(k:cnt t<=400)(b:Rd w g m)(hm:m < 900000):aX prog 70 #[.pointer (some ⟨g,0,none⟩),v] w (DQ w g (m+2) (MR t)):=
 (RE t w g m v f (by omega) b hm).mono fun e j ⟨a,u,i,c,d⟩=>⟨a,u,i,c.2,d⟩
theorem Ou(w:aL)(g m:Nat)(a:Rd w g m)(hm:m < 900000):aX prog 69 #[.pointer (some ⟨g,0,none⟩)] w (DQ w g (m+1024) fun t=> j0 D0 t=true/\dT t<=4):=Wu w g m a hm
theorem gH(ctx:List Tr)(t:Tr)(p:aL)(g m:Nat)(v:Value)(A:Option Addr)(cap:Nat)(hR:Rd p g m)(hm:m < 700000)(hT:InT p (fun b=> g < b) t v)(l8:cnt t<=400)(hK:InK p (fun b=> g < b) A ctx)(hl:ctx.length<=cap)(hc:cap<=aV)(ov:ctx.length<=5)(C0: ∀x∈ctx,cnt x<=400):
 aX prog 55 #[.pointer (some ⟨g,0,none⟩),.slice A ctx.length cap,v] p (CQ p g (m+1030) fun c t'=> c.length<=9/\MW ctx t c t'):=by
 have d:=hdq hR.lt;have zt:=hdq C0;have hcc:=hc;unfold aV at hcc;obtain⟨k,n,ks⟩:=t;obtain⟨At,ct,rfl,-,-,-⟩:=InT.mk_iff.1 hT;obtain⟨KL,Dv⟩: ∃L,ks.length=L:=⟨_,rfl⟩;obtain⟨N,hN⟩: ∃N,ctx.length=N:=⟨_,rfl⟩;rw[Dv] at hT⊢;rw[hN] at hl ov⊢;have HKL:=hdq Dv;have f:=hdq hN;have ii:=hdq l8;have HK:=hdq hK;clear C0 Dv hN l8 hK;go_enter func55,ntmps55;go_wp2_with fail;generalize hw:aO (aO p _) _=B;obtain⟨bt,br,s,e⟩:=box2 hw.symm;have F:=hdq (both (fun w' (X:OfD (p.heap.size+1) g B w')=>(((hT.bound).later e).dw X (fun b H=> by omega)).lies') (nq (r:=p.heap.size+1) (g:=g) bt (by omega) (by have:=d.out;omega)));have Z:=(St.of hR e).id;have Y:D1 [g] p B:=oE e;have wj:g < B.heap.size:=by have:=d.out;have:=e.size;omega
 have HE:=hdq e;have hs1:B.heap.size=p.heap.size+1+1:=by rw[<-hw];simp
 have ly:kb B (B.alloc (.cells #[] 25)) (.slice (some ⟨p.heap.size+1+1,0,none⟩) 0 0) []:=by rw[<-hs1];exact kb.lit (xr B)
 clear hw hR hT bt e s hs1;have C:=(xr B).alloc (.cells #[] 25);generalize aO B _=wq at ly C⊢
 go_loopw [8,9] (fun v i wr=> ∃j,j<=N/\i= .int .i64 j/\kb B wr v (ctx.take j)/\Ext B wr) (fun _ i _=> N -(intOf i).toNat)
 case atStart=> exact⟨0,bV _,rfl,ly,C⟩
 case round=>
  obtain⟨j,hj,rfl,hG,hx⟩:=hrel;clear ly C;by_cases D:j < N
  · obtain⟨b,o,rfl,H,hk⟩:=Cd HK.out (by rw[f.out];omega)
    obtain⟨x1,x2,x3,x4,x5,K0⟩:=hk j (by rw[f.out];omega);rw[Nat.mul_comm] at K0;have K1:=K0.ex (HE.out.trans hx);have hj':(j:Int) <(N:Int):=by omega
    have jg:=hdq (show ctx.take (j+1)=ctx.take j++ [kd ctx j] from by rw[<-List.take_append_getElem (by rw[f.out];exact D)];unfold kd;rw[List.getD_eq_getElem?_getD,List.getElem?_eq_getElem (by rw[f.out];exact D)];rfl);have HLEN:=hdq (show(ctx.take j).length < 1000 by rw[List.length_take];omega);clear hk K0;go_wp2_with fail;refine(Vf _ _ _ K1.l (by have:=zt.out _ (Xi (ks:=ctx) (i:=j) (by rw[f.out];exact D));omega)).mono ?_;rintro e w2 ⟨u,rfl,hM,e2⟩;obtain⟨a1,a2,a3,a4,a5,rfl⟩:=hM.three';have e3:=e2.alloc (.cells #[.int .i64 a1,.int .i64 a2,.slice a3 a4 a5] 25);clear K1;go_wp2_with (at_builtin;refine yH (.tmp 17) (.tmp 23) hG e3 hx ((Y1.made hM).ext ((xr w2).alloc (.cells #[.int .i64 a1,.int .i64 a2,.slice a3 a4 a5] 25))) HLEN.out rfl rfl rfl rfl (aS _ _) ?_)
    intro A5 c5 w5 C3 y7;generalize (ctx.take j++ [kd ctx j]).length=LL at C3⊢;go_wp2_with fail
    go_roundw
    case rel=> exact⟨j+1,by omega,by go_num,by rw[jg.out];exact C3,Below.trans (hx.trans e3) y7⟩
    case measure=> simp[intOf];omega
  obtain rfl:N=j:=by omega
  rw[fU (by rw[f.out];omega)] at hG;obtain⟨A2,c2,rfl,W,T,U,K⟩:=hG.row;rw[f.out] at W hG⊢;replace K:InK wr (fun b=> p.heap.size+1 < b) A2 ctx:=InK.mono (fun b H=> Z.news br b H.1) (fun _ _=> rfl) K;replace Z:=Z.up hx;have hcm:=T;unfold aV at hcm;have mb:=Z.1.size;clear D hl hc hcc HK;go_wp2_with fail;refine(Yf _ g _ 30 Z.2 (by omega)).mono ?_;rintro e w2 ⟨x,rfl,C,-,R,o⟩;replace Z:=Z.tr o R;replace K:=K.dl o (Na (by have:=d.out;omega));replace hG:=hG.on o wj;replace mb:=Z.1.size;clear o R C hx;have Q:=F.out _ Z.off;by_cases h0:x=0
  · subst h0
    obtain rfl|hN0:=kX N
    · go_wp2_with fail
      refine(mf _ _ g _ _ Q.1 ii.out Z.2 (by omega)).mono ?_;intro e E h;obtain⟨P,J,S,O,I,ca,rfl,z,a,o,Z⟩:=h.at Z br;replace K:=K.dl o (Na (by have:=d.out;omega));clear o;replace Q:=F.out _ Z.off;have R:=cbn (Z.br br (by have:=d.out;omega));go_wp2_with fail;exact Za (A:=A2) (n:=0) (c:=c2) (by simp[aR,results55,go_sem,R]) (⟨(by have:=f.out;omega),.same z⟩) f.out ⟨W,T,U⟩ K a Y Z d.out (aQ _) (by omega) rfl
    have dn:(0:Int) <(N:Int):=by omega
    obtain⟨gb,ob,rfl,-,-⟩:=Cd K (by rw[f.out];exact hN0);obtain⟨t1,M,gl⟩: ∃t1 M,ctx=t1::M:=by
     cases hh:ctx with
     |nil=> have:=f.out;rw[hh] at this;simp at this;omega
     |cons t1 M=> exact⟨t1,M,rfl⟩
    obtain⟨N1,rfl⟩: ∃N1,N=N1+1:=⟨N - 1,by omega⟩;have V:=hdq (show M.length=N1/\M=ctx.tail from⟨by have:=f.out;rw[gl] at this;simpa using this,by rw[gl];rfl⟩);rw[gl] at K;replace K:=InK.tail K;clear hG gl U;go_wp2_with fail
    · obtain rfl:N1=0:=by omega
      replace K:InK w2 (fun b=> p.heap.size+1 < b) (some ⟨gb,ob,none⟩) []:=by have:=V.out.1;exact InK.nil' _ _ _
      obtain rfl:M= []:=List.eq_nil_of_length_eq_zero V.out.1;go_wp2_with fail;refine(mf _ _ g _ _ Q.1 ii.out Z.2 (by omega)).mono ?_;intro e E h;obtain⟨P,J,S,O,I,ca,rfl,z,a,o,Z⟩:=h.at Z br;replace K:=K.dl o (Na (by have:=d.out;omega));clear o;replace Q:=F.out _ Z.off;have R:=cbn (Z.br br (by have:=d.out;omega));go_wp2_with fail;exact Za (A:=(some ⟨gb,ob,none⟩)) (n:=0) (c:=0) (by simp[aR,results55,go_sem,R]) (⟨by simp,.tail V.out.2 z⟩) rfl ⟨by omega,by unfold aV;omega,fun h=> by cases h⟩ K a Y Z d.out (aQ _) (by omega) rfl
    · go_wp2_with fail
      refine(mf _ _ g _ _ Q.1 ii.out Z.2 (by omega)).mono ?_;intro e E h;obtain⟨P,J,S,O,I,ca,rfl,z,a,o,Z⟩:=h.at Z br;replace K:=K.dl o (Na (by have:=d.out;omega));clear o;replace Q:=F.out _ Z.off;have R:=cbn (Z.br br (by have:=d.out;omega));go_wp2_with fail;exact Za (A:=(some ⟨gb,ob+3,none⟩)) (n:=N1) (c:=(c2 - 1)) (by simp[aR,results55,go_sem,R]) (⟨by have:=V.out.1;omega,.tail V.out.2 z⟩) V.out.1 ⟨by omega,by unfold aV;omega,fun h=> by cases h⟩ K a Y Z d.out (aQ _) (by omega) rfl
  have t0:(x==0)=false:=beq_eq_false_iff_ne.2 h0;by_cases h1:x=1
  · subst h1
    go_wp2_with fail;refine(Ou _ g _ Z.2 (by omega)).mono ?_;rintro e E ⟨t1,u1,rfl,C4,W4,R,o⟩;obtain⟨a1,a2,a3,a4,a5,rfl⟩:=W4.three;have e:=(xr E).alloc (.cells #[.int .i64 a1,.int .i64 a2,.slice a3 a4 a5] 25);replace Z:=(Z.tr o R).up e;have rr:=hdq C4;clear C4;go_wp2_with (at_builtin;refine IJ (.tmp 36) (.tmp 39) hG o wj e mb (W4.ext e) (by rw[f.out];omega) rfl rfl rfl rfl (aS _ _) ?_)
    intro A3 c3 w4 qm hB;replace Z:=Z.below hB (Nat.le_refl _) wj;have HLL:=hdq (show(ctx++ [t1]).length=N+1 from(by rw[List.length_append,f.out];rfl));rw[show ctx.length+1=N+1 by rw[f.out]] at qm⊢;obtain⟨-,Dd,K4⟩:=qm.row';replace K4:InK w4 (fun b=> p.heap.size+1 < b) A3 (ctx++ [t1]):=InK.mono (fun b H=> by have:=O1 br;have:=H.1;omega) (fun _ _=> rfl) K4;clear hG K o R e W4 hB qm;have Q:=F.out _ Z.off;go_wp2_with fail;refine(mf _ _ g _ _ Q.1 ii.out Z.2 (by omega)).mono ?_;intro e w5 h;obtain⟨P,J,S,O,I,ca,rfl,z,a,o,Z⟩:=h.at Z br;replace K4:=K4.dl o (Na (by have:=d.out;omega));clear o;replace Q:=F.out _ Z.off;have R:=cbn (Z.br br (by have:=d.out;omega));go_wp2_with fail;exact Za (A:=A3) (n:=(N+1)) (c:=c3) (by simp[aR,results55,go_sem,R]) (⟨(by have:=HLL.out;omega),.last rr.out z⟩) HLL.out Dd K4 a Y Z d.out (aQ _) (by omega) rfl
  have t1:(x==1)=false:=beq_eq_false_iff_ne.2 h1;by_cases h2:x=2
  · subst h2
    clear K;go_wp2_with fail
    go_loopw [8] (fun vo wr=> ∃(v:Value) (L q:Nat),v=vo/\Hid ((ctx++gX q (.mk 6 0 []):List Tr).length=L)/\L<=9/\(∃A c,v= .slice A L c)/\kb B wr v (ctx++gX q (.mk 6 0 []))/\St B wr g (m+1)) (fun v _=> match v with| .slice _ n _=> 10 - n|_=> 0)
    case atStart=> exact⟨_,N,0,rfl,hdq (by simpa using f.out),by omega,⟨_,_,rfl⟩,by simpa using hG,Z⟩
    case round=>
     clear hG Z Q;obtain⟨_,L,q,rfl,HL,hL9,⟨A3,c3,rfl⟩,hG,Z⟩:=hrel;by_cases D:L<=8
     · have hd:decide ((L:Int)<=8)=true:=decide_eq_true (by omega)
       go_wp2_with fail;refine(q15 _ 6 0).mono ?_;rintro e w5 ⟨rfl,e5⟩;have e6:=e5.alloc (.cells #[.int .i64 6,.int .i64 0,.slice none 0 0] 25);have hs:=Z.1.size;replace Z:=Z.up e6;go_wp2_with (at_builtin;refine IJ (g:=g) (tr:= .mk 6 0 []) (.tmp 46) (.tmp 48) hG (D1.refl _ _) wj e6 hs (Y1.leaf _ _ 6 0) (by rw[HL.out];omega) rfl rfl rfl rfl (aS _ _) ?_)
       intro A4 c4 w7 zf hB;rw[show ctx.length+(q+1)=L+1 by have:=HL.out;simp at this;omega] at zf⊢;rw[<-List.replicate_succ'] at zf;go_wp2_with fail
       go_roundw
       case rel=> exact⟨_,L+1,q+1,rfl,hdq (by have:=HL.out;simp at this⊢;omega),by omega,⟨_,_,rfl⟩,zf,Z.below hB (Nat.le_refl _) wj⟩
       case measure=> simp;omega
     have hd:decide ((L:Int)<=8)=false:=decide_eq_false (by omega);obtain⟨-,W5,K⟩:=hG.row';replace K:InK wr (fun b=> p.heap.size+1 < b) A3 _:=InK.mono (fun b H=> by have:=O1 br;have:=H.1;omega) (fun _ _=> rfl) K;have Q:=F.out _ Z.off;clear hG;go_wp2_with fail;refine(mf _ _ g _ _ Q.1 ii.out Z.2 (by omega)).mono ?_;intro e E h;obtain⟨P,J,S,O,I,ca,rfl,z,a,o,Z⟩:=h.at Z br;replace K:=K.dl o (Na (by have:=d.out;omega));clear o;replace Q:=F.out _ Z.off;have R:=cbn (Z.br br (by have:=d.out;omega));go_wp2_with fail;exact Za (A:=A3) (n:=L) (c:=c3) (by simp[aR,results55,go_sem,R]) (⟨(by have:=HL.out;omega),.long ⟨_,rfl⟩ z⟩) HL.out W5 K a Y Z d.out (aQ _) (by omega) rfl
  have t2:(x==2)=false:=beq_eq_false_iff_ne.2 h2;by_cases h3:x=3
  · subst h3
    go_wp2_with fail;refine(Ou _ g _ Z.2 (by omega)).mono ?_;intro e E h;obtain⟨P,J,S,O,I,ca,rfl,z,a,o,Z⟩:=h.at Z br;replace K:=K.dl o (Na (by have:=d.out;omega));clear o;replace Q:=F.out _ Z.off;have R:=cbn (Z.br br (by have:=d.out;omega));go_wp2_with fail;exact Za (by simp[aR,results55,go_sem,R]) (⟨by have:=f.out;omega,.any z⟩) f.out ⟨W,T,U⟩ K a Y Z d.out (aQ _) (by omega) rfl
  have t3:(x==3)=false:=beq_eq_false_iff_ne.2 h3;by_cases h4:x=4
  · subst h4
    obtain rfl|kg:=kX KL
    · go_wp2_with fail
      refine(mf _ _ g _ _ Q.1 ii.out Z.2 (by omega)).mono ?_;intro e E h;obtain⟨P,J,S,O,I,ca,rfl,z,a,o,Z⟩:=h.at Z br;replace K:=K.dl o (Na (by have:=d.out;omega));clear o;replace Q:=F.out _ Z.off;have R:=cbn (Z.br br (by have:=d.out;omega));go_wp2_with fail;exact Za (A:=A2) (n:=N) (c:=c2) (by simp[aR,results55,go_sem,R]) (⟨(by have:=f.out;omega),.same z⟩) f.out ⟨W,T,U⟩ K a Y Z d.out (aQ _) (by omega) rfl
    have G:=K;clear K;have hkp:(0:Int) <(KL:Int):=by omega
    go_wp2_with fail;refine Wd (p.heap.size+1) (by kernel_rfl) Z fun E e Z=> ?_
    replace G:=G.later e;replace Q:=F.out _ Z.off;refine O2 [0,1,2,3,4,5,7] 5 (by kernel_rfl) Z.off (fun _ _ _ _ _ h=> h) ?_
    iterate 7 (refine tk rfl (by rfl) (by intro w X;have Q:=F.out _ X;go_simp;(try with_reducible rfl)) ?_;try simp only[N2])
    refine O0 6 (by kernel_rfl) rfl rfl (fun K hK=> ?_)
    go_simp
    go_at_call 67
    refine(Yf _ g _ (KL:Int) Z.2 (by omega)).mono ?_;rintro e w4 ⟨y,rfl,hy0,hy1,R,o⟩;replace Z:=Z.tr o R;replace G:=G.dl o (Na (by have:=d.out;omega));clear o R;replace Q:=F.out _ Z.off;refine hK.out _ _ Z.off (fun _=> ?_);clear hK K;obtain⟨i,rfl⟩:=Int.eq_ofNat_of_zero_le hy0;have hi:i < ks.length:=by rw[HKL.out];omega
    refine O0 8 (by kernel_rfl) rfl rfl (fun K hK=> ?_)
    go_simp
    go_at_call 69
    have hsz:=Z.1.size;refine(Ou _ g _ Z.2 (by omega)).mono ?_;rintro e w5 ⟨tu,uu,rfl,Mu,hu,R,o⟩;obtain⟨_,_,_,_,_,rfl⟩:=hu.three;replace Z:=Z.tr o R;replace G:=G.dl o (Na (by have:=d.out;omega));replace Q:=F.out _ Z.off;have hsz':=o.size;clear o R;refine hK.out _ _ Z.off (fun _=> ?_);clear hK K;refine O0 9 (by kernel_rfl) rfl rfl (fun K hK=> ?_)
    go_simp
    go_at_call 101
    refine(JH k n ks tu i w4.heap.size _ _ _ Q.1 hu hsz' hi (by have:=ii.out;omega)).mono ?_;rintro e w6 ⟨u,rfl,hx,e⟩;obtain⟨_,_,_,_,_,rfl⟩:=hx.three;replace hx:=InT.mono (S':=fun b=> p.heap.size+1 < b) (fun b H=> by have:=O1 br;have:=H.1;omega) (fun _ _=> rfl) hx;replace Z:=Z.up e;replace G:=G.later e;replace Q:=F.out _ Z.off;refine hK.out _ _ Z.off (fun _=> ?_);clear hK K;refine O2 [10] 1 (by kernel_rfl) Z.off (fun _ _ _ _ _ h=> h) ?_;refine tk rfl (by rfl) (by intro w X;have Q:=F.out _ X;go_simp;(try with_reducible rfl)) ?_
    try simp only[N2]
    have R:=cbn (Z.br br (by have:=d.out;omega));refine O0 11 (by kernel_rfl) rfl rfl (fun K hK=> ?_)
    go_simp
    refine hK.out _ _ (Z.off.set3 _ _ _) (fun _=> ?_);clear hK K;refine wpAnyH_done (by kernel_rfl) ?_ _;go_wp2_with fail;exact Za (by simp[aR,results55,go_sem,R]) (⟨by have:=f.out;omega,.kid rfl hi Mu⟩) f.out ⟨W,T,U⟩ G hx Y Z d.out (aQ _) (by omega) rfl
  have t4:(x==4)=false:=beq_eq_false_iff_ne.2 h4;go_wp2_with fail;refine(mf _ _ g _ _ Q.1 ii.out Z.2 (by omega)).mono ?_;intro e E h;obtain⟨P,J,S,O,I,ca,rfl,z,a,o,Z⟩:=h.at Z br;replace K:=K.dl o (Na (by have:=d.out;omega));clear o;replace Q:=F.out _ Z.off;have R:=cbn (Z.br br (by have:=d.out;omega));go_wp2_with fail;exact Za (A:=A2) (n:=N) (c:=c2) (by simp[aR,results55,go_sem,R]) (⟨(by have:=f.out;omega),.same z⟩) f.out ⟨W,T,U⟩ K a Y Z d.out (aQ _) (by omega) rfl
end Go.Proofs.YtckhbnmfnpolgaaGreat
namespace Go.Proofs.YtckhbnmfnpolgaaGreat
open Go.RowKit
open M (Hd HR Cv Ty Lim Wb y6 U4 dep DG fvb)
def ec:M.Tm->Bool
 | .pi A B=> decide (dep A<=4)&& ec A && ec B
 | .lam A B=> decide (dep A<=4)&& ec A && ec B
 | .sg A B=> decide (dep A<=4)&& ec A && ec B
 | .app f a=> ec f && ec a
 | .succ a=> ec a
 | .elim p z s a=> j0 D0 (enc (M.stepTy p))&& ec p && ec z && ec s && ec a
 | .id T a b=> ec T && ec a && ec b
 | .refl a=> ec a
 | .move p e a=>(match e with| .refl _=> true| .var _=> decide (cnt (enc p)<=300) |_=> false)&& ec p && ec e && ec a
 | .pair T a b=>(match T with| .sg X Y=> j0 D0 (enc (Y.inst a)) |_=> false)&& ec T && ec a && ec b
 | .fst a=> ec a
 | .snd a=> ec a
 |_=> true
theorem mw: ∀{t:M.Tm},ec t=true->SG t:=by
 intro t
 induction t <;> intro h <;> simp only[ec,Bool.and_eq_true,decide_eq_true_eq] at h <;> simp only[SG] <;> try trivial
 case pi c d=> exact⟨h.1.1,c h.1.2,d h.2⟩
 case lam c d=> exact⟨h.1.1,c h.1.2,d h.2⟩
 case sg c d=> exact⟨h.1.1,c h.1.2,d h.2⟩
 case app c d=> exact⟨c h.1,d h.2⟩
 case succ c=> exact c h
 case refl c=> exact c h
 case fst c=> exact c h
 case snd c=> exact c h
 case id c d f=> exact⟨c h.1.1,d h.1.2,f h.2⟩
 case elim c d f i=> exact⟨h.1.1.1.1,c h.1.1.1.2,d h.1.1.2,f h.1.2,i h.2⟩
 case move p e a c d f=>
  refine⟨?_,c h.1.1.2,d h.1.2,f h.2⟩;have g:=h.1.1.1
  split at g
  · exact .inl ⟨_,rfl⟩
  · exact .inr ⟨⟨_,rfl⟩,of_decide_eq_true g⟩
  · cases g
 case pair T a b c d f=>
  refine⟨?_,c h.1.1.2,d h.1.2,f h.2⟩;have g:=h.1.1.1
  split at g
  · exact⟨_,_,rfl,g⟩
  · cases g
def Po:M.Tm->Nat->M.Tm->M.Tm
 | .pi A B,i,u=> if i=0 then .pi u B else .pi A u
 | .lam A B,i,u=> if i=0 then .lam u B else .lam A u
 | .sg A B,i,u=> if i=0 then .sg u B else .sg A u
 | .app f a,i,u=> if i=0 then .app u a else .app f u
 | .succ a,i,u=> .succ u
 | .elim p z s a,i,u=> if i=0 then .elim u z s a else if i=1 then .elim p u s a else if i=2 then .elim p z u a else .elim p z s u
 | .id T a b,i,u=> if i=0 then .id u a b else if i=1 then .id T u b else .id T a u
 | .refl a,i,u=> .refl u
 | .move p e a,i,u=> if i=0 then .move u e a else if i=1 then .move p u a else .move p e u
 | .pair T a b,i,u=> if i=0 then .pair u a b else if i=1 then .pair T u b else .pair T a u
 | .fst a,i,u=> .fst u
 | .snd a,i,u=> .snd u
 |t,_,_=> t
def oe(G:List M.Tm):M.Tm->Prop
 | .pi A B=> dep A<=3
 | .lam A B=> dep A<=3
 | .sg A B=> dep A<=3
 | .move p e a=> Yg G a
 | .pair T a b=> Yg G b
 |_=> True
theorem pm{G:List M.Tm}{t u:M.Tm}(h:SG t)(hs:oe G t)(d:dep u<=4)(i:Nat):Dx G (Po t i u):=by
 have K:KM u:= .inr d;cases t <;> simp only[Po] <;>(try simp only[SG] at h) <;>(try simp only[oe] at hs) <;>(try trivial)
 case pi A B=>
  split
  · exact⟨K,.inr ⟨h.2.2,d⟩⟩
  · exact⟨.inl h.2.1,.inl ⟨K,hs⟩⟩
 case lam A B=>
  split
  · exact⟨K,.inr ⟨h.2.2,d⟩⟩
  · exact⟨.inl h.2.1,.inl ⟨K,hs⟩⟩
 case sg A B=>
  split
  · exact⟨K,.inr ⟨h.2.2,d⟩⟩
  · exact⟨.inl h.2.1,.inl ⟨K,hs⟩⟩
 case app f a=>
  split
  · exact⟨K,.inl h.2⟩
  · exact⟨.inl h.1,K⟩
 case elim p z s a=>
  split
  · exact⟨.inr d,K,.inl h.2.2.1,.inl h.2.2.2.1,.inl h.2.2.2.2⟩
  · split
    · exact⟨.inl h.1,.inl h.2.1,K,.inl h.2.2.2.1,.inl h.2.2.2.2⟩
    · split
      · exact⟨.inl h.1,.inl h.2.1,.inl h.2.2.1,K,.inl h.2.2.2.2⟩
      · exact⟨.inl h.1,.inl h.2.1,.inl h.2.2.1,.inl h.2.2.2.1,K⟩
 case id T a b=>
  split
  · exact⟨K,.inl h.2.1,.inl h.2.2⟩
  · split
    · exact⟨.inl h.1,K,.inl h.2.2⟩
    · exact⟨.inl h.1,.inl h.2.1,K⟩
 case move p e a=>
  have c:3*cnt (enc u)+1<=256:=Xw u 4 d
  split
  · exact⟨h.1.elim .inl fun q=> .inr (.inl ⟨q.1,by omega⟩),K,.inl h.2.2.1,.inl h.2.2.2⟩
  · split
    · exact⟨.inr (.inr hs),.inl h.2.1,K,.inl h.2.2.2⟩
    · exact⟨h.1.elim .inl fun q=> .inr (.inl q),.inl h.2.1,.inl h.2.2.1,K⟩
 case pair T a b=>
  split
  · exact⟨.inr hs,K,.inl h.2.2.1,.inl h.2.2.2⟩
  · split
    · exact⟨.inr hs,.inl h.2.1,K,.inl h.2.2.2⟩
    · exact⟨.inl h.1,.inl h.2.1,.inl h.2.2.1,K⟩
inductive NC:Nat->M.Tm->Prop where
 |var {n i}:i < n->NC n (.var i)
 |zero {n}:NC n .zero
 |succ {n a}:NC n a->NC n (.succ a)
 |app {n a b}:NC (n+1) a->NC n b->NC n (.app (.lam .nat a) b)
 |elim {n z s a}:NC n z->NC (n+2) s->NC n a->NC n (.elim (.lam .nat .nat) z (.lam .nat (.lam .nat s)) a)
 |fst {n a b}:NC n a->NC n b->NC n (.fst (.pair (.sg .nat .nat) a b))
 |snd {n a b}:NC n a->NC n b->NC n (.snd (.pair (.sg .nat .nat) a b))
 |move {n x a}:NC n x->NC n a->NC n (.move (.lam .nat .nat) (.refl x) a)
theorem NC.sg{n:Nat}{t:M.Tm}(h:NC n t):SG t:=by
 induction h with
 |var=> trivial
 |zero=> trivial
 |succ _ a=> exact a
 |app _ _ a b=> exact⟨⟨by simp[dep],trivial,a⟩,b⟩
 |elim _ _ _ a b c=> exact⟨by decide+kernel,⟨by simp[dep],trivial,trivial⟩,a,⟨by simp[dep],trivial,by simp[dep],trivial,b⟩,c⟩
 |fst _ _ a b=> exact⟨⟨_,_,rfl,by show j0 D0 (enc .nat)=true;decide+kernel⟩,⟨by simp[dep],trivial,trivial⟩,a,b⟩
 |snd _ _ a b=> exact⟨⟨_,_,rfl,by show j0 D0 (enc .nat)=true;decide+kernel⟩,⟨by simp[dep],trivial,trivial⟩,a,b⟩
 |move _ _ a b=> exact⟨.inl ⟨_,rfl⟩,⟨by simp[dep],trivial,trivial⟩,a,b⟩
def NG(n:Nat)(G:List M.Tm):Prop:= ∀i,i < n->M.lk G i=some .nat
theorem NG.cons{n:Nat}{G:List M.Tm}(h:NG n G):NG (n+1) (.nat::G):=fun i hi=> by
 cases i with
 |zero=> rfl
 |succ i=>
  have a:=h i (by omega);unfold M.lk at a⊢;rw[Option.map_eq_some_iff] at a⊢;obtain⟨A,b,c⟩:=a;refine⟨A,by simpa using b, ?_⟩;cases A <;> first|rfl|(cases c;done)
def NT(T:M.Tm):Prop:=T= .nat\/ ∃x,T= .app (.lam .nat .nat) x
theorem NT.hr{T:M.Tm}(h:NT T):HR T .nat:=by
 rcases h with rfl|⟨x,rfl⟩
 · exact .refl _
 · exact .one (.beta _ _ _)
theorem Zw(G:List M.Tm):Ty G (.lam .nat .nat) (.pi .nat (.sort 0)):= .lam .nat (.refl _) .nat
theorem dB(G:List M.Tm):Lim G (.lam .nat .nat):=⟨trivial,trivial,fun B k e b=> by
 cases e
 obtain⟨S,c,a⟩:=b;cases c
 cases a with
 |refl=> decide
 |step d _=> cases d⟩
theorem NT.lev{G:List M.Tm}{T:M.Tm}{k:Nat}(h:NT T)(l:U4 G T k):k=0:=by
 obtain⟨S,b,a⟩:=l;rcases h with rfl|⟨x,rfl⟩
 · cases b
   exact(a.sort_det (.refl _))
 · cases b with
   |app t1 t2 d c=>
    cases t1.det (Zw G)
    cases HR.at t2 (by simp[M.hk])
    exact(a.sort_det (.refl _))
theorem NC.ty{n:Nat}{t:M.Tm}(h:NC n t): ∀{G:List M.Tm},NG n G-> ∃T,Ty G t T/\NT T/\Lim G t:=by
 have j: ∀(G:List M.Tm) (x:M.Tm),Cv .nat (.app (.lam .nat .nat) x):=fun G x=>(show Cv (.app (.lam .nat .nat) x) .nat from(HR.one (.beta .nat .nat x)).cv).symm
 induction h with
 |var hi=> intro G hG;exact⟨_,.var (hG _ hi),.inl rfl,trivial⟩
 |zero=> intro G hG;exact⟨_,.zero,.inl rfl,trivial⟩
 |succ _ a=>
  intro G hG;obtain⟨T,l,i,m⟩:=a hG;exact⟨_,.succ l i.hr.cv,.inl rfl,m⟩
 |app _ _ a b=>
  intro G hG;obtain⟨T,l,i,m⟩:=a hG.cons;obtain⟨U,E,J,P⟩:=b hG;refine⟨_,.app (.lam .nat (.refl _) l) (.refl _) E J.hr.cv, ?_,⟨trivial,m,fun B k g d=> ?_⟩,P⟩
  · rcases i with rfl|⟨x,rfl⟩
    · exact .inl rfl
    · exact .inr ⟨_,rfl⟩
  · cases g.det l
    rw[i.lev d]
    decide
 |elim _ _ _ a b y=>
  intro G hG;obtain⟨Z,z,C,Q⟩:=a hG;obtain⟨S,v,p,F⟩:=b hG.cons.cons;obtain⟨A,f,c,e⟩:=y hG;have t1:Ty (.nat::G) (.lam .nat _) (.pi .nat S):= .lam .nat (.refl _) v;refine⟨_,.elim (Zw G) (.refl _) (Cv.rfl' _) (.refl _) z (C.hr.cv.trans (j G _)) (.lam .nat (.refl _) t1) ?_ f c.hr.cv,.inr ⟨_,rfl⟩,dB G,Q,⟨trivial,⟨trivial,F,fun B k g d=> ?_⟩,fun B k g d=> ?_⟩,e⟩
  · exact Cv.pi (Cv.rfl' _) (Cv.pi (j G (.var 0)) (p.hr.cv.trans (j G (.succ (.var 1)))))
  · cases g.det v
    rw[p.lev d]
    decide
  · cases g.det t1
    obtain⟨X,K,O⟩:=d;cases K with
    |pi R D w N=>
     cases R
     have V:=D.sort_det (.refl _);have L:=p.lev ⟨_,w,N⟩;have I:=O.sort_det (.refl _);subst V L I
     decide
 |fst _ _ a b=>
  intro G hG;obtain⟨A,f,c,e⟩:=a hG;obtain⟨B,q,o,r⟩:=b hG;exact⟨_,.fst (.pair (.sg .nat (.refl _) .nat (.refl _)) (.refl _) (.refl _) f c.hr.cv q o.hr.cv) (.refl _),.inl rfl,⟨trivial,trivial⟩,e,r⟩
 |snd _ _ a b=>
  intro G hG;obtain⟨A,f,c,e⟩:=a hG;obtain⟨B,q,o,r⟩:=b hG;exact⟨_,.snd (.pair (.sg .nat (.refl _) .nat (.refl _)) (.refl _) (.refl _) f c.hr.cv q o.hr.cv) (.refl _),.inl rfl,⟨trivial,trivial⟩,e,r⟩
 |move _ _ a b=>
  intro G hG;obtain⟨X,u,s,H⟩:=a hG;obtain⟨A,f,c,e⟩:=b hG;refine⟨_,.move (.refl u) (.refl _) (Zw G) (.refl _) s.hr.cv.symm (.refl _) f (c.hr.cv.trans (j G _)),.inr ⟨_,rfl⟩,dB G,⟨H,fun B k g d=> ?_⟩,e⟩;cases g.det u
  rw[s.lev d]
  decide
end Go.Proofs.YtckhbnmfnpolgaaGreat
namespace Go.Proofs.YtckhbnmfnpolgaaGreat
open Go.RowKit
attribute [local go_sem ↓] Go.wp_at_zero Go.wp_at_succ
def dC(k:Int):Nat:=if k=3 then 162 else if k=13 then 162 else if k=4 then 163 else if k=5 then 164 else if k=9 then 165 else if k=10 then 166 else if k=12 then 167 else if k=14 then 168 else 169
theorem UG{k:Int}(h:k≠3/\k≠13/\k≠4/\k≠5/\k≠9/\k≠10/\k≠12/\k≠14):(k==3)=false/\(k==13)=false/\(k==4)=false/\(k==5)=false/\(k==9)=false/\(k==10)=false/\(k==12)=false/\(k==14)=false:=by simp[h]
theorem Ye{G:List Tr}{A:Option Addr}{ca:Nat}(a:aL)(N:Nat->Prop)(f:SJ a N A G ca)(k n:Int)(d:List Tr)(v:Value)(hT:InT a N (.mk k n d) v)(r:Tr×Int)(hc: ∀c,c=dC k-> ∀w M v,SJ w M A G ca->InT w M (.mk k n d) v->aX prog c #[.slice A G.length ca,v] w (Ug M w r)):aX prog 129 #[.slice A G.length ca,v] a (Ug N a r):=by
 have m:=hdq hc;clear hc;have i:=hdq hT;obtain⟨At,ct,rfl,-⟩:=InT.mk_iff.1 hT;clear hT;obtain rfl|rfl|rfl|rfl|rfl|rfl|rfl|rfl|hk:k=3\/k=13\/k=4\/k=5\/k=9\/k=10\/k=12\/k=14\/(k≠3/\k≠13/\k≠4/\k≠5/\k≠9/\k≠10/\k≠12/\k≠14):=by omega
 all_goals
  try have t:=UG hk
  go_enter func129,ntmps129;go_wp2_with fail;generalize b:aO (aO a _) _=l;obtain⟨g,br,S⟩:=ie b.symm f;have F:=hdq (S);have X:=xr l;have Q:=F.out _ X.off;clear S f b;refine(m.out _ (by first|rfl|simp[dC,hk]) _ _ _ Q.1 (i.out.keep (g.trans X) (aQ _))).mono ?_;rintro e o ⟨u,p,rfl,hT,j,e⟩;replace X:=X.trans e;replace Q:=F.out _ X.off;obtain⟨_,_,_,_,_,rfl⟩:=hT.three;have R:=cbn (X.blk br);go_wp2_with fail;exact Va (by simp[aR,results129,go_sem,R]) (hT) (⟨rfl,j⟩) (g.trans X) (aQ _) rfl
theorem wF{f:Nat}(l:a9 f){G:List Tr}{A:Option Addr}{ca:Nat}(g:aL)(N:Nat->Prop)(j:SJ g N A G ca)(o:G.length<=20)(k n:Int)(a:List Tr)(hv:j0 D0 (.mk k n a)=true)(v:Value)(hT:InT g N (.mk k n a) v)(r:Tr×Int)(h:ke G (Q0 f) (ia (Q0 f) G k a) k n a=some r):aX prog 129 #[.slice A G.length ca,v] g (Ug N g r):=by
 obtain⟨u,s,p,-⟩:=Z4 (Z3 hv).1;have m: ∀i,i < a.length->j0 D0 (kd a i)=true:=fun i hi=> Vc (t:= .mk k n a) hv hi
 unfold ke at h;rcases Nu (show U0 k=(a.length:Int) from u) with⟨rfl,hm⟩ |⟨rfl,hm⟩ |⟨rfl,hm⟩ |⟨rfl,hm⟩ |⟨rfl,hm⟩ |⟨rfl,hm⟩ |⟨rfl,hm⟩ |⟨rfl,hm⟩ |⟨rfl,hm⟩ |⟨rfl,hm⟩ |⟨rfl,hm⟩ |⟨rfl,hm⟩ |⟨rfl,hm⟩ |⟨rfl,hm⟩ |⟨rfl,hm⟩ |⟨rfl,hm⟩
 · exact Ye g N j 1 n a v hT r (fun c hc w M b e d=> by subst hc;exact(jG l w M e n a s p b d (ia (Q0 f) G 1 a) r (by simpa using h)).mono fun _ _ q=> q.r)
 · exact Ye g N j 2 n a v hT r (fun c hc w M b e d=> by subst hc;exact(eH l w M e n a s p b d (ia (Q0 f) G 2 a) r (by simpa using h)).mono fun _ _ q=> q.r)
 · exact Ye g N j 3 n a v hT r (fun c hc w M b e d=> by subst hc;exact(KG l w M e o 3 n a hm (m 0 (by omega)) b d (ia (Q0 f) G 3 a) rfl rfl r (by simpa using h)).mono fun _ _ q=> q.r)
 · exact Ye g N j 4 n a v hT r (fun c hc w M b e d=> by subst hc;exact AG l w M e o 4 n a hm (m 0 (by omega)) b d (ia (Q0 f) G 4 a) rfl rfl r (by simpa using h))
 · exact Ye g N j 5 n a v hT r (fun c hc w M b e d=> by subst hc;exact(pG l w M e 5 n a hm (m 1 (by omega)) b d (ia (Q0 f) G 5 a) rfl rfl r (by simpa using h)).mono fun _ _ q=> q.r)
 · exact Ye g N j 6 n a v hT r (fun c hc w M b e d=> by subst hc;exact(uJ l w M e n a b d (ia (Q0 f) G 6 a) r (by simpa using h)).mono fun _ _ q=> q.r)
 · exact Ye g N j 7 n a v hT r (fun c hc w M b e d=> by subst hc;exact(FH l w M e n a b d (ia (Q0 f) G 7 a) r (by simpa using h)).mono fun _ _ q=> q.r)
 · exact Ye g N j 8 n a v hT r (fun c hc w M b e d=> by subst hc;exact sJ l w M e n a hm b d (ia (Q0 f) G 8 a) rfl r (by simpa using h))
 · exact Ye g N j 9 n a v hT r (fun c hc w M b e d=> by subst hc;exact AJ l w M e 9 n a hm (m 0 (by omega)) b d (ia (Q0 f) G 9 a) rfl rfl rfl rfl r (by simpa using h))
 · exact Ye g N j 10 n a v hT r (fun c hc w M b e d=> by subst hc;exact GG l w M e 10 n a hm b d (ia (Q0 f) G 10 a) rfl rfl rfl r (by simpa using h))
 · exact Ye g N j 11 n a v hT r (fun c hc w M b e d=> by subst hc;exact PH l w M e n a hm b d (ia (Q0 f) G 11 a) rfl r (by simpa using h))
 · exact Ye g N j 12 n a v hT r (fun c hc w M b e d=> by subst hc;exact uG l w M e 12 n a hm b d (ia (Q0 f) G 12 a) rfl rfl rfl r (by simpa using h))
 · exact Ye g N j 13 n a v hT r (fun c hc w M b e d=> by subst hc;exact(KG l w M e o 13 n a hm (m 0 (by omega)) b d (ia (Q0 f) G 13 a) rfl rfl r (by simpa using h)).mono fun _ _ q=> q.r)
 · exact Ye g N j 14 n a v hT r (fun c hc w M b e d=> by subst hc;exact iJ l w M e 14 n a hm (m 1 (by omega)) b d (ia (Q0 f) G 14 a) rfl rfl rfl r (by simpa using h))
 · exact Ye g N j 15 n a v hT r (fun c hc w M b e d=> by subst hc;exact(jK l w M e 15 n a (by decide) hm (Yt hv hm (by decide)) b d (ia (Q0 f) G 15 a) rfl r (by simpa using h)).mono fun _ _ q=> q.r)
 · exact Ye g N j 16 n a v hT r (fun c hc w M b e d=> by subst hc;exact(jK l w M e 16 n a (by decide) hm (Yt hv hm (by decide)) b d (ia (Q0 f) G 16 a) rfl r (by simpa using h)).mono fun _ _ q=> q.r)
theorem MH(t:Tr):(j0 D0 t=true/\mkV t=(t,0))\/(j0 D0 t=false/\mkV t=(j2,2)):=by
 unfold mkV;cases h:j0 D0 t
 · exact .inr ⟨rfl,by simp[h]⟩
 · exact .inl ⟨rfl,by simp[h]⟩
theorem VI{f:Nat}(O:a9 f):a9 (f+1):=by
 intro G t r h w N A ca v y hT;obtain⟨k,n,m⟩:=t;unfold Q0 at h;obtain⟨L,b⟩: ∃z,j0 D0 (.mk k n m)=z:=⟨_,rfl⟩;have l:=hdq (fun W (M:Ext w W)=> b▸li (.mk k n m) W v (hT.lies'.ext M));rw[b] at h;obtain⟨At,ct,rfl,-⟩:=InT.mk_iff.1 hT;have K:=hdq hT;clear hT;go_enter func89,ntmps89;go_wp2_with fail;generalize d:aO (aO w _) _=D;obtain⟨a,br,S⟩:=ie d.symm y;have F:=hdq (S);have X:=xr D;have Q:=F.out _ X.off;clear S y d;refine(l.out D a).mono ?_;rintro e Y ⟨rfl,e⟩;replace X:=X.trans e;replace Q:=F.out _ X.off;cases L with
 |false=>
  have H:=hdq (show r=(j2,2) by simpa using h.symm);clear h b l;have R:=cbn (X.blk br);go_wp2_with fail;exact D9 (by simp[aR,results89,go_sem,R]) (H.out) ((a.trans X).set3 (aQ _) _ _ _) rfl
 |true=>
  by_cases hl:20 < G.length
  · have t1:decide ((20:Int) <(G.length:Int))=true:=decide_eq_true (by omega)
    have H:=hdq (show r=(j2,2) by simpa[hl] using h.symm);clear h b hl l;have R:=cbn (X.blk br);go_wp2_with fail;exact D9 (by simp[aR,results89,go_sem,R]) (H.out) ((a.trans X).set3 (aQ _) _ _ _) rfl
  have t1:decide ((20:Int) <(G.length:Int))=false:=decide_eq_false (by omega);rw[if_neg (by simp[hl])] at h;obtain⟨s,c,x,E,C⟩:=a7 h;have J:=hdq (Nat.not_lt.1 hl);have T:=hdq b;clear h b hl l;go_wp2_with fail;refine(wF O _ _ Q.1 J.out k n m T.out _ (K.out.keep (a.trans X) (aQ _)) (s,c) x.out).mono ?_;rintro e I ⟨u,j,rfl,hT,q,e⟩;replace X:=X.trans e;replace Q:=F.out _ X.off;obtain⟨_,_,_,_,_,rfl⟩:=hT.three;have HR:=hdq q;clear q t1;simp only;obtain⟨P,t⟩ |rfl:=cz c
  · have R:=cbn (X.blk br)
    have V:=fun o=> cbn ((X.alloc o).blk br)
    go_wp2_with fail;exact D9 (by simp[aR,results89,go_sem,R,V]) (C.out P.out) (((a.trans X).alloc _).set3 (aQ _) _ _ _) rfl
  obtain rfl:j=s:=HR.out (by trivial);have i:=hdq (show r=mkV j by simpa using(E.out (by trivial)).symm);clear x E C HR;go_wp2_with fail;generalize d:aO I _=U;obtain⟨B,e⟩:=nb d;replace F:=hdq (both (rb F.out (X.trans e)) (both (m7 B (X.ne br)) (hT.up e)));replace X:=X.trans e;replace br:=X.blk br;replace a:=a.trans X;replace X:=xr U;replace Q:=F.out _ X.off;clear d B e;clear hT;refine(li j _ _ Q.2.2.lies').mono ?_;rintro e Z ⟨rfl,e⟩;replace X:=X.trans e;replace Q:=F.out _ X.off;rcases MH j with⟨g,hm⟩ |⟨g,hm⟩
  · have p:=hdq (i.out.trans hm)
    rw[g];clear g hm i;have R:=cbn (X.blk br);go_wp2_with fail;exact R6 (by simp[aR,results89,go_sem,R]) (Q.2.2) (p.out) (a.trans X) (aQ _) rfl
  have p:=hdq (i.out.trans hm);rw[g];clear g hm i;have R:=cbn (X.blk br);go_wp2_with fail;exact D9 (by simp[aR,results89,go_sem,R]) (p.out) ((a.trans X).set3 (aQ _) _ _ _) rfl
theorem Sq: ∀f,a9 f
 |0=> fun G t r h=> by unfold Q0 at h;cases h
 |f+1=> VI (Sq f)
abbrev AllN:Nat->Prop:=fun _=> True
theorem InK.all{w:aL}{A:Option Addr}{a:List Tr}(h:y22 w A a):InK w AllN A a:=InK.mono (fun _ _=> trivial) (fun _ _=> rfl) h
theorem InT.all{w:aL}{t:Tr}{v:Value}(h:Lies w t v):InT w AllN t v:=InT.mono (fun _ _=> trivial) (fun _ _=> rfl) h
theorem Ju{f:Nat}{w:aL}{A:Option Addr}{ca:Nat}{G:List Tr}(c:G.length<=ca)(b:ca<=aV)(hv: ∀x∈G,j0 D0 x=true)(d:G.length<=20):ue w A ca G (S0 f G):=
 fun W N hx hN hG t v ht a r hr=> RB f W N A ca G t v r hN c b hG hv d ht a hr
theorem eJ(f:Nat)(a:List Tr)(w:aL)(A:Option Addr)(cap:Nat)(hK:y22 w A a)(hl:a.length<=cap)(hc:cap<=aV)(r:Tr×Int)(h:ccV f a=some r):
 aX prog 92 #[.slice A a.length cap] w fun e n=> e= .returned (.int .i64 r.2)/\Ext w n:=by
 have O:=hc;unfold aV at O;by_cases h8:a.length<=8
 · have d8:decide ((8:Int) <(a.length:Int))=false:=decide_eq_false (by omega)
   have v:Hid (∀t∈a,j0 D0 t=false->r.2=3):=hdq fun t ht hv=> by
    have:Ob a=false:=by
     unfold Ob;rw[Bool.and_eq_false_iff];refine .inr ?_;simp only[Bool.not_eq_false',List.any_eq_true];exact⟨t,ht,by simp[hv]⟩
    unfold ccV at h;rw[if_neg (by simp[this])] at h;have e:(j2,(3:Int))=r:=by simpa using h
    rw[<-e]
   have V:Hid ((∀t∈a,j0 D0 t=true)->ccR f [] a=some r):=hdq fun hv=> by
    have:Ob a=true:=by
     unfold Ob;rw[Bool.and_eq_true,decide_eq_true_eq];refine⟨h8, ?_⟩;simp only[Bool.not_eq_true',List.any_eq_false];intro t ht;simp[hv t ht]
    unfold ccV at h
    rwa [if_pos this] at h
   clear h;have HK:=hdq hK;go_enter func92,ntmps92;go_wp2_with fail
   go_loopw [14] (fun i wr=> ∃j:Nat,j<=a.length/\i= .int .i64 j/\Hid (∀t∈a.take j,j0 D0 t=true)/\Ext w wr) (fun i _=> a.length -(intOf i).toNat)
   case atStart=> exact⟨0,bV _,rfl,hdq (by simp),xr _⟩
   case round=>
    obtain⟨j,hj,rfl,m,hx⟩:=hrel;by_cases d:j < a.length
    · obtain⟨b,o,l,k,u,s,q16,rfl,M,L,U,R,l1,m1,M6,E,N⟩:=hK.get hx d
      have hj':(j:Int) <(a.length:Int):=by omega
      have hE:=hx.alloc (.cells #[.int .i64 l,.int .i64 k,.slice u q16.length s] 25);have z:=(xr wr).alloc (.cells #[.int .i64 l,.int .i64 k,.slice u q16.length s] 25);have HV:=hdq (ro (.mk l k q16) _ _ (E.ext z));go_wp2_with fail;refine HV.out.mono ?_;rintro e w1 ⟨rfl,B⟩;have y:=hE.trans B;obtain⟨Q,K⟩: ∃Q,j0 D0 (.mk l k q16)=Q:=⟨_,rfl⟩;rw[K];have X:=hdq K;clear K HV L U R;cases Q with
      |false=>
       go_wp2_with fail;go_ret;exact⟨by rw[v.out _ N X.out];rfl,y⟩
      |true=>
       have Je:Hid (∀t∈a.take (j+1),j0 D0 t=true):=hdq fun t ht=> by
        rw[gY d,List.mem_append,List.mem_singleton] at ht;rcases ht with ht|rfl
        · exact m.out t ht
        · rw[M.out];exact X.out
       go_wp2_with fail
       go_roundw
       case rel=> exact⟨j+1,by omega,by go_num,Je,y⟩
       case measure=> simp[intOf];omega
    · have hv: ∀t∈a,j0 D0 t=true:=by
       have:=m.out
       rwa [fU (by omega)] at this
      have ae:=hdq hv;have Gc:=hdq (V.out hv);clear hv m V v;go_wp2_with fail
      go_loopw [24] (fun i wr=> ∃j:Nat,j<=a.length/\i= .int .i64 j/\Hid (ccR f (a.take j) (a.drop j)=some r)/\Ext w wr) (fun i _=> a.length -(intOf i).toNat)
      case atStart=> exact⟨0,bV _,rfl,Gc,hx⟩
      case round=>
       obtain⟨i,hi,rfl,HR,hx2⟩:=hrel;by_cases d:i < a.length
       · obtain⟨b,o,l,k,u,s,q16,rfl,M,L,U,R,l1,m1,M6,E,N⟩:=hK.get hx2 d
         have hi':(i:Int) <(a.length:Int):=by omega
         have V8:(0:Int)<=(i:Int):=by omega
         have hic:(i:Int)<=(cap:Int):=by omega
         have z:=(xr wr).alloc (.cells #[.int .i64 l,.int .i64 k,.slice u q16.length s] 25);have dh:=aS wr (.cells #[.int .i64 l,.int .i64 k,.slice u q16.length s] 25);obtain⟨sA,c,B,Z,h3⟩:=Ud (by
          have:=HR.out;rw[List.drop_eq_getElem_cons d,ccR] at this;exact this)
         rw[M.out] at B;have P:=hdq B;have I:=hdq Z;have v:=hdq h3;have N8:=hdq E;have J:=hdq (fun(W:aL) (S:Ext wr W)=> Sv (wC:=wr) (Ju (f:=f) (w:=wr) (A:=some ⟨b,o,none⟩) (ca:=cap) (G:=a.take i) (by simp;omega) hc (fun x hm=> ae.out x (List.mem_of_mem_take hm)) (by simp;omega)) W AllN S (fun _ _=> trivial) ((InK.all (HK.out.ext (hx2.trans S))).take i) (.mk l k q16) _ (InT.all (N8.out.ext S)) (ae.out _ N) _ P.out);rw[show(a.take i).length=i from by simp;omega] at J;clear B Z h3 E M6 HR;go_wp2_with fail;obtain⟨D,F,H,-,-,-⟩:=own3 dh;have C:=hdq (show∀n,Ext (wr.alloc (.cells #[.int .i64 l,.int .i64 k,.slice u q16.length s] 25)) n->n.cell? ⟨wr.heap.size,0,none⟩=some (.int .i64 l)/\n.cell? ⟨wr.heap.size,1,none⟩=some (.int .i64 k)/\n.cell? ⟨wr.heap.size,2,none⟩=some (.slice u q16.length s) from fun n h=>⟨h.cell D,h.cell F,h.cell H⟩);obtain⟨q,T⟩: ∃q,wr.alloc (.cells #[.int .i64 l,.int .i64 k,.slice u q16.length s] 25)=q:=⟨_,rfl⟩;rw[T] at C z D F H;rw[T];obtain⟨g,Y⟩: ∃g,wr.heap.size=g:=⟨_,rfl⟩;rw[Y] at C D F H⊢;clear T Y dh L U R
         go_region_held3 (fun n=> n.cell? ⟨g,0,none⟩=some (.int .i64 l)/\n.cell? ⟨g,1,none⟩=some (.int .i64 k)/\n.cell? ⟨g,2,none⟩=some (.slice u q16.length s))
          (first|exact C.out _ ((xr _).drew) |exact C.out _ ((xr _).drew.trans e2))
          (first|(go_at_call 49;refine(J.out _ (z.trans (xr _).drew)).mono ?_;rintro e w2 ⟨rfl,e2⟩))
         have y:=(hx2.trans z).trans ((xr _).drew.trans e2);clear C D F H J;by_cases p:c=0
         · subst p
           have J6:=hdq (I.out rfl);rw[<-gY d] at J6;clear P I v;go_wp2_with fail
           go_roundw
           case rel=> exact⟨i+1,by omega,by go_num,J6,y⟩
           case measure=> simp[intOf];omega
         · have t1:(c !=0)=true:=by simp[p]
           have hr:=v.out p;clear P I v p;go_wp2_with fail;go_ret;exact⟨by rw[hr];rfl,y⟩
       · have hr:r=(j2,0):=by
          have:=HR.out;rw[List.drop_of_length_le (by omega)] at this
          simpa[ccR] using this.symm
         go_wp2_with fail;go_ret;exact⟨by rw[hr];rfl,hx2⟩
 · have d8:decide ((8:Int) <(a.length:Int))=true:=decide_eq_true (by omega)
   have hr:r.2=3:=by
    unfold ccV Ob at h;rw[decide_eq_false h8,Bool.false_and,if_neg (by simp)] at h;have e:(j2,(3:Int))=r:=by simpa using h
    rw[<-e]
   go_enter func92,ntmps92;go_wp2_with fail;go_ret;exact⟨by rw[hr];rfl,xr _⟩
