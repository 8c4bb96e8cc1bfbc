/-
  PROVED: the law FnContractType returns true for every input: contractions preserve types.
  CONDITIONS: none.
-/
import Derived.Test.YtbnkbepgmenblaaGreatTAD
import Derived.Test.YtbnkbepgmenblaaGreatTAE
import Derived.Test.YtbnkbepgmenblaaGreatTAY
import Derived.Test.YtbnkbepgmenblaaGreatTBA
import Derived.Test.YtbnkbepgmenblaaGreatTBH
import Derived.Deep.RegionHeld3
import Derived.Test.YtbnkbepgmenblaaGreatRows
set_option linter.unusedVariables false
set_option maxHeartbeats 40000000
set_option maxRecDepth 100000
namespace Go.Proofs.YtbnkbepgmenblaaGreat.contractType
open Go.RowKit Go.ChangeShapes Go.WideShapes Go.ChangeAt
theorem own:ownKnob Tryz.prog.godebug=none:=by kernel_rfl
open M (Ty Lim Cv) in
theorem ctFacts{ctx:List Tr}{t x s y:Tr}{p:List Int}{f g:Nat}{n:Int}(hc:conP t p=(x,true))(hi:itV f ctx t=some (s,0))(hx:itV g ctx x=some (y,n)):n=2\/n=0/\(q84 s y 200 !=2)=true:=by
 obtain⟨G,a,A,rfl,hG,h8,rfl,hv,rfl,tA,lA,-,-⟩:=y203 hi;obtain⟨b,B,rfl,vb,tB,lB,cB⟩:=q183 hG tA lA hc;rcases itV_nb hG h8 vb tB lB _ _ hx with rfl|rfl
 · refine .inr ⟨rfl, ?_⟩
   obtain⟨G',b',B',e1,K5,-,e2,-,rfl,tB',-,-,hinf⟩:=y203 hx;obtain⟨e3,-⟩:=q52 hG vb tB hinf;rw[e3];have:=fun h:q84 (enc A) (enc B) 200=2=> j175 h cB.symm
   simpa using this
 · exact .inl rfl
theorem same1(t:Tr)(w:World)(v u:Value)(h:Lies w t v)(k:Lies w t u):Calls Tryz.prog 17 #[v,u] w fun e w'=> e= .returned (.bool true)/\Ext w w':=by
 have:=q66 t w t v u h k
 rwa [j107] at this
theorem ca2{t u:Tr}{p:List Int}{z:Bool}(h:conP t p=(u,z))(w:World)(v:Value)(j7:Lies w t v)(A:Option Addr)(n cap:Nat)(hp:PFs w A n cap p):Calls Tryz.prog 14 #[v,.slice A n cap] w fun e w'=> ∃x,e= .returned (.tuple #[x,.bool z])/\Lies w' u x/\Ext w w':=by
 have:=q112 t p w v j7 A n cap hp;rw[h] at this;exact this.mono fun e w' ⟨r,h1,h2,h3⟩=>⟨r,h1,h2.lies,h3⟩
theorem ca3{t u:Tr}{p:List Int}{z:Bool}(h:conP t p=(u,z))(w:World)(v:Value)(j7:Lies w t v)(A:Option Addr)(n cap:Nat)(hp:PFs w A n cap p):Calls Tryz.prog 15 #[v,.slice A n cap] w fun e w'=> ∃x,e= .returned (.tuple #[x,.bool z])/\Lies w' u x/\Ext w w':=by
 have:=y78 t p w v j7 A n cap hp;rw[h] at this;exact this
theorem walk(w0:World)(A:Option Addr)(cap:Nat)(bs:List Int)(hl:bs.length<=cap)(hc:cap<=maxLen)(hB:q59 w0 w0.heap.size A bs):
 Calls Tryz.prog 3 #[.slice A bs.length cap] w0 fun e w'=> e= .returned (.bool true)/\Ext w0 w':=by
 have hcc:=hc;unfold maxLen at hcc;by_cases hn:1048576 <(bs.length:Int)
 · have d1:decide (1048576 <(bs.length:Int))=true:=decide_eq_true hn
   go_enter Tryz.func3,Tryz.ntmps3;go_wp2_with fail;go_ret;exact⟨rfl,xr _⟩
 have d1:decide (1048576 <(bs.length:Int))=false:=decide_eq_false hn;go_enter Tryz.func3,Tryz.ntmps3;go_wp2_with fail;refine(q90 w0 A cap bs hl hc hB).mono ?_;rintro e w1 ⟨B,n,c,ctx,⟨k0,m0,Kc⟩,u,x,p,rfl,I1,ji,hcm,hn9,hpl,hKB,hL0,Vp,e1⟩;obtain⟨A0,C7,rfl,hl0,hc0,V5⟩:=Lies.mk_iff.1 hL0;obtain⟨Ap,cp,rfl,yb,El,hNp⟩:=Vp.slice (fun _ h=> h);obtain⟨np,hnp⟩: ∃n,p.length=n:=⟨_,rfl⟩;have Bj:PFs w1 Ap np cp p:=⟨hnp,by omega,El,hNp⟩;have HKB:=hdq hKB;have ud:=hdq I1;rw[hnp] at hpl yb⊢;have hnp9:np<=1000:=by omega
 have Ym:=hcm;unfold maxLen at Ym;have hcc2:=El;unfold maxLen at hcc2;clear hnp hNp Vp I1 hKB;have e2:=(xr w1).alloc (.cells #[.int .i64 k0,.int .i64 m0,.slice A0 Kc.length C7] 25);have b2:=heap_alloc_new w1 (.cells #[.int .i64 k0,.int .i64 m0,.slice A0 Kc.length C7] 25);obtain⟨⟨k3,m3,dw⟩,z,hq⟩: ∃q z,conP (.mk k0 m0 Kc) p=(q,z):=⟨_,_,rfl⟩;have HQ:=hdq hq;obtain⟨fl,hfl⟩:=j148 ctx (.mk k0 m0 Kc);obtain⟨⟨⟨k5,m5,Np⟩,ko⟩,hs⟩:=hfl fl (Nat.le_refl _);have HS:=hdq hs;have HIT:=hdq (fun W (hW:Ext w1 W)=> by
  have:=j81 fl ctx B c W (HKB.out.ext hW) (by rw[ud.out];exact ji) hcm (.mk k0 m0 Kc) _ (hL0.ext hW) (fun b=> W.heap.size<=b) (fun _ h=> h) _ HS.out
  rwa [ud.out] at this)
 clear hq hfl hs;go_wp2_with fail;generalize w1.alloc (.cells #[.int .i64 k0,.int .i64 m0,.slice A0 Kc.length C7] 25)=w2 at e2 b2⊢;refine(ca2 HQ.out w2 _ (hL0.ext e2) Ap np cp (Bj.ext e2)).mono ?_;rintro e w3 ⟨u3,rfl,hL3,e3⟩;obtain⟨A3,c3,rfl,Cb,hc3,hK3⟩:=Lies.mk_iff.1 hL3;have Vx:=hdq hL3;have b3:=e3.blk b2;have X3:=e2.trans e3;have e4:=(xr w3).alloc (.cells #[.int .i64 k3,.int .i64 m3,.slice A3 dw.length c3] 25);have q4:=heap_alloc_new w3 (.cells #[.int .i64 k3,.int .i64 m3,.slice A3 dw.length c3] 25);clear hK3 hL3;obtain⟨z0,z1,z2,-,-,-⟩:=own3 b3;have lz:=j10 b3;go_wp2_with fail;clear z0 z1 z2 lz;generalize w3.alloc (.cells #[.int .i64 k3,.int .i64 m3,.slice A3 dw.length c3] 25)=w4 at e4 q4⊢;have X4:=X3.trans e4;have b4:=e4.blk b3;refine(ca3 HQ.out w4 _ (hL0.ext X4) Ap np cp (Bj.ext X4)).mono ?_;rintro e w5 ⟨u5,rfl,hL5,e5⟩;obtain⟨A5,c5,rfl,Ld,Lb,uw⟩:=Lies.mk_iff.1 hL5;have Zu:=hdq hL5;have b5:=e5.blk b4;have q5:=e5.blk q4;have X5:=X4.trans e5;have e6:=(xr w5).alloc (.cells #[.int .i64 k3,.int .i64 m3,.slice A5 dw.length c5] 25);have r6:=heap_alloc_new w5 (.cells #[.int .i64 k3,.int .i64 m3,.slice A5 dw.length c5] 25);clear uw hL5;obtain⟨z0,z1,z2,-,-,-⟩:=own3 b5;have lz:=j10 b5;go_wp2_with fail;clear z0 z1 z2 lz;generalize w5.alloc (.cells #[.int .i64 k3,.int .i64 m3,.slice A5 dw.length c5] 25)=w6 at e6 r6⊢;have X6:=X5.trans e6;have b6:=e6.blk b5;have q6:=e6.blk q5;have hz1:(z !=z)=false:=by simp
 have hz2:(z==z)=true:=by simp
 refine(HIT.out w6 X6).mono ?_;rintro e w7 ⟨us,rfl,Ve,e7⟩;simp only at Ve⊢;obtain⟨A7,c7,rfl,hl7,hc7,xa⟩:=InT.mk_iff.1 Ve;have HTs:=hdq Ve.lies';have X7:=X6.trans e7;have b7:=e7.blk b6;have q7:=e7.blk q6;have r7:=e7.blk r6;have e8:=(xr w7).alloc (.cells #[.int .i64 k5,.int .i64 m5,.slice A7 Np.length c7] 25);have t8:=heap_alloc_new w7 (.cells #[.int .i64 k5,.int .i64 m5,.slice A7 Np.length c7] 25);clear xa Ve;obtain⟨z0,z1,z2,-,-,-⟩:=own3 q7;obtain⟨y0,y1,y2,-,-,-⟩:=own3 r7;have lz:=j10 q7;have ly:=j10 r7;go_wp2_with fail;clear z0 z1 z2 y0 y1 y2 lz ly;generalize w7.alloc (.cells #[.int .i64 k5,.int .i64 m5,.slice A7 Np.length c7] 25)=w8 at e8 t8⊢;have X8:=X7.trans e8;have b8:=e8.blk b7;have q8:=e8.blk q7;have r8:=e8.blk r7;have Uq:=((e4.trans e5).trans e6).trans (e7.trans e8);have E58:=e6.trans (e7.trans e8);refine(same1 _ w8 _ _ (Vx.out.ext Uq) (Zu.out.ext E58)).mono ?_;rintro e w9 ⟨rfl,e9⟩;have X9:=X8.trans e9;have b9:=e9.blk b8;have q9:=e9.blk q8;have r9:=e9.blk r8;have t9:=e9.blk t8;cases z with
 |false=>
  obtain⟨z0,z1,z2,-,-,-⟩:=own3 q9;obtain⟨y0,y1,y2,-,-,-⟩:=own3 r9;go_wp2_with fail;refine(same1 _ w9 _ _ (Vx.out.ext (Uq.trans e9)) (Zu.out.ext (E58.trans e9))).mono ?_;rintro e zw ⟨rfl,Fx⟩;go_wp2_with fail;go_ret;exact⟨rfl,(e1.trans X9).trans Fx⟩
 |true=>
  by_cases hk:ko=0
  case neg=>
   have t1:(ko !=0)=true:=by simp[hk]
   clear hk;obtain⟨z0,z1,z2,-,-,-⟩:=own3 q9;obtain⟨y0,y1,y2,-,-,-⟩:=own3 r9;go_wp2_with fail;refine(same1 _ w9 _ _ (Vx.out.ext (Uq.trans e9)) (Zu.out.ext (E58.trans e9))).mono ?_;rintro e zw ⟨rfl,Fx⟩;go_wp2_with fail;go_ret;exact⟨rfl,(e1.trans X9).trans Fx⟩
  subst hk;obtain⟨fg,hfg⟩:=j148 ctx (.mk k3 m3 dw);obtain⟨⟨⟨k6,m6,Xd⟩,no⟩,hy⟩:=hfg fg (Nat.le_refl _);have HF:=hdq (ctFacts HQ.out HS.out hy);have Xw:=hdq (fun W (hW:Ext w1 W) v (hv:Lies W (.mk k3 m3 dw) v)=> by
   have:=j81 fg ctx B c W (HKB.out.ext hW) (by rw[ud.out];exact ji) hcm _ v hv (fun b=> W.heap.size<=b) (fun _ h=> h) _ hy
   rwa [ud.out] at this)
  clear hfg hy;obtain⟨z0,z1,z2,-,-,-⟩:=own3 q9;go_wp2_with fail;clear z0 z1 z2;refine(Xw.out w9 X9 _ (Vx.out.ext (Uq.trans e9))).mono ?_;rintro e zw ⟨uy,rfl,Vn,Fx⟩;simp only at Vn⊢;obtain⟨A10,c10,rfl,hl10,hc10,hK10⟩:=InT.mk_iff.1 Vn;have HTy:=hdq Vn.lies';clear Vn hK10;have Mu:=Fx.blk t9;have lt10:=j10 Mu;obtain⟨z0,z1,z2,-,-,-⟩:=own3 Mu;have e11:=(xr zw).alloc (.cells #[.int .i64 k6,.int .i64 m6,.slice A10 Xd.length c10] 25);have Gn:=X9.trans (Fx.trans e11);rcases HF.out with rfl|⟨rfl,hcv⟩
  · go_wp2_with fail
    go_ret;exact⟨rfl,e1.trans Gn⟩
  · have E711:=(e8.trans e9).trans (Fx.trans e11)
    have Dm:=hdq (fun W (hW:Ext (zw.alloc (.cells #[.int .i64 k6,.int .i64 m6,.slice A10 Xd.length c10] 25)) W)=> q63 (.mk k5 m5 Np) (.mk k6 m6 Xd) 200 W _ _ (HTs.out.ext (E711.trans hW)) (HTy.out.ext (e11.trans hW)));generalize q84 (.mk k5 m5 Np) (.mk k6 m6 Xd) 200=cv at Dm hcv;go_wp2_with fail;refine(Dm.out _ (xr _)).mono ?_;rintro e w12 ⟨rfl,e12⟩;go_wp2_with fail;go_ret;exact⟨rfl,(e1.trans Gn).trans e12⟩
theorem lifted(os:Os)(started:os.Started)(H:Type)(enc:TypeId×Value->H):
 ReturnsInHanded {} Tryz.checked os 3 .any (Rows.fnContractTypeSpec.pre6 enc Tryz.prog Tryz.f3 Rows.fnContractTypeRow.domain false) (Rows.fnContractTypeSpec.post enc Tryz.prog Tryz.f3 false true false false):=by
 refine y208 (C:=Tryz.checked) (fn:=Tryz.f3) (tb:=4) own started (by kernel_rfl) Tryz.func3 (by kernel_rfl) (by kernel_rfl) rfl Tryz.underlying4 rfl
  (fun ds h=> by
   match ds,h with
   | [d1],_=> exact⟨rfl,rfl,rfl⟩)
  (ChangeSpec.witness6 (enc:=enc) (C:=Tryz.checked) false ⟨#[],#[.slice none 0 0], []⟩ 8 (by kernel_rfl) (by kernel_rfl) (by kernel_rfl) (by kernel_rfl)) ?_
 intro W base args ds p hval hA hlt;rw[Tryz.params3] at hA hval;obtain⟨v0,vs0,d0,ds0,p0,q0,hargs,rfl,rfl,h0,r0⟩:=trodAll_cons hA;obtain⟨rfl,rfl,rfl⟩:=trodAll_nil r0;obtain rfl:args=#[v0]:=by cases args;simp_all
 obtain⟨A0,C7,bs0,rfl,hl0,hc0,ha0⟩:=j165 Tryz.underlying22 Tryz.underlying5 (by kernel_rfl) (hval 0 22 v0 rfl rfl) h0;exact walk W A0 C7 bs0 hl0 hc0 ha0.1
theorem over:Rows.fnContractTypeRow.holds Tryz.pinned (OpenSpec.ofChange Rows.fnContractTypeSpec):=
 OpenClaim.holds_of_wide 3 Tryz.f3 rfl rfl rfl rfl rfl rfl rfl ⟨rfl,rfl,rfl,rfl,rfl⟩ rfl rfl rfl rfl rfl (by kernel_rfl) Tryz.func3 (by kernel_rfl)
  (of_decide_eq_true (by kernel_rfl)) (by unfold Func.isWrapper;first|(rw[if_pos (by decide+kernel)];kernel_rfl) |(rw[if_neg (by decide+kernel)];exact⟨rfl,rfl⟩))
  (fun os started H enc _=> lifted os started H enc)
theorem proved:Rows.FnContractTypeSaid:=over
#print axioms proved
end Go.Proofs.YtbnkbepgmenblaaGreat.contractType
