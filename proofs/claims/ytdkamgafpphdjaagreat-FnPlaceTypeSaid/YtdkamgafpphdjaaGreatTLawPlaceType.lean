/-
  PROVED: the law FnPlaceType returns true for every input: parts have types.
  CONDITIONS: none.
-/
import Derived.Test.YtdkamgafpphdjaaGreatTAF
import Derived.Test.YtdkamgafpphdjaaGreatTBG
import Derived.Test.YtdkamgafpphdjaaGreatTBK
import Derived.Test.YtdkamgafpphdjaaGreatTBO
import Derived.Test.YtdkamgafpphdjaaGreatTBW
import Derived.Deep.RegionHeld3
import Derived.Test.YtdkamgafpphdjaaGreatRows
namespace Go.Proofs.YtdkamgafpphdjaaGreat.placeType
open Go.RowKit Go.ChangeShapes Go.WideShapes Go.ChangeAt
set_option linter.unusedVariables false
theorem own:ownKnob Tryz.prog.godebug=none:=by kernel_rfl
open M (Ty Lim Cv) in
theorem ptFacts{ctx q:List Tr}{t:Tr}{p:List Int}{f g:Nat}{s y:Tr}{n:Int}(hc:ctxV ctx t p=(q,true))(hi:itV f ctx t=some (s,0))(hx:itV g q (atV t p).1=some (y,n)):(n=0\/n=2)/\(atV t p).2=true/\(bndV t p).2=true/\(q.length:Int)=(ctx.length:Int)+(bndV t p).1/\q.length<=8:=by
 obtain⟨G,a,A,rfl,hG,h8,rfl,hv,rfl,tA,lA,-,-⟩:=itV_snd hi;unfold ctxV at hc
 split at hc
 · rename_i hh
   rw[Bool.and_eq_true,Bool.and_eq_true,decide_eq_true_eq] at hh;obtain⟨⟨h1,h2⟩,h3⟩:=hh;obtain rfl:ctxE G++bndT (enc a) p=q:=by simpa using hc
   have hs:(atT (enc a) p).isSome=true:=by
    unfold atV at h2
    rwa [if_pos hv] at h2
   obtain⟨x,hx0⟩:=Option.isSome_iff_exists.1 hs;obtain⟨D,z,B,e1,hD,rfl,vx,tB,lB⟩:=q112 p x G a A hG hv tA lA hx0;have hax:(atV (enc a) p).1=enc z:=by
    unfold atV;rw[if_pos hv,hx0]
    rfl
   have hD8:D.length<=8:=by rw[<-q39 D,e1,List.length_append];exact h3
   rw[hax,<-e1] at hx;refine⟨itV_nb hD hD8 vx tB lB _ _ hx,h2, ?_, ?_, ?_⟩
   · unfold bndV
     rw[if_pos h2]
   · unfold bndV
     rw[if_pos h2];simp
   · rw[List.length_append];exact h3
 · simp at hc
set_option maxRecDepth 100000 in
set_option maxHeartbeats 40000000 in
theorem walk(w0:World)(A:Option Addr)(cap:Nat)(bs:List Int)(hl:bs.length<=cap)(hc:cap<=maxLen)(hB:q57 w0 w0.heap.size A bs):
 Calls Tryz.prog 4 #[.slice A bs.length cap] w0 fun e w'=> e= .returned (.bool true)/\Ext w0 w':=by
 have hcc:=hc;unfold maxLen at hcc;by_cases hn:1048576 <(bs.length:Int)
 · have d1:decide (1048576 <(bs.length:Int))=true:=decide_eq_true hn
   go_enter Tryz.func4,Tryz.ntmps4;go_wp2_with fail;go_ret;exact⟨rfl,xr _⟩
 have d1:decide (1048576 <(bs.length:Int))=false:=decide_eq_false hn;go_enter Tryz.func4,Tryz.ntmps4;go_wp2_with fail;refine(y87 w0 A cap bs hl hc hB).mono ?_;rintro e w1 ⟨B,n,c,ctx,⟨k0,m0,ks0⟩,u,x,p,rfl,hcn,hnc,hcm,hn9,hpl,hKB,hL0,hPA,e1⟩;obtain⟨A0,cap0,rfl,hl0,hc0,hK0⟩:=Lies.mk_iff.1 hL0;obtain⟨Ap,cp,rfl,hp1,hp2,hNp⟩:=hPA.slice (fun _ h=> h);obtain⟨np,hnp⟩: ∃n,p.length=n:=⟨_,rfl⟩;have HPF:PFx w1 Ap np cp p:=⟨hnp,by omega,hp2,hNp⟩;have HSB:SlT w1 B n c ctx:=⟨hcn,hnc,hcm,hKB⟩;have HCN:=hdq hcn;have HNP:=hdq hnp;rw[hnp] at hpl hp1⊢;have hnp9:np < 1000:=by omega
 have hcc1:=hcm;unfold maxLen at hcc1;have hcc2:=hp2;unfold maxLen at hcc2;clear hnp hNp hPA hcn hKB;have e2:=(xr w1).alloc (.cells #[.int .i64 k0, .int .i64 m0, .slice A0 ks0.length cap0] 25);have b2:=heap_alloc_new w1 (.cells #[.int .i64 k0, .int .i64 m0, .slice A0 ks0.length cap0] 25);obtain⟨q,z,hq⟩: ∃q z,ctxV ctx (.mk k0 m0 ks0) p=(q,z):=⟨_,_,rfl⟩;have HQ:=hdq hq;obtain⟨m,hm⟩: ∃m,q.length=m:=⟨_,rfl⟩;have HM:=hdq hm;obtain⟨fl,hfl⟩:=y149 ctx (.mk k0 m0 ks0);obtain⟨⟨s,ko⟩,hs⟩:=hfl fl (Nat.le_refl _);have HS:=hdq hs;have HIT:=hdq (fun W (hW:Ext w1 W)=> by
  have:=q84 fl ctx B c W (HSB.hK.ext hW) (by rw[HCN.out];exact hnc) hcm (.mk k0 m0 ks0) _ (hL0.ext hW) (fun b=> W.heap.size<=b) (fun _ h=> h) _ HS.out
  rwa [HCN.out] at this)
 clear hq hm hfl hs;go_wp2_with fail;generalize w1.alloc (.cells #[.int .i64 k0, .int .i64 m0, .slice A0 ks0.length cap0] 25)=w2 at e2 b2⊢;refine(ctx1 HQ.out HM.out w2 _ (hL0.ext e2) B Ap n c np cp (HSB.ext e2) (HPF.ext e2) hnp9).mono ?_;rintro e w3 ⟨D,dc,rfl,hS3,e3⟩;have b3:=e3.blk b2;have X3:=e2.trans e3;obtain⟨z0,z1,z2,-,-,-⟩:=own3 b3;go_wp2_with fail;clear z0 z1 z2;refine(ctx2 HQ.out HM.out w3 _ (hL0.ext X3) B Ap n c np cp (HSB.ext X3) (HPF.ext X3) hnp9).mono ?_;rintro e w4 ⟨F,fc,rfl,hS4,e4⟩;have b4:=e4.blk b3;have X4:=X3.trans e4;have hz1:(z !=z)=false:=by simp
 have hz2:(z==z)=true:=by simp
 have hf4:=hS3.hc;unfold maxLen at hf4;have hd4:=hS3.hl;obtain⟨z0,z1,z2,-,-,-⟩:=own3 b4;go_wp2_with fail;clear z0 z1 z2;refine(HIT.out w4 X4).mono ?_;rintro e w5 ⟨us,rfl,hTs,e5⟩;simp only at hTs⊢;obtain⟨a5,b5',A5,l5,c5,rfl⟩:=hTs.three;have e6:=(xr w5).alloc (.cells #[.int .i64 a5, .int .i64 b5', .slice A5 l5 c5] 25);have b6:=(e5.trans e6).blk b4;have X6:=X4.trans (e5.trans e6);have hs46:=e5.trans e6;clear hTs;go_wp2_with fail;obtain⟨w6,hw6⟩: ∃x,x=w5.alloc (.cells #[.int .i64 a5, .int .i64 b5', .slice A5 l5 c5] 25):=⟨_,rfl⟩;rw[<-hw6] at e6 b6 X6 hs46⊢;clear hw6;refine(j73 q w6 D F m dc fc (hS3.ext (e4.trans hs46)) (hS4.ext hs46)).mono ?_;rintro e w7 ⟨rfl,e7⟩;have b7:=e7.blk b6;have X7:=X6.trans e7;cases z with
 |false=>
  go_wp2_with fail;refine(j73 q w7 D F m dc fc (hS3.ext ((e4.trans hs46).trans e7)) (hS4.ext (hs46.trans e7))).mono ?_;rintro e w8 ⟨rfl,e8⟩;go_wp2_with fail;go_ret;exact⟨rfl,(e1.trans X7).trans e8⟩
 |true=>
  by_cases hk:ko=0
  case neg=>
   have t1:(ko !=0)=true:=by simp[hk]
   clear hk;go_wp2_with fail;refine(j73 q w7 D F m dc fc (hS3.ext ((e4.trans hs46).trans e7)) (hS4.ext (hs46.trans e7))).mono ?_;rintro e w8 ⟨rfl,e8⟩;go_wp2_with fail;go_ret;exact⟨rfl,(e1.trans X7).trans e8⟩
  subst hk;have HTA:=hdq (fun W (hW:Ext w1 W)=> by
   have:=j164 (.mk k0 m0 ks0) p W _ (hL0.ext hW) Ap cp (by rw[HNP.out];omega) hp2 (HPF.hP.ext hW)
   rwa [HNP.out] at this)
  have HBA:=hdq (fun W (hW:Ext w1 W)=> by
   have:=q123 (.mk k0 m0 ks0) p W _ (hL0.ext hW) Ap cp (by rw[HNP.out];omega) hp2 (HPF.hP.ext hW)
   rwa [HNP.out] at this)
  obtain⟨fg,hfg⟩:=y149 q (atV (.mk k0 m0 ks0) p).1;obtain⟨⟨y,no⟩,hy⟩:=hfg fg (Nat.le_refl _);obtain⟨f1,f2,f3,f4,f6⟩:=ptFacts HQ.out HS.out hy;have HF1:=hdq f1;rw[f2] at HTA;rw[f3] at HBA;rw[HCN.out,HM.out] at f4;rw[HM.out] at f6;have HIT2:=hdq (fun W (hW:Ext w3 W) v (hv:Lies W (atV (.mk k0 m0 ks0) p).1 v)=> by
   have:=q84 fg q D dc W ((hS3.ext hW).hK) (by rw[HM.out];exact hd4) hS3.hc _ v hv (fun b=> W.heap.size<=b) (fun _ h=> h) _ hy
   rwa [HM.out] at this)
  generalize (atV (.mk k0 m0 ks0) p).1=T9 at HTA HIT2;generalize (bndV (.mk k0 m0 ks0) p).1=bd at HBA f4;have f5:((m:Int)==(n:Int)+bd)=true:=by rw[f4];simp
  have hbd0: -9<=bd:=by omega
  have hbd1:bd<=1000000000000000:=by omega
  have F4:=hdq f4;clear f1 f2 f3 f4 hfg hy;obtain⟨z0,z1,z2,-,-,-⟩:=own3 b7;go_wp2_with fail;clear z0 z1 z2;refine(HTA.out w7 X7).mono ?_;rintro e w8 ⟨ux,rfl,hTx,e8⟩;obtain⟨a8,b8',A8,l8,c8,rfl⟩:=hTx.three;have e9:=(xr w8).alloc (.cells #[.int .i64 a8, .int .i64 b8', .slice A8 l8 c8] 25);have b9:=(e8.trans e9).blk b7;have X9:=X7.trans (e8.trans e9);have HTX:=hdq (hTx.lies.ext e9);have h39:=((e4.trans hs46).trans e7).trans (e8.trans e9);clear hTx;go_wp2_with fail;obtain⟨w9,hw9⟩: ∃x,x=w8.alloc (.cells #[.int .i64 a8, .int .i64 b8', .slice A8 l8 c8] 25):=⟨_,rfl⟩;rw[<-hw9] at e9 b9 X9 HTX h39⊢;clear hw9;refine(HIT2.out w9 h39 _ HTX.out).mono ?_;rintro e w10 ⟨uy,rfl,hTy,e10⟩;simp only at hTy⊢;obtain⟨a10,b10',A10,l10,c10,rfl⟩:=hTy.three;have e11:=(xr w10).alloc (.cells #[.int .i64 a10, .int .i64 b10', .slice A10 l10 c10] 25);have b11:=(e10.trans e11).blk b9;have b10:=e10.blk b9;have X11:=X9.trans (e10.trans e11);have l11:=q10 b10;clear hTy;obtain⟨z0,z1,z2,-,-,-⟩:=own3 b10;go_wp2_with fail;clear z0 z1 z2;obtain⟨w11,hw11⟩: ∃x,x=w10.alloc (.cells #[.int .i64 a10, .int .i64 b10', .slice A10 l10 c10] 25):=⟨_,rfl⟩;rw[<-hw11] at e11 b11 X11⊢;clear hw11;refine(HBA.out w11 X11).mono ?_;rintro e w12 ⟨rfl,e12⟩;rcases HF1.out with rfl|rfl
  all_goals(
   go_wp2_with fail;go_ret;exact⟨rfl,(e1.trans X11).trans e12⟩)
set_option maxRecDepth 100000 in
theorem lifted(os:Os)(started:os.Started)(H:Type)(enc:TypeId×Value->H):
 ReturnsInHanded {} Tryz.checked os 4 .any (Rows.fnPlaceTypeSpec.pre6 enc Tryz.prog Tryz.f4 Rows.fnPlaceTypeRow.domain false) (Rows.fnPlaceTypeSpec.post enc Tryz.prog Tryz.f4 false true false false):=by
 refine y215 (C:=Tryz.checked) (fn:=Tryz.f4) (tb:=4) own started (by kernel_rfl) Tryz.func4 (by kernel_rfl) (by kernel_rfl) rfl Tryz.underlying4 rfl
  (fun ds h=> by
   match ds,h with
   | [d1],_=> exact⟨rfl,rfl,rfl⟩)
  (ChangeSpec.witness6 (enc:=enc) (C:=Tryz.checked) false ⟨#[],#[.slice none 0 0], []⟩ 8 (by kernel_rfl) (by kernel_rfl) (by kernel_rfl) (by kernel_rfl)) ?_
 intro W base args ds p hval hA hlt;rw[Tryz.params4] at hA hval;obtain⟨v0,vs0,d0,ds0,p0,q0,hargs,rfl,rfl,h0,r0⟩:=trodAll_cons hA;obtain⟨rfl,rfl,rfl⟩:=trodAll_nil r0;obtain rfl:args=#[v0]:=by cases args;simp_all
 obtain⟨A0,cap0,bs0,rfl,hl0,hc0,ha0⟩:=y165 Tryz.underlying22 Tryz.underlying5 (by kernel_rfl) (hval 0 22 v0 rfl rfl) h0;exact walk W A0 cap0 bs0 hl0 hc0 ha0.1
theorem over:Rows.fnPlaceTypeRow.holds Tryz.pinned (OpenSpec.ofChange Rows.fnPlaceTypeSpec):=
 OpenClaim.holds_of_wide 4 Tryz.f4 rfl rfl rfl rfl rfl rfl rfl ⟨rfl,rfl,rfl,rfl,rfl⟩ rfl rfl rfl rfl rfl (by kernel_rfl) Tryz.func4 (by kernel_rfl)
  (of_decide_eq_true (by kernel_rfl)) (by unfold Func.isWrapper;first|(rw[if_pos (by decide+kernel)];kernel_rfl) |(rw[if_neg (by decide+kernel)];exact⟨rfl,rfl⟩))
  (fun os started H enc _=> lifted os started H enc)
theorem proved:Rows.FnPlaceTypeSaid:=over
#print axioms proved
end Go.Proofs.YtdkamgafpphdjaaGreat.placeType
