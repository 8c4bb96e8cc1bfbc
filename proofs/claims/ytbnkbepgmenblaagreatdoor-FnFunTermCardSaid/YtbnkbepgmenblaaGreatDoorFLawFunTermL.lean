/-
  PROVED: the law FnFunTerm returns true for every input: functions have types.
  CONDITIONS: none.
-/
import Derived.Test.YtbnkbepgmenblaaGreatDoorFAF
import Derived.Test.YtbnkbepgmenblaaGreatDoorFAG
import Derived.Test.YtbnkbepgmenblaaGreatDoorFAH
import Derived.Test.YtbnkbepgmenblaaGreatDoorFAI
import Derived.Test.YtbnkbepgmenblaaGreatDoorFAJ
import Derived.Test.YtbnkbepgmenblaaGreatDoorFAP
import Derived.Test.YtbnkbepgmenblaaGreatDoorFAU
import Derived.Test.YtbnkbepgmenblaaGreatDoorFBB
import Derived.Test.YtbnkbepgmenblaaGreatDoorFBC
import Derived.Test.YtbnkbepgmenblaaGreatDoorFBM
import Derived.Deep.RegionHeld3
import Derived.LaidMore
import Derived.Lay
import Derived.ProofKit
import Derived.SevenTiedAt
import Derived.Test.YtbnkbepgmenblaaGreatDoorCards
import Derived.Test.YtbnkbepgmenblaaGreatDoorRows
import Derived.Test.YtbnkbepgmenblaaGreatDoorTie
set_option linter.unusedVariables false
set_option maxHeartbeats 4000000
set_option maxRecDepth 100000
namespace Go.Proofs.YtbnkbepgmenblaaGreatDoor.funTerm
open Go.RowKit Go.ChangeShapes Go.WideShapes Go.ChangeAt
theorem own:ownKnob Tryz.prog.godebug=none:=by kernel_rfl
theorem envOf{W:World}(h:laidMetH Tryz.prog Rows.fnFunTermRow.laid W)(hsh:W.ShapedOpen Tryz.prog):EnvR W:=by
 rw[MakeChecks.laidMetH_plain _ _ _ (by kernel_rfl)] at h;exact envR_of h hsh
theorem j181:(Tryz.prog.info? 26).map (fun i=>(i.zero,i.size,i.bytes))=some (some (.agg #[.int .i64 0,.int .i64 0,.slice none 0 0]),3,40):=by kernel_rfl
def ftOk(k:Nat):Bool:=match itV 60 [] ((fnV k).getD y14) with
 |some (s,c)=> c==0 &&((y80 s 200).2==0 &&(mxV ((fnV k).getD y14)==0 &&(decide (y43 k < 0) ||((ovV (List.replicate (y43 k).toNat natT) natT).2 && eqTr (y80 s 200).1 (ovV (List.replicate (y43 k).toNat natT) natT).1))))
 |none=> false
theorem ft_all: ∀k:Fin 8,k.val≠0->ftOk k.val=true:=by decide+kernel
theorem q203{k:Int}(h:(fnV k).isSome=true): ∃s x,itV 60 [] ((fnV k).getD y14)=some (s,0)/\y80 s 200=(x,0)/\mxV ((fnV k).getD y14)=0/\y43 k<=2/\ -1<=y43 k/\(y43 k < 0\/0<=y43 k/\(ovV (List.replicate (y43 k).toNat natT) natT).2=true/\eqTr x (ovV (List.replicate (y43 k).toNat natT) natT).1=true):=by
 have hk:1<=k/\k<=7:=by
  by_cases hk:1<=k/\k<=7
  · exact hk
  · exfalso
    unfold fnV at h;rw[j74 hk] at h
    revert h
    decide+kernel
 obtain⟨n,rfl⟩:=Int.eq_ofNat_of_zero_le (show 0<=k by omega);have h1:=ft_all ⟨n,by omega⟩ (by simp;omega);simp only[ftOk] at h1;have ha:y43 (n:Int)<=2/\ -1<=y43 (n:Int):=by unfold y43;split <;> first | omega | (split <;> omega)
 split at h1
 · rename_i s c e
   simp only[Bool.and_eq_true,Bool.or_eq_true,beq_iff_eq,decide_eq_true_eq] at h1;obtain⟨rfl,h2,h3,h4⟩:=h1;refine⟨s,(y80 s 200).1,e,by rw[<-h2],h3,ha.1,ha.2, ?_⟩;rcases h4 with h4|⟨h4,h5⟩
   · exact .inl h4
   · by_cases h6:y43 (n:Int) < 0
     · exact .inl h6
     · exact .inr ⟨by omega,h4,h5⟩
 · cases h1
theorem same1(t:Tr)(w:World)(v u:Value)(h:Lies w t v)(k:Lies w t u):Calls Tryz.prog 7 #[v,u] w fun e w'=> e= .returned (.bool true)/\Ext w w':=by
 have:=y38 t w t v u h k
 rwa [q92] at this
theorem y91(w:World)(A:Option Addr)(cap:Nat)(bs:List Int)(hl:bs.length<=cap)(hc:cap<=maxLen)(hB:q48 w w.heap.size A bs):Calls Tryz.prog 4 #[.slice A bs.length cap] w fun e w'=> ∃f:Int,e= .returned (.int .i64 f)/\Ext w w':=by
 go_enter Tryz.func4,Tryz.ntmps4;go_wp2_with fail;refine(q136 w A cap bs hl hc hB).mono ?_;rintro e w1 ⟨rfl,hR,h1⟩;go_wp2_with fail;refine(j151 _ _ _ hR (by omega)).mono ?_;rintro e w2 ⟨f,rfl,hR2,ho2⟩;go_wp2_with fail;go_ret;exact⟨f,rfl,ho2.ext h1 (by intro b hb;simp at hb;omega)⟩
theorem walk(w0:World)(V8:EnvR w0)(A:Option Addr)(cap:Nat)(bs:List Int)(hl:bs.length<=cap)(hc:cap<=maxLen)(hB:q48 w0 w0.heap.size A bs):
 Calls Tryz.prog 3 #[.slice A bs.length cap] w0 fun e w'=> e= .returned (.bool true)/\Ext w0 w':=by
 have hcc:=hc;unfold maxLen at hcc;by_cases hn:1048576 <(bs.length:Int)
 · have d1:decide (1048576 <(bs.length:Int))=true:=decide_eq_true hn
   go_enter Tryz.func3,Tryz.ntmps3;go_wp2_with fail;go_ret;exact⟨rfl,xr _⟩
 have d1:decide (1048576 <(bs.length:Int))=false:=decide_eq_false hn;go_enter Tryz.func3,Tryz.ntmps3;go_wp2_with fail;refine(y91 w0 A cap bs hl hc hB).mono ?_;rintro e w1 ⟨k,rfl,e1⟩;have s1:=e1.size;clear d1 hB;have HS:=hdq (fun W=> q94 k W);have HI:=hdq (fun W (hx:Ext w0 W)=> y137 k W (V8.ext hx));have HF:=hdq (fun h=> q203 (k:=k) h);obtain⟨z,hz⟩: ∃z,(fnV k).isSome=z:=⟨_,rfl⟩;obtain⟨T,hT⟩: ∃T,(fnV k).getD y14=T:=⟨_,rfl⟩;rw[hz,hT] at HS HI HF;clear hz hT;have z1:(z !=z)=false:=by simp
 have z2:(z==z)=true:=by simp
 go_wp2_with fail;refine(HI.out w1 e1).mono ?_;rintro e w2 ⟨u,rfl,hM,e2⟩;have s2:=e2.size;have hL:=hM.lies;clear hM;obtain⟨a1,a2,a3,a4,a5,rfl⟩:=hL.three;have HA:=hdq hL;clear hL;obtain⟨w3,hw3⟩: ∃x,x=w2.alloc (.cells #[.int .i64 a1,.int .i64 a2,.slice a3 a4 a5] 26):=⟨_,rfl⟩;have e3:Ext w2 w3:=hw3▸(xr w2).alloc _;have Z6:=heap_alloc_new w2 (.cells #[.int .i64 a1,.int .i64 a2,.slice a3 a4 a5] 26);rw[<-hw3] at Z6;have s3:w2.heap.size < w3.heap.size:=j10 Z6;go_wp2_with fail;rw[<-hw3];clear hw3;refine(HS.out w3).mono ?_;rintro e w4 ⟨u,rfl,hM,e4⟩;have s4:=e4.size;have hL:=hM.lies;clear hM;obtain⟨b1,b2,b3,b4,b5,rfl⟩:=hL.three;have HB:=hdq hL;clear hL;have q8:=e4;have Za:=cb3 (q8.blk Z6);obtain⟨w5,q7⟩: ∃x,x=w4.alloc (.cells #[.int .i64 b1,.int .i64 b2,.slice b3 b4 b5] 26):=⟨_,rfl⟩;have e5:Ext w4 w5:=q7▸(xr w4).alloc _;have gg:=heap_alloc_new w4 (.cells #[.int .i64 b1,.int .i64 b2,.slice b3 b4 b5] 26);rw[<-q7] at gg;have s5:w4.heap.size < w5.heap.size:=j10 gg;go_wp2_with fail;rw[<-q7];clear q7;clear Za;have r8:=e3;have H8:=r8.trans e4;have G7:=H8.trans e5;have E5:=e5;refine(same1 T w5 _ _ (HA.out.ext G7) (HB.out.ext E5)).mono ?_;rintro e w6 ⟨rfl,e6⟩;have s6:=e6.size;cases z with
 |false=>
  have D6:=q8.trans e5;have Y8:=D6.trans e6;have Za:=cb3 (Y8.blk Z6);have J7:=e6;have Zb:=cb3 (J7.blk gg);go_wp2_with fail;clear Za Zb;have lx:=G7.trans e6;have V2:=E5.trans e6;refine(same1 T w6 _ _ (HA.out.ext lx) (HB.out.ext V2)).mono ?_;rintro e w7 ⟨rfl,e7⟩;have s7:=e7.size;have b7:=e1;have b6:=b7.trans e2;have o7:=b6.trans e3;have o9:=o7.trans e4;have z7:=o9.trans e5;have D4:=z7.trans e6;have F2:=D4.trans e7;go_wp2_with fail;go_ret;exact⟨rfl,F2⟩
 |true=>
  obtain⟨s,x,hs,hx,Bw,ha2,ha1,C3⟩:=HF.out rfl;have ej:=hdq (fun W (hW:Ext w2 W) (A:Option Addr)=> y92 60 [] A 0 0 W (.inl rfl) rfl (Nat.le_refl _) (by decide) T _ (HA.out.ext hW) s x hs hx);have Nf:=hdq (fun W (hW:Ext w2 W)=> j101 T W _ (HA.out.ext hW));rw[Bw] at Nf;have Jy:=hdq C3;clear HF hs hx Bw C3 HI HS HB;obtain⟨w7,D9⟩: ∃y,y=w6.alloc (.cells #[] 26):=⟨_,rfl⟩;have e7:Ext w6 w7:=D9▸(xr w6).alloc _;have D6:=q8.trans e5;have Y8:=D6.trans e6;have Za:=cb3 (Y8.blk Z6);have J7:=e6;have Zb:=cb3 (J7.blk gg);go_wp2_with fail;rw[<-D9];clear D9 Za Zb;have lx:=G7.trans e6;have oo:=lx.trans e7;refine(ej.out w7 oo _).mono ?_;rintro e w8 ⟨u,rfl,hL,e8⟩;have s8:=e8.size;obtain⟨x1,x2,x3,x4,x5,rfl⟩:=hL.three;have HX:=hdq hL;clear hL;have Px:=hdq (fun W=> q166 k W);obtain⟨n,hnn⟩: ∃n,y43 k=n:=⟨_,rfl⟩;rw[hnn] at Px ha2 ha1 Jy;clear hnn ej;have dc:=Y8.trans e7;have zh:=dc.trans e8;have Za:=cb3 (zh.blk Z6);have K9:=J7.trans e7;have Ef:=K9.trans e8;have Zb:=cb3 (Ef.blk gg);obtain⟨w9,qf⟩: ∃x,x=w8.alloc (.cells #[.int .i64 x1,.int .i64 x2,.slice x3 x4 x5] 26):=⟨_,rfl⟩;have e9:Ext w8 w9:=qf▸(xr w8).alloc _;have qw:=heap_alloc_new w8 (.cells #[.int .i64 x1,.int .i64 x2,.slice x3 x4 x5] 26);rw[<-qf] at qw;have s9:w8.heap.size < w9.heap.size:=j10 qw;go_wp2_with fail;rw[<-qf];clear qf;clear Za Zb;refine(Px.out w9).mono ?_;rintro e w' ⟨rfl,rfl⟩;obtain⟨dy,jh⟩: ∃y,y=w9.alloc (.cells #[.int .i64 6,.int .i64 0,.slice none 0 0] 26):=⟨_,rfl⟩;have Gc:Ext w9 dy:=jh▸(xr w9).alloc _;have jc:=heap_alloc_new w9 (.cells #[.int .i64 6,.int .i64 0,.slice none 0 0] 26);rw[<-jh] at jc;obtain⟨Kq,om⟩: ∃y,y=dy.alloc (.cells #[] 26):=⟨_,rfl⟩;have e11:Ext dy Kq:=om▸(xr dy).alloc _;have sq:=heap_alloc_new dy (.cells #[] 26);rw[<-om] at sq;have Ck:=hdq (show dy.heap.size=w9.heap.size+1 by rw[jh];simp);have Ap:=zh.trans e9;have Za:=cb3 (Ap.blk Z6);have Km:=Ef.trans e9;have Zb:=cb3 (Km.blk gg);have Zx:=cb3 qw;go_wp2_with fail;rw[<-jh,<-om];clear jh om Za Zb Zx;have Jl:=oo.trans e8;have Nk:=Jl.trans e9;have Gb:=Nk.trans Gc;have Em:=Ap.trans Gc;have Dq:=Gc;have b7:=e1;have b6:=b7.trans e2;have o7:=b6.trans e3;have o9:=o7.trans e4;have z7:=o9.trans e5;have D4:=z7.trans e6;have F2:=D4.trans e7;have M8:=F2.trans e8;have xv:=M8.trans e9;have Ex:=xv.trans Gc;have Jw:=e9;have Fy:=Jw.trans Gc;have Al:=Em.blk Z6;have Ce:=Dq.blk qw;have Om:=hdq (HX.out.ext Fy);have Pp:=hdq (fun W (hW:Ext dy W)=> Nf.out W (Gb.trans hW));have X0:=Ex;obtain⟨i0,hi,hz0,hz1,hz2⟩:=info_parts j181;clear Nf Px HA
  go_loopw [12,13] (fun v i wr=> ∃j:Nat,i= .int .i64 j/\(j:Int)<=max n 0/\y32 (fun _=> False) dy wr 26 v (List.replicate j natT)/\Ext dy wr) (fun _ i _=> 3 -(intOf i).toNat)
  case atStart=> exact⟨0,rfl,by omega,y32.lit (Ck.out▸sq) (Nat.le_of_eq Ck.out),e11⟩
  case round=>
   obtain⟨j,rfl,hj,hG,aj⟩:=hrel;by_cases hlt:(j:Int) < n
   · have d2:decide ((j:Int) < n)=true:=decide_eq_true hlt
     have Hs:IntKind.i64.wrap ((j:Int)+1)=(j:Int)+1:=IntWalk.i64_in _ ⟨by omega,by omega⟩;have gu:=(xr wr).alloc (.cells #[.int .i64 6,.int .i64 0,.slice none 0 0] 26);have xa:=hG.ext gu;have Zn:=cb3 (aj.blk jc);have sxr:=aj.size;go_wp2_with (at_builtin;refine j33 _ rfl (.tmp 67) (.tmp 69) 24 rfl 26 i0 _ Tryz.underlying24 hi hz0 hz1 hz2 rfl rfl xa (by have:=gu.size;omega) (tr:=natT) (InT.mk_iff.2 ⟨none,0,rfl,Nat.le_refl _,Nat.zero_le _,.inl rfl⟩) rfl (heap_alloc_new _ _) (by rw[List.length_replicate];omega) ?_ (fun b hb=> hb.elim))
     intro v' w7 Iu hB7;obtain⟨B7,c7,rfl,-,-,-⟩:=Iu.lies (fun b hb=> hb.elim);rw[<-List.replicate_succ'] at Iu;rw[List.length_append,List.length_replicate] at*;clear xa Zn;go_wp2_with fail
     go_roundw
     case rel=> exact⟨j+1,by go_num,by omega,Iu,(aj.trans gu).trans' hB7 (Nat.le_refl _)⟩
     case measure=> simp[intOf];omega
   · have d2:decide ((j:Int) < n)=false:=decide_eq_false hlt
     obtain⟨Bq,cq,rfl,dw,zt,Kn,-⟩:=hG.lies (fun b hb=> hb.elim);have hLK:y23 wr Bq (List.replicate j natT):=InK.mono (fun b hb=> hb.1) (fun _ _=> rfl) Kn;have Gl:=hdq (j150 (List.replicate j natT) natT wr (.agg #[.int .i64 6,.int .i64 0,.slice none 0 0]) (q19 wr (fun b=> b < wr.heap.size) 6 0).lies' Bq cq dw zt hLK);rw[List.length_replicate] at Gl dw⊢;have HJ:=hdq (show n < 0\/0<=n/\(ovV (List.replicate j natT) natT).2=true/\eqTr x (ovV (List.replicate j natT) natT).1=true from by
      rcases Jy.out with h|⟨h,h2,h3⟩
      · exact .inl h
      · obtain rfl:n.toNat=j:=by omega
        exact .inr ⟨h,h2,h3⟩)
     generalize ovV (List.replicate j natT) natT=R at Gl HJ;obtain⟨R,q⟩:=R;have Zn:=cb3 (aj.blk jc);clear hG hLK Kn Jy;go_wp2_with fail;refine Gl.out.mono ?_;rintro e Hh ⟨u,rfl,hM,e12⟩;have hL:=hM.lies';obtain⟨p1,p2,p3,p4,p5,rfl⟩:=hL.three;have HP:=hdq hL;have X12:=aj.trans e12;obtain⟨w13,ov⟩: ∃y,y=Hh.alloc (.cells #[.int .i64 p1,.int .i64 p2,.slice p3 p4 p5] 26):=⟨_,rfl⟩;have e13:Ext Hh w13:=ov▸(xr Hh).alloc _;have sw:=heap_alloc_new Hh (.cells #[.int .i64 p1,.int .i64 p2,.slice p3 p4 p5] 26);rw[<-ov] at sw;have X13:=X12.trans e13;have Za:=cb3 (X12.blk Al);clear hL hM Zn Gl;go_wp2_with fail;rw[<-ov];clear ov Za;refine(Pp.out w13 X13).mono ?_;rintro e w14 ⟨rfl,iv⟩;have Hn:=X13.trans iv;have Zx:=cb3 (Hn.blk Ce);have Zp:=cb3 (iv.blk sw);rcases HJ.out with H7|⟨H7,rfl,F4⟩
     · have d3:decide (n < 0)=true:=decide_eq_true H7
       go_wp2_with fail;go_ret;exact⟨rfl,X0.trans Hn⟩
     · have d3:decide (n < 0)=false:=decide_eq_false (by omega)
       go_wp2_with fail;refine(y38 x w14 R _ _ (Om.out.ext Hn) (HP.out.ext (e13.trans iv))).mono ?_;rw[F4];rintro e w15 ⟨rfl,e15⟩;go_wp2_with fail;go_ret;exact⟨rfl,X0.trans (Hn.trans e15)⟩
theorem lifted(os:Os)(started:os.Started)(H:Type)(enc:TypeId×Value->H):
 ReturnsInHanded {} Tryz.checked os 3 .any (fun w args=>(Rows.fnFunTermSpec.pre enc Tryz.prog Tryz.f3 [] false w args/\laidMetH Tryz.prog Rows.fnFunTermRow.laid w)/\sizedMet enc Tryz.prog Tryz.f3 (OpenSpec.ofChange Rows.fnFunTermSpec) false w args) (Rows.fnFunTermSpec.post enc Tryz.prog Tryz.f3 false true false false):=by
 refine j182 (C:=Tryz.checked) (fn:=Tryz.f3) (tb:=4) (X:=fun w _=> laidMetH Tryz.prog Rows.fnFunTermRow.laid w) (fun _ _ _ hh h=> h.of_heap hh) own started (by kernel_rfl) Tryz.func3 (by kernel_rfl) (by kernel_rfl) rfl Tryz.underlying4 rfl
  (fun ds h=> by
   match ds,h with
   | [d1],_=> exact⟨rfl,rfl,rfl⟩)
  (ChangeSpec.witness_shaped (enc:=enc) (C:=Tryz.checked) (os:=os) (X:=fun w _=> laidMetH Tryz.prog Rows.fnFunTermRow.laid w) false (World.laidAll Tryz.prog os Rows.fnFunTermRow.laid) #[.slice none 0 0] 8 (World.laidAll_os _ _ _)
   (World.shaped_of_ZipB (by kernel_rfl) (by kernel_rfl)) (by kernel_rfl) (by kernel_rfl) (by kernel_rfl)
   (by rw[MakeChecks.laidMetH_plain _ _ _ (by kernel_rfl)];exact laidMet_laidAll _ (by kernel_rfl) (by kernel_rfl))) ?_
 intro W base args ds p hval hA hlt Pe hsh;rw[Tryz.params3] at hA hval;obtain⟨v0,vs0,d0,ds0,p0,q0,hargs,rfl,rfl,h0,r0⟩:=trodAll_cons hA;obtain⟨rfl,rfl,rfl⟩:=trodAll_nil r0;obtain rfl:args=#[v0]:=by cases args;simp_all
 obtain⟨A0,y9,bs0,rfl,hl0,hc0,ha0⟩:=q154 Tryz.underlying22 Tryz.underlying5 (by kernel_rfl) (hval 0 22 v0 rfl rfl) h0;exact walk W (envOf Pe hsh) A0 y9 bs0 hl0 hc0 ha0.1
theorem over:Rows.fnFunTermRow.holds Tryz.pinned (OpenSpec.ofChange Rows.fnFunTermSpec):=
 OpenClaim.holds_of_wide 3 Tryz.f3 rfl rfl rfl rfl rfl rfl rfl ⟨rfl,rfl,rfl,rfl,rfl⟩ rfl rfl rfl rfl rfl (by kernel_rfl) Tryz.func3 (by kernel_rfl)
  (of_decide_eq_true (by kernel_rfl)) (by unfold Func.isWrapper;first|(rw[if_pos (by decide+kernel)];kernel_rfl) |(rw[if_neg (by decide+kernel)];exact⟨rfl,rfl⟩))
  (fun os started H enc _=> lifted os started H enc)
theorem proved:Rows.FnFunTermCardSaid:=
 Claim7.holds_tied_plain_at .later [] Rows.fnFunTermCard.laidKinds true Rows.fnFunTermCard.stood.harness true over (fun _ h=> by cases h) (by kernel_rfl) (fun _ h=> by cases h) fnFunTerm_row_tie rfl ⟨rfl,rfl⟩ (by kernel_rfl) rfl
  (fun f fn hf hfn=> by
   obtain rfl:f=3:=Option.some.inj ((show Tryz.prog.funcNamed "loop.example/depkernel/laws.FnFunTerm" =some 3 by kernel_rfl).symm.trans hf) |>.symm
   obtain rfl:fn=Tryz.f3:=(Option.some.inj (Tryz.func3.symm.trans hfn)).symm;exact⟨by kernel_rfl,fun j t ht=> by
    rw[Tryz.params3] at ht;have hm:t∈ [22]:=by simpa using Array.mem_of_getElem? ht
    have hall:([22].all fun u=> !Tryz.prog.wantsStandIn u)=true:=by kernel_rfl
    exact(show Tryz.prog.wantsStandIn t=false by simpa using List.all_eq_true.1 hall t hm)⟩)
  (by kernel_rfl)
#print axioms proved
end Go.Proofs.YtbnkbepgmenblaaGreatDoor.funTerm
