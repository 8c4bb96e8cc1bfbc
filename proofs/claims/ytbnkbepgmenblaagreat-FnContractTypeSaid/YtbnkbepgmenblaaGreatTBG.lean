/-
  Lemmas towards the law, 33: InfI, InfJ, InfV.
-/
import Derived.Test.YtbnkbepgmenblaaGreatTBF
set_option linter.unusedVariables false
set_option maxHeartbeats 8000000
set_option maxRecDepth 100000
namespace Go.Proofs.YtbnkbepgmenblaaGreat
open Go.RowKit
attribute [local go_sem ↓] Go.wp_at_zero Go.wp_at_succ
def ShfQ(w0:World)(v:Value)(y:Int)(T:Tr)(b:Bool):Prop:= ∀(W:World) (N:Nat->Prop),Ext w0 W->(∀b,W.heap.size<=b->N b)->
 Calls Tryz.prog 128 #[v,.int .i64 y,.int .i64 0] W fun e w'=> ∃r,e= .returned (.tuple #[r,.bool b])/\InT w' N T r/\Ext W w'
theorem shfQ{w0:World}{t:Tr}{v:Value}{y:Int}(h:Lies w0 t v)(hv:valid sigT t=true)(hy:0<=y)(M8:y<=1000):ShfQ w0 v y (okT (shfT y t 0)) (valid sigT (shfT y t 0)):=fun W N hW hN=> by
 refine(j78 t y 0 W v (h.ext hW) hv hy M8 (by omega) (by omega)).mono ?_;rintro e w' ⟨r,rfl,hM,e'⟩;exact⟨r,rfl,hM.at' hN,e'⟩
theorem y212{wC:World}{p1 p2:Nat}{A:Option Addr}{G:List Tr}{At:Option Addr}{ks:List Tr}{ty:Nat->An}(n:Int)(ca ct:Nat)(hlt:ks.length<=ct)(p6:ct<=maxLen)(w0:World)(N:Nat->Prop)(hJ:JOk wC w0 N p1 p2 A G At ks ty)(ah:0<=n)(Oe:n<=20)(ul: ∀x∈G,valid sigT x=true)(ee:G.length<=ca)(hcm:ca<=maxLen)(r:Tr×Int)(h:some (lkV G n)=some r):Calls Tryz.prog 119 #[.agg #[.slice A G.length ca,.int .i64 1,.int .i64 n,.slice At ks.length ct,.func (.func 117) #[] #[.pointer (some ⟨p1,0,none⟩),.pointer (some ⟨p2,0,none⟩)]]] w0 (AnQ N w0 r):=by
 unfold maxLen at hcm;by_cases J0:(G.length:Int)<=n
 · obtain rfl:r=(q16,1):=by unfold lkV at h;rw[if_pos J0] at h;simpa using h.symm
   have t1:decide ((G.length:Int)<=n)=true:=decide_eq_true J0;clear h J0 ul ah Oe ee hcm;obtain⟨d9,a8,o9,s1⟩:=blk3 (xr (((w0.alloc (.cells #[.slice A G.length ca,.int .i64 1,.int .i64 n,.slice At ks.length ct,.func (.func 117) #[] #[.pointer (some ⟨p1,0,none⟩),.pointer (some ⟨p2,0,none⟩)]] 109)).alloc (.cells #[.int .i64 0,.int .i64 0,.slice none 0 0] 25)).alloc (.cells #[.int .i64 1,.int .i64 n,.slice At ks.length ct] 25)));obtain⟨zr0,zr1,Ze,yr0,yr1,yr2⟩:=own3 a8;clear d9 o9 s1 a8;go_enter Tryz.func119,Tryz.ntmps119;go_wp2_with fail;refine bodyPost_ret (v:= .tuple #[.agg #[.int .i64 0,.int .i64 0,.slice none 0 0],.int .i64 1]) (by simp[results,Tryz.results119,go_sem,zr0,zr1,Ze]) rfl ⟨_,rfl,j22 _ _ _ _, ?_⟩;exact(((xr _).alloc _).alloc _).alloc _
 · have t1:decide ((G.length:Int)<=n)=false:=decide_eq_false J0
   obtain⟨i,hi⟩: ∃i:Nat,(G.length:Int) - 1 - n=(i:Int):=⟨G.length - 1 - n.toNat,by omega⟩;have j7:G.length - 1 - n.toNat=i:=by omega
   have hiG:i < G.length:=by omega
   have hiZ:(i:Int) <(G.length:Int):=by omega
   have i7:IntKind.i64.wrap ((G.length:Int) - 1)=(G.length:Int) - 1:=IntWalk.i64_in _ ⟨by omega,by omega⟩;have hw2:IntKind.i64.wrap ((G.length:Int) - 1 - n)=(i:Int):=by rw[hi];exact IntWalk.i64_in _ ⟨by omega,by omega⟩
   have hw3:IntKind.i64.wrap (n+1)=n+1:=IntWalk.i64_in _ ⟨by omega,by omega⟩;obtain⟨bg,og,rfl,C5⟩:=InK.kid hJ.hG (by omega);obtain⟨x1,x2,x3,x4,x5,c0,c1,c2,yv⟩:=C5 i hiG;rw[Nat.mul_comm] at c0 c1 c2;have KX:=hdq yv;have hvx:valid sigT (kd G i)=true:=ul _ (j68 hiG);obtain⟨X,hX⟩: ∃X,shfT (n+1) (kd G i) 0=X:=⟨_,rfl⟩;obtain⟨⟨T2,d⟩,C9⟩: ∃q,mkV X=q:=⟨_,rfl⟩;obtain rfl:r=(T2,d):=by unfold lkV at h;rw[if_neg J0,j7,hX,C9] at h;simpa using h.symm
   have Q9:Hid (MadQ (okT X) (valid sigT X) (T2,d)):=hdq (C9▸madQ X);have om:Hid (ShfQ w0 _ (n+1) (okT X) (valid sigT X)):=hdq (hX▸shfQ KX.out.lies' hvx (by omega) (by omega));generalize okT X=T1 at Q9 om;generalize valid sigT X=zz at Q9 om;clear h hX C9 hvx C5 yv ul j7 hi ah Oe J0 ee hcm;obtain⟨w1,i7⟩: ∃x,x=(((w0.alloc (.cells #[.slice (some ⟨bg,og,none⟩) G.length ca,.int .i64 1,.int .i64 n,.slice At ks.length ct,.func (.func 117) #[] #[.pointer (some ⟨p1,0,none⟩),.pointer (some ⟨p2,0,none⟩)]] 109)).alloc (.cells #[.int .i64 0,.int .i64 0,.slice none 0 0] 25)).alloc (.cells #[.int .i64 1,.int .i64 n,.slice At ks.length ct] 25)):=⟨_,rfl⟩;obtain⟨d9,a8,o9,s1,e1⟩:=box3 i7;have HJ:=hdq (hJ.keep e1 (g:=w0.heap.size+1) (Nat.le_succ _) (by omega));obtain⟨M,hM⟩: ∃M,M=(fun b=> N b/\b≠w0.heap.size+1):=⟨_,rfl⟩;rw[<-hM] at HJ;have HM:=hdq hM;clear hM hJ;go_enter Tryz.func119,Tryz.ntmps119;go_wp2_with fail;rw[<-i7];clear i7;have j4:=e1;replace c0:=j4.cell c0;replace c1:=j4.cell c1;replace c2:=j4.cell c2;have Zj:=cb5 d9;have Zr:=cbr a8;have Zt:=cb3 o9;have T4:=hdq (show∀w z,EG (w1.drew, []) (w,z)-> ∀b,w.heap.size<=b->Mz M z b from fun w z h=> h.news ((fun w h=>((HJ.out.ext (xr w1)).ext h).hN) w ((xr w1).drew.trans h.1)));refine wp_region_held_drew (S:=fun _=> True) (by kernel_rfl) trivial (fun _=> ?_);refine ordG w1 20 180 #[true,true,true,true,true,true,true,true,true,true,true,true,true,true,true,true,true,true,true,true,false,false] 2 [Sp.val (.pointer (some ⟨w0.heap.size,0,none⟩)),Sp.val (.slice (some ⟨bg,og,none⟩) G.length ca),Sp.val (.pointer (some ⟨w0.heap.size,0,none⟩)),Sp.val (.slice (some ⟨bg,og,none⟩) G.length ca),Sp.val (.int .i64 (G.length:Int)),Sp.val (.int .i64 ((G.length:Int) - 1)),Sp.val (.pointer (some ⟨w0.heap.size+1+1,1,none⟩)),Sp.val (.int .i64 n),Sp.val (.int .i64 (i:Int)),Sp.val (.pointer (some ⟨bg,og+i*3,none⟩)),Sp.val (.agg #[.int .i64 x1,.int .i64 x2,.slice x3 x4 x5]),Sp.val (.pointer (some ⟨w0.heap.size+1+1,1,none⟩)),Sp.val (.int .i64 n),Sp.val (.int .i64 (n+1)),Sp.two M T1 (.bool zz),Sp.tree M T1,Sp.val (.bool zz),Sp.two M T2 (.int .i64 d),Sp.tree M T2,Sp.val (.int .i64 d)] (by kernel_rfl) rfl (by kernel_rfl) (by kernel_rfl) (by kernel_rfl) ?steps_13 ?fin_13
   case steps_13=>
    refine And.intro (.inr ?s0_13) (And.intro (.inr ?s1_13) (And.intro (.inr ?s2_13) (And.intro (.inr ?s3_13) (And.intro (.inr ?s4_13) (And.intro (.inr ?s5_13) (And.intro (.inr ?s6_13) (And.intro (.inr ?s7_13) (And.intro (.inr ?s8_13) (And.intro (.inr ?s9_13) (And.intro (.inr ?s10_13) (And.intro (.inr ?s11_13) (And.intro (.inr ?s12_13) (And.intro (.inr ?s13_13) (And.intro (.inr ?s14_13) (And.intro (.inr ?s15_13) (And.intro (.inr ?s16_13) (And.intro (.inr ?s17_13) (And.intro (.inr ?s18_13) (And.intro (.inr ?s19_13) (trivial))))))))))))))))))))
    all_goals(intro a w z hE hold a7;refine Ord.step_of rfl rfl ?_;intro K hK)
    case s0_13=>(have f1:=q11 (show a.eval (.tmp 1)= .pointer (some ⟨w0.heap.size,0,none⟩) from hold 1 (by kernel_rfl));go_simp;exact hK _ _ ⟨_,z,rfl,hE.id,rfl⟩)
    case s1_13=>(have f26:=q11 (show a.eval (.tmp 26)= .pointer (some ⟨w0.heap.size,0,none⟩) from a7 0 26 (by kernel_rfl));have q0:=cb5 (hE.1.blk d9);go_simp;exact hK _ _ ⟨_,z,rfl,hE.id,rfl⟩)
    case s2_13=>(have f1:=q11 (show a.eval (.tmp 1)= .pointer (some ⟨w0.heap.size,0,none⟩) from hold 1 (by kernel_rfl));go_simp;exact hK _ _ ⟨_,z,rfl,hE.id,rfl⟩)
    case s3_13=>(have f28:=q11 (show a.eval (.tmp 28)= .pointer (some ⟨w0.heap.size,0,none⟩) from a7 2 28 (by kernel_rfl));have q0:=cb5 (hE.1.blk d9);go_simp;exact hK _ _ ⟨_,z,rfl,hE.id,rfl⟩)
    case s4_13=>(have f29:=q11 (show a.eval (.tmp 29)= .slice (some ⟨bg,og,none⟩) G.length ca from a7 3 29 (by kernel_rfl));go_simp;exact hK _ _ ⟨_,z,rfl,hE.id,rfl⟩)
    case s5_13=>(have f30:=q11 (show a.eval (.tmp 30)= .int .i64 (G.length:Int) from a7 4 30 (by kernel_rfl));go_simp;exact hK _ _ ⟨_,z,rfl,hE.id,rfl⟩)
    case s6_13=>(have f4:=q11 (show a.eval (.tmp 4)= .pointer (some ⟨w0.heap.size+1+1,0,none⟩) from hold 4 (by kernel_rfl));go_simp;exact hK _ _ ⟨_,z,rfl,hE.id,rfl⟩)
    case s7_13=>(have f32:=q11 (show a.eval (.tmp 32)= .pointer (some ⟨w0.heap.size+1+1,1,none⟩) from a7 6 32 (by kernel_rfl));have q0:=cb3 (hE.1.blk o9);go_simp;exact hK _ _ ⟨_,z,rfl,hE.id,rfl⟩)
    case s8_13=>(have f31:=q11 (show a.eval (.tmp 31)= .int .i64 ((G.length:Int) - 1) from a7 5 31 (by kernel_rfl));have f33:=q11 (show a.eval (.tmp 33)= .int .i64 n from a7 7 33 (by kernel_rfl));go_simp;exact hK _ _ ⟨_,z,rfl,hE.id,rfl⟩)
    case s9_13=>(have f27:=q11 (show a.eval (.tmp 27)= .slice (some ⟨bg,og,none⟩) G.length ca from a7 1 27 (by kernel_rfl));have f34:=q11 (show a.eval (.tmp 34)= .int .i64 (i:Int) from a7 8 34 (by kernel_rfl));go_simp;exact hK _ _ ⟨_,z,rfl,hE.id,rfl⟩)
    case s10_13=>(have f35:=q11 (show a.eval (.tmp 35)= .pointer (some ⟨bg,og+i*3,none⟩) from a7 9 35 (by kernel_rfl));have q0:=hE.1.cell c0;have q1:=hE.1.cell c1;have q2:=hE.1.cell c2;go_simp;exact hK _ _ ⟨_,z,rfl,hE.id,rfl⟩)
    case s11_13=>(have f4:=q11 (show a.eval (.tmp 4)= .pointer (some ⟨w0.heap.size+1+1,0,none⟩) from hold 4 (by kernel_rfl));go_simp;exact hK _ _ ⟨_,z,rfl,hE.id,rfl⟩)
    case s12_13=>(have f37:=q11 (show a.eval (.tmp 37)= .pointer (some ⟨w0.heap.size+1+1,1,none⟩) from a7 11 37 (by kernel_rfl));have q0:=cb3 (hE.1.blk o9);go_simp;exact hK _ _ ⟨_,z,rfl,hE.id,rfl⟩)
    case s13_13=>(have f38:=q11 (show a.eval (.tmp 38)= .int .i64 n from a7 12 38 (by kernel_rfl));go_simp;exact hK _ _ ⟨_,z,rfl,hE.id,rfl⟩)
    case s14_13=>(have f36:=q11 (show a.eval (.tmp 36)= .agg #[.int .i64 x1,.int .i64 x2,.slice x3 x4 x5] from a7 10 36 (by kernel_rfl));have f39:=q11 (show a.eval (.tmp 39)= .int .i64 (n+1) from a7 13 39 (by kernel_rfl));go_simp;go_at_call 128;refine(om.out w (Mz M z) (j4.trans ((xr _).drew.trans hE.1)) (T4.out w z hE)).mono ?_;rintro e w' ⟨u,rfl,hu,e'⟩;exact hK _ _ ⟨_,z,rfl,eSq hE e',u,rfl,hu⟩)
    case s15_13=>(obtain⟨u40,f40,Td⟩: ∃u,a.eval (.tmp 40)= .tuple #[u,.bool zz]/\InT w (Mz M z) T1 u:=a7 14 40 (by kernel_rfl);replace f40:=q11 f40;go_simp;exact hK _ _ ⟨_,z,rfl,hE.id,Td⟩)
    case s16_13=>(obtain⟨u40,f40,Td⟩: ∃u,a.eval (.tmp 40)= .tuple #[u,.bool zz]/\InT w (Mz M z) T1 u:=a7 14 40 (by kernel_rfl);replace f40:=q11 f40;go_simp;exact hK _ _ ⟨_,z,rfl,hE.id,rfl⟩)
    case s17_13=>(have ru:InT w (Mz M z) T1 (a.eval (.tmp 41)):=a7 15 41 (by kernel_rfl);obtain⟨Tc,Tf,Tt,Od,Sq,f41⟩:=ru.three;rw[f41] at ru;replace f41:=q11 f41;have f42:=q11 (show a.eval (.tmp 42)= .bool zz from a7 16 42 (by kernel_rfl));go_simp;go_at_call 129;refine(Q9.out w (Mz M z) _ ru).mono ?_;rintro e w' ⟨u,rfl,hu,e'⟩;exact hK _ _ ⟨_,z,rfl,eSq hE e',u,rfl,hu⟩)
    case s18_13=>(obtain⟨u43,f43,Re⟩: ∃u,a.eval (.tmp 43)= .tuple #[u,.int .i64 d]/\InT w (Mz M z) T2 u:=a7 17 43 (by kernel_rfl);replace f43:=q11 f43;go_simp;exact hK _ _ ⟨_,z,rfl,hE.id,Re⟩)
    case s19_13=>(obtain⟨u43,f43,Re⟩: ∃u,a.eval (.tmp 43)= .tuple #[u,.int .i64 d]/\InT w (Mz M z) T2 u:=a7 17 43 (by kernel_rfl);replace f43:=q11 f43;go_simp;exact hK _ _ ⟨_,z,rfl,hE.id,rfl⟩)
   case fin_13=>
    intro v w' z I2 hG;have Cq:InT w' (Mz M z) T2 (v 18):=hG 18 (by decide) rfl;obtain⟨Nk,Ta,Qq,Lu,Mk,Hj⟩:=Cq.three;rw[Hj] at Cq;have T18_:=hdq Cq;clear Cq;have Oz:v 19= .int .i64 d:=hG 19 (by decide) rfl;rw[Ord.putN_all];simp only[Ord.putO,Ord.dstOf,List.getElem?_toArray,List.getElem?_cons_zero,List.getElem?_cons_succ,Option.bind_some,Act.put,List.setIfInBounds_toArray,List.set_cons_zero,List.set_cons_succ];rw[Hj,Oz];clear hG Hj Oz;have e2:Ext w1 w':=(xr w1).drew.trans I2.1;clear I2;obtain⟨w2,rfl⟩: ∃x,x=w':=⟨_,rfl⟩;have s2:=e2.size;clear c0 c1 c2 i7 hw2 hw3 t1 Zj Zr Zt;have d6:=j4.trans e2;have a6:=e2;have Zr:=cbn (a6.blk a8);refine wpAnyH_ready (rs:= [20]) (by kernel_rfl) (by simp) ?_;refine AllReadyH.cons rfl (fun K hK=> ?_) AllReadyH.nil
    go_simp
    refine hK.out _ _ trivial (fun _=> ?_);clear hK K;refine wpAnyH_take (i:=21) (v:= ?v21_13) rfl (by kernel_rfl) (by kernel_rfl) (by kernel_rfl) (fun _ _ _ h=> h) (Or.inl ⟨by rfl, ?hy21_13⟩) trivial ?rest21_13
    case hy21_13=>(intro w hSw;go_simp;(try with_reducible rfl))
    try simp only[Act.put,List.getElem_toArray,List.getElem_cons_succ,List.getElem_cons_zero,List.setIfInBounds_toArray,List.set_cons_zero,List.set_cons_succ]
    refine wpAnyH_done (by kernel_rfl) ?_ _;go_wp2_with fail;refine bodyPost_ret (v:= .tuple #[.agg #[.int .i64 Nk,.int .i64 Ta,.slice Qq Lu Mk],.int .i64 d]) (by simp[results,Tryz.results119,go_sem,Zr]) rfl ⟨_,rfl,InT.ret (HM.out▸InT.mono (fun b hb=> hb.1) (fun _ _=> rfl) T18_.out) _ _ _,(d6.set3 (by omega) _ _ _)⟩
theorem y216{wC:World}{p1 p2:Nat}{A:Option Addr}{G:List Tr}{At:Option Addr}{ks:List Tr}{ty:Nat->An}(n:Int)(ca ct:Nat)(hlt:ks.length<=ct)(p6:ct<=maxLen)(w0:World)(N:Nat->Prop)(hJ:JOk wC w0 N p1 p2 A G At ks ty)(p9:ks.length=2)(Z4:valid sigT (kd ks 1)=true)(r:Tr×Int)(h:appV ty (kd ks 1)=some r):Calls Tryz.prog 119 #[.agg #[.slice A G.length ca,.int .i64 5,.int .i64 n,.slice At ks.length ct,.func (.func 117) #[] #[.pointer (some ⟨p1,0,none⟩),.pointer (some ⟨p2,0,none⟩)]]] w0 (AnQ N w0 r):=by
 have J7:=hdq p9;have HV1:=hdq Z4;obtain⟨sA,c,hf,-,-⟩:=j28 h;unfold appV at h;rw[hf] at h;obtain⟨d,h1,h2,h3,h4⟩:=j132 h;have hsp:c=0->sA.kids.length=2/\valid sigT sA=true:=fun h0=> by
  subst h0;obtain⟨-,q1,q2⟩:=y91 hf;have:opsT 3=2:=rfl;exact⟨by omega,q2⟩
 obtain⟨qk,qn,qs⟩:=sA;simp only[Tr.kids] at h1 h2 h3 hsp;have HF:=hdq hf;have H1:=hdq h1;have H2:=hdq h2;have H3:=hdq h3;have H4:=hdq h4;have Ln:=hdq hsp;clear h1 h2 h3 h4 hsp;clear h Z4 hf;obtain⟨b,o,rfl,C5⟩:=InK.kid hJ.hK (by omega);obtain⟨Mt,Rh,Rj,Mi,Qa,R7,R4,S5,wh⟩:=C5 1 (by omega);simp only[Nat.mul_zero,Nat.add_zero,Nat.mul_one,Nat.reduceMul] at R7 R4 S5;have KT1:=hdq wh;clear wh;have yb:(1:Int) <(ks.length:Int):=by omega
 have Bi:1 < ks.length:=by omega
 clear C5;clear p9;obtain⟨w1,i7⟩: ∃x,x=(((w0.alloc (.cells #[.slice A G.length ca,.int .i64 5,.int .i64 n,.slice (some ⟨b,o,none⟩) ks.length ct,.func (.func 117) #[] #[.pointer (some ⟨p1,0,none⟩),.pointer (some ⟨p2,0,none⟩)]] 109)).alloc (.cells #[.int .i64 0,.int .i64 0,.slice none 0 0] 25)).alloc (.cells #[.int .i64 5,.int .i64 n,.slice (some ⟨b,o,none⟩) ks.length ct] 25)):=⟨_,rfl⟩;obtain⟨d9,a8,o9,s1,e1⟩:=box3 i7;have HJ:=hdq (hJ.keep e1 (g:=w0.heap.size+1) (Nat.le_succ _) (by omega));obtain⟨M,hM⟩: ∃M,M=(fun b=> N b/\b≠w0.heap.size+1):=⟨_,rfl⟩;rw[<-hM] at HJ;have HM:=hdq hM;clear hM hJ;go_enter Tryz.func119,Tryz.ntmps119;go_wp2_with fail;rw[<-i7];clear i7;refine(y54 5 n ca ct hlt p6 w1 M (HJ.out.ext (xr w1)) 0 (by rw[J7.out];decide) 3 _ HF.out).mono ?_;rintro e w2 ⟨u,rfl,hT,e2⟩;have s2:=e2.size;simp only at hT⊢;obtain⟨A3,c1,rfl,Cb,hc3,hK3⟩:=InT.mk_iff.1 hT;have T6:=hdq hT;clear hT hK3;have a6:=e2;have Zj:=cb5 (a6.blk d9);have Zr:=cbr (a6.blk a8);have Zt:=cb3 (a6.blk o9);obtain⟨w3,hw3⟩: ∃x,x=w2.alloc (.cells #[.int .i64 qk,.int .i64 qn,.slice A3 qs.length c1] 25):=⟨_,rfl⟩;have e3:Ext w2 w3:=hw3▸(xr w2).alloc _;have E5:=heap_alloc_new w2 (.cells #[.int .i64 qk,.int .i64 qn,.slice A3 qs.length c1] 25);rw[<-hw3] at E5;have s3:w2.heap.size < w3.heap.size:=j10 E5;go_wp2_with fail;rw[<-hw3];clear hw3;clear Zj Zr Zt;have o6:=a6.trans e3;have Zj:=cb5 (o6.blk d9);have Zr:=cbr (o6.blk a8);have Zt:=cb3 (o6.blk o9);have Zq:=cb3 E5;have C0:=e3;have T4:=hdq (show∀w z,EG (w3.drew, []) (w,z)-> ∀b,w.heap.size<=b->Mz M z b from fun w z h=> h.news ((fun w h=>((HJ.out.ext o6).ext h).hN) w ((xr w3).drew.trans h.1)));refine wp_region_held_drew (S:=fun _=> True) (by kernel_rfl) trivial (fun _=> ?_);refine ordG w3 5 180 #[true,true,true,true,true,false] 1 [Sp.val (.agg #[.slice A G.length ca,.int .i64 5,.int .i64 n,.slice (some ⟨b,o,none⟩) ks.length ct,.func (.func 117) #[] #[.pointer (some ⟨p1,0,none⟩),.pointer (some ⟨p2,0,none⟩)]]),Sp.val (.agg #[.int .i64 qk,.int .i64 qn,.slice A3 qs.length c1]),Sp.tree M (kd qs 0),Sp.val (.int .i64 c),Sp.val (.int .i64 d)] (by kernel_rfl) rfl (by kernel_rfl) (by kernel_rfl) (by kernel_rfl) ?steps_14 ?fin_14
 case steps_14=>
  refine And.intro (.inr ?s0_14) (And.intro (.inr ?s1_14) (And.intro (.inr ?s2_14) (And.intro (.inr ?s3_14) (And.intro (.inr ?s4_14) (trivial)))))
  all_goals(intro a w z hE hold a7;refine Ord.step_of rfl rfl ?_;intro K hK)
  case s0_14=>(have f1:=q11 (show a.eval (.tmp 1)= .pointer (some ⟨w0.heap.size,0,none⟩) from hold 1 (by kernel_rfl));have q0:=cb5 (hE.1.blk (o6.blk d9));go_simp;exact hK _ _ ⟨_,z,rfl,hE.id,rfl⟩)
  case s1_14=>(have f6:=q11 (show a.eval (.tmp 6)= .pointer (some ⟨w2.heap.size,0,none⟩) from hold 6 (by kernel_rfl));have q0:=cb3 (hE.1.blk E5);go_simp;exact hK _ _ ⟨_,z,rfl,hE.id,rfl⟩)
  case s2_14=>(have f93:=q11 (show a.eval (.tmp 93)= .agg #[.int .i64 qk,.int .i64 qn,.slice A3 qs.length c1] from a7 1 93 (by kernel_rfl));go_simp;go_at_call 161;refine(y113 (.mk qk qn qs) w (Mz M z) _ (InT.oldG (M:=M) (T6.out.later C0) hE)).mono ?_;rintro e w' ⟨u,rfl,hu,e'⟩;exact hK _ _ ⟨_,z,rfl,eSq hE e',hu⟩)
  case s3_14=>(have f7:=q11 (show a.eval (.tmp 7)= .int .i64 c from hold 7 (by kernel_rfl));go_simp;exact hK _ _ ⟨_,z,rfl,hE.id,rfl⟩)
  case s4_14=>(have f92:=q11 (show a.eval (.tmp 92)= .agg #[.slice A G.length ca,.int .i64 5,.int .i64 n,.slice (some ⟨b,o,none⟩) ks.length ct,.func (.func 117) #[] #[.pointer (some ⟨p1,0,none⟩),.pointer (some ⟨p2,0,none⟩)]] from a7 0 92 (by kernel_rfl));have Kh:InT w (Mz M z) (kd qs 0) (a.eval (.tmp 94)):=a7 2 94 (by kernel_rfl);obtain⟨d94_1,d94_2,d94_3,d94_4,d94_5,f94⟩:=Kh.three;rw[f94] at Kh;replace f94:=q11 f94;have f95:=q11 (show a.eval (.tmp 95)= .int .i64 c from a7 3 95 (by kernel_rfl));go_simp;go_at_call 160;refine(q73 5 n ca ct hlt p6 w M ((HJ.out.ext o6).ext ((xr _).drew.trans hE.1)) 1 (by rw[J7.out];decide) (kd qs 0) _ (InT.mono (fun b hb=> hb.1) (fun _ _=> rfl) Kh) c d H1.out H2.out).mono ?_;rintro e w' ⟨rfl,e'⟩;exact hK _ _ ⟨_,z,rfl,eSq hE e',rfl⟩)
 case fin_14=>
  intro v w' z I2 hG;have Pt:v 4= .int .i64 d:=hG 4 (by decide) rfl;rw[Ord.putN_all];simp only[Ord.putO,Ord.dstOf,List.getElem?_toArray,List.getElem?_cons_zero,List.getElem?_cons_succ,Option.bind_some,Act.put,List.setIfInBounds_toArray,List.set_cons_zero,List.set_cons_succ];rw[Pt];clear hG Pt;have e4:Ext w3 w':=(xr w3).drew.trans I2.1;clear I2;obtain⟨w4,rfl⟩: ∃x,x=w':=⟨_,rfl⟩;have s4:=e4.size;refine wpAnyH_take (i:=5) (v:= ?v5_14) rfl (by kernel_rfl) (by kernel_rfl) (by kernel_rfl) (fun _ _ _ h=> h) (Or.inl ⟨by rfl, ?hy5_14⟩) trivial ?rest5_14
  case hy5_14=>(intro w hSw;go_simp;(try with_reducible rfl))
  try simp only[Act.put,List.getElem_toArray,List.getElem_cons_succ,List.getElem_cons_zero,List.setIfInBounds_toArray,List.set_cons_zero,List.set_cons_succ]
  refine wpAnyH_done (by kernel_rfl) ?_ _;clear Zj Zr Zt Zq;by_cases hc0:d=0
  case neg=>
   obtain rfl:=H4.out hc0;have t1:(d !=0)=true:=by simp[hc0]
   clear hc0 H4 R7 R4 S5;have o8:=o6.trans e4;have Zj:=cb5 (o8.blk d9);have Zr:=cbr (o8.blk a8);have Zt:=cb3 (o8.blk o9);have C4:=e4;have Zq:=cb3 (C4.blk E5);have j4:=e1;have d6:=j4.trans e2;have p7:=d6.trans e3;have x8:=p7.trans e4;go_wp2_with fail;refine bodyPost_ret (v:= .tuple #[.agg #[.int .i64 0,.int .i64 0,.slice none 0 0],.int .i64 d]) (by simp[results,Tryz.results119,go_sem,Zr]) rfl ⟨_,rfl,j22 _ _ 0 0,(x8.set3 (by omega) _ _ _)⟩
  obtain⟨hcc,hq⟩:=H3.out hc0;subst hc0;obtain⟨hl2,Bd⟩:=Ln.out hcc;clear H1 H2 H3 H4 hcc Ln;have hs1:valid sigT (kd qs 1)=true:=y48 (t:= .mk qk qn qs) Bd (by show 1 < qs.length;omega);have ft:(1:Int) <(qs.length:Int):=by omega
  have mi:1 < qs.length:=by omega
  obtain⟨X,hX⟩: ∃X,sbsT (kd ks 1) (kd qs 1) 0 0=X:=⟨_,rfl⟩;obtain⟨⟨T2,d⟩,C9⟩: ∃q,mkV X=q:=⟨_,rfl⟩;obtain rfl:r=(T2,d):=by rw[hX,C9] at hq;simpa using hq.symm
  have W6:=C0.trans e4;obtain⟨A9,c9,Ro,Ki,I',V3⟩:=InT.mk_iff.1 (T6.out.later W6);simp only[Value.agg.injEq,Array.mk.injEq,List.cons.injEq,Value.slice.injEq,and_true,true_and] at Ro;obtain⟨rfl,rfl⟩:=Ro;obtain⟨b2,o2,rfl,K6⟩:=InK.kid V3 (by omega);obtain⟨y1,y2,y3,y4,y5,hy0,M8,hy2,qo⟩:=K6 1 (by omega);simp only[Nat.mul_zero,Nat.add_zero,Nat.mul_one,Nat.reduceMul] at hy0 M8 hy2;have Sy:=hdq qo;clear qo;have Q9:Hid (MadQ (okT X) (valid sigT X) (T2,d)):=hdq (C9▸madQ X);have om:Hid (∀vu,SubQ w4 (kd ks 1) _ vu (okT X) (valid sigT X)):=hdq (fun vu=> hX▸subQ Sy.out.lies' hs1 HV1.out);generalize okT X=T1 at Q9 om;generalize valid sigT X=zz at Q9 om;clear hq hX C9 hs1 hl2 Bd V3 K6 Ki I';have o8:=o6.trans e4;have Zj:=cb5 (o8.blk d9);have Zr:=cbr (o8.blk a8);have Zt:=cb3 (o8.blk o9);have C4:=e4;have Zq:=cb3 (C4.blk E5);go_wp2_with fail;clear Zj Zr Zt Zq;have j4:=e1;have d6:=j4.trans e2;have p7:=d6.trans e3;have x8:=p7.trans e4;replace R7:=x8.cell R7;replace R4:=x8.cell R4;replace S5:=x8.cell S5;have Zj:=cb5 (o8.blk d9);have Zr:=cbr (o8.blk a8);have Zt:=cb3 (o8.blk o9);have Zq:=cb3 (C4.blk E5);have T4:=hdq (show∀w z,EG (w4.drew, []) (w,z)-> ∀b,w.heap.size<=b->Mz M z b from fun w z h=> h.news ((fun w h=>((HJ.out.ext o8).ext h).hN) w ((xr w4).drew.trans h.1)));refine wp_region_held_drew (S:=fun _=> True) (by kernel_rfl) trivial (fun _=> ?_);refine ordG w4 14 180 #[true,true,true,true,true,true,true,true,true,true,true,true,true,true,false,false] 2 [Sp.val (.pointer (some ⟨w2.heap.size,2,none⟩)),Sp.val (.slice (some ⟨b2,o2,none⟩) qs.length c1),Sp.val (.pointer (some ⟨b2,o2+3,none⟩)),Sp.val (.agg #[.int .i64 y1,.int .i64 y2,.slice y3 y4 y5]),Sp.val (.pointer (some ⟨w0.heap.size+1+1,2,none⟩)),Sp.val (.slice (some ⟨b,o,none⟩) ks.length ct),Sp.val (.pointer (some ⟨b,o+3,none⟩)),Sp.val (.agg #[.int .i64 Mt,.int .i64 Rh,.slice Rj Mi Qa]),Sp.two M T1 (.bool zz),Sp.tree M T1,Sp.val (.bool zz),Sp.two M T2 (.int .i64 d),Sp.tree M T2,Sp.val (.int .i64 d)] (by kernel_rfl) rfl (by kernel_rfl) (by kernel_rfl) (by kernel_rfl) ?steps_15 ?fin_15
  case steps_15=>
   refine And.intro (.inr ?s0_15) (And.intro (.inr ?s1_15) (And.intro (.inr ?s2_15) (And.intro (.inr ?s3_15) (And.intro (.inr ?s4_15) (And.intro (.inr ?s5_15) (And.intro (.inr ?s6_15) (And.intro (.inr ?s7_15) (And.intro (.inr ?s8_15) (And.intro (.inr ?s9_15) (And.intro (.inr ?s10_15) (And.intro (.inr ?s11_15) (And.intro (.inr ?s12_15) (And.intro (.inr ?s13_15) (trivial))))))))))))))
   all_goals(intro a w z hE hold a7;refine Ord.step_of rfl rfl ?_;intro K hK)
   case s0_15=>(have f6:=q11 (show a.eval (.tmp 6)= .pointer (some ⟨w2.heap.size,0,none⟩) from hold 6 (by kernel_rfl));go_simp;exact hK _ _ ⟨_,z,rfl,hE.id,rfl⟩)
   case s1_15=>(have f101:=q11 (show a.eval (.tmp 101)= .pointer (some ⟨w2.heap.size,2,none⟩) from a7 0 101 (by kernel_rfl));have q0:=cb3 (hE.1.blk (C4.blk E5));go_simp;exact hK _ _ ⟨_,z,rfl,hE.id,rfl⟩)
   case s2_15=>(have f102:=q11 (show a.eval (.tmp 102)= .slice (some ⟨b2,o2,none⟩) qs.length c1 from a7 1 102 (by kernel_rfl));go_simp;exact hK _ _ ⟨_,z,rfl,hE.id,rfl⟩)
   case s3_15=>(have f103:=q11 (show a.eval (.tmp 103)= .pointer (some ⟨b2,o2+3,none⟩) from a7 2 103 (by kernel_rfl));have q0:=hE.1.cell hy0;have q1:=hE.1.cell M8;have q2:=hE.1.cell hy2;go_simp;exact hK _ _ ⟨_,z,rfl,hE.id,rfl⟩)
   case s4_15=>(have f4:=q11 (show a.eval (.tmp 4)= .pointer (some ⟨w0.heap.size+1+1,0,none⟩) from hold 4 (by kernel_rfl));go_simp;exact hK _ _ ⟨_,z,rfl,hE.id,rfl⟩)
   case s5_15=>(have f105:=q11 (show a.eval (.tmp 105)= .pointer (some ⟨w0.heap.size+1+1,2,none⟩) from a7 4 105 (by kernel_rfl));have q0:=cb3 (hE.1.blk (o8.blk o9));go_simp;exact hK _ _ ⟨_,z,rfl,hE.id,rfl⟩)
   case s6_15=>(have f106:=q11 (show a.eval (.tmp 106)= .slice (some ⟨b,o,none⟩) ks.length ct from a7 5 106 (by kernel_rfl));go_simp;exact hK _ _ ⟨_,z,rfl,hE.id,rfl⟩)
   case s7_15=>(have f107:=q11 (show a.eval (.tmp 107)= .pointer (some ⟨b,o+3,none⟩) from a7 6 107 (by kernel_rfl));have q0:=hE.1.cell R7;have q1:=hE.1.cell R4;have q2:=hE.1.cell S5;go_simp;exact hK _ _ ⟨_,z,rfl,hE.id,rfl⟩)
   case s8_15=>(have f104:=q11 (show a.eval (.tmp 104)= .agg #[.int .i64 y1,.int .i64 y2,.slice y3 y4 y5] from a7 3 104 (by kernel_rfl));have f108:=q11 (show a.eval (.tmp 108)= .agg #[.int .i64 Mt,.int .i64 Rh,.slice Rj Mi Qa] from a7 7 108 (by kernel_rfl));go_simp;go_at_call 141;refine(om.out _ w (Mz M z) ((xr w4).trans ((xr _).drew.trans hE.1)) (InT.lies' (InT.later KT1.out (x8.trans ((xr _).drew.trans hE.1)))) (T4.out w z hE)).mono ?_;rintro e w' ⟨u,rfl,hu,e'⟩;exact hK _ _ ⟨_,z,rfl,eSq hE e',u,rfl,hu⟩)
   case s9_15=>(obtain⟨u109,f109,Om⟩: ∃u,a.eval (.tmp 109)= .tuple #[u,.bool zz]/\InT w (Mz M z) T1 u:=a7 8 109 (by kernel_rfl);replace f109:=q11 f109;go_simp;exact hK _ _ ⟨_,z,rfl,hE.id,Om⟩)
   case s10_15=>(obtain⟨u109,f109,Om⟩: ∃u,a.eval (.tmp 109)= .tuple #[u,.bool zz]/\InT w (Mz M z) T1 u:=a7 8 109 (by kernel_rfl);replace f109:=q11 f109;go_simp;exact hK _ _ ⟨_,z,rfl,hE.id,rfl⟩)
   case s11_15=>(have Jw:InT w (Mz M z) T1 (a.eval (.tmp 110)):=a7 9 110 (by kernel_rfl);obtain⟨Xy,Xo,d110_3,d110_4,Zd,f110⟩:=Jw.three;rw[f110] at Jw;replace f110:=q11 f110;have f111:=q11 (show a.eval (.tmp 111)= .bool zz from a7 10 111 (by kernel_rfl));go_simp;go_at_call 129;refine(Q9.out w (Mz M z) _ Jw).mono ?_;rintro e w' ⟨u,rfl,hu,e'⟩;exact hK _ _ ⟨_,z,rfl,eSq hE e',u,rfl,hu⟩)
   case s12_15=>(obtain⟨u112,f112,Rx⟩: ∃u,a.eval (.tmp 112)= .tuple #[u,.int .i64 d]/\InT w (Mz M z) T2 u:=a7 11 112 (by kernel_rfl);replace f112:=q11 f112;go_simp;exact hK _ _ ⟨_,z,rfl,hE.id,Rx⟩)
   case s13_15=>(obtain⟨u112,f112,Rx⟩: ∃u,a.eval (.tmp 112)= .tuple #[u,.int .i64 d]/\InT w (Mz M z) T2 u:=a7 11 112 (by kernel_rfl);replace f112:=q11 f112;go_simp;exact hK _ _ ⟨_,z,rfl,hE.id,rfl⟩)
  case fin_15=>
   intro v w' z I2 hG;have iq:InT w' (Mz M z) T2 (v 12):=hG 12 (by decide) rfl;obtain⟨Aw,yf,vy,yc,wx,fy⟩:=iq.three;rw[fy] at iq;have Jn:=hdq iq;clear iq;have Ai:v 13= .int .i64 d:=hG 13 (by decide) rfl;rw[Ord.putN_all];simp only[Ord.putO,Ord.dstOf,List.getElem?_toArray,List.getElem?_cons_zero,List.getElem?_cons_succ,Option.bind_some,Act.put,List.setIfInBounds_toArray,List.set_cons_zero,List.set_cons_succ];rw[fy,Ai];clear hG fy Ai;have e5:Ext w4 w':=(xr w4).drew.trans I2.1;clear I2;obtain⟨w5,rfl⟩: ∃x,x=w':=⟨_,rfl⟩;have s5:=e5.size;clear R7 R4 S5 hy0 M8 hy2 Zj Zr Zt Zq;have I9:=x8.trans e5;have B9:=o8.trans e5;have Zr:=cbn (B9.blk a8);refine wpAnyH_ready (rs:= [14]) (by kernel_rfl) (by simp) ?_;refine AllReadyH.cons rfl (fun K hK=> ?_) AllReadyH.nil
   go_simp
   refine hK.out _ _ trivial (fun _=> ?_);clear hK K;refine wpAnyH_take (i:=15) (v:= ?v15_15) rfl (by kernel_rfl) (by kernel_rfl) (by kernel_rfl) (fun _ _ _ h=> h) (Or.inl ⟨by rfl, ?hy15_15⟩) trivial ?rest15_15
   case hy15_15=>(intro w hSw;go_simp;(try with_reducible rfl))
   try simp only[Act.put,List.getElem_toArray,List.getElem_cons_succ,List.getElem_cons_zero,List.setIfInBounds_toArray,List.set_cons_zero,List.set_cons_succ]
   refine wpAnyH_done (by kernel_rfl) ?_ _;go_wp2_with fail;refine bodyPost_ret (v:= .tuple #[.agg #[.int .i64 Aw,.int .i64 yf,.slice vy yc wx],.int .i64 d]) (by simp[results,Tryz.results119,go_sem,Zr]) rfl ⟨_,rfl,InT.ret (HM.out▸InT.mono (fun b hb=> hb.1) (fun _ _=> rfl) Jn.out) _ _ _,(I9.set3 (by omega) _ _ _)⟩
theorem q194{wC:World}{p1 p2:Nat}{A:Option Addr}{G:List Tr}{At:Option Addr}{ks:List Tr}{ty:Nat->An}(n:Int)(ca ct:Nat)(hlt:ks.length<=ct)(p6:ct<=maxLen)(w0:World)(N:Nat->Prop)(hJ:JOk wC w0 N p1 p2 A G At ks ty)(inf:Tr->An)(hI:InfF wC A ca G inf)(p9:ks.length=1)(Wc: ∀s,ty 0=some (s,0)->valid sigT s=true)(r:Tr×Int)(h:rflV inf ty (kd ks 0)=some r):Calls Tryz.prog 119 #[.agg #[.slice A G.length ca,.int .i64 11,.int .i64 n,.slice At ks.length ct,.func (.func 117) #[] #[.pointer (some ⟨p1,0,none⟩),.pointer (some ⟨p2,0,none⟩)]]] w0 (AnQ N w0 r):=by
 have J7:=hdq p9;have zm:=hdq hI;have Uc:=hdq Wc;obtain⟨sA,c,h1,h2,h3⟩:=j28 h;have H1:=hdq h1;have H2:=hdq h2;have H3:=hdq h3;clear h1 h2 h3;clear h hI Wc;obtain⟨b,o,rfl,C5⟩:=InK.kid hJ.hK (by omega);obtain⟨Z1,Y6,Y4,Y9,Y8,y7,z7,z6,M7⟩:=C5 0 (by omega);simp only[Nat.mul_zero,Nat.add_zero,Nat.mul_one,Nat.reduceMul] at y7 z7 z6;have ju:=hdq M7;clear M7;have Cj:(0:Int) <(ks.length:Int):=by omega
 have uq:0 < ks.length:=by omega
 clear C5;clear p9;obtain⟨w1,i7⟩: ∃x,x=(((w0.alloc (.cells #[.slice A G.length ca,.int .i64 11,.int .i64 n,.slice (some ⟨b,o,none⟩) ks.length ct,.func (.func 117) #[] #[.pointer (some ⟨p1,0,none⟩),.pointer (some ⟨p2,0,none⟩)]] 109)).alloc (.cells #[.int .i64 0,.int .i64 0,.slice none 0 0] 25)).alloc (.cells #[.int .i64 11,.int .i64 n,.slice (some ⟨b,o,none⟩) ks.length ct] 25)):=⟨_,rfl⟩;obtain⟨d9,a8,o9,s1,e1⟩:=box3 i7;have HJ:=hdq (hJ.keep e1 (g:=w0.heap.size+1) (Nat.le_succ _) (by omega));obtain⟨M,hM⟩: ∃M,M=(fun b=> N b/\b≠w0.heap.size+1):=⟨_,rfl⟩;rw[<-hM] at HJ;have HM:=hdq hM;clear hM hJ;go_enter Tryz.func119,Tryz.ntmps119;go_wp2_with fail;rw[<-i7];clear i7;refine((HJ.out.ext (xr w1)).hT w1 _ (HJ.out.ext (xr w1)).hx (HJ.out.ext (xr w1)).hN (HJ.out.ext (xr w1)).hG (HJ.out.ext (xr w1)).hK 0 (by rw[J7.out];decide) _ H1.out).mono ?_;rintro e w2 ⟨u,rfl,hT,e2⟩;have s2:=e2.size;obtain⟨a1,b1,A1,l1,c1,rfl⟩:=hT.three;have T1:=hdq hT;clear hT;by_cases hc0:c=0
 case neg=>
  obtain rfl:=H3.out hc0;have t1:(c !=0)=true:=by simp[hc0]
  clear hc0 H3;clear y7 z7 z6;have a6:=e2;have Zj:=cb5 (a6.blk d9);have Zr:=cbn (a6.blk a8);have Zt:=cb3 (a6.blk o9);have V6:Ext w2 (w2.alloc (.cells #[.int .i64 a1,.int .i64 b1,.slice A1 l1 c1] 25)):=(xr w2).alloc _;have j4:=e1;have d6:=j4.trans e2;have Pr:=cbn (V6.blk (a6.blk a8));go_wp2_with fail;refine bodyPost_ret (v:= .tuple #[.agg #[.int .i64 0,.int .i64 0,.slice none 0 0],.int .i64 c]) (by simp[results,Tryz.results119,go_sem,Zr,Pr]) rfl ⟨_,rfl,j22 _ _ 0 0,((d6.trans V6).set3 (by omega) _ _ _)⟩
 have hq:=H2.out hc0;subst hc0;have Wx:=hdq (Uc.out _ H1.out);clear H1 H2 H3 Uc;obtain⟨sB,c,h1,h2,h3⟩:=j28 hq;have H1:=hdq h1;have H2:=hdq h2;have H3:=hdq h3;clear h1 h2 h3;clear hq;have a6:=e2;have Zj:=cb5 (a6.blk d9);have Zr:=cbr (a6.blk a8);have Zt:=cb3 (a6.blk o9);obtain⟨w3,hw3⟩: ∃x,x=w2.alloc (.cells #[.int .i64 a1,.int .i64 b1,.slice A1 l1 c1] 25):=⟨_,rfl⟩;have e3:Ext w2 w3:=hw3▸(xr w2).alloc _;have M6:=heap_alloc_new w2 (.cells #[.int .i64 a1,.int .i64 b1,.slice A1 l1 c1] 25);rw[<-hw3] at M6;have s3:w2.heap.size < w3.heap.size:=j10 M6;go_wp2_with fail;rw[<-hw3];clear hw3;clear Zj Zr Zt;have o6:=a6.trans e3;have C0:=e3;refine(y140 zm.out w3 M (HJ.out.ext o6).hx (HJ.out.ext o6).hN (HJ.out.ext o6).hG sA _ (T1.out.later C0) Wx.out _ H1.out).mono ?_;rintro e w4 ⟨rfl,e4⟩;have s4:=e4.size;simp only;by_cases hc0:c=0
 case neg=>
  obtain rfl:=H3.out hc0;have t1:(c !=0)=true:=by simp[hc0]
  clear hc0 H3;clear y7 z7 z6;have o8:=o6.trans e4;have Zj:=cb5 (o8.blk d9);have Zr:=cbr (o8.blk a8);have Zt:=cb3 (o8.blk o9);have C4:=e4;have ut:=cb3 (C4.blk M6);have j4:=e1;have d6:=j4.trans e2;have p7:=d6.trans e3;have x8:=p7.trans e4;go_wp2_with fail;refine bodyPost_ret (v:= .tuple #[.agg #[.int .i64 0,.int .i64 0,.slice none 0 0],.int .i64 c]) (by simp[results,Tryz.results119,go_sem,Zr]) rfl ⟨_,rfl,j22 _ _ 0 0,(x8.set3 (by omega) _ _ _)⟩
 obtain⟨⟨T2,d⟩,C9⟩: ∃q,mkV (.mk 10 0 [sA,kd ks 0,kd ks 0])=q:=⟨_,rfl⟩;obtain rfl:r=(T2,d):=by have hq:=H2.out hc0;rw[C9] at hq;simpa using hq.symm
 subst hc0;have Q9:Hid (MadQ (.mk 10 0 [sA,kd ks 0,kd ks 0]) true (T2,d)):=hdq (by have:=j163 (.mk 10 0 [sA,kd ks 0,kd ks 0]);rwa [C9] at this);clear H2 H3 C9;have o8:=o6.trans e4;have Zj:=cb5 (o8.blk d9);have Zr:=cbr (o8.blk a8);have Zt:=cb3 (o8.blk o9);have C4:=e4;have ut:=cb3 (C4.blk M6);go_wp2_with fail;clear Zj Zr Zt ut;have j4:=e1;have d6:=j4.trans e2;have p7:=d6.trans e3;have x8:=p7.trans e4;replace y7:=x8.cell y7;replace z7:=x8.cell z7;replace z6:=x8.cell z6;have Zj:=cb5 (o8.blk d9);have Zr:=cbr (o8.blk a8);have Zt:=cb3 (o8.blk o9);have ut:=cb3 (C4.blk M6);have W6:=C0.trans e4;have T4:=hdq (show∀w z,EG (w4.drew, []) (w,z)-> ∀b,w.heap.size<=b->Mz M z b from fun w z h=> h.news ((fun w h=>((HJ.out.ext o8).ext h).hN) w ((xr w4).drew.trans h.1)));refine wp_region_held_drew (S:=fun _=> True) (by kernel_rfl) trivial (fun _=> ?_);refine ordG w4 14 180 #[true,true,true,true,true,true,true,true,true,true,true,true,true,true,false,false] 2 [Sp.val (.agg #[.int .i64 a1,.int .i64 b1,.slice A1 l1 c1]),Sp.val (.pointer (some ⟨w0.heap.size+1+1,2,none⟩)),Sp.val (.slice (some ⟨b,o,none⟩) ks.length ct),Sp.val (.pointer (some ⟨b,o,none⟩)),Sp.val (.agg #[.int .i64 Z1,.int .i64 Y6,.slice Y4 Y9 Y8]),Sp.val (.pointer (some ⟨w0.heap.size+1+1,2,none⟩)),Sp.val (.slice (some ⟨b,o,none⟩) ks.length ct),Sp.val (.pointer (some ⟨b,o,none⟩)),Sp.val (.agg #[.int .i64 Z1,.int .i64 Y6,.slice Y4 Y9 Y8]),Sp.row M [sA,kd ks 0,kd ks 0],Sp.tree M (.mk 10 0 [sA,kd ks 0,kd ks 0]),Sp.two M T2 (.int .i64 d),Sp.tree M T2,Sp.val (.int .i64 d)] (by kernel_rfl) rfl (by kernel_rfl) (by kernel_rfl) (by kernel_rfl) ?steps_16 ?fin_16
 case steps_16=>
  refine And.intro (.inr ?s0_16) (And.intro (.inr ?s1_16) (And.intro (.inr ?s2_16) (And.intro (.inr ?s3_16) (And.intro (.inr ?s4_16) (And.intro (.inr ?s5_16) (And.intro (.inr ?s6_16) (And.intro (.inr ?s7_16) (And.intro (.inr ?s8_16) (And.intro (.inr ?s9_16) (And.intro (.inr ?s10_16) (And.intro (.inr ?s11_16) (And.intro (.inr ?s12_16) (And.intro (.inr ?s13_16) (trivial))))))))))))))
  all_goals(intro a w z hE hold a7;refine Ord.step_of rfl rfl ?_;intro K hK)
  case s0_16=>(have f9:=q11 (show a.eval (.tmp 9)= .pointer (some ⟨w2.heap.size,0,none⟩) from hold 9 (by kernel_rfl));have q0:=cb3 (hE.1.blk (C4.blk M6));go_simp;exact hK _ _ ⟨_,z,rfl,hE.id,rfl⟩)
  case s1_16=>(have f4:=q11 (show a.eval (.tmp 4)= .pointer (some ⟨w0.heap.size+1+1,0,none⟩) from hold 4 (by kernel_rfl));go_simp;exact hK _ _ ⟨_,z,rfl,hE.id,rfl⟩)
  case s2_16=>(have f151:=q11 (show a.eval (.tmp 151)= .pointer (some ⟨w0.heap.size+1+1,2,none⟩) from a7 1 151 (by kernel_rfl));have q0:=cb3 (hE.1.blk (o8.blk o9));go_simp;exact hK _ _ ⟨_,z,rfl,hE.id,rfl⟩)
  case s3_16=>(have f152:=q11 (show a.eval (.tmp 152)= .slice (some ⟨b,o,none⟩) ks.length ct from a7 2 152 (by kernel_rfl));go_simp;exact hK _ _ ⟨_,z,rfl,hE.id,rfl⟩)
  case s4_16=>(have f153:=q11 (show a.eval (.tmp 153)= .pointer (some ⟨b,o,none⟩) from a7 3 153 (by kernel_rfl));have q0:=hE.1.cell y7;have q1:=hE.1.cell z7;have q2:=hE.1.cell z6;go_simp;exact hK _ _ ⟨_,z,rfl,hE.id,rfl⟩)
  case s5_16=>(have f4:=q11 (show a.eval (.tmp 4)= .pointer (some ⟨w0.heap.size+1+1,0,none⟩) from hold 4 (by kernel_rfl));go_simp;exact hK _ _ ⟨_,z,rfl,hE.id,rfl⟩)
  case s6_16=>(have f155:=q11 (show a.eval (.tmp 155)= .pointer (some ⟨w0.heap.size+1+1,2,none⟩) from a7 5 155 (by kernel_rfl));have q0:=cb3 (hE.1.blk (o8.blk o9));go_simp;exact hK _ _ ⟨_,z,rfl,hE.id,rfl⟩)
  case s7_16=>(have f156:=q11 (show a.eval (.tmp 156)= .slice (some ⟨b,o,none⟩) ks.length ct from a7 6 156 (by kernel_rfl));go_simp;exact hK _ _ ⟨_,z,rfl,hE.id,rfl⟩)
  case s8_16=>(have f157:=q11 (show a.eval (.tmp 157)= .pointer (some ⟨b,o,none⟩) from a7 7 157 (by kernel_rfl));have q0:=hE.1.cell y7;have q1:=hE.1.cell z7;have q2:=hE.1.cell z6;go_simp;exact hK _ _ ⟨_,z,rfl,hE.id,rfl⟩)
  case s9_16=>(have f150:=q11 (show a.eval (.tmp 150)= .agg #[.int .i64 a1,.int .i64 b1,.slice A1 l1 c1] from a7 0 150 (by kernel_rfl));have f154:=q11 (show a.eval (.tmp 154)= .agg #[.int .i64 Z1,.int .i64 Y6,.slice Y4 Y9 Y8] from a7 4 154 (by kernel_rfl));have f158:=q11 (show a.eval (.tmp 158)= .agg #[.int .i64 Z1,.int .i64 Y6,.slice Y4 Y9 Y8] from a7 8 158 (by kernel_rfl));go_simp;refine hK _ _ ⟨_,z,rfl,eSq hE ((xr _).alloc _),⟨_,3,rfl,Nat.le_refl _,by decide,InK.news3 (InT.oldG (M:=M) ((T1.out.later W6)) hE) (InT.oldG (M:=M) (HM.out▸InT.later (InT.keep ju.out e1 (g:=w0.heap.size+1) (Nat.le_succ _)) o8) hE) (InT.oldG (M:=M) (HM.out▸InT.later (InT.keep ju.out e1 (g:=w0.heap.size+1) (Nat.le_succ _)) o8) hE) (T4.out w z hE _ (Nat.le_refl _))⟩⟩)
  case s10_16=>(obtain⟨Sb,c159,f159,Gs,Js,Ji⟩: ∃A c,a.eval (.tmp 159)= .slice A 3 c/\3<=c/\c<=maxLen/\InK w (Mz M z) A [sA,kd ks 0,kd ks 0]:=a7 9 159 (by kernel_rfl);replace f159:=q11 f159;go_simp;go_at_call 71;refine(q22 w 10 Sb 3 c159).mono ?_;rintro e w' ⟨rfl,e'⟩;exact hK _ _ ⟨_,z,rfl,eSq hE e',InT.mk_iff.2 ⟨Sb,c159,rfl,Gs,Js,Ji.later e'⟩⟩)
  case s11_16=>(have Hi:InT w (Mz M z) (.mk 10 0 [sA,kd ks 0,kd ks 0]) (a.eval (.tmp 160)):=a7 10 160 (by kernel_rfl);obtain⟨Yw,d160_2,d160_3,Yx,d160_5,f160⟩:=Hi.three;rw[f160] at Hi;replace f160:=q11 f160;go_simp;go_at_call 129;refine(Q9.out w (Mz M z) _ Hi).mono ?_;rintro e w' ⟨u,rfl,hu,e'⟩;exact hK _ _ ⟨_,z,rfl,eSq hE e',u,rfl,hu⟩)
  case s12_16=>(obtain⟨u161,f161,Pq⟩: ∃u,a.eval (.tmp 161)= .tuple #[u,.int .i64 d]/\InT w (Mz M z) T2 u:=a7 11 161 (by kernel_rfl);replace f161:=q11 f161;go_simp;exact hK _ _ ⟨_,z,rfl,hE.id,Pq⟩)
  case s13_16=>(obtain⟨u161,f161,Pq⟩: ∃u,a.eval (.tmp 161)= .tuple #[u,.int .i64 d]/\InT w (Mz M z) T2 u:=a7 11 161 (by kernel_rfl);replace f161:=q11 f161;go_simp;exact hK _ _ ⟨_,z,rfl,hE.id,rfl⟩)
 case fin_16=>
  intro v w' z I2 hG;have iq:InT w' (Mz M z) T2 (v 12):=hG 12 (by decide) rfl;obtain⟨Aw,yf,vy,yc,wx,fy⟩:=iq.three;rw[fy] at iq;have Jn:=hdq iq;clear iq;have Ai:v 13= .int .i64 d:=hG 13 (by decide) rfl;rw[Ord.putN_all];simp only[Ord.putO,Ord.dstOf,List.getElem?_toArray,List.getElem?_cons_zero,List.getElem?_cons_succ,Option.bind_some,Act.put,List.setIfInBounds_toArray,List.set_cons_zero,List.set_cons_succ];rw[fy,Ai];clear hG fy Ai;have e5:Ext w4 w':=(xr w4).drew.trans I2.1;clear I2;obtain⟨w5,rfl⟩: ∃x,x=w':=⟨_,rfl⟩;have s5:=e5.size;clear y7 z7 z6 Zj Zr Zt ut;have I9:=x8.trans e5;have B9:=o8.trans e5;have Zr:=cbn (B9.blk a8);refine wpAnyH_ready (rs:= [14]) (by kernel_rfl) (by simp) ?_;refine AllReadyH.cons rfl (fun K hK=> ?_) AllReadyH.nil
  go_simp
  refine hK.out _ _ trivial (fun _=> ?_);clear hK K;refine wpAnyH_take (i:=15) (v:= ?v15_16) rfl (by kernel_rfl) (by kernel_rfl) (by kernel_rfl) (fun _ _ _ h=> h) (Or.inl ⟨by rfl, ?hy15_16⟩) trivial ?rest15_16
  case hy15_16=>(intro w hSw;go_simp;(try with_reducible rfl))
  try simp only[Act.put,List.getElem_toArray,List.getElem_cons_succ,List.getElem_cons_zero,List.setIfInBounds_toArray,List.set_cons_zero,List.set_cons_succ]
  refine wpAnyH_done (by kernel_rfl) ?_ _;go_wp2_with fail;refine bodyPost_ret (v:= .tuple #[.agg #[.int .i64 Aw,.int .i64 yf,.slice vy yc wx],.int .i64 d]) (by simp[results,Tryz.results119,go_sem,Zr]) rfl ⟨_,rfl,InT.ret (HM.out▸InT.mono (fun b hb=> hb.1) (fun _ _=> rfl) Jn.out) _ _ _,(I9.set3 (by omega) _ _ _)⟩
end Go.Proofs.YtbnkbepgmenblaaGreat
namespace Go.Proofs.YtbnkbepgmenblaaGreat
open Go.RowKit
theorem q153{k:Int}{m:Nat}(h:opsT k=(m:Int)):(k=1/\m=0)\/(k=2/\m=0)\/(k=3/\m=2)\/(k=4/\m=2)\/(k=5/\m=2)\/(k=6/\m=0)\/(k=7/\m=0)\/(k=8/\m=1)\/(k=9/\m=4)\/(k=10/\m=3)\/(k=11/\m=1)\/(k=12/\m=3)\/(k=13/\m=2)\/(k=14/\m=3)\/(k=15/\m=1)\/(k=16/\m=1):=by
 by_cases hk:1<=k/\k<=16
 · rcases(by omega:k=1\/k=2\/k=3\/k=4\/k=5\/k=6\/k=7\/k=8\/k=9\/k=10\/k=11\/k=12\/k=13\/k=14\/k=15\/k=16) with rfl|rfl|rfl|rfl|rfl|rfl|rfl|rfl|rfl|rfl|rfl|rfl|rfl|rfl|rfl|rfl
   all_goals(simp[opsT] at h⊢;omega)
 · have e:opsT k= -1:=by
    unfold opsT
    repeat rw[if_neg (by omega)]
   omega
theorem y164{wC:World}{p1 p2:Nat}{A:Option Addr}{G:List Tr}{At:Option Addr}{ks:List Tr}{ty:Nat->An}(k n:Int)(ca ct:Nat)(hlt:ks.length<=ct)(p6:ct<=maxLen)(w0:World)(N:Nat->Prop)(hJ:JOk wC w0 N p1 p2 A G At ks ty)(inf:Tr->An)(hI:InfF wC A ca G inf)(nj:valid sigT (.mk k n ks)=true)(ul: ∀x∈G,valid sigT x=true)(ee:G.length<=ca)(hcm:ca<=maxLen)(Wc: ∀i s,i < ks.length->ty i=some (s,0)->valid sigT s=true)
 (r:Tr×Int) (h:judV G inf ty k n ks=some r):Calls Tryz.prog 119 #[.agg #[.slice A G.length ca,.int .i64 k,.int .i64 n,.slice At ks.length ct,.func (.func 117) #[] #[.pointer (some ⟨p1,0,none⟩),.pointer (some ⟨p2,0,none⟩)]]] w0 (AnQ N w0 r):=by
 obtain⟨ho,ah,az,-⟩:=j12 (y12 nj).1;have Fa: ∀i,i < ks.length->valid sigT (kd ks i)=true:=fun i hi=> y48 (t:= .mk k n ks) nj hi
 unfold judV at h;rcases q153 (show opsT k=(ks.length:Int) from ho) with⟨rfl,hm⟩ |⟨rfl,hm⟩ |⟨rfl,hm⟩ |⟨rfl,hm⟩ |⟨rfl,hm⟩ |⟨rfl,hm⟩ |⟨rfl,hm⟩ |⟨rfl,hm⟩ |⟨rfl,hm⟩ |⟨rfl,hm⟩ |⟨rfl,hm⟩ |⟨rfl,hm⟩ |⟨rfl,hm⟩ |⟨rfl,hm⟩ |⟨rfl,hm⟩ |⟨rfl,hm⟩
 · exact y212 n ca ct hlt p6 w0 N hJ ah az ul ee hcm r (by simpa using h)
 · exact j217 n ca ct hlt p6 w0 N hJ ah az r (by simpa using h)
 · exact j210 n ca ct hlt p6 w0 N hJ hm r (by simpa using h)
 · exact q214 n ca ct hlt p6 w0 N hJ inf hI hm r (by simpa using h)
 · exact y216 n ca ct hlt p6 w0 N hJ hm (Fa 1 (by omega)) r (by simpa using h)
 · exact q216 n ca ct hlt p6 w0 N hJ r (by simpa using h)
 · exact j214 n ca ct hlt p6 w0 N hJ r (by simpa using h)
 · exact j219 n ca ct hlt p6 w0 N hJ hm r (by simpa using h)
 · exact q212 n ca ct hlt p6 w0 N hJ hm (Fa 0 (by omega)) r (by simpa using h)
 · exact y177 n ca ct hlt p6 w0 N hJ hm r (by simpa using h)
 · exact q194 n ca ct hlt p6 w0 N hJ inf hI hm (fun s hs=> Wc 0 s (by omega) hs) r (by simpa using h)
 · exact j187 n ca ct hlt p6 w0 N hJ hm r (by simpa using h)
 · exact q201 n ca ct hlt p6 w0 N hJ hm r (by simpa using h)
 · exact y179 n ca ct hlt p6 w0 N hJ hm (Fa 1 (by omega)) r (by simpa using h)
 · exact y181 n ca ct hlt p6 w0 N hJ hm nj r (by simpa using h)
 · exact y202 n ca ct hlt p6 w0 N hJ hm nj r (by simpa using h)
theorem q67{m:Int}(h0:0<=m)(h3:m<=3):valid sigT (srtT m)=true:=by
 rcases(by omega:m=0\/m=1\/m=2\/m=3) with rfl|rfl|rfl|rfl <;> decide+kernel
theorem q141:valid sigT natT=true:=by decide+kernel
theorem q86{x:An}{s:Tr}(h:frmV x 2=some (s,0)):0<=s.num/\s.num<=3:=by
 obtain⟨hk,-,hv⟩:=y91 h;obtain⟨k,n,ks⟩:=s;obtain⟨-,h1,h2,-⟩:=j12 (y12 hv).1;rw[show k=2 from hk] at h2;exact⟨h1,h2⟩
theorem y22{X:Tr×Int}{u:Tr}(h:some X=some (u,(0:Int)))(hX:X.2=0->valid sigT X.1=true):valid sigT u=true:=by
 have e:X=(u,0):=by simpa using h
 have:=hX (by rw[e])
 rwa [e] at this
theorem q55(X:Tr):(mkV X).2=0->valid sigT (mkV X).1=true:=fun h=> by
 obtain⟨h1,h2⟩:=q93 h;rw[h2];exact h1
theorem j161{G:List Tr}{inf:Tr->An}{ty:Nat->An}{k n:Int}{ks:List Tr}{u:Tr}(hv:valid sigT (.mk k n ks)=true)(h:judV G inf ty k n ks=some (u,0)):valid sigT u=true:=by
 obtain⟨ho,ah,az,-⟩:=j12 (y12 hv).1;have Fa: ∀i,i < ks.length->valid sigT (kd ks i)=true:=fun i hi=> y48 (t:= .mk k n ks) hv hi
 unfold judV at h;rcases q153 (show opsT k=(ks.length:Int) from ho) with⟨rfl,hm⟩ |⟨rfl,hm⟩ |⟨rfl,hm⟩ |⟨rfl,hm⟩ |⟨rfl,hm⟩ |⟨rfl,hm⟩ |⟨rfl,hm⟩ |⟨rfl,hm⟩ |⟨rfl,hm⟩ |⟨rfl,hm⟩ |⟨rfl,hm⟩ |⟨rfl,hm⟩ |⟨rfl,hm⟩ |⟨rfl,hm⟩ |⟨rfl,hm⟩ |⟨rfl,hm⟩
 · have h:some (lkV G n)=some (u,0):=by simpa using h
   refine y22 h fun h0=> ?_
   unfold lkV at h0⊢
   split at h0
   · simp at h0
   · rename_i hh
     rw[if_neg hh];exact q55 _ h0
 · have h:some (if n=3 then(q16,1) else(srtT (n+1),(0:Int)))=some (u,0):=by simpa using h
   refine y22 h fun h0=> ?_
   split at h0
   · simp at h0
   · rename_i hh
     rw[if_neg hh];have:q33 2=3:=rfl;have:n<=q33 2:=az;exact q67 (by omega) (by omega)
 · have h:arrV ty=some (u,0):=by simpa using h
   obtain⟨a,h1,h⟩:=q18 h;obtain⟨b,h2,h⟩:=q18 h;have:=q86 h1;have:=q86 h2;refine y22 h fun _=> q67 (by show 0<=max a.num b.num;omega) (by show max a.num b.num<=3;omega)
 · have h:lamV inf ty (kd ks 0)=some (u,0):=by simpa using h
   obtain⟨a,h1,h⟩:=q18 h;obtain⟨b,h2,h⟩:=q18 h;obtain⟨o,h3,h⟩:=q18 h;obtain⟨q,h4,h⟩:=q18 h;obtain rfl:o=u:=by simpa using h
   exact y22 h3 (q55 _)
 · have h:appV ty (kd ks 1)=some (u,0):=by simpa using h
   obtain⟨a,h1,h⟩:=q18 h;obtain⟨s,h2,-,h⟩:=q42 h;exact y22 h (q55 _)
 · have h:some (srtT 0,(0:Int))=some (u,0):=by simpa using h
   exact y22 h fun _=> q67 (by decide) (by decide)
 · have h:some (natT,(0:Int))=some (u,0):=by simpa using h
   exact y22 h fun _=> q141
 · have h:chkV (ty 0) natT (some (natT,0))=some (u,0):=by simpa using h
   obtain⟨s,h2,-,h⟩:=q42 h;exact y22 h fun _=> q141
 · have h:elmV ty (kd ks 0) (kd ks 3)=some (u,0):=by simpa using h
   obtain⟨F,s,c,-,-,-,-,-,-,h⟩:=j143 h;obtain⟨w,-,h⟩:=q18 h;obtain⟨s,-,-,h⟩:=q42 h;obtain⟨w,-,h⟩:=q18 h;obtain⟨s,-,-,h⟩:=q42 h;obtain⟨s,-,-,h⟩:=q42 h;exact y22 h (q55 _)
 · have h:idnV ty (kd ks 0)=some (u,0):=by simpa using h
   obtain⟨a,h1,h⟩:=q18 h;obtain⟨s,-,-,h⟩:=q42 h;obtain⟨s,-,-,h⟩:=q42 h;have:=q86 h1;exact y22 h fun _=> q67 this.1 this.2
 · have h:rflV inf ty (kd ks 0)=some (u,0):=by simpa using h
   obtain⟨a,h1,h⟩:=q18 h;obtain⟨b,h2,h⟩:=q18 h;exact y22 h (q55 _)
 · have h:movV ty (kd ks 0)=some (u,0):=by simpa using h
   obtain⟨a,h1,h⟩:=q18 h;obtain⟨F,s,c,-,-,-,-,-,-,h⟩:=j143 h;obtain⟨w,-,h⟩:=q18 h;obtain⟨s,-,-,h⟩:=q42 h;exact y22 h (q55 _)
 · have h:arrV ty=some (u,0):=by simpa using h
   obtain⟨a,h1,h⟩:=q18 h;obtain⟨b,h2,h⟩:=q18 h;have:=q86 h1;have:=q86 h2;refine y22 h fun _=> q67 (by show 0<=max a.num b.num;omega) (by show max a.num b.num<=3;omega)
 · have h:parV ty (kd ks 0) (kd ks 1)=some (u,0):=by simpa using h
   obtain⟨a,h1,h⟩:=q18 h;obtain⟨b,h2,h⟩:=q18 h;obtain⟨s,-,-,h⟩:=q42 h;obtain⟨w,-,h⟩:=q18 h;obtain⟨s,-,-,h⟩:=q42 h;exact y22 h fun _=> Fa 0 (by omega)
 · have h:prtV ty 15 (kd ks 0)=some (u,0):=by simpa using h
   obtain⟨s,h1,h⟩:=q18 h;rw[if_pos rfl] at h;obtain⟨-,hl,Bd⟩:=y91 h1;have:opsT 13=2:=rfl;exact y22 h fun _=> y48 Bd (by omega)
 · have h:prtV ty 16 (kd ks 0)=some (u,0):=by simpa using h
   obtain⟨s,h1,h⟩:=q18 h;rw[if_neg (by decide)] at h;exact y22 h (q55 _)
theorem q91{f:Nat}{G:List Tr}{t u:Tr}(hv:valid sigT t=true)(h:infV f G t=some (u,0)):valid sigT u=true:=by
 cases f with
 |zero=> cases h
 |succ f=>
  obtain⟨k,n,ks⟩:=t;exact j161 hv h
end Go.Proofs.YtbnkbepgmenblaaGreat
