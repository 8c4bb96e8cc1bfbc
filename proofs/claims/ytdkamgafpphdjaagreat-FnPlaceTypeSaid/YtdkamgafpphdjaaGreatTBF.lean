/-
  Lemmas towards the law, 32: Contract, Nat2, Pairs.
-/
import Derived.Test.YtdkamgafpphdjaaGreatTBB
import Derived.Test.YtdkamgafpphdjaaGreatTBC
import Derived.Test.YtdkamgafpphdjaaGreatTBD
namespace Go.Proofs.YtdkamgafpphdjaaGreat
open Go.RowKit
set_option linter.unusedVariables false
theorem j47{ks:List Tr}{j:Nat}{t:Tr}(h:j < ks.length)(e:ks[j]=t):kd ks j=t:=by
 unfold kd;rw[List.getD_eq_getElem?_getD,List.getElem?_eq_getElem h,e]
 rfl
def ConQ(w:World)(t:Tr)(e:Ending)(w':World):Prop:= ∃r,e= .returned (.tuple #[r, .bool (valid sigT t)])/\Made w w' 25 (okT t) r/\Ext w w'
theorem j40{W w:World}{t:Tr}{u:Value}(h:Made W w 25 t u):Calls Tryz.prog 120 #[u] w fun e w'=> ∃a1 a2 a3 a4 a5,e= .returned (.tuple #[.agg #[.int .i64 a1, .int .i64 a2, .slice a3 a4 a5], .bool (valid sigT t)])/\Made W w' 25 (okT t) (.agg #[.int .i64 a1, .int .i64 a2, .slice a3 a4 a5])/\Ext w w':=by
 obtain⟨k,n,ks⟩:=t;obtain⟨A,cap,rfl,hl,hc,hK⟩:=Made.mk_iff.1 h;refine(q100 k n ks A cap w h.lies).mono ?_;rintro e w' ⟨h1,h2⟩;by_cases hv:valid sigT (.mk k n ks)=true
 · rw[if_pos hv] at h1
   refine⟨_,_,_,_,_,by rw[h1,hv], ?_,h2⟩;unfold okT;rw[if_pos hv];exact h.ext h2
 · rw[if_neg hv] at h1
   refine⟨0,0,none,0,0,by rw[h1,Bool.eq_false_iff.2 hv], ?_,h2⟩;unfold okT;rw[if_neg hv];exact Made.leaf _ _ _ 0 0
theorem y164{t u TT:Tr}(hT:TT=sbsT u t 0 0)(w:World)(v vu:Value)(hin:Lies w t v)(hv:valid sigT t=true)(hinu:Lies w u vu)(hvu:valid sigT u=true):
 Calls Tryz.prog 136 #[v, .int .i64 0,vu] w fun e w'=> ∃a1 a2 a3 a4 a5,e= .returned (.tuple #[.agg #[.int .i64 a1, .int .i64 a2, .slice a3 a4 a5], .bool (valid sigT TT)])/\Made w w' 25 (okT TT) (.agg #[.int .i64 a1, .int .i64 a2, .slice a3 a4 a5])/\Ext w w':=by
 subst hT;refine(y132 t 0 u w v vu hin hv hinu hvu (by omega) (by omega)).mono ?_;rintro e w' ⟨r,rfl,hM,h⟩;obtain⟨a1,a2,a3,a4,a5,rfl⟩:=hM.three';exact⟨_,_,_,_,_,rfl,hM,h⟩
set_option maxRecDepth 100000 in
set_option maxHeartbeats 4000000 in
theorem y162(n:Int)(ks:List Tr)(hv:valid sigT (.mk 9 n ks)=true)(w:World)(A:Option Addr)(cap:Nat)(hin:Lies w (.mk 9 n ks) (.agg #[.int .i64 9, .int .i64 n, .slice A ks.length cap]))(hK:j21 w A ks)(hl:ks.length<=cap)(hc:cap<=maxLen)(hc3:(kd ks 3).kind=7):
 Calls Tryz.prog 118 #[.agg #[.int .i64 9, .int .i64 n, .slice A ks.length cap]] w (ConQ w (ctr 9 ks)):=by
 obtain⟨hsh,hcn⟩:=q12 hv;have hops:opsT 9=(ks.length:Int):=(j12 hsh).1;have hks:ks.length=4:=by have h9:(4:Int)=(ks.length:Int):=hops;omega
 have hsk:=(j12 hsh).2.2.2;have hvk: ∀t∈ks,valid sigT t=true:=fun t ht=> by
  have h1:=hsk t ht;have h2:=y15 ht;simp only[cnt] at hcn;unfold valid;rw[y46 h1 (by decide),Bool.true_and,decide_eq_true_eq];omega
 have hcc:=hc;unfold maxLen at hcc;have HRX:=hdq (fun W (hW:Ext w W)=> q36 (.mk 9 n ks) 30 hsh W _ (hin.ext hW));obtain⟨wb,hwb⟩: ∃wb,wb=(w.alloc (.cells #[.int .i64 9, .int .i64 n, .slice A ks.length cap] 25)).alloc (.cells #[.int .i64 0, .int .i64 0, .slice none 0 0] 25):=⟨_,rfl⟩;have hX:Ext w wb:=hwb▸((xr w).alloc _).alloc _;have hb0:wb.heap[w.heap.size]? =some (.cells #[.int .i64 9, .int .i64 n, .slice A ks.length cap] 25 (0,0)):=by rw[hwb];exact(blk2 (xr _)).1
 have hb1:wb.heap[w.heap.size+1]? =some (.cells #[.int .i64 0, .int .i64 0, .slice none 0 0] 25 (0,0)):=by rw[hwb];exact(blk2 (xr _)).2.1
 have hs0:w.heap.size+1 < wb.heap.size:=q10 hb1;have hlt1:1 < ks.length:=by omega
 have hi1:(1:Int) <(ks.length:Int):=by omega
 obtain⟨b1,o1,k1,n1,A1,cap1,kids1,hA1,HK1,c10,c11,c12,hkl1,hkc1,hK1,hin1,hmem1⟩:=hK.get (xr w) hlt1;simp only[Nat.one_mul,Nat.add_assoc,Nat.reduceAdd] at c10 c11 c12;have hkd1:kd ks 1= .mk k1 n1 kids1:=j47 hlt1 HK1.out;subst hA1;have hct:ctr 9 ks= .mk k1 n1 kids1:=(q54 hc3).trans hkd1;rw[hct];have hrd:rdx 9 ks=2:=by unfold rdx;simp[hc3]
 obtain⟨TT,hTT⟩: ∃x,x=Tr.mk k1 n1 kids1:=⟨_,rfl⟩;rw[<-hTT];have HTT:=hdq hTT;clear hTT;have hcT:cnt (.mk k1 n1 kids1)<=400:=(q12 (hvk _ hmem1)).2;clear hct;have hrt:rdxT (.mk 9 n ks)=2:=hrd;rw[hrt] at HRX;clear hrt hrd hks hops
 skip
 go_enter Tryz.func118,Tryz.ntmps118;go_wp2_with fail;rw[<-hwb];clear hwb;refine(HRX.out _ hX).mono ?_;rintro e w1 ⟨rfl,h1⟩;have hX1:=hX.trans h1;have hb01:=h1.blk hb0;have hb11:=h1.blk hb1;have hs1:w.heap.size+1 < w1.heap.size:=q10 hb11;obtain⟨z0,z1,z2,-,-,-⟩:=own3 hb01;clear hb0 hb1 HRX h1;have d10:=hX1.cell c10;have d11:=hX1.cell c11;have d12:=hX1.cell c12;have HIN:=hdq (hin1.ext hX1);clear HK1 hkd1 hK1 hin1 hmem1 c10 c11 c12 hK hin;go_wp2_with fail;refine(q45 _ _ _ HIN.out (by omega)).mono ?_;rintro e w2 ⟨u,rfl,hM2,h2⟩;obtain⟨u1,u2,u3,u4,u5,rfl⟩:=hM2.three';go_wp2_with fail;rw[<-HTT.out] at hM2;refine(j40 hM2).mono ?_;rintro e w3 ⟨a1,a2,a3,a4,a5,rfl,hM,h3⟩;have hE:=hX1.trans (h2.trans h3);obtain⟨s0,s1,s2,f0,f1,f2⟩:=own3 ((h2.trans h3).blk hb11);clear hM2 hb01 hb11 d10 d11 d12 z0 z1 z2;go_wp2_with fail;have hsz:=hX1.size;refine bodyPost_ret (v:= .tuple #[.agg #[.int .i64 a1, .int .i64 a2, .slice a3 a4 a5], .bool (valid sigT TT)]) (by simp[results,Tryz.results118,go_sem,s0,s1,s2]) rfl ⟨_,rfl,Made.since (hM.after ((((y28.refl _ _).setCell (p:=⟨w.heap.size+1,0,none⟩) (by show w.heap.size+1 < _;omega) (.int .i64 a1)).setCell (p:=⟨w.heap.size+1,1,none⟩) (by show w.heap.size+1 < _;omega) (.int .i64 a2)).setCell (p:=⟨w.heap.size+1,2,none⟩) (by show w.heap.size+1 < _;omega) (.slice a3 a4 a5))) (by omega),(((hE.setCell (p:=⟨w.heap.size+1,0,none⟩) (by show w.heap.size<=w.heap.size+1;omega) _).setCell (p:=⟨w.heap.size+1,1,none⟩) (by show w.heap.size<=w.heap.size+1;omega) _).setCell (p:=⟨w.heap.size+1,2,none⟩) (by show w.heap.size<=w.heap.size+1;omega) _)⟩
set_option maxRecDepth 100000 in
set_option maxHeartbeats 4000000 in
theorem q167(n:Int)(ks:List Tr)(hv:valid sigT (.mk 12 n ks)=true)(w:World)(A:Option Addr)(cap:Nat)(hin:Lies w (.mk 12 n ks) (.agg #[.int .i64 12, .int .i64 n, .slice A ks.length cap]))(hK:j21 w A ks)(hl:ks.length<=cap)(hc:cap<=maxLen)(hc1:(kd ks 1).kind=11):
 Calls Tryz.prog 118 #[.agg #[.int .i64 12, .int .i64 n, .slice A ks.length cap]] w (ConQ w (ctr 12 ks)):=by
 obtain⟨hsh,hcn⟩:=q12 hv;have hops:opsT 12=(ks.length:Int):=(j12 hsh).1;have hks:ks.length=3:=by have h9:(3:Int)=(ks.length:Int):=hops;omega
 have hsk:=(j12 hsh).2.2.2;have hvk: ∀t∈ks,valid sigT t=true:=fun t ht=> by
  have h1:=hsk t ht;have h2:=y15 ht;simp only[cnt] at hcn;unfold valid;rw[y46 h1 (by decide),Bool.true_and,decide_eq_true_eq];omega
 have hcc:=hc;unfold maxLen at hcc;have HRX:=hdq (fun W (hW:Ext w W)=> q36 (.mk 12 n ks) 30 hsh W _ (hin.ext hW));obtain⟨wb,hwb⟩: ∃wb,wb=(w.alloc (.cells #[.int .i64 12, .int .i64 n, .slice A ks.length cap] 25)).alloc (.cells #[.int .i64 0, .int .i64 0, .slice none 0 0] 25):=⟨_,rfl⟩;have hX:Ext w wb:=hwb▸((xr w).alloc _).alloc _;have hb0:wb.heap[w.heap.size]? =some (.cells #[.int .i64 12, .int .i64 n, .slice A ks.length cap] 25 (0,0)):=by rw[hwb];exact(blk2 (xr _)).1
 have hb1:wb.heap[w.heap.size+1]? =some (.cells #[.int .i64 0, .int .i64 0, .slice none 0 0] 25 (0,0)):=by rw[hwb];exact(blk2 (xr _)).2.1
 have hs0:w.heap.size+1 < wb.heap.size:=q10 hb1;have hlt2:2 < ks.length:=by omega
 have hi2:(2:Int) <(ks.length:Int):=by omega
 obtain⟨b2,o2,k2,n2,A2,cap2,kids2,hA2,HK2,c20,c21,c22,hkl2,hkc2,hK2,hin2,hmem2⟩:=hK.get (xr w) hlt2;simp only[Nat.reduceMul,Nat.add_assoc,Nat.reduceAdd] at c20 c21 c22;have hkd2:kd ks 2= .mk k2 n2 kids2:=j47 hlt2 HK2.out;subst hA2;have hct:ctr 12 ks= .mk k2 n2 kids2:=j81.trans hkd2;rw[hct];have hrd:rdx 12 ks=4:=by unfold rdx;simp[hc1]
 obtain⟨TT,hTT⟩: ∃x,x=Tr.mk k2 n2 kids2:=⟨_,rfl⟩;rw[<-hTT];have HTT:=hdq hTT;clear hTT;have hcT:cnt (.mk k2 n2 kids2)<=400:=(q12 (hvk _ hmem2)).2;clear hct;have hrt:rdxT (.mk 12 n ks)=4:=hrd;rw[hrt] at HRX;clear hrt hrd hks hops
 skip
 go_enter Tryz.func118,Tryz.ntmps118;go_wp2_with fail;rw[<-hwb];clear hwb;refine(HRX.out _ hX).mono ?_;rintro e w1 ⟨rfl,h1⟩;have hX1:=hX.trans h1;have hb01:=h1.blk hb0;have hb11:=h1.blk hb1;have hs1:w.heap.size+1 < w1.heap.size:=q10 hb11;obtain⟨z0,z1,z2,-,-,-⟩:=own3 hb01;clear hb0 hb1 HRX h1;have d20:=hX1.cell c20;have d21:=hX1.cell c21;have d22:=hX1.cell c22;have HIN:=hdq (hin2.ext hX1);clear HK2 hkd2 hK2 hin2 hmem2 c20 c21 c22 hK hin;go_wp2_with fail;refine(q45 _ _ _ HIN.out (by omega)).mono ?_;rintro e w2 ⟨u,rfl,hM2,h2⟩;obtain⟨u1,u2,u3,u4,u5,rfl⟩:=hM2.three';go_wp2_with fail;rw[<-HTT.out] at hM2;refine(j40 hM2).mono ?_;rintro e w3 ⟨a1,a2,a3,a4,a5,rfl,hM,h3⟩;have hE:=hX1.trans (h2.trans h3);obtain⟨s0,s1,s2,f0,f1,f2⟩:=own3 ((h2.trans h3).blk hb11);clear hM2 hb01 hb11 d20 d21 d22 z0 z1 z2;go_wp2_with fail;have hsz:=hX1.size;refine bodyPost_ret (v:= .tuple #[.agg #[.int .i64 a1, .int .i64 a2, .slice a3 a4 a5], .bool (valid sigT TT)]) (by simp[results,Tryz.results118,go_sem,s0,s1,s2]) rfl ⟨_,rfl,Made.since (hM.after ((((y28.refl _ _).setCell (p:=⟨w.heap.size+1,0,none⟩) (by show w.heap.size+1 < _;omega) (.int .i64 a1)).setCell (p:=⟨w.heap.size+1,1,none⟩) (by show w.heap.size+1 < _;omega) (.int .i64 a2)).setCell (p:=⟨w.heap.size+1,2,none⟩) (by show w.heap.size+1 < _;omega) (.slice a3 a4 a5))) (by omega),(((hE.setCell (p:=⟨w.heap.size+1,0,none⟩) (by show w.heap.size<=w.heap.size+1;omega) _).setCell (p:=⟨w.heap.size+1,1,none⟩) (by show w.heap.size<=w.heap.size+1;omega) _).setCell (p:=⟨w.heap.size+1,2,none⟩) (by show w.heap.size<=w.heap.size+1;omega) _)⟩
set_option maxRecDepth 100000 in
set_option maxHeartbeats 4000000 in
theorem q157(n:Int)(ks:List Tr)(hv:valid sigT (.mk 15 n ks)=true)(w:World)(A:Option Addr)(cap:Nat)(hin:Lies w (.mk 15 n ks) (.agg #[.int .i64 15, .int .i64 n, .slice A ks.length cap]))(hK:j21 w A ks)(hl:ks.length<=cap)(hc:cap<=maxLen)(hc0:(kd ks 0).kind=14):
 Calls Tryz.prog 118 #[.agg #[.int .i64 15, .int .i64 n, .slice A ks.length cap]] w (ConQ w (ctr 15 ks)):=by
 obtain⟨hsh,hcn⟩:=q12 hv;have hops:opsT 15=(ks.length:Int):=(j12 hsh).1;have hks:ks.length=1:=by have h9:(1:Int)=(ks.length:Int):=hops;omega
 have hsk:=(j12 hsh).2.2.2;have hvk: ∀t∈ks,valid sigT t=true:=fun t ht=> by
  have h1:=hsk t ht;have h2:=y15 ht;simp only[cnt] at hcn;unfold valid;rw[y46 h1 (by decide),Bool.true_and,decide_eq_true_eq];omega
 have hcc:=hc;unfold maxLen at hcc;have HRX:=hdq (fun W (hW:Ext w W)=> q36 (.mk 15 n ks) 30 hsh W _ (hin.ext hW));obtain⟨wb,hwb⟩: ∃wb,wb=(w.alloc (.cells #[.int .i64 15, .int .i64 n, .slice A ks.length cap] 25)).alloc (.cells #[.int .i64 0, .int .i64 0, .slice none 0 0] 25):=⟨_,rfl⟩;have hX:Ext w wb:=hwb▸((xr w).alloc _).alloc _;have hb0:wb.heap[w.heap.size]? =some (.cells #[.int .i64 15, .int .i64 n, .slice A ks.length cap] 25 (0,0)):=by rw[hwb];exact(blk2 (xr _)).1
 have hb1:wb.heap[w.heap.size+1]? =some (.cells #[.int .i64 0, .int .i64 0, .slice none 0 0] 25 (0,0)):=by rw[hwb];exact(blk2 (xr _)).2.1
 have hs0:w.heap.size+1 < wb.heap.size:=q10 hb1;have hlt0:0 < ks.length:=by omega
 have hi0:(0:Int) <(ks.length:Int):=by omega
 obtain⟨b0,o0,k0,n0,A0,cap0,kids0,hA0,HK0,c00,c01,c02,hkl0,hkc0,hK0,hin0,hmem0⟩:=hK.get (xr w) hlt0;simp only[Nat.zero_mul,Nat.add_zero] at c00 c01 c02;have hkd0:kd ks 0= .mk k0 n0 kids0:=j47 hlt0 HK0.out;subst hA0;rw[hkd0] at hc0;have hk14:k0=14:=hc0;subst hk14;have hv0:=hvk _ hmem0;have hop0:opsT 14=(kids0.length:Int):=(j12 (q12 hv0).1).1;have hks0:kids0.length=3:=by have h9:(3:Int)=(kids0.length:Int):=hop0;omega
 have hlt3:1 < kids0.length:=by omega
 have hi3:(1:Int) <(kids0.length:Int):=by omega
 obtain⟨b3,o3,k3,n3,A3,cap3,kids3,hA3,HK3,c30,c31,c32,hkl3,hkc3,hK3,hin3,hmem3⟩:=hK0.get (xr w) hlt3;simp only[Nat.one_mul,Nat.add_assoc,Nat.reduceAdd] at c30 c31 c32;have hkd3:kd kids0 1= .mk k3 n3 kids3:=j47 hlt3 HK3.out;subst hA3;have hct:ctr 15 ks= .mk k3 n3 kids3:=by rw[q72,hkd0];exact hkd3
 rw[hct];have hrd:rdx 15 ks=5:=by unfold rdx;rw[hkd0];simp[Tr.kind]
 obtain⟨TT,hTT⟩: ∃x,x=Tr.mk k3 n3 kids3:=⟨_,rfl⟩;rw[<-hTT];have HTT:=hdq hTT;clear hTT;have hcT:cnt (.mk k3 n3 kids3)<=400:=by have h1:=y15 hmem3;have h2:=(q12 hv0).2;simp only[cnt] at h2;omega
 clear hct;have hrt:rdxT (.mk 15 n ks)=5:=hrd;rw[hrt] at HRX;clear hrt hrd hks hops;clear hks0;go_enter Tryz.func118,Tryz.ntmps118;go_wp2_with fail;rw[<-hwb];clear hwb;refine(HRX.out _ hX).mono ?_;rintro e w1 ⟨rfl,h1⟩;have hX1:=hX.trans h1;have hb01:=h1.blk hb0;have hb11:=h1.blk hb1;have hs1:w.heap.size+1 < w1.heap.size:=q10 hb11;obtain⟨z0,z1,z2,-,-,-⟩:=own3 hb01;clear hb0 hb1 HRX h1;have d00:=hX1.cell c00;have d01:=hX1.cell c01;have d02:=hX1.cell c02;have d30:=hX1.cell c30;have d31:=hX1.cell c31;have d32:=hX1.cell c32;have HIN:=hdq (hin3.ext hX1);clear HK0 hkd0 hK0 hin0 hmem0 HK3 hkd3 hK3 hin3 hmem3 c00 c01 c02 c30 c31 c32 hK hin hop0;go_wp2_with fail;refine(q45 _ _ _ HIN.out (by omega)).mono ?_;rintro e w2 ⟨u,rfl,hM2,h2⟩;obtain⟨u1,u2,u3,u4,u5,rfl⟩:=hM2.three';go_wp2_with fail;rw[<-HTT.out] at hM2;refine(j40 hM2).mono ?_;rintro e w3 ⟨a1,a2,a3,a4,a5,rfl,hM,h3⟩;have hE:=hX1.trans (h2.trans h3);obtain⟨s0,s1,s2,f0,f1,f2⟩:=own3 ((h2.trans h3).blk hb11);clear hM2 hb01 hb11 d00 d01 d02 d30 d31 d32 z0 z1 z2;go_wp2_with fail;have hsz:=hX1.size;refine bodyPost_ret (v:= .tuple #[.agg #[.int .i64 a1, .int .i64 a2, .slice a3 a4 a5], .bool (valid sigT TT)]) (by simp[results,Tryz.results118,go_sem,s0,s1,s2]) rfl ⟨_,rfl,Made.since (hM.after ((((y28.refl _ _).setCell (p:=⟨w.heap.size+1,0,none⟩) (by show w.heap.size+1 < _;omega) (.int .i64 a1)).setCell (p:=⟨w.heap.size+1,1,none⟩) (by show w.heap.size+1 < _;omega) (.int .i64 a2)).setCell (p:=⟨w.heap.size+1,2,none⟩) (by show w.heap.size+1 < _;omega) (.slice a3 a4 a5))) (by omega),(((hE.setCell (p:=⟨w.heap.size+1,0,none⟩) (by show w.heap.size<=w.heap.size+1;omega) _).setCell (p:=⟨w.heap.size+1,1,none⟩) (by show w.heap.size<=w.heap.size+1;omega) _).setCell (p:=⟨w.heap.size+1,2,none⟩) (by show w.heap.size<=w.heap.size+1;omega) _)⟩
set_option maxRecDepth 100000 in
set_option maxHeartbeats 4000000 in
theorem j165(n:Int)(ks:List Tr)(hv:valid sigT (.mk 16 n ks)=true)(w:World)(A:Option Addr)(cap:Nat)(hin:Lies w (.mk 16 n ks) (.agg #[.int .i64 16, .int .i64 n, .slice A ks.length cap]))(hK:j21 w A ks)(hl:ks.length<=cap)(hc:cap<=maxLen)(hc0:(kd ks 0).kind=14):
 Calls Tryz.prog 118 #[.agg #[.int .i64 16, .int .i64 n, .slice A ks.length cap]] w (ConQ w (ctr 16 ks)):=by
 obtain⟨hsh,hcn⟩:=q12 hv;have hops:opsT 16=(ks.length:Int):=(j12 hsh).1;have hks:ks.length=1:=by have h9:(1:Int)=(ks.length:Int):=hops;omega
 have hsk:=(j12 hsh).2.2.2;have hvk: ∀t∈ks,valid sigT t=true:=fun t ht=> by
  have h1:=hsk t ht;have h2:=y15 ht;simp only[cnt] at hcn;unfold valid;rw[y46 h1 (by decide),Bool.true_and,decide_eq_true_eq];omega
 have hcc:=hc;unfold maxLen at hcc;have HRX:=hdq (fun W (hW:Ext w W)=> q36 (.mk 16 n ks) 30 hsh W _ (hin.ext hW));obtain⟨wb,hwb⟩: ∃wb,wb=(w.alloc (.cells #[.int .i64 16, .int .i64 n, .slice A ks.length cap] 25)).alloc (.cells #[.int .i64 0, .int .i64 0, .slice none 0 0] 25):=⟨_,rfl⟩;have hX:Ext w wb:=hwb▸((xr w).alloc _).alloc _;have hb0:wb.heap[w.heap.size]? =some (.cells #[.int .i64 16, .int .i64 n, .slice A ks.length cap] 25 (0,0)):=by rw[hwb];exact(blk2 (xr _)).1
 have hb1:wb.heap[w.heap.size+1]? =some (.cells #[.int .i64 0, .int .i64 0, .slice none 0 0] 25 (0,0)):=by rw[hwb];exact(blk2 (xr _)).2.1
 have hs0:w.heap.size+1 < wb.heap.size:=q10 hb1;have hlt0:0 < ks.length:=by omega
 have hi0:(0:Int) <(ks.length:Int):=by omega
 obtain⟨b0,o0,k0,n0,A0,cap0,kids0,hA0,HK0,c00,c01,c02,hkl0,hkc0,hK0,hin0,hmem0⟩:=hK.get (xr w) hlt0;simp only[Nat.zero_mul,Nat.add_zero] at c00 c01 c02;have hkd0:kd ks 0= .mk k0 n0 kids0:=j47 hlt0 HK0.out;subst hA0;rw[hkd0] at hc0;have hk14:k0=14:=hc0;subst hk14;have hv0:=hvk _ hmem0;have hop0:opsT 14=(kids0.length:Int):=(j12 (q12 hv0).1).1;have hks0:kids0.length=3:=by have h9:(3:Int)=(kids0.length:Int):=hop0;omega
 have hlt3:2 < kids0.length:=by omega
 have hi3:(2:Int) <(kids0.length:Int):=by omega
 obtain⟨b3,o3,k3,n3,A3,cap3,kids3,hA3,HK3,c30,c31,c32,hkl3,hkc3,hK3,hin3,hmem3⟩:=hK0.get (xr w) hlt3;simp only[Nat.reduceMul,Nat.add_assoc,Nat.reduceAdd] at c30 c31 c32;have hkd3:kd kids0 2= .mk k3 n3 kids3:=j47 hlt3 HK3.out;subst hA3;have hct:ctr 16 ks= .mk k3 n3 kids3:=by rw[y73,hkd0];exact hkd3
 rw[hct];have hrd:rdx 16 ks=6:=by unfold rdx;rw[hkd0];simp[Tr.kind]
 obtain⟨TT,hTT⟩: ∃x,x=Tr.mk k3 n3 kids3:=⟨_,rfl⟩;rw[<-hTT];have HTT:=hdq hTT;clear hTT;have hcT:cnt (.mk k3 n3 kids3)<=400:=by have h1:=y15 hmem3;have h2:=(q12 hv0).2;simp only[cnt] at h2;omega
 clear hct;have hrt:rdxT (.mk 16 n ks)=6:=hrd;rw[hrt] at HRX;clear hrt hrd hks hops;clear hks0;go_enter Tryz.func118,Tryz.ntmps118;go_wp2_with fail;rw[<-hwb];clear hwb;refine(HRX.out _ hX).mono ?_;rintro e w1 ⟨rfl,h1⟩;have hX1:=hX.trans h1;have hb01:=h1.blk hb0;have hb11:=h1.blk hb1;have hs1:w.heap.size+1 < w1.heap.size:=q10 hb11;obtain⟨z0,z1,z2,-,-,-⟩:=own3 hb01;clear hb0 hb1 HRX h1;have d00:=hX1.cell c00;have d01:=hX1.cell c01;have d02:=hX1.cell c02;have d30:=hX1.cell c30;have d31:=hX1.cell c31;have d32:=hX1.cell c32;have HIN:=hdq (hin3.ext hX1);clear HK0 hkd0 hK0 hin0 hmem0 HK3 hkd3 hK3 hin3 hmem3 c00 c01 c02 c30 c31 c32 hK hin hop0;go_wp2_with fail;refine(q45 _ _ _ HIN.out (by omega)).mono ?_;rintro e w2 ⟨u,rfl,hM2,h2⟩;obtain⟨u1,u2,u3,u4,u5,rfl⟩:=hM2.three';go_wp2_with fail;rw[<-HTT.out] at hM2;refine(j40 hM2).mono ?_;rintro e w3 ⟨a1,a2,a3,a4,a5,rfl,hM,h3⟩;have hE:=hX1.trans (h2.trans h3);obtain⟨s0,s1,s2,f0,f1,f2⟩:=own3 ((h2.trans h3).blk hb11);clear hM2 hb01 hb11 d00 d01 d02 d30 d31 d32 z0 z1 z2;go_wp2_with fail;have hsz:=hX1.size;refine bodyPost_ret (v:= .tuple #[.agg #[.int .i64 a1, .int .i64 a2, .slice a3 a4 a5], .bool (valid sigT TT)]) (by simp[results,Tryz.results118,go_sem,s0,s1,s2]) rfl ⟨_,rfl,Made.since (hM.after ((((y28.refl _ _).setCell (p:=⟨w.heap.size+1,0,none⟩) (by show w.heap.size+1 < _;omega) (.int .i64 a1)).setCell (p:=⟨w.heap.size+1,1,none⟩) (by show w.heap.size+1 < _;omega) (.int .i64 a2)).setCell (p:=⟨w.heap.size+1,2,none⟩) (by show w.heap.size+1 < _;omega) (.slice a3 a4 a5))) (by omega),(((hE.setCell (p:=⟨w.heap.size+1,0,none⟩) (by show w.heap.size<=w.heap.size+1;omega) _).setCell (p:=⟨w.heap.size+1,1,none⟩) (by show w.heap.size<=w.heap.size+1;omega) _).setCell (p:=⟨w.heap.size+1,2,none⟩) (by show w.heap.size<=w.heap.size+1;omega) _)⟩
set_option maxRecDepth 100000 in
set_option maxHeartbeats 4000000 in
theorem y167(n:Int)(ks:List Tr)(hv:valid sigT (.mk 5 n ks)=true)(w:World)(A:Option Addr)(cap:Nat)(hin:Lies w (.mk 5 n ks) (.agg #[.int .i64 5, .int .i64 n, .slice A ks.length cap]))(hK:j21 w A ks)(hl:ks.length<=cap)(hc:cap<=maxLen)(hc0:(kd ks 0).kind=4):
 Calls Tryz.prog 118 #[.agg #[.int .i64 5, .int .i64 n, .slice A ks.length cap]] w (ConQ w (ctr 5 ks)):=by
 obtain⟨hsh,hcn⟩:=q12 hv;have hops:opsT 5=(ks.length:Int):=(j12 hsh).1;have hks:ks.length=2:=by have h9:(2:Int)=(ks.length:Int):=hops;omega
 have hsk:=(j12 hsh).2.2.2;have hvk: ∀t∈ks,valid sigT t=true:=fun t ht=> by
  have h1:=hsk t ht;have h2:=y15 ht;simp only[cnt] at hcn;unfold valid;rw[y46 h1 (by decide),Bool.true_and,decide_eq_true_eq];omega
 have hcc:=hc;unfold maxLen at hcc;have HRX:=hdq (fun W (hW:Ext w W)=> q36 (.mk 5 n ks) 30 hsh W _ (hin.ext hW));obtain⟨wb,hwb⟩: ∃wb,wb=(w.alloc (.cells #[.int .i64 5, .int .i64 n, .slice A ks.length cap] 25)).alloc (.cells #[.int .i64 0, .int .i64 0, .slice none 0 0] 25):=⟨_,rfl⟩;have hX:Ext w wb:=hwb▸((xr w).alloc _).alloc _;have hb0:wb.heap[w.heap.size]? =some (.cells #[.int .i64 5, .int .i64 n, .slice A ks.length cap] 25 (0,0)):=by rw[hwb];exact(blk2 (xr _)).1
 have hb1:wb.heap[w.heap.size+1]? =some (.cells #[.int .i64 0, .int .i64 0, .slice none 0 0] 25 (0,0)):=by rw[hwb];exact(blk2 (xr _)).2.1
 have hs0:w.heap.size+1 < wb.heap.size:=q10 hb1;have hlt0:0 < ks.length:=by omega
 have hi0:(0:Int) <(ks.length:Int):=by omega
 obtain⟨b0,o0,k0,n0,A0,cap0,kids0,hA0,HK0,c00,c01,c02,hkl0,hkc0,hK0,hin0,hmem0⟩:=hK.get (xr w) hlt0;simp only[Nat.zero_mul,Nat.add_zero] at c00 c01 c02;have hkd0:kd ks 0= .mk k0 n0 kids0:=j47 hlt0 HK0.out;have hlt1:1 < ks.length:=by omega
 have hi1:(1:Int) <(ks.length:Int):=by omega
 obtain⟨b1,o1,k1,n1,A1,cap1,kids1,hA1,HK1,c10,c11,c12,hkl1,hkc1,hK1,hin1,hmem1⟩:=hK.get (xr w) hlt1;simp only[Nat.one_mul,Nat.add_assoc,Nat.reduceAdd] at c10 c11 c12;have hkd1:kd ks 1= .mk k1 n1 kids1:=j47 hlt1 HK1.out;subst hA0
 injection hA1 with hA1
 injection hA1 with hB1 hC1 hD1
 subst hB1 hC1;rw[hkd0] at hc0;have hk4:k0=4:=hc0;subst hk4;have hv0:=hvk _ hmem0;have hop0:opsT 4=(kids0.length:Int):=(j12 (q12 hv0).1).1;have hks0:kids0.length=2:=by have h9:(2:Int)=(kids0.length:Int):=hop0;omega
 have hlt3:1 < kids0.length:=by omega
 have hi3:(1:Int) <(kids0.length:Int):=by omega
 obtain⟨b3,o3,k3,n3,A3,cap3,kids3,hA3,HK3,c30,c31,c32,hkl3,hkc3,hK3,hin3,hmem3⟩:=hK0.get (xr w) hlt3;simp only[Nat.one_mul,Nat.add_assoc,Nat.reduceAdd] at c30 c31 c32;have hkd3:kd kids0 1= .mk k3 n3 kids3:=j47 hlt3 HK3.out;subst hA3;have hv1:=hvk _ hmem1;have hv3:valid sigT (.mk k3 n3 kids3)=true:=by
  have h1:=(j12 (q12 hv0).1).2.2.2 _ hmem3;have h2:=y15 hmem3;have h3:=(q12 hv0).2;simp only[cnt] at h3;unfold valid;rw[y46 h1 (by decide),Bool.true_and,decide_eq_true_eq];omega
 have hct:ctr 5 ks=sbsT (.mk k1 n1 kids1) (.mk k3 n3 kids3) 0 0:=by rw[q71,hkd0,hkd1];exact congrArg (fun t=> sbsT (.mk k1 n1 kids1) t 0 0) hkd3
 rw[hct];have hrd:rdx 5 ks=1:=by unfold rdx;rw[hkd0];simp[Tr.kind]
 obtain⟨TT,hTT⟩: ∃x,x=sbsT (.mk k1 n1 kids1) (.mk k3 n3 kids3) 0 0:=⟨_,rfl⟩;rw[<-hTT];have HTT:=hdq hTT;clear hTT hct;have hrt:rdxT (.mk 5 n ks)=1:=hrd;rw[hrt] at HRX;clear hrt hrd hks hops;clear hks0;go_enter Tryz.func118,Tryz.ntmps118;go_wp2_with fail;rw[<-hwb];clear hwb;refine(HRX.out _ hX).mono ?_;rintro e w1 ⟨rfl,h1⟩;have hX1:=hX.trans h1;have hb01:=h1.blk hb0;have hb11:=h1.blk hb1;have hs1:w.heap.size+1 < w1.heap.size:=q10 hb11;obtain⟨z0,z1,z2,-,-,-⟩:=own3 hb01;clear hb0 hb1 HRX h1;have hbk:b0 < w.heap.size:=World.block_lt_of_cell? _ _ c00;have hbk3:b3 < w.heap.size:=World.block_lt_of_cell? _ _ c30;have HC:=hdq (show∀w':World,(∀y,y < w1.heap.size->y≠w.heap.size+1->w'.heap[y]? =w1.heap[y]?)->w'.cell? ⟨w.heap.size,2,none⟩=some (.slice (some ⟨b0,o0,none⟩) ks.length cap)/\w'.cell? ⟨b0,o0+2,none⟩=some (.slice (some ⟨b3,o3,none⟩) kids0.length cap0)/\w'.cell? ⟨b3,o3+3,none⟩=some (.int .i64 k3)/\w'.cell? ⟨b3,o3+4,none⟩=some (.int .i64 n3)/\w'.cell? ⟨b3,o3+5,none⟩=some (.slice A3 kids3.length cap3)/\w'.cell? ⟨b0,o0+3,none⟩=some (.int .i64 k1)/\w'.cell? ⟨b0,o0+4,none⟩=some (.int .i64 n1)/\w'.cell? ⟨b0,o0+5,none⟩=some (.slice A1 kids1.length cap1) from fun w' h=> by
  have hfar: ∀q i v,q < w.heap.size+1->w1.cell? ⟨q,i,none⟩=some v->w'.cell? ⟨q,i,none⟩=some v:=fun q i v hq hv=>(World.cell?_of_block (a:=⟨q,i,none⟩) (h q (by omega) (by omega))).trans hv
  exact⟨hfar _ _ _ (by omega) z2,hfar _ _ _ (by omega) (hX1.cell c02),hfar _ _ _ (by omega) (hX1.cell c30),hfar _ _ _ (by omega) (hX1.cell c31),hfar _ _ _ (by omega) (hX1.cell c32),hfar _ _ _ (by omega) (hX1.cell c10),hfar _ _ _ (by omega) (hX1.cell c11),hfar _ _ _ (by omega) (hX1.cell c12)⟩)
 have hEd:Ext w1 w1.drew:=(xr w1).drew;have L3:=hin3.ext hX1;have L1:=hin1.ext hX1;clear HK0 HK1 HK3 hkd0 hkd1 hkd3 hK0 hK1 hK3 hin0 hin1 hin3 hmem0 hmem1 hmem3 hK hin hop0 c00 c01 c02 c10 c11 c12 c30 c31 c32 z0 z1 z2 hb01;go_wp2_with fail
 go_region_held3 (fun w'=> w'.cell? ⟨w.heap.size,2,none⟩=some (.slice (some ⟨b0,o0,none⟩) ks.length cap)/\w'.cell? ⟨b0,o0+2,none⟩=some (.slice (some ⟨b3,o3,none⟩) kids0.length cap0)/\w'.cell? ⟨b3,o3+3,none⟩=some (.int .i64 k3)/\w'.cell? ⟨b3,o3+4,none⟩=some (.int .i64 n3)/\w'.cell? ⟨b3,o3+5,none⟩=some (.slice A3 kids3.length cap3)/\w'.cell? ⟨b0,o0+3,none⟩=some (.int .i64 k1)/\w'.cell? ⟨b0,o0+4,none⟩=some (.int .i64 n1)/\w'.cell? ⟨b0,o0+5,none⟩=some (.slice A1 kids1.length cap1))
  (first|exact HC.out _ (fun y h1 h2=> by rw[Below.heap_setCell _ _ _ _ h2,Below.heap_setCell _ _ _ _ h2,Below.heap_setCell _ _ _ _ h2];exact(hEd.trans h2').heap y h1) |exact HC.out _ (fun y h1 _=>(hEd.trans h2').heap y h1) |exact HC.out _ (fun y h1 _=> hEd.heap y h1))
  (first|(go_at_call 136;refine(y164 HTT.out _ _ _ (L3.ext hEd) hv3 (L1.ext hEd) hv1).mono ?_;rintro e w2 ⟨a1,a2,a3,a4,a5,rfl,hM,h2'⟩;obtain⟨s0,s1,s2,f0,f1,f2⟩:=own3 ((hEd.trans h2').blk hb11)))
 have hE:=hX1.trans (hEd.trans h2');have hsd:w1.heap.size<=w1.drew.heap.size:=hEd.size;clear HC hb11;go_wp2_with fail;have hsz:=hX1.size;refine bodyPost_ret (v:= .tuple #[.agg #[.int .i64 a1, .int .i64 a2, .slice a3 a4 a5], .bool (valid sigT TT)]) (by simp[results,Tryz.results118,go_sem,s0,s1,s2]) rfl ⟨_,rfl,Made.since (hM.after ((((y28.refl _ _).setCell (p:=⟨w.heap.size+1,0,none⟩) (by show w.heap.size+1 < _;omega) (.int .i64 a1)).setCell (p:=⟨w.heap.size+1,1,none⟩) (by show w.heap.size+1 < _;omega) (.int .i64 a2)).setCell (p:=⟨w.heap.size+1,2,none⟩) (by show w.heap.size+1 < _;omega) (.slice a3 a4 a5))) (by omega),(((hE.setCell (p:=⟨w.heap.size+1,0,none⟩) (by show w.heap.size<=w.heap.size+1;omega) _).setCell (p:=⟨w.heap.size+1,1,none⟩) (by show w.heap.size<=w.heap.size+1;omega) _).setCell (p:=⟨w.heap.size+1,2,none⟩) (by show w.heap.size<=w.heap.size+1;omega) _)⟩
end Go.Proofs.YtdkamgafpphdjaaGreat
namespace Go.Proofs.YtdkamgafpphdjaaGreat
theorem y128: ∀k,k<=10->NatC k
 |0,h=> q110 0 h (fun h0=> absurd h0 (by decide))
 |k+1,h=> q110 (k+1) h (fun _=> y128 k (by omega))
end Go.Proofs.YtdkamgafpphdjaaGreat
namespace Go.Proofs.YtdkamgafpphdjaaGreat
open Go.RowKit
set_option linter.unusedVariables false
attribute [local go_sem ↓] Go.wp_at_zero Go.wp_at_succ
def prC0:List (List UInt8):= []
def prX0:List (List UInt8):= [[91,42,48,93,91,35,48,93,35,48], [91,78,93,33,35,48], [91,78,93,91,78,93,60,91,78,93,78,44,35,49,44,91,78,93,91,78,93,43,35,48,44,35,48,62], [40,78,62,42,48,41], [40,91,42,48,93,91,35,48,93,35,48,32,78,41], [91,40,78,42,78,41,93,124,40,78,42,78,41,44,95,35,48,44,94,35,48,124], [91,78,93,124,40,78,42,123,78,44,35,48,44,35,49,125,41,44,35,48,44,33,35,48,124], [91,78,93,91,78,93,91,123,78,44,35,49,44,35,48,125,93,64,60,91,78,93,123,78,44,35,48,44,35,51,125,44,35,48,44,33,35,50,62], [60,91,78,93,42,48,44,78,44,91,78,93,91,42,48,93,40,78,62,35,49,41,44,43,43,48,62], [40,42,48,62,40,35,48,62,35,49,41,41], [91,42,48,93,91,40,35,48,62,35,49,41,93,35,48], [42,50]]
def prC1:List (List UInt8):= [[42,48], [35,48], [40,35,49,62,35,50,41]]
def prX1:List (List UInt8):= [[40,35,48,32,35,49,41], [33,35,49], [123,35,50,44,35,49,44,40,35,48,32,35,49,41,125], [91,35,50,93,35,49], [124,40,35,50,42,35,51,41,44,35,49,44,40,35,48,32,35,49,41,124], [91,123,35,50,44,35,49,44,40,35,48,32,35,49,41,125,93,64,60,91,35,51,93,35,52,44,35,48,44,35,50,62]]
def prC2:List (List UInt8):= [[78], [123,78,44,35,48,44,43,48,125]]
def prX2:List (List UInt8):= [[35,48], [64,60,91,78,93,123,78,44,43,35,50,44,43,35,48,125,44,35,48,44,33,43,35,49,62], [43,35,49], [64,60,91,78,93,78,44,35,48,44,35,49,62], [60,91,78,93,78,44,48,44,91,78,93,91,78,93,35,49,44,35,49,62]]
def prC3:List (List UInt8):= [[40,78,62,42,48,41], [40,78,62,40,35,49,32,35,48,41,41]]
def prX3:List (List UInt8):= [[40,35,48,32,48,41], [91,78,93,40,35,49,32,35,48,41], [40,35,49,32,43,43,48,41], [91,78,93,91,123,78,44,35,48,44,48,125,93,64,60,35,51,44,35,48,44,40,35,50,32,35,49,41,62]]
def y56:List (List (List UInt8)×List (List UInt8)):= [(prC0,prX0),(prC1,prX1),(prC2,prX2),(prC3,prX3)]
theorem y81{x:List UInt8}{xs:List (List UInt8)}(h:(prsV x).isSome=true):0 <(y33 (x::xs)).length:=by
 unfold y33;rw[List.filterMap_cons];cases hp:prsV x with
 |none=> rw[hp] at h;cases h
 |some t=> simp
theorem y90: ∀p∈y56,p.1.length<=3/\p.2.length<=12/\(∀x∈p.1,x.length<=1000)/\(∀x∈p.2,x.length<=1000):=by decide
theorem y112: ∀p∈y56,0 <(y33 p.2).length:=by
 intro p hp;simp only[y56,List.mem_cons,List.not_mem_nil,or_false] at hp;rcases hp with rfl|rfl|rfl|rfl
 · exact y81 (x:= [91,42,48,93,91,35,48,93,35,48]) (by decide+kernel)
 · exact y81 (x:= [40,35,48,32,35,49,41]) (by decide+kernel)
 · exact y81 (x:= [35,48]) (by decide+kernel)
 · exact y81 (x:= [40,35,48,32,48,41]) (by decide+kernel)
theorem q76(xs:List (List UInt8)):(y33 xs).length<=xs.length:=List.length_filterMap_le _ _
def q43(w:World)(b:Nat)(xs:List (List UInt8)):Prop:=b < w.heap.size/\ ∀j (hj:j < xs.length),w.cell? ⟨b,0+j,none⟩=some (.string (ofL xs[j]))
theorem q43.ext{w w':World}{b:Nat}{xs:List (List UInt8)}(h:q43 w b xs)(he:Ext w w'):q43 w' b xs:=⟨Nat.lt_of_lt_of_le h.1 he.size,fun j hj=> he.cell (h.2 j hj)⟩
theorem q43.of{w:World}{b:Nat}{xs:List (List UInt8)}{e:TypeId}(h:w.heap[b]? =some (.cells (xs.map fun x=> Value.string (ofL x)).toArray e (0,0))):q43 w b xs:=
 ⟨q10 h,fun j hj=> by rw[Nat.zero_add,y10 h];simp[hj]⟩
set_option maxRecDepth 100000 in
set_option maxHeartbeats 1000000 in
theorem q96(k:Int)(w:World):Calls Tryz.prog 112 #[.int .i64 k] w fun e w'=> ∃b1 b2 p,e= .returned (.tuple #[.slice (some ⟨b1,0,none⟩) p.1.length p.1.length, .slice (some ⟨b2,0,none⟩) p.2.length p.2.length])/\p∈y56/\w.heap.size<=b1/\w.heap.size<=b2/\q43 w' b1 p.1/\q43 w' b2 p.2/\Ext w w':=by
 by_cases h0:k=0
 · subst h0
   obtain⟨hb1,hb2,-⟩:=blk2 (xr ((w.alloc (.cells (prC0.map fun x=> Value.string (ofL x)).toArray 9)).alloc (.cells (prX0.map fun x=> Value.string (ofL x)).toArray 9)));have hx:Ext w ((w.alloc (.cells (prC0.map fun x=> Value.string (ofL x)).toArray 9)).alloc (.cells (prX0.map fun x=> Value.string (ofL x)).toArray 9)):=((xr w).alloc _).alloc _;have HO:=hdq (show∃b1 b2 p,(Value.tuple #[.slice (some ⟨w.heap.size,0,none⟩) prC0.length prC0.length, .slice (some ⟨w.heap.size+1,0,none⟩) prX0.length prX0.length])=(Value.tuple #[.slice (some ⟨b1,0,none⟩) (Prod.fst p).length p.1.length, .slice (some ⟨b2,0,none⟩) p.2.length p.2.length])/\p∈y56/\w.heap.size<=b1/\w.heap.size<=b2/\q43 _ b1 p.1/\q43 _ b2 p.2/\Ext w _ from⟨w.heap.size,w.heap.size+1,(prC0,prX0),rfl,by simp[y56],Nat.le_refl _,Nat.le_succ _,q43.of hb1,q43.of hb2,hx⟩);clear hb1 hb2 hx;go_enter Tryz.func112,Tryz.ntmps112;go_wp2_with fail;go_ret2;obtain⟨b1,b2,p,h1,h2⟩:=HO.out;exact⟨b1,b2,p,congrArg Ending.returned h1,h2⟩
 · have e0:(k==0)=false:=beq_eq_false_iff_ne.2 h0
   by_cases h1:k=1
   · subst h1
     obtain⟨hb1,hb2,-⟩:=blk2 (xr ((w.alloc (.cells (prC1.map fun x=> Value.string (ofL x)).toArray 9)).alloc (.cells (prX1.map fun x=> Value.string (ofL x)).toArray 9)));have hx:Ext w ((w.alloc (.cells (prC1.map fun x=> Value.string (ofL x)).toArray 9)).alloc (.cells (prX1.map fun x=> Value.string (ofL x)).toArray 9)):=((xr w).alloc _).alloc _;have HO:=hdq (show∃b1 b2 p,(Value.tuple #[.slice (some ⟨w.heap.size,0,none⟩) prC1.length prC1.length, .slice (some ⟨w.heap.size+1,0,none⟩) prX1.length prX1.length])=(Value.tuple #[.slice (some ⟨b1,0,none⟩) (Prod.fst p).length p.1.length, .slice (some ⟨b2,0,none⟩) p.2.length p.2.length])/\p∈y56/\w.heap.size<=b1/\w.heap.size<=b2/\q43 _ b1 p.1/\q43 _ b2 p.2/\Ext w _ from⟨w.heap.size,w.heap.size+1,(prC1,prX1),rfl,by simp[y56],Nat.le_refl _,Nat.le_succ _,q43.of hb1,q43.of hb2,hx⟩);clear hb1 hb2 hx;go_enter Tryz.func112,Tryz.ntmps112;go_wp2_with fail;go_ret2;obtain⟨b1,b2,p,h1,h2⟩:=HO.out;exact⟨b1,b2,p,congrArg Ending.returned h1,h2⟩
   · have e1:(k==1)=false:=beq_eq_false_iff_ne.2 h1
     by_cases h2:k=2
     · subst h2
       obtain⟨hb1,hb2,-⟩:=blk2 (xr ((w.alloc (.cells (prC2.map fun x=> Value.string (ofL x)).toArray 9)).alloc (.cells (prX2.map fun x=> Value.string (ofL x)).toArray 9)));have hx:Ext w ((w.alloc (.cells (prC2.map fun x=> Value.string (ofL x)).toArray 9)).alloc (.cells (prX2.map fun x=> Value.string (ofL x)).toArray 9)):=((xr w).alloc _).alloc _;have HO:=hdq (show∃b1 b2 p,(Value.tuple #[.slice (some ⟨w.heap.size,0,none⟩) prC2.length prC2.length, .slice (some ⟨w.heap.size+1,0,none⟩) prX2.length prX2.length])=(Value.tuple #[.slice (some ⟨b1,0,none⟩) (Prod.fst p).length p.1.length, .slice (some ⟨b2,0,none⟩) p.2.length p.2.length])/\p∈y56/\w.heap.size<=b1/\w.heap.size<=b2/\q43 _ b1 p.1/\q43 _ b2 p.2/\Ext w _ from⟨w.heap.size,w.heap.size+1,(prC2,prX2),rfl,by simp[y56],Nat.le_refl _,Nat.le_succ _,q43.of hb1,q43.of hb2,hx⟩);clear hb1 hb2 hx;go_enter Tryz.func112,Tryz.ntmps112;go_wp2_with fail;go_ret2;obtain⟨b1,b2,p,h1,h2⟩:=HO.out;exact⟨b1,b2,p,congrArg Ending.returned h1,h2⟩
     · have e2:(k==2)=false:=beq_eq_false_iff_ne.2 h2
       obtain⟨hb1,hb2,-⟩:=blk2 (xr ((w.alloc (.cells (prC3.map fun x=> Value.string (ofL x)).toArray 9)).alloc (.cells (prX3.map fun x=> Value.string (ofL x)).toArray 9)));have hx:Ext w ((w.alloc (.cells (prC3.map fun x=> Value.string (ofL x)).toArray 9)).alloc (.cells (prX3.map fun x=> Value.string (ofL x)).toArray 9)):=((xr w).alloc _).alloc _;have HO:=hdq (show∃b1 b2 p,(Value.tuple #[.slice (some ⟨w.heap.size,0,none⟩) prC3.length prC3.length, .slice (some ⟨w.heap.size+1,0,none⟩) prX3.length prX3.length])=(Value.tuple #[.slice (some ⟨b1,0,none⟩) (Prod.fst p).length p.1.length, .slice (some ⟨b2,0,none⟩) p.2.length p.2.length])/\p∈y56/\w.heap.size<=b1/\w.heap.size<=b2/\q43 _ b1 p.1/\q43 _ b2 p.2/\Ext w _ from⟨w.heap.size,w.heap.size+1,(prC3,prX3),rfl,by simp[y56],Nat.le_refl _,Nat.le_succ _,q43.of hb1,q43.of hb2,hx⟩);clear hb1 hb2 hx;go_enter Tryz.func112,Tryz.ntmps112;go_wp2_with fail;go_ret2;obtain⟨b1,b2,p,h1,h2⟩:=HO.out;exact⟨b1,b2,p,congrArg Ending.returned h1,h2⟩
end Go.Proofs.YtdkamgafpphdjaaGreat
