/-
  Lemmas towards the law, 24: Contract, ReadN.
-/
import Derived.Test.YtbnkbepgmenblaaGreatDoorFAW
import Derived.Shelf.Strconv.AtoiAll
set_option linter.unusedVariables false
set_option maxHeartbeats 4000000
set_option maxRecDepth 100000
namespace Go.Proofs.YtbnkbepgmenblaaGreatDoor
open Go.RowKit
theorem y36{ks:List Tr}{j:Nat}{t:Tr}(h:j < ks.length)(e:ks[j]=t):kd ks j=t:=by
 unfold kd;rw[List.getD_eq_getElem?_getD,List.getElem?_eq_getElem h,e]
 rfl
def ConQ(w:World)(t:Tr)(e:Ending)(w':World):Prop:= ∃r,e= .returned (.tuple #[r,.bool (valid sigT t)])/\Made w w' 26 (okT t) r/\Ext w w'
theorem j32{W w:World}{t:Tr}{u:Value}(h:Made W w 26 t u):Calls Tryz.prog 39 #[u] w fun e w'=> ∃a1 a2 a3 a4 a5,e= .returned (.tuple #[.agg #[.int .i64 a1,.int .i64 a2,.slice a3 a4 a5],.bool (valid sigT t)])/\Made W w' 26 (okT t) (.agg #[.int .i64 a1,.int .i64 a2,.slice a3 a4 a5])/\Ext w w':=by
 obtain⟨k,n,ks⟩:=t;obtain⟨A,cap,rfl,hl,hc,hK⟩:=Made.mk_iff.1 h;refine(y69 k n ks A cap w h.lies).mono ?_;rintro e w' ⟨h1,h2⟩;by_cases hv:valid sigT (.mk k n ks)=true
 · rw[if_pos hv] at h1
   refine⟨_,_,_,_,_,by rw[h1,hv], ?_,h2⟩;unfold okT;rw[if_pos hv];exact h.ext h2
 · rw[if_neg hv] at h1
   refine⟨0,0,none,0,0,by rw[h1,Bool.eq_false_iff.2 hv], ?_,h2⟩;unfold okT;rw[if_neg hv];exact Made.leaf _ _ _ 0 0
theorem q157{t u TT:Tr}(hT:TT=sbsT u t 0 0)(w:World)(v vu:Value)(j8:Lies w t v)(hv:valid sigT t=true)(ew:Lies w u vu)(ep:valid sigT u=true):
 Calls Tryz.prog 106 #[v,.int .i64 0,vu] w fun e w'=> ∃a1 a2 a3 a4 a5,e= .returned (.tuple #[.agg #[.int .i64 a1,.int .i64 a2,.slice a3 a4 a5],.bool (valid sigT TT)])/\Made w w' 26 (okT TT) (.agg #[.int .i64 a1,.int .i64 a2,.slice a3 a4 a5])/\Ext w w':=by
 subst hT;refine(y131 t 0 u w v vu j8 hv ew ep (by omega) (by omega)).mono ?_;rintro e w' ⟨r,rfl,hM,h⟩;obtain⟨a1,a2,a3,a4,a5,rfl⟩:=hM.three';exact⟨_,_,_,_,_,rfl,hM,h⟩
theorem j156(n:Int)(ks:List Tr)(hv:valid sigT (.mk 9 n ks)=true)(w:World)(A:Option Addr)(cap:Nat)(j8:Lies w (.mk 9 n ks) (.agg #[.int .i64 9,.int .i64 n,.slice A ks.length cap]))(hK:y23 w A ks)(hl:ks.length<=cap)(hc:cap<=maxLen)(hc3:(kd ks 3).kind=7):
 Calls Tryz.prog 112 #[.agg #[.int .i64 9,.int .i64 n,.slice A ks.length cap]] w (ConQ w (ctr 9 ks)):=by
 obtain⟨hsh,J2⟩:=y11 hv;have j7:opsT 9=(ks.length:Int):=(j11 hsh).1;have l8:ks.length=4:=by have h9:(4:Int)=(ks.length:Int):=j7;omega
 have hsk:=(j11 hsh).2.2.2;have bw: ∀t∈ks,valid sigT t=true:=fun t ht=> by
  have h1:=hsk t ht;have h2:=q16 ht;simp only[cnt] at J2;unfold valid;rw[j45 h1 (by decide),Bool.true_and,decide_eq_true_eq];omega
 have hcc:=hc;unfold maxLen at hcc;have P8:=hdq (fun W (hW:Ext w W)=> q31 (.mk 9 n ks) 30 hsh W _ (j8.ext hW));obtain⟨wb,F7⟩: ∃wb,wb=(w.alloc (.cells #[.int .i64 9,.int .i64 n,.slice A ks.length cap] 26)).alloc (.cells #[.int .i64 0,.int .i64 0,.slice none 0 0] 26):=⟨_,rfl⟩;have hX:Ext w wb:=F7▸((xr w).alloc _).alloc _;have hb0:wb.heap[w.heap.size]? =some (.cells #[.int .i64 9,.int .i64 n,.slice A ks.length cap] 26 (0,0)):=by rw[F7];exact(blk2 (xr _)).1
 have hb1:wb.heap[w.heap.size+1]? =some (.cells #[.int .i64 0,.int .i64 0,.slice none 0 0] 26 (0,0)):=by rw[F7];exact(blk2 (xr _)).2.1
 have hs0:w.heap.size+1 < wb.heap.size:=j10 hb1;have J4:1 < ks.length:=by omega
 have W4:(1:Int) <(ks.length:Int):=by omega
 obtain⟨b1,o1,k1,n1,A1,D8,i7,ar,G4,c10,c11,c12,fy,fu,I9,y8,q9⟩:=hK.get (xr w) J4;simp only[Nat.one_mul,Nat.add_assoc,Nat.reduceAdd] at c10 c11 c12;have ah:kd ks 1= .mk k1 n1 i7:=y36 J4 G4.out;subst ar;have p9:ctr 9 ks= .mk k1 n1 i7:=(j46 hc3).trans ah;rw[p9];have R6:rdx 9 ks=2:=by unfold rdx;simp[hc3]
 obtain⟨TT,z6⟩: ∃x,x=Tr.mk k1 n1 i7:=⟨_,rfl⟩;rw[<-z6];have N0:=hdq z6;clear z6;have Ha:cnt (.mk k1 n1 i7)<=400:=(y11 (bw _ q9)).2;clear p9;have hrt:rdxT (.mk 9 n ks)=2:=R6;rw[hrt] at P8;clear hrt R6 l8 j7
 skip
 go_enter Tryz.func112,Tryz.ntmps112;go_wp2_with fail;rw[<-F7];clear F7;refine(P8.out _ hX).mono ?_;rintro e w1 ⟨rfl,h1⟩;have x7:=hX.trans h1;have G5:=h1.blk hb0;have z8:=h1.blk hb1;have hs1:w.heap.size+1 < w1.heap.size:=j10 z8;obtain⟨z0,z1,z2,-,-,-⟩:=own3 G5;clear hb0 hb1 P8 h1;have d10:=x7.cell c10;have d11:=x7.cell c11;have d12:=x7.cell c12;have ej:=hdq (y8.ext x7);clear G4 ah I9 y8 q9 c10 c11 c12 hK j8;go_wp2_with fail;refine(j38 _ _ _ ej.out (by omega)).mono ?_;rintro e w2 ⟨u,rfl,M5,h2⟩;obtain⟨u1,u2,u3,u4,u5,rfl⟩:=M5.three';go_wp2_with fail;rw[<-N0.out] at M5;refine(j32 M5).mono ?_;rintro e w3 ⟨a1,a2,a3,a4,a5,rfl,hM,h3⟩;have hE:=x7.trans (h2.trans h3);obtain⟨s0,s1,s2,f0,f1,f2⟩:=own3 ((h2.trans h3).blk z8);clear M5 G5 z8 d10 d11 d12 z0 z1 z2;go_wp2_with fail;have hsz:=x7.size;refine bodyPost_ret (v:= .tuple #[.agg #[.int .i64 a1,.int .i64 a2,.slice a3 a4 a5],.bool (valid sigT TT)]) (by simp[results,Tryz.results112,go_sem,s0,s1,s2]) rfl ⟨_,rfl,Made.since (hM.after ((((q23.refl _ _).setCell (p:=⟨w.heap.size+1,0,none⟩) (by show w.heap.size+1 < _;omega) (.int .i64 a1)).setCell (p:=⟨w.heap.size+1,1,none⟩) (by show w.heap.size+1 < _;omega) (.int .i64 a2)).setCell (p:=⟨w.heap.size+1,2,none⟩) (by show w.heap.size+1 < _;omega) (.slice a3 a4 a5))) (by omega),(((hE.setCell (p:=⟨w.heap.size+1,0,none⟩) (by show w.heap.size<=w.heap.size+1;omega) _).setCell (p:=⟨w.heap.size+1,1,none⟩) (by show w.heap.size<=w.heap.size+1;omega) _).setCell (p:=⟨w.heap.size+1,2,none⟩) (by show w.heap.size<=w.heap.size+1;omega) _)⟩
theorem j157(n:Int)(ks:List Tr)(hv:valid sigT (.mk 12 n ks)=true)(w:World)(A:Option Addr)(cap:Nat)(j8:Lies w (.mk 12 n ks) (.agg #[.int .i64 12,.int .i64 n,.slice A ks.length cap]))(hK:y23 w A ks)(hl:ks.length<=cap)(hc:cap<=maxLen)(hc1:(kd ks 1).kind=11):
 Calls Tryz.prog 112 #[.agg #[.int .i64 12,.int .i64 n,.slice A ks.length cap]] w (ConQ w (ctr 12 ks)):=by
 obtain⟨hsh,J2⟩:=y11 hv;have j7:opsT 12=(ks.length:Int):=(j11 hsh).1;have l8:ks.length=3:=by have h9:(3:Int)=(ks.length:Int):=j7;omega
 have hsk:=(j11 hsh).2.2.2;have bw: ∀t∈ks,valid sigT t=true:=fun t ht=> by
  have h1:=hsk t ht;have h2:=q16 ht;simp only[cnt] at J2;unfold valid;rw[j45 h1 (by decide),Bool.true_and,decide_eq_true_eq];omega
 have hcc:=hc;unfold maxLen at hcc;have P8:=hdq (fun W (hW:Ext w W)=> q31 (.mk 12 n ks) 30 hsh W _ (j8.ext hW));obtain⟨wb,F7⟩: ∃wb,wb=(w.alloc (.cells #[.int .i64 12,.int .i64 n,.slice A ks.length cap] 26)).alloc (.cells #[.int .i64 0,.int .i64 0,.slice none 0 0] 26):=⟨_,rfl⟩;have hX:Ext w wb:=F7▸((xr w).alloc _).alloc _;have hb0:wb.heap[w.heap.size]? =some (.cells #[.int .i64 12,.int .i64 n,.slice A ks.length cap] 26 (0,0)):=by rw[F7];exact(blk2 (xr _)).1
 have hb1:wb.heap[w.heap.size+1]? =some (.cells #[.int .i64 0,.int .i64 0,.slice none 0 0] 26 (0,0)):=by rw[F7];exact(blk2 (xr _)).2.1
 have hs0:w.heap.size+1 < wb.heap.size:=j10 hb1;have bh:2 < ks.length:=by omega
 have dv:(2:Int) <(ks.length:Int):=by omega
 obtain⟨b2,o2,k2,n2,A2,I7,o8,rc,xc,c20,c21,xp,jw,iu,hK2,gb,ai⟩:=hK.get (xr w) bh;simp only[Nat.reduceMul,Nat.add_assoc,Nat.reduceAdd] at c20 c21 xp;have ko:kd ks 2= .mk k2 n2 o8:=y36 bh xc.out;subst rc;have p9:ctr 12 ks= .mk k2 n2 o8:=q70.trans ko;rw[p9];have R6:rdx 12 ks=4:=by unfold rdx;simp[hc1]
 obtain⟨TT,z6⟩: ∃x,x=Tr.mk k2 n2 o8:=⟨_,rfl⟩;rw[<-z6];have N0:=hdq z6;clear z6;have Ha:cnt (.mk k2 n2 o8)<=400:=(y11 (bw _ ai)).2;clear p9;have hrt:rdxT (.mk 12 n ks)=4:=R6;rw[hrt] at P8;clear hrt R6 l8 j7
 skip
 go_enter Tryz.func112,Tryz.ntmps112;go_wp2_with fail;rw[<-F7];clear F7;refine(P8.out _ hX).mono ?_;rintro e w1 ⟨rfl,h1⟩;have x7:=hX.trans h1;have G5:=h1.blk hb0;have z8:=h1.blk hb1;have hs1:w.heap.size+1 < w1.heap.size:=j10 z8;obtain⟨z0,z1,z2,-,-,-⟩:=own3 G5;clear hb0 hb1 P8 h1;have d20:=x7.cell c20;have d21:=x7.cell c21;have d22:=x7.cell xp;have ej:=hdq (gb.ext x7);clear xc ko hK2 gb ai c20 c21 xp hK j8;go_wp2_with fail;refine(j38 _ _ _ ej.out (by omega)).mono ?_;rintro e w2 ⟨u,rfl,M5,h2⟩;obtain⟨u1,u2,u3,u4,u5,rfl⟩:=M5.three';go_wp2_with fail;rw[<-N0.out] at M5;refine(j32 M5).mono ?_;rintro e w3 ⟨a1,a2,a3,a4,a5,rfl,hM,h3⟩;have hE:=x7.trans (h2.trans h3);obtain⟨s0,s1,s2,f0,f1,f2⟩:=own3 ((h2.trans h3).blk z8);clear M5 G5 z8 d20 d21 d22 z0 z1 z2;go_wp2_with fail;have hsz:=x7.size;refine bodyPost_ret (v:= .tuple #[.agg #[.int .i64 a1,.int .i64 a2,.slice a3 a4 a5],.bool (valid sigT TT)]) (by simp[results,Tryz.results112,go_sem,s0,s1,s2]) rfl ⟨_,rfl,Made.since (hM.after ((((q23.refl _ _).setCell (p:=⟨w.heap.size+1,0,none⟩) (by show w.heap.size+1 < _;omega) (.int .i64 a1)).setCell (p:=⟨w.heap.size+1,1,none⟩) (by show w.heap.size+1 < _;omega) (.int .i64 a2)).setCell (p:=⟨w.heap.size+1,2,none⟩) (by show w.heap.size+1 < _;omega) (.slice a3 a4 a5))) (by omega),(((hE.setCell (p:=⟨w.heap.size+1,0,none⟩) (by show w.heap.size<=w.heap.size+1;omega) _).setCell (p:=⟨w.heap.size+1,1,none⟩) (by show w.heap.size<=w.heap.size+1;omega) _).setCell (p:=⟨w.heap.size+1,2,none⟩) (by show w.heap.size<=w.heap.size+1;omega) _)⟩
theorem q159(n:Int)(ks:List Tr)(hv:valid sigT (.mk 15 n ks)=true)(w:World)(A:Option Addr)(cap:Nat)(j8:Lies w (.mk 15 n ks) (.agg #[.int .i64 15,.int .i64 n,.slice A ks.length cap]))(hK:y23 w A ks)(hl:ks.length<=cap)(hc:cap<=maxLen)(hc0:(kd ks 0).kind=14):
 Calls Tryz.prog 112 #[.agg #[.int .i64 15,.int .i64 n,.slice A ks.length cap]] w (ConQ w (ctr 15 ks)):=by
 obtain⟨hsh,J2⟩:=y11 hv;have j7:opsT 15=(ks.length:Int):=(j11 hsh).1;have l8:ks.length=1:=by have h9:(1:Int)=(ks.length:Int):=j7;omega
 have hsk:=(j11 hsh).2.2.2;have bw: ∀t∈ks,valid sigT t=true:=fun t ht=> by
  have h1:=hsk t ht;have h2:=q16 ht;simp only[cnt] at J2;unfold valid;rw[j45 h1 (by decide),Bool.true_and,decide_eq_true_eq];omega
 have hcc:=hc;unfold maxLen at hcc;have P8:=hdq (fun W (hW:Ext w W)=> q31 (.mk 15 n ks) 30 hsh W _ (j8.ext hW));obtain⟨wb,F7⟩: ∃wb,wb=(w.alloc (.cells #[.int .i64 15,.int .i64 n,.slice A ks.length cap] 26)).alloc (.cells #[.int .i64 0,.int .i64 0,.slice none 0 0] 26):=⟨_,rfl⟩;have hX:Ext w wb:=F7▸((xr w).alloc _).alloc _;have hb0:wb.heap[w.heap.size]? =some (.cells #[.int .i64 15,.int .i64 n,.slice A ks.length cap] 26 (0,0)):=by rw[F7];exact(blk2 (xr _)).1
 have hb1:wb.heap[w.heap.size+1]? =some (.cells #[.int .i64 0,.int .i64 0,.slice none 0 0] 26 (0,0)):=by rw[F7];exact(blk2 (xr _)).2.1
 have hs0:w.heap.size+1 < wb.heap.size:=j10 hb1;have P7:0 < ks.length:=by omega
 have K5:(0:Int) <(ks.length:Int):=by omega
 obtain⟨b0,o0,k0,n0,A0,y9,j9,pu,ik,az,er,bf,wm,xh,U3,B9,G0⟩:=hK.get (xr w) P7;simp only[Nat.zero_mul,Nat.add_zero] at az er bf;have F6:kd ks 0= .mk k0 n0 j9:=y36 P7 ik.out;subst pu;rw[F6] at hc0;have vg:k0=14:=hc0;subst vg;have hv0:=bw _ G0;have Y2:opsT 14=(j9.length:Int):=(j11 (y11 hv0).1).1;have jy:j9.length=3:=by have h9:(3:Int)=(j9.length:Int):=Y2;omega
 have Q7:1 < j9.length:=by omega
 have Dn:(1:Int) <(j9.length:Int):=by omega
 obtain⟨b3,o3,k3,n3,A3,L5,u6,qy,kg,cg,c31,cn,wy,jo,hK3,R3,E6⟩:=U3.get (xr w) Q7;simp only[Nat.one_mul,Nat.add_assoc,Nat.reduceAdd] at cg c31 cn;have K8:kd j9 1= .mk k3 n3 u6:=y36 Q7 kg.out;subst qy;have p9:ctr 15 ks= .mk k3 n3 u6:=by rw[q67,F6];exact K8
 rw[p9];have R6:rdx 15 ks=5:=by unfold rdx;rw[F6];simp[Tr.kind]
 obtain⟨TT,z6⟩: ∃x,x=Tr.mk k3 n3 u6:=⟨_,rfl⟩;rw[<-z6];have N0:=hdq z6;clear z6;have Ha:cnt (.mk k3 n3 u6)<=400:=by have h1:=q16 E6;have h2:=(y11 hv0).2;simp only[cnt] at h2;omega
 clear p9;have hrt:rdxT (.mk 15 n ks)=5:=R6;rw[hrt] at P8;clear hrt R6 l8 j7;clear jy;go_enter Tryz.func112,Tryz.ntmps112;go_wp2_with fail;rw[<-F7];clear F7;refine(P8.out _ hX).mono ?_;rintro e w1 ⟨rfl,h1⟩;have x7:=hX.trans h1;have G5:=h1.blk hb0;have z8:=h1.blk hb1;have hs1:w.heap.size+1 < w1.heap.size:=j10 z8;obtain⟨z0,z1,z2,-,-,-⟩:=own3 G5;clear hb0 hb1 P8 h1;have Jq:=x7.cell az;have Ot:=x7.cell er;have Jz:=x7.cell bf;have Pm:=x7.cell cg;have Lm:=x7.cell c31;have Nz:=x7.cell cn;have ej:=hdq (R3.ext x7);clear ik F6 U3 B9 G0 kg K8 hK3 R3 E6 az er bf cg c31 cn hK j8 Y2;go_wp2_with fail;refine(j38 _ _ _ ej.out (by omega)).mono ?_;rintro e w2 ⟨u,rfl,M5,h2⟩;obtain⟨u1,u2,u3,u4,u5,rfl⟩:=M5.three';go_wp2_with fail;rw[<-N0.out] at M5;refine(j32 M5).mono ?_;rintro e w3 ⟨a1,a2,a3,a4,a5,rfl,hM,h3⟩;have hE:=x7.trans (h2.trans h3);obtain⟨s0,s1,s2,f0,f1,f2⟩:=own3 ((h2.trans h3).blk z8);clear M5 G5 z8 Jq Ot Jz Pm Lm Nz z0 z1 z2;go_wp2_with fail;have hsz:=x7.size;refine bodyPost_ret (v:= .tuple #[.agg #[.int .i64 a1,.int .i64 a2,.slice a3 a4 a5],.bool (valid sigT TT)]) (by simp[results,Tryz.results112,go_sem,s0,s1,s2]) rfl ⟨_,rfl,Made.since (hM.after ((((q23.refl _ _).setCell (p:=⟨w.heap.size+1,0,none⟩) (by show w.heap.size+1 < _;omega) (.int .i64 a1)).setCell (p:=⟨w.heap.size+1,1,none⟩) (by show w.heap.size+1 < _;omega) (.int .i64 a2)).setCell (p:=⟨w.heap.size+1,2,none⟩) (by show w.heap.size+1 < _;omega) (.slice a3 a4 a5))) (by omega),(((hE.setCell (p:=⟨w.heap.size+1,0,none⟩) (by show w.heap.size<=w.heap.size+1;omega) _).setCell (p:=⟨w.heap.size+1,1,none⟩) (by show w.heap.size<=w.heap.size+1;omega) _).setCell (p:=⟨w.heap.size+1,2,none⟩) (by show w.heap.size<=w.heap.size+1;omega) _)⟩
theorem q155(n:Int)(ks:List Tr)(hv:valid sigT (.mk 16 n ks)=true)(w:World)(A:Option Addr)(cap:Nat)(j8:Lies w (.mk 16 n ks) (.agg #[.int .i64 16,.int .i64 n,.slice A ks.length cap]))(hK:y23 w A ks)(hl:ks.length<=cap)(hc:cap<=maxLen)(hc0:(kd ks 0).kind=14):
 Calls Tryz.prog 112 #[.agg #[.int .i64 16,.int .i64 n,.slice A ks.length cap]] w (ConQ w (ctr 16 ks)):=by
 obtain⟨hsh,J2⟩:=y11 hv;have j7:opsT 16=(ks.length:Int):=(j11 hsh).1;have l8:ks.length=1:=by have h9:(1:Int)=(ks.length:Int):=j7;omega
 have hsk:=(j11 hsh).2.2.2;have bw: ∀t∈ks,valid sigT t=true:=fun t ht=> by
  have h1:=hsk t ht;have h2:=q16 ht;simp only[cnt] at J2;unfold valid;rw[j45 h1 (by decide),Bool.true_and,decide_eq_true_eq];omega
 have hcc:=hc;unfold maxLen at hcc;have P8:=hdq (fun W (hW:Ext w W)=> q31 (.mk 16 n ks) 30 hsh W _ (j8.ext hW));obtain⟨wb,F7⟩: ∃wb,wb=(w.alloc (.cells #[.int .i64 16,.int .i64 n,.slice A ks.length cap] 26)).alloc (.cells #[.int .i64 0,.int .i64 0,.slice none 0 0] 26):=⟨_,rfl⟩;have hX:Ext w wb:=F7▸((xr w).alloc _).alloc _;have hb0:wb.heap[w.heap.size]? =some (.cells #[.int .i64 16,.int .i64 n,.slice A ks.length cap] 26 (0,0)):=by rw[F7];exact(blk2 (xr _)).1
 have hb1:wb.heap[w.heap.size+1]? =some (.cells #[.int .i64 0,.int .i64 0,.slice none 0 0] 26 (0,0)):=by rw[F7];exact(blk2 (xr _)).2.1
 have hs0:w.heap.size+1 < wb.heap.size:=j10 hb1;have P7:0 < ks.length:=by omega
 have K5:(0:Int) <(ks.length:Int):=by omega
 obtain⟨b0,o0,k0,n0,A0,y9,j9,pu,ik,az,er,bf,wm,xh,U3,B9,G0⟩:=hK.get (xr w) P7;simp only[Nat.zero_mul,Nat.add_zero] at az er bf;have F6:kd ks 0= .mk k0 n0 j9:=y36 P7 ik.out;subst pu;rw[F6] at hc0;have vg:k0=14:=hc0;subst vg;have hv0:=bw _ G0;have Y2:opsT 14=(j9.length:Int):=(j11 (y11 hv0).1).1;have jy:j9.length=3:=by have h9:(3:Int)=(j9.length:Int):=Y2;omega
 have Q7:2 < j9.length:=by omega
 have Dn:(2:Int) <(j9.length:Int):=by omega
 obtain⟨b3,o3,k3,n3,A3,L5,u6,qy,kg,cg,c31,cn,wy,jo,hK3,R3,E6⟩:=U3.get (xr w) Q7;simp only[Nat.reduceMul,Nat.add_assoc,Nat.reduceAdd] at cg c31 cn;have K8:kd j9 2= .mk k3 n3 u6:=y36 Q7 kg.out;subst qy;have p9:ctr 16 ks= .mk k3 n3 u6:=by rw[y68,F6];exact K8
 rw[p9];have R6:rdx 16 ks=6:=by unfold rdx;rw[F6];simp[Tr.kind]
 obtain⟨TT,z6⟩: ∃x,x=Tr.mk k3 n3 u6:=⟨_,rfl⟩;rw[<-z6];have N0:=hdq z6;clear z6;have Ha:cnt (.mk k3 n3 u6)<=400:=by have h1:=q16 E6;have h2:=(y11 hv0).2;simp only[cnt] at h2;omega
 clear p9;have hrt:rdxT (.mk 16 n ks)=6:=R6;rw[hrt] at P8;clear hrt R6 l8 j7;clear jy;go_enter Tryz.func112,Tryz.ntmps112;go_wp2_with fail;rw[<-F7];clear F7;refine(P8.out _ hX).mono ?_;rintro e w1 ⟨rfl,h1⟩;have x7:=hX.trans h1;have G5:=h1.blk hb0;have z8:=h1.blk hb1;have hs1:w.heap.size+1 < w1.heap.size:=j10 z8;obtain⟨z0,z1,z2,-,-,-⟩:=own3 G5;clear hb0 hb1 P8 h1;have Jq:=x7.cell az;have Ot:=x7.cell er;have Jz:=x7.cell bf;have Pm:=x7.cell cg;have Lm:=x7.cell c31;have Nz:=x7.cell cn;have ej:=hdq (R3.ext x7);clear ik F6 U3 B9 G0 kg K8 hK3 R3 E6 az er bf cg c31 cn hK j8 Y2;go_wp2_with fail;refine(j38 _ _ _ ej.out (by omega)).mono ?_;rintro e w2 ⟨u,rfl,M5,h2⟩;obtain⟨u1,u2,u3,u4,u5,rfl⟩:=M5.three';go_wp2_with fail;rw[<-N0.out] at M5;refine(j32 M5).mono ?_;rintro e w3 ⟨a1,a2,a3,a4,a5,rfl,hM,h3⟩;have hE:=x7.trans (h2.trans h3);obtain⟨s0,s1,s2,f0,f1,f2⟩:=own3 ((h2.trans h3).blk z8);clear M5 G5 z8 Jq Ot Jz Pm Lm Nz z0 z1 z2;go_wp2_with fail;have hsz:=x7.size;refine bodyPost_ret (v:= .tuple #[.agg #[.int .i64 a1,.int .i64 a2,.slice a3 a4 a5],.bool (valid sigT TT)]) (by simp[results,Tryz.results112,go_sem,s0,s1,s2]) rfl ⟨_,rfl,Made.since (hM.after ((((q23.refl _ _).setCell (p:=⟨w.heap.size+1,0,none⟩) (by show w.heap.size+1 < _;omega) (.int .i64 a1)).setCell (p:=⟨w.heap.size+1,1,none⟩) (by show w.heap.size+1 < _;omega) (.int .i64 a2)).setCell (p:=⟨w.heap.size+1,2,none⟩) (by show w.heap.size+1 < _;omega) (.slice a3 a4 a5))) (by omega),(((hE.setCell (p:=⟨w.heap.size+1,0,none⟩) (by show w.heap.size<=w.heap.size+1;omega) _).setCell (p:=⟨w.heap.size+1,1,none⟩) (by show w.heap.size<=w.heap.size+1;omega) _).setCell (p:=⟨w.heap.size+1,2,none⟩) (by show w.heap.size<=w.heap.size+1;omega) _)⟩
theorem y153(n:Int)(ks:List Tr)(hv:valid sigT (.mk 5 n ks)=true)(w:World)(A:Option Addr)(cap:Nat)(j8:Lies w (.mk 5 n ks) (.agg #[.int .i64 5,.int .i64 n,.slice A ks.length cap]))(hK:y23 w A ks)(hl:ks.length<=cap)(hc:cap<=maxLen)(hc0:(kd ks 0).kind=4):
 Calls Tryz.prog 112 #[.agg #[.int .i64 5,.int .i64 n,.slice A ks.length cap]] w (ConQ w (ctr 5 ks)):=by
 obtain⟨hsh,J2⟩:=y11 hv;have j7:opsT 5=(ks.length:Int):=(j11 hsh).1;have l8:ks.length=2:=by have h9:(2:Int)=(ks.length:Int):=j7;omega
 have hsk:=(j11 hsh).2.2.2;have bw: ∀t∈ks,valid sigT t=true:=fun t ht=> by
  have h1:=hsk t ht;have h2:=q16 ht;simp only[cnt] at J2;unfold valid;rw[j45 h1 (by decide),Bool.true_and,decide_eq_true_eq];omega
 have hcc:=hc;unfold maxLen at hcc;have P8:=hdq (fun W (hW:Ext w W)=> q31 (.mk 5 n ks) 30 hsh W _ (j8.ext hW));obtain⟨wb,F7⟩: ∃wb,wb=(w.alloc (.cells #[.int .i64 5,.int .i64 n,.slice A ks.length cap] 26)).alloc (.cells #[.int .i64 0,.int .i64 0,.slice none 0 0] 26):=⟨_,rfl⟩;have hX:Ext w wb:=F7▸((xr w).alloc _).alloc _;have hb0:wb.heap[w.heap.size]? =some (.cells #[.int .i64 5,.int .i64 n,.slice A ks.length cap] 26 (0,0)):=by rw[F7];exact(blk2 (xr _)).1
 have hb1:wb.heap[w.heap.size+1]? =some (.cells #[.int .i64 0,.int .i64 0,.slice none 0 0] 26 (0,0)):=by rw[F7];exact(blk2 (xr _)).2.1
 have hs0:w.heap.size+1 < wb.heap.size:=j10 hb1;have P7:0 < ks.length:=by omega
 have K5:(0:Int) <(ks.length:Int):=by omega
 obtain⟨b0,o0,k0,n0,A0,y9,j9,pu,ik,az,er,bf,wm,xh,U3,B9,G0⟩:=hK.get (xr w) P7;simp only[Nat.zero_mul,Nat.add_zero] at az er bf;have F6:kd ks 0= .mk k0 n0 j9:=y36 P7 ik.out;have J4:1 < ks.length:=by omega
 have W4:(1:Int) <(ks.length:Int):=by omega
 obtain⟨b1,o1,k1,n1,A1,D8,i7,ar,G4,c10,c11,c12,fy,fu,I9,y8,q9⟩:=hK.get (xr w) J4;simp only[Nat.one_mul,Nat.add_assoc,Nat.reduceAdd] at c10 c11 c12;have ah:kd ks 1= .mk k1 n1 i7:=y36 J4 G4.out;subst pu
 injection ar with ar
 injection ar with V9 hC1 hD1
 subst V9 hC1;rw[F6] at hc0;have hk4:k0=4:=hc0;subst hk4;have hv0:=bw _ G0;have Y2:opsT 4=(j9.length:Int):=(j11 (y11 hv0).1).1;have jy:j9.length=2:=by have h9:(2:Int)=(j9.length:Int):=Y2;omega
 have Q7:1 < j9.length:=by omega
 have Dn:(1:Int) <(j9.length:Int):=by omega
 obtain⟨b3,o3,k3,n3,A3,L5,u6,qy,kg,cg,c31,cn,wy,jo,hK3,R3,E6⟩:=U3.get (xr w) Q7;simp only[Nat.one_mul,Nat.add_assoc,Nat.reduceAdd] at cg c31 cn;have K8:kd j9 1= .mk k3 n3 u6:=y36 Q7 kg.out;subst qy;have N1:=bw _ q9;have hv3:valid sigT (.mk k3 n3 u6)=true:=by
  have h1:=(j11 (y11 hv0).1).2.2.2 _ E6;have h2:=q16 E6;have h3:=(y11 hv0).2;simp only[cnt] at h3;unfold valid;rw[j45 h1 (by decide),Bool.true_and,decide_eq_true_eq];omega
 have p9:ctr 5 ks=sbsT (.mk k1 n1 i7) (.mk k3 n3 u6) 0 0:=by rw[q66,F6,ah];exact congrArg (fun t=> sbsT (.mk k1 n1 i7) t 0 0) K8
 rw[p9];have R6:rdx 5 ks=1:=by unfold rdx;rw[F6];simp[Tr.kind]
 obtain⟨TT,z6⟩: ∃x,x=sbsT (.mk k1 n1 i7) (.mk k3 n3 u6) 0 0:=⟨_,rfl⟩;rw[<-z6];have N0:=hdq z6;clear z6 p9;have hrt:rdxT (.mk 5 n ks)=1:=R6;rw[hrt] at P8;clear hrt R6 l8 j7;clear jy;go_enter Tryz.func112,Tryz.ntmps112;go_wp2_with fail;rw[<-F7];clear F7;refine(P8.out _ hX).mono ?_;rintro e w1 ⟨rfl,h1⟩;have x7:=hX.trans h1;have G5:=h1.blk hb0;have z8:=h1.blk hb1;have hs1:w.heap.size+1 < w1.heap.size:=j10 z8;obtain⟨z0,z1,z2,-,-,-⟩:=own3 G5;clear hb0 hb1 P8 h1;have hbk:b0 < w.heap.size:=World.block_lt_of_cell? _ _ az;have hbk3:b3 < w.heap.size:=World.block_lt_of_cell? _ _ cg;have HC:=hdq (show∀w':World,(∀y,y < w1.heap.size->y≠w.heap.size+1->w'.heap[y]? =w1.heap[y]?)->w'.cell? ⟨w.heap.size,2,none⟩=some (.slice (some ⟨b0,o0,none⟩) ks.length cap)/\w'.cell? ⟨b0,o0+2,none⟩=some (.slice (some ⟨b3,o3,none⟩) j9.length y9)/\w'.cell? ⟨b3,o3+3,none⟩=some (.int .i64 k3)/\w'.cell? ⟨b3,o3+4,none⟩=some (.int .i64 n3)/\w'.cell? ⟨b3,o3+5,none⟩=some (.slice A3 u6.length L5)/\w'.cell? ⟨b0,o0+3,none⟩=some (.int .i64 k1)/\w'.cell? ⟨b0,o0+4,none⟩=some (.int .i64 n1)/\w'.cell? ⟨b0,o0+5,none⟩=some (.slice A1 i7.length D8) from fun w' h=> by
  have Y9: ∀q i v,q < w.heap.size+1->w1.cell? ⟨q,i,none⟩=some v->w'.cell? ⟨q,i,none⟩=some v:=fun q i v hq hv=>(World.cell?_of_block (a:=⟨q,i,none⟩) (h q (by omega) (by omega))).trans hv
  exact⟨Y9 _ _ _ (by omega) z2,Y9 _ _ _ (by omega) (x7.cell bf),Y9 _ _ _ (by omega) (x7.cell cg),Y9 _ _ _ (by omega) (x7.cell c31),Y9 _ _ _ (by omega) (x7.cell cn),Y9 _ _ _ (by omega) (x7.cell c10),Y9 _ _ _ (by omega) (x7.cell c11),Y9 _ _ _ (by omega) (x7.cell c12)⟩)
 have V7:Ext w1 w1.drew:=(xr w1).drew;have L3:=R3.ext x7;have L1:=y8.ext x7;clear ik G4 kg F6 ah K8 U3 I9 hK3 B9 y8 R3 G0 q9 E6 hK j8 Y2 az er bf c10 c11 c12 cg c31 cn z0 z1 z2 G5;go_wp2_with fail
 go_region_held3 (fun w'=> w'.cell? ⟨w.heap.size,2,none⟩=some (.slice (some ⟨b0,o0,none⟩) ks.length cap)/\w'.cell? ⟨b0,o0+2,none⟩=some (.slice (some ⟨b3,o3,none⟩) j9.length y9)/\w'.cell? ⟨b3,o3+3,none⟩=some (.int .i64 k3)/\w'.cell? ⟨b3,o3+4,none⟩=some (.int .i64 n3)/\w'.cell? ⟨b3,o3+5,none⟩=some (.slice A3 u6.length L5)/\w'.cell? ⟨b0,o0+3,none⟩=some (.int .i64 k1)/\w'.cell? ⟨b0,o0+4,none⟩=some (.int .i64 n1)/\w'.cell? ⟨b0,o0+5,none⟩=some (.slice A1 i7.length D8))
  (first|exact HC.out _ (fun y h1 h2=> by rw[Below.heap_setCell _ _ _ _ h2,Below.heap_setCell _ _ _ _ h2,Below.heap_setCell _ _ _ _ h2];exact(V7.trans xl).heap y h1) |exact HC.out _ (fun y h1 _=>(V7.trans xl).heap y h1) |exact HC.out _ (fun y h1 _=> V7.heap y h1))
  (first|(go_at_call 106;refine(q157 N0.out _ _ _ (L3.ext V7) hv3 (L1.ext V7) N1).mono ?_;rintro e w2 ⟨a1,a2,a3,a4,a5,rfl,hM,xl⟩;obtain⟨s0,s1,s2,f0,f1,f2⟩:=own3 ((V7.trans xl).blk z8)))
 have hE:=x7.trans (V7.trans xl);have Ho:w1.heap.size<=w1.drew.heap.size:=V7.size;clear HC z8;go_wp2_with fail;have hsz:=x7.size;refine bodyPost_ret (v:= .tuple #[.agg #[.int .i64 a1,.int .i64 a2,.slice a3 a4 a5],.bool (valid sigT TT)]) (by simp[results,Tryz.results112,go_sem,s0,s1,s2]) rfl ⟨_,rfl,Made.since (hM.after ((((q23.refl _ _).setCell (p:=⟨w.heap.size+1,0,none⟩) (by show w.heap.size+1 < _;omega) (.int .i64 a1)).setCell (p:=⟨w.heap.size+1,1,none⟩) (by show w.heap.size+1 < _;omega) (.int .i64 a2)).setCell (p:=⟨w.heap.size+1,2,none⟩) (by show w.heap.size+1 < _;omega) (.slice a3 a4 a5))) (by omega),(((hE.setCell (p:=⟨w.heap.size+1,0,none⟩) (by show w.heap.size<=w.heap.size+1;omega) _).setCell (p:=⟨w.heap.size+1,1,none⟩) (by show w.heap.size<=w.heap.size+1;omega) _).setCell (p:=⟨w.heap.size+1,2,none⟩) (by show w.heap.size<=w.heap.size+1;omega) _)⟩
end Go.Proofs.YtbnkbepgmenblaaGreatDoor
namespace Go.Proofs.YtbnkbepgmenblaaGreatDoor
open Go.RowKit
attribute [local go_sem ↓] Go.wp_at_zero Go.wp_at_succ
def EnvR(w:World):Prop:=EnvM w/\(∃v,w.cell? ⟨3,0,none⟩=some v/\(v= .nilIface\/ ∃t p,v= .iface t p))/\(∃v,w.cell? ⟨4,0,none⟩=some v/\(v= .nilIface\/ ∃t p,v= .iface t p))
theorem EnvR.ext{w w':World}(h:EnvR w)(he:Ext w w'):EnvR w':=by
 obtain⟨h1,⟨v,h2,h3⟩,u,h4,h5⟩:=h;exact⟨h1.ext he,⟨v,he.cell h2,h3⟩,u,he.cell h4,h5⟩
def sgS(j:Nat):UInt8:=(shpL.getD j []).headD 0
theorem sgS_pos: ∀j,j < 16->0 <(shpL.getD j []).length:=by decide
theorem sgS_get{j:Nat}(h:j < 16): ∃r,shpL.getD j []=sgS j::r:=by
 have h1:=sgS_pos j h;unfold sgS;cases hq:shpL.getD j [] with
 |nil=> rw[hq] at h1;simp at h1
 |cons a b=> exact⟨b,rfl⟩
theorem khd_hit{b:UInt8}{r:List UInt8}{j:Nat}(hj:j < 16)(hn: ∀i,i < j->sgS i≠b)(h:sgS j=b):khd (b::r)=(j:Int)+1:=by
 subst h;rcases(by omega:j=0\/j=1\/j=2\/j=3\/j=4\/j=5\/j=6\/j=7\/j=8\/j=9\/j=10\/j=11\/j=12\/j=13\/j=14\/j=15) with rfl|rfl|rfl|rfl|rfl|rfl|rfl|rfl|rfl|rfl|rfl|rfl|rfl|rfl|rfl|rfl <;> first|rfl|exact absurd rfl (hn 2 (by omega))
theorem y204{b:UInt8}{r:List UInt8}(hn: ∀i,i < 16->sgS i≠b):khd (b::r)= -1:=by
 simp only[khd];rw[if_neg (fun h=> hn 0 (by omega) h.symm),if_neg (fun h=> hn 1 (by omega) h.symm),if_neg (fun h=> hn 2 (by omega) h.symm),if_neg (fun h=> hn 3 (by omega) h.symm),if_neg (fun h=> hn 5 (by omega) h.symm),if_neg (fun h=> hn 6 (by omega) h.symm),if_neg (fun h=> hn 7 (by omega) h.symm),if_neg (fun h=> hn 8 (by omega) h.symm),if_neg (fun h=> hn 9 (by omega) h.symm),if_neg (fun h=> hn 10 (by omega) h.symm),if_neg (fun h=> hn 11 (by omega) h.symm),if_neg (fun h=> hn 13 (by omega) h.symm),if_neg (fun h=> hn 14 (by omega) h.symm),if_neg (fun h=> hn 15 (by omega) h.symm)]
theorem j158(w:World):Calls Tryz.prog 50 #[.string ⟨#[]⟩] w fun e w'=> e= .returned (.int .i64 (khd []))/\Ext w w':=by
 go_enter Tryz.func50,Tryz.ntmps50;go_wp2_with fail;go_ret;exact⟨rfl,xr w⟩
theorem j132(s:ByteArray)(b:UInt8)(r:List UInt8)(hs:s.data.toList=b::r)(w:World):Calls Tryz.prog 50 #[.string s] w fun e w'=> e= .returned (.int .i64 (khd (b::r)))/\Ext w w':=by
 have h0:0 < s.size:=by
  have:s.data.toList.length=s.size:=Array.length_toList;rw[hs,List.length_cons] at this;omega
 have hl:=q83 s h0;rw[hs] at hl;have hb:s[0]=b:=by simpa using hl.symm
 obtain⟨p,hp⟩: ∃p,b.toNat=p:=⟨_,rfl⟩;have HP:=hdq hp;have hs0:(s[0]'h0).toNat=p:=by rw[hb,hp]
 have hne:s.toList.isEmpty=false:=by rw[ByteArray.toList_eq,hs];rfl
 obtain⟨R,hR⟩: ∃R,khd (b::r)=R:=⟨_,rfl⟩;have HH:=hdq (fun(j:Nat) (hj:j < 16) hn (h:sgS j=b)=>(khd_hit (r:=r) hj hn h).symm.trans hR);have HM:=hdq (fun hn=>(y204 (b:=b) (r:=r) hn).symm.trans hR);rw[hR];clear hR hs hl hb hp;go_enter Tryz.func50,Tryz.ntmps50;go_wp2_with fail;refine(j40 w).mono ?_;rintro e w1 ⟨bs,rfl,cw,e1⟩;have HCL:=hdq cw;clear cw;go_wp2_with fail
 go_loopw [9] (fun i wr=> ∃(j:Nat),j<=16/\i= .int .i64 j/\Ext w1 wr/\Hid (∀i,i < j->sgS i≠b)) (fun i _=> 16 -(intOf i).toNat)
 case atStart=> exact⟨0,Nat.zero_le _,rfl,xr _,hdq (fun i hi=> by omega)⟩
 case round=>
  obtain⟨j,hj,rfl,hx,HN⟩:=hrel;by_cases hlt:j < 16
  · obtain⟨r1,hr1⟩:=sgS_get hlt
    have hc:=hx.cell (HCL.out j hlt);rw[hr1] at hc;have S9:(j:Int) < 16:=by omega
    have h1:0 <(ofL (sgS j::r1)).size:=by rw[j17,List.length_cons];omega
    have hb1:(ofL (sgS j::r1))[0]=sgS j:=rfl;obtain⟨S,hS⟩: ∃S,ofL (sgS j::r1)=S:=⟨_,rfl⟩;obtain⟨q,Ls⟩: ∃q,(sgS j).toNat=q:=⟨_,rfl⟩;have xu: ∃hh,S[0]'hh=sgS j:=by subst hS;exact⟨h1,rfl⟩
    obtain⟨hS1,Eg⟩:=xu;have hS3:(S[0]'hS1).toNat=q:=by rw[Eg,Ls]
    have HQ:=hdq Ls;have Hs:IntKind.i64.wrap ((j:Int)+1)=(j:Int)+1:=IntWalk.i64_in _ ⟨by omega,by omega⟩;rw[hS] at hc;clear hS hr1 hb1 h1 Ls Eg;by_cases hq:sgS j=b
    · have e1:q=p:=by rw[<-HQ.out,hq,HP.out]
      subst e1;have C3:R=(j:Int)+1:=(HH.out j hlt HN.out hq).symm;have hjc:IntKind.i64.wrap (1+(j:Int))=(j:Int)+1:=by rw[Int.add_comm];exact Hs
      clear hq;go_wp2_with fail
      go_quiet (fail)
      go_wp2_with fail;go_ret;exact⟨by rw[C3];rfl,(e1.trans hx).drewN _⟩
    · have e1:(((q:Nat):Int)==(p:Int))=false:=beq_eq_false_iff_ne.2 (fun h=> hq (by
       have h2:q=p:=by omega
       rw[<-HQ.out,<-HP.out] at h2;exact UInt8.toNat_inj.1 h2))
      have e2:(q==p)=false:=beq_eq_false_iff_ne.2 (fun h=> by rw[h] at e1;simp at e1);have HNQ:=hdq hq;clear hq;go_wp2_with fail
      go_quiet (fail)
      go_wp2_with fail
      go_roundw
      case rel=> exact⟨j+1,by omega,by go_num,hx.drewN _,hdq (fun i hi=> by
       rcases Nat.lt_or_ge i j with h|h
       · exact HN.out i h
       · obtain rfl:i=j:=by omega
         exact HNQ.out)⟩
      case measure=> simp[intOf];omega
  · have ib:j=16:=by omega
    subst ib;have C3:R= -1:=(HM.out HN.out).symm;go_wp2_with fail;go_ret;exact⟨by rw[C3];rfl,e1.trans hx⟩
theorem y85(p:UInt8->Bool): ∀(l:List UInt8) (i:Nat),i <(l.takeWhile p).length-> ∃c,l[i]? =some c/\p c=true
 | [],i,h=> by simp at h
 |b::l,i,h=> by
  rw[List.takeWhile_cons] at h;by_cases hb:p b=true
  · rw[if_pos hb] at h
    cases i with
    |zero=> exact⟨b,rfl,hb⟩
    |succ i=> simpa using y85 p l i (by simpa using h)
  · rw[if_neg hb] at h;simp at h
theorem q74(p:UInt8->Bool): ∀(l:List UInt8) (c:UInt8),l[(l.takeWhile p).length]? =some c->p c=false
 | [],c,h=> by simp at h
 |b::l,c,h=> by
  rw[List.takeWhile_cons] at h;by_cases hb:p b=true
  · rw[if_pos hb] at h
    exact q74 p l c (by simpa using h)
  · rw[if_neg hb] at h
    simp only[List.length_nil,List.getElem?_cons_zero,Option.some.injEq] at h;subst h
    simpa using hb
theorem j70(p:UInt8->Bool): ∀l:List UInt8,(l.takeWhile p).length<=l.length
 | []=> by simp
 |b::l=> by
  rw[List.takeWhile_cons]
  split
  · have:=j70 p l;simp;exact this
  · simp
theorem j65(p:UInt8->Bool): ∀l:List UInt8,l.take (l.takeWhile p).length=l.takeWhile p
 | []=> by simp
 |b::l=> by
  rw[List.takeWhile_cons]
  split
  · simp[j65 p l]
  · simp
theorem ext_to(l:List UInt8)(a:Nat):(ofL l).extract 0 a=ofL (l.take a):=by
 apply ByteArray.ext
 simp[ofL]
theorem y142(l:List UInt8)(a:Nat):(ofL l).extract a (ofL l).size=ofL (l.drop a):=by
 apply ByteArray.ext
 rw[j17];simp[ofL]
 exact List.take_of_length_le (by simp)
theorem rdN_ok{l:List UInt8}{v:Int}(h:Lib.atoiAll (dgs l)= .ok v):rdN l=(v,l.drop (dgs l).length):=by unfold rdN;rw[h]
theorem rdN_bad{l:List UInt8}(h: ∀v,Lib.atoiAll (dgs l)≠ .ok v):rdN l=(-1, []):=by
 unfold rdN;cases hq:Lib.atoiAll (dgs l) with
 |ok v=> exact absurd hq (h v)
 |_=> rfl
theorem y198(l:List UInt8)(hl:l.length<=1000000000)(w:World)(hW:EnvR w):Calls Tryz.prog 83 #[.string (ofL l)] w fun e w'=> ∃v x,e= .returned (.tuple #[.int .i64 v,x])/\Ext w w'/\((Lib.atoiAll l= .ok v/\x= .nilIface)\/((∀v,Lib.atoiAll l≠ .ok v)/\ ∃t p,x= .iface t p)):=by
 obtain⟨-,⟨e1,h1,h2⟩,e2,h3,h4⟩:=hW;cases hq:Lib.atoiAll l with
 |ok v=>
  refine(Tryz.strconv_Atoi_ok (ofL l) (by rw[j17];omega) v (by rw[y22];exact hq) w).mono ?_;rintro e w' ⟨rfl,h⟩;refine⟨v,_,rfl, ?_,.inl ⟨rfl,rfl⟩⟩;rcases h with rfl|⟨t,rfl⟩
  · exact xr _
  · exact Lib.bytesWorld_below _ _ _
 |range=>
  refine(Tryz.strconv_Atoi_range (ofL l) (by rw[j17];omega) (by rw[y22];exact hq) e2 w h3 h4).mono ?_;rintro e w' ⟨N,rfl,-,-,h⟩;exact⟨_,_,rfl,h,.inr ⟨fun v=> by simp,_,_,rfl⟩⟩
 |_=>
  refine(Any.strconv_Atoi_syntax Tryz.laysC172 (ofL l) (by rw[j17];omega) (by rw[y22];exact hq) e1 w h1 h2).mono ?_;rintro e w' ⟨N,rfl,-,-,h⟩;exact⟨_,_,rfl,h,.inr ⟨fun v=> by simp,_,_,rfl⟩⟩
theorem q98(l:List UInt8)(hl:l.length<=1000000000)(w:World)(hW:EnvR w):Calls Tryz.prog 51 #[.string (ofL l)] w fun e w'=> e= .returned (.tuple #[.int .i64 (rdN l).1,.string (ofL (rdN l).2)])/\Ext w w':=by
 obtain⟨D,hD⟩: ∃D,D=dgs l:=⟨_,rfl⟩;have hlen:D.length<=l.length:=by rw[hD];exact j70 _ l
 have HA:=hdq (fun i (hi:i < D.length)=> y85 q29 l i (by rw[hD] at hi;exact hi));have HZ:=hdq (fun c (hc:l[D.length]? =some c)=> q74 q29 l c (by rw[hD] at hc;exact hc));have HT:=hdq (show l.take D.length=D by rw[hD];exact j65 _ l);have nd:=hdq (fun v (h:Lib.atoiAll D= .ok v)=> rdN_ok (l:=l) (v:=v) (by rw[<-hD];exact h));have pq:=hdq (fun(h: ∀v,Lib.atoiAll D≠ .ok v)=> rdN_bad (l:=l) (by rw[<-hD];exact h));rw[<-hD] at nd;obtain⟨R,hR⟩: ∃R,rdN l=R:=⟨_,rfl⟩;rw[hR] at nd pq⊢;have sk:=hdq (fun(W:World) (h:Ext w W)=> y198 D (by omega) W (hW.ext h));obtain⟨s,hs⟩: ∃s,s=ofL l:=⟨_,rfl⟩;have hsz:s.size=l.length:=by rw[hs,j17]
 have HX:=hdq (fun a=> hs▸ext_to l a);have HY:=hdq (fun a=> hs▸y142 l a);have Jb:=hdq (fun a=>(show s.extract a l.length=ofL (l.drop a) from by have:=HY.out a;rw[hsz] at this;exact this));have HG:=hdq (fun(a:Nat) (h:a < s.size)=>(show l[a]? =some s[a] from by subst hs;have:=q83 (ofL l) h;rw[y22] at this;exact this));rw[<-hs];clear hs hD hR hW;obtain⟨n,hn⟩: ∃n,n=D.length:=⟨_,rfl⟩;rw[<-hn] at HA HZ HT nd hlen;have hn9:s.size<=1000000000:=by omega
 have hnl:n<=s.size:=by omega
 clear hn hl hlen;go_enter Tryz.func51,Tryz.ntmps51;go_wp2_with fail
 go_loopw [4] (fun i wr=> ∃(j:Nat),j<=n/\i= .int .i64 j/\wr=w) (fun i _=> n -(intOf i).toNat)
 case atStart=> exact⟨0,Nat.zero_le _,rfl,rfl⟩
 case round=>
  obtain⟨j,hj,rfl,rfl⟩:=hrel;by_cases hlt:j < n
  · obtain⟨c,h1,h2⟩:=HA.out j hlt
    have Gm:j < s.size:=by omega
    have yr:(j:Int) <(s.size:Int):=by omega
    have hc:s[j]=c:=by have:=HG.out j Gm;rw[h1] at this;exact(Option.some.inj this).symm
    obtain⟨g1,g2⟩:=j89 h2;obtain⟨m,hm⟩: ∃m,c.toNat=m:=⟨_,rfl⟩;rw[hm] at g1 g2;have t1:decide ((48:Int)<=(m:Int))=true:=decide_eq_true (by omega);have t2:decide ((m:Int)<=57)=true:=decide_eq_true (by omega);have qf:IntKind.i64.wrap ((j:Int)+1)=(j:Int)+1:=IntWalk.i64_in _ ⟨by omega,by omega⟩;clear h1 h2;go_wp2_with fail
    go_roundw
    case rel=> first|exact⟨j+1,by omega,by go_num,rfl⟩ |exact⟨j+1,by omega,by go_num,trivial⟩
    case measure=> simp[intOf];omega
  · obtain rfl:j=n:=by omega
    have hex:s.extract 0 j=ofL D:=by rw[HX.out,HT.out]
    rcases Nat.lt_or_ge j s.size with Gm|Gm
    · obtain⟨c,hc⟩: ∃c,s[j]=c:=⟨_,rfl⟩
      have iw:q29 c=false:=HZ.out c (by rw[HG.out j Gm,hc]);have yr:(j:Int) <(s.size:Int):=by omega
      obtain⟨m,hm⟩: ∃m,c.toNat=m:=⟨_,rfl⟩;have xw:m < 48\/57 < m:=by
       unfold q29 at iw;rw[Bool.and_eq_false_iff,decide_eq_false_iff_not,decide_eq_false_iff_not,UInt8.le_iff_toNat_le,UInt8.le_iff_toNat_le,hm] at iw;have h1:(48:UInt8).toNat=48:=rfl;have h2:(57:UInt8).toNat=57:=rfl;omega
      clear iw;rcases xw with xw|xw
      · have t1:decide ((48:Int)<=(m:Int))=false:=decide_eq_false (by omega)
        go_wp2_with fail;refine(sk.out _ (xr _)).mono ?_;rintro e w1 ⟨v,x,rfl,e1,O8⟩;rcases O8 with⟨F5,rfl⟩ |⟨W5,t,p,rfl⟩
        · have HR:=hdq (nd.out v F5)
          clear F5;go_wp2_with fail
          go_quiet (fail)
          go_wp2_with fail;go_ret2;exact⟨by rw[HR.out];show Ending.returned (.tuple #[.int .i64 v,.string (s.extract j l.length)])=_;rw[Jb.out j],e1.drewN _⟩
        · have HR:=hdq (pq.out W5)
          clear W5;go_wp2_with fail;go_ret2;exact⟨by rw[HR.out];rfl,e1⟩
      · have t1:decide ((48:Int)<=(m:Int))=true:=decide_eq_true (by omega)
        have t2:decide ((m:Int)<=57)=false:=decide_eq_false (by omega);go_wp2_with fail;refine(sk.out _ (xr _)).mono ?_;rintro e w1 ⟨v,x,rfl,e1,O8⟩;rcases O8 with⟨F5,rfl⟩ |⟨W5,t,p,rfl⟩
        · have HR:=hdq (nd.out v F5)
          clear F5;go_wp2_with fail
          go_quiet (fail)
          go_wp2_with fail;go_ret2;exact⟨by rw[HR.out];show Ending.returned (.tuple #[.int .i64 v,.string (s.extract j l.length)])=_;rw[Jb.out j],e1.drewN _⟩
        · have HR:=hdq (pq.out W5)
          clear W5;go_wp2_with fail;go_ret2;exact⟨by rw[HR.out];rfl,e1⟩
    · have yr: ¬((j:Int) <(s.size:Int)):=by omega
      go_wp2_with fail;refine(sk.out _ (xr _)).mono ?_;rintro e w1 ⟨v,x,rfl,e1,O8⟩;rcases O8 with⟨F5,rfl⟩ |⟨W5,t,p,rfl⟩
      · have HR:=hdq (nd.out v F5)
        clear F5;go_wp2_with fail
        go_quiet (fail)
        go_wp2_with fail;go_ret2;exact⟨by rw[HR.out];show Ending.returned (.tuple #[.int .i64 v,.string (s.extract j l.length)])=_;rw[Jb.out j],e1.drewN _⟩
      · have HR:=hdq (pq.out W5)
        clear W5;go_wp2_with fail;go_ret2;exact⟨by rw[HR.out];rfl,e1⟩
end Go.Proofs.YtbnkbepgmenblaaGreatDoor
