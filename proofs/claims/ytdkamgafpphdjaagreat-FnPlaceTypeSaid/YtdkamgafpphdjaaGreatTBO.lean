/-
  Lemmas towards the law, 41: InfB, MPlc.
-/
import Derived.Test.YtdkamgafpphdjaaGreatTBN
namespace Go.Proofs.YtdkamgafpphdjaaGreat
open Go.RowKit
set_option linter.unusedVariables false
attribute [local go_sem ↓] Go.wp_at_zero Go.wp_at_succ
def TyF(wC:World)(p1 p2:Nat)(A:Option Addr)(G:List Tr)(At:Option Addr)(ks:List Tr)(ty:Nat->An):Prop:=
 ∀(W:World) (N:Nat->Prop),Ext wC W->(∀b,W.heap.size<=b->N b)->InK W N A G->InK W N At ks-> ∀i:Nat,i < ks.length-> ∀r,ty i=some r->
  Calls Tryz.prog 127 #[.int .i64 i, .pointer (some ⟨p1,0,none⟩), .pointer (some ⟨p2,0,none⟩)] W (AnQ N W r)
structure JOk (wC w:World) (N:Nat->Prop) (p1 p2:Nat) (A:Option Addr) (G:List Tr) (At:Option Addr) (ks:List Tr) (ty:Nat->An):Prop where
 hT:TyF wC p1 p2 A G At ks ty
 hx:Ext wC w
 hN: ∀b,w.heap.size<=b->N b
 hG:InK w N A G
 hK:InK w N At ks
theorem JOk.ext{wC w w':World}{N:Nat->Prop}{p1 p2:Nat}{A:Option Addr}{G:List Tr}{At:Option Addr}{ks:List Tr}{ty:Nat->An}(h:JOk wC w N p1 p2 A G At ks ty)(e:Ext w w'):JOk wC w' N p1 p2 A G At ks ty:=
 ⟨h.hT,h.hx.trans e,fun b hb=> h.hN b (Nat.le_trans e.size hb),h.hG.later e,h.hK.later e⟩
theorem JOk.keep{wC w w':World}{N:Nat->Prop}{p1 p2:Nat}{A:Option Addr}{G:List Tr}{At:Option Addr}{ks:List Tr}{ty:Nat->An}(h:JOk wC w N p1 p2 A G At ks ty)(e:Ext w w'){g:Nat}(hg:w.heap.size<=g)(hg2:g < w'.heap.size):JOk wC w' (fun b=> N b/\b≠g) p1 p2 A G At ks ty:=
 ⟨h.hT,h.hx.trans e,newN h.hN e.size hg2,h.hG.keep e hg,h.hK.keep e hg⟩
theorem y218{x:An}{kind:Int}{r:Tr×Int}(h:frmV x kind=some r):(∃s,x=some (s,0)/\r=shpV s kind)\/ ∃s c,x=some (s,c)/\c≠0/\r=(j14,c):=by
 rcases j33 h with⟨s,h1,h2⟩ |h1
 · exact .inl ⟨s,h1,by simpa using h2.symm⟩
 · exact .inr h1
def chkI(x:An)(want:Tr):Option Int:=match x with
 |none=> none
 |some (s,c)=> if c=0 then some (cvtV s want) else some c
theorem q53{x y:An}{want:Tr}{r:Tr×Int}(h:chkV x want y=some r): ∃c,chkI x want=some c/\(c=0->y=some r)/\(c≠0->r=(j14,c)):=by
 rcases j33 h with⟨s,rfl,h2⟩ |⟨s,c,rfl,h2,h3⟩
 · refine⟨cvtV s want,(show(if(0:Int)=0 then some (cvtV s want) else some 0)=_ from if_pos rfl),fun h=> ?_,fun h=> ?_⟩
   · rw[if_pos h] at h2;exact h2
   · rw[if_neg h] at h2;simpa using h2.symm
 · exact⟨c,(show(if c=0 then some (cvtV s want) else some c)=_ from if_neg h2),fun h=> absurd h h2,fun _=> h3⟩
theorem j189{x:An}{want:Tr}{c:Int}(h:chkI x want=some c):(∃s,x=some (s,0)/\c=cvtV s want)\/ ∃s,x=some (s,c)/\c≠0:=by
 unfold chkI at h;cases x with
 |none=> cases h
 |some p=>
  obtain⟨s,c'⟩:=p;simp only at h
  split at h
  · rename_i h0
    subst h0;exact .inl ⟨s,rfl,by simpa using h.symm⟩
  · rename_i h0
    simp only[Option.some.injEq] at h;subst h;exact .inr ⟨s,rfl,h0⟩
def famI(x:An)(T:Tr):Option Int:=match frmV x 3 with
 |none=> none
 |some (s,c)=> if c=0 then(if cvtV (kd s.kids 0) T=0 then some (shpV (kd s.kids 1) 2).2 else some (cvtV (kd s.kids 0) T)) else some c
theorem y151{x y:An}{T:Tr}{r:Tr×Int}(h:famV x T y=some r): ∃c,famI x T=some c/\(c=0->y=some r)/\(c≠0->r=(j14,c)):=by
 unfold famI;rcases j33 h with⟨s,h1,h2⟩ |⟨s,c,h1,h2,h3⟩
 · rw[h1]
   simp only[if_true]
   split at h2
   · rename_i h0
     rw[if_pos h0];rcases j33 h2 with⟨s2,h3,h4⟩ |⟨s2,c2,h3,h4,h5⟩
     · have e:shpV (kd s.kids 1) 2=(s2,0):=by simpa using h3
       exact⟨0,by rw[e],fun _=> h4,fun h=> absurd rfl h⟩
     · have e:shpV (kd s.kids 1) 2=(s2,c2):=by simpa using h3
       exact⟨c2,by rw[e],fun h=> absurd h h4,fun _=> h5⟩
   · rename_i h0
     rw[if_neg h0];exact⟨_,rfl,fun h=> absurd h h0,fun _=> by simpa using h2.symm⟩
 · rw[h1]
   simp only;rw[if_neg h2];exact⟨c,rfl,fun h=> absurd h h2,fun _=> h3⟩
set_option maxRecDepth 100000 in
set_option maxHeartbeats 1000000 in
theorem y53{wC:World}{p1 p2:Nat}{A:Option Addr}{G:List Tr}{At:Option Addr}{ks:List Tr}{ty:Nat->An}(k n:Int)(ca ct:Nat)(hlt:ks.length<=ct)(hct:ct<=maxLen)(w0:World)(N:Nat->Prop)(hJ:JOk wC w0 N p1 p2 A G At ks ty)(i:Nat)(hi:i < ks.length)(kind:Int)(r:Tr×Int)(h:frmV (ty i) kind=some r):Calls Tryz.prog 170 #[.agg #[.slice A G.length ca, .int .i64 k, .int .i64 n, .slice At ks.length ct, .func (.func 127) #[] #[.pointer (some ⟨p1,0,none⟩), .pointer (some ⟨p2,0,none⟩)]], .int .i64 i, .int .i64 kind] w0 (AnQ N w0 r):=by
 have HI:=hdq hi;clear hi;rcases y218 h with⟨s,hs,rfl⟩ |⟨s,c,hs,hc,rfl⟩
 · have HS:=hdq hs
   clear hs h;have HSH:=hdq (fun W (M:Nat->Prop) (hM: ∀b,W.heap.size<=b->M b) v (hv:Lies W s v)=> j66 s kind W M hM v hv);generalize shpV s kind=q at HSH⊢;obtain⟨q,c⟩:=q;obtain⟨w1,hw1⟩: ∃x,x=((w0.alloc (.cells #[.slice A G.length ca, .int .i64 k, .int .i64 n, .slice At ks.length ct, .func (.func 127) #[] #[.pointer (some ⟨p1,0,none⟩), .pointer (some ⟨p2,0,none⟩)]] 119)).alloc (.cells #[.int .i64 0, .int .i64 0, .slice none 0 0] 25)):=⟨_,rfl⟩;obtain⟨bj_1,br_1,s1,e1⟩:=box2 hw1;have HJ:=hdq (hJ.keep e1 (g:=w0.heap.size+1) (Nat.le_succ _) (by omega));obtain⟨M,hM⟩: ∃M,M=(fun b=> N b/\b≠w0.heap.size+1):=⟨_,rfl⟩;rw[<-hM] at HJ;have HM:=hdq hM;clear hM hJ;go_enter Tryz.func170,Tryz.ntmps170;go_wp2_with fail;rw[<-hw1];clear hw1;refine((HJ.out.ext (xr w1)).hT w1 _ (HJ.out.ext (xr w1)).hx (HJ.out.ext (xr w1)).hN (HJ.out.ext (xr w1)).hG (HJ.out.ext (xr w1)).hK i HI.out _ HS.out).mono ?_;rintro e w2 ⟨u,rfl,hT,e2⟩;have s2:=e2.size;obtain⟨a1,b1,A1,l1,c1,rfl⟩:=hT.three;have T1:=hdq hT;clear hT;have bj_2:=e2.blk bj_1;obtain⟨zj0,zj1,zj2,zj3,zj4⟩:=own5 bj_2;have lj:=q10 bj_2;have br_2:=e2.blk br_1;obtain⟨zr0,zr1,zr2,yr0,yr1,yr2⟩:=own3 br_2;have lr:=q10 br_2;obtain⟨w3,hw3⟩: ∃x,x=w2.alloc (.cells #[.int .i64 a1, .int .i64 b1, .slice A1 l1 c1] 25):=⟨_,rfl⟩;have e3:Ext w2 w3:=hw3▸(xr w2).alloc _;have bx1_3:=heap_alloc_new w2 (.cells #[.int .i64 a1, .int .i64 b1, .slice A1 l1 c1] 25);rw[<-hw3] at bx1_3;have s3:w2.heap.size < w3.heap.size:=q10 bx1_3;go_wp2_with fail;rw[<-hw3];clear hw3;clear zj0 zj1 zj2 zj3 zj4 lj zr0 zr1 zr2 yr0 yr1 yr2 lr;have X1_2:=e2;have X1_3:=X1_2.trans e3;have X2_3:=e3;refine(HSH.out w3 M (HJ.out.ext X1_3).hN _ (T1.out.later X2_3).lies').mono ?_;rintro e w4 ⟨u,rfl,hT,e4⟩;have s4:=e4.size;obtain⟨a2,b2,A2,l2,c2,rfl⟩:=hT.three;have T2:=hdq hT;clear hT;have bj_3:=e3.blk bj_2;have bj_4:=e4.blk bj_3;obtain⟨zj0,zj1,zj2,zj3,zj4⟩:=own5 bj_4;have lj:=q10 bj_4;have br_3:=e3.blk br_2;have br_4:=e4.blk br_3;obtain⟨zr0,zr1,zr2,yr0,yr1,yr2⟩:=own3 br_4;have lr:=q10 br_4;have bx1_4:=e4.blk bx1_3;obtain⟨zx10,zx11,zx12,-⟩:=own3 bx1_4;have lx1:=q10 bx1_4;have X0_1:=e1;have X0_2:=X0_1.trans e2;have X0_3:=X0_2.trans e3;have X0_4:=X0_3.trans e4;go_wp2_with fail;refine bodyPost_ret (v:= .tuple #[.agg #[.int .i64 a2, .int .i64 b2, .slice A2 l2 c2], .int .i64 c]) (by simp[results,Tryz.results170,go_sem,zr0,zr1,zr2]) rfl ⟨_,rfl,InT.ret (HM.out▸(T2.out.later (xr w4))) _ _ _,(X0_4.set3 (by omega) _ _ _)⟩
 · have HS:=hdq hs
   clear hs h;have t1:(c !=0)=true:=by simp[hc]
   clear hc;obtain⟨w1,hw1⟩: ∃x,x=((w0.alloc (.cells #[.slice A G.length ca, .int .i64 k, .int .i64 n, .slice At ks.length ct, .func (.func 127) #[] #[.pointer (some ⟨p1,0,none⟩), .pointer (some ⟨p2,0,none⟩)]] 119)).alloc (.cells #[.int .i64 0, .int .i64 0, .slice none 0 0] 25)):=⟨_,rfl⟩;obtain⟨bj_1,br_1,s1,e1⟩:=box2 hw1;have HJ:=hdq (hJ.keep e1 (g:=w0.heap.size+1) (Nat.le_succ _) (by omega));obtain⟨M,hM⟩: ∃M,M=(fun b=> N b/\b≠w0.heap.size+1):=⟨_,rfl⟩;rw[<-hM] at HJ;have HM:=hdq hM;clear hM hJ;go_enter Tryz.func170,Tryz.ntmps170;go_wp2_with fail;rw[<-hw1];clear hw1;refine((HJ.out.ext (xr w1)).hT w1 _ (HJ.out.ext (xr w1)).hx (HJ.out.ext (xr w1)).hN (HJ.out.ext (xr w1)).hG (HJ.out.ext (xr w1)).hK i HI.out _ HS.out).mono ?_;rintro e w2 ⟨u,rfl,hT,e2⟩;have s2:=e2.size;obtain⟨a1,b1,A1,l1,c1,rfl⟩:=hT.three;have T1:=hdq hT;clear hT;have bj_2:=e2.blk bj_1;obtain⟨zj0,zj1,zj2,zj3,zj4⟩:=own5 bj_2;have lj:=q10 bj_2;have br_2:=e2.blk br_1;obtain⟨zr0,zr1,zr2,yr0,yr1,yr2⟩:=own3 br_2;have lr:=q10 br_2;clear lr;have eq2:Ext w2 (w2.alloc (.cells #[.int .i64 a1, .int .i64 b1, .slice A1 l1 c1] 25)):=(xr w2).alloc _;have X0_1:=e1;have X0_2:=X0_1.trans e2;obtain⟨pr0,pr1,pr2,or0,or1,or2⟩:=own3 (eq2.blk br_2);go_wp2_with fail;refine bodyPost_ret (v:= .tuple #[.agg #[.int .i64 0, .int .i64 0, .slice none 0 0], .int .i64 c]) (by simp[results,Tryz.results170,go_sem,pr0,pr1,pr2]) rfl ⟨_,rfl,y21 _ _ 0 0,((X0_2.trans eq2).set3 (by omega) _ _ _)⟩
set_option maxRecDepth 100000 in
set_option maxHeartbeats 1000000 in
theorem y32{wC:World}{p1 p2:Nat}{A:Option Addr}{G:List Tr}{At:Option Addr}{ks:List Tr}{ty:Nat->An}(k n:Int)(ca ct:Nat)(hlt:ks.length<=ct)(hct:ct<=maxLen)(w0:World)(N:Nat->Prop)(hJ:JOk wC w0 N p1 p2 A G At ks ty)(i:Nat)(hi:i < ks.length)(r:Tr×Int)(h:frmV (ty i) 2=some r):Calls Tryz.prog 194 #[.agg #[.slice A G.length ca, .int .i64 k, .int .i64 n, .slice At ks.length ct, .func (.func 127) #[] #[.pointer (some ⟨p1,0,none⟩), .pointer (some ⟨p2,0,none⟩)]], .int .i64 i] w0 fun e w'=> e= .returned (.tuple #[.int .i64 r.1.num, .int .i64 r.2])/\Ext w0 w':=by
 have HH:=hdq h;have HI:=hdq hi;clear h hi;obtain⟨⟨k7,n7,ks7⟩,c⟩:=r;obtain⟨w1,hw1⟩: ∃x,x=(w0.alloc (.cells #[.slice A G.length ca, .int .i64 k, .int .i64 n, .slice At ks.length ct, .func (.func 127) #[] #[.pointer (some ⟨p1,0,none⟩), .pointer (some ⟨p2,0,none⟩)]] 119)):=⟨_,rfl⟩;obtain⟨bj_1,s1,e1⟩:=box1 hw1;have HJ:=hdq (hJ.ext e1);obtain⟨M,hM⟩: ∃M,M=N:=⟨_,rfl⟩;rw[<-hM] at HJ;have HM:=hdq hM;clear hM hJ;go_enter Tryz.func194,Tryz.ntmps194;go_wp2_with fail;rw[<-hw1];clear hw1;refine(y53 k n ca ct hlt hct w1 M HJ.out i HI.out 2 _ HH.out).mono ?_;rintro e w2 ⟨u,rfl,hT,e2⟩;have s2:=e2.size;obtain⟨A1,c1,rfl,hl1,hc1,hK1⟩:=InT.mk_iff.1 hT;clear hT hK1;have X0_1:=e1;have X0_2:=X0_1.trans e2;go_wp2_with fail;go_ret2;exact⟨rfl,X0_2.alloc _⟩
set_option maxRecDepth 100000 in
set_option maxHeartbeats 1000000 in
theorem y66{wC:World}{p1 p2:Nat}{A:Option Addr}{G:List Tr}{At:Option Addr}{ks:List Tr}{ty:Nat->An}(k n:Int)(ca ct:Nat)(hlt:ks.length<=ct)(hct:ct<=maxLen)(w0:World)(N:Nat->Prop)(hJ:JOk wC w0 N p1 p2 A G At ks ty)(i:Nat)(hi:i < ks.length)(want:Tr)(vw:Value)(hw:InT w0 N want vw)(c:Int)(h:chkI (ty i) want=some c):Calls Tryz.prog 167 #[.agg #[.slice A G.length ca, .int .i64 k, .int .i64 n, .slice At ks.length ct, .func (.func 127) #[] #[.pointer (some ⟨p1,0,none⟩), .pointer (some ⟨p2,0,none⟩)]], .int .i64 i,vw] w0 fun e w'=> e= .returned (.int .i64 c)/\Ext w0 w':=by
 have HI:=hdq hi;clear hi;obtain⟨k8,n8,ks8⟩:=want;obtain⟨A8,c8,rfl,hl8,hc8,hK8⟩:=InT.mk_iff.1 hw;have HW:=hdq hw;clear hw;rcases j189 h with⟨s,hs,rfl⟩ |⟨s,hs,hc⟩
 · have HS:=hdq hs
   clear hs h;obtain⟨w1,hw1⟩: ∃x,x=((w0.alloc (.cells #[.slice A G.length ca, .int .i64 k, .int .i64 n, .slice At ks.length ct, .func (.func 127) #[] #[.pointer (some ⟨p1,0,none⟩), .pointer (some ⟨p2,0,none⟩)]] 119)).alloc (.cells #[.int .i64 k8, .int .i64 n8, .slice A8 ks8.length c8] 25)):=⟨_,rfl⟩;obtain⟨bj_1,bw_1,s1,e1⟩:=box2 hw1;have HJ:=hdq (hJ.ext e1);obtain⟨M,hM⟩: ∃M,M=N:=⟨_,rfl⟩;rw[<-hM] at HJ;have HM:=hdq hM;clear hM hJ;go_enter Tryz.func167,Tryz.ntmps167;go_wp2_with fail;rw[<-hw1];clear hw1;refine((HJ.out.ext (xr w1)).hT w1 _ (HJ.out.ext (xr w1)).hx (HJ.out.ext (xr w1)).hN (HJ.out.ext (xr w1)).hG (HJ.out.ext (xr w1)).hK i HI.out _ HS.out).mono ?_;rintro e w2 ⟨u,rfl,hT,e2⟩;have s2:=e2.size;obtain⟨a1,b1,A1,l1,c1,rfl⟩:=hT.three;have T1:=hdq hT;clear hT;have bj_2:=e2.blk bj_1;obtain⟨zj0,zj1,zj2,zj3,zj4⟩:=own5 bj_2;have lj:=q10 bj_2;have bw_2:=e2.blk bw_1;obtain⟨zw0,zw1,zw2,-⟩:=own3 bw_2;have lw:=q10 bw_2;obtain⟨w3,hw3⟩: ∃x,x=w2.alloc (.cells #[.int .i64 a1, .int .i64 b1, .slice A1 l1 c1] 25):=⟨_,rfl⟩;have e3:Ext w2 w3:=hw3▸(xr w2).alloc _;have bx1_3:=heap_alloc_new w2 (.cells #[.int .i64 a1, .int .i64 b1, .slice A1 l1 c1] 25);rw[<-hw3] at bx1_3;have s3:w2.heap.size < w3.heap.size:=q10 bx1_3;go_wp2_with fail;rw[<-hw3];clear hw3;clear zj0 zj1 zj2 zj3 zj4 lj zw0 zw1 zw2 lw;have X0_1:=e1;have X0_2:=X0_1.trans e2;have X0_3:=X0_2.trans e3;have X2_3:=e3;refine(q91 s (.mk k8 n8 ks8) w3 _ _ (T1.out.later X2_3).lies' (HW.out.lies'.ext X0_3)).mono ?_;rintro e w4 ⟨rfl,e4⟩;have s4:=e4.size;have X0_4:=X0_3.trans e4;go_wp2_with fail;go_ret;exact⟨rfl,X0_4⟩
 · have HS:=hdq hs
   clear hs h;have t1:(c !=0)=true:=by simp[hc]
   clear hc;obtain⟨w1,hw1⟩: ∃x,x=((w0.alloc (.cells #[.slice A G.length ca, .int .i64 k, .int .i64 n, .slice At ks.length ct, .func (.func 127) #[] #[.pointer (some ⟨p1,0,none⟩), .pointer (some ⟨p2,0,none⟩)]] 119)).alloc (.cells #[.int .i64 k8, .int .i64 n8, .slice A8 ks8.length c8] 25)):=⟨_,rfl⟩;obtain⟨bj_1,bw_1,s1,e1⟩:=box2 hw1;have HJ:=hdq (hJ.ext e1);obtain⟨M,hM⟩: ∃M,M=N:=⟨_,rfl⟩;rw[<-hM] at HJ;have HM:=hdq hM;clear hM hJ;go_enter Tryz.func167,Tryz.ntmps167;go_wp2_with fail;rw[<-hw1];clear hw1;refine((HJ.out.ext (xr w1)).hT w1 _ (HJ.out.ext (xr w1)).hx (HJ.out.ext (xr w1)).hN (HJ.out.ext (xr w1)).hG (HJ.out.ext (xr w1)).hK i HI.out _ HS.out).mono ?_;rintro e w2 ⟨u,rfl,hT,e2⟩;have s2:=e2.size;obtain⟨a1,b1,A1,l1,c1,rfl⟩:=hT.three;have T1:=hdq hT;clear hT;have bj_2:=e2.blk bj_1;obtain⟨zj0,zj1,zj2,zj3,zj4⟩:=own5 bj_2;have lj:=q10 bj_2;have bw_2:=e2.blk bw_1;obtain⟨zw0,zw1,zw2,-⟩:=own3 bw_2;have lw:=q10 bw_2;have X0_1:=e1;have X0_2:=X0_1.trans e2;go_wp2_with fail;go_ret;exact⟨rfl,X0_2.alloc _⟩
set_option maxRecDepth 100000 in
set_option maxHeartbeats 1000000 in
theorem j65{wC:World}{p1 p2:Nat}{A:Option Addr}{G:List Tr}{At:Option Addr}{ks:List Tr}{ty:Nat->An}(k n:Int)(ca ct:Nat)(hlt:ks.length<=ct)(hct:ct<=maxLen)(w0:World)(N:Nat->Prop)(hJ:JOk wC w0 N p1 p2 A G At ks ty)(i:Nat)(hi:i < ks.length)(want:Tr)(vw:Value)(hw:InT w0 N want vw)(c d:Int)(h:c=0->chkI (ty i) want=some d)(h':c≠0->d=c):Calls Tryz.prog 171 #[.agg #[.slice A G.length ca, .int .i64 k, .int .i64 n, .slice At ks.length ct, .func (.func 127) #[] #[.pointer (some ⟨p1,0,none⟩), .pointer (some ⟨p2,0,none⟩)]], .int .i64 i,vw, .int .i64 c] w0 fun e w'=> e= .returned (.int .i64 d)/\Ext w0 w':=by
 have HI:=hdq hi;clear hi;obtain⟨k8,n8,ks8⟩:=want;obtain⟨A8,c8,rfl,hl8,hc8,hK8⟩:=InT.mk_iff.1 hw;have HW:=hdq hw;clear hw;by_cases hc:c=0
 · have HS:=hdq (h hc)
   clear h h';subst hc;obtain⟨w1,hw1⟩: ∃x,x=((w0.alloc (.cells #[.slice A G.length ca, .int .i64 k, .int .i64 n, .slice At ks.length ct, .func (.func 127) #[] #[.pointer (some ⟨p1,0,none⟩), .pointer (some ⟨p2,0,none⟩)]] 119)).alloc (.cells #[.int .i64 k8, .int .i64 n8, .slice A8 ks8.length c8] 25)):=⟨_,rfl⟩;obtain⟨bj_1,bw_1,s1,e1⟩:=box2 hw1;have HJ:=hdq (hJ.ext e1);obtain⟨M,hM⟩: ∃M,M=N:=⟨_,rfl⟩;rw[<-hM] at HJ;have HM:=hdq hM;clear hM hJ;go_enter Tryz.func171,Tryz.ntmps171;go_wp2_with fail;rw[<-hw1];clear hw1;have X0_1:=e1;refine(y66 k n ca ct hlt hct w1 M (HJ.out.ext (xr w1)) i HI.out (.mk k8 n8 ks8) _ (HM.out▸HW.out.later X0_1) d HS.out).mono ?_;rintro e w2 ⟨rfl,e2⟩;have s2:=e2.size;have X0_2:=X0_1.trans e2;go_wp2_with fail;go_ret;exact⟨rfl,X0_2⟩
 · obtain rfl:=h' hc
   have t1:(d !=0)=true:=by simp[hc]
   clear h h' hc;go_enter Tryz.func171,Tryz.ntmps171;go_wp2_with fail;go_ret;exact⟨rfl,((xr _).alloc _).alloc _⟩
end Go.Proofs.YtdkamgafpphdjaaGreat
namespace Go.Proofs.YtdkamgafpphdjaaGreat
open Go.RowKit
set_option linter.unusedVariables false
open M (Hd HR Cv Ty Lim WfL TyB Lev)
theorem y141{G:List M.Tm}{A S:M.Tm}{i:Nat}(hG:q27 G)(h:Ty G A S)(r:HR S (.sort i))(l:Lim G A):TyB G A:=
 ⟨l,i,M.lev_le (Lim.type h hG.wf l) r,S,h,r⟩
theorem y169{G:List M.Tm}{a A:M.Tm}(hG:q27 G)(h:Ty G a A)(l:Lim G a)(v:valid sigT (enc a)=true){i:Nat}(hi:i <(enc a).kids.length):
 ∃D y B,ctxE D=ctxE G++(if 0 < und (enc a).kind i then [kd (enc a).kids 0] else [])/\q27 D/\kd (enc a).kids i=enc y/\Ty D y B/\Lim D y:=by
 have here: ∀y B,kd (enc a).kids i=enc y->Ty G y B->Lim G y->und (enc a).kind i=0-> ∃D y B,ctxE D=ctxE G++(if 0 < und (enc a).kind i then [kd (enc a).kids 0] else [])/\q27 D/\kd (enc a).kids i=enc y/\Ty D y B/\Lim D y:=fun y B h1 h2 h3 h4=>⟨G,y,B,by rw[if_neg (by omega)];simp,hG,h1,h2,h3⟩
 have more: ∀X y B,kd (enc a).kids 0=enc X->TyB G X->kd (enc a).kids i=enc y->Ty (X::G) y B->Lim (X::G) y->und (enc a).kind i=1-> ∃D y B,ctxE D=ctxE G++(if 0 < und (enc a).kind i then [kd (enc a).kids 0] else [])/\q27 D/\kd (enc a).kids i=enc y/\Ty D y B/\Lim D y:=fun X y B h0 hX h1 h2 h3 h4=>⟨X::G,y,B,by rw[if_pos (by omega),y29,h0],hG.cons hX (by rw[<-h0];exact y35 v (by omega)),h1,h2,h3⟩
 cases h with
 |var h=> simp[enc,Tr.kids] at hi
 |sort=> simp[enc,Tr.kids] at hi
 |nat=> simp[enc,Tr.kids] at hi
 |zero=> simp[enc,Tr.kids] at hi
 |succ h1 h2=>
  match i,hi with
  |0,_=> exact here _ _ rfl h1 l (by simp[und])
  |i+1,hi=> simp[enc,Tr.kids] at hi
 |pi h1 h2 h3 h4=>
  match i,hi with
  |0,_=> exact here _ _ rfl h1 l.1 (by simp[und])
  |1,_=> exact more _ _ _ rfl (y141 hG h1 h2 l.1) rfl h3 l.2 (by simp[und,enc,Tr.kind])
  |i+2,hi=> simp[enc,Tr.kids] at hi;omega
 |sg h1 h2 h3 h4=>
  match i,hi with
  |0,_=> exact here _ _ rfl h1 l.1 (by simp[und])
  |1,_=> exact more _ _ _ rfl (y141 hG h1 h2 l.1) rfl h3 l.2 (by simp[und,enc,Tr.kind])
  |i+2,hi=> simp[enc,Tr.kids] at hi;omega
 |lam h1 h2 h3=>
  match i,hi with
  |0,_=> exact here _ _ rfl h1 l.1 (by simp[und])
  |1,_=> exact more _ _ _ rfl (y141 hG h1 h2 l.1) rfl h3 l.2.1 (by simp[und,enc,Tr.kind])
  |i+2,hi=> simp[enc,Tr.kids] at hi;omega
 |app h1 h2 h3 h4=>
  match i,hi with
  |0,_=> exact here _ _ rfl h1 l.1 (by simp[und])
  |1,_=> exact here _ _ rfl h3 l.2 (by simp[und,enc,Tr.kind])
  |i+2,hi=> simp[enc,Tr.kids] at hi;omega
 |elim h1 h2 h3 h4 h5 h6 h7 h8 h9 h10=>
  match i,hi with
  |0,_=> exact here _ _ rfl h1 l.1 (by simp[und])
  |1,_=> exact here _ _ rfl h5 l.2.1 (by simp[und,enc,Tr.kind])
  |2,_=> exact here _ _ rfl h7 l.2.2.1 (by simp[und])
  |3,_=> exact here _ _ rfl h9 l.2.2.2 (by simp[und])
  |i+4,hi=> simp[enc,Tr.kids] at hi;omega
 |id h1 h2 h3 h4 h5 h6=>
  match i,hi with
  |0,_=> exact here _ _ rfl h1 l.1 (by simp[und])
  |1,_=> exact here _ _ rfl h3 l.2.1 (by simp[und,enc,Tr.kind])
  |2,_=> exact here _ _ rfl h5 l.2.2 (by simp[und])
  |i+3,hi=> simp[enc,Tr.kids] at hi;omega
 |refl h1=>
  match i,hi with
  |0,_=> exact here _ _ rfl h1 l.1 (by simp[und])
  |i+1,hi=> simp[enc,Tr.kids] at hi
 |move h1 h2 h3 h4 h5 h6 h7 h8=>
  match i,hi with
  |0,_=> exact here _ _ rfl h3 l.1 (by simp[und])
  |1,_=> exact here _ _ rfl h1 l.2.1 (by simp[und,enc,Tr.kind])
  |2,_=> exact here _ _ rfl h7 l.2.2 (by simp[und])
  |i+3,hi=> simp[enc,Tr.kids] at hi;omega
 |pair h1 h2 h3 h4 h5 h6 h7=>
  match i,hi with
  |0,_=> exact here _ _ rfl h1 l.1 (by simp[und])
  |1,_=> exact here _ _ rfl h4 l.2.1 (by simp[und,enc,Tr.kind])
  |2,_=> exact here _ _ rfl h6 l.2.2 (by simp[und])
  |i+3,hi=> simp[enc,Tr.kids] at hi;omega
 |fst h1 h2=>
  match i,hi with
  |0,_=> exact here _ _ rfl h1 l (by simp[und])
  |i+1,hi=> simp[enc,Tr.kids] at hi
 |snd h1 h2=>
  match i,hi with
  |0,_=> exact here _ _ rfl h1 l (by simp[und])
  |i+1,hi=> simp[enc,Tr.kids] at hi
theorem q112: ∀(p:List Int) (x:Tr) (G:List M.Tm) (a A:M.Tm),q27 G->valid sigT (enc a)=true->Ty G a A->Lim G a->atT (enc a) p=some x-> ∃D y B,ctxE D=ctxE G++bndT (enc a) p/\q27 D/\x=enc y/\valid sigT x=true/\Ty D y B/\Lim D y
 | [],x,G,a,A,hG,v,h,l,e=> by
  have e1:enc a=x:=by
   generalize enc a=t at e;cases t
   simpa[atT] using e
  subst e1;refine⟨G,a,A, ?_,hG,rfl,v,h,l⟩;generalize enc a=t;cases t
  simp[bndT]
 |i::r,x,G,a,A,hG,v,h,l,e=> by
  obtain⟨k,n,ks,hk⟩: ∃k n ks,enc a= .mk k n ks:=by
   generalize enc a=t;cases t
   exact⟨_,_,_,rfl⟩
  rw[hk,atT] at e
  split at e
  · rename_i hi
    have hlen:i.toNat <(enc a).kids.length:=by rw[hk];show i.toNat < ks.length;omega
    obtain⟨D,y,B,h1,h2,h3,h4,h5⟩:=y169 hG h l v hlen;rw[hk] at h1 h3;simp only[Tr.kids,Tr.kind] at h1 h3;have v2:valid sigT (enc y)=true:=by rw[<-h3];rw[hk] at v;exact y35 (t:= .mk k n ks) v (by rw[hk] at hlen;exact hlen)
    rw[h3] at e;obtain⟨D',y',B',q1,q2⟩:=q112 r x D y B h2 v2 h4 h5 e;refine⟨D',y',B', ?_,q2⟩;rw[q1,h1,hk,bndT,if_pos hi,h3,List.append_assoc]
    congr 2
  · cases e
end Go.Proofs.YtdkamgafpphdjaaGreat
