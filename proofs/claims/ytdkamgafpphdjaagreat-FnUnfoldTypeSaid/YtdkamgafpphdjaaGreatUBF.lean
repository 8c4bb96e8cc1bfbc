/-
  Lemmas towards the law, 32: Unf2, DrawD.
-/
import Derived.Test.YtdkamgafpphdjaaGreatUBC
import Derived.Test.YtdkamgafpphdjaaGreatUBD
set_option maxHeartbeats 2000000
set_option maxRecDepth 100000
namespace Go.Proofs.YtdkamgafpphdjaaGreat
open Go.RowKit
set_option linter.unusedVariables false
attribute [local go_sem ↓] Go.wp_at_zero Go.wp_at_succ
attribute [local go_sem] ldO
theorem j147(ks:List Tr)(n cap:Nat)(w:World)(A:Option Addr)(t:Tr)(v:Value)(h:y16 w A ks)(hn:ks.length=n*2)(hl:n<=cap)(hc:cap<=maxLen)(hin:Lies w t v):
 Calls Tryz.prog 77 #[.slice A n cap,v] w fun e w'=> e= .returned (.bool (dfV ks n &&(valid sigT t && decide (mxf t 0<=(n:Int)))))/\Ext w w':=by
 have hcc:=hc;unfold maxLen at hcc;have H1:=hdq (fun W (hW:Ext w W)=> q48 ks n cap W A (h.ext hW) hn hl hc);have H2:=hdq (fun W (hW:Ext w W)=> q17 t W v (hin.ext hW));have H3:=fun(hv:valid sigT t=true) W (hW:Ext w W)=> q65 t W v (hin.ext hW) hv
 generalize mxf t 0=x at H3⊢;generalize dfV ks n=b1 at H1⊢;generalize valid sigT t=b2 at H2 H3⊢;obtain⟨b3,d3⟩: ∃b,decide (x<=(n:Int))=b:=⟨_,rfl⟩;rw[d3];obtain⟨k,m,ts⟩:=t;obtain⟨At,ct,rfl,-,-,-⟩:=Lies.mk_iff.1 hin;have hE:=(xr w).alloc (.cells #[.int .i64 k,.int .i64 m,.slice At ts.length ct] 25);have hb:=heap_alloc_new w (.cells #[.int .i64 k,.int .i64 m,.slice At ts.length ct] 25);go_enter Tryz.func77,Tryz.ntmps77;go_wp2_with fail;refine(H1.out _ hE).mono ?_;rintro e w1 ⟨rfl,e1⟩;obtain⟨x0,x1,x2,-,-,-⟩:=own3 (e1.blk hb);cases b1 with
 |false=>
  go_wp2_with fail;go_ret;exact⟨rfl,hE.trans e1⟩
 |true=>
  go_wp2_with fail;refine(H2.out _ (hE.trans e1)).mono ?_;rintro e w2 ⟨rfl,e2⟩;clear x0 x1 x2;obtain⟨x0,x1,x2,-,-,-⟩:=own3 ((e1.trans e2).blk hb);cases b2 with
  |false=>
   go_wp2_with fail;go_ret;exact⟨rfl,(hE.trans e1).trans e2⟩
  |true=>
   have H3':=hdq (H3 rfl);clear H3;go_wp2_with fail;refine(H3'.out _ ((hE.trans e1).trans e2)).mono ?_;rintro e w3 ⟨rfl,e3⟩;cases b3 with
   |false=>
    go_wp2_with fail;go_ret;exact⟨rfl,((hE.trans e1).trans e2).trans e3⟩
   |true=>
    go_wp2_with fail;go_ret;exact⟨rfl,((hE.trans e1).trans e2).trans e3⟩
theorem q151{ks:List Tr}{n:Nat}{t:Tr}(h:(dfV ks n &&(valid sigT t && decide (mxf t 0<=(n:Int))))=true):unfV ks n t=unfD ks n t:=if_pos h
theorem j154{ks:List Tr}{n:Nat}{t:Tr}(h:(dfV ks n &&(valid sigT t && decide (mxf t 0<=(n:Int))))=false):unfV ks n t=(y13,false):=if_neg (by rw[h];decide)
theorem q103(ks:List Tr)(n cap:Nat)(w:World)(A:Option Addr)(t:Tr)(v:Value)(h:y16 w A ks)(hn:ks.length=n*2)(hl:n<=cap)(hc:cap<=maxLen)(hin:Lies w t v):
 Calls Tryz.prog 25 #[.slice A n cap,v] w fun e w'=> ∃u,e= .returned (.tuple #[u,.bool (unfV ks n t).2])/\Made w w' 25 (unfV ks n t).1 u/\Ext w w':=by
 have hcc:=hc;unfold maxLen at hcc;have H1:=hdq (fun W (hW:Ext w W)=> j147 ks n cap W A t v (h.ext hW) hn hl hc (hin.ext hW));have H2:(dfV ks n &&(valid sigT t && decide (mxf t 0<=(n:Int))))=true-> ∀W,Ext w W->Calls Tryz.prog 78 #[.slice A n cap,v] W fun e w'=> ∃u,e= .returned (.tuple #[u,.bool (unfV ks n t).2])/\Made W w' 25 (unfV ks n t).1 u/\Ext W w':=fun hh W hW=> by
  rw[q151 hh];simp only[Bool.and_eq_true] at hh;unfold dfV at hh;rw[Bool.and_eq_true] at hh;exact j84 ks n cap W A t v (h.ext hW) hn hl hc (fun t ht=>(j30 hh.1.1 hn t ht).1) (hin.ext hW) hh.2.1
 have H3:=j154 (ks:=ks) (n:=n) (t:=t);generalize (dfV ks n &&(valid sigT t && decide (mxf t 0<=(n:Int))))=b at H1 H2 H3;generalize unfV ks n t=R at H2 H3⊢;obtain⟨rt,rb⟩:=R;simp only[Prod.mk.injEq] at H2 H3⊢;obtain⟨k,m,ts⟩:=t;obtain⟨At,ct,rfl,-,-,-⟩:=Lies.mk_iff.1 hin;have hE:=((xr w).alloc (.cells #[.int .i64 k,.int .i64 m,.slice At ts.length ct] 25)).alloc (.cells #[.int .i64 0,.int .i64 0,.slice none 0 0] 25);obtain⟨hbT,hbR,hs1⟩:=blk2 (xr ((w.alloc (.cells #[.int .i64 k,.int .i64 m,.slice At ts.length ct] 25)).alloc (.cells #[.int .i64 0,.int .i64 0,.slice none 0 0] 25)));cases b with
 |false=>
  obtain⟨z1,z2⟩:=H3 rfl;subst z1;subst z2;clear H2 H3;go_enter Tryz.func25,Tryz.ntmps25;go_wp2_with fail;refine(H1.out _ hE).mono ?_;rintro e w1 ⟨rfl,e1⟩;obtain⟨s0,s1,s2,f0,f1,f2⟩:=own3 (e1.blk hbR);go_wp2_with fail;refine bodyPost_ret (v:= .tuple #[.agg #[.int .i64 0,.int .i64 0,.slice none 0 0],.bool false]) (by simp[results,Tryz.results25,go_sem,s0,s1,s2]) rfl ⟨_,rfl,Made.leaf _ _ _ _ _, ?_⟩;exact((((hE.trans e1).setCell (by simp) _).setCell (by simp) _).setCell (by simp) _)
 |true=>
  have H2':=hdq (H2 rfl);clear H2 H3;go_enter Tryz.func25,Tryz.ntmps25;go_wp2_with fail;refine(H1.out _ hE).mono ?_;rintro e w1 ⟨rfl,e1⟩;obtain⟨x0,x1,x2,-,-,-⟩:=own3 (e1.blk hbT);go_wp2_with fail;refine(H2'.out _ (hE.trans e1)).mono ?_;rintro e w2 ⟨u,rfl,hM,e2⟩;obtain⟨a1,a2,a3,a4,a5,rfl⟩:=hM.three';obtain⟨s0,s1,s2,f0,f1,f2⟩:=own3 ((e1.trans e2).blk hbR);go_wp2_with fail;refine bodyPost_ret (v:= .tuple #[.agg #[.int .i64 a1,.int .i64 a2,.slice a3 a4 a5],.bool rb]) (by simp[results,Tryz.results25,go_sem,s0,s1,s2]) rfl ⟨_,rfl, ?_, ?_⟩
  · exact Made.since (hM.after ((((q23.refl _ _).setCell (by have:=e1.size;simp;omega) _).setCell (by have:=e1.size;simp;omega) _).setCell (by have:=e1.size;simp;omega) _)) (by have:=(hE.trans e1).size;omega)
  · exact(((((hE.trans e1).trans e2).setCell (by simp) _).setCell (by simp) _).setCell (by simp) _)
theorem q128(ks:List Tr)(n cap:Nat)(w:World)(A:Option Addr)(t:Tr)(v:Value)(h:y16 w A ks)(hn:ks.length=n*2)(hl:n<=cap)(hc:cap<=maxLen)(hks: ∀t∈ks,valid sigT t=true)(hin:Lies w t v)(hv:valid sigT t=true):
 Calls Tryz.prog 82 #[.slice A n cap,v] w fun e w'=> ∃u,e= .returned (.tuple #[u,.bool (unfD ks n t).2])/\Made w w' 25 (unfD ks n t).1 u/\Ext w w':=by
 have hcc:=hc;unfold maxLen at hcc;obtain⟨rt,hrt⟩: ∃rt,rt=(unfD ks n t).1:=⟨_,rfl⟩;obtain⟨rb,hrb⟩: ∃rb,rb=(unfD ks n t).2:=⟨_,rfl⟩;have hr:unfD ks n t=(rt,rb):=by rw[hrt,hrb]
 rw[<-hrt,<-hrb];clear hrt hrb;have HR:=hdq hr;have HKV:=hdq hks;have HCP:=hdq (fun W (hW:Ext w W)=> q59 t W v (hin.ext hW) (by have:=(j11 hv).2;omega));obtain⟨k,m,ts⟩:=t;obtain⟨At,ct,rfl,hlt,hct,hKt⟩:=Lies.mk_iff.1 hin;have hE:=((xr w).alloc (.cells #[.int .i64 k,.int .i64 m,.slice At ts.length ct] 25)).alloc (.cells #[.int .i64 0,.int .i64 0,.slice none 0 0] 25);obtain⟨hbT,hbR,hs1⟩:=blk2 (xr ((w.alloc (.cells #[.int .i64 k,.int .i64 m,.slice At ts.length ct] 25)).alloc (.cells #[.int .i64 0,.int .i64 0,.slice none 0 0] 25)));clear hr hks;go_enter Tryz.func82,Tryz.ntmps82;go_wp2_with fail;refine(HCP.out _ hE).mono ?_;rintro e w0 ⟨u0,rfl,hM0,e0⟩;obtain⟨A0,c0,rfl,hl0,hc0,hMK0⟩:=Made.mk_iff.1 hM0;have hg0:w.heap.size+1 < w0.heap.size:=q10 (e0.blk hbR);have hbR0:=e0.blk hbR;have hE0:=hE.trans e0;have hbO:=heap_alloc_new w0 (.cells #[.int .i64 k,.int .i64 m,.slice A0 ts.length c0] 25);have hEw:=hE0.alloc (.cells #[.int .i64 k,.int .i64 m,.slice A0 ts.length c0] 25);have hbRw:=((xr w0).alloc (.cells #[.int .i64 k,.int .i64 m,.slice A0 ts.length c0] 25)).blk hbR0;have X1:=(xr w0).alloc (.cells #[.int .i64 k,.int .i64 m,.slice A0 ts.length c0] 25);clear hbT hbR hbR0;go_wp2_with fail;generalize World.alloc w0 _=w1 at hbO hEw hbRw X1
 go_loopw [7] (fun i wr=> ∃(j:Nat) (k1 m1:Int) (ts1:List Tr) (A1:Option Addr) (c1:Nat),j<=n/\i= .int .i64 ((j:Int) - 1)/\wr.heap[w0.heap.size]? =some (.cells #[.int .i64 k1,.int .i64 m1,.slice A1 ts1.length c1] 25 (0,0))/\wr.heap[w.heap.size+1]? =some (.cells #[.int .i64 0,.int .i64 0,.slice none 0 0] 25 (0,0))/\(∃L,OwnT wr 25 (.mk k1 m1 ts1) (.agg #[.int .i64 k1,.int .i64 m1,.slice A1 ts1.length c1]) L/\j45 w wr L/\ ¬w0.heap.size∈L/\ ¬(w.heap.size+1)∈L)/\valid sigT (.mk k1 m1 ts1)=true/\unfD ks j (.mk k1 m1 ts1)=(rt,rb)/\Ext w wr) (fun i _=>(intOf i+1).toNat)
 case atStart=>
  obtain⟨L0,hO0,hF0⟩:=hM0;exact⟨n,k,m,ts,A0,c0,Nat.le_refl _,rfl,hbO,hbRw,⟨L0,hO0.mono fun b hb=> X1.heap b (hF0.2 b hb).2,hF0.mono (by have:=hE.size;omega) X1.size,fun hm=> by have:=(hF0.2 _ hm).2;omega,fun hm=> by have:=(hF0.2 _ hm).1;simp at this;omega⟩,hv,HR.out,hEw⟩
 case round=>
  obtain⟨j,k1,m1,ts1,A1,c1,hj,rfl,hb,hb2,⟨L,hOL,hFL,hL1,hL2⟩,hv1,heq,hx⟩:=hrel;have hin1:Lies wr (.mk k1 m1 ts1) (.agg #[.int .i64 k1,.int .i64 m1,.slice A1 ts1.length c1]):=Made.lies ⟨L,hOL,hFL⟩;have HV1:=hdq hv1;have HE:=hdq heq;obtain⟨x0,x1,x2,y0,y1,y2⟩:=own3 hb;clear hv1 heq;have hbl:=q10 hb2;have hbl0:=q10 hb;rcases j with _|j
  · have HE0:=HE.out
    simp only[unfD,Prod.mk.injEq] at HE0;obtain⟨q1,q2⟩:=HE0;have HQ1:=hdq q1;have HQ2:=hdq q2;clear q1 q2 HE;obtain⟨s0,s1,s2,f0,f1,f2⟩:=own3 hb2;have hz:((0:Nat):Int) - 1= -1:=by omega
    go_wp2_with fail;refine bodyPost_ret (v:= .tuple #[.agg #[.int .i64 k1,.int .i64 m1,.slice A1 ts1.length c1],.bool true]) (by simp[results,Tryz.results82,go_sem,s0,s1,s2]) rfl ⟨.agg #[.int .i64 k1,.int .i64 m1,.slice A1 ts1.length c1],by rw[<-HQ2.out], ?_, ?_⟩
    · rw[<-HQ1.out]
      refine⟨L,hOL.mono fun b hb=> ?_,hFL.mono (Nat.le_refl _) (by simp)⟩;have hne:b≠w.heap.size+1:=fun e=> hL2 (e▸hb)
      rw[Below.heap_setCell _ _ _ _ hne,Below.heap_setCell _ _ _ _ hne,Below.heap_setCell _ _ _ _ hne]
    · exact(((hx.setCell (by simp) _).setCell (by simp) _).setCell (by simp) _)
  · obtain⟨b,o,k3,n3,A3,p3,kids3,k2,n2,A2,p2,kids2,rfl,hbw,HK1,HK2,⟨d0,d1,d2,c3,c4,c5⟩,-,⟨l2,m2,hK2,hin2,hmem2⟩⟩:=h.getD (j:=j) hx (by omega)
    have hg:ks.getD (j*2+1) y13= .mk k2 n2 kids2:=by
     rw[List.getD_eq_getElem?_getD,List.getElem?_eq_getElem (by omega),HK2.out];rfl
    have hst:(if valid sigT (sbsT (.mk k2 n2 kids2) (.mk k1 m1 ts1) 0 0)=true then unfD ks j (sbsT (.mk k2 n2 kids2) (.mk k1 m1 ts1) 0 0) else(y13,false))=(rt,rb):=by
     rw[<-HE.out];conv=> rhs;unfold unfD
     rw[hg]
    have hp1:=j11 HV1.out;have hp2:=j11 (HKV.out _ hmem2);have HSB:=hdq (fun W (hW:Ext wr W)=> y136 (.mk k1 m1 ts1) W _ 0 (.mk k2 n2 kids2) _ 0 30 hp1.1 (hin1.ext hW) (by omega) hp2.1 (by omega) (hin2.ext hW) (by omega) (by omega) (by omega) (by omega));have hjn:((j+1:Nat):Int) - 1=(j:Int):=by omega
    have hj':(j:Int) <(n:Int):=by omega
    have HST:=hdq hst;clear hg hst HE hp1 hp2;rw[hjn];go_wp2_with fail;have hbn:b≠w0.heap.size:=by have:=hE0.size;omega
    have HS:=hdq (show∀w':World,w'.heap[b]? =wr.heap[b]? ->w'.cell? ⟨b,o+j*6+3,none⟩=some (.int .i64 k2)/\w'.cell? ⟨b,o+j*6+4,none⟩=some (.int .i64 n2)/\w'.cell? ⟨b,o+j*6+5,none⟩=some (.slice A2 kids2.length p2) from fun w' hw'=>⟨(World.cell?_of_block (a:=⟨b,_,none⟩) hw').trans c3,(World.cell?_of_block (a:=⟨b,_,none⟩) hw').trans c4,(World.cell?_of_block (a:=⟨b,_,none⟩) hw').trans c5⟩);have hbr:b < wr.heap.size:=by have:=hx.size;omega
    have hEd:Ext wr wr.drew:=(xr wr).drew;have HB:=hdq hb;clear hK2 hin2 hmem2 hOL hin1;rw[show Op.load 25 (Operand.tmp 6)=ldO 25 6 from rfl]
    go_region_held_law (fun w'=> w'.cell? ⟨b,o+j*6+3,none⟩=some (.int .i64 k2)/\w'.cell? ⟨b,o+j*6+4,none⟩=some (.int .i64 n2)/\w'.cell? ⟨b,o+j*6+5,none⟩=some (.slice A2 kids2.length p2))
     (first|exact HS.out _ ((Below.heap_setCell _ _ _ _ hbn).trans ((Below.heap_setCell _ _ _ _ hbn).trans ((Below.heap_setCell _ _ _ _ hbn).trans ((hEd.trans h4).heap b hbr)))) |exact HS.out _ ((hEd.trans h4).heap b hbr) |exact HS.out _ (hEd.heap b hbr))
     (first|(go_simp;go_at_call 123;refine(HSB.out _ hEd).mono ?_;rintro e w4 ⟨u,rfl,hM,h4⟩;obtain⟨a1,a2,a3,a4,a5,rfl⟩:=hM.three';obtain⟨r0,r1,r2,g0,g1,g2⟩:=own3 ((hEd.trans h4).blk HB.out)))
    obtain⟨r,hr⟩: ∃r,r=sbsT (.mk k2 n2 kids2) (.mk k1 m1 ts1) 0 0:=⟨_,rfl⟩;have hst:=HST.out;rw[<-hr] at hst hM;obtain⟨L2,hO2,hF2⟩:=hM;have hb4:=(hEd.trans h4).blk HB.out;have hs4:=h4.size;have hsd:=hEd.size;have hbO5:=q11 (q11 (q11 hb4 0 (.int .i64 a1)) 1 (.int .i64 a2)) 2 (.slice a3 a4 a5);have hne:w.heap.size+1≠w0.heap.size:=by omega
    have hbR5:=(Below.heap_setCell (w4) ⟨w0.heap.size,0,none⟩ (.int .i64 a1) _ hne).trans ((hEd.trans h4).blk hb2);have hbR6:=(Below.heap_setCell (w4.setCell ⟨w0.heap.size,0,none⟩ (.int .i64 a1)) ⟨w0.heap.size,1,none⟩ (.int .i64 a2) _ hne).trans hbR5;have hbR7:=(Below.heap_setCell ((w4.setCell ⟨w0.heap.size,0,none⟩ (.int .i64 a1)).setCell ⟨w0.heap.size,1,none⟩ (.int .i64 a2)) ⟨w0.heap.size,2,none⟩ (.slice a3 a4 a5) _ hne).trans hbR6;have hEx:Ext w (((w4.setCell ⟨w0.heap.size,0,none⟩ (.int .i64 a1)).setCell ⟨w0.heap.size,1,none⟩ (.int .i64 a2)).setCell ⟨w0.heap.size,2,none⟩ (.slice a3 a4 a5)):=((((hx.trans hEd).trans h4).setCell (by have:=hE0.size;simp;omega) _).setCell (by have:=hE0.size;simp;omega) _).setCell (by have:=hE0.size;simp;omega) _;have hO5:OwnT (((w4.setCell ⟨w0.heap.size,0,none⟩ (.int .i64 a1)).setCell ⟨w0.heap.size,1,none⟩ (.int .i64 a2)).setCell ⟨w0.heap.size,2,none⟩ (.slice a3 a4 a5)) 25 r (.agg #[.int .i64 a1,.int .i64 a2,.slice a3 a4 a5]) L2:=hO2.mono fun b hb=> by
     have:=(hF2.2 b hb).1;have hne:b≠w0.heap.size:=by omega
     rw[Below.heap_setCell _ _ _ _ hne,Below.heap_setCell _ _ _ _ hne,Below.heap_setCell _ _ _ _ hne]
    have hF5:j45 w (((w4.setCell ⟨w0.heap.size,0,none⟩ (.int .i64 a1)).setCell ⟨w0.heap.size,1,none⟩ (.int .i64 a2)).setCell ⟨w0.heap.size,2,none⟩ (.slice a3 a4 a5)) L2:=hF2.mono (by have:=hx.size;omega) (by simp);have hN1: ¬w0.heap.size∈L2:=fun hm=> by have:=(hF2.2 _ hm).1;omega
    have hN2: ¬(w.heap.size+1)∈L2:=fun hm=> by have:=(hF2.2 _ hm).1;omega
    clear hbR5 hbR6 r0 r1 r2 g0 g1 g2 x0 x1 x2 y0 y1 y2 hb4 hO2 hF2 h4 HSB HS HB;generalize World.setCell _ _ _=wz at hbO5 hbR7 hEx hO5 hF5⊢;obtain⟨x0,x1,x2,-,-,-⟩:=own3 hbO5;have HVZ:=hdq (y30 r wz _ (Made.lies ⟨L2,hO5,hF5⟩));obtain⟨vb,hvb⟩: ∃vb,vb=valid sigT r:=⟨_,rfl⟩;rw[<-hvb] at hst HVZ;have HVB:=hdq hvb;clear hvb hr;go_wp2_with fail;refine HVZ.out.mono ?_;rintro e w5 ⟨rfl,e5⟩;clear x0 x1 x2;obtain⟨s0,s1,s2,f0,f1,f2⟩:=own3 (e5.blk hbR7);cases vb with
    |false=>
     simp only[Bool.false_eq_true,if_false,Prod.mk.injEq] at hst;obtain⟨z1,z2⟩:=hst;have Z1:=hdq z1;have Z2:=hdq z2;clear z1 z2;go_wp2_with fail;refine bodyPost_ret (v:= .tuple #[.agg #[.int .i64 0,.int .i64 0,.slice none 0 0],.bool false]) (by simp[results,Tryz.results82,go_sem,s0,s1,s2]) rfl ⟨.agg #[.int .i64 0,.int .i64 0,.slice none 0 0],by rw[<-Z2.out],by rw[<-Z1.out];exact Made.leaf _ _ _ _ _, ?_⟩;exact((((hEx.trans e5).setCell (by simp) _).setCell (by simp) _).setCell (by simp) _)
    |true=>
     simp only[if_true] at hst;have Z:=hdq hst;clear hst;obtain⟨rk,rm,rts⟩:=r;obtain⟨A5,c5,e6,hl5,hc5,hK5⟩:=OwnT.mk_iff.1 hO5;simp only[Value.agg.injEq,Array.mk.injEq,List.cons.injEq,Value.int.injEq,Value.slice.injEq,and_true,true_and] at e6;obtain⟨rfl,rfl,rfl,rfl,rfl⟩:=e6;go_wp2_with fail
     go_roundw
     case rel=> exact⟨j,_,_,rts,_,_,by omega,rfl,e5.blk hbO5,e5.blk hbR7,⟨L2,hO5.mono fun b hb=> e5.heap b (hF5.2 b hb).2,hF5.mono (Nat.le_refl _) e5.size,hN1,hN2⟩,HVB.out.symm,Z.out,hEx.trans e5⟩
     case measure=> simp[intOf]
theorem y80(ks:List Tr)(n cap:Nat)(w:World)(A:Option Addr)(t:Tr)(v:Value)(h:y16 w A ks)(hn:ks.length=n*2)(hl:n<=cap)(hc:cap<=maxLen)(hin:Lies w t v):
 Calls Tryz.prog 26 #[.slice A n cap,v] w fun e w'=> ∃u,e= .returned (.tuple #[u,.bool (unfV ks n t).2])/\Made w w' 25 (unfV ks n t).1 u/\Ext w w':=by
 have hcc:=hc;unfold maxLen at hcc;have K1:=hdq (fun W (hW:Ext w W)=> q31 ks n cap W A (h.ext hW) hn hl hc);have K2:=hdq (fun W (hW:Ext w W)=> y30 t W v (hin.ext hW));have K3:=hdq (fun W (hW:Ext w W)=> j34 t W v (hin.ext hW));have H2:(dfV ks n &&(valid sigT t && decide (mxf t 0<=(n:Int))))=true-> ∀W,Ext w W->Calls Tryz.prog 82 #[.slice A n cap,v] W fun e w'=> ∃u,e= .returned (.tuple #[u,.bool (unfV ks n t).2])/\Made W w' 25 (unfV ks n t).1 u/\Ext W w':=fun hh W hW=> by
  rw[q151 hh];simp only[Bool.and_eq_true] at hh;unfold dfV at hh;rw[Bool.and_eq_true] at hh;exact q128 ks n cap W A t v (h.ext hW) hn hl hc (fun t ht=>(j30 hh.1.1 hn t ht).1) (hin.ext hW) hh.2.1
 have H3:=j154 (ks:=ks) (n:=n) (t:=t);have hmx:valid sigT t=true->mxV t=mxf t 0:=fun h=> by unfold mxV;rw[h];rfl
 generalize mxV t=y at K3 hmx;generalize dfV ks n=b1 at K1 H2 H3;generalize valid sigT t=b2 at K2 H2 H3 hmx;generalize unfV ks n t=R at H2 H3⊢;obtain⟨rt,rb⟩:=R;simp only[Prod.mk.injEq] at H2 H3⊢;obtain⟨k,m,ts⟩:=t;obtain⟨At,ct,rfl,-,-,-⟩:=Lies.mk_iff.1 hin;have hE:=((xr w).alloc (.cells #[.int .i64 k,.int .i64 m,.slice At ts.length ct] 25)).alloc (.cells #[.int .i64 0,.int .i64 0,.slice none 0 0] 25);obtain⟨hbT,hbR,hs1⟩:=blk2 (xr ((w.alloc (.cells #[.int .i64 k,.int .i64 m,.slice At ts.length ct] 25)).alloc (.cells #[.int .i64 0,.int .i64 0,.slice none 0 0] 25)));have HX:=hdq hmx;have H2':=hdq H2;have H3':=hdq H3;clear hmx H2 H3;have OUT: ∀wz,Ext w wz->(b1 &&(b2 && decide (mxf (.mk k m ts) 0<=(n:Int))))=false-> ∃u,Ending.returned (Value.tuple #[.agg #[.int .i64 0,.int .i64 0,.slice none 0 0],.bool false])=Ending.returned (.tuple #[u,.bool rb])/\Made w wz 25 rt u/\Ext w wz:=fun wz hz hb=> by
  obtain⟨z1,z2⟩:=H3'.out hb;exact⟨_,by rw[z2],by rw[z1];exact Made.leaf _ _ _ _ _,hz⟩
 have HOUT:=hdq OUT;clear OUT;go_enter Tryz.func26,Tryz.ntmps26;go_wp2_with fail;refine(K1.out _ hE).mono ?_;rintro e w1 ⟨rfl,e1⟩;obtain⟨x0,x1,x2,-,-,-⟩:=own3 (e1.blk hbT);obtain⟨s0,s1,s2,f0,f1,f2⟩:=own3 (e1.blk hbR);have hl1:=e1.size;cases b1 with
 |false=>
  go_wp2_with fail;refine bodyPost_ret (v:= .tuple #[.agg #[.int .i64 0,.int .i64 0,.slice none 0 0],.bool false]) (by simp[results,Tryz.results26,go_sem,s0,s1,s2]) rfl (HOUT.out _ ?_ rfl);exact((((hE.trans e1).setCell (by simp) _).setCell (by simp) _).setCell (by simp) _)
 |true=>
  clear s0 s1 s2 f0 f1 f2;go_wp2_with fail;refine(K2.out _ (hE.trans e1)).mono ?_;rintro e w2 ⟨rfl,e2⟩;have e12:=e1.trans e2;clear x0 x1 x2;obtain⟨x0,x1,x2,-,-,-⟩:=own3 (e12.blk hbT);obtain⟨s0,s1,s2,f0,f1,f2⟩:=own3 (e12.blk hbR);cases b2 with
  |false=>
   go_wp2_with fail;refine bodyPost_ret (v:= .tuple #[.agg #[.int .i64 0,.int .i64 0,.slice none 0 0],.bool false]) (by simp[results,Tryz.results26,go_sem,s0,s1,s2]) rfl (HOUT.out _ ?_ rfl);exact((((hE.trans e12).setCell (by simp) _).setCell (by simp) _).setCell (by simp) _)
  |true=>
   clear s0 s1 s2 f0 f1 f2;go_wp2_with fail;refine(K3.out _ (hE.trans e12)).mono ?_;rintro e w3 ⟨rfl,e3⟩;have e13:=e12.trans e3;clear x0 x1 x2;obtain⟨x0,x1,x2,-,-,-⟩:=own3 (e13.blk hbT);obtain⟨s0,s1,s2,f0,f1,f2⟩:=own3 (e13.blk hbR);have hy:=HX.out trivial;by_cases hb3:mxf (.mk k m ts) 0<=(n:Int)
   · have d3:decide ((n:Int) < y)=false:=decide_eq_false (by omega)
     have H2'':=hdq (H2'.out (by rw[decide_eq_true hb3];rfl));clear s0 s1 s2 f0 f1 f2 H2' H3' HOUT;go_wp2_with fail;refine(H2''.out _ (hE.trans e13)).mono ?_;rintro e w4 ⟨u,rfl,hM,e4⟩;obtain⟨a1,a2,a3,a4,a5,rfl⟩:=hM.three';obtain⟨s0,s1,s2,f0,f1,f2⟩:=own3 ((e13.trans e4).blk hbR);go_wp2_with fail;refine bodyPost_ret (v:= .tuple #[.agg #[.int .i64 a1,.int .i64 a2,.slice a3 a4 a5],.bool rb]) (by simp[results,Tryz.results26,go_sem,s0,s1,s2]) rfl ⟨_,rfl, ?_, ?_⟩
     · exact Made.since (hM.after ((((q23.refl _ _).setCell (by have:=e13.size;simp;omega) _).setCell (by have:=e13.size;simp;omega) _).setCell (by have:=e13.size;simp;omega) _)) (by have:=(hE.trans e13).size;omega)
     · exact(((((hE.trans e13).trans e4).setCell (by simp) _).setCell (by simp) _).setCell (by simp) _)
   · have d3:decide ((n:Int) < y)=true:=decide_eq_true (by omega)
     go_wp2_with fail;refine bodyPost_ret (v:= .tuple #[.agg #[.int .i64 0,.int .i64 0,.slice none 0 0],.bool false]) (by simp[results,Tryz.results26,go_sem,s0,s1,s2]) rfl (HOUT.out _ ?_ (by rw[decide_eq_false (show¬mxf (.mk k m ts) 0<=(n:Int) from by omega)];rfl));exact((((hE.trans e13).setCell (by simp) _).setCell (by simp) _).setCell (by simp) _)
end Go.Proofs.YtdkamgafpphdjaaGreat
namespace Go.Proofs.YtdkamgafpphdjaaGreat
open Go.RowKit
set_option linter.unusedVariables false
attribute [local go_sem ↓] Go.wp_at_zero Go.wp_at_succ
theorem q156:(Tryz.prog.info? 83).map (fun i=>(i.zero,i.size,i.bytes))=some (some (.agg #[.int .i64 0,.int .i64 0,.slice none 0 0,.int .i64 0,.int .i64 0,.slice none 0 0]),6,80):=by kernel_rfl
theorem y158(ks:List Tr)(n cap:Nat)(w:World)(A:Option Addr)(h:y16 w A ks)(hn:ks.length=n*2)(hl:n<=cap)(hc:cap<=maxLen)(hcn: ∀t∈ks,cnt t<=1000)(hn9:n<=1000):
 Calls Tryz.prog 135 #[.slice A n cap] w fun e w'=> ∃v,e= .returned v/\q25 w w' 83 v ks n/\Ext w w':=by
 obtain⟨i0,hi,hz0,hz1,hz2⟩:=info_parts q156;have hcc:=hc;unfold maxLen at hcc;have HCN:=hdq hcn;have hx0:=(xr w).alloc (.cells #[] 83);have hb0:=heap_alloc_new w (.cells #[] 83);clear hcn;go_enter Tryz.func135,Tryz.ntmps135;go_wp2_with fail;generalize hw0:w.alloc _=w0 at hx0 hb0⊢;clear hw0
 go_loopw [3,4] (fun vo i wr=> ∃(v:Value) (j:Nat),v=vo/\j<=n/\i= .int .i64 j/\q25 w wr 83 v (ks.take (j*2)) j/\Ext w wr) (fun _ i _=> n -(intOf i).toNat)
 case atStart=> exact⟨_,0,rfl,Nat.zero_le _,rfl,by simpa using q25.lit hb0 (Nat.le_refl _),hx0⟩
 case round=>
  obtain⟨v,j,rfl,hj,rfl,hG,hx⟩:=hrel;by_cases hlt:j < n
  · obtain⟨b,o,k1,n1,A1,p1,kids1,k2,n2,A2,p2,kids2,rfl,hbw,HK1,HK2,⟨c0,c1,c2,c3,c4,c5⟩,⟨l1,m1,hK1,hin1,hmem1⟩,⟨l2,m2,hK2,hin2,hmem2⟩⟩:=h.getD (j:=j) hx (by omega)
    have hj':(j:Int) <(n:Int):=by omega
    have hjn:j < 1099511627776:=by omega
    have hle:=hx.size;have q1:=HCN.out _ hmem1;have q2:=HCN.out _ hmem2;have htk:ks.take ((j+1)*2)=ks.take (j*2)++ [Tr.mk k1 n1 kids1,Tr.mk k2 n2 kids2]:=by
     rw[show(j+1)*2=j*2+1+1 by omega,List.take_add_one,List.take_add_one,List.getElem?_eq_getElem (show j*2 < ks.length by omega),List.getElem?_eq_getElem (show j*2+1 < ks.length by omega),HK1.out,HK2.out];simp
    have HTK:=hdq htk;have HS:=hdq (show∀w',Ext wr w'->w'.cell? ⟨b,o+j*6,none⟩=some (.int .i64 k1)/\w'.cell? ⟨b,o+j*6+1,none⟩=some (.int .i64 n1)/\w'.cell? ⟨b,o+j*6+2,none⟩=some (.slice A1 kids1.length p1)/\w'.cell? ⟨b,o+j*6+3,none⟩=some (.int .i64 k2)/\w'.cell? ⟨b,o+j*6+3+1,none⟩=some (.int .i64 n2)/\w'.cell? ⟨b,o+j*6+3+2,none⟩=some (.slice A2 kids2.length p2) from fun w' hw'=>⟨hw'.cell c0,hw'.cell c1,hw'.cell c2,hw'.cell c3,hw'.cell c4,hw'.cell c5⟩);have hEd:Ext wr wr.drew:=(xr wr).drew;have c4':wr.cell? ⟨b,o+j*6+3+1,none⟩=some (.int .i64 n2):=c4;have c5':wr.cell? ⟨b,o+j*6+3+2,none⟩=some (.slice A2 kids2.length p2):=c5;have HG:=hdq hG;have HX:=hdq hx;obtain⟨Bv,cv,rfl,-,-,-⟩:=hG.slice;clear htk c4 c5 hG hx hbw;go_wp2_with fail
    go_region_law (first
     |(refine q99 _ (by rfl) (.tmp 12) (.tmp 26) _ (by rfl) 83 i0 _ Tryz.underlying41 hi hz0 hz1 hz2 rfl (by rfl) (HG.out.ext (((hEd.trans h4).trans h5).alloc _)) (Nat.le_trans hle (((hEd.trans h4).trans h5).alloc _).size) (HG.out.off hle ((((From.made hM1).since (B:=wr.heap.size) (Nat.le_refl _)).ext h5).ext ((xr _).alloc _))) (HG.out.off hle (((From.made hM2).since (C:=wr.heap.size) (hEd.trans h4).size).ext ((xr _).alloc _))) (by rfl) (heap_alloc_new _ _) hjn ?_;intro v' w6 hG6 hB6 _ _)
     |(go_simp;go_at_call 72;(with_reducible show Calls _ _ #[.agg #[.int .i64 k1,_,_]] _ _);refine(q59 _ _ _ (hin1.ext hEd) (by omega)).mono ?_;rintro e w4 ⟨u,rfl,hM1,h4⟩;obtain⟨a1,a2,a3,a4,a5,rfl⟩:=hM1.three';obtain⟨x0,x1,x2,x3,x4,x5⟩:=HS.out _ (hEd.trans h4))
     |(go_simp;go_at_call 72;(with_reducible show Calls _ _ #[.agg #[.int .i64 k2,_,_]] _ _);refine(q59 _ _ _ (hin2.ext (hEd.trans h4)) (by omega)).mono ?_;rintro e w5 ⟨u,rfl,hM2,h5⟩;obtain⟨d1,d2,d3,d4,d5,rfl⟩:=hM2.three'))
    all_goals(
     have hE6:Ext w w6:=Below.trans (((HX.out.trans hEd).trans h4).trans h5|>.alloc _) hB6;clear c0 c1 c2 c3 c4' c5' x0 x1 x2 x3 x4 x5;go_wp2_with fail
     go_roundw
     case rel=> exact⟨_,j+1,rfl,by omega,by go_num,by rw[HTK.out];exact hG6,hE6⟩
     case measure=> simp[intOf];omega)
  · have hjn:j=n:=by omega
    subst hjn;rw[List.take_of_length_le (by omega)] at hG;go_wp2_with fail;go_ret;exact⟨_,rfl,hG,hx⟩
theorem j211{l:List UInt8}{ks:List Tr}(h:psD l=some ks):dfV ks (ks.length / 2)=true:=by
 unfold psD at h
 split at h
 · cases h
 · unfold psO at h
   split at h
   · cases h
   · split at h
     · rename_i hh
       cases h
       exact hh.2
     · cases h
def useT:List (List UInt8):= [[35,48], [35,49], [40,35,48,32,43,48,41], [40,40,35,49,32,43,48,41,32,43,43,48,41], [43,35,48], [40,91,78,93,40,35,49,32,35,48,41,32,48,41], [33,35,49], [123,78,44,35,49,44,35,49,125], [40,35,48,32,35,49,41], [78]]
theorem q204:0 <(q50 useT).length/\(q50 useT).length<=10:=by
 have h:prsV [35,48]=some (.mk 1 0 []):=by decide+kernel
 refine⟨?_, ?_⟩
 · unfold q50 useT
   rw[List.filterMap_cons,h];simp
 · exact Nat.le_trans (List.length_filterMap_le _ _) (by decide)
theorem y193: ∀x∈useT,x.length<=1000:=by decide
theorem y165(w:World)(g m:Nat)(hR:Rd w g m)(hm:m < 800000):Calls Tryz.prog 74 #[.pointer (some ⟨g,0,none⟩)] w fun e w'=> ∃A n cap ks t u,e= .returned (.tuple #[.slice A n cap,u])/\n<=cap/\cap<=maxLen/\ks.length=n*2/\n<=8/\(∀x∈ks,valid sigT x=true)/\valid sigT t=true/\j18 w.heap.size w' A ks/\From w.heap.size w' t u/\Rd w' g (m+3)/\Only [g] w w':=by
 have hgl:=hR.lt;have hx0:=(xr w).alloc (.cells #[.int .i64 0,.int .i64 0,.slice none 0 0] 25);have b40:=heap_alloc_new w (.cells #[.int .i64 0,.int .i64 0,.slice none 0 0] 25);go_enter Tryz.func74,Tryz.ntmps74;go_wp2_with fail;generalize hw0:w.alloc _=w0 at hx0 b40⊢;have hs0:w0.heap.size=w.heap.size+1:=by rw[<-hw0];simp
 have hlt0:w.heap.size < w0.heap.size:=by omega
 rw[<-hs0];clear hw0;refine(of_any (fun s=> s.size<=1000) _ g m ((hR.ext hx0).ext ((xr w0).alloc _)) (by omega) _ 0 5 5 (Nat.le_refl _) (by decide) (by decide) (by omega) (by simp) (by
  intro j hj;rw[Nat.zero_add,y10 (heap_alloc_new _ _)];rcases(by omega:j=0\/j=1\/j=2\/j=3\/j=4) with rfl|rfl|rfl|rfl|rfl
  all_goals exact⟨_,rfl,by decide⟩)).mono ?_
 rintro e w1 ⟨text,rfl,htx,hR1,ho1⟩;have b41:w1.heap[w.heap.size]? =some (.cells #[.int .i64 0,.int .i64 0,.slice none 0 0] 25 (0,0)):=ho1.keepBlk (((xr w0).alloc _).blk b40) (by simp;omega);have hO1:Only [g] w w1:=((oE (L:= [g]) hx0).trans (oE (L:= [g]) ((xr w0).alloc _))).trans ho1;have hlt1:w.heap.size < w1.heap.size:=q10 b41;clear b40 hx0 ho1 hR;go_wp2_with fail;refine(q85 text _ (by omega)).mono ?_;rintro e w2 ⟨A,n,cap,rfl,hl,hc,hn,hK,e2⟩;have b42:=e2.blk b41;have hO2:=hO1.trans (oE (L:= [g]) e2);have hR2:=hR1.ext e2;have hlt2:w.heap.size < w2.heap.size:=q10 b42;have hK2:j18 (w.heap.size+1) w2 A _:=InK.mono (fun b hb=>⟨Nat.le_trans hlt1 hb.1,hb.2⟩) (fun _ _=> rfl) hK;obtain⟨O,hO⟩: ∃O,psD text.data.toList=O:=⟨_,rfl⟩;rw[hO] at hK2 hn⊢;have hval: ∀ks,O=some ks->n<=8/\ ∀x∈ks,valid sigT x=true:=fun ks h=> by
  have h1:=j211 (hO.trans h);rw[h] at hn;simp only[Option.getD] at hn;rw[show ks.length / 2=n by omega] at h1;exact y132 h1 hn
 have HVAL:=hdq hval;clear b41 hO hval hK hR1 hO1 htx;have HOUT: ∀wq,Only [g] w wq->Rd wq g (m+3)->wq.heap[w.heap.size]? =some (.cells #[.int .i64 0,.int .i64 0,.slice none 0 0] 25 (0,0))->True:=fun _ _ _ _=> trivial
 clear HOUT;cases O with
 |none=>
  simp only[Option.isSome];clear hK2 HVAL hn;have b4q:=b42;have hRq:=hR2;have hOq:=hO2;clear b42 hR2 hO2;go_wp2_with fail;refine(y17 _ 6 0).mono ?_;rintro e w5 ⟨rfl,e5⟩;go_wp2_with fail;refine(y17 _ 7 0).mono ?_;rintro e w6 ⟨rfl,e6⟩;go_wp2_with fail;refine(y17 _ 1 0).mono ?_;rintro e w7 ⟨rfl,e7⟩;have hx7:Ext w2 w7:=((e5.trans e6).alloc _).trans e7;have b47:=hx7.blk b4q;obtain⟨s0,s1,s2,f0,f1,f2⟩:=own3 b47;have hs6:=(e5.trans e6).size;have hR7:Rd w7 g (m+3):=(hRq.ext hx7).mono (by omega);have hO7:=hOq.trans (oE (L:= [g]) hx7);have hK7:j18 (w.heap.size+1) w7 (some ⟨w6.heap.size,0,none⟩) [.mk 6 0 [],.mk 7 0 []]:=InK.mono (fun b hb=>⟨hb.1,Nat.lt_of_lt_of_le hb.2 e7.size⟩) (fun b hb=> e7.heap b hb.2) (j18.two (e:=83) (From.leaf (w.heap.size+1) w6 6 0) (From.leaf (w.heap.size+1) w6 7 0) (by omega) rfl);clear b4q b47;go_wp2_with fail;refine bodyPost_ret (v:= .tuple #[.slice (some ⟨w6.heap.size,0,none⟩) 1 1,.agg #[.int .i64 1,.int .i64 0,.slice none 0 0]]) (by simp[results,Tryz.results74,go_sem,s0,s1,s2]) rfl ⟨_,1,1, [.mk 6 0 [],.mk 7 0 []],.mk 1 0 [],_,rfl,Nat.le_refl _,by decide,rfl,by decide,by decide,by decide, ?_,From.leaf _ _ 1 0, ?_, ?_⟩
  · refine InK.mono (fun b hb=>⟨by have:=hb.1;omega,by simpa using hb.2⟩) (fun b hb=> ?_) hK7
    have hb1:w.heap.size+1<=b:=hb.1;rw[Below.heap_setCell _ _ _ _ (by show b≠w.heap.size;omega),Below.heap_setCell _ _ _ _ (by show b≠w.heap.size;omega),Below.heap_setCell _ _ _ _ (by show b≠w.heap.size;omega)]
  · exact((hR7.set (by show g < w.heap.size;omega) _).set (by show g < w.heap.size;omega) _).set (by show g < w.heap.size;omega) _
  · exact((hO7.setNew (by simp) _).setNew (by simp) _).setNew (by simp) _
 |some ks=>
  simp only[Option.isSome,Option.getD] at hK2 hn⊢;obtain⟨hn8,hv⟩:=HVAL.out ks rfl;clear HVAL;go_wp2_with fail;refine(q60 _ g _ 8 hR2 (by omega)).mono ?_;rintro e w3 ⟨x,rfl,hx0,-,hR3,ho3⟩;have b4q:=ho3.keepBlk b42 (by simp;omega);have hOq:=hO2.trans ho3;have hRq:=hR3;have hlt3:w.heap.size < w3.heap.size:=q10 b4q;have hK3:j18 (w.heap.size+1) w3 A ks:=InK.mono (fun b hb=>⟨hb.1,Nat.lt_of_lt_of_le hb.2 ho3.size⟩) (fun b hb=> ho3.block b hb.2 (by have:=hb.1;simp;omega)) hK2;clear b42 hR2 hO2 hK2 hR3 ho3;by_cases hxz:x=0
  · subst hxz
    clear hK3;go_wp2_with fail;refine(y17 _ 6 0).mono ?_;rintro e w5 ⟨rfl,e5⟩;go_wp2_with fail;refine(y17 _ 7 0).mono ?_;rintro e w6 ⟨rfl,e6⟩;go_wp2_with fail;refine(y17 _ 1 0).mono ?_;rintro e w7 ⟨rfl,e7⟩;have hx7:Ext w3 w7:=((e5.trans e6).alloc _).trans e7;have b47:=hx7.blk b4q;obtain⟨s0,s1,s2,f0,f1,f2⟩:=own3 b47;have hs6:=(e5.trans e6).size;have hR7:Rd w7 g (m+3):=(hRq.ext hx7).mono (by omega);have hO7:=hOq.trans (oE (L:= [g]) hx7);have hK7:j18 (w.heap.size+1) w7 (some ⟨w6.heap.size,0,none⟩) [.mk 6 0 [],.mk 7 0 []]:=InK.mono (fun b hb=>⟨hb.1,Nat.lt_of_lt_of_le hb.2 e7.size⟩) (fun b hb=> e7.heap b hb.2) (j18.two (e:=83) (From.leaf (w.heap.size+1) w6 6 0) (From.leaf (w.heap.size+1) w6 7 0) (by omega) rfl);clear b4q b47;go_wp2_with fail;refine bodyPost_ret (v:= .tuple #[.slice (some ⟨w6.heap.size,0,none⟩) 1 1,.agg #[.int .i64 1,.int .i64 0,.slice none 0 0]]) (by simp[results,Tryz.results74,go_sem,s0,s1,s2]) rfl ⟨_,1,1, [.mk 6 0 [],.mk 7 0 []],.mk 1 0 [],_,rfl,Nat.le_refl _,by decide,rfl,by decide,by decide,by decide, ?_,From.leaf _ _ 1 0, ?_, ?_⟩
    · refine InK.mono (fun b hb=>⟨by have:=hb.1;omega,by simpa using hb.2⟩) (fun b hb=> ?_) hK7
      have hb1:w.heap.size+1<=b:=hb.1;rw[Below.heap_setCell _ _ _ _ (by show b≠w.heap.size;omega),Below.heap_setCell _ _ _ _ (by show b≠w.heap.size;omega),Below.heap_setCell _ _ _ _ (by show b≠w.heap.size;omega)]
    · exact((hR7.set (by show g < w.heap.size;omega) _).set (by show g < w.heap.size;omega) _).set (by show g < w.heap.size;omega) _
    · exact((hO7.setNew (by simp) _).setNew (by simp) _).setNew (by simp) _
  · have hxb:(x==0)=false:=beq_eq_false_iff_ne.2 hxz
    go_wp2_with fail;refine(q157 useT _ 0 10 _ (by simp) (by decide) (by decide) (by decide) y193 (by
     intro j hj;rw[Nat.zero_add,y10 (heap_alloc_new _ _)];have hj:j < 10:=hj;rcases(by omega:j=0\/j=1\/j=2\/j=3\/j=4\/j=5\/j=6\/j=7\/j=8\/j=9) with rfl|rfl|rfl|rfl|rfl|rfl|rfl|rfl|rfl|rfl
     all_goals rfl)).mono ?_
    rintro e w5 ⟨A5,c5,rfl,l5,m5,hF5,e5⟩;obtain⟨hp0,hp1⟩:=q204;have hvR: ∀t∈q50 useT,valid sigT t=true:=fun t h=> q136 h
    generalize q50 useT=R at l5 hF5 hp0 hp1 hvR⊢;obtain⟨L,hL⟩: ∃L,R.length=L:=⟨_,rfl⟩;rw[hL] at l5 hp0 hp1⊢;have hx5:Ext w3 w5:=((xr w3).alloc _).trans e5;have b45:=hx5.blk b4q;have hO5:=hOq.trans (oE (L:= [g]) hx5);have hR5:=hRq.ext hx5;have hK5:j18 (w.heap.size+1) w5 A ks:=InK.mono (fun b hb=>⟨hb.1,Nat.lt_of_lt_of_le hb.2 hx5.size⟩) (fun b hb=> hx5.heap b hb.2) hK3;have hF5:j18 (w.heap.size+1) w5 A5 R:=InK.mono (fun b hb=>⟨by have:=hb.1;simp at this;omega,hb.2⟩) (fun _ _=> rfl) hF5;have hlt5:w.heap.size < w5.heap.size:=q10 b45;have hA5: ∃b5 o5,A5=some ⟨b5,o5,none⟩:=by
     rcases hF5 with h|⟨b5,o5,h,-⟩
     · rw[h] at hL;simp at hL;omega
     · exact⟨b5,o5,h⟩
    obtain⟨b5,o5,rfl⟩:=hA5;have HGET:=hdq (fun(w':World) (ho:Only [g] w5 w') (j:Nat) (hj:j < L)=> hF5.get (w':=w') (j:=j) (fun b hb=> ho.block b hb.2 (by have:=hb.1;simp;omega)) (by rw[hL];exact hj));have HL:=hdq hL;have HV:=hdq hvR;have HB:=hdq (fun(w':World) (ho:Only [g] w5 w')=> own3 (ho.keepBlk b45 (by simp;omega)));have hLi:(0:Int) <(L:Int):=by omega
    have hD5:Only [g] w5 w5.drew:=oE (xr w5).drew;clear hF5 hvR b4q hOq hRq hK3 e5 hx5;go_wp2_with fail
    go_region_law (go_simp;go_at_call 99;refine(q60 _ g _ (L:Int) (hR5.ext (xr w5).drew) (by omega)).mono ?_;rintro e w6 ⟨x,rfl,hx0,hx1,hR6,ho6⟩;obtain⟨j,rfl⟩:=Int.eq_ofNat_of_zero_le hx0;have hj:j < L:=(by omega);have hjz:(j:Int) <(L:Int):=(by omega);obtain⟨b',o',k6,n6,A6,c6,kids6,hA,HK,x0,x1,x2,hl6,hc6,hK6,hin6,hmem,hSb⟩:=HGET.out w6 (hD5.trans ho6) j hj;cases hA;obtain⟨s0,s1,s2,f0,f1,f2⟩:=HB.out w6 (hD5.trans ho6))
    all_goals(
     have hO6:=(hO5.trans hD5).trans ho6;have hF6:From (w.heap.size+1) w6 _ _:=InT.mono (fun b hb=>⟨hb.1,Nat.lt_of_lt_of_le hb.2 (hD5.trans ho6).size⟩) (fun _ _=> rfl) hin6;have hK6':j18 (w.heap.size+1) w6 A ks:=InK.mono (fun b hb=>⟨hb.1,Nat.lt_of_lt_of_le hb.2 (hD5.trans ho6).size⟩) (fun b hb=>(hD5.trans ho6).block b hb.2 (by have:=hb.1;simp;omega)) hK5;go_wp2_with fail;refine bodyPost_ret (v:= .tuple #[.slice A n cap,.agg #[.int .i64 k6,.int .i64 n6,.slice A6 kids6.length c6]]) (by simp[results,Tryz.results74,go_sem,s0,s1,s2]) rfl ⟨_,n,cap,ks,_,_,rfl,hl,hc,hn,hn8,hv,HV.out _ hmem, ?_, ?_, ?_, ?_⟩
     · refine InK.mono (fun b hb=>⟨by have:=hb.1;omega,by simpa using hb.2⟩) (fun b hb=> ?_) hK6'
       have hb1:w.heap.size+1<=b:=hb.1;rw[Below.heap_setCell _ _ _ _ (by show b≠w.heap.size;omega),Below.heap_setCell _ _ _ _ (by show b≠w.heap.size;omega),Below.heap_setCell _ _ _ _ (by show b≠w.heap.size;omega)]
     · exact(((hF6.set (by show w.heap.size < _;omega) _).set (by show w.heap.size < _;omega) _).set (by show w.heap.size < _;omega) _).since (by omega)
     · exact(((hR6.mono (by omega)).set (by show g < w.heap.size;omega) _).set (by show g < w.heap.size;omega) _).set (by show g < w.heap.size;omega) _
     · exact((hO6.setNew (by simp) _).setNew (by simp) _).setNew (by simp) _)
end Go.Proofs.YtdkamgafpphdjaaGreat
