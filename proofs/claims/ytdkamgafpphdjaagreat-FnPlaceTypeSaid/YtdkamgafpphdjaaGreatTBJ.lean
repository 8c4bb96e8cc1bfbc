/-
  Lemmas towards the law, 36: DrawY, Contracted.
-/
import Derived.Test.YtdkamgafpphdjaaGreatTBH
namespace Go.Proofs.YtdkamgafpphdjaaGreat
open Go.RowKit
set_option linter.unusedVariables false
attribute [local go_sem ↓] Go.wp_at_zero Go.wp_at_succ
theorem j16.fromD{W w:World}{e:TypeId}{v:Value}{ks:List Tr}(h:j16 (fun b=> b < W.heap.size) W w e v ks): ∃A cap,v= .slice A ks.length cap/\ks.length<=cap/\cap<=maxLen/\y13 W.heap.size w A ks:=by
 obtain⟨A,cap,h1,h2,h3,h4,-⟩:=h.lies (fun b hb=> hb);exact⟨A,cap,h1,h2,h3,InK.mono (fun b hb=>⟨by have:=hb.2;omega,hb.1⟩) (fun _ _=> rfl) h4⟩
theorem From.drewS{B:Nat}{w:World}{t:Tr}{v:Value}(h:From B w t v):From B w.drew t v:=h.ext (xr w).drew
theorem y13.drewS{B:Nat}{w:World}{A:Option Addr}{ks:List Tr}(h:y13 B w A ks):y13 B w.drew A ks:=h.ext (xr w).drew
def DrawQ(w:World)(g m:Nat)(e:Ending)(w':World):Prop:= ∃A n cap ks t u,e= .returned (.tuple #[.slice A n cap,u])/\ks.length=n/\n<=cap/\cap<=maxLen/\n<=3/\(∀x∈ks,cnt x<=400)/\cnt t<=400/\y13 w.heap.size w' A ks/\From w.heap.size w' t u/\Rd w' g (m+3000)/\Only [g] w w'
theorem nd4:nd 4<=2000:=by decide
theorem q169:(Tryz.prog.info? 25).map (fun i=>(i.zero,i.size,i.bytes))=some (some (.agg #[.int .i64 0, .int .i64 0, .slice none 0 0]),3,40):=by kernel_rfl
set_option maxRecDepth 100000 in
set_option maxHeartbeats 40000000 in
theorem y159(w:World)(g m:Nat)(hR:Rd w g m)(hm:m < 700000):Calls Tryz.prog 52 #[.pointer (some ⟨g,0,none⟩)] w fun e w'=> DrawQ w g m e w':=by
 obtain⟨i0,hi,hz0,hz1,hz2⟩:=info_parts q169;have hgl:=hR.lt;have hx0:=(xr w).alloc (.cells #[.int .i64 0, .int .i64 0, .slice none 0 0] 25);have hb0:=heap_alloc_new w (.cells #[.int .i64 0, .int .i64 0, .slice none 0 0] 25);go_enter Tryz.func52,Tryz.ntmps52;go_wp2_with fail;generalize hw0:w.alloc _=w0 at hx0 hb0⊢;have hs0:w.heap.size < w0.heap.size:=q10 hb0;clear hw0;refine(q23 w0 g m 2 (hR.ext hx0) (by omega)).mono ?_;rintro e w1 ⟨x,rfl,hx0',-,hR1,ho1⟩;have hO1:Only [g] w w1:=(oE hx0).trans ho1;have hb1:=ho1.keepBlk hb0 (by simp;omega);have hs1:w.heap.size < w1.heap.size:=q10 hb1;clear hR hb0 ho1;by_cases hxz:x=0
 · subst hxz
   go_wp2_with fail;refine(j27 _ _ _ (hR1.ext ((xr w1).alloc _)) (by omega) _ 4 [0,1,2,0] (by simp) (by decide) (by simp) (j22 (heap_alloc_new w1 _) rfl) (by intro b o hb;have:=hR1.lt;simp at hb;omega)).mono ?_;rintro e w2 ⟨nn,rfl,hnn,hR2,ho2⟩;have hn02:0<=nn/\nn<=2:=by simp at hnn;omega
   obtain⟨N,rfl⟩:=Int.eq_ofNat_of_zero_le hn02.1;have hN2:N<=2:=by omega
   have hO2:Only [g] w w2:=(hO1.trans (oE (L:= [g]) ((xr w1).alloc (.cells #[.int .i64 0, .int .i64 1, .int .i64 2, .int .i64 0] 3)))).trans ho2;have hb2:=ho2.keepBlk (((xr w1).alloc (.cells #[.int .i64 0, .int .i64 1, .int .i64 2, .int .i64 0] 3)).blk hb1) (by simp;omega);have hlt2:w.heap.size < w2.heap.size:=q10 hb2;have hG0:=j16.lit (X:=fun b=> b < w2.heap.size) (W:=w2) (e:=25) (heap_alloc_new w2 (.cells #[] 25)) (Nat.le_refl _);have hE0:Ext w2 (w2.alloc (.cells #[] 25)):=(xr w2).alloc _;clear hR1 hO1 hb1 ho2 hnn hx0;go_wp2_with fail;generalize World.alloc w2 _=wq at hG0 hE0⊢
   go_loopw [5,6] (fun vo i wr=> ∃(v:Value) (j:Nat) (ks:List Tr),v=vo/\j<=N/\i= .int .i64 j/\ks.length=j/\Hid (∀x∈ks,cnt x<=400)/\j16 (fun b=> b < w2.heap.size) w2 wr 25 v ks/\Ext w2 wr) (fun _ i _=> N -(intOf i).toNat)
   case atStart=> exact⟨_,0, [],rfl,Nat.zero_le _,rfl,rfl,hdq (fun x h=> by simp at h),hG0,hE0⟩
   case round=>
    obtain⟨v,j,ks,rfl,hj,rfl,hkl,HC,hG,hx⟩:=hrel;have HKL:=hdq hkl;have hsw:=hx.size;clear hG0 hE0 hkl;by_cases hlt:j < N
    · have hjz:(j:Int) <(N:Int):=by omega
      go_wp2_with fail;refine(j23 _ 6 0).mono ?_;rintro e w5 ⟨rfl,e5⟩;have hx6:=e5.alloc (.cells #[.int .i64 6, .int .i64 0, .slice none 0 0] 25);have hG6:=hG.ext hx6;go_wp2_with (at_builtin;refine y18 _ rfl (.tmp 23) (.tmp 25) 23 rfl 25 i0 _ Tryz.underlying23 hi hz0 hz1 hz2 rfl rfl hG6 (by have:=hx6.size;omega) (InT.mk_iff.2 ⟨none,0,rfl,Nat.le_refl _,Nat.zero_le _, .inl rfl⟩) rfl (heap_alloc_new _ _) (by rw[HKL.out];omega) ?_ (fun b hb=> hb))
      intro v' w7 hG7 hB7;have hx7:Ext w2 w7:=(hx.trans hx6).trans' hB7 (Nat.le_refl _);go_wp2_with fail
      go_roundw
      case rel=> exact⟨_,j+1,ks++ [.mk 6 0 []],rfl,by omega,by go_num,by rw[List.length_append,HKL.out];rfl,hdq (fun x h=> by
       rcases List.mem_append.1 h with h|h
       · exact HC.out x h
       · rw[List.mem_singleton.1 h];decide),hG7,hx7⟩
      case measure=> simp[intOf];omega
    · have hjN:j=N:=by omega
      subst hjN;obtain⟨Av,cv,rfl,qa,qb,hKv⟩:=hG.fromD;rw[HKL.out] at qa⊢;have hbr:=hx.blk hb2;have hRr:=hR2.ext hx;have hOr:=hO2.trans (oE (L:= [g]) hx);clear hG hR2 hO2 hb2 hx;go_wp2_with fail;refine(j27 _ _ _ (hRr.ext ((xr wr).alloc _)) (by omega) _ 4 [3,2,4,1] (by simp) (by decide) (by simp) (j22 (heap_alloc_new wr _) rfl) (by intro b o hb;have:=hRr.lt;simp at hb;omega)).mono ?_;rintro e w3 ⟨kk,rfl,hkk,hR3,ho3⟩;have hk14: -3<=kk/\kk<=4:=by simp at hkk;omega
      have hO3:=(hOr.trans (oE (L:= [g]) ((xr wr).alloc (.cells #[.int .i64 3, .int .i64 2, .int .i64 4, .int .i64 1] 3)))).trans ho3;have hb3:=ho3.keepBlk (((xr wr).alloc (.cells #[.int .i64 3, .int .i64 2, .int .i64 4, .int .i64 1] 3)).blk hbr) (by simp;omega);have hK3:y13 w2.heap.size w3 Av ks:=((hKv.ext ((xr wr).alloc (.cells #[.int .i64 3, .int .i64 2, .int .i64 4, .int .i64 1] 3))).only ho3 (by intro b hb;rw[List.mem_singleton.1 hb];omega));have hs3:w2.heap.size<=w3.heap.size:=by have:=ho3.size;simp at this;omega
      clear hRr hOr hbr hKv ho3 hkk;go_wp2_with fail;refine(y128 4 (by decide) w3 g _ (j:Int) kk hR3 (by have:=nd4;omega) (by omega) (by omega) (by omega) (by omega)).mono ?_;rintro e w4 ⟨t,u,rfl,hF,-,hR4,ho4⟩;obtain⟨k4,n4,A4,l4,c4,rfl⟩:=hF.three;have hs34:=ho4.size;have hO4:=(hO3.trans ho4).trans (oE (L:= [g]) ((xr w4).alloc (.cells #[.int .i64 k4, .int .i64 n4, .slice A4 l4 c4] 25)));have hb4:=((xr w4).alloc (.cells #[.int .i64 k4, .int .i64 n4, .slice A4 l4 c4] 25)).blk (ho4.keepBlk hb3 (by simp;omega));have hK4:y13 w2.heap.size (w4.alloc (.cells #[.int .i64 k4, .int .i64 n4, .slice A4 l4 c4] 25)) Av ks:=(hK3.only ho4 (by intro b hb;rw[List.mem_singleton.1 hb];omega)).ext ((xr w4).alloc _);have hF4:=hF.ext ((xr w4).alloc (.cells #[.int .i64 k4, .int .i64 n4, .slice A4 l4 c4] 25));have hR4':=hR4.ext ((xr w4).alloc (.cells #[.int .i64 k4, .int .i64 n4, .slice A4 l4 c4] 25));have hb74:=heap_alloc_new w4 (.cells #[.int .i64 k4, .int .i64 n4, .slice A4 l4 c4] 25);have hs4:w3.heap.size<=w4.heap.size:=hs34;clear hO3 hb3 hK3 hF hR3 hR4 ho4;go_wp2_with fail;have HV:=hdq (y26 t (w4.alloc (.cells #[.int .i64 k4, .int .i64 n4, .slice A4 l4 c4] 25)) _ hF4.lies);generalize hwa:w4.alloc _=wa at hO4 hb4 hK4 hF4 hR4' hb74 HV⊢;have hsa:wa.heap.size=w4.heap.size+1:=by rw[<-hwa];simp
      have hsA:w4.heap.size < wa.heap.size:=by omega
      clear hwa hsa;refine HV.out.mono ?_;rintro e w5 ⟨rfl,e5⟩;have hO5:=hO4.trans (oE (L:= [g]) e5);have hb5:=e5.blk hb4;have hR5:=hR4'.ext e5;have hs5:=e5.size;cases hz:valid sigT t with
      |true=>
       have hct:cnt t<=400:=(q12 hz).2;obtain⟨z0,z1,z2,-,-,-⟩:=own3 (e5.blk hb74);obtain⟨s0,s1,s2,f0,f1,f2⟩:=own3 hb5;have hK5:=hK4.ext e5;have hF5:=(hF4.ext e5).since (C:=w.heap.size+1) (by omega);clear hK4 hF4 hb4 hb74 hR4' hO4 HV hz;go_wp2_with fail
       first|(go_region_law (fail)) |fail
       all_goals(
        go_wp2_with fail;refine bodyPost_ret (v:= .tuple #[.slice Av j cv, .agg #[.int .i64 k4, .int .i64 n4, .slice A4 l4 c4]]) (by simp[results,Tryz.results52,go_sem,s0,s1,s2]) rfl ⟨Av,j,cv,ks,t,_,rfl,HKL.out,qa,qb,by omega,HC.out,hct, ?_, ?_, ?_, ?_⟩
        · refine y13.drewS (InK.mono (fun b hb=>⟨by have:=hb.1;omega,by simpa using hb.2⟩) (fun b hb=> ?_) hK5)
          have hb1:w2.heap.size<=b:=hb.1;rw[Below.heap_setCell _ _ _ _ (by show b≠w.heap.size;omega),Below.heap_setCell _ _ _ _ (by show b≠w.heap.size;omega),Below.heap_setCell _ _ _ _ (by show b≠w.heap.size;omega)]
        · exact((((hF5.set (by show w.heap.size < _;omega) _).set (by show w.heap.size < _;omega) _).set (by show w.heap.size < _;omega) _).since (by omega)).drewS
        · exact((((hR5.mono (show _<=m+3000 by have:=nd4;omega)).set (by show g < w.heap.size;omega) _).set (by show g < w.heap.size;omega) _).set (by show g < w.heap.size;omega) _).ext (xr _).drew
        · exact(((hO5.setNew (by show w.heap.size<=w.heap.size;omega) _).setNew (by show w.heap.size<=w.heap.size;omega) _).setNew (by show w.heap.size<=w.heap.size;omega) _).drew)
      |false=>
       have hR5s:Rd w5 g (m+2900):=hR5.mono (by have:=nd4;omega);clear hK4 hF4 hb4 hb74 hR4' hO4 HV hz hR5;go_wp2_with fail;refine(q23 w5 g _ 4 hR5s (by omega)).mono ?_;rintro e w3 ⟨y,rfl,-,-,hR3,ho3⟩;have hb3:=ho3.keepBlk hb5 (by simp;omega);have hs33:w.heap.size < w3.heap.size:=q10 hb3;have hO3:=Only.trans hO5 ho3;clear hR5s hb5 ho3;go_wp2_with fail;refine(q96 y w3).mono ?_;rintro e w4 ⟨b1,b2,p,rfl,hp,q1,q2,hA1,hA2,e4⟩;obtain⟨pf1,pf2,pf3,pf4⟩:=y90 p hp;have pos:=y112 p hp;have hp2:p.2.length<=maxLen:=by unfold maxLen;omega
       have hp1:p.1.length<=maxLen:=by unfold maxLen;omega
       have hX2:=hdq (fun W (hW:Ext w4 W)=> q66 p.2 b2 0 p.2.length W (hA2.ext hW).1 (Nat.le_refl _) hp2 (by omega) pf4 (hA2.ext hW).2);have hX1:=hdq (fun W (hW:Ext w4 W)=> q66 p.1 b1 0 p.1.length W (hA1.ext hW).1 (Nat.le_refl _) hp1 (by omega) pf3 (hA1.ext hW).2);have hCv: ∀t∈y33 p.1,cnt t<=400:=fun t h=>(q12 (j51 h)).2
       have hRv: ∀t∈y33 p.2,cnt t<=400:=fun t h=>(q12 (j51 h)).2
       have hC3:(y33 p.1).length<=3:=Nat.le_trans (q76 _) pf1;have hL12:(y33 p.2).length<=12:=Nat.le_trans (q76 _) pf2;generalize y33 p.1=C at hX1 hCv hC3;generalize y33 p.2=R at hX2 hRv pos hL12;generalize p.1.length=P1 at hX1⊢;generalize p.2.length=P2 at hX2⊢;obtain⟨L,hL⟩: ∃L,R.length=L:=⟨_,rfl⟩;obtain⟨N3,hN3⟩: ∃N3,C.length=N3:=⟨_,rfl⟩;rw[hL] at hX2 pos hL12;rw[hN3] at hX1 hC3;have HL:=hdq hL;have HN3:=hdq hN3;have HCV:=hdq hCv;have HRV:=hdq hRv;clear hp pf1 pf2 pf3 pf4 hp1 hp2 hA1 hA2 hL hN3 hCv hRv;go_wp2_with fail;refine(hX2.out w4 (xr _)).mono ?_;rintro e w5 ⟨A5,c5,rfl,l5,m5,hF5,e5⟩;have b45:=(e4.trans e5).blk hb3;have hO5:=hO3.trans (oE (L:= [g]) (e4.trans e5));have hR5:=hR3.ext (e4.trans e5);have hs4:=hO3.size;have hs44:=e4.size;have hA5: ∃b5 o5,A5=some ⟨b5,o5,none⟩:=by
        rcases hF5 with h|⟨b5,o5,h,-⟩
        · have:=HL.out;rw[h] at this;simp at this;omega
        · exact⟨b5,o5,h⟩
       obtain⟨b5,o5,rfl⟩:=hA5;have HGET:=hdq (fun(w':World) (ho:Only [g] w5 w') (j:Nat) (hj:j < L)=> hF5.get (w':=w') (j:=j) (fun b hb=> ho.block b hb.2 (by have:=hb.1;simp;omega)) (by rw[HL.out];exact hj));have HB:=hdq (fun(w':World) (ho:Only [g] w5 w')=> own3 (ho.keepBlk b45 (by simp;omega)));have hLi:(0:Int) <(L:Int):=by omega
       have hD5:Only [g] w5 w5.drew:=oE (xr w5).drew;have HX3:=hdq (hX1.out _ (e5.trans (xr w5).drew));have hR5':=hR5.ext (xr w5).drew;have hc5:=m5;unfold maxLen at hc5;clear hF5 hb3 hO3 e4 hX1 hX2 hR3 hR5;go_wp2_with fail
       go_region_law (first
        |(go_simp;go_at_call 113;refine HX3.out.mono ?_;rintro e w6 ⟨A6,c6,rfl,l6,m6,hF6,e6⟩;have hD6:Only [g] w5 w6:=hD5.trans (oE e6))
        |(go_simp;go_at_call 99;refine(q23 _ g _ (L:Int) (hR5'.ext e6) (by omega)).mono ?_;rintro e w7 ⟨x7,rfl,hx70,hx71,hR7,ho7⟩;obtain⟨j,rfl⟩:=Int.eq_ofNat_of_zero_le hx70;have hj:j < L:=(by omega);have hjz:(j:Int) <(L:Int):=(by omega);obtain⟨b',o',k7,n7,A7,c7,kids7,hA,HK,x0,x1,x2,hl7,hc7,hK7,hin7,hmem,hSb⟩:=HGET.out w7 (hD6.trans ho7) j hj;cases hA;obtain⟨s0,s1,s2,f0,f1,f2⟩:=HB.out w7 (hD6.trans ho7)))
       all_goals(
        have hs5:w5.heap.size<=w7.heap.size:=(hD6.trans ho7).size;have hO7:Only [g] w w7:=hO5.trans (hD6.trans ho7);have hs6:w5.heap.size<=w6.heap.size:=hD6.size;have hF7:From (w.heap.size+1) w7 _ _:=InT.mono (fun b hb=>⟨by have:=hb.1;omega,Nat.lt_of_lt_of_le hb.2 hs5⟩) (fun b hb=> rfl) hin7;have hF6':y13 (w.heap.size+1) w7 A6 C:=InK.mono (fun b hb=>⟨by have:=hb.1;have:=(xr w5).drew.size;omega,Nat.lt_of_lt_of_le hb.2 ho7.size⟩) (fun b hb=> ho7.block b hb.2 (by have:=hb.1;have:=(xr w5).drew.size;simp;omega)) hF6;go_wp2_with fail;refine bodyPost_ret (v:= .tuple #[.slice A6 N3 c6, .agg #[.int .i64 k7, .int .i64 n7, .slice A7 kids7.length c7]]) (by simp[results,Tryz.results52,go_sem,s0,s1,s2]) rfl ⟨A6,N3,c6,C,_,_,rfl,HN3.out,l6,m6,hC3,HCV.out,HRV.out _ hmem, ?_, ?_, ?_, ?_⟩
        · refine InK.mono (fun b hb=>⟨by have:=hb.1;omega,by simpa using hb.2⟩) (fun b hb=> ?_) hF6'
          have hb1:w.heap.size+1<=b:=hb.1;rw[Below.heap_setCell _ _ _ _ (by show b≠w.heap.size;omega),Below.heap_setCell _ _ _ _ (by show b≠w.heap.size;omega),Below.heap_setCell _ _ _ _ (by show b≠w.heap.size;omega)]
        · exact(((hF7.set (by show w.heap.size < _;omega) _).set (by show w.heap.size < _;omega) _).set (by show w.heap.size < _;omega) _).since (by omega)
        · exact(((hR7.mono (show _<=m+3000 by omega)).set (by show g < w.heap.size;omega) _).set (by show g < w.heap.size;omega) _).set (by show g < w.heap.size;omega) _
        · exact((hO7.setNew (by show w.heap.size<=w.heap.size;omega) _).setNew (by show w.heap.size<=w.heap.size;omega) _).setNew (by show w.heap.size<=w.heap.size;omega) _)
 · have exz:(x==0)=false:=beq_eq_false_iff_ne.2 hxz
   have hR1s:Rd w1 g (m+2900):=hR1.mono (by omega);clear hR1;go_wp2_with fail;refine(q23 w1 g _ 4 hR1s (by omega)).mono ?_;rintro e w3 ⟨y,rfl,-,-,hR3,ho3⟩;have hb3:=ho3.keepBlk hb1 (by simp;omega);have hs33:w.heap.size < w3.heap.size:=q10 hb3;have hO3:=Only.trans hO1 ho3;clear hR1s hb1 ho3;go_wp2_with fail;refine(q96 y w3).mono ?_;rintro e w4 ⟨b1,b2,p,rfl,hp,q1,q2,hA1,hA2,e4⟩;obtain⟨pf1,pf2,pf3,pf4⟩:=y90 p hp;have pos:=y112 p hp;have hp2:p.2.length<=maxLen:=by unfold maxLen;omega
   have hp1:p.1.length<=maxLen:=by unfold maxLen;omega
   have hX2:=hdq (fun W (hW:Ext w4 W)=> q66 p.2 b2 0 p.2.length W (hA2.ext hW).1 (Nat.le_refl _) hp2 (by omega) pf4 (hA2.ext hW).2);have hX1:=hdq (fun W (hW:Ext w4 W)=> q66 p.1 b1 0 p.1.length W (hA1.ext hW).1 (Nat.le_refl _) hp1 (by omega) pf3 (hA1.ext hW).2);have hCv: ∀t∈y33 p.1,cnt t<=400:=fun t h=>(q12 (j51 h)).2
   have hRv: ∀t∈y33 p.2,cnt t<=400:=fun t h=>(q12 (j51 h)).2
   have hC3:(y33 p.1).length<=3:=Nat.le_trans (q76 _) pf1;have hL12:(y33 p.2).length<=12:=Nat.le_trans (q76 _) pf2;generalize y33 p.1=C at hX1 hCv hC3;generalize y33 p.2=R at hX2 hRv pos hL12;generalize p.1.length=P1 at hX1⊢;generalize p.2.length=P2 at hX2⊢;obtain⟨L,hL⟩: ∃L,R.length=L:=⟨_,rfl⟩;obtain⟨N3,hN3⟩: ∃N3,C.length=N3:=⟨_,rfl⟩;rw[hL] at hX2 pos hL12;rw[hN3] at hX1 hC3;have HL:=hdq hL;have HN3:=hdq hN3;have HCV:=hdq hCv;have HRV:=hdq hRv;clear hp pf1 pf2 pf3 pf4 hp1 hp2 hA1 hA2 hL hN3 hCv hRv;go_wp2_with fail;refine(hX2.out w4 (xr _)).mono ?_;rintro e w5 ⟨A5,c5,rfl,l5,m5,hF5,e5⟩;have b45:=(e4.trans e5).blk hb3;have hO5:=hO3.trans (oE (L:= [g]) (e4.trans e5));have hR5:=hR3.ext (e4.trans e5);have hs4:=hO3.size;have hs44:=e4.size;have hA5: ∃b5 o5,A5=some ⟨b5,o5,none⟩:=by
    rcases hF5 with h|⟨b5,o5,h,-⟩
    · have:=HL.out;rw[h] at this;simp at this;omega
    · exact⟨b5,o5,h⟩
   obtain⟨b5,o5,rfl⟩:=hA5;have HGET:=hdq (fun(w':World) (ho:Only [g] w5 w') (j:Nat) (hj:j < L)=> hF5.get (w':=w') (j:=j) (fun b hb=> ho.block b hb.2 (by have:=hb.1;simp;omega)) (by rw[HL.out];exact hj));have HB:=hdq (fun(w':World) (ho:Only [g] w5 w')=> own3 (ho.keepBlk b45 (by simp;omega)));have hLi:(0:Int) <(L:Int):=by omega
   have hD5:Only [g] w5 w5.drew:=oE (xr w5).drew;have HX3:=hdq (hX1.out _ (e5.trans (xr w5).drew));have hR5':=hR5.ext (xr w5).drew;have hc5:=m5;unfold maxLen at hc5;clear hF5 hb3 hO3 e4 hX1 hX2 hR3 hR5;go_wp2_with fail
   go_region_law (first
    |(go_simp;go_at_call 113;refine HX3.out.mono ?_;rintro e w6 ⟨A6,c6,rfl,l6,m6,hF6,e6⟩;have hD6:Only [g] w5 w6:=hD5.trans (oE e6))
    |(go_simp;go_at_call 99;refine(q23 _ g _ (L:Int) (hR5'.ext e6) (by omega)).mono ?_;rintro e w7 ⟨x7,rfl,hx70,hx71,hR7,ho7⟩;obtain⟨j,rfl⟩:=Int.eq_ofNat_of_zero_le hx70;have hj:j < L:=(by omega);have hjz:(j:Int) <(L:Int):=(by omega);obtain⟨b',o',k7,n7,A7,c7,kids7,hA,HK,x0,x1,x2,hl7,hc7,hK7,hin7,hmem,hSb⟩:=HGET.out w7 (hD6.trans ho7) j hj;cases hA;obtain⟨s0,s1,s2,f0,f1,f2⟩:=HB.out w7 (hD6.trans ho7)))
   all_goals(
    have hs5:w5.heap.size<=w7.heap.size:=(hD6.trans ho7).size;have hO7:Only [g] w w7:=hO5.trans (hD6.trans ho7);have hs6:w5.heap.size<=w6.heap.size:=hD6.size;have hF7:From (w.heap.size+1) w7 _ _:=InT.mono (fun b hb=>⟨by have:=hb.1;omega,Nat.lt_of_lt_of_le hb.2 hs5⟩) (fun b hb=> rfl) hin7;have hF6':y13 (w.heap.size+1) w7 A6 C:=InK.mono (fun b hb=>⟨by have:=hb.1;have:=(xr w5).drew.size;omega,Nat.lt_of_lt_of_le hb.2 ho7.size⟩) (fun b hb=> ho7.block b hb.2 (by have:=hb.1;have:=(xr w5).drew.size;simp;omega)) hF6;go_wp2_with fail;refine bodyPost_ret (v:= .tuple #[.slice A6 N3 c6, .agg #[.int .i64 k7, .int .i64 n7, .slice A7 kids7.length c7]]) (by simp[results,Tryz.results52,go_sem,s0,s1,s2]) rfl ⟨A6,N3,c6,C,_,_,rfl,HN3.out,l6,m6,hC3,HCV.out,HRV.out _ hmem, ?_, ?_, ?_, ?_⟩
    · refine InK.mono (fun b hb=>⟨by have:=hb.1;omega,by simpa using hb.2⟩) (fun b hb=> ?_) hF6'
      have hb1:w.heap.size+1<=b:=hb.1;rw[Below.heap_setCell _ _ _ _ (by show b≠w.heap.size;omega),Below.heap_setCell _ _ _ _ (by show b≠w.heap.size;omega),Below.heap_setCell _ _ _ _ (by show b≠w.heap.size;omega)]
    · exact(((hF7.set (by show w.heap.size < _;omega) _).set (by show w.heap.size < _;omega) _).set (by show w.heap.size < _;omega) _).since (by omega)
    · exact(((hR7.mono (show _<=m+3000 by omega)).set (by show g < w.heap.size;omega) _).set (by show g < w.heap.size;omega) _).set (by show g < w.heap.size;omega) _
    · exact((hO7.setNew (by show w.heap.size<=w.heap.size;omega) _).setNew (by show w.heap.size<=w.heap.size;omega) _).setNew (by show w.heap.size<=w.heap.size;omega) _)
end Go.Proofs.YtdkamgafpphdjaaGreat
namespace Go.Proofs.YtdkamgafpphdjaaGreat
open Go.RowKit
set_option linter.unusedVariables false
theorem y131(t:Tr)(hv:valid sigT t=true)(hr:q106 t=true)(w:World)(v:Value)(hin:Lies w t v):Calls Tryz.prog 118 #[v] w (ConQ w (ctrT t)):=by
 obtain⟨k,n,ks⟩:=t;obtain⟨A,cap,rfl,hl,hc,hK⟩:=Lies.mk_iff.1 hin;rcases q34 (j83.1 hr) with⟨rfl,h⟩ |⟨rfl,h⟩ |⟨rfl,h⟩ |⟨rfl,h⟩ |⟨rfl,h⟩ |⟨rfl,h⟩
 · exact y167 n ks hv w A cap hin hK hl hc h
 · exact y162 n ks hv w A cap hin hK hl hc h
 · exact y160 n ks hv w A cap hin hK hl hc h
 · exact q167 n ks hv w A cap hin hK hl hc h
 · exact q157 n ks hv w A cap hin hK hl hc h
 · exact j165 n ks hv w A cap hin hK hl hc h
set_option maxRecDepth 100000 in
set_option maxHeartbeats 1000000 in
theorem at_any(t:Tr)(path:List Int)(u:Tr)(hat:atT t path=some u)(w:World)(v:Value)(hin:Lies w t v)(A:Option Addr)(cap:Nat)(hl:path.length<=cap)(hc:cap<=maxLen)(hP:Nums w A path):
 Calls Tryz.prog 119 #[v, .slice A path.length cap] w fun e w'=> ∃x,e= .returned x/\Lies w' u x/\Ext w w':=by
 obtain⟨k,n,ks⟩:=t;obtain⟨At,ct,rfl,hlt,hct,hKt⟩:=Lies.mk_iff.1 hin;have hcc:=hc;unfold maxLen at hcc;have hx0:=((xr w).alloc (.cells #[.int .i64 k, .int .i64 n, .slice At ks.length ct] 25)).alloc (.cells #[.int .i64 0, .int .i64 0, .slice none 0 0] 25);obtain⟨hb0,hb1,hs0⟩:=blk2 (xr ((w.alloc (.cells #[.int .i64 k, .int .i64 n, .slice At ks.length ct] 25)).alloc (.cells #[.int .i64 0, .int .i64 0, .slice none 0 0] 25)));clear hin;go_enter Tryz.func119,Tryz.ntmps119;go_wp2_with fail;generalize World.alloc (World.alloc w _) _=wS at hx0 hb0 hb1 hs0⊢
 go_loopw [9] (fun i wr=> ∃(j:Nat) (k' n':Int) (kids:List Tr) (A':Option Addr) (c':Nat),j<=path.length/\i= .int .i64 j/\
  Hid (atT (.mk k' n' kids) (path.drop j)=some u)/\kids.length<=c'/\c'<=maxLen/\j21 w A' kids/\
  wr.heap[w.heap.size]? =some (.cells #[.int .i64 k', .int .i64 n', .slice A' kids.length c'] 25 (0,0))/\wr.heap[w.heap.size+1]? =some (.cells #[.int .i64 0, .int .i64 0, .slice none 0 0] 25 (0,0))/\Ext w wr) (fun i _=> path.length -(intOf i).toNat)
 case atStart=> exact⟨0,k,n,ks,At,ct,Nat.zero_le _,rfl,hdq hat,hlt,hct,hKt,hb0,hb1,hx0⟩
 case round=>
  obtain⟨j,k',n',kids,A',c',hj,rfl,HA,hkl,hkc,hK,hb,hbR,hx⟩:=hrel;have hsz:w.heap.size+1 < wr.heap.size:=q10 hbR;obtain⟨z0,z1,z2,f0,f1,f2⟩:=own3 hb;obtain⟨y0,y1,y2,g0,g1,g2⟩:=own3 hbR;by_cases hlj:j < path.length
  · obtain⟨bp,op,rfl,cp⟩:=hP.get hx hlj
    have hdr:path.drop j=path[j]::path.drop (j+1):=List.drop_eq_getElem_cons hlj;have HA1:=HA.out;rw[hdr,q93] at HA1;clear HA hdr;generalize path[j]=i at cp HA1;have hj2:(j:Int) <(path.length:Int):=by omega
    have hj0:(0:Int)<=(j:Int):=Int.natCast_nonneg _;have hi2:0<=i/\i <(kids.length:Int):=by
     split at HA1
     · assumption
     · cases HA1
    rw[if_pos hi2] at HA1;obtain⟨m,rfl⟩:=Int.eq_ofNat_of_zero_le hi2.1;have hm:m < kids.length:=by omega
    have e0:((m:Int)).toNat=m:=by omega
    rw[e0] at HA1;obtain⟨b,o,k2,n2,A2,c2,kids2,rfl,HK,d0,d1,d2,hkl2,hkc2,hK2,hin2,hmem⟩:=hK.get (xr w) hm;have hkd:kd kids m= .mk k2 n2 kids2:=j37 hm HK.out;rw[hkd] at HA1;have HA2:=hdq HA1;have hm2:(m:Int) <(kids.length:Int):=hi2.2;have hm0:(0:Int)<=(m:Int):=hi2.1;have c0:=hx.cell d0;have c1:=hx.cell d1;have c2':=hx.cell d2;clear hkd HK hmem hi2 e0 d0 d1 d2 HA1;have hkc3:=hkc;unfold maxLen at hkc3;go_wp2_with fail
    go_roundw
    case rel=> exact⟨j+1,k2,n2,kids2,A2,c2,by omega,by go_num,HA2,hkl2,hkc2,hK2,q11 (q11 (q11 hb 0 _) 1 _) 2 _,j11 (j11 (j11 hbR (by simp) _) (by simp) _) (by simp) _,((hx.setCell (by simp) _).setCell (by simp) _).setCell (by simp) _⟩
    case measure=> simp[intOf];omega
  · have hje:path.drop j= []:=List.drop_of_length_le (by omega)
    have HA1:=HA.out;rw[hje] at HA1;have HU:(.mk k' n' kids:Tr)=u:=by simpa[atT] using HA1
    clear HA HA1 hje;go_wp2_with fail;refine bodyPost_ret (v:= .agg #[.int .i64 k', .int .i64 n', .slice A' kids.length c']) (by simp[results,Tryz.results119,go_sem,y0,y1,y2]) rfl ⟨_,rfl, ?_, ?_⟩
    · rw[<-HU]
      exact Lies.mk hkl hkc (hK.ext (((hx.setCell (by simp) _).setCell (by simp) _).setCell (by simp) _))
    · exact(((hx.setCell (by simp) _).setCell (by simp) _).setCell (by simp) _)
set_option maxRecDepth 100000 in
set_option maxHeartbeats 2000000 in
theorem j69(t:Tr)(p:List Int)(hv:valid sigT t=true)(hr:rdxA t p=true)(w:World)(v:Value)(hin:Lies w t v)(A:Option Addr)(n cap:Nat)(hp:PFs w A n cap p)(hn:n<=1000):
 Calls Tryz.prog 57 #[v, .slice A n cap] w fun e w'=> ∃r,e= .returned (.tuple #[r, .bool (conV t p).2])/\Made w w' 25 (conV t p).1 r/\Ext w w':=by
 obtain⟨u,hat,hru⟩:=q104 hr;have hvu:=j149 hv hat;have hca:conA t p=putA t p (ctrT u):=by unfold conA;rw[hat]
 have HAT:=hdq (fun W (hW:Ext w W)=> by
  have:=at_any t p u hat W v (hin.ext hW) A cap (by rw[hp.hn];exact hp.hl) hp.hc (hp.hP.ext hW);rw[hp.hn] at this;exact this)
 have HCT:=hdq (fun W x (hx:Lies W u x)=> y131 u hvu hru W x hx);have HPT:=hdq (fun W (hW:Ext w W) x (hx:Lies W (ctrT u) x)=> put_any p t (ctrT u) 30 (q14 hv).2 (by rw[hat];rfl) W v x (fun b=> b < W.heap.size) (fun _ h=> h) (hin.ext hW) hx A n cap (hp.ext hW) hn (by have:=(q14 hv).1;omega));have hcn:valid sigT (ctrT u)=true->cnt (putA t p (ctrT u))<=1000000:=fun h=> by
  have h1:=q150 p t (ctrT u) u hat;have h2:=(q14 h).1;have h3:=(q14 hv).1;omega
 have hpart:=y178 (t:=t) hat;have hc1:(conV t p).1=okT (putA t p (ctrT u)):=by unfold conV okT;rw[hca];split <;> rfl
 have hc2:(conV t p).2=valid sigT (putA t p (ctrT u)):=by
  unfold conV;rw[hca];split
  · rename_i h;exact h.symm
  · rename_i h;exact(Bool.eq_false_iff.2 h).symm
 rw[hca] at hpart;rw[hc1,hc2];clear hc1 hc2 hca hat hru hr hvu;generalize putA t p (ctrT u)=X at HPT hcn hpart⊢;generalize ctrT u=c at HCT HPT hcn hpart;obtain⟨k,nn,ks⟩:=t;obtain⟨At,ct,rfl,-,-,-⟩:=Lies.mk_iff.1 hin;have hx0:=((xr w).alloc (.cells #[.int .i64 k, .int .i64 nn, .slice At ks.length ct] 25)).alloc (.cells #[.int .i64 0, .int .i64 0, .slice none 0 0] 25);obtain⟨hb0,hb1,hs2⟩:=blk2 (xr ((w.alloc (.cells #[.int .i64 k, .int .i64 nn, .slice At ks.length ct] 25)).alloc (.cells #[.int .i64 0, .int .i64 0, .slice none 0 0] 25)));obtain⟨wS,hwS⟩: ∃x,x=(w.alloc (.cells #[.int .i64 k, .int .i64 nn, .slice At ks.length ct] 25)).alloc (.cells #[.int .i64 0, .int .i64 0, .slice none 0 0] 25):=⟨_,rfl⟩;rw[<-hwS] at hx0 hb0 hb1 hs2;obtain⟨z,hz⟩: ∃z,valid sigT c=z:=⟨_,rfl⟩;have HCT2:=hdq (show∀W x,Lies W u x->Calls Tryz.prog 118 #[x] W fun e w'=> ∃r,e= .returned (.tuple #[r, .bool z])/\Made W w' 25 (okT c) r/\Ext W w' from fun W x hx=> hz▸HCT.out W x hx);clear HCT;have HOK:=hdq (show z=true->okT c=c from fun h=> by unfold okT;rw[if_pos (hz.trans h)]);have HNO:=hdq (show z=false->valid sigT X=false from fun h=> Bool.eq_false_iff.2 fun h'=> by have:=hpart h';rw[hz,h] at this;cases this);have HCN:=hdq (show z=true->cnt X<=1000000 from fun h=> hcn (hz.trans h));clear hz hcn hpart;cases z with
 |false=>
  have E2:=HNO.out rfl;have E3:okT X=j14:=by unfold okT;rw[if_neg (by rw[E2];decide)]
  rw[E2,E3];clear HNO HOK HCN E2 E3 HPT;go_enter Tryz.func57,Tryz.ntmps57;go_wp2_with fail;rw[<-hwS];clear hwS;refine(HAT.out _ hx0).mono ?_;rintro e w1 ⟨x,rfl,hL,h1⟩;go_wp2_with fail;refine(HCT2.out _ _ hL).mono ?_;rintro e w2 ⟨r,rfl,hM,h2⟩;obtain⟨a1,a2,a3,a4,a5,rfl⟩:=hM.three';obtain⟨s0,s1,s2,f0,f1,f2⟩:=own3 (((h1.trans h2).trans ((xr w2).alloc (.cells #[.int .i64 a1, .int .i64 a2, .slice a3 a4 a5] 25))).blk hb1);go_wp2_with fail;refine bodyPost_ret (v:= .tuple #[.agg #[.int .i64 0, .int .i64 0, .slice none 0 0], .bool false]) (by simp[results,Tryz.results57,go_sem,s0,s1,s2]) rfl ⟨_,rfl,Made.leaf _ _ _ 0 0, ?_⟩;exact((((((hx0.trans h1).trans h2).alloc _).setCell (by simp) _).setCell (by simp) _).setCell (by simp) _)
 |true=>
  have E2:=HOK.out rfl;have HC:=HCN.out rfl;rw[E2] at HCT2;clear HNO HOK HCN E2;go_enter Tryz.func57,Tryz.ntmps57;go_wp2_with fail;rw[<-hwS];clear hwS;refine(HAT.out _ hx0).mono ?_;rintro e w1 ⟨x,rfl,hL,h1⟩;go_wp2_with fail;refine(HCT2.out _ _ hL).mono ?_;rintro e w2 ⟨r,rfl,hM,h2⟩;obtain⟨a1,a2,a3,a4,a5,rfl⟩:=hM.three';have h3:=(xr w2).alloc (.cells #[.int .i64 a1, .int .i64 a2, .slice a3 a4 a5] 25);have h13:=(h1.trans h2).trans h3;obtain⟨z0,z1,z2,-,-,-⟩:=own3 (h13.blk hb0);have hL3:=hM.lies.ext h3;clear hM hL;go_wp2_with fail;refine(HPT.out _ (hx0.trans h13) _ hL3).mono ?_;rintro e w4 ⟨y,rfl,hY,h4⟩;have hLY:Lies w4 X y:=InT.mono (fun b hb=> by rcases hb with h|h;exact Nat.lt_of_lt_of_le h h4.size;exact h.2) (fun _ _=> rfl) hY;clear hY hL3;go_wp2_with fail;refine(q45 _ _ _ hLY HC).mono ?_;rintro e w5 ⟨yo,rfl,hMo,h5⟩;go_wp2_with fail;refine(j40 hMo).mono ?_;rintro e w6 ⟨b1,b2,b3,b4,b5,rfl,hM6,h6⟩;have h16:=((h13.trans h4).trans h5).trans h6;obtain⟨s0,s1,s2,f0,f1,f2⟩:=own3 (h16.blk hb1);have hw4:w.heap.size+2<=w4.heap.size:=by have:=hx0.size;have:=(h13.trans h4).size;omega
  go_wp2_with fail;refine bodyPost_ret (v:= .tuple #[.agg #[.int .i64 b1, .int .i64 b2, .slice b3 b4 b5], .bool (valid sigT X)]) (by simp[results,Tryz.results57,go_sem,s0,s1,s2]) rfl ⟨_,rfl,Made.since (hM6.after ((((y28.refl _ _).setCell (p:=⟨w.heap.size+1,0,none⟩) (by show w.heap.size+1 < _;omega) (.int .i64 b1)).setCell (p:=⟨w.heap.size+1,1,none⟩) (by show w.heap.size+1 < _;omega) (.int .i64 b2)).setCell (p:=⟨w.heap.size+1,2,none⟩) (by show w.heap.size+1 < _;omega) (.slice b3 b4 b5))) (by omega), ?_⟩;exact((((hx0.trans h16).setCell (by simp) _).setCell (by simp) _).setCell (by simp) _)
end Go.Proofs.YtdkamgafpphdjaaGreat
