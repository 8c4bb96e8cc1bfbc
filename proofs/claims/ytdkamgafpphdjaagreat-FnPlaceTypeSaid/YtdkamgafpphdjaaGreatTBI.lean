/-
  Lemmas towards the law, 35: DrawX.
-/
import Derived.Test.YtdkamgafpphdjaaGreatTBF
namespace Go.Proofs.YtdkamgafpphdjaaGreat
open Go.RowKit
set_option linter.unusedVariables false
attribute [local go_sem ↓] Go.wp_at_zero Go.wp_at_succ
theorem y13.tailT{B:Nat}{w:World}{b o:Nat}{t:Tr}{ks:List Tr}(h:y13 B w (some ⟨b,o,none⟩) (t::ks)):y13 B w (some ⟨b,o+3,none⟩) ks:=by
 rcases h with h|⟨b',o',he,hb,hl⟩
 · cases h
 · simp only[Option.some.injEq,Addr.mk.injEq,and_true] at he
   obtain⟨rfl,rfl⟩:=he;exact .inr ⟨b,o+3,rfl,hb,InL.drop 1 hl⟩
theorem j16.from{W w:World}{e:TypeId}{v:Value}{ks:List Tr}(h:j16 (fun b=> b < W.heap.size) W w e v ks): ∃A cap,v= .slice A ks.length cap/\ks.length<=cap/\cap<=maxLen/\y13 W.heap.size w A ks:=by
 obtain⟨A,cap,h1,h2,h3,h4,-⟩:=h.lies (fun b hb=> hb);exact⟨A,cap,h1,h2,h3,InK.mono (fun b hb=>⟨by have:=hb.2;omega,hb.1⟩) (fun _ _=> rfl) h4⟩
theorem j16.off{W w w1:World}{e:TypeId}{v:Value}{ks:List Tr}{t:Tr}{u:Value}(h:j16 (fun b=> b < W.heap.size) W w e v ks)(hW:W.heap.size<=w.heap.size)(ht:From w.heap.size w1 t u):InT w1 (fun b=> b < w1.heap.size/\v.ownBlock≠some b/\ ¬b < W.heap.size) t u:=by
 obtain⟨xs,h1,h2⟩:=h;exact InT.mono (fun b hb=>⟨hb.2,fun he=> by have:=(h1.lt b he).2;have:=hb.1;omega,by have:=hb.1;omega⟩) (fun _ _=> rfl) ht
theorem j168:(Tryz.prog.info? 25).map (fun i=>(i.zero,i.size,i.bytes))=some (some (.agg #[.int .i64 0, .int .i64 0, .slice none 0 0]),3,40):=by kernel_rfl
set_option maxRecDepth 100000 in
set_option maxHeartbeats 40000000 in
theorem y127(ctx:List Tr)(t:Tr)(w:World)(g m:Nat)(v:Value)(A:Option Addr)(cap:Nat)(B:Nat)(hin:From B w t v)(hgB:g < B)(hK:j21 w A ctx)(hl:ctx.length<=cap)(hc:cap<=maxLen)(hcl:ctx.length<=8)(hcn: ∀x∈ctx,cnt x<=100000)(hct:cnt t<=100000)(hR:Rd w g m)(hm:m < 700000):
 Calls Tryz.prog 53 #[.pointer (some ⟨g,0,none⟩), .slice A ctx.length cap,v] w fun e w'=> ∃B n c ks t' u,e= .returned (.tuple #[.slice B n c,u])/\ks.length=n/\n<=c/\c<=maxLen/\n<=9/\y13 w.heap.size w' B ks/\From w.heap.size w' t' u/\Rd w' g (m+1030)/\Only [g] w w':=by
 obtain⟨i0,hi,hz0,hz1,hz2⟩:=info_parts j168;have hgl:=hR.lt;have HCN:=hdq hcn;have hcc:=hc;unfold maxLen at hcc;obtain⟨k,n,ks⟩:=t;obtain⟨At,ct,rfl,hlt0,hct0,hKt0'⟩:=InT.mk_iff.1 hin;have hKt0:y13 B w At ks:=hKt0';clear hKt0';obtain⟨KL,hKL⟩: ∃L,ks.length=L:=⟨_,rfl⟩;have HTM:=hdq (show∀W,y13 B W At ks->From B W (.mk k n ks) (.agg #[.int .i64 k, .int .i64 n, .slice At KL ct]) from fun W hW=> by rw[<-hKL];exact From.mk k n hW hlt0 hct0);have HKL:=hdq hKL;rw[hKL];clear hKL;have hx0:=((xr w).alloc (.cells #[.int .i64 k, .int .i64 n, .slice At KL ct] 25)).alloc (.cells #[.int .i64 0, .int .i64 0, .slice none 0 0] 25);obtain⟨hb0,hb1,hs0⟩:=blk2 (xr ((w.alloc (.cells #[.int .i64 k, .int .i64 n, .slice At KL ct] 25)).alloc (.cells #[.int .i64 0, .int .i64 0, .slice none 0 0] 25)));clear hin hcn;go_enter Tryz.func53,Tryz.ntmps53;go_wp2_with fail;generalize hw0:(w.alloc _).alloc _=w0 at hx0 hb0 hb1 hs0⊢;have hsz0:w0.heap.size=w.heap.size+2:=by rw[<-hw0];simp
 have HSZ:=hdq hsz0;have hszA:w0.heap.size<=w.heap.size+2:=Nat.le_of_eq hsz0;have hszB:w.heap.size+2<=w0.heap.size:=Nat.le_of_eq hsz0.symm;clear hsz0;clear hw0;have hg0:(w0.alloc (.cells #[] 25)).heap[w.heap.size+1+1]? =some (.cells #[] 25 (0,0)):=by rw[show w.heap.size+1+1=w0.heap.size by omega];exact heap_alloc_new w0 _
 have hG0:=j16.lit (X:=fun b=> b < w0.heap.size) (W:=w0) (e:=25) hg0 (by omega);clear hg0;have hB4:Ext w0 (w0.alloc (.cells #[] 25)):=(xr w0).alloc _;generalize World.alloc w0 _=w4 at hB4 hG0⊢
 go_loopw [8,9] (fun v i wr=> ∃(j:Nat),j<=ctx.length/\i= .int .i64 j/\j16 (fun b=> b < w0.heap.size) w0 wr 25 v (ctx.take j)/\Ext w0 wr) (fun _ i _=> ctx.length -(intOf i).toNat)
 case atStart=> exact⟨0,Nat.zero_le _,rfl,hG0,hB4⟩
 case round=>
  obtain⟨j,hj,rfl,hG,hx⟩:=hrel;by_cases hlt:j < ctx.length
  · obtain⟨b,o,k1,n1,A1,p1,kids1,rfl,HK1,c0,c1,c2,l1,m1,hK1,hin1,hmem1⟩:=hK.get (hx0.trans hx) hlt
    have hj':(j:Int) <(ctx.length:Int):=by omega
    have hl6:w0.heap.size<=wr.heap.size:=hx.size;have htk:=List.take_append_getElem hlt;rw[HK1.out] at htk;have HTK:=hdq htk;have hlen:(ctx.take j).length=j:=by rw[List.length_take];omega
    have HLEN:=hdq hlen;clear htk hlen hG0 hB4 hb0 hb1;go_wp2_with fail;refine(q40 _ _ _ hin1 (by have:=HCN.out _ hmem1;omega)).mono ?_;rintro e w2 ⟨u,rfl,hM,e2⟩;obtain⟨a1,a2,a3,a4,a5,rfl⟩:=hM.three';clear c0 c1 c2;have e3:=e2.alloc (.cells #[.int .i64 a1, .int .i64 a2, .slice a3 a4 a5] 25);have hG3:=hG.ext e3;have hF3:=hG.off hl6 ((From.made hM).ext ((xr w2).alloc (.cells #[.int .i64 a1, .int .i64 a2, .slice a3 a4 a5] 25)));go_wp2_with (at_builtin;refine y18 _ rfl (.tmp 17) (.tmp 23) 23 rfl 25 i0 _ Tryz.underlying23 hi hz0 hz1 hz2 rfl rfl hG3 (by have:=e3.size;omega) hF3 rfl (heap_alloc_new _ _) (by rw[HLEN.out];omega) ?_ (fun b hb=> hb))
    intro v' w5 hG5 hB5;obtain⟨B5,c5,rfl,-,-,-⟩:=hG5.lies (fun b hb=> hb);rw[HTK.out] at hG5;go_wp2_with fail
    go_roundw
    case rel=> exact⟨j+1,by omega,by go_num,by simpa[HTK.out] using hG5,(hx.trans e3).trans' hB5 (Nat.le_refl _)⟩
    case measure=> simp[intOf];omega
  · have hjl:ctx.take j=ctx:=List.take_of_length_le (by omega)
    rw[hjl] at hG;have hbt:=hx.blk hb0;have hbz:=hx.blk hb1;have hxr:=hx0.trans hx;have hsr:=hx.size;clear hG0 hB4 hb0 hb1 hjl hx;obtain⟨N,hN⟩: ∃N,ctx.length=N:=⟨_,rfl⟩;have HN:=hdq hN;obtain⟨Bv,cv,rfl,qv1,qv2,hKv⟩:=hG.from
    have hqv:=qv2;unfold maxLen at hqv;rw[hN] at qv1 hG⊢;rw[hN] at hl hcl;go_wp2_with fail;refine(q23 wr g m 30 (hR.ext hxr) (by omega)).mono ?_;rintro e w2 ⟨x,rfl,hx0',-,hR2,ho2⟩;have hG2:=hG.only ho2 (fun b hb=> by rw[List.mem_singleton.1 hb];show g < w0.heap.size;omega) (fun b hb=> hb);have hO2:Only [g] w w2:=(oE hxr).trans ho2;have hbt2:=ho2.keepBlk hbt (by simp;omega);have hbz2:=ho2.keepBlk hbz (by simp;omega);have hs2:w0.heap.size<=w2.heap.size:=by have:=ho2.size;omega
    have hK2:y13 (w.heap.size+2) w2 Bv ctx:=by
     have h9:=y13.only hKv ho2 (by intro b hb;rw[List.mem_singleton.1 hb];omega);rw[HSZ.out] at h9;exact h9
    clear hKv;clear hG hR ho2 hbt hbz hK HCN hx0 hxr hs0 hc hcc hl hsr;obtain⟨z0,z1,z2,-,-,-⟩:=own3 hbt2;by_cases hxa:x=0
    · subst hxa
      by_cases hN0:N=0
      · subst hN0
        have hTN:=HTM.out _ (y13.only hKt0 hO2 (by intro b hb;rw[List.mem_singleton.1 hb];exact hgB));have hsN:w0.heap.size<=w2.heap.size:=hs2;clear hG2;go_wp2_with fail;refine(j28 (.mk k n ks) w2 g _ _ hTN.lies (by omega) hR2 (by omega)).mono ?_;rintro e w9 ⟨t9,u9,rfl,-,hF9,hR9,ho9⟩;obtain⟨y1,y2,y3,y4,y5,rfl⟩:=hF9.three;obtain⟨s0,s1,s2,f0,f1,f2⟩:=own3 (ho9.keepBlk hbz2 (by simp;omega));have hs9:=ho9.size;have hK9:y13 (w.heap.size+2) w9 _ _:=y13.only hK2 ho9 (by intro b hb;rw[List.mem_singleton.1 hb];omega);have hO9:=Only.trans hO2 ho9;go_wp2_with fail;refine bodyPost_ret (v:= .tuple #[.slice Bv 0 cv, .agg #[.int .i64 y1, .int .i64 y2, .slice y3 y4 y5]]) (by simp[results,Tryz.results53,go_sem,s0,s1,s2]) rfl ⟨Bv,0,cv,ctx,t9,_,rfl,HN.out,qv1,qv2,(by omega), ?_, ?_, ?_, ?_⟩
        · refine InK.mono (fun b hb=>⟨by have:=hb.1;omega,by simpa using hb.2⟩) (fun b hb=> ?_) hK9
          have hb1:w.heap.size+2<=b:=hb.1;rw[Below.heap_setCell _ _ _ _ (by show b≠w.heap.size+1;omega),Below.heap_setCell _ _ _ _ (by show b≠w.heap.size+1;omega),Below.heap_setCell _ _ _ _ (by show b≠w.heap.size+1;omega)]
        · exact(((hF9.set (by show w.heap.size+1 < _;omega) _).set (by show w.heap.size+1 < _;omega) _).set (by show w.heap.size+1 < _;omega) _).since (by omega)
        · exact(((hR9.mono (show _<=m+1030 by omega)).set (p:=⟨w.heap.size+1,0,none⟩) (by show g < w.heap.size+1;omega) _).set (p:=⟨w.heap.size+1,1,none⟩) (by show g < w.heap.size+1;omega) _).set (p:=⟨w.heap.size+1,2,none⟩) (by show g < w.heap.size+1;omega) _
        · exact((hO9.setNew (by show w.heap.size<=w.heap.size+1;omega) _).setNew (by show w.heap.size<=w.heap.size+1;omega) _).setNew (by show w.heap.size<=w.heap.size+1;omega) _
      · have dn:decide ((0:Int) <(N:Int))=true:=decide_eq_true (by omega)
        obtain⟨c1,ctl,hctl⟩: ∃c1 ctl,ctx=c1::ctl:=by
         cases hh:ctx with
         |nil=> have:=HN.out;rw[hh] at this;simp at this;omega
         |cons c1 ctl=> exact⟨c1,ctl,rfl⟩
        have htl:ctl.length=N - 1:=by have:=HN.out;rw[hctl] at this;simp at this;omega
        have hBv: ∃g2,Bv=some ⟨g2,0,none⟩:=by
         obtain⟨A',c',h1,h2,h3,h4,h5⟩:=hG2.lies (fun b hb=> hb);simp only[Value.slice.injEq] at h1;obtain⟨rfl,-,rfl⟩:=h1;rcases h5 with h5|⟨g2,h5,-⟩
         · rw[hctl] at h5;cases h5
         · exact⟨g2,h5⟩
        obtain⟨g2,rfl⟩:=hBv;obtain⟨N1,rfl⟩: ∃N1,N=N1+1:=⟨N - 1,by omega⟩;rw[hctl] at hK2;have hKT:=y13.tailT hK2;have hHT:=hdq (show ctl.length=N1 by omega);simp only[Nat.zero_add] at hKT;have hKn:y13 (w.heap.size+2) w2 (some ⟨g2,0,none⟩) []:= .inl rfl;clear hG2 hK2 hctl htl;go_wp2_with fail
        · have hN1:N1=0:=by omega
          subst hN1;have hTN:=HTM.out _ (y13.only hKt0 hO2 (by intro b hb;rw[List.mem_singleton.1 hb];exact hgB));have hsN:w0.heap.size<=w2.heap.size:=hs2;go_wp2_with fail;refine(j28 (.mk k n ks) w2 g _ _ hTN.lies (by omega) hR2 (by omega)).mono ?_;rintro e w9 ⟨t9,u9,rfl,-,hF9,hR9,ho9⟩;obtain⟨y1,y2,y3,y4,y5,rfl⟩:=hF9.three;obtain⟨s0,s1,s2,f0,f1,f2⟩:=own3 (ho9.keepBlk hbz2 (by simp;omega));have hs9:=ho9.size;have hK9:y13 (w.heap.size+2) w9 _ _:=y13.only hKn ho9 (by intro b hb;rw[List.mem_singleton.1 hb];omega);have hO9:=Only.trans hO2 ho9;go_wp2_with fail;refine bodyPost_ret (v:= .tuple #[.slice (some ⟨g2,0,none⟩) 0 0, .agg #[.int .i64 y1, .int .i64 y2, .slice y3 y4 y5]]) (by simp[results,Tryz.results53,go_sem,s0,s1,s2]) rfl ⟨(some ⟨g2,0,none⟩),0,0, [],t9,_,rfl,rfl,(by omega),(by unfold maxLen;omega),(by omega), ?_, ?_, ?_, ?_⟩
          · refine InK.mono (fun b hb=>⟨by have:=hb.1;omega,by simpa using hb.2⟩) (fun b hb=> ?_) hK9
            have hb1:w.heap.size+2<=b:=hb.1;rw[Below.heap_setCell _ _ _ _ (by show b≠w.heap.size+1;omega),Below.heap_setCell _ _ _ _ (by show b≠w.heap.size+1;omega),Below.heap_setCell _ _ _ _ (by show b≠w.heap.size+1;omega)]
          · exact(((hF9.set (by show w.heap.size+1 < _;omega) _).set (by show w.heap.size+1 < _;omega) _).set (by show w.heap.size+1 < _;omega) _).since (by omega)
          · exact(((hR9.mono (show _<=m+1030 by omega)).set (p:=⟨w.heap.size+1,0,none⟩) (by show g < w.heap.size+1;omega) _).set (p:=⟨w.heap.size+1,1,none⟩) (by show g < w.heap.size+1;omega) _).set (p:=⟨w.heap.size+1,2,none⟩) (by show g < w.heap.size+1;omega) _
          · exact((hO9.setNew (by show w.heap.size<=w.heap.size+1;omega) _).setNew (by show w.heap.size<=w.heap.size+1;omega) _).setNew (by show w.heap.size<=w.heap.size+1;omega) _
        · have hcv:True:=trivial
          have hTN:=HTM.out _ (y13.only hKt0 hO2 (by intro b hb;rw[List.mem_singleton.1 hb];exact hgB));have hsN:w0.heap.size<=w2.heap.size:=hs2;go_wp2_with fail;refine(j28 (.mk k n ks) w2 g _ _ hTN.lies (by omega) hR2 (by omega)).mono ?_;rintro e w9 ⟨t9,u9,rfl,-,hF9,hR9,ho9⟩;obtain⟨y1,y2,y3,y4,y5,rfl⟩:=hF9.three;obtain⟨s0,s1,s2,f0,f1,f2⟩:=own3 (ho9.keepBlk hbz2 (by simp;omega));have hs9:=ho9.size;have hK9:y13 (w.heap.size+2) w9 _ _:=y13.only hKT ho9 (by intro b hb;rw[List.mem_singleton.1 hb];omega);have hO9:=Only.trans hO2 ho9;go_wp2_with fail;refine bodyPost_ret (v:= .tuple #[.slice (some ⟨g2,3,none⟩) N1 (cv - 1), .agg #[.int .i64 y1, .int .i64 y2, .slice y3 y4 y5]]) (by simp[results,Tryz.results53,go_sem,s0,s1,s2]) rfl ⟨(some ⟨g2,3,none⟩),N1,(cv - 1),ctl,t9,_,rfl,hHT.out,(by omega),(by unfold maxLen;omega),(by omega), ?_, ?_, ?_, ?_⟩
          · refine InK.mono (fun b hb=>⟨by have:=hb.1;omega,by simpa using hb.2⟩) (fun b hb=> ?_) hK9
            have hb1:w.heap.size+2<=b:=hb.1;rw[Below.heap_setCell _ _ _ _ (by show b≠w.heap.size+1;omega),Below.heap_setCell _ _ _ _ (by show b≠w.heap.size+1;omega),Below.heap_setCell _ _ _ _ (by show b≠w.heap.size+1;omega)]
          · exact(((hF9.set (by show w.heap.size+1 < _;omega) _).set (by show w.heap.size+1 < _;omega) _).set (by show w.heap.size+1 < _;omega) _).since (by omega)
          · exact(((hR9.mono (show _<=m+1030 by omega)).set (p:=⟨w.heap.size+1,0,none⟩) (by show g < w.heap.size+1;omega) _).set (p:=⟨w.heap.size+1,1,none⟩) (by show g < w.heap.size+1;omega) _).set (p:=⟨w.heap.size+1,2,none⟩) (by show g < w.heap.size+1;omega) _
          · exact((hO9.setNew (by show w.heap.size<=w.heap.size+1;omega) _).setNew (by show w.heap.size<=w.heap.size+1;omega) _).setNew (by show w.heap.size<=w.heap.size+1;omega) _
    · have exa:(x==0)=false:=beq_eq_false_iff_ne.2 hxa
      by_cases hxb:x=1
      · subst hxb
        go_wp2_with fail;refine(j100 w2 g _ hR2 (by omega)).mono ?_;rintro e w3 ⟨t1,u1,rfl,-,hF1,hR3,ho3⟩;obtain⟨a1,a2,a3,a4,a5,rfl⟩:=hF1.three;have hG3:=(hG2.only ho3 (fun b hb=> by rw[List.mem_singleton.1 hb];show g < w0.heap.size;omega) (fun b hb=> hb)).ext ((xr w3).alloc (.cells #[.int .i64 a1, .int .i64 a2, .slice a3 a4 a5] 25));have hF3:=hG2.off hs2 (hF1.ext ((xr w3).alloc (.cells #[.int .i64 a1, .int .i64 a2, .slice a3 a4 a5] 25)));have hO3:Only [g] w (w3.alloc (.cells #[.int .i64 a1, .int .i64 a2, .slice a3 a4 a5] 25)):=(hO2.trans ho3).trans (oE ((xr w3).alloc _));have hR3':=hR3.ext ((xr w3).alloc (.cells #[.int .i64 a1, .int .i64 a2, .slice a3 a4 a5] 25));have hbz3:=((xr w3).alloc (.cells #[.int .i64 a1, .int .i64 a2, .slice a3 a4 a5] 25)).blk (ho3.keepBlk hbz2 (by simp;omega));have hbt3:=((xr w3).alloc (.cells #[.int .i64 a1, .int .i64 a2, .slice a3 a4 a5] 25)).blk (ho3.keepBlk hbt2 (by simp;omega));have hs3:w0.heap.size<=(w3.alloc (.cells #[.int .i64 a1, .int .i64 a2, .slice a3 a4 a5] 25)).heap.size:=by have:=ho3.size;simp;omega
        clear hK2 hG2 hbt2 hbz2 hF1;go_wp2_with (at_builtin;refine y18 _ rfl (.tmp 36) (.tmp 39) 23 rfl 25 i0 _ Tryz.underlying23 hi hz0 hz1 hz2 rfl rfl hG3 hs3 hF3 rfl (heap_alloc_new _ _) (by rw[HN.out];omega) ?_ (fun b hb=> hb))
        intro v' w5 hG5 hB5;obtain⟨B5,c5,rfl,qa,qb,hK5⟩:=hG5.from
        have hO5:=hO3.below hB5 (by omega);have hR5:=hR3'.under hB5 (by omega);have hbz5:=(hB5.block _ (by omega)).trans hbz3;have hbt5:=(hB5.block _ (by omega)).trans hbt3;obtain⟨z0,z1,z2,-,-,-⟩:=own3 hbt5;have hs5:w0.heap.size<=w5.heap.size:=Nat.le_trans hs3 hB5.size;have hln:(ctx++ [t1]).length=N+1:=by rw[List.length_append,HN.out];rfl
        have HLN:=hdq hln;rw[hln] at qa⊢;rw[HSZ.out] at hK5;clear hG3 hF3 hO3 hR3' hbz3 hbt3 hs3 hG5 hln;have hTN:=HTM.out _ (y13.only hKt0 hO5 (by intro b hb;rw[List.mem_singleton.1 hb];exact hgB));have hsN:w0.heap.size<=w5.heap.size:=hs5;go_wp2_with fail;refine(j28 (.mk k n ks) w5 g _ _ hTN.lies (by omega) hR5 (by omega)).mono ?_;rintro e w9 ⟨t9,u9,rfl,-,hF9,hR9,ho9⟩;obtain⟨y1,y2,y3,y4,y5,rfl⟩:=hF9.three;obtain⟨s0,s1,s2,f0,f1,f2⟩:=own3 (ho9.keepBlk hbz5 (by simp;omega));have hs9:=ho9.size;have hK9:y13 (w.heap.size+2) w9 _ _:=y13.only hK5 ho9 (by intro b hb;rw[List.mem_singleton.1 hb];omega);have hO9:=Only.trans hO5 ho9;go_wp2_with fail;refine bodyPost_ret (v:= .tuple #[.slice B5 (N+1) c5, .agg #[.int .i64 y1, .int .i64 y2, .slice y3 y4 y5]]) (by simp[results,Tryz.results53,go_sem,s0,s1,s2]) rfl ⟨B5,(N+1),c5,(ctx++ [t1]),t9,_,rfl,HLN.out,qa,qb,(by omega), ?_, ?_, ?_, ?_⟩
        · refine InK.mono (fun b hb=>⟨by have:=hb.1;omega,by simpa using hb.2⟩) (fun b hb=> ?_) hK9
          have hb1:w.heap.size+2<=b:=hb.1;rw[Below.heap_setCell _ _ _ _ (by show b≠w.heap.size+1;omega),Below.heap_setCell _ _ _ _ (by show b≠w.heap.size+1;omega),Below.heap_setCell _ _ _ _ (by show b≠w.heap.size+1;omega)]
        · exact(((hF9.set (by show w.heap.size+1 < _;omega) _).set (by show w.heap.size+1 < _;omega) _).set (by show w.heap.size+1 < _;omega) _).since (by omega)
        · exact(((hR9.mono (show _<=m+1030 by omega)).set (p:=⟨w.heap.size+1,0,none⟩) (by show g < w.heap.size+1;omega) _).set (p:=⟨w.heap.size+1,1,none⟩) (by show g < w.heap.size+1;omega) _).set (p:=⟨w.heap.size+1,2,none⟩) (by show g < w.heap.size+1;omega) _
        · exact((hO9.setNew (by show w.heap.size<=w.heap.size+1;omega) _).setNew (by show w.heap.size<=w.heap.size+1;omega) _).setNew (by show w.heap.size<=w.heap.size+1;omega) _
      · have exb:(x==1)=false:=beq_eq_false_iff_ne.2 hxb
        by_cases hxc:x=2
        · subst hxc
          clear hK2;go_wp2_with fail
          go_loopw [8] (fun vo wr=> ∃(v:Value) (ks':List Tr),v=vo/\ks'.length<=9/\j16 (fun b=> b < w0.heap.size) w0 wr 25 v ks'/\Rd wr g (m+1)/\Only [g] w wr/\wr.heap[w.heap.size]? =some (.cells #[.int .i64 k, .int .i64 n, .slice At KL ct] 25 (0,0))/\wr.heap[w.heap.size+1]? =some (.cells #[.int .i64 0, .int .i64 0, .slice none 0 0] 25 (0,0))/\w0.heap.size<=wr.heap.size) (fun v _=> match v with| .slice _ n _=> 10 - n|_=> 0)
          case atStart=> exact⟨_,ctx,rfl,by rw[HN.out];omega,hG2,hR2,hO2,hbt2,hbz2,hs2⟩
          case round=>
           obtain⟨v,ks',rfl,hl9,hG',hR',hO',hbt',hbz',hs'⟩:=hrel;obtain⟨Bq,cq,rfl,qa,qb,hKq⟩:=hG'.from
           obtain⟨L,hL⟩: ∃L,ks'.length=L:=⟨_,rfl⟩;have HL:=hdq hL;rw[hL] at hl9 qa hG'⊢;clear hG2 hR2 hO2 hbt2 hbz2 hL;by_cases hlt:L<=8
           · have hd:decide ((L:Int)<=8)=true:=decide_eq_true (by omega)
             go_wp2_with fail;refine(j23 _ 6 0).mono ?_;rintro e w5 ⟨rfl,e5⟩;have hx6:=e5.alloc (.cells #[.int .i64 6, .int .i64 0, .slice none 0 0] 25);have hG6:=hG'.ext hx6;go_wp2_with (at_builtin;refine y18 _ rfl (.tmp 46) (.tmp 48) 23 rfl 25 i0 _ Tryz.underlying23 hi hz0 hz1 hz2 rfl rfl hG6 (by have:=hx6.size;omega) (InT.mk_iff.2 ⟨none,0,rfl,Nat.le_refl _,Nat.zero_le _, .inl rfl⟩) rfl (heap_alloc_new _ _) (by rw[HL.out];omega) ?_ (fun b hb=> hb))
             intro v' w7 hG7 hB7;obtain⟨A7,c7,rfl,-,-,-⟩:=hG7.from
             have hR7:=(hR'.ext hx6).under hB7 (by omega);have hO7:=(hO'.trans (oE hx6)).below hB7 (by omega);have hbt7:=(hB7.block _ (by omega)).trans (hx6.blk hbt');have hbz7:=(hB7.block _ (by omega)).trans (hx6.blk hbz');have hs7:w0.heap.size<=w7.heap.size:=by have:=hx6.size;have:=hB7.size;omega
             clear hG6;go_wp2_with fail
             go_roundw
             case rel=> exact⟨_,ks'++ [.mk 6 0 []],rfl,by rw[List.length_append,HL.out];simp;omega,hG7,hR7,hO7,hbt7,hbz7,hs7⟩
             case measure=> simp[HL.out];omega
           · have hd:decide ((L:Int)<=8)=false:=decide_eq_false (by omega)
             obtain⟨z0,z1,z2,-,-,-⟩:=own3 hbt';rw[HSZ.out] at hKq;have hTN:=HTM.out _ (y13.only hKt0 hO' (by intro b hb;rw[List.mem_singleton.1 hb];exact hgB));have hsN:w0.heap.size<=wr.heap.size:=hs';clear hG' hbt';go_wp2_with fail;refine(j28 (.mk k n ks) wr g _ _ hTN.lies (by omega) hR' (by omega)).mono ?_;rintro e w9 ⟨t9,u9,rfl,-,hF9,hR9,ho9⟩;obtain⟨y1,y2,y3,y4,y5,rfl⟩:=hF9.three;obtain⟨s0,s1,s2,f0,f1,f2⟩:=own3 (ho9.keepBlk hbz' (by simp;omega));have hs9:=ho9.size;have hK9:y13 (w.heap.size+2) w9 _ _:=y13.only hKq ho9 (by intro b hb;rw[List.mem_singleton.1 hb];omega);have hO9:=Only.trans hO' ho9;go_wp2_with fail;refine bodyPost_ret (v:= .tuple #[.slice Bq L cq, .agg #[.int .i64 y1, .int .i64 y2, .slice y3 y4 y5]]) (by simp[results,Tryz.results53,go_sem,s0,s1,s2]) rfl ⟨Bq,L,cq,ks',t9,_,rfl,HL.out,qa,qb,hl9, ?_, ?_, ?_, ?_⟩
             · refine InK.mono (fun b hb=>⟨by have:=hb.1;omega,by simpa using hb.2⟩) (fun b hb=> ?_) hK9
               have hb1:w.heap.size+2<=b:=hb.1;rw[Below.heap_setCell _ _ _ _ (by show b≠w.heap.size+1;omega),Below.heap_setCell _ _ _ _ (by show b≠w.heap.size+1;omega),Below.heap_setCell _ _ _ _ (by show b≠w.heap.size+1;omega)]
             · exact(((hF9.set (by show w.heap.size+1 < _;omega) _).set (by show w.heap.size+1 < _;omega) _).set (by show w.heap.size+1 < _;omega) _).since (by omega)
             · exact(((hR9.mono (show _<=m+1030 by omega)).set (p:=⟨w.heap.size+1,0,none⟩) (by show g < w.heap.size+1;omega) _).set (p:=⟨w.heap.size+1,1,none⟩) (by show g < w.heap.size+1;omega) _).set (p:=⟨w.heap.size+1,2,none⟩) (by show g < w.heap.size+1;omega) _
             · exact((hO9.setNew (by show w.heap.size<=w.heap.size+1;omega) _).setNew (by show w.heap.size<=w.heap.size+1;omega) _).setNew (by show w.heap.size<=w.heap.size+1;omega) _
        · have exc:(x==2)=false:=beq_eq_false_iff_ne.2 hxc
          by_cases hxd:x=3
          · subst hxd
            clear hG2;go_wp2_with fail;refine(j100 w2 g _ hR2 (by omega)).mono ?_;rintro e w9 ⟨t9,u9,rfl,-,hF9,hR9,ho9⟩;obtain⟨y1,y2,y3,y4,y5,rfl⟩:=hF9.three;obtain⟨s0,s1,s2,f0,f1,f2⟩:=own3 (ho9.keepBlk hbz2 (by simp;omega));have hs9:=ho9.size;have hK9:y13 (w.heap.size+2) w9 _ _:=y13.only hK2 ho9 (by intro b hb;rw[List.mem_singleton.1 hb];omega);have hO9:=Only.trans hO2 ho9;go_wp2_with fail;refine bodyPost_ret (v:= .tuple #[.slice Bv N cv, .agg #[.int .i64 y1, .int .i64 y2, .slice y3 y4 y5]]) (by simp[results,Tryz.results53,go_sem,s0,s1,s2]) rfl ⟨Bv,N,cv,ctx,t9,_,rfl,HN.out,qv1,qv2,(by omega), ?_, ?_, ?_, ?_⟩
            · refine InK.mono (fun b hb=>⟨by have:=hb.1;omega,by simpa using hb.2⟩) (fun b hb=> ?_) hK9
              have hb1:w.heap.size+2<=b:=hb.1;rw[Below.heap_setCell _ _ _ _ (by show b≠w.heap.size+1;omega),Below.heap_setCell _ _ _ _ (by show b≠w.heap.size+1;omega),Below.heap_setCell _ _ _ _ (by show b≠w.heap.size+1;omega)]
            · exact(((hF9.set (by show w.heap.size+1 < _;omega) _).set (by show w.heap.size+1 < _;omega) _).set (by show w.heap.size+1 < _;omega) _).since (by omega)
            · exact(((hR9.mono (show _<=m+1030 by omega)).set (p:=⟨w.heap.size+1,0,none⟩) (by show g < w.heap.size+1;omega) _).set (p:=⟨w.heap.size+1,1,none⟩) (by show g < w.heap.size+1;omega) _).set (p:=⟨w.heap.size+1,2,none⟩) (by show g < w.heap.size+1;omega) _
            · exact((hO9.setNew (by show w.heap.size<=w.heap.size+1;omega) _).setNew (by show w.heap.size<=w.heap.size+1;omega) _).setNew (by show w.heap.size<=w.heap.size+1;omega) _
          · have exd:(x==3)=false:=beq_eq_false_iff_ne.2 hxd
            by_cases hxe:x=4
            · subst hxe
              by_cases hk0:KL=0
              · subst hk0
                have hTN:=HTM.out _ (y13.only hKt0 hO2 (by intro b hb;rw[List.mem_singleton.1 hb];exact hgB));have hsN:w0.heap.size<=w2.heap.size:=hs2;clear hG2;go_wp2_with fail;refine(j28 (.mk k n ks) w2 g _ _ hTN.lies (by omega) hR2 (by omega)).mono ?_;rintro e w9 ⟨t9,u9,rfl,-,hF9,hR9,ho9⟩;obtain⟨y1,y2,y3,y4,y5,rfl⟩:=hF9.three;obtain⟨s0,s1,s2,f0,f1,f2⟩:=own3 (ho9.keepBlk hbz2 (by simp;omega));have hs9:=ho9.size;have hK9:y13 (w.heap.size+2) w9 _ _:=y13.only hK2 ho9 (by intro b hb;rw[List.mem_singleton.1 hb];omega);have hO9:=Only.trans hO2 ho9;go_wp2_with fail;refine bodyPost_ret (v:= .tuple #[.slice Bv N cv, .agg #[.int .i64 y1, .int .i64 y2, .slice y3 y4 y5]]) (by simp[results,Tryz.results53,go_sem,s0,s1,s2]) rfl ⟨Bv,N,cv,ctx,t9,_,rfl,HN.out,qv1,qv2,(by omega), ?_, ?_, ?_, ?_⟩
                · refine InK.mono (fun b hb=>⟨by have:=hb.1;omega,by simpa using hb.2⟩) (fun b hb=> ?_) hK9
                  have hb1:w.heap.size+2<=b:=hb.1;rw[Below.heap_setCell _ _ _ _ (by show b≠w.heap.size+1;omega),Below.heap_setCell _ _ _ _ (by show b≠w.heap.size+1;omega),Below.heap_setCell _ _ _ _ (by show b≠w.heap.size+1;omega)]
                · exact(((hF9.set (by show w.heap.size+1 < _;omega) _).set (by show w.heap.size+1 < _;omega) _).set (by show w.heap.size+1 < _;omega) _).since (by omega)
                · exact(((hR9.mono (show _<=m+1030 by omega)).set (p:=⟨w.heap.size+1,0,none⟩) (by show g < w.heap.size+1;omega) _).set (p:=⟨w.heap.size+1,1,none⟩) (by show g < w.heap.size+1;omega) _).set (p:=⟨w.heap.size+1,2,none⟩) (by show g < w.heap.size+1;omega) _
                · exact((hO9.setNew (by show w.heap.size<=w.heap.size+1;omega) _).setNew (by show w.heap.size<=w.heap.size+1;omega) _).setNew (by show w.heap.size<=w.heap.size+1;omega) _
              · have dk:decide ((0:Int) <(KL:Int))=true:=decide_eq_true (by omega)
                have hkp:(0:Int) <(KL:Int):=by omega
                have hkq:0 < KL:=by omega
                have HS:=hdq (show∀w',Only [g] w2 w'->w'.cell? ⟨w.heap.size,0,none⟩=some (.int .i64 k)/\w'.cell? ⟨w.heap.size,1,none⟩=some (.int .i64 n)/\w'.cell? ⟨w.heap.size,2,none⟩=some (.slice At KL ct) from fun w' hw=> by
                 obtain⟨y0,y1,y2,-,-,-⟩:=own3 (hw.keepBlk hbt2 (by simp;omega));exact⟨y0,y1,y2⟩)
                have HHS:=hdq (show∀w',Only [g] w2 w'-> ∀v0 v1 v2,(((w'.setCell ⟨w.heap.size+1,0,none⟩ v0).setCell ⟨w.heap.size+1,1,none⟩ v1).setCell ⟨w.heap.size+1,2,none⟩ v2).cell? ⟨w.heap.size,0,none⟩=some (.int .i64 k)/\(((w'.setCell ⟨w.heap.size+1,0,none⟩ v0).setCell ⟨w.heap.size+1,1,none⟩ v1).setCell ⟨w.heap.size+1,2,none⟩ v2).cell? ⟨w.heap.size,1,none⟩=some (.int .i64 n)/\(((w'.setCell ⟨w.heap.size+1,0,none⟩ v0).setCell ⟨w.heap.size+1,1,none⟩ v1).setCell ⟨w.heap.size+1,2,none⟩ v2).cell? ⟨w.heap.size,2,none⟩=some (.slice At KL ct) from fun w' hw v0 v1 v2=> by
                 obtain⟨y0,y1,y2,-,-,-⟩:=own3 (j11 (j11 (j11 (hw.keepBlk hbt2 (by simp;omega)) (p:=⟨w.heap.size+1,0,none⟩) (by show w.heap.size≠w.heap.size+1;omega) v0) (p:=⟨w.heap.size+1,1,none⟩) (by show w.heap.size≠w.heap.size+1;omega) v1) (p:=⟨w.heap.size+1,2,none⟩) (by show w.heap.size≠w.heap.size+1;omega) v2);exact⟨y0,y1,y2⟩)
                have hT2:=y13.only hKt0 hO2 (by intro b hb;rw[List.mem_singleton.1 hb];exact hgB);have HT:=hdq (show∀w',Only [g] w2 w'->Lies w' (.mk k n ks) (.agg #[.int .i64 k, .int .i64 n, .slice At KL ct]) from fun w' hw=>(HTM.out _ (hT2.only hw (by intro b hb;rw[List.mem_singleton.1 hb];exact hgB))).lies);have HBZ:=hdq (show∀w',Only [g] w2 w'->w'.heap[w.heap.size+1]? =some (.cells #[.int .i64 0, .int .i64 0, .slice none 0 0] 25 (0,0)) from fun w' hw=> hw.keepBlk hbz2 (by simp;omega));have hD:Only [g] w2 w2.drew:=oE (xr w2).drew;obtain⟨z0,z1,z2,-,-,-⟩:=own3 hbt2;clear hG2 hT2 hbz2;go_wp2_with fail;clear z0 z1 z2 hbt2
                go_region_held3 (fun w'=> w'.cell? ⟨w.heap.size,0,none⟩=some (.int .i64 k)/\w'.cell? ⟨w.heap.size,1,none⟩=some (.int .i64 n)/\w'.cell? ⟨w.heap.size,2,none⟩=some (.slice At KL ct))
                 (first|exact HHS.out _ ((hD.trans ho6).trans ho7|>.trans (oE e9)) _ _ _|exact HS.out _ ((hD.trans ho6).trans ho7|>.trans (oE e9)) |exact HS.out _ ((hD.trans ho6).trans ho7) |exact HS.out _ (hD.trans ho6) |exact HS.out _ hD)
                 (first
                  |(go_at_call 99;refine(q23 _ g _ (KL:Int) (hR2.ext (xr w2).drew) (by omega)).mono ?_;rintro e w6 ⟨x6,rfl,hx60,hx61,hR6,ho6⟩;obtain⟨j6,rfl⟩:=Int.eq_ofNat_of_zero_le hx60;have hj6:j6 < ks.length:=(by rw[HKL.out];omega))
                  |(go_at_call 101;refine(j100 _ g _ hR6 (by omega)).mono ?_;rintro e w7 ⟨t7,u7,rfl,-,hF7,hR7,ho7⟩;obtain⟨d1,d2,d3,d4,d5,rfl⟩:=hF7.three)
                  |(go_at_call 114;refine(q164 k n ks t7 j6 w6.heap.size w7 _ _ (HT.out _ ((hD.trans ho6).trans ho7)) hF7 ho7.size hj6 (by omega)).mono ?_;rintro e w9 ⟨u9,rfl,hF9,e9⟩;obtain⟨y1,y2,y3,y4,y5,rfl⟩:=hF9.three;obtain⟨s0,s1,s2,f0,f1,f2⟩:=own3 (e9.blk (HBZ.out _ ((hD.trans ho6).trans ho7)))))
                all_goals(
                 have hs9:w2.heap.size<=w9.heap.size:=(by have:=((hD.trans ho6).trans ho7).size;have:=e9.size;omega);have hK9:y13 (w.heap.size+2) w9 _ _:=(y13.only hK2 ((hD.trans ho6).trans ho7) (by intro b hb;rw[List.mem_singleton.1 hb];omega)).ext e9;have hO9:Only [g] w w9:=(hO2.trans ((hD.trans ho6).trans ho7)).trans (oE e9);have hR9:=hR7.ext e9;have hs6:w2.heap.size<=w6.heap.size:=(hD.trans ho6).size;go_wp2_with fail;refine bodyPost_ret (v:= .tuple #[.slice Bv N cv, .agg #[.int .i64 y1, .int .i64 y2, .slice y3 y4 y5]]) (by simp[results,Tryz.results53,go_sem,s0,s1,s2]) rfl ⟨Bv,N,cv,ctx,(.mk k n (ks.set j6 t7)),_,rfl,HN.out,qv1,qv2,(by omega), ?_, ?_, ?_, ?_⟩
                 · refine InK.mono (fun b hb=>⟨by have:=hb.1;omega,by simpa using hb.2⟩) (fun b hb=> ?_) hK9
                   have hb1:w.heap.size+2<=b:=hb.1;rw[Below.heap_setCell _ _ _ _ (by show b≠w.heap.size+1;omega),Below.heap_setCell _ _ _ _ (by show b≠w.heap.size+1;omega),Below.heap_setCell _ _ _ _ (by show b≠w.heap.size+1;omega)]
                 · exact(((hF9.set (by show w.heap.size+1 < _;omega) _).set (by show w.heap.size+1 < _;omega) _).set (by show w.heap.size+1 < _;omega) _).since (by omega)
                 · exact(((hR9.mono (show _<=m+1030 by omega)).set (p:=⟨w.heap.size+1,0,none⟩) (by show g < w.heap.size+1;omega) _).set (p:=⟨w.heap.size+1,1,none⟩) (by show g < w.heap.size+1;omega) _).set (p:=⟨w.heap.size+1,2,none⟩) (by show g < w.heap.size+1;omega) _
                 · exact((hO9.setNew (by show w.heap.size<=w.heap.size+1;omega) _).setNew (by show w.heap.size<=w.heap.size+1;omega) _).setNew (by show w.heap.size<=w.heap.size+1;omega) _)
            · have exe:(x==4)=false:=beq_eq_false_iff_ne.2 hxe
              have hTN:=HTM.out _ (y13.only hKt0 hO2 (by intro b hb;rw[List.mem_singleton.1 hb];exact hgB));have hsN:w0.heap.size<=w2.heap.size:=hs2;clear hG2;go_wp2_with fail;refine(j28 (.mk k n ks) w2 g _ _ hTN.lies (by omega) hR2 (by omega)).mono ?_;rintro e w9 ⟨t9,u9,rfl,-,hF9,hR9,ho9⟩;obtain⟨y1,y2,y3,y4,y5,rfl⟩:=hF9.three;obtain⟨s0,s1,s2,f0,f1,f2⟩:=own3 (ho9.keepBlk hbz2 (by simp;omega));have hs9:=ho9.size;have hK9:y13 (w.heap.size+2) w9 _ _:=y13.only hK2 ho9 (by intro b hb;rw[List.mem_singleton.1 hb];omega);have hO9:=Only.trans hO2 ho9;go_wp2_with fail;refine bodyPost_ret (v:= .tuple #[.slice Bv N cv, .agg #[.int .i64 y1, .int .i64 y2, .slice y3 y4 y5]]) (by simp[results,Tryz.results53,go_sem,s0,s1,s2]) rfl ⟨Bv,N,cv,ctx,t9,_,rfl,HN.out,qv1,qv2,(by omega), ?_, ?_, ?_, ?_⟩
              · refine InK.mono (fun b hb=>⟨by have:=hb.1;omega,by simpa using hb.2⟩) (fun b hb=> ?_) hK9
                have hb1:w.heap.size+2<=b:=hb.1;rw[Below.heap_setCell _ _ _ _ (by show b≠w.heap.size+1;omega),Below.heap_setCell _ _ _ _ (by show b≠w.heap.size+1;omega),Below.heap_setCell _ _ _ _ (by show b≠w.heap.size+1;omega)]
              · exact(((hF9.set (by show w.heap.size+1 < _;omega) _).set (by show w.heap.size+1 < _;omega) _).set (by show w.heap.size+1 < _;omega) _).since (by omega)
              · exact(((hR9.mono (show _<=m+1030 by omega)).set (p:=⟨w.heap.size+1,0,none⟩) (by show g < w.heap.size+1;omega) _).set (p:=⟨w.heap.size+1,1,none⟩) (by show g < w.heap.size+1;omega) _).set (p:=⟨w.heap.size+1,2,none⟩) (by show g < w.heap.size+1;omega) _
              · exact((hO9.setNew (by show w.heap.size<=w.heap.size+1;omega) _).setNew (by show w.heap.size<=w.heap.size+1;omega) _).setNew (by show w.heap.size<=w.heap.size+1;omega) _
end Go.Proofs.YtdkamgafpphdjaaGreat
