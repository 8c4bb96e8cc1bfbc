/-
  Lemmas towards the law, 23: DrawX, DrawY.
-/
import Derived.Test.YtbnkbepgmenblaaGreatTAU
set_option linter.unusedVariables false
set_option maxHeartbeats 40000000
set_option maxRecDepth 100000
namespace Go.Proofs.YtbnkbepgmenblaaGreat
open Go.RowKit
attribute [local go_sem ↓] Go.wp_at_zero Go.wp_at_succ
theorem j14.tailT{B:Nat}{w:World}{b o:Nat}{t:Tr}{ks:List Tr}(h:j14 B w (some ⟨b,o,none⟩) (t::ks)):j14 B w (some ⟨b,o+3,none⟩) ks:=by
 rcases h with h|⟨b',o',he,hb,hl⟩
 · cases h
 · simp only[Option.some.injEq,Addr.mk.injEq,and_true] at he
   obtain⟨rfl,rfl⟩:=he;exact .inr ⟨b,o+3,rfl,hb,InL.drop 1 hl⟩
theorem q19.from{W w:World}{e:TypeId}{v:Value}{ks:List Tr}(h:q19 (fun b=> b < W.heap.size) W w e v ks): ∃A cap,v= .slice A ks.length cap/\ks.length<=cap/\cap<=maxLen/\j14 W.heap.size w A ks:=by
 obtain⟨A,cap,h1,h2,h3,h4,-⟩:=h.lies (fun b hb=> hb);exact⟨A,cap,h1,h2,h3,InK.mono (fun b hb=>⟨by have:=hb.2;omega,hb.1⟩) (fun _ _=> rfl) h4⟩
theorem q19.off{W w w1:World}{e:TypeId}{v:Value}{ks:List Tr}{t:Tr}{u:Value}(h:q19 (fun b=> b < W.heap.size) W w e v ks)(hW:W.heap.size<=w.heap.size)(ht:From w.heap.size w1 t u):InT w1 (fun b=> b < w1.heap.size/\v.ownBlock≠some b/\ ¬b < W.heap.size) t u:=by
 obtain⟨xs,h1,h2⟩:=h;exact InT.mono (fun b hb=>⟨hb.2,fun he=> by have:=(h1.lt b he).2;have:=hb.1;omega,by have:=hb.1;omega⟩) (fun _ _=> rfl) ht
theorem q176:(Tryz.prog.info? 25).map (fun i=>(i.zero,i.size,i.bytes))=some (some (.agg #[.int .i64 0,.int .i64 0,.slice none 0 0]),3,40):=by kernel_rfl
theorem q134(ctx:List Tr)(t:Tr)(w:World)(g m:Nat)(v:Value)(A:Option Addr)(cap:Nat)(B:Nat)(j7:From B w t v)(Z3:g < B)(hK:j26 w A ctx)(hl:ctx.length<=cap)(hc:cap<=maxLen)(Bt:ctx.length<=8)(I1: ∀x∈ctx,cnt x<=100000)(p6:cnt t<=100000)(hR:Rd w g m)(hm:m < 700000):
 Calls Tryz.prog 48 #[.pointer (some ⟨g,0,none⟩),.slice A ctx.length cap,v] w fun e w'=> ∃B n c ks t' u,e= .returned (.tuple #[.slice B n c,u])/\ks.length=n/\n<=c/\c<=maxLen/\n<=9/\j14 w.heap.size w' B ks/\From w.heap.size w' t' u/\Rd w' g (m+1030)/\Only [g] w w':=by
 obtain⟨i0,hi,hz0,hz1,hz2⟩:=info_parts q176;have G0:=hR.lt;have ud:=hdq I1;have hcc:=hc;unfold maxLen at hcc;obtain⟨k,n,ks⟩:=t;obtain⟨At,ct,rfl,I8,hct0,Et⟩:=InT.mk_iff.1 j7;have kh:j14 B w At ks:=Et;clear Et;obtain⟨KL,Kn⟩: ∃L,ks.length=L:=⟨_,rfl⟩;have um:=hdq (show∀W,j14 B W At ks->From B W (.mk k n ks) (.agg #[.int .i64 k,.int .i64 n,.slice At KL ct]) from fun W hW=> by rw[<-Kn];exact From.mk k n hW I8 hct0);have Kp:=hdq Kn;rw[Kn];clear Kn;have hx0:=((xr w).alloc (.cells #[.int .i64 k,.int .i64 n,.slice At KL ct] 25)).alloc (.cells #[.int .i64 0,.int .i64 0,.slice none 0 0] 25);obtain⟨hb0,hb1,hs0⟩:=blk2 (xr ((w.alloc (.cells #[.int .i64 k,.int .i64 n,.slice At KL ct] 25)).alloc (.cells #[.int .i64 0,.int .i64 0,.slice none 0 0] 25)));clear j7 I1;go_enter Tryz.func48,Tryz.ntmps48;go_wp2_with fail;generalize hw0:(w.alloc _).alloc _=w0 at hx0 hb0 hb1 hs0⊢;have zx:w0.heap.size=w.heap.size+2:=by rw[<-hw0];simp
 have Gz:=hdq zx;have hszA:w0.heap.size<=w.heap.size+2:=Nat.le_of_eq zx;have hszB:w.heap.size+2<=w0.heap.size:=Nat.le_of_eq zx.symm;clear zx;clear hw0;have hg0:(w0.alloc (.cells #[] 25)).heap[w.heap.size+1+1]? =some (.cells #[] 25 (0,0)):=by rw[show w.heap.size+1+1=w0.heap.size by omega];exact heap_alloc_new w0 _
 have fo:=q19.lit (X:=fun b=> b < w0.heap.size) (W:=w0) (e:=25) hg0 (by omega);clear hg0;have Vf:Ext w0 (w0.alloc (.cells #[] 25)):=(xr w0).alloc _;generalize World.alloc w0 _=w4 at Vf fo⊢
 go_loopw [8,9] (fun v i wr=> ∃(j:Nat),j<=ctx.length/\i= .int .i64 j/\q19 (fun b=> b < w0.heap.size) w0 wr 25 v (ctx.take j)/\Ext w0 wr) (fun _ i _=> ctx.length -(intOf i).toNat)
 case atStart=> exact⟨0,Nat.zero_le _,rfl,fo,Vf⟩
 case round=>
  obtain⟨j,hj,rfl,hG,hx⟩:=hrel;by_cases hlt:j < ctx.length
  · obtain⟨b,o,k1,n1,A1,p1,j9,rfl,N0,c0,c1,c2,l1,m1,Q3,D2,u6⟩:=hK.get (hx0.trans hx) hlt
    have hj':(j:Int) <(ctx.length:Int):=by omega
    have Xi:w0.heap.size<=wr.heap.size:=hx.size;have L8:=List.take_append_getElem hlt;rw[N0.out] at L8;have qw:=hdq L8;have hlen:(ctx.take j).length=j:=by rw[List.length_take];omega
    have HLEN:=hdq hlen;clear L8 hlen fo Vf hb0 hb1;go_wp2_with fail;refine(j29 _ _ _ D2 (by have:=ud.out _ u6;omega)).mono ?_;rintro e w2 ⟨u,rfl,hM,e2⟩;obtain⟨a1,a2,a3,a4,a5,rfl⟩:=hM.three';clear c0 c1 c2;have e3:=e2.alloc (.cells #[.int .i64 a1,.int .i64 a2,.slice a3 a4 a5] 25);have Ug:=hG.ext e3;have ep:=hG.off Xi ((From.made hM).ext ((xr w2).alloc (.cells #[.int .i64 a1,.int .i64 a2,.slice a3 a4 a5] 25)));go_wp2_with (at_builtin;refine j18 _ rfl (.tmp 17) (.tmp 23) 23 rfl 25 i0 _ Tryz.underlying23 hi hz0 hz1 hz2 rfl rfl Ug (by have:=e3.size;omega) ep rfl (heap_alloc_new _ _) (by rw[HLEN.out];omega) ?_ (fun b hb=> hb))
    intro v' w5 G7 E6;obtain⟨B5,c5,rfl,-,-,-⟩:=G7.lies (fun b hb=> hb);rw[qw.out] at G7;go_wp2_with fail
    go_roundw
    case rel=> exact⟨j+1,by omega,by go_num,by simpa[qw.out] using G7,(hx.trans e3).trans' E6 (Nat.le_refl _)⟩
    case measure=> simp[intOf];omega
  · have M0:ctx.take j=ctx:=List.take_of_length_le (by omega)
    rw[M0] at hG;have hbt:=hx.blk hb0;have Ub:=hx.blk hb1;have Yn:=hx0.trans hx;have hsr:=hx.size;clear fo Vf hb0 hb1 M0 hx;obtain⟨N,hN⟩: ∃N,ctx.length=N:=⟨_,rfl⟩;have HN:=hdq hN;obtain⟨Bv,cv,rfl,Kj,Ks,Oh⟩:=hG.from
    have hqv:=Ks;unfold maxLen at hqv;rw[hN] at Kj hG⊢;rw[hN] at hl Bt;go_wp2_with fail;refine(j23 wr g m 30 (hR.ext Yn) (by omega)).mono ?_;rintro e w2 ⟨x,rfl,hx0',-,M9,ig⟩;have N4:=hG.only ig (fun b hb=> by rw[List.mem_singleton.1 hb];show g < w0.heap.size;omega) (fun b hb=> hb);have M4:Only [g] w w2:=(oE Yn).trans ig;have iw:=ig.keepBlk hbt (by simp;omega);have R8:=ig.keepBlk Ub (by simp;omega);have hs2:w0.heap.size<=w2.heap.size:=by have:=ig.size;omega
    have hK2:j14 (w.heap.size+2) w2 Bv ctx:=by
     have h9:=j14.only Oh ig (by intro b hb;rw[List.mem_singleton.1 hb];omega);rw[Gz.out] at h9;exact h9
    clear Oh;clear hG hR ig hbt Ub hK ud hx0 Yn hs0 hc hcc hl hsr;obtain⟨z0,z1,z2,-,-,-⟩:=own3 iw;by_cases F6:x=0
    · subst F6
      by_cases hN0:N=0
      · subst hN0
        have sf:=um.out _ (j14.only kh M4 (by intro b hb;rw[List.mem_singleton.1 hb];exact Z3));have Kk:w0.heap.size<=w2.heap.size:=hs2;clear N4;go_wp2_with fail;refine(y31 (.mk k n ks) w2 g _ _ sf.lies (by omega) M9 (by omega)).mono ?_;rintro e w9 ⟨t9,u9,rfl,-,Z0,ib,N7⟩;obtain⟨y1,y2,y3,y4,y5,rfl⟩:=Z0.three;obtain⟨s0,s1,s2,f0,f1,f2⟩:=own3 (N7.keepBlk R8 (by simp;omega));have Ch:=N7.size;have V3:j14 (w.heap.size+2) w9 _ _:=j14.only hK2 N7 (by intro b hb;rw[List.mem_singleton.1 hb];omega);have kj:=Only.trans M4 N7;go_wp2_with fail;refine bodyPost_ret (v:= .tuple #[.slice Bv 0 cv,.agg #[.int .i64 y1,.int .i64 y2,.slice y3 y4 y5]]) (by simp[results,Tryz.results48,go_sem,s0,s1,s2]) rfl ⟨Bv,0,cv,ctx,t9,_,rfl,HN.out,Kj,Ks,(by omega), ?_, ?_, ?_, ?_⟩
        · refine InK.mono (fun b hb=>⟨by have:=hb.1;omega,by simpa using hb.2⟩) (fun b hb=> ?_) V3
          have hb1:w.heap.size+2<=b:=hb.1;rw[Below.heap_setCell _ _ _ _ (by show b≠w.heap.size+1;omega),Below.heap_setCell _ _ _ _ (by show b≠w.heap.size+1;omega),Below.heap_setCell _ _ _ _ (by show b≠w.heap.size+1;omega)]
        · exact(((Z0.set (by show w.heap.size+1 < _;omega) _).set (by show w.heap.size+1 < _;omega) _).set (by show w.heap.size+1 < _;omega) _).since (by omega)
        · exact(((ib.mono (show _<=m+1030 by omega)).set (p:=⟨w.heap.size+1,0,none⟩) (by show g < w.heap.size+1;omega) _).set (p:=⟨w.heap.size+1,1,none⟩) (by show g < w.heap.size+1;omega) _).set (p:=⟨w.heap.size+1,2,none⟩) (by show g < w.heap.size+1;omega) _
        · exact((kj.setNew (by show w.heap.size<=w.heap.size+1;omega) _).setNew (by show w.heap.size<=w.heap.size+1;omega) _).setNew (by show w.heap.size<=w.heap.size+1;omega) _
      · have dn:decide ((0:Int) <(N:Int))=true:=decide_eq_true (by omega)
        obtain⟨c1,ctl,Dk⟩: ∃c1 ctl,ctx=c1::ctl:=by
         cases hh:ctx with
         |nil=> have:=HN.out;rw[hh] at this;simp at this;omega
         |cons c1 ctl=> exact⟨c1,ctl,rfl⟩
        have bi:ctl.length=N - 1:=by have:=HN.out;rw[Dk] at this;simp at this;omega
        have hBv: ∃g2,Bv=some ⟨g2,0,none⟩:=by
         obtain⟨A',c',h1,h2,h3,h4,h5⟩:=N4.lies (fun b hb=> hb);simp only[Value.slice.injEq] at h1;obtain⟨rfl,-,rfl⟩:=h1;rcases h5 with h5|⟨g2,h5,-⟩
         · rw[Dk] at h5;cases h5
         · exact⟨g2,h5⟩
        obtain⟨g2,rfl⟩:=hBv;obtain⟨N1,rfl⟩: ∃N1,N=N1+1:=⟨N - 1,by omega⟩;rw[Dk] at hK2;have hKT:=j14.tailT hK2;have hHT:=hdq (show ctl.length=N1 by omega);simp only[Nat.zero_add] at hKT;have hKn:j14 (w.heap.size+2) w2 (some ⟨g2,0,none⟩) []:= .inl rfl;clear N4 hK2 Dk bi;go_wp2_with fail
        · have Wo:N1=0:=by omega
          subst Wo;have sf:=um.out _ (j14.only kh M4 (by intro b hb;rw[List.mem_singleton.1 hb];exact Z3));have Kk:w0.heap.size<=w2.heap.size:=hs2;go_wp2_with fail;refine(y31 (.mk k n ks) w2 g _ _ sf.lies (by omega) M9 (by omega)).mono ?_;rintro e w9 ⟨t9,u9,rfl,-,Z0,ib,N7⟩;obtain⟨y1,y2,y3,y4,y5,rfl⟩:=Z0.three;obtain⟨s0,s1,s2,f0,f1,f2⟩:=own3 (N7.keepBlk R8 (by simp;omega));have Ch:=N7.size;have V3:j14 (w.heap.size+2) w9 _ _:=j14.only hKn N7 (by intro b hb;rw[List.mem_singleton.1 hb];omega);have kj:=Only.trans M4 N7;go_wp2_with fail;refine bodyPost_ret (v:= .tuple #[.slice (some ⟨g2,0,none⟩) 0 0,.agg #[.int .i64 y1,.int .i64 y2,.slice y3 y4 y5]]) (by simp[results,Tryz.results48,go_sem,s0,s1,s2]) rfl ⟨(some ⟨g2,0,none⟩),0,0, [],t9,_,rfl,rfl,(by omega),(by unfold maxLen;omega),(by omega), ?_, ?_, ?_, ?_⟩
          · refine InK.mono (fun b hb=>⟨by have:=hb.1;omega,by simpa using hb.2⟩) (fun b hb=> ?_) V3
            have hb1:w.heap.size+2<=b:=hb.1;rw[Below.heap_setCell _ _ _ _ (by show b≠w.heap.size+1;omega),Below.heap_setCell _ _ _ _ (by show b≠w.heap.size+1;omega),Below.heap_setCell _ _ _ _ (by show b≠w.heap.size+1;omega)]
          · exact(((Z0.set (by show w.heap.size+1 < _;omega) _).set (by show w.heap.size+1 < _;omega) _).set (by show w.heap.size+1 < _;omega) _).since (by omega)
          · exact(((ib.mono (show _<=m+1030 by omega)).set (p:=⟨w.heap.size+1,0,none⟩) (by show g < w.heap.size+1;omega) _).set (p:=⟨w.heap.size+1,1,none⟩) (by show g < w.heap.size+1;omega) _).set (p:=⟨w.heap.size+1,2,none⟩) (by show g < w.heap.size+1;omega) _
          · exact((kj.setNew (by show w.heap.size<=w.heap.size+1;omega) _).setNew (by show w.heap.size<=w.heap.size+1;omega) _).setNew (by show w.heap.size<=w.heap.size+1;omega) _
        · have hcv:True:=trivial
          have sf:=um.out _ (j14.only kh M4 (by intro b hb;rw[List.mem_singleton.1 hb];exact Z3));have Kk:w0.heap.size<=w2.heap.size:=hs2;go_wp2_with fail;refine(y31 (.mk k n ks) w2 g _ _ sf.lies (by omega) M9 (by omega)).mono ?_;rintro e w9 ⟨t9,u9,rfl,-,Z0,ib,N7⟩;obtain⟨y1,y2,y3,y4,y5,rfl⟩:=Z0.three;obtain⟨s0,s1,s2,f0,f1,f2⟩:=own3 (N7.keepBlk R8 (by simp;omega));have Ch:=N7.size;have V3:j14 (w.heap.size+2) w9 _ _:=j14.only hKT N7 (by intro b hb;rw[List.mem_singleton.1 hb];omega);have kj:=Only.trans M4 N7;go_wp2_with fail;refine bodyPost_ret (v:= .tuple #[.slice (some ⟨g2,3,none⟩) N1 (cv - 1),.agg #[.int .i64 y1,.int .i64 y2,.slice y3 y4 y5]]) (by simp[results,Tryz.results48,go_sem,s0,s1,s2]) rfl ⟨(some ⟨g2,3,none⟩),N1,(cv - 1),ctl,t9,_,rfl,hHT.out,(by omega),(by unfold maxLen;omega),(by omega), ?_, ?_, ?_, ?_⟩
          · refine InK.mono (fun b hb=>⟨by have:=hb.1;omega,by simpa using hb.2⟩) (fun b hb=> ?_) V3
            have hb1:w.heap.size+2<=b:=hb.1;rw[Below.heap_setCell _ _ _ _ (by show b≠w.heap.size+1;omega),Below.heap_setCell _ _ _ _ (by show b≠w.heap.size+1;omega),Below.heap_setCell _ _ _ _ (by show b≠w.heap.size+1;omega)]
          · exact(((Z0.set (by show w.heap.size+1 < _;omega) _).set (by show w.heap.size+1 < _;omega) _).set (by show w.heap.size+1 < _;omega) _).since (by omega)
          · exact(((ib.mono (show _<=m+1030 by omega)).set (p:=⟨w.heap.size+1,0,none⟩) (by show g < w.heap.size+1;omega) _).set (p:=⟨w.heap.size+1,1,none⟩) (by show g < w.heap.size+1;omega) _).set (p:=⟨w.heap.size+1,2,none⟩) (by show g < w.heap.size+1;omega) _
          · exact((kj.setNew (by show w.heap.size<=w.heap.size+1;omega) _).setNew (by show w.heap.size<=w.heap.size+1;omega) _).setNew (by show w.heap.size<=w.heap.size+1;omega) _
    · have exa:(x==0)=false:=beq_eq_false_iff_ne.2 F6
      by_cases O7:x=1
      · subst O7
        go_wp2_with fail;refine(q104 w2 g _ M9 (by omega)).mono ?_;rintro e w3 ⟨t1,u1,rfl,-,ek,L9,Z7⟩;obtain⟨a1,a2,a3,a4,a5,rfl⟩:=ek.three;have Ug:=(N4.only Z7 (fun b hb=> by rw[List.mem_singleton.1 hb];show g < w0.heap.size;omega) (fun b hb=> hb)).ext ((xr w3).alloc (.cells #[.int .i64 a1,.int .i64 a2,.slice a3 a4 a5] 25));have ep:=N4.off hs2 (ek.ext ((xr w3).alloc (.cells #[.int .i64 a1,.int .i64 a2,.slice a3 a4 a5] 25)));have ax:Only [g] w (w3.alloc (.cells #[.int .i64 a1,.int .i64 a2,.slice a3 a4 a5] 25)):=(M4.trans Z7).trans (oE ((xr w3).alloc _));have Pk:=L9.ext ((xr w3).alloc (.cells #[.int .i64 a1,.int .i64 a2,.slice a3 a4 a5] 25));have Rc:=((xr w3).alloc (.cells #[.int .i64 a1,.int .i64 a2,.slice a3 a4 a5] 25)).blk (Z7.keepBlk R8 (by simp;omega));have Ll:=((xr w3).alloc (.cells #[.int .i64 a1,.int .i64 a2,.slice a3 a4 a5] 25)).blk (Z7.keepBlk iw (by simp;omega));have hs3:w0.heap.size<=(w3.alloc (.cells #[.int .i64 a1,.int .i64 a2,.slice a3 a4 a5] 25)).heap.size:=by have:=Z7.size;simp;omega
        clear hK2 N4 iw R8 ek;go_wp2_with (at_builtin;refine j18 _ rfl (.tmp 36) (.tmp 39) 23 rfl 25 i0 _ Tryz.underlying23 hi hz0 hz1 hz2 rfl rfl Ug hs3 ep rfl (heap_alloc_new _ _) (by rw[HN.out];omega) ?_ (fun b hb=> hb))
        intro v' w5 G7 E6;obtain⟨B5,c5,rfl,qa,qb,uw⟩:=G7.from
        have ae:=ax.below E6 (by omega);have Y1:=Pk.under E6 (by omega);have hbz5:=(E6.block _ (by omega)).trans Rc;have Yz:=(E6.block _ (by omega)).trans Ll;obtain⟨z0,z1,z2,-,-,-⟩:=own3 Yz;have hs5:w0.heap.size<=w5.heap.size:=Nat.le_trans hs3 E6.size;have nk:(ctx++ [t1]).length=N+1:=by rw[List.length_append,HN.out];rfl
        have HLN:=hdq nk;rw[nk] at qa⊢;rw[Gz.out] at uw;clear Ug ep ax Pk Rc Ll hs3 G7 nk;have sf:=um.out _ (j14.only kh ae (by intro b hb;rw[List.mem_singleton.1 hb];exact Z3));have Kk:w0.heap.size<=w5.heap.size:=hs5;go_wp2_with fail;refine(y31 (.mk k n ks) w5 g _ _ sf.lies (by omega) Y1 (by omega)).mono ?_;rintro e w9 ⟨t9,u9,rfl,-,Z0,ib,N7⟩;obtain⟨y1,y2,y3,y4,y5,rfl⟩:=Z0.three;obtain⟨s0,s1,s2,f0,f1,f2⟩:=own3 (N7.keepBlk hbz5 (by simp;omega));have Ch:=N7.size;have V3:j14 (w.heap.size+2) w9 _ _:=j14.only uw N7 (by intro b hb;rw[List.mem_singleton.1 hb];omega);have kj:=Only.trans ae N7;go_wp2_with fail;refine bodyPost_ret (v:= .tuple #[.slice B5 (N+1) c5,.agg #[.int .i64 y1,.int .i64 y2,.slice y3 y4 y5]]) (by simp[results,Tryz.results48,go_sem,s0,s1,s2]) rfl ⟨B5,(N+1),c5,(ctx++ [t1]),t9,_,rfl,HLN.out,qa,qb,(by omega), ?_, ?_, ?_, ?_⟩
        · refine InK.mono (fun b hb=>⟨by have:=hb.1;omega,by simpa using hb.2⟩) (fun b hb=> ?_) V3
          have hb1:w.heap.size+2<=b:=hb.1;rw[Below.heap_setCell _ _ _ _ (by show b≠w.heap.size+1;omega),Below.heap_setCell _ _ _ _ (by show b≠w.heap.size+1;omega),Below.heap_setCell _ _ _ _ (by show b≠w.heap.size+1;omega)]
        · exact(((Z0.set (by show w.heap.size+1 < _;omega) _).set (by show w.heap.size+1 < _;omega) _).set (by show w.heap.size+1 < _;omega) _).since (by omega)
        · exact(((ib.mono (show _<=m+1030 by omega)).set (p:=⟨w.heap.size+1,0,none⟩) (by show g < w.heap.size+1;omega) _).set (p:=⟨w.heap.size+1,1,none⟩) (by show g < w.heap.size+1;omega) _).set (p:=⟨w.heap.size+1,2,none⟩) (by show g < w.heap.size+1;omega) _
        · exact((kj.setNew (by show w.heap.size<=w.heap.size+1;omega) _).setNew (by show w.heap.size<=w.heap.size+1;omega) _).setNew (by show w.heap.size<=w.heap.size+1;omega) _
      · have exb:(x==1)=false:=beq_eq_false_iff_ne.2 O7
        by_cases hxc:x=2
        · subst hxc
          clear hK2;go_wp2_with fail
          go_loopw [8] (fun vo wr=> ∃(v:Value) (ks':List Tr),v=vo/\ks'.length<=9/\q19 (fun b=> b < w0.heap.size) w0 wr 25 v ks'/\Rd wr g (m+1)/\Only [g] w wr/\wr.heap[w.heap.size]? =some (.cells #[.int .i64 k,.int .i64 n,.slice At KL ct] 25 (0,0))/\wr.heap[w.heap.size+1]? =some (.cells #[.int .i64 0,.int .i64 0,.slice none 0 0] 25 (0,0))/\w0.heap.size<=wr.heap.size) (fun v _=> match v with| .slice _ n _=> 10 - n|_=> 0)
          case atStart=> exact⟨_,ctx,rfl,by rw[HN.out];omega,N4,M9,M4,iw,R8,hs2⟩
          case round=>
           obtain⟨v,ks',rfl,Ki,K5,hR',Yk,Hs,He,hs'⟩:=hrel;obtain⟨Bq,cq,rfl,qa,qb,hKq⟩:=K5.from
           obtain⟨L,hL⟩: ∃L,ks'.length=L:=⟨_,rfl⟩;have HL:=hdq hL;rw[hL] at Ki qa K5⊢;clear N4 M9 M4 iw R8 hL;by_cases hlt:L<=8
           · have hd:decide ((L:Int)<=8)=true:=decide_eq_true (by omega)
             go_wp2_with fail;refine(j24 _ 6 0).mono ?_;rintro e w5 ⟨rfl,e5⟩;have em:=e5.alloc (.cells #[.int .i64 6,.int .i64 0,.slice none 0 0] 25);have K4:=K5.ext em;go_wp2_with (at_builtin;refine j18 _ rfl (.tmp 46) (.tmp 48) 23 rfl 25 i0 _ Tryz.underlying23 hi hz0 hz1 hz2 rfl rfl K4 (by have:=em.size;omega) (InT.mk_iff.2 ⟨none,0,rfl,Nat.le_refl _,Nat.zero_le _,.inl rfl⟩) rfl (heap_alloc_new _ _) (by rw[HL.out];omega) ?_ (fun b hb=> hb))
             intro v' w7 Hm Jj;obtain⟨A7,c7,rfl,-,-,-⟩:=Hm.from
             have kw:=(hR'.ext em).under Jj (by omega);have Ax:=(Yk.trans (oE em)).below Jj (by omega);have hbt7:=(Jj.block _ (by omega)).trans (em.blk Hs);have Yj:=(Jj.block _ (by omega)).trans (em.blk He);have Su:w0.heap.size<=w7.heap.size:=by have:=em.size;have:=Jj.size;omega
             clear K4;go_wp2_with fail
             go_roundw
             case rel=> exact⟨_,ks'++ [.mk 6 0 []],rfl,by rw[List.length_append,HL.out];simp;omega,Hm,kw,Ax,hbt7,Yj,Su⟩
             case measure=> simp[HL.out];omega
           · have hd:decide ((L:Int)<=8)=false:=decide_eq_false (by omega)
             obtain⟨z0,z1,z2,-,-,-⟩:=own3 Hs;rw[Gz.out] at hKq;have sf:=um.out _ (j14.only kh Yk (by intro b hb;rw[List.mem_singleton.1 hb];exact Z3));have Kk:w0.heap.size<=wr.heap.size:=hs';clear K5 Hs;go_wp2_with fail;refine(y31 (.mk k n ks) wr g _ _ sf.lies (by omega) hR' (by omega)).mono ?_;rintro e w9 ⟨t9,u9,rfl,-,Z0,ib,N7⟩;obtain⟨y1,y2,y3,y4,y5,rfl⟩:=Z0.three;obtain⟨s0,s1,s2,f0,f1,f2⟩:=own3 (N7.keepBlk He (by simp;omega));have Ch:=N7.size;have V3:j14 (w.heap.size+2) w9 _ _:=j14.only hKq N7 (by intro b hb;rw[List.mem_singleton.1 hb];omega);have kj:=Only.trans Yk N7;go_wp2_with fail;refine bodyPost_ret (v:= .tuple #[.slice Bq L cq,.agg #[.int .i64 y1,.int .i64 y2,.slice y3 y4 y5]]) (by simp[results,Tryz.results48,go_sem,s0,s1,s2]) rfl ⟨Bq,L,cq,ks',t9,_,rfl,HL.out,qa,qb,Ki, ?_, ?_, ?_, ?_⟩
             · refine InK.mono (fun b hb=>⟨by have:=hb.1;omega,by simpa using hb.2⟩) (fun b hb=> ?_) V3
               have hb1:w.heap.size+2<=b:=hb.1;rw[Below.heap_setCell _ _ _ _ (by show b≠w.heap.size+1;omega),Below.heap_setCell _ _ _ _ (by show b≠w.heap.size+1;omega),Below.heap_setCell _ _ _ _ (by show b≠w.heap.size+1;omega)]
             · exact(((Z0.set (by show w.heap.size+1 < _;omega) _).set (by show w.heap.size+1 < _;omega) _).set (by show w.heap.size+1 < _;omega) _).since (by omega)
             · exact(((ib.mono (show _<=m+1030 by omega)).set (p:=⟨w.heap.size+1,0,none⟩) (by show g < w.heap.size+1;omega) _).set (p:=⟨w.heap.size+1,1,none⟩) (by show g < w.heap.size+1;omega) _).set (p:=⟨w.heap.size+1,2,none⟩) (by show g < w.heap.size+1;omega) _
             · exact((kj.setNew (by show w.heap.size<=w.heap.size+1;omega) _).setNew (by show w.heap.size<=w.heap.size+1;omega) _).setNew (by show w.heap.size<=w.heap.size+1;omega) _
        · have exc:(x==2)=false:=beq_eq_false_iff_ne.2 hxc
          by_cases ny:x=3
          · subst ny
            clear N4;go_wp2_with fail;refine(q104 w2 g _ M9 (by omega)).mono ?_;rintro e w9 ⟨t9,u9,rfl,-,Z0,ib,N7⟩;obtain⟨y1,y2,y3,y4,y5,rfl⟩:=Z0.three;obtain⟨s0,s1,s2,f0,f1,f2⟩:=own3 (N7.keepBlk R8 (by simp;omega));have Ch:=N7.size;have V3:j14 (w.heap.size+2) w9 _ _:=j14.only hK2 N7 (by intro b hb;rw[List.mem_singleton.1 hb];omega);have kj:=Only.trans M4 N7;go_wp2_with fail;refine bodyPost_ret (v:= .tuple #[.slice Bv N cv,.agg #[.int .i64 y1,.int .i64 y2,.slice y3 y4 y5]]) (by simp[results,Tryz.results48,go_sem,s0,s1,s2]) rfl ⟨Bv,N,cv,ctx,t9,_,rfl,HN.out,Kj,Ks,(by omega), ?_, ?_, ?_, ?_⟩
            · refine InK.mono (fun b hb=>⟨by have:=hb.1;omega,by simpa using hb.2⟩) (fun b hb=> ?_) V3
              have hb1:w.heap.size+2<=b:=hb.1;rw[Below.heap_setCell _ _ _ _ (by show b≠w.heap.size+1;omega),Below.heap_setCell _ _ _ _ (by show b≠w.heap.size+1;omega),Below.heap_setCell _ _ _ _ (by show b≠w.heap.size+1;omega)]
            · exact(((Z0.set (by show w.heap.size+1 < _;omega) _).set (by show w.heap.size+1 < _;omega) _).set (by show w.heap.size+1 < _;omega) _).since (by omega)
            · exact(((ib.mono (show _<=m+1030 by omega)).set (p:=⟨w.heap.size+1,0,none⟩) (by show g < w.heap.size+1;omega) _).set (p:=⟨w.heap.size+1,1,none⟩) (by show g < w.heap.size+1;omega) _).set (p:=⟨w.heap.size+1,2,none⟩) (by show g < w.heap.size+1;omega) _
            · exact((kj.setNew (by show w.heap.size<=w.heap.size+1;omega) _).setNew (by show w.heap.size<=w.heap.size+1;omega) _).setNew (by show w.heap.size<=w.heap.size+1;omega) _
          · have exd:(x==3)=false:=beq_eq_false_iff_ne.2 ny
            by_cases hxe:x=4
            · subst hxe
              by_cases Ba:KL=0
              · subst Ba
                have sf:=um.out _ (j14.only kh M4 (by intro b hb;rw[List.mem_singleton.1 hb];exact Z3));have Kk:w0.heap.size<=w2.heap.size:=hs2;clear N4;go_wp2_with fail;refine(y31 (.mk k n ks) w2 g _ _ sf.lies (by omega) M9 (by omega)).mono ?_;rintro e w9 ⟨t9,u9,rfl,-,Z0,ib,N7⟩;obtain⟨y1,y2,y3,y4,y5,rfl⟩:=Z0.three;obtain⟨s0,s1,s2,f0,f1,f2⟩:=own3 (N7.keepBlk R8 (by simp;omega));have Ch:=N7.size;have V3:j14 (w.heap.size+2) w9 _ _:=j14.only hK2 N7 (by intro b hb;rw[List.mem_singleton.1 hb];omega);have kj:=Only.trans M4 N7;go_wp2_with fail;refine bodyPost_ret (v:= .tuple #[.slice Bv N cv,.agg #[.int .i64 y1,.int .i64 y2,.slice y3 y4 y5]]) (by simp[results,Tryz.results48,go_sem,s0,s1,s2]) rfl ⟨Bv,N,cv,ctx,t9,_,rfl,HN.out,Kj,Ks,(by omega), ?_, ?_, ?_, ?_⟩
                · refine InK.mono (fun b hb=>⟨by have:=hb.1;omega,by simpa using hb.2⟩) (fun b hb=> ?_) V3
                  have hb1:w.heap.size+2<=b:=hb.1;rw[Below.heap_setCell _ _ _ _ (by show b≠w.heap.size+1;omega),Below.heap_setCell _ _ _ _ (by show b≠w.heap.size+1;omega),Below.heap_setCell _ _ _ _ (by show b≠w.heap.size+1;omega)]
                · exact(((Z0.set (by show w.heap.size+1 < _;omega) _).set (by show w.heap.size+1 < _;omega) _).set (by show w.heap.size+1 < _;omega) _).since (by omega)
                · exact(((ib.mono (show _<=m+1030 by omega)).set (p:=⟨w.heap.size+1,0,none⟩) (by show g < w.heap.size+1;omega) _).set (p:=⟨w.heap.size+1,1,none⟩) (by show g < w.heap.size+1;omega) _).set (p:=⟨w.heap.size+1,2,none⟩) (by show g < w.heap.size+1;omega) _
                · exact((kj.setNew (by show w.heap.size<=w.heap.size+1;omega) _).setNew (by show w.heap.size<=w.heap.size+1;omega) _).setNew (by show w.heap.size<=w.heap.size+1;omega) _
              · have dk:decide ((0:Int) <(KL:Int))=true:=decide_eq_true (by omega)
                have hkp:(0:Int) <(KL:Int):=by omega
                have hkq:0 < KL:=by omega
                have HS:=hdq (show∀w',Only [g] w2 w'->w'.cell? ⟨w.heap.size,0,none⟩=some (.int .i64 k)/\w'.cell? ⟨w.heap.size,1,none⟩=some (.int .i64 n)/\w'.cell? ⟨w.heap.size,2,none⟩=some (.slice At KL ct) from fun w' hw=> by
                 obtain⟨y0,y1,y2,-,-,-⟩:=own3 (hw.keepBlk iw (by simp;omega));exact⟨y0,y1,y2⟩)
                have Zl:=hdq (show∀w',Only [g] w2 w'-> ∀v0 v1 v2,(((w'.setCell ⟨w.heap.size+1,0,none⟩ v0).setCell ⟨w.heap.size+1,1,none⟩ v1).setCell ⟨w.heap.size+1,2,none⟩ v2).cell? ⟨w.heap.size,0,none⟩=some (.int .i64 k)/\(((w'.setCell ⟨w.heap.size+1,0,none⟩ v0).setCell ⟨w.heap.size+1,1,none⟩ v1).setCell ⟨w.heap.size+1,2,none⟩ v2).cell? ⟨w.heap.size,1,none⟩=some (.int .i64 n)/\(((w'.setCell ⟨w.heap.size+1,0,none⟩ v0).setCell ⟨w.heap.size+1,1,none⟩ v1).setCell ⟨w.heap.size+1,2,none⟩ v2).cell? ⟨w.heap.size,2,none⟩=some (.slice At KL ct) from fun w' hw v0 v1 v2=> by
                 obtain⟨y0,y1,y2,-,-,-⟩:=own3 (q13 (q13 (q13 (hw.keepBlk iw (by simp;omega)) (p:=⟨w.heap.size+1,0,none⟩) (by show w.heap.size≠w.heap.size+1;omega) v0) (p:=⟨w.heap.size+1,1,none⟩) (by show w.heap.size≠w.heap.size+1;omega) v1) (p:=⟨w.heap.size+1,2,none⟩) (by show w.heap.size≠w.heap.size+1;omega) v2);exact⟨y0,y1,y2⟩)
                have Ev:=j14.only kh M4 (by intro b hb;rw[List.mem_singleton.1 hb];exact Z3);have HT:=hdq (show∀w',Only [g] w2 w'->Lies w' (.mk k n ks) (.agg #[.int .i64 k,.int .i64 n,.slice At KL ct]) from fun w' hw=>(um.out _ (Ev.only hw (by intro b hb;rw[List.mem_singleton.1 hb];exact Z3))).lies);have HBZ:=hdq (show∀w',Only [g] w2 w'->w'.heap[w.heap.size+1]? =some (.cells #[.int .i64 0,.int .i64 0,.slice none 0 0] 25 (0,0)) from fun w' hw=> hw.keepBlk R8 (by simp;omega));have hD:Only [g] w2 w2.drew:=oE (xr w2).drew;obtain⟨z0,z1,z2,-,-,-⟩:=own3 iw;clear N4 Ev R8;go_wp2_with fail;clear z0 z1 z2 iw
                go_region_held3 (fun w'=> w'.cell? ⟨w.heap.size,0,none⟩=some (.int .i64 k)/\w'.cell? ⟨w.heap.size,1,none⟩=some (.int .i64 n)/\w'.cell? ⟨w.heap.size,2,none⟩=some (.slice At KL ct))
                 (first|exact Zl.out _ ((hD.trans K0).trans dx|>.trans (oE e9)) _ _ _|exact HS.out _ ((hD.trans K0).trans dx|>.trans (oE e9)) |exact HS.out _ ((hD.trans K0).trans dx) |exact HS.out _ (hD.trans K0) |exact HS.out _ hD)
                 (first
                  |(go_at_call 80;refine(j23 _ g _ (KL:Int) (M9.ext (xr w2).drew) (by omega)).mono ?_;rintro e w6 ⟨x6,rfl,hx60,hx61,ak,K0⟩;obtain⟨j6,rfl⟩:=Int.eq_ofNat_of_zero_le hx60;have hj6:j6 < ks.length:=(by rw[Kp.out];omega))
                  |(go_at_call 82;refine(q104 _ g _ ak (by omega)).mono ?_;rintro e w7 ⟨t7,u7,rfl,-,Ak,kw,dx⟩;obtain⟨d1,d2,d3,d4,d5,rfl⟩:=Ak.three)
                  |(go_at_call 104;refine(q114 k n ks t7 j6 w6.heap.size w7 _ _ (HT.out _ ((hD.trans K0).trans dx)) Ak dx.size hj6 (by omega)).mono ?_;rintro e w9 ⟨u9,rfl,Z0,e9⟩;obtain⟨y1,y2,y3,y4,y5,rfl⟩:=Z0.three;obtain⟨s0,s1,s2,f0,f1,f2⟩:=own3 (e9.blk (HBZ.out _ ((hD.trans K0).trans dx)))))
                all_goals(
                 have Ch:w2.heap.size<=w9.heap.size:=(by have:=((hD.trans K0).trans dx).size;have:=e9.size;omega);have V3:j14 (w.heap.size+2) w9 _ _:=(j14.only hK2 ((hD.trans K0).trans dx) (by intro b hb;rw[List.mem_singleton.1 hb];omega)).ext e9;have kj:Only [g] w w9:=(M4.trans ((hD.trans K0).trans dx)).trans (oE e9);have ib:=kw.ext e9;have Kv:w2.heap.size<=w6.heap.size:=(hD.trans K0).size;go_wp2_with fail;refine bodyPost_ret (v:= .tuple #[.slice Bv N cv,.agg #[.int .i64 y1,.int .i64 y2,.slice y3 y4 y5]]) (by simp[results,Tryz.results48,go_sem,s0,s1,s2]) rfl ⟨Bv,N,cv,ctx,(.mk k n (ks.set j6 t7)),_,rfl,HN.out,Kj,Ks,(by omega), ?_, ?_, ?_, ?_⟩
                 · refine InK.mono (fun b hb=>⟨by have:=hb.1;omega,by simpa using hb.2⟩) (fun b hb=> ?_) V3
                   have hb1:w.heap.size+2<=b:=hb.1;rw[Below.heap_setCell _ _ _ _ (by show b≠w.heap.size+1;omega),Below.heap_setCell _ _ _ _ (by show b≠w.heap.size+1;omega),Below.heap_setCell _ _ _ _ (by show b≠w.heap.size+1;omega)]
                 · exact(((Z0.set (by show w.heap.size+1 < _;omega) _).set (by show w.heap.size+1 < _;omega) _).set (by show w.heap.size+1 < _;omega) _).since (by omega)
                 · exact(((ib.mono (show _<=m+1030 by omega)).set (p:=⟨w.heap.size+1,0,none⟩) (by show g < w.heap.size+1;omega) _).set (p:=⟨w.heap.size+1,1,none⟩) (by show g < w.heap.size+1;omega) _).set (p:=⟨w.heap.size+1,2,none⟩) (by show g < w.heap.size+1;omega) _
                 · exact((kj.setNew (by show w.heap.size<=w.heap.size+1;omega) _).setNew (by show w.heap.size<=w.heap.size+1;omega) _).setNew (by show w.heap.size<=w.heap.size+1;omega) _)
            · have exe:(x==4)=false:=beq_eq_false_iff_ne.2 hxe
              have sf:=um.out _ (j14.only kh M4 (by intro b hb;rw[List.mem_singleton.1 hb];exact Z3));have Kk:w0.heap.size<=w2.heap.size:=hs2;clear N4;go_wp2_with fail;refine(y31 (.mk k n ks) w2 g _ _ sf.lies (by omega) M9 (by omega)).mono ?_;rintro e w9 ⟨t9,u9,rfl,-,Z0,ib,N7⟩;obtain⟨y1,y2,y3,y4,y5,rfl⟩:=Z0.three;obtain⟨s0,s1,s2,f0,f1,f2⟩:=own3 (N7.keepBlk R8 (by simp;omega));have Ch:=N7.size;have V3:j14 (w.heap.size+2) w9 _ _:=j14.only hK2 N7 (by intro b hb;rw[List.mem_singleton.1 hb];omega);have kj:=Only.trans M4 N7;go_wp2_with fail;refine bodyPost_ret (v:= .tuple #[.slice Bv N cv,.agg #[.int .i64 y1,.int .i64 y2,.slice y3 y4 y5]]) (by simp[results,Tryz.results48,go_sem,s0,s1,s2]) rfl ⟨Bv,N,cv,ctx,t9,_,rfl,HN.out,Kj,Ks,(by omega), ?_, ?_, ?_, ?_⟩
              · refine InK.mono (fun b hb=>⟨by have:=hb.1;omega,by simpa using hb.2⟩) (fun b hb=> ?_) V3
                have hb1:w.heap.size+2<=b:=hb.1;rw[Below.heap_setCell _ _ _ _ (by show b≠w.heap.size+1;omega),Below.heap_setCell _ _ _ _ (by show b≠w.heap.size+1;omega),Below.heap_setCell _ _ _ _ (by show b≠w.heap.size+1;omega)]
              · exact(((Z0.set (by show w.heap.size+1 < _;omega) _).set (by show w.heap.size+1 < _;omega) _).set (by show w.heap.size+1 < _;omega) _).since (by omega)
              · exact(((ib.mono (show _<=m+1030 by omega)).set (p:=⟨w.heap.size+1,0,none⟩) (by show g < w.heap.size+1;omega) _).set (p:=⟨w.heap.size+1,1,none⟩) (by show g < w.heap.size+1;omega) _).set (p:=⟨w.heap.size+1,2,none⟩) (by show g < w.heap.size+1;omega) _
              · exact((kj.setNew (by show w.heap.size<=w.heap.size+1;omega) _).setNew (by show w.heap.size<=w.heap.size+1;omega) _).setNew (by show w.heap.size<=w.heap.size+1;omega) _
theorem q19.fromD{W w:World}{e:TypeId}{v:Value}{ks:List Tr}(h:q19 (fun b=> b < W.heap.size) W w e v ks): ∃A cap,v= .slice A ks.length cap/\ks.length<=cap/\cap<=maxLen/\j14 W.heap.size w A ks:=by
 obtain⟨A,cap,h1,h2,h3,h4,-⟩:=h.lies (fun b hb=> hb);exact⟨A,cap,h1,h2,h3,InK.mono (fun b hb=>⟨by have:=hb.2;omega,hb.1⟩) (fun _ _=> rfl) h4⟩
theorem From.drewS{B:Nat}{w:World}{t:Tr}{v:Value}(h:From B w t v):From B w.drew t v:=h.ext (xr w).drew
theorem j14.drewS{B:Nat}{w:World}{A:Option Addr}{ks:List Tr}(h:j14 B w A ks):j14 B w.drew A ks:=h.ext (xr w).drew
def DrawQ(w:World)(g m:Nat)(e:Ending)(w':World):Prop:= ∃A n cap ks t u,e= .returned (.tuple #[.slice A n cap,u])/\ks.length=n/\n<=cap/\cap<=maxLen/\n<=3/\(∀x∈ks,cnt x<=400)/\cnt t<=400/\j14 w.heap.size w' A ks/\From w.heap.size w' t u/\Rd w' g (m+3000)/\Only [g] w w'
theorem nd4:nd 4<=2000:=by decide
theorem j169:(Tryz.prog.info? 25).map (fun i=>(i.zero,i.size,i.bytes))=some (some (.agg #[.int .i64 0,.int .i64 0,.slice none 0 0]),3,40):=by kernel_rfl
theorem j168(w:World)(g m:Nat)(hR:Rd w g m)(hm:m < 700000):Calls Tryz.prog 47 #[.pointer (some ⟨g,0,none⟩)] w fun e w'=> DrawQ w g m e w':=by
 obtain⟨i0,hi,hz0,hz1,hz2⟩:=info_parts j169;have G0:=hR.lt;have hx0:=(xr w).alloc (.cells #[.int .i64 0,.int .i64 0,.slice none 0 0] 25);have hb0:=heap_alloc_new w (.cells #[.int .i64 0,.int .i64 0,.slice none 0 0] 25);go_enter Tryz.func47,Tryz.ntmps47;go_wp2_with fail;generalize hw0:w.alloc _=w0 at hx0 hb0⊢;have hs0:w.heap.size < w0.heap.size:=j10 hb0;clear hw0;refine(j23 w0 g m 2 (hR.ext hx0) (by omega)).mono ?_;rintro e w1 ⟨x,rfl,hx0',-,ej,sx⟩;have Dt:Only [g] w w1:=(oE hx0).trans sx;have hb1:=sx.keepBlk hb0 (by simp;omega);have hs1:w.heap.size < w1.heap.size:=j10 hb1;clear hR hb0 sx;by_cases hxz:x=0
 · subst hxz
   go_wp2_with fail;refine(q30 _ _ _ (ej.ext ((xr w1).alloc _)) (by omega) _ 4 [0,1,2,0] (by simp) (by decide) (by simp) (y23 (heap_alloc_new w1 _) rfl) (by intro b o hb;have:=ej.lt;simp at hb;omega)).mono ?_;rintro e w2 ⟨nn,rfl,Dq,M9,ig⟩;have hn02:0<=nn/\nn<=2:=by simp at Dq;omega
   obtain⟨N,rfl⟩:=Int.eq_ofNat_of_zero_le hn02.1;have uh:N<=2:=by omega
   have M4:Only [g] w w2:=(Dt.trans (oE (L:= [g]) ((xr w1).alloc (.cells #[.int .i64 0,.int .i64 1,.int .i64 2,.int .i64 0] 3)))).trans ig;have hb2:=ig.keepBlk (((xr w1).alloc (.cells #[.int .i64 0,.int .i64 1,.int .i64 2,.int .i64 0] 3)).blk hb1) (by simp;omega);have I5:w.heap.size < w2.heap.size:=j10 hb2;have fo:=q19.lit (X:=fun b=> b < w2.heap.size) (W:=w2) (e:=25) (heap_alloc_new w2 (.cells #[] 25)) (Nat.le_refl _);have Ce:Ext w2 (w2.alloc (.cells #[] 25)):=(xr w2).alloc _;clear ej Dt hb1 ig Dq hx0;go_wp2_with fail;generalize World.alloc w2 _=wq at fo Ce⊢
   go_loopw [5,6] (fun vo i wr=> ∃(v:Value) (j:Nat) (ks:List Tr),v=vo/\j<=N/\i= .int .i64 j/\ks.length=j/\Hid (∀x∈ks,cnt x<=400)/\q19 (fun b=> b < w2.heap.size) w2 wr 25 v ks/\Ext w2 wr) (fun _ i _=> N -(intOf i).toNat)
   case atStart=> exact⟨_,0, [],rfl,Nat.zero_le _,rfl,rfl,hdq (fun x h=> by simp at h),fo,Ce⟩
   case round=>
    obtain⟨v,j,ks,rfl,hj,rfl,K8,HC,hG,hx⟩:=hrel;have Kp:=hdq K8;have hsw:=hx.size;clear fo Ce K8;by_cases hlt:j < N
    · have Mx:(j:Int) <(N:Int):=by omega
      go_wp2_with fail;refine(j24 _ 6 0).mono ?_;rintro e w5 ⟨rfl,e5⟩;have em:=e5.alloc (.cells #[.int .i64 6,.int .i64 0,.slice none 0 0] 25);have K4:=hG.ext em;go_wp2_with (at_builtin;refine j18 _ rfl (.tmp 23) (.tmp 25) 23 rfl 25 i0 _ Tryz.underlying23 hi hz0 hz1 hz2 rfl rfl K4 (by have:=em.size;omega) (InT.mk_iff.2 ⟨none,0,rfl,Nat.le_refl _,Nat.zero_le _,.inl rfl⟩) rfl (heap_alloc_new _ _) (by rw[Kp.out];omega) ?_ (fun b hb=> hb))
      intro v' w7 Hm Jj;have un:Ext w2 w7:=(hx.trans em).trans' Jj (Nat.le_refl _);go_wp2_with fail
      go_roundw
      case rel=> exact⟨_,j+1,ks++ [.mk 6 0 []],rfl,by omega,by go_num,by rw[List.length_append,Kp.out];rfl,hdq (fun x h=> by
       rcases List.mem_append.1 h with h|h
       · exact HC.out x h
       · rw[List.mem_singleton.1 h];decide),Hm,un⟩
      case measure=> simp[intOf];omega
    · have hjN:j=N:=by omega
      subst hjN;obtain⟨Av,cv,rfl,qa,qb,Oh⟩:=hG.fromD;rw[Kp.out] at qa⊢;have hbr:=hx.blk hb2;have hRr:=M9.ext hx;have hOr:=M4.trans (oE (L:= [g]) hx);clear hG M9 M4 hb2 hx;go_wp2_with fail;refine(q30 _ _ _ (hRr.ext ((xr wr).alloc _)) (by omega) _ 4 [3,2,4,1] (by simp) (by decide) (by simp) (y23 (heap_alloc_new wr _) rfl) (by intro b o hb;have:=hRr.lt;simp at hb;omega)).mono ?_;rintro e w3 ⟨kk,rfl,hkk,L9,Z7⟩;have mf: -3<=kk/\kk<=4:=by simp at hkk;omega
      have ax:=(hOr.trans (oE (L:= [g]) ((xr wr).alloc (.cells #[.int .i64 3,.int .i64 2,.int .i64 4,.int .i64 1] 3)))).trans Z7;have hb3:=Z7.keepBlk (((xr wr).alloc (.cells #[.int .i64 3,.int .i64 2,.int .i64 4,.int .i64 1] 3)).blk hbr) (by simp;omega);have hK3:j14 w2.heap.size w3 Av ks:=((Oh.ext ((xr wr).alloc (.cells #[.int .i64 3,.int .i64 2,.int .i64 4,.int .i64 1] 3))).only Z7 (by intro b hb;rw[List.mem_singleton.1 hb];omega));have hs3:w2.heap.size<=w3.heap.size:=by have:=Z7.size;simp at this;omega
      clear hRr hOr hbr Oh Z7 hkk;go_wp2_with fail;refine(y132 4 (by decide) w3 g _ (j:Int) kk L9 (by have:=nd4;omega) (by omega) (by omega) (by omega) (by omega)).mono ?_;rintro e w4 ⟨t,u,rfl,hF,-,P5,N9⟩;obtain⟨k4,n4,A4,l4,c4,rfl⟩:=hF.three;have hs34:=N9.size;have S8:=(ax.trans N9).trans (oE (L:= [g]) ((xr w4).alloc (.cells #[.int .i64 k4,.int .i64 n4,.slice A4 l4 c4] 25)));have hb4:=((xr w4).alloc (.cells #[.int .i64 k4,.int .i64 n4,.slice A4 l4 c4] 25)).blk (N9.keepBlk hb3 (by simp;omega));have hK4:j14 w2.heap.size (w4.alloc (.cells #[.int .i64 k4,.int .i64 n4,.slice A4 l4 c4] 25)) Av ks:=(hK3.only N9 (by intro b hb;rw[List.mem_singleton.1 hb];omega)).ext ((xr w4).alloc _);have zn:=hF.ext ((xr w4).alloc (.cells #[.int .i64 k4,.int .i64 n4,.slice A4 l4 c4] 25));have Dy:=P5.ext ((xr w4).alloc (.cells #[.int .i64 k4,.int .i64 n4,.slice A4 l4 c4] 25));have Cm:=heap_alloc_new w4 (.cells #[.int .i64 k4,.int .i64 n4,.slice A4 l4 c4] 25);have jq:w3.heap.size<=w4.heap.size:=hs34;clear ax hb3 hK3 hF L9 P5 N9;go_wp2_with fail;have HV:=hdq (q28 t (w4.alloc (.cells #[.int .i64 k4,.int .i64 n4,.slice A4 l4 c4] 25)) _ zn.lies);generalize Ui:w4.alloc _=wa at S8 hb4 hK4 zn Dy Cm HV⊢;have hsa:wa.heap.size=w4.heap.size+1:=by rw[<-Ui];simp
      have hsA:w4.heap.size < wa.heap.size:=by omega
      clear Ui hsa;refine HV.out.mono ?_;rintro e w5 ⟨rfl,e5⟩;have ae:=S8.trans (oE (L:= [g]) e5);have R6:=e5.blk hb4;have Y1:=Dy.ext e5;have hs5:=e5.size;cases hz:valid sigT t with
      |true=>
       have p6:cnt t<=400:=(y12 hz).2;obtain⟨z0,z1,z2,-,-,-⟩:=own3 (e5.blk Cm);obtain⟨s0,s1,s2,f0,f1,f2⟩:=own3 R6;have uw:=hK4.ext e5;have bl:=(zn.ext e5).since (C:=w.heap.size+1) (by omega);clear hK4 zn hb4 Cm Dy S8 HV hz;go_wp2_with fail
       first|(go_region_law (fail)) |fail
       all_goals(
        go_wp2_with fail;refine bodyPost_ret (v:= .tuple #[.slice Av j cv,.agg #[.int .i64 k4,.int .i64 n4,.slice A4 l4 c4]]) (by simp[results,Tryz.results47,go_sem,s0,s1,s2]) rfl ⟨Av,j,cv,ks,t,_,rfl,Kp.out,qa,qb,by omega,HC.out,p6, ?_, ?_, ?_, ?_⟩
        · refine j14.drewS (InK.mono (fun b hb=>⟨by have:=hb.1;omega,by simpa using hb.2⟩) (fun b hb=> ?_) uw)
          have hb1:w2.heap.size<=b:=hb.1;rw[Below.heap_setCell _ _ _ _ (by show b≠w.heap.size;omega),Below.heap_setCell _ _ _ _ (by show b≠w.heap.size;omega),Below.heap_setCell _ _ _ _ (by show b≠w.heap.size;omega)]
        · exact((((bl.set (by show w.heap.size < _;omega) _).set (by show w.heap.size < _;omega) _).set (by show w.heap.size < _;omega) _).since (by omega)).drewS
        · exact((((Y1.mono (show _<=m+3000 by have:=nd4;omega)).set (by show g < w.heap.size;omega) _).set (by show g < w.heap.size;omega) _).set (by show g < w.heap.size;omega) _).ext (xr _).drew
        · exact(((ae.setNew (by show w.heap.size<=w.heap.size;omega) _).setNew (by show w.heap.size<=w.heap.size;omega) _).setNew (by show w.heap.size<=w.heap.size;omega) _).drew)
      |false=>
       have Sz:Rd w5 g (m+2900):=Y1.mono (by have:=nd4;omega);clear hK4 zn hb4 Cm Dy S8 HV hz Y1;go_wp2_with fail;refine(j23 w5 g _ 4 Sz (by omega)).mono ?_;rintro e w3 ⟨y,rfl,-,-,L9,Z7⟩;have hb3:=Z7.keepBlk R6 (by simp;omega);have Hh:w.heap.size < w3.heap.size:=j10 hb3;have ax:=Only.trans ae Z7;clear Sz R6 Z7;go_wp2_with fail;refine(y102 y w3).mono ?_;rintro e w4 ⟨b1,b2,p,rfl,hp,q1,q2,Q7,ey,e4⟩;obtain⟨Sw,Ry,Si,Mq⟩:=y95 p hp;have pos:=q115 p hp;have El:p.2.length<=maxLen:=by unfold maxLen;omega
       have yb:p.1.length<=maxLen:=by unfold maxLen;omega
       have xt:=hdq (fun W (hW:Ext w4 W)=> q74 p.2 b2 0 p.2.length W (ey.ext hW).1 (Nat.le_refl _) El (by omega) Mq (ey.ext hW).2);have p8:=hdq (fun W (hW:Ext w4 W)=> q74 p.1 b1 0 p.1.length W (Q7.ext hW).1 (Nat.le_refl _) yb (by omega) Si (Q7.ext hW).2);have Jg: ∀t∈q36 p.1,cnt t<=400:=fun t h=>(y12 (j57 h)).2
       have hRv: ∀t∈q36 p.2,cnt t<=400:=fun t h=>(y12 (j57 h)).2
       have zy:(q36 p.1).length<=3:=Nat.le_trans (q79 _) Sw;have vz:(q36 p.2).length<=12:=Nat.le_trans (q79 _) Ry;generalize q36 p.1=C at p8 Jg zy;generalize q36 p.2=R at xt hRv pos vz;generalize p.1.length=P1 at p8⊢;generalize p.2.length=P2 at xt⊢;obtain⟨L,hL⟩: ∃L,R.length=L:=⟨_,rfl⟩;obtain⟨N3,ic⟩: ∃N3,C.length=N3:=⟨_,rfl⟩;rw[hL] at xt pos vz;rw[ic] at p8 zy;have HL:=hdq hL;have HN3:=hdq ic;have Dm:=hdq Jg;have HRV:=hdq hRv;clear hp Sw Ry Si Mq yb El Q7 ey hL ic Jg hRv;go_wp2_with fail;refine(xt.out w4 (xr _)).mono ?_;rintro e w5 ⟨A5,c5,rfl,l5,m5,bl,e5⟩;have oc:=(e4.trans e5).blk hb3;have ae:=ax.trans (oE (L:= [g]) (e4.trans e5));have Y1:=L9.ext (e4.trans e5);have jq:=ax.size;have hs44:=e4.size;have hA5: ∃b5 o5,A5=some ⟨b5,o5,none⟩:=by
        rcases bl with h|⟨b5,o5,h,-⟩
        · have:=HL.out;rw[h] at this;simp at this;omega
        · exact⟨b5,o5,h⟩
       obtain⟨b5,o5,rfl⟩:=hA5;have W4:=hdq (fun(w':World) (ho:Only [g] w5 w') (j:Nat) (hj:j < L)=> bl.get (w':=w') (j:=j) (fun b hb=> ho.block b hb.2 (by have:=hb.1;simp;omega)) (by rw[HL.out];exact hj));have HB:=hdq (fun(w':World) (ho:Only [g] w5 w')=> own3 (ho.keepBlk oc (by simp;omega)));have hLi:(0:Int) <(L:Int):=by omega
       have hD5:Only [g] w5 w5.drew:=oE (xr w5).drew;have HX3:=hdq (p8.out _ (e5.trans (xr w5).drew));have Gw:=Y1.ext (xr w5).drew;have Lb:=m5;unfold maxLen at Lb;clear bl hb3 ax e4 p8 xt L9 Y1;go_wp2_with fail
       go_region_law (first
        |(go_simp;go_at_call 103;refine HX3.out.mono ?_;rintro e w6 ⟨A6,c6,rfl,l6,m6,Nq,e6⟩;have xe:Only [g] w5 w6:=hD5.trans (oE e6))
        |(go_simp;go_at_call 80;refine(j23 _ g _ (L:Int) (Gw.ext e6) (by omega)).mono ?_;rintro e w7 ⟨x7,rfl,Jd,Za,kw,dx⟩;obtain⟨j,rfl⟩:=Int.eq_ofNat_of_zero_le Jd;have hj:j < L:=(by omega);have Mx:(j:Int) <(L:Int):=(by omega);obtain⟨b',o',k7,n7,A7,c7,xc,hA,HK,x0,x1,x2,hl7,hc7,xa,Hw,j5,jv⟩:=W4.out w7 (xe.trans dx) j hj;cases hA;obtain⟨s0,s1,s2,f0,f1,f2⟩:=HB.out w7 (xe.trans dx)))
       all_goals(
        have hs5:w5.heap.size<=w7.heap.size:=(xe.trans dx).size;have Ax:Only [g] w w7:=ae.trans (xe.trans dx);have Kv:w5.heap.size<=w6.heap.size:=xe.size;have Ak:From (w.heap.size+1) w7 _ _:=InT.mono (fun b hb=>⟨by have:=hb.1;omega,Nat.lt_of_lt_of_le hb.2 hs5⟩) (fun b hb=> rfl) Hw;have Jc:j14 (w.heap.size+1) w7 A6 C:=InK.mono (fun b hb=>⟨by have:=hb.1;have:=(xr w5).drew.size;omega,Nat.lt_of_lt_of_le hb.2 dx.size⟩) (fun b hb=> dx.block b hb.2 (by have:=hb.1;have:=(xr w5).drew.size;simp;omega)) Nq;go_wp2_with fail;refine bodyPost_ret (v:= .tuple #[.slice A6 N3 c6,.agg #[.int .i64 k7,.int .i64 n7,.slice A7 xc.length c7]]) (by simp[results,Tryz.results47,go_sem,s0,s1,s2]) rfl ⟨A6,N3,c6,C,_,_,rfl,HN3.out,l6,m6,zy,Dm.out,HRV.out _ j5, ?_, ?_, ?_, ?_⟩
        · refine InK.mono (fun b hb=>⟨by have:=hb.1;omega,by simpa using hb.2⟩) (fun b hb=> ?_) Jc
          have hb1:w.heap.size+1<=b:=hb.1;rw[Below.heap_setCell _ _ _ _ (by show b≠w.heap.size;omega),Below.heap_setCell _ _ _ _ (by show b≠w.heap.size;omega),Below.heap_setCell _ _ _ _ (by show b≠w.heap.size;omega)]
        · exact(((Ak.set (by show w.heap.size < _;omega) _).set (by show w.heap.size < _;omega) _).set (by show w.heap.size < _;omega) _).since (by omega)
        · exact(((kw.mono (show _<=m+3000 by omega)).set (by show g < w.heap.size;omega) _).set (by show g < w.heap.size;omega) _).set (by show g < w.heap.size;omega) _
        · exact((Ax.setNew (by show w.heap.size<=w.heap.size;omega) _).setNew (by show w.heap.size<=w.heap.size;omega) _).setNew (by show w.heap.size<=w.heap.size;omega) _)
 · have exz:(x==0)=false:=beq_eq_false_iff_ne.2 hxz
   have Mb:Rd w1 g (m+2900):=ej.mono (by omega);clear ej;go_wp2_with fail;refine(j23 w1 g _ 4 Mb (by omega)).mono ?_;rintro e w3 ⟨y,rfl,-,-,L9,Z7⟩;have hb3:=Z7.keepBlk hb1 (by simp;omega);have Hh:w.heap.size < w3.heap.size:=j10 hb3;have ax:=Only.trans Dt Z7;clear Mb hb1 Z7;go_wp2_with fail;refine(y102 y w3).mono ?_;rintro e w4 ⟨b1,b2,p,rfl,hp,q1,q2,Q7,ey,e4⟩;obtain⟨Sw,Ry,Si,Mq⟩:=y95 p hp;have pos:=q115 p hp;have El:p.2.length<=maxLen:=by unfold maxLen;omega
   have yb:p.1.length<=maxLen:=by unfold maxLen;omega
   have xt:=hdq (fun W (hW:Ext w4 W)=> q74 p.2 b2 0 p.2.length W (ey.ext hW).1 (Nat.le_refl _) El (by omega) Mq (ey.ext hW).2);have p8:=hdq (fun W (hW:Ext w4 W)=> q74 p.1 b1 0 p.1.length W (Q7.ext hW).1 (Nat.le_refl _) yb (by omega) Si (Q7.ext hW).2);have Jg: ∀t∈q36 p.1,cnt t<=400:=fun t h=>(y12 (j57 h)).2
   have hRv: ∀t∈q36 p.2,cnt t<=400:=fun t h=>(y12 (j57 h)).2
   have zy:(q36 p.1).length<=3:=Nat.le_trans (q79 _) Sw;have vz:(q36 p.2).length<=12:=Nat.le_trans (q79 _) Ry;generalize q36 p.1=C at p8 Jg zy;generalize q36 p.2=R at xt hRv pos vz;generalize p.1.length=P1 at p8⊢;generalize p.2.length=P2 at xt⊢;obtain⟨L,hL⟩: ∃L,R.length=L:=⟨_,rfl⟩;obtain⟨N3,ic⟩: ∃N3,C.length=N3:=⟨_,rfl⟩;rw[hL] at xt pos vz;rw[ic] at p8 zy;have HL:=hdq hL;have HN3:=hdq ic;have Dm:=hdq Jg;have HRV:=hdq hRv;clear hp Sw Ry Si Mq yb El Q7 ey hL ic Jg hRv;go_wp2_with fail;refine(xt.out w4 (xr _)).mono ?_;rintro e w5 ⟨A5,c5,rfl,l5,m5,bl,e5⟩;have oc:=(e4.trans e5).blk hb3;have ae:=ax.trans (oE (L:= [g]) (e4.trans e5));have Y1:=L9.ext (e4.trans e5);have jq:=ax.size;have hs44:=e4.size;have hA5: ∃b5 o5,A5=some ⟨b5,o5,none⟩:=by
    rcases bl with h|⟨b5,o5,h,-⟩
    · have:=HL.out;rw[h] at this;simp at this;omega
    · exact⟨b5,o5,h⟩
   obtain⟨b5,o5,rfl⟩:=hA5;have W4:=hdq (fun(w':World) (ho:Only [g] w5 w') (j:Nat) (hj:j < L)=> bl.get (w':=w') (j:=j) (fun b hb=> ho.block b hb.2 (by have:=hb.1;simp;omega)) (by rw[HL.out];exact hj));have HB:=hdq (fun(w':World) (ho:Only [g] w5 w')=> own3 (ho.keepBlk oc (by simp;omega)));have hLi:(0:Int) <(L:Int):=by omega
   have hD5:Only [g] w5 w5.drew:=oE (xr w5).drew;have HX3:=hdq (p8.out _ (e5.trans (xr w5).drew));have Gw:=Y1.ext (xr w5).drew;have Lb:=m5;unfold maxLen at Lb;clear bl hb3 ax e4 p8 xt L9 Y1;go_wp2_with fail
   go_region_law (first
    |(go_simp;go_at_call 103;refine HX3.out.mono ?_;rintro e w6 ⟨A6,c6,rfl,l6,m6,Nq,e6⟩;have xe:Only [g] w5 w6:=hD5.trans (oE e6))
    |(go_simp;go_at_call 80;refine(j23 _ g _ (L:Int) (Gw.ext e6) (by omega)).mono ?_;rintro e w7 ⟨x7,rfl,Jd,Za,kw,dx⟩;obtain⟨j,rfl⟩:=Int.eq_ofNat_of_zero_le Jd;have hj:j < L:=(by omega);have Mx:(j:Int) <(L:Int):=(by omega);obtain⟨b',o',k7,n7,A7,c7,xc,hA,HK,x0,x1,x2,hl7,hc7,xa,Hw,j5,jv⟩:=W4.out w7 (xe.trans dx) j hj;cases hA;obtain⟨s0,s1,s2,f0,f1,f2⟩:=HB.out w7 (xe.trans dx)))
   all_goals(
    have hs5:w5.heap.size<=w7.heap.size:=(xe.trans dx).size;have Ax:Only [g] w w7:=ae.trans (xe.trans dx);have Kv:w5.heap.size<=w6.heap.size:=xe.size;have Ak:From (w.heap.size+1) w7 _ _:=InT.mono (fun b hb=>⟨by have:=hb.1;omega,Nat.lt_of_lt_of_le hb.2 hs5⟩) (fun b hb=> rfl) Hw;have Jc:j14 (w.heap.size+1) w7 A6 C:=InK.mono (fun b hb=>⟨by have:=hb.1;have:=(xr w5).drew.size;omega,Nat.lt_of_lt_of_le hb.2 dx.size⟩) (fun b hb=> dx.block b hb.2 (by have:=hb.1;have:=(xr w5).drew.size;simp;omega)) Nq;go_wp2_with fail;refine bodyPost_ret (v:= .tuple #[.slice A6 N3 c6,.agg #[.int .i64 k7,.int .i64 n7,.slice A7 xc.length c7]]) (by simp[results,Tryz.results47,go_sem,s0,s1,s2]) rfl ⟨A6,N3,c6,C,_,_,rfl,HN3.out,l6,m6,zy,Dm.out,HRV.out _ j5, ?_, ?_, ?_, ?_⟩
    · refine InK.mono (fun b hb=>⟨by have:=hb.1;omega,by simpa using hb.2⟩) (fun b hb=> ?_) Jc
      have hb1:w.heap.size+1<=b:=hb.1;rw[Below.heap_setCell _ _ _ _ (by show b≠w.heap.size;omega),Below.heap_setCell _ _ _ _ (by show b≠w.heap.size;omega),Below.heap_setCell _ _ _ _ (by show b≠w.heap.size;omega)]
    · exact(((Ak.set (by show w.heap.size < _;omega) _).set (by show w.heap.size < _;omega) _).set (by show w.heap.size < _;omega) _).since (by omega)
    · exact(((kw.mono (show _<=m+3000 by omega)).set (by show g < w.heap.size;omega) _).set (by show g < w.heap.size;omega) _).set (by show g < w.heap.size;omega) _
    · exact((Ax.setNew (by show w.heap.size<=w.heap.size;omega) _).setNew (by show w.heap.size<=w.heap.size;omega) _).setNew (by show w.heap.size<=w.heap.size;omega) _)
end Go.Proofs.YtbnkbepgmenblaaGreat
