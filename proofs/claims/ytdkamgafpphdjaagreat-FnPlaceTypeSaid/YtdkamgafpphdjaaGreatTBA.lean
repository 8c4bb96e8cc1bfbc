/-
  Lemmas towards the law, 27: Mutate, Put3, Clone.
-/
import Derived.Test.YtdkamgafpphdjaaGreatTAY
namespace Go.Proofs.YtdkamgafpphdjaaGreat
open Go.RowKit
set_option linter.unusedVariables false
attribute [local go_sem ↓] Go.wp_at_zero Go.wp_at_succ
theorem y88{P:Program}(w:World){ops:Array Oper}{o:Oper}{a:Act}{K:Act->World->Prop}{Q:Exit->Act->World->Prop}{E:Prop}(hgd:o.guard=none)(s x:Operand)(t:TypeId)
 (ho:o.op= .call {callee:= .builtin .append,args:=#[s,x],argTypes:=#[t,t]})
 (e:TypeId) (i:TypeInfo) (z:Value) (ht:P.underlying t=some (.slice e)) (hi:P.info? e=some i) (hz:i.zero=some z) (hsize:i.size=3) (hby:i.bytes=40) (hzs:z.cells.size=3)
 {X:Nat->Prop} {W:World} {v:Value} {ks:List Tr} {tr:Tr} {v0 v1 v2:Value} {gx:Nat} (hs:a.eval s=v) (hG:j16 X W w e v ks) (hW:W.heap.size<=w.heap.size)
 (hT:InT w (fun b=> b < w.heap.size/\v.ownBlock≠some b/\ ¬X b) tr (.agg #[v0,v1,v2]))
 (hx:a.eval x= .slice (some ⟨gx,0,none⟩) 1 1) (hgx:w.heap[gx]? =some (.cells #[v0,v1,v2] e (0,0))) (hn:ks.length < 1099511627776)
 (h: ∀v' w',j16 X W w' e v' (ks++ [tr])->Below W.heap.size w w'->w.grownBy w' v.ownBlock->(∀g,v'.ownBlock=some g->v.ownBlock=some g\/w.heap.size<=g)->K (a.put o.dst v') w'):
 if Region.wanted o (yielded ops a.tmps)=true then Oper.wp P o a w K Q else E:=by
 have hw:Region.wanted o (yielded ops a.tmps)=true:=by simp[Region.wanted,hgd]
 rw[if_pos hw];obtain⟨xs,h1,h2⟩:=hG;obtain⟨v',w',hr,r1,r2,r3⟩:=q16 (P:=P) w W.heap.size t o.type e i z 3 40 ht hi hz hsize hby hzs (by decide) v ks.length xs h1 ⟨gx,0,none⟩ 1 1 [v0,v1,v2] rfl (q50 hgx) (q73 hT) (by unfold maxLen;omega) (by omega) hW;have hB:Below W.heap.size w w':=⟨r2.os,r2.tape,r2.output,r2.size,fun b hb=> r2.block b (by omega) (fun he=> by have:=(h1.lt b he.symm).1;omega)⟩;have hS: ∀b,b < w.heap.size/\v.ownBlock≠some b/\ ¬X b->b < w'.heap.size/\v'.ownBlock≠some b/\ ¬X b:=fun b hb=> by
  refine⟨Nat.lt_of_lt_of_le hb.1 r2.size,fun he=> ?_,hb.2.2⟩;rcases r3 b he with h4|h4
  · exact hb.2.1 h4
  · omega
 have hwk: ∀b,b < w.heap.size/\v.ownBlock≠some b/\ ¬X b->w'.heap[b]? =w.heap[b]? :=fun b hb=> r2.block b hb.1 (fun he=> hb.2.1 he.symm)
 have hG':j16 X W w' e v' (ks++ [tr]):=⟨_,by simpa using r1,RowL.snoc (hT.mono hS hwk) [] h1.1 (h2.mono hS hwk)⟩;unfold Oper.wp execOp;simp only[ho,resolve,invoke,builtin,Sem.run_bind,Sem.run_pure,Result.andThen_ok,List.map_toArray,List.map_cons,List.map_nil,hs,hx,hr];exact h v' w' hG' hB r2 r3
theorem j16.keep{X:Nat->Prop}{W w w':World}{e:TypeId}{v:Value}{ks:List Tr}(h:j16 X W w e v ks)(hs:w.heap.size<=w'.heap.size)(hk: ∀b,b < w.heap.size-> ¬X b->w'.heap[b]? =w.heap[b]?)(ho: ∀b,v.ownBlock=some b-> ¬X b):j16 X W w' e v ks:=by
 obtain⟨xs,h1,h2⟩:=h;exact⟨xs,q26 h1 (fun b hb=> hk b (h1.lt b hb).2 (ho b hb)),h2.mono (fun b hb=>⟨Nat.lt_of_lt_of_le hb.1 hs,hb.2.1,hb.2.2⟩) (fun b hb=> hk b hb.1 hb.2.2)⟩
theorem j16.liesX{X:Nat->Prop}{W w:World}{e:TypeId}{v:Value}{ks:List Tr}(h:j16 X W w e v ks)(ho: ∀b,v.ownBlock=some b-> ¬X b): ∃A cap,v= .slice A ks.length cap/\ks.length<=cap/\cap<=maxLen/\InK w (fun b=> b < w.heap.size/\ ¬X b) A ks:=by
 obtain⟨xs,h1,h2⟩:=h;rcases h1.2 with⟨rfl,h0⟩ |⟨g,cap,cur,rfl,hb,hg,hnc,hcm,hcs,ht⟩
 · have:ks= []:=List.eq_nil_of_length_eq_zero h0
   subst this;exact⟨none,0,rfl,Nat.le_refl _,Nat.zero_le _, .inl rfl⟩
 · refine⟨_,cap,rfl,hnc,hcm, .inr ⟨g,0,rfl,⟨q10 hg,ho g rfl⟩, ?_⟩⟩
   have h3:=RowL.tail (cur.toList.drop (ks.length*3)) (h2.mono (S':=fun b=> b < w.heap.size/\ ¬X b) (fun b hb=>⟨hb.1,hb.2.2⟩) (fun _ _=> rfl));rw[<-ht,List.take_append_drop] at h3;exact RowL.inL hg (pre:= []) h3 (by simp)
theorem j16.widen{X X':Nat->Prop}{W w:World}{e:TypeId}{v:Value}{ks:List Tr}(h:j16 X W w e v ks)(hX: ∀b,b < w.heap.size-> ¬X b-> ¬X' b):j16 X' W w e v ks:=by
 obtain⟨xs,h1,h2⟩:=h;exact⟨xs,h1,h2.mono (fun b hb=>⟨hb.1,hb.2.1,hX b hb.1 hb.2.2⟩) (fun _ _=> rfl)⟩
theorem y181:(Tryz.prog.info? 25).map (fun i=>(i.zero,i.size,i.bytes))=some (some (.agg #[.int .i64 0, .int .i64 0, .slice none 0 0]),3,40):=by kernel_rfl
set_option maxRecDepth 100000 in
set_option maxHeartbeats 4000000 in
theorem j28(t:Tr)(w:World)(g m:Nat)(v:Value)(hin:Lies w t v)(hcn:cnt t<=900000)(hR:Rd w g m)(hm:m < 900000):Calls Tryz.prog 76 #[.pointer (some ⟨g,0,none⟩),v] w fun e w'=> ∃t' u,e= .returned u/\cnt t'<=cnt t+1/\From w.heap.size w' t' u/\Rd w' g (m+2)/\Only [g] w w':=by
 have hgl:=hR.lt;obtain⟨k,n,ks⟩:=t;have HC:=hdq (fun W (hW:Ext w W)=> j161 k n ks W v (hin.ext hW) (by omega));obtain⟨A,cap,rfl,hl,hc,hK⟩:=Lies.mk_iff.1 hin;have hlc:=y20 ks;simp only[cnt] at hcn;have hx0:=((xr w).alloc (.cells #[.int .i64 k, .int .i64 n, .slice A ks.length cap] 25)).alloc (.cells #[.int .i64 0, .int .i64 0, .slice none 0 0] 25);obtain⟨b30,b40,hs0⟩:=blk2 (xr ((w.alloc (.cells #[.int .i64 k, .int .i64 n, .slice A ks.length cap] 25)).alloc (.cells #[.int .i64 0, .int .i64 0, .slice none 0 0] 25)));clear hin hK hl hc b30;go_enter Tryz.func76,Tryz.ntmps76;go_wp2_with fail;generalize (w.alloc _).alloc _=w0 at hx0 b40 hs0;refine(HC.out _ hx0).mono ?_;rintro e w1 ⟨B,c,rfl,⟨W,hW0,hG1,hW1⟩,e1⟩;have hx2:=e1.trans ((xr w1).alloc (.cells #[.int .i64 k, .int .i64 n, .slice B ks.length c] 25));obtain⟨w2,hw2⟩: ∃w2,w2=w1.alloc (.cells #[.int .i64 k, .int .i64 n, .slice B ks.length c] 25):=⟨_,rfl⟩;have b52:w2.heap[w1.heap.size]? =some (.cells #[.int .i64 k, .int .i64 n, .slice B ks.length c] 25 (0,0)):=hw2▸heap_alloc_new w1 _;have hG2:j16 (fun b=> b < W.heap.size\/b=w1.heap.size) W w2 25 (.slice B ks.length c) ks:=hw2▸(hG1.widen (fun b hb hn h=> by rcases h with h|h;exact hn h;omega)).ext ((xr w1).alloc _);have hown1: ∀q,(Value.slice B ks.length c).ownBlock=some q->W.heap.size<=q/\q < w1.heap.size:=by
  obtain⟨xs,q1,-⟩:=hG1;exact fun q hq=>⟨(q1.lt q hq).1,(q1.lt q hq).2⟩
 rw[<-hw2] at hx2;have b42:=hx2.blk b40;have hs2:w1.heap.size < w2.heap.size:=q10 b52;obtain⟨g5,hg5⟩: ∃g5,g5=w1.heap.size:=⟨_,rfl⟩;have hW5:W.heap.size<=g5:=by omega
 rw[<-hg5] at hG2 hown1;go_wp2_with fail;rw[<-hw2];rw[<-hg5] at b52⊢;clear hw2 hG1 HC b40;refine(q23 _ g m 50 (hR.ext (hx0.trans hx2)) (by omega)).mono ?_;rintro e w4 ⟨x,rfl,hx50,-,hR4,ho4⟩;have hO4:Only [g] w w4:=(oE (hx0.trans hx2)).trans ho4;have hw15:w.heap.size+1 < g5:=by have:=q10 b42;have:=e1.size;omega
 have b44:=ho4.keepBlk b42 (by simp;omega);have b54:=ho4.keepBlk b52 (by simp;omega);have hnX: ∀q,(Value.slice B ks.length c).ownBlock=some q-> ¬(q < W.heap.size\/q=g5):=fun q hq h=> by have:=hown1 q hq;omega
 have hG4:=hG2.keep ho4.size (fun b hb hn=> ho4.block b hb (fun hm=> hn (.inl (by rw[List.mem_singleton.1 hm];omega)))) hnX;have hgx4:g5 < w4.heap.size:=q10 b54;clear b42 b52 hG2 hR ho4 hs2 hg5;obtain⟨B',c',hBc,hl1,hl2,hKs⟩:=hG4.liesX hnX;cases hBc
 have HK:=hdq (show∀w':World,w4.heap.size<=w'.heap.size->(∀b,W.heap.size<=b->b≠g5->b < w4.heap.size->w'.heap[b]? =w4.heap[b]?)->y13 (w.heap.size+2) w' B ks from fun w' h1 h2=> hKs.mono (fun b hb=>⟨by omega,by omega⟩) (fun b hb=> h2 b (by omega) (by omega) hb.1));have HG:=hdq hG4;have HNX:=hdq hnX;have HOW:=hdq hown1;clear hKs hG4 hnX hown1;by_cases h0:x=0
 · subst h0
   have hx5:=(xr w4).alloc (.cells #[.int .i64 0, .int .i64 17, .int .i64 1, .int .i64 5, .int .i64 6] 3);obtain⟨z0,z1,z2,q0,q1,q2⟩:=own3 b54;go_wp2_with fail;refine(j27 _ g _ (hR4.ext hx5) (by omega) _ 5 [0,17,1,5,6] (by simp) (by decide) (by simp) (j35 rfl) (by intro b o hb;simp at hb;have:=hO4.size;omega)).mono ?_;rintro e w6 ⟨y,rfl,-,hR6,ho6⟩;have hO6:=(hO4.trans (oE (L:= [g]) hx5)).trans ho6;have b46:=ho6.keepBlk (hx5.blk b44) (by simp;omega);have b56:=ho6.keepBlk (hx5.blk b54) (by simp;omega);have hs6:w4.heap.size<=w6.heap.size:=by have:=hx5.size;have:=ho6.size;omega
   have hK7:=HK.out (w6.setCell ⟨g5,0,none⟩ (.int .i64 y)) (by simpa using hs6) (fun b h1 h2 h3=>(Below.heap_setCell _ _ _ _ (by show b≠g5;exact h2)).trans ((ho6.block b (by have:=hx5.size;omega) (by simp;omega)).trans (hx5.heap b h3)));have b47:=j11 b46 (p:=⟨g5,0,none⟩) (by show w.heap.size+1≠g5;omega) (.int .i64 y);have b57:=q11 b56 0 (.int .i64 y);have hR7:Rd (w6.setCell ⟨g5,0,none⟩ (.int .i64 y)) g (m+2):=hR6.set (by show g < g5;omega) _;have hO7:=hO6.setNew (p:=⟨g5,0,none⟩) (by show w.heap.size<=g5;omega) (.int .i64 y);obtain⟨y0,y1,y2,p0,p1,p2⟩:=own3 b56;obtain⟨s0,s1,s2,f0,f1,f2⟩:=own3 b46;have hgx:=hgl;clear z0 z1 z2 q0 q1 q2 hx5 b46 b56 hO6 ho6 hR6 hR4 b44 b54 hO4 hgl;go_wp2_with fail;refine bodyPost_ret (v:= .agg #[.int .i64 y, .int .i64 n, .slice B ks.length c]) (by simp[results,Tryz.results76,go_sem,s0,s1,s2]) rfl ⟨.mk y n ks,_,rfl,by simp only[cnt];omega, ?_, ?_, ?_⟩
   · exact((((From.mk y n hK7 hl1 hl2).set (by simp) _).set (by simp) _).set (by simp) _).since (by omega)
   · exact((hR7.set (by show g < w.heap.size+1;omega) _).set (by show g < w.heap.size+1;omega) _).set (by show g < w.heap.size+1;omega) _
   · exact((hO7.setNew (by simp) _).setNew (by simp) _).setNew (by simp) _
 by_cases h1:x=1
 · subst h1
   have hx5:=(xr w4).alloc (.cells #[.int .i64 21, .int .i64 (-1), .int .i64 1, .int .i64 9223372036854775807] 3);obtain⟨z0,z1,z2,q0,q1,q2⟩:=own3 b54;go_wp2_with fail;refine(j27 _ g _ (hR4.ext hx5) (by omega) _ 4 [21,-1,1,9223372036854775807] (by simp) (by decide) (by simp) (j35 rfl) (by intro b o hb;simp at hb;have:=hO4.size;omega)).mono ?_;rintro e w6 ⟨y,rfl,-,hR6,ho6⟩;have hO6:=(hO4.trans (oE (L:= [g]) hx5)).trans ho6;have b46:=ho6.keepBlk (hx5.blk b44) (by simp;omega);have b56:=ho6.keepBlk (hx5.blk b54) (by simp;omega);have hs6:w4.heap.size<=w6.heap.size:=by have:=hx5.size;have:=ho6.size;omega
   have hK7:=HK.out (w6.setCell ⟨g5,1,none⟩ (.int .i64 y)) (by simpa using hs6) (fun b h1 h2 h3=>(Below.heap_setCell _ _ _ _ (by show b≠g5;exact h2)).trans ((ho6.block b (by have:=hx5.size;omega) (by simp;omega)).trans (hx5.heap b h3)));have b47:=j11 b46 (p:=⟨g5,1,none⟩) (by show w.heap.size+1≠g5;omega) (.int .i64 y);have b57:=q11 b56 1 (.int .i64 y);have hR7:Rd (w6.setCell ⟨g5,1,none⟩ (.int .i64 y)) g (m+2):=hR6.set (by show g < g5;omega) _;have hO7:=hO6.setNew (p:=⟨g5,1,none⟩) (by show w.heap.size<=g5;omega) (.int .i64 y);obtain⟨y0,y1,y2,p0,p1,p2⟩:=own3 b56;obtain⟨s0,s1,s2,f0,f1,f2⟩:=own3 b46;have hgx:=hgl;clear z0 z1 z2 q0 q1 q2 hx5 b46 b56 hO6 ho6 hR6 hR4 b44 b54 hO4 hgl;go_wp2_with fail;refine bodyPost_ret (v:= .agg #[.int .i64 k, .int .i64 y, .slice B ks.length c]) (by simp[results,Tryz.results76,go_sem,s0,s1,s2]) rfl ⟨.mk k y ks,_,rfl,by simp only[cnt];omega, ?_, ?_, ?_⟩
   · exact((((From.mk k y hK7 hl1 hl2).set (by simp) _).set (by simp) _).set (by simp) _).since (by omega)
   · exact((hR7.set (by show g < w.heap.size+1;omega) _).set (by show g < w.heap.size+1;omega) _).set (by show g < w.heap.size+1;omega) _
   · exact((hO7.setNew (by simp) _).setNew (by simp) _).setNew (by simp) _
 by_cases h2:x=2
 · subst h2
   obtain⟨i0,hi,hz0,hz1,hz2⟩:=info_parts y181;have hv4:=y10 b54 2;have HB5:=hdq b54;have HB4:=hdq b44;have hg5n:g5 < w4.heap.size:=q10 b54;have hks5:ks.length < 1099511627776:=by omega
   have hWw:w.heap.size+1 < W.heap.size:=by omega
   clear b54 b44 h0 h1;go_wp2_with fail
   go_region_law (first
    |(go_simp;go_at_call 96;refine(j23 _ 7 0).mono ?_;rintro e w5 ⟨rfl,e5⟩;have e5':Ext w4 w5:=((xr w4).drew).trans e5;have b55:=e5'.blk HB5.out;have hv5:=y10 b55 2;have hs55:g5 < w5.heap.size:=q10 b55)
    |(refine y88 _ (by rfl) (.tmp 25) (.tmp 27) _ (by rfl) 25 i0 _ Tryz.underlying23 hi hz0 hz1 hz2 rfl (by rfl) (X:=fun b=> b < W.heap.size\/b=g5) (W:=W) (tr:= .mk 7 0 []) (HG.out.ext (e5'.trans ((xr w5).alloc _))) (by have:=e5'.size;simp;omega) (InT.mk_iff.2 ⟨none,0,rfl,Nat.le_refl _,Nat.zero_le _, .inl rfl⟩) (by rfl) (heap_alloc_new _ _) hks5 ?_;intro v' w6 hG6 hB6 hg6 ho6;obtain⟨B6,c6,rfl,r1,r2,hK6⟩:=hG6.liesX (fun b hb=> by rcases ho6 b hb with h|h;exact HNX.out b h;(have:=e5'.size;simp at h;omega));have b66:=(hg6.block g5 (by simp;omega) (fun he=> by have:=HOW.out g5 he.symm;omega)).trans (((xr w5).alloc (.cells #[.int .i64 7, .int .i64 0, .slice none 0 0] 25)).blk b55);have hv6:=y10 b66 2;have hf6:=y12 b66 2))
   all_goals(
    have b46:=(hB6.block (w.heap.size+1) (by omega)).trans (((xr w5).alloc (.cells #[.int .i64 7, .int .i64 0, .slice none 0 0] 25)).blk (e5'.blk HB4.out));have hO6:Only [g] w w6:=((hO4.trans (oE (L:= [g]) e5')).trans (oE (L:= [g]) ((xr w5).alloc (.cells #[.int .i64 7, .int .i64 0, .slice none 0 0] 25)))).below hB6 (by omega);have hR6:Rd w6 g (m+1):=((hR4.ext e5').ext ((xr w5).alloc (.cells #[.int .i64 7, .int .i64 0, .slice none 0 0] 25))).under hB6 (by omega);rw[List.length_append,List.length_singleton] at r1;have HK6:=hdq hK6;have hlen2:(ks++ [Tr.mk 7 0 []]).length=ks.length+1:=by simp
    have HL2:=hdq hlen2;obtain⟨y0,y1,y2,p0,p1,p2⟩:=own3 b66;obtain⟨s0,s1,s2,f0,f1,f2⟩:=own3 b46;have hgx:=hgl;clear hlen2 hK6 hB6 hg6 ho6 b46 b66 hG6 b55 hv5 hv4 hgl;go_wp2_with fail;refine bodyPost_ret (v:= .agg #[.int .i64 k, .int .i64 n, .slice B6 (ks.length+1) c6]) (by simp[results,Tryz.results76,go_sem,s0,s1,s2]) rfl ⟨.mk k n (ks++ [.mk 7 0 []]),_,rfl,by simp only[cnt,q41,cnts];omega, ?_, ?_, ?_⟩
    · have hF7:y13 (w.heap.size+2) (w6.setCell ⟨g5,2,none⟩ (.slice B6 (ks.length+1) c6)) B6 (ks++ [.mk 7 0 []]):=HK6.out.mono (fun b hb=>⟨by omega,by simpa using hb.1⟩) (fun b hb=> Below.heap_setCell _ _ _ _ (by show b≠g5;omega))
      have hF8:=From.mk k n hF7 (by rw[HL2.out];exact r1) r2;rw[HL2.out] at hF8;exact(((hF8.set (by simp) _).set (by simp) _).set (by simp) _).since (by omega)
    · exact(((((hR6.mono (by omega)).set (by show g < g5;omega) _).set (by show g < w.heap.size+1;omega) _).set (by show g < w.heap.size+1;omega) _).set (by show g < w.heap.size+1;omega) _)
    · exact((((hO6.setNew (by show w.heap.size<=g5;omega) _).setNew (by simp) _).setNew (by simp) _).setNew (by simp) _))
 by_cases h3:x=3
 · subst h3
   have hFr:From (w.heap.size+2) w4 (.mk k n ks) (.agg #[.int .i64 k, .int .i64 n, .slice B ks.length c]):=From.mk k n (HK.out w4 (Nat.le_refl _) (fun _ _ _ _=> rfl)) hl1 hl2;obtain⟨y0,y1,y2,p0,p1,p2⟩:=own3 b54;clear h0 h1 h2;go_wp2_with fail;refine(q15 (w.heap.size+2) _ 8 _ 1 [.mk k n ks] (by intro h;cases h) (y13.one (g:=w4.heap.size) (e:=25) hFr (by omega) rfl) (by simp;omega) (by simp)).mono ?_;rintro e w6 ⟨u,rfl,hN,e6⟩;obtain⟨k6,n6,A6,l6,c6,rfl⟩:=hN.three;have hx6:=((xr w4).alloc (.cells #[.int .i64 k, .int .i64 n, .slice B ks.length c] 25)).trans e6;have hO6:=hO4.trans (oE (L:= [g]) hx6);have hR6:Rd w6 g (m+2):=(hR4.ext hx6).mono (by omega);obtain⟨s0,s1,s2,f0,f1,f2⟩:=own3 (hx6.blk b44);have hgx:=hgl;clear y0 y1 y2 p0 p1 p2 hgl b44 b54 hFr hR4;go_wp2_with fail;refine bodyPost_ret (v:= .agg #[.int .i64 k6, .int .i64 n6, .slice A6 l6 c6]) (by simp[results,Tryz.results76,go_sem,s0,s1,s2]) rfl ⟨.mk 8 0 [.mk k n ks],_,rfl,by simp only[cnt,cnts];omega, ?_, ?_, ?_⟩
   · exact(((hN.set (by simp) _).set (by simp) _).set (by simp) _).since (by omega)
   · exact((hR6.set (by show g < w.heap.size+1;omega) _).set (by show g < w.heap.size+1;omega) _).set (by show g < w.heap.size+1;omega) _
   · exact((hO6.setNew (by simp) _).setNew (by simp) _).setNew (by simp) _
 by_cases h4:x=4
 · subst h4
   cases hks:ks with
   |nil=>
    subst hks;have hK7:=HK.out w4 (Nat.le_refl _) (fun _ _ _ _=> rfl);have hR7:Rd w4 g (m+2):=hR4.mono (by omega);clear hR4 h0 h1 h2 h3;obtain⟨s0,s1,s2,f0,f1,f2⟩:=own3 b44;obtain⟨x0,x1,x2,-,-,-⟩:=own3 b54;have hgx:=hgl;clear hgl;go_wp2_with fail;refine bodyPost_ret (v:= .agg #[.int .i64 k, .int .i64 n, .slice B 0 c]) (by simp[results,Tryz.results76,go_sem,s0,s1,s2]) rfl ⟨.mk k n [],_,rfl,by simp only[cnt];omega, ?_, ?_, ?_⟩
    · exact((((From.mk k n hK7 hl1 hl2).set (by simp) _).set (by simp) _).set (by simp) _).since (by omega)
    · exact((hR7.set (by show g < w.heap.size+1;omega) _).set (by show g < w.heap.size+1;omega) _).set (by show g < w.heap.size+1;omega) _
    · exact((hO4.setNew (by simp) _).setNew (by simp) _).setNew (by simp) _
   |cons t0 ts=>
    have hkl0:0 < ks.length:=by rw[hks];simp
    rw[<-hks];obtain⟨xs,q1,q2⟩:=HG.out;rcases q1.2 with⟨hv,hz⟩ |⟨r,cap',cur,hv,hbr,hr4,hnc,hcm,hcs,htk⟩
    · omega
    cases hv
    have hr5:W.heap.size<=r/\r < g5:=HOW.out r rfl;have hrow:=RowL.tail (cur.toList.drop (ks.length*3)) (q2.mono (S':=fun b=> b < w4.heap.size/\r≠b/\ ¬(b < W.heap.size\/b=g5)) (fun b hb=>⟨hb.1,fun h=> hb.2.1 (by rw[h];rfl),hb.2.2⟩) (fun _ _=> rfl));rw[<-htk,List.take_append_drop] at hrow;have HRow:=hdq hrow;have hc3:0+3<=cur.size:=by rw[hcs];omega
    have HB5:=hdq b54;have HB4:=hdq b44;have HR:=hdq hr4;obtain⟨y0,y1,y2,p0,p1,p2⟩:=own3 b54;obtain⟨v0,v1,v2,z0,z1,z2,fz0,fz1,fz2⟩:=cells3 (i:=0) hr4 hc3;have hg5n:g5 < w4.heap.size:=q10 b54;have hi0:(0:Int) <(ks.length:Int):=by omega
    have HKS:=hdq hks;have hct:cnts (ks.set 0 (.mk 1 25 []))<=cnts ks:=by
     rw[hks];have:=j123 t0;simp[cnts,cnt]
     omega
    clear b54 b44 h0 h1 h2 h3 hrow htk q1 q2 hr4 hks hcs hc3;go_wp2_with fail
    go_region_law (go_simp;go_at_call 96;refine(j23 _ 1 25).mono ?_;rintro e w5 ⟨rfl,e5⟩;have e5':Ext w4 w5:=((xr w4).drew).trans e5;have b55:=e5'.blk HB5.out;have hv5:=y10 b55 2;have hs55:g5 < w5.heap.size:=q10 b55;have hrb5:=e5'.blk HR.out;have k0:=e5'.cell z0;have k1:=e5'.cell z1;have k2:=e5'.cell z2;have fk0:=y12 hrb5 0;have fk1:=y12 hrb5 1;have fk2:=y12 hrb5 2)
    all_goals(
     obtain⟨w7,hw7⟩: ∃w7,w7=((w5.setCell ⟨r,0,none⟩ (.int .i64 1)).setCell ⟨r,1,none⟩ (.int .i64 25)).setCell ⟨r,2,none⟩ (.slice none 0 0):=⟨_,rfl⟩;have b7r:w7.heap[r]? =some (.cells (((cur.setIfInBounds 0 (.int .i64 1)).setIfInBounds 1 (.int .i64 25)).setIfInBounds 2 (.slice none 0 0)) 25 (0,0)):=by
      rw[hw7];exact q11 (q11 (q11 hrb5 0 _) 1 _) 2 _
     have hne: ∀b,b≠r->w7.heap[b]? =w5.heap[b]? :=fun b hb=> by
      rw[hw7,Below.heap_setCell _ _ _ _ hb,Below.heap_setCell _ _ _ _ hb,Below.heap_setCell _ _ _ _ hb]
     have hs7:w7.heap.size=w5.heap.size:=by rw[hw7];simp
     have hs45:=e5'.size;have hR7:Rd w7 g (m+2):=by
      rw[hw7];exact((((hR4.ext e5').mono (show m+1<=m+2 by omega)).set (p:=⟨r,0,none⟩) (by show g < r;omega) _).set (p:=⟨r,1,none⟩) (by show g < r;omega) _).set (p:=⟨r,2,none⟩) (by show g < r;omega) _
     have hO7:Only [g] w w7:=by
      rw[hw7];exact((((hO4.trans (oE (L:= [g]) e5')).setNew (p:=⟨r,0,none⟩) (by show w.heap.size<=r;omega) _).setNew (p:=⟨r,1,none⟩) (by show w.heap.size<=r;omega) _).setNew (p:=⟨r,2,none⟩) (by show w.heap.size<=r;omega) _)
     have b57:=(hne g5 (by omega)).trans b55;have b47:=(hne (w.heap.size+1) (by omega)).trans (e5'.blk HB4.out);have hrow7:=RowL.set (S:=fun b=> b < w7.heap.size/\w.heap.size+2<=b) (t:= .mk 1 25 []) (v0:= .int .i64 1) (v1:= .int .i64 25) (v2:= .slice none 0 0) (InT.mk_iff.2 ⟨none,0,rfl,Nat.le_refl _,Nat.zero_le _, .inl rfl⟩) 0 (HRow.out.mono (w':=w7) (S':=fun b=> b < w7.heap.size/\w.heap.size+2<=b) (fun b hb=>⟨by omega,by omega⟩) (fun b hb=>(hne b (fun h=> hb.2.1 h.symm)).trans (e5'.heap b hb.1)));have hF7:y13 (w.heap.size+2) w7 (some ⟨r,0,none⟩) (ks.set 0 (.mk 1 25 [])):=by
      refine .inr ⟨r,0,rfl,⟨by omega,by rw[hs7];exact q10 hrb5⟩, ?_⟩;have h9:=RowL.inL b7r (pre:= []) (xs:=((cur.toList.set (0*3) (.int .i64 1)).set (0*3+1) (.int .i64 25)).set (0*3+2) (.slice none 0 0)) hrow7 (by simp[Array.toList_setIfInBounds]);exact h9.mono (fun b hb=>⟨hb.2,hb.1⟩) (fun _ _=> rfl) ⟨by rw[hs7];exact q10 hrb5,by omega⟩
     have hF8:=From.mk k n hF7 (by rw[List.length_set];exact hl1) hl2;rw[List.length_set] at hF8;have HF8:=hdq hF8;have hctf:cnt (.mk k n (ks.set 0 (.mk 1 25 [])))<=cnt (.mk k n ks)+1:=by simp only[cnt];omega
     have HCT:=hdq hctf;obtain⟨s0,s1,s2,f0,f1,f2⟩:=own3 b47;obtain⟨x0,x1,x2,-,-,-⟩:=own3 b57;have hgx:=hgl;clear hF8 hF7 hrow7 b57 b47 hne b7r hctf hrb5 k0 k1 k2 fk0 fk1 fk2 b55 hv5 hgl y0 y1 y2 z0 z1 z2 fz0 fz1 fz2 p0 p1 p2
     try rw[<-hw7]
     clear hw7;go_wp2_with fail;refine bodyPost_ret (v:= .agg #[.int .i64 k, .int .i64 n, .slice (some ⟨r,0,none⟩) ks.length c]) (by simp[results,Tryz.results76,go_sem,s0,s1,s2]) rfl ⟨.mk k n (ks.set 0 (.mk 1 25 [])),_,rfl,HCT.out, ?_, ?_, ?_⟩
     · exact(((HF8.out.set (by simp) _).set (by simp) _).set (by simp) _).since (by omega)
     · exact((hR7.set (by show g < w.heap.size+1;omega) _).set (by show g < w.heap.size+1;omega) _).set (by show g < w.heap.size+1;omega) _
     · exact((hO7.setNew (by simp) _).setNew (by simp) _).setNew (by simp) _)
 have t0:(x==0)=false:=beq_eq_false_iff_ne.2 h0;have t1:(x==1)=false:=beq_eq_false_iff_ne.2 h1;have t2:(x==2)=false:=beq_eq_false_iff_ne.2 h2;have t3:(x==3)=false:=beq_eq_false_iff_ne.2 h3;have t4:(x==4)=false:=beq_eq_false_iff_ne.2 h4;have hK7:=HK.out w4 (Nat.le_refl _) (fun _ _ _ _=> rfl);have hR7:Rd w4 g (m+2):=hR4.mono (by omega);clear hR4 h0 h1 h2 h3 h4;obtain⟨s0,s1,s2,f0,f1,f2⟩:=own3 b44;obtain⟨x0,x1,x2,-,-,-⟩:=own3 b54;have hgx:=hgl;clear hgl;go_wp2_with fail;refine bodyPost_ret (v:= .agg #[.int .i64 k, .int .i64 n, .slice B ks.length c]) (by simp[results,Tryz.results76,go_sem,s0,s1,s2]) rfl ⟨.mk k n ks,_,rfl,by simp only[cnt];omega, ?_, ?_, ?_⟩
 · exact((((From.mk k n hK7 hl1 hl2).set (by simp) _).set (by simp) _).set (by simp) _).since (by omega)
 · exact((hR7.set (by show g < w.heap.size+1;omega) _).set (by show g < w.heap.size+1;omega) _).set (by show g < w.heap.size+1;omega) _
 · exact((hO4.setNew (by simp) _).setNew (by simp) _).setNew (by simp) _
end Go.Proofs.YtdkamgafpphdjaaGreat
namespace Go.Proofs.YtdkamgafpphdjaaGreat
open Go.RowKit
set_option linter.unusedVariables false
attribute [local go_sem ↓] Go.wp_at_zero Go.wp_at_succ
theorem y186:(Tryz.prog.info? 25).map (fun i=>(i.zero,i.size,i.bytes))=some (some (.agg #[.int .i64 0, .int .i64 0, .slice none 0 0]),3,40):=by kernel_rfl
theorem q146{ks:List Tr}{j m:Nat}(x:Tr)(h:j < ks.length)(hne:j≠m):(ks.set m x).take (j+1)=(ks.set m x).take j++ [ks[j]]:=by
 have h':j <(ks.set m x).length:=by rw[List.length_set];exact h
 rw[<-List.take_append_getElem h',List.getElem_set_ne (by omega)]
theorem j143{ks:List Tr}{m:Nat}(x:Tr)(h:m < ks.length):(ks.set m x).take (m+1)=(ks.set m x).take m++ [x]:=by
 have h':m <(ks.set m x).length:=by rw[List.length_set];exact h
 rw[<-List.take_append_getElem h',List.getElem_set_self]
set_option maxRecDepth 100000 in
set_option maxHeartbeats 4000000 in
theorem j142(k n:Int)(ks:List Tr)(kid:Tr)(m:Nat)(Sk:Nat->Prop)(w:World)(v vk:Value)(hin:Lies w (.mk k n ks) v)(hSk: ∀b,Sk b->b < w.heap.size)(hkid:InT w Sk kid vk)(hm:m < ks.length)(hcnt:cnt (.mk k n ks)<=1000000):
 Calls Tryz.prog 114 #[v, .int .i64 m,vk] w fun e w'=> ∃x,e= .returned x/\InT w' (fun b=> Sk b\/w.heap.size+4<=b/\b < w'.heap.size) (.mk k n (ks.set m kid)) x/\Ext w w':=by
 obtain⟨A,cap,rfl,hl,hc,hK⟩:=Lies.mk_iff.1 hin;obtain⟨d1,d2,d3,d4,d5,rfl⟩:=Lies.three (InT.mono hSk (fun _ _=> rfl) hkid);obtain⟨i0,hi,hz0,hz1,hz2⟩:=info_parts y186;have hcc:=hc;unfold maxLen at hcc;simp only[cnt] at hcnt;have hlc:=y20 ks;go_enter Tryz.func114,Tryz.ntmps114;go_wp2_with fail;obtain⟨w1,hw1⟩: ∃w1,w1=((w.alloc (.cells #[.int .i64 k, .int .i64 n, .slice A ks.length cap] 25)).alloc (.cells #[.int .i64 d1, .int .i64 d2, .slice d3 d4 d5] 25)).alloc (.cells #[.int .i64 0, .int .i64 0, .slice none 0 0] 25):=⟨_,rfl⟩;obtain⟨W,hW⟩: ∃W,W=w1.alloc (.cells #[.int .i64 k, .int .i64 n, .slice none 0 0] 25):=⟨_,rfl⟩;have hs1:w1.heap.size=w.heap.size+3:=by rw[hw1];simp
 have hsW:W.heap.size=w.heap.size+4:=by rw[hW];simp;omega
 have hE1:Ext w w1:=hw1▸(((xr w).alloc _).alloc _).alloc _;have hEW:Ext w1 W:=hW▸(xr w1).alloc _;obtain⟨hbT,hbU,hbR,-⟩:w1.heap[w.heap.size]? =some (.cells #[.int .i64 k, .int .i64 n, .slice A ks.length cap] 25 (0,0))/\w1.heap[w.heap.size+1]? =some (.cells #[.int .i64 d1, .int .i64 d2, .slice d3 d4 d5] 25 (0,0))/\w1.heap[w.heap.size+1+1]? =some (.cells #[.int .i64 0, .int .i64 0, .slice none 0 0] 25 (0,0))/\True:=by
  rw[hw1];exact⟨(blk3 (xr _)).1,(blk3 (xr _)).2.1,(blk3 (xr _)).2.2.1,trivial⟩
 have hbO:W.heap[w.heap.size+1+1+1]? =some (.cells #[.int .i64 k, .int .i64 n, .slice none 0 0] 25 (0,0)):=by
  have:=heap_alloc_new w1 (.cells #[.int .i64 k, .int .i64 n, .slice none 0 0] 25);rw[hs1] at this;rw[hW];exact this
 rw[<-hw1,<-hW];have hsWa:w.heap.size+4<=W.heap.size:=by omega
 have hsWb:W.heap.size<=w.heap.size+4:=by omega
 have hs1a:w.heap.size+3<=w1.heap.size:=by omega
 have hs1b:w1.heap.size<=w.heap.size+3:=by omega
 clear hW hw1 hsW hs1;have hXW: ∀b,((b < w.heap.size/\ ¬Sk b)\/w.heap.size<=b/\b < W.heap.size)->b < W.heap.size:=fun b hb=> by rcases hb with hb|hb <;> omega
 go_loopw [8] (fun i wr=> ∃(j:Nat) (v:Value),j<=ks.length/\i= .int .i64 j/\wr.heap[w.heap.size+1+1+1]? =some (.cells #[.int .i64 k, .int .i64 n,v] 25 (0,0))/\j16 (fun b=>(b < w.heap.size/\ ¬Sk b)\/w.heap.size<=b/\b < W.heap.size) W wr 25 v ((ks.set m kid).take j)/\Ext w1 wr/\W.heap.size<=wr.heap.size) (fun i _=> ks.length -(intOf i).toNat)
 case atStart=> exact⟨0,_,Nat.zero_le _,rfl,hbO,j16.nil _ _ _ _,hEW,Nat.le_refl _⟩
 case round=>
  obtain⟨j,v,hj,rfl,hbv,hG,he,hle⟩:=hrel;by_cases hlt:j < ks.length
  · have hlen:((ks.set m kid).take j).length < 1099511627776:=by rw[List.length_take];omega
    obtain⟨-,-,t2,-,-,-⟩:=own3 (he.blk hbT);obtain⟨u0,u1,u2,-,-,-⟩:=own3 (he.blk hbU);have hj':(j:Int) <(ks.length:Int):=by omega
    have hv:=y10 hbv 2;have hfv:=y12 hbv 2;have hown: ∀q,v.ownBlock=some q->W.heap.size<=q/\q < wr.heap.size:=by
     obtain⟨xs,g1,-⟩:=hG;exact fun q hq=> g1.lt q hq
    have HOWN:=hdq hown;have hwrb:w.heap.size+1+1+1 < wr.heap.size:=q10 hbv;have hlt1:w.heap.size+1 < wr.heap.size:=by omega
    by_cases hjm:j=m
    · subst hjm
      have hjb:((j:Int)==(j:Int))=true:=by simp
      have htk:=j143 kid hlt;have HTK:=hdq htk;have hxk:=(xr wr).alloc (.cells #[.int .i64 d1, .int .i64 d2, .slice d3 d4 d5] 25);have hGk:=hG.ext hxk;have hTk:InT (wr.alloc (.cells #[.int .i64 d1, .int .i64 d2, .slice d3 d4 d5] 25)) (fun b=> b <(wr.alloc (.cells #[.int .i64 d1, .int .i64 d2, .slice d3 d4 d5] 25)).heap.size/\v.ownBlock≠some b/\ ¬((b < w.heap.size/\ ¬Sk b)\/w.heap.size<=b/\b < W.heap.size)) kid (.agg #[.int .i64 d1, .int .i64 d2, .slice d3 d4 d5]):=InT.mono (fun y hy=> by
       have h2:y < w.heap.size:=hSk y hy;exact⟨by simp;omega,fun hh=> by have:=(HOWN.out y hh).1;omega,fun hx=> by rcases hx with hx|hx;exact hx.2 hy;omega⟩) (fun y hy=>((hE1.trans he).trans hxk).heap y (hSk y hy)) hkid
      have HBV:=hdq (hxk.blk hbv);have HG:=hdq hGk;have HT:=hdq hTk;clear hown hG hGk hTk htk hbv;go_wp2_with (at_builtin;refine y18 _ rfl (.tmp 25) (.tmp 27) _ (by rfl) 25 i0 _ Tryz.underlying23 hi hz0 hz1 hz2 rfl (by rfl) (W:=W) HG.out (by have:=hxk.size;omega) HT.out (by rfl) (heap_alloc_new _ _) hlen ?_ hXW)
      intro v' w5 hG5 hB5;have hE5:Ext w1 w5:=(he.trans hxk).trans' hB5 (by omega);have hs5:=hB5.size;have hb6:=(hB5.block (w.heap.size+1+1+1) (by omega)).trans HBV.out;rw[<-HTK.out] at hG5;obtain⟨B5,c5,rfl,-,-,-,-⟩:=hG5.lies hXW;obtain⟨l5,hl5⟩: ∃l,((ks.set j kid).take (j+1)).length=l:=⟨_,rfl⟩;rw[hl5] at hG5⊢;clear hl5;have hsz5:W.heap.size<=w5.heap.size:=by have:=hxk.size;omega
      have hv5:=y10 hb6 2;have hf5:=y12 hb6 2;have HG5:=hdq hG5;clear hv hfv t2 u0 u1 u2 hG5 hlen;go_wp2_with fail
      go_roundw
      case rel=> exact⟨j+1,_,by omega,by go_num,q11 hb6 2 _,HG5.out.only (Only.one w5 (w.heap.size+1+1+1) 2 _) (by intro b hb;rw[List.mem_singleton.1 hb];exact .inr ⟨by omega,by omega⟩) hXW,hE5.setCell (by show _<=w.heap.size+1+1+1;omega) _,by simpa using hsz5⟩
      case measure=> simp[intOf];omega
    · have hjb:((j:Int)==(m:Int))=false:=beq_eq_false_iff_ne.2 (by omega)
      obtain⟨b,o,k',n',A',cap',kids,rfl,HK,c0,c1,c2,hkl,hkc,hK',hin',hmem⟩:=hK.get (hE1.trans he) hlt;have htk:=q146 kid hlt hjm;rw[HK.out] at htk;have HTK:=hdq htk;have hcm:=y15 hmem;have hEd:Ext wr wr.drew:=(xr wr).drew;have hinD:=hin'.ext hEd;have hcells: ∀w',Below W.heap.size wr w'->w'.heap[w.heap.size+1+1+1]? =some (.cells #[.int .i64 k, .int .i64 n,v] 25 (0,0)):=fun w' hB=>(hB.block (w.heap.size+1+1+1) (by omega)).trans hbv
      have HCells:=hdq hcells;have HG:=hdq hG;go_wp2_with fail;clear hcells hbv hG hown htk hcc u0 u1 u2
      go_region_law (first|(go_simp;go_at_call 72;refine(q40 _ _ _ hinD (by omega)).mono ?_;rintro e w4 ⟨u,rfl,hM,h4⟩;obtain⟨a1,a2,a3,a4,a5,rfl⟩:=hM.three';have hv4:=y10 (HCells.out _ ((hEd.trans h4).below hle)) 2;have hs4:=World.block_lt_of_cell? _ _ hv4) |(refine j25 _ (by rfl) (.tmp 31) (.tmp 38) _ (by rfl) 25 i0 _ Tryz.underlying23 hi hz0 hz1 hz2 rfl (by rfl) (X:=fun b=>(b < w.heap.size/\ ¬Sk b)\/w.heap.size<=b/\b < W.heap.size) (W:=W) (tr:= .mk k' n' kids) (HG.out.ext ((hEd.trans h4).trans ((xr w4).alloc _))) (by have:=(hEd.trans h4).size;simp;omega) (InT.mono (fun y hy=>⟨by have h9:=hy.2;simp;omega,fun hh=> by have h9:wr.heap.size<=y:=hy.1;have:=(HOWN.out y hh).2;omega,by have h9:wr.heap.size<=y:=hy.1;omega⟩) (fun y hy=>((xr w4).alloc _).heap y hy.2) (From.made hM)) (by rfl) (heap_alloc_new _ _) hlen ?_ hXW;intro v' w5 hG5 hB5;obtain⟨B5,c5,rfl,-,-,-,-⟩:=hG5.lies hXW;obtain⟨l5,hl5⟩: ∃l,((ks.set m kid).take j++ [Tr.mk k' n' kids]).length=l:=⟨_,rfl⟩;rw[hl5] at hG5⊢;clear hl5;have hB5':Below W.heap.size wr w5:=(((hEd.trans h4).trans ((xr w4).alloc _)).below hle).trans hB5;have hv5:=y10 (HCells.out _ hB5') 2;have hf5:=y12 (HCells.out _ hB5') 2))
      all_goals(
       have hE5:Ext w1 w5:=he.trans' hB5' (by omega);have hs5:=hB5'.size;have hb6:=HCells.out _ hB5';rw[<-HTK.out] at hG5;have HG5:=hdq hG5;clear hv4 hs4 hv HCells hM h4 c0 c1 c2 t2 hG5 hB5 hB5' hfv;go_wp2_with fail
       go_roundw
       case rel=> exact⟨j+1,_,by omega,by go_num,q11 hb6 2 _,HG5.out.only (Only.one w5 (w.heap.size+1+1+1) 2 _) (by intro b hb;rw[List.mem_singleton.1 hb];exact .inr ⟨by omega,by omega⟩) hXW,hE5.setCell (by show _<=w.heap.size+1+1+1;omega) _,by simp;omega⟩
       case measure=> simp[intOf];omega)
  · have hln:(ks.set m kid).take j=ks.set m kid:=List.take_of_length_le (by rw[List.length_set];omega)
    rw[hln] at hG;obtain⟨r0,r1,r2,-,-,-⟩:=own3 hbv;obtain⟨-,-,t2,-,-,-⟩:=own3 (he.blk hbT);obtain⟨s0,s1,s2,f0,f1,f2⟩:=own3 (he.blk hbR);have hGr:=fun(x0 x1 x2:Value)=>((hG.only (Only.one _ (w.heap.size+1+1) 0 x0) (by intro b hb;rw[List.mem_singleton.1 hb];exact .inr ⟨by omega,by omega⟩) hXW).only (Only.one _ (w.heap.size+1+1) 1 x1) (by intro b hb;rw[List.mem_singleton.1 hb];exact .inr ⟨by omega,by omega⟩) hXW).only (Only.one _ (w.heap.size+1+1) 2 x2) (by intro b hb;rw[List.mem_singleton.1 hb];exact .inr ⟨by omega,by omega⟩) hXW
    obtain⟨Bv,cv,rfl,q1,q2,-,-⟩:=hG.lies hXW;have HGR:=hdq hGr;have hE9:=hE1.trans he;clear hGr hG hln hbv;go_wp2_with fail;refine bodyPost_ret (v:= .agg #[.int .i64 k, .int .i64 n, .slice Bv ks.length cv]) (by simp[results,Tryz.results114,go_sem,s0,s1,s2]) rfl ⟨_,rfl, ?_, ?_⟩
    · obtain⟨Bv',cv',he',q1',q2',hKK,-⟩:=(HGR.out (.int .i64 k) (.int .i64 n) (.slice Bv ks.length cv)).lies hXW
      simp only[Value.slice.injEq,true_and] at he';obtain⟨rfl,rfl⟩:=he';have hKS:=InK.mono (S':=fun b=> Sk b\/w.heap.size+4<=b/\b <(((wr.setCell ⟨w.heap.size+1+1,0,none⟩ (.int .i64 k)).setCell ⟨w.heap.size+1+1,1,none⟩ (.int .i64 n)).setCell ⟨w.heap.size+1+1,2,none⟩ (.slice Bv ks.length cv)).heap.size) (fun y hy=> by
       have h8:=hy.1;have h9: ¬((y < w.heap.size/\ ¬Sk y)\/w.heap.size<=y/\y < W.heap.size):=hy.2;by_cases hys:Sk y
       · exact .inl hys
       · refine .inr ⟨?_,h8⟩
         by_cases h7:y < w.heap.size
         · exact absurd (.inl ⟨h7,hys⟩) h9
         · have: ¬(w.heap.size<=y/\y < W.heap.size):=fun h=> h9 (.inr h)
           omega) (fun _ _=> rfl) hKK
      exact InT.mk_iff.2 ⟨_,_,by rw[List.length_set],by rw[List.length_set];simpa using q1,q2,hKS⟩
    · exact((hE9.setCell (by show _<=w.heap.size+1+1;omega) _).setCell (by show _<=w.heap.size+1+1;omega) _).setCell (by show _<=w.heap.size+1+1;omega) _
theorem q164(k n:Int)(ks:List Tr)(kid:Tr)(m B:Nat)(w:World)(v vk:Value)(hin:Lies w (.mk k n ks) v)(hkid:From B w kid vk)(hB:B<=w.heap.size)(hm:m < ks.length)(hcnt:cnt (.mk k n ks)<=1000000):
 Calls Tryz.prog 114 #[v, .int .i64 m,vk] w fun e w'=> ∃x,e= .returned x/\From B w' (.mk k n (ks.set m kid)) x/\Ext w w':=
 (j142 k n ks kid m (fun b=> B<=b/\b < w.heap.size) w v vk hin (fun b hb=> hb.2) hkid hm hcnt).mono fun e w' ⟨x,h1,h2,h3⟩=>⟨x,h1,InT.mono (fun b hb=> by
  have:=h3.size;rcases hb with hb|hb
  · exact⟨hb.1,by have:=hb.2;omega⟩
  · exact⟨by have:=hb.1;omega,hb.2⟩) (fun _ _=> rfl) h2,h3⟩
end Go.Proofs.YtdkamgafpphdjaaGreat
namespace Go.Proofs.YtdkamgafpphdjaaGreat
open Go.RowKit
set_option linter.unusedVariables false
attribute [local go_sem ↓] Go.wp_at_zero Go.wp_at_succ
theorem y113:(Tryz.prog.info? 25).map (fun i=>(i.zero,i.size,i.bytes))=some (some (.agg #[.int .i64 0, .int .i64 0, .slice none 0 0]),3,40):=by kernel_rfl
theorem y78{P:Program}(w:World){ops:Array Oper}{rest:List Oper}{o:Oper}{a:Act}{Q:Exit->Act->World->Prop}(hgd:o.guard=none)(s x:Operand)(t:TypeId)
 (ho:o.op= .call {callee:= .builtin .append,args:=#[s,x],argTypes:=#[t,t]})
 (base:Nat) (e:TypeId) (i:TypeInfo) (z:Value) (ht:P.underlying t=some (.slice e)) (hi:P.info? e=some i) (hz:i.zero=some z) (hsize:i.size=3) (hby:i.bytes=40) (hzs:z.cells.size=3)
 {v:Value} {ad:Addr} {m cap:Nat} {xs:List Value} (hs:a.eval s=v) (hown:w.ownsRow base e 3 v 0 []) (hbase:base<=w.heap.size) (hx:a.eval x= .slice (some ad) m cap)
 (hl:xs.length=m*3) (hnews: ∀j u,xs[j]? =some u->w.cell? (ad.add j)=some u) (h1: ∀u∈xs,u.oneCell'=true) (hm:m<=1048576)
 (h: ∀v' w',w'.ownsRow base e 3 v' m xs->w.grownBy w' v.ownBlock->(∀g,v'.ownBlock=some g->v.ownBlock=some g\/w.heap.size<=g)->wpList P ops Q rest (a.put o.dst v') w'):wpList P ops Q (o::rest) a w:=by
 refine wpList_plain hgd fun K hK'=> ?_
 obtain⟨v',w',hr,r1,r2,r3⟩:=q16 (P:=P) w base t o.type e i z 3 40 ht hi hz hsize hby hzs (by decide) v 0 [] hown ad m cap xs hl hnews h1 (by unfold maxLen;omega) (by omega) hbase;rw[Nat.zero_add,List.nil_append] at r1;unfold Oper.wp execOp;simp only[ho,resolve,invoke,builtin,Sem.run_bind,Sem.run_pure,Result.andThen_ok,List.map_toArray,List.map_cons,List.map_nil,hs,hx,hr];exact hK' _ _ (h v' w' r1 r2 r3)
def ClnQ(w:World)(N:Nat->Prop)(ks:List Tr)(e:Ending)(w':World):Prop:= ∃v xs,e= .returned v/\w'.ownsRow w.heap.size 25 3 v ks.length xs/\RowL w' (fun b=> N b/\b < w.heap.size) xs ks/\Ext w w'
set_option maxRecDepth 100000 in
set_option maxHeartbeats 1000000 in
theorem y108(ks:List Tr)(w:World)(N:Nat->Prop)(A:Option Addr)(cap:Nat)(hK:InK w N A ks)(hn:ks.length<=1048576):Calls Tryz.prog 163 #[.slice A ks.length cap] w (ClnQ w N ks):=by
 obtain⟨i0,hi,hz0,hz1,hz2⟩:=info_parts y113;have hnil: ∀W,(binOp .eql 23 (.slice A ks.length cap) (.slice none 0 0)).run Tryz.prog W= .ok (.bool A.isNone) W:=fun W=> Lib.run_eql_slice_nil W 23 _ A ks.length cap 0 0 Tryz.underlying23
 cases A with
 |none=>
  have h0:ks= []:=by
   rcases hK with h|⟨b,o,h,-⟩
   · exact h
   · cases h
  subst h0;simp only[List.length_nil,Option.isNone_none] at hnil⊢;go_enter Tryz.func163,Tryz.ntmps163;go_wp2_with fail;go_ret;exact⟨_, [],rfl,World.ownsRow_nil _ _ _ _,RowL.nil,xr _⟩
 |some ad=>
  have hx:=(xr w).alloc (.cells #[] 25);have hG:(w.alloc (.cells #[] 25)).ownsRow w.heap.size 25 3 (.slice (some ⟨w.heap.size,0,none⟩) 0 0) 0 []:=World.ownsRow_lit w #[] 0 (Nat.le_refl _) (Nat.zero_le _) rfl;obtain⟨xs,n1,n2,n3,n4⟩: ∃xs:List Value,xs.length=ks.length*3/\(∀j u,xs[j]? =some u->(w.alloc (.cells #[] 25)).cell? (ad.add j)=some u)/\(∀u∈xs,u.oneCell'=true)/\RowL w (fun b=> N b/\b < w.heap.size) xs ks:=by
   rcases hK.bound with rfl|⟨b,o,h,hb,hL⟩
   · exact⟨[],rfl,fun j u h=> by simp at h,fun u h=> by simp at h,RowL.nil⟩
   · obtain⟨xs,n1,n2,n3,n4⟩:=hL.rowL
     simp only[Option.some.injEq] at h;subst h;exact⟨xs,n1,fun j u hu=> by rw[Addr.add_lit];exact hx.cell (n2 j u hu),n3,n4⟩
  have HN:=hdq n2;have H4:=hdq n4;simp only[Option.isNone_some] at hnil;clear hK n2 n4;go_enter Tryz.func163,Tryz.ntmps163;go_wp2_with (at_builtin;go_loud (refine y78 _ rfl (.tmp 5) (.tmp 6) 23 rfl w.heap.size 25 i0 _ Tryz.underlying23 hi hz0 hz1 hz2 rfl (v:= .slice (some ⟨w.heap.size,0,none⟩) 0 0) rfl hG (by simp) rfl n1 HN.out n3 hn ?_))
  intro v' w' r1 r2 r3;have hE:Ext w w':=hx.grown r2 (by intro k hk;simp[Value.ownBlock] at hk;omega);go_wp2_with fail;go_ret;exact⟨v',xs,rfl,r1,H4.out.mono (fun b hb=> hb) (fun b hb=> hE.heap b hb.2),hE⟩
end Go.Proofs.YtdkamgafpphdjaaGreat
