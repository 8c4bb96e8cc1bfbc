/-
  Lemmas towards the law, 23: Draws, Walked2.
-/
import Derived.Test.YtdkamgafpphdjaaGreatUAV
set_option maxHeartbeats 8000000
set_option maxRecDepth 100000
namespace Go.Proofs.YtdkamgafpphdjaaGreat
open Go.RowKit
set_option linter.unusedVariables false
attribute [local go_sem ↓] Go.wp_at_zero Go.wp_at_succ
theorem From.only{B:Nat}{w w':World}{t:Tr}{v:Value}{L:List Nat}(h:From B w t v)(ho:Only L w w')(hL: ∀b,b∈L->b < B):From B w' t v:=
 h.mono (fun b hb=>⟨hb.1,Nat.lt_of_lt_of_le hb.2 ho.size⟩) (fun b hb=> ho.block b hb.2 (fun hm=> by have:=hL b hm;omega))
theorem of_any(P:ByteArray->Prop)(w:World)(g m:Nat)(h:Rd w g m)(hm:m < 1125899906842624)(b o n cap:Nat)(hl:n<=cap)(hc:cap<=maxLen)(hns:0 < n)(hbg:b≠g)(hb:b < w.heap.size)
 (hN: ∀j,j < n-> ∃s,w.cell? ⟨b,o+j,none⟩=some (.string s)/\P s):Calls Tryz.prog 133 #[.pointer (some ⟨g,0,none⟩),.slice (some ⟨b,o,none⟩) n cap] w fun e w'=>
 ∃s:ByteArray,e= .returned (.string s)/\P s/\Rd w' g (m+1)/\Only [g] w w':=by
 unfold maxLen at hc;have HN:=hdq hN;clear hN;go_enter Tryz.func133,Tryz.ntmps133;go_wp2_with fail;refine(q60 w g m n h hm).mono ?_;rintro e w1 ⟨i,rfl,h0,h1,hR,hon⟩;obtain⟨j,rfl⟩:=Int.eq_ofNat_of_zero_le h0;have hj:j < n:=by omega
 obtain⟨s,hs,hP⟩:=HN.out j hj;have hcj:w1.cell? ⟨b,o+j,none⟩=some (.string s):=(World.cell?_of_block (w:=w) (a:=⟨b,o+j,none⟩) (hon.block b hb (by simpa using hbg))).trans hs;clear hs;go_wp2_with fail;go_ret;exact⟨s,rfl,hP,hR,hon⟩
def nd:Nat->Nat
 |0=> 3
 |d+1=> 3+4*nd d
theorem j180:(Tryz.prog.info? 25).map (fun i=>(i.zero,i.size,i.bytes))=some (some (.agg #[.int .i64 0,.int .i64 0,.slice none 0 0]),3,40):=by kernel_rfl
def j220(d:Nat):Prop:= ∀(w:World) (g m:Nat),Rd w g m->m+nd d < 1000000->Calls Tryz.prog 151 #[.pointer (some ⟨g,0,none⟩),.int .i64 d] w fun e w'=> ∃t u,e= .returned u/\From w.heap.size w' t u/\Rd w' g (m+nd d)/\Only [g] w w'
theorem y45{w:World}{cs:Array Value}{e:TypeId}{ns:List Int}(hc:cs.toList=ns.map (Value.int .i64)):Nums (w.alloc (.cells cs e)) (some ⟨w.heap.size,0,none⟩) ns:=q141 (heap_alloc_new w _) hc
theorem y114{k:Int}: -1<=opsT k/\opsT k<=4:=by
 unfold opsT
 repeat' split
 all_goals omega
theorem Only.setNew{L:List Nat}{a w:World}(h:Only L a w){p:Addr}(hp:a.heap.size<=p.block)(u:Value):Only L a (w.setCell p u):=
 ⟨h.os,h.tape,h.output,by simpa using h.size,fun i hi hn=>(Below.heap_setCell w p u i (by omega)).trans (h.block i hi hn)⟩
theorem Rd.set{w:World}{g m:Nat}(h:Rd w g m){p:Addr}(hp:g < p.block)(u:Value):Rd (w.setCell p u) g m:=by
 obtain⟨A,cap,bs,q,hb,h1,h2,h3,h4,hB⟩:=h;exact⟨A,cap,bs,q,j12 hb (by omega) u,h1,h2,h3,h4,hB.below (by simp) (fun b hb _=> Below.heap_setCell w p u b (by omega))⟩
theorem y110{d:Nat}(ih:2<=d->j220 (d - 1))(hd2:2<=d)(w:World)(g m:Nat)(hR:Rd w g m)(hm:m+nd (d - 1) < 1000000):Calls Tryz.prog 151 #[.pointer (some ⟨g,0,none⟩),.int .i64 ((d:Int) - 1)] w fun e w'=> ∃t u,e= .returned u/\From w.heap.size w' t u/\Rd w' g (m+nd (d - 1))/\Only [g] w w':=by
 rw[show(d:Int) - 1=((d - 1:Nat):Int) by omega];exact ih hd2 w g m hR hm
theorem Only.one(w:World)(g i:Nat)(u:Value):Only [g] w (w.setCell ⟨g,i,none⟩ u):=(Only.refl [g] w).setCell (by simp) u
theorem q112{d:Nat}(h:2<=d):nd d=3+4*nd (d - 1):=by
 cases d with
 |zero=> omega
 |succ d=> rfl
theorem Rd.under{w w':World}{g m B:Nat}(h:Rd w g m)(hb:Below B w w')(hB:g < B):Rd w' g m:=by
 obtain⟨A,cap,bs,q,hk,h1,h2,h3,h4,hy⟩:=h;exact⟨A,cap,bs,q,(hb.block g hB).trans hk,h1,h2,h3,h4,hy.below hb.size (fun b hlt _=> hb.block b (by omega))⟩
theorem y218: ∀d,d<=3->nd d<=255
 |0,_=> by decide
 |1,_=> by decide
 |2,_=> by decide
 |3,_=> by decide
theorem q196{k:Int}(h:k∈ [(1:Int),7,6,2,1]):opsT k<=0:=by
 simp only[List.mem_cons,List.not_mem_nil,or_false] at h;rcases h with rfl|rfl|rfl|rfl|rfl <;> decide
theorem Only.keepBlk{L:List Nat}{w w':World}{b:Nat}{x:Obj}(ho:Only L w w')(h:w.heap[b]? =some x)(hn: ¬b∈L):w'.heap[b]? =some x:=(ho.block b (q10 h) hn).trans h
theorem q93(d:Nat)(hd:d<=4)(ih:2<=d->j220 (d - 1)):j220 d:=by
 intro w g m hR hm;have hgl:=hR.lt;obtain⟨i0,hi,hz0,hz1,hz2⟩:=info_parts j180;obtain⟨w1,hw1⟩: ∃w1,w1=(w.alloc (.cells #[.int .i64 0,.int .i64 0,.slice none 0 0] 25)).alloc (.cells #[.int .i64 1,.int .i64 5,.int .i64 4,.int .i64 8,.int .i64 9,.int .i64 3,.int .i64 6,.int .i64 7,.int .i64 11,.int .i64 15,.int .i64 14,.int .i64 10,.int .i64 12,.int .i64 13,.int .i64 16,.int .i64 2] 3):=⟨_,rfl⟩;have hx1:Ext w w1:=hw1▸((xr w).alloc _).alloc _;have b41:w1.heap[w.heap.size]? =some (.cells #[.int .i64 0,.int .i64 0,.slice none 0 0] 25 (0,0)):=by rw[hw1];exact(blk2 (xr _)).1
 have hN1:Nums w1 (some ⟨w.heap.size+1,0,none⟩) [1,5,4,8,9,3,6,7,11,15,14,10,12,13,16,2]:=by
  rw[hw1];have:=y45 (w:=w.alloc (.cells #[.int .i64 0,.int .i64 0,.slice none 0 0] 25)) (cs:=#[.int .i64 1,.int .i64 5,.int .i64 4,.int .i64 8,.int .i64 9,.int .i64 3,.int .i64 6,.int .i64 7,.int .i64 11,.int .i64 15,.int .i64 14,.int .i64 10,.int .i64 12,.int .i64 13,.int .i64 16,.int .i64 2]) (e:=3) (ns:= [1,5,4,8,9,3,6,7,11,15,14,10,12,13,16,2]) rfl
  simpa using this
 go_enter Tryz.func151,Tryz.ntmps151;go_wp2_with fail;rw[<-hw1];refine(j65 _ g m (hR.ext hx1) (by omega) _ 16 [1,5,4,8,9,3,6,7,11,15,14,10,12,13,16,2] (by simp) (by decide) (by simp) hN1 (by intro b o hb;simp at hb;omega)).mono ?_;rintro e w2 ⟨kind,rfl,-,hR2,ho2⟩;have hO2:Only [g] w w2:=(oE hx1).trans ho2;have b42:=ho2.keepBlk b41 (by simp;omega);clear hw1 hN1 b41;by_cases hlow:d < 2
 · have t0:decide ((d:Int) < 2)=true:=decide_eq_true (by omega)
   have hx3:=(xr w2).alloc (.cells #[.int .i64 1,.int .i64 7,.int .i64 6,.int .i64 2,.int .i64 1] 3);go_wp2_with fail;refine(j65 _ g _ (hR2.ext hx3) (by omega) _ 5 [1,7,6,2,1] (by simp) (by decide) (by simp) (y45 rfl) (by intro b o hb;simp at hb;have:=hO2.size;omega)).mono ?_;rintro e wK ⟨kd,rfl,hmem,hRK,hoK⟩;have hk0:d < 2->opsT kd<=0:=fun _=> q196 hmem
   have hOK:=(hO2.trans (oE hx3)).trans hoK;have b4K:=hoK.keepBlk (hx3.blk b42) (by simp;omega);clear hmem hO2 b42 hx3 hR2 ho2 hoK;go_wp2_with fail;obtain⟨wM,hwM⟩: ∃wM,wM=wK.alloc (.cells #[.int .i64 kd,.int .i64 0,.slice none 0 0] 25):=⟨_,rfl⟩;have hxM:Ext wK wM:=hwM▸(xr wK).alloc _;have b6M:wM.heap[wK.heap.size]? =some (.cells #[.int .i64 kd,.int .i64 0,.slice none 0 0] 25 (0,0)):=hwM▸heap_alloc_new wK _;have b4M:=hxM.blk b4K;have hRM:=hRK.ext hxM;have hOM:=hOK.trans (oE (L:= [g]) hxM);obtain⟨g6,hg6⟩: ∃g6,g6=wK.heap.size:=⟨_,rfl⟩;have hw6:w.heap.size < g6:=by rw[hg6];exact q10 b4K
   rw[<-hwM];rw[<-hg6] at b6M⊢;clear hwM hxM b4K hRK hOK hg6;refine(y35 kd _).mono ?_;rintro e wu ⟨rfl,rfl⟩;by_cases hmost:0 < q28 kd
   · have t2:decide (0 < q28 kd)=true:=decide_eq_true hmost
     have hx4:=(xr wM).alloc (.cells #[.int .i64 0,.int .i64 1,.int .i64 0,.int .i64 2,.int .i64 1,.int .i64 3] 3);go_wp2_with fail;refine(j65 _ g _ (hRM.ext hx4) (by omega) _ 6 [0,1,0,2,1,3] (by simp) (by decide) (by simp) (y45 rfl) (by intro b o hb;simp at hb;have:=hOM.size;omega)).mono ?_;rintro e w4 ⟨x,rfl,-,hR4,ho4⟩;have b64:=ho4.keepBlk (hx4.blk b6M) (by simp;omega);have b44:=ho4.keepBlk (hx4.blk b4M) (by simp;omega);have hO4:=(hOM.trans (oE (L:= [g]) hx4)).trans ho4;obtain⟨v0,v1,v2,f0,f1,f2⟩:=own3 b64;clear hR b6M b4M hRM hOM hx4 ho4;go_wp2_with fail;have b6L:=q11 b64 1 (.int .i64 x);have b4L:=j12 b44 (p:=⟨g6,1,none⟩) (by show w.heap.size≠g6;omega) (.int .i64 x);have hRL:Rd (w4.setCell ⟨g6,1,none⟩ (.int .i64 x)) g (m+3):=(hR4.set (by show g < g6;omega) _).mono (by omega);have hOL:=hO4.setNew (p:=⟨g6,1,none⟩) (by show w.heap.size<=g6;omega) (.int .i64 x);obtain⟨W,hW⟩: ∃W,W=w4.setCell ⟨g6,1,none⟩ (.int .i64 x):=⟨_,rfl⟩;rw[<-hW] at b4L b6L hRL hOL⊢;clear hW v0 v1 v2 f0 f1 f2 b64 b44 hO4 hR4;have hlt6:g6 < W.heap.size:=q10 b6L;have hltw:w.heap.size < g6:=hw6;have hgw:g < w.heap.size:=hgl
     go_loopw [7] (fun i wr=> ∃(j:Nat) (v:Value) (ts:List Tr),i= .int .i64 j/\j<=4/\(j:Int)<=max 0 (opsT kd)/\wr.heap[g6]? =some (.cells #[.int .i64 kd,.int .i64 x,v] 25 (0,0))/\wr.heap[w.heap.size]? =some (.cells #[.int .i64 0,.int .i64 0,.slice none 0 0] 25 (0,0))/\j20 (fun b=> b < W.heap.size) W wr 25 v ts/\ts.length=j/\Rd wr g (m+3+j*nd (d - 1))/\Only [g] w wr/\W.heap.size<=wr.heap.size) (fun i _=> 5 -(intOf i).toNat)
     case atStart=> exact⟨0,_, [],rfl,by omega,by omega,b6L,b4L,j20.nil _ _ _ _,rfl,by simpa using hRL,hOL,Nat.le_refl _⟩
     case round=>
      obtain⟨j,v,ts,rfl,hj,hjk,hb6,hb4,hG,htl,hRd,hO,hle⟩:=hrel;have HTL:=hdq htl;have htl4:ts.length<=4:=by omega
      clear htl;by_cases hlt:(j:Int) < opsT kd
      · have t1:decide ((j:Int) < opsT kd)=true:=decide_eq_true hlt
        have hop4:=(y114 (k:=kd)).2;have hd2:2<=d:=by
         rcases Nat.lt_or_ge d 2 with h|h
         · have:=hk0 h;omega
         · exact h
        have hj3:j<=3:=by omega
        have hmul:j*nd (d - 1)<=3*255:=Nat.mul_le_mul hj3 (y218 (d - 1) (by omega));have hnd:nd d=3+4*nd (d - 1):=q112 hd2;have hmul2:j*nd (d - 1)<=3*nd (d - 1):=Nat.mul_le_mul_right _ hj3;have HIc:=hdq (fun w' (hw:Ext wr w')=> y110 ih hd2 w' g _ (hRd.ext hw) (by omega));have HSTEP:=hdq (show m+3+j*nd (d - 1)+nd (d - 1)=m+3+(j+1)*nd (d - 1) from by rw[Nat.add_mul];omega);have HGr:=hdq hG;have HWR:=hdq (IntWalk.i64_in ((d:Int) - 1) ⟨by omega,by omega⟩);have hv:=y10 hb6 2;have hv3: ∃B c,v= .slice B ts.length c:=by
         obtain⟨B,c,hv,-⟩:=hG.lies (fun b hb=> hb);exact⟨B,c,hv⟩
        obtain⟨Bv,cv,rfl⟩:=hv3;have hown: ∀q,(Value.slice Bv ts.length cv).ownBlock=some q->q < wr.heap.size:=by
         obtain⟨xs,g1,-⟩:=hG;exact fun q hq=>(g1.lt q hq).2
        have HOWN:=hdq hown;have HB6:=hdq hb6;have HB4:=hdq hb4;clear hb4 hmul hG hown hb6 hmul2 hnd;go_wp2_with fail;refine(y22 kd _).mono ?_;rintro e wu ⟨rfl,rfl⟩;go_wp2_with fail
        go_region_law (first
         |(go_simp;go_at_call 151;(try rw[HWR.out]);(with_reducible refine(HIc.out _ (xr wr).drew).mono ?_);rintro e w5 ⟨t,u,rfl,hF5,hR5,ho5⟩;obtain⟨k5,n5,A5,l5,c5,rfl⟩:=hF5.three;have hs5:wr.heap.size<=w5.heap.size:=ho5.size;have b65:w5.heap[g6]? =some (.cells #[.int .i64 kd,.int .i64 x,.slice Bv ts.length cv] 25 (0,0)):=ho5.keepBlk HB6.out (by simp;omega);have b45:w5.heap[w.heap.size]? =some (.cells #[.int .i64 0,.int .i64 0,.slice none 0 0] 25 (0,0)):=ho5.keepBlk HB4.out (by simp;omega);have hv5:=y10 b65 2;have hs56:g6 < w5.heap.size:=q10 b65)
         |(refine y27 _ (by rfl) (.tmp 32) (.tmp 37) _ (by rfl) 25 i0 _ Tryz.underlying23 hi hz0 hz1 hz2 rfl (by rfl) (X:=fun b=> b < W.heap.size) (W:=W) (tr:=t) (((HGr.out.ext (xr wr).drew).only ho5 (by intro b hb;rw[List.mem_singleton.1 hb];omega) (fun b hb=> hb)).ext ((xr w5).alloc _)) (by simp;omega) ((hF5.ext ((xr w5).alloc _)).mono (fun b hb=>⟨hb.2,fun h=> by have:=HOWN.out b h;have h2:wr.heap.size<=b:=hb.1;omega,by have h2:wr.heap.size<=b:=hb.1;omega⟩) (fun _ _=> rfl)) (by rfl) (heap_alloc_new _ _) (by omega) ?_ (fun b hb=> hb);intro v' w6 hG6 hB6;obtain⟨B6,c6,rfl,r1,r2,-,-⟩:=hG6.lies (fun b hb=> hb);have b66:=(hB6.block g6 (by omega)).trans (((xr w5).alloc (.cells #[.int .i64 k5,.int .i64 n5,.slice A5 l5 c5] 25)).blk b65);have hv6:=y10 b66 2;have hf6:=q12 b66 2))
        all_goals(
         have hO6:Only [g] w w6:=(((hO.trans (oE (L:= [g]) (xr wr).drew)).trans ho5).trans (oE (L:= [g]) ((xr w5).alloc (.cells #[.int .i64 k5,.int .i64 n5,.slice A5 l5 c5] 25)))).below hB6 (by omega);have hR6:Rd w6 g (m+3+(j+1)*nd (d - 1)):=by rw[<-HSTEP.out];exact(hR5.ext ((xr w5).alloc (.cells #[.int .i64 k5,.int .i64 n5,.slice A5 l5 c5] 25))).under hB6 (by omega)
         have b46:=(hB6.block w.heap.size (by omega)).trans (((xr w5).alloc (.cells #[.int .i64 k5,.int .i64 n5,.slice A5 l5 c5] 25)).blk b45);have hsz6:W.heap.size<=w6.heap.size:=by have:=hB6.size;simp at this;omega
         rw[List.length_append,List.length_singleton] at hG6;have HG6:=hdq hG6;have HR6:=hdq hR6;have HB66:=hdq b66;have HB46:=hdq b46;clear hG6 hR6 b66 b46 hB6 b65 b45 hv5;go_wp2_with fail
         go_roundw
         case rel=> exact⟨j+1,_,ts++ [t],by go_num,by omega,by omega,q11 HB66.out 2 _,j12 HB46.out (by show w.heap.size≠g6;omega) _,HG6.out.only (Only.one w6 g6 2 _) (by intro b hb;rw[List.mem_singleton.1 hb];omega) (fun b hb=> hb),by rw[List.length_append,HTL.out];rfl,HR6.out.set (by show g < g6;omega) _,hO6.setNew (by show w.heap.size<=g6;omega) _,by simpa using hsz6⟩
         case measure=> simp[intOf];omega)
      · have t1:decide ((j:Int) < opsT kd)=false:=decide_eq_false hlt
        obtain⟨Bv,cv,rfl,h1,h2,hK,-⟩:=hG.lies (fun b hb=> hb);obtain⟨r0,r1,r2,-,-,-⟩:=own3 hb6;obtain⟨s0,s1,s2,f0,f1,f2⟩:=own3 hb4;have hFK:j18 (w.heap.size+1) wr Bv ts:=hK.mono (fun b hb=>⟨by omega,hb.1⟩) (fun _ _=> rfl);have hmul:j*nd (d - 1)<=4*nd (d - 1):=Nat.mul_le_mul_right _ hj;have hndd:d=0\/nd d=3+4*nd (d - 1):=by
         cases d with
         |zero=> exact .inl rfl
         |succ d=> exact .inr rfl
        have hj0:d=0->j=0:=fun h=> by have:=hk0 (by omega);omega
        have hRf:Rd wr g (m+nd d):=hRd.mono (by
         rcases hndd with h|h
         · have:=hj0 h;subst h;subst this;simp[nd]
         · omega)
        have HRf:=hdq hRf;clear hb6 hG hmul hndd hj0;go_wp2_with fail;refine(y22 kd _).mono ?_;rintro e wu ⟨rfl,rfl⟩;go_wp2_with fail;refine bodyPost_ret (v:= .agg #[.int .i64 kd,.int .i64 x,.slice Bv ts.length cv]) (by simp[results,Tryz.results151,go_sem,s0,s1,s2]) rfl ⟨.mk kd x ts,_,rfl, ?_, ?_, ?_⟩
        · exact((((From.mk kd x hFK h1 h2).set (by simp) _).set (by simp) _).set (by simp) _).since (by omega)
        · exact(((HRf.out.set (by simpa using hgw) _).set (by simpa using hgw) _).set (by simpa using hgw) _)
        · exact((hO.setNew (by simp) _).setNew (by simp) _).setNew (by simp) _
   · have t2:decide (0 < q28 kd)=false:=decide_eq_false hmost
     obtain⟨x,hx⟩: ∃x:Int,x=0:=⟨_,rfl⟩;go_wp2_with fail;rw[<-hx] at b6M;have b6L:=b6M;have b4L:=b4M;have hRL:Rd wM g (m+3):=hRM.mono (by omega);have hOL:=hOM;obtain⟨W,hW⟩: ∃W,W=wM:=⟨_,rfl⟩;rw[<-hW] at b4L b6L hRL hOL⊢;clear hW hx b6M b4M hRM hOM hR;have hlt6:g6 < W.heap.size:=q10 b6L;have hltw:w.heap.size < g6:=hw6;have hgw:g < w.heap.size:=hgl
     go_loopw [7] (fun i wr=> ∃(j:Nat) (v:Value) (ts:List Tr),i= .int .i64 j/\j<=4/\(j:Int)<=max 0 (opsT kd)/\wr.heap[g6]? =some (.cells #[.int .i64 kd,.int .i64 x,v] 25 (0,0))/\wr.heap[w.heap.size]? =some (.cells #[.int .i64 0,.int .i64 0,.slice none 0 0] 25 (0,0))/\j20 (fun b=> b < W.heap.size) W wr 25 v ts/\ts.length=j/\Rd wr g (m+3+j*nd (d - 1))/\Only [g] w wr/\W.heap.size<=wr.heap.size) (fun i _=> 5 -(intOf i).toNat)
     case atStart=> exact⟨0,_, [],rfl,by omega,by omega,b6L,b4L,j20.nil _ _ _ _,rfl,by simpa using hRL,hOL,Nat.le_refl _⟩
     case round=>
      obtain⟨j,v,ts,rfl,hj,hjk,hb6,hb4,hG,htl,hRd,hO,hle⟩:=hrel;have HTL:=hdq htl;have htl4:ts.length<=4:=by omega
      clear htl;by_cases hlt:(j:Int) < opsT kd
      · have t1:decide ((j:Int) < opsT kd)=true:=decide_eq_true hlt
        have hop4:=(y114 (k:=kd)).2;have hd2:2<=d:=by
         rcases Nat.lt_or_ge d 2 with h|h
         · have:=hk0 h;omega
         · exact h
        have hj3:j<=3:=by omega
        have hmul:j*nd (d - 1)<=3*255:=Nat.mul_le_mul hj3 (y218 (d - 1) (by omega));have hnd:nd d=3+4*nd (d - 1):=q112 hd2;have hmul2:j*nd (d - 1)<=3*nd (d - 1):=Nat.mul_le_mul_right _ hj3;have HIc:=hdq (fun w' (hw:Ext wr w')=> y110 ih hd2 w' g _ (hRd.ext hw) (by omega));have HSTEP:=hdq (show m+3+j*nd (d - 1)+nd (d - 1)=m+3+(j+1)*nd (d - 1) from by rw[Nat.add_mul];omega);have HGr:=hdq hG;have HWR:=hdq (IntWalk.i64_in ((d:Int) - 1) ⟨by omega,by omega⟩);have hv:=y10 hb6 2;have hv3: ∃B c,v= .slice B ts.length c:=by
         obtain⟨B,c,hv,-⟩:=hG.lies (fun b hb=> hb);exact⟨B,c,hv⟩
        obtain⟨Bv,cv,rfl⟩:=hv3;have hown: ∀q,(Value.slice Bv ts.length cv).ownBlock=some q->q < wr.heap.size:=by
         obtain⟨xs,g1,-⟩:=hG;exact fun q hq=>(g1.lt q hq).2
        have HOWN:=hdq hown;have HB6:=hdq hb6;have HB4:=hdq hb4;clear hb4 hmul hG hown hb6 hmul2 hnd;go_wp2_with fail;refine(y22 kd _).mono ?_;rintro e wu ⟨rfl,rfl⟩;go_wp2_with fail
        go_region_law (first
         |(go_simp;go_at_call 151;(try rw[HWR.out]);(with_reducible refine(HIc.out _ (xr wr).drew).mono ?_);rintro e w5 ⟨t,u,rfl,hF5,hR5,ho5⟩;obtain⟨k5,n5,A5,l5,c5,rfl⟩:=hF5.three;have hs5:wr.heap.size<=w5.heap.size:=ho5.size;have b65:w5.heap[g6]? =some (.cells #[.int .i64 kd,.int .i64 x,.slice Bv ts.length cv] 25 (0,0)):=ho5.keepBlk HB6.out (by simp;omega);have b45:w5.heap[w.heap.size]? =some (.cells #[.int .i64 0,.int .i64 0,.slice none 0 0] 25 (0,0)):=ho5.keepBlk HB4.out (by simp;omega);have hv5:=y10 b65 2;have hs56:g6 < w5.heap.size:=q10 b65)
         |(refine y27 _ (by rfl) (.tmp 32) (.tmp 37) _ (by rfl) 25 i0 _ Tryz.underlying23 hi hz0 hz1 hz2 rfl (by rfl) (X:=fun b=> b < W.heap.size) (W:=W) (tr:=t) (((HGr.out.ext (xr wr).drew).only ho5 (by intro b hb;rw[List.mem_singleton.1 hb];omega) (fun b hb=> hb)).ext ((xr w5).alloc _)) (by simp;omega) ((hF5.ext ((xr w5).alloc _)).mono (fun b hb=>⟨hb.2,fun h=> by have:=HOWN.out b h;have h2:wr.heap.size<=b:=hb.1;omega,by have h2:wr.heap.size<=b:=hb.1;omega⟩) (fun _ _=> rfl)) (by rfl) (heap_alloc_new _ _) (by omega) ?_ (fun b hb=> hb);intro v' w6 hG6 hB6;obtain⟨B6,c6,rfl,r1,r2,-,-⟩:=hG6.lies (fun b hb=> hb);have b66:=(hB6.block g6 (by omega)).trans (((xr w5).alloc (.cells #[.int .i64 k5,.int .i64 n5,.slice A5 l5 c5] 25)).blk b65);have hv6:=y10 b66 2;have hf6:=q12 b66 2))
        all_goals(
         have hO6:Only [g] w w6:=(((hO.trans (oE (L:= [g]) (xr wr).drew)).trans ho5).trans (oE (L:= [g]) ((xr w5).alloc (.cells #[.int .i64 k5,.int .i64 n5,.slice A5 l5 c5] 25)))).below hB6 (by omega);have hR6:Rd w6 g (m+3+(j+1)*nd (d - 1)):=by rw[<-HSTEP.out];exact(hR5.ext ((xr w5).alloc (.cells #[.int .i64 k5,.int .i64 n5,.slice A5 l5 c5] 25))).under hB6 (by omega)
         have b46:=(hB6.block w.heap.size (by omega)).trans (((xr w5).alloc (.cells #[.int .i64 k5,.int .i64 n5,.slice A5 l5 c5] 25)).blk b45);have hsz6:W.heap.size<=w6.heap.size:=by have:=hB6.size;simp at this;omega
         rw[List.length_append,List.length_singleton] at hG6;have HG6:=hdq hG6;have HR6:=hdq hR6;have HB66:=hdq b66;have HB46:=hdq b46;clear hG6 hR6 b66 b46 hB6 b65 b45 hv5;go_wp2_with fail
         go_roundw
         case rel=> exact⟨j+1,_,ts++ [t],by go_num,by omega,by omega,q11 HB66.out 2 _,j12 HB46.out (by show w.heap.size≠g6;omega) _,HG6.out.only (Only.one w6 g6 2 _) (by intro b hb;rw[List.mem_singleton.1 hb];omega) (fun b hb=> hb),by rw[List.length_append,HTL.out];rfl,HR6.out.set (by show g < g6;omega) _,hO6.setNew (by show w.heap.size<=g6;omega) _,by simpa using hsz6⟩
         case measure=> simp[intOf];omega)
      · have t1:decide ((j:Int) < opsT kd)=false:=decide_eq_false hlt
        obtain⟨Bv,cv,rfl,h1,h2,hK,-⟩:=hG.lies (fun b hb=> hb);obtain⟨r0,r1,r2,-,-,-⟩:=own3 hb6;obtain⟨s0,s1,s2,f0,f1,f2⟩:=own3 hb4;have hFK:j18 (w.heap.size+1) wr Bv ts:=hK.mono (fun b hb=>⟨by omega,hb.1⟩) (fun _ _=> rfl);have hmul:j*nd (d - 1)<=4*nd (d - 1):=Nat.mul_le_mul_right _ hj;have hndd:d=0\/nd d=3+4*nd (d - 1):=by
         cases d with
         |zero=> exact .inl rfl
         |succ d=> exact .inr rfl
        have hj0:d=0->j=0:=fun h=> by have:=hk0 (by omega);omega
        have hRf:Rd wr g (m+nd d):=hRd.mono (by
         rcases hndd with h|h
         · have:=hj0 h;subst h;subst this;simp[nd]
         · omega)
        have HRf:=hdq hRf;clear hb6 hG hmul hndd hj0;go_wp2_with fail;refine(y22 kd _).mono ?_;rintro e wu ⟨rfl,rfl⟩;go_wp2_with fail;refine bodyPost_ret (v:= .agg #[.int .i64 kd,.int .i64 x,.slice Bv ts.length cv]) (by simp[results,Tryz.results151,go_sem,s0,s1,s2]) rfl ⟨.mk kd x ts,_,rfl, ?_, ?_, ?_⟩
        · exact((((From.mk kd x hFK h1 h2).set (by simp) _).set (by simp) _).set (by simp) _).since (by omega)
        · exact(((HRf.out.set (by simpa using hgw) _).set (by simpa using hgw) _).set (by simpa using hgw) _)
        · exact((hO.setNew (by simp) _).setNew (by simp) _).setNew (by simp) _
 · have t0:decide ((d:Int) < 2)=false:=decide_eq_false (by omega)
   obtain⟨wK,hwK⟩: ∃wK,wK=w2:=⟨_,rfl⟩;obtain⟨kd,hkd⟩: ∃kd,kd=kind:=⟨_,rfl⟩;have hk0:d < 2->opsT kd<=0:=fun h=> absurd h hlow
   have hRK:Rd wK g (m+2):=hwK▸hR2.mono (by omega);have hOK:Only [g] w wK:=hwK▸hO2;have b4K:=b42;rw[<-hwK] at b4K⊢;rw[<-hkd];clear hwK hkd hR2 hO2 b42 ho2;go_wp2_with fail;obtain⟨wM,hwM⟩: ∃wM,wM=wK.alloc (.cells #[.int .i64 kd,.int .i64 0,.slice none 0 0] 25):=⟨_,rfl⟩;have hxM:Ext wK wM:=hwM▸(xr wK).alloc _;have b6M:wM.heap[wK.heap.size]? =some (.cells #[.int .i64 kd,.int .i64 0,.slice none 0 0] 25 (0,0)):=hwM▸heap_alloc_new wK _;have b4M:=hxM.blk b4K;have hRM:=hRK.ext hxM;have hOM:=hOK.trans (oE (L:= [g]) hxM);obtain⟨g6,hg6⟩: ∃g6,g6=wK.heap.size:=⟨_,rfl⟩;have hw6:w.heap.size < g6:=by rw[hg6];exact q10 b4K
   rw[<-hwM];rw[<-hg6] at b6M⊢;clear hwM hxM b4K hRK hOK hg6;refine(y35 kd _).mono ?_;rintro e wu ⟨rfl,rfl⟩;by_cases hmost:0 < q28 kd
   · have t2:decide (0 < q28 kd)=true:=decide_eq_true hmost
     have hx4:=(xr wM).alloc (.cells #[.int .i64 0,.int .i64 1,.int .i64 0,.int .i64 2,.int .i64 1,.int .i64 3] 3);go_wp2_with fail;refine(j65 _ g _ (hRM.ext hx4) (by omega) _ 6 [0,1,0,2,1,3] (by simp) (by decide) (by simp) (y45 rfl) (by intro b o hb;simp at hb;have:=hOM.size;omega)).mono ?_;rintro e w4 ⟨x,rfl,-,hR4,ho4⟩;have b64:=ho4.keepBlk (hx4.blk b6M) (by simp;omega);have b44:=ho4.keepBlk (hx4.blk b4M) (by simp;omega);have hO4:=(hOM.trans (oE (L:= [g]) hx4)).trans ho4;obtain⟨v0,v1,v2,f0,f1,f2⟩:=own3 b64;clear hR b6M b4M hRM hOM hx4 ho4;go_wp2_with fail;have b6L:=q11 b64 1 (.int .i64 x);have b4L:=j12 b44 (p:=⟨g6,1,none⟩) (by show w.heap.size≠g6;omega) (.int .i64 x);have hRL:Rd (w4.setCell ⟨g6,1,none⟩ (.int .i64 x)) g (m+3):=(hR4.set (by show g < g6;omega) _).mono (by omega);have hOL:=hO4.setNew (p:=⟨g6,1,none⟩) (by show w.heap.size<=g6;omega) (.int .i64 x);obtain⟨W,hW⟩: ∃W,W=w4.setCell ⟨g6,1,none⟩ (.int .i64 x):=⟨_,rfl⟩;rw[<-hW] at b4L b6L hRL hOL⊢;clear hW v0 v1 v2 f0 f1 f2 b64 b44 hO4 hR4;have hlt6:g6 < W.heap.size:=q10 b6L;have hltw:w.heap.size < g6:=hw6;have hgw:g < w.heap.size:=hgl
     go_loopw [7] (fun i wr=> ∃(j:Nat) (v:Value) (ts:List Tr),i= .int .i64 j/\j<=4/\(j:Int)<=max 0 (opsT kd)/\wr.heap[g6]? =some (.cells #[.int .i64 kd,.int .i64 x,v] 25 (0,0))/\wr.heap[w.heap.size]? =some (.cells #[.int .i64 0,.int .i64 0,.slice none 0 0] 25 (0,0))/\j20 (fun b=> b < W.heap.size) W wr 25 v ts/\ts.length=j/\Rd wr g (m+3+j*nd (d - 1))/\Only [g] w wr/\W.heap.size<=wr.heap.size) (fun i _=> 5 -(intOf i).toNat)
     case atStart=> exact⟨0,_, [],rfl,by omega,by omega,b6L,b4L,j20.nil _ _ _ _,rfl,by simpa using hRL,hOL,Nat.le_refl _⟩
     case round=>
      obtain⟨j,v,ts,rfl,hj,hjk,hb6,hb4,hG,htl,hRd,hO,hle⟩:=hrel;have HTL:=hdq htl;have htl4:ts.length<=4:=by omega
      clear htl;by_cases hlt:(j:Int) < opsT kd
      · have t1:decide ((j:Int) < opsT kd)=true:=decide_eq_true hlt
        have hop4:=(y114 (k:=kd)).2;have hd2:2<=d:=by
         rcases Nat.lt_or_ge d 2 with h|h
         · have:=hk0 h;omega
         · exact h
        have hj3:j<=3:=by omega
        have hmul:j*nd (d - 1)<=3*255:=Nat.mul_le_mul hj3 (y218 (d - 1) (by omega));have hnd:nd d=3+4*nd (d - 1):=q112 hd2;have hmul2:j*nd (d - 1)<=3*nd (d - 1):=Nat.mul_le_mul_right _ hj3;have HIc:=hdq (fun w' (hw:Ext wr w')=> y110 ih hd2 w' g _ (hRd.ext hw) (by omega));have HSTEP:=hdq (show m+3+j*nd (d - 1)+nd (d - 1)=m+3+(j+1)*nd (d - 1) from by rw[Nat.add_mul];omega);have HGr:=hdq hG;have HWR:=hdq (IntWalk.i64_in ((d:Int) - 1) ⟨by omega,by omega⟩);have hv:=y10 hb6 2;have hv3: ∃B c,v= .slice B ts.length c:=by
         obtain⟨B,c,hv,-⟩:=hG.lies (fun b hb=> hb);exact⟨B,c,hv⟩
        obtain⟨Bv,cv,rfl⟩:=hv3;have hown: ∀q,(Value.slice Bv ts.length cv).ownBlock=some q->q < wr.heap.size:=by
         obtain⟨xs,g1,-⟩:=hG;exact fun q hq=>(g1.lt q hq).2
        have HOWN:=hdq hown;have HB6:=hdq hb6;have HB4:=hdq hb4;clear hb4 hmul hG hown hb6 hmul2 hnd;go_wp2_with fail;refine(y22 kd _).mono ?_;rintro e wu ⟨rfl,rfl⟩;go_wp2_with fail
        go_region_law (first
         |(go_simp;go_at_call 151;(try rw[HWR.out]);(with_reducible refine(HIc.out _ (xr wr).drew).mono ?_);rintro e w5 ⟨t,u,rfl,hF5,hR5,ho5⟩;obtain⟨k5,n5,A5,l5,c5,rfl⟩:=hF5.three;have hs5:wr.heap.size<=w5.heap.size:=ho5.size;have b65:w5.heap[g6]? =some (.cells #[.int .i64 kd,.int .i64 x,.slice Bv ts.length cv] 25 (0,0)):=ho5.keepBlk HB6.out (by simp;omega);have b45:w5.heap[w.heap.size]? =some (.cells #[.int .i64 0,.int .i64 0,.slice none 0 0] 25 (0,0)):=ho5.keepBlk HB4.out (by simp;omega);have hv5:=y10 b65 2;have hs56:g6 < w5.heap.size:=q10 b65)
         |(refine y27 _ (by rfl) (.tmp 32) (.tmp 37) _ (by rfl) 25 i0 _ Tryz.underlying23 hi hz0 hz1 hz2 rfl (by rfl) (X:=fun b=> b < W.heap.size) (W:=W) (tr:=t) (((HGr.out.ext (xr wr).drew).only ho5 (by intro b hb;rw[List.mem_singleton.1 hb];omega) (fun b hb=> hb)).ext ((xr w5).alloc _)) (by simp;omega) ((hF5.ext ((xr w5).alloc _)).mono (fun b hb=>⟨hb.2,fun h=> by have:=HOWN.out b h;have h2:wr.heap.size<=b:=hb.1;omega,by have h2:wr.heap.size<=b:=hb.1;omega⟩) (fun _ _=> rfl)) (by rfl) (heap_alloc_new _ _) (by omega) ?_ (fun b hb=> hb);intro v' w6 hG6 hB6;obtain⟨B6,c6,rfl,r1,r2,-,-⟩:=hG6.lies (fun b hb=> hb);have b66:=(hB6.block g6 (by omega)).trans (((xr w5).alloc (.cells #[.int .i64 k5,.int .i64 n5,.slice A5 l5 c5] 25)).blk b65);have hv6:=y10 b66 2;have hf6:=q12 b66 2))
        all_goals(
         have hO6:Only [g] w w6:=(((hO.trans (oE (L:= [g]) (xr wr).drew)).trans ho5).trans (oE (L:= [g]) ((xr w5).alloc (.cells #[.int .i64 k5,.int .i64 n5,.slice A5 l5 c5] 25)))).below hB6 (by omega);have hR6:Rd w6 g (m+3+(j+1)*nd (d - 1)):=by rw[<-HSTEP.out];exact(hR5.ext ((xr w5).alloc (.cells #[.int .i64 k5,.int .i64 n5,.slice A5 l5 c5] 25))).under hB6 (by omega)
         have b46:=(hB6.block w.heap.size (by omega)).trans (((xr w5).alloc (.cells #[.int .i64 k5,.int .i64 n5,.slice A5 l5 c5] 25)).blk b45);have hsz6:W.heap.size<=w6.heap.size:=by have:=hB6.size;simp at this;omega
         rw[List.length_append,List.length_singleton] at hG6;have HG6:=hdq hG6;have HR6:=hdq hR6;have HB66:=hdq b66;have HB46:=hdq b46;clear hG6 hR6 b66 b46 hB6 b65 b45 hv5;go_wp2_with fail
         go_roundw
         case rel=> exact⟨j+1,_,ts++ [t],by go_num,by omega,by omega,q11 HB66.out 2 _,j12 HB46.out (by show w.heap.size≠g6;omega) _,HG6.out.only (Only.one w6 g6 2 _) (by intro b hb;rw[List.mem_singleton.1 hb];omega) (fun b hb=> hb),by rw[List.length_append,HTL.out];rfl,HR6.out.set (by show g < g6;omega) _,hO6.setNew (by show w.heap.size<=g6;omega) _,by simpa using hsz6⟩
         case measure=> simp[intOf];omega)
      · have t1:decide ((j:Int) < opsT kd)=false:=decide_eq_false hlt
        obtain⟨Bv,cv,rfl,h1,h2,hK,-⟩:=hG.lies (fun b hb=> hb);obtain⟨r0,r1,r2,-,-,-⟩:=own3 hb6;obtain⟨s0,s1,s2,f0,f1,f2⟩:=own3 hb4;have hFK:j18 (w.heap.size+1) wr Bv ts:=hK.mono (fun b hb=>⟨by omega,hb.1⟩) (fun _ _=> rfl);have hmul:j*nd (d - 1)<=4*nd (d - 1):=Nat.mul_le_mul_right _ hj;have hndd:d=0\/nd d=3+4*nd (d - 1):=by
         cases d with
         |zero=> exact .inl rfl
         |succ d=> exact .inr rfl
        have hj0:d=0->j=0:=fun h=> by have:=hk0 (by omega);omega
        have hRf:Rd wr g (m+nd d):=hRd.mono (by
         rcases hndd with h|h
         · have:=hj0 h;subst h;subst this;simp[nd]
         · omega)
        have HRf:=hdq hRf;clear hb6 hG hmul hndd hj0;go_wp2_with fail;refine(y22 kd _).mono ?_;rintro e wu ⟨rfl,rfl⟩;go_wp2_with fail;refine bodyPost_ret (v:= .agg #[.int .i64 kd,.int .i64 x,.slice Bv ts.length cv]) (by simp[results,Tryz.results151,go_sem,s0,s1,s2]) rfl ⟨.mk kd x ts,_,rfl, ?_, ?_, ?_⟩
        · exact((((From.mk kd x hFK h1 h2).set (by simp) _).set (by simp) _).set (by simp) _).since (by omega)
        · exact(((HRf.out.set (by simpa using hgw) _).set (by simpa using hgw) _).set (by simpa using hgw) _)
        · exact((hO.setNew (by simp) _).setNew (by simp) _).setNew (by simp) _
   · have t2:decide (0 < q28 kd)=false:=decide_eq_false hmost
     obtain⟨x,hx⟩: ∃x:Int,x=0:=⟨_,rfl⟩;go_wp2_with fail;rw[<-hx] at b6M;have b6L:=b6M;have b4L:=b4M;have hRL:Rd wM g (m+3):=hRM.mono (by omega);have hOL:=hOM;obtain⟨W,hW⟩: ∃W,W=wM:=⟨_,rfl⟩;rw[<-hW] at b4L b6L hRL hOL⊢;clear hW hx b6M b4M hRM hOM hR;have hlt6:g6 < W.heap.size:=q10 b6L;have hltw:w.heap.size < g6:=hw6;have hgw:g < w.heap.size:=hgl
     go_loopw [7] (fun i wr=> ∃(j:Nat) (v:Value) (ts:List Tr),i= .int .i64 j/\j<=4/\(j:Int)<=max 0 (opsT kd)/\wr.heap[g6]? =some (.cells #[.int .i64 kd,.int .i64 x,v] 25 (0,0))/\wr.heap[w.heap.size]? =some (.cells #[.int .i64 0,.int .i64 0,.slice none 0 0] 25 (0,0))/\j20 (fun b=> b < W.heap.size) W wr 25 v ts/\ts.length=j/\Rd wr g (m+3+j*nd (d - 1))/\Only [g] w wr/\W.heap.size<=wr.heap.size) (fun i _=> 5 -(intOf i).toNat)
     case atStart=> exact⟨0,_, [],rfl,by omega,by omega,b6L,b4L,j20.nil _ _ _ _,rfl,by simpa using hRL,hOL,Nat.le_refl _⟩
     case round=>
      obtain⟨j,v,ts,rfl,hj,hjk,hb6,hb4,hG,htl,hRd,hO,hle⟩:=hrel;have HTL:=hdq htl;have htl4:ts.length<=4:=by omega
      clear htl;by_cases hlt:(j:Int) < opsT kd
      · have t1:decide ((j:Int) < opsT kd)=true:=decide_eq_true hlt
        have hop4:=(y114 (k:=kd)).2;have hd2:2<=d:=by
         rcases Nat.lt_or_ge d 2 with h|h
         · have:=hk0 h;omega
         · exact h
        have hj3:j<=3:=by omega
        have hmul:j*nd (d - 1)<=3*255:=Nat.mul_le_mul hj3 (y218 (d - 1) (by omega));have hnd:nd d=3+4*nd (d - 1):=q112 hd2;have hmul2:j*nd (d - 1)<=3*nd (d - 1):=Nat.mul_le_mul_right _ hj3;have HIc:=hdq (fun w' (hw:Ext wr w')=> y110 ih hd2 w' g _ (hRd.ext hw) (by omega));have HSTEP:=hdq (show m+3+j*nd (d - 1)+nd (d - 1)=m+3+(j+1)*nd (d - 1) from by rw[Nat.add_mul];omega);have HGr:=hdq hG;have HWR:=hdq (IntWalk.i64_in ((d:Int) - 1) ⟨by omega,by omega⟩);have hv:=y10 hb6 2;have hv3: ∃B c,v= .slice B ts.length c:=by
         obtain⟨B,c,hv,-⟩:=hG.lies (fun b hb=> hb);exact⟨B,c,hv⟩
        obtain⟨Bv,cv,rfl⟩:=hv3;have hown: ∀q,(Value.slice Bv ts.length cv).ownBlock=some q->q < wr.heap.size:=by
         obtain⟨xs,g1,-⟩:=hG;exact fun q hq=>(g1.lt q hq).2
        have HOWN:=hdq hown;have HB6:=hdq hb6;have HB4:=hdq hb4;clear hb4 hmul hG hown hb6 hmul2 hnd;go_wp2_with fail;refine(y22 kd _).mono ?_;rintro e wu ⟨rfl,rfl⟩;go_wp2_with fail
        go_region_law (first
         |(go_simp;go_at_call 151;(try rw[HWR.out]);(with_reducible refine(HIc.out _ (xr wr).drew).mono ?_);rintro e w5 ⟨t,u,rfl,hF5,hR5,ho5⟩;obtain⟨k5,n5,A5,l5,c5,rfl⟩:=hF5.three;have hs5:wr.heap.size<=w5.heap.size:=ho5.size;have b65:w5.heap[g6]? =some (.cells #[.int .i64 kd,.int .i64 x,.slice Bv ts.length cv] 25 (0,0)):=ho5.keepBlk HB6.out (by simp;omega);have b45:w5.heap[w.heap.size]? =some (.cells #[.int .i64 0,.int .i64 0,.slice none 0 0] 25 (0,0)):=ho5.keepBlk HB4.out (by simp;omega);have hv5:=y10 b65 2;have hs56:g6 < w5.heap.size:=q10 b65)
         |(refine y27 _ (by rfl) (.tmp 32) (.tmp 37) _ (by rfl) 25 i0 _ Tryz.underlying23 hi hz0 hz1 hz2 rfl (by rfl) (X:=fun b=> b < W.heap.size) (W:=W) (tr:=t) (((HGr.out.ext (xr wr).drew).only ho5 (by intro b hb;rw[List.mem_singleton.1 hb];omega) (fun b hb=> hb)).ext ((xr w5).alloc _)) (by simp;omega) ((hF5.ext ((xr w5).alloc _)).mono (fun b hb=>⟨hb.2,fun h=> by have:=HOWN.out b h;have h2:wr.heap.size<=b:=hb.1;omega,by have h2:wr.heap.size<=b:=hb.1;omega⟩) (fun _ _=> rfl)) (by rfl) (heap_alloc_new _ _) (by omega) ?_ (fun b hb=> hb);intro v' w6 hG6 hB6;obtain⟨B6,c6,rfl,r1,r2,-,-⟩:=hG6.lies (fun b hb=> hb);have b66:=(hB6.block g6 (by omega)).trans (((xr w5).alloc (.cells #[.int .i64 k5,.int .i64 n5,.slice A5 l5 c5] 25)).blk b65);have hv6:=y10 b66 2;have hf6:=q12 b66 2))
        all_goals(
         have hO6:Only [g] w w6:=(((hO.trans (oE (L:= [g]) (xr wr).drew)).trans ho5).trans (oE (L:= [g]) ((xr w5).alloc (.cells #[.int .i64 k5,.int .i64 n5,.slice A5 l5 c5] 25)))).below hB6 (by omega);have hR6:Rd w6 g (m+3+(j+1)*nd (d - 1)):=by rw[<-HSTEP.out];exact(hR5.ext ((xr w5).alloc (.cells #[.int .i64 k5,.int .i64 n5,.slice A5 l5 c5] 25))).under hB6 (by omega)
         have b46:=(hB6.block w.heap.size (by omega)).trans (((xr w5).alloc (.cells #[.int .i64 k5,.int .i64 n5,.slice A5 l5 c5] 25)).blk b45);have hsz6:W.heap.size<=w6.heap.size:=by have:=hB6.size;simp at this;omega
         rw[List.length_append,List.length_singleton] at hG6;have HG6:=hdq hG6;have HR6:=hdq hR6;have HB66:=hdq b66;have HB46:=hdq b46;clear hG6 hR6 b66 b46 hB6 b65 b45 hv5;go_wp2_with fail
         go_roundw
         case rel=> exact⟨j+1,_,ts++ [t],by go_num,by omega,by omega,q11 HB66.out 2 _,j12 HB46.out (by show w.heap.size≠g6;omega) _,HG6.out.only (Only.one w6 g6 2 _) (by intro b hb;rw[List.mem_singleton.1 hb];omega) (fun b hb=> hb),by rw[List.length_append,HTL.out];rfl,HR6.out.set (by show g < g6;omega) _,hO6.setNew (by show w.heap.size<=g6;omega) _,by simpa using hsz6⟩
         case measure=> simp[intOf];omega)
      · have t1:decide ((j:Int) < opsT kd)=false:=decide_eq_false hlt
        obtain⟨Bv,cv,rfl,h1,h2,hK,-⟩:=hG.lies (fun b hb=> hb);obtain⟨r0,r1,r2,-,-,-⟩:=own3 hb6;obtain⟨s0,s1,s2,f0,f1,f2⟩:=own3 hb4;have hFK:j18 (w.heap.size+1) wr Bv ts:=hK.mono (fun b hb=>⟨by omega,hb.1⟩) (fun _ _=> rfl);have hmul:j*nd (d - 1)<=4*nd (d - 1):=Nat.mul_le_mul_right _ hj;have hndd:d=0\/nd d=3+4*nd (d - 1):=by
         cases d with
         |zero=> exact .inl rfl
         |succ d=> exact .inr rfl
        have hj0:d=0->j=0:=fun h=> by have:=hk0 (by omega);omega
        have hRf:Rd wr g (m+nd d):=hRd.mono (by
         rcases hndd with h|h
         · have:=hj0 h;subst h;subst this;simp[nd]
         · omega)
        have HRf:=hdq hRf;clear hb6 hG hmul hndd hj0;go_wp2_with fail;refine(y22 kd _).mono ?_;rintro e wu ⟨rfl,rfl⟩;go_wp2_with fail;refine bodyPost_ret (v:= .agg #[.int .i64 kd,.int .i64 x,.slice Bv ts.length cv]) (by simp[results,Tryz.results151,go_sem,s0,s1,s2]) rfl ⟨.mk kd x ts,_,rfl, ?_, ?_, ?_⟩
        · exact((((From.mk kd x hFK h1 h2).set (by simp) _).set (by simp) _).set (by simp) _).since (by omega)
        · exact(((HRf.out.set (by simpa using hgw) _).set (by simpa using hgw) _).set (by simpa using hgw) _)
        · exact((hO.setNew (by simp) _).setNew (by simp) _).setNew (by simp) _
theorem y108: ∀d:Nat,d<=4->j220 d
 |0,h=> q93 0 h (fun h=> by omega)
 |d+1,h=> q93 (d+1) h (fun _=> y108 d (by omega))
theorem y189: ∀(a:List Int) (t u:Tr),atT t a=some u->cnt u<=cnt t
 | [],t,u,e=> by
  have e:t=u:=by cases t;simpa[atT] using e
  subst e;exact Nat.le_refl _
 |i::a,.mk k n ks,u,e=> by
  rw[atT] at e
  split at e
  · rename_i hi
    have h1:=y189 a _ u e;have h2:=y14 (j74 (ks:=ks) (i:=i.toNat) (by omega));rw[cnt];omega
  · cases e
end Go.Proofs.YtdkamgafpphdjaaGreat
