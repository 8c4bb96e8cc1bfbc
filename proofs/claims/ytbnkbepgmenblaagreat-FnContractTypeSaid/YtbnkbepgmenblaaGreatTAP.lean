/-
  Lemmas towards the law, 16: Draws, DefG, CopyTop, Draws2.
-/
import Derived.Test.YtbnkbepgmenblaaGreatTAO
set_option linter.unusedVariables false
set_option maxHeartbeats 8000000
set_option maxRecDepth 100000
namespace Go.Proofs.YtbnkbepgmenblaaGreat
open Go.RowKit
attribute [local go_sem ↓] Go.wp_at_zero Go.wp_at_succ
theorem From.only{B:Nat}{w w':World}{t:Tr}{v:Value}{L:List Nat}(h:From B w t v)(ho:Only L w w')(hL: ∀b,b∈L->b < B):From B w' t v:=
 h.mono (fun b hb=>⟨hb.1,Nat.lt_of_lt_of_le hb.2 ho.size⟩) (fun b hb=> ho.block b hb.2 (fun hm=> by have:=hL b hm;omega))
def nd:Nat->Nat
 |0=> 3
 |d+1=> 3+4*nd d
theorem j183:(Tryz.prog.info? 25).map (fun i=>(i.zero,i.size,i.bytes))=some (some (.agg #[.int .i64 0,.int .i64 0,.slice none 0 0]),3,40):=by kernel_rfl
def q223(d:Nat):Prop:= ∀(w:World) (g m:Nat),Rd w g m->m+nd d < 1000000->Calls Tryz.prog 134 #[.pointer (some ⟨g,0,none⟩),.int .i64 d] w fun e w'=> ∃t u,e= .returned u/\From w.heap.size w' t u/\Rd w' g (m+nd d)/\Only [g] w w'
theorem q38{w:World}{cs:Array Value}{e:TypeId}{ns:List Int}(hc:cs.toList=ns.map (Value.int .i64)):Nums (w.alloc (.cells cs e)) (some ⟨w.heap.size,0,none⟩) ns:=y23 (heap_alloc_new w _) hc
theorem j123{k:Int}: -1<=opsT k/\opsT k<=4:=by
 unfold opsT
 repeat' split
 all_goals omega
theorem Only.setNew{L:List Nat}{a w:World}(h:Only L a w){p:Addr}(hp:a.heap.size<=p.block)(u:Value):Only L a (w.setCell p u):=
 ⟨h.os,h.tape,h.output,by simpa using h.size,fun i hi hn=>(Below.heap_setCell w p u i (by omega)).trans (h.block i hi hn)⟩
theorem Rd.set{w:World}{g m:Nat}(h:Rd w g m){p:Addr}(hp:g < p.block)(u:Value):Rd (w.setCell p u) g m:=by
 obtain⟨A,cap,bs,q,hb,h1,h2,h3,h4,hB⟩:=h;exact⟨A,cap,bs,q,q13 hb (by omega) u,h1,h2,h3,h4,hB.below (by simp) (fun b hb _=> Below.heap_setCell w p u b (by omega))⟩
theorem j121{d:Nat}(ih:2<=d->q223 (d - 1))(mz:2<=d)(w:World)(g m:Nat)(hR:Rd w g m)(hm:m+nd (d - 1) < 1000000):Calls Tryz.prog 134 #[.pointer (some ⟨g,0,none⟩),.int .i64 ((d:Int) - 1)] w fun e w'=> ∃t u,e= .returned u/\From w.heap.size w' t u/\Rd w' g (m+nd (d - 1))/\Only [g] w w':=by
 rw[show(d:Int) - 1=((d - 1:Nat):Int) by omega];exact ih mz w g m hR hm
theorem Only.one(w:World)(g i:Nat)(u:Value):Only [g] w (w.setCell ⟨g,i,none⟩ u):=(Only.refl [g] w).setCell (by simp) u
theorem y119{d:Nat}(h:2<=d):nd d=3+4*nd (d - 1):=by
 cases d with
 |zero=> omega
 |succ d=> rfl
theorem Rd.under{w w':World}{g m B:Nat}(h:Rd w g m)(hb:Below B w w')(hB:g < B):Rd w' g m:=by
 obtain⟨A,cap,bs,q,hk,h1,h2,h3,h4,hy⟩:=h;exact⟨A,cap,bs,q,(hb.block g hB).trans hk,h1,h2,h3,h4,hy.below hb.size (fun b hlt _=> hb.block b (by omega))⟩
theorem q222: ∀d,d<=3->nd d<=255
 |0,_=> by decide
 |1,_=> by decide
 |2,_=> by decide
 |3,_=> by decide
theorem y185{k:Int}(h:k∈ [(1:Int),7,6,2,1]):opsT k<=0:=by
 simp only[List.mem_cons,List.not_mem_nil,or_false] at h;rcases h with rfl|rfl|rfl|rfl|rfl <;> decide
theorem Only.keepBlk{L:List Nat}{w w':World}{b:Nat}{x:Obj}(ho:Only L w w')(h:w.heap[b]? =some x)(hn: ¬b∈L):w'.heap[b]? =some x:=(ho.block b (j10 h) hn).trans h
theorem j100(d:Nat)(hd:d<=4)(ih:2<=d->q223 (d - 1)):q223 d:=by
 intro w g m hR hm;have G0:=hR.lt;obtain⟨i0,hi,hz0,hz1,hz2⟩:=info_parts j183;obtain⟨w1,i7⟩: ∃w1,w1=(w.alloc (.cells #[.int .i64 0,.int .i64 0,.slice none 0 0] 25)).alloc (.cells #[.int .i64 1,.int .i64 5,.int .i64 4,.int .i64 8,.int .i64 9,.int .i64 3,.int .i64 6,.int .i64 7,.int .i64 11,.int .i64 15,.int .i64 14,.int .i64 10,.int .i64 12,.int .i64 13,.int .i64 16,.int .i64 2] 3):=⟨_,rfl⟩;have hx1:Ext w w1:=i7▸((xr w).alloc _).alloc _;have Kr:w1.heap[w.heap.size]? =some (.cells #[.int .i64 0,.int .i64 0,.slice none 0 0] 25 (0,0)):=by rw[i7];exact(blk2 (xr _)).1
 have Wo:Nums w1 (some ⟨w.heap.size+1,0,none⟩) [1,5,4,8,9,3,6,7,11,15,14,10,12,13,16,2]:=by
  rw[i7];have:=q38 (w:=w.alloc (.cells #[.int .i64 0,.int .i64 0,.slice none 0 0] 25)) (cs:=#[.int .i64 1,.int .i64 5,.int .i64 4,.int .i64 8,.int .i64 9,.int .i64 3,.int .i64 6,.int .i64 7,.int .i64 11,.int .i64 15,.int .i64 14,.int .i64 10,.int .i64 12,.int .i64 13,.int .i64 16,.int .i64 2]) (e:=3) (ns:= [1,5,4,8,9,3,6,7,11,15,14,10,12,13,16,2]) rfl
  simpa using this
 go_enter Tryz.func134,Tryz.ntmps134;go_wp2_with fail;rw[<-i7];refine(q30 _ g m (hR.ext hx1) (by omega) _ 16 [1,5,4,8,9,3,6,7,11,15,14,10,12,13,16,2] (by simp) (by decide) (by simp) Wo (by intro b o hb;simp at hb;omega)).mono ?_;rintro e w2 ⟨kind,rfl,-,M9,ig⟩;have M4:Only [g] w w2:=(oE hx1).trans ig;have xu:=ig.keepBlk Kr (by simp;omega);clear i7 Wo Kr;by_cases Y0:d < 2
 · have t0:decide ((d:Int) < 2)=true:=decide_eq_true (by omega)
   have hx3:=(xr w2).alloc (.cells #[.int .i64 1,.int .i64 7,.int .i64 6,.int .i64 2,.int .i64 1] 3);go_wp2_with fail;refine(q30 _ g _ (M9.ext hx3) (by omega) _ 5 [1,7,6,2,1] (by simp) (by decide) (by simp) (q38 rfl) (by intro b o hb;simp at hb;have:=M4.size;omega)).mono ?_;rintro e wK ⟨kd,rfl,j5,Oy,hoK⟩;have Ba:d < 2->opsT kd<=0:=fun _=> y185 j5
   have Pw:=(M4.trans (oE hx3)).trans hoK;have Ey:=hoK.keepBlk (hx3.blk xu) (by simp;omega);clear j5 M4 xu hx3 M9 ig hoK;go_wp2_with fail;obtain⟨wM,De⟩: ∃wM,wM=wK.alloc (.cells #[.int .i64 kd,.int .i64 0,.slice none 0 0] 25):=⟨_,rfl⟩;have Ea:Ext wK wM:=De▸(xr wK).alloc _;have ub:wM.heap[wK.heap.size]? =some (.cells #[.int .i64 kd,.int .i64 0,.slice none 0 0] 25 (0,0)):=De▸heap_alloc_new wK _;have Dv:=Ea.blk Ey;have Dw:=Oy.ext Ea;have vr:=Pw.trans (oE (L:= [g]) Ea);obtain⟨g6,F5⟩: ∃g6,g6=wK.heap.size:=⟨_,rfl⟩;have qu:w.heap.size < g6:=by rw[F5];exact j10 Ey
   rw[<-De];rw[<-F5] at ub⊢;clear De Ea Ey Oy Pw F5;refine(q45 kd _).mono ?_;rintro e wu ⟨rfl,rfl⟩;by_cases O6:0 < q33 kd
   · have t2:decide (0 < q33 kd)=true:=decide_eq_true O6
     have Y7:=(xr wM).alloc (.cells #[.int .i64 0,.int .i64 1,.int .i64 0,.int .i64 2,.int .i64 1,.int .i64 3] 3);go_wp2_with fail;refine(q30 _ g _ (Dw.ext Y7) (by omega) _ 6 [0,1,0,2,1,3] (by simp) (by decide) (by simp) (q38 rfl) (by intro b o hb;simp at hb;have:=vr.size;omega)).mono ?_;rintro e w4 ⟨x,rfl,-,P5,N9⟩;have jr:=N9.keepBlk (Y7.blk ub) (by simp;omega);have gh:=N9.keepBlk (Y7.blk Dv) (by simp;omega);have S8:=(vr.trans (oE (L:= [g]) Y7)).trans N9;obtain⟨v0,v1,v2,f0,f1,f2⟩:=own3 jr;clear hR ub Dv Dw vr Y7 N9;go_wp2_with fail;have pk:=j11 jr 1 (.int .i64 x);have Al:=q13 gh (p:=⟨g6,1,none⟩) (by show w.heap.size≠g6;omega) (.int .i64 x);have Ah:Rd (w4.setCell ⟨g6,1,none⟩ (.int .i64 x)) g (m+3):=(P5.set (by show g < g6;omega) _).mono (by omega);have zt:=S8.setNew (p:=⟨g6,1,none⟩) (by show w.heap.size<=g6;omega) (.int .i64 x);obtain⟨W,hW⟩: ∃W,W=w4.setCell ⟨g6,1,none⟩ (.int .i64 x):=⟨_,rfl⟩;rw[<-hW] at Al pk Ah zt⊢;clear hW v0 v1 v2 f0 f1 f2 jr gh S8 P5;have Im:g6 < W.heap.size:=j10 pk;have Fw:w.heap.size < g6:=qu;have nh:g < w.heap.size:=G0
     go_loopw [7] (fun i wr=> ∃(j:Nat) (v:Value) (ts:List Tr),i= .int .i64 j/\j<=4/\(j:Int)<=max 0 (opsT kd)/\wr.heap[g6]? =some (.cells #[.int .i64 kd,.int .i64 x,v] 25 (0,0))/\wr.heap[w.heap.size]? =some (.cells #[.int .i64 0,.int .i64 0,.slice none 0 0] 25 (0,0))/\q19 (fun b=> b < W.heap.size) W wr 25 v ts/\ts.length=j/\Rd wr g (m+3+j*nd (d - 1))/\Only [g] w wr/\W.heap.size<=wr.heap.size) (fun i _=> 5 -(intOf i).toNat)
     case atStart=> exact⟨0,_, [],rfl,by omega,by omega,pk,Al,q19.nil _ _ _ _,rfl,by simpa using Ah,zt,Nat.le_refl _⟩
     case round=>
      obtain⟨j,v,ts,rfl,hj,hjk,G5,hb4,hG,bi,xb,hO,hle⟩:=hrel;have oh:=hdq bi;have Cl:ts.length<=4:=by omega
      clear bi;by_cases hlt:(j:Int) < opsT kd
      · have t1:decide ((j:Int) < opsT kd)=true:=decide_eq_true hlt
        have Gu:=(j123 (k:=kd)).2;have mz:2<=d:=by
         rcases Nat.lt_or_ge d 2 with h|h
         · have:=Ba h;omega
         · exact h
        have sq:j<=3:=by omega
        have V2:j*nd (d - 1)<=3*255:=Nat.mul_le_mul sq (q222 (d - 1) (by omega));have Ag:nd d=3+4*nd (d - 1):=y119 mz;have bj:j*nd (d - 1)<=3*nd (d - 1):=Nat.mul_le_mul_right _ sq;have Hv:=hdq (fun w' (hw:Ext wr w')=> j121 ih mz w' g _ (xb.ext hw) (by omega));have cn:=hdq (show m+3+j*nd (d - 1)+nd (d - 1)=m+3+(j+1)*nd (d - 1) from by rw[Nat.add_mul];omega);have Ga:=hdq hG;have pu:=hdq (IntWalk.i64_in ((d:Int) - 1) ⟨by omega,by omega⟩);have hv:=q10 G5 2;have hv3: ∃B c,v= .slice B ts.length c:=by
         obtain⟨B,c,hv,-⟩:=hG.lies (fun b hb=> hb);exact⟨B,c,hv⟩
        obtain⟨Bv,cv,rfl⟩:=hv3;have hown: ∀q,(Value.slice Bv ts.length cv).ownBlock=some q->q < wr.heap.size:=by
         obtain⟨xs,g1,-⟩:=hG;exact fun q hq=>(g1.lt q hq).2
        have aj:=hdq hown;have Jm:=hdq G5;have xv:=hdq hb4;clear hb4 V2 hG hown G5 bj Ag;go_wp2_with fail;refine(j25 kd _).mono ?_;rintro e wu ⟨rfl,rfl⟩;go_wp2_with fail
        go_region_law (first
         |(go_simp;go_at_call 134;(try rw[pu.out]);(with_reducible refine(Hv.out _ (xr wr).drew).mono ?_);rintro e w5 ⟨t,u,rfl,bl,Y1,U2⟩;obtain⟨k5,n5,A5,l5,c5,rfl⟩:=bl.three;have hs5:wr.heap.size<=w5.heap.size:=U2.size;have af:w5.heap[g6]? =some (.cells #[.int .i64 kd,.int .i64 x,.slice Bv ts.length cv] 25 (0,0)):=U2.keepBlk Jm.out (by simp;omega);have oc:w5.heap[w.heap.size]? =some (.cells #[.int .i64 0,.int .i64 0,.slice none 0 0] 25 (0,0)):=U2.keepBlk xv.out (by simp;omega);have gi:=q10 af 2;have Fz:g6 < w5.heap.size:=j10 af)
         |(refine y27 _ (by rfl) (.tmp 32) (.tmp 37) _ (by rfl) 25 i0 _ Tryz.underlying23 hi hz0 hz1 hz2 rfl (by rfl) (X:=fun b=> b < W.heap.size) (W:=W) (tr:=t) (((Ga.out.ext (xr wr).drew).only U2 (by intro b hb;rw[List.mem_singleton.1 hb];omega) (fun b hb=> hb)).ext ((xr w5).alloc _)) (by simp;omega) ((bl.ext ((xr w5).alloc _)).mono (fun b hb=>⟨hb.2,fun h=> by have:=aj.out b h;have h2:wr.heap.size<=b:=hb.1;omega,by have h2:wr.heap.size<=b:=hb.1;omega⟩) (fun _ _=> rfl)) (by rfl) (heap_alloc_new _ _) (by omega) ?_ (fun b hb=> hb);intro v' w6 K4 Q6;obtain⟨B6,c6,rfl,r1,r2,-,-⟩:=K4.lies (fun b hb=> hb);have bh:=(Q6.block g6 (by omega)).trans (((xr w5).alloc (.cells #[.int .i64 k5,.int .i64 n5,.slice A5 l5 c5] 25)).blk af);have Uk:=q10 bh 2;have Vo:=y13 bh 2))
        all_goals(
         have ap:Only [g] w w6:=(((hO.trans (oE (L:= [g]) (xr wr).drew)).trans U2).trans (oE (L:= [g]) ((xr w5).alloc (.cells #[.int .i64 k5,.int .i64 n5,.slice A5 l5 c5] 25)))).below Q6 (by omega);have ak:Rd w6 g (m+3+(j+1)*nd (d - 1)):=by rw[<-cn.out];exact(Y1.ext ((xr w5).alloc (.cells #[.int .i64 k5,.int .i64 n5,.slice A5 l5 c5] 25))).under Q6 (by omega)
         have eu:=(Q6.block w.heap.size (by omega)).trans (((xr w5).alloc (.cells #[.int .i64 k5,.int .i64 n5,.slice A5 l5 c5] 25)).blk oc);have mb:W.heap.size<=w6.heap.size:=by have:=Q6.size;simp at this;omega
         rw[List.length_append,List.length_singleton] at K4;have ry:=hdq K4;have Hz:=hdq ak;have od:=hdq bh;have pd:=hdq eu;clear K4 ak bh eu Q6 af oc gi;go_wp2_with fail
         go_roundw
         case rel=> exact⟨j+1,_,ts++ [t],by go_num,by omega,by omega,j11 od.out 2 _,q13 pd.out (by show w.heap.size≠g6;omega) _,ry.out.only (Only.one w6 g6 2 _) (by intro b hb;rw[List.mem_singleton.1 hb];omega) (fun b hb=> hb),by rw[List.length_append,oh.out];rfl,Hz.out.set (by show g < g6;omega) _,ap.setNew (by show w.heap.size<=g6;omega) _,by simpa using mb⟩
         case measure=> simp[intOf];omega)
      · have t1:decide ((j:Int) < opsT kd)=false:=decide_eq_false hlt
        obtain⟨Bv,cv,rfl,h1,h2,hK,-⟩:=hG.lies (fun b hb=> hb);obtain⟨r0,r1,r2,-,-,-⟩:=own3 G5;obtain⟨s0,s1,s2,f0,f1,f2⟩:=own3 hb4;have Jv:j14 (w.heap.size+1) wr Bv ts:=hK.mono (fun b hb=>⟨by omega,hb.1⟩) (fun _ _=> rfl);have V2:j*nd (d - 1)<=4*nd (d - 1):=Nat.mul_le_mul_right _ hj;have dy:d=0\/nd d=3+4*nd (d - 1):=by
         cases d with
         |zero=> exact .inl rfl
         |succ d=> exact .inr rfl
        have jc:d=0->j=0:=fun h=> by have:=Ba (by omega);omega
        have pz:Rd wr g (m+nd d):=xb.mono (by
         rcases dy with h|h
         · have:=jc h;subst h;subst this;simp[nd]
         · omega)
        have Gl:=hdq pz;clear G5 hG V2 dy jc;go_wp2_with fail;refine(j25 kd _).mono ?_;rintro e wu ⟨rfl,rfl⟩;go_wp2_with fail;refine bodyPost_ret (v:= .agg #[.int .i64 kd,.int .i64 x,.slice Bv ts.length cv]) (by simp[results,Tryz.results134,go_sem,s0,s1,s2]) rfl ⟨.mk kd x ts,_,rfl, ?_, ?_, ?_⟩
        · exact((((From.mk kd x Jv h1 h2).set (by simp) _).set (by simp) _).set (by simp) _).since (by omega)
        · exact(((Gl.out.set (by simpa using nh) _).set (by simpa using nh) _).set (by simpa using nh) _)
        · exact((hO.setNew (by simp) _).setNew (by simp) _).setNew (by simp) _
   · have t2:decide (0 < q33 kd)=false:=decide_eq_false O6
     obtain⟨x,hx⟩: ∃x:Int,x=0:=⟨_,rfl⟩;go_wp2_with fail;rw[<-hx] at ub;have pk:=ub;have Al:=Dv;have Ah:Rd wM g (m+3):=Dw.mono (by omega);have zt:=vr;obtain⟨W,hW⟩: ∃W,W=wM:=⟨_,rfl⟩;rw[<-hW] at Al pk Ah zt⊢;clear hW hx ub Dv Dw vr hR;have Im:g6 < W.heap.size:=j10 pk;have Fw:w.heap.size < g6:=qu;have nh:g < w.heap.size:=G0
     go_loopw [7] (fun i wr=> ∃(j:Nat) (v:Value) (ts:List Tr),i= .int .i64 j/\j<=4/\(j:Int)<=max 0 (opsT kd)/\wr.heap[g6]? =some (.cells #[.int .i64 kd,.int .i64 x,v] 25 (0,0))/\wr.heap[w.heap.size]? =some (.cells #[.int .i64 0,.int .i64 0,.slice none 0 0] 25 (0,0))/\q19 (fun b=> b < W.heap.size) W wr 25 v ts/\ts.length=j/\Rd wr g (m+3+j*nd (d - 1))/\Only [g] w wr/\W.heap.size<=wr.heap.size) (fun i _=> 5 -(intOf i).toNat)
     case atStart=> exact⟨0,_, [],rfl,by omega,by omega,pk,Al,q19.nil _ _ _ _,rfl,by simpa using Ah,zt,Nat.le_refl _⟩
     case round=>
      obtain⟨j,v,ts,rfl,hj,hjk,G5,hb4,hG,bi,xb,hO,hle⟩:=hrel;have oh:=hdq bi;have Cl:ts.length<=4:=by omega
      clear bi;by_cases hlt:(j:Int) < opsT kd
      · have t1:decide ((j:Int) < opsT kd)=true:=decide_eq_true hlt
        have Gu:=(j123 (k:=kd)).2;have mz:2<=d:=by
         rcases Nat.lt_or_ge d 2 with h|h
         · have:=Ba h;omega
         · exact h
        have sq:j<=3:=by omega
        have V2:j*nd (d - 1)<=3*255:=Nat.mul_le_mul sq (q222 (d - 1) (by omega));have Ag:nd d=3+4*nd (d - 1):=y119 mz;have bj:j*nd (d - 1)<=3*nd (d - 1):=Nat.mul_le_mul_right _ sq;have Hv:=hdq (fun w' (hw:Ext wr w')=> j121 ih mz w' g _ (xb.ext hw) (by omega));have cn:=hdq (show m+3+j*nd (d - 1)+nd (d - 1)=m+3+(j+1)*nd (d - 1) from by rw[Nat.add_mul];omega);have Ga:=hdq hG;have pu:=hdq (IntWalk.i64_in ((d:Int) - 1) ⟨by omega,by omega⟩);have hv:=q10 G5 2;have hv3: ∃B c,v= .slice B ts.length c:=by
         obtain⟨B,c,hv,-⟩:=hG.lies (fun b hb=> hb);exact⟨B,c,hv⟩
        obtain⟨Bv,cv,rfl⟩:=hv3;have hown: ∀q,(Value.slice Bv ts.length cv).ownBlock=some q->q < wr.heap.size:=by
         obtain⟨xs,g1,-⟩:=hG;exact fun q hq=>(g1.lt q hq).2
        have aj:=hdq hown;have Jm:=hdq G5;have xv:=hdq hb4;clear hb4 V2 hG hown G5 bj Ag;go_wp2_with fail;refine(j25 kd _).mono ?_;rintro e wu ⟨rfl,rfl⟩;go_wp2_with fail
        go_region_law (first
         |(go_simp;go_at_call 134;(try rw[pu.out]);(with_reducible refine(Hv.out _ (xr wr).drew).mono ?_);rintro e w5 ⟨t,u,rfl,bl,Y1,U2⟩;obtain⟨k5,n5,A5,l5,c5,rfl⟩:=bl.three;have hs5:wr.heap.size<=w5.heap.size:=U2.size;have af:w5.heap[g6]? =some (.cells #[.int .i64 kd,.int .i64 x,.slice Bv ts.length cv] 25 (0,0)):=U2.keepBlk Jm.out (by simp;omega);have oc:w5.heap[w.heap.size]? =some (.cells #[.int .i64 0,.int .i64 0,.slice none 0 0] 25 (0,0)):=U2.keepBlk xv.out (by simp;omega);have gi:=q10 af 2;have Fz:g6 < w5.heap.size:=j10 af)
         |(refine y27 _ (by rfl) (.tmp 32) (.tmp 37) _ (by rfl) 25 i0 _ Tryz.underlying23 hi hz0 hz1 hz2 rfl (by rfl) (X:=fun b=> b < W.heap.size) (W:=W) (tr:=t) (((Ga.out.ext (xr wr).drew).only U2 (by intro b hb;rw[List.mem_singleton.1 hb];omega) (fun b hb=> hb)).ext ((xr w5).alloc _)) (by simp;omega) ((bl.ext ((xr w5).alloc _)).mono (fun b hb=>⟨hb.2,fun h=> by have:=aj.out b h;have h2:wr.heap.size<=b:=hb.1;omega,by have h2:wr.heap.size<=b:=hb.1;omega⟩) (fun _ _=> rfl)) (by rfl) (heap_alloc_new _ _) (by omega) ?_ (fun b hb=> hb);intro v' w6 K4 Q6;obtain⟨B6,c6,rfl,r1,r2,-,-⟩:=K4.lies (fun b hb=> hb);have bh:=(Q6.block g6 (by omega)).trans (((xr w5).alloc (.cells #[.int .i64 k5,.int .i64 n5,.slice A5 l5 c5] 25)).blk af);have Uk:=q10 bh 2;have Vo:=y13 bh 2))
        all_goals(
         have ap:Only [g] w w6:=(((hO.trans (oE (L:= [g]) (xr wr).drew)).trans U2).trans (oE (L:= [g]) ((xr w5).alloc (.cells #[.int .i64 k5,.int .i64 n5,.slice A5 l5 c5] 25)))).below Q6 (by omega);have ak:Rd w6 g (m+3+(j+1)*nd (d - 1)):=by rw[<-cn.out];exact(Y1.ext ((xr w5).alloc (.cells #[.int .i64 k5,.int .i64 n5,.slice A5 l5 c5] 25))).under Q6 (by omega)
         have eu:=(Q6.block w.heap.size (by omega)).trans (((xr w5).alloc (.cells #[.int .i64 k5,.int .i64 n5,.slice A5 l5 c5] 25)).blk oc);have mb:W.heap.size<=w6.heap.size:=by have:=Q6.size;simp at this;omega
         rw[List.length_append,List.length_singleton] at K4;have ry:=hdq K4;have Hz:=hdq ak;have od:=hdq bh;have pd:=hdq eu;clear K4 ak bh eu Q6 af oc gi;go_wp2_with fail
         go_roundw
         case rel=> exact⟨j+1,_,ts++ [t],by go_num,by omega,by omega,j11 od.out 2 _,q13 pd.out (by show w.heap.size≠g6;omega) _,ry.out.only (Only.one w6 g6 2 _) (by intro b hb;rw[List.mem_singleton.1 hb];omega) (fun b hb=> hb),by rw[List.length_append,oh.out];rfl,Hz.out.set (by show g < g6;omega) _,ap.setNew (by show w.heap.size<=g6;omega) _,by simpa using mb⟩
         case measure=> simp[intOf];omega)
      · have t1:decide ((j:Int) < opsT kd)=false:=decide_eq_false hlt
        obtain⟨Bv,cv,rfl,h1,h2,hK,-⟩:=hG.lies (fun b hb=> hb);obtain⟨r0,r1,r2,-,-,-⟩:=own3 G5;obtain⟨s0,s1,s2,f0,f1,f2⟩:=own3 hb4;have Jv:j14 (w.heap.size+1) wr Bv ts:=hK.mono (fun b hb=>⟨by omega,hb.1⟩) (fun _ _=> rfl);have V2:j*nd (d - 1)<=4*nd (d - 1):=Nat.mul_le_mul_right _ hj;have dy:d=0\/nd d=3+4*nd (d - 1):=by
         cases d with
         |zero=> exact .inl rfl
         |succ d=> exact .inr rfl
        have jc:d=0->j=0:=fun h=> by have:=Ba (by omega);omega
        have pz:Rd wr g (m+nd d):=xb.mono (by
         rcases dy with h|h
         · have:=jc h;subst h;subst this;simp[nd]
         · omega)
        have Gl:=hdq pz;clear G5 hG V2 dy jc;go_wp2_with fail;refine(j25 kd _).mono ?_;rintro e wu ⟨rfl,rfl⟩;go_wp2_with fail;refine bodyPost_ret (v:= .agg #[.int .i64 kd,.int .i64 x,.slice Bv ts.length cv]) (by simp[results,Tryz.results134,go_sem,s0,s1,s2]) rfl ⟨.mk kd x ts,_,rfl, ?_, ?_, ?_⟩
        · exact((((From.mk kd x Jv h1 h2).set (by simp) _).set (by simp) _).set (by simp) _).since (by omega)
        · exact(((Gl.out.set (by simpa using nh) _).set (by simpa using nh) _).set (by simpa using nh) _)
        · exact((hO.setNew (by simp) _).setNew (by simp) _).setNew (by simp) _
 · have t0:decide ((d:Int) < 2)=false:=decide_eq_false (by omega)
   obtain⟨wK,We⟩: ∃wK,wK=w2:=⟨_,rfl⟩;obtain⟨kd,E7⟩: ∃kd,kd=kind:=⟨_,rfl⟩;have Ba:d < 2->opsT kd<=0:=fun h=> absurd h Y0
   have Oy:Rd wK g (m+2):=We▸M9.mono (by omega);have Pw:Only [g] w wK:=We▸M4;have Ey:=xu;rw[<-We] at Ey⊢;rw[<-E7];clear We E7 M9 M4 xu ig;go_wp2_with fail;obtain⟨wM,De⟩: ∃wM,wM=wK.alloc (.cells #[.int .i64 kd,.int .i64 0,.slice none 0 0] 25):=⟨_,rfl⟩;have Ea:Ext wK wM:=De▸(xr wK).alloc _;have ub:wM.heap[wK.heap.size]? =some (.cells #[.int .i64 kd,.int .i64 0,.slice none 0 0] 25 (0,0)):=De▸heap_alloc_new wK _;have Dv:=Ea.blk Ey;have Dw:=Oy.ext Ea;have vr:=Pw.trans (oE (L:= [g]) Ea);obtain⟨g6,F5⟩: ∃g6,g6=wK.heap.size:=⟨_,rfl⟩;have qu:w.heap.size < g6:=by rw[F5];exact j10 Ey
   rw[<-De];rw[<-F5] at ub⊢;clear De Ea Ey Oy Pw F5;refine(q45 kd _).mono ?_;rintro e wu ⟨rfl,rfl⟩;by_cases O6:0 < q33 kd
   · have t2:decide (0 < q33 kd)=true:=decide_eq_true O6
     have Y7:=(xr wM).alloc (.cells #[.int .i64 0,.int .i64 1,.int .i64 0,.int .i64 2,.int .i64 1,.int .i64 3] 3);go_wp2_with fail;refine(q30 _ g _ (Dw.ext Y7) (by omega) _ 6 [0,1,0,2,1,3] (by simp) (by decide) (by simp) (q38 rfl) (by intro b o hb;simp at hb;have:=vr.size;omega)).mono ?_;rintro e w4 ⟨x,rfl,-,P5,N9⟩;have jr:=N9.keepBlk (Y7.blk ub) (by simp;omega);have gh:=N9.keepBlk (Y7.blk Dv) (by simp;omega);have S8:=(vr.trans (oE (L:= [g]) Y7)).trans N9;obtain⟨v0,v1,v2,f0,f1,f2⟩:=own3 jr;clear hR ub Dv Dw vr Y7 N9;go_wp2_with fail;have pk:=j11 jr 1 (.int .i64 x);have Al:=q13 gh (p:=⟨g6,1,none⟩) (by show w.heap.size≠g6;omega) (.int .i64 x);have Ah:Rd (w4.setCell ⟨g6,1,none⟩ (.int .i64 x)) g (m+3):=(P5.set (by show g < g6;omega) _).mono (by omega);have zt:=S8.setNew (p:=⟨g6,1,none⟩) (by show w.heap.size<=g6;omega) (.int .i64 x);obtain⟨W,hW⟩: ∃W,W=w4.setCell ⟨g6,1,none⟩ (.int .i64 x):=⟨_,rfl⟩;rw[<-hW] at Al pk Ah zt⊢;clear hW v0 v1 v2 f0 f1 f2 jr gh S8 P5;have Im:g6 < W.heap.size:=j10 pk;have Fw:w.heap.size < g6:=qu;have nh:g < w.heap.size:=G0
     go_loopw [7] (fun i wr=> ∃(j:Nat) (v:Value) (ts:List Tr),i= .int .i64 j/\j<=4/\(j:Int)<=max 0 (opsT kd)/\wr.heap[g6]? =some (.cells #[.int .i64 kd,.int .i64 x,v] 25 (0,0))/\wr.heap[w.heap.size]? =some (.cells #[.int .i64 0,.int .i64 0,.slice none 0 0] 25 (0,0))/\q19 (fun b=> b < W.heap.size) W wr 25 v ts/\ts.length=j/\Rd wr g (m+3+j*nd (d - 1))/\Only [g] w wr/\W.heap.size<=wr.heap.size) (fun i _=> 5 -(intOf i).toNat)
     case atStart=> exact⟨0,_, [],rfl,by omega,by omega,pk,Al,q19.nil _ _ _ _,rfl,by simpa using Ah,zt,Nat.le_refl _⟩
     case round=>
      obtain⟨j,v,ts,rfl,hj,hjk,G5,hb4,hG,bi,xb,hO,hle⟩:=hrel;have oh:=hdq bi;have Cl:ts.length<=4:=by omega
      clear bi;by_cases hlt:(j:Int) < opsT kd
      · have t1:decide ((j:Int) < opsT kd)=true:=decide_eq_true hlt
        have Gu:=(j123 (k:=kd)).2;have mz:2<=d:=by
         rcases Nat.lt_or_ge d 2 with h|h
         · have:=Ba h;omega
         · exact h
        have sq:j<=3:=by omega
        have V2:j*nd (d - 1)<=3*255:=Nat.mul_le_mul sq (q222 (d - 1) (by omega));have Ag:nd d=3+4*nd (d - 1):=y119 mz;have bj:j*nd (d - 1)<=3*nd (d - 1):=Nat.mul_le_mul_right _ sq;have Hv:=hdq (fun w' (hw:Ext wr w')=> j121 ih mz w' g _ (xb.ext hw) (by omega));have cn:=hdq (show m+3+j*nd (d - 1)+nd (d - 1)=m+3+(j+1)*nd (d - 1) from by rw[Nat.add_mul];omega);have Ga:=hdq hG;have pu:=hdq (IntWalk.i64_in ((d:Int) - 1) ⟨by omega,by omega⟩);have hv:=q10 G5 2;have hv3: ∃B c,v= .slice B ts.length c:=by
         obtain⟨B,c,hv,-⟩:=hG.lies (fun b hb=> hb);exact⟨B,c,hv⟩
        obtain⟨Bv,cv,rfl⟩:=hv3;have hown: ∀q,(Value.slice Bv ts.length cv).ownBlock=some q->q < wr.heap.size:=by
         obtain⟨xs,g1,-⟩:=hG;exact fun q hq=>(g1.lt q hq).2
        have aj:=hdq hown;have Jm:=hdq G5;have xv:=hdq hb4;clear hb4 V2 hG hown G5 bj Ag;go_wp2_with fail;refine(j25 kd _).mono ?_;rintro e wu ⟨rfl,rfl⟩;go_wp2_with fail
        go_region_law (first
         |(go_simp;go_at_call 134;(try rw[pu.out]);(with_reducible refine(Hv.out _ (xr wr).drew).mono ?_);rintro e w5 ⟨t,u,rfl,bl,Y1,U2⟩;obtain⟨k5,n5,A5,l5,c5,rfl⟩:=bl.three;have hs5:wr.heap.size<=w5.heap.size:=U2.size;have af:w5.heap[g6]? =some (.cells #[.int .i64 kd,.int .i64 x,.slice Bv ts.length cv] 25 (0,0)):=U2.keepBlk Jm.out (by simp;omega);have oc:w5.heap[w.heap.size]? =some (.cells #[.int .i64 0,.int .i64 0,.slice none 0 0] 25 (0,0)):=U2.keepBlk xv.out (by simp;omega);have gi:=q10 af 2;have Fz:g6 < w5.heap.size:=j10 af)
         |(refine y27 _ (by rfl) (.tmp 32) (.tmp 37) _ (by rfl) 25 i0 _ Tryz.underlying23 hi hz0 hz1 hz2 rfl (by rfl) (X:=fun b=> b < W.heap.size) (W:=W) (tr:=t) (((Ga.out.ext (xr wr).drew).only U2 (by intro b hb;rw[List.mem_singleton.1 hb];omega) (fun b hb=> hb)).ext ((xr w5).alloc _)) (by simp;omega) ((bl.ext ((xr w5).alloc _)).mono (fun b hb=>⟨hb.2,fun h=> by have:=aj.out b h;have h2:wr.heap.size<=b:=hb.1;omega,by have h2:wr.heap.size<=b:=hb.1;omega⟩) (fun _ _=> rfl)) (by rfl) (heap_alloc_new _ _) (by omega) ?_ (fun b hb=> hb);intro v' w6 K4 Q6;obtain⟨B6,c6,rfl,r1,r2,-,-⟩:=K4.lies (fun b hb=> hb);have bh:=(Q6.block g6 (by omega)).trans (((xr w5).alloc (.cells #[.int .i64 k5,.int .i64 n5,.slice A5 l5 c5] 25)).blk af);have Uk:=q10 bh 2;have Vo:=y13 bh 2))
        all_goals(
         have ap:Only [g] w w6:=(((hO.trans (oE (L:= [g]) (xr wr).drew)).trans U2).trans (oE (L:= [g]) ((xr w5).alloc (.cells #[.int .i64 k5,.int .i64 n5,.slice A5 l5 c5] 25)))).below Q6 (by omega);have ak:Rd w6 g (m+3+(j+1)*nd (d - 1)):=by rw[<-cn.out];exact(Y1.ext ((xr w5).alloc (.cells #[.int .i64 k5,.int .i64 n5,.slice A5 l5 c5] 25))).under Q6 (by omega)
         have eu:=(Q6.block w.heap.size (by omega)).trans (((xr w5).alloc (.cells #[.int .i64 k5,.int .i64 n5,.slice A5 l5 c5] 25)).blk oc);have mb:W.heap.size<=w6.heap.size:=by have:=Q6.size;simp at this;omega
         rw[List.length_append,List.length_singleton] at K4;have ry:=hdq K4;have Hz:=hdq ak;have od:=hdq bh;have pd:=hdq eu;clear K4 ak bh eu Q6 af oc gi;go_wp2_with fail
         go_roundw
         case rel=> exact⟨j+1,_,ts++ [t],by go_num,by omega,by omega,j11 od.out 2 _,q13 pd.out (by show w.heap.size≠g6;omega) _,ry.out.only (Only.one w6 g6 2 _) (by intro b hb;rw[List.mem_singleton.1 hb];omega) (fun b hb=> hb),by rw[List.length_append,oh.out];rfl,Hz.out.set (by show g < g6;omega) _,ap.setNew (by show w.heap.size<=g6;omega) _,by simpa using mb⟩
         case measure=> simp[intOf];omega)
      · have t1:decide ((j:Int) < opsT kd)=false:=decide_eq_false hlt
        obtain⟨Bv,cv,rfl,h1,h2,hK,-⟩:=hG.lies (fun b hb=> hb);obtain⟨r0,r1,r2,-,-,-⟩:=own3 G5;obtain⟨s0,s1,s2,f0,f1,f2⟩:=own3 hb4;have Jv:j14 (w.heap.size+1) wr Bv ts:=hK.mono (fun b hb=>⟨by omega,hb.1⟩) (fun _ _=> rfl);have V2:j*nd (d - 1)<=4*nd (d - 1):=Nat.mul_le_mul_right _ hj;have dy:d=0\/nd d=3+4*nd (d - 1):=by
         cases d with
         |zero=> exact .inl rfl
         |succ d=> exact .inr rfl
        have jc:d=0->j=0:=fun h=> by have:=Ba (by omega);omega
        have pz:Rd wr g (m+nd d):=xb.mono (by
         rcases dy with h|h
         · have:=jc h;subst h;subst this;simp[nd]
         · omega)
        have Gl:=hdq pz;clear G5 hG V2 dy jc;go_wp2_with fail;refine(j25 kd _).mono ?_;rintro e wu ⟨rfl,rfl⟩;go_wp2_with fail;refine bodyPost_ret (v:= .agg #[.int .i64 kd,.int .i64 x,.slice Bv ts.length cv]) (by simp[results,Tryz.results134,go_sem,s0,s1,s2]) rfl ⟨.mk kd x ts,_,rfl, ?_, ?_, ?_⟩
        · exact((((From.mk kd x Jv h1 h2).set (by simp) _).set (by simp) _).set (by simp) _).since (by omega)
        · exact(((Gl.out.set (by simpa using nh) _).set (by simpa using nh) _).set (by simpa using nh) _)
        · exact((hO.setNew (by simp) _).setNew (by simp) _).setNew (by simp) _
   · have t2:decide (0 < q33 kd)=false:=decide_eq_false O6
     obtain⟨x,hx⟩: ∃x:Int,x=0:=⟨_,rfl⟩;go_wp2_with fail;rw[<-hx] at ub;have pk:=ub;have Al:=Dv;have Ah:Rd wM g (m+3):=Dw.mono (by omega);have zt:=vr;obtain⟨W,hW⟩: ∃W,W=wM:=⟨_,rfl⟩;rw[<-hW] at Al pk Ah zt⊢;clear hW hx ub Dv Dw vr hR;have Im:g6 < W.heap.size:=j10 pk;have Fw:w.heap.size < g6:=qu;have nh:g < w.heap.size:=G0
     go_loopw [7] (fun i wr=> ∃(j:Nat) (v:Value) (ts:List Tr),i= .int .i64 j/\j<=4/\(j:Int)<=max 0 (opsT kd)/\wr.heap[g6]? =some (.cells #[.int .i64 kd,.int .i64 x,v] 25 (0,0))/\wr.heap[w.heap.size]? =some (.cells #[.int .i64 0,.int .i64 0,.slice none 0 0] 25 (0,0))/\q19 (fun b=> b < W.heap.size) W wr 25 v ts/\ts.length=j/\Rd wr g (m+3+j*nd (d - 1))/\Only [g] w wr/\W.heap.size<=wr.heap.size) (fun i _=> 5 -(intOf i).toNat)
     case atStart=> exact⟨0,_, [],rfl,by omega,by omega,pk,Al,q19.nil _ _ _ _,rfl,by simpa using Ah,zt,Nat.le_refl _⟩
     case round=>
      obtain⟨j,v,ts,rfl,hj,hjk,G5,hb4,hG,bi,xb,hO,hle⟩:=hrel;have oh:=hdq bi;have Cl:ts.length<=4:=by omega
      clear bi;by_cases hlt:(j:Int) < opsT kd
      · have t1:decide ((j:Int) < opsT kd)=true:=decide_eq_true hlt
        have Gu:=(j123 (k:=kd)).2;have mz:2<=d:=by
         rcases Nat.lt_or_ge d 2 with h|h
         · have:=Ba h;omega
         · exact h
        have sq:j<=3:=by omega
        have V2:j*nd (d - 1)<=3*255:=Nat.mul_le_mul sq (q222 (d - 1) (by omega));have Ag:nd d=3+4*nd (d - 1):=y119 mz;have bj:j*nd (d - 1)<=3*nd (d - 1):=Nat.mul_le_mul_right _ sq;have Hv:=hdq (fun w' (hw:Ext wr w')=> j121 ih mz w' g _ (xb.ext hw) (by omega));have cn:=hdq (show m+3+j*nd (d - 1)+nd (d - 1)=m+3+(j+1)*nd (d - 1) from by rw[Nat.add_mul];omega);have Ga:=hdq hG;have pu:=hdq (IntWalk.i64_in ((d:Int) - 1) ⟨by omega,by omega⟩);have hv:=q10 G5 2;have hv3: ∃B c,v= .slice B ts.length c:=by
         obtain⟨B,c,hv,-⟩:=hG.lies (fun b hb=> hb);exact⟨B,c,hv⟩
        obtain⟨Bv,cv,rfl⟩:=hv3;have hown: ∀q,(Value.slice Bv ts.length cv).ownBlock=some q->q < wr.heap.size:=by
         obtain⟨xs,g1,-⟩:=hG;exact fun q hq=>(g1.lt q hq).2
        have aj:=hdq hown;have Jm:=hdq G5;have xv:=hdq hb4;clear hb4 V2 hG hown G5 bj Ag;go_wp2_with fail;refine(j25 kd _).mono ?_;rintro e wu ⟨rfl,rfl⟩;go_wp2_with fail
        go_region_law (first
         |(go_simp;go_at_call 134;(try rw[pu.out]);(with_reducible refine(Hv.out _ (xr wr).drew).mono ?_);rintro e w5 ⟨t,u,rfl,bl,Y1,U2⟩;obtain⟨k5,n5,A5,l5,c5,rfl⟩:=bl.three;have hs5:wr.heap.size<=w5.heap.size:=U2.size;have af:w5.heap[g6]? =some (.cells #[.int .i64 kd,.int .i64 x,.slice Bv ts.length cv] 25 (0,0)):=U2.keepBlk Jm.out (by simp;omega);have oc:w5.heap[w.heap.size]? =some (.cells #[.int .i64 0,.int .i64 0,.slice none 0 0] 25 (0,0)):=U2.keepBlk xv.out (by simp;omega);have gi:=q10 af 2;have Fz:g6 < w5.heap.size:=j10 af)
         |(refine y27 _ (by rfl) (.tmp 32) (.tmp 37) _ (by rfl) 25 i0 _ Tryz.underlying23 hi hz0 hz1 hz2 rfl (by rfl) (X:=fun b=> b < W.heap.size) (W:=W) (tr:=t) (((Ga.out.ext (xr wr).drew).only U2 (by intro b hb;rw[List.mem_singleton.1 hb];omega) (fun b hb=> hb)).ext ((xr w5).alloc _)) (by simp;omega) ((bl.ext ((xr w5).alloc _)).mono (fun b hb=>⟨hb.2,fun h=> by have:=aj.out b h;have h2:wr.heap.size<=b:=hb.1;omega,by have h2:wr.heap.size<=b:=hb.1;omega⟩) (fun _ _=> rfl)) (by rfl) (heap_alloc_new _ _) (by omega) ?_ (fun b hb=> hb);intro v' w6 K4 Q6;obtain⟨B6,c6,rfl,r1,r2,-,-⟩:=K4.lies (fun b hb=> hb);have bh:=(Q6.block g6 (by omega)).trans (((xr w5).alloc (.cells #[.int .i64 k5,.int .i64 n5,.slice A5 l5 c5] 25)).blk af);have Uk:=q10 bh 2;have Vo:=y13 bh 2))
        all_goals(
         have ap:Only [g] w w6:=(((hO.trans (oE (L:= [g]) (xr wr).drew)).trans U2).trans (oE (L:= [g]) ((xr w5).alloc (.cells #[.int .i64 k5,.int .i64 n5,.slice A5 l5 c5] 25)))).below Q6 (by omega);have ak:Rd w6 g (m+3+(j+1)*nd (d - 1)):=by rw[<-cn.out];exact(Y1.ext ((xr w5).alloc (.cells #[.int .i64 k5,.int .i64 n5,.slice A5 l5 c5] 25))).under Q6 (by omega)
         have eu:=(Q6.block w.heap.size (by omega)).trans (((xr w5).alloc (.cells #[.int .i64 k5,.int .i64 n5,.slice A5 l5 c5] 25)).blk oc);have mb:W.heap.size<=w6.heap.size:=by have:=Q6.size;simp at this;omega
         rw[List.length_append,List.length_singleton] at K4;have ry:=hdq K4;have Hz:=hdq ak;have od:=hdq bh;have pd:=hdq eu;clear K4 ak bh eu Q6 af oc gi;go_wp2_with fail
         go_roundw
         case rel=> exact⟨j+1,_,ts++ [t],by go_num,by omega,by omega,j11 od.out 2 _,q13 pd.out (by show w.heap.size≠g6;omega) _,ry.out.only (Only.one w6 g6 2 _) (by intro b hb;rw[List.mem_singleton.1 hb];omega) (fun b hb=> hb),by rw[List.length_append,oh.out];rfl,Hz.out.set (by show g < g6;omega) _,ap.setNew (by show w.heap.size<=g6;omega) _,by simpa using mb⟩
         case measure=> simp[intOf];omega)
      · have t1:decide ((j:Int) < opsT kd)=false:=decide_eq_false hlt
        obtain⟨Bv,cv,rfl,h1,h2,hK,-⟩:=hG.lies (fun b hb=> hb);obtain⟨r0,r1,r2,-,-,-⟩:=own3 G5;obtain⟨s0,s1,s2,f0,f1,f2⟩:=own3 hb4;have Jv:j14 (w.heap.size+1) wr Bv ts:=hK.mono (fun b hb=>⟨by omega,hb.1⟩) (fun _ _=> rfl);have V2:j*nd (d - 1)<=4*nd (d - 1):=Nat.mul_le_mul_right _ hj;have dy:d=0\/nd d=3+4*nd (d - 1):=by
         cases d with
         |zero=> exact .inl rfl
         |succ d=> exact .inr rfl
        have jc:d=0->j=0:=fun h=> by have:=Ba (by omega);omega
        have pz:Rd wr g (m+nd d):=xb.mono (by
         rcases dy with h|h
         · have:=jc h;subst h;subst this;simp[nd]
         · omega)
        have Gl:=hdq pz;clear G5 hG V2 dy jc;go_wp2_with fail;refine(j25 kd _).mono ?_;rintro e wu ⟨rfl,rfl⟩;go_wp2_with fail;refine bodyPost_ret (v:= .agg #[.int .i64 kd,.int .i64 x,.slice Bv ts.length cv]) (by simp[results,Tryz.results134,go_sem,s0,s1,s2]) rfl ⟨.mk kd x ts,_,rfl, ?_, ?_, ?_⟩
        · exact((((From.mk kd x Jv h1 h2).set (by simp) _).set (by simp) _).set (by simp) _).since (by omega)
        · exact(((Gl.out.set (by simpa using nh) _).set (by simpa using nh) _).set (by simpa using nh) _)
        · exact((hO.setNew (by simp) _).setNew (by simp) _).setNew (by simp) _
theorem j115: ∀d:Nat,d<=4->q223 d
 |0,h=> j100 0 h (fun h=> by omega)
 |d+1,h=> j100 (d+1) h (fun _=> j115 d (by omega))
end Go.Proofs.YtbnkbepgmenblaaGreat
namespace Go.Proofs.YtbnkbepgmenblaaGreat
open Go.RowKit
def j77(W w:World)(e:TypeId)(v:Value)(ks:List Tr)(n:Nat):Prop:=
 ks.length=n*2/\ ∃xs,w.ownsRow W.heap.size e 6 v n xs/\RowL w (fun b=> W.heap.size<=b/\b < w.heap.size/\v.ownBlock≠some b) xs ks
theorem y118{w w':World}{base:Nat}{e:TypeId}{v:Value}{n:Nat}{xs:List Value}(h:w.ownsRow base e 6 v n xs)(hb: ∀g,v.ownBlock=some g->w'.heap[g]? =w.heap[g]?):w'.ownsRow base e 6 v n xs:=by
 refine⟨h.1, ?_⟩;rcases h.2 with h|⟨g,cap,cur,rfl,h1,h2,r⟩
 · exact .inl h
 · exact .inr ⟨g,cap,cur,rfl,h1,(hb g rfl).trans h2,r⟩
theorem j77.nil(W w:World)(e:TypeId):j77 W w e (.slice none 0 0) [] 0:=⟨rfl, [],World.ownsRow_nil _ _ _ _,RowL.nil⟩
theorem j77.same{W w w':World}{e:TypeId}{v:Value}{ks:List Tr}{n:Nat}(h:j77 W w e v ks n)(hs:w.heap.size<=w'.heap.size)(hb: ∀b,W.heap.size<=b->b < w.heap.size->w'.heap[b]? =w.heap[b]?):j77 W w' e v ks n:=by
 obtain⟨h0,xs,h1,h2⟩:=h;exact⟨h0,xs,y118 h1 (fun g hg=> hb g (h1.lt g hg).1 (h1.lt g hg).2),h2.mono (fun b hb=>⟨hb.1,Nat.lt_of_lt_of_le hb.2.1 hs,hb.2.2⟩) (fun b hm=> hb b hm.1 hm.2.1)⟩
theorem j77.only{W w w':World}{e:TypeId}{v:Value}{ks:List Tr}{n:Nat}{L:List Nat}(h:j77 W w e v ks n)(ho:Only L w w')(hL: ∀b,b∈L->b < W.heap.size):j77 W w' e v ks n:=
 h.same ho.size (fun b hW hb=> ho.block b hb (fun hm=> by have:=hL b hm;omega))
theorem j77.slice{W w:World}{e:TypeId}{v:Value}{ks:List Tr}{n:Nat}(h:j77 W w e v ks n): ∃A cap,v= .slice A n cap/\n<=cap/\cap<=maxLen/\j14 W.heap.size w A ks:=by
 obtain⟨h0,xs,h1,h2⟩:=h;rcases h1.2 with⟨rfl,h3⟩ |⟨g,cap,cur,rfl,hb,hg,ji,hcm,hcs,ht⟩
 · have:ks= []:=List.eq_nil_of_length_eq_zero (by omega)
   subst this;exact⟨none,0,by rw[h3],by omega,Nat.zero_le _,.inl rfl⟩
 · refine⟨_,cap,rfl,ji,hcm,.inr ⟨g,0,rfl,⟨hb,j10 hg⟩, ?_⟩⟩
   have h3:=RowL.tail (cur.toList.drop (n*6)) (h2.mono (S':=fun b=> W.heap.size<=b/\b < w.heap.size) (fun b hb=>⟨hb.1,hb.2.1⟩) (fun _ _=> rfl));rw[<-ht,List.take_append_drop] at h3;exact RowL.inL hg (pre:= []) h3 (by simp)
theorem j77.cap{W w:World}{e:TypeId}{A:Option Addr}{n cap n':Nat}{ks:List Tr}(h:j77 W w e (.slice A n cap) ks n'):A=none->cap=0:=by
 obtain⟨h0,xs,h1,h2⟩:=h;intro hA;rcases h1.2 with⟨h3,-⟩ |⟨g,c,cur,h3,-⟩
 · simp only[Value.slice.injEq] at h3
   exact h3.2.2
 · simp only[Value.slice.injEq] at h3
   rw[hA] at h3;cases h3.1
theorem RowL.append{w:World}{S:Nat->Prop}{ys:List Value}{ts:List Tr}(ht:RowL w S ys ts): ∀{xs:List Value} {ks:List Tr},xs.length=ks.length*3->RowL w S xs ks->RowL w S (xs++ys) (ks++ts)
 |xs, [],hx,h=> by
  have hx0:xs= []:=List.eq_nil_of_length_eq_zero (by simpa using hx);subst hx0;exact ht
 |xs,x::ks,hx,h=> by
  obtain⟨u0,u1,u2,rest,rfl,h1,h2⟩:=RowL.cons_iff.1 h;exact RowL.cons_iff.2 ⟨u0,u1,u2,_,rfl,h1,RowL.append ht (by simp only[List.length_cons] at hx;omega) h2⟩
theorem RowL.two{w:World}{S:Nat->Prop}{t u:Tr}{v0 v1 v2 v3 v4 v5:Value}(h1:InT w S t (.agg #[v0,v1,v2]))(h2:InT w S u (.agg #[v3,v4,v5])):RowL w S [v0,v1,v2,v3,v4,v5] [t,u]:=
 RowL.cons_iff.2 ⟨v0,v1,v2,_,rfl,h1,RowL.cons_iff.2 ⟨v3,v4,v5,_,rfl,h2,RowL.nil⟩⟩
theorem j77.row{W w:World}{e:TypeId}{v:Value}{ks:List Tr}{n:Nat}(h:j77 W w e v ks n)(hn:0 < n): ∃g cap,v= .slice (some ⟨g,0,none⟩) n cap/\W.heap.size<=g/\g < w.heap.size/\n<=cap/\cap<=maxLen/\
 ∀j,j < n*6-> ∃x,w.cell? ⟨g,j,none⟩=some x/\w.frozen? ⟨g,j,none⟩=false:=by
 obtain⟨h0,xs,h1,h2⟩:=h;rcases h1.2 with⟨rfl,h3⟩ |⟨g,cap,cur,rfl,hb,hg,ji,hcm,hcs,ht⟩
 · omega
 · exact⟨g,cap,rfl,hb,j10 hg,ji,hcm,fun j hj=>⟨cur[j]'(by rw[hcs];omega),by rw[q10 hg];exact Array.getElem?_eq_getElem _,y13 hg _⟩⟩
end Go.Proofs.YtbnkbepgmenblaaGreat
namespace Go.Proofs.YtbnkbepgmenblaaGreat
open Go.RowKit
attribute [local go_sem ↓] Go.wp_at_zero Go.wp_at_succ
theorem OwnL.rowL{w:World}{e:TypeId}{S:Nat->Prop}: ∀{xs:List Value} {ks:List Tr} {L:List Nat},OwnL w e xs ks L->(∀b,b∈L->S b)->RowL w S xs ks
 |_, [],_,_,_=> RowL.nil
 |xs,t::ts,L,h,hS=> by
  obtain⟨v0,v1,v2,rest,L1,L2,rfl,h1,h2,rfl⟩:=OwnL.cons_iff.1 h;exact RowL.cons_iff.2 ⟨v0,v1,v2,rest,rfl,h1.inT.mono (fun b hb=> hS b (by simp[hb])) (fun _ _=> rfl),OwnL.rowL h2 (fun b hb=> hS b (by simp[hb]))⟩
theorem Grow.toS{W w:World}{e:TypeId}{v:Value}{ks:List Tr}(h:Grow W w e v ks):q19 (fun b=> b < W.heap.size) W w e v ks:=by
 obtain⟨xs,L,h1,h2,h3,h4⟩:=h;exact⟨xs,h1,h2.rowL (fun b hb=>⟨(h3.2 b hb).2,fun he=> h4 b he hb,by have:=(h3.2 b hb).1;omega⟩)⟩
theorem y160(k n:Int)(ks:List Tr)(w:World)(v:Value)(j7:Lies w (.mk k n ks) v)(U7:cnt (.mk k n ks)<=1000000):
 Calls Tryz.prog 67 #[v] w fun e w'=> ∃B c,e= .returned (.agg #[.int .i64 k,.int .i64 n,.slice B ks.length c])/\(∃W0:World,w.heap.size<=W0.heap.size/\q19 (fun b=> b < W0.heap.size) W0 w' 25 (.slice B ks.length c) ks/\W0.heap.size<=w'.heap.size)/\Ext w w':=by
 obtain⟨A,cap,rfl,hl,hc,hK⟩:=Lies.mk_iff.1 j7;obtain⟨i0,hi,hz0,hz1,hz2⟩:=info_parts q133;have hcc:=hc;unfold maxLen at hcc;simp only[cnt] at U7;have hlc:=y19 ks;go_enter Tryz.func67,Tryz.ntmps67;go_wp2_with fail;obtain⟨w1,i7⟩: ∃w1,w1=(w.alloc (.cells #[.int .i64 k,.int .i64 n,.slice A ks.length cap] 25)).alloc (.cells #[.int .i64 0,.int .i64 0,.slice none 0 0] 25):=⟨_,rfl⟩;obtain⟨W,hW⟩: ∃W,W=w1.alloc (.cells #[.int .i64 k,.int .i64 n,.slice none 0 0] 25):=⟨_,rfl⟩;have hs1:w1.heap.size=w.heap.size+1+1:=by rw[i7];simp
 have Eu:W.heap.size=w.heap.size+3:=by rw[hW];simp;omega
 have C6:Ext w w1:=i7▸((xr w).alloc _).alloc _;have I3:Ext w1 W:=hW▸(xr w1).alloc _;have F2:w1.heap[w.heap.size+1]? =some (.cells #[.int .i64 0,.int .i64 0,.slice none 0 0] 25 (0,0)):=by
  rw[i7];exact(blk2 (xr _)).2.1
 have ot:W.heap[w.heap.size+1+1]? =some (.cells #[.int .i64 k,.int .i64 n,.slice none 0 0] 25 (0,0)):=by
  have:=heap_alloc_new w1 (.cells #[.int .i64 k,.int .i64 n,.slice none 0 0] 25);rw[hs1] at this;rw[hW];exact this
 have T7:w1.heap[w.heap.size]? =some (.cells #[.int .i64 k,.int .i64 n,.slice A ks.length cap] 25 (0,0)):=by
  rw[i7];exact(blk2 (xr _)).1
 rw[<-i7,<-hW];clear hW i7
 go_loopw [4] (fun i wr=> ∃(j:Nat) (v:Value),j<=ks.length/\i= .int .i64 j/\wr.heap[w.heap.size+1+1]? =some (.cells #[.int .i64 k,.int .i64 n,v] 25 (0,0))/\Grow W wr 25 v (ks.take j)/\Ext w1 wr/\W.heap.size<=wr.heap.size) (fun i _=> ks.length -(intOf i).toNat)
 case atStart=> exact⟨0,_,Nat.zero_le _,rfl,ot,Grow.nil _ _ _,I3,Nat.le_refl _⟩
 case round=>
  obtain⟨j,v,hj,rfl,J9,hG,he,hle⟩:=hrel;by_cases hlt:j < ks.length
  · obtain⟨b,o,k',n',A',cap',kids,rfl,HK,c0,c1,c2,K8,L6,hK',D6,j5⟩:=hK.get (C6.trans he) hlt
    have L8:=List.take_append_getElem hlt;rw[HK.out] at L8;have hcm:=y15 j5;have hlen:(ks.take j).length < 1099511627776:=by rw[List.length_take];omega
    have Y2:(ks.take j).length=j:=by rw[List.length_take];omega
    have HL:=hdq Y2;have U5:=he.blk T7;obtain⟨-,-,t2,-,-,-⟩:=own3 U5;have hj':(j:Int) <(ks.length:Int):=by omega
    go_wp2_with fail;have R9:=hle;have N4:=hG;have Y3:=J9;have hv:=q10 Y3 2;have C8: ∀w',Below W.heap.size wr w'->w'.heap[w.heap.size+1+1]? =some (.cells #[.int .i64 k,.int .i64 n,v] 25 (0,0)):=fun w' hB=>(hB.block (w.heap.size+1+1) (by omega)).trans Y3
    have p5:=hdq C8;have D8:Ext wr wr.drew:=(xr wr).drew;have dr:=D6.ext D8;have nt:=he;clear C8 Y2 J9 hG he hle hcc
    go_region_law (first|(go_simp;go_at_call 67;refine(j29 _ _ _ dr (by omega)).mono ?_;rintro e w4 ⟨u,rfl,hM,h4⟩;obtain⟨a1,a2,a3,a4,a5,rfl⟩:=hM.three';have hv4:=q10 (p5.out _ ((D8.trans h4).below R9)) 2;have jq:=World.block_lt_of_cell? _ _ hv4) |(refine q29 _ (by rfl) (.tmp 18) (.tmp 25) _ (by rfl) 25 i0 _ Tryz.underlying23 hi hz0 hz1 hz2 rfl (by rfl) N4 R9 (D8.trans h4) (hM.since (Nat.le_refl _)) ((xr _).alloc _) (by rfl) (heap_alloc_new _ _) hlen ?_;intro v' w5 G7 E6;obtain⟨B5,c5,rfl,q1,q2,-⟩:=G7.made;have gi:=q10 (p5.out _ E6) 2;have Er:=y13 (p5.out _ E6) 2))
    all_goals(
     have fh:Ext w1 w5:=nt.trans' E6 (by omega);have hs5:=E6.size;have G5:=p5.out _ E6;rw[List.length_append,List.length_singleton,L8,show(ks.take j).length+1=min (j+1) ks.length from by rw[List.length_take];omega] at G7;have rq:=fun u=> G7.after ((y25.refl W.heap.size w5).setCell (p:=⟨w.heap.size+1+1,2,none⟩) (by show w.heap.size+1+1 < W.heap.size;omega) u)
     clear hv4 jq hv p5 hM h4 c0 c1 c2 t2;go_wp2_with fail
     go_roundw
     case rel=> exact⟨j+1,_,by omega,by go_num,j11 G5 2 _,rq _,fh.setCell (by show _<=w.heap.size+1+1;omega) _,by simp;omega⟩
     case measure=> simp[intOf];omega)
  · obtain⟨B5,c5,rfl,q1,q2,ij⟩:=hG.made
    have Eb:=hG.toS;have M0:j=ks.length:=by omega
    have nk:(ks.take j).length=ks.length:=by rw[M0,List.take_length]
    obtain⟨r0,r1,r2,-,-,-⟩:=own3 J9;have U5:=he.blk T7;obtain⟨-,-,t2,-,-,-⟩:=own3 U5;have Z6:=he.blk F2;obtain⟨s0,s1,s2,f0,f1,f2⟩:=own3 Z6;rw[nk] at q1 r2;rw[show ks.take j=ks from by rw[M0,List.take_length]] at ij;rw[nk] at Eb;clear nk J9;go_wp2_with fail;refine bodyPost_ret (v:= .agg #[.int .i64 k,.int .i64 n,.slice B5 ks.length c5]) (by simp[results,Tryz.results67,go_sem,s0,s1,s2]) rfl ⟨B5,c5,rfl,⟨W,by omega, ?_,by simp;omega⟩, ?_⟩
    · rw[show ks.take j=ks from by rw[M0,List.take_length]] at Eb
      exact((Eb.only (Only.one _ (w.heap.size+1) 0 _) (by intro b hb;rw[List.mem_singleton.1 hb];omega) (fun b hb=> hb)).only (Only.one _ (w.heap.size+1) 1 _) (by intro b hb;rw[List.mem_singleton.1 hb];omega) (fun b hb=> hb)).only (Only.one _ (w.heap.size+1) 2 _) (by intro b hb;rw[List.mem_singleton.1 hb];omega) (fun b hb=> hb)
    · exact((((C6.trans he).setCell (by simp) _).setCell (by simp) _).setCell (by simp) _)
theorem nd_le4: ∀d,d<=4->nd d<=1023
 |0,_=> by decide
 |1,_=> by decide
 |2,_=> by decide
 |3,_=> by decide
 |4,_=> by decide
theorem j164:valid sigT (.mk 7 0 [])=true:=by decide
theorem q104(w:World)(g m:Nat)(hR:Rd w g m)(hm:m < 900000):Calls Tryz.prog 82 #[.pointer (some ⟨g,0,none⟩)] w fun e w'=> ∃t u,e= .returned u/\valid sigT t=true/\From w.heap.size w' t u/\Rd w' g (m+1024)/\Only [g] w w':=by
 have G0:=hR.lt;have hx0:=((xr w).alloc (.cells #[.int .i64 0,.int .i64 0,.slice none 0 0] 25)).alloc (.cells #[.int .i64 3,.int .i64 4,.int .i64 2,.int .i64 3,.int .i64 1] 3);obtain⟨Jh,b50,-⟩:=blk2 (xr ((w.alloc (.cells #[.int .i64 0,.int .i64 0,.slice none 0 0] 25)).alloc (.cells #[.int .i64 3,.int .i64 4,.int .i64 2,.int .i64 3,.int .i64 1] 3)));have hN:=q38 (w:=w.alloc (.cells #[.int .i64 0,.int .i64 0,.slice none 0 0] 25)) (cs:=#[.int .i64 3,.int .i64 4,.int .i64 2,.int .i64 3,.int .i64 1]) (e:=3) (ns:= [3,4,2,3,1]) rfl;rw[World.size_alloc] at hN;go_enter Tryz.func82,Tryz.ntmps82;go_wp2_with fail;generalize (w.alloc _).alloc _=w0 at hx0 Jh b50 hN;refine(q30 _ g m (hR.ext hx0) (by omega) _ 5 [3,4,2,3,1] (by simp) (by decide) (by simp) hN (by intro b o hb;simp at hb;omega)).mono ?_;rintro e w1 ⟨d,rfl,j5,ej,sx⟩;obtain⟨dn,rfl,hd4⟩: ∃dn:Nat,d=dn/\dn<=4:=by
  simp only[List.mem_cons,List.not_mem_nil,or_false] at j5;exact⟨d.toNat,by omega,by omega⟩
 have Ag:=nd_le4 dn hd4;have Kr:=sx.keepBlk Jh (by simp;omega);have Dt:=(oE (L:= [g]) hx0).trans sx;clear j5 hN b50 Jh;go_wp2_with fail;refine(j115 dn hd4 _ g _ ej (by omega)).mono ?_;rintro e w2 ⟨t,u,rfl,hF,M9,ig⟩;obtain⟨k0,n0,A0,l0,c0,rfl⟩:=hF.three;have xu:=ig.keepBlk Kr (by simp;omega);have M4:=Dt.trans ig;have hx3:=(xr w2).alloc (.cells #[.int .i64 k0,.int .i64 n0,.slice A0 l0 c0] 25);have T7:=heap_alloc_new w2 (.cells #[.int .i64 k0,.int .i64 n0,.slice A0 l0 c0] 25);have Pf:=(hF.ext hx3).since (show w.heap.size+1<=w1.heap.size from j10 Kr);have b43:=hx3.blk xu;have ax:=M4.trans (oE (L:= [g]) hx3);have L9:=M9.ext hx3;clear Kr xu Dt M4 hF ej;go_wp2_with fail;refine(q28 t _ _ Pf.lies).mono ?_;obtain⟨vt,hvt⟩: ∃vt,vt=valid sigT t:=⟨_,rfl⟩;rw[<-hvt];rintro e w4 ⟨rfl,e4⟩;have zn:=Pf.ext e4;obtain⟨s0,s1,s2,f0,f1,f2⟩:=own3 (e4.blk b43);obtain⟨x0,x1,x2,-,-,-⟩:=own3 (e4.blk T7);have S8:=ax.trans (oE (L:= [g]) e4);have P5:=L9.ext e4;have HV:=hdq hvt;clear hvt T7 L9 ax M9;cases vt with
 |true=>
  go_wp2_with fail;refine bodyPost_ret (v:= .agg #[.int .i64 k0,.int .i64 n0,.slice A0 l0 c0]) (by simp[results,Tryz.results82,go_sem,s0,s1,s2]) rfl ⟨t,_,rfl,HV.out.symm, ?_, ?_, ?_⟩
  · exact(((zn.set (by simp) _).set (by simp) _).set (by simp) _).since (by omega)
  · exact(((P5.mono (by omega)).set (by simpa using G0) _).set (by simpa using G0) _).set (by simpa using G0) _
  · exact((S8.setNew (by simp) _).setNew (by simp) _).setNew (by simp) _
 |false=>
  have gh:=e4.blk b43;clear s0 s1 s2 f0 f1 f2;go_wp2_with fail;refine(j24 _ 7 0).mono ?_;rintro e w5 ⟨rfl,e5⟩;obtain⟨s0,s1,s2,f0,f1,f2⟩:=own3 (e5.blk gh);have ae:=S8.trans (oE (L:= [g]) e5);have Y1:=P5.ext e5;go_wp2_with fail;refine bodyPost_ret (v:= .agg #[.int .i64 7,.int .i64 0,.slice none 0 0]) (by simp[results,Tryz.results82,go_sem,s0,s1,s2]) rfl ⟨.mk 7 0 [],_,rfl,j164,From.leaf _ _ _ _, ?_, ?_⟩
  · exact(((Y1.mono (by omega)).set (by simpa using G0) _).set (by simpa using G0) _).set (by simpa using G0) _
  · exact((ae.setNew (by simp) _).setNew (by simp) _).setNew (by simp) _
end Go.Proofs.YtbnkbepgmenblaaGreat
