/-
  Lemmas towards the law, 9: Scan, Row, Nums, Any, SpecValid.
-/
import Derived.Test.YtbnkbepgmenblaaGreatDoorFAH
set_option linter.unusedVariables false
set_option maxHeartbeats 1600000
set_option maxRecDepth 100000
namespace Go.Proofs.YtbnkbepgmenblaaGreatDoor
open Go.RowKit
def q182(t:Tr):Prop:= ∀(w:World) (B g:Nat) (v:Value) (deep c:Int),InT w (fun b=> b < B) t v->B<=g->w.heap[g]? =some (.cells #[.int .i64 c] 3 (0,0))->0<=c->c<=400->0<=deep->deep<=40->
 Calls Tryz.prog 40 #[v,.int .i64 deep,.pointer (some ⟨g,0,none⟩)] w fun e w'=> e= .returned (.bool (y31 sigT t deep c).1)/\w'.heap[g]? =some (.cells #[.int .i64 (y31 sigT t deep c).2] 3 (0,0))/\Below B w w'
theorem j122: ∀t:Tr,q182 t:=Tr.ind fun k n ks hk=> by
 intro w B g v deep c j8 hBg hblk hc0 hc1 sf ni;obtain⟨A,cap,rfl,hl,hc,h⟩:=InT.mk_iff.1 j8;clear j8;have hc':=hc;unfold maxLen at hc';have hgs:=j10 hblk;have q0:w.cell? ⟨g,0,none⟩=some (.int .i64 c):=q10 hblk 0;have q1:=q14 hblk 0;have e:y31 sigT (.mk k n ks) deep c=if 400 < c+1 then(false,c+1) else if 30 < deep then(false,c+1) else if opsT k=(ks.length:Int) then(if inR n 0 (j15 k)=true then j30 sigT ks (deep+1) (c+1) else(false,c+1)) else(false,c+1):=by
  unfold y31;rfl
 have E:=hdq e;have HB:=hdq hblk;have hW: ∀W,W=(w.setCell ⟨g,0,none⟩ (.int .i64 (c+1))).alloc (.cells #[.int .i64 k,.int .i64 n,.slice A ks.length cap] 26)->W.heap[g]? =some (.cells #[.int .i64 (c+1)] 3 (0,0))/\W.heap[w.heap.size]? =some (.cells #[.int .i64 k,.int .i64 n,.slice A ks.length cap] 26 (0,0))/\Below B w W/\w.heap.size < W.heap.size:=by
  rintro W rfl;have e0:=heap_alloc_new (w.setCell ⟨g,0,none⟩ (.int .i64 (c+1))) (.cells #[.int .i64 k,.int .i64 n,.slice A ks.length cap] 26);rw[World.size_setCell] at e0;exact⟨q176 (q11 HB.out 0 _) _,e0,((Below.refl B w).setCell hBg _).alloc (by simp;omega) _,by simp⟩
 have HW:=hdq hW;clear hW e;by_cases a1:400 < c+1
 · rw[if_pos a1] at E
   have d1:decide (400 < c+1)=true:=decide_eq_true a1;go_enter Tryz.func40,Tryz.ntmps40;go_wp2_with fail;have hb:=HW.out _ rfl;generalize (w.setCell _ _).alloc _=W at hb;obtain⟨b1,b2,b3,b4⟩:=hb;obtain⟨y0,y1,y2⟩:=j26.own3 b2;have y3: ∀y:j26 W,y.world.cell? ⟨g,0,none⟩=some (.int .i64 (c+1)):=fun y=> j26.cell (q10 b1 0) y
   have B1:=hdq b1;have B2:=hdq b2;clear b2 b1 q0 q1 hblk;refine y16 (by kernel_rfl) (by kernel_rfl) ?_
   repeat (go_big_quiet_step (first|(go_at_call 74;exact q69 (y73 _ _)) |(go_at_call 70;exact j13 (j21 _ _ _ _)) |(go_at_call 75;exact j13 (y58 _ _))))
   refine wpQuiet_nil ?_;intro w3 hw';obtain⟨⟨_,h3⟩,rfl⟩:=hw';clear y0 y1 y2 y3;go_wp2_with fail;go_ret;exact⟨by rw[E.out];rfl,by rw[E.out];exact h3.blk B1.out,b3.trans (h3.mono (by omega))⟩
 rw[if_neg a1] at E;have d1:decide (400 < c+1)=false:=decide_eq_false a1;by_cases a2:30 < deep
 · rw[if_pos a2] at E
   have d2:decide (30 < deep)=true:=decide_eq_true a2;go_enter Tryz.func40,Tryz.ntmps40;go_wp2_with fail;have hb:=HW.out _ rfl;generalize (w.setCell _ _).alloc _=W at hb;obtain⟨b1,b2,b3,b4⟩:=hb;obtain⟨y0,y1,y2⟩:=j26.own3 b2;have y3: ∀y:j26 W,y.world.cell? ⟨g,0,none⟩=some (.int .i64 (c+1)):=fun y=> j26.cell (q10 b1 0) y
   have B1:=hdq b1;have B2:=hdq b2;clear b2 b1 q0 q1 hblk;refine y16 (by kernel_rfl) (by kernel_rfl) ?_
   repeat (go_big_quiet_step (first|(go_at_call 74;exact q69 (y73 _ _)) |(go_at_call 70;exact j13 (j21 _ _ _ _)) |(go_at_call 75;exact j13 (y58 _ _))))
   refine wpQuiet_nil ?_;intro w3 hw';obtain⟨⟨_,h3⟩,rfl⟩:=hw';clear y0 y1 y2 y3;go_wp2_with fail;go_ret;exact⟨by rw[E.out];rfl,by rw[E.out];exact h3.blk B1.out,b3.trans (h3.mono (by omega))⟩
 rw[if_neg a2] at E;have d2:decide (30 < deep)=false:=decide_eq_false a2;by_cases a3:opsT k=(ks.length:Int)
 · rw[if_pos a3] at E
   have d3:(opsT k !=(ks.length:Int))=false:=by rw[a3];simp
   clear a3;obtain⟨z,hz⟩: ∃z,inR n 0 (j15 k)=z:=⟨_,rfl⟩;cases z with
   |false=>
    rw[hz,if_neg (by decide)] at E;go_enter Tryz.func40,Tryz.ntmps40;go_wp2_with fail;have hb:=HW.out _ rfl;generalize (w.setCell _ _).alloc _=W at hb;obtain⟨b1,b2,b3,b4⟩:=hb;obtain⟨y0,y1,y2⟩:=j26.own3 b2;have y3: ∀y:j26 W,y.world.cell? ⟨g,0,none⟩=some (.int .i64 (c+1)):=fun y=> j26.cell (q10 b1 0) y
    have B1:=hdq b1;have B2:=hdq b2;clear b2 b1 q0 q1 hblk;refine y16 (by kernel_rfl) (by kernel_rfl) ?_
    repeat (go_big_quiet_step (first|(go_at_call 74;exact q69 (y73 _ _)) |(go_at_call 70;exact j13 (j21 _ _ _ _)) |(go_at_call 75;exact j13 (y58 _ _))))
    refine wpQuiet_nil ?_;intro w3 hw';obtain⟨⟨_,h3⟩,rfl⟩:=hw';clear y0 y1 y2 y3;go_wp2_with fail;go_ret;exact⟨by rw[E.out];rfl,by rw[E.out];exact h3.blk B1.out,b3.trans (h3.mono (by omega))⟩
   |true=>
    rw[hz,if_pos rfl] at E;go_enter Tryz.func40,Tryz.ntmps40;go_wp2_with fail;have hb:=HW.out _ rfl;generalize (w.setCell _ _).alloc _=W at hb;obtain⟨b1,b2,b3,b4⟩:=hb;obtain⟨y0,y1,y2⟩:=j26.own3 b2;have y3: ∀y:j26 W,y.world.cell? ⟨g,0,none⟩=some (.int .i64 (c+1)):=fun y=> j26.cell (q10 b1 0) y
    have B1:=hdq b1;have B2:=hdq b2;clear b2 b1 q0 q1 hblk;refine y16 (by kernel_rfl) (by kernel_rfl) ?_
    repeat (go_big_quiet_step (first|(go_at_call 74;exact q69 (y73 _ _)) |(go_at_call 70;exact j13 (j21 _ _ _ _)) |(go_at_call 75;exact j13 (y58 _ _))))
    refine wpQuiet_nil ?_;intro w3 hw';obtain⟨⟨_,h3⟩,rfl⟩:=hw';clear y0 y1 y2 y3;clear hz;obtain⟨z0,z1,z2,-,-,-⟩:=own3 (h3.blk B2.out);have hg3:=h3.blk B1.out;have Ie:Below B w w3:=b3.trans (h3.mono (by omega));have B4:=hdq hg3;clear hg3;go_wp2_with fail;clear z0 z1 z2
    go_loopw [43] (fun i wr=> ∃(j:Nat) (q:Int),j<=ks.length/\i= .int .i64 j/\wr.heap[g]? =some (.cells #[.int .i64 q] 3 (0,0))/\0<=q/\q<=400/\Below B w wr/\j30 sigT ks (deep+1) (c+1)=j30 sigT (ks.drop j) (deep+1) q) (fun i _=> ks.length -(intOf i).toNat)
    case atStart=> exact⟨0,c+1,Nat.zero_le _,rfl,B4.out,by omega,by omega,Ie,rfl⟩
    case round=>
     obtain⟨j,q,hj,rfl,hblk,bl,dw,tu,F4⟩:=hrel;have HE:=hdq F4;clear F4;by_cases hlt:j < ks.length
     · obtain⟨b,o,k2,n2,A2,I7,kids,rfl,HK,c0,c1,c2,I6,G9,hK,j8,j6,ye⟩:=h.get (fun x hx=> tu.block x hx) hlt
       have l8:=List.drop_eq_getElem_cons hlt;rw[HK.out] at l8;have hst:j30 sigT (ks.drop j) (deep+1) q=if(y31 sigT (.mk k2 n2 kids) (deep+1) q).1=true then j30 sigT (ks.drop (j+1)) (deep+1) (y31 sigT (.mk k2 n2 kids) (deep+1) q).2 else(false,(y31 sigT (.mk k2 n2 kids) (deep+1) q).2):=by rw[l8];conv=> lhs;unfold j30
       have hsp:=y82 sigT (.mk k2 n2 kids) (deep+1) q bl dw;have Iw:=hdq hblk;have hgwr:=j10 hblk;clear hblk l8;go_wp2_with fail;have C5:=(xr wr).alloc (.cells #[.int .i64 k2,.int .i64 n2,.slice A2 kids.length I7] 26);have hbw:B<=wr.heap.size:=by omega
       refine(hk _ j6 _ B g _ (deep+1) q (j8.mono (fun _ h=> h) (fun x hx=> C5.heap x (by omega))) hBg (C5.blk Iw.out) bl dw (by omega) (by omega)).mono ?_;rintro e w4 ⟨rfl,h4,h5⟩;have rb:Below B w w4:=tu.trans ((Below.mono C5 hbw).trans h5);generalize y31 sigT (.mk k2 n2 kids) (deep+1) q=r at hst hsp h4;obtain⟨r1,r2⟩:=r
       dsimp only at hst hsp h4
       cases r1 with
       |false=>
        rw[if_neg (by decide)] at hst;have HT:=hdq hst;have H4:=hdq h4;clear hst h4 hsp;go_wp2_with fail;go_ret;exact⟨by rw[E.out,HE.out,HT.out];rfl,by rw[E.out,HE.out,HT.out];exact H4.out,rb⟩
       |true=>
        rw[if_pos rfl] at hst;have HT:=hdq hst;have H4:=hdq h4;have hr2:=hsp.2.2.2.2 rfl;have hr3:=hsp.2.2.1;clear hst h4 hsp;go_wp2_with fail
        go_roundw
        case rel=> exact⟨j+1,r2,by omega,by go_num,H4.out,by omega,hr2,rb,by rw[HE.out,HT.out]⟩
        case measure=> simp[intOf];omega
     · have Iw:=hdq hblk
       clear hblk;go_wp2_with fail;go_ret;have hjk:ks.drop j= []:=List.drop_of_length_le (by omega);exact⟨by rw[E.out,HE.out,hjk];rfl,by rw[E.out,HE.out,hjk];exact Iw.out,tu⟩
 · rw[if_neg a3] at E
   have d3:(opsT k !=(ks.length:Int))=true:=by rw[bne_iff_ne];exact a3
   clear a3;go_enter Tryz.func40,Tryz.ntmps40;go_wp2_with fail;have hb:=HW.out _ rfl;generalize (w.setCell _ _).alloc _=W at hb;obtain⟨b1,b2,b3,b4⟩:=hb;obtain⟨y0,y1,y2⟩:=j26.own3 b2;have y3: ∀y:j26 W,y.world.cell? ⟨g,0,none⟩=some (.int .i64 (c+1)):=fun y=> j26.cell (q10 b1 0) y
   have B1:=hdq b1;have B2:=hdq b2;clear b2 b1 q0 q1 hblk;refine y16 (by kernel_rfl) (by kernel_rfl) ?_
   repeat (go_big_quiet_step (first|(go_at_call 74;exact q69 (y73 _ _)) |(go_at_call 70;exact j13 (j21 _ _ _ _)) |(go_at_call 75;exact j13 (y58 _ _))))
   refine wpQuiet_nil ?_;intro w3 hw';obtain⟨⟨_,h3⟩,rfl⟩:=hw';clear y0 y1 y2 y3;go_wp2_with fail;go_ret;exact⟨by rw[E.out];rfl,by rw[E.out];exact h3.blk B1.out,b3.trans (h3.mono (by omega))⟩
def RowL(w:World)(S:Nat->Prop):List Value->List Tr->Prop
 |_, []=> True
 |xs,t::ts=> ∃v0 v1 v2 rest,xs=v0::v1::v2::rest/\InT w S t (.agg #[v0,v1,v2])/\RowL w S rest ts
theorem RowL.cons_iff{w:World}{S:Nat->Prop}{xs:List Value}{t:Tr}{ts:List Tr}:RowL w S xs (t::ts)↔ ∃v0 v1 v2 rest,xs=v0::v1::v2::rest/\InT w S t (.agg #[v0,v1,v2])/\RowL w S rest ts:=by
 conv=> lhs;unfold RowL
theorem RowL.nil{w:World}{S:Nat->Prop}{xs:List Value}:RowL w S xs []:=by unfold RowL;trivial
theorem RowL.mono{w w':World}{S S':Nat->Prop}(hS: ∀b,S b->S' b)(hw: ∀b,S b->w'.heap[b]? =w.heap[b]?): ∀{xs:List Value} {ks:List Tr},RowL w S xs ks->RowL w' S' xs ks
 |_, [],_=> RowL.nil
 |xs,t::ts,h=> by
  obtain⟨v0,v1,v2,rest,rfl,h1,h2⟩:=RowL.cons_iff.1 h;exact RowL.cons_iff.2 ⟨v0,v1,v2,rest,rfl,h1.mono hS hw,RowL.mono hS hw h2⟩
theorem RowL.inL{w:World}{S:Nat->Prop}{b:Nat}{cs:Array Value}{e:TypeId}(hb:w.heap[b]? =some (.cells cs e (0,0))): ∀{xs pre:List Value} {ks:List Tr},RowL w S xs ks->cs.toList=pre++xs->InL w S b pre.length ks
 |_,_, [],_,_=> by unfold InL;trivial
 |xs,pre,t::ts,h,he=> by
  obtain⟨v0,v1,v2,rest,rfl,h1,h2⟩:=RowL.cons_iff.1 h;unfold InL;have hc: ∀i,w.cell? ⟨b,i,none⟩=cs.toList[i]? :=fun i=> by rw[q10 hb];simp
  refine⟨⟨v0,v1,v2, ?_, ?_, ?_,h1⟩, ?_⟩
  · rw[hc,he,List.getElem?_append_right (Nat.le_refl _)];simp
  · rw[hc,he,List.getElem?_append_right (by omega)];simp
  · rw[hc,he,List.getElem?_append_right (by omega)];simp
  · have:=RowL.inL hb (pre:=pre++ [v0,v1,v2]) h2 (by simp[he])
    simpa using this
theorem InL.rowL{w:World}{S:Nat->Prop}{b:Nat}: ∀{o:Nat} {ks:List Tr},InL w S b o ks-> ∃xs:List Value,xs.length=ks.length*3/\(∀j u,xs[j]? =some u->w.cell? ⟨b,o+j,none⟩=some u)/\(∀u∈xs,u.oneCell'=true)/\RowL w S xs ks
 |o, [],_=>⟨[],rfl,(fun j u h=> by simp at h),(fun u h=> by simp at h),RowL.nil⟩
 |o,t::ts,h=> by
  unfold InL at h;obtain⟨⟨v0,v1,v2,c0,c1,c2,ht⟩,qo⟩:=h;obtain⟨xs,n1,n2,n3,n4⟩:=InL.rowL qo;refine⟨v0::v1::v2::xs,by simp[n1];omega,fun j u hu=> ?_,fun u hu=> ?_,RowL.cons_iff.2 ⟨v0,v1,v2,xs,rfl,ht,n4⟩⟩
  · match j,hu with
    |0,hu=> simpa using(by simpa using hu:v0=u)▸c0
    |1,hu=> simpa using(by simpa using hu:v1=u)▸c1
    |2,hu=> simpa using(by simpa using hu:v2=u)▸c2
    |j+3,hu=>
     have:=n2 j u (by simpa using hu)
     rwa [show o+3+j=o+(j+3) by omega] at this
  · obtain⟨k,n,kids⟩:=t
    obtain⟨A,cap,hv,_⟩:=InT.mk_iff.1 ht;simp only[Value.agg.injEq,Array.mk.injEq,List.cons.injEq,and_true] at hv;obtain⟨rfl,rfl,rfl⟩:=hv;simp only[List.mem_cons] at hu;rcases hu with rfl|rfl|rfl|hu
    · rfl
    · rfl
    · rfl
    · exact n3 u hu
theorem RowL.snoc{w:World}{S:Nat->Prop}{t:Tr}{v0 v1 v2:Value}(ht:InT w S t (.agg #[v0,v1,v2]))(tail:List Value): ∀{xs:List Value} {ks:List Tr},xs.length=ks.length*3->RowL w S xs ks->RowL w S (xs++v0::v1::v2::tail) (ks++ [t])
 |xs, [],hx,h=> by
  have hx0:xs= []:=List.eq_nil_of_length_eq_zero (by simpa using hx);subst hx0;exact RowL.cons_iff.2 ⟨v0,v1,v2,tail,rfl,ht,RowL.nil⟩
 |xs,x::ks,hx,h=> by
  obtain⟨u0,u1,u2,rest,rfl,h1,h2⟩:=RowL.cons_iff.1 h;exact RowL.cons_iff.2 ⟨u0,u1,u2,_,rfl,h1,RowL.snoc ht tail (by simp only[List.length_cons] at hx;omega) h2⟩
theorem RowL.tail{w:World}{S:Nat->Prop}(tail:List Value): ∀{xs:List Value} {ks:List Tr},RowL w S xs ks->RowL w S (xs++tail) ks
 |xs, [],h=> RowL.nil
 |xs,x::ks,h=> by
  obtain⟨u0,u1,u2,rest,rfl,h1,h2⟩:=RowL.cons_iff.1 h;exact RowL.cons_iff.2 ⟨u0,u1,u2,_,rfl,h1,RowL.tail tail h2⟩
theorem RowL.set{w:World}{S:Nat->Prop}{t:Tr}{v0 v1 v2:Value}(ht:InT w S t (.agg #[v0,v1,v2])): ∀{xs:List Value} {ks:List Tr} (i:Nat),RowL w S xs ks->RowL w S (((xs.set (i*3) v0).set (i*3+1) v1).set (i*3+2) v2) (ks.set i t)
 |xs, [],i,h=> by simpa using RowL.nil
 |xs,x::ks,0,h=> by
  obtain⟨u0,u1,u2,rest,rfl,h1,h2⟩:=RowL.cons_iff.1 h;exact RowL.cons_iff.2 ⟨v0,v1,v2,rest,by simp,ht,h2⟩
 |xs,x::ks,i+1,h=> by
  obtain⟨u0,u1,u2,rest,rfl,h1,h2⟩:=RowL.cons_iff.1 h;refine RowL.cons_iff.2 ⟨u0,u1,u2,_, ?_,h1,RowL.set ht i h2⟩;rw[show(i+1)*3=i*3+1+1+1 by omega,show i*3+1+1+1+1=i*3+1+1+1+1 from rfl,show i*3+1+1+1+2=i*3+2+1+1+1 by omega];simp
def y32(X:Nat->Prop)(W w:World)(e:TypeId)(v:Value)(ks:List Tr):Prop:=
 ∃xs,w.ownsRow W.heap.size e 3 v ks.length xs/\RowL w (fun b=> b < w.heap.size/\v.ownBlock≠some b/\ ¬X b) xs ks
theorem y32.nil(X:Nat->Prop)(W w:World)(e:TypeId):y32 X W w e (.slice none 0 0) []:=⟨[],World.ownsRow_nil _ _ _ _,RowL.nil⟩
theorem y32.lit{X:Nat->Prop}{W w:World}{e:TypeId}{g:Nat}(hg:w.heap[g]? =some (.cells #[] e (0,0)))(hW:W.heap.size<=g):y32 X W w e (.slice (some ⟨g,0,none⟩) 0 0) []:=
 ⟨[],⟨rfl,.inr ⟨g,0,#[],rfl,hW,hg,Nat.le_refl _,Nat.zero_le _,rfl,rfl⟩⟩,RowL.nil⟩
theorem y32.only{X:Nat->Prop}{W w w':World}{e:TypeId}{v:Value}{ks:List Tr}{L:List Nat}(h:y32 X W w e v ks)(ho:Only L w w')(hX: ∀b,b∈L->X b)(hL: ∀b,X b->b < W.heap.size):y32 X W w' e v ks:=by
 obtain⟨xs,h1,h2⟩:=h;refine⟨xs,j24 h1 (fun g hg=> ho.block g (h1.lt g hg).2 (fun hm=> by have:=hL g (hX g hm);have:=(h1.lt g hg).1;omega)),h2.mono (fun b hb=>⟨Nat.lt_of_lt_of_le hb.1 ho.size,hb.2.1,hb.2.2⟩) (fun b hb=> ho.block b hb.1 (fun hm=> hb.2.2 (hX b hm)))⟩
theorem y32.ext{X:Nat->Prop}{W w w':World}{e:TypeId}{v:Value}{ks:List Tr}(h:y32 X W w e v ks)(he:Ext w w'):y32 X W w' e v ks:=by
 obtain⟨xs,h1,h2⟩:=h;exact⟨xs,j24 h1 (fun g hg=> he.heap g (h1.lt g hg).2),h2.mono (fun b hb=>⟨Nat.lt_of_lt_of_le hb.1 he.size,hb.2.1,hb.2.2⟩) (fun b hb=> he.heap b hb.1)⟩
theorem y32.lies{X:Nat->Prop}{W w:World}{e:TypeId}{v:Value}{ks:List Tr}(h:y32 X W w e v ks)(hL: ∀b,X b->b < W.heap.size): ∃A cap,v= .slice A ks.length cap/\ks.length<=cap/\cap<=maxLen/\InK w (fun b=> b < w.heap.size/\ ¬X b) A ks/\(ks= []\/ ∃g,A=some ⟨g,0,none⟩/\W.heap.size<=g):=by
 obtain⟨xs,h1,h2⟩:=h;rcases h1.2 with⟨rfl,h0⟩ |⟨g,cap,cur,rfl,hb,hg,ey,hcm,hcs,ht⟩
 · have:ks= []:=List.eq_nil_of_length_eq_zero h0
   subst this;exact⟨none,0,rfl,Nat.le_refl _,Nat.zero_le _,.inl rfl,.inl rfl⟩
 · refine⟨_,cap,rfl,ey,hcm,.inr ⟨g,0,rfl,⟨j10 hg,fun hm=> by have:=hL g hm;omega⟩, ?_⟩,.inr ⟨g,rfl,hb⟩⟩
   have h3:=RowL.tail (cur.toList.drop (ks.length*3)) (h2.mono (S':=fun b=> b < w.heap.size/\ ¬X b) (fun b hb=>⟨hb.1,hb.2.2⟩) (fun _ _=> rfl));rw[<-ht,List.take_append_drop] at h3;exact RowL.inL hg (pre:= []) h3 (by simp)
theorem j136{w:World}{S:Nat->Prop}{t:Tr}{v0 v1 v2:Value}(h:InT w S t (.agg #[v0,v1,v2])): ∀u∈ [v0,v1,v2],u.oneCell'=true:=by
 obtain⟨k,n,ks⟩:=t;obtain⟨A,cap,hv,_⟩:=InT.mk_iff.1 h;simp only[Value.agg.injEq,Array.mk.injEq,List.cons.injEq,and_true] at hv;obtain⟨rfl,rfl,rfl⟩:=hv;intro u hu;simp only[List.mem_cons,List.not_mem_nil,or_false] at hu;rcases hu with rfl|rfl|rfl <;> rfl
theorem y35{P:Program}(w:World){o:Oper}{a:Act}{K:Act->World->Prop}{Q:Exit->Act->World->Prop}(s x:Operand)(t:TypeId)
 (ho:o.op= .call {callee:= .builtin .append,args:=#[s,x],argTypes:=#[t,t]})
 (e:TypeId) (i:TypeInfo) (z:Value) (ht:P.underlying t=some (.slice e)) (hi:P.info? e=some i) (hz:i.zero=some z) (hsize:i.size=3) (hby:i.bytes=40) (hzs:z.cells.size=3)
 {X:Nat->Prop} {W:World} {v:Value} {ks:List Tr} {tr:Tr} {v0 v1 v2:Value} {gx:Nat} (hs:a.eval s=v) (hG:y32 X W w e v ks) (hW:W.heap.size<=w.heap.size)
 (hT:InT w (fun b=> b < w.heap.size/\v.ownBlock≠some b/\ ¬X b) tr (.agg #[v0,v1,v2]))
 (hx:a.eval x= .slice (some ⟨gx,0,none⟩) 1 1) (hgx:w.heap[gx]? =some (.cells #[v0,v1,v2] e (0,0))) (hn:ks.length < 1099511627776)
 (h: ∀v' w',y32 X W w' e v' (ks++ [tr])->Below W.heap.size w w'->K (a.put o.dst v') w') (hL: ∀b,X b->b < W.heap.size):o.wp P a w K Q:=by
 obtain⟨xs,h1,h2⟩:=hG;obtain⟨v',w',hr,r1,r2,r3⟩:=y18 (P:=P) w W.heap.size t o.type e i z 3 40 ht hi hz hsize hby hzs (by decide) v ks.length xs h1 ⟨gx,0,none⟩ 1 1 [v0,v1,v2] rfl (q60 hgx) (j136 hT) (by unfold maxLen;omega) (by omega) hW;have hB:Below W.heap.size w w':=⟨r2.os,r2.tape,r2.output,r2.size,fun b hb=> r2.block b (by omega) (fun he=> by have:=(h1.lt b he.symm).1;omega)⟩;have hS: ∀b,b < w.heap.size/\v.ownBlock≠some b/\ ¬X b->b < w'.heap.size/\v'.ownBlock≠some b/\ ¬X b:=fun b hb=> by
  refine⟨Nat.lt_of_lt_of_le hb.1 r2.size,fun he=> ?_,hb.2.2⟩;rcases r3 b he with h4|h4
  · exact hb.2.1 h4
  · omega
 have hw: ∀b,b < w.heap.size/\v.ownBlock≠some b/\ ¬X b->w'.heap[b]? =w.heap[b]? :=fun b hb=> r2.block b hb.1 (fun he=> hb.2.1 he.symm)
 have N7:y32 X W w' e v' (ks++ [tr]):=⟨_,by simpa using r1,RowL.snoc (hT.mono hS hw) [] h1.1 (h2.mono hS hw)⟩;unfold Oper.wp execOp;simp only[ho,resolve,invoke,builtin,Sem.run_bind,Sem.run_pure,Result.andThen_ok,List.map_toArray,List.map_cons,List.map_nil,hs,hx,hr];exact h v' w' N7 hB
theorem j33{P:Program}(w:World){ops:Array Oper}{rest:List Oper}{o:Oper}{a:Act}{Q:Exit->Act->World->Prop}(hgd:o.guard=none)(s x:Operand)(t:TypeId)
 (ho:o.op= .call {callee:= .builtin .append,args:=#[s,x],argTypes:=#[t,t]})
 (e:TypeId) (i:TypeInfo) (z:Value) (ht:P.underlying t=some (.slice e)) (hi:P.info? e=some i) (hz:i.zero=some z) (hsize:i.size=3) (hby:i.bytes=40) (hzs:z.cells.size=3)
 {X:Nat->Prop} {W:World} {v:Value} {ks:List Tr} {tr:Tr} {v0 v1 v2:Value} {gx:Nat} (hs:a.eval s=v) (hG:y32 X W w e v ks) (hW:W.heap.size<=w.heap.size)
 (hT:InT w (fun b=> b < w.heap.size/\v.ownBlock≠some b/\ ¬X b) tr (.agg #[v0,v1,v2]))
 (hx:a.eval x= .slice (some ⟨gx,0,none⟩) 1 1) (hgx:w.heap[gx]? =some (.cells #[v0,v1,v2] e (0,0))) (hn:ks.length < 1099511627776)
 (h: ∀v' w',y32 X W w' e v' (ks++ [tr])->Below W.heap.size w w'->wpList P ops Q rest (a.put o.dst v') w') (hL: ∀b,X b->b < W.heap.size):wpList P ops Q (o::rest) a w:=
 wpList_plain hgd fun K hK=> y35 w s x t ho e i z ht hi hz hsize hby hzs hs hG hW hT hx hgx hn (fun v' w' h1 h2=> hK _ _ (h v' w' h1 h2)) hL
end Go.Proofs.YtbnkbepgmenblaaGreatDoor
namespace Go.Proofs.YtbnkbepgmenblaaGreatDoor
open Go.RowKit Go.ChangeShapes Go.WideShapes Go.Deep
def Nums(w:World)(A:Option Addr)(ns:List Int):Prop:=ns= []\/ ∃b o,A=some ⟨b,o,none⟩/\b < w.heap.size/\ ∀j (h:j < ns.length),w.cell? ⟨b,o+j,none⟩=some (.int .i64 ns[j])
theorem Nums.ext{w w':World}{A:Option Addr}{ns:List Int}(h:Nums w A ns)(he:Ext w w'):Nums w' A ns:=by
 rcases h with h|⟨b,o,rfl,hb,hc⟩
 · exact .inl h
 · exact .inr ⟨b,o,rfl,Nat.lt_of_lt_of_le hb he.size,fun j hj=> he.cell (hc j hj)⟩
theorem Nums.get{w w':World}{A:Option Addr}{ns:List Int}(h:Nums w A ns)(he:Ext w w'){j:Nat}(hj:j < ns.length): ∃b o,A=some ⟨b,o,none⟩/\w'.cell? ⟨b,o+j,none⟩=some (.int .i64 ns[j]):=by
 rcases h with rfl|⟨b,o,rfl,hb,hc⟩
 · exact absurd hj (by simp)
 · exact⟨b,o,rfl,he.cell (hc j hj)⟩
theorem At.nums{w:World}{A:Option Addr}{ns:List Int}(h:Nums w A ns):At w (fun w'=> Nums w' A ns):=fun _ hx=> h.ext hx
section
variable {H : Type} {enc : TypeId × Value → H} {P : Program} {w : World} {spare : Nat → Bool} {held : Bool}
theorem open_nums{s i:TypeId}(hs:P.underlying s=some (.slice i))(hi:P.underlying i=some (.int .i64))(ci:P.cellsOf i=1){r:Reach}{b0:Nat}{v:Value}{d:DataW H}{p:List MemPlace}(hv:Value.okWide P w r b0 s v)(h:DataW.Trod enc P w 0 spare held s v d p):
 ∃(A:Option Addr) (cap:Nat) (ns:List Int),v= .slice A ns.length cap/\ns.length<=cap/\cap<=maxLen/\Nums w A ns:=by
 obtain⟨a0,Nc,y9,rfl⟩:=okWide_slice hs hv;obtain⟨fuel,hf⟩:=h;rcases DataW.trod_slice hs hf with⟨hcs,_⟩ |⟨a,len,cap,elems,rest,n,rfl,hcs,_,_,hl,hm,hlen,ve,_,_⟩
 · simp only[Value.cells,List.cons.injEq,and_true] at hcs
   exact⟨none,0, [],hcs,Nat.le_refl _,Nat.zero_le _,.inl rfl⟩
 · have lq: ∀j,j < len-> ∃x:Int,w.cell? (a.add j)=some (.int .i64 x):=by
    intro j hj;have hj':=ve j hj;rw[List.getElem?_eq_getElem (by omega)] at hj';obtain⟨cs',h1,h2⟩:=Option.bind_eq_some_iff.1 hj';obtain⟨x,rfl,_,_⟩:=DataW.trod_int hi h2;obtain⟨_,_,hcell⟩:=World.cells?_some h1;rw[ci] at hcell;have q0:=hcell 0 (by omega);rw[Nat.mul_one] at q0;have e0: ∀y:Addr,y.add 0=y:=fun y=> by simp[Addr.add]
    rw[e0] at q0;exact⟨x,q0⟩
   obtain⟨ns,py,hp⟩:=q47 len lq;subst py;simp only[Value.cells,List.cons.injEq,and_true] at hcs;refine⟨some a,cap,ns,hcs,hl,hm, ?_⟩;cases ns with
   |nil=> exact .inl rfl
   |cons t0 ts=>
    obtain⟨b,o,spot⟩:=a;have hlt:b < w.heap.size/\spot=none:=by
     have q0:=hp 0 (by simp);have e0:(⟨b,o,spot⟩:Addr).add 0=⟨b,o,spot⟩:=by simp[Addr.add]
     rw[e0] at q0;exact⟨World.block_lt_of_cell? _ _ q0,by simpa using World.cell?_spot q0⟩
    obtain⟨hlt,rfl⟩:=hlt;refine .inr ⟨b,o,rfl,hlt,fun j hj=> ?_⟩;have q0:=hp j hj;rw[j62] at q0;exact q0
end
def y43(f:Int):Int:=if f=1\/f=2\/f=4 then 2 else if f=3\/f=5\/f=6 then 1 else -1
def fits(f:Int)(ns:List Int):Bool:=decide (y43 f=(ns.length:Int))&& ns.all (fun n=> inR n 0 20)
def funVal(f:Int)(ns:List Int):Int×Bool:=
 if fits f ns=true then
  match ns with
  | [a]=>(if f=3 then(if a=0 then 0 else a - 1) else if f=6 then 2*a else if a=0 then 1 else 0,true)
  | [a,b]=>(if f=1 then a+b else if f=2 then a*b else if a < b then 0 else a - b,true)
  |_=>(0,false)
 else(0,false)
theorem q166(k:Int)(w:World):Calls Tryz.prog 9 #[.int .i64 k] w fun e w'=> e= .returned (.int .i64 (y43 k))/\w=w':=by
 by_cases h:1<=k/\k<=6
 · rcases(by omega:k=1\/k=2\/k=3\/k=4\/k=5\/k=6) with rfl|rfl|rfl|rfl|rfl|rfl
   all_goals
    go_enter Tryz.func9,Tryz.ntmps9;go_wp2_with fail;go_ret;exact⟨rfl,rfl⟩
 · have e:y43 k= -1:=by
    unfold y43
    repeat rw[if_neg (by omega)]
   have f1:(k==1)=false:=by simp;omega
   have f2:(k==2)=false:=by simp;omega
   have f3:(k==3)=false:=by simp;omega
   have f4:(k==4)=false:=by simp;omega
   have f5:(k==5)=false:=by simp;omega
   have f6:(k==6)=false:=by simp;omega
   have E:=hdq e;clear e h;go_enter Tryz.func9,Tryz.ntmps9;go_wp2_with fail;go_ret;exact⟨by rw[E.out];rfl,rfl⟩
theorem fits_true{f:Int}{ns:List Int}(h:fits f ns=true):(∃a b,ns= [a,b]/\0<=a/\a<=20/\0<=b/\b<=20/\(f=1\/f=2\/f=4))\/(∃a,ns= [a]/\0<=a/\a<=20/\(f=3\/f=5\/f=6)):=by
 unfold fits at h;rw[Bool.and_eq_true] at h;have h1:=of_decide_eq_true h.1;have h2:=h.2;rw[List.all_eq_true] at h2;unfold y43 at h1;by_cases c1:f=1\/f=2\/f=4
 · rw[if_pos c1] at h1
   match ns,h1 with
   | [a,b],_=>
    have ha:=j31.1 (h2 a (by simp));have hb:=j31.1 (h2 b (by simp));exact .inl ⟨a,b,rfl,ha.1,ha.2,hb.1,hb.2,c1⟩
   | [],h1=> simp at h1
   | [a],h1=> simp at h1
   |a::b::c::ts,h1=> simp at h1;omega
 · rw[if_neg c1] at h1
   by_cases c2:f=3\/f=5\/f=6
   · rw[if_pos c2] at h1
     match ns,h1 with
     | [a],_=>
      have ha:=j31.1 (h2 a (by simp));exact .inr ⟨a,rfl,ha.1,ha.2,c2⟩
     | [],h1=> simp at h1
     |a::b::ts,h1=> simp at h1;omega
   · rw[if_neg c2] at h1
     omega
end Go.Proofs.YtbnkbepgmenblaaGreatDoor
namespace Go.Proofs.YtbnkbepgmenblaaGreatDoor
open Go.RowKit
def q27(p:Tr->Bool):List Tr->Nat->Int
 | [],_=> -1
 |t::ts,j=> if p t=true then(j:Int) else q27 p ts (j+1)
theorem q57(p:Tr->Bool): ∀(ts:List Tr) (j:Nat),decide (0<=q27 p ts j)=ts.any p
 | [],j=> by simp[q27]
 |t::ts,j=> by
  unfold q27;cases h:p t
  · simp[h,q57 p ts (j+1)]
  · simp[h]
theorem q32(k:Int)(w:World):Calls Tryz.prog 89 #[.int .i64 k] w fun e w'=> e= .returned (.int .i64 (opsT k))/\w=w':=by
 by_cases h:1<=k/\k<=16
 · rcases(by omega:k=1\/k=2\/k=3\/k=4\/k=5\/k=6\/k=7\/k=8\/k=9\/k=10\/k=11\/k=12\/k=13\/k=14\/k=15\/k=16) with rfl|rfl|rfl|rfl|rfl|rfl|rfl|rfl|rfl|rfl|rfl|rfl|rfl|rfl|rfl|rfl
   all_goals
    go_enter Tryz.func89,Tryz.ntmps89;go_wp2_with fail;go_ret;exact⟨rfl,rfl⟩
 · have e:opsT k= -1:=by
    unfold opsT
    repeat rw[if_neg (by omega)]
   have f1:(k==1)=false:=by simp;omega
   have f2:(k==2)=false:=by simp;omega
   have f3:(k==3)=false:=by simp;omega
   have f4:(k==4)=false:=by simp;omega
   have f5:(k==5)=false:=by simp;omega
   have f6:(k==6)=false:=by simp;omega
   have f7:(k==7)=false:=by simp;omega
   have f8:(k==8)=false:=by simp;omega
   have f9:(k==9)=false:=by simp;omega
   have f10:(k==10)=false:=by simp;omega
   have f11:(k==11)=false:=by simp;omega
   have f12:(k==12)=false:=by simp;omega
   have f13:(k==13)=false:=by simp;omega
   have f14:(k==14)=false:=by simp;omega
   have f15:(k==15)=false:=by simp;omega
   have f16:(k==16)=false:=by simp;omega
   have E:=hdq e;clear e h;go_enter Tryz.func89,Tryz.ntmps89;go_wp2_with fail;go_ret;exact⟨by rw[E.out];rfl,rfl⟩
theorem y56(k:Int)(w:World):Calls Tryz.prog 127 #[.int .i64 k] w fun e w'=> e= .returned (.int .i64 (j15 k))/\w=w':=by
 by_cases h:1<=k/\k<=2
 · rcases(by omega:k=1\/k=2) with rfl|rfl
   all_goals
    go_enter Tryz.func127,Tryz.ntmps127;go_wp2_with fail;go_ret;exact⟨rfl,rfl⟩
 · have e:j15 k=0:=by
    unfold j15
    repeat rw[if_neg (by omega)]
   have f1:(k==1)=false:=by simp;omega
   have f2:(k==2)=false:=by simp;omega
   have E:=hdq e;clear e h;go_enter Tryz.func127,Tryz.ntmps127;go_wp2_with fail;go_ret;exact⟨by rw[E.out];rfl,rfl⟩
def j100(t:Tr):Prop:= ∀(w:World) (v:Value) (depth:Int),Lies w t v-> -1<=depth->depth<=40->
 Calls Tryz.prog 90 #[v,.int .i64 depth] w fun e w'=> e= .returned (.bool (shape sigT t depth))/\Ext w w'
theorem y115: ∀t:Tr,j100 t:=Tr.ind fun k n ks hk=> by
 intro w v depth j8 sf ni;obtain⟨A,cap,rfl,hl,hc,h⟩:=Lies.mk_iff.1 j8;clear j8;have hc':=hc;unfold maxLen at hc';have e:shape sigT (.mk k n ks) depth=(decide (1<=depth)&&(decide (opsT k=(ks.length:Int))&& inR n 0 (j15 k)&& q21 sigT ks (depth - 1))):=by
  unfold shape y79;rfl
 have E:=hdq e;clear e;by_cases a1:depth < 1
 · have he:shape sigT (.mk k n ks) depth=false:=by
    rw[E.out];rw[decide_eq_false (by omega: ¬1<=depth)];rfl
   replace E:=hdq he;clear he;have d1:decide (depth < 1)=true:=decide_eq_true a1;go_enter Tryz.func90,Tryz.ntmps90;go_wp2_with fail;have hE:=(xr w).alloc (.cells #[.int .i64 k,.int .i64 n,.slice A ks.length cap] 26);have hb:=(blk1 (xr (w.alloc (.cells #[.int .i64 k,.int .i64 n,.slice A ks.length cap] 26)))).1;generalize w.alloc _=W at hE hb;obtain⟨y0,y1,y2⟩:=j26.own3 hb;have B1:=hdq hb;clear hb;refine y16 (by kernel_rfl) (by kernel_rfl) ?_
   repeat (go_big_quiet_step (first|(go_at_call 89;exact j13 (q32 _ _)) |(go_at_call 127;exact j13 (y56 _ _))))
   refine wpQuiet_nil ?_;intro w3 hw';obtain⟨⟨_,h3⟩,rfl⟩:=hw';clear y0 y1 y2;have ix:=hE.trans h3;go_wp2_with fail;go_ret;exact⟨by rw[E.out];rfl,ix⟩
 have d1:decide (depth < 1)=false:=decide_eq_false a1;by_cases a2: ¬opsT k=(ks.length:Int)
 · have he:shape sigT (.mk k n ks) depth=false:=by
    rw[E.out];rw[decide_eq_false a2];simp
   replace E:=hdq he;clear he;have d2:(opsT k !=(ks.length:Int))=true:=by rw[bne_iff_ne];exact a2
   go_enter Tryz.func90,Tryz.ntmps90;go_wp2_with fail;have hE:=(xr w).alloc (.cells #[.int .i64 k,.int .i64 n,.slice A ks.length cap] 26);have hb:=(blk1 (xr (w.alloc (.cells #[.int .i64 k,.int .i64 n,.slice A ks.length cap] 26)))).1;generalize w.alloc _=W at hE hb;obtain⟨y0,y1,y2⟩:=j26.own3 hb;have B1:=hdq hb;clear hb;refine y16 (by kernel_rfl) (by kernel_rfl) ?_
   repeat (go_big_quiet_step (first|(go_at_call 89;exact j13 (q32 _ _)) |(go_at_call 127;exact j13 (y56 _ _))))
   refine wpQuiet_nil ?_;intro w3 hw';obtain⟨⟨_,h3⟩,rfl⟩:=hw';clear y0 y1 y2;have ix:=hE.trans h3;go_wp2_with fail;go_ret;exact⟨by rw[E.out];rfl,ix⟩
 have d2:(opsT k !=(ks.length:Int))=false:=by simpa using a2
 by_cases a3:n < 0
 · have he:shape sigT (.mk k n ks) depth=false:=by
    rw[E.out];rw[y49.2 (.inl a3)];simp
   replace E:=hdq he;clear he;have d3:decide (n < 0)=true:=decide_eq_true a3;go_enter Tryz.func90,Tryz.ntmps90;go_wp2_with fail;have hE:=(xr w).alloc (.cells #[.int .i64 k,.int .i64 n,.slice A ks.length cap] 26);have hb:=(blk1 (xr (w.alloc (.cells #[.int .i64 k,.int .i64 n,.slice A ks.length cap] 26)))).1;generalize w.alloc _=W at hE hb;obtain⟨y0,y1,y2⟩:=j26.own3 hb;have B1:=hdq hb;clear hb;refine y16 (by kernel_rfl) (by kernel_rfl) ?_
   repeat (go_big_quiet_step (first|(go_at_call 89;exact j13 (q32 _ _)) |(go_at_call 127;exact j13 (y56 _ _))))
   refine wpQuiet_nil ?_;intro w3 hw';obtain⟨⟨_,h3⟩,rfl⟩:=hw';clear y0 y1 y2;have ix:=hE.trans h3;go_wp2_with fail;go_ret;exact⟨by rw[E.out];rfl,ix⟩
 have d3:decide (n < 0)=false:=decide_eq_false a3;by_cases a4:j15 k < n
 · have he:shape sigT (.mk k n ks) depth=false:=by
    rw[E.out];rw[y49.2 (.inr a4)];simp
   replace E:=hdq he;clear he;have d4:decide (j15 k < n)=true:=decide_eq_true a4;go_enter Tryz.func90,Tryz.ntmps90;go_wp2_with fail;have hE:=(xr w).alloc (.cells #[.int .i64 k,.int .i64 n,.slice A ks.length cap] 26);have hb:=(blk1 (xr (w.alloc (.cells #[.int .i64 k,.int .i64 n,.slice A ks.length cap] 26)))).1;generalize w.alloc _=W at hE hb;obtain⟨y0,y1,y2⟩:=j26.own3 hb;have B1:=hdq hb;clear hb;refine y16 (by kernel_rfl) (by kernel_rfl) ?_
   repeat (go_big_quiet_step (first|(go_at_call 89;exact j13 (q32 _ _)) |(go_at_call 127;exact j13 (y56 _ _))))
   refine wpQuiet_nil ?_;intro w3 hw';obtain⟨⟨_,h3⟩,rfl⟩:=hw';clear y0 y1 y2;have ix:=hE.trans h3;go_wp2_with fail;go_ret;exact⟨by rw[E.out];rfl,ix⟩
 have d4:decide (j15 k < n)=false:=decide_eq_false a4;have hn:inR n 0 (j15 k)=true:=j31.2 ⟨by omega,by omega⟩;have he:shape sigT (.mk k n ks) depth=q21 sigT ks (depth - 1):=by
  rw[E.out,decide_eq_true (by omega:1<=depth),decide_eq_true (by omega:opsT k=(ks.length:Int)),hn];rfl
 replace E:=hdq he;clear he hn;go_enter Tryz.func90,Tryz.ntmps90;go_wp2_with fail;have hE:=(xr w).alloc (.cells #[.int .i64 k,.int .i64 n,.slice A ks.length cap] 26);have hb:=(blk1 (xr (w.alloc (.cells #[.int .i64 k,.int .i64 n,.slice A ks.length cap] 26)))).1;generalize w.alloc _=W at hE hb;obtain⟨y0,y1,y2⟩:=j26.own3 hb;have B1:=hdq hb;clear hb;refine y16 (by kernel_rfl) (by kernel_rfl) ?_
 repeat (go_big_quiet_step (first|(go_at_call 89;exact j13 (q32 _ _)) |(go_at_call 127;exact j13 (y56 _ _))))
 refine wpQuiet_nil ?_;intro w3 hw';obtain⟨⟨_,h3⟩,rfl⟩:=hw';clear y0 y1 y2;have ix:=hE.trans h3;obtain⟨z0,z1,z2,-,-,-⟩:=own3 (h3.blk B1.out);have B3:=hdq (h3.blk B1.out);go_wp2_with fail;clear z0 z1 z2
 go_loopw [5] (fun i wr=> ∃j:Nat,j<=ks.length/\i= .int .i64 j/\q21 sigT ks (depth - 1)=q21 sigT (ks.drop j) (depth - 1)/\Ext w3 wr) (fun i _=> ks.length -(intOf i).toNat)
 case atStart=> exact⟨0,Nat.zero_le _,rfl,rfl,xr _⟩
 case round=>
  obtain⟨j,hj,rfl,F4,hx⟩:=hrel;have HE:=hdq F4;obtain⟨z0,z1,z2,-,-,-⟩:=own3 (hx.blk B3.out);clear F4;by_cases hlt:j < ks.length
  · obtain⟨b,o,k2,n2,A2,I7,kids,rfl,HK,c0,c1,c2,I6,G9,hK,j8,j6⟩:=h.get (ix.trans hx) hlt
    have l8:=List.drop_eq_getElem_cons hlt;rw[HK.out] at l8;have hst:q21 sigT (ks.drop j) (depth - 1)=(shape sigT (.mk k2 n2 kids) (depth - 1)&& q21 sigT (ks.drop (j+1)) (depth - 1)):=by rw[l8];conv=> lhs;unfold q21
    clear l8;go_wp2_with fail;refine(hk _ j6 wr _ (depth - 1) j8 (by omega) (by omega)).mono ?_;rintro e w4 ⟨rfl,h4⟩;generalize shape sigT (.mk k2 n2 kids) (depth - 1)=r at hst;have HT:=hdq hst;clear hst;cases r with
    |false=>
     go_wp2_with fail;go_ret;exact⟨by rw[E.out,HE.out,HT.out];rfl,ix.trans (hx.trans h4)⟩
    |true=>
     go_wp2_with fail
     go_roundw
     case rel=> exact⟨j+1,by omega,by go_num,by rw[HE.out,HT.out];rfl,hx.trans h4⟩
     case measure=> simp[intOf];omega
  · go_wp2_with fail
    go_ret;have hjk:ks.drop j= []:=List.drop_of_length_le (by omega);exact⟨by rw[E.out,HE.out,hjk];simp only[q21];rfl,ix.trans hx⟩
def q102(t:Tr):Prop:= ∀(w:World) (v:Value) (most:Int),Lies w t v->0<=most->most<=1000000->
 Calls Tryz.prog 91 #[v,.int .i64 most] w fun e w'=> e= .returned (.int .i64 (cntM t most))/\Ext w w'
theorem j114: ∀t:Tr,q102 t:=Tr.ind fun k n ks hk=> by
 intro w v most j8 Bw Ai;obtain⟨A,cap,rfl,hl,hc,h⟩:=Lies.mk_iff.1 j8;clear j8;have hc':=hc;unfold maxLen at hc';have e:cntM (.mk k n ks) most=q64 ks most 1:=by unfold cntM;rfl
 have E:=hdq e;clear e;go_enter Tryz.func91,Tryz.ntmps91;go_wp2_with fail;have hE:=(xr w).alloc (.cells #[.int .i64 k,.int .i64 n,.slice A ks.length cap] 26);have hb:=(blk1 (xr (w.alloc (.cells #[.int .i64 k,.int .i64 n,.slice A ks.length cap] 26)))).1;generalize w.alloc _=W at hE hb;have B1:=hdq hb;clear hb
 go_loopw [5,6] (fun q i wr=> ∃(j:Nat) (m:Int),j<=ks.length/\i= .int .i64 j/\q= .int .i64 m/\1<=m/\m<=most+1/\q64 ks most 1=q64 (ks.drop j) most m/\Ext W wr) (fun _ i _=> ks.length -(intOf i).toNat)
 case atStart=> exact⟨0,1,Nat.zero_le _,rfl,rfl,by omega,by omega,rfl,xr _⟩
 case round=>
  obtain⟨j,m,hj,rfl,rfl,bl,dw,F4,hx⟩:=hrel;have HE:=hdq F4;obtain⟨z0,z1,z2,-,-,-⟩:=own3 (hx.blk B1.out);clear F4;by_cases hlt:j < ks.length
  · have dl:decide ((j:Int) <(ks.length:Int))=true:=decide_eq_true (by omega)
    obtain⟨b,o,k2,n2,A2,I7,kids,rfl,HK,c0,c1,c2,I6,G9,hK,j8,j6⟩:=h.get (hE.trans hx) hlt;have l8:=List.drop_eq_getElem_cons hlt;rw[HK.out] at l8;have hst:q64 (ks.drop j) most m=if m<=most then q64 (ks.drop (j+1)) most (m+cntM (.mk k2 n2 kids) (most - m)) else m:=by rw[l8];conv=> lhs;unfold q64
    clear l8;by_cases hmm:m<=most
    · rw[if_pos hmm] at hst
      have HT:=hdq hst;have dm:decide (m<=most)=true:=decide_eq_true hmm;have hcm:=y110 (.mk k2 n2 kids) (most - m) (by omega);clear hst;go_wp2_with fail;refine(hk _ j6 wr _ (most - m) j8 (by omega) (by omega)).mono ?_;rintro e w4 ⟨rfl,h4⟩;generalize cntM (.mk k2 n2 kids) (most - m)=r at hcm HT;go_wp2_with fail
      go_roundw
      case rel=> exact⟨j+1,m+r,by omega,by go_num,rfl,by omega,by omega,by rw[HE.out,HT.out],hx.trans h4⟩
      case measure=> simp[intOf];omega
    · rw[if_neg hmm] at hst
      have HT:=hdq hst;have dm:decide (m<=most)=false:=decide_eq_false hmm;clear hst;go_wp2_with fail;go_ret;exact⟨by rw[E.out,HE.out,HT.out];rfl,hE.trans hx⟩
  · have dl:decide ((j:Int) <(ks.length:Int))=false:=decide_eq_false (by omega)
    go_wp2_with fail;go_ret;have hjk:ks.drop j= []:=List.drop_of_length_le (by omega);exact⟨by rw[E.out,HE.out,hjk];simp only[q64];rfl,hE.trans hx⟩
theorem j16(t:Tr)(w:World)(v:Value)(j8:Lies w t v):Calls Tryz.prog 23 #[v] w fun e w'=> e= .returned (.bool (valid sigT t))/\Ext w w':=by
 obtain⟨k,n,ks⟩:=t;obtain⟨A,cap,rfl,hl,hc,h⟩:=Lies.mk_iff.1 j8;have hs:=(y135 sigT (.mk k n ks)).1;have HS:=hdq hs;clear hs;go_enter Tryz.func23,Tryz.ntmps23;go_wp2_with fail;have hE:=((xr w).alloc (.cells #[.int .i64 k,.int .i64 n,.slice A ks.length cap] 26)).alloc (.cells #[.int .i64 0] 3);have hb:=(blk2 (xr ((w.alloc (.cells #[.int .i64 k,.int .i64 n,.slice A ks.length cap] 26)).alloc (.cells #[.int .i64 0] 3)))).2.1;refine(j122 (.mk k n ks) _ w.heap.size _ _ 1 0 (InT.mono (fun _ h=> h) (fun b hb=> hE.heap b hb) j8) (by omega) hb (by omega) (by omega) (by omega) (by omega)).mono ?_;rintro e w1 ⟨rfl,-,h1⟩;have hx:Ext w w1:=Below.trans hE h1;rw[HS.out];go_wp2_with fail;go_ret;exact⟨rfl,hx⟩
theorem q108(t:Tr)(w:World)(v:Value)(j8:Lies w t v):Calls Tryz.prog 62 #[v] w fun e w'=> e= .returned (.bool (valid sigT t))/\Ext w w':=by
 have hv:=q194 (g:=sigT) (t:=t);have hm:=y110 t 400 (by omega);have hS:=fun W (hW:Ext w W)=> y115 t W v 30 (j8.ext hW) (by omega) (by omega)
 have hC:=fun W (hW:Ext w W)=> j114 t W v 400 (j8.ext hW) (by omega) (by omega)
 have HS:=hdq hS;have HC:=hdq hC;clear hS hC;obtain⟨k,n,ks⟩:=t;obtain⟨A,cap,rfl,hl,hc,h⟩:=Lies.mk_iff.1 j8;go_enter Tryz.func62,Tryz.ntmps62;go_wp2_with fail;refine(HS.out _ ((xr w).alloc _)).mono ?_;rintro e w1 ⟨rfl,h1⟩;obtain⟨y0,y1,y2,-,-,-⟩:=own3 h1.newBlk;generalize shape sigT (.mk k n ks) 30=s at hv;cases s with
 |false=>
  have HV:=hdq hv;clear hv hm;go_wp2_with fail;go_ret;exact⟨by rw[HV.out];rfl,h1.pre⟩
 |true=>
  have HV:=hdq hv;clear hv hm;go_wp2_with fail;refine(HC.out _ h1.pre).mono ?_;rintro e w2 ⟨rfl,h2⟩;go_wp2_with fail
  all_goals go_ret
  all_goals exact⟨by rw[HV.out];simp[*],h1.pre.trans h2⟩
end Go.Proofs.YtbnkbepgmenblaaGreatDoor
