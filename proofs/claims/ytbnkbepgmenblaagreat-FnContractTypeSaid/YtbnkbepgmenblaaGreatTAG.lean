/-
  Lemmas towards the law, 7: Any, SpecValid, Extract, Draw, Free, DrawFun, Own, Copy, Fvs, Ints, SpExtract.
-/
import Derived.Test.YtbnkbepgmenblaaGreatTAF
import Derived.Deep.DrawnRows
import Derived.Deep.RegionLaw
import Derived.Laws.BitsAllLaws
set_option linter.unusedVariables false
set_option maxHeartbeats 2000000
set_option maxRecDepth 100000
namespace Go.Proofs.YtbnkbepgmenblaaGreat
open Go.RowKit
def j50(p:Tr->Bool):List Tr->Nat->Int
 | [],_=> -1
 |t::ts,j=> if p t=true then(j:Int) else j50 p ts (j+1)
theorem q94(p:Tr->Bool): ∀(ts:List Tr) (j:Nat),decide (0<=j50 p ts j)=ts.any p
 | [],j=> by simp[j50]
 |t::ts,j=> by
  unfold j50;cases h:p t
  · simp[h,q94 p ts (j+1)]
  · simp[h]
theorem j25(k:Int)(w:World):Calls Tryz.prog 174 #[.int .i64 k] w fun e w'=> e= .returned (.int .i64 (opsT k))/\w=w':=by
 by_cases h:1<=k/\k<=16
 · rcases(by omega:k=1\/k=2\/k=3\/k=4\/k=5\/k=6\/k=7\/k=8\/k=9\/k=10\/k=11\/k=12\/k=13\/k=14\/k=15\/k=16) with rfl|rfl|rfl|rfl|rfl|rfl|rfl|rfl|rfl|rfl|rfl|rfl|rfl|rfl|rfl|rfl
   all_goals
    go_enter Tryz.func174,Tryz.ntmps174;go_wp2_with fail;go_ret;exact⟨rfl,rfl⟩
 · have e:opsT k= -1:=by
    unfold opsT
    repeat rw[if_neg (by omega)]
   have f1:(k==1)=false:=by simp;omega
   have f2:(k==2)=false:=by simp;omega
   have f3:(k==3)=false:=by simp;omega
   have f4:(k==4)=false:=by simp;omega
   have f5:(k==5)=false:=by simp;omega
   have f6:(k==6)=false:=by simp;omega
   have f7:(k==7)=false:=by simp;omega
   have f8:(k==8)=false:=by simp;omega
   have f9:(k==9)=false:=by simp;omega
   have f10:(k==10)=false:=by simp;omega
   have f11:(k==11)=false:=by simp;omega
   have f12:(k==12)=false:=by simp;omega
   have f13:(k==13)=false:=by simp;omega
   have f14:(k==14)=false:=by simp;omega
   have f15:(k==15)=false:=by simp;omega
   have f16:(k==16)=false:=by simp;omega
   have E:=hdq e;clear e h;go_enter Tryz.func174,Tryz.ntmps174;go_wp2_with fail;go_ret;exact⟨by rw[E.out];rfl,rfl⟩
theorem q45(k:Int)(w:World):Calls Tryz.prog 173 #[.int .i64 k] w fun e w'=> e= .returned (.int .i64 (q33 k))/\w=w':=by
 by_cases h:1<=k/\k<=2
 · rcases(by omega:k=1\/k=2) with rfl|rfl
   all_goals
    go_enter Tryz.func173,Tryz.ntmps173;go_wp2_with fail;go_ret;exact⟨rfl,rfl⟩
 · have e:q33 k=0:=by
    unfold q33
    repeat rw[if_neg (by omega)]
   have f1:(k==1)=false:=by simp;omega
   have f2:(k==2)=false:=by simp;omega
   have E:=hdq e;clear e h;go_enter Tryz.func173,Tryz.ntmps173;go_wp2_with fail;go_ret;exact⟨by rw[E.out];rfl,rfl⟩
def j108(t:Tr):Prop:= ∀(w:World) (v:Value) (depth:Int),Lies w t v-> -1<=depth->depth<=40->
 Calls Tryz.prog 135 #[v,.int .i64 depth] w fun e w'=> e= .returned (.bool (shape sigT t depth))/\Ext w w'
theorem j119: ∀t:Tr,j108 t:=Tr.ind fun k n ks hk=> by
 intro w v depth j7 mq uj;obtain⟨A,cap,rfl,hl,hc,h⟩:=Lies.mk_iff.1 j7;clear j7;have hc':=hc;unfold maxLen at hc';have e:shape sigT (.mk k n ks) depth=(decide (1<=depth)&&(decide (opsT k=(ks.length:Int))&& inR n 0 (q33 k)&& q24 sigT ks (depth - 1))):=by
  unfold shape q88;rfl
 have E:=hdq e;clear e;by_cases a1:depth < 1
 · have he:shape sigT (.mk k n ks) depth=false:=by
    rw[E.out];rw[decide_eq_false (by omega: ¬1<=depth)];rfl
   replace E:=hdq he;clear he;have d1:decide (depth < 1)=true:=decide_eq_true a1;go_enter Tryz.func135,Tryz.ntmps135;go_wp2_with fail;have hE:=(xr w).alloc (.cells #[.int .i64 k,.int .i64 n,.slice A ks.length cap] 25);have hb:=(blk1 (xr (w.alloc (.cells #[.int .i64 k,.int .i64 n,.slice A ks.length cap] 25)))).1;generalize w.alloc _=W at hE hb;obtain⟨y0,y1,y2⟩:=y33.own3 hb;have B1:=hdq hb;clear hb;refine j17 (by kernel_rfl) (by kernel_rfl) ?_
   repeat (go_big_quiet_step (first|(go_at_call 174;exact q15 (j25 _ _)) |(go_at_call 173;exact q15 (q45 _ _))))
   refine wpQuiet_nil ?_;intro w3 hw';obtain⟨⟨_,h3⟩,rfl⟩:=hw';clear y0 y1 y2;have zk:=hE.trans h3;go_wp2_with fail;go_ret;exact⟨by rw[E.out];rfl,zk⟩
 have d1:decide (depth < 1)=false:=decide_eq_false a1;by_cases a2: ¬opsT k=(ks.length:Int)
 · have he:shape sigT (.mk k n ks) depth=false:=by
    rw[E.out];rw[decide_eq_false a2];simp
   replace E:=hdq he;clear he;have d2:(opsT k !=(ks.length:Int))=true:=by rw[bne_iff_ne];exact a2
   go_enter Tryz.func135,Tryz.ntmps135;go_wp2_with fail;have hE:=(xr w).alloc (.cells #[.int .i64 k,.int .i64 n,.slice A ks.length cap] 25);have hb:=(blk1 (xr (w.alloc (.cells #[.int .i64 k,.int .i64 n,.slice A ks.length cap] 25)))).1;generalize w.alloc _=W at hE hb;obtain⟨y0,y1,y2⟩:=y33.own3 hb;have B1:=hdq hb;clear hb;refine j17 (by kernel_rfl) (by kernel_rfl) ?_
   repeat (go_big_quiet_step (first|(go_at_call 174;exact q15 (j25 _ _)) |(go_at_call 173;exact q15 (q45 _ _))))
   refine wpQuiet_nil ?_;intro w3 hw';obtain⟨⟨_,h3⟩,rfl⟩:=hw';clear y0 y1 y2;have zk:=hE.trans h3;go_wp2_with fail;go_ret;exact⟨by rw[E.out];rfl,zk⟩
 have d2:(opsT k !=(ks.length:Int))=false:=by simpa using a2
 by_cases a3:n < 0
 · have he:shape sigT (.mk k n ks) depth=false:=by
    rw[E.out];rw[j60.2 (.inl a3)];simp
   replace E:=hdq he;clear he;have d3:decide (n < 0)=true:=decide_eq_true a3;go_enter Tryz.func135,Tryz.ntmps135;go_wp2_with fail;have hE:=(xr w).alloc (.cells #[.int .i64 k,.int .i64 n,.slice A ks.length cap] 25);have hb:=(blk1 (xr (w.alloc (.cells #[.int .i64 k,.int .i64 n,.slice A ks.length cap] 25)))).1;generalize w.alloc _=W at hE hb;obtain⟨y0,y1,y2⟩:=y33.own3 hb;have B1:=hdq hb;clear hb;refine j17 (by kernel_rfl) (by kernel_rfl) ?_
   repeat (go_big_quiet_step (first|(go_at_call 174;exact q15 (j25 _ _)) |(go_at_call 173;exact q15 (q45 _ _))))
   refine wpQuiet_nil ?_;intro w3 hw';obtain⟨⟨_,h3⟩,rfl⟩:=hw';clear y0 y1 y2;have zk:=hE.trans h3;go_wp2_with fail;go_ret;exact⟨by rw[E.out];rfl,zk⟩
 have d3:decide (n < 0)=false:=decide_eq_false a3;by_cases a4:q33 k < n
 · have he:shape sigT (.mk k n ks) depth=false:=by
    rw[E.out];rw[j60.2 (.inr a4)];simp
   replace E:=hdq he;clear he;have d4:decide (q33 k < n)=true:=decide_eq_true a4;go_enter Tryz.func135,Tryz.ntmps135;go_wp2_with fail;have hE:=(xr w).alloc (.cells #[.int .i64 k,.int .i64 n,.slice A ks.length cap] 25);have hb:=(blk1 (xr (w.alloc (.cells #[.int .i64 k,.int .i64 n,.slice A ks.length cap] 25)))).1;generalize w.alloc _=W at hE hb;obtain⟨y0,y1,y2⟩:=y33.own3 hb;have B1:=hdq hb;clear hb;refine j17 (by kernel_rfl) (by kernel_rfl) ?_
   repeat (go_big_quiet_step (first|(go_at_call 174;exact q15 (j25 _ _)) |(go_at_call 173;exact q15 (q45 _ _))))
   refine wpQuiet_nil ?_;intro w3 hw';obtain⟨⟨_,h3⟩,rfl⟩:=hw';clear y0 y1 y2;have zk:=hE.trans h3;go_wp2_with fail;go_ret;exact⟨by rw[E.out];rfl,zk⟩
 have d4:decide (q33 k < n)=false:=decide_eq_false a4;have hn:inR n 0 (q33 k)=true:=y39.2 ⟨by omega,by omega⟩;have he:shape sigT (.mk k n ks) depth=q24 sigT ks (depth - 1):=by
  rw[E.out,decide_eq_true (by omega:1<=depth),decide_eq_true (by omega:opsT k=(ks.length:Int)),hn];rfl
 replace E:=hdq he;clear he hn;go_enter Tryz.func135,Tryz.ntmps135;go_wp2_with fail;have hE:=(xr w).alloc (.cells #[.int .i64 k,.int .i64 n,.slice A ks.length cap] 25);have hb:=(blk1 (xr (w.alloc (.cells #[.int .i64 k,.int .i64 n,.slice A ks.length cap] 25)))).1;generalize w.alloc _=W at hE hb;obtain⟨y0,y1,y2⟩:=y33.own3 hb;have B1:=hdq hb;clear hb;refine j17 (by kernel_rfl) (by kernel_rfl) ?_
 repeat (go_big_quiet_step (first|(go_at_call 174;exact q15 (j25 _ _)) |(go_at_call 173;exact q15 (q45 _ _))))
 refine wpQuiet_nil ?_;intro w3 hw';obtain⟨⟨_,h3⟩,rfl⟩:=hw';clear y0 y1 y2;have zk:=hE.trans h3;obtain⟨z0,z1,z2,-,-,-⟩:=own3 (h3.blk B1.out);have B3:=hdq (h3.blk B1.out);go_wp2_with fail;clear z0 z1 z2
 go_loopw [5] (fun i wr=> ∃j:Nat,j<=ks.length/\i= .int .i64 j/\q24 sigT ks (depth - 1)=q24 sigT (ks.drop j) (depth - 1)/\Ext w3 wr) (fun i _=> ks.length -(intOf i).toNat)
 case atStart=> exact⟨0,Nat.zero_le _,rfl,rfl,xr _⟩
 case round=>
  obtain⟨j,hj,rfl,dv,hx⟩:=hrel;have HE:=hdq dv;obtain⟨z0,z1,z2,-,-,-⟩:=own3 (hx.blk B3.out);clear dv;by_cases hlt:j < ks.length
  · obtain⟨b,o,k2,n2,A2,M3,kids,rfl,HK,c0,c1,c2,K8,L6,hK,j7,j5⟩:=h.get (zk.trans hx) hlt
    have p9:=List.drop_eq_getElem_cons hlt;rw[HK.out] at p9;have hst:q24 sigT (ks.drop j) (depth - 1)=(shape sigT (.mk k2 n2 kids) (depth - 1)&& q24 sigT (ks.drop (j+1)) (depth - 1)):=by rw[p9];conv=> lhs;unfold q24
    clear p9;go_wp2_with fail;refine(hk _ j5 wr _ (depth - 1) j7 (by omega) (by omega)).mono ?_;rintro e w4 ⟨rfl,h4⟩;generalize shape sigT (.mk k2 n2 kids) (depth - 1)=r at hst;have HT:=hdq hst;clear hst;cases r with
    |false=>
     go_wp2_with fail;go_ret;exact⟨by rw[E.out,HE.out,HT.out];rfl,zk.trans (hx.trans h4)⟩
    |true=>
     go_wp2_with fail
     go_roundw
     case rel=> exact⟨j+1,by omega,by go_num,by rw[HE.out,HT.out];rfl,hx.trans h4⟩
     case measure=> simp[intOf];omega
  · go_wp2_with fail
    go_ret;have hjk:ks.drop j= []:=List.drop_of_length_le (by omega);exact⟨by rw[E.out,HE.out,hjk];simp only[q24];rfl,zk.trans hx⟩
def y110(t:Tr):Prop:= ∀(w:World) (v:Value) (most:Int),Lies w t v->0<=most->most<=1000000->
 Calls Tryz.prog 136 #[v,.int .i64 most] w fun e w'=> e= .returned (.int .i64 (cntM t most))/\Ext w w'
theorem y120: ∀t:Tr,y110 t:=Tr.ind fun k n ks hk=> by
 intro w v most j7 Ya Uf;obtain⟨A,cap,rfl,hl,hc,h⟩:=Lies.mk_iff.1 j7;clear j7;have hc':=hc;unfold maxLen at hc';have e:cntM (.mk k n ks) most=y74 ks most 1:=by unfold cntM;rfl
 have E:=hdq e;clear e;go_enter Tryz.func136,Tryz.ntmps136;go_wp2_with fail;have hE:=(xr w).alloc (.cells #[.int .i64 k,.int .i64 n,.slice A ks.length cap] 25);have hb:=(blk1 (xr (w.alloc (.cells #[.int .i64 k,.int .i64 n,.slice A ks.length cap] 25)))).1;generalize w.alloc _=W at hE hb;have B1:=hdq hb;clear hb
 go_loopw [5,6] (fun q i wr=> ∃(j:Nat) (m:Int),j<=ks.length/\i= .int .i64 j/\q= .int .i64 m/\1<=m/\m<=most+1/\y74 ks most 1=y74 (ks.drop j) most m/\Ext W wr) (fun _ i _=> ks.length -(intOf i).toNat)
 case atStart=> exact⟨0,1,Nat.zero_le _,rfl,rfl,by omega,by omega,rfl,xr _⟩
 case round=>
  obtain⟨j,m,hj,rfl,rfl,uq,Bi,dv,hx⟩:=hrel;have HE:=hdq dv;obtain⟨z0,z1,z2,-,-,-⟩:=own3 (hx.blk B1.out);clear dv;by_cases hlt:j < ks.length
  · have dl:decide ((j:Int) <(ks.length:Int))=true:=decide_eq_true (by omega)
    obtain⟨b,o,k2,n2,A2,M3,kids,rfl,HK,c0,c1,c2,K8,L6,hK,j7,j5⟩:=h.get (hE.trans hx) hlt;have p9:=List.drop_eq_getElem_cons hlt;rw[HK.out] at p9;have hst:y74 (ks.drop j) most m=if m<=most then y74 (ks.drop (j+1)) most (m+cntM (.mk k2 n2 kids) (most - m)) else m:=by rw[p9];conv=> lhs;unfold y74
    clear p9;by_cases hmm:m<=most
    · rw[if_pos hmm] at hst
      have HT:=hdq hst;have dm:decide (m<=most)=true:=decide_eq_true hmm;have hcm:=q123 (.mk k2 n2 kids) (most - m) (by omega);clear hst;go_wp2_with fail;refine(hk _ j5 wr _ (most - m) j7 (by omega) (by omega)).mono ?_;rintro e w4 ⟨rfl,h4⟩;generalize cntM (.mk k2 n2 kids) (most - m)=r at hcm HT;go_wp2_with fail
      go_roundw
      case rel=> exact⟨j+1,m+r,by omega,by go_num,rfl,by omega,by omega,by rw[HE.out,HT.out],hx.trans h4⟩
      case measure=> simp[intOf];omega
    · rw[if_neg hmm] at hst
      have HT:=hdq hst;have dm:decide (m<=most)=false:=decide_eq_false hmm;clear hst;go_wp2_with fail;go_ret;exact⟨by rw[E.out,HE.out,HT.out];rfl,hE.trans hx⟩
  · have dl:decide ((j:Int) <(ks.length:Int))=false:=decide_eq_false (by omega)
    go_wp2_with fail;go_ret;have hjk:ks.drop j= []:=List.drop_of_length_le (by omega);exact⟨by rw[E.out,HE.out,hjk];simp only[y74];rfl,hE.trans hx⟩
theorem y20(t:Tr)(w:World)(v:Value)(j7:Lies w t v):Calls Tryz.prog 26 #[v] w fun e w'=> e= .returned (.bool (valid sigT t))/\Ext w w':=by
 obtain⟨k,n,ks⟩:=t;obtain⟨A,cap,rfl,hl,hc,h⟩:=Lies.mk_iff.1 j7;have hs:=(j141 sigT (.mk k n ks)).1;have HS:=hdq hs;clear hs;go_enter Tryz.func26,Tryz.ntmps26;go_wp2_with fail;have hE:=((xr w).alloc (.cells #[.int .i64 k,.int .i64 n,.slice A ks.length cap] 25)).alloc (.cells #[.int .i64 0] 3);have hb:=(blk2 (xr ((w.alloc (.cells #[.int .i64 k,.int .i64 n,.slice A ks.length cap] 25)).alloc (.cells #[.int .i64 0] 3)))).2.1;refine(y136 (.mk k n ks) _ w.heap.size _ _ 1 0 (InT.mono (fun _ h=> h) (fun b hb=> hE.heap b hb) j7) (by omega) hb (by omega) (by omega) (by omega) (by omega)).mono ?_;rintro e w1 ⟨rfl,-,h1⟩;have hx:Ext w w1:=Below.trans hE h1;rw[HS.out];go_wp2_with fail;go_ret;exact⟨rfl,hx⟩
theorem q28(t:Tr)(w:World)(v:Value)(j7:Lies w t v):Calls Tryz.prog 84 #[v] w fun e w'=> e= .returned (.bool (valid sigT t))/\Ext w w':=by
 have hv:=q192 (g:=sigT) (t:=t);have hm:=q123 t 400 (by omega);have hS:=fun W (hW:Ext w W)=> j119 t W v 30 (j7.ext hW) (by omega) (by omega)
 have hC:=fun W (hW:Ext w W)=> y120 t W v 400 (j7.ext hW) (by omega) (by omega)
 have HS:=hdq hS;have HC:=hdq hC;clear hS hC;obtain⟨k,n,ks⟩:=t;obtain⟨A,cap,rfl,hl,hc,h⟩:=Lies.mk_iff.1 j7;go_enter Tryz.func84,Tryz.ntmps84;go_wp2_with fail;refine(HS.out _ ((xr w).alloc _)).mono ?_;rintro e w1 ⟨rfl,h1⟩;obtain⟨y0,y1,y2,-,-,-⟩:=own3 h1.newBlk;generalize shape sigT (.mk k n ks) 30=s at hv;cases s with
 |false=>
  have HV:=hdq hv;clear hv hm;go_wp2_with fail;go_ret;exact⟨by rw[HV.out];rfl,h1.pre⟩
 |true=>
  have HV:=hdq hv;clear hv hm;go_wp2_with fail;refine(HC.out _ h1.pre).mono ?_;rintro e w2 ⟨rfl,h2⟩;go_wp2_with fail
  all_goals go_ret
  all_goals exact⟨by rw[HV.out];simp[*],h1.pre.trans h2⟩
theorem q113{g:Sig}: ∀{ks:List Tr} {d:Int} {t:Tr},q24 g ks d=true->t∈ks->shape g t d=true
 |x::ks,d,t,h,hm=> by
  simp only[q24,Bool.and_eq_true] at h;rcases List.mem_cons.1 hm with rfl|hm
  · exact h.1
  · exact q113 h.2 hm
theorem q25{g:Sig}{k n:Int}{ks:List Tr}{d:Int}(h:shape g (.mk k n ks) d=true):g.ops k=(ks.length:Int)/\0<=n/\n<=g.most k/\ ∀t∈ks,shape g t (d - 1)=true:=by
 simp only[shape,q88,Bool.and_eq_true] at h;have h1:=of_decide_eq_true h.2.1.1;have h2:=y39.1 h.2.1.2;exact⟨h1,h2.1,h2.2,fun t ht=> q113 h.2.2 ht⟩
theorem Ext.below{W a w:World}(h:Ext a w)(hW:W.heap.size<=a.heap.size):Below W.heap.size a w:=⟨h.os,h.tape,h.output,h.size,fun b hb=> h.heap b (Nat.lt_of_lt_of_le hb hW)⟩
theorem Ext.trans'{W a b c:World}(h:Ext a b)(k:Below W.heap.size b c)(hW:a.heap.size<=W.heap.size):Ext a c:=Below.trans h (Below.mono k hW)
theorem Made.three'{w w':World}{e:TypeId}{t:Tr}{u:Value}(h:Made w w' e t u): ∃k n A l c,u= .agg #[.int .i64 k,.int .i64 n,.slice A l c]:=by
 obtain⟨k,n,ks⟩:=t;obtain⟨A,cap,rfl,_⟩:=Made.mk_iff.1 h;exact⟨k,n,A,_,cap,rfl⟩
attribute [local go_sem ↓] Go.wp_at_zero Go.wp_at_succ
end Go.Proofs.YtbnkbepgmenblaaGreat
namespace Go.Proofs.YtbnkbepgmenblaaGreat
open Go.RowKit Go.ChangeShapes Go.WideShapes Go.Deep
def q59(w:World)(B:Nat)(A:Option Addr)(ns:List Int):Prop:=ns= []\/ ∃b o,A=some ⟨b,o,none⟩/\b < B/\b < w.heap.size/\ ∀j (h:j < ns.length),w.cell? ⟨b,o+j,none⟩=some (.int .u8 ns[j])/\0<=ns[j]/\ns[j] < 256
theorem q59.below{w w':World}{B:Nat}{A:Option Addr}{ns:List Int}(h:q59 w B A ns)(hs:w.heap.size<=w'.heap.size)(he: ∀b,b < B->b < w.heap.size->w'.heap[b]? =w.heap[b]?):q59 w' B A ns:=by
 rcases h with h|⟨b,o,rfl,hb,hs',hc⟩
 · exact .inl h
 · exact .inr ⟨b,o,rfl,hb,by omega,fun j hj=>⟨(World.cell?_of_block (w:=w) (a:=⟨b,o+j,none⟩) (he b hb hs')).trans (hc j hj).1,(hc j hj).2⟩⟩
theorem q59.ext{w w':World}{B:Nat}{A:Option Addr}{ns:List Int}(h:q59 w B A ns)(he:Ext w w'):q59 w' B A ns:=h.below he.size (fun b _ hb=> he.heap b hb)
theorem q59.mono{w:World}{B B':Nat}{A:Option Addr}{ns:List Int}(h:q59 w B A ns)(hB:B<=B'):q59 w B' A ns:=by
 rcases h with h|⟨b,o,rfl,hb,r⟩
 · exact .inl h
 · exact .inr ⟨b,o,rfl,by omega,r⟩
theorem q59.take{w:World}{B:Nat}{A:Option Addr}{ns:List Int}(h:q59 w B A ns)(n:Nat):q59 w B A (ns.take n):=by
 rcases h with rfl|⟨b,o,rfl,hb,hs,hc⟩
 · exact .inl (by simp)
 · refine .inr ⟨b,o,rfl,hb,hs,fun j hj=> ?_⟩
   rw[List.length_take] at hj;rw[List.getElem_take];exact hc j (by omega)
section
variable {H : Type} {enc : TypeId × Value → H} {P : Program} {w : World} {spare : Nat → Bool} {held : Bool}
theorem j165{s i:TypeId}(hs:P.underlying s=some (.slice i))(hi:P.underlying i=some (.int .u8))(ci:P.cellsOf i=1){r:Reach}{b0:Nat}{v:Value}{d:DataW H}{p:List MemPlace}(hv:Value.okWide P w r b0 s v)(h:DataW.Trod enc P w 0 spare held s v d p):
 ∃(A:Option Addr) (cap:Nat) (ns:List Int),v= .slice A ns.length cap/\ns.length<=cap/\cap<=maxLen/\q59 w w.heap.size A ns/\(A=none->cap=0):=by
 obtain⟨a0,len0,C7,rfl⟩:=okWide_slice hs hv;obtain⟨fuel,hf⟩:=h;rcases DataW.trod_slice hs hf with⟨hcs,_⟩ |⟨a,len,cap,elems,rest,n,rfl,hcs,_,_,hl,hm,hlen,Hb,_,_⟩
 · simp only[Value.cells,List.cons.injEq,and_true] at hcs
   exact⟨none,0, [],hcs,Nat.le_refl _,Nat.zero_le _,.inl rfl,fun _=> rfl⟩
 · have ww: ∀j,j < len-> ∃x:Int,w.cell? (a.add j)=some (.int .u8 x)/\0<=x/\x < 256:=by
    intro j hj;have hj':=Hb j hj;rw[List.getElem?_eq_getElem (by omega)] at hj';obtain⟨cs',h1,h2⟩:=Option.bind_eq_some_iff.1 hj';obtain⟨x,rfl,_,hwf⟩:=DataW.trod_int hi h2;obtain⟨_,_,hcell⟩:=World.cells?_some h1;rw[ci] at hcell;have q0:=hcell 0 (by omega);rw[Nat.mul_one] at q0;have e0: ∀y:Addr,y.add 0=y:=fun y=> by simp[Addr.add]
    rw[e0] at q0;simp[Lit.wf,IntKind.min,IntKind.max,IntKind.signed,IntKind.bits] at hwf
    exact⟨x,q0,by omega,by omega⟩
   obtain⟨ns,Cg,hp⟩:=j54 len ww;subst Cg;simp only[Value.cells,List.cons.injEq,and_true] at hcs;refine⟨some a,cap,ns,hcs,hl,hm, ?_,fun h=> by cases h⟩;cases ns with
   |nil=> exact .inl rfl
   |cons t0 ts=>
    obtain⟨b,o,spot⟩:=a;have hlt:b < w.heap.size/\spot=none:=by
     have q0:=(hp 0 (by simp)).1;have e0:(⟨b,o,spot⟩:Addr).add 0=⟨b,o,spot⟩:=by simp[Addr.add]
     rw[e0] at q0;exact⟨World.block_lt_of_cell? _ _ q0,by simpa using World.cell?_spot q0⟩
    obtain⟨hlt,rfl⟩:=hlt;refine .inr ⟨b,o,rfl,hlt,hlt,fun j hj=> ?_⟩;have q0:=hp j hj;rw[j71] at q0;exact q0
end
theorem q124(a b:Int)(h1:0<=a)(h2:a < 4611686018427387904)(h3:0<=b)(h4:b < 4611686018427387904):0<=bits .xor .i64 a b/\bits .xor .i64 a b < 4611686018427387904:=by
 obtain⟨x,rfl⟩:=Int.eq_ofNat_of_zero_le h1;obtain⟨y,rfl⟩:=Int.eq_ofNat_of_zero_le h3;have hx:x ^^^ y < 2 ^ 62:=Nat.xor_lt_two_pow (by omega) (by omega);have e:bits .xor .i64 (x:Int) (y:Int)=((x ^^^ y:Nat):Int):=by
  show IntKind.i64.wrap ((BitVec.ofInt 64 (x:Int)^^^ BitVec.ofInt 64 (y:Int)).toNat:Int)=_
  rw[BitVec.toNat_xor,ofInt_u64 x (by omega),ofInt_u64 y (by omega)];simp only[IntKind.wrap,IntKind.bits,IntKind.signed];simp
  omega
 rw[e];omega
def Rd(w:World)(g:Nat)(m:Nat):Prop:= ∃(A:Option Addr) (cap:Nat) (bs:List Int) (p:Nat),w.heap[g]? =some (.cells #[.slice A bs.length cap,.int .i64 p] 90 (0,0))/\bs.length<=cap/\cap<=maxLen/\bs.length<=2000/\p<=m/\q59 w g A bs
theorem Rd.drewN{w:World}{g m:Nat}(h:Rd w g m)(n:Nat):Rd (w.drewN n) g m:=by
 obtain⟨A,cap,bs,p,hb,h1,h2,h3,h4,hB⟩:=h;exact⟨A,cap,bs,p,hb,h1,h2,h3,h4,hB.below (Nat.le_refl _) (fun _ _ _=> rfl)⟩
theorem Only.drewN{L:List Nat}{a b:World}(h:Only L a b)(n:Nat):Only L a (b.drewN n):=⟨h.os,h.tape,h.output,h.size,h.block⟩
theorem own2{w:World}{g:Nat}{x0 x1:Value}{e:TypeId}(hb:w.heap[g]? =some (.cells #[x0,x1] e (0,0))):
 w.cell? ⟨g,0,none⟩=some x0/\w.cell? ⟨g,1,none⟩=some x1/\w.frozen? ⟨g,0,none⟩=false/\w.frozen? ⟨g,1,none⟩=false:=
 ⟨q10 hb 0,q10 hb 1,y13 hb 0,y13 hb 1⟩
theorem j23(w:World)(g m:Nat)(n:Int)(h:Rd w g m)(hm:m < 1125899906842624):Calls Tryz.prog 80 #[.pointer (some ⟨g,0,none⟩),.int .i64 n] w fun e w'=>
 ∃x:Int,e= .returned (.int .i64 x)/\0<=x/\(x=0\/x < n)/\Rd w' g (m+1)/\Only [g] w w':=by
 obtain⟨A,cap,bs,p,hb,hl,hc,h2,hp,hB⟩:=h;have hlt:=j10 hb;obtain⟨w1,i7⟩: ∃w1,w1=w.setCell ⟨g,1,none⟩ (.int .i64 ((p:Int)+1)):=⟨_,rfl⟩;have hb1:w1.heap[g]? =some (.cells #[.slice A bs.length cap,.int .i64 ((p:Int)+1)] 90 (0,0)):=i7▸j11 hb 1 _;have dh:Only [g] w w1:=i7▸(Only.refl _ _).setCell (by simp) _;have bw:q59 w1 g A bs:=hB.below dh.size (fun b hb hs=> dh.block b hs (by simp;omega));have hR:Rd w1 g (m+1):=⟨A,cap,bs,p+1,by simpa using hb1,hl,hc,h2,by omega,bw⟩;obtain⟨c0,c1,f0,f1⟩:=own2 hb;obtain⟨d0,d1,-,-⟩:=own2 hb1;have HB:=hdq hb;have Ez:=hdq hb1;have HR:=hdq hR;clear hb hb1 hR;by_cases hn:n < 1
 · have b1:decide (n < 1)=true:=decide_eq_true hn
   go_enter Tryz.func80,Tryz.ntmps80;go_wp2_with fail;rw[<-i7];go_ret;exact⟨0,rfl,Int.le_refl _,.inl rfl,HR.out,dh⟩
 have b1:decide (n < 1)=false:=decide_eq_false hn;by_cases hz:bs= []
 · subst hz
   go_enter Tryz.func80,Tryz.ntmps80;go_wp2_with fail;rw[<-i7];go_ret;exact⟨0,rfl,Int.le_refl _,.inl rfl,HR.out,dh⟩
 have hlen:0 < bs.length:=List.length_pos_iff.2 hz;rcases hB with hB|⟨bb,o,rfl,hbg,hbs',hcell⟩
 · exact absurd hB hz
 have b2:((bs.length:Int)==0)=false:=by rw[beq_eq_false_iff_ne];omega
 by_cases hk:p < bs.length
 · have b3:decide ((p:Int) <(bs.length:Int))=true:=decide_eq_true (by omega)
   obtain⟨cp,cp0,cp1⟩:=hcell p hk;generalize bs[p]=x at cp cp0 cp1;clear hcell;go_enter Tryz.func80,Tryz.ntmps80;go_wp2_with fail;rw[<-i7];go_ret;exact⟨_,rfl,Int.emod_nonneg _ (by omega),.inr (Int.emod_lt_of_pos _ (by omega)),HR.out,dh⟩
 · have b3:decide ((p:Int) <(bs.length:Int))=false:=decide_eq_false (by omega)
   obtain⟨r1,hr1⟩: ∃r1:Nat,r1=p % bs.length:=⟨_,rfl⟩;obtain⟨r2,hr2⟩: ∃r2:Nat,r2=(p*7+3) % bs.length:=⟨_,rfl⟩;have h1:r1 < bs.length:=hr1▸Nat.mod_lt _ hlen;have h2:r2 < bs.length:=hr2▸Nat.mod_lt _ hlen;have e1:((p:Int) % (bs.length:Int))=(r1:Int):=by rw[hr1];exact(Int.natCast_emod p bs.length).symm
   have e2:(((p:Int)*7+3) % (bs.length:Int))=(r2:Int):=by rw[hr2];rw[Int.natCast_emod];rfl
   obtain⟨d,hd⟩: ∃d:Nat,d=p / bs.length:=⟨_,rfl⟩;have h3:d<=p:=hd▸Nat.div_le_self _ _;have e3:((p:Int) /(bs.length:Int))=(d:Int):=by rw[hd];exact(Int.natCast_ediv p bs.length).symm
   obtain⟨cp,cp0,cp1⟩:=hcell r1 h1;obtain⟨cq,cq0,cq1⟩:=hcell r2 h2;generalize bs[r1]=x at cp cp0 cp1;generalize bs[r2]=y at cq cq0 cq1;clear hcell hr1 hr2 hd;go_enter Tryz.func80,Tryz.ntmps80;go_wp2_with fail;rw[<-i7]
   go_quiet (fail)
   obtain⟨z,hz⟩: ∃z:Int,z=x*131+y*1117+(p:Int)*29+(d:Int)*53:=⟨_,rfl⟩;rw[<-hz];have hz0:0<=z:=by omega
   have hz1:z < 4611686018427387904:=by omega
   have hx:=q124 z (z / 64) hz0 hz1 (by omega) (by omega);clear hz;generalize hq:bits .xor .i64 z (z / 64)=q at hx;go_wp2_with fail;rw[<-i7];go_ret;exact⟨_,rfl,Int.emod_nonneg _ (by omega),.inr (Int.emod_lt_of_pos _ (by omega)),HR.out.drewN _,dh.drewN _⟩
theorem q30(w:World)(g m:Nat)(h:Rd w g m)(hm:m < 1125899906842624)(A:Option Addr)(cap:Nat)(ns:List Int)(hl:ns.length<=cap)(hc:cap<=maxLen)(Cg:0 < ns.length)(hN:Nums w A ns)(hA: ∀b o,A=some ⟨b,o,none⟩->b≠g):Calls Tryz.prog 100 #[.pointer (some ⟨g,0,none⟩),.slice A ns.length cap] w fun e w'=>
 ∃x:Int,e= .returned (.int .i64 x)/\x∈ns/\Rd w' g (m+1)/\Only [g] w w':=by
 unfold maxLen at hc;rcases hN with hN|⟨b,o,rfl,hb,hcell⟩
 · subst hN
   cases Cg
 go_enter Tryz.func100,Tryz.ntmps100;go_wp2_with fail;refine(j23 w g m ns.length h hm).mono ?_;rintro e w1 ⟨i,rfl,h0,h1,hR,dh⟩;obtain⟨j,rfl⟩:=Int.eq_ofNat_of_zero_le h0;have hj:j < ns.length:=by omega
 have hcj:w1.cell? ⟨b,o+j,none⟩=some (.int .i64 ns[j]):=(World.cell?_of_block (w:=w) (a:=⟨b,o+j,none⟩) (dh.block b hb (by have:=hA b o rfl;simpa using this))).trans (hcell j hj);have j5:=List.getElem_mem hj;generalize ns[j]=x at hcj j5;clear hcell;go_wp2_with fail;go_ret;exact⟨x,rfl,j5,hR,dh⟩
theorem q142(w:World)(A:Option Addr)(cap:Nat)(bs:List Int)(hl:bs.length<=cap)(hc:cap<=maxLen)(hB:q59 w w.heap.size A bs):Calls Tryz.prog 46 #[.slice A bs.length cap] w fun e w'=>
 e= .returned (.pointer (some ⟨w.heap.size,0,none⟩))/\Rd w' w.heap.size 0/\Ext w w':=by
 have hc':=hc;unfold maxLen at hc;have hR: ∀(k:Nat) (c:Nat),k<=bs.length->k<=c->c<=maxLen->k<=2000->Rd (w.alloc (.cells #[.slice A k c,.int .i64 0] 90)) w.heap.size 0:=by
  intro k c h1 h2 h3 h4;have hk:(bs.take k).length=k:=by rw[List.length_take];omega
  refine⟨A,c,bs.take k,0, ?_,by omega,h3,by omega,Nat.le_refl _,(hB.take k).ext ((xr w).alloc _)⟩;rw[hk];exact heap_alloc_new w _
 by_cases h2:2000 < bs.length
 · have d:decide ((2000:Int) <(bs.length:Int))=true:=decide_eq_true (by omega)
   have R:=hR 2000 cap (by omega) (by omega) hc' (Nat.le_refl _);go_enter Tryz.func46,Tryz.ntmps46;go_wp2_with fail;go_ret;exact⟨rfl,R,(xr w).alloc _⟩
 · have d:decide ((2000:Int) <(bs.length:Int))=false:=decide_eq_false (by omega)
   have R:=hR bs.length cap (Nat.le_refl _) hl hc' (by omega);go_enter Tryz.func46,Tryz.ntmps46;go_wp2_with fail;go_ret;exact⟨rfl,R,(xr w).alloc _⟩
end Go.Proofs.YtbnkbepgmenblaaGreat
namespace Go.Proofs.YtbnkbepgmenblaaGreat
open Go.RowKit
def und(k:Int)(i:Nat):Int:=if i=1/\(k=3\/k=4\/k=13) then 1 else 0
theorem y86(k:Int)(i:Nat):0<=und k i/\und k i<=1:=by unfold und;split <;> omega
def isB(k:Int):Bool:=k==3||k==4||k==13
theorem und_eq(k:Int)(i:Nat):und k i=if((i:Int)==1 && isB k)=true then 1 else 0:=by
 unfold und isB;by_cases h:i=1
 · subst h
   by_cases h3:k=3
   · subst h3;rfl
   · by_cases h4:k=4
     · subst h4;rfl
     · by_cases S9:k=13
       · subst S9;rfl
       · rw[if_neg (by omega),if_neg (by simp[h3,h4,S9])]
 · rw[if_neg (by omega),if_neg (by rw[beq_eq_false_iff_ne.2 (by omega:(i:Int)≠1)];simp)]
theorem j12{g:Sig}{k n:Int}{ks:List Tr}{d:Int}(h:shape g (.mk k n ks) d=true):g.ops k=(ks.length:Int)/\0<=n/\n<=g.most k/\ ∀t∈ks,shape g t (d - 1)=true:=by
 have mem: ∀{ks:List Tr} {d:Int} {t:Tr},q24 g ks d=true->t∈ks->shape g t d=true:=by
  intro ks
  induction ks with
  |nil=> intro d t _ hm;cases hm
  |cons x ks ih=>
   intro d t h hm;simp only[q24,Bool.and_eq_true] at h;rcases List.mem_cons.1 hm with rfl|hm
   · exact h.1
   · exact ih h.2 hm
 simp only[shape,q88,Bool.and_eq_true] at h;have h1:=of_decide_eq_true h.2.1.1;have h2:=y39.1 h.2.1.2;exact⟨h1,h2.1,h2.2,fun t ht=> mem h.2.2 ht⟩
theorem y135(k:Int)(w:World):Calls Tryz.prog 151 #[.int .i64 k] w fun e w'=> e= .returned (.bool (isB k))/\w=w':=by
 obtain⟨b3,h3⟩: ∃b,(k==3)=b:=⟨_,rfl⟩;obtain⟨b4,h4⟩: ∃b,(k==4)=b:=⟨_,rfl⟩;obtain⟨Tp,S9⟩: ∃b,(k==13)=b:=⟨_,rfl⟩;have e:isB k=(b3||b4||Tp):=by unfold isB;rw[h3,h4,S9]
 have E:=hdq e;clear e;cases b3 <;> cases b4 <;> cases Tp
 all_goals go_enter Tryz.func151,Tryz.ntmps151
 all_goals go_wp2_with fail
 all_goals go_ret
 all_goals exact⟨by rw[E.out];rfl,rfl⟩
theorem j82(k:Int)(i:Nat)(w:World):Calls Tryz.prog 107 #[.int .i64 k,.int .i64 i] w fun e w'=> e= .returned (.int .i64 (und k i))/\w=w':=by
 obtain⟨b1,h1⟩: ∃b,((i:Int)==1)=b:=⟨_,rfl⟩;have HB:=hdq (y135 k);obtain⟨b2,h2⟩: ∃b,isB k=b:=⟨_,rfl⟩;have E:=hdq (und_eq k i);rw[h1,h2] at E;rw[h2] at HB;clear h2;cases b1 <;> cases b2
 all_goals go_enter Tryz.func107,Tryz.ntmps107
 all_goals go_wp2_with (go_at_call 151;refine(HB.out _).mono ?_;rintro e w1 ⟨rfl,rfl⟩)
 all_goals go_ret
 all_goals exact⟨by rw[E.out];rfl,rfl⟩
theorem y143(k:Int)(i:Nat)(w:World):Calls Tryz.prog 181 #[.int .i64 k,.int .i64 i] w fun e w'=> e= .returned (.bool ((i:Int)==1 && isB k))/\w=w':=by
 obtain⟨b1,h1⟩: ∃b,((i:Int)==1)=b:=⟨_,rfl⟩;obtain⟨b3,h3⟩: ∃b,(k==3)=b:=⟨_,rfl⟩;obtain⟨b4,h4⟩: ∃b,(k==4)=b:=⟨_,rfl⟩;obtain⟨Tp,S9⟩: ∃b,(k==13)=b:=⟨_,rfl⟩;have e:((i:Int)==1 && isB k)=(b1 &&(b3||b4||Tp)):=by unfold isB;rw[h1,h3,h4,S9]
 have E:=hdq e;clear e;cases b1 <;> cases b3 <;> cases b4 <;> cases Tp
 all_goals go_enter Tryz.func181,Tryz.ntmps181
 all_goals go_wp2_with fail
 all_goals go_ret
 all_goals exact⟨by rw[E.out];rfl,rfl⟩
theorem q100(k:Int)(i:Nat)(w:World):Calls Tryz.prog 148 #[.int .i64 k,.int .i64 i] w fun e w'=> e= .returned (.int .i64 (und k i))/\w=w':=by
 have HB:=hdq (y143 k i);have E:=hdq (und_eq k i);obtain⟨b2,h2⟩: ∃b,((i:Int)==1 && isB k)=b:=⟨_,rfl⟩;rw[h2] at E HB;clear h2;cases b2
 all_goals go_enter Tryz.func148,Tryz.ntmps148
 all_goals go_wp2_with (go_at_call 181;refine(HB.out _).mono ?_;rintro e w1 ⟨rfl,rfl⟩)
 all_goals go_ret
 all_goals exact⟨by rw[E.out];rfl,rfl⟩
theorem y12{g:Sig}{t:Tr}(h:valid g t=true):shape g t 30=true/\cnt t<=400:=by
 unfold valid at h;rw[Bool.and_eq_true] at h;exact⟨h.1,of_decide_eq_true h.2⟩
theorem y23{w:World}{g:Nat}{cs:Array Value}{e:TypeId}{ns:List Int}(hb:w.heap[g]? =some (.cells cs e (0,0)))(hc:cs.toList=ns.map (Value.int .i64)):Nums w (some ⟨g,0,none⟩) ns:=by
 refine .inr ⟨g,0,rfl,j10 hb,fun j hj=> ?_⟩;rw[q10 hb,<-Array.getElem?_toList,hc,Nat.zero_add,List.getElem?_map,List.getElem?_eq_getElem hj]
 rfl
theorem Rd.ext{w w':World}{g m:Nat}(h:Rd w g m)(he:Ext w w'):Rd w' g m:=by
 obtain⟨A,cap,bs,p,hb,h1,h2,h3,h4,hB⟩:=h;exact⟨A,cap,bs,p,he.blk hb,h1,h2,h3,h4,hB.ext he⟩
theorem Rd.lt{w:World}{g m:Nat}(h:Rd w g m):g < w.heap.size:=by
 obtain⟨A,cap,bs,p,hb,_⟩:=h;exact j10 hb
theorem Rd.mono{w:World}{g m m':Nat}(h:Rd w g m)(hm:m<=m'):Rd w g m':=by
 obtain⟨A,cap,bs,p,hb,h1,h2,h3,h4,hB⟩:=h;exact⟨A,cap,bs,p,hb,h1,h2,h3,by omega,hB⟩
def q187(W w:World)(e:TypeId)(v:Value)(ns:List Int):Prop:=w.ownsRow W.heap.size e 1 v ns.length (ns.map (Value.int .i64))
theorem q187.only{W w w':World}{e:TypeId}{v:Value}{ns:List Int}{L:List Nat}(h:q187 W w e v ns)(ho:Only L w w')(hL: ∀b,b∈L->b < W.heap.size):q187 W w' e v ns:=by
 refine⟨h.1, ?_⟩;rcases h.2 with h|⟨g,cap,cur,rfl,h1,h2,r⟩
 · exact .inl h
 · exact .inr ⟨g,cap,cur,rfl,h1,(ho.block g (j10 h2) (fun hm=> by have:=hL g hm;omega)).trans h2,r⟩
end Go.Proofs.YtbnkbepgmenblaaGreat
namespace Go.Proofs.YtbnkbepgmenblaaGreat
open Go.RowKit
attribute [local go_sem ↓] Go.wp_at_zero Go.wp_at_succ
def ownC(t:Tr):Prop:= ∀(w:World) (v:Value),Lies w t v->cnt t<=1000000->
 Calls Tryz.prog 60 #[v] w fun e w'=> ∃u,e= .returned u/\Made w w' 25 t u/\Ext w w'
theorem y198:(Tryz.prog.info? 25).map (fun i=>(i.zero,i.size,i.bytes))=some (some (.agg #[.int .i64 0,.int .i64 0,.slice none 0 0]),3,40):=by kernel_rfl
theorem q57: ∀t:Tr,ownC t:=Tr.ind fun k n ks hk=> by
 intro w v j7 U7;obtain⟨A,cap,rfl,hl,hc,hK⟩:=Lies.mk_iff.1 j7;obtain⟨i0,hi,hz0,hz1,hz2⟩:=info_parts y198;have hcc:=hc;unfold maxLen at hcc;simp only[cnt] at U7;have hlc:=y19 ks;go_enter Tryz.func60,Tryz.ntmps60;go_wp2_with fail;obtain⟨w1,i7⟩: ∃w1,w1=(w.alloc (.cells #[.int .i64 k,.int .i64 n,.slice A ks.length cap] 25)).alloc (.cells #[.int .i64 0,.int .i64 0,.slice none 0 0] 25):=⟨_,rfl⟩;obtain⟨W,hW⟩: ∃W,W=w1.alloc (.cells #[.int .i64 k,.int .i64 n,.slice none 0 0] 25):=⟨_,rfl⟩;have hs1:w1.heap.size=w.heap.size+1+1:=by rw[i7];simp
 have Eu:W.heap.size=w.heap.size+3:=by rw[hW];simp;omega
 have C6:Ext w w1:=i7▸((xr w).alloc _).alloc _;have I3:Ext w1 W:=hW▸(xr w1).alloc _;have F2:w1.heap[w.heap.size+1]? =some (.cells #[.int .i64 0,.int .i64 0,.slice none 0 0] 25 (0,0)):=by
  rw[i7];exact(blk2 (xr _)).2.1
 have ot:W.heap[w.heap.size+1+1]? =some (.cells #[.int .i64 k,.int .i64 n,.slice none 0 0] 25 (0,0)):=by
  have:=heap_alloc_new w1 (.cells #[.int .i64 k,.int .i64 n,.slice none 0 0] 25);rw[hs1] at this;rw[hW];exact this
 rw[<-i7,<-hW];clear hW i7
 go_loopw [14] (fun i wr=> ∃(j:Nat) (v:Value),j<=ks.length/\i= .int .i64 j/\wr.heap[w.heap.size+1+1]? =some (.cells #[.int .i64 k,.int .i64 n,v] 25 (0,0))/\Grow W wr 25 v (ks.take j)/\Ext w1 wr/\W.heap.size<=wr.heap.size) (fun i _=> ks.length -(intOf i).toNat)
 case atStart=> exact⟨0,_,Nat.zero_le _,rfl,ot,Grow.nil _ _ _,I3,Nat.le_refl _⟩
 case round=>
  obtain⟨j,v,hj,rfl,J9,hG,he,hle⟩:=hrel;by_cases hlt:j < ks.length
  · obtain⟨b,o,k',n',A',cap',kids,rfl,HK,c0,c1,c2,K8,L6,hK',D6,j5⟩:=hK.get (C6.trans he) hlt
    have L8:=List.take_append_getElem hlt;rw[HK.out] at L8;have hcm:=y15 j5;have hlen:(ks.take j).length < 1099511627776:=by rw[List.length_take];omega
    have Y2:(ks.take j).length=j:=by rw[List.length_take];omega
    have HL:=hdq Y2;go_wp2_with fail;have hx:=(xr wr).alloc (.cells #[.int .i64 k',.int .i64 n',.slice A' kids.length cap'] 25);have R6:=heap_alloc_new wr (.cells #[.int .i64 k',.int .i64 n',.slice A' kids.length cap'] 25);generalize wr.alloc _=w2 at hx R6;have R9:W.heap.size<=w2.heap.size:=by have:=hx.size;omega
    have N4:=hG.ext hx;have Y3:=hx.blk J9;have hv:=q10 Y3 2;have C8: ∀w',Below W.heap.size w2 w'->w'.heap[w.heap.size+1+1]? =some (.cells #[.int .i64 k,.int .i64 n,v] 25 (0,0)):=fun w' hB=>(hB.block (w.heap.size+1+1) (by omega)).trans Y3
    have p5:=hdq C8;obtain⟨d0,d1,d2,-,-,-⟩:=own3 R6;have D8:Ext w2 w2.drew:=(xr w2).drew;have dr:=(D6.ext hx).ext D8;have nt:=he.trans hx;clear C8 Y2 c0 c1 c2 J9 hG he hle hcc
    go_region_law (first|(go_simp;go_at_call 60;refine(hk _ j5 _ _ dr (by omega)).mono ?_;rintro e w4 ⟨u,rfl,hM,h4⟩;obtain⟨a1,a2,a3,a4,a5,rfl⟩:=hM.three';have hv4:=q10 (p5.out _ ((D8.trans h4).below R9)) 2;have jq:=World.block_lt_of_cell? _ _ hv4) |(refine q29 _ (by rfl) (.tmp 19) (.tmp 22) _ (by rfl) 25 i0 _ Tryz.underlying23 hi hz0 hz1 hz2 rfl (by rfl) N4 R9 (D8.trans h4) (hM.since (Nat.le_refl _)) ((xr _).alloc _) (by rfl) (heap_alloc_new _ _) hlen ?_;intro v' w5 G7 E6;obtain⟨B5,c5,rfl,q1,q2,-⟩:=G7.made;have gi:=q10 (p5.out _ E6) 2;have Er:=y13 (p5.out _ E6) 2))
    all_goals(
     have fh:Ext w1 w5:=nt.trans' E6 (by omega);have hs5:=E6.size;have G5:=p5.out _ E6;rw[List.length_append,List.length_singleton,L8,show(ks.take j).length+1=min (j+1) ks.length from by rw[List.length_take];omega] at G7;have rq:=fun u=> G7.after ((y25.refl W.heap.size w5).setCell (p:=⟨w.heap.size+1+1,2,none⟩) (by show w.heap.size+1+1 < W.heap.size;omega) u)
     clear hv4 jq hv p5 hM h4 d0 d1 d2 R6;go_wp2_with fail
     go_roundw
     case rel=> exact⟨j+1,_,by omega,by go_num,j11 G5 2 _,rq _,fh.setCell (by show _<=w.heap.size+1+1;omega) _,by simp;omega⟩
     case measure=> simp[intOf];omega)
  · obtain⟨B5,c5,rfl,q1,q2,ij⟩:=hG.made
    have M0:j=ks.length:=by omega
    have nk:(ks.take j).length=ks.length:=by rw[M0,List.take_length]
    obtain⟨r0,r1,r2,-,-,-⟩:=own3 J9;have Z6:=he.blk F2;obtain⟨s0,s1,s2,f0,f1,f2⟩:=own3 Z6;rw[nk] at q1 r2;rw[show ks.take j=ks from by rw[M0,List.take_length]] at ij;clear nk J9;go_wp2_with fail;refine bodyPost_ret (v:= .agg #[.int .i64 k,.int .i64 n,.slice B5 ks.length c5]) (by simp[results,Tryz.results60,go_sem,s0,s1,s2]) rfl ⟨_,rfl, ?_, ?_⟩
    · exact Made.since (Made.after (Made.mk q1 q2 ij) ((((y25.refl _ _).setCell (by show w.heap.size+1 < _;omega) _).setCell (by show w.heap.size+1 < _;omega) _).setCell (by show w.heap.size+1 < _;omega) _)) (by omega)
    · exact((((C6.trans he).setCell (by simp) _).setCell (by simp) _).setCell (by simp) _)
def l1CopyC(t:Tr):Prop:= ∀(w:World) (v:Value),Lies w t v->cnt t<=1000000->
 Calls Tryz.prog 67 #[v] w fun e w'=> ∃u,e= .returned u/\Made w w' 25 t u/\Ext w w'
theorem q133:(Tryz.prog.info? 25).map (fun i=>(i.zero,i.size,i.bytes))=some (some (.agg #[.int .i64 0,.int .i64 0,.slice none 0 0]),3,40):=by kernel_rfl
theorem j29: ∀t:Tr,l1CopyC t:=Tr.ind fun k n ks hk=> by
 intro w v j7 U7;obtain⟨A,cap,rfl,hl,hc,hK⟩:=Lies.mk_iff.1 j7;obtain⟨i0,hi,hz0,hz1,hz2⟩:=info_parts q133;have hcc:=hc;unfold maxLen at hcc;simp only[cnt] at U7;have hlc:=y19 ks;go_enter Tryz.func67,Tryz.ntmps67;go_wp2_with fail;obtain⟨w1,i7⟩: ∃w1,w1=(w.alloc (.cells #[.int .i64 k,.int .i64 n,.slice A ks.length cap] 25)).alloc (.cells #[.int .i64 0,.int .i64 0,.slice none 0 0] 25):=⟨_,rfl⟩;obtain⟨W,hW⟩: ∃W,W=w1.alloc (.cells #[.int .i64 k,.int .i64 n,.slice none 0 0] 25):=⟨_,rfl⟩;have hs1:w1.heap.size=w.heap.size+1+1:=by rw[i7];simp
 have Eu:W.heap.size=w.heap.size+3:=by rw[hW];simp;omega
 have C6:Ext w w1:=i7▸((xr w).alloc _).alloc _;have I3:Ext w1 W:=hW▸(xr w1).alloc _;have F2:w1.heap[w.heap.size+1]? =some (.cells #[.int .i64 0,.int .i64 0,.slice none 0 0] 25 (0,0)):=by
  rw[i7];exact(blk2 (xr _)).2.1
 have ot:W.heap[w.heap.size+1+1]? =some (.cells #[.int .i64 k,.int .i64 n,.slice none 0 0] 25 (0,0)):=by
  have:=heap_alloc_new w1 (.cells #[.int .i64 k,.int .i64 n,.slice none 0 0] 25);rw[hs1] at this;rw[hW];exact this
 have T7:w1.heap[w.heap.size]? =some (.cells #[.int .i64 k,.int .i64 n,.slice A ks.length cap] 25 (0,0)):=by
  rw[i7];exact(blk2 (xr _)).1
 rw[<-i7,<-hW];clear hW i7
 go_loopw [4] (fun i wr=> ∃(j:Nat) (v:Value),j<=ks.length/\i= .int .i64 j/\wr.heap[w.heap.size+1+1]? =some (.cells #[.int .i64 k,.int .i64 n,v] 25 (0,0))/\Grow W wr 25 v (ks.take j)/\Ext w1 wr/\W.heap.size<=wr.heap.size) (fun i _=> ks.length -(intOf i).toNat)
 case atStart=> exact⟨0,_,Nat.zero_le _,rfl,ot,Grow.nil _ _ _,I3,Nat.le_refl _⟩
 case round=>
  obtain⟨j,v,hj,rfl,J9,hG,he,hle⟩:=hrel;by_cases hlt:j < ks.length
  · obtain⟨b,o,k',n',A',cap',kids,rfl,HK,c0,c1,c2,K8,L6,hK',D6,j5⟩:=hK.get (C6.trans he) hlt
    have L8:=List.take_append_getElem hlt;rw[HK.out] at L8;have hcm:=y15 j5;have hlen:(ks.take j).length < 1099511627776:=by rw[List.length_take];omega
    have Y2:(ks.take j).length=j:=by rw[List.length_take];omega
    have HL:=hdq Y2;have U5:=he.blk T7;obtain⟨-,-,t2,-,-,-⟩:=own3 U5;have hj':(j:Int) <(ks.length:Int):=by omega
    go_wp2_with fail;have R9:=hle;have N4:=hG;have Y3:=J9;have hv:=q10 Y3 2;have C8: ∀w',Below W.heap.size wr w'->w'.heap[w.heap.size+1+1]? =some (.cells #[.int .i64 k,.int .i64 n,v] 25 (0,0)):=fun w' hB=>(hB.block (w.heap.size+1+1) (by omega)).trans Y3
    have p5:=hdq C8;have D8:Ext wr wr.drew:=(xr wr).drew;have dr:=D6.ext D8;have nt:=he;clear C8 Y2 J9 hG he hle hcc
    go_region_law (first|(go_simp;go_at_call 67;refine(hk _ j5 _ _ dr (by omega)).mono ?_;rintro e w4 ⟨u,rfl,hM,h4⟩;obtain⟨a1,a2,a3,a4,a5,rfl⟩:=hM.three';have hv4:=q10 (p5.out _ ((D8.trans h4).below R9)) 2;have jq:=World.block_lt_of_cell? _ _ hv4) |(refine q29 _ (by rfl) (.tmp 18) (.tmp 25) _ (by rfl) 25 i0 _ Tryz.underlying23 hi hz0 hz1 hz2 rfl (by rfl) N4 R9 (D8.trans h4) (hM.since (Nat.le_refl _)) ((xr _).alloc _) (by rfl) (heap_alloc_new _ _) hlen ?_;intro v' w5 G7 E6;obtain⟨B5,c5,rfl,q1,q2,-⟩:=G7.made;have gi:=q10 (p5.out _ E6) 2;have Er:=y13 (p5.out _ E6) 2))
    all_goals(
     have fh:Ext w1 w5:=nt.trans' E6 (by omega);have hs5:=E6.size;have G5:=p5.out _ E6;rw[List.length_append,List.length_singleton,L8,show(ks.take j).length+1=min (j+1) ks.length from by rw[List.length_take];omega] at G7;have rq:=fun u=> G7.after ((y25.refl W.heap.size w5).setCell (p:=⟨w.heap.size+1+1,2,none⟩) (by show w.heap.size+1+1 < W.heap.size;omega) u)
     clear hv4 jq hv p5 hM h4 c0 c1 c2 t2;go_wp2_with fail
     go_roundw
     case rel=> exact⟨j+1,_,by omega,by go_num,j11 G5 2 _,rq _,fh.setCell (by show _<=w.heap.size+1+1;omega) _,by simp;omega⟩
     case measure=> simp[intOf];omega)
  · obtain⟨B5,c5,rfl,q1,q2,ij⟩:=hG.made
    have M0:j=ks.length:=by omega
    have nk:(ks.take j).length=ks.length:=by rw[M0,List.take_length]
    obtain⟨r0,r1,r2,-,-,-⟩:=own3 J9;have U5:=he.blk T7;obtain⟨-,-,t2,-,-,-⟩:=own3 U5;have Z6:=he.blk F2;obtain⟨s0,s1,s2,f0,f1,f2⟩:=own3 Z6;rw[nk] at q1 r2;rw[show ks.take j=ks from by rw[M0,List.take_length]] at ij;clear nk J9;go_wp2_with fail;refine bodyPost_ret (v:= .agg #[.int .i64 k,.int .i64 n,.slice B5 ks.length c5]) (by simp[results,Tryz.results67,go_sem,s0,s1,s2]) rfl ⟨_,rfl, ?_, ?_⟩
    · exact Made.since (Made.after (Made.mk q1 q2 ij) ((((y25.refl _ _).setCell (by show w.heap.size+1 < _;omega) _).setCell (by show w.heap.size+1 < _;omega) _).setCell (by show w.heap.size+1 < _;omega) _)) (by omega)
    · exact((((C6.trans he).setCell (by simp) _).setCell (by simp) _).setCell (by simp) _)
end Go.Proofs.YtbnkbepgmenblaaGreat
namespace Go.Proofs.YtbnkbepgmenblaaGreat
open Go.RowKit
theorem q102(k:Int):sigT.most k<=20:=by
 show q33 k<=20
 unfold q33
 split
 · omega
 · split <;> omega
def OwnI(w:World)(e:TypeId)(A:Option Addr)(ns:List Int)(L:List Nat):Prop:=
 (ns= []/\L= [])\/ ∃b cs,A=some ⟨b,0,none⟩/\w.heap[b]? =some (.cells cs e (0,0))/\ns.length<=cs.size/\cs.toList.take ns.length=ns.map (Value.int .i64)/\L= [b]
theorem OwnI.mono{w w':World}{e:TypeId}{A:Option Addr}{ns:List Int}{L:List Nat}(h:OwnI w e A ns L)(hw: ∀b,b∈L->w'.heap[b]? =w.heap[b]?):OwnI w' e A ns L:=by
 rcases h with h|⟨b,cs,rfl,hb,h1,h2,rfl⟩
 · exact .inl h
 · exact .inr ⟨b,cs,rfl,(hw b (by simp)).trans hb,h1,h2,rfl⟩
theorem q187.own{W w:World}{e:TypeId}{v:Value}{ns:List Int}(h:q187 W w e v ns): ∃A cap L,v= .slice A ns.length cap/\ns.length<=cap/\cap<=maxLen/\OwnI w e A ns L/\y44 W w L:=by
 rcases h.2 with⟨rfl,h0⟩ |⟨g,cap,cur,rfl,hb,hg,hn,hm,hcs,ht⟩
 · obtain rfl:ns= []:=List.eq_nil_of_length_eq_zero h0
   exact⟨none,0, [],rfl,Nat.le_refl _,Nat.zero_le _,.inl ⟨rfl,rfl⟩,y44.nil _ _⟩
 · refine⟨_,cap, [g],rfl,hn,hm,.inr ⟨g,cur,rfl,hg,by omega,by simpa using ht,rfl⟩,by simp,fun b hb'=> ?_⟩
   obtain rfl:=List.mem_singleton.1 hb';exact⟨hb,j10 hg⟩
theorem InK.two{w:World}{S:Nat->Prop}{e:TypeId}{t t':Tr}{v0 v1 v2 u0 u1 u2:Value}{g:Nat}(h:InT w S t (.agg #[v0,v1,v2]))(h':InT w S t' (.agg #[u0,u1,u2]))(hg:w.heap[g]? =some (.cells #[v0,v1,v2,u0,u1,u2] e (0,0)))(hS:S g):InK w S (some ⟨g,0,none⟩) [t,t']:=by
 refine .inr ⟨g,0,rfl,hS, ?_⟩;unfold InL;refine⟨⟨v0,v1,v2,q10 hg 0,q10 hg 1,q10 hg 2,h⟩, ?_⟩;unfold InL;refine⟨⟨u0,u1,u2,q10 hg 3,q10 hg 4,q10 hg 5,h'⟩, ?_⟩;unfold InL
 trivial
theorem InT.three{w:World}{S:Nat->Prop}{t:Tr}{u:Value}(h:InT w S t u): ∃k n A l c,u= .agg #[.int .i64 k,.int .i64 n,.slice A l c]:=by
 obtain⟨k,n,ks⟩:=t;obtain⟨A,cap,rfl,_⟩:=InT.mk_iff.1 h;exact⟨k,n,A,_,cap,rfl⟩
end Go.Proofs.YtbnkbepgmenblaaGreat
