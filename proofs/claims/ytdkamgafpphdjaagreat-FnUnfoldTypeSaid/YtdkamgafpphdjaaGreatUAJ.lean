/-
  Lemmas towards the law, 10: Nums, SpecValid, Draw, Extract.
-/
import Derived.Test.YtdkamgafpphdjaaGreatUAI
import Derived.Deep.DrawnRows
import Derived.Deep.RegionLaw
import Derived.Laws.BitsAllLaws
set_option maxHeartbeats 1600000
set_option maxRecDepth 100000
namespace Go.Proofs.YtdkamgafpphdjaaGreat
open Go.RowKit Go.ChangeShapes Go.WideShapes Go.Deep
set_option linter.unusedVariables false
def Nums(w:World)(A:Option Addr)(ns:List Int):Prop:=ns= []\/ ∃b o,A=some ⟨b,o,none⟩/\b < w.heap.size/\ ∀j (h:j < ns.length),w.cell? ⟨b,o+j,none⟩=some (.int .i64 ns[j])
theorem Nums.ext{w w':World}{A:Option Addr}{ns:List Int}(h:Nums w A ns)(he:Ext w w'):Nums w' A ns:=by
 rcases h with h|⟨b,o,rfl,hb,hc⟩
 · exact .inl h
 · exact .inr ⟨b,o,rfl,Nat.lt_of_lt_of_le hb he.size,fun j hj=> he.cell (hc j hj)⟩
theorem Nums.get{w w':World}{A:Option Addr}{ns:List Int}(h:Nums w A ns)(he:Ext w w'){j:Nat}(hj:j < ns.length): ∃b o,A=some ⟨b,o,none⟩/\w'.cell? ⟨b,o+j,none⟩=some (.int .i64 ns[j]):=by
 rcases h with rfl|⟨b,o,rfl,hb,hc⟩
 · exact absurd hj (by simp)
 · exact⟨b,o,rfl,he.cell (hc j hj)⟩
theorem At.nums{w:World}{A:Option Addr}{ns:List Int}(h:Nums w A ns):At w (fun w'=> Nums w' A ns):=fun _ hx=> h.ext hx
section
variable {H : Type} {enc : TypeId × Value → H} {P : Program} {w : World} {spare : Nat → Bool} {held : Bool}
theorem open_nums{s i:TypeId}(hs:P.underlying s=some (.slice i))(hi:P.underlying i=some (.int .i64))(ci:P.cellsOf i=1){r:Reach}{b0:Nat}{v:Value}{d:DataW H}{p:List MemPlace}(hv:Value.okWide P w r b0 s v)(h:DataW.Trod enc P w 0 spare held s v d p):
 ∃(A:Option Addr) (cap:Nat) (ns:List Int),v= .slice A ns.length cap/\ns.length<=cap/\cap<=maxLen/\Nums w A ns:=by
 obtain⟨a0,len0,cap0,rfl⟩:=okWide_slice hs hv;obtain⟨fuel,hf⟩:=h;rcases DataW.trod_slice hs hf with⟨hcs,_⟩ |⟨a,len,cap,elems,rest,n,rfl,hcs,_,_,hl,hm,hlen,hel,_,_⟩
 · simp only[Value.cells,List.cons.injEq,and_true] at hcs
   exact⟨none,0, [],hcs,Nat.le_refl _,Nat.zero_le _,.inl rfl⟩
 · have hel': ∀j,j < len-> ∃x:Int,w.cell? (a.add j)=some (.int .i64 x):=by
    intro j hj;have hj':=hel j hj;rw[List.getElem?_eq_getElem (by omega)] at hj';obtain⟨cs',h1,h2⟩:=Option.bind_eq_some_iff.1 hj';obtain⟨x,rfl,_,_⟩:=DataW.trod_int hi h2;obtain⟨_,_,hcell⟩:=World.cells?_some h1;rw[ci] at hcell;have q0:=hcell 0 (by omega);rw[Nat.mul_one] at q0;have e0: ∀y:Addr,y.add 0=y:=fun y=> by simp[Addr.add]
    rw[e0] at q0;exact⟨x,q0⟩
   obtain⟨ns,hns,hp⟩:=j48 len hel';subst hns;simp only[Value.cells,List.cons.injEq,and_true] at hcs;refine⟨some a,cap,ns,hcs,hl,hm, ?_⟩;cases ns with
   |nil=> exact .inl rfl
   |cons t0 ts=>
    obtain⟨b,o,spot⟩:=a;have hlt:b < w.heap.size/\spot=none:=by
     have q0:=hp 0 (by simp);have e0:(⟨b,o,spot⟩:Addr).add 0=⟨b,o,spot⟩:=by simp[Addr.add]
     rw[e0] at q0;exact⟨World.block_lt_of_cell? _ _ q0,by simpa using World.cell?_spot q0⟩
    obtain⟨hlt,rfl⟩:=hlt;refine .inr ⟨b,o,rfl,hlt,fun j hj=> ?_⟩;have q0:=hp j hj;rw[j60] at q0;exact q0
end
def arity(f:Int):Int:=if f=1\/f=2\/f=4 then 2 else if f=3\/f=5\/f=6 then 1 else -1
def fits(f:Int)(ns:List Int):Bool:=decide (arity f=(ns.length:Int))&& ns.all (fun n=> inR n 0 20)
def funVal(f:Int)(ns:List Int):Int×Bool:=
 if fits f ns=true then
  match ns with
  | [a]=>(if f=3 then(if a=0 then 0 else a - 1) else if f=6 then 2*a else if a=0 then 1 else 0,true)
  | [a,b]=>(if f=1 then a+b else if f=2 then a*b else if a < b then 0 else a - b,true)
  |_=>(0,false)
 else(0,false)
theorem fits_true{f:Int}{ns:List Int}(h:fits f ns=true):(∃a b,ns= [a,b]/\0<=a/\a<=20/\0<=b/\b<=20/\(f=1\/f=2\/f=4))\/(∃a,ns= [a]/\0<=a/\a<=20/\(f=3\/f=5\/f=6)):=by
 unfold fits at h;rw[Bool.and_eq_true] at h;have h1:=of_decide_eq_true h.1;have h2:=h.2;rw[List.all_eq_true] at h2;unfold arity at h1;by_cases c1:f=1\/f=2\/f=4
 · rw[if_pos c1] at h1
   match ns,h1 with
   | [a,b],_=>
    have ha:=q33.1 (h2 a (by simp));have hb:=q33.1 (h2 b (by simp));exact .inl ⟨a,b,rfl,ha.1,ha.2,hb.1,hb.2,c1⟩
   | [],h1=> simp at h1
   | [a],h1=> simp at h1
   |a::b::c::ts,h1=> simp at h1;omega
 · rw[if_neg c1] at h1
   by_cases c2:f=3\/f=5\/f=6
   · rw[if_pos c2] at h1
     match ns,h1 with
     | [a],_=>
      have ha:=q33.1 (h2 a (by simp));exact .inr ⟨a,rfl,ha.1,ha.2,c2⟩
     | [],h1=> simp at h1
     |a::b::ts,h1=> simp at h1;omega
   · rw[if_neg c2] at h1
     omega
end Go.Proofs.YtdkamgafpphdjaaGreat
namespace Go.Proofs.YtdkamgafpphdjaaGreat
open Go.RowKit
set_option linter.unusedVariables false
theorem y22(k:Int)(w:World):Calls Tryz.prog 183 #[.int .i64 k] w fun e w'=> e= .returned (.int .i64 (opsT k))/\w=w':=by
 by_cases h:1<=k/\k<=16
 · rcases(by omega:k=1\/k=2\/k=3\/k=4\/k=5\/k=6\/k=7\/k=8\/k=9\/k=10\/k=11\/k=12\/k=13\/k=14\/k=15\/k=16) with rfl|rfl|rfl|rfl|rfl|rfl|rfl|rfl|rfl|rfl|rfl|rfl|rfl|rfl|rfl|rfl
   all_goals
    go_enter Tryz.func183,Tryz.ntmps183;go_wp2_with fail;go_ret;exact⟨rfl,rfl⟩
 · have e:opsT k= -1:=by
    unfold opsT
    repeat rw[if_neg (by omega)]
   have f1:(k==1)=false:=by simp;omega
   have f2:(k==2)=false:=by simp;omega
   have f3:(k==3)=false:=by simp;omega
   have f4:(k==4)=false:=by simp;omega
   have f5:(k==5)=false:=by simp;omega
   have f6:(k==6)=false:=by simp;omega
   have f7:(k==7)=false:=by simp;omega
   have f8:(k==8)=false:=by simp;omega
   have f9:(k==9)=false:=by simp;omega
   have f10:(k==10)=false:=by simp;omega
   have f11:(k==11)=false:=by simp;omega
   have f12:(k==12)=false:=by simp;omega
   have f13:(k==13)=false:=by simp;omega
   have f14:(k==14)=false:=by simp;omega
   have f15:(k==15)=false:=by simp;omega
   have f16:(k==16)=false:=by simp;omega
   have E:=hdq e;clear e h;go_enter Tryz.func183,Tryz.ntmps183;go_wp2_with fail;go_ret;exact⟨by rw[E.out];rfl,rfl⟩
theorem y35(k:Int)(w:World):Calls Tryz.prog 184 #[.int .i64 k] w fun e w'=> e= .returned (.int .i64 (q28 k))/\w=w':=by
 by_cases h:1<=k/\k<=2
 · rcases(by omega:k=1\/k=2) with rfl|rfl
   all_goals
    go_enter Tryz.func184,Tryz.ntmps184;go_wp2_with fail;go_ret;exact⟨rfl,rfl⟩
 · have e:q28 k=0:=by
    unfold q28
    repeat rw[if_neg (by omega)]
   have f1:(k==1)=false:=by simp;omega
   have f2:(k==2)=false:=by simp;omega
   have E:=hdq e;clear e h;go_enter Tryz.func184,Tryz.ntmps184;go_wp2_with fail;go_ret;exact⟨by rw[E.out];rfl,rfl⟩
def y103(t:Tr):Prop:= ∀(w:World) (v:Value) (depth:Int),Lies w t v-> -1<=depth->depth<=40->
 Calls Tryz.prog 137 #[v,.int .i64 depth] w fun e w'=> e= .returned (.bool (shape sigT t depth))/\Ext w w'
theorem j115: ∀t:Tr,y103 t:=Tr.ind fun k n ks hk=> by
 intro w v depth hin hd0 hd1;obtain⟨A,cap,rfl,hl,hc,h⟩:=Lies.mk_iff.1 hin;clear hin;have hc':=hc;unfold maxLen at hc';have e:shape sigT (.mk k n ks) depth=(decide (1<=depth)&&(decide (opsT k=(ks.length:Int))&& inR n 0 (q28 k)&& j21 sigT ks (depth - 1))):=by
  unfold shape j75;rfl
 have E:=hdq e;clear e;by_cases a1:depth < 1
 · have he:shape sigT (.mk k n ks) depth=false:=by
    rw[E.out];rw[decide_eq_false (by omega: ¬1<=depth)];rfl
   replace E:=hdq he;clear he;have d1:decide (depth < 1)=true:=decide_eq_true a1;go_enter Tryz.func137,Tryz.ntmps137;go_wp2_with fail;have hE:=(xr w).alloc (.cells #[.int .i64 k,.int .i64 n,.slice A ks.length cap] 25);have hb:=(blk1 (xr (w.alloc (.cells #[.int .i64 k,.int .i64 n,.slice A ks.length cap] 25)))).1;generalize w.alloc _=W at hE hb;obtain⟨y0,y1,y2⟩:=j23.own3 hb;have B1:=hdq hb;clear hb;refine q15 (by kernel_rfl) (by kernel_rfl) ?_
   repeat (go_big_quiet_step (first|(go_at_call 183;exact j13 (y22 _ _)) |(go_at_call 184;exact j13 (y35 _ _))))
   refine wpQuiet_nil ?_;intro w3 hw';obtain⟨⟨_,h3⟩,rfl⟩:=hw';clear y0 y1 y2;have hE3:=hE.trans h3;go_wp2_with fail;go_ret;exact⟨by rw[E.out];rfl,hE3⟩
 have d1:decide (depth < 1)=false:=decide_eq_false a1;by_cases a2: ¬opsT k=(ks.length:Int)
 · have he:shape sigT (.mk k n ks) depth=false:=by
    rw[E.out];rw[decide_eq_false a2];simp
   replace E:=hdq he;clear he;have d2:(opsT k !=(ks.length:Int))=true:=by rw[bne_iff_ne];exact a2
   go_enter Tryz.func137,Tryz.ntmps137;go_wp2_with fail;have hE:=(xr w).alloc (.cells #[.int .i64 k,.int .i64 n,.slice A ks.length cap] 25);have hb:=(blk1 (xr (w.alloc (.cells #[.int .i64 k,.int .i64 n,.slice A ks.length cap] 25)))).1;generalize w.alloc _=W at hE hb;obtain⟨y0,y1,y2⟩:=j23.own3 hb;have B1:=hdq hb;clear hb;refine q15 (by kernel_rfl) (by kernel_rfl) ?_
   repeat (go_big_quiet_step (first|(go_at_call 183;exact j13 (y22 _ _)) |(go_at_call 184;exact j13 (y35 _ _))))
   refine wpQuiet_nil ?_;intro w3 hw';obtain⟨⟨_,h3⟩,rfl⟩:=hw';clear y0 y1 y2;have hE3:=hE.trans h3;go_wp2_with fail;go_ret;exact⟨by rw[E.out];rfl,hE3⟩
 have d2:(opsT k !=(ks.length:Int))=false:=by simpa using a2
 by_cases a3:n < 0
 · have he:shape sigT (.mk k n ks) depth=false:=by
    rw[E.out];rw[y53.2 (.inl a3)];simp
   replace E:=hdq he;clear he;have d3:decide (n < 0)=true:=decide_eq_true a3;go_enter Tryz.func137,Tryz.ntmps137;go_wp2_with fail;have hE:=(xr w).alloc (.cells #[.int .i64 k,.int .i64 n,.slice A ks.length cap] 25);have hb:=(blk1 (xr (w.alloc (.cells #[.int .i64 k,.int .i64 n,.slice A ks.length cap] 25)))).1;generalize w.alloc _=W at hE hb;obtain⟨y0,y1,y2⟩:=j23.own3 hb;have B1:=hdq hb;clear hb;refine q15 (by kernel_rfl) (by kernel_rfl) ?_
   repeat (go_big_quiet_step (first|(go_at_call 183;exact j13 (y22 _ _)) |(go_at_call 184;exact j13 (y35 _ _))))
   refine wpQuiet_nil ?_;intro w3 hw';obtain⟨⟨_,h3⟩,rfl⟩:=hw';clear y0 y1 y2;have hE3:=hE.trans h3;go_wp2_with fail;go_ret;exact⟨by rw[E.out];rfl,hE3⟩
 have d3:decide (n < 0)=false:=decide_eq_false a3;by_cases a4:q28 k < n
 · have he:shape sigT (.mk k n ks) depth=false:=by
    rw[E.out];rw[y53.2 (.inr a4)];simp
   replace E:=hdq he;clear he;have d4:decide (q28 k < n)=true:=decide_eq_true a4;go_enter Tryz.func137,Tryz.ntmps137;go_wp2_with fail;have hE:=(xr w).alloc (.cells #[.int .i64 k,.int .i64 n,.slice A ks.length cap] 25);have hb:=(blk1 (xr (w.alloc (.cells #[.int .i64 k,.int .i64 n,.slice A ks.length cap] 25)))).1;generalize w.alloc _=W at hE hb;obtain⟨y0,y1,y2⟩:=j23.own3 hb;have B1:=hdq hb;clear hb;refine q15 (by kernel_rfl) (by kernel_rfl) ?_
   repeat (go_big_quiet_step (first|(go_at_call 183;exact j13 (y22 _ _)) |(go_at_call 184;exact j13 (y35 _ _))))
   refine wpQuiet_nil ?_;intro w3 hw';obtain⟨⟨_,h3⟩,rfl⟩:=hw';clear y0 y1 y2;have hE3:=hE.trans h3;go_wp2_with fail;go_ret;exact⟨by rw[E.out];rfl,hE3⟩
 have d4:decide (q28 k < n)=false:=decide_eq_false a4;have hn:inR n 0 (q28 k)=true:=q33.2 ⟨by omega,by omega⟩;have he:shape sigT (.mk k n ks) depth=j21 sigT ks (depth - 1):=by
  rw[E.out,decide_eq_true (by omega:1<=depth),decide_eq_true (by omega:opsT k=(ks.length:Int)),hn];rfl
 replace E:=hdq he;clear he hn;go_enter Tryz.func137,Tryz.ntmps137;go_wp2_with fail;have hE:=(xr w).alloc (.cells #[.int .i64 k,.int .i64 n,.slice A ks.length cap] 25);have hb:=(blk1 (xr (w.alloc (.cells #[.int .i64 k,.int .i64 n,.slice A ks.length cap] 25)))).1;generalize w.alloc _=W at hE hb;obtain⟨y0,y1,y2⟩:=j23.own3 hb;have B1:=hdq hb;clear hb;refine q15 (by kernel_rfl) (by kernel_rfl) ?_
 repeat (go_big_quiet_step (first|(go_at_call 183;exact j13 (y22 _ _)) |(go_at_call 184;exact j13 (y35 _ _))))
 refine wpQuiet_nil ?_;intro w3 hw';obtain⟨⟨_,h3⟩,rfl⟩:=hw';clear y0 y1 y2;have hE3:=hE.trans h3;obtain⟨z0,z1,z2,-,-,-⟩:=own3 (h3.blk B1.out);have B3:=hdq (h3.blk B1.out);go_wp2_with fail;clear z0 z1 z2
 go_loopw [5] (fun i wr=> ∃j:Nat,j<=ks.length/\i= .int .i64 j/\j21 sigT ks (depth - 1)=j21 sigT (ks.drop j) (depth - 1)/\Ext w3 wr) (fun i _=> ks.length -(intOf i).toNat)
 case atStart=> exact⟨0,Nat.zero_le _,rfl,rfl,xr _⟩
 case round=>
  obtain⟨j,hj,rfl,heq,hx⟩:=hrel;have HE:=hdq heq;obtain⟨z0,z1,z2,-,-,-⟩:=own3 (hx.blk B3.out);clear heq;by_cases hlt:j < ks.length
  · obtain⟨b,o,k2,n2,A2,cap2,kids,rfl,HK,c0,c1,c2,hkl,hkc,hK,hin,hmem⟩:=h.get (hE3.trans hx) hlt
    have hks:=List.drop_eq_getElem_cons hlt;rw[HK.out] at hks;have hst:j21 sigT (ks.drop j) (depth - 1)=(shape sigT (.mk k2 n2 kids) (depth - 1)&& j21 sigT (ks.drop (j+1)) (depth - 1)):=by rw[hks];conv=> lhs;unfold j21
    clear hks;go_wp2_with fail;refine(hk _ hmem wr _ (depth - 1) hin (by omega) (by omega)).mono ?_;rintro e w4 ⟨rfl,h4⟩;generalize shape sigT (.mk k2 n2 kids) (depth - 1)=r at hst;have HT:=hdq hst;clear hst;cases r with
    |false=>
     go_wp2_with fail;go_ret;exact⟨by rw[E.out,HE.out,HT.out];rfl,hE3.trans (hx.trans h4)⟩
    |true=>
     go_wp2_with fail
     go_roundw
     case rel=> exact⟨j+1,by omega,by go_num,by rw[HE.out,HT.out];rfl,hx.trans h4⟩
     case measure=> simp[intOf];omega
  · go_wp2_with fail
    go_ret;have hjk:ks.drop j= []:=List.drop_of_length_le (by omega);exact⟨by rw[E.out,HE.out,hjk];simp only[j21];rfl,hE3.trans hx⟩
def j101(t:Tr):Prop:= ∀(w:World) (v:Value) (most:Int),Lies w t v->0<=most->most<=1000000->
 Calls Tryz.prog 138 #[v,.int .i64 most] w fun e w'=> e= .returned (.int .i64 (cntM t most))/\Ext w w'
theorem y116: ∀t:Tr,j101 t:=Tr.ind fun k n ks hk=> by
 intro w v most hin hm0 hm1;obtain⟨A,cap,rfl,hl,hc,h⟩:=Lies.mk_iff.1 hin;clear hin;have hc':=hc;unfold maxLen at hc';have e:cntM (.mk k n ks) most=j63 ks most 1:=by unfold cntM;rfl
 have E:=hdq e;clear e;go_enter Tryz.func138,Tryz.ntmps138;go_wp2_with fail;have hE:=(xr w).alloc (.cells #[.int .i64 k,.int .i64 n,.slice A ks.length cap] 25);have hb:=(blk1 (xr (w.alloc (.cells #[.int .i64 k,.int .i64 n,.slice A ks.length cap] 25)))).1;generalize w.alloc _=W at hE hb;have B1:=hdq hb;clear hb
 go_loopw [5,6] (fun q i wr=> ∃(j:Nat) (m:Int),j<=ks.length/\i= .int .i64 j/\q= .int .i64 m/\1<=m/\m<=most+1/\j63 ks most 1=j63 (ks.drop j) most m/\Ext W wr) (fun _ i _=> ks.length -(intOf i).toNat)
 case atStart=> exact⟨0,1,Nat.zero_le _,rfl,rfl,by omega,by omega,rfl,xr _⟩
 case round=>
  obtain⟨j,m,hj,rfl,rfl,hq0,hq1,heq,hx⟩:=hrel;have HE:=hdq heq;obtain⟨z0,z1,z2,-,-,-⟩:=own3 (hx.blk B1.out);clear heq;by_cases hlt:j < ks.length
  · have dl:decide ((j:Int) <(ks.length:Int))=true:=decide_eq_true (by omega)
    obtain⟨b,o,k2,n2,A2,cap2,kids,rfl,HK,c0,c1,c2,hkl,hkc,hK,hin,hmem⟩:=h.get (hE.trans hx) hlt;have hks:=List.drop_eq_getElem_cons hlt;rw[HK.out] at hks;have hst:j63 (ks.drop j) most m=if m<=most then j63 (ks.drop (j+1)) most (m+cntM (.mk k2 n2 kids) (most - m)) else m:=by rw[hks];conv=> lhs;unfold j63
    clear hks;by_cases hmm:m<=most
    · rw[if_pos hmm] at hst
      have HT:=hdq hst;have dm:decide (m<=most)=true:=decide_eq_true hmm;have hcm:=q114 (.mk k2 n2 kids) (most - m) (by omega);clear hst;go_wp2_with fail;refine(hk _ hmem wr _ (most - m) hin (by omega) (by omega)).mono ?_;rintro e w4 ⟨rfl,h4⟩;generalize cntM (.mk k2 n2 kids) (most - m)=r at hcm HT;go_wp2_with fail
      go_roundw
      case rel=> exact⟨j+1,m+r,by omega,by go_num,rfl,by omega,by omega,by rw[HE.out,HT.out],hx.trans h4⟩
      case measure=> simp[intOf];omega
    · rw[if_neg hmm] at hst
      have HT:=hdq hst;have dm:decide (m<=most)=false:=decide_eq_false hmm;clear hst;go_wp2_with fail;go_ret;exact⟨by rw[E.out,HE.out,HT.out];rfl,hE.trans hx⟩
  · have dl:decide ((j:Int) <(ks.length:Int))=false:=decide_eq_false (by omega)
    go_wp2_with fail;go_ret;have hjk:ks.drop j= []:=List.drop_of_length_le (by omega);exact⟨by rw[E.out,HE.out,hjk];simp only[j63];rfl,hE.trans hx⟩
theorem q17(t:Tr)(w:World)(v:Value)(hin:Lies w t v):Calls Tryz.prog 37 #[v] w fun e w'=> e= .returned (.bool (valid sigT t))/\Ext w w':=by
 obtain⟨k,n,ks⟩:=t;obtain⟨A,cap,rfl,hl,hc,h⟩:=Lies.mk_iff.1 hin;have hs:=(j140 sigT (.mk k n ks)).1;have HS:=hdq hs;clear hs;go_enter Tryz.func37,Tryz.ntmps37;go_wp2_with fail;have hE:=((xr w).alloc (.cells #[.int .i64 k,.int .i64 n,.slice A ks.length cap] 25)).alloc (.cells #[.int .i64 0] 3);have hb:=(blk2 (xr ((w.alloc (.cells #[.int .i64 k,.int .i64 n,.slice A ks.length cap] 25)).alloc (.cells #[.int .i64 0] 3)))).2.1;refine(j126 (.mk k n ks) _ w.heap.size _ _ 1 0 (InT.mono (fun _ h=> h) (fun b hb=> hE.heap b hb) hin) (by omega) hb (by omega) (by omega) (by omega) (by omega)).mono ?_;rintro e w1 ⟨rfl,-,h1⟩;have hx:Ext w w1:=Below.trans hE h1;rw[HS.out];go_wp2_with fail;go_ret;exact⟨rfl,hx⟩
theorem y30(t:Tr)(w:World)(v:Value)(hin:Lies w t v):Calls Tryz.prog 80 #[v] w fun e w'=> e= .returned (.bool (valid sigT t))/\Ext w w':=by
 have hv:=y184 (g:=sigT) (t:=t);have hm:=q114 t 400 (by omega);have hS:=fun W (hW:Ext w W)=> j115 t W v 30 (hin.ext hW) (by omega) (by omega)
 have hC:=fun W (hW:Ext w W)=> y116 t W v 400 (hin.ext hW) (by omega) (by omega)
 have HS:=hdq hS;have HC:=hdq hC;clear hS hC;obtain⟨k,n,ks⟩:=t;obtain⟨A,cap,rfl,hl,hc,h⟩:=Lies.mk_iff.1 hin;go_enter Tryz.func80,Tryz.ntmps80;go_wp2_with fail;refine(HS.out _ ((xr w).alloc _)).mono ?_;rintro e w1 ⟨rfl,h1⟩;obtain⟨y0,y1,y2,-,-,-⟩:=own3 h1.newBlk;generalize shape sigT (.mk k n ks) 30=s at hv;cases s with
 |false=>
  have HV:=hdq hv;clear hv hm;go_wp2_with fail;go_ret;exact⟨by rw[HV.out];rfl,h1.pre⟩
 |true=>
  have HV:=hdq hv;clear hv hm;go_wp2_with fail;refine(HC.out _ h1.pre).mono ?_;rintro e w2 ⟨rfl,h2⟩;go_wp2_with fail
  all_goals go_ret
  all_goals exact⟨by rw[HV.out];simp[*],h1.pre.trans h2⟩
end Go.Proofs.YtdkamgafpphdjaaGreat
namespace Go.Proofs.YtdkamgafpphdjaaGreat
open Go.RowKit Go.ChangeShapes Go.WideShapes Go.Deep
set_option linter.unusedVariables false
def q51(w:World)(B:Nat)(A:Option Addr)(ns:List Int):Prop:=ns= []\/ ∃b o,A=some ⟨b,o,none⟩/\b < B/\b < w.heap.size/\ ∀j (h:j < ns.length),w.cell? ⟨b,o+j,none⟩=some (.int .u8 ns[j])/\0<=ns[j]/\ns[j] < 256
theorem q51.below{w w':World}{B:Nat}{A:Option Addr}{ns:List Int}(h:q51 w B A ns)(hs:w.heap.size<=w'.heap.size)(he: ∀b,b < B->b < w.heap.size->w'.heap[b]? =w.heap[b]?):q51 w' B A ns:=by
 rcases h with h|⟨b,o,rfl,hb,hs',hc⟩
 · exact .inl h
 · exact .inr ⟨b,o,rfl,hb,by omega,fun j hj=>⟨(World.cell?_of_block (w:=w) (a:=⟨b,o+j,none⟩) (he b hb hs')).trans (hc j hj).1,(hc j hj).2⟩⟩
theorem q51.ext{w w':World}{B:Nat}{A:Option Addr}{ns:List Int}(h:q51 w B A ns)(he:Ext w w'):q51 w' B A ns:=h.below he.size (fun b _ hb=> he.heap b hb)
theorem q51.mono{w:World}{B B':Nat}{A:Option Addr}{ns:List Int}(h:q51 w B A ns)(hB:B<=B'):q51 w B' A ns:=by
 rcases h with h|⟨b,o,rfl,hb,r⟩
 · exact .inl h
 · exact .inr ⟨b,o,rfl,by omega,r⟩
theorem q51.take{w:World}{B:Nat}{A:Option Addr}{ns:List Int}(h:q51 w B A ns)(n:Nat):q51 w B A (ns.take n):=by
 rcases h with rfl|⟨b,o,rfl,hb,hs,hc⟩
 · exact .inl (by simp)
 · refine .inr ⟨b,o,rfl,hb,hs,fun j hj=> ?_⟩
   rw[List.length_take] at hj;rw[List.getElem_take];exact hc j (by omega)
section
variable {H : Type} {enc : TypeId × Value → H} {P : Program} {w : World} {spare : Nat → Bool} {held : Bool}
theorem q160{s i:TypeId}(hs:P.underlying s=some (.slice i))(hi:P.underlying i=some (.int .u8))(ci:P.cellsOf i=1){r:Reach}{b0:Nat}{v:Value}{d:DataW H}{p:List MemPlace}(hv:Value.okWide P w r b0 s v)(h:DataW.Trod enc P w 0 spare held s v d p):
 ∃(A:Option Addr) (cap:Nat) (ns:List Int),v= .slice A ns.length cap/\ns.length<=cap/\cap<=maxLen/\q51 w w.heap.size A ns/\(A=none->cap=0):=by
 obtain⟨a0,len0,cap0,rfl⟩:=okWide_slice hs hv;obtain⟨fuel,hf⟩:=h;rcases DataW.trod_slice hs hf with⟨hcs,_⟩ |⟨a,len,cap,elems,rest,n,rfl,hcs,_,_,hl,hm,hlen,hel,_,_⟩
 · simp only[Value.cells,List.cons.injEq,and_true] at hcs
   exact⟨none,0, [],hcs,Nat.le_refl _,Nat.zero_le _,.inl rfl,fun _=> rfl⟩
 · have hel': ∀j,j < len-> ∃x:Int,w.cell? (a.add j)=some (.int .u8 x)/\0<=x/\x < 256:=by
    intro j hj;have hj':=hel j hj;rw[List.getElem?_eq_getElem (by omega)] at hj';obtain⟨cs',h1,h2⟩:=Option.bind_eq_some_iff.1 hj';obtain⟨x,rfl,_,hwf⟩:=DataW.trod_int hi h2;obtain⟨_,_,hcell⟩:=World.cells?_some h1;rw[ci] at hcell;have q0:=hcell 0 (by omega);rw[Nat.mul_one] at q0;have e0: ∀y:Addr,y.add 0=y:=fun y=> by simp[Addr.add]
    rw[e0] at q0;simp[Lit.wf,IntKind.min,IntKind.max,IntKind.signed,IntKind.bits] at hwf
    exact⟨x,q0,by omega,by omega⟩
   obtain⟨ns,hns,hp⟩:=j48 len hel';subst hns;simp only[Value.cells,List.cons.injEq,and_true] at hcs;refine⟨some a,cap,ns,hcs,hl,hm, ?_,fun h=> by cases h⟩;cases ns with
   |nil=> exact .inl rfl
   |cons t0 ts=>
    obtain⟨b,o,spot⟩:=a;have hlt:b < w.heap.size/\spot=none:=by
     have q0:=(hp 0 (by simp)).1;have e0:(⟨b,o,spot⟩:Addr).add 0=⟨b,o,spot⟩:=by simp[Addr.add]
     rw[e0] at q0;exact⟨World.block_lt_of_cell? _ _ q0,by simpa using World.cell?_spot q0⟩
    obtain⟨hlt,rfl⟩:=hlt;refine .inr ⟨b,o,rfl,hlt,hlt,fun j hj=> ?_⟩;have q0:=hp j hj;rw[j60] at q0;exact q0
end
theorem q120(a b:Int)(h1:0<=a)(h2:a < 4611686018427387904)(h3:0<=b)(h4:b < 4611686018427387904):0<=bits .xor .i64 a b/\bits .xor .i64 a b < 4611686018427387904:=by
 obtain⟨x,rfl⟩:=Int.eq_ofNat_of_zero_le h1;obtain⟨y,rfl⟩:=Int.eq_ofNat_of_zero_le h3;have hx:x ^^^ y < 2 ^ 62:=Nat.xor_lt_two_pow (by omega) (by omega);have e:bits .xor .i64 (x:Int) (y:Int)=((x ^^^ y:Nat):Int):=by
  show IntKind.i64.wrap ((BitVec.ofInt 64 (x:Int)^^^ BitVec.ofInt 64 (y:Int)).toNat:Int)=_
  rw[BitVec.toNat_xor,ofInt_u64 x (by omega),ofInt_u64 y (by omega)];simp only[IntKind.wrap,IntKind.bits,IntKind.signed];simp
  omega
 rw[e];omega
def Rd(w:World)(g:Nat)(m:Nat):Prop:= ∃(A:Option Addr) (cap:Nat) (bs:List Int) (p:Nat),w.heap[g]? =some (.cells #[.slice A bs.length cap,.int .i64 p] 100 (0,0))/\bs.length<=cap/\cap<=maxLen/\bs.length<=2000/\p<=m/\q51 w g A bs
theorem Rd.drewN{w:World}{g m:Nat}(h:Rd w g m)(n:Nat):Rd (w.drewN n) g m:=by
 obtain⟨A,cap,bs,p,hb,h1,h2,h3,h4,hB⟩:=h;exact⟨A,cap,bs,p,hb,h1,h2,h3,h4,hB.below (Nat.le_refl _) (fun _ _ _=> rfl)⟩
theorem Only.drewN{L:List Nat}{a b:World}(h:Only L a b)(n:Nat):Only L a (b.drewN n):=⟨h.os,h.tape,h.output,h.size,h.block⟩
theorem own2{w:World}{g:Nat}{x0 x1:Value}{e:TypeId}(hb:w.heap[g]? =some (.cells #[x0,x1] e (0,0))):
 w.cell? ⟨g,0,none⟩=some x0/\w.cell? ⟨g,1,none⟩=some x1/\w.frozen? ⟨g,0,none⟩=false/\w.frozen? ⟨g,1,none⟩=false:=
 ⟨y10 hb 0,y10 hb 1,q12 hb 0,q12 hb 1⟩
theorem q60(w:World)(g m:Nat)(n:Int)(h:Rd w g m)(hm:m < 1125899906842624):Calls Tryz.prog 99 #[.pointer (some ⟨g,0,none⟩),.int .i64 n] w fun e w'=>
 ∃x:Int,e= .returned (.int .i64 x)/\0<=x/\(x=0\/x < n)/\Rd w' g (m+1)/\Only [g] w w':=by
 obtain⟨A,cap,bs,p,hb,hl,hc,h2,hp,hB⟩:=h;have hlt:=q10 hb;obtain⟨w1,hw1⟩: ∃w1,w1=w.setCell ⟨g,1,none⟩ (.int .i64 ((p:Int)+1)):=⟨_,rfl⟩;have hb1:w1.heap[g]? =some (.cells #[.slice A bs.length cap,.int .i64 ((p:Int)+1)] 100 (0,0)):=hw1▸q11 hb 1 _;have hon:Only [g] w w1:=hw1▸(Only.refl _ _).setCell (by simp) _;have hB1:q51 w1 g A bs:=hB.below hon.size (fun b hb hs=> hon.block b hs (by simp;omega));have hR:Rd w1 g (m+1):=⟨A,cap,bs,p+1,by simpa using hb1,hl,hc,h2,by omega,hB1⟩;obtain⟨c0,c1,f0,f1⟩:=own2 hb;obtain⟨d0,d1,-,-⟩:=own2 hb1;have HB:=hdq hb;have HB1:=hdq hb1;have HR:=hdq hR;clear hb hb1 hR;by_cases hn:n < 1
 · have b1:decide (n < 1)=true:=decide_eq_true hn
   go_enter Tryz.func99,Tryz.ntmps99;go_wp2_with fail;rw[<-hw1];go_ret;exact⟨0,rfl,Int.le_refl _,.inl rfl,HR.out,hon⟩
 have b1:decide (n < 1)=false:=decide_eq_false hn;by_cases hz:bs= []
 · subst hz
   go_enter Tryz.func99,Tryz.ntmps99;go_wp2_with fail;rw[<-hw1];go_ret;exact⟨0,rfl,Int.le_refl _,.inl rfl,HR.out,hon⟩
 have hlen:0 < bs.length:=List.length_pos_iff.2 hz;rcases hB with hB|⟨bb,o,rfl,hbg,hbs',hcell⟩
 · exact absurd hB hz
 have b2:((bs.length:Int)==0)=false:=by rw[beq_eq_false_iff_ne];omega
 by_cases hk:p < bs.length
 · have b3:decide ((p:Int) <(bs.length:Int))=true:=decide_eq_true (by omega)
   obtain⟨cp,cp0,cp1⟩:=hcell p hk;generalize bs[p]=x at cp cp0 cp1;clear hcell;go_enter Tryz.func99,Tryz.ntmps99;go_wp2_with fail;rw[<-hw1];go_ret;exact⟨_,rfl,Int.emod_nonneg _ (by omega),.inr (Int.emod_lt_of_pos _ (by omega)),HR.out,hon⟩
 · have b3:decide ((p:Int) <(bs.length:Int))=false:=decide_eq_false (by omega)
   obtain⟨r1,hr1⟩: ∃r1:Nat,r1=p % bs.length:=⟨_,rfl⟩;obtain⟨r2,hr2⟩: ∃r2:Nat,r2=(p*7+3) % bs.length:=⟨_,rfl⟩;have h1:r1 < bs.length:=hr1▸Nat.mod_lt _ hlen;have h2:r2 < bs.length:=hr2▸Nat.mod_lt _ hlen;have e1:((p:Int) % (bs.length:Int))=(r1:Int):=by rw[hr1];exact(Int.natCast_emod p bs.length).symm
   have e2:(((p:Int)*7+3) % (bs.length:Int))=(r2:Int):=by rw[hr2];rw[Int.natCast_emod];rfl
   obtain⟨d,hd⟩: ∃d:Nat,d=p / bs.length:=⟨_,rfl⟩;have h3:d<=p:=hd▸Nat.div_le_self _ _;have e3:((p:Int) /(bs.length:Int))=(d:Int):=by rw[hd];exact(Int.natCast_ediv p bs.length).symm
   obtain⟨cp,cp0,cp1⟩:=hcell r1 h1;obtain⟨cq,cq0,cq1⟩:=hcell r2 h2;generalize bs[r1]=x at cp cp0 cp1;generalize bs[r2]=y at cq cq0 cq1;clear hcell hr1 hr2 hd;go_enter Tryz.func99,Tryz.ntmps99;go_wp2_with fail;rw[<-hw1]
   go_quiet (fail)
   obtain⟨z,hz⟩: ∃z:Int,z=x*131+y*1117+(p:Int)*29+(d:Int)*53:=⟨_,rfl⟩;rw[<-hz];have hz0:0<=z:=by omega
   have hz1:z < 4611686018427387904:=by omega
   have hx:=q120 z (z / 64) hz0 hz1 (by omega) (by omega);clear hz;generalize hq:bits .xor .i64 z (z / 64)=q at hx;go_wp2_with fail;rw[<-hw1];go_ret;exact⟨_,rfl,Int.emod_nonneg _ (by omega),.inr (Int.emod_lt_of_pos _ (by omega)),HR.out.drewN _,hon.drewN _⟩
theorem j65(w:World)(g m:Nat)(h:Rd w g m)(hm:m < 1125899906842624)(A:Option Addr)(cap:Nat)(ns:List Int)(hl:ns.length<=cap)(hc:cap<=maxLen)(hns:0 < ns.length)(hN:Nums w A ns)(hA: ∀b o,A=some ⟨b,o,none⟩->b≠g):Calls Tryz.prog 110 #[.pointer (some ⟨g,0,none⟩),.slice A ns.length cap] w fun e w'=>
 ∃x:Int,e= .returned (.int .i64 x)/\x∈ns/\Rd w' g (m+1)/\Only [g] w w':=by
 unfold maxLen at hc;rcases hN with hN|⟨b,o,rfl,hb,hcell⟩
 · subst hN
   cases hns
 go_enter Tryz.func110,Tryz.ntmps110;go_wp2_with fail;refine(q60 w g m ns.length h hm).mono ?_;rintro e w1 ⟨i,rfl,h0,h1,hR,hon⟩;obtain⟨j,rfl⟩:=Int.eq_ofNat_of_zero_le h0;have hj:j < ns.length:=by omega
 have hcj:w1.cell? ⟨b,o+j,none⟩=some (.int .i64 ns[j]):=(World.cell?_of_block (w:=w) (a:=⟨b,o+j,none⟩) (hon.block b hb (by have:=hA b o rfl;simpa using this))).trans (hcell j hj);have hmem:=List.getElem_mem hj;generalize ns[j]=x at hcj hmem;clear hcell;go_wp2_with fail;go_ret;exact⟨x,rfl,hmem,hR,hon⟩
theorem q142(w:World)(A:Option Addr)(cap:Nat)(bs:List Int)(hl:bs.length<=cap)(hc:cap<=maxLen)(hB:q51 w w.heap.size A bs):Calls Tryz.prog 51 #[.slice A bs.length cap] w fun e w'=>
 e= .returned (.pointer (some ⟨w.heap.size,0,none⟩))/\Rd w' w.heap.size 0/\Ext w w':=by
 have hc':=hc;unfold maxLen at hc;have hR: ∀(k:Nat) (c:Nat),k<=bs.length->k<=c->c<=maxLen->k<=2000->Rd (w.alloc (.cells #[.slice A k c,.int .i64 0] 100)) w.heap.size 0:=by
  intro k c h1 h2 h3 h4;have hk:(bs.take k).length=k:=by rw[List.length_take];omega
  refine⟨A,c,bs.take k,0, ?_,by omega,h3,by omega,Nat.le_refl _,(hB.take k).ext ((xr w).alloc _)⟩;rw[hk];exact heap_alloc_new w _
 by_cases h2:2000 < bs.length
 · have d:decide ((2000:Int) <(bs.length:Int))=true:=decide_eq_true (by omega)
   have R:=hR 2000 cap (by omega) (by omega) hc' (Nat.le_refl _);go_enter Tryz.func51,Tryz.ntmps51;go_wp2_with fail;go_ret;exact⟨rfl,R,(xr w).alloc _⟩
 · have d:decide ((2000:Int) <(bs.length:Int))=false:=decide_eq_false (by omega)
   have R:=hR bs.length cap (Nat.le_refl _) hl hc' (by omega);go_enter Tryz.func51,Tryz.ntmps51;go_wp2_with fail;go_ret;exact⟨rfl,R,(xr w).alloc _⟩
end Go.Proofs.YtdkamgafpphdjaaGreat
namespace Go.Proofs.YtdkamgafpphdjaaGreat
open Go.RowKit
set_option linter.unusedVariables false
theorem q106{g:Sig}: ∀{ks:List Tr} {d:Int} {t:Tr},j21 g ks d=true->t∈ks->shape g t d=true
 |x::ks,d,t,h,hm=> by
  simp only[j21,Bool.and_eq_true] at h;rcases List.mem_cons.1 hm with rfl|hm
  · exact h.1
  · exact q106 h.2 hm
theorem j31{g:Sig}{k n:Int}{ks:List Tr}{d:Int}(h:shape g (.mk k n ks) d=true):g.ops k=(ks.length:Int)/\0<=n/\n<=g.most k/\ ∀t∈ks,shape g t (d - 1)=true:=by
 simp only[shape,j75,Bool.and_eq_true] at h;have h1:=of_decide_eq_true h.2.1.1;have h2:=q33.1 h.2.1.2;exact⟨h1,h2.1,h2.2,fun t ht=> q106 h.2.2 ht⟩
theorem Ext.below{W a w:World}(h:Ext a w)(hW:W.heap.size<=a.heap.size):Below W.heap.size a w:=⟨h.os,h.tape,h.output,h.size,fun b hb=> h.heap b (Nat.lt_of_lt_of_le hb hW)⟩
theorem Ext.trans'{W a b c:World}(h:Ext a b)(k:Below W.heap.size b c)(hW:a.heap.size<=W.heap.size):Ext a c:=Below.trans h (Below.mono k hW)
theorem Made.three'{w w':World}{e:TypeId}{t:Tr}{u:Value}(h:Made w w' e t u): ∃k n A l c,u= .agg #[.int .i64 k,.int .i64 n,.slice A l c]:=by
 obtain⟨k,n,ks⟩:=t;obtain⟨A,cap,rfl,_⟩:=Made.mk_iff.1 h;exact⟨k,n,A,_,cap,rfl⟩
attribute [local go_sem ↓] Go.wp_at_zero Go.wp_at_succ
end Go.Proofs.YtdkamgafpphdjaaGreat
