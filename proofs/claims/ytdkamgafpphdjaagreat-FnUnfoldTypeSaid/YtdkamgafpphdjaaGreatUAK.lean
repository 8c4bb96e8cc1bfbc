/-
  Lemmas towards the law, 11: Free, DrawFun, Copy, Own.
-/
import Derived.Test.YtdkamgafpphdjaaGreatUAJ
set_option maxHeartbeats 2000000
set_option maxRecDepth 100000
namespace Go.Proofs.YtdkamgafpphdjaaGreat
open Go.RowKit
set_option linter.unusedVariables false
def und(k:Int)(i:Nat):Int:=if i=1/\(k=3\/k=4\/k=13) then 1 else 0
theorem j44(k:Int)(i:Nat):0<=und k i/\und k i<=1:=by unfold und;split <;> omega
def isB(k:Int):Bool:=k==3||k==4||k==13
theorem und_eq(k:Int)(i:Nat):und k i=if((i:Int)==1 && isB k)=true then 1 else 0:=by
 unfold und isB;by_cases h:i=1
 · subst h
   by_cases h3:k=3
   · subst h3;rfl
   · by_cases h4:k=4
     · subst h4;rfl
     · by_cases h13:k=13
       · subst h13;rfl
       · rw[if_neg (by omega),if_neg (by simp[h3,h4,h13])]
 · rw[if_neg (by omega),if_neg (by rw[beq_eq_false_iff_ne.2 (by omega:(i:Int)≠1)];simp)]
theorem y12{g:Sig}{k n:Int}{ks:List Tr}{d:Int}(h:shape g (.mk k n ks) d=true):g.ops k=(ks.length:Int)/\0<=n/\n<=g.most k/\ ∀t∈ks,shape g t (d - 1)=true:=by
 have mem: ∀{ks:List Tr} {d:Int} {t:Tr},j21 g ks d=true->t∈ks->shape g t d=true:=by
  intro ks
  induction ks with
  |nil=> intro d t _ hm;cases hm
  |cons x ks ih=>
   intro d t h hm;simp only[j21,Bool.and_eq_true] at h;rcases List.mem_cons.1 hm with rfl|hm
   · exact h.1
   · exact ih h.2 hm
 simp only[shape,j75,Bool.and_eq_true] at h;have h1:=of_decide_eq_true h.2.1.1;have h2:=q33.1 h.2.1.2;exact⟨h1,h2.1,h2.2,fun t ht=> mem h.2.2 ht⟩
mutual
def mxf:Tr->Int->Int
 | .mk k n ks,b=> max (if k=1/\b<=n then n - b+1 else 0) (mxfs k ks 0 b)
def mxfs:Int->List Tr->Nat->Int->Int
 |_, [],_,_=> 0
 |k,t::ts,i,b=> max (mxf t (b+und k i)) (mxfs k ts (i+1) b)
end
mutual
theorem q63: ∀(t:Tr) (b:Int),0<=mxf t b
 | .mk k n ks,b=> by
  have:=y67 k ks 0 b;simp only[mxf];omega
theorem y67: ∀(k:Int) (ts:List Tr) (i:Nat) (b:Int),0<=mxfs k ts i b
 |_, [],_,_=> by simp[mxfs]
 |k,t::ts,i,b=> by
  have:=y67 k ts (i+1) b;simp only[mxfs];omega
end
theorem y130(k:Int)(w:World):Calls Tryz.prog 162 #[.int .i64 k] w fun e w'=> e= .returned (.bool (isB k))/\w=w':=by
 obtain⟨b3,h3⟩: ∃b,(k==3)=b:=⟨_,rfl⟩;obtain⟨b4,h4⟩: ∃b,(k==4)=b:=⟨_,rfl⟩;obtain⟨b13,h13⟩: ∃b,(k==13)=b:=⟨_,rfl⟩;have e:isB k=(b3||b4||b13):=by unfold isB;rw[h3,h4,h13]
 have E:=hdq e;clear e;cases b3 <;> cases b4 <;> cases b13
 all_goals go_enter Tryz.func162,Tryz.ntmps162
 all_goals go_wp2_with fail
 all_goals go_ret
 all_goals exact⟨by rw[E.out];rfl,rfl⟩
theorem j51(k:Int)(i:Nat)(w:World):Calls Tryz.prog 117 #[.int .i64 k,.int .i64 i] w fun e w'=> e= .returned (.int .i64 (und k i))/\w=w':=by
 obtain⟨b1,h1⟩: ∃b,((i:Int)==1)=b:=⟨_,rfl⟩;have HB:=hdq (y130 k);obtain⟨b2,h2⟩: ∃b,isB k=b:=⟨_,rfl⟩;have E:=hdq (und_eq k i);rw[h1,h2] at E;rw[h2] at HB;clear h2;cases b1 <;> cases b2
 all_goals go_enter Tryz.func117,Tryz.ntmps117
 all_goals go_wp2_with (go_at_call 162;refine(HB.out _).mono ?_;rintro e w1 ⟨rfl,rfl⟩)
 all_goals go_ret
 all_goals exact⟨by rw[E.out];rfl,rfl⟩
theorem y135(k:Int)(i:Nat)(w:World):Calls Tryz.prog 73 #[.int .i64 k,.int .i64 i] w fun e w'=> e= .returned (.bool ((i:Int)==1 && isB k))/\w=w':=by
 obtain⟨b1,h1⟩: ∃b,((i:Int)==1)=b:=⟨_,rfl⟩;obtain⟨b3,h3⟩: ∃b,(k==3)=b:=⟨_,rfl⟩;obtain⟨b4,h4⟩: ∃b,(k==4)=b:=⟨_,rfl⟩;obtain⟨b13,h13⟩: ∃b,(k==13)=b:=⟨_,rfl⟩;have e:((i:Int)==1 && isB k)=(b1 &&(b3||b4||b13)):=by unfold isB;rw[h1,h3,h4,h13]
 have E:=hdq e;clear e;cases b1 <;> cases b3 <;> cases b4 <;> cases b13
 all_goals go_enter Tryz.func73,Tryz.ntmps73
 all_goals go_wp2_with fail
 all_goals go_ret
 all_goals exact⟨by rw[E.out];rfl,rfl⟩
theorem y68(k:Int)(i:Nat)(w:World):Calls Tryz.prog 159 #[.int .i64 k,.int .i64 i] w fun e w'=> e= .returned (.int .i64 (und k i))/\w=w':=by
 have HB:=hdq (y135 k i);have E:=hdq (und_eq k i);obtain⟨b2,h2⟩: ∃b,((i:Int)==1 && isB k)=b:=⟨_,rfl⟩;rw[h2] at E HB;clear h2;cases b2
 all_goals go_enter Tryz.func159,Tryz.ntmps159
 all_goals go_wp2_with (go_at_call 73;refine(HB.out _).mono ?_;rintro e w1 ⟨rfl,rfl⟩)
 all_goals go_ret
 all_goals exact⟨by rw[E.out];rfl,rfl⟩
def MostC(t:Tr):Prop:= ∀(w:World) (v:Value) (b:Int) (d:Int),shape sigT t d=true->Lies w t v->0<=b->b+cnt t<=1000000->Calls Tryz.prog 139 #[v,.int .i64 b] w fun e w'=> e= .returned (.int .i64 (mxf t b))/\Ext w w'
theorem j162: ∀t:Tr,MostC t:=Tr.ind fun k n ks hk=> by
 intro w v b d hsh hin hb0 hb1;obtain⟨A,cap,rfl,hl,hc,hK⟩:=Lies.mk_iff.1 hin;obtain⟨-,hn0,hn1,hsk⟩:=y12 hsh;have hlc:=j16 ks;have hcc:=hc;unfold maxLen at hcc;simp only[cnt] at hb1;have hmost:n<=20:=by
  have:sigT.most k=q28 k:=rfl;rw[this] at hn1;unfold q28 at hn1
  split at hn1
  · omega
  · split at hn1 <;> omega
 have HTOT:=hdq (show mxf (.mk k n ks) b=max (if k=1/\b<=n then n - b+1 else 0) (mxfs k ks 0 b) from by conv=> lhs;unfold mxf);obtain⟨z0,hz0⟩: ∃z0:Int,z0=if k=1/\b<=n then n - b+1 else 0:=⟨_,rfl⟩
 rw[<-hz0] at HTOT;have hzr:0<=z0/\z0<=21:=by rw[hz0];split <;> omega
 obtain⟨b1,d1⟩: ∃b1,(k==1)=b1:=⟨_,rfl⟩;obtain⟨b2,d2⟩: ∃b2,decide (b<=n)=b2:=⟨_,rfl⟩;have hzz:z0=if(b1 && b2)=true then n - b+1 else 0:=by
  rw[hz0,<-d1,<-d2];simp
 clear hz0;cases b1 <;> cases b2
 all_goals simp only[Bool.and_true,Bool.and_false,if_true,Bool.false_eq_true,if_false] at hzz
 all_goals(
  go_enter Tryz.func139,Tryz.ntmps139;go_wp2_with fail;have hx:=(xr w).alloc (.cells #[.int .i64 k,.int .i64 n,.slice A ks.length cap] 25);have hbx:=heap_alloc_new w (.cells #[.int .i64 k,.int .i64 n,.slice A ks.length cap] 25);generalize w.alloc _=w1 at hx hbx
  go_loopw [5,6] (fun q i wr=> ∃(j:Nat) (m:Int),j<=ks.length/\i= .int .i64 j/\q= .int .i64 m/\0<=m/\max z0 (mxfs k ks 0 b)=max m (mxfs k (ks.drop j) j b)/\Ext w1 wr) (fun _ i _=> ks.length -(intOf i).toNat)
  case atStart=> exact⟨0,z0,Nat.zero_le _,rfl,by rw[hzz],hzr.1,rfl,xr _⟩
  case round=>
   obtain⟨j,m,hj,rfl,rfl,hm0,heq,he⟩:=hrel;have HE:=hdq heq;clear heq;have h1r:=hx.trans he;obtain⟨x0,x1,x2,-,-,-⟩:=own3 (he.blk hbx);have hub:=j44 k j;by_cases hlt:j < ks.length
   · obtain⟨b',o,k',n',A',cap',kids,rfl,HK,c0,c1,c2,hkl,hkc,hK',hin',hmem⟩:=hK.get h1r hlt
     have hst:mxfs k (ks.drop j) j b=max (mxf (.mk k' n' kids) (b+und k j)) (mxfs k (ks.drop (j+1)) (j+1) b):=by
      rw[List.drop_eq_getElem_cons hlt,HK.out];conv=> lhs;unfold mxfs
     have hcm:=y14 hmem;have hj':(j:Int) <(ks.length:Int):=by omega
     have HR:=hdq (hk _ hmem);have hsk':=hsk _ hmem;obtain⟨u,hu⟩: ∃u,u=und k j:=⟨_,rfl⟩;have HU:=hdq (fun W=> y68 k j W);rw[<-hu] at HU hub hst;have hnn:=q63 (.mk k' n' kids) (b+u);obtain⟨r,hr⟩: ∃r,r=mxf (.mk k' n' kids) (b+u):=⟨_,rfl⟩;have HQ:=hdq (fun W (hW:Ext wr W)=> HR.out W _ (b+u) _ hsk' (hin'.ext hW) (by omega) (by omega));rw[<-hr] at hst hnn HQ;have HT:=hdq hst;clear hu hst hr HR;have y0:=j23.cell x0;have y2:=j23.cell x2;have y3:=j23.cell c0;have y4:=j23.cell c1;have y5:=j23.cell c2;go_wp2_with fail;refine q15 (by kernel_rfl) (by kernel_rfl) ?_
     repeat (go_big_quiet_step (first|(go_at_call 159;exact j13 (HU.out _)) |(go_at_call 139;exact j58 (HQ.out _ (j23.ext _)))))
     refine wpQuiet_nil ?_;intro w3 hw';obtain⟨⟨_,h3⟩,rfl⟩:=hw';clear y0 y2 y3 y4 y5;obtain⟨g,hg⟩: ∃g,decide (m < r)=g:=⟨_,rfl⟩;have hmx:max m r=if g=true then r else m:=by
      rw[<-hg];by_cases h:m < r
      · rw[if_pos (decide_eq_true h)];omega
      · rw[if_neg (by simpa using h)];omega
     cases g <;> simp only[if_true,Bool.false_eq_true,if_false] at hmx
     all_goals(
      have HM:=hdq hmx;clear hmx;go_wp2_with fail
      go_roundw
      case rel=> exact⟨j+1,_,by omega,by go_num,rfl,by omega,by rw[HE.out,HT.out,<-Int.max_assoc,HM.out],he.trans h3⟩
      case measure=> simp[intOf];omega)
   · go_wp2_with fail
     go_ret;exact⟨by rw[HTOT.out,HE.out,List.drop_of_length_le (by omega)];simp only[mxfs];rw[Int.max_eq_left hm0];rfl,h1r⟩)
def mxV(t:Tr):Int:=if valid sigT t=true then mxf t 0 else -1
theorem j11{g:Sig}{t:Tr}(h:valid g t=true):shape g t 30=true/\cnt t<=400:=by
 unfold valid at h;rw[Bool.and_eq_true] at h;exact⟨h.1,of_decide_eq_true h.2⟩
theorem j34(t:Tr)(w:World)(v:Value)(hin:Lies w t v):Calls Tryz.prog 81 #[v] w fun e w'=> e= .returned (.int .i64 (mxV t))/\Ext w w':=by
 have HS:=hdq (fun W (hW:Ext w W)=> y30 t W v (hin.ext hW));have hM:valid sigT t=true-> ∀W,Ext w W->Calls Tryz.prog 139 #[v,.int .i64 0] W fun e w'=> e= .returned (.int .i64 (mxf t 0))/\Ext W w':=fun h W hW=> by
  have h2:=j11 h;exact j162 t W v 0 30 h2.1 (hin.ext hW) (by omega) (by omega)
 have HV:=hdq (show mxV t=if valid sigT t=true then mxf t 0 else -1 from rfl);obtain⟨s,hs⟩: ∃s,valid sigT t=s:=⟨_,rfl⟩;rw[hs] at hM HS HV;clear hs;have HM:=hdq hM;clear hM;obtain⟨k,n,ks⟩:=t;obtain⟨A,cap,rfl,hl,hc,h⟩:=Lies.mk_iff.1 hin;go_enter Tryz.func81,Tryz.ntmps81;go_wp2_with fail;refine(HS.out _ ((xr w).alloc _)).mono ?_;rintro e w1 ⟨rfl,h1⟩;obtain⟨y0,y1,y2,-,-,-⟩:=own3 h1.newBlk;cases s with
 |false=>
  go_wp2_with fail;go_ret;exact⟨by rw[HV.out];rfl,h1.pre⟩
 |true=>
  have HM':=hdq (HM.out rfl);clear HM;go_wp2_with fail;refine(HM'.out _ h1.pre).mono ?_;rintro e w2 ⟨rfl,h2⟩;go_wp2_with fail;go_ret;exact⟨by rw[HV.out];rfl,h1.pre.trans h2⟩
theorem q141{w:World}{g:Nat}{cs:Array Value}{e:TypeId}{ns:List Int}(hb:w.heap[g]? =some (.cells cs e (0,0)))(hc:cs.toList=ns.map (Value.int .i64)):Nums w (some ⟨g,0,none⟩) ns:=by
 refine .inr ⟨g,0,rfl,q10 hb,fun j hj=> ?_⟩;rw[y10 hb,<-Array.getElem?_toList,hc,Nat.zero_add,List.getElem?_map,List.getElem?_eq_getElem hj]
 rfl
theorem Rd.ext{w w':World}{g m:Nat}(h:Rd w g m)(he:Ext w w'):Rd w' g m:=by
 obtain⟨A,cap,bs,p,hb,h1,h2,h3,h4,hB⟩:=h;exact⟨A,cap,bs,p,he.blk hb,h1,h2,h3,h4,hB.ext he⟩
theorem Rd.lt{w:World}{g m:Nat}(h:Rd w g m):g < w.heap.size:=by
 obtain⟨A,cap,bs,p,hb,_⟩:=h;exact q10 hb
theorem Rd.mono{w:World}{g m m':Nat}(h:Rd w g m)(hm:m<=m'):Rd w g m':=by
 obtain⟨A,cap,bs,p,hb,h1,h2,h3,h4,hB⟩:=h;exact⟨A,cap,bs,p,hb,h1,h2,h3,by omega,hB⟩
end Go.Proofs.YtdkamgafpphdjaaGreat
namespace Go.Proofs.YtdkamgafpphdjaaGreat
open Go.RowKit
set_option linter.unusedVariables false
attribute [local go_sem ↓] Go.wp_at_zero Go.wp_at_succ
def l1CopyC(t:Tr):Prop:= ∀(w:World) (v:Value),Lies w t v->cnt t<=1000000->
 Calls Tryz.prog 72 #[v] w fun e w'=> ∃u,e= .returned u/\Made w w' 25 t u/\Ext w w'
theorem q129:(Tryz.prog.info? 25).map (fun i=>(i.zero,i.size,i.bytes))=some (some (.agg #[.int .i64 0,.int .i64 0,.slice none 0 0]),3,40):=by kernel_rfl
theorem q59: ∀t:Tr,l1CopyC t:=Tr.ind fun k n ks hk=> by
 intro w v hin hcnt;obtain⟨A,cap,rfl,hl,hc,hK⟩:=Lies.mk_iff.1 hin;obtain⟨i0,hi,hz0,hz1,hz2⟩:=info_parts q129;have hcc:=hc;unfold maxLen at hcc;simp only[cnt] at hcnt;have hlc:=j16 ks;go_enter Tryz.func72,Tryz.ntmps72;go_wp2_with fail;obtain⟨w1,hw1⟩: ∃w1,w1=(w.alloc (.cells #[.int .i64 k,.int .i64 n,.slice A ks.length cap] 25)).alloc (.cells #[.int .i64 0,.int .i64 0,.slice none 0 0] 25):=⟨_,rfl⟩;obtain⟨W,hW⟩: ∃W,W=w1.alloc (.cells #[.int .i64 k,.int .i64 n,.slice none 0 0] 25):=⟨_,rfl⟩;have hs1:w1.heap.size=w.heap.size+1+1:=by rw[hw1];simp
 have hsW:W.heap.size=w.heap.size+3:=by rw[hW];simp;omega
 have hE1:Ext w w1:=hw1▸((xr w).alloc _).alloc _;have hEW:Ext w1 W:=hW▸(xr w1).alloc _;have hbR:w1.heap[w.heap.size+1]? =some (.cells #[.int .i64 0,.int .i64 0,.slice none 0 0] 25 (0,0)):=by
  rw[hw1];exact(blk2 (xr _)).2.1
 have hbO:W.heap[w.heap.size+1+1]? =some (.cells #[.int .i64 k,.int .i64 n,.slice none 0 0] 25 (0,0)):=by
  have:=heap_alloc_new w1 (.cells #[.int .i64 k,.int .i64 n,.slice none 0 0] 25);rw[hs1] at this;rw[hW];exact this
 have hbT:w1.heap[w.heap.size]? =some (.cells #[.int .i64 k,.int .i64 n,.slice A ks.length cap] 25 (0,0)):=by
  rw[hw1];exact(blk2 (xr _)).1
 rw[<-hw1,<-hW];clear hW hw1
 go_loopw [4] (fun i wr=> ∃(j:Nat) (v:Value),j<=ks.length/\i= .int .i64 j/\wr.heap[w.heap.size+1+1]? =some (.cells #[.int .i64 k,.int .i64 n,v] 25 (0,0))/\Grow W wr 25 v (ks.take j)/\Ext w1 wr/\W.heap.size<=wr.heap.size) (fun i _=> ks.length -(intOf i).toNat)
 case atStart=> exact⟨0,_,Nat.zero_le _,rfl,hbO,Grow.nil _ _ _,hEW,Nat.le_refl _⟩
 case round=>
  obtain⟨j,v,hj,rfl,hbv,hG,he,hle⟩:=hrel;by_cases hlt:j < ks.length
  · obtain⟨b,o,k',n',A',cap',kids,rfl,HK,c0,c1,c2,hkl,hkc,hK',hin',hmem⟩:=hK.get (hE1.trans he) hlt
    have htk:=List.take_append_getElem hlt;rw[HK.out] at htk;have hcm:=y14 hmem;have hlen:(ks.take j).length < 1099511627776:=by rw[List.length_take];omega
    have hlj:(ks.take j).length=j:=by rw[List.length_take];omega
    have HL:=hdq hlj;have hbT2:=he.blk hbT;obtain⟨-,-,t2,-,-,-⟩:=own3 hbT2;have hj':(j:Int) <(ks.length:Int):=by omega
    go_wp2_with fail;have hle2:=hle;have hG2:=hG;have hbv2:=hbv;have hv:=y10 hbv2 2;have hcells: ∀w',Below W.heap.size wr w'->w'.heap[w.heap.size+1+1]? =some (.cells #[.int .i64 k,.int .i64 n,v] 25 (0,0)):=fun w' hB=>(hB.block (w.heap.size+1+1) (by omega)).trans hbv2
    have HCells:=hdq hcells;have hEd:Ext wr wr.drew:=(xr wr).drew;have hinD:=hin'.ext hEd;have he2:=he;clear hcells hlj hbv hG he hle hcc
    go_region_law (first|(go_simp;go_at_call 72;refine(hk _ hmem _ _ hinD (by omega)).mono ?_;rintro e w4 ⟨u,rfl,hM,h4⟩;obtain⟨a1,a2,a3,a4,a5,rfl⟩:=hM.three';have hv4:=y10 (HCells.out _ ((hEd.trans h4).below hle2)) 2;have hs4:=World.block_lt_of_cell? _ _ hv4) |(refine y24 _ (by rfl) (.tmp 18) (.tmp 25) _ (by rfl) 25 i0 _ Tryz.underlying23 hi hz0 hz1 hz2 rfl (by rfl) hG2 hle2 (hEd.trans h4) (hM.since (Nat.le_refl _)) ((xr _).alloc _) (by rfl) (heap_alloc_new _ _) hlen ?_;intro v' w5 hG5 hB5;obtain⟨B5,c5,rfl,q1,q2,-⟩:=hG5.made;have hv5:=y10 (HCells.out _ hB5) 2;have hf5:=q12 (HCells.out _ hB5) 2))
    all_goals(
     have hE5:Ext w1 w5:=he2.trans' hB5 (by omega);have hs5:=hB5.size;have hb6:=HCells.out _ hB5;rw[List.length_append,List.length_singleton,htk,show(ks.take j).length+1=min (j+1) ks.length from by rw[List.length_take];omega] at hG5;have hGs:=fun u=> hG5.after ((q23.refl W.heap.size w5).setCell (p:=⟨w.heap.size+1+1,2,none⟩) (by show w.heap.size+1+1 < W.heap.size;omega) u)
     clear hv4 hs4 hv HCells hM h4 c0 c1 c2 t2;go_wp2_with fail
     go_roundw
     case rel=> exact⟨j+1,_,by omega,by go_num,q11 hb6 2 _,hGs _,hE5.setCell (by show _<=w.heap.size+1+1;omega) _,by simp;omega⟩
     case measure=> simp[intOf];omega)
  · obtain⟨B5,c5,rfl,q1,q2,hMK⟩:=hG.made
    have hjl:j=ks.length:=by omega
    have hln:(ks.take j).length=ks.length:=by rw[hjl,List.take_length]
    obtain⟨r0,r1,r2,-,-,-⟩:=own3 hbv;have hbT2:=he.blk hbT;obtain⟨-,-,t2,-,-,-⟩:=own3 hbT2;have hbR':=he.blk hbR;obtain⟨s0,s1,s2,f0,f1,f2⟩:=own3 hbR';rw[hln] at q1 r2;rw[show ks.take j=ks from by rw[hjl,List.take_length]] at hMK;clear hln hbv;go_wp2_with fail;refine bodyPost_ret (v:= .agg #[.int .i64 k,.int .i64 n,.slice B5 ks.length c5]) (by simp[results,Tryz.results72,go_sem,s0,s1,s2]) rfl ⟨_,rfl, ?_, ?_⟩
    · exact Made.since (Made.after (Made.mk q1 q2 hMK) ((((q23.refl _ _).setCell (by show w.heap.size+1 < _;omega) _).setCell (by show w.heap.size+1 < _;omega) _).setCell (by show w.heap.size+1 < _;omega) _)) (by omega)
    · exact((((hE1.trans he).setCell (by simp) _).setCell (by simp) _).setCell (by simp) _)
def ownC(t:Tr):Prop:= ∀(w:World) (v:Value),Lies w t v->cnt t<=1000000->
 Calls Tryz.prog 65 #[v] w fun e w'=> ∃u,e= .returned u/\Made w w' 25 t u/\Ext w w'
theorem y174:(Tryz.prog.info? 25).map (fun i=>(i.zero,i.size,i.bytes))=some (some (.agg #[.int .i64 0,.int .i64 0,.slice none 0 0]),3,40):=by kernel_rfl
theorem q35: ∀t:Tr,ownC t:=Tr.ind fun k n ks hk=> by
 intro w v hin hcnt;obtain⟨A,cap,rfl,hl,hc,hK⟩:=Lies.mk_iff.1 hin;obtain⟨i0,hi,hz0,hz1,hz2⟩:=info_parts y174;have hcc:=hc;unfold maxLen at hcc;simp only[cnt] at hcnt;have hlc:=j16 ks;go_enter Tryz.func65,Tryz.ntmps65;go_wp2_with fail;obtain⟨w1,hw1⟩: ∃w1,w1=(w.alloc (.cells #[.int .i64 k,.int .i64 n,.slice A ks.length cap] 25)).alloc (.cells #[.int .i64 0,.int .i64 0,.slice none 0 0] 25):=⟨_,rfl⟩;obtain⟨W,hW⟩: ∃W,W=w1.alloc (.cells #[.int .i64 k,.int .i64 n,.slice none 0 0] 25):=⟨_,rfl⟩;have hs1:w1.heap.size=w.heap.size+1+1:=by rw[hw1];simp
 have hsW:W.heap.size=w.heap.size+3:=by rw[hW];simp;omega
 have hE1:Ext w w1:=hw1▸((xr w).alloc _).alloc _;have hEW:Ext w1 W:=hW▸(xr w1).alloc _;have hbR:w1.heap[w.heap.size+1]? =some (.cells #[.int .i64 0,.int .i64 0,.slice none 0 0] 25 (0,0)):=by
  rw[hw1];exact(blk2 (xr _)).2.1
 have hbO:W.heap[w.heap.size+1+1]? =some (.cells #[.int .i64 k,.int .i64 n,.slice none 0 0] 25 (0,0)):=by
  have:=heap_alloc_new w1 (.cells #[.int .i64 k,.int .i64 n,.slice none 0 0] 25);rw[hs1] at this;rw[hW];exact this
 rw[<-hw1,<-hW];clear hW hw1
 go_loopw [14] (fun i wr=> ∃(j:Nat) (v:Value),j<=ks.length/\i= .int .i64 j/\wr.heap[w.heap.size+1+1]? =some (.cells #[.int .i64 k,.int .i64 n,v] 25 (0,0))/\Grow W wr 25 v (ks.take j)/\Ext w1 wr/\W.heap.size<=wr.heap.size) (fun i _=> ks.length -(intOf i).toNat)
 case atStart=> exact⟨0,_,Nat.zero_le _,rfl,hbO,Grow.nil _ _ _,hEW,Nat.le_refl _⟩
 case round=>
  obtain⟨j,v,hj,rfl,hbv,hG,he,hle⟩:=hrel;by_cases hlt:j < ks.length
  · obtain⟨b,o,k',n',A',cap',kids,rfl,HK,c0,c1,c2,hkl,hkc,hK',hin',hmem⟩:=hK.get (hE1.trans he) hlt
    have htk:=List.take_append_getElem hlt;rw[HK.out] at htk;have hcm:=y14 hmem;have hlen:(ks.take j).length < 1099511627776:=by rw[List.length_take];omega
    have hlj:(ks.take j).length=j:=by rw[List.length_take];omega
    have HL:=hdq hlj;go_wp2_with fail;have hx:=(xr wr).alloc (.cells #[.int .i64 k',.int .i64 n',.slice A' kids.length cap'] 25);have hb5:=heap_alloc_new wr (.cells #[.int .i64 k',.int .i64 n',.slice A' kids.length cap'] 25);generalize wr.alloc _=w2 at hx hb5;have hle2:W.heap.size<=w2.heap.size:=by have:=hx.size;omega
    have hG2:=hG.ext hx;have hbv2:=hx.blk hbv;have hv:=y10 hbv2 2;have hcells: ∀w',Below W.heap.size w2 w'->w'.heap[w.heap.size+1+1]? =some (.cells #[.int .i64 k,.int .i64 n,v] 25 (0,0)):=fun w' hB=>(hB.block (w.heap.size+1+1) (by omega)).trans hbv2
    have HCells:=hdq hcells;obtain⟨d0,d1,d2,-,-,-⟩:=own3 hb5;have hEd:Ext w2 w2.drew:=(xr w2).drew;have hinD:=(hin'.ext hx).ext hEd;have he2:=he.trans hx;clear hcells hlj c0 c1 c2 hbv hG he hle hcc
    go_region_law (first|(go_simp;go_at_call 65;refine(hk _ hmem _ _ hinD (by omega)).mono ?_;rintro e w4 ⟨u,rfl,hM,h4⟩;obtain⟨a1,a2,a3,a4,a5,rfl⟩:=hM.three';have hv4:=y10 (HCells.out _ ((hEd.trans h4).below hle2)) 2;have hs4:=World.block_lt_of_cell? _ _ hv4) |(refine y24 _ (by rfl) (.tmp 19) (.tmp 22) _ (by rfl) 25 i0 _ Tryz.underlying23 hi hz0 hz1 hz2 rfl (by rfl) hG2 hle2 (hEd.trans h4) (hM.since (Nat.le_refl _)) ((xr _).alloc _) (by rfl) (heap_alloc_new _ _) hlen ?_;intro v' w5 hG5 hB5;obtain⟨B5,c5,rfl,q1,q2,-⟩:=hG5.made;have hv5:=y10 (HCells.out _ hB5) 2;have hf5:=q12 (HCells.out _ hB5) 2))
    all_goals(
     have hE5:Ext w1 w5:=he2.trans' hB5 (by omega);have hs5:=hB5.size;have hb6:=HCells.out _ hB5;rw[List.length_append,List.length_singleton,htk,show(ks.take j).length+1=min (j+1) ks.length from by rw[List.length_take];omega] at hG5;have hGs:=fun u=> hG5.after ((q23.refl W.heap.size w5).setCell (p:=⟨w.heap.size+1+1,2,none⟩) (by show w.heap.size+1+1 < W.heap.size;omega) u)
     clear hv4 hs4 hv HCells hM h4 d0 d1 d2 hb5;go_wp2_with fail
     go_roundw
     case rel=> exact⟨j+1,_,by omega,by go_num,q11 hb6 2 _,hGs _,hE5.setCell (by show _<=w.heap.size+1+1;omega) _,by simp;omega⟩
     case measure=> simp[intOf];omega)
  · obtain⟨B5,c5,rfl,q1,q2,hMK⟩:=hG.made
    have hjl:j=ks.length:=by omega
    have hln:(ks.take j).length=ks.length:=by rw[hjl,List.take_length]
    obtain⟨r0,r1,r2,-,-,-⟩:=own3 hbv;have hbR':=he.blk hbR;obtain⟨s0,s1,s2,f0,f1,f2⟩:=own3 hbR';rw[hln] at q1 r2;rw[show ks.take j=ks from by rw[hjl,List.take_length]] at hMK;clear hln hbv;go_wp2_with fail;refine bodyPost_ret (v:= .agg #[.int .i64 k,.int .i64 n,.slice B5 ks.length c5]) (by simp[results,Tryz.results65,go_sem,s0,s1,s2]) rfl ⟨_,rfl, ?_, ?_⟩
    · exact Made.since (Made.after (Made.mk q1 q2 hMK) ((((q23.refl _ _).setCell (by show w.heap.size+1 < _;omega) _).setCell (by show w.heap.size+1 < _;omega) _).setCell (by show w.heap.size+1 < _;omega) _)) (by omega)
    · exact((((hE1.trans he).setCell (by simp) _).setCell (by simp) _).setCell (by simp) _)
end Go.Proofs.YtdkamgafpphdjaaGreat
