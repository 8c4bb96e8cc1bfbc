/-
  Lemmas towards the law, 11: Copy, Fvs, Ints2, SpExtract.
-/
import Derived.Test.YtdkamgafpphdjaaGreatTAJ
namespace Go.Proofs.YtdkamgafpphdjaaGreat
open Go.RowKit
set_option linter.unusedVariables false
attribute [local go_sem ↓] Go.wp_at_zero Go.wp_at_succ
def l1CopyC(t:Tr):Prop:= ∀(w:World) (v:Value),Lies w t v->cnt t<=1000000->
 Calls Tryz.prog 72 #[v] w fun e w'=> ∃u,e= .returned u/\Made w w' 25 t u/\Ext w w'
theorem j128:(Tryz.prog.info? 25).map (fun i=>(i.zero,i.size,i.bytes))=some (some (.agg #[.int .i64 0, .int .i64 0, .slice none 0 0]),3,40):=by kernel_rfl
set_option maxRecDepth 100000 in
set_option maxHeartbeats 2000000 in
theorem q40: ∀t:Tr,l1CopyC t:=Tr.ind fun k n ks hk=> by
 intro w v hin hcnt;obtain⟨A,cap,rfl,hl,hc,hK⟩:=Lies.mk_iff.1 hin;obtain⟨i0,hi,hz0,hz1,hz2⟩:=info_parts j128;have hcc:=hc;unfold maxLen at hcc;simp only[cnt] at hcnt;have hlc:=y20 ks;go_enter Tryz.func72,Tryz.ntmps72;go_wp2_with fail;obtain⟨w1,hw1⟩: ∃w1,w1=(w.alloc (.cells #[.int .i64 k, .int .i64 n, .slice A ks.length cap] 25)).alloc (.cells #[.int .i64 0, .int .i64 0, .slice none 0 0] 25):=⟨_,rfl⟩;obtain⟨W,hW⟩: ∃W,W=w1.alloc (.cells #[.int .i64 k, .int .i64 n, .slice none 0 0] 25):=⟨_,rfl⟩;have hs1:w1.heap.size=w.heap.size+1+1:=by rw[hw1];simp
 have hsW:W.heap.size=w.heap.size+3:=by rw[hW];simp;omega
 have hE1:Ext w w1:=hw1▸((xr w).alloc _).alloc _;have hEW:Ext w1 W:=hW▸(xr w1).alloc _;have hbR:w1.heap[w.heap.size+1]? =some (.cells #[.int .i64 0, .int .i64 0, .slice none 0 0] 25 (0,0)):=by
  rw[hw1];exact(blk2 (xr _)).2.1
 have hbO:W.heap[w.heap.size+1+1]? =some (.cells #[.int .i64 k, .int .i64 n, .slice none 0 0] 25 (0,0)):=by
  have:=heap_alloc_new w1 (.cells #[.int .i64 k, .int .i64 n, .slice none 0 0] 25);rw[hs1] at this;rw[hW];exact this
 have hbT:w1.heap[w.heap.size]? =some (.cells #[.int .i64 k, .int .i64 n, .slice A ks.length cap] 25 (0,0)):=by
  rw[hw1];exact(blk2 (xr _)).1
 rw[<-hw1,<-hW];clear hW hw1
 go_loopw [4] (fun i wr=> ∃(j:Nat) (v:Value),j<=ks.length/\i= .int .i64 j/\wr.heap[w.heap.size+1+1]? =some (.cells #[.int .i64 k, .int .i64 n,v] 25 (0,0))/\Grow W wr 25 v (ks.take j)/\Ext w1 wr/\W.heap.size<=wr.heap.size) (fun i _=> ks.length -(intOf i).toNat)
 case atStart=> exact⟨0,_,Nat.zero_le _,rfl,hbO,Grow.nil _ _ _,hEW,Nat.le_refl _⟩
 case round=>
  obtain⟨j,v,hj,rfl,hbv,hG,he,hle⟩:=hrel;by_cases hlt:j < ks.length
  · obtain⟨b,o,k',n',A',cap',kids,rfl,HK,c0,c1,c2,hkl,hkc,hK',hin',hmem⟩:=hK.get (hE1.trans he) hlt
    have htk:=List.take_append_getElem hlt;rw[HK.out] at htk;have hcm:=y15 hmem;have hlen:(ks.take j).length < 1099511627776:=by rw[List.length_take];omega
    have hlj:(ks.take j).length=j:=by rw[List.length_take];omega
    have HL:=hdq hlj;have hbT2:=he.blk hbT;obtain⟨-,-,t2,-,-,-⟩:=own3 hbT2;have hj':(j:Int) <(ks.length:Int):=by omega
    go_wp2_with fail;have hle2:=hle;have hG2:=hG;have hbv2:=hbv;have hv:=y10 hbv2 2;have hcells: ∀w',Below W.heap.size wr w'->w'.heap[w.heap.size+1+1]? =some (.cells #[.int .i64 k, .int .i64 n,v] 25 (0,0)):=fun w' hB=>(hB.block (w.heap.size+1+1) (by omega)).trans hbv2
    have HCells:=hdq hcells;have hEd:Ext wr wr.drew:=(xr wr).drew;have hinD:=hin'.ext hEd;have he2:=he;clear hcells hlj hbv hG he hle hcc
    go_region_law (first|(go_simp;go_at_call 72;refine(hk _ hmem _ _ hinD (by omega)).mono ?_;rintro e w4 ⟨u,rfl,hM,h4⟩;obtain⟨a1,a2,a3,a4,a5,rfl⟩:=hM.three';have hv4:=y10 (HCells.out _ ((hEd.trans h4).below hle2)) 2;have hs4:=World.block_lt_of_cell? _ _ hv4) |(refine y38 _ (by rfl) (.tmp 18) (.tmp 25) _ (by rfl) 25 i0 _ Tryz.underlying23 hi hz0 hz1 hz2 rfl (by rfl) hG2 hle2 (hEd.trans h4) (hM.since (Nat.le_refl _)) ((xr _).alloc _) (by rfl) (heap_alloc_new _ _) hlen ?_;intro v' w5 hG5 hB5;obtain⟨B5,c5,rfl,q1,q2,-⟩:=hG5.made;have hv5:=y10 (HCells.out _ hB5) 2;have hf5:=y12 (HCells.out _ hB5) 2))
    all_goals(
     have hE5:Ext w1 w5:=he2.trans' hB5 (by omega);have hs5:=hB5.size;have hb6:=HCells.out _ hB5;rw[List.length_append,List.length_singleton,htk,show(ks.take j).length+1=min (j+1) ks.length from by rw[List.length_take];omega] at hG5;have hGs:=fun u=> hG5.after ((y28.refl W.heap.size w5).setCell (p:=⟨w.heap.size+1+1,2,none⟩) (by show w.heap.size+1+1 < W.heap.size;omega) u)
     clear hv4 hs4 hv HCells hM h4 c0 c1 c2 t2;go_wp2_with fail
     go_roundw
     case rel=> exact⟨j+1,_,by omega,by go_num,q11 hb6 2 _,hGs _,hE5.setCell (by show _<=w.heap.size+1+1;omega) _,by simp;omega⟩
     case measure=> simp[intOf];omega)
  · obtain⟨B5,c5,rfl,q1,q2,hMK⟩:=hG.made
    have hjl:j=ks.length:=by omega
    have hln:(ks.take j).length=ks.length:=by rw[hjl,List.take_length]
    obtain⟨r0,r1,r2,-,-,-⟩:=own3 hbv;have hbT2:=he.blk hbT;obtain⟨-,-,t2,-,-,-⟩:=own3 hbT2;have hbR':=he.blk hbR;obtain⟨s0,s1,s2,f0,f1,f2⟩:=own3 hbR';rw[hln] at q1 r2;rw[show ks.take j=ks from by rw[hjl,List.take_length]] at hMK;clear hln hbv;go_wp2_with fail;refine bodyPost_ret (v:= .agg #[.int .i64 k, .int .i64 n, .slice B5 ks.length c5]) (by simp[results,Tryz.results72,go_sem,s0,s1,s2]) rfl ⟨_,rfl, ?_, ?_⟩
    · exact Made.since (Made.after (Made.mk q1 q2 hMK) ((((y28.refl _ _).setCell (by show w.heap.size+1 < _;omega) _).setCell (by show w.heap.size+1 < _;omega) _).setCell (by show w.heap.size+1 < _;omega) _)) (by omega)
    · exact((((hE1.trans he).setCell (by simp) _).setCell (by simp) _).setCell (by simp) _)
end Go.Proofs.YtdkamgafpphdjaaGreat
namespace Go.Proofs.YtdkamgafpphdjaaGreat
open Go.RowKit
set_option linter.unusedVariables false
theorem q143(k:Int):sigT.most k<=20:=by
 show q31 k<=20
 unfold q31
 split
 · omega
 · split <;> omega
end Go.Proofs.YtdkamgafpphdjaaGreat
namespace Go.Proofs.YtdkamgafpphdjaaGreat
open Go.RowKit
set_option linter.unusedVariables false
theorem Only.grown'{L:List Nat}{a w w':World}{row:Option Nat}(h:Only L a w)(hg:w.grownBy w' row)(hr: ∀k,row=some k->k∈L\/a.heap.size<=k):Only L a w':=
 ⟨hg.os.trans h.os,hg.tape.trans h.tape,hg.output.trans h.output,Nat.le_trans h.size hg.size,fun i hi hn=>(hg.block i (Nat.lt_of_lt_of_le hi h.size) (fun he=> by rcases hr i he.symm with h1|h1;exact hn h1;omega)).trans (h.block i hi hn)⟩
theorem y24{w:World}{base:Nat}{e:TypeId}{v:Value}{ns:List Int}(hG:w.ownsRow base e 1 v ns.length (ns.map (Value.int .i64))): ∃B c,v= .slice B ns.length c/\ns.length<=c/\c<=maxLen/\Nums w B ns:=by
 have hcl:=fun g' hg'=> hG.cells (g:=g') hg'
 rcases hG.2 with⟨rfl,h0⟩ |⟨g',c',cur,rfl,hb',hg',hn',hm',_⟩
 · obtain rfl:ns= []:=List.eq_nil_of_length_eq_zero h0
   exact⟨none,0,rfl,Nat.le_refl _,Nat.zero_le _, .inl rfl⟩
 · refine⟨_,c',rfl,hn',hm', .inr ⟨g',0,rfl,q10 hg',fun jj hjj=> ?_⟩⟩
   have:=hcl g' rfl jj (.int .i64 ns[jj]) (by rw[List.getElem?_map,List.getElem?_eq_getElem hjj];rfl)
   rwa [Addr.add_lit] at this
end Go.Proofs.YtdkamgafpphdjaaGreat
namespace Go.Proofs.YtdkamgafpphdjaaGreat
open Go.RowKit
set_option linter.unusedVariables false
theorem InK.two{w:World}{S:Nat->Prop}{e:TypeId}{t t':Tr}{v0 v1 v2 u0 u1 u2:Value}{g:Nat}(h:InT w S t (.agg #[v0,v1,v2]))(h':InT w S t' (.agg #[u0,u1,u2]))(hg:w.heap[g]? =some (.cells #[v0,v1,v2,u0,u1,u2] e (0,0)))(hS:S g):InK w S (some ⟨g,0,none⟩) [t,t']:=by
 refine .inr ⟨g,0,rfl,hS, ?_⟩;unfold InL;refine⟨⟨v0,v1,v2,y10 hg 0,y10 hg 1,y10 hg 2,h⟩, ?_⟩;unfold InL;refine⟨⟨u0,u1,u2,y10 hg 3,y10 hg 4,y10 hg 5,h'⟩, ?_⟩;unfold InL
 trivial
theorem InT.three{w:World}{S:Nat->Prop}{t:Tr}{u:Value}(h:InT w S t u): ∃k n A l c,u= .agg #[.int .i64 k, .int .i64 n, .slice A l c]:=by
 obtain⟨k,n,ks⟩:=t;obtain⟨A,cap,rfl,_⟩:=InT.mk_iff.1 h;exact⟨k,n,A,_,cap,rfl⟩
end Go.Proofs.YtdkamgafpphdjaaGreat
