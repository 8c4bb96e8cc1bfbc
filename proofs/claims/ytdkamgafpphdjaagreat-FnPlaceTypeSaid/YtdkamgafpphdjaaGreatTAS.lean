/-
  Lemmas towards the law, 19: Parse4, Box, OrdT, Places, Parse5.
-/
import Derived.Test.YtdkamgafpphdjaaGreatTAQ
import Derived.Test.YtdkamgafpphdjaaGreatTAR
import Derived.Lib.SliceRun
namespace Go.Proofs.YtdkamgafpphdjaaGreat
open Go.RowKit
set_option linter.unusedVariables false
theorem y79(d:Nat)(ih:q29 d)(s:ByteArray)(a many:Nat)(last:UInt8)(A M L:Int)(hA:A=a)(hM:M=many)(hL:L=(last.toNat:Int))(w:World)(hs:s.size<=1000000000)(ha:a<=s.size+2)(hm:many<=4)(hm1:1<=many):
 Calls Tryz.prog 220 #[.string s, .int .i64 A, .int .i64 d, .int .i64 M, .int .u8 L] w (SerQ w.heap.size w s.size (ser (prs d s.data.toList) s.data.toList last many a)):=by
 subst hA hM hL;exact q161 d ih s a many last w hs ha hm hm1
theorem j63(B:Nat)(w w':World)(size:Nat)(o:Option (Tr×Nat))(ho:o=none)(hx:Ext w w'):j19 B w size o (.returned (.tuple #[.agg #[.int .i64 0, .int .i64 0, .slice none 0 0], .int .i64 (-1)])) w':=
 ⟨.mk 0 0 [],_,-1,rfl,From.leaf _ _ _ _,hx,(fun x hx=> by rw[ho] at hx;cases hx),fun _=> rfl⟩
theorem y13.set{B:Nat}{w:World}{A:Option Addr}{ks:List Tr}(h:y13 B w A ks){p:Addr}(hp:p.block < B)(u:Value):y13 B (w.setCell p u) A ks:=
 h.mono (fun b hb=>⟨hb.1,by simpa using hb.2⟩) (fun b hb=> Below.heap_setCell w p u b (by omega))
theorem From.mk{B:Nat}{w:World}{A:Option Addr}{ks:List Tr}{cap:Nat}(k n:Int)(h:y13 B w A ks)(hl:ks.length<=cap)(hc:cap<=maxLen):From B w (.mk k n ks) (.agg #[.int .i64 k, .int .i64 n, .slice A ks.length cap]):=InT.mk_iff.2 ⟨A,cap,rfl,hl,hc,h⟩
set_option maxRecDepth 100000 in
set_option maxHeartbeats 1000000 in
theorem j218(d:Nat)(hd:d<=30)(ih:q29 d)(s:ByteArray)(a:Nat)(w:World)(hs:s.size<=1000000000)(ha:a < s.size)(hc:s[a]=60):
 Calls Tryz.prog 210 #[.string s, .int .i64 a, .int .i64 ((d:Int)+1)] w (j19 w.heap.size w s.size (blk (prs d s.data.toList) s.data.toList a 60)):=by
 have HI:=hdq (fun W=> y79 d ih s (a+1) 4 62 ((a:Int)+1) 4 62 (by omega) (by omega) (by decide) W hs (by omega) (by omega) (by omega));obtain⟨F,hF⟩: ∃F,F=prs d s.data.toList:=⟨_,rfl⟩;rw[<-hF] at HI⊢;obtain⟨S,hS⟩: ∃S,S=ser F s.data.toList 62 4 (a+1):=⟨_,rfl⟩;rw[<-hS] at HI;have hR:blk F s.data.toList a 60=S.map (fun x=>(.mk 9 0 x.1,x.2)):=by rw[hS];rfl
 rw[hR];have HK:=hdq (fun W=> q24 9 W);have hop:opsT 9=4:=rfl;rw[hop] at HK;clear hR ih hF hS hop;go_enter Tryz.func210,Tryz.ntmps210;go_wp2_with fail;refine(HK.out _).mono ?_;rintro e w0 ⟨rfl,rfl⟩;go_wp2_with fail;refine(HI.out _).mono ?_;rintro e w1 ⟨ts,A,cap,nx,rfl,h1,h2,hK,e1,q1,q2⟩;obtain⟨s0,s1,s2,f0,f1,f2⟩:=own3 e1.newBlk;have hsz:=e1.size_alloc;have hx:=((xr w).alloc (.cells #[.int .i64 0, .int .i64 0, .slice none 0 0] 25)).trans e1;have HQ1:=hdq q1;have HQ2:=hdq q2;have hK':y13 (w.heap.size+1) w1 A ts:=by simpa using hK
 clear q1 q2 hK;go_wp2_with fail;refine bodyPost_ret (v:= .tuple #[.agg #[.int .i64 9, .int .i64 0, .slice A ts.length cap], .int .i64 nx]) (by simp[results,Tryz.results210,go_sem,s0,s1,s2]) rfl ⟨.mk 9 0 ts,_,nx,rfl, ?_, ?_, ?_, ?_⟩
 · exact(From.mk 9 0 (((hK'.set (by simp) _).set (by simp) _).set (by simp) _) h1 h2).since (by omega)
 · exact((hx.setCell (by simp) _).setCell (by simp) _).setCell (by simp) _
 · intro x hx
   cases S with
   |none=> cases hx
   |some y=>
    obtain⟨g1,g2,g3⟩:=HQ1.out y rfl;cases hx
    exact⟨by rw[g1],g2,g3⟩
 · intro hx
   cases S with
   |none=> exact HQ2.out rfl
   |some y=> cases hx
set_option maxRecDepth 100000 in
set_option maxHeartbeats 1000000 in
theorem q199(d:Nat)(hd:d<=30)(ih:q29 d)(s:ByteArray)(a:Nat)(w:World)(hs:s.size<=1000000000)(ha:a < s.size)(hc:s[a]=123):
 Calls Tryz.prog 210 #[.string s, .int .i64 a, .int .i64 ((d:Int)+1)] w (j19 w.heap.size w s.size (blk (prs d s.data.toList) s.data.toList a 123)):=by
 have HI:=hdq (fun W=> y79 d ih s (a+1) 3 125 ((a:Int)+1) 3 125 (by omega) (by omega) (by decide) W hs (by omega) (by omega) (by omega));obtain⟨F,hF⟩: ∃F,F=prs d s.data.toList:=⟨_,rfl⟩;rw[<-hF] at HI⊢;obtain⟨S,hS⟩: ∃S,S=ser F s.data.toList 125 3 (a+1):=⟨_,rfl⟩;rw[<-hS] at HI;have hR:blk F s.data.toList a 123=S.map (fun x=>(.mk 10 0 x.1,x.2)):=by rw[hS];rfl
 rw[hR];have HK:=hdq (fun W=> q24 10 W);have hop:opsT 10=3:=rfl;rw[hop] at HK;clear hR ih hF hS hop;go_enter Tryz.func210,Tryz.ntmps210;go_wp2_with fail;refine(HK.out _).mono ?_;rintro e w0 ⟨rfl,rfl⟩;go_wp2_with fail;refine(HI.out _).mono ?_;rintro e w1 ⟨ts,A,cap,nx,rfl,h1,h2,hK,e1,q1,q2⟩;obtain⟨s0,s1,s2,f0,f1,f2⟩:=own3 e1.newBlk;have hsz:=e1.size_alloc;have hx:=((xr w).alloc (.cells #[.int .i64 0, .int .i64 0, .slice none 0 0] 25)).trans e1;have HQ1:=hdq q1;have HQ2:=hdq q2;have hK':y13 (w.heap.size+1) w1 A ts:=by simpa using hK
 clear q1 q2 hK;go_wp2_with fail;refine bodyPost_ret (v:= .tuple #[.agg #[.int .i64 10, .int .i64 0, .slice A ts.length cap], .int .i64 nx]) (by simp[results,Tryz.results210,go_sem,s0,s1,s2]) rfl ⟨.mk 10 0 ts,_,nx,rfl, ?_, ?_, ?_, ?_⟩
 · exact(From.mk 10 0 (((hK'.set (by simp) _).set (by simp) _).set (by simp) _) h1 h2).since (by omega)
 · exact((hx.setCell (by simp) _).setCell (by simp) _).setCell (by simp) _
 · intro x hx
   cases S with
   |none=> cases hx
   |some y=>
    obtain⟨g1,g2,g3⟩:=HQ1.out y rfl;cases hx
    exact⟨by rw[g1],g2,g3⟩
 · intro hx
   cases S with
   |none=> exact HQ2.out rfl
   |some y=> cases hx
set_option maxRecDepth 100000 in
set_option maxHeartbeats 1000000 in
theorem y187(d:Nat)(hd:d<=30)(ih:q29 d)(s:ByteArray)(a:Nat)(w:World)(hs:s.size<=1000000000)(ha:a < s.size)(hc:s[a]=124):
 Calls Tryz.prog 210 #[.string s, .int .i64 a, .int .i64 ((d:Int)+1)] w (j19 w.heap.size w s.size (blk (prs d s.data.toList) s.data.toList a 124)):=by
 have HI:=hdq (fun W=> y79 d ih s (a+1) 3 124 ((a:Int)+1) 3 124 (by omega) (by omega) (by decide) W hs (by omega) (by omega) (by omega));obtain⟨F,hF⟩: ∃F,F=prs d s.data.toList:=⟨_,rfl⟩;rw[<-hF] at HI⊢;obtain⟨S,hS⟩: ∃S,S=ser F s.data.toList 124 3 (a+1):=⟨_,rfl⟩;rw[<-hS] at HI;have hR:blk F s.data.toList a 124=S.map (fun x=>(.mk 14 0 x.1,x.2)):=by rw[hS];rfl
 rw[hR];have HK:=hdq (fun W=> q24 14 W);have hop:opsT 14=3:=rfl;rw[hop] at HK;clear hR ih hF hS hop;go_enter Tryz.func210,Tryz.ntmps210;go_wp2_with fail;refine(HK.out _).mono ?_;rintro e w0 ⟨rfl,rfl⟩;go_wp2_with fail;refine(HI.out _).mono ?_;rintro e w1 ⟨ts,A,cap,nx,rfl,h1,h2,hK,e1,q1,q2⟩;obtain⟨s0,s1,s2,f0,f1,f2⟩:=own3 e1.newBlk;have hsz:=e1.size_alloc;have hx:=((xr w).alloc (.cells #[.int .i64 0, .int .i64 0, .slice none 0 0] 25)).trans e1;have HQ1:=hdq q1;have HQ2:=hdq q2;have hK':y13 (w.heap.size+1) w1 A ts:=by simpa using hK
 clear q1 q2 hK;go_wp2_with fail;refine bodyPost_ret (v:= .tuple #[.agg #[.int .i64 14, .int .i64 0, .slice A ts.length cap], .int .i64 nx]) (by simp[results,Tryz.results210,go_sem,s0,s1,s2]) rfl ⟨.mk 14 0 ts,_,nx,rfl, ?_, ?_, ?_, ?_⟩
 · exact(From.mk 14 0 (((hK'.set (by simp) _).set (by simp) _).set (by simp) _) h1 h2).since (by omega)
 · exact((hx.setCell (by simp) _).setCell (by simp) _).setCell (by simp) _
 · intro x hx
   cases S with
   |none=> cases hx
   |some y=>
    obtain⟨g1,g2,g3⟩:=HQ1.out y rfl;cases hx
    exact⟨by rw[g1],g2,g3⟩
 · intro hx
   cases S with
   |none=> exact HQ2.out rfl
   |some y=> cases hx
set_option maxRecDepth 100000 in
set_option maxHeartbeats 1000000 in
theorem j212(d:Nat)(hd:d<=30)(ih:q29 d)(s:ByteArray)(a:Nat)(w:World)(hs:s.size<=1000000000)(ha:a < s.size)(hc:s[a]=64):
 Calls Tryz.prog 210 #[.string s, .int .i64 a, .int .i64 ((d:Int)+1)] w (j19 w.heap.size w s.size (blk (prs d s.data.toList) s.data.toList a 64)):=by
 have HI:=hdq (fun W=> y79 d ih s (a+2) 3 62 ((a:Int)+2) 3 62 (by omega) (by omega) (by decide) W hs (by omega) (by omega) (by omega));obtain⟨F,hF⟩: ∃F,F=prs d s.data.toList:=⟨_,rfl⟩;rw[<-hF] at HI⊢;obtain⟨S,hS⟩: ∃S,S=ser F s.data.toList 62 3 (a+2):=⟨_,rfl⟩;rw[<-hS] at HI;have hR:blk F s.data.toList a 64=if s.data.toList[a+1]? =some 60 then S.map (fun x=>(.mk 12 0 x.1,x.2)) else none:=by rw[hS];rfl
 obtain⟨R,hRR⟩: ∃R,R=blk F s.data.toList a 64:=⟨_,rfl⟩;rw[<-hRR] at hR⊢;have HK:=hdq (fun W=> q24 12 W);have hop:opsT 12=3:=rfl;rw[hop] at HK;clear hRR ih hF hS hop;by_cases h1:a+1 < s.size
 · obtain⟨c,hcc⟩: ∃c,s[a+1]=c:=⟨_,rfl⟩
   rw[j48 h1 hcc] at hR;have t1:decide ((s.size:Int) <(a:Int)+2)=false:=decide_eq_false (by omega);have hz1:(a:Int)+1 <(s.size:Int):=by omega
   obtain⟨p,hp⟩: ∃p,c.toNat=p:=⟨_,rfl⟩;by_cases h60:c=60
   · rw[if_pos (by rw[h60])] at hR
     have hp60:p=60:=by rw[<-hp,h60];rfl
     have HR:=hdq hR;subst hp60;clear hR h60;go_enter Tryz.func210,Tryz.ntmps210;go_wp2_with fail;refine(HK.out _).mono ?_;rintro e w0 ⟨rfl,rfl⟩;go_wp2_with fail;refine(HI.out _).mono ?_;rintro e w1 ⟨ts,A,cap,nx,rfl,h1',h2,hK,e1,q1,q2⟩;obtain⟨s0,s1,s2,f0,f1,f2⟩:=own3 e1.newBlk;have hsz:=e1.size_alloc;have hx:=((xr w).alloc (.cells #[.int .i64 0, .int .i64 0, .slice none 0 0] 25)).trans e1;have HQ1:=hdq q1;have HQ2:=hdq q2;have hK':y13 (w.heap.size+1) w1 A ts:=by simpa using hK
     clear q1 q2 hK;go_wp2_with fail;refine bodyPost_ret (v:= .tuple #[.agg #[.int .i64 12, .int .i64 0, .slice A ts.length cap], .int .i64 nx]) (by simp[results,Tryz.results210,go_sem,s0,s1,s2]) rfl ⟨.mk 12 0 ts,_,nx,rfl, ?_, ?_, ?_, ?_⟩
     · exact(From.mk 12 0 (((hK'.set (by simp) _).set (by simp) _).set (by simp) _) h1' h2).since (by omega)
     · exact((hx.setCell (by simp) _).setCell (by simp) _).setCell (by simp) _
     · intro x hx
       rw[HR.out] at hx;cases S with
       |none=> cases hx
       |some y=>
        obtain⟨g1,g2,g3⟩:=HQ1.out y rfl;cases hx
        exact⟨by rw[g1],g2,g3⟩
     · intro hx
       rw[HR.out] at hx;cases S with
       |none=> exact HQ2.out rfl
       |some y=> cases hx
   · rw[if_neg (by intro h;cases h;exact h60 rfl)] at hR
     have t2:((p:Int) !=60)=true:=by rw[bne_iff_ne];intro h;exact h60 (UInt8.toNat_inj.1 (by rw[hp];simp;omega))
     have HR:=hdq hR;clear hR h60;go_enter Tryz.func210,Tryz.ntmps210;go_wp2_with fail;exact bodyPost_ret (v:= .tuple #[.agg #[.int .i64 0, .int .i64 0, .slice none 0 0], .int .i64 (-1)]) (by simp[results,Tryz.results210,go_sem]) rfl (j63 _ _ _ _ _ HR.out ((xr w).alloc _))
 · rw[q51 s (by omega),if_neg (by simp)] at hR
   have t1:decide ((s.size:Int) <(a:Int)+2)=true:=decide_eq_true (by omega);have HR:=hdq hR;clear hR;go_enter Tryz.func210,Tryz.ntmps210;go_wp2_with fail;exact bodyPost_ret (v:= .tuple #[.agg #[.int .i64 0, .int .i64 0, .slice none 0 0], .int .i64 (-1)]) (by simp[results,Tryz.results210,go_sem]) rfl (j63 _ _ _ _ _ HR.out ((xr w).alloc _))
set_option maxRecDepth 100000 in
set_option maxHeartbeats 1000000 in
theorem q214(d:Nat)(hd:d<=30)(s:ByteArray)(a:Nat)(w:World)(hs:s.size<=1000000000)(ha:a < s.size)(c:UInt8)(hc:s[a]=c)(hk:blkK c=0):
 Calls Tryz.prog 210 #[.string s, .int .i64 a, .int .i64 ((d:Int)+1)] w (j19 w.heap.size w s.size (blk (prs d s.data.toList) s.data.toList a c)):=by
 have HR:=hdq (show blk (prs d s.data.toList) s.data.toList a c=none from by unfold blk;rw[if_pos hk]);generalize blk (prs d s.data.toList) s.data.toList a c=R at HR⊢;obtain⟨p,hp⟩: ∃p,c.toNat=p:=⟨_,rfl⟩;have g1:c≠60:=fun h=> by rw[h] at hk;exact absurd hk (by decide)
 have g2:c≠123:=fun h=> by rw[h] at hk;exact absurd hk (by decide)
 have g3:c≠124:=fun h=> by rw[h] at hk;exact absurd hk (by decide)
 have g4:c≠64:=fun h=> by rw[h] at hk;exact absurd hk (by decide)
 have t1:((p:Int)==60)=false:=by rw[beq_eq_false_iff_ne];intro h;exact g1 (UInt8.toNat_inj.1 (by rw[hp];simp;omega))
 have t2:((p:Int)==123)=false:=by rw[beq_eq_false_iff_ne];intro h;exact g2 (UInt8.toNat_inj.1 (by rw[hp];simp;omega))
 have t3:((p:Int)==124)=false:=by rw[beq_eq_false_iff_ne];intro h;exact g3 (UInt8.toNat_inj.1 (by rw[hp];simp;omega))
 have t4:((p:Int)==64)=false:=by rw[beq_eq_false_iff_ne];intro h;exact g4 (UInt8.toNat_inj.1 (by rw[hp];simp;omega))
 clear g1 g2 g3 g4 hk;go_enter Tryz.func210,Tryz.ntmps210;go_wp2_with fail;exact bodyPost_ret (v:= .tuple #[.agg #[.int .i64 0, .int .i64 0, .slice none 0 0], .int .i64 (-1)]) (by simp[results,Tryz.results210,go_sem]) rfl (j63 _ _ _ _ _ HR.out ((xr w).alloc _))
end Go.Proofs.YtdkamgafpphdjaaGreat
namespace Go.Proofs.YtdkamgafpphdjaaGreat
open Go.RowKit
set_option linter.unusedVariables false
theorem box1{w w1:World}{a:Obj}(h:w1=w.alloc a):w1.heap[w.heap.size]? =some a/\w.heap.size < w1.heap.size/\Ext w w1:=by
 subst h;obtain⟨p,s⟩:=blk1 (xr (w.alloc a));exact⟨p,s,(xr w).alloc a⟩
theorem box2{w w1:World}{a b:Obj}(h:w1=(w.alloc a).alloc b):w1.heap[w.heap.size]? =some a/\w1.heap[w.heap.size+1]? =some b/\w.heap.size+1 < w1.heap.size/\Ext w w1:=by
 subst h;obtain⟨p,q,s⟩:=blk2 (xr ((w.alloc a).alloc b));exact⟨p,q,s,((xr w).alloc a).alloc b⟩
theorem box3{w w1:World}{a b c:Obj}(h:w1=((w.alloc a).alloc b).alloc c):w1.heap[w.heap.size]? =some a/\w1.heap[w.heap.size+1]? =some b/\w1.heap[w.heap.size+1+1]? =some c/\w.heap.size+1+1 < w1.heap.size/\Ext w w1:=by
 subst h;obtain⟨p,q,r,s⟩:=blk3 (xr (((w.alloc a).alloc b).alloc c));exact⟨p,q,r,s,(((xr w).alloc a).alloc b).alloc c⟩
theorem own1{w:World}{g:Nat}{x0:Value}{e:TypeId}(hb:w.heap[g]? =some (.cells #[x0] e (0,0))):w.cell? ⟨g,0,none⟩=some x0:=y10 hb 0
theorem own5{w:World}{g:Nat}{x0 x1 x2 x3 x4:Value}{e:TypeId}(hb:w.heap[g]? =some (.cells #[x0,x1,x2,x3,x4] e (0,0))):
 w.cell? ⟨g,0,none⟩=some x0/\w.cell? ⟨g,1,none⟩=some x1/\w.cell? ⟨g,2,none⟩=some x2/\w.cell? ⟨g,3,none⟩=some x3/\w.cell? ⟨g,4,none⟩=some x4:=
 ⟨y10 hb 0,y10 hb 1,y10 hb 2,y10 hb 3,y10 hb 4⟩
theorem Ext.set3{a b:World}(h:Ext a b){g:Nat}(hg:a.heap.size<=g)(x y z:Value):Ext a (((b.setCell ⟨g,0,none⟩ x).setCell ⟨g,1,none⟩ y).setCell ⟨g,2,none⟩ z):=((h.setCell hg x).setCell hg y).setCell hg z
end Go.Proofs.YtdkamgafpphdjaaGreat
namespace Go.Proofs.YtdkamgafpphdjaaGreat
open Go.RowKit
set_option linter.unusedVariables false
theorem j10{a:Act}{t:Nat}{v:Value}(h:a.eval (.tmp t)=v):a.tmps[t]?.getD undef=v:=by
 rw[<-h];exact(Array.getD_eq_getD_getElem? ..).symm
def BoxAt(W w:World)(g:Nat):Prop:=W.heap.size<=g/\w.heap[g]? =some (.cells #[.int .i64 0, .int .i64 0, .slice none 0 0] 25 (0,0))
inductive Sp where
 |any
 |val (u:Value)
 |tree (M:Nat->Prop) (t:Tr)
 |row (M:Nat->Prop) (ts:List Tr)
 |two (M:Nat->Prop) (t:Tr) (c:Value)
 |box (W:World)
theorem InK.news{w:World}{M:Nat->Prop}{e:TypeId}{t:Tr}{v0 v1 v2:Value}(h:InT w M t (.agg #[v0,v1,v2]))(hM:M w.heap.size):InK (w.alloc (.cells #[v0,v1,v2] e)) M (some ⟨w.heap.size,0,none⟩) [t]:=
 .inr ⟨w.heap.size,0,rfl,hM,⟨⟨v0,v1,v2,y10 (heap_alloc_new w _) 0,y10 (heap_alloc_new w _) 1,y10 (heap_alloc_new w _) 2,h.later ((xr w).alloc _)⟩,trivial⟩⟩
theorem InK.news2{w:World}{M:Nat->Prop}{e:TypeId}{t u:Tr}{v0 v1 v2 u0 u1 u2:Value}(h:InT w M t (.agg #[v0,v1,v2]))(k:InT w M u (.agg #[u0,u1,u2]))(hM:M w.heap.size):InK (w.alloc (.cells #[v0,v1,v2,u0,u1,u2] e)) M (some ⟨w.heap.size,0,none⟩) [t,u]:=
 .inr ⟨w.heap.size,0,rfl,hM,⟨⟨v0,v1,v2,y10 (heap_alloc_new w _) 0,y10 (heap_alloc_new w _) 1,y10 (heap_alloc_new w _) 2,h.later ((xr w).alloc _)⟩,⟨u0,u1,u2,y10 (heap_alloc_new w _) 3,y10 (heap_alloc_new w _) 4,y10 (heap_alloc_new w _) 5,k.later ((xr w).alloc _)⟩,trivial⟩⟩
theorem InK.news3{w:World}{M:Nat->Prop}{e:TypeId}{t u x:Tr}{v0 v1 v2 u0 u1 u2 x0 x1 x2:Value}(h:InT w M t (.agg #[v0,v1,v2]))(k:InT w M u (.agg #[u0,u1,u2]))(l:InT w M x (.agg #[x0,x1,x2]))(hM:M w.heap.size):InK (w.alloc (.cells #[v0,v1,v2,u0,u1,u2,x0,x1,x2] e)) M (some ⟨w.heap.size,0,none⟩) [t,u,x]:=
 .inr ⟨w.heap.size,0,rfl,hM,⟨⟨v0,v1,v2,y10 (heap_alloc_new w _) 0,y10 (heap_alloc_new w _) 1,y10 (heap_alloc_new w _) 2,h.later ((xr w).alloc _)⟩,⟨u0,u1,u2,y10 (heap_alloc_new w _) 3,y10 (heap_alloc_new w _) 4,y10 (heap_alloc_new w _) 5,k.later ((xr w).alloc _)⟩,⟨x0,x1,x2,y10 (heap_alloc_new w _) 6,y10 (heap_alloc_new w _) 7,y10 (heap_alloc_new w _) 8,l.later ((xr w).alloc _)⟩,trivial⟩⟩
end Go.Proofs.YtdkamgafpphdjaaGreat
namespace Go.Proofs.YtdkamgafpphdjaaGreat
open Go.RowKit
set_option linter.unusedVariables false
attribute [local go_sem ↓] Go.wp_at_zero Go.wp_at_succ
theorem j85(p:Tr->Bool)(t:Tr)(q:List Int): ∀(a:List Tr) (i:Nat),plcs p i (a++ [t]) q=plcs p i a q++plc p t (q++ [((i+a.length:Nat):Int)])
 | [],i=> by simp[plcs]
 |x::a,i=> by
  rw[List.cons_append,plcs,plcs,j85 p t q a (i+1),List.append_assoc,List.length_cons,show i+1+a.length=i+(a.length+1) by omega]
theorem j163(p:Tr->Bool)(t:Tr)(q:List Int):(plc p t q).length<=cnt t:=by rw[y175];exact j186 p t
theorem j70(p:Tr->Bool)(ks:List Tr)(i:Nat)(q:List Int):(plcs p i ks q).length<=cnts ks:=by rw[y120];exact y121 p ks
theorem y31{w:World}{base base' k n:Nat}{e:TypeId}{v:Value}{xs:List Value}(h:w.ownsRow base e k v n xs)(hb:base'<=base):w.ownsRow base' e k v n xs:=by
 refine⟨h.1, ?_⟩;rcases h.2 with h|⟨g,cap,cur,rfl,h1,r⟩
 · exact .inl h
 · exact .inr ⟨g,cap,cur,rfl,Nat.le_trans hb h1,r⟩
def y205(w:World)(u:Value)(p:List Int):Prop:=q19 w (fun b=> b < w.heap.size) u p
theorem y205.ext{w w':World}{u:Value}{p:List Int}(h:y205 w u p)(he:Ext w w'):y205 w' u p:=h.mono (fun b hb=> Nat.lt_of_lt_of_le hb he.size) (fun b hb=> he.heap b hb)
theorem j30{w:World}{base:Nat}{e:TypeId}{v:Value}{p:List Int}(h:w.ownsRow base e 1 v p.length (p.map (Value.int .i64))):y205 w v p:=(q32 h).mono (fun b hb=> hb.2.1) (fun _ _=> rfl)
theorem y118:(Tryz.prog.info? 3).map (fun i=>(i.zero,i.size,i.bytes))=some (some (.int .i64 0),1,8):=by kernel_rfl
theorem q168:(Tryz.prog.info? 26).map (fun i=>(i.zero,i.size,i.bytes))=some (some (.slice none 0 0),1,24):=by kernel_rfl
theorem Ext.ownsRow{w w':World}{base n:Nat}{e:TypeId}{k:Nat}{v:Value}{xs:List Value}(he:Ext w w')(h:w.ownsRow base e k v n xs):w'.ownsRow base e k v n xs:=j76 h (fun g hg=> he.heap g (h.lt g hg).2)
theorem q25.form{W w:World}{e:TypeId}{v:Value}{ps:List (List Int)}(h:q25 W w e v ps): ∃B c,v= .slice B ps.length c:=by
 obtain⟨A,c,h1,-⟩:=h.slice;exact⟨A,c,h1⟩
theorem q25.form3{W w:World}{e:TypeId}{v:Value}{ps:List (List Int)}(h:q25 W w e v ps): ∃B l c,v= .slice B l c:=by
 obtain⟨A,c,h1⟩:=h.form;exact⟨A,_,c,h1⟩
def allP(_:Tr):Bool:=true
end Go.Proofs.YtdkamgafpphdjaaGreat
namespace Go.Proofs.YtdkamgafpphdjaaGreat
open Go.RowKit
set_option linter.unusedVariables false
theorem j43{d:Nat}{l:List UInt8}{a:Nat}{c:UInt8}(h:l[a]? =some c):prs (d+1) l a=
 (if c=35 then(numS l (a+1) true).map (fun x=>(.mk 1 x.1 [],x.2))
 else if c=42 then(numS l (a+1) false).map (fun x=>(.mk 2 x.1 [],x.2))
 else if c=78 then some (.mk 6 0 [],a+1)
 else if c=48 then some (.mk 7 0 [],a+1)
 else if c=43 then one 8 (prs d l (a+1))
 else if c=33 then one 11 (prs d l (a+1))
 else if c=94 then one 15 (prs d l (a+1))
 else if c=95 then one 16 (prs d l (a+1))
 else if c=40 then rnd (prs d l) l (a+1)
 else if c=91 then sqr (prs d l) l (a+1)
 else blk (prs d l) l a c):=by
 conv=> lhs;unfold prs
 rw[h]
theorem y148{d:Nat}{l:List UInt8}{a:Nat}(h:l[a]? =none):prs d l a=none:=by
 cases d with
 |zero=> rfl
 |succ d=>
  unfold prs;rw[h]
theorem q182{l:List UInt8}{a:Nat}{two:Bool}{x:Int×Nat}(h:numS l a two=some x):x.2<=l.length:=by
 unfold numS at h;cases h0:l[a]?with
 |none=> rw[h0] at h;cases h
 |some c=>
  have ha:a < l.length:=by
   rcases Nat.lt_or_ge a l.length with g|g
   · exact g
   · rw[List.getElem?_eq_none g] at h0;cases h0
  rw[h0] at h;simp only at h
  split at h
  · split at h
    · cases h1:l[a+1]?with
      |none=> rw[h1] at h;cases h;exact ha
      |some d=>
       have hb:a+1 < l.length:=by
        rcases Nat.lt_or_ge (a+1) l.length with g|g
        · exact g
        · rw[List.getElem?_eq_none g] at h1;cases h1
       rw[h1] at h;simp only at h
       split at h
       · split at h
         · cases h
         · cases h;exact hb
       · cases h;exact ha
    · cases h;exact ha
  · cases h
set_option maxRecDepth 100000 in
set_option maxHeartbeats 1000000 in
theorem y211(d:Nat)(hd:d<=30)(s:ByteArray)(a:Nat)(w:World)(hs:s.size<=1000000000)(ha:a < s.size)(hc:s[a]=35):
 Calls Tryz.prog 192 #[.string s, .int .i64 a, .int .i64 ((d:Int)+1)] w (j19 w.heap.size w s.size (prs (d+1) s.data.toList a)):=by
 have hR:prs (d+1) s.data.toList a=(numS s.data.toList (a+1) true).map (fun x=>(.mk 1 x.1 [],x.2)):=by rw[j43 (j48 ha hc)];rfl
 rw[hR];have hN:=fun W=> y140 s (a+1) W hs (by omega)
 have hle: ∀x,numS s.data.toList (a+1) true=some x->x.2<=s.size:=fun x h=> by have:=q182 h;simpa using this
 obtain⟨S,hS⟩: ∃S,S=numS s.data.toList (a+1) true:=⟨_,rfl⟩;rw[<-hS] at hN hle⊢;rw[show((a+1:Nat):Int)=(a:Int)+1 by omega] at hN;have HN:=hdq hN;have HL:=hdq hle;clear hR hN hle hS;go_enter Tryz.func192,Tryz.ntmps192;go_wp2_with fail;refine(HN.out _).mono ?_;rintro e w1 ⟨rfl,rfl⟩;obtain⟨x,hx⟩: ∃x,x=(resN S).1:=⟨_,rfl⟩;obtain⟨nx,hnx⟩: ∃nx,nx=(resN S).2:=⟨_,rfl⟩;rw[<-hx,<-hnx];have HX:=hdq hx;have HNX:=hdq hnx;clear hx hnx;go_wp2_with fail;refine(j23 _ 1 x).mono ?_;rintro e w2 ⟨rfl,e2⟩;obtain⟨s0,s1,s2,f0,f1,f2⟩:=own3 e2.newBlk;have hsz:=e2.size_alloc;have hE:=((xr w).alloc (.cells #[.int .i64 0, .int .i64 0, .slice none 0 0] 25)).trans e2;go_wp2_with fail;refine bodyPost_ret (v:= .tuple #[.agg #[.int .i64 1, .int .i64 x, .slice none 0 0], .int .i64 nx]) (by simp[results,Tryz.results192,go_sem,s0,s1,s2]) rfl ⟨.mk 1 x [],_,nx,rfl,From.leaf _ _ _ _,((hE.setCell (by simp) _).setCell (by simp) _).setCell (by simp) _, ?_, ?_⟩
 · intro z hz
   cases S with
   |none=> cases hz
   |some y=>
    cases hz
    exact⟨by rw[HX.out];rfl,by rw[HNX.out];rfl,HL.out y rfl⟩
 · intro hz
   cases S with
   |none=> rw[HNX.out];rfl
   |some y=> cases hz
set_option maxRecDepth 100000 in
set_option maxHeartbeats 1000000 in
theorem j207(d:Nat)(hd:d<=30)(s:ByteArray)(a:Nat)(w:World)(hs:s.size<=1000000000)(ha:a < s.size)(hc:s[a]=42):
 Calls Tryz.prog 192 #[.string s, .int .i64 a, .int .i64 ((d:Int)+1)] w (j19 w.heap.size w s.size (prs (d+1) s.data.toList a)):=by
 have hR:prs (d+1) s.data.toList a=(numS s.data.toList (a+1) false).map (fun x=>(.mk 2 x.1 [],x.2)):=by rw[j43 (j48 ha hc)];rfl
 rw[hR];have hN:=fun W=> j135 s (a+1) W hs (by omega)
 have hle: ∀x,numS s.data.toList (a+1) false=some x->x.2<=s.size:=fun x h=> by have:=q182 h;simpa using this
 obtain⟨S,hS⟩: ∃S,S=numS s.data.toList (a+1) false:=⟨_,rfl⟩;rw[<-hS] at hN hle⊢;rw[show((a+1:Nat):Int)=(a:Int)+1 by omega] at hN;have HN:=hdq hN;have HL:=hdq hle;clear hR hN hle hS;go_enter Tryz.func192,Tryz.ntmps192;go_wp2_with fail;refine(HN.out _).mono ?_;rintro e w1 ⟨rfl,rfl⟩;obtain⟨x,hx⟩: ∃x,x=(resN S).1:=⟨_,rfl⟩;obtain⟨nx,hnx⟩: ∃nx,nx=(resN S).2:=⟨_,rfl⟩;rw[<-hx,<-hnx];have HX:=hdq hx;have HNX:=hdq hnx;clear hx hnx;go_wp2_with fail;refine(j23 _ 2 x).mono ?_;rintro e w2 ⟨rfl,e2⟩;obtain⟨s0,s1,s2,f0,f1,f2⟩:=own3 e2.newBlk;have hsz:=e2.size_alloc;have hE:=((xr w).alloc (.cells #[.int .i64 0, .int .i64 0, .slice none 0 0] 25)).trans e2;go_wp2_with fail;refine bodyPost_ret (v:= .tuple #[.agg #[.int .i64 2, .int .i64 x, .slice none 0 0], .int .i64 nx]) (by simp[results,Tryz.results192,go_sem,s0,s1,s2]) rfl ⟨.mk 2 x [],_,nx,rfl,From.leaf _ _ _ _,((hE.setCell (by simp) _).setCell (by simp) _).setCell (by simp) _, ?_, ?_⟩
 · intro z hz
   cases S with
   |none=> cases hz
   |some y=>
    cases hz
    exact⟨by rw[HX.out];rfl,by rw[HNX.out];rfl,HL.out y rfl⟩
 · intro hz
   cases S with
   |none=> rw[HNX.out];rfl
   |some y=> cases hz
set_option maxRecDepth 100000 in
theorem j216(d:Nat)(hd:d<=30)(s:ByteArray)(a:Nat)(w:World)(hs:s.size<=1000000000)(ha:a < s.size)(hc:s[a]=78):
 Calls Tryz.prog 192 #[.string s, .int .i64 a, .int .i64 ((d:Int)+1)] w (j19 w.heap.size w s.size (prs (d+1) s.data.toList a)):=by
 have HR:=hdq (show prs (d+1) s.data.toList a=some (.mk 6 0 [],a+1) from by rw[j43 (j48 ha hc)];rfl);generalize prs (d+1) s.data.toList a=R at HR⊢;go_enter Tryz.func192,Tryz.ntmps192;go_wp2_with fail;refine(j23 _ 6 0).mono ?_;rintro e w2 ⟨rfl,e2⟩;obtain⟨s0,s1,s2,f0,f1,f2⟩:=own3 e2.newBlk;have hsz:=e2.size_alloc;have hE:=((xr w).alloc (.cells #[.int .i64 0, .int .i64 0, .slice none 0 0] 25)).trans e2;go_wp2_with fail;refine bodyPost_ret (v:= .tuple #[.agg #[.int .i64 6, .int .i64 0, .slice none 0 0], .int .i64 ((a:Int)+1)]) (by simp[results,Tryz.results192,go_sem,s0,s1,s2]) rfl ⟨.mk 6 0 [],_,_,rfl,From.leaf _ _ _ _,((hE.setCell (by simp) _).setCell (by simp) _).setCell (by simp) _, ?_, ?_⟩
 · intro z hz
   rw[HR.out] at hz;cases hz
   exact⟨rfl,by simp,ha⟩
 · intro hz
   rw[HR.out] at hz;cases hz
set_option maxRecDepth 100000 in
theorem j217(d:Nat)(hd:d<=30)(s:ByteArray)(a:Nat)(w:World)(hs:s.size<=1000000000)(ha:a < s.size)(hc:s[a]=48):
 Calls Tryz.prog 192 #[.string s, .int .i64 a, .int .i64 ((d:Int)+1)] w (j19 w.heap.size w s.size (prs (d+1) s.data.toList a)):=by
 have HR:=hdq (show prs (d+1) s.data.toList a=some (.mk 7 0 [],a+1) from by rw[j43 (j48 ha hc)];rfl);generalize prs (d+1) s.data.toList a=R at HR⊢;go_enter Tryz.func192,Tryz.ntmps192;go_wp2_with fail;refine(j23 _ 7 0).mono ?_;rintro e w2 ⟨rfl,e2⟩;obtain⟨s0,s1,s2,f0,f1,f2⟩:=own3 e2.newBlk;have hsz:=e2.size_alloc;have hE:=((xr w).alloc (.cells #[.int .i64 0, .int .i64 0, .slice none 0 0] 25)).trans e2;go_wp2_with fail;refine bodyPost_ret (v:= .tuple #[.agg #[.int .i64 7, .int .i64 0, .slice none 0 0], .int .i64 ((a:Int)+1)]) (by simp[results,Tryz.results192,go_sem,s0,s1,s2]) rfl ⟨.mk 7 0 [],_,_,rfl,From.leaf _ _ _ _,((hE.setCell (by simp) _).setCell (by simp) _).setCell (by simp) _, ?_, ?_⟩
 · intro z hz
   rw[HR.out] at hz;cases hz
   exact⟨rfl,by simp,ha⟩
 · intro hz
   rw[HR.out] at hz;cases hz
theorem j19.on{B:Nat}{w:World}{size:Nat}{o:Option (Tr×Nat)}{e:Ending}{w':World}(h:j19 B w size o e w'): ∃(t:Tr) (k n:Int) (A:Option Addr) (l c:Nat) (nx:Int),e= .returned (.tuple #[.agg #[.int .i64 k, .int .i64 n, .slice A l c], .int .i64 nx])/\From B w' t (.agg #[.int .i64 k, .int .i64 n, .slice A l c])/\Ext w w'/\Hid ((∀x,o=some x->t=x.1/\nx=x.2/\x.2<=size)/\(o=none->nx= -1)):=by
 obtain⟨t,u,nx,rfl,hF,e1,q⟩:=h;obtain⟨k,n,A,l,c,rfl⟩:=hF.three;exact⟨t,k,n,A,l,c,nx,rfl,hF,e1,hdq q⟩
theorem rnd40(d:Nat)(ih:q29 d)(s:ByteArray)(a:Nat)(w:World)(hs:s.size<=1000000000)(ha:a < s.size):
 Calls Tryz.prog 209 #[.string s, .int .i64 ((a:Int)+1), .int .i64 d] w (j19 w.heap.size w s.size (rnd (prs d s.data.toList) s.data.toList (a+1))):=by
 have:=j172 d ih s (a+1) w hs ha
 rwa [show((a+1:Nat):Int)=(a:Int)+1 by omega] at this
set_option maxRecDepth 100000 in
set_option maxHeartbeats 1000000 in
theorem q217(d:Nat)(hd:d<=30)(ih:q29 d)(s:ByteArray)(a:Nat)(w:World)(hs:s.size<=1000000000)(ha:a < s.size)(hc:s[a]=43):
 Calls Tryz.prog 192 #[.string s, .int .i64 a, .int .i64 ((d:Int)+1)] w (j19 w.heap.size w s.size (prs (d+1) s.data.toList a)):=by
 have HI:=hdq (fun W=> q177 d ih s a W hs ha hc hd);have hR:=j43 (d:=d) (j48 ha hc);rw[hR];clear hR
 repeat rw[if_neg (by decide)]
 try rw[if_pos rfl]
 clear ih;go_enter Tryz.func192,Tryz.ntmps192;go_wp2_with fail;refine(HI.out _).mono ?_;intro e w1 hq;obtain⟨t,k1,n1,A1,l1,c1,nx,rfl,hF,e1,HQ⟩:=hq.on;obtain⟨s0,s1,s2,f0,f1,f2⟩:=own3 e1.newBlk;have hsz:=e1.size_alloc;have hE:=((xr w).alloc (.cells #[.int .i64 0, .int .i64 0, .slice none 0 0] 25)).trans e1;have hF':From (w.heap.size+1) w1 t (.agg #[.int .i64 k1, .int .i64 n1, .slice A1 l1 c1]):=by simpa using hF
 clear hq hF;go_wp2_with fail;exact bodyPost_ret (v:= .tuple #[.agg #[.int .i64 k1, .int .i64 n1, .slice A1 l1 c1], .int .i64 nx]) (by simp[results,Tryz.results192,go_sem,s0,s1,s2]) rfl ⟨t,_,nx,rfl,(((hF'.set (by simp) _).set (by simp) _).set (by simp) _).since (by omega),((hE.setCell (by simp) _).setCell (by simp) _).setCell (by simp) _,HQ.out.1,HQ.out.2⟩
set_option maxRecDepth 100000 in
set_option maxHeartbeats 1000000 in
theorem y207(d:Nat)(hd:d<=30)(ih:q29 d)(s:ByteArray)(a:Nat)(w:World)(hs:s.size<=1000000000)(ha:a < s.size)(hc:s[a]=33):
 Calls Tryz.prog 192 #[.string s, .int .i64 a, .int .i64 ((d:Int)+1)] w (j19 w.heap.size w s.size (prs (d+1) s.data.toList a)):=by
 have HI:=hdq (fun W=> j180 d ih s a W hs ha hc hd);have hR:=j43 (d:=d) (j48 ha hc);rw[hR];clear hR
 repeat rw[if_neg (by decide)]
 try rw[if_pos rfl]
 clear ih;go_enter Tryz.func192,Tryz.ntmps192;go_wp2_with fail;refine(HI.out _).mono ?_;intro e w1 hq;obtain⟨t,k1,n1,A1,l1,c1,nx,rfl,hF,e1,HQ⟩:=hq.on;obtain⟨s0,s1,s2,f0,f1,f2⟩:=own3 e1.newBlk;have hsz:=e1.size_alloc;have hE:=((xr w).alloc (.cells #[.int .i64 0, .int .i64 0, .slice none 0 0] 25)).trans e1;have hF':From (w.heap.size+1) w1 t (.agg #[.int .i64 k1, .int .i64 n1, .slice A1 l1 c1]):=by simpa using hF
 clear hq hF;go_wp2_with fail;exact bodyPost_ret (v:= .tuple #[.agg #[.int .i64 k1, .int .i64 n1, .slice A1 l1 c1], .int .i64 nx]) (by simp[results,Tryz.results192,go_sem,s0,s1,s2]) rfl ⟨t,_,nx,rfl,(((hF'.set (by simp) _).set (by simp) _).set (by simp) _).since (by omega),((hE.setCell (by simp) _).setCell (by simp) _).setCell (by simp) _,HQ.out.1,HQ.out.2⟩
set_option maxRecDepth 100000 in
set_option maxHeartbeats 1000000 in
theorem q208(d:Nat)(hd:d<=30)(ih:q29 d)(s:ByteArray)(a:Nat)(w:World)(hs:s.size<=1000000000)(ha:a < s.size)(hc:s[a]=94):
 Calls Tryz.prog 192 #[.string s, .int .i64 a, .int .i64 ((d:Int)+1)] w (j19 w.heap.size w s.size (prs (d+1) s.data.toList a)):=by
 have HI:=hdq (fun W=> j194 d ih s a W hs ha hc hd);have hR:=j43 (d:=d) (j48 ha hc);rw[hR];clear hR
 repeat rw[if_neg (by decide)]
 try rw[if_pos rfl]
 clear ih;go_enter Tryz.func192,Tryz.ntmps192;go_wp2_with fail;refine(HI.out _).mono ?_;intro e w1 hq;obtain⟨t,k1,n1,A1,l1,c1,nx,rfl,hF,e1,HQ⟩:=hq.on;obtain⟨s0,s1,s2,f0,f1,f2⟩:=own3 e1.newBlk;have hsz:=e1.size_alloc;have hE:=((xr w).alloc (.cells #[.int .i64 0, .int .i64 0, .slice none 0 0] 25)).trans e1;have hF':From (w.heap.size+1) w1 t (.agg #[.int .i64 k1, .int .i64 n1, .slice A1 l1 c1]):=by simpa using hF
 clear hq hF;go_wp2_with fail;exact bodyPost_ret (v:= .tuple #[.agg #[.int .i64 k1, .int .i64 n1, .slice A1 l1 c1], .int .i64 nx]) (by simp[results,Tryz.results192,go_sem,s0,s1,s2]) rfl ⟨t,_,nx,rfl,(((hF'.set (by simp) _).set (by simp) _).set (by simp) _).since (by omega),((hE.setCell (by simp) _).setCell (by simp) _).setCell (by simp) _,HQ.out.1,HQ.out.2⟩
set_option maxRecDepth 100000 in
set_option maxHeartbeats 1000000 in
theorem y217(d:Nat)(hd:d<=30)(ih:q29 d)(s:ByteArray)(a:Nat)(w:World)(hs:s.size<=1000000000)(ha:a < s.size)(hc:s[a]=95):
 Calls Tryz.prog 192 #[.string s, .int .i64 a, .int .i64 ((d:Int)+1)] w (j19 w.heap.size w s.size (prs (d+1) s.data.toList a)):=by
 have HI:=hdq (fun W=> q195 d ih s a W hs ha hc hd);have hR:=j43 (d:=d) (j48 ha hc);rw[hR];clear hR
 repeat rw[if_neg (by decide)]
 try rw[if_pos rfl]
 clear ih;go_enter Tryz.func192,Tryz.ntmps192;go_wp2_with fail;refine(HI.out _).mono ?_;intro e w1 hq;obtain⟨t,k1,n1,A1,l1,c1,nx,rfl,hF,e1,HQ⟩:=hq.on;obtain⟨s0,s1,s2,f0,f1,f2⟩:=own3 e1.newBlk;have hsz:=e1.size_alloc;have hE:=((xr w).alloc (.cells #[.int .i64 0, .int .i64 0, .slice none 0 0] 25)).trans e1;have hF':From (w.heap.size+1) w1 t (.agg #[.int .i64 k1, .int .i64 n1, .slice A1 l1 c1]):=by simpa using hF
 clear hq hF;go_wp2_with fail;exact bodyPost_ret (v:= .tuple #[.agg #[.int .i64 k1, .int .i64 n1, .slice A1 l1 c1], .int .i64 nx]) (by simp[results,Tryz.results192,go_sem,s0,s1,s2]) rfl ⟨t,_,nx,rfl,(((hF'.set (by simp) _).set (by simp) _).set (by simp) _).since (by omega),((hE.setCell (by simp) _).setCell (by simp) _).setCell (by simp) _,HQ.out.1,HQ.out.2⟩
set_option maxRecDepth 100000 in
set_option maxHeartbeats 1000000 in
theorem q202(d:Nat)(hd:d<=30)(ih:q29 d)(s:ByteArray)(a:Nat)(w:World)(hs:s.size<=1000000000)(ha:a < s.size)(hc:s[a]=60):
 Calls Tryz.prog 192 #[.string s, .int .i64 a, .int .i64 ((d:Int)+1)] w (j19 w.heap.size w s.size (prs (d+1) s.data.toList a)):=by
 have HI:=hdq (fun W=> j218 d hd ih s a W hs ha hc);have hR:=j43 (d:=d) (j48 ha hc);rw[hR];clear hR
 repeat rw[if_neg (by decide)]
 try rw[if_pos rfl]
 clear ih;go_enter Tryz.func192,Tryz.ntmps192;go_wp2_with fail;refine(HI.out _).mono ?_;intro e w1 hq;obtain⟨t,k1,n1,A1,l1,c1,nx,rfl,hF,e1,HQ⟩:=hq.on;obtain⟨s0,s1,s2,f0,f1,f2⟩:=own3 e1.newBlk;have hsz:=e1.size_alloc;have hE:=((xr w).alloc (.cells #[.int .i64 0, .int .i64 0, .slice none 0 0] 25)).trans e1;have hF':From (w.heap.size+1) w1 t (.agg #[.int .i64 k1, .int .i64 n1, .slice A1 l1 c1]):=by simpa using hF
 clear hq hF;go_wp2_with fail;exact bodyPost_ret (v:= .tuple #[.agg #[.int .i64 k1, .int .i64 n1, .slice A1 l1 c1], .int .i64 nx]) (by simp[results,Tryz.results192,go_sem,s0,s1,s2]) rfl ⟨t,_,nx,rfl,(((hF'.set (by simp) _).set (by simp) _).set (by simp) _).since (by omega),((hE.setCell (by simp) _).setCell (by simp) _).setCell (by simp) _,HQ.out.1,HQ.out.2⟩
set_option maxRecDepth 100000 in
set_option maxHeartbeats 1000000 in
theorem q193(d:Nat)(hd:d<=30)(ih:q29 d)(s:ByteArray)(a:Nat)(w:World)(hs:s.size<=1000000000)(ha:a < s.size)(hc:s[a]=123):
 Calls Tryz.prog 192 #[.string s, .int .i64 a, .int .i64 ((d:Int)+1)] w (j19 w.heap.size w s.size (prs (d+1) s.data.toList a)):=by
 have HI:=hdq (fun W=> q199 d hd ih s a W hs ha hc);have hR:=j43 (d:=d) (j48 ha hc);rw[hR];clear hR
 repeat rw[if_neg (by decide)]
 try rw[if_pos rfl]
 clear ih;go_enter Tryz.func192,Tryz.ntmps192;go_wp2_with fail;refine(HI.out _).mono ?_;intro e w1 hq;obtain⟨t,k1,n1,A1,l1,c1,nx,rfl,hF,e1,HQ⟩:=hq.on;obtain⟨s0,s1,s2,f0,f1,f2⟩:=own3 e1.newBlk;have hsz:=e1.size_alloc;have hE:=((xr w).alloc (.cells #[.int .i64 0, .int .i64 0, .slice none 0 0] 25)).trans e1;have hF':From (w.heap.size+1) w1 t (.agg #[.int .i64 k1, .int .i64 n1, .slice A1 l1 c1]):=by simpa using hF
 clear hq hF;go_wp2_with fail;exact bodyPost_ret (v:= .tuple #[.agg #[.int .i64 k1, .int .i64 n1, .slice A1 l1 c1], .int .i64 nx]) (by simp[results,Tryz.results192,go_sem,s0,s1,s2]) rfl ⟨t,_,nx,rfl,(((hF'.set (by simp) _).set (by simp) _).set (by simp) _).since (by omega),((hE.setCell (by simp) _).setCell (by simp) _).setCell (by simp) _,HQ.out.1,HQ.out.2⟩
set_option maxRecDepth 100000 in
set_option maxHeartbeats 1000000 in
theorem q185(d:Nat)(hd:d<=30)(ih:q29 d)(s:ByteArray)(a:Nat)(w:World)(hs:s.size<=1000000000)(ha:a < s.size)(hc:s[a]=124):
 Calls Tryz.prog 192 #[.string s, .int .i64 a, .int .i64 ((d:Int)+1)] w (j19 w.heap.size w s.size (prs (d+1) s.data.toList a)):=by
 have HI:=hdq (fun W=> y187 d hd ih s a W hs ha hc);have hR:=j43 (d:=d) (j48 ha hc);rw[hR];clear hR
 repeat rw[if_neg (by decide)]
 try rw[if_pos rfl]
 clear ih;go_enter Tryz.func192,Tryz.ntmps192;go_wp2_with fail;refine(HI.out _).mono ?_;intro e w1 hq;obtain⟨t,k1,n1,A1,l1,c1,nx,rfl,hF,e1,HQ⟩:=hq.on;obtain⟨s0,s1,s2,f0,f1,f2⟩:=own3 e1.newBlk;have hsz:=e1.size_alloc;have hE:=((xr w).alloc (.cells #[.int .i64 0, .int .i64 0, .slice none 0 0] 25)).trans e1;have hF':From (w.heap.size+1) w1 t (.agg #[.int .i64 k1, .int .i64 n1, .slice A1 l1 c1]):=by simpa using hF
 clear hq hF;go_wp2_with fail;exact bodyPost_ret (v:= .tuple #[.agg #[.int .i64 k1, .int .i64 n1, .slice A1 l1 c1], .int .i64 nx]) (by simp[results,Tryz.results192,go_sem,s0,s1,s2]) rfl ⟨t,_,nx,rfl,(((hF'.set (by simp) _).set (by simp) _).set (by simp) _).since (by omega),((hE.setCell (by simp) _).setCell (by simp) _).setCell (by simp) _,HQ.out.1,HQ.out.2⟩
set_option maxRecDepth 100000 in
set_option maxHeartbeats 1000000 in
theorem j201(d:Nat)(hd:d<=30)(ih:q29 d)(s:ByteArray)(a:Nat)(w:World)(hs:s.size<=1000000000)(ha:a < s.size)(hc:s[a]=64):
 Calls Tryz.prog 192 #[.string s, .int .i64 a, .int .i64 ((d:Int)+1)] w (j19 w.heap.size w s.size (prs (d+1) s.data.toList a)):=by
 have HI:=hdq (fun W=> j212 d hd ih s a W hs ha hc);have hR:=j43 (d:=d) (j48 ha hc);rw[hR];clear hR
 repeat rw[if_neg (by decide)]
 try rw[if_pos rfl]
 clear ih;go_enter Tryz.func192,Tryz.ntmps192;go_wp2_with fail;refine(HI.out _).mono ?_;intro e w1 hq;obtain⟨t,k1,n1,A1,l1,c1,nx,rfl,hF,e1,HQ⟩:=hq.on;obtain⟨s0,s1,s2,f0,f1,f2⟩:=own3 e1.newBlk;have hsz:=e1.size_alloc;have hE:=((xr w).alloc (.cells #[.int .i64 0, .int .i64 0, .slice none 0 0] 25)).trans e1;have hF':From (w.heap.size+1) w1 t (.agg #[.int .i64 k1, .int .i64 n1, .slice A1 l1 c1]):=by simpa using hF
 clear hq hF;go_wp2_with fail;exact bodyPost_ret (v:= .tuple #[.agg #[.int .i64 k1, .int .i64 n1, .slice A1 l1 c1], .int .i64 nx]) (by simp[results,Tryz.results192,go_sem,s0,s1,s2]) rfl ⟨t,_,nx,rfl,(((hF'.set (by simp) _).set (by simp) _).set (by simp) _).since (by omega),((hE.setCell (by simp) _).setCell (by simp) _).setCell (by simp) _,HQ.out.1,HQ.out.2⟩
set_option maxRecDepth 100000 in
set_option maxHeartbeats 1000000 in
theorem q210(d:Nat)(hd:d<=30)(ih:q29 d)(s:ByteArray)(a:Nat)(w:World)(hs:s.size<=1000000000)(ha:a < s.size)(hc:s[a]=40):
 Calls Tryz.prog 192 #[.string s, .int .i64 a, .int .i64 ((d:Int)+1)] w (j19 w.heap.size w s.size (prs (d+1) s.data.toList a)):=by
 have HI:=hdq (fun W=> rnd40 d ih s a W hs ha);have hR:=j43 (d:=d) (j48 ha hc);rw[hR];clear hR
 repeat rw[if_neg (by decide)]
 try rw[if_pos rfl]
 clear ih;go_enter Tryz.func192,Tryz.ntmps192;go_wp2_with fail;refine(HI.out _).mono ?_;intro e w1 hq;obtain⟨t,k1,n1,A1,l1,c1,nx,rfl,hF,e1,HQ⟩:=hq.on;obtain⟨s0,s1,s2,f0,f1,f2⟩:=own3 e1.newBlk;have hsz:=e1.size_alloc;have hE:=((xr w).alloc (.cells #[.int .i64 0, .int .i64 0, .slice none 0 0] 25)).trans e1;have hF':From (w.heap.size+1) w1 t (.agg #[.int .i64 k1, .int .i64 n1, .slice A1 l1 c1]):=by simpa using hF
 clear hq hF;go_wp2_with fail;exact bodyPost_ret (v:= .tuple #[.agg #[.int .i64 k1, .int .i64 n1, .slice A1 l1 c1], .int .i64 nx]) (by simp[results,Tryz.results192,go_sem,s0,s1,s2]) rfl ⟨t,_,nx,rfl,(((hF'.set (by simp) _).set (by simp) _).set (by simp) _).since (by omega),((hE.setCell (by simp) _).setCell (by simp) _).setCell (by simp) _,HQ.out.1,HQ.out.2⟩
end Go.Proofs.YtdkamgafpphdjaaGreat
