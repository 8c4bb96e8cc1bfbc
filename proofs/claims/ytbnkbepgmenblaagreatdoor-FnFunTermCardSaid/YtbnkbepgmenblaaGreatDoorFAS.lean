/-
  Lemmas towards the law, 19: Parse4, OrdT, Redex, Shf, Box.
-/
import Derived.Test.YtbnkbepgmenblaaGreatDoorFAR
set_option linter.unusedVariables false
set_option maxHeartbeats 1000000
set_option maxRecDepth 100000
namespace Go.Proofs.YtbnkbepgmenblaaGreatDoor
open Go.RowKit
theorem q79(d:Nat)(ih:q25 d)(s:ByteArray)(a many:Nat)(last:UInt8)(A M L:Int)(hA:A=a)(hM:M=many)(hL:L=(last.toNat:Int))(w:World)(hs:s.size<=1000000000)(ha:a<=s.size+2)(hm:many<=4)(Ai:1<=many):
 Calls Tryz.prog 88 #[.string s,.int .i64 A,.int .i64 d,.int .i64 M,.int .u8 L] w (SerQ w.heap.size w s.size (ser (prs d s.data.toList) s.data.toList last many a)):=by
 subst hA hM hL;exact j155 d ih s a many last w hs ha hm Ai
theorem q52(B:Nat)(w w':World)(size:Nat)(o:Option (Tr×Nat))(ho:o=none)(hx:Ext w w'):y19 B w size o (.returned (.tuple #[.agg #[.int .i64 0,.int .i64 0,.slice none 0 0],.int .i64 (-1)])) w':=
 ⟨.mk 0 0 [],_,-1,rfl,From.leaf _ _ _ _,hx,(fun x hx=> by rw[ho] at hx;cases hx),fun _=> rfl⟩
theorem j35.set{B:Nat}{w:World}{A:Option Addr}{ks:List Tr}(h:j35 B w A ks){p:Addr}(hp:p.block < B)(u:Value):j35 B (w.setCell p u) A ks:=
 h.mono (fun b hb=>⟨hb.1,by simpa using hb.2⟩) (fun b hb=> Below.heap_setCell w p u b (by omega))
theorem From.mk{B:Nat}{w:World}{A:Option Addr}{ks:List Tr}{cap:Nat}(k n:Int)(h:j35 B w A ks)(hl:ks.length<=cap)(hc:cap<=maxLen):From B w (.mk k n ks) (.agg #[.int .i64 k,.int .i64 n,.slice A ks.length cap]):=InT.mk_iff.2 ⟨A,cap,rfl,hl,hc,h⟩
theorem j214(d:Nat)(hd:d<=30)(ih:q25 d)(s:ByteArray)(a:Nat)(w:World)(hs:s.size<=1000000000)(ha:a < s.size)(hc:s[a]=60):
 Calls Tryz.prog 61 #[.string s,.int .i64 a,.int .i64 ((d:Int)+1)] w (y19 w.heap.size w s.size (blk (prs d s.data.toList) s.data.toList a 60)):=by
 have HI:=hdq (fun W=> q79 d ih s (a+1) 4 62 ((a:Int)+1) 4 62 (by omega) (by omega) (by decide) W hs (by omega) (by omega) (by omega));obtain⟨F,hF⟩: ∃F,F=prs d s.data.toList:=⟨_,rfl⟩;rw[<-hF] at HI⊢;obtain⟨S,hS⟩: ∃S,S=ser F s.data.toList 62 4 (a+1):=⟨_,rfl⟩;rw[<-hS] at HI;have hR:blk F s.data.toList a 60=S.map (fun x=>(.mk 9 0 x.1,x.2)):=by rw[hS];rfl
 rw[hR];have HK:=hdq (fun W=> q32 9 W);have hop:opsT 9=4:=rfl;rw[hop] at HK;clear hR ih hF hS hop;go_enter Tryz.func61,Tryz.ntmps61;go_wp2_with fail;refine(HK.out _).mono ?_;rintro e w0 ⟨rfl,rfl⟩;go_wp2_with fail;refine(HI.out _).mono ?_;rintro e w1 ⟨ts,A,cap,nx,rfl,h1,h2,hK,e1,q1,q2⟩;obtain⟨s0,s1,s2,f0,f1,f2⟩:=own3 e1.newBlk;have hsz:=e1.size_alloc;have hx:=((xr w).alloc (.cells #[.int .i64 0,.int .i64 0,.slice none 0 0] 26)).trans e1;have Z0:=hdq q1;have W7:=hdq q2;have hK':j35 (w.heap.size+1) w1 A ts:=by simpa using hK
 clear q1 q2 hK;go_wp2_with fail;refine bodyPost_ret (v:= .tuple #[.agg #[.int .i64 9,.int .i64 0,.slice A ts.length cap],.int .i64 nx]) (by simp[results,Tryz.results61,go_sem,s0,s1,s2]) rfl ⟨.mk 9 0 ts,_,nx,rfl, ?_, ?_, ?_, ?_⟩
 · exact(From.mk 9 0 (((hK'.set (by simp) _).set (by simp) _).set (by simp) _) h1 h2).since (by omega)
 · exact((hx.setCell (by simp) _).setCell (by simp) _).setCell (by simp) _
 · intro x hx
   cases S with
   |none=> cases hx
   |some y=>
    obtain⟨g1,g2,g3⟩:=Z0.out y rfl;cases hx
    exact⟨by rw[g1],g2,g3⟩
 · intro hx
   cases S with
   |none=> exact W7.out rfl
   |some y=> cases hx
theorem q179(d:Nat)(hd:d<=30)(ih:q25 d)(s:ByteArray)(a:Nat)(w:World)(hs:s.size<=1000000000)(ha:a < s.size)(hc:s[a]=123):
 Calls Tryz.prog 61 #[.string s,.int .i64 a,.int .i64 ((d:Int)+1)] w (y19 w.heap.size w s.size (blk (prs d s.data.toList) s.data.toList a 123)):=by
 have HI:=hdq (fun W=> q79 d ih s (a+1) 3 125 ((a:Int)+1) 3 125 (by omega) (by omega) (by decide) W hs (by omega) (by omega) (by omega));obtain⟨F,hF⟩: ∃F,F=prs d s.data.toList:=⟨_,rfl⟩;rw[<-hF] at HI⊢;obtain⟨S,hS⟩: ∃S,S=ser F s.data.toList 125 3 (a+1):=⟨_,rfl⟩;rw[<-hS] at HI;have hR:blk F s.data.toList a 123=S.map (fun x=>(.mk 10 0 x.1,x.2)):=by rw[hS];rfl
 rw[hR];have HK:=hdq (fun W=> q32 10 W);have hop:opsT 10=3:=rfl;rw[hop] at HK;clear hR ih hF hS hop;go_enter Tryz.func61,Tryz.ntmps61;go_wp2_with fail;refine(HK.out _).mono ?_;rintro e w0 ⟨rfl,rfl⟩;go_wp2_with fail;refine(HI.out _).mono ?_;rintro e w1 ⟨ts,A,cap,nx,rfl,h1,h2,hK,e1,q1,q2⟩;obtain⟨s0,s1,s2,f0,f1,f2⟩:=own3 e1.newBlk;have hsz:=e1.size_alloc;have hx:=((xr w).alloc (.cells #[.int .i64 0,.int .i64 0,.slice none 0 0] 26)).trans e1;have Z0:=hdq q1;have W7:=hdq q2;have hK':j35 (w.heap.size+1) w1 A ts:=by simpa using hK
 clear q1 q2 hK;go_wp2_with fail;refine bodyPost_ret (v:= .tuple #[.agg #[.int .i64 10,.int .i64 0,.slice A ts.length cap],.int .i64 nx]) (by simp[results,Tryz.results61,go_sem,s0,s1,s2]) rfl ⟨.mk 10 0 ts,_,nx,rfl, ?_, ?_, ?_, ?_⟩
 · exact(From.mk 10 0 (((hK'.set (by simp) _).set (by simp) _).set (by simp) _) h1 h2).since (by omega)
 · exact((hx.setCell (by simp) _).setCell (by simp) _).setCell (by simp) _
 · intro x hx
   cases S with
   |none=> cases hx
   |some y=>
    obtain⟨g1,g2,g3⟩:=Z0.out y rfl;cases hx
    exact⟨by rw[g1],g2,g3⟩
 · intro hx
   cases S with
   |none=> exact W7.out rfl
   |some y=> cases hx
theorem y185(d:Nat)(hd:d<=30)(ih:q25 d)(s:ByteArray)(a:Nat)(w:World)(hs:s.size<=1000000000)(ha:a < s.size)(hc:s[a]=124):
 Calls Tryz.prog 61 #[.string s,.int .i64 a,.int .i64 ((d:Int)+1)] w (y19 w.heap.size w s.size (blk (prs d s.data.toList) s.data.toList a 124)):=by
 have HI:=hdq (fun W=> q79 d ih s (a+1) 3 124 ((a:Int)+1) 3 124 (by omega) (by omega) (by decide) W hs (by omega) (by omega) (by omega));obtain⟨F,hF⟩: ∃F,F=prs d s.data.toList:=⟨_,rfl⟩;rw[<-hF] at HI⊢;obtain⟨S,hS⟩: ∃S,S=ser F s.data.toList 124 3 (a+1):=⟨_,rfl⟩;rw[<-hS] at HI;have hR:blk F s.data.toList a 124=S.map (fun x=>(.mk 14 0 x.1,x.2)):=by rw[hS];rfl
 rw[hR];have HK:=hdq (fun W=> q32 14 W);have hop:opsT 14=3:=rfl;rw[hop] at HK;clear hR ih hF hS hop;go_enter Tryz.func61,Tryz.ntmps61;go_wp2_with fail;refine(HK.out _).mono ?_;rintro e w0 ⟨rfl,rfl⟩;go_wp2_with fail;refine(HI.out _).mono ?_;rintro e w1 ⟨ts,A,cap,nx,rfl,h1,h2,hK,e1,q1,q2⟩;obtain⟨s0,s1,s2,f0,f1,f2⟩:=own3 e1.newBlk;have hsz:=e1.size_alloc;have hx:=((xr w).alloc (.cells #[.int .i64 0,.int .i64 0,.slice none 0 0] 26)).trans e1;have Z0:=hdq q1;have W7:=hdq q2;have hK':j35 (w.heap.size+1) w1 A ts:=by simpa using hK
 clear q1 q2 hK;go_wp2_with fail;refine bodyPost_ret (v:= .tuple #[.agg #[.int .i64 14,.int .i64 0,.slice A ts.length cap],.int .i64 nx]) (by simp[results,Tryz.results61,go_sem,s0,s1,s2]) rfl ⟨.mk 14 0 ts,_,nx,rfl, ?_, ?_, ?_, ?_⟩
 · exact(From.mk 14 0 (((hK'.set (by simp) _).set (by simp) _).set (by simp) _) h1 h2).since (by omega)
 · exact((hx.setCell (by simp) _).setCell (by simp) _).setCell (by simp) _
 · intro x hx
   cases S with
   |none=> cases hx
   |some y=>
    obtain⟨g1,g2,g3⟩:=Z0.out y rfl;cases hx
    exact⟨by rw[g1],g2,g3⟩
 · intro hx
   cases S with
   |none=> exact W7.out rfl
   |some y=> cases hx
theorem q195(d:Nat)(hd:d<=30)(ih:q25 d)(s:ByteArray)(a:Nat)(w:World)(hs:s.size<=1000000000)(ha:a < s.size)(hc:s[a]=64):
 Calls Tryz.prog 61 #[.string s,.int .i64 a,.int .i64 ((d:Int)+1)] w (y19 w.heap.size w s.size (blk (prs d s.data.toList) s.data.toList a 64)):=by
 have HI:=hdq (fun W=> q79 d ih s (a+2) 3 62 ((a:Int)+2) 3 62 (by omega) (by omega) (by decide) W hs (by omega) (by omega) (by omega));obtain⟨F,hF⟩: ∃F,F=prs d s.data.toList:=⟨_,rfl⟩;rw[<-hF] at HI⊢;obtain⟨S,hS⟩: ∃S,S=ser F s.data.toList 62 3 (a+2):=⟨_,rfl⟩;rw[<-hS] at HI;have hR:blk F s.data.toList a 64=if s.data.toList[a+1]? =some 60 then S.map (fun x=>(.mk 12 0 x.1,x.2)) else none:=by rw[hS];rfl
 obtain⟨R,W9⟩: ∃R,R=blk F s.data.toList a 64:=⟨_,rfl⟩;rw[<-W9] at hR⊢;have HK:=hdq (fun W=> q32 12 W);have hop:opsT 12=3:=rfl;rw[hop] at HK;clear W9 ih hF hS hop;by_cases h1:a+1 < s.size
 · obtain⟨c,hcc⟩: ∃c,s[a+1]=c:=⟨_,rfl⟩
   rw[j41 h1 hcc] at hR;have t1:decide ((s.size:Int) <(a:Int)+2)=false:=decide_eq_false (by omega);have hz1:(a:Int)+1 <(s.size:Int):=by omega
   obtain⟨p,hp⟩: ∃p,c.toNat=p:=⟨_,rfl⟩;by_cases gm:c=60
   · rw[if_pos (by rw[gm])] at hR
     have Ky:p=60:=by rw[<-hp,gm];rfl
     have HR:=hdq hR;subst Ky;clear hR gm;go_enter Tryz.func61,Tryz.ntmps61;go_wp2_with fail;refine(HK.out _).mono ?_;rintro e w0 ⟨rfl,rfl⟩;go_wp2_with fail;refine(HI.out _).mono ?_;rintro e w1 ⟨ts,A,cap,nx,rfl,Hj,h2,hK,e1,q1,q2⟩;obtain⟨s0,s1,s2,f0,f1,f2⟩:=own3 e1.newBlk;have hsz:=e1.size_alloc;have hx:=((xr w).alloc (.cells #[.int .i64 0,.int .i64 0,.slice none 0 0] 26)).trans e1;have Z0:=hdq q1;have W7:=hdq q2;have hK':j35 (w.heap.size+1) w1 A ts:=by simpa using hK
     clear q1 q2 hK;go_wp2_with fail;refine bodyPost_ret (v:= .tuple #[.agg #[.int .i64 12,.int .i64 0,.slice A ts.length cap],.int .i64 nx]) (by simp[results,Tryz.results61,go_sem,s0,s1,s2]) rfl ⟨.mk 12 0 ts,_,nx,rfl, ?_, ?_, ?_, ?_⟩
     · exact(From.mk 12 0 (((hK'.set (by simp) _).set (by simp) _).set (by simp) _) Hj h2).since (by omega)
     · exact((hx.setCell (by simp) _).setCell (by simp) _).setCell (by simp) _
     · intro x hx
       rw[HR.out] at hx;cases S with
       |none=> cases hx
       |some y=>
        obtain⟨g1,g2,g3⟩:=Z0.out y rfl;cases hx
        exact⟨by rw[g1],g2,g3⟩
     · intro hx
       rw[HR.out] at hx;cases S with
       |none=> exact W7.out rfl
       |some y=> cases hx
   · rw[if_neg (by intro h;cases h;exact gm rfl)] at hR
     have t2:((p:Int) !=60)=true:=by rw[bne_iff_ne];intro h;exact gm (UInt8.toNat_inj.1 (by rw[hp];simp;omega))
     have HR:=hdq hR;clear hR gm;go_enter Tryz.func61,Tryz.ntmps61;go_wp2_with fail;exact bodyPost_ret (v:= .tuple #[.agg #[.int .i64 0,.int .i64 0,.slice none 0 0],.int .i64 (-1)]) (by simp[results,Tryz.results61,go_sem]) rfl (q52 _ _ _ _ _ HR.out ((xr w).alloc _))
 · rw[j43 s (by omega),if_neg (by simp)] at hR
   have t1:decide ((s.size:Int) <(a:Int)+2)=true:=decide_eq_true (by omega);have HR:=hdq hR;clear hR;go_enter Tryz.func61,Tryz.ntmps61;go_wp2_with fail;exact bodyPost_ret (v:= .tuple #[.agg #[.int .i64 0,.int .i64 0,.slice none 0 0],.int .i64 (-1)]) (by simp[results,Tryz.results61,go_sem]) rfl (q52 _ _ _ _ _ HR.out ((xr w).alloc _))
theorem y199(d:Nat)(hd:d<=30)(s:ByteArray)(a:Nat)(w:World)(hs:s.size<=1000000000)(ha:a < s.size)(c:UInt8)(hc:s[a]=c)(hk:blkK c=0):
 Calls Tryz.prog 61 #[.string s,.int .i64 a,.int .i64 ((d:Int)+1)] w (y19 w.heap.size w s.size (blk (prs d s.data.toList) s.data.toList a c)):=by
 have HR:=hdq (show blk (prs d s.data.toList) s.data.toList a c=none from by unfold blk;rw[if_pos hk]);generalize blk (prs d s.data.toList) s.data.toList a c=R at HR⊢;obtain⟨p,hp⟩: ∃p,c.toNat=p:=⟨_,rfl⟩;have g1:c≠60:=fun h=> by rw[h] at hk;exact absurd hk (by decide)
 have g2:c≠123:=fun h=> by rw[h] at hk;exact absurd hk (by decide)
 have g3:c≠124:=fun h=> by rw[h] at hk;exact absurd hk (by decide)
 have g4:c≠64:=fun h=> by rw[h] at hk;exact absurd hk (by decide)
 have t1:((p:Int)==60)=false:=by rw[beq_eq_false_iff_ne];intro h;exact g1 (UInt8.toNat_inj.1 (by rw[hp];simp;omega))
 have t2:((p:Int)==123)=false:=by rw[beq_eq_false_iff_ne];intro h;exact g2 (UInt8.toNat_inj.1 (by rw[hp];simp;omega))
 have t3:((p:Int)==124)=false:=by rw[beq_eq_false_iff_ne];intro h;exact g3 (UInt8.toNat_inj.1 (by rw[hp];simp;omega))
 have t4:((p:Int)==64)=false:=by rw[beq_eq_false_iff_ne];intro h;exact g4 (UInt8.toNat_inj.1 (by rw[hp];simp;omega))
 clear g1 g2 g3 g4 hk;go_enter Tryz.func61,Tryz.ntmps61;go_wp2_with fail;exact bodyPost_ret (v:= .tuple #[.agg #[.int .i64 0,.int .i64 0,.slice none 0 0],.int .i64 (-1)]) (by simp[results,Tryz.results61,go_sem]) rfl (q52 _ _ _ _ _ HR.out ((xr w).alloc _))
theorem y10{a:Act}{t:Nat}{v:Value}(h:a.eval (.tmp t)=v):a.tmps[t]?.getD undef=v:=by
 rw[<-h];exact(Array.getD_eq_getD_getElem? ..).symm
def BoxAt(W w:World)(g:Nat):Prop:=W.heap.size<=g/\w.heap[g]? =some (.cells #[.int .i64 0,.int .i64 0,.slice none 0 0] 26 (0,0))
inductive Sp where
 |any
 |val (u:Value)
 |tree (M:Nat->Prop) (t:Tr)
 |row (M:Nat->Prop) (ts:List Tr)
 |two (M:Nat->Prop) (t:Tr) (c:Value)
 |box (W:World)
def Sp.holds:Sp->Value->World->Prop
 | .any,_,_=> True
 | .val u,v,_=> v=u
 | .tree M t,v,w=> InT w M t v
 | .row M ts,v,w=> ∃A c,v= .slice A ts.length c/\ts.length<=c/\c<=maxLen/\InK w M A ts
 | .two M t c,v,w=> ∃u,v= .tuple #[u,c]/\InT w M t u
 | .box W,v,w=> ∃g,v= .pointer (some ⟨g,0,none⟩)/\BoxAt W w g
theorem Sp.ext: ∀{s:Sp} {v:Value} {w w':World},s.holds v w->Ext w w'->s.holds v w'
 | .any,_,_,_,_,_=> trivial
 | .val u,_,_,_,h,_=> h
 | .tree M t,_,_,_,h,e=> InT.later h e
 | .row M ts,_,_,_,h,e=> by
  obtain⟨A,c,h1,h2,h3,h4⟩:=h;exact⟨A,c,h1,h2,h3,h4.later e⟩
 | .two M t c,_,_,_,h,e=> by
  obtain⟨u,h1,h2⟩:=h;exact⟨u,h1,InT.later h2 e⟩
 | .box W,_,_,_,h,e=> by
  obtain⟨g,h1,h2,h3⟩:=h;exact⟨g,h1,h2,e.blk h3⟩
def spG(l:List Sp)(i:Nat)(v:Value)(w:World):Prop:=(l.getD i .any).holds v w
theorem spG_ext(l:List Sp): ∀i v w w',spG l i v w->Ext w w'->spG l i v w':=fun i v w w' h e=> Sp.ext h e
theorem InK.news{w:World}{M:Nat->Prop}{e:TypeId}{t:Tr}{v0 v1 v2:Value}(h:InT w M t (.agg #[v0,v1,v2]))(hM:M w.heap.size):InK (w.alloc (.cells #[v0,v1,v2] e)) M (some ⟨w.heap.size,0,none⟩) [t]:=
 .inr ⟨w.heap.size,0,rfl,hM,⟨⟨v0,v1,v2,q10 (heap_alloc_new w _) 0,q10 (heap_alloc_new w _) 1,q10 (heap_alloc_new w _) 2,h.later ((xr w).alloc _)⟩,trivial⟩⟩
theorem InK.news2{w:World}{M:Nat->Prop}{e:TypeId}{t u:Tr}{v0 v1 v2 u0 u1 u2:Value}(h:InT w M t (.agg #[v0,v1,v2]))(k:InT w M u (.agg #[u0,u1,u2]))(hM:M w.heap.size):InK (w.alloc (.cells #[v0,v1,v2,u0,u1,u2] e)) M (some ⟨w.heap.size,0,none⟩) [t,u]:=
 .inr ⟨w.heap.size,0,rfl,hM,⟨⟨v0,v1,v2,q10 (heap_alloc_new w _) 0,q10 (heap_alloc_new w _) 1,q10 (heap_alloc_new w _) 2,h.later ((xr w).alloc _)⟩,⟨u0,u1,u2,q10 (heap_alloc_new w _) 3,q10 (heap_alloc_new w _) 4,q10 (heap_alloc_new w _) 5,k.later ((xr w).alloc _)⟩,trivial⟩⟩
theorem InK.news3{w:World}{M:Nat->Prop}{e:TypeId}{t u x:Tr}{v0 v1 v2 u0 u1 u2 x0 x1 x2:Value}(h:InT w M t (.agg #[v0,v1,v2]))(k:InT w M u (.agg #[u0,u1,u2]))(l:InT w M x (.agg #[x0,x1,x2]))(hM:M w.heap.size):InK (w.alloc (.cells #[v0,v1,v2,u0,u1,u2,x0,x1,x2] e)) M (some ⟨w.heap.size,0,none⟩) [t,u,x]:=
 .inr ⟨w.heap.size,0,rfl,hM,⟨⟨v0,v1,v2,q10 (heap_alloc_new w _) 0,q10 (heap_alloc_new w _) 1,q10 (heap_alloc_new w _) 2,h.later ((xr w).alloc _)⟩,⟨u0,u1,u2,q10 (heap_alloc_new w _) 3,q10 (heap_alloc_new w _) 4,q10 (heap_alloc_new w _) 5,k.later ((xr w).alloc _)⟩,⟨x0,x1,x2,q10 (heap_alloc_new w _) 6,q10 (heap_alloc_new w _) 7,q10 (heap_alloc_new w _) 8,l.later ((xr w).alloc _)⟩,trivial⟩⟩
theorem kinds16{k n:Int}{ks:List Tr}{d:Int}(h:shape sigT (.mk k n ks) d=true):(opsT k=(ks.length:Int))/\(k=1\/k=2\/k=3\/k=4\/k=5\/k=6\/k=7\/k=8\/k=9\/k=10\/k=11\/k=12\/k=13\/k=14\/k=15\/k=16):=by
 obtain⟨h1,h2,h3,h4⟩:=j29 h;simp only[sigT] at h1;have hr:1<=k/\k<=16:=by
  by_cases h:1<=k/\k<=16
  · exact h
  · exfalso
    unfold opsT at h1;rw[if_neg (by omega),if_neg (by omega),if_neg (by omega),if_neg (by omega),if_neg (by omega),if_neg (by omega),if_neg (by omega),if_neg (by omega),if_neg (by omega),if_neg (by omega),if_neg (by omega),if_neg (by omega),if_neg (by omega),if_neg (by omega),if_neg (by omega),if_neg (by omega)] at h1;omega
 exact⟨h1,by omega⟩
theorem j79{ks:List Tr}{j:Nat}{t:Tr}(hj:j < ks.length)(h:ks[j]=t):kd ks j=t:=by
 unfold kd;rw[List.getD_eq_getElem?_getD,List.getElem?_eq_getElem hj];exact h
theorem q31(t:Tr)(d:Int)(hsh:shape sigT t d=true)(w:World)(v:Value)(j8:Lies w t v):Calls Tryz.prog 72 #[v] w fun e w'=> e= .returned (.int .i64 (rdxT t))/\Ext w w':=by
 obtain⟨k,n,ks⟩:=t;obtain⟨A,cap,rfl,hl,hc,hK⟩:=Lies.mk_iff.1 j8;obtain⟨j7,hk⟩:=kinds16 hsh;unfold maxLen at hc;clear hsh j8;rcases hk with rfl|rfl|rfl|rfl|rfl|rfl|rfl|rfl|rfl|rfl|rfl|rfl|rfl|rfl|rfl|rfl
 · rw[show rdxT (.mk 1 n ks)=0 from rfl]
   clear j7 hK;go_enter Tryz.func72,Tryz.ntmps72;go_wp2_with fail;go_ret;exact⟨rfl,(xr _).alloc _⟩
 · rw[show rdxT (.mk 2 n ks)=0 from rfl]
   clear j7 hK;go_enter Tryz.func72,Tryz.ntmps72;go_wp2_with fail;go_ret;exact⟨rfl,(xr _).alloc _⟩
 · rw[show rdxT (.mk 3 n ks)=0 from rfl]
   clear j7 hK;go_enter Tryz.func72,Tryz.ntmps72;go_wp2_with fail;go_ret;exact⟨rfl,(xr _).alloc _⟩
 · rw[show rdxT (.mk 4 n ks)=0 from rfl]
   clear j7 hK;go_enter Tryz.func72,Tryz.ntmps72;go_wp2_with fail;go_ret;exact⟨rfl,(xr _).alloc _⟩
 · have hlen:ks.length=2:=by have:(2:Int)=(ks.length:Int):=j7;omega
   have hlt:(0:Int) <(ks.length:Int):=by omega
   obtain⟨b,o,k',n',A',cap',kids,rfl,hid,c0,c1,c2,-,-,-,-,-⟩:=hK.get ((xr w).alloc (.cells #[.int .i64 5,.int .i64 n,.slice A ks.length cap] 26)) (j:=0) (by omega);simp only[Nat.zero_mul,Nat.add_zero] at c0;clear c1 c2;have E4:kd ks 0= .mk k' n' kids:=j79 (by omega) hid.out;have hR:rdxT (.mk 5 n ks)=if k'=4 then 1 else 0:=by show rdx 5 ks=_;unfold rdx;rw[E4];rfl
   rw[hR];clear hR E4 hid j7 hK hlen;by_cases e4:k'=4
   · subst e4
     rw[if_pos rfl];go_enter Tryz.func72,Tryz.ntmps72;go_wp2_with fail;go_ret;exact⟨rfl,(xr _).alloc _⟩
   have d4:(k'==4)=false:=beq_eq_false_iff_ne.2 e4;rw[if_neg e4];go_enter Tryz.func72,Tryz.ntmps72;go_wp2_with fail;go_ret;exact⟨rfl,(xr _).alloc _⟩
 · rw[show rdxT (.mk 6 n ks)=0 from rfl]
   clear j7 hK;go_enter Tryz.func72,Tryz.ntmps72;go_wp2_with fail;go_ret;exact⟨rfl,(xr _).alloc _⟩
 · rw[show rdxT (.mk 7 n ks)=0 from rfl]
   clear j7 hK;go_enter Tryz.func72,Tryz.ntmps72;go_wp2_with fail;go_ret;exact⟨rfl,(xr _).alloc _⟩
 · rw[show rdxT (.mk 8 n ks)=0 from rfl]
   clear j7 hK;go_enter Tryz.func72,Tryz.ntmps72;go_wp2_with fail;go_ret;exact⟨rfl,(xr _).alloc _⟩
 · have hlen:ks.length=4:=by have:(4:Int)=(ks.length:Int):=j7;omega
   have hlt:(3:Int) <(ks.length:Int):=by omega
   obtain⟨b,o,k',n',A',cap',kids,rfl,hid,c0,c1,c2,-,-,-,-,-⟩:=hK.get ((xr w).alloc (.cells #[.int .i64 9,.int .i64 n,.slice A ks.length cap] 26)) (j:=3) (by omega);simp only[Nat.reduceMul] at c0;clear c1 c2;have E4:kd ks 3= .mk k' n' kids:=j79 (by omega) hid.out;have hR:rdxT (.mk 9 n ks)=if k'=7 then 2 else if k'=8 then 3 else 0:=by show rdx 9 ks=_;unfold rdx;rw[E4];rfl
   rw[hR];clear hR E4 hid j7 hK hlen;by_cases e7:k'=7
   · subst e7
     rw[if_pos rfl];go_enter Tryz.func72,Tryz.ntmps72;go_wp2_with fail;go_ret;exact⟨rfl,(xr _).alloc _⟩
   by_cases e8:k'=8
   · subst e8
     rw[if_neg (by decide),if_pos rfl];go_enter Tryz.func72,Tryz.ntmps72;go_wp2_with fail;go_ret;exact⟨rfl,(xr _).alloc _⟩
   have d7:(k'==7)=false:=beq_eq_false_iff_ne.2 e7;have d8:(k'==8)=false:=beq_eq_false_iff_ne.2 e8;rw[if_neg e7,if_neg e8];go_enter Tryz.func72,Tryz.ntmps72;go_wp2_with fail;go_ret;exact⟨rfl,(xr _).alloc _⟩
 · rw[show rdxT (.mk 10 n ks)=0 from rfl]
   clear j7 hK;go_enter Tryz.func72,Tryz.ntmps72;go_wp2_with fail;go_ret;exact⟨rfl,(xr _).alloc _⟩
 · rw[show rdxT (.mk 11 n ks)=0 from rfl]
   clear j7 hK;go_enter Tryz.func72,Tryz.ntmps72;go_wp2_with fail;go_ret;exact⟨rfl,(xr _).alloc _⟩
 · have hlen:ks.length=3:=by have:(3:Int)=(ks.length:Int):=j7;omega
   have hlt:(1:Int) <(ks.length:Int):=by omega
   obtain⟨b,o,k',n',A',cap',kids,rfl,hid,c0,c1,c2,-,-,-,-,-⟩:=hK.get ((xr w).alloc (.cells #[.int .i64 12,.int .i64 n,.slice A ks.length cap] 26)) (j:=1) (by omega);simp only[Nat.reduceMul] at c0;clear c1 c2;have E4:kd ks 1= .mk k' n' kids:=j79 (by omega) hid.out;have hR:rdxT (.mk 12 n ks)=if k'=11 then 4 else 0:=by show rdx 12 ks=_;unfold rdx;rw[E4];rfl
   rw[hR];clear hR E4 hid j7 hK hlen;by_cases e11:k'=11
   · subst e11
     rw[if_pos rfl];go_enter Tryz.func72,Tryz.ntmps72;go_wp2_with fail;go_ret;exact⟨rfl,(xr _).alloc _⟩
   have d11:(k'==11)=false:=beq_eq_false_iff_ne.2 e11;rw[if_neg e11];go_enter Tryz.func72,Tryz.ntmps72;go_wp2_with fail;go_ret;exact⟨rfl,(xr _).alloc _⟩
 · rw[show rdxT (.mk 13 n ks)=0 from rfl]
   clear j7 hK;go_enter Tryz.func72,Tryz.ntmps72;go_wp2_with fail;go_ret;exact⟨rfl,(xr _).alloc _⟩
 · rw[show rdxT (.mk 14 n ks)=0 from rfl]
   clear j7 hK;go_enter Tryz.func72,Tryz.ntmps72;go_wp2_with fail;go_ret;exact⟨rfl,(xr _).alloc _⟩
 · have hlen:ks.length=1:=by have:(1:Int)=(ks.length:Int):=j7;omega
   have hlt:(0:Int) <(ks.length:Int):=by omega
   obtain⟨b,o,k',n',A',cap',kids,rfl,hid,c0,c1,c2,-,-,-,-,-⟩:=hK.get ((xr w).alloc (.cells #[.int .i64 15,.int .i64 n,.slice A ks.length cap] 26)) (j:=0) (by omega);simp only[Nat.zero_mul,Nat.add_zero] at c0;clear c1 c2;have E4:kd ks 0= .mk k' n' kids:=j79 (by omega) hid.out;have hR:rdxT (.mk 15 n ks)=if k'=14 then 5 else 0:=by show rdx 15 ks=_;unfold rdx;rw[E4];rfl
   rw[hR];clear hR E4 hid j7 hK hlen;by_cases iv:k'=14
   · subst iv
     rw[if_pos rfl];go_enter Tryz.func72,Tryz.ntmps72;go_wp2_with fail;go_ret;exact⟨rfl,(xr _).alloc _⟩
   have d14:(k'==14)=false:=beq_eq_false_iff_ne.2 iv;rw[if_neg iv];go_enter Tryz.func72,Tryz.ntmps72;go_wp2_with fail;go_ret;exact⟨rfl,(xr _).alloc _⟩
 · have hlen:ks.length=1:=by have:(1:Int)=(ks.length:Int):=j7;omega
   have hlt:(0:Int) <(ks.length:Int):=by omega
   obtain⟨b,o,k',n',A',cap',kids,rfl,hid,c0,c1,c2,-,-,-,-,-⟩:=hK.get ((xr w).alloc (.cells #[.int .i64 16,.int .i64 n,.slice A ks.length cap] 26)) (j:=0) (by omega);simp only[Nat.zero_mul,Nat.add_zero] at c0;clear c1 c2;have E4:kd ks 0= .mk k' n' kids:=j79 (by omega) hid.out;have hR:rdxT (.mk 16 n ks)=if k'=14 then 6 else 0:=by show rdx 16 ks=_;unfold rdx;rw[E4];rfl
   rw[hR];clear hR E4 hid j7 hK hlen;by_cases iv:k'=14
   · subst iv
     rw[if_pos rfl];go_enter Tryz.func72,Tryz.ntmps72;go_wp2_with fail;go_ret;exact⟨rfl,(xr _).alloc _⟩
   have d14:(k'==14)=false:=beq_eq_false_iff_ne.2 iv;rw[if_neg iv];go_enter Tryz.func72,Tryz.ntmps72;go_wp2_with fail;go_ret;exact⟨rfl,(xr _).alloc _⟩
theorem Only.setNew{L:List Nat}{a w:World}(h:Only L a w){p:Addr}(hp:a.heap.size<=p.block)(u:Value):Only L a (w.setCell p u):=
 ⟨h.os,h.tape,h.output,by simpa using h.size,fun i hi hn=>(Below.heap_setCell w p u i (by omega)).trans (h.block i hi hn)⟩
theorem Only.blk{L:List Nat}{a w:World}{g:Nat}{o:Obj}(h:Only L a w)(hb:a.heap[g]? =some o)(hn: ¬g∈L):w.heap[g]? =some o:=(h.block g (j10 hb) hn).trans hb
theorem q37(n:Int)(w:World):Calls Tryz.prog 132 #[.int .i64 n] w fun e w'=> e= .returned (.agg #[.int .i64 1,.int .i64 n,.slice none 0 0])/\Ext w w':=by
 go_enter Tryz.func132,Tryz.ntmps132;go_wp2_with fail;exact bodyPost_ret (v:= .agg #[.int .i64 1,.int .i64 n,.slice none 0 0]) (by simp[results,Tryz.results132,go_sem]) rfl ⟨rfl,(xr w).alloc _⟩
theorem y69(k n:Int)(ks:List Tr)(A:Option Addr)(cap:Nat)(w:World)(j8:Lies w (.mk k n ks) (.agg #[.int .i64 k,.int .i64 n,.slice A ks.length cap])):
 Calls Tryz.prog 39 #[.agg #[.int .i64 k,.int .i64 n,.slice A ks.length cap]] w fun e w'=>(if valid sigT (.mk k n ks)=true then e= .returned (.tuple #[.agg #[.int .i64 k,.int .i64 n,.slice A ks.length cap],.bool true]) else e= .returned (.tuple #[.agg #[.int .i64 0,.int .i64 0,.slice none 0 0],.bool false]))/\Ext w w':=by
 have HV:=hdq (fun W (hW:Ext w W)=> j16 _ W _ (j8.ext hW));generalize valid sigT (.mk k n ks)=s at HV⊢;have hE:=((xr w).alloc (.cells #[.int .i64 k,.int .i64 n,.slice A ks.length cap] 26)).alloc (.cells #[.int .i64 0,.int .i64 0,.slice none 0 0] 26);obtain⟨ng,I8,hs1⟩:=blk2 (xr ((w.alloc (.cells #[.int .i64 k,.int .i64 n,.slice A ks.length cap] 26)).alloc (.cells #[.int .i64 0,.int .i64 0,.slice none 0 0] 26)));cases s with
 |true=>
  simp only[if_true];go_enter Tryz.func39,Tryz.ntmps39;go_wp2_with fail;refine(HV.out _ hE).mono ?_;rintro e w1 ⟨rfl,e1⟩;obtain⟨x0,x1,x2,-,-,-⟩:=own3 (e1.blk ng);obtain⟨s0,s1,s2,f0,f1,f2⟩:=own3 (e1.blk I8);go_wp2_with fail;exact bodyPost_ret (v:= .tuple #[.agg #[.int .i64 k,.int .i64 n,.slice A ks.length cap],.bool true]) (by simp[results,Tryz.results39,go_sem,s0,s1,s2]) rfl ⟨rfl,((((hE.trans e1).setCell (by simp) _).setCell (by simp) _).setCell (by simp) _)⟩
 |false=>
  simp only[Bool.false_eq_true,if_false];go_enter Tryz.func39,Tryz.ntmps39;go_wp2_with fail;refine(HV.out _ hE).mono ?_;rintro e w1 ⟨rfl,e1⟩;obtain⟨s0,s1,s2,f0,f1,f2⟩:=own3 (e1.blk I8);go_wp2_with fail;exact bodyPost_ret (v:= .tuple #[.agg #[.int .i64 0,.int .i64 0,.slice none 0 0],.bool false]) (by simp[results,Tryz.results39,go_sem,s0,s1,s2]) rfl ⟨rfl,((((hE.trans e1).setCell (by simp) _).setCell (by simp) _).setCell (by simp) _)⟩
def ShI(p1 p2 p3 B:Nat)(c y:Int)(w:World)(s:Bool):Prop:=(p1 < B/\p2 < B/\p3 < B)/\w.heap[p1]? =some (.cells #[.int .i64 c] 3 (0,0))/\w.heap[p2]? =some (.cells #[.int .i64 y] 3 (0,0))/\w.heap[p3]? =some (.cells #[.bool s] 4 (0,0))
theorem shift1(a:World)(p1 p2 p3 B:Nat)(c y:Int)(K0:p1≠p3)(dz:p2≠p3)(hy0:0<=y)(J0:y<=1000)(hc0:0<=c)(hc1:c<=1000):Chg_sh a p1 p2 p3 [p3] (ShI p1 p2 p3 B c y) (gsh y c) (hsh y c):=by
 intro w s n b ha hI H7 I0 hb0 hb1;obtain⟨yt,i1,i2,i3⟩:=hI;have c1:=q10 i1 0;have c2:=q10 i2 0;have c3:=q10 i3 0;have f3:=q14 i3 0;have l1:=j10 i1;have l2:=j10 i2;have l3:=j10 i3;have H1:=hdq i1;have H2:=hdq i2;have H3:=hdq i3;clear i1 i2 i3;have HV:=hdq (fun m W=> q37 m W);by_cases h:c<=n - b
 · have d1:decide (c<=n - b)=true:=decide_eq_true h
   obtain⟨b2,d2⟩: ∃x,decide (c<=n+y - b)=x:=⟨_,rfl⟩;obtain⟨b3,d3⟩: ∃x,decide (n+y<=20)=x:=⟨_,rfl⟩;have e1:gsh y c n b= .mk 1 (n+y) []:=by unfold gsh;rw[if_pos h]
   have e2:hsh y c n b=(b2 && b3):=by unfold hsh;rw[if_pos h,d2,d3]
   rw[e1,e2];clear e1 e2 h;cases s <;> cases b2 <;> cases b3
   all_goals go_enter Tryz.func131,Tryz.ntmps131
   all_goals go_wp2_with fail
   all_goals(
    refine(HV.out _ _).mono ?_;rintro e w1 ⟨rfl,e1⟩;have hb:=e1.newBlk;simp only[World.size_setCell] at hb;obtain⟨s0,s1,s2,f0,f1,f2⟩:=own3 hb;have o1:=fun u=>(((Only.refl [p3] w).setCell (p:=⟨p3,0,none⟩) (by simp) u).alloc (.cells #[.int .i64 0,.int .i64 0,.slice none 0 0] 26))
    have o2:=(o1 _).trans (oE e1);have q3:=fun u=> q11 H3.out 0 u
    have q4:=e1.blk ((Below.heap_alloc _ _ _ (by simp;omega)).trans (q3 _));clear hb;go_wp2_with fail;refine bodyPost_ret (v:= .agg #[.int .i64 1,.int .i64 (n+y),.slice none 0 0]) (by simp[results,Tryz.results131,go_sem,s0,s1,s2]) rfl ⟨_,rfl,Made.leaf _ _ _ _ _, ?_,yt, ?_, ?_, ?_⟩
    · exact(((o2.setNew (by simp) _).setNew (by simp) _).setNew (by simp) _)
    · exact(((o2.setNew (by simp) _).setNew (by simp) _).setNew (by simp) _).blk H1.out (by simpa using K0)
    · exact(((o2.setNew (by simp) _).setNew (by simp) _).setNew (by simp) _).blk H2.out (by simpa using dz)
    · rw[Below.heap_setCell _ _ _ _ (by show p3≠w.heap.size;omega),Below.heap_setCell _ _ _ _ (by show p3≠w.heap.size;omega),Below.heap_setCell _ _ _ _ (by show p3≠w.heap.size;omega),q4]
      rfl)
 · have d1:decide (c<=n - b)=false:=decide_eq_false h
   have e1:gsh y c n b= .mk 1 n []:=by unfold gsh;rw[if_neg h]
   have e2:hsh y c n b=true:=by unfold hsh;rw[if_neg h]
   rw[e1,e2,Bool.and_true];clear e1 e2 h;go_enter Tryz.func131,Tryz.ntmps131;go_wp2_with fail;refine(HV.out _ _).mono ?_;rintro e w1 ⟨rfl,e1⟩;have hb:=e1.newBlk;obtain⟨s0,s1,s2,f0,f1,f2⟩:=own3 hb;have o2:=((Only.refl [p3] w).alloc (.cells #[.int .i64 0,.int .i64 0,.slice none 0 0] 26)).trans (oE e1);have q4:=(Ext.blk e1.pre H3.out);clear hb;go_wp2_with fail;refine bodyPost_ret (v:= .agg #[.int .i64 1,.int .i64 n,.slice none 0 0]) (by simp[results,Tryz.results131,go_sem,s0,s1,s2]) rfl ⟨_,rfl,Made.leaf _ _ _ _ _, ?_,yt, ?_, ?_, ?_⟩
   · exact(((o2.setNew (by simp) _).setNew (by simp) _).setNew (by simp) _)
   · exact(((o2.setNew (by simp) _).setNew (by simp) _).setNew (by simp) _).blk H1.out (by simpa using K0)
   · exact(((o2.setNew (by simp) _).setNew (by simp) _).setNew (by simp) _).blk H2.out (by simpa using dz)
   · rw[Below.heap_setCell _ _ _ _ (by show p3≠w.heap.size;omega),Below.heap_setCell _ _ _ _ (by show p3≠w.heap.size;omega),Below.heap_setCell _ _ _ _ (by show p3≠w.heap.size;omega),q4]
def okT(t:Tr):Tr:=if valid sigT t=true then t else y14
theorem q80(t:Tr)(y c:Int)(w:World)(v:Value)(j8:Lies w t v)(hv:valid sigT t=true)(hy0:0<=y)(J0:y<=1000)(hc0:0<=c)(hc1:c<=1000):
 Calls Tryz.prog 98 #[v,.int .i64 y,.int .i64 c] w fun e w'=> ∃u,e= .returned (.tuple #[u,.bool (valid sigT (shfT y t c))])/\Made w w' 26 (okT (shfT y t c)) u/\Ext w w':=by
 obtain⟨hs,J2⟩:=y11 hv;obtain⟨i6,hw2⟩:=j172 (c:=c) hy0 hv;have tz:=fun W (hW:Ext w W) p1 p2 p3 (hp:w.heap.size<=p3) (K0:p1≠p3) (dz:p2≠p3) (h1:W.heap[p1]? =some (.cells #[.int .i64 c] 3 (0,0))) (h2:W.heap[p2]? =some (.cells #[.int .i64 y] 3 (0,0))) (h3:W.heap[p3]? =some (.cells #[.bool true] 4 (0,0)))=>
  j98 t w W v 0 30 p1 p2 p3 [p3] W.heap.size (ShI p1 p2 p3 W.heap.size c y) (gsh y c) (hsh y c) true hs j8 hW (fun x hx=> by rw[List.mem_singleton.1 hx];exact⟨hp,j10 h3⟩) (by omega) (by omega)
   (shift1 w p1 p2 p3 _ c y K0 dz hy0 J0 hc0 hc1) (fun w1 w2 s h he=>⟨h.1,he.blk h.2.1,he.blk h.2.2.1,he.blk h.2.2.2⟩) (Nat.le_refl _) (fun w1 w2 s h he hl=>⟨h.1,(he p1 h.1.1).trans h.2.1,(he p2 h.1.2.1).trans h.2.2.1,(he p3 h.1.2.2).trans h.2.2.2⟩) ⟨⟨j10 h1,j10 h2,j10 h3⟩,h1,h2,h3⟩
 rw[hw2] at i6;simp only[hw2,Bool.true_and] at tz;have oc:=hdq tz;clear tz hw2 hs;obtain⟨vb,gy⟩: ∃vb,vb=valid sigT (shfT y t c):=⟨_,rfl⟩;obtain⟨rt,hrt⟩: ∃rt,rt=okT (shfT y t c):=⟨_,rfl⟩;rw[<-gy,<-hrt];generalize shfT y t c=r at i6 oc gy hrt;generalize allT (hsh y c) t 0=f at i6 oc;obtain⟨k,n,ks⟩:=t;obtain⟨A,cap,rfl,hl,hc,hK⟩:=Lies.mk_iff.1 j8;have hE:=((((xr w).alloc (.cells #[.int .i64 k,.int .i64 n,.slice A ks.length cap] 26)).alloc (.cells #[.int .i64 y] 3)).alloc (.cells #[.int .i64 c] 3)).alloc (.cells #[.int .i64 0,.int .i64 0,.slice none 0 0] 26);have Ae:=blk4 ((xr ((((w.alloc (.cells #[.int .i64 k,.int .i64 n,.slice A ks.length cap] 26)).alloc (.cells #[.int .i64 y] 3)).alloc (.cells #[.int .i64 c] 3)).alloc (.cells #[.int .i64 0,.int .i64 0,.slice none 0 0] 26))).alloc (.cells #[.bool true] 4));have E8:=heap_alloc_new ((((w.alloc (.cells #[.int .i64 k,.int .i64 n,.slice A ks.length cap] 26)).alloc (.cells #[.int .i64 y] 3)).alloc (.cells #[.int .i64 c] 3)).alloc (.cells #[.int .i64 0,.int .i64 0,.slice none 0 0] 26)) (.cells #[.bool true] 4);have pn:=hE.alloc (.cells #[.bool true] 4);have hsz:(((((w.alloc (.cells #[.int .i64 k,.int .i64 n,.slice A ks.length cap] 26)).alloc (.cells #[.int .i64 y] 3)).alloc (.cells #[.int .i64 c] 3)).alloc (.cells #[.int .i64 0,.int .i64 0,.slice none 0 0] 26)).alloc (.cells #[.bool true] 4)).heap.size=w.heap.size+1+1+1+1+1:=by simp
 obtain⟨hb1,hb2,hb3,hb4,-⟩:=Ae;simp only[World.size_alloc] at E8;go_enter Tryz.func98,Tryz.ntmps98;go_wp2_with fail;generalize World.alloc _ _=wa at pn hb1 hb2 hb3 hb4 E8 hsz;clear hE;refine(oc.out wa pn _ _ _ (by omega) (by omega) (by omega) hb3 hb2 E8).mono ?_;rintro e w1 ⟨u,rfl,hM,ho,hI⟩;obtain⟨k2,n2,U1⟩:=r;obtain⟨A2,c2,rfl,hl2,hc2,Nt⟩:=Made.mk_iff.1 hM;have N6:=ho.blk hb4 (by simp);have i3:=hI.2.2.2;have hc5:=q10 i3 0;have Mb:=j10 i3;have fw:=j10 N6;have Lr:=ho.size;have tj:Ext w w1:=ho.ext pn (fun x hx=> by rw[List.mem_singleton.1 hx];omega);obtain⟨s0,s1,s2,f0,f1,f2⟩:=own3 N6;clear oc hb1 hb2 hb3 hb4 E8 hI i3;have hx:=(xr w1).alloc (.cells #[.int .i64 k2,.int .i64 n2,.slice A2 U1.length c2] 26);cases f with
 |false=>
  rw[Bool.false_and] at i6;have h1:vb=false:=by rw[gy,<-i6]
  have h2:rt=y14:=by rw[hrt];unfold okT;rw[<-i6];rfl
  have H1:=hdq h1;have H2:=hdq h2;clear i6 gy hrt h1 h2;go_wp2_with fail;refine bodyPost_ret (v:= .tuple #[.agg #[.int .i64 0,.int .i64 0,.slice none 0 0],.bool false]) (by simp[results,Tryz.results98,go_sem,s0,s1,s2,fw]) rfl ⟨.agg #[.int .i64 0,.int .i64 0,.slice none 0 0],by rw[H1.out],by rw[H2.out];exact Made.leaf _ _ _ _ _, ?_⟩;exact(((tj.setCell (by simp;omega) _).setCell (by simp;omega) _).setCell (by simp;omega) _).alloc _
 |true=>
  rw[Bool.true_and] at i6;have HV:=hdq (fun W (hW:Ext w1 W)=> y69 k2 n2 U1 A2 c2 W (hM.lies.ext hW));generalize F5:valid sigT (.mk k2 n2 U1)=b at HV;have hO:rt=if b=true then .mk k2 n2 U1 else y14:=by rw[hrt];unfold okT;rw[F5]
  rw[F5] at gy;have H1:=hdq gy;have H2:=hdq hO;clear hO i6 F5 hrt gy;go_wp2_with fail;refine(HV.out _ hx).mono ?_;cases b with
  |true=>
   simp only[if_true];rintro e w2 ⟨rfl,e2⟩;obtain⟨q0,q1,q2,g0,g1,g2⟩:=own3 ((hx.trans e2).blk N6);go_wp2_with fail;refine bodyPost_ret (v:= .tuple #[.agg #[.int .i64 k2,.int .i64 n2,.slice A2 U1.length c2],.bool true]) (by simp[results,Tryz.results98,go_sem,q0,q1,q2]) rfl ⟨.agg #[.int .i64 k2,.int .i64 n2,.slice A2 U1.length c2],by rw[H1.out], ?_, ?_⟩
   · rw[H2.out]
     simp only[if_true];exact Made.since (((hM.ext (hx.trans e2)).after ((((q23.refl _ _).setCell (by simp;omega) _).setCell (by simp;omega) _).setCell (by simp;omega) _))) (by omega)
   · exact(((((tj.trans hx).trans e2).setCell (by simp;omega) _).setCell (by simp;omega) _).setCell (by simp;omega) _)
  |false=>
   simp only[Bool.false_eq_true,if_false];rintro e w2 ⟨rfl,e2⟩;obtain⟨q0,q1,q2,g0,g1,g2⟩:=own3 ((hx.trans e2).blk N6);go_wp2_with fail;refine bodyPost_ret (v:= .tuple #[.agg #[.int .i64 0,.int .i64 0,.slice none 0 0],.bool false]) (by simp[results,Tryz.results98,go_sem,q0,q1,q2]) rfl ⟨.agg #[.int .i64 0,.int .i64 0,.slice none 0 0],by rw[H1.out],by rw[H2.out];exact Made.leaf _ _ _ _ _, ?_⟩;exact(((((tj.trans hx).trans e2).setCell (by simp;omega) _).setCell (by simp;omega) _).setCell (by simp;omega) _)
theorem box1{w w1:World}{a:Obj}(h:w1=w.alloc a):w1.heap[w.heap.size]? =some a/\w.heap.size < w1.heap.size/\Ext w w1:=by
 subst h;obtain⟨p,s⟩:=blk1 (xr (w.alloc a));exact⟨p,s,(xr w).alloc a⟩
theorem box2{w w1:World}{a b:Obj}(h:w1=(w.alloc a).alloc b):w1.heap[w.heap.size]? =some a/\w1.heap[w.heap.size+1]? =some b/\w.heap.size+1 < w1.heap.size/\Ext w w1:=by
 subst h;obtain⟨p,q,s⟩:=blk2 (xr ((w.alloc a).alloc b));exact⟨p,q,s,((xr w).alloc a).alloc b⟩
theorem box3{w w1:World}{a b c:Obj}(h:w1=((w.alloc a).alloc b).alloc c):w1.heap[w.heap.size]? =some a/\w1.heap[w.heap.size+1]? =some b/\w1.heap[w.heap.size+1+1]? =some c/\w.heap.size+1+1 < w1.heap.size/\Ext w w1:=by
 subst h;obtain⟨p,q,r,s⟩:=blk3 (xr (((w.alloc a).alloc b).alloc c));exact⟨p,q,r,s,(((xr w).alloc a).alloc b).alloc c⟩
theorem cb1{w:World}{g:Nat}{x0:Value}{e:TypeId}(hb:w.heap[g]? =some (.cells #[x0] e (0,0))):w.cell? ⟨g,0,none⟩=some x0/\g < w.heap.size:=⟨q10 hb 0,j10 hb⟩
theorem cb3{w:World}{g:Nat}{x0 x1 x2:Value}{e:TypeId}(hb:w.heap[g]? =some (.cells #[x0,x1,x2] e (0,0))):w.cell? ⟨g,0,none⟩=some x0/\w.cell? ⟨g,1,none⟩=some x1/\w.cell? ⟨g,2,none⟩=some x2/\g < w.heap.size:=⟨q10 hb 0,q10 hb 1,q10 hb 2,j10 hb⟩
theorem cb5{w:World}{g:Nat}{x0 x1 x2 x3 x4:Value}{e:TypeId}(hb:w.heap[g]? =some (.cells #[x0,x1,x2,x3,x4] e (0,0))):w.cell? ⟨g,0,none⟩=some x0/\w.cell? ⟨g,1,none⟩=some x1/\w.cell? ⟨g,2,none⟩=some x2/\w.cell? ⟨g,3,none⟩=some x3/\w.cell? ⟨g,4,none⟩=some x4/\g < w.heap.size:=⟨q10 hb 0,q10 hb 1,q10 hb 2,q10 hb 3,q10 hb 4,j10 hb⟩
theorem cbn{w:World}{g:Nat}{x0 x1 x2:Value}{e:TypeId}(hb:w.heap[g]? =some (.cells #[x0,x1,x2] e (0,0))):
 w.cell? ⟨g,0,none⟩=some x0/\w.cell? ⟨g,1,none⟩=some x1/\w.cell? ⟨g,2,none⟩=some x2/\w.frozen? ⟨g,0,none⟩=false/\w.frozen? ⟨g,1,none⟩=false/\w.frozen? ⟨g,2,none⟩=false:=own3 hb
theorem cbr{w:World}{g:Nat}{x0 x1 x2:Value}{e:TypeId}(hb:w.heap[g]? =some (.cells #[x0,x1,x2] e (0,0))):
 w.cell? ⟨g,0,none⟩=some x0/\w.cell? ⟨g,1,none⟩=some x1/\w.cell? ⟨g,2,none⟩=some x2/\w.frozen? ⟨g,0,none⟩=false/\w.frozen? ⟨g,1,none⟩=false/\w.frozen? ⟨g,2,none⟩=false/\g < w.heap.size:=
 ⟨q10 hb 0,q10 hb 1,q10 hb 2,q14 hb 0,q14 hb 1,q14 hb 2,j10 hb⟩
theorem Ext.set3{a b:World}(h:Ext a b){g:Nat}(hg:a.heap.size<=g)(x y z:Value):Ext a (((b.setCell ⟨g,0,none⟩ x).setCell ⟨g,1,none⟩ y).setCell ⟨g,2,none⟩ z):=((h.setCell hg x).setCell hg y).setCell hg z
end Go.Proofs.YtbnkbepgmenblaaGreatDoor
