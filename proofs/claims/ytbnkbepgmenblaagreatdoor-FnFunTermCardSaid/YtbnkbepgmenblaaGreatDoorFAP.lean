/-
  Lemmas towards the law, 16: Parse2, Cut, DefKit, Paths, Subst, MaxF.
-/
import Derived.Test.YtbnkbepgmenblaaGreatDoorFAL
import Derived.Test.YtbnkbepgmenblaaGreatDoorFAM
import Derived.Deep.RegionHeldLaw
set_option linter.unusedVariables false
set_option maxHeartbeats 2000000
set_option maxRecDepth 100000
namespace Go.Proofs.YtbnkbepgmenblaaGreatDoor
open Go.RowKit
def From(B:Nat)(w:World)(t:Tr)(v:Value):Prop:=InT w (fun b=> B<=b/\b < w.heap.size) t v
theorem From.leaf(B:Nat)(w:World)(k n:Int):From B w (.mk k n []) (.agg #[.int .i64 k,.int .i64 n,.slice none 0 0]):=InT.mk_iff.2 ⟨none,0,rfl,Nat.le_refl _,Nat.zero_le _,.inl rfl⟩
theorem From.ext{B:Nat}{w w':World}{t:Tr}{v:Value}(h:From B w t v)(he:Ext w w'):From B w' t v:=h.mono (fun b hb=>⟨hb.1,Nat.lt_of_lt_of_le hb.2 he.size⟩) (fun b hb=> he.heap b hb.2)
theorem From.since{B C:Nat}{w:World}{t:Tr}{v:Value}(h:From B w t v)(hc:C<=B):From C w t v:=h.mono (fun b hb=>⟨Nat.le_trans hc hb.1,hb.2⟩) (fun _ _=> rfl)
theorem From.lies{B:Nat}{w:World}{t:Tr}{v:Value}(h:From B w t v):Lies w t v:=h.mono (fun b hb=> hb.2) (fun _ _=> rfl)
theorem From.three{B:Nat}{w:World}{t:Tr}{u:Value}(h:From B w t u): ∃k n A l c,u= .agg #[.int .i64 k,.int .i64 n,.slice A l c]:=h.lies.three
theorem From.set{B:Nat}{w:World}{t:Tr}{v:Value}(h:From B w t v){p:Addr}(hp:p.block < B)(u:Value):From B (w.setCell p u) t v:=
 h.mono (fun b hb=>⟨hb.1,by simpa using hb.2⟩) (fun b hb=> Below.heap_setCell w p u b (by omega))
theorem From.made{w w':World}{e:TypeId}{t:Tr}{v:Value}(h:Made w w' e t v):From w.heap.size w' t v:=by
 obtain⟨L,h,hf⟩:=h;exact InT.mono (fun b hb=> hf.2 b hb) (fun _ _=> rfl) h.inT
def j35(B:Nat)(w:World)(A:Option Addr)(ks:List Tr):Prop:=InK w (fun b=> B<=b/\b < w.heap.size) A ks
theorem j35.one{B g:Nat}{w:World}{t:Tr}{v0 v1 v2:Value}{e:TypeId}(h:From B w t (.agg #[v0,v1,v2]))(hB:B<=w.heap.size)(hg:g=w.heap.size):j35 B (w.alloc (.cells #[v0,v1,v2] e)) (some ⟨g,0,none⟩) [t]:=
 hg▸InK.one (h.ext ((xr w).alloc _)) (heap_alloc_new w _) ⟨hB,by simp⟩
theorem j35.two{B g:Nat}{w:World}{t u:Tr}{v0 v1 v2 x0 x1 x2:Value}{e:TypeId}(h:From B w t (.agg #[v0,v1,v2]))(h':From B w u (.agg #[x0,x1,x2]))(hB:B<=w.heap.size)(hg:g=w.heap.size):j35 B (w.alloc (.cells #[v0,v1,v2,x0,x1,x2] e)) (some ⟨g,0,none⟩) [t,u]:=by
 subst hg;have hx:=(xr w).alloc (.cells #[v0,v1,v2,x0,x1,x2] e);have hg:=heap_alloc_new w (.cells #[v0,v1,v2,x0,x1,x2] e);have h1:=h.ext hx;have h2:=h'.ext hx;refine .inr ⟨w.heap.size,0,rfl,⟨hB,by simp⟩, ?_⟩;unfold InL;refine⟨⟨v0,v1,v2,q10 hg 0,q10 hg 1,q10 hg 2,h1⟩, ?_⟩;unfold InL;refine⟨⟨x0,x1,x2,q10 hg 3,q10 hg 4,q10 hg 5,h2⟩, ?_⟩;unfold InL
 trivial
theorem q30(B:Nat)(w:World)(k:Int)(A:Option Addr)(cap:Nat)(ks:List Tr)(hA:A=none->cap=0)(hK:j35 B w A ks)(hB:B<=w.heap.size)(hn:ks.length<=1099511627776):
 Calls Tryz.prog 60 #[.int .i64 k,.slice A ks.length cap] w fun e w'=> ∃u,e= .returned u/\From B w' (.mk k 0 ks) u/\Ext w w':=
 (y159 w k A cap ks hA _ (fun b hb=> hb.2) hK hn).mono fun e w' ⟨u,h1,h2,h3⟩=>⟨u,h1,h2.mono (fun b hb=> by
  have:=h3.size;rcases hb with hb|hb
  · exact⟨hb.1,by omega⟩
  · exact⟨by omega,hb.2⟩) (fun _ _=> rfl),h3⟩
def y19(B:Nat)(w:World)(size:Nat)(o:Option (Tr×Nat))(e:Ending)(w':World):Prop:=
 ∃(t:Tr) (u:Value) (nx:Int),e= .returned (.tuple #[u,.int .i64 nx])/\From B w' t u/\Ext w w'/\(∀x,o=some x->t=x.1/\nx=x.2/\x.2<=size)/\(o=none->nx= -1)
def q25(d:Nat):Prop:= ∀(s:ByteArray) (a:Nat) (w:World),s.size<=1000000000->a<=s.size+2->Calls Tryz.prog 29 #[.string s,.int .i64 a,.int .i64 d] w (y19 w.heap.size w s.size (prs d s.data.toList a))
theorem j187(d:Nat)(ih:q25 d)(s:ByteArray)(a:Nat)(w:World)(hs:s.size<=1000000000)(ha:a < s.size)(hc:s[a]=43)(hd:d<=30):
 Calls Tryz.prog 58 #[.string s,.int .i64 a,.int .i64 ((d:Int)+1)] w (y19 w.heap.size w s.size (one 8 (prs d s.data.toList (a+1)))):=by
 have HI:=hdq (fun W=> ih s (a+1) W hs (by omega));obtain⟨R,hR⟩: ∃R,R=prs d s.data.toList (a+1):=⟨_,rfl⟩;rw[<-hR] at HI⊢;clear hR ih;go_enter Tryz.func58,Tryz.ntmps58;go_wp2_with fail;refine(HI.out _).mono ?_;rintro e w1 ⟨t,u,nx,rfl,hF,e1,q1,q2⟩;obtain⟨k0,n0,A0,l0,c0,rfl⟩:=hF.three;have hb:=e1.newBlk;have hsz:=e1.size_alloc;have Z0:=hdq q1;have W7:=hdq q2;have V5:=hF.ext ((xr w1).alloc (.cells #[.int .i64 k0,.int .i64 n0,.slice A0 l0 c0] 26));have hx0:=(xr w).alloc (.cells #[.int .i64 0,.int .i64 0,.slice none 0 0] 26);simp only[World.size_alloc] at V5;clear q1 q2 hF;go_wp2_with fail;refine(q30 (w.heap.size+1) _ 8 _ 1 [t] (by intro h;cases h) (j35.one (g:=w1.heap.size+1) (e:=26) V5 (by simp;omega) (by simp)) (by simp;omega) (by simp)).mono ?_;rintro e w2 ⟨v,rfl,hN,e2⟩;obtain⟨k1,n1,A1,l1,c1,rfl⟩:=hN.three;have hb2:=e2.blk (((xr w1).alloc _|>.alloc _).blk hb);obtain⟨s0,s1,s2,f0,f1,f2⟩:=own3 hb2;have hx2:=(hx0.trans e1).trans (((xr w1).alloc _|>.alloc _).trans e2);go_wp2_with fail;refine bodyPost_ret (v:= .tuple #[.agg #[.int .i64 k1,.int .i64 n1,.slice A1 l1 c1],.int .i64 nx]) (by simp[results,Tryz.results58,go_sem,s0,s1,s2]) rfl ⟨.mk 8 0 [t],_,nx,rfl, ?_, ?_, ?_, ?_⟩
 · exact(((hN.set (by simp) _).set (by simp) _).set (by simp) _).since (by omega)
 · exact((hx2.setCell (by simp) _).setCell (by simp) _).setCell (by simp) _
 · intro x hx
   cases R with
   |none=> cases hx
   |some y=>
    obtain⟨h1,h2,h3⟩:=Z0.out y rfl;cases hx
    exact⟨by rw[h1],h2,h3⟩
 · intro hx
   cases R with
   |none=> exact W7.out rfl
   |some y=> cases hx
theorem j177(d:Nat)(ih:q25 d)(s:ByteArray)(a:Nat)(w:World)(hs:s.size<=1000000000)(ha:a < s.size)(hc:s[a]=33)(hd:d<=30):
 Calls Tryz.prog 58 #[.string s,.int .i64 a,.int .i64 ((d:Int)+1)] w (y19 w.heap.size w s.size (one 11 (prs d s.data.toList (a+1)))):=by
 have HI:=hdq (fun W=> ih s (a+1) W hs (by omega));obtain⟨R,hR⟩: ∃R,R=prs d s.data.toList (a+1):=⟨_,rfl⟩;rw[<-hR] at HI⊢;clear hR ih;go_enter Tryz.func58,Tryz.ntmps58;go_wp2_with fail;refine(HI.out _).mono ?_;rintro e w1 ⟨t,u,nx,rfl,hF,e1,q1,q2⟩;obtain⟨k0,n0,A0,l0,c0,rfl⟩:=hF.three;have hb:=e1.newBlk;have hsz:=e1.size_alloc;have Z0:=hdq q1;have W7:=hdq q2;have V5:=hF.ext ((xr w1).alloc (.cells #[.int .i64 k0,.int .i64 n0,.slice A0 l0 c0] 26));have hx0:=(xr w).alloc (.cells #[.int .i64 0,.int .i64 0,.slice none 0 0] 26);simp only[World.size_alloc] at V5;clear q1 q2 hF;go_wp2_with fail;refine(q30 (w.heap.size+1) _ 11 _ 1 [t] (by intro h;cases h) (j35.one (g:=w1.heap.size+1) (e:=26) V5 (by simp;omega) (by simp)) (by simp;omega) (by simp)).mono ?_;rintro e w2 ⟨v,rfl,hN,e2⟩;obtain⟨k1,n1,A1,l1,c1,rfl⟩:=hN.three;have hb2:=e2.blk (((xr w1).alloc _|>.alloc _).blk hb);obtain⟨s0,s1,s2,f0,f1,f2⟩:=own3 hb2;have hx2:=(hx0.trans e1).trans (((xr w1).alloc _|>.alloc _).trans e2);go_wp2_with fail;refine bodyPost_ret (v:= .tuple #[.agg #[.int .i64 k1,.int .i64 n1,.slice A1 l1 c1],.int .i64 nx]) (by simp[results,Tryz.results58,go_sem,s0,s1,s2]) rfl ⟨.mk 11 0 [t],_,nx,rfl, ?_, ?_, ?_, ?_⟩
 · exact(((hN.set (by simp) _).set (by simp) _).set (by simp) _).since (by omega)
 · exact((hx2.setCell (by simp) _).setCell (by simp) _).setCell (by simp) _
 · intro x hx
   cases R with
   |none=> cases hx
   |some y=>
    obtain⟨h1,h2,h3⟩:=Z0.out y rfl;cases hx
    exact⟨by rw[h1],h2,h3⟩
 · intro hx
   cases R with
   |none=> exact W7.out rfl
   |some y=> cases hx
theorem j166(d:Nat)(ih:q25 d)(s:ByteArray)(a:Nat)(w:World)(hs:s.size<=1000000000)(ha:a < s.size)(hc:s[a]=94)(hd:d<=30):
 Calls Tryz.prog 58 #[.string s,.int .i64 a,.int .i64 ((d:Int)+1)] w (y19 w.heap.size w s.size (one 15 (prs d s.data.toList (a+1)))):=by
 have HI:=hdq (fun W=> ih s (a+1) W hs (by omega));obtain⟨R,hR⟩: ∃R,R=prs d s.data.toList (a+1):=⟨_,rfl⟩;rw[<-hR] at HI⊢;clear hR ih;go_enter Tryz.func58,Tryz.ntmps58;go_wp2_with fail;refine(HI.out _).mono ?_;rintro e w1 ⟨t,u,nx,rfl,hF,e1,q1,q2⟩;obtain⟨k0,n0,A0,l0,c0,rfl⟩:=hF.three;have hb:=e1.newBlk;have hsz:=e1.size_alloc;have Z0:=hdq q1;have W7:=hdq q2;have V5:=hF.ext ((xr w1).alloc (.cells #[.int .i64 k0,.int .i64 n0,.slice A0 l0 c0] 26));have hx0:=(xr w).alloc (.cells #[.int .i64 0,.int .i64 0,.slice none 0 0] 26);simp only[World.size_alloc] at V5;clear q1 q2 hF;go_wp2_with fail;refine(q30 (w.heap.size+1) _ 15 _ 1 [t] (by intro h;cases h) (j35.one (g:=w1.heap.size+1) (e:=26) V5 (by simp;omega) (by simp)) (by simp;omega) (by simp)).mono ?_;rintro e w2 ⟨v,rfl,hN,e2⟩;obtain⟨k1,n1,A1,l1,c1,rfl⟩:=hN.three;have hb2:=e2.blk (((xr w1).alloc _|>.alloc _).blk hb);obtain⟨s0,s1,s2,f0,f1,f2⟩:=own3 hb2;have hx2:=(hx0.trans e1).trans (((xr w1).alloc _|>.alloc _).trans e2);go_wp2_with fail;refine bodyPost_ret (v:= .tuple #[.agg #[.int .i64 k1,.int .i64 n1,.slice A1 l1 c1],.int .i64 nx]) (by simp[results,Tryz.results58,go_sem,s0,s1,s2]) rfl ⟨.mk 15 0 [t],_,nx,rfl, ?_, ?_, ?_, ?_⟩
 · exact(((hN.set (by simp) _).set (by simp) _).set (by simp) _).since (by omega)
 · exact((hx2.setCell (by simp) _).setCell (by simp) _).setCell (by simp) _
 · intro x hx
   cases R with
   |none=> cases hx
   |some y=>
    obtain⟨h1,h2,h3⟩:=Z0.out y rfl;cases hx
    exact⟨by rw[h1],h2,h3⟩
 · intro hx
   cases R with
   |none=> exact W7.out rfl
   |some y=> cases hx
theorem q187(d:Nat)(ih:q25 d)(s:ByteArray)(a:Nat)(w:World)(hs:s.size<=1000000000)(ha:a < s.size)(hc:s[a]=95)(hd:d<=30):
 Calls Tryz.prog 58 #[.string s,.int .i64 a,.int .i64 ((d:Int)+1)] w (y19 w.heap.size w s.size (one 16 (prs d s.data.toList (a+1)))):=by
 have HI:=hdq (fun W=> ih s (a+1) W hs (by omega));obtain⟨R,hR⟩: ∃R,R=prs d s.data.toList (a+1):=⟨_,rfl⟩;rw[<-hR] at HI⊢;clear hR ih;go_enter Tryz.func58,Tryz.ntmps58;go_wp2_with fail;refine(HI.out _).mono ?_;rintro e w1 ⟨t,u,nx,rfl,hF,e1,q1,q2⟩;obtain⟨k0,n0,A0,l0,c0,rfl⟩:=hF.three;have hb:=e1.newBlk;have hsz:=e1.size_alloc;have Z0:=hdq q1;have W7:=hdq q2;have V5:=hF.ext ((xr w1).alloc (.cells #[.int .i64 k0,.int .i64 n0,.slice A0 l0 c0] 26));have hx0:=(xr w).alloc (.cells #[.int .i64 0,.int .i64 0,.slice none 0 0] 26);simp only[World.size_alloc] at V5;clear q1 q2 hF;go_wp2_with fail;refine(q30 (w.heap.size+1) _ 16 _ 1 [t] (by intro h;cases h) (j35.one (g:=w1.heap.size+1) (e:=26) V5 (by simp;omega) (by simp)) (by simp;omega) (by simp)).mono ?_;rintro e w2 ⟨v,rfl,hN,e2⟩;obtain⟨k1,n1,A1,l1,c1,rfl⟩:=hN.three;have hb2:=e2.blk (((xr w1).alloc _|>.alloc _).blk hb);obtain⟨s0,s1,s2,f0,f1,f2⟩:=own3 hb2;have hx2:=(hx0.trans e1).trans (((xr w1).alloc _|>.alloc _).trans e2);go_wp2_with fail;refine bodyPost_ret (v:= .tuple #[.agg #[.int .i64 k1,.int .i64 n1,.slice A1 l1 c1],.int .i64 nx]) (by simp[results,Tryz.results58,go_sem,s0,s1,s2]) rfl ⟨.mk 16 0 [t],_,nx,rfl, ?_, ?_, ?_, ?_⟩
 · exact(((hN.set (by simp) _).set (by simp) _).set (by simp) _).since (by omega)
 · exact((hx2.setCell (by simp) _).setCell (by simp) _).setCell (by simp) _
 · intro x hx
   cases R with
   |none=> cases hx
   |some y=>
    obtain⟨h1,h2,h3⟩:=Z0.out y rfl;cases hx
    exact⟨by rw[h1],h2,h3⟩
 · intro hx
   cases R with
   |none=> exact W7.out rfl
   |some y=> cases hx
theorem j41{s:ByteArray}{a:Nat}{c:UInt8}(h:a < s.size)(hc:s[a]=c):s.data.toList[a]? =some c:=by rw[q83 s h,hc]
theorem q192(d:Nat)(ih:q25 d)(s:ByteArray)(a:Nat)(w:World)(hs:s.size<=1000000000)(ha:a<=s.size):
 Calls Tryz.prog 59 #[.string s,.int .i64 a,.int .i64 d] w (y19 w.heap.size w s.size (rnd (prs d s.data.toList) s.data.toList a)):=by
 have HI:=hdq (fun a W (ha:a<=s.size+2)=> ih s a W hs ha);obtain⟨F,hF⟩: ∃F,F=prs d s.data.toList:=⟨_,rfl⟩;rw[<-hF] at HI⊢;have E9:rnd F s.data.toList a=match F a with
  |none=> none
  |some (x,b)=> if rndK s.data.toList[b]? =0 then none else
   match F (b+1) with
   |none=> none
   |some (y,c)=> if s.data.toList[c]? =some 41 then some (.mk (rndK s.data.toList[b]?) 0 [x,y],c+1) else none:=rfl
 obtain⟨R,hR⟩: ∃R,R=rnd F s.data.toList a:=⟨_,rfl⟩;rw[<-hR] at E9⊢;have HD:=hdq E9;clear hR ih hF E9;go_enter Tryz.func59,Tryz.ntmps59;go_wp2_with fail;refine(HI.out a _ (by omega)).mono ?_;rintro e w1 ⟨t,u,nx,rfl,hF,e1,q1,q2⟩;obtain⟨k0,n0,A0,l0,c0,rfl⟩:=hF.three;have hb:=e1.newBlk;have hsz:=e1.size_alloc;have hx0:=((xr w).alloc (.cells #[.int .i64 0,.int .i64 0,.slice none 0 0] 26)).trans e1;have hx1:=hx0.trans ((xr w1).alloc (.cells #[.int .i64 k0,.int .i64 n0,.slice A0 l0 c0] 26));have V5:=hF.ext ((xr w1).alloc (.cells #[.int .i64 k0,.int .i64 n0,.slice A0 l0 c0] 26));simp only[World.size_alloc] at V5;have hb':=((xr w1).alloc (.cells #[.int .i64 k0,.int .i64 n0,.slice A0 l0 c0] 26)).blk hb;have Py:=heap_alloc_new w1 (.cells #[.int .i64 k0,.int .i64 n0,.slice A0 l0 c0] 26);cases hFa:F a with
 |none=>
  obtain rfl:=q2 hFa;have J3:=HD.out;rw[hFa] at J3;have HR:=hdq J3;obtain⟨s0,s1,s2,f0,f1,f2⟩:=own3 hb';clear q1 q2 J3 hFa hsz;go_wp2_with fail;exact bodyPost_ret (v:= .tuple #[.agg #[.int .i64 0,.int .i64 0,.slice none 0 0],.int .i64 (-1)]) (by simp[results,Tryz.results59,go_sem,s0,s1,s2]) rfl ⟨.mk 0 0 [],_,-1,rfl,From.leaf _ _ _ _,((hx1.setCell (by simp) _).setCell (by simp) _).setCell (by simp) _,(fun x hx=> by rw[HR.out] at hx;cases hx),fun _=> rfl⟩
 |some y=>
  obtain⟨x,b⟩:=y;obtain⟨h1,h2,h3⟩:=q1 _ hFa;simp only at h1 h2 h3;have C6:=HD.out;rw[hFa] at C6;simp only at C6;subst h1 h2;clear q1 q2 hFa;have ug:=V5;by_cases hlt:b < s.size
  · obtain⟨c,hc⟩: ∃c,s[b]=c:=⟨_,rfl⟩
    rw[j41 hlt hc] at C6;have hbz:(b:Int) <(s.size:Int):=by omega
    have t0:decide ((b:Int) < 0)=false:=decide_eq_false (by omega);have t1:decide ((s.size:Int)<=(b:Int))=false:=decide_eq_false (by omega);obtain⟨m,hm⟩: ∃m,c.toNat=m:=⟨_,rfl⟩;have Mm:=HI.out (b+1);rw[show((b+1:Nat):Int)=(b:Int)+1 by omega] at Mm;have HI2:=hdq Mm;clear Mm;by_cases hk:rndK (some c)=0
    · rw[if_pos hk] at C6
      have HR:=hdq C6;have t2:((m:Int)==62)=false:=by rw[beq_eq_false_iff_ne];intro h;have:c=62:=UInt8.toNat_inj.1 (by rw[hm];simp;omega);rw[this] at hk;exact absurd hk (by decide)
      have t3:((m:Int)==42)=false:=by rw[beq_eq_false_iff_ne];intro h;have:c=42:=UInt8.toNat_inj.1 (by rw[hm];simp;omega);rw[this] at hk;exact absurd hk (by decide)
      have t4:((m:Int)==32)=false:=by rw[beq_eq_false_iff_ne];intro h;have:c=32:=UInt8.toNat_inj.1 (by rw[hm];simp;omega);rw[this] at hk;exact absurd hk (by decide)
      clear C6 hk;go_wp2_with fail;refine(HI2.out _ (by omega)).mono ?_;rintro e w2 ⟨t',u',Jm,rfl,hF',e2,-,-⟩;obtain⟨k1,n1,A1,l1,c1,rfl⟩:=hF'.three;have hb2:=(e2.trans ((xr w2).alloc (.cells #[.int .i64 k1,.int .i64 n1,.slice A1 l1 c1] 26))).blk hb';obtain⟨s0,s1,s2,f0,f1,f2⟩:=own3 hb2;have hx2:=hx1.trans (e2.trans ((xr w2).alloc (.cells #[.int .i64 k1,.int .i64 n1,.slice A1 l1 c1] 26)));go_wp2_with fail;exact bodyPost_ret (v:= .tuple #[.agg #[.int .i64 0,.int .i64 0,.slice none 0 0],.int .i64 (-1)]) (by simp[results,Tryz.results59,go_sem,s0,s1,s2]) rfl ⟨.mk 0 0 [],_,-1,rfl,From.leaf _ _ _ _,((hx2.setCell (by simp) _).setCell (by simp) _).setCell (by simp) _,(fun x hx=> by rw[HR.out] at hx;cases hx),fun _=> rfl⟩
    · rw[if_neg hk] at C6
      obtain⟨K,hK⟩: ∃K,rndK (some c)=K:=⟨_,rfl⟩;rw[hK] at C6 hk;have hcs:(m=62/\K=3)\/(m=42/\K=13)\/(m=32/\K=5):=by
       unfold rndK at hK;by_cases g1:c=62
       · subst g1;exact .inl ⟨hm.symm,by simpa using hK.symm⟩
       · by_cases g2:c=42
         · subst g2;exact .inr (.inl ⟨hm.symm,by simpa using hK.symm⟩)
         · by_cases g3:c=32
           · subst g3;exact .inr (.inr ⟨hm.symm,by simpa using hK.symm⟩)
           · simp[g1,g2,g3] at hK;exact absurd hK.symm hk
      have Fa:=hdq C6;clear C6 hK hk;rcases hcs with⟨rfl,rfl⟩ |⟨rfl,rfl⟩ |⟨rfl,rfl⟩
      all_goals(
       go_wp2_with fail;refine(HI2.out _ (by omega)).mono ?_;rintro e w2 ⟨t',u',Jm,rfl,hF',e2,q1,q2⟩;obtain⟨k1,n1,A1,l1,c1,rfl⟩:=hF'.three;have hs2:=e2.size_alloc;have cj:=e2.trans ((xr w2).alloc (.cells #[.int .i64 k1,.int .i64 n1,.slice A1 l1 c1] 26));have hb2:=cj.blk hb';have sy:=cj.blk Py;have N5:=heap_alloc_new w2 (.cells #[.int .i64 k1,.int .i64 n1,.slice A1 l1 c1] 26);obtain⟨s0,s1,s2,f0,f1,f2⟩:=own3 hb2;obtain⟨x0,x1,x2,-,-,-⟩:=own3 sy;have hx2:=hx1.trans cj;have hF2:=V5.ext cj;have wq:=(hF'.ext ((xr w2).alloc (.cells #[.int .i64 k1,.int .i64 n1,.slice A1 l1 c1] 26))).since (show w.heap.size+1<=_ by simp;omega);cases hFb:F (b+1) with
       |none=>
        obtain rfl:=q2 hFb;have J3:=Fa.out;rw[hFb] at J3;have HR:=hdq J3;clear q1 q2 J3 hFb;go_wp2_with fail;exact bodyPost_ret (v:= .tuple #[.agg #[.int .i64 0,.int .i64 0,.slice none 0 0],.int .i64 (-1)]) (by simp[results,Tryz.results59,go_sem,s0,s1,s2]) rfl ⟨.mk 0 0 [],_,-1,rfl,From.leaf _ _ _ _,((hx2.setCell (by simp) _).setCell (by simp) _).setCell (by simp) _,(fun x hx=> by rw[HR.out] at hx;cases hx),fun _=> rfl⟩
       |some y2=>
        obtain⟨x',b'⟩:=y2;obtain⟨h1,h2,h3'⟩:=q1 _ hFb;simp only at h1 h2 h3';have O5:=Fa.out;rw[hFb] at O5;simp only at O5;subst h1 h2;clear q1 q2 hFb;have t5:decide ((b':Int) < 0)=false:=decide_eq_false (by omega);by_cases px:b' < s.size
        · obtain⟨c',hc'⟩: ∃c',s[b']=c':=⟨_,rfl⟩
          rw[j41 px hc'] at O5;have hbz':(b':Int) <(s.size:Int):=by omega
          have t6:decide ((s.size:Int)<=(b':Int))=false:=decide_eq_false (by omega);by_cases fz:c'=41
          · subst fz
            rw[if_pos rfl] at O5;have HR:=hdq O5;clear O5;go_wp2_with fail;refine(q30 (w.heap.size+1) _ _ _ 2 [t,t'] (by intro h;cases h) (j35.two (g:=w2.heap.size+1) (e:=26) hF2 wq (by simp;omega) (by simp)) (by simp;omega) (by simp)).mono ?_;rintro e w3 ⟨v,rfl,hN,e3⟩;obtain⟨k3,n3,A3,l3,c3,rfl⟩:=hN.three;obtain⟨z0,z1,z2,g0,g1,g2⟩:=own3 (e3.blk (((xr _).alloc _).blk hb2));have hx3:=hx2.trans (((xr _).alloc _).trans e3);clear s0 s1 s2 x0 x1 x2;go_wp2_with fail;refine bodyPost_ret (v:= .tuple #[.agg #[.int .i64 k3,.int .i64 n3,.slice A3 l3 c3],.int .i64 ((b':Int)+1)]) (by simp[results,Tryz.results59,go_sem,z0,z1,z2]) rfl ⟨_,_,_,rfl,(((hN.set (by simp) _).set (by simp) _).set (by simp) _).since (by omega),((hx3.setCell (by simp) _).setCell (by simp) _).setCell (by simp) _, ?_, ?_⟩
            · intro x hx
              rw[HR.out] at hx;cases hx
              exact⟨rfl,by simp,by show b'+1<=s.size;omega⟩
            · intro hx
              rw[HR.out] at hx;cases hx
          · rw[if_neg (by intro h;cases h;exact fz rfl)] at O5
            have HR:=hdq O5;have t7:((c'.toNat:Int) !=41)=true:=by rw[bne_iff_ne];intro h;exact fz (UInt8.toNat_inj.1 (by simp;omega))
            have t8:((c'.toNat:Int)==41)=false:=by rw[beq_eq_false_iff_ne];intro h;exact fz (UInt8.toNat_inj.1 (by simp;omega))
            clear O5 fz;go_wp2_with fail;exact bodyPost_ret (v:= .tuple #[.agg #[.int .i64 0,.int .i64 0,.slice none 0 0],.int .i64 (-1)]) (by simp[results,Tryz.results59,go_sem,s0,s1,s2]) rfl ⟨.mk 0 0 [],_,-1,rfl,From.leaf _ _ _ _,((hx2.setCell (by simp) _).setCell (by simp) _).setCell (by simp) _,(fun x hx=> by rw[HR.out] at hx;cases hx),fun _=> rfl⟩
        · rw[j43 s (by omega),if_neg (by simp)] at O5
          have HR:=hdq O5;have t6:decide ((s.size:Int)<=(b':Int))=true:=decide_eq_true (by omega);clear O5;go_wp2_with fail;exact bodyPost_ret (v:= .tuple #[.agg #[.int .i64 0,.int .i64 0,.slice none 0 0],.int .i64 (-1)]) (by simp[results,Tryz.results59,go_sem,s0,s1,s2]) rfl ⟨.mk 0 0 [],_,-1,rfl,From.leaf _ _ _ _,((hx2.setCell (by simp) _).setCell (by simp) _).setCell (by simp) _,(fun x hx=> by rw[HR.out] at hx;cases hx),fun _=> rfl⟩)
  · rw[j43 s (by omega),if_pos (by rfl)] at C6
    have HR:=hdq C6;have t0:decide ((b:Int) < 0)=false:=decide_eq_false (by omega);have t1:decide ((s.size:Int)<=(b:Int))=true:=decide_eq_true (by omega);obtain⟨s0,s1,s2,f0,f1,f2⟩:=own3 hb';clear C6 hsz ug;go_wp2_with fail;exact bodyPost_ret (v:= .tuple #[.agg #[.int .i64 0,.int .i64 0,.slice none 0 0],.int .i64 (-1)]) (by simp[results,Tryz.results59,go_sem,s0,s1,s2]) rfl ⟨.mk 0 0 [],_,-1,rfl,From.leaf _ _ _ _,((hx1.setCell (by simp) _).setCell (by simp) _).setCell (by simp) _,(fun x hx=> by rw[HR.out] at hx;cases hx),fun _=> rfl⟩
def cutS(c:UInt8):List UInt8->List UInt8->List (List UInt8)
 |pre, []=> [pre]
 |pre,x::r=> if x=c then pre::cutS c [] r else cutS c (pre++ [x]) r
def cutL(c:UInt8)(l:List UInt8):List (List UInt8):=cutS c [] l
def strs(xs:List (List UInt8)):List Value:=xs.map fun l=> .string (ofL l)
theorem OwnL.append{w:World}{e:TypeId}{ys:List Value}{ts:List Tr}{M:List Nat}(ht:OwnL w e ys ts M): ∀{xs:List Value} {ks:List Tr} {L:List Nat},xs.length=ks.length*3->OwnL w e xs ks L->OwnL w e (xs++ys) (ks++ts) (L++M)
 |xs, [],L,hx,h=> by
  have hx0:xs= []:=List.eq_nil_of_length_eq_zero (by simpa using hx);subst hx0;unfold OwnL at h;subst h
  simpa using ht
 |xs,x::ks,L,hx,h=> by
  obtain⟨u0,u1,u2,rest,L1,L2,rfl,h1,h2,rfl⟩:=OwnL.cons_iff.1 h;exact OwnL.cons_iff.2 ⟨u0,u1,u2,_,L1,L2++M,rfl,h1,OwnL.append ht (by simp only[List.length_cons] at hx;omega) h2,by simp⟩
def q127(w w':World)(e:TypeId)(xs:List Value)(ks:List Tr):Prop:= ∃L,OwnL w' e xs ks L/\q33 w w' L
theorem q127.two{a b c d:World}{e:TypeId}{t1 t2:Tr}{x0 x1 x2 y0 y1 y2:Value}(h1:Made a b e t1 (.agg #[x0,x1,x2]))(h2:Made c d e t2 (.agg #[y0,y1,y2]))(Lj:Ext b c)(hab:a.heap.size<=b.heap.size)(iw:Ext c d):q127 a d e [x0,x1,x2,y0,y1,y2] [t1,t2]:=by
 obtain⟨L,h1,f1⟩:=h1;obtain⟨M,h2,f2⟩:=h2;exact⟨L++(M++ []),OwnL.cons_iff.2 ⟨x0,x1,x2, [y0,y1,y2],L,M++ [],rfl,h1.mono (fun b hb=>(Lj.trans iw).heap b (f1.2 b hb).2),OwnL.cons_iff.2 ⟨y0,y1,y2, [],M, [],rfl,h2,OwnL.nil,rfl⟩,rfl⟩,by simpa using f1.append f2 Lj.size hab iw.size⟩
theorem q127.after{W w1 w3:World}{e:TypeId}{xs:List Value}{ks:List Tr}(h:q127 W w1 e xs ks)(ha:q23 W.heap.size w1 w3):q127 W w3 e xs ks:=by
 obtain⟨L,h,hf⟩:=h;exact⟨L,h.mono fun b hb=> ha.1 b (hf.2 b hb).1,hf.mono (Nat.le_refl _) ha.2⟩
theorem q127.since{a w w':World}{e:TypeId}{xs:List Value}{ks:List Tr}(h:q127 w w' e xs ks)(ha:a.heap.size<=w.heap.size):q127 a w' e xs ks:=by
 obtain⟨L,h,hf⟩:=h;exact⟨L,h,hf.mono ha (Nat.le_refl _)⟩
def OwnD(w:World)(e eT:TypeId)(A:Option Addr)(ks:List Tr)(L:List Nat):Prop:=
 (ks= []/\L= [])\/ ∃b cs L',A=some ⟨b,0,none⟩/\w.heap[b]? =some (.cells cs e (0,0))/\L=b::L'/\OwnL w eT cs.toList ks L'
def MadeD(w w':World)(e eT:TypeId)(A:Option Addr)(ks:List Tr):Prop:= ∃L,OwnD w' e eT A ks L/\q33 w w' L
theorem OwnD.mono{w w':World}{e eT:TypeId}{A:Option Addr}{ks:List Tr}{L:List Nat}(h:OwnD w e eT A ks L)(hw: ∀b,b∈L->w'.heap[b]? =w.heap[b]?):OwnD w' e eT A ks L:=by
 rcases h with h|⟨b,cs,L',rfl,hb,rfl,hl⟩
 · exact .inl h
 · exact .inr ⟨b,cs,L',rfl,(hw b (by simp)).trans hb,rfl,hl.mono (fun x hx=> hw x (by simp[hx]))⟩
theorem MadeD.row{w w1 w':World}{e eT:TypeId}{g:Nat}{cs:Array Value}{ks:List Tr}{L:List Nat}(hb:w'.heap[g]? =some (.cells cs e (0,0)))(hl:OwnL w' eT cs.toList ks L)(hf:q33 w1 w' L)(hg:w.heap.size<=g)(hg1:g < w1.heap.size):MadeD w w' e eT (some ⟨g,0,none⟩) ks:=by
 refine⟨g::L,.inr ⟨g,cs,L,rfl,hb,rfl,hl⟩,List.nodup_cons.2 ⟨fun hm=> ?_,hf.1⟩,fun b hm=> ?_⟩
 · have:=hf.2 g hm
   omega
 · rcases List.mem_cons.1 hm with rfl|hm
   · exact⟨hg,j10 hb⟩
   · have:=hf.2 b hm
     omega
def j47(w:World)(S:Nat->Prop)(u:Value)(p:List Int):Prop:=
 (u= .slice none 0 0/\p= [])\/ ∃b o c,u= .slice (some ⟨b,o,none⟩) p.length c/\p.length<=c/\c<=maxLen/\S b/\ ∀j (h:j < p.length),w.cell? ⟨b,o+j,none⟩=some (.int .i64 p[j])
theorem j47.mono{w w':World}{S S':Nat->Prop}{u:Value}{p:List Int}(hS: ∀b,S b->S' b)(hw: ∀b,S b->w'.heap[b]? =w.heap[b]?)(h:j47 w S u p):j47 w' S' u p:=by
 rcases h with h|⟨b,o,c,rfl,h1,h2,h3,h4⟩
 · exact .inl h
 · exact .inr ⟨b,o,c,rfl,h1,h2,hS b h3,fun j hj=>(World.cell?_of_block (w:=w) (a:=⟨b,o+j,none⟩) (hw b h3)).trans (h4 j hj)⟩
theorem j47.slice{w:World}{S:Nat->Prop}{u:Value}{p:List Int}(h:j47 w S u p)(hS: ∀b,S b->b < w.heap.size): ∃A c,u= .slice A p.length c/\p.length<=c/\c<=maxLen/\Nums w A p:=by
 rcases h with⟨rfl,rfl⟩ |⟨b,o,c,rfl,h1,h2,h3,h4⟩
 · exact⟨none,0,rfl,Nat.le_refl _,Nat.zero_le _,.inl rfl⟩
 · exact⟨_,c,rfl,h1,h2,.inr ⟨b,o,rfl,hS b h3,h4⟩⟩
theorem y118{w:World}{base:Nat}{e:TypeId}{v:Value}{p:List Int}(h:w.ownsRow base e 1 v p.length (p.map (Value.int .i64))):j47 w (fun b=> base<=b/\b < w.heap.size/\v.ownBlock=some b) v p:=by
 have cw:=fun g hg=> h.cells (g:=g) hg
 rcases h.2 with⟨rfl,h0⟩ |⟨g,c,cur,rfl,hb,hg,hn,hm,hcs,ht⟩
 · exact .inl ⟨rfl,List.eq_nil_of_length_eq_zero h0⟩
 · refine .inr ⟨g,0,c,rfl,hn,hm,⟨hb,j10 hg,rfl⟩,fun j hj=> ?_⟩
   have:=cw g rfl j (.int .i64 p[j]) (by rw[List.getElem?_map,List.getElem?_eq_getElem hj];rfl)
   rwa [Addr.add_lit] at this
def RowP(w:World)(S:Nat->Prop)(xs:List Value)(ps:List (List Int)):Prop:=xs.length=ps.length/\ ∀(j:Nat) (u:Value) (p:List Int),xs[j]? =some u->ps[j]? =some p->j47 w S u p
theorem RowP.mono{w w':World}{S S':Nat->Prop}{xs:List Value}{ps:List (List Int)}(hS: ∀b,S b->S' b)(hw: ∀b,S b->w'.heap[b]? =w.heap[b]?)(h:RowP w S xs ps):RowP w' S' xs ps:=
 ⟨h.1,fun j u p h1 h2=>(h.2 j u p h1 h2).mono hS hw⟩
theorem RowP.append{w:World}{S:Nat->Prop}{xs ys:List Value}{ps qs:List (List Int)}(h:RowP w S xs ps)(k:RowP w S ys qs):RowP w S (xs++ys) (ps++qs):=by
 refine⟨by simp[h.1,k.1],fun j u p h1 h2=> ?_⟩;by_cases hj:j < xs.length
 · rw[List.getElem?_append_left hj] at h1
   rw[List.getElem?_append_left (by have:=h.1;omega)] at h2;exact h.2 j u p h1 h2
 · rw[List.getElem?_append_right (by omega)] at h1
   rw[List.getElem?_append_right (by have:=h.1;omega)] at h2;exact k.2 (j - xs.length) u p h1 (by rw[h.1];exact h2)
theorem RowP.one{w:World}{S:Nat->Prop}{u:Value}{p:List Int}(h:j47 w S u p):RowP w S [u] [p]:=by
 refine⟨rfl,fun j u' p' h1 h2=> ?_⟩
 match j,h1,h2 with
 |0,h1,h2=>
  simp at h1 h2
  subst h1 h2;exact h
 |j+1,h1,h2=> simp at h1
def j77(W w:World)(e:TypeId)(v:Value)(ps:List (List Int)):Prop:=
 ∃xs,w.ownsRow W.heap.size e 1 v ps.length xs/\RowP w (fun b=> W.heap.size<=b/\b < w.heap.size/\v.ownBlock≠some b) xs ps
theorem j77.nil(W w:World)(e:TypeId):j77 W w e (.slice none 0 0) []:=⟨[],World.ownsRow_nil _ _ _ _,rfl,fun j u p h=> by simp at h⟩
theorem j72{w w':World}{base n':Nat}{e:TypeId}{v:Value}{n:Nat}{xs:List Value}(h:w.ownsRow base e n' v n xs)(hb: ∀g,v.ownBlock=some g->w'.heap[g]? =w.heap[g]?):w'.ownsRow base e n' v n xs:=by
 refine⟨h.1, ?_⟩;rcases h.2 with h|⟨g,cap,cur,rfl,h1,h2,r⟩
 · exact .inl h
 · exact .inr ⟨g,cap,cur,rfl,h1,(hb g rfl).trans h2,r⟩
theorem j77.same{W w w':World}{e:TypeId}{v:Value}{ps:List (List Int)}(h:j77 W w e v ps)(hs:w.heap.size<=w'.heap.size)(hw: ∀b,W.heap.size<=b->b < w.heap.size->w'.heap[b]? =w.heap[b]?):j77 W w' e v ps:=by
 obtain⟨xs,h1,h2⟩:=h;exact⟨xs,j72 h1 (fun g hg=> hw g (h1.lt g hg).1 (h1.lt g hg).2),h2.mono (fun b hb=>⟨hb.1,Nat.lt_of_lt_of_le hb.2.1 hs,hb.2.2⟩) (fun b hb=> hw b hb.1 hb.2.1)⟩
theorem j77.since{W W' w:World}{e:TypeId}{v:Value}{ps:List (List Int)}(h:j77 W w e v ps)(hs:W'.heap.size<=W.heap.size):j77 W' w e v ps:=by
 obtain⟨xs,h1,h2⟩:=h;refine⟨xs,⟨h1.1, ?_⟩,h2.mono (fun b hb=>⟨Nat.le_trans hs hb.1,hb.2⟩) (fun _ _=> rfl)⟩;rcases h1.2 with h|⟨g,cap,cur,rfl,h1,r⟩
 · exact .inl h
 · exact .inr ⟨g,cap,cur,rfl,Nat.le_trans hs h1,r⟩
theorem j77.lt{W w:World}{e:TypeId}{v:Value}{ps:List (List Int)}(h:j77 W w e v ps){g:Nat}(hg:v.ownBlock=some g):W.heap.size<=g/\g < w.heap.size:=by
 obtain⟨xs,h1,h2⟩:=h;exact h1.lt g hg
theorem j77.slice{W w:World}{e:TypeId}{v:Value}{ps:List (List Int)}(h:j77 W w e v ps): ∃A cap,v= .slice A ps.length cap/\ps.length<=cap/\cap<=maxLen/\(ps= []\/ ∃b,A=some ⟨b,0,none⟩)/\ ∀j (hj:j < ps.length),∃b u,A=some ⟨b,0,none⟩/\w.cell? ⟨b,j,none⟩=some u/\j47 w (fun b=> W.heap.size<=b/\b < w.heap.size/\v.ownBlock≠some b) u ps[j]:=by
 obtain⟨xs,h1,h2⟩:=h;have cw:=fun g hg=> h1.cells (g:=g) hg
 rcases h1.2 with⟨rfl,h0⟩ |⟨g,c,cur,rfl,hb,hg,hn,hm,hcs,ht⟩
 · refine⟨none,0,by rw[h0],by omega,Nat.zero_le _,.inl (List.eq_nil_of_length_eq_zero h0),fun j hj=> by omega⟩
 · refine⟨_,c,rfl,hn,hm,.inr ⟨g,rfl⟩,fun j hj=> ?_⟩
   have hj':j < xs.length:=by rw[h2.1];exact hj
   have h3:=cw g rfl j xs[j] (List.getElem?_eq_getElem hj');rw[Addr.add_lit,Nat.zero_add] at h3;exact⟨g,_,rfl,h3,h2.2 j _ _ (List.getElem?_eq_getElem hj') (List.getElem?_eq_getElem hj)⟩
theorem y98{P:Program}(w:World){o:Oper}{a:Act}{K:Act->World->Prop}{Q:Exit->Act->World->Prop}(s x:Operand)(t:TypeId)
 (ho:o.op= .call {callee:= .builtin .append,args:=#[s,x],argTypes:=#[t,t]})
 (base:Nat) (e:TypeId) (i:TypeInfo) (z:Value) (bytes:Nat) (ht:P.underlying t=some (.slice e)) (hi:P.info? e=some i) (hz:i.zero=some z) (hsize:i.size=1) (hby:i.bytes=bytes) (P3:bytes<=64) (hzs:z.cells.size=1)
 {v u:Value} {ns p:List Int} {S:Nat->Prop} (hs:a.eval s=v) (hG:w.ownsRow base e 1 v ns.length (ns.map (Value.int .i64))) (hW:base<=w.heap.size)
 (hx:a.eval x=u) (hu:j47 w S u p) (hn:ns.length+p.length < 1099511627776)
 (h: ∀v' w',w'.ownsRow base e 1 v' (ns++p).length ((ns++p).map (Value.int .i64))->w.grownBy w' v.ownBlock->(∀g,v'.ownBlock=some g->v.ownBlock=some g\/w.heap.size<=g)->K (a.put o.dst v') w'):o.wp P a w K Q:=by
 rcases hu with⟨rfl,rfl⟩ |⟨b,o',c,rfl,h1,h2,h3,h4⟩
 · have hr:=run_append_owned_none (P:=P) (w:=w) base t o.type e i 1 ht hi v ns.length _ hG
   unfold Oper.wp execOp;simp only[ho,resolve,invoke,builtin,Sem.run_bind,Sem.run_pure,Result.andThen_ok,List.map_toArray,List.map_cons,List.map_nil,hs,hx,hr];exact(h v w (by simpa using hG) ⟨rfl,rfl,rfl,Nat.le_refl _,fun _ _ _=> rfl⟩ (fun g hg=> .inl hg))
 · have Ae:(ns.length+p.length)*bytes<=140737488355328:=Nat.le_trans (Nat.mul_le_mul (show ns.length+p.length<=1099511627776 by omega) P3) (by decide)
   obtain⟨v',w',hr,r1,r2,r3⟩:=y18 (P:=P) w base t o.type e i z 1 bytes ht hi hz hsize hby hzs (by decide) v ns.length _ hG ⟨b,o',none⟩ p.length c (p.map (Value.int .i64)) (by simp)
    (fun j y hy=> by
     rw[Addr.add_lit];rw[List.getElem?_map] at hy;by_cases hj:j < p.length
     · rw[List.getElem?_eq_getElem hj] at hy
       rw[h4 j hj];exact hy
     · rw[List.getElem?_eq_none (by omega)] at hy
       cases hy)
    (fun y hy=> by obtain⟨n,_,rfl⟩:=List.mem_map.1 hy;rfl) (by unfold maxLen;omega) Ae hW
   unfold Oper.wp execOp;simp only[ho,resolve,invoke,builtin,Sem.run_bind,Sem.run_pure,Result.andThen_ok,List.map_toArray,List.map_cons,List.map_nil,hs,hx,hr];exact(h v' w' (by simpa using r1) r2 r3)
theorem j19{P:Program}(w:World){ops:Array Oper}{rest:List Oper}{o:Oper}{a:Act}{Q:Exit->Act->World->Prop}(hgd:o.guard=none)(s x:Operand)(t:TypeId)
 (ho:o.op= .call {callee:= .builtin .append,args:=#[s,x],argTypes:=#[t,t]})
 (base:Nat) (e:TypeId) (i:TypeInfo) (z:Value) (bytes:Nat) (ht:P.underlying t=some (.slice e)) (hi:P.info? e=some i) (hz:i.zero=some z) (hsize:i.size=1) (hby:i.bytes=bytes) (P3:bytes<=64) (hzs:z.cells.size=1)
 {v u:Value} {ns p:List Int} {S:Nat->Prop} (hs:a.eval s=v) (hG:w.ownsRow base e 1 v ns.length (ns.map (Value.int .i64))) (hW:base<=w.heap.size)
 (hx:a.eval x=u) (hu:j47 w S u p) (hn:ns.length+p.length < 1099511627776)
 (h: ∀v' w',w'.ownsRow base e 1 v' (ns++p).length ((ns++p).map (Value.int .i64))->w.grownBy w' v.ownBlock->(∀g,v'.ownBlock=some g->v.ownBlock=some g\/w.heap.size<=g)->wpList P ops Q rest (a.put o.dst v') w'):wpList P ops Q (o::rest) a w:=
 wpList_plain hgd fun K hK=> y98 w s x t ho base e i z bytes ht hi hz hsize hby P3 hzs hs hG hW hx hu hn (fun v' w' h1 h2 h3=> hK _ _ (h v' w' h1 h2 h3))
end Go.Proofs.YtbnkbepgmenblaaGreatDoor
namespace Go.Proofs.YtbnkbepgmenblaaGreatDoor
open Go.RowKit
attribute [local go_sem ↓] Go.wp_at_zero Go.wp_at_succ
def ldO(t:TypeId)(s:Nat):Op:=Op.load t (.tmp s)
attribute [local go_sem] ldO
theorem infoS:(Tryz.prog.info? 26).map (fun i=>(i.zero,i.size,i.bytes))=some (some (.agg #[.int .i64 0,.int .i64 0,.slice none 0 0]),3,40):=by kernel_rfl
theorem y23.lt{w:World}{b o j:Nat}{ks:List Tr}(h:y23 w (some ⟨b,o,none⟩) ks)(hj:j < ks.length):b < w.heap.size:=by
 rcases h with h|⟨b',o',e,hb,-⟩
 · rw[h] at hj;simp at hj
 · cases e;exact hb
theorem q130{l:List Tr}{j:Nat}{t:Tr}(h:j < l.length)(e:l[j]=t):l.take j++ [t]=l.take (j+1):=by rw[<-e];exact List.take_append_getElem h
end Go.Proofs.YtbnkbepgmenblaaGreatDoor
namespace Go.Proofs.YtbnkbepgmenblaaGreatDoor
open Go.RowKit
theorem j101(t:Tr)(w:World)(v:Value)(j8:Lies w t v):Calls Tryz.prog 11 #[v] w fun e w'=> e= .returned (.int .i64 (mxV t))/\Ext w w':=by
 have HV:=hdq (fun W (hW:Ext w W)=> j16 t W v (j8.ext hW));have HX:=hdq (fun(h:valid sigT t=true) W (hW:Ext w W)=> q138 t W v (j8.ext hW) h);have E:=hdq (show mxV t=if valid sigT t=true then mxf t 0 else -1 from rfl);obtain⟨z,hz⟩: ∃z,valid sigT t=z:=⟨_,rfl⟩;rw[hz] at HV E HX;clear hz;obtain⟨m,hm⟩: ∃m,mxf t 0=m:=⟨_,rfl⟩;rw[hm] at HX E;clear hm;obtain⟨k,n,ks⟩:=t;obtain⟨A,cap,rfl,hl,hc,hK⟩:=Lies.mk_iff.1 j8;have hx0:=(xr w).alloc (.cells #[.int .i64 k,.int .i64 n,.slice A ks.length cap] 26);have N5:=heap_alloc_new w (.cells #[.int .i64 k,.int .i64 n,.slice A ks.length cap] 26);cases z with
 |false=>
  have E2:=hdq (E.out.trans (if_neg (by decide)));clear E HX;go_enter Tryz.func11,Tryz.ntmps11;go_wp2_with fail;refine(HV.out _ hx0).mono ?_;rintro e w1 ⟨rfl,h1⟩;go_wp2_with fail;go_ret;exact⟨by rw[E2.out];rfl,hx0.trans h1⟩
 |true=>
  have E2:=hdq (E.out.trans (if_pos rfl));have zi:=hdq (HX.out rfl);clear E HX;go_enter Tryz.func11,Tryz.ntmps11;go_wp2_with fail;refine(HV.out _ hx0).mono ?_;rintro e w1 ⟨rfl,h1⟩;obtain⟨z0,z1,z2,-,-,-⟩:=own3 (h1.blk N5);go_wp2_with fail;refine(zi.out _ (hx0.trans h1)).mono ?_;rintro e w2 ⟨rfl,h2⟩;go_wp2_with fail;go_ret;exact⟨by rw[E2.out];rfl,(hx0.trans h1).trans h2⟩
end Go.Proofs.YtbnkbepgmenblaaGreatDoor
