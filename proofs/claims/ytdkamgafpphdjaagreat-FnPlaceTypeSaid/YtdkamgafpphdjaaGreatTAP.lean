/-
  Lemmas towards the law, 16: Parse2, Subst, ReadP, Plc, Parse3.
-/
import Derived.Test.YtdkamgafpphdjaaGreatTAN
import Derived.Test.YtdkamgafpphdjaaGreatTAO
import Derived.Deep.RegionHeldLaw
import Derived.Lib.AtoiAll
import Derived.Lib.Strings
namespace Go.Proofs.YtdkamgafpphdjaaGreat
open Go.RowKit
set_option linter.unusedVariables false
def From(B:Nat)(w:World)(t:Tr)(v:Value):Prop:=InT w (fun b=> B<=b/\b < w.heap.size) t v
theorem From.leaf(B:Nat)(w:World)(k n:Int):From B w (.mk k n []) (.agg #[.int .i64 k, .int .i64 n, .slice none 0 0]):=InT.mk_iff.2 ⟨none,0,rfl,Nat.le_refl _,Nat.zero_le _, .inl rfl⟩
theorem From.ext{B:Nat}{w w':World}{t:Tr}{v:Value}(h:From B w t v)(he:Ext w w'):From B w' t v:=h.mono (fun b hb=>⟨hb.1,Nat.lt_of_lt_of_le hb.2 he.size⟩) (fun b hb=> he.heap b hb.2)
theorem From.since{B C:Nat}{w:World}{t:Tr}{v:Value}(h:From B w t v)(hc:C<=B):From C w t v:=h.mono (fun b hb=>⟨Nat.le_trans hc hb.1,hb.2⟩) (fun _ _=> rfl)
theorem From.lies{B:Nat}{w:World}{t:Tr}{v:Value}(h:From B w t v):Lies w t v:=h.mono (fun b hb=> hb.2) (fun _ _=> rfl)
theorem From.three{B:Nat}{w:World}{t:Tr}{u:Value}(h:From B w t u): ∃k n A l c,u= .agg #[.int .i64 k, .int .i64 n, .slice A l c]:=h.lies.three
theorem From.set{B:Nat}{w:World}{t:Tr}{v:Value}(h:From B w t v){p:Addr}(hp:p.block < B)(u:Value):From B (w.setCell p u) t v:=
 h.mono (fun b hb=>⟨hb.1,by simpa using hb.2⟩) (fun b hb=> Below.heap_setCell w p u b (by omega))
theorem From.made{w w':World}{e:TypeId}{t:Tr}{v:Value}(h:Made w w' e t v):From w.heap.size w' t v:=by
 obtain⟨L,h,hf⟩:=h;exact InT.mono (fun b hb=> hf.2 b hb) (fun _ _=> rfl) h.inT
def y13(B:Nat)(w:World)(A:Option Addr)(ks:List Tr):Prop:=InK w (fun b=> B<=b/\b < w.heap.size) A ks
theorem y13.one{B g:Nat}{w:World}{t:Tr}{v0 v1 v2:Value}{e:TypeId}(h:From B w t (.agg #[v0,v1,v2]))(hB:B<=w.heap.size)(hg:g=w.heap.size):y13 B (w.alloc (.cells #[v0,v1,v2] e)) (some ⟨g,0,none⟩) [t]:=
 hg▸InK.one (h.ext ((xr w).alloc _)) (heap_alloc_new w _) ⟨hB,by simp⟩
theorem y13.two{B g:Nat}{w:World}{t u:Tr}{v0 v1 v2 x0 x1 x2:Value}{e:TypeId}(h:From B w t (.agg #[v0,v1,v2]))(h':From B w u (.agg #[x0,x1,x2]))(hB:B<=w.heap.size)(hg:g=w.heap.size):y13 B (w.alloc (.cells #[v0,v1,v2,x0,x1,x2] e)) (some ⟨g,0,none⟩) [t,u]:=by
 subst hg;have hx:=(xr w).alloc (.cells #[v0,v1,v2,x0,x1,x2] e);have hg:=heap_alloc_new w (.cells #[v0,v1,v2,x0,x1,x2] e);have h1:=h.ext hx;have h2:=h'.ext hx;refine .inr ⟨w.heap.size,0,rfl,⟨hB,by simp⟩, ?_⟩;unfold InL;refine⟨⟨v0,v1,v2,y10 hg 0,y10 hg 1,y10 hg 2,h1⟩, ?_⟩;unfold InL;refine⟨⟨x0,x1,x2,y10 hg 3,y10 hg 4,y10 hg 5,h2⟩, ?_⟩;unfold InL
 trivial
theorem q15(B:Nat)(w:World)(k:Int)(A:Option Addr)(cap:Nat)(ks:List Tr)(hA:A=none->cap=0)(hK:y13 B w A ks)(hB:B<=w.heap.size)(hn:ks.length<=1099511627776):
 Calls Tryz.prog 94 #[.int .i64 k, .slice A ks.length cap] w fun e w'=> ∃u,e= .returned u/\From B w' (.mk k 0 ks) u/\Ext w w':=
 (y109 w k A cap ks hA _ (fun b hb=> hb.2) hK hn).mono fun e w' ⟨u,h1,h2,h3⟩=>⟨u,h1,h2.mono (fun b hb=> by
  have:=h3.size;rcases hb with hb|hb
  · exact⟨hb.1,by omega⟩
  · exact⟨by omega,hb.2⟩) (fun _ _=> rfl),h3⟩
def j19(B:Nat)(w:World)(size:Nat)(o:Option (Tr×Nat))(e:Ending)(w':World):Prop:=
 ∃(t:Tr) (u:Value) (nx:Int),e= .returned (.tuple #[u, .int .i64 nx])/\From B w' t u/\Ext w w'/\(∀x,o=some x->t=x.1/\nx=x.2/\x.2<=size)/\(o=none->nx= -1)
def q29(d:Nat):Prop:= ∀(s:ByteArray) (a:Nat) (w:World),s.size<=1000000000->a<=s.size+2->Calls Tryz.prog 192 #[.string s, .int .i64 a, .int .i64 d] w (j19 w.heap.size w s.size (prs d s.data.toList a))
set_option maxRecDepth 100000 in
set_option maxHeartbeats 1000000 in
theorem q177(d:Nat)(ih:q29 d)(s:ByteArray)(a:Nat)(w:World)(hs:s.size<=1000000000)(ha:a < s.size)(hc:s[a]=43)(hd:d<=30):
 Calls Tryz.prog 208 #[.string s, .int .i64 a, .int .i64 ((d:Int)+1)] w (j19 w.heap.size w s.size (one 8 (prs d s.data.toList (a+1)))):=by
 have HI:=hdq (fun W=> ih s (a+1) W hs (by omega));obtain⟨R,hR⟩: ∃R,R=prs d s.data.toList (a+1):=⟨_,rfl⟩;rw[<-hR] at HI⊢;clear hR ih;go_enter Tryz.func208,Tryz.ntmps208;go_wp2_with fail;refine(HI.out _).mono ?_;rintro e w1 ⟨t,u,nx,rfl,hF,e1,q1,q2⟩;obtain⟨k0,n0,A0,l0,c0,rfl⟩:=hF.three;have hb:=e1.newBlk;have hsz:=e1.size_alloc;have HQ1:=hdq q1;have HQ2:=hdq q2;have hF1:=hF.ext ((xr w1).alloc (.cells #[.int .i64 k0, .int .i64 n0, .slice A0 l0 c0] 25));have hx0:=(xr w).alloc (.cells #[.int .i64 0, .int .i64 0, .slice none 0 0] 25);simp only[World.size_alloc] at hF1;clear q1 q2 hF;go_wp2_with fail;refine(q15 (w.heap.size+1) _ 8 _ 1 [t] (by intro h;cases h) (y13.one (g:=w1.heap.size+1) (e:=25) hF1 (by simp;omega) (by simp)) (by simp;omega) (by simp)).mono ?_;rintro e w2 ⟨v,rfl,hN,e2⟩;obtain⟨k1,n1,A1,l1,c1,rfl⟩:=hN.three;have hb2:=e2.blk (((xr w1).alloc _|>.alloc _).blk hb);obtain⟨s0,s1,s2,f0,f1,f2⟩:=own3 hb2;have hx2:=(hx0.trans e1).trans (((xr w1).alloc _|>.alloc _).trans e2);go_wp2_with fail;refine bodyPost_ret (v:= .tuple #[.agg #[.int .i64 k1, .int .i64 n1, .slice A1 l1 c1], .int .i64 nx]) (by simp[results,Tryz.results208,go_sem,s0,s1,s2]) rfl ⟨.mk 8 0 [t],_,nx,rfl, ?_, ?_, ?_, ?_⟩
 · exact(((hN.set (by simp) _).set (by simp) _).set (by simp) _).since (by omega)
 · exact((hx2.setCell (by simp) _).setCell (by simp) _).setCell (by simp) _
 · intro x hx
   cases R with
   |none=> cases hx
   |some y=>
    obtain⟨h1,h2,h3⟩:=HQ1.out y rfl;cases hx
    exact⟨by rw[h1],h2,h3⟩
 · intro hx
   cases R with
   |none=> exact HQ2.out rfl
   |some y=> cases hx
set_option maxRecDepth 100000 in
set_option maxHeartbeats 1000000 in
theorem j180(d:Nat)(ih:q29 d)(s:ByteArray)(a:Nat)(w:World)(hs:s.size<=1000000000)(ha:a < s.size)(hc:s[a]=33)(hd:d<=30):
 Calls Tryz.prog 208 #[.string s, .int .i64 a, .int .i64 ((d:Int)+1)] w (j19 w.heap.size w s.size (one 11 (prs d s.data.toList (a+1)))):=by
 have HI:=hdq (fun W=> ih s (a+1) W hs (by omega));obtain⟨R,hR⟩: ∃R,R=prs d s.data.toList (a+1):=⟨_,rfl⟩;rw[<-hR] at HI⊢;clear hR ih;go_enter Tryz.func208,Tryz.ntmps208;go_wp2_with fail;refine(HI.out _).mono ?_;rintro e w1 ⟨t,u,nx,rfl,hF,e1,q1,q2⟩;obtain⟨k0,n0,A0,l0,c0,rfl⟩:=hF.three;have hb:=e1.newBlk;have hsz:=e1.size_alloc;have HQ1:=hdq q1;have HQ2:=hdq q2;have hF1:=hF.ext ((xr w1).alloc (.cells #[.int .i64 k0, .int .i64 n0, .slice A0 l0 c0] 25));have hx0:=(xr w).alloc (.cells #[.int .i64 0, .int .i64 0, .slice none 0 0] 25);simp only[World.size_alloc] at hF1;clear q1 q2 hF;go_wp2_with fail;refine(q15 (w.heap.size+1) _ 11 _ 1 [t] (by intro h;cases h) (y13.one (g:=w1.heap.size+1) (e:=25) hF1 (by simp;omega) (by simp)) (by simp;omega) (by simp)).mono ?_;rintro e w2 ⟨v,rfl,hN,e2⟩;obtain⟨k1,n1,A1,l1,c1,rfl⟩:=hN.three;have hb2:=e2.blk (((xr w1).alloc _|>.alloc _).blk hb);obtain⟨s0,s1,s2,f0,f1,f2⟩:=own3 hb2;have hx2:=(hx0.trans e1).trans (((xr w1).alloc _|>.alloc _).trans e2);go_wp2_with fail;refine bodyPost_ret (v:= .tuple #[.agg #[.int .i64 k1, .int .i64 n1, .slice A1 l1 c1], .int .i64 nx]) (by simp[results,Tryz.results208,go_sem,s0,s1,s2]) rfl ⟨.mk 11 0 [t],_,nx,rfl, ?_, ?_, ?_, ?_⟩
 · exact(((hN.set (by simp) _).set (by simp) _).set (by simp) _).since (by omega)
 · exact((hx2.setCell (by simp) _).setCell (by simp) _).setCell (by simp) _
 · intro x hx
   cases R with
   |none=> cases hx
   |some y=>
    obtain⟨h1,h2,h3⟩:=HQ1.out y rfl;cases hx
    exact⟨by rw[h1],h2,h3⟩
 · intro hx
   cases R with
   |none=> exact HQ2.out rfl
   |some y=> cases hx
set_option maxRecDepth 100000 in
set_option maxHeartbeats 1000000 in
theorem j194(d:Nat)(ih:q29 d)(s:ByteArray)(a:Nat)(w:World)(hs:s.size<=1000000000)(ha:a < s.size)(hc:s[a]=94)(hd:d<=30):
 Calls Tryz.prog 208 #[.string s, .int .i64 a, .int .i64 ((d:Int)+1)] w (j19 w.heap.size w s.size (one 15 (prs d s.data.toList (a+1)))):=by
 have HI:=hdq (fun W=> ih s (a+1) W hs (by omega));obtain⟨R,hR⟩: ∃R,R=prs d s.data.toList (a+1):=⟨_,rfl⟩;rw[<-hR] at HI⊢;clear hR ih;go_enter Tryz.func208,Tryz.ntmps208;go_wp2_with fail;refine(HI.out _).mono ?_;rintro e w1 ⟨t,u,nx,rfl,hF,e1,q1,q2⟩;obtain⟨k0,n0,A0,l0,c0,rfl⟩:=hF.three;have hb:=e1.newBlk;have hsz:=e1.size_alloc;have HQ1:=hdq q1;have HQ2:=hdq q2;have hF1:=hF.ext ((xr w1).alloc (.cells #[.int .i64 k0, .int .i64 n0, .slice A0 l0 c0] 25));have hx0:=(xr w).alloc (.cells #[.int .i64 0, .int .i64 0, .slice none 0 0] 25);simp only[World.size_alloc] at hF1;clear q1 q2 hF;go_wp2_with fail;refine(q15 (w.heap.size+1) _ 15 _ 1 [t] (by intro h;cases h) (y13.one (g:=w1.heap.size+1) (e:=25) hF1 (by simp;omega) (by simp)) (by simp;omega) (by simp)).mono ?_;rintro e w2 ⟨v,rfl,hN,e2⟩;obtain⟨k1,n1,A1,l1,c1,rfl⟩:=hN.three;have hb2:=e2.blk (((xr w1).alloc _|>.alloc _).blk hb);obtain⟨s0,s1,s2,f0,f1,f2⟩:=own3 hb2;have hx2:=(hx0.trans e1).trans (((xr w1).alloc _|>.alloc _).trans e2);go_wp2_with fail;refine bodyPost_ret (v:= .tuple #[.agg #[.int .i64 k1, .int .i64 n1, .slice A1 l1 c1], .int .i64 nx]) (by simp[results,Tryz.results208,go_sem,s0,s1,s2]) rfl ⟨.mk 15 0 [t],_,nx,rfl, ?_, ?_, ?_, ?_⟩
 · exact(((hN.set (by simp) _).set (by simp) _).set (by simp) _).since (by omega)
 · exact((hx2.setCell (by simp) _).setCell (by simp) _).setCell (by simp) _
 · intro x hx
   cases R with
   |none=> cases hx
   |some y=>
    obtain⟨h1,h2,h3⟩:=HQ1.out y rfl;cases hx
    exact⟨by rw[h1],h2,h3⟩
 · intro hx
   cases R with
   |none=> exact HQ2.out rfl
   |some y=> cases hx
set_option maxRecDepth 100000 in
set_option maxHeartbeats 1000000 in
theorem q195(d:Nat)(ih:q29 d)(s:ByteArray)(a:Nat)(w:World)(hs:s.size<=1000000000)(ha:a < s.size)(hc:s[a]=95)(hd:d<=30):
 Calls Tryz.prog 208 #[.string s, .int .i64 a, .int .i64 ((d:Int)+1)] w (j19 w.heap.size w s.size (one 16 (prs d s.data.toList (a+1)))):=by
 have HI:=hdq (fun W=> ih s (a+1) W hs (by omega));obtain⟨R,hR⟩: ∃R,R=prs d s.data.toList (a+1):=⟨_,rfl⟩;rw[<-hR] at HI⊢;clear hR ih;go_enter Tryz.func208,Tryz.ntmps208;go_wp2_with fail;refine(HI.out _).mono ?_;rintro e w1 ⟨t,u,nx,rfl,hF,e1,q1,q2⟩;obtain⟨k0,n0,A0,l0,c0,rfl⟩:=hF.three;have hb:=e1.newBlk;have hsz:=e1.size_alloc;have HQ1:=hdq q1;have HQ2:=hdq q2;have hF1:=hF.ext ((xr w1).alloc (.cells #[.int .i64 k0, .int .i64 n0, .slice A0 l0 c0] 25));have hx0:=(xr w).alloc (.cells #[.int .i64 0, .int .i64 0, .slice none 0 0] 25);simp only[World.size_alloc] at hF1;clear q1 q2 hF;go_wp2_with fail;refine(q15 (w.heap.size+1) _ 16 _ 1 [t] (by intro h;cases h) (y13.one (g:=w1.heap.size+1) (e:=25) hF1 (by simp;omega) (by simp)) (by simp;omega) (by simp)).mono ?_;rintro e w2 ⟨v,rfl,hN,e2⟩;obtain⟨k1,n1,A1,l1,c1,rfl⟩:=hN.three;have hb2:=e2.blk (((xr w1).alloc _|>.alloc _).blk hb);obtain⟨s0,s1,s2,f0,f1,f2⟩:=own3 hb2;have hx2:=(hx0.trans e1).trans (((xr w1).alloc _|>.alloc _).trans e2);go_wp2_with fail;refine bodyPost_ret (v:= .tuple #[.agg #[.int .i64 k1, .int .i64 n1, .slice A1 l1 c1], .int .i64 nx]) (by simp[results,Tryz.results208,go_sem,s0,s1,s2]) rfl ⟨.mk 16 0 [t],_,nx,rfl, ?_, ?_, ?_, ?_⟩
 · exact(((hN.set (by simp) _).set (by simp) _).set (by simp) _).since (by omega)
 · exact((hx2.setCell (by simp) _).setCell (by simp) _).setCell (by simp) _
 · intro x hx
   cases R with
   |none=> cases hx
   |some y=>
    obtain⟨h1,h2,h3⟩:=HQ1.out y rfl;cases hx
    exact⟨by rw[h1],h2,h3⟩
 · intro hx
   cases R with
   |none=> exact HQ2.out rfl
   |some y=> cases hx
theorem j48{s:ByteArray}{a:Nat}{c:UInt8}(h:a < s.size)(hc:s[a]=c):s.data.toList[a]? =some c:=by rw[j117 s h,hc]
set_option maxRecDepth 100000 in
set_option maxHeartbeats 2000000 in
theorem j172(d:Nat)(ih:q29 d)(s:ByteArray)(a:Nat)(w:World)(hs:s.size<=1000000000)(ha:a<=s.size):
 Calls Tryz.prog 209 #[.string s, .int .i64 a, .int .i64 d] w (j19 w.heap.size w s.size (rnd (prs d s.data.toList) s.data.toList a)):=by
 have HI:=hdq (fun a W (ha:a<=s.size+2)=> ih s a W hs ha);obtain⟨F,hF⟩: ∃F,F=prs d s.data.toList:=⟨_,rfl⟩;rw[<-hF] at HI⊢;have hdef:rnd F s.data.toList a=match F a with
  |none=> none
  |some (x,b)=> if rndK s.data.toList[b]? =0 then none else
   match F (b+1) with
   |none=> none
   |some (y,c)=> if s.data.toList[c]? =some 41 then some (.mk (rndK s.data.toList[b]?) 0 [x,y],c+1) else none:=rfl
 obtain⟨R,hR⟩: ∃R,R=rnd F s.data.toList a:=⟨_,rfl⟩;rw[<-hR] at hdef⊢;have HD:=hdq hdef;clear hR ih hF hdef;go_enter Tryz.func209,Tryz.ntmps209;go_wp2_with fail;refine(HI.out a _ (by omega)).mono ?_;rintro e w1 ⟨t,u,nx,rfl,hF,e1,q1,q2⟩;obtain⟨k0,n0,A0,l0,c0,rfl⟩:=hF.three;have hb:=e1.newBlk;have hsz:=e1.size_alloc;have hx0:=((xr w).alloc (.cells #[.int .i64 0, .int .i64 0, .slice none 0 0] 25)).trans e1;have hx1:=hx0.trans ((xr w1).alloc (.cells #[.int .i64 k0, .int .i64 n0, .slice A0 l0 c0] 25));have hF1:=hF.ext ((xr w1).alloc (.cells #[.int .i64 k0, .int .i64 n0, .slice A0 l0 c0] 25));simp only[World.size_alloc] at hF1;have hb':=((xr w1).alloc (.cells #[.int .i64 k0, .int .i64 n0, .slice A0 l0 c0] 25)).blk hb;have hbA:=heap_alloc_new w1 (.cells #[.int .i64 k0, .int .i64 n0, .slice A0 l0 c0] 25);cases hFa:F a with
 |none=>
  obtain rfl:=q2 hFa;have hRn:=HD.out;rw[hFa] at hRn;have HR:=hdq hRn;obtain⟨s0,s1,s2,f0,f1,f2⟩:=own3 hb';clear q1 q2 hRn hFa hsz;go_wp2_with fail;exact bodyPost_ret (v:= .tuple #[.agg #[.int .i64 0, .int .i64 0, .slice none 0 0], .int .i64 (-1)]) (by simp[results,Tryz.results209,go_sem,s0,s1,s2]) rfl ⟨.mk 0 0 [],_,-1,rfl,From.leaf _ _ _ _,((hx1.setCell (by simp) _).setCell (by simp) _).setCell (by simp) _,(fun x hx=> by rw[HR.out] at hx;cases hx),fun _=> rfl⟩
 |some y=>
  obtain⟨x,b⟩:=y;obtain⟨h1,h2,h3⟩:=q1 _ hFa;simp only at h1 h2 h3;have hRs:=HD.out;rw[hFa] at hRs;simp only at hRs;subst h1 h2;clear q1 q2 hFa;have hcap:=hF1;by_cases hlt:b < s.size
  · obtain⟨c,hc⟩: ∃c,s[b]=c:=⟨_,rfl⟩
    rw[j48 hlt hc] at hRs;have hbz:(b:Int) <(s.size:Int):=by omega
    have t0:decide ((b:Int) < 0)=false:=decide_eq_false (by omega);have t1:decide ((s.size:Int)<=(b:Int))=false:=decide_eq_false (by omega);obtain⟨m,hm⟩: ∃m,c.toNat=m:=⟨_,rfl⟩;have hHI:=HI.out (b+1);rw[show((b+1:Nat):Int)=(b:Int)+1 by omega] at hHI;have HI2:=hdq hHI;clear hHI;by_cases hk:rndK (some c)=0
    · rw[if_pos hk] at hRs
      have HR:=hdq hRs;have t2:((m:Int)==62)=false:=by rw[beq_eq_false_iff_ne];intro h;have:c=62:=UInt8.toNat_inj.1 (by rw[hm];simp;omega);rw[this] at hk;exact absurd hk (by decide)
      have t3:((m:Int)==42)=false:=by rw[beq_eq_false_iff_ne];intro h;have:c=42:=UInt8.toNat_inj.1 (by rw[hm];simp;omega);rw[this] at hk;exact absurd hk (by decide)
      have t4:((m:Int)==32)=false:=by rw[beq_eq_false_iff_ne];intro h;have:c=32:=UInt8.toNat_inj.1 (by rw[hm];simp;omega);rw[this] at hk;exact absurd hk (by decide)
      clear hRs hk;go_wp2_with fail;refine(HI2.out _ (by omega)).mono ?_;rintro e w2 ⟨t',u',nx',rfl,hF',e2,-,-⟩;obtain⟨k1,n1,A1,l1,c1,rfl⟩:=hF'.three;have hb2:=(e2.trans ((xr w2).alloc (.cells #[.int .i64 k1, .int .i64 n1, .slice A1 l1 c1] 25))).blk hb';obtain⟨s0,s1,s2,f0,f1,f2⟩:=own3 hb2;have hx2:=hx1.trans (e2.trans ((xr w2).alloc (.cells #[.int .i64 k1, .int .i64 n1, .slice A1 l1 c1] 25)));go_wp2_with fail;exact bodyPost_ret (v:= .tuple #[.agg #[.int .i64 0, .int .i64 0, .slice none 0 0], .int .i64 (-1)]) (by simp[results,Tryz.results209,go_sem,s0,s1,s2]) rfl ⟨.mk 0 0 [],_,-1,rfl,From.leaf _ _ _ _,((hx2.setCell (by simp) _).setCell (by simp) _).setCell (by simp) _,(fun x hx=> by rw[HR.out] at hx;cases hx),fun _=> rfl⟩
    · rw[if_neg hk] at hRs
      obtain⟨K,hK⟩: ∃K,rndK (some c)=K:=⟨_,rfl⟩;rw[hK] at hRs hk;have hcs:(m=62/\K=3)\/(m=42/\K=13)\/(m=32/\K=5):=by
       unfold rndK at hK;by_cases g1:c=62
       · subst g1;exact .inl ⟨hm.symm,by simpa using hK.symm⟩
       · by_cases g2:c=42
         · subst g2;exact .inr (.inl ⟨hm.symm,by simpa using hK.symm⟩)
         · by_cases g3:c=32
           · subst g3;exact .inr (.inr ⟨hm.symm,by simpa using hK.symm⟩)
           · simp[g1,g2,g3] at hK;exact absurd hK.symm hk
      have HRS:=hdq hRs;clear hRs hK hk;rcases hcs with⟨rfl,rfl⟩ |⟨rfl,rfl⟩ |⟨rfl,rfl⟩
      all_goals(
       go_wp2_with fail;refine(HI2.out _ (by omega)).mono ?_;rintro e w2 ⟨t',u',nx',rfl,hF',e2,q1,q2⟩;obtain⟨k1,n1,A1,l1,c1,rfl⟩:=hF'.three;have hs2:=e2.size_alloc;have hxa:=e2.trans ((xr w2).alloc (.cells #[.int .i64 k1, .int .i64 n1, .slice A1 l1 c1] 25));have hb2:=hxa.blk hb';have hbA2:=hxa.blk hbA;have hbB:=heap_alloc_new w2 (.cells #[.int .i64 k1, .int .i64 n1, .slice A1 l1 c1] 25);obtain⟨s0,s1,s2,f0,f1,f2⟩:=own3 hb2;obtain⟨x0,x1,x2,-,-,-⟩:=own3 hbA2;have hx2:=hx1.trans hxa;have hF2:=hF1.ext hxa;have hF2':=(hF'.ext ((xr w2).alloc (.cells #[.int .i64 k1, .int .i64 n1, .slice A1 l1 c1] 25))).since (show w.heap.size+1<=_ by simp;omega);cases hFb:F (b+1) with
       |none=>
        obtain rfl:=q2 hFb;have hRn:=HRS.out;rw[hFb] at hRn;have HR:=hdq hRn;clear q1 q2 hRn hFb;go_wp2_with fail;exact bodyPost_ret (v:= .tuple #[.agg #[.int .i64 0, .int .i64 0, .slice none 0 0], .int .i64 (-1)]) (by simp[results,Tryz.results209,go_sem,s0,s1,s2]) rfl ⟨.mk 0 0 [],_,-1,rfl,From.leaf _ _ _ _,((hx2.setCell (by simp) _).setCell (by simp) _).setCell (by simp) _,(fun x hx=> by rw[HR.out] at hx;cases hx),fun _=> rfl⟩
       |some y2=>
        obtain⟨x',b'⟩:=y2;obtain⟨h1,h2,h3'⟩:=q1 _ hFb;simp only at h1 h2 h3';have hRs2:=HRS.out;rw[hFb] at hRs2;simp only at hRs2;subst h1 h2;clear q1 q2 hFb;have t5:decide ((b':Int) < 0)=false:=decide_eq_false (by omega);by_cases hlt':b' < s.size
        · obtain⟨c',hc'⟩: ∃c',s[b']=c':=⟨_,rfl⟩
          rw[j48 hlt' hc'] at hRs2;have hbz':(b':Int) <(s.size:Int):=by omega
          have t6:decide ((s.size:Int)<=(b':Int))=false:=decide_eq_false (by omega);by_cases h41:c'=41
          · subst h41
            rw[if_pos rfl] at hRs2;have HR:=hdq hRs2;clear hRs2;go_wp2_with fail;refine(q15 (w.heap.size+1) _ _ _ 2 [t,t'] (by intro h;cases h) (y13.two (g:=w2.heap.size+1) (e:=25) hF2 hF2' (by simp;omega) (by simp)) (by simp;omega) (by simp)).mono ?_;rintro e w3 ⟨v,rfl,hN,e3⟩;obtain⟨k3,n3,A3,l3,c3,rfl⟩:=hN.three;obtain⟨z0,z1,z2,g0,g1,g2⟩:=own3 (e3.blk (((xr _).alloc _).blk hb2));have hx3:=hx2.trans (((xr _).alloc _).trans e3);clear s0 s1 s2 x0 x1 x2;go_wp2_with fail;refine bodyPost_ret (v:= .tuple #[.agg #[.int .i64 k3, .int .i64 n3, .slice A3 l3 c3], .int .i64 ((b':Int)+1)]) (by simp[results,Tryz.results209,go_sem,z0,z1,z2]) rfl ⟨_,_,_,rfl,(((hN.set (by simp) _).set (by simp) _).set (by simp) _).since (by omega),((hx3.setCell (by simp) _).setCell (by simp) _).setCell (by simp) _, ?_, ?_⟩
            · intro x hx
              rw[HR.out] at hx;cases hx
              exact⟨rfl,by simp,by show b'+1<=s.size;omega⟩
            · intro hx
              rw[HR.out] at hx;cases hx
          · rw[if_neg (by intro h;cases h;exact h41 rfl)] at hRs2
            have HR:=hdq hRs2;have t7:((c'.toNat:Int) !=41)=true:=by rw[bne_iff_ne];intro h;exact h41 (UInt8.toNat_inj.1 (by simp;omega))
            have t8:((c'.toNat:Int)==41)=false:=by rw[beq_eq_false_iff_ne];intro h;exact h41 (UInt8.toNat_inj.1 (by simp;omega))
            clear hRs2 h41;go_wp2_with fail;exact bodyPost_ret (v:= .tuple #[.agg #[.int .i64 0, .int .i64 0, .slice none 0 0], .int .i64 (-1)]) (by simp[results,Tryz.results209,go_sem,s0,s1,s2]) rfl ⟨.mk 0 0 [],_,-1,rfl,From.leaf _ _ _ _,((hx2.setCell (by simp) _).setCell (by simp) _).setCell (by simp) _,(fun x hx=> by rw[HR.out] at hx;cases hx),fun _=> rfl⟩
        · rw[q51 s (by omega),if_neg (by simp)] at hRs2
          have HR:=hdq hRs2;have t6:decide ((s.size:Int)<=(b':Int))=true:=decide_eq_true (by omega);clear hRs2;go_wp2_with fail;exact bodyPost_ret (v:= .tuple #[.agg #[.int .i64 0, .int .i64 0, .slice none 0 0], .int .i64 (-1)]) (by simp[results,Tryz.results209,go_sem,s0,s1,s2]) rfl ⟨.mk 0 0 [],_,-1,rfl,From.leaf _ _ _ _,((hx2.setCell (by simp) _).setCell (by simp) _).setCell (by simp) _,(fun x hx=> by rw[HR.out] at hx;cases hx),fun _=> rfl⟩)
  · rw[q51 s (by omega),if_pos (by rfl)] at hRs
    have HR:=hdq hRs;have t0:decide ((b:Int) < 0)=false:=decide_eq_false (by omega);have t1:decide ((s.size:Int)<=(b:Int))=true:=decide_eq_true (by omega);obtain⟨s0,s1,s2,f0,f1,f2⟩:=own3 hb';clear hRs hsz hcap;go_wp2_with fail;exact bodyPost_ret (v:= .tuple #[.agg #[.int .i64 0, .int .i64 0, .slice none 0 0], .int .i64 (-1)]) (by simp[results,Tryz.results209,go_sem,s0,s1,s2]) rfl ⟨.mk 0 0 [],_,-1,rfl,From.leaf _ _ _ _,((hx1.setCell (by simp) _).setCell (by simp) _).setCell (by simp) _,(fun x hx=> by rw[HR.out] at hx;cases hx),fun _=> rfl⟩
end Go.Proofs.YtdkamgafpphdjaaGreat
namespace Go.Proofs.YtdkamgafpphdjaaGreat
open Go.RowKit
set_option linter.unusedVariables false
attribute [local go_sem ↓] Go.wp_at_zero Go.wp_at_succ
def ldO(t:TypeId)(s:Nat):Op:=Op.load t (.tmp s)
attribute [local go_sem] ldO
theorem infoS:(Tryz.prog.info? 25).map (fun i=>(i.zero,i.size,i.bytes))=some (some (.agg #[.int .i64 0, .int .i64 0, .slice none 0 0]),3,40):=by kernel_rfl
theorem y136{l:List Tr}{j:Nat}{t:Tr}(h:j < l.length)(e:l[j]=t):l.take j++ [t]=l.take (j+1):=by rw[<-e];exact List.take_append_getElem h
end Go.Proofs.YtdkamgafpphdjaaGreat
namespace Go.Proofs.YtdkamgafpphdjaaGreat
set_option linter.unusedVariables false
theorem y196{k:Int}{n:Nat}(h:opsT k=(n:Int)):k=1\/k=2\/k=3\/k=4\/k=5\/k=6\/k=7\/k=8\/k=9\/k=10\/k=11\/k=12\/k=13\/k=14\/k=15\/k=16:=by
 by_cases hk:1<=k/\k<=16
 · omega
 · exfalso
   unfold opsT at h
   repeat rw[if_neg (by omega)] at h
   omega
end Go.Proofs.YtdkamgafpphdjaaGreat
namespace Go.Proofs.YtdkamgafpphdjaaGreat
set_option linter.unusedVariables false
mutual
def plc(p:Tr->Bool):Tr->List Int->List (List Int)
 | .mk k n ks,q=>(if p (.mk k n ks)=true then [q] else [])++plcs p 0 ks q
def plcs(p:Tr->Bool):Nat->List Tr->List Int->List (List Int)
 |_, [],_=> []
 |i,t::ts,q=> plc p t (q++ [(i:Int)])++plcs p (i+1) ts q
end
mutual
def cntP(p:Tr->Bool):Tr->Nat
 | .mk k n ks=>(if p (.mk k n ks)=true then 1 else 0)+q138 p ks
def q138(p:Tr->Bool):List Tr->Nat
 | []=> 0
 |t::ts=> cntP p t+q138 p ts
end
mutual
theorem y175(p:Tr->Bool): ∀(t:Tr) (q:List Int),(plc p t q).length=cntP p t
 | .mk k n ks,q=> by
  rw[plc,cntP,List.length_append,y120 p ks 0 q]
  split <;> simp
theorem y120(p:Tr->Bool): ∀(ks:List Tr) (i:Nat) (q:List Int),(plcs p i ks q).length=q138 p ks
 | [],i,q=> by rw[plcs,q138];rfl
 |t::ts,i,q=> by rw[plcs,q138,List.length_append,y175 p t _,y120 p ts _ q]
end
mutual
theorem j186(p:Tr->Bool): ∀t:Tr,cntP p t<=cnt t
 | .mk k n ks=> by
  rw[cntP,cnt];have:=y121 p ks
  split <;> omega
theorem y121(p:Tr->Bool): ∀ks:List Tr,q138 p ks<=cnts ks
 | []=> by rw[q138,cnts];exact Nat.le_refl _
 |t::ts=> by
  rw[q138,cnts];have:=j186 p t;have:=y121 p ts;omega
end
def q106(t:Tr):Bool:=rdxT t !=0
def atT:Tr->List Int->Option Tr
 |t, []=> some t
 | .mk _ _ ks,i::r=> if 0<=i/\i < ks.length then atT (kd ks i.toNat) r else none
def bndT:Tr->List Int->List Tr
 |_, []=> []
 | .mk k _ ks,i::r=> if 0<=i/\i < ks.length then(if 0 < und k i.toNat then [kd ks 0] else [])++bndT (kd ks i.toNat) r else []
theorem q176(t:Tr)(ts:List Tr)(i:Nat):kd (t::ts) (i+1)=kd ts i:=rfl
theorem y85{ks:List Tr}{i:Nat}(h:i < ks.length):kd ks i∈ks:=by
 unfold kd;rw[List.getD_eq_getElem?_getD,List.getElem?_eq_getElem h];exact List.getElem_mem h
mutual
theorem plc_at(p:Tr->Bool): ∀(t:Tr) (q:List Int) (x:List Int),x∈plc p t q-> ∃r u,x=q++r/\atT t r=some u/\p u=true
 | .mk k n ks,q,x,h=> by
  rw[plc] at h;rcases List.mem_append.1 h with h|h
  · by_cases hp:p (.mk k n ks)=true
    · rw[if_pos hp] at h
      exact⟨[], .mk k n ks,by simpa using h,rfl,hp⟩
    · rw[if_neg hp] at h
      cases h
  · obtain⟨j,r,u,h1,h2,h3,h4⟩:=y194 p ks 0 q x h
    refine⟨((j:Nat):Int)::r,u,by simpa using h2, ?_,h4⟩;rw[atT,if_pos ⟨by omega,by omega⟩]
    simpa using h3
theorem y194(p:Tr->Bool): ∀(ks:List Tr) (i:Nat) (q:List Int) (x:List Int),x∈plcs p i ks q-> ∃(j:Nat) (r:List Int) (u:Tr),j < ks.length/\x=q++((i+j:Nat):Int)::r/\atT (kd ks j) r=some u/\p u=true
 | [],i,q,x,h=> by rw[plcs] at h;cases h
 |t::ts,i,q,x,h=> by
  rw[plcs] at h;rcases List.mem_append.1 h with h|h
  · obtain⟨r,u,h1,h2,h3⟩:=plc_at p t _ x h
    exact⟨0,r,u,by simp,by simpa using h1,h2,h3⟩
  · obtain⟨j,r,u,h1,h2,h3,h4⟩:=y194 p ts (i+1) q x h
    refine⟨j+1,r,u,by simpa using h1, ?_,h3,h4⟩;rw[h2,show i+1+j=i+(j+1) by omega]
end
theorem j101{g:Sig}: ∀(a:List Int) (t u:Tr) (d:Int),shape g t d=true->atT t a=some u->shape g u (d - a.length)=true
 | [],t,u,d,h,e=> by
  have e:t=u:=by cases t;simpa[atT] using e
  subst e
  simpa using h
 |i::a, .mk k n ks,u,d,h,e=> by
  rw[atT] at e
  split at e
  · rename_i hi
    have h1:=(y25 h).2.2.2 (kd ks i.toNat) (y85 (by omega));have:=j101 a _ u (d - 1) h1 e;rw[List.length_cons,show d -((a.length+1:Nat):Int)=d - 1 - a.length by omega];exact this
  · cases e
theorem j39{g:Sig}{t:Tr}{d:Int}(h:shape g t d=true):1<=d:=by
 obtain⟨k,n,ks⟩:=t;simp only[shape,Bool.and_eq_true,decide_eq_true_eq] at h;exact h.1
mutual
def outT:Tr->Option (List Int)
 | .mk k n ks=> if rdx k ks=0 then j53 0 ks else some []
def j53:Nat->List Tr->Option (List Int)
 |_, []=> none
 |i,t::ts=> match outT t with
  |some p=> some ((i:Int)::p)
  |none=> j53 (i+1) ts
end
mutual
theorem j115: ∀t:Tr,(outT t).isSome= !nrm t
 | .mk k n ks=> by
  rw[outT,nrm];by_cases h:rdx k ks=0
  · rw[if_pos h,y133 ks 0]
    simp[h]
  · rw[if_neg h]
    simp[h]
theorem y133: ∀(ks:List Tr) (i:Nat),(j53 i ks).isSome= !nrms ks
 | [],i=> by rw[j53,nrms];rfl
 |t::ts,i=> by
  have h:=j115 t;rw[j53,nrms];cases e:outT t with
  |some p=> rw[e] at h;simp at h;simp[h]
  |none=> rw[e] at h;simp at h;simp[h,y133 ts (i+1)]
end
theorem q120: ∀(t:Tr) (d:Int),shape sigT t d=true-> ∀p,outT t=some p->(p.length:Int)<=d:=Tr.ind fun k n ks hk=> by
 intro d h p e;have hd:=j39 h;rw[outT] at e
 split at e
 · have key: ∀(i:Nat) (ts:List Tr),(∀t∈ts,t∈ks)->j53 i ts=some p->(p.length:Int)<=d:=by
    intro i ts
    induction ts generalizing i with
    |nil=> intro _ h;rw[j53] at h;cases h
    |cons t ts ih=>
     intro hm h1;rw[j53] at h1;cases e2:outT t with
     |some q=>
      rw[e2] at h1;simp only[Option.some.injEq] at h1;subst h1;have:=hk t (hm t (by simp)) (d - 1) ((y25 h).2.2.2 t (hm t (by simp))) q e2;simp only[List.length_cons];omega
     |none=>
      rw[e2] at h1;exact ih (i+1) (fun t ht=> hm t (by simp[ht])) h1
   exact key 0 ks (fun _ h=> h) e
 · simp only[Option.some.injEq] at e
   subst e;simp
   omega
end Go.Proofs.YtdkamgafpphdjaaGreat
namespace Go.Proofs.YtdkamgafpphdjaaGreat
open Go.RowKit
set_option linter.unusedVariables false
def SerQ(B:Nat)(w:World)(size:Nat)(o:Option (List Tr×Nat))(e:Ending)(w':World):Prop:=
 ∃(ts:List Tr) (A:Option Addr) (cap:Nat) (nx:Int),e= .returned (.tuple #[.slice A ts.length cap, .int .i64 nx])/\ts.length<=cap/\cap<=maxLen/\y13 B w' A ts/\Ext w w'/\(∀x,o=some x->ts=x.1/\nx=x.2/\x.2<=size)/\(o=none->nx= -1)
theorem y199:(Tryz.prog.info? 25).map (fun i=>(i.zero,i.size,i.bytes))=some (some (.agg #[.int .i64 0, .int .i64 0, .slice none 0 0]),3,40):=by kernel_rfl
theorem q207{p:Nat->Option (Tr×Nat)}{l:List UInt8}{last:UInt8}{m a b:Nat}{t:Tr}(h:p a=some (t,b)):ser p l last (m+1) a=if l[b]? =some (if m=0 then last else 44) then(ser p l last m (b+1)).map (fun x=>(t::x.1,x.2)) else none:=by
 conv=> lhs;unfold ser
 rw[h]
theorem j202{p:Nat->Option (Tr×Nat)}{l:List UInt8}{last:UInt8}{m a:Nat}(h:p a=none):ser p l last (m+1) a=none:=by
 conv=> lhs;unfold ser
 rw[h]
set_option maxRecDepth 100000 in
set_option maxHeartbeats 4000000 in
theorem q161(d:Nat)(ih:q29 d)(s:ByteArray)(a many:Nat)(last:UInt8)(w:World)(hs:s.size<=1000000000)(ha:a<=s.size+2)(hm:many<=4)(hm1:1<=many):
 Calls Tryz.prog 220 #[.string s, .int .i64 a, .int .i64 d, .int .i64 many, .int .u8 (last.toNat:Int)] w (SerQ w.heap.size w s.size (ser (prs d s.data.toList) s.data.toList last many a)):=by
 have HI:=hdq (fun a W (ha:a<=s.size+2)=> ih s a W hs ha);obtain⟨F,hF⟩: ∃F,F=prs d s.data.toList:=⟨_,rfl⟩;rw[<-hF] at HI⊢;obtain⟨R,hR⟩: ∃R,R=ser F s.data.toList last many a:=⟨_,rfl⟩;rw[<-hR];have HR:=hdq hR;obtain⟨i0,hi,hz0,hz1,hz2⟩:=info_parts y199;obtain⟨q,hq⟩: ∃q,last.toNat=q:=⟨_,rfl⟩;rw[hq];have HLQ:=hdq hq;clear hR ih hF hq;go_enter Tryz.func220,Tryz.ntmps220;go_wp2_with fail;have hx0:=(xr w).alloc (.cells #[] 25);have hb0:=heap_alloc_new w (.cells #[] 25);have hs0:w.heap.size <(w.alloc (.cells #[] 25)).heap.size:=by simp
 generalize World.alloc w _=w1 at hx0 hb0 hs0
 go_loopw [1,12,13] (fun at_ o i wr=> ∃(j a':Nat) (ts:List Tr),j<=many/\at_= .int .i64 a'/\i= .int .i64 j/\a'<=s.size+2/\j16 (· < w.heap.size) w wr 25 o ts/\ts.length=j/\Ext w wr/\w.heap.size < wr.heap.size/\R=(ser F s.data.toList last (many - j) a').map (fun x=>(ts++x.1,x.2))/\(j=many->a'<=s.size)) (fun _ _ i _=> many -(intOf i).toNat)
 case atStart=> exact⟨0,a, [],Nat.zero_le _,rfl,rfl,ha,j16.lit hb0 (Nat.le_refl _),rfl,hx0,hs0,by rw[HR.out];simp,by omega⟩
 case round=>
  obtain⟨j,a',ts,hj,rfl,rfl,ha',hG,htl,hx,hsz,heq,hend⟩:=hrel;have HE:=hdq heq;have HTL:=hdq htl;have htl4:ts.length<=4:=by omega
  clear htl;obtain⟨Bo,co,rfl,hl1,hl2,hKo,-⟩:=hG.lies (fun b hb=> hb);clear heq;by_cases hlt:j < many
  · have hjz:(j:Int) <(many:Int):=by omega
    have HND:=hdq hend;clear hend;go_wp2_with fail;refine(HI.out a' wr ha').mono ?_;rintro e w2 ⟨t,u,nx,rfl,hF,e2,q1,q2⟩;obtain⟨k0,n0,A0,l0,c0,rfl⟩:=hF.three;have hs2:=e2.size;have hxa:=e2.trans ((xr w2).alloc (.cells #[.int .i64 k0, .int .i64 n0, .slice A0 l0 c0] 25));cases hFa:F a' with
    |none=>
     obtain rfl:=q2 hFa;have hRn:R=none:=by
      rw[HE.out,show many - j=(many - j - 1)+1 by omega,j202 hFa]
      rfl
     have HRn:=hdq hRn;clear q1 q2 hRn hFa;go_wp2_with fail;go_ret2;exact⟨[],none,0,-1,rfl,Nat.le_refl _,Nat.zero_le _, .inl rfl,hx.trans hxa,(fun x hx=> by rw[HRn.out] at hx;cases hx),fun _=> rfl⟩
    |some y=>
     obtain⟨t',b⟩:=y;obtain⟨h1,h2,h3⟩:=q1 _ hFa;simp only at h1 h2 h3;subst h1 h2;have hst:=HE.out;rw[show many - j=(many -(j+1))+1 by omega,q207 hFa] at hst;clear q1 q2 hFa;have t0:decide ((b:Int) < 0)=false:=decide_eq_false (by omega);by_cases hlb:b < s.size
     · obtain⟨c,hc⟩: ∃c,s[b]=c:=⟨_,rfl⟩
       rw[j48 hlb hc] at hst;have hbz:(b:Int) <(s.size:Int):=by omega
       have t1:decide ((s.size:Int)<=(b:Int))=false:=decide_eq_false (by omega);obtain⟨p,hp⟩: ∃p,c.toNat=p:=⟨_,rfl⟩;obtain⟨want,hw⟩: ∃want:UInt8,want=if many -(j+1)=0 then last else 44:=⟨_,rfl⟩
       rw[<-hw] at hst;by_cases hcw:c=want
       · rw[if_pos (by rw[hcw])] at hst
         have HST:=hdq hst;have hG2:=hG.ext hxa;have hlitG: ∀o',j16 (· < w.heap.size) w (w2.alloc (.cells #[.int .i64 k0, .int .i64 n0, .slice A0 l0 c0] 25)) 25 o' ts->True:=fun _ _=> trivial
         have hown: ∀g,(Value.slice Bo ts.length co).ownBlock=some g->g < wr.heap.size:=by
          obtain⟨xs,g1,-⟩:=hG;exact fun g hg=>(g1.lt g hg).2
         have HOWN:=hdq hown;have hFx:=(hF.ext ((xr w2).alloc (.cells #[.int .i64 k0, .int .i64 n0, .slice A0 l0 c0] 25))).ext ((xr _).alloc (.cells #[.int .i64 k0, .int .i64 n0, .slice A0 l0 c0] 25));have hGx:=hG2.ext ((xr _).alloc (.cells #[.int .i64 k0, .int .i64 n0, .slice A0 l0 c0] 25));have hbz2:=heap_alloc_new (w2.alloc (.cells #[.int .i64 k0, .int .i64 n0, .slice A0 l0 c0] 25)) (.cells #[.int .i64 k0, .int .i64 n0, .slice A0 l0 c0] 25);simp only[World.size_alloc] at hbz2;have hT:InT ((w2.alloc (.cells #[.int .i64 k0, .int .i64 n0, .slice A0 l0 c0] 25)).alloc (.cells #[.int .i64 k0, .int .i64 n0, .slice A0 l0 c0] 25)) (fun b=> b <((w2.alloc (.cells #[.int .i64 k0, .int .i64 n0, .slice A0 l0 c0] 25)).alloc (.cells #[.int .i64 k0, .int .i64 n0, .slice A0 l0 c0] 25)).heap.size/\(Value.slice Bo ts.length co).ownBlock≠some b/\ ¬(b < w.heap.size)) t (.agg #[.int .i64 k0, .int .i64 n0, .slice A0 l0 c0]):=hFx.mono (fun b hb=>⟨hb.2,fun h=> by have:=HOWN.out b h;omega,by omega⟩) (fun _ _=> rfl);have HT:=hdq hT;have HGX:=hdq hGx;have HW:=hdq hw;clear hst hw hG hG2 hT hFx hF hown hGx hlitG hKo;have hfin:(j+1 < many/\p=44/\((j:Int)+1==(many:Int))=false)\/(many<=j+1/\p=q/\((j:Int)+1==(many:Int))=true):=by
          rcases Nat.lt_or_ge (j+1) many with g|g
          · refine .inl ⟨g, ?_,by rw[beq_eq_false_iff_ne];omega⟩
            have:=hcw;rw[HW.out,if_neg (by omega)] at this;rw[<-hp,this];rfl
          · refine .inr ⟨g, ?_,by rw[beq_iff_eq];omega⟩
            have:=hcw;rw[HW.out,if_pos (by omega)] at this;rw[<-hp,this,HLQ.out]
         clear hcw;rcases hfin with⟨g1,rfl,g3⟩ |⟨g1,rfl,g3⟩
         all_goals(
          have gz:(j:Int)+1 <(many:Int)\/(many:Int)<=(j:Int)+1:=by omega
          have gd:decide ((j:Int)+1 <(many:Int))=decide (j+1 < many):=decide_eq_decide.2 (by omega);clear gz)
         all_goals(
          have h44:((44:Int) !=44)=false:=by decide
          go_wp2_with (at_builtin;refine y18 _ rfl (.tmp 62) (.tmp 64) _ (by rfl) 25 i0 _ Tryz.underlying23 hi hz0 hz1 hz2 rfl (by rfl) (X:=(· < w.heap.size)) (W:=w) (tr:=t) HGX.out (by simp;omega) HT.out (by rfl) hbz2 (by omega) ?_ (fun b hb=> hb))
          intro v' w5 hG5 hB5;obtain⟨B5,c5,rfl,r1,r2,-,-⟩:=hG5.lies (fun b hb=> hb);have hx5:Ext w w5:=Below.trans (hx.trans (hxa.trans ((xr _).alloc (.cells #[.int .i64 k0, .int .i64 n0, .slice A0 l0 c0] 25)))) hB5;have hs5:=hB5.size;have HG5:=hdq hG5;have hs5':w.heap.size < w5.heap.size:=by simp at hs5;omega
          clear hG5 hB5 hs5 hbz2;go_wp2_with fail
          go_roundw
          case rel=> exact⟨j+1,b+1,ts++ [t],by omega,by go_num,by go_num,by omega,HG5.out,by rw[List.length_append,HTL.out];rfl,hx5,hs5',by rw[HST.out,Option.map_map];congr 1;funext x;simp,by omega⟩
          case measure=> simp[intOf];omega)
       · rw[if_neg (by intro h;cases h;exact hcw rfl)] at hst
         have HRn:=hdq (show R=none from by rw[hst];rfl);have hfin:(j+1 < many/\((p:Int) !=44)=true)\/(many<=j+1/\((p:Int) !=(q:Int))=true/\((j:Int)+1==(many:Int))=true):=by
          rcases Nat.lt_or_ge (j+1) many with g|g
          · refine .inl ⟨g, ?_⟩
            rw[bne_iff_ne];intro h;rw[hw,if_neg (by omega)] at hcw;exact hcw (UInt8.toNat_inj.1 (by rw[hp];simp;omega))
          · refine .inr ⟨g, ?_,by rw[beq_iff_eq];omega⟩
            rw[bne_iff_ne];intro h;rw[hw,if_pos (by omega)] at hcw;exact hcw (UInt8.toNat_inj.1 (by rw[hp,HLQ.out];omega))
         clear hst hw hcw hG hKo;rcases hfin with⟨g1,g2⟩ |⟨g1,g2,g3⟩
         all_goals(
          go_wp2_with fail;go_ret2;exact⟨[],none,0,-1,rfl,Nat.le_refl _,Nat.zero_le _, .inl rfl,hx.trans hxa,(fun x hx=> by rw[HRn.out] at hx;cases hx),fun _=> rfl⟩)
     · rw[q51 s (by omega),if_neg (by simp)] at hst
       have HRn:=hdq (show R=none from by rw[hst];rfl);have t1:decide ((s.size:Int)<=(b:Int))=true:=decide_eq_true (by omega);clear hst hG hKo;go_wp2_with fail;go_ret2;exact⟨[],none,0,-1,rfl,Nat.le_refl _,Nat.zero_le _, .inl rfl,hx.trans hxa,(fun x hx=> by rw[HRn.out] at hx;cases hx),fun _=> rfl⟩
  · have hjm:j=many:=by omega
    have hRs:R=some (ts,a'):=by
     rw[HE.out,hjm,Nat.sub_self];simp[ser]
    have HRs:=hdq hRs;have hK2:y13 w.heap.size wr Bo ts:=hKo.mono (fun b hb=>⟨by omega,hb.1⟩) (fun _ _=> rfl);have hE2:=hend hjm;clear hRs hend hKo hG;go_wp2_with fail;go_ret2;refine⟨ts,Bo,co,(a':Int), ?_,hl1,hl2,hK2,hx, ?_, ?_⟩
    · rfl
    · intro x hx
      rw[HRs.out] at hx;cases hx
      exact⟨rfl,rfl,hE2⟩
    · intro hx
      rw[HRs.out] at hx;cases hx
end Go.Proofs.YtdkamgafpphdjaaGreat
