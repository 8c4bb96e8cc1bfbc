/-
  Lemmas towards the law, 13: Parse5, OrdGT.
-/
import Derived.Test.YtbnkbepgmenblaaGreatTAL
set_option linter.unusedVariables false
set_option maxHeartbeats 1000000
set_option maxRecDepth 100000
namespace Go.Proofs.YtbnkbepgmenblaaGreat
open Go.RowKit
theorem y43{d:Nat}{l:List UInt8}{a:Nat}{c:UInt8}(h:l[a]? =some c):prs (d+1) l a=
 (if c=35 then(numS l (a+1) true).map (fun x=>(.mk 1 x.1 [],x.2))
 else if c=42 then(numS l (a+1) false).map (fun x=>(.mk 2 x.1 [],x.2))
 else if c=78 then some (.mk 6 0 [],a+1)
 else if c=48 then some (.mk 7 0 [],a+1)
 else if c=43 then one 8 (prs d l (a+1))
 else if c=33 then one 11 (prs d l (a+1))
 else if c=94 then one 15 (prs d l (a+1))
 else if c=95 then one 16 (prs d l (a+1))
 else if c=40 then rnd (prs d l) l (a+1)
 else if c=91 then sqr (prs d l) l (a+1)
 else blk (prs d l) l a c):=by
 conv=> lhs;unfold prs
 rw[h]
theorem q157{d:Nat}{l:List UInt8}{a:Nat}(h:l[a]? =none):prs d l a=none:=by
 cases d with
 |zero=> rfl
 |succ d=>
  unfold prs;rw[h]
theorem q180{l:List UInt8}{a:Nat}{two:Bool}{x:Int×Nat}(h:numS l a two=some x):x.2<=l.length:=by
 unfold numS at h;cases h0:l[a]?with
 |none=> rw[h0] at h;cases h
 |some c=>
  have ha:a < l.length:=by
   rcases Nat.lt_or_ge a l.length with g|g
   · exact g
   · rw[List.getElem?_eq_none g] at h0;cases h0
  rw[h0] at h;simp only at h
  split at h
  · split at h
    · cases h1:l[a+1]?with
      |none=> rw[h1] at h;cases h;exact ha
      |some d=>
       have hb:a+1 < l.length:=by
        rcases Nat.lt_or_ge (a+1) l.length with g|g
        · exact g
        · rw[List.getElem?_eq_none g] at h1;cases h1
       rw[h1] at h;simp only at h
       split at h
       · split at h
         · cases h
         · cases h;exact hb
       · cases h;exact ha
    · cases h;exact ha
  · cases h
theorem j209(d:Nat)(hd:d<=30)(s:ByteArray)(a:Nat)(w:World)(hs:s.size<=1000000000)(ha:a < s.size)(hc:s[a]=35):
 Calls Tryz.prog 182 #[.string s,.int .i64 a,.int .i64 ((d:Int)+1)] w (j21 w.heap.size w s.size (prs (d+1) s.data.toList a)):=by
 have hR:prs (d+1) s.data.toList a=(numS s.data.toList (a+1) true).map (fun x=>(.mk 1 x.1 [],x.2)):=by rw[y43 (j52 ha hc)];rfl
 rw[hR];have hN:=fun W=> y147 s (a+1) W hs (by omega)
 have hle: ∀x,numS s.data.toList (a+1) true=some x->x.2<=s.size:=fun x h=> by have:=q180 h;simpa using this
 obtain⟨S,hS⟩: ∃S,S=numS s.data.toList (a+1) true:=⟨_,rfl⟩;rw[<-hS] at hN hle⊢;rw[show((a+1:Nat):Int)=(a:Int)+1 by omega] at hN;have HN:=hdq hN;have HL:=hdq hle;clear hR hN hle hS;go_enter Tryz.func182,Tryz.ntmps182;go_wp2_with fail;refine(HN.out _).mono ?_;rintro e w1 ⟨rfl,rfl⟩;obtain⟨x,hx⟩: ∃x,x=(resN S).1:=⟨_,rfl⟩;obtain⟨nx,Gj⟩: ∃nx,nx=(resN S).2:=⟨_,rfl⟩;rw[<-hx,<-Gj];have HX:=hdq hx;have Bl:=hdq Gj;clear hx Gj;go_wp2_with fail;refine(j24 _ 1 x).mono ?_;rintro e w2 ⟨rfl,e2⟩;obtain⟨s0,s1,s2,f0,f1,f2⟩:=own3 e2.newBlk;have hsz:=e2.size_alloc;have hE:=((xr w).alloc (.cells #[.int .i64 0,.int .i64 0,.slice none 0 0] 25)).trans e2;go_wp2_with fail;refine bodyPost_ret (v:= .tuple #[.agg #[.int .i64 1,.int .i64 x,.slice none 0 0],.int .i64 nx]) (by simp[results,Tryz.results182,go_sem,s0,s1,s2]) rfl ⟨.mk 1 x [],_,nx,rfl,From.leaf _ _ _ _,((hE.setCell (by simp) _).setCell (by simp) _).setCell (by simp) _, ?_, ?_⟩
 · intro z hz
   cases S with
   |none=> cases hz
   |some y=>
    cases hz
    exact⟨by rw[HX.out];rfl,by rw[Bl.out];rfl,HL.out y rfl⟩
 · intro hz
   cases S with
   |none=> rw[Bl.out];rfl
   |some y=> cases hz
theorem j212(d:Nat)(hd:d<=30)(s:ByteArray)(a:Nat)(w:World)(hs:s.size<=1000000000)(ha:a < s.size)(hc:s[a]=42):
 Calls Tryz.prog 182 #[.string s,.int .i64 a,.int .i64 ((d:Int)+1)] w (j21 w.heap.size w s.size (prs (d+1) s.data.toList a)):=by
 have hR:prs (d+1) s.data.toList a=(numS s.data.toList (a+1) false).map (fun x=>(.mk 2 x.1 [],x.2)):=by rw[y43 (j52 ha hc)];rfl
 rw[hR];have hN:=fun W=> j131 s (a+1) W hs (by omega)
 have hle: ∀x,numS s.data.toList (a+1) false=some x->x.2<=s.size:=fun x h=> by have:=q180 h;simpa using this
 obtain⟨S,hS⟩: ∃S,S=numS s.data.toList (a+1) false:=⟨_,rfl⟩;rw[<-hS] at hN hle⊢;rw[show((a+1:Nat):Int)=(a:Int)+1 by omega] at hN;have HN:=hdq hN;have HL:=hdq hle;clear hR hN hle hS;go_enter Tryz.func182,Tryz.ntmps182;go_wp2_with fail;refine(HN.out _).mono ?_;rintro e w1 ⟨rfl,rfl⟩;obtain⟨x,hx⟩: ∃x,x=(resN S).1:=⟨_,rfl⟩;obtain⟨nx,Gj⟩: ∃nx,nx=(resN S).2:=⟨_,rfl⟩;rw[<-hx,<-Gj];have HX:=hdq hx;have Bl:=hdq Gj;clear hx Gj;go_wp2_with fail;refine(j24 _ 2 x).mono ?_;rintro e w2 ⟨rfl,e2⟩;obtain⟨s0,s1,s2,f0,f1,f2⟩:=own3 e2.newBlk;have hsz:=e2.size_alloc;have hE:=((xr w).alloc (.cells #[.int .i64 0,.int .i64 0,.slice none 0 0] 25)).trans e2;go_wp2_with fail;refine bodyPost_ret (v:= .tuple #[.agg #[.int .i64 2,.int .i64 x,.slice none 0 0],.int .i64 nx]) (by simp[results,Tryz.results182,go_sem,s0,s1,s2]) rfl ⟨.mk 2 x [],_,nx,rfl,From.leaf _ _ _ _,((hE.setCell (by simp) _).setCell (by simp) _).setCell (by simp) _, ?_, ?_⟩
 · intro z hz
   cases S with
   |none=> cases hz
   |some y=>
    cases hz
    exact⟨by rw[HX.out];rfl,by rw[Bl.out];rfl,HL.out y rfl⟩
 · intro hz
   cases S with
   |none=> rw[Bl.out];rfl
   |some y=> cases hz
theorem y213(d:Nat)(hd:d<=30)(s:ByteArray)(a:Nat)(w:World)(hs:s.size<=1000000000)(ha:a < s.size)(hc:s[a]=78):
 Calls Tryz.prog 182 #[.string s,.int .i64 a,.int .i64 ((d:Int)+1)] w (j21 w.heap.size w s.size (prs (d+1) s.data.toList a)):=by
 have HR:=hdq (show prs (d+1) s.data.toList a=some (.mk 6 0 [],a+1) from by rw[y43 (j52 ha hc)];rfl);generalize prs (d+1) s.data.toList a=R at HR⊢;go_enter Tryz.func182,Tryz.ntmps182;go_wp2_with fail;refine(j24 _ 6 0).mono ?_;rintro e w2 ⟨rfl,e2⟩;obtain⟨s0,s1,s2,f0,f1,f2⟩:=own3 e2.newBlk;have hsz:=e2.size_alloc;have hE:=((xr w).alloc (.cells #[.int .i64 0,.int .i64 0,.slice none 0 0] 25)).trans e2;go_wp2_with fail;refine bodyPost_ret (v:= .tuple #[.agg #[.int .i64 6,.int .i64 0,.slice none 0 0],.int .i64 ((a:Int)+1)]) (by simp[results,Tryz.results182,go_sem,s0,s1,s2]) rfl ⟨.mk 6 0 [],_,_,rfl,From.leaf _ _ _ _,((hE.setCell (by simp) _).setCell (by simp) _).setCell (by simp) _, ?_, ?_⟩
 · intro z hz
   rw[HR.out] at hz;cases hz
   exact⟨rfl,by simp,ha⟩
 · intro hz
   rw[HR.out] at hz;cases hz
theorem y218(d:Nat)(hd:d<=30)(s:ByteArray)(a:Nat)(w:World)(hs:s.size<=1000000000)(ha:a < s.size)(hc:s[a]=48):
 Calls Tryz.prog 182 #[.string s,.int .i64 a,.int .i64 ((d:Int)+1)] w (j21 w.heap.size w s.size (prs (d+1) s.data.toList a)):=by
 have HR:=hdq (show prs (d+1) s.data.toList a=some (.mk 7 0 [],a+1) from by rw[y43 (j52 ha hc)];rfl);generalize prs (d+1) s.data.toList a=R at HR⊢;go_enter Tryz.func182,Tryz.ntmps182;go_wp2_with fail;refine(j24 _ 7 0).mono ?_;rintro e w2 ⟨rfl,e2⟩;obtain⟨s0,s1,s2,f0,f1,f2⟩:=own3 e2.newBlk;have hsz:=e2.size_alloc;have hE:=((xr w).alloc (.cells #[.int .i64 0,.int .i64 0,.slice none 0 0] 25)).trans e2;go_wp2_with fail;refine bodyPost_ret (v:= .tuple #[.agg #[.int .i64 7,.int .i64 0,.slice none 0 0],.int .i64 ((a:Int)+1)]) (by simp[results,Tryz.results182,go_sem,s0,s1,s2]) rfl ⟨.mk 7 0 [],_,_,rfl,From.leaf _ _ _ _,((hE.setCell (by simp) _).setCell (by simp) _).setCell (by simp) _, ?_, ?_⟩
 · intro z hz
   rw[HR.out] at hz;cases hz
   exact⟨rfl,by simp,ha⟩
 · intro hz
   rw[HR.out] at hz;cases hz
theorem j21.on{B:Nat}{w:World}{size:Nat}{o:Option (Tr×Nat)}{e:Ending}{w':World}(h:j21 B w size o e w'): ∃(t:Tr) (k n:Int) (A:Option Addr) (l c:Nat) (nx:Int),e= .returned (.tuple #[.agg #[.int .i64 k,.int .i64 n,.slice A l c],.int .i64 nx])/\From B w' t (.agg #[.int .i64 k,.int .i64 n,.slice A l c])/\Ext w w'/\Hid ((∀x,o=some x->t=x.1/\nx=x.2/\x.2<=size)/\(o=none->nx= -1)):=by
 obtain⟨t,u,nx,rfl,hF,e1,q⟩:=h;obtain⟨k,n,A,l,c,rfl⟩:=hF.three;exact⟨t,k,n,A,l,c,nx,rfl,hF,e1,hdq q⟩
theorem rnd40(d:Nat)(ih:j30 d)(s:ByteArray)(a:Nat)(w:World)(hs:s.size<=1000000000)(ha:a < s.size):
 Calls Tryz.prog 201 #[.string s,.int .i64 ((a:Int)+1),.int .i64 d] w (j21 w.heap.size w s.size (rnd (prs d s.data.toList) s.data.toList (a+1))):=by
 have:=q181 d ih s (a+1) w hs ha
 rwa [show((a+1:Nat):Int)=(a:Int)+1 by omega] at this
theorem q204(d:Nat)(hd:d<=30)(ih:j30 d)(s:ByteArray)(a:Nat)(w:World)(hs:s.size<=1000000000)(ha:a < s.size)(hc:s[a]=43):
 Calls Tryz.prog 182 #[.string s,.int .i64 a,.int .i64 ((d:Int)+1)] w (j21 w.heap.size w s.size (prs (d+1) s.data.toList a)):=by
 have HI:=hdq (fun W=> y194 d ih s a W hs ha hc hd);have hR:=y43 (d:=d) (j52 ha hc);rw[hR];clear hR
 repeat rw[if_neg (by decide)]
 try rw[if_pos rfl]
 clear ih;go_enter Tryz.func182,Tryz.ntmps182;go_wp2_with fail;refine(HI.out _).mono ?_;intro e w1 hq;obtain⟨t,k1,n1,A1,l1,c1,nx,rfl,hF,e1,HQ⟩:=hq.on;obtain⟨s0,s1,s2,f0,f1,f2⟩:=own3 e1.newBlk;have hsz:=e1.size_alloc;have hE:=((xr w).alloc (.cells #[.int .i64 0,.int .i64 0,.slice none 0 0] 25)).trans e1;have hF':From (w.heap.size+1) w1 t (.agg #[.int .i64 k1,.int .i64 n1,.slice A1 l1 c1]):=by simpa using hF
 clear hq hF;go_wp2_with fail;exact bodyPost_ret (v:= .tuple #[.agg #[.int .i64 k1,.int .i64 n1,.slice A1 l1 c1],.int .i64 nx]) (by simp[results,Tryz.results182,go_sem,s0,s1,s2]) rfl ⟨t,_,nx,rfl,(((hF'.set (by simp) _).set (by simp) _).set (by simp) _).since (by omega),((hE.setCell (by simp) _).setCell (by simp) _).setCell (by simp) _,HQ.out.1,HQ.out.2⟩
theorem q218(d:Nat)(hd:d<=30)(ih:j30 d)(s:ByteArray)(a:Nat)(w:World)(hs:s.size<=1000000000)(ha:a < s.size)(hc:s[a]=33):
 Calls Tryz.prog 182 #[.string s,.int .i64 a,.int .i64 ((d:Int)+1)] w (j21 w.heap.size w s.size (prs (d+1) s.data.toList a)):=by
 have HI:=hdq (fun W=> y180 d ih s a W hs ha hc hd);have hR:=y43 (d:=d) (j52 ha hc);rw[hR];clear hR
 repeat rw[if_neg (by decide)]
 try rw[if_pos rfl]
 clear ih;go_enter Tryz.func182,Tryz.ntmps182;go_wp2_with fail;refine(HI.out _).mono ?_;intro e w1 hq;obtain⟨t,k1,n1,A1,l1,c1,nx,rfl,hF,e1,HQ⟩:=hq.on;obtain⟨s0,s1,s2,f0,f1,f2⟩:=own3 e1.newBlk;have hsz:=e1.size_alloc;have hE:=((xr w).alloc (.cells #[.int .i64 0,.int .i64 0,.slice none 0 0] 25)).trans e1;have hF':From (w.heap.size+1) w1 t (.agg #[.int .i64 k1,.int .i64 n1,.slice A1 l1 c1]):=by simpa using hF
 clear hq hF;go_wp2_with fail;exact bodyPost_ret (v:= .tuple #[.agg #[.int .i64 k1,.int .i64 n1,.slice A1 l1 c1],.int .i64 nx]) (by simp[results,Tryz.results182,go_sem,s0,s1,s2]) rfl ⟨t,_,nx,rfl,(((hF'.set (by simp) _).set (by simp) _).set (by simp) _).since (by omega),((hE.setCell (by simp) _).setCell (by simp) _).setCell (by simp) _,HQ.out.1,HQ.out.2⟩
theorem y222(d:Nat)(hd:d<=30)(ih:j30 d)(s:ByteArray)(a:Nat)(w:World)(hs:s.size<=1000000000)(ha:a < s.size)(hc:s[a]=94):
 Calls Tryz.prog 182 #[.string s,.int .i64 a,.int .i64 ((d:Int)+1)] w (j21 w.heap.size w s.size (prs (d+1) s.data.toList a)):=by
 have HI:=hdq (fun W=> y184 d ih s a W hs ha hc hd);have hR:=y43 (d:=d) (j52 ha hc);rw[hR];clear hR
 repeat rw[if_neg (by decide)]
 try rw[if_pos rfl]
 clear ih;go_enter Tryz.func182,Tryz.ntmps182;go_wp2_with fail;refine(HI.out _).mono ?_;intro e w1 hq;obtain⟨t,k1,n1,A1,l1,c1,nx,rfl,hF,e1,HQ⟩:=hq.on;obtain⟨s0,s1,s2,f0,f1,f2⟩:=own3 e1.newBlk;have hsz:=e1.size_alloc;have hE:=((xr w).alloc (.cells #[.int .i64 0,.int .i64 0,.slice none 0 0] 25)).trans e1;have hF':From (w.heap.size+1) w1 t (.agg #[.int .i64 k1,.int .i64 n1,.slice A1 l1 c1]):=by simpa using hF
 clear hq hF;go_wp2_with fail;exact bodyPost_ret (v:= .tuple #[.agg #[.int .i64 k1,.int .i64 n1,.slice A1 l1 c1],.int .i64 nx]) (by simp[results,Tryz.results182,go_sem,s0,s1,s2]) rfl ⟨t,_,nx,rfl,(((hF'.set (by simp) _).set (by simp) _).set (by simp) _).since (by omega),((hE.setCell (by simp) _).setCell (by simp) _).setCell (by simp) _,HQ.out.1,HQ.out.2⟩
theorem j215(d:Nat)(hd:d<=30)(ih:j30 d)(s:ByteArray)(a:Nat)(w:World)(hs:s.size<=1000000000)(ha:a < s.size)(hc:s[a]=95):
 Calls Tryz.prog 182 #[.string s,.int .i64 a,.int .i64 ((d:Int)+1)] w (j21 w.heap.size w s.size (prs (d+1) s.data.toList a)):=by
 have HI:=hdq (fun W=> y169 d ih s a W hs ha hc hd);have hR:=y43 (d:=d) (j52 ha hc);rw[hR];clear hR
 repeat rw[if_neg (by decide)]
 try rw[if_pos rfl]
 clear ih;go_enter Tryz.func182,Tryz.ntmps182;go_wp2_with fail;refine(HI.out _).mono ?_;intro e w1 hq;obtain⟨t,k1,n1,A1,l1,c1,nx,rfl,hF,e1,HQ⟩:=hq.on;obtain⟨s0,s1,s2,f0,f1,f2⟩:=own3 e1.newBlk;have hsz:=e1.size_alloc;have hE:=((xr w).alloc (.cells #[.int .i64 0,.int .i64 0,.slice none 0 0] 25)).trans e1;have hF':From (w.heap.size+1) w1 t (.agg #[.int .i64 k1,.int .i64 n1,.slice A1 l1 c1]):=by simpa using hF
 clear hq hF;go_wp2_with fail;exact bodyPost_ret (v:= .tuple #[.agg #[.int .i64 k1,.int .i64 n1,.slice A1 l1 c1],.int .i64 nx]) (by simp[results,Tryz.results182,go_sem,s0,s1,s2]) rfl ⟨t,_,nx,rfl,(((hF'.set (by simp) _).set (by simp) _).set (by simp) _).since (by omega),((hE.setCell (by simp) _).setCell (by simp) _).setCell (by simp) _,HQ.out.1,HQ.out.2⟩
theorem q205(d:Nat)(hd:d<=30)(ih:j30 d)(s:ByteArray)(a:Nat)(w:World)(hs:s.size<=1000000000)(ha:a < s.size)(hc:s[a]=60):
 Calls Tryz.prog 182 #[.string s,.int .i64 a,.int .i64 ((d:Int)+1)] w (j21 w.heap.size w s.size (prs (d+1) s.data.toList a)):=by
 have HI:=hdq (fun W=> q217 d hd ih s a W hs ha hc);have hR:=y43 (d:=d) (j52 ha hc);rw[hR];clear hR
 repeat rw[if_neg (by decide)]
 try rw[if_pos rfl]
 clear ih;go_enter Tryz.func182,Tryz.ntmps182;go_wp2_with fail;refine(HI.out _).mono ?_;intro e w1 hq;obtain⟨t,k1,n1,A1,l1,c1,nx,rfl,hF,e1,HQ⟩:=hq.on;obtain⟨s0,s1,s2,f0,f1,f2⟩:=own3 e1.newBlk;have hsz:=e1.size_alloc;have hE:=((xr w).alloc (.cells #[.int .i64 0,.int .i64 0,.slice none 0 0] 25)).trans e1;have hF':From (w.heap.size+1) w1 t (.agg #[.int .i64 k1,.int .i64 n1,.slice A1 l1 c1]):=by simpa using hF
 clear hq hF;go_wp2_with fail;exact bodyPost_ret (v:= .tuple #[.agg #[.int .i64 k1,.int .i64 n1,.slice A1 l1 c1],.int .i64 nx]) (by simp[results,Tryz.results182,go_sem,s0,s1,s2]) rfl ⟨t,_,nx,rfl,(((hF'.set (by simp) _).set (by simp) _).set (by simp) _).since (by omega),((hE.setCell (by simp) _).setCell (by simp) _).setCell (by simp) _,HQ.out.1,HQ.out.2⟩
theorem y196(d:Nat)(hd:d<=30)(ih:j30 d)(s:ByteArray)(a:Nat)(w:World)(hs:s.size<=1000000000)(ha:a < s.size)(hc:s[a]=123):
 Calls Tryz.prog 182 #[.string s,.int .i64 a,.int .i64 ((d:Int)+1)] w (j21 w.heap.size w s.size (prs (d+1) s.data.toList a)):=by
 have HI:=hdq (fun W=> q182 d hd ih s a W hs ha hc);have hR:=y43 (d:=d) (j52 ha hc);rw[hR];clear hR
 repeat rw[if_neg (by decide)]
 try rw[if_pos rfl]
 clear ih;go_enter Tryz.func182,Tryz.ntmps182;go_wp2_with fail;refine(HI.out _).mono ?_;intro e w1 hq;obtain⟨t,k1,n1,A1,l1,c1,nx,rfl,hF,e1,HQ⟩:=hq.on;obtain⟨s0,s1,s2,f0,f1,f2⟩:=own3 e1.newBlk;have hsz:=e1.size_alloc;have hE:=((xr w).alloc (.cells #[.int .i64 0,.int .i64 0,.slice none 0 0] 25)).trans e1;have hF':From (w.heap.size+1) w1 t (.agg #[.int .i64 k1,.int .i64 n1,.slice A1 l1 c1]):=by simpa using hF
 clear hq hF;go_wp2_with fail;exact bodyPost_ret (v:= .tuple #[.agg #[.int .i64 k1,.int .i64 n1,.slice A1 l1 c1],.int .i64 nx]) (by simp[results,Tryz.results182,go_sem,s0,s1,s2]) rfl ⟨t,_,nx,rfl,(((hF'.set (by simp) _).set (by simp) _).set (by simp) _).since (by omega),((hE.setCell (by simp) _).setCell (by simp) _).setCell (by simp) _,HQ.out.1,HQ.out.2⟩
theorem j173(d:Nat)(hd:d<=30)(ih:j30 d)(s:ByteArray)(a:Nat)(w:World)(hs:s.size<=1000000000)(ha:a < s.size)(hc:s[a]=124):
 Calls Tryz.prog 182 #[.string s,.int .i64 a,.int .i64 ((d:Int)+1)] w (j21 w.heap.size w s.size (prs (d+1) s.data.toList a)):=by
 have HI:=hdq (fun W=> q198 d hd ih s a W hs ha hc);have hR:=y43 (d:=d) (j52 ha hc);rw[hR];clear hR
 repeat rw[if_neg (by decide)]
 try rw[if_pos rfl]
 clear ih;go_enter Tryz.func182,Tryz.ntmps182;go_wp2_with fail;refine(HI.out _).mono ?_;intro e w1 hq;obtain⟨t,k1,n1,A1,l1,c1,nx,rfl,hF,e1,HQ⟩:=hq.on;obtain⟨s0,s1,s2,f0,f1,f2⟩:=own3 e1.newBlk;have hsz:=e1.size_alloc;have hE:=((xr w).alloc (.cells #[.int .i64 0,.int .i64 0,.slice none 0 0] 25)).trans e1;have hF':From (w.heap.size+1) w1 t (.agg #[.int .i64 k1,.int .i64 n1,.slice A1 l1 c1]):=by simpa using hF
 clear hq hF;go_wp2_with fail;exact bodyPost_ret (v:= .tuple #[.agg #[.int .i64 k1,.int .i64 n1,.slice A1 l1 c1],.int .i64 nx]) (by simp[results,Tryz.results182,go_sem,s0,s1,s2]) rfl ⟨t,_,nx,rfl,(((hF'.set (by simp) _).set (by simp) _).set (by simp) _).since (by omega),((hE.setCell (by simp) _).setCell (by simp) _).setCell (by simp) _,HQ.out.1,HQ.out.2⟩
theorem q220(d:Nat)(hd:d<=30)(ih:j30 d)(s:ByteArray)(a:Nat)(w:World)(hs:s.size<=1000000000)(ha:a < s.size)(hc:s[a]=64):
 Calls Tryz.prog 182 #[.string s,.int .i64 a,.int .i64 ((d:Int)+1)] w (j21 w.heap.size w s.size (prs (d+1) s.data.toList a)):=by
 have HI:=hdq (fun W=> q206 d hd ih s a W hs ha hc);have hR:=y43 (d:=d) (j52 ha hc);rw[hR];clear hR
 repeat rw[if_neg (by decide)]
 try rw[if_pos rfl]
 clear ih;go_enter Tryz.func182,Tryz.ntmps182;go_wp2_with fail;refine(HI.out _).mono ?_;intro e w1 hq;obtain⟨t,k1,n1,A1,l1,c1,nx,rfl,hF,e1,HQ⟩:=hq.on;obtain⟨s0,s1,s2,f0,f1,f2⟩:=own3 e1.newBlk;have hsz:=e1.size_alloc;have hE:=((xr w).alloc (.cells #[.int .i64 0,.int .i64 0,.slice none 0 0] 25)).trans e1;have hF':From (w.heap.size+1) w1 t (.agg #[.int .i64 k1,.int .i64 n1,.slice A1 l1 c1]):=by simpa using hF
 clear hq hF;go_wp2_with fail;exact bodyPost_ret (v:= .tuple #[.agg #[.int .i64 k1,.int .i64 n1,.slice A1 l1 c1],.int .i64 nx]) (by simp[results,Tryz.results182,go_sem,s0,s1,s2]) rfl ⟨t,_,nx,rfl,(((hF'.set (by simp) _).set (by simp) _).set (by simp) _).since (by omega),((hE.setCell (by simp) _).setCell (by simp) _).setCell (by simp) _,HQ.out.1,HQ.out.2⟩
theorem q213(d:Nat)(hd:d<=30)(ih:j30 d)(s:ByteArray)(a:Nat)(w:World)(hs:s.size<=1000000000)(ha:a < s.size)(hc:s[a]=40):
 Calls Tryz.prog 182 #[.string s,.int .i64 a,.int .i64 ((d:Int)+1)] w (j21 w.heap.size w s.size (prs (d+1) s.data.toList a)):=by
 have HI:=hdq (fun W=> rnd40 d ih s a W hs ha);have hR:=y43 (d:=d) (j52 ha hc);rw[hR];clear hR
 repeat rw[if_neg (by decide)]
 try rw[if_pos rfl]
 clear ih;go_enter Tryz.func182,Tryz.ntmps182;go_wp2_with fail;refine(HI.out _).mono ?_;intro e w1 hq;obtain⟨t,k1,n1,A1,l1,c1,nx,rfl,hF,e1,HQ⟩:=hq.on;obtain⟨s0,s1,s2,f0,f1,f2⟩:=own3 e1.newBlk;have hsz:=e1.size_alloc;have hE:=((xr w).alloc (.cells #[.int .i64 0,.int .i64 0,.slice none 0 0] 25)).trans e1;have hF':From (w.heap.size+1) w1 t (.agg #[.int .i64 k1,.int .i64 n1,.slice A1 l1 c1]):=by simpa using hF
 clear hq hF;go_wp2_with fail;exact bodyPost_ret (v:= .tuple #[.agg #[.int .i64 k1,.int .i64 n1,.slice A1 l1 c1],.int .i64 nx]) (by simp[results,Tryz.results182,go_sem,s0,s1,s2]) rfl ⟨t,_,nx,rfl,(((hF'.set (by simp) _).set (by simp) _).set (by simp) _).since (by omega),((hE.setCell (by simp) _).setCell (by simp) _).setCell (by simp) _,HQ.out.1,HQ.out.2⟩
def EG(x y:World×List Nat):Prop:=Ext x.1 y.1/\(∀g,g∈x.2->g∈y.2)/\(∀g,g∈y.2->g∈x.2\/x.1.heap.size<=g)/\ ∀g,g∈y.2->g < y.1.heap.size
theorem EG.start(w:World):EG (w, []) (w, []):=⟨xr _,fun _ h=> h,fun g h=> .inl h,fun g h=> by cases h⟩
theorem EG.trans{x y z:World×List Nat}(h:EG x y)(k:EG y z):EG x z:=by
 refine⟨h.1.trans k.1,fun g hg=> k.2.1 g (h.2.1 g hg),fun g hg=> ?_,k.2.2.2⟩;rcases k.2.2.1 g hg with e|e
 · exact h.2.2.1 g e
 · exact .inr (Nat.le_trans h.1.size e)
theorem eSq{x:World×List Nat}{w w':World}{z:List Nat}(h:EG x (w,z))(e:Ext w w'):EG (w,z) (w',z):=
 ⟨e,fun _ h=> h,fun _ h=> .inl h,fun g hg=> Nat.lt_of_lt_of_le (h.2.2.2 g hg) e.size⟩
theorem EG.id{x:World×List Nat}{w:World}{z:List Nat}(h:EG x (w,z)):EG (w,z) (w,z):=eSq h (xr _)
theorem EG.box{x:World×List Nat}{w:World}{o:Obj}{z:List Nat}(h:EG x (w,z)):EG (w,z) (w.alloc o,w.heap.size::z):=by
 refine⟨(xr _).alloc _,fun _ h=> List.mem_cons_of_mem _ h,fun g hg=> ?_,fun g hg=> ?_⟩
 · rcases List.mem_cons.1 hg with rfl|hg
   · exact .inr (Nat.le_refl _)
   · exact .inl hg
 · have:(w.alloc o).heap.size=w.heap.size+1:=by simp
   rcases List.mem_cons.1 hg with rfl|hg
   · show w.heap.size <(w.alloc o).heap.size;omega
   · have:=h.2.2.2 g hg;show g <(w.alloc o).heap.size;simp only at this;omega
def Mz(M:Nat->Prop)(z:List Nat)(b:Nat):Prop:=M b/\ ¬b∈z
theorem Mz.later{M:Nat->Prop}{x y:World×List Nat}(h:EG x y){b:Nat}(hb:Mz M x.2 b/\b < x.1.heap.size):Mz M y.2 b:=by
 refine⟨hb.1.1,fun e=> ?_⟩;rcases h.2.2.1 b e with f|f
 · exact hb.1.2 f
 · have:=hb.2
   omega
theorem InT.laterG{M:Nat->Prop}{x y:World×List Nat}{t:Tr}{v:Value}(h:InT x.1 (Mz M x.2) t v)(e:EG x y):InT y.1 (Mz M y.2) t v:=
 InT.mono (fun b hb=> Mz.later e hb) (fun _ _=> rfl) (h.bound.later e.1)
theorem InK.laterG{M:Nat->Prop}{x y:World×List Nat}{A:Option Addr}{ks:List Tr}(h:InK x.1 (Mz M x.2) A ks)(e:EG x y):InK y.1 (Mz M y.2) A ks:=
 InK.mono (fun b hb=> Mz.later e hb) (fun _ _=> rfl) (h.bound.later e.1)
theorem InT.oldG{M:Nat->Prop}{W w:World}{z:List Nat}{t:Tr}{v:Value}(h:InT W M t v)(e:EG (W.drew, []) (w,z)):InT w (Mz M z) t v:=
 InT.laterG (x:=(W.drew, [])) (y:=(w,z)) (InT.mono (fun b hb=>⟨hb,fun h=> by cases h⟩) (fun _ _=> rfl) (InT.later h (xr W).drew)) e
theorem EG.news{M:Nat->Prop}{x:World×List Nat}{w:World}{z:List Nat}(h:EG x (w,z))(hM: ∀b,w.heap.size<=b->M b): ∀b,w.heap.size<=b->Mz M z b:=
 fun b hb=>⟨hM b hb,fun e=> by have:=h.2.2.2 b e;simp only at this;omega⟩
theorem step_if{P:Program}{ops:Array Oper}{Q:Exit->Act->World->Prop}{i j:Nat}{o:Oper}{a:Act}{w:World}{R:Act->World->Prop}{y b:Bool}{d:Nat}(ho:ops[i]? =some o)(hg:o.guard=some (j,y))(hj:Ord.dstOf ops j=some d)(hv:a.eval (.tmp d)= .bool b)
 (h1:b=y-> ∀K:Act->World->Prop,(∀a' w',R a' w'->K a' w')->o.wp P a w K Q) (h2: ¬b=y->R (a.put o.dst undef) w):wpOp P ops Q i R a w:=by
 have hs:a.tmps[d]? =some (.bool b):=by
  rw[show a.eval (.tmp d)=a.tmps.getD d undef from rfl,Array.getD_eq_getD_getElem?] at hv;cases h:a.tmps[d]?with
  |none=> rw[h] at hv;cases hv
  |some x=> rw[h] at hv;simp only[Option.getD_some] at hv;rw[hv]
 have hy:yielded ops a.tmps j=some b:=by
  unfold yielded;rw[show((ops[j]?).bind fun x=> x.dst)=some d from hj];simp only[Option.bind_some,hs]
 unfold wpOp;rw[ho];simp only;unfold Region.wanted;rw[hg];simp only[hy];by_cases e:b=y
 · rw[if_pos (by simp[e])]
   exact .inl (h1 e R fun _ _ h=> h)
 · rw[if_neg (by simpa using e)]
   exact h2 e
def Sp.holdsG:Sp->Value->World×List Nat->Prop
 | .any,_,_=> True
 | .val u,v,_=> v=u
 | .tree M t,v,x=> InT x.1 (Mz M x.2) t v
 | .row M ts,v,x=> ∃A c,v= .slice A ts.length c/\ts.length<=c/\c<=maxLen/\InK x.1 (Mz M x.2) A ts
 | .two M t c,v,x=> ∃u,v= .tuple #[u,c]/\InT x.1 (Mz M x.2) t u
 | .box W,v,x=> ∃g,v= .pointer (some ⟨g,0,none⟩)/\g∈x.2/\BoxAt W x.1 g
theorem Sp.extG: ∀{s:Sp} {v:Value} {x y:World×List Nat},s.holdsG v x->EG x y->s.holdsG v y
 | .any,_,_,_,_,_=> trivial
 | .val u,_,_,_,h,_=> h
 | .tree M t,_,_,_,h,e=> InT.laterG h e
 | .row M ts,_,_,_,h,e=> by
  obtain⟨A,c,h1,h2,h3,h4⟩:=h;exact⟨A,c,h1,h2,h3,InK.laterG h4 e⟩
 | .two M t c,_,_,_,h,e=> by
  obtain⟨u,h1,h2⟩:=h;exact⟨u,h1,InT.laterG h2 e⟩
 | .box W,_,_,_,h,e=> by
  obtain⟨g,h1,hz,h2,h3⟩:=h;exact⟨g,h1,e.2.1 g hz,h2,e.1.blk h3⟩
def spGG(l:List Sp)(i:Nat)(v:Value)(x:World×List Nat):Prop:=(l.getD i .any).holdsG v x
theorem j154(l:List Sp): ∀i v x y,spGG l i v x->EG x y->spGG l i v y:=fun i v x y h e=> Sp.extG h e
theorem ordG{P:Program}{ops:Array Oper}{Q:Exit->Act->World->Prop}{l0:Array Bool}{a0:Act}{fuel:Nat}(W:World)(m N:Nat)(lT:Array Bool)(fT:Nat)(l:List Sp)(S6:Ord.okO ops l0 m N=true)(hN:a0.tmps.size=N)(hf:fuel=Ord.opnO l0 ops.size)(Ci:Ord.doneO l0 m=lT)(Cp:Ord.opnO lT ops.size=fT)
 (steps:OrdG.StepsO P ops Q l0 m EG (spGG l) a0 (W.drew, []) 0 (ops.toList.take m))
 (fin: ∀(v:Nat->Value) w z,EG (W.drew, []) (w,z)->(∀j,j < m->Ord.isOn l0 j=false->spGG l j (v j) (w,z))->wpAnyH P .any ops Q (fun _=> True) fT lT (Ord.putN ops v (fun j=> !Ord.isOn l0 j) a0 m) w):
 wpAnyH P .any ops Q (fun _=> True) fuel l0 a0 W.drew:=
 OrdG.wpAnyH_order (w0:=(W.drew, [])) S6 hN hf Ci Cp (EG.start _) (fun _ _ _ h h'=> h.trans h') (j154 _) (fun _ _ _=> trivial) steps fin
end Go.Proofs.YtbnkbepgmenblaaGreat
