/-
  Lemmas towards the law, 20: Parse5, Places, Sub1, OrdGT.
-/
import Derived.Test.YtbnkbepgmenblaaGreatDoorFAS
import Derived.Lib.SliceRun
set_option linter.unusedVariables false
set_option maxHeartbeats 1000000
set_option maxRecDepth 100000
namespace Go.Proofs.YtbnkbepgmenblaaGreatDoor
open Go.RowKit
theorem j34{d:Nat}{l:List UInt8}{a:Nat}{c:UInt8}(h:l[a]? =some c):prs (d+1) l a=
 (if c=35 then(numS l (a+1) true).map (fun x=>(.mk 1 x.1 [],x.2))
 else if c=42 then(numS l (a+1) false).map (fun x=>(.mk 2 x.1 [],x.2))
 else if c=78 then some (.mk 6 0 [],a+1)
 else if c=48 then some (.mk 7 0 [],a+1)
 else if c=43 then one 8 (prs d l (a+1))
 else if c=33 then one 11 (prs d l (a+1))
 else if c=94 then one 15 (prs d l (a+1))
 else if c=95 then one 16 (prs d l (a+1))
 else if c=40 then rnd (prs d l) l (a+1)
 else if c=91 then sqr (prs d l) l (a+1)
 else blk (prs d l) l a c):=by
 conv=> lhs;unfold prs
 rw[h]
theorem j146{d:Nat}{l:List UInt8}{a:Nat}(h:l[a]? =none):prs d l a=none:=by
 cases d with
 |zero=> rfl
 |succ d=>
  unfold prs;rw[h]
theorem q165{l:List UInt8}{a:Nat}{two:Bool}{x:Int×Nat}(h:numS l a two=some x):x.2<=l.length:=by
 unfold numS at h;cases h0:l[a]?with
 |none=> rw[h0] at h;cases h
 |some c=>
  have ha:a < l.length:=by
   rcases Nat.lt_or_ge a l.length with g|g
   · exact g
   · rw[List.getElem?_eq_none g] at h0;cases h0
  rw[h0] at h;simp only at h
  split at h
  · split at h
    · cases h1:l[a+1]?with
      |none=> rw[h1] at h;cases h;exact ha
      |some d=>
       have hb:a+1 < l.length:=by
        rcases Nat.lt_or_ge (a+1) l.length with g|g
        · exact g
        · rw[List.getElem?_eq_none g] at h1;cases h1
       rw[h1] at h;simp only at h
       split at h
       · split at h
         · cases h
         · cases h;exact hb
       · cases h;exact ha
    · cases h;exact ha
  · cases h
theorem y201(d:Nat)(hd:d<=30)(s:ByteArray)(a:Nat)(w:World)(hs:s.size<=1000000000)(ha:a < s.size)(hc:s[a]=35):
 Calls Tryz.prog 29 #[.string s,.int .i64 a,.int .i64 ((d:Int)+1)] w (y19 w.heap.size w s.size (prs (d+1) s.data.toList a)):=by
 have hR:prs (d+1) s.data.toList a=(numS s.data.toList (a+1) true).map (fun x=>(.mk 1 x.1 [],x.2)):=by rw[j34 (j41 ha hc)];rfl
 rw[hR];have hN:=fun W=> q132 s (a+1) W hs (by omega)
 have hle: ∀x,numS s.data.toList (a+1) true=some x->x.2<=s.size:=fun x h=> by have:=q165 h;simpa using this
 obtain⟨S,hS⟩: ∃S,S=numS s.data.toList (a+1) true:=⟨_,rfl⟩;rw[<-hS] at hN hle⊢;rw[show((a+1:Nat):Int)=(a:Int)+1 by omega] at hN;have HN:=hdq hN;have HL:=hdq hle;clear hR hN hle hS;go_enter Tryz.func29,Tryz.ntmps29;go_wp2_with fail;refine(HN.out _).mono ?_;rintro e w1 ⟨rfl,rfl⟩;obtain⟨x,hx⟩: ∃x,x=(resN S).1:=⟨_,rfl⟩;obtain⟨nx,un⟩: ∃nx,nx=(resN S).2:=⟨_,rfl⟩;rw[<-hx,<-un];have HX:=hdq hx;have Fh:=hdq un;clear hx un;go_wp2_with fail;refine(y59 _ 1 x).mono ?_;rintro e w2 ⟨rfl,e2⟩;obtain⟨s0,s1,s2,f0,f1,f2⟩:=own3 e2.newBlk;have hsz:=e2.size_alloc;have hE:=((xr w).alloc (.cells #[.int .i64 0,.int .i64 0,.slice none 0 0] 26)).trans e2;go_wp2_with fail;refine bodyPost_ret (v:= .tuple #[.agg #[.int .i64 1,.int .i64 x,.slice none 0 0],.int .i64 nx]) (by simp[results,Tryz.results29,go_sem,s0,s1,s2]) rfl ⟨.mk 1 x [],_,nx,rfl,From.leaf _ _ _ _,((hE.setCell (by simp) _).setCell (by simp) _).setCell (by simp) _, ?_, ?_⟩
 · intro z hz
   cases S with
   |none=> cases hz
   |some y=>
    cases hz
    exact⟨by rw[HX.out];rfl,by rw[Fh.out];rfl,HL.out y rfl⟩
 · intro hz
   cases S with
   |none=> rw[Fh.out];rfl
   |some y=> cases hz
theorem j200(d:Nat)(hd:d<=30)(s:ByteArray)(a:Nat)(w:World)(hs:s.size<=1000000000)(ha:a < s.size)(hc:s[a]=42):
 Calls Tryz.prog 29 #[.string s,.int .i64 a,.int .i64 ((d:Int)+1)] w (y19 w.heap.size w s.size (prs (d+1) s.data.toList a)):=by
 have hR:prs (d+1) s.data.toList a=(numS s.data.toList (a+1) false).map (fun x=>(.mk 2 x.1 [],x.2)):=by rw[j34 (j41 ha hc)];rfl
 rw[hR];have hN:=fun W=> j129 s (a+1) W hs (by omega)
 have hle: ∀x,numS s.data.toList (a+1) false=some x->x.2<=s.size:=fun x h=> by have:=q165 h;simpa using this
 obtain⟨S,hS⟩: ∃S,S=numS s.data.toList (a+1) false:=⟨_,rfl⟩;rw[<-hS] at hN hle⊢;rw[show((a+1:Nat):Int)=(a:Int)+1 by omega] at hN;have HN:=hdq hN;have HL:=hdq hle;clear hR hN hle hS;go_enter Tryz.func29,Tryz.ntmps29;go_wp2_with fail;refine(HN.out _).mono ?_;rintro e w1 ⟨rfl,rfl⟩;obtain⟨x,hx⟩: ∃x,x=(resN S).1:=⟨_,rfl⟩;obtain⟨nx,un⟩: ∃nx,nx=(resN S).2:=⟨_,rfl⟩;rw[<-hx,<-un];have HX:=hdq hx;have Fh:=hdq un;clear hx un;go_wp2_with fail;refine(y59 _ 2 x).mono ?_;rintro e w2 ⟨rfl,e2⟩;obtain⟨s0,s1,s2,f0,f1,f2⟩:=own3 e2.newBlk;have hsz:=e2.size_alloc;have hE:=((xr w).alloc (.cells #[.int .i64 0,.int .i64 0,.slice none 0 0] 26)).trans e2;go_wp2_with fail;refine bodyPost_ret (v:= .tuple #[.agg #[.int .i64 2,.int .i64 x,.slice none 0 0],.int .i64 nx]) (by simp[results,Tryz.results29,go_sem,s0,s1,s2]) rfl ⟨.mk 2 x [],_,nx,rfl,From.leaf _ _ _ _,((hE.setCell (by simp) _).setCell (by simp) _).setCell (by simp) _, ?_, ?_⟩
 · intro z hz
   cases S with
   |none=> cases hz
   |some y=>
    cases hz
    exact⟨by rw[HX.out];rfl,by rw[Fh.out];rfl,HL.out y rfl⟩
 · intro hz
   cases S with
   |none=> rw[Fh.out];rfl
   |some y=> cases hz
theorem y218(d:Nat)(hd:d<=30)(s:ByteArray)(a:Nat)(w:World)(hs:s.size<=1000000000)(ha:a < s.size)(hc:s[a]=78):
 Calls Tryz.prog 29 #[.string s,.int .i64 a,.int .i64 ((d:Int)+1)] w (y19 w.heap.size w s.size (prs (d+1) s.data.toList a)):=by
 have HR:=hdq (show prs (d+1) s.data.toList a=some (.mk 6 0 [],a+1) from by rw[j34 (j41 ha hc)];rfl);generalize prs (d+1) s.data.toList a=R at HR⊢;go_enter Tryz.func29,Tryz.ntmps29;go_wp2_with fail;refine(y59 _ 6 0).mono ?_;rintro e w2 ⟨rfl,e2⟩;obtain⟨s0,s1,s2,f0,f1,f2⟩:=own3 e2.newBlk;have hsz:=e2.size_alloc;have hE:=((xr w).alloc (.cells #[.int .i64 0,.int .i64 0,.slice none 0 0] 26)).trans e2;go_wp2_with fail;refine bodyPost_ret (v:= .tuple #[.agg #[.int .i64 6,.int .i64 0,.slice none 0 0],.int .i64 ((a:Int)+1)]) (by simp[results,Tryz.results29,go_sem,s0,s1,s2]) rfl ⟨.mk 6 0 [],_,_,rfl,From.leaf _ _ _ _,((hE.setCell (by simp) _).setCell (by simp) _).setCell (by simp) _, ?_, ?_⟩
 · intro z hz
   rw[HR.out] at hz;cases hz
   exact⟨rfl,by simp,ha⟩
 · intro hz
   rw[HR.out] at hz;cases hz
theorem q207(d:Nat)(hd:d<=30)(s:ByteArray)(a:Nat)(w:World)(hs:s.size<=1000000000)(ha:a < s.size)(hc:s[a]=48):
 Calls Tryz.prog 29 #[.string s,.int .i64 a,.int .i64 ((d:Int)+1)] w (y19 w.heap.size w s.size (prs (d+1) s.data.toList a)):=by
 have HR:=hdq (show prs (d+1) s.data.toList a=some (.mk 7 0 [],a+1) from by rw[j34 (j41 ha hc)];rfl);generalize prs (d+1) s.data.toList a=R at HR⊢;go_enter Tryz.func29,Tryz.ntmps29;go_wp2_with fail;refine(y59 _ 7 0).mono ?_;rintro e w2 ⟨rfl,e2⟩;obtain⟨s0,s1,s2,f0,f1,f2⟩:=own3 e2.newBlk;have hsz:=e2.size_alloc;have hE:=((xr w).alloc (.cells #[.int .i64 0,.int .i64 0,.slice none 0 0] 26)).trans e2;go_wp2_with fail;refine bodyPost_ret (v:= .tuple #[.agg #[.int .i64 7,.int .i64 0,.slice none 0 0],.int .i64 ((a:Int)+1)]) (by simp[results,Tryz.results29,go_sem,s0,s1,s2]) rfl ⟨.mk 7 0 [],_,_,rfl,From.leaf _ _ _ _,((hE.setCell (by simp) _).setCell (by simp) _).setCell (by simp) _, ?_, ?_⟩
 · intro z hz
   rw[HR.out] at hz;cases hz
   exact⟨rfl,by simp,ha⟩
 · intro hz
   rw[HR.out] at hz;cases hz
theorem y19.on{B:Nat}{w:World}{size:Nat}{o:Option (Tr×Nat)}{e:Ending}{w':World}(h:y19 B w size o e w'): ∃(t:Tr) (k n:Int) (A:Option Addr) (l c:Nat) (nx:Int),e= .returned (.tuple #[.agg #[.int .i64 k,.int .i64 n,.slice A l c],.int .i64 nx])/\From B w' t (.agg #[.int .i64 k,.int .i64 n,.slice A l c])/\Ext w w'/\Hid ((∀x,o=some x->t=x.1/\nx=x.2/\x.2<=size)/\(o=none->nx= -1)):=by
 obtain⟨t,u,nx,rfl,hF,e1,q⟩:=h;obtain⟨k,n,A,l,c,rfl⟩:=hF.three;exact⟨t,k,n,A,l,c,nx,rfl,hF,e1,hdq q⟩
theorem rnd40(d:Nat)(ih:q25 d)(s:ByteArray)(a:Nat)(w:World)(hs:s.size<=1000000000)(ha:a < s.size):
 Calls Tryz.prog 59 #[.string s,.int .i64 ((a:Int)+1),.int .i64 d] w (y19 w.heap.size w s.size (rnd (prs d s.data.toList) s.data.toList (a+1))):=by
 have:=q192 d ih s (a+1) w hs ha
 rwa [show((a+1:Nat):Int)=(a:Int)+1 by omega] at this
theorem y195(d:Nat)(hd:d<=30)(ih:q25 d)(s:ByteArray)(a:Nat)(w:World)(hs:s.size<=1000000000)(ha:a < s.size)(hc:s[a]=43):
 Calls Tryz.prog 29 #[.string s,.int .i64 a,.int .i64 ((d:Int)+1)] w (y19 w.heap.size w s.size (prs (d+1) s.data.toList a)):=by
 have HI:=hdq (fun W=> j187 d ih s a W hs ha hc hd);have hR:=j34 (d:=d) (j41 ha hc);rw[hR];clear hR
 repeat rw[if_neg (by decide)]
 try rw[if_pos rfl]
 clear ih;go_enter Tryz.func29,Tryz.ntmps29;go_wp2_with fail;refine(HI.out _).mono ?_;intro e w1 hq;obtain⟨t,k1,n1,A1,l1,c1,nx,rfl,hF,e1,HQ⟩:=hq.on;obtain⟨s0,s1,s2,f0,f1,f2⟩:=own3 e1.newBlk;have hsz:=e1.size_alloc;have hE:=((xr w).alloc (.cells #[.int .i64 0,.int .i64 0,.slice none 0 0] 26)).trans e1;have hF':From (w.heap.size+1) w1 t (.agg #[.int .i64 k1,.int .i64 n1,.slice A1 l1 c1]):=by simpa using hF
 clear hq hF;go_wp2_with fail;exact bodyPost_ret (v:= .tuple #[.agg #[.int .i64 k1,.int .i64 n1,.slice A1 l1 c1],.int .i64 nx]) (by simp[results,Tryz.results29,go_sem,s0,s1,s2]) rfl ⟨t,_,nx,rfl,(((hF'.set (by simp) _).set (by simp) _).set (by simp) _).since (by omega),((hE.setCell (by simp) _).setCell (by simp) _).setCell (by simp) _,HQ.out.1,HQ.out.2⟩
theorem j198(d:Nat)(hd:d<=30)(ih:q25 d)(s:ByteArray)(a:Nat)(w:World)(hs:s.size<=1000000000)(ha:a < s.size)(hc:s[a]=33):
 Calls Tryz.prog 29 #[.string s,.int .i64 a,.int .i64 ((d:Int)+1)] w (y19 w.heap.size w s.size (prs (d+1) s.data.toList a)):=by
 have HI:=hdq (fun W=> j177 d ih s a W hs ha hc hd);have hR:=j34 (d:=d) (j41 ha hc);rw[hR];clear hR
 repeat rw[if_neg (by decide)]
 try rw[if_pos rfl]
 clear ih;go_enter Tryz.func29,Tryz.ntmps29;go_wp2_with fail;refine(HI.out _).mono ?_;intro e w1 hq;obtain⟨t,k1,n1,A1,l1,c1,nx,rfl,hF,e1,HQ⟩:=hq.on;obtain⟨s0,s1,s2,f0,f1,f2⟩:=own3 e1.newBlk;have hsz:=e1.size_alloc;have hE:=((xr w).alloc (.cells #[.int .i64 0,.int .i64 0,.slice none 0 0] 26)).trans e1;have hF':From (w.heap.size+1) w1 t (.agg #[.int .i64 k1,.int .i64 n1,.slice A1 l1 c1]):=by simpa using hF
 clear hq hF;go_wp2_with fail;exact bodyPost_ret (v:= .tuple #[.agg #[.int .i64 k1,.int .i64 n1,.slice A1 l1 c1],.int .i64 nx]) (by simp[results,Tryz.results29,go_sem,s0,s1,s2]) rfl ⟨t,_,nx,rfl,(((hF'.set (by simp) _).set (by simp) _).set (by simp) _).since (by omega),((hE.setCell (by simp) _).setCell (by simp) _).setCell (by simp) _,HQ.out.1,HQ.out.2⟩
theorem q199(d:Nat)(hd:d<=30)(ih:q25 d)(s:ByteArray)(a:Nat)(w:World)(hs:s.size<=1000000000)(ha:a < s.size)(hc:s[a]=94):
 Calls Tryz.prog 29 #[.string s,.int .i64 a,.int .i64 ((d:Int)+1)] w (y19 w.heap.size w s.size (prs (d+1) s.data.toList a)):=by
 have HI:=hdq (fun W=> j166 d ih s a W hs ha hc hd);have hR:=j34 (d:=d) (j41 ha hc);rw[hR];clear hR
 repeat rw[if_neg (by decide)]
 try rw[if_pos rfl]
 clear ih;go_enter Tryz.func29,Tryz.ntmps29;go_wp2_with fail;refine(HI.out _).mono ?_;intro e w1 hq;obtain⟨t,k1,n1,A1,l1,c1,nx,rfl,hF,e1,HQ⟩:=hq.on;obtain⟨s0,s1,s2,f0,f1,f2⟩:=own3 e1.newBlk;have hsz:=e1.size_alloc;have hE:=((xr w).alloc (.cells #[.int .i64 0,.int .i64 0,.slice none 0 0] 26)).trans e1;have hF':From (w.heap.size+1) w1 t (.agg #[.int .i64 k1,.int .i64 n1,.slice A1 l1 c1]):=by simpa using hF
 clear hq hF;go_wp2_with fail;exact bodyPost_ret (v:= .tuple #[.agg #[.int .i64 k1,.int .i64 n1,.slice A1 l1 c1],.int .i64 nx]) (by simp[results,Tryz.results29,go_sem,s0,s1,s2]) rfl ⟨t,_,nx,rfl,(((hF'.set (by simp) _).set (by simp) _).set (by simp) _).since (by omega),((hE.setCell (by simp) _).setCell (by simp) _).setCell (by simp) _,HQ.out.1,HQ.out.2⟩
theorem q208(d:Nat)(hd:d<=30)(ih:q25 d)(s:ByteArray)(a:Nat)(w:World)(hs:s.size<=1000000000)(ha:a < s.size)(hc:s[a]=95):
 Calls Tryz.prog 29 #[.string s,.int .i64 a,.int .i64 ((d:Int)+1)] w (y19 w.heap.size w s.size (prs (d+1) s.data.toList a)):=by
 have HI:=hdq (fun W=> q187 d ih s a W hs ha hc hd);have hR:=j34 (d:=d) (j41 ha hc);rw[hR];clear hR
 repeat rw[if_neg (by decide)]
 try rw[if_pos rfl]
 clear ih;go_enter Tryz.func29,Tryz.ntmps29;go_wp2_with fail;refine(HI.out _).mono ?_;intro e w1 hq;obtain⟨t,k1,n1,A1,l1,c1,nx,rfl,hF,e1,HQ⟩:=hq.on;obtain⟨s0,s1,s2,f0,f1,f2⟩:=own3 e1.newBlk;have hsz:=e1.size_alloc;have hE:=((xr w).alloc (.cells #[.int .i64 0,.int .i64 0,.slice none 0 0] 26)).trans e1;have hF':From (w.heap.size+1) w1 t (.agg #[.int .i64 k1,.int .i64 n1,.slice A1 l1 c1]):=by simpa using hF
 clear hq hF;go_wp2_with fail;exact bodyPost_ret (v:= .tuple #[.agg #[.int .i64 k1,.int .i64 n1,.slice A1 l1 c1],.int .i64 nx]) (by simp[results,Tryz.results29,go_sem,s0,s1,s2]) rfl ⟨t,_,nx,rfl,(((hF'.set (by simp) _).set (by simp) _).set (by simp) _).since (by omega),((hE.setCell (by simp) _).setCell (by simp) _).setCell (by simp) _,HQ.out.1,HQ.out.2⟩
theorem q215(d:Nat)(hd:d<=30)(ih:q25 d)(s:ByteArray)(a:Nat)(w:World)(hs:s.size<=1000000000)(ha:a < s.size)(hc:s[a]=60):
 Calls Tryz.prog 29 #[.string s,.int .i64 a,.int .i64 ((d:Int)+1)] w (y19 w.heap.size w s.size (prs (d+1) s.data.toList a)):=by
 have HI:=hdq (fun W=> j214 d hd ih s a W hs ha hc);have hR:=j34 (d:=d) (j41 ha hc);rw[hR];clear hR
 repeat rw[if_neg (by decide)]
 try rw[if_pos rfl]
 clear ih;go_enter Tryz.func29,Tryz.ntmps29;go_wp2_with fail;refine(HI.out _).mono ?_;intro e w1 hq;obtain⟨t,k1,n1,A1,l1,c1,nx,rfl,hF,e1,HQ⟩:=hq.on;obtain⟨s0,s1,s2,f0,f1,f2⟩:=own3 e1.newBlk;have hsz:=e1.size_alloc;have hE:=((xr w).alloc (.cells #[.int .i64 0,.int .i64 0,.slice none 0 0] 26)).trans e1;have hF':From (w.heap.size+1) w1 t (.agg #[.int .i64 k1,.int .i64 n1,.slice A1 l1 c1]):=by simpa using hF
 clear hq hF;go_wp2_with fail;exact bodyPost_ret (v:= .tuple #[.agg #[.int .i64 k1,.int .i64 n1,.slice A1 l1 c1],.int .i64 nx]) (by simp[results,Tryz.results29,go_sem,s0,s1,s2]) rfl ⟨t,_,nx,rfl,(((hF'.set (by simp) _).set (by simp) _).set (by simp) _).since (by omega),((hE.setCell (by simp) _).setCell (by simp) _).setCell (by simp) _,HQ.out.1,HQ.out.2⟩
theorem q173(d:Nat)(hd:d<=30)(ih:q25 d)(s:ByteArray)(a:Nat)(w:World)(hs:s.size<=1000000000)(ha:a < s.size)(hc:s[a]=123):
 Calls Tryz.prog 29 #[.string s,.int .i64 a,.int .i64 ((d:Int)+1)] w (y19 w.heap.size w s.size (prs (d+1) s.data.toList a)):=by
 have HI:=hdq (fun W=> q179 d hd ih s a W hs ha hc);have hR:=j34 (d:=d) (j41 ha hc);rw[hR];clear hR
 repeat rw[if_neg (by decide)]
 try rw[if_pos rfl]
 clear ih;go_enter Tryz.func29,Tryz.ntmps29;go_wp2_with fail;refine(HI.out _).mono ?_;intro e w1 hq;obtain⟨t,k1,n1,A1,l1,c1,nx,rfl,hF,e1,HQ⟩:=hq.on;obtain⟨s0,s1,s2,f0,f1,f2⟩:=own3 e1.newBlk;have hsz:=e1.size_alloc;have hE:=((xr w).alloc (.cells #[.int .i64 0,.int .i64 0,.slice none 0 0] 26)).trans e1;have hF':From (w.heap.size+1) w1 t (.agg #[.int .i64 k1,.int .i64 n1,.slice A1 l1 c1]):=by simpa using hF
 clear hq hF;go_wp2_with fail;exact bodyPost_ret (v:= .tuple #[.agg #[.int .i64 k1,.int .i64 n1,.slice A1 l1 c1],.int .i64 nx]) (by simp[results,Tryz.results29,go_sem,s0,s1,s2]) rfl ⟨t,_,nx,rfl,(((hF'.set (by simp) _).set (by simp) _).set (by simp) _).since (by omega),((hE.setCell (by simp) _).setCell (by simp) _).setCell (by simp) _,HQ.out.1,HQ.out.2⟩
theorem y184(d:Nat)(hd:d<=30)(ih:q25 d)(s:ByteArray)(a:Nat)(w:World)(hs:s.size<=1000000000)(ha:a < s.size)(hc:s[a]=124):
 Calls Tryz.prog 29 #[.string s,.int .i64 a,.int .i64 ((d:Int)+1)] w (y19 w.heap.size w s.size (prs (d+1) s.data.toList a)):=by
 have HI:=hdq (fun W=> y185 d hd ih s a W hs ha hc);have hR:=j34 (d:=d) (j41 ha hc);rw[hR];clear hR
 repeat rw[if_neg (by decide)]
 try rw[if_pos rfl]
 clear ih;go_enter Tryz.func29,Tryz.ntmps29;go_wp2_with fail;refine(HI.out _).mono ?_;intro e w1 hq;obtain⟨t,k1,n1,A1,l1,c1,nx,rfl,hF,e1,HQ⟩:=hq.on;obtain⟨s0,s1,s2,f0,f1,f2⟩:=own3 e1.newBlk;have hsz:=e1.size_alloc;have hE:=((xr w).alloc (.cells #[.int .i64 0,.int .i64 0,.slice none 0 0] 26)).trans e1;have hF':From (w.heap.size+1) w1 t (.agg #[.int .i64 k1,.int .i64 n1,.slice A1 l1 c1]):=by simpa using hF
 clear hq hF;go_wp2_with fail;exact bodyPost_ret (v:= .tuple #[.agg #[.int .i64 k1,.int .i64 n1,.slice A1 l1 c1],.int .i64 nx]) (by simp[results,Tryz.results29,go_sem,s0,s1,s2]) rfl ⟨t,_,nx,rfl,(((hF'.set (by simp) _).set (by simp) _).set (by simp) _).since (by omega),((hE.setCell (by simp) _).setCell (by simp) _).setCell (by simp) _,HQ.out.1,HQ.out.2⟩
theorem j196(d:Nat)(hd:d<=30)(ih:q25 d)(s:ByteArray)(a:Nat)(w:World)(hs:s.size<=1000000000)(ha:a < s.size)(hc:s[a]=64):
 Calls Tryz.prog 29 #[.string s,.int .i64 a,.int .i64 ((d:Int)+1)] w (y19 w.heap.size w s.size (prs (d+1) s.data.toList a)):=by
 have HI:=hdq (fun W=> q195 d hd ih s a W hs ha hc);have hR:=j34 (d:=d) (j41 ha hc);rw[hR];clear hR
 repeat rw[if_neg (by decide)]
 try rw[if_pos rfl]
 clear ih;go_enter Tryz.func29,Tryz.ntmps29;go_wp2_with fail;refine(HI.out _).mono ?_;intro e w1 hq;obtain⟨t,k1,n1,A1,l1,c1,nx,rfl,hF,e1,HQ⟩:=hq.on;obtain⟨s0,s1,s2,f0,f1,f2⟩:=own3 e1.newBlk;have hsz:=e1.size_alloc;have hE:=((xr w).alloc (.cells #[.int .i64 0,.int .i64 0,.slice none 0 0] 26)).trans e1;have hF':From (w.heap.size+1) w1 t (.agg #[.int .i64 k1,.int .i64 n1,.slice A1 l1 c1]):=by simpa using hF
 clear hq hF;go_wp2_with fail;exact bodyPost_ret (v:= .tuple #[.agg #[.int .i64 k1,.int .i64 n1,.slice A1 l1 c1],.int .i64 nx]) (by simp[results,Tryz.results29,go_sem,s0,s1,s2]) rfl ⟨t,_,nx,rfl,(((hF'.set (by simp) _).set (by simp) _).set (by simp) _).since (by omega),((hE.setCell (by simp) _).setCell (by simp) _).setCell (by simp) _,HQ.out.1,HQ.out.2⟩
theorem j195(d:Nat)(hd:d<=30)(ih:q25 d)(s:ByteArray)(a:Nat)(w:World)(hs:s.size<=1000000000)(ha:a < s.size)(hc:s[a]=40):
 Calls Tryz.prog 29 #[.string s,.int .i64 a,.int .i64 ((d:Int)+1)] w (y19 w.heap.size w s.size (prs (d+1) s.data.toList a)):=by
 have HI:=hdq (fun W=> rnd40 d ih s a W hs ha);have hR:=j34 (d:=d) (j41 ha hc);rw[hR];clear hR
 repeat rw[if_neg (by decide)]
 try rw[if_pos rfl]
 clear ih;go_enter Tryz.func29,Tryz.ntmps29;go_wp2_with fail;refine(HI.out _).mono ?_;intro e w1 hq;obtain⟨t,k1,n1,A1,l1,c1,nx,rfl,hF,e1,HQ⟩:=hq.on;obtain⟨s0,s1,s2,f0,f1,f2⟩:=own3 e1.newBlk;have hsz:=e1.size_alloc;have hE:=((xr w).alloc (.cells #[.int .i64 0,.int .i64 0,.slice none 0 0] 26)).trans e1;have hF':From (w.heap.size+1) w1 t (.agg #[.int .i64 k1,.int .i64 n1,.slice A1 l1 c1]):=by simpa using hF
 clear hq hF;go_wp2_with fail;exact bodyPost_ret (v:= .tuple #[.agg #[.int .i64 k1,.int .i64 n1,.slice A1 l1 c1],.int .i64 nx]) (by simp[results,Tryz.results29,go_sem,s0,s1,s2]) rfl ⟨t,_,nx,rfl,(((hF'.set (by simp) _).set (by simp) _).set (by simp) _).since (by omega),((hE.setCell (by simp) _).setCell (by simp) _).setCell (by simp) _,HQ.out.1,HQ.out.2⟩
end Go.Proofs.YtbnkbepgmenblaaGreatDoor
namespace Go.Proofs.YtbnkbepgmenblaaGreatDoor
open Go.RowKit
attribute [local go_sem ↓] Go.wp_at_zero Go.wp_at_succ
theorem y26{w:World}{base base' k n:Nat}{e:TypeId}{v:Value}{xs:List Value}(h:w.ownsRow base e k v n xs)(hb:base'<=base):w.ownsRow base' e k v n xs:=by
 refine⟨h.1, ?_⟩;rcases h.2 with h|⟨g,cap,cur,rfl,h1,r⟩
 · exact .inl h
 · exact .inr ⟨g,cap,cur,rfl,Nat.le_trans hb h1,r⟩
def j202(w:World)(u:Value)(p:List Int):Prop:=j47 w (fun b=> b < w.heap.size) u p
theorem j202.ext{w w':World}{u:Value}{p:List Int}(h:j202 w u p)(he:Ext w w'):j202 w' u p:=h.mono (fun b hb=> Nat.lt_of_lt_of_le hb he.size) (fun b hb=> he.heap b hb)
theorem j25{w:World}{base:Nat}{e:TypeId}{v:Value}{p:List Int}(h:w.ownsRow base e 1 v p.length (p.map (Value.int .i64))):j202 w v p:=(y118 h).mono (fun b hb=> hb.2.1) (fun _ _=> rfl)
theorem y140:(Tryz.prog.info? 3).map (fun i=>(i.zero,i.size,i.bytes))=some (some (.int .i64 0),1,8):=by kernel_rfl
theorem Ext.ownsRow{w w':World}{base n:Nat}{e:TypeId}{k:Nat}{v:Value}{xs:List Value}(he:Ext w w')(h:w.ownsRow base e k v n xs):w'.ownsRow base e k v n xs:=j72 h (fun g hg=> he.heap g (h.lt g hg).2)
theorem j77.form{W w:World}{e:TypeId}{v:Value}{ps:List (List Int)}(h:j77 W w e v ps): ∃B c,v= .slice B ps.length c:=by
 obtain⟨A,c,h1,-⟩:=h.slice;exact⟨A,c,h1⟩
end Go.Proofs.YtbnkbepgmenblaaGreatDoor
namespace Go.Proofs.YtbnkbepgmenblaaGreatDoor
open Go.RowKit
def SbI(p1 p2 p3 B:Nat)(x ku nu:Int)(Au:Option Addr)(lu cu:Nat)(w:World)(s:Bool):Prop:=(p1 < B/\p2 < B/\p3 < B)/\w.heap[p1]? =some (.cells #[.int .i64 x] 3 (0,0))/\w.heap[p2]? =some (.cells #[.int .i64 ku,.int .i64 nu,.slice Au lu cu] 26 (0,0))/\w.heap[p3]? =some (.cells #[.bool s] 4 (0,0))
theorem subst1(a:World)(p1 p2 p3 B:Nat)(x ku nu:Int)(Au:Option Addr)(kus:List Tr)(cu:Nat)(ew:Lies a (.mk ku nu kus) (.agg #[.int .i64 ku,.int .i64 nu,.slice Au kus.length cu]))(ep:valid sigT (.mk ku nu kus)=true)(K0:p1≠p3)(dz:p2≠p3)(hx0:0<=x)(hx1:x<=1000):
 Chg_sb a p1 p2 p3 [p3] (SbI p1 p2 p3 B x ku nu Au kus.length cu) (gsb (.mk ku nu kus) x) (hsb (.mk ku nu kus) x):=by
 intro w s n b ha hI H7 I0 hb0 hb1;obtain⟨yt,i1,i2,i3⟩:=hI;have c1:=q10 i1 0;obtain⟨y0,y1,y2,-,-,-⟩:=own3 i2;have c3:=q10 i3 0;have l1:=j10 i1;have l2:=j10 i2;have l3:=j10 i3;have H1:=hdq i1;have H2:=hdq i2;have H3:=hdq i3;have HV:=hdq (fun m W=> q37 m W);have HS:=hdq (fun W (hW:Ext w W)=> q80 (.mk ku nu kus) b 0 W _ (ew.ext (ha.trans hW)) ep hb0 hb1 (by omega) (by omega));have hg:gsb (.mk ku nu kus) x n b=if n - b=x then okT (shfT b (.mk ku nu kus) 0) else .mk 1 (if x < n - b then n - 1 else n) []:=rfl
 have hh:hsb (.mk ku nu kus) x n b=if n - b=x then valid sigT (shfT b (.mk ku nu kus) 0) else true:=rfl
 rw[hg,hh];clear hg hh;by_cases h:n - b=x
 · rw[if_pos h,if_pos h]
   have d1:(n - b==x)=true:=beq_iff_eq.2 h;clear h HV;generalize valid sigT (shfT b (.mk ku nu kus) 0)=vb at HS⊢;generalize okT (shfT b (.mk ku nu kus) 0)=rt at HS⊢;clear i1 i2 i3;have hx:=(xr w).alloc (.cells #[.int .i64 0,.int .i64 0,.slice none 0 0] 26);have I8:=heap_alloc_new w (.cells #[.int .i64 0,.int .i64 0,.slice none 0 0] 26);go_enter Tryz.func136,Tryz.ntmps136;go_wp2_with fail;refine(HS.out _ hx).mono ?_;rintro e w1 ⟨u,rfl,hM,e1⟩;obtain⟨a1,a2,a3,a4,a5,rfl⟩:=hM.three';have q3:=(hx.trans e1).blk H3.out;have g3:=q10 q3 0;have f3:=q14 q3 0;have g4:=j10 q3;have qR:=e1.blk I8;obtain⟨s0,s1,s2,f0,f1,f2⟩:=own3 qR;have gR:=j10 qR;clear c1 c3 y0 y1 y2 HS;cases s <;> cases vb
   all_goals go_wp2_with fail
   all_goals(
    have o2:=fun r=>(((((oE (L:= [p3]) (hx.trans e1)).setCell (p:=⟨p3,0,none⟩) (by simp) r).setNew (p:=⟨w.heap.size,0,none⟩) (Nat.le_refl _) (.int .i64 a1)).setNew (p:=⟨w.heap.size,1,none⟩) (Nat.le_refl _) (.int .i64 a2)).setNew (p:=⟨w.heap.size,2,none⟩) (Nat.le_refl _) (.slice a3 a4 a5)).alloc (.cells #[.int .i64 a1,.int .i64 a2,.slice a3 a4 a5] 26)
    have hz:(w.alloc (.cells #[.int .i64 0,.int .i64 0,.slice none 0 0] 26)).heap.size=w.heap.size+1:=by simp
    refine bodyPost_ret (v:= .agg #[.int .i64 a1,.int .i64 a2,.slice a3 a4 a5]) (by simp[results,Tryz.results136,go_sem,s0,s1,s2,gR]) rfl ⟨_,rfl, ?_,o2 _,yt,(o2 _).blk H1.out (by simpa using K0),(o2 _).blk H2.out (by simpa using dz), ?_⟩
    · exact((hM.after ((((q23.refl _ _).setCell (p:=⟨p3,0,none⟩) (by show p3 < _;omega) _).setCell (p:=⟨w.heap.size,0,none⟩) (by show w.heap.size < _;omega) _).setCell (p:=⟨w.heap.size,1,none⟩) (by show w.heap.size < _;omega) _|>.setCell (p:=⟨w.heap.size,2,none⟩) (by show w.heap.size < _;omega) _)).ext ((xr _).alloc _)).since (by omega)
    · rw[Below.heap_alloc _ _ _ (by simp;omega),Below.heap_setCell _ _ _ _ (by show p3≠w.heap.size;omega),Below.heap_setCell _ _ _ _ (by show p3≠w.heap.size;omega),Below.heap_setCell _ _ _ _ (by show p3≠w.heap.size;omega),q11 q3 0 _]
      rfl)
 · rw[if_neg h,if_neg h,Bool.and_true]
   have d1:(n - b==x)=false:=beq_eq_false_iff_ne.2 h;clear HS h i1 i2 i3;by_cases h2:x < n - b
   · rw[if_pos h2]
     have d2:decide (x < n - b)=true:=decide_eq_true h2;clear h2;go_enter Tryz.func136,Tryz.ntmps136;go_wp2_with fail;refine(HV.out _ _).mono ?_;rintro e w1 ⟨rfl,e1⟩;have hb:=e1.newBlk;obtain⟨s0,s1,s2,f0,f1,f2⟩:=own3 hb;have o2:=((Only.refl [p3] w).alloc (.cells #[.int .i64 0,.int .i64 0,.slice none 0 0] 26)).trans (oE e1);have q4:=(Ext.blk e1.pre H3.out);clear hb;go_wp2_with fail;refine bodyPost_ret (v:= .agg #[.int .i64 1,.int .i64 (n - 1),.slice none 0 0]) (by simp[results,Tryz.results136,go_sem,s0,s1,s2]) rfl ⟨_,rfl,Made.leaf _ _ _ _ _, ?_,yt, ?_, ?_, ?_⟩
     · exact(((o2.setNew (by simp) _).setNew (by simp) _).setNew (by simp) _)
     · exact(((o2.setNew (by simp) _).setNew (by simp) _).setNew (by simp) _).blk H1.out (by simpa using K0)
     · exact(((o2.setNew (by simp) _).setNew (by simp) _).setNew (by simp) _).blk H2.out (by simpa using dz)
     · rw[Below.heap_setCell _ _ _ _ (by show p3≠w.heap.size;omega),Below.heap_setCell _ _ _ _ (by show p3≠w.heap.size;omega),Below.heap_setCell _ _ _ _ (by show p3≠w.heap.size;omega),q4]
   · rw[if_neg h2]
     have d2:decide (x < n - b)=false:=decide_eq_false h2;clear h2;go_enter Tryz.func136,Tryz.ntmps136;go_wp2_with fail;refine(HV.out _ _).mono ?_;rintro e w1 ⟨rfl,e1⟩;have hb:=e1.newBlk;obtain⟨s0,s1,s2,f0,f1,f2⟩:=own3 hb;have o2:=((Only.refl [p3] w).alloc (.cells #[.int .i64 0,.int .i64 0,.slice none 0 0] 26)).trans (oE e1);have q4:=(Ext.blk e1.pre H3.out);clear hb;go_wp2_with fail;refine bodyPost_ret (v:= .agg #[.int .i64 1,.int .i64 n,.slice none 0 0]) (by simp[results,Tryz.results136,go_sem,s0,s1,s2]) rfl ⟨_,rfl,Made.leaf _ _ _ _ _, ?_,yt, ?_, ?_, ?_⟩
     · exact(((o2.setNew (by simp) _).setNew (by simp) _).setNew (by simp) _)
     · exact(((o2.setNew (by simp) _).setNew (by simp) _).setNew (by simp) _).blk H1.out (by simpa using K0)
     · exact(((o2.setNew (by simp) _).setNew (by simp) _).setNew (by simp) _).blk H2.out (by simpa using dz)
     · rw[Below.heap_setCell _ _ _ _ (by show p3≠w.heap.size;omega),Below.heap_setCell _ _ _ _ (by show p3≠w.heap.size;omega),Below.heap_setCell _ _ _ _ (by show p3≠w.heap.size;omega),q4]
theorem y131(t:Tr)(x:Int)(u:Tr)(w:World)(v vu:Value)(j8:Lies w t v)(hv:valid sigT t=true)(ew:Lies w u vu)(ep:valid sigT u=true)(hx0:0<=x)(hx1:x<=1000):
 Calls Tryz.prog 106 #[v,.int .i64 x,vu] w fun e w'=> ∃r,e= .returned (.tuple #[r,.bool (valid sigT (sbsT u t x 0))])/\Made w w' 26 (okT (sbsT u t x 0)) r/\Ext w w':=by
 obtain⟨hs,J2⟩:=y11 hv;obtain⟨i6,hw2⟩:=j170 (x:=x) (y11 ep).2 hv;obtain⟨vb,gy⟩: ∃vb,vb=valid sigT (sbsT u t x 0):=⟨_,rfl⟩;obtain⟨rt,hrt⟩: ∃rt,rt=okT (sbsT u t x 0):=⟨_,rfl⟩;rw[<-gy,<-hrt];have ir:allT (hsb u x) t 0=true->rt=okT (chgT (gsb u x) t 0):=fun h=> by rw[hw2 h];exact hrt
 have xe:vb=false->rt=y14:=fun h=> by rw[hrt];unfold okT;rw[<-gy,h];rfl
 have hcu:=(y11 ep).2;obtain⟨ku,nu,kus⟩:=u;obtain⟨Au,cu,rfl,hlu,hcu',-⟩:=Lies.mk_iff.1 ew;have tz:=fun W (hW:Ext w W) p1 p2 p3 (hp:w.heap.size<=p3) (K0:p1≠p3) (dz:p2≠p3) (h1:W.heap[p1]? =some (.cells #[.int .i64 x] 3 (0,0))) (h2:W.heap[p2]? =some (.cells #[.int .i64 ku,.int .i64 nu,.slice Au kus.length cu] 26 (0,0))) (h3:W.heap[p3]? =some (.cells #[.bool true] 4 (0,0)))=>
  y100 t w W v 0 30 p1 p2 p3 [p3] W.heap.size (SbI p1 p2 p3 W.heap.size x ku nu Au kus.length cu) (gsb (.mk ku nu kus) x) (hsb (.mk ku nu kus) x) true hs j8 hW (fun x hx=> by rw[List.mem_singleton.1 hx];exact⟨hp,j10 h3⟩) (by omega) (by omega)
   (subst1 w p1 p2 p3 _ x ku nu Au kus cu ew ep K0 dz hx0 hx1) (fun w1 w2 s h he=>⟨h.1,he.blk h.2.1,he.blk h.2.2.1,he.blk h.2.2.2⟩) (Nat.le_refl _) (fun w1 w2 s h he hl=>⟨h.1,(he p1 h.1.1).trans h.2.1,(he p2 h.1.2.1).trans h.2.2.1,(he p3 h.1.2.2).trans h.2.2.2⟩) ⟨⟨j10 h1,j10 h2,j10 h3⟩,h1,h2,h3⟩
 simp only[Bool.true_and] at tz;rw[<-gy] at i6;have oc:=hdq tz;clear tz hw2 hs hrt gy;generalize chgT (gsb (.mk ku nu kus) x) t 0=r at i6 oc ir;generalize allT (hsb (.mk ku nu kus) x) t 0=f at i6 oc ir;obtain⟨k,n,ks⟩:=t;obtain⟨A,cap,rfl,hl,hc,hK⟩:=Lies.mk_iff.1 j8;have hE:=((((xr w).alloc (.cells #[.int .i64 k,.int .i64 n,.slice A ks.length cap] 26)).alloc (.cells #[.int .i64 x] 3)).alloc (.cells #[.int .i64 ku,.int .i64 nu,.slice Au kus.length cu] 26)).alloc (.cells #[.int .i64 0,.int .i64 0,.slice none 0 0] 26);have Ae:=blk4 ((xr ((((w.alloc (.cells #[.int .i64 k,.int .i64 n,.slice A ks.length cap] 26)).alloc (.cells #[.int .i64 x] 3)).alloc (.cells #[.int .i64 ku,.int .i64 nu,.slice Au kus.length cu] 26)).alloc (.cells #[.int .i64 0,.int .i64 0,.slice none 0 0] 26))).alloc (.cells #[.bool true] 4));have E8:=heap_alloc_new ((((w.alloc (.cells #[.int .i64 k,.int .i64 n,.slice A ks.length cap] 26)).alloc (.cells #[.int .i64 x] 3)).alloc (.cells #[.int .i64 ku,.int .i64 nu,.slice Au kus.length cu] 26)).alloc (.cells #[.int .i64 0,.int .i64 0,.slice none 0 0] 26)) (.cells #[.bool true] 4);have pn:=hE.alloc (.cells #[.bool true] 4);have hsz:(((((w.alloc (.cells #[.int .i64 k,.int .i64 n,.slice A ks.length cap] 26)).alloc (.cells #[.int .i64 x] 3)).alloc (.cells #[.int .i64 ku,.int .i64 nu,.slice Au kus.length cu] 26)).alloc (.cells #[.int .i64 0,.int .i64 0,.slice none 0 0] 26)).alloc (.cells #[.bool true] 4)).heap.size=w.heap.size+1+1+1+1+1:=by simp
 obtain⟨hb1,hb2,hb3,hb4,-⟩:=Ae;simp only[World.size_alloc] at E8;go_enter Tryz.func106,Tryz.ntmps106;go_wp2_with fail;generalize World.alloc _ _=wa at pn hb1 hb2 hb3 hb4 E8 hsz;clear hE;refine(oc.out wa pn _ _ _ (by omega) (by omega) (by omega) hb2 hb3 E8).mono ?_;rintro e w1 ⟨u,rfl,hM,ho,hI⟩;obtain⟨k2,n2,U1⟩:=r;obtain⟨A2,c2,rfl,hl2,hc2,Nt⟩:=Made.mk_iff.1 hM;have N6:=ho.blk hb4 (by simp);have i3:=hI.2.2.2;have hc5:=q10 i3 0;have Mb:=j10 i3;have fw:=j10 N6;have Lr:=ho.size;have tj:Ext w w1:=ho.ext pn (fun x hx=> by rw[List.mem_singleton.1 hx];omega);obtain⟨s0,s1,s2,f0,f1,f2⟩:=own3 N6;clear oc hb1 hb2 hb3 hb4 E8 hI i3;have hx:=(xr w1).alloc (.cells #[.int .i64 k2,.int .i64 n2,.slice A2 U1.length c2] 26);cases f with
 |false=>
  rw[Bool.false_and] at i6;have H1:=hdq i6.symm;have H2:=hdq (xe i6.symm);clear i6 ir xe;go_wp2_with fail;refine bodyPost_ret (v:= .tuple #[.agg #[.int .i64 0,.int .i64 0,.slice none 0 0],.bool false]) (by simp[results,Tryz.results106,go_sem,s0,s1,s2,fw]) rfl ⟨.agg #[.int .i64 0,.int .i64 0,.slice none 0 0],by rw[H1.out],by rw[H2.out];exact Made.leaf _ _ _ _ _, ?_⟩;exact(((tj.setCell (by simp;omega) _).setCell (by simp;omega) _).setCell (by simp;omega) _).alloc _
 |true=>
  rw[Bool.true_and] at i6;have HV:=hdq (fun W (hW:Ext w1 W)=> y69 k2 n2 U1 A2 c2 W (hM.lies.ext hW));generalize F5:valid sigT (.mk k2 n2 U1)=b at HV;have hO:rt=if b=true then .mk k2 n2 U1 else y14:=by rw[ir rfl];unfold okT;rw[F5]
  rw[F5] at i6;have H1:=hdq i6.symm;have H2:=hdq hO;clear hO i6 F5 ir xe;go_wp2_with fail;refine(HV.out _ hx).mono ?_;cases b with
  |true=>
   simp only[if_true];rintro e w2 ⟨rfl,e2⟩;obtain⟨q0,q1,q2,g0,g1,g2⟩:=own3 ((hx.trans e2).blk N6);go_wp2_with fail;refine bodyPost_ret (v:= .tuple #[.agg #[.int .i64 k2,.int .i64 n2,.slice A2 U1.length c2],.bool true]) (by simp[results,Tryz.results106,go_sem,q0,q1,q2]) rfl ⟨.agg #[.int .i64 k2,.int .i64 n2,.slice A2 U1.length c2],by rw[H1.out], ?_, ?_⟩
   · rw[H2.out]
     simp only[if_true];exact Made.since (((hM.ext (hx.trans e2)).after ((((q23.refl _ _).setCell (by simp;omega) _).setCell (by simp;omega) _).setCell (by simp;omega) _))) (by omega)
   · exact(((((tj.trans hx).trans e2).setCell (by simp;omega) _).setCell (by simp;omega) _).setCell (by simp;omega) _)
  |false=>
   simp only[Bool.false_eq_true,if_false];rintro e w2 ⟨rfl,e2⟩;obtain⟨q0,q1,q2,g0,g1,g2⟩:=own3 ((hx.trans e2).blk N6);go_wp2_with fail;refine bodyPost_ret (v:= .tuple #[.agg #[.int .i64 0,.int .i64 0,.slice none 0 0],.bool false]) (by simp[results,Tryz.results106,go_sem,q0,q1,q2]) rfl ⟨.agg #[.int .i64 0,.int .i64 0,.slice none 0 0],by rw[H1.out],by rw[H2.out];exact Made.leaf _ _ _ _ _, ?_⟩;exact(((((tj.trans hx).trans e2).setCell (by simp;omega) _).setCell (by simp;omega) _).setCell (by simp;omega) _)
def EG(x y:World×List Nat):Prop:=Ext x.1 y.1/\(∀g,g∈x.2->g∈y.2)/\(∀g,g∈y.2->g∈x.2\/x.1.heap.size<=g)/\ ∀g,g∈y.2->g < y.1.heap.size
theorem EG.start(w:World):EG (w, []) (w, []):=⟨xr _,fun _ h=> h,fun g h=> .inl h,fun g h=> by cases h⟩
theorem EG.trans{x y z:World×List Nat}(h:EG x y)(k:EG y z):EG x z:=by
 refine⟨h.1.trans k.1,fun g hg=> k.2.1 g (h.2.1 g hg),fun g hg=> ?_,k.2.2.2⟩;rcases k.2.2.1 g hg with e|e
 · exact h.2.2.1 g e
 · exact .inr (Nat.le_trans h.1.size e)
theorem eSq{x:World×List Nat}{w w':World}{z:List Nat}(h:EG x (w,z))(e:Ext w w'):EG (w,z) (w',z):=
 ⟨e,fun _ h=> h,fun _ h=> .inl h,fun g hg=> Nat.lt_of_lt_of_le (h.2.2.2 g hg) e.size⟩
theorem EG.id{x:World×List Nat}{w:World}{z:List Nat}(h:EG x (w,z)):EG (w,z) (w,z):=eSq h (xr _)
theorem EG.box{x:World×List Nat}{w:World}{o:Obj}{z:List Nat}(h:EG x (w,z)):EG (w,z) (w.alloc o,w.heap.size::z):=by
 refine⟨(xr _).alloc _,fun _ h=> List.mem_cons_of_mem _ h,fun g hg=> ?_,fun g hg=> ?_⟩
 · rcases List.mem_cons.1 hg with rfl|hg
   · exact .inr (Nat.le_refl _)
   · exact .inl hg
 · have:(w.alloc o).heap.size=w.heap.size+1:=by simp
   rcases List.mem_cons.1 hg with rfl|hg
   · show w.heap.size <(w.alloc o).heap.size;omega
   · have:=h.2.2.2 g hg;show g <(w.alloc o).heap.size;simp only at this;omega
def Mz(M:Nat->Prop)(z:List Nat)(b:Nat):Prop:=M b/\ ¬b∈z
theorem Mz.later{M:Nat->Prop}{x y:World×List Nat}(h:EG x y){b:Nat}(hb:Mz M x.2 b/\b < x.1.heap.size):Mz M y.2 b:=by
 refine⟨hb.1.1,fun e=> ?_⟩;rcases h.2.2.1 b e with f|f
 · exact hb.1.2 f
 · have:=hb.2
   omega
theorem InT.laterG{M:Nat->Prop}{x y:World×List Nat}{t:Tr}{v:Value}(h:InT x.1 (Mz M x.2) t v)(e:EG x y):InT y.1 (Mz M y.2) t v:=
 InT.mono (fun b hb=> Mz.later e hb) (fun _ _=> rfl) (h.bound.later e.1)
theorem InK.laterG{M:Nat->Prop}{x y:World×List Nat}{A:Option Addr}{ks:List Tr}(h:InK x.1 (Mz M x.2) A ks)(e:EG x y):InK y.1 (Mz M y.2) A ks:=
 InK.mono (fun b hb=> Mz.later e hb) (fun _ _=> rfl) (h.bound.later e.1)
theorem InT.oldG{M:Nat->Prop}{W w:World}{z:List Nat}{t:Tr}{v:Value}(h:InT W M t v)(e:EG (W.drew, []) (w,z)):InT w (Mz M z) t v:=
 InT.laterG (x:=(W.drew, [])) (y:=(w,z)) (InT.mono (fun b hb=>⟨hb,fun h=> by cases h⟩) (fun _ _=> rfl) (InT.later h (xr W).drew)) e
theorem EG.news{M:Nat->Prop}{x:World×List Nat}{w:World}{z:List Nat}(h:EG x (w,z))(hM: ∀b,w.heap.size<=b->M b): ∀b,w.heap.size<=b->Mz M z b:=
 fun b hb=>⟨hM b hb,fun e=> by have:=h.2.2.2 b e;simp only at this;omega⟩
theorem step_if{P:Program}{ops:Array Oper}{Q:Exit->Act->World->Prop}{i j:Nat}{o:Oper}{a:Act}{w:World}{R:Act->World->Prop}{y b:Bool}{d:Nat}(ho:ops[i]? =some o)(hg:o.guard=some (j,y))(hj:Ord.dstOf ops j=some d)(hv:a.eval (.tmp d)= .bool b)
 (h1:b=y-> ∀K:Act->World->Prop,(∀a' w',R a' w'->K a' w')->o.wp P a w K Q) (h2: ¬b=y->R (a.put o.dst undef) w):wpOp P ops Q i R a w:=by
 have hs:a.tmps[d]? =some (.bool b):=by
  rw[show a.eval (.tmp d)=a.tmps.getD d undef from rfl,Array.getD_eq_getD_getElem?] at hv;cases h:a.tmps[d]?with
  |none=> rw[h] at hv;cases hv
  |some x=> rw[h] at hv;simp only[Option.getD_some] at hv;rw[hv]
 have hy:yielded ops a.tmps j=some b:=by
  unfold yielded;rw[show((ops[j]?).bind fun x=> x.dst)=some d from hj];simp only[Option.bind_some,hs]
 unfold wpOp;rw[ho];simp only;unfold Region.wanted;rw[hg];simp only[hy];by_cases e:b=y
 · rw[if_pos (by simp[e])]
   exact .inl (h1 e R fun _ _ h=> h)
 · rw[if_neg (by simpa using e)]
   exact h2 e
def Sp.holdsG:Sp->Value->World×List Nat->Prop
 | .any,_,_=> True
 | .val u,v,_=> v=u
 | .tree M t,v,x=> InT x.1 (Mz M x.2) t v
 | .row M ts,v,x=> ∃A c,v= .slice A ts.length c/\ts.length<=c/\c<=maxLen/\InK x.1 (Mz M x.2) A ts
 | .two M t c,v,x=> ∃u,v= .tuple #[u,c]/\InT x.1 (Mz M x.2) t u
 | .box W,v,x=> ∃g,v= .pointer (some ⟨g,0,none⟩)/\g∈x.2/\BoxAt W x.1 g
theorem Sp.extG: ∀{s:Sp} {v:Value} {x y:World×List Nat},s.holdsG v x->EG x y->s.holdsG v y
 | .any,_,_,_,_,_=> trivial
 | .val u,_,_,_,h,_=> h
 | .tree M t,_,_,_,h,e=> InT.laterG h e
 | .row M ts,_,_,_,h,e=> by
  obtain⟨A,c,h1,h2,h3,h4⟩:=h;exact⟨A,c,h1,h2,h3,InK.laterG h4 e⟩
 | .two M t c,_,_,_,h,e=> by
  obtain⟨u,h1,h2⟩:=h;exact⟨u,h1,InT.laterG h2 e⟩
 | .box W,_,_,_,h,e=> by
  obtain⟨g,h1,hz,h2,h3⟩:=h;exact⟨g,h1,e.2.1 g hz,h2,e.1.blk h3⟩
def spGG(l:List Sp)(i:Nat)(v:Value)(x:World×List Nat):Prop:=(l.getD i .any).holdsG v x
theorem y139(l:List Sp): ∀i v x y,spGG l i v x->EG x y->spGG l i v y:=fun i v x y h e=> Sp.extG h e
theorem ordG{P:Program}{ops:Array Oper}{Q:Exit->Act->World->Prop}{l0:Array Bool}{a0:Act}{fuel:Nat}(W:World)(m N:Nat)(lT:Array Bool)(fT:Nat)(l:List Sp)(F5:Ord.okO ops l0 m N=true)(hN:a0.tmps.size=N)(hf:fuel=Ord.opnO l0 ops.size)(nv:Ord.doneO l0 m=lT)(qi:Ord.opnO lT ops.size=fT)
 (steps:OrdG.StepsO P ops Q l0 m EG (spGG l) a0 (W.drew, []) 0 (ops.toList.take m))
 (fin: ∀(v:Nat->Value) w z,EG (W.drew, []) (w,z)->(∀j,j < m->Ord.isOn l0 j=false->spGG l j (v j) (w,z))->wpAnyH P .any ops Q (fun _=> True) fT lT (Ord.putN ops v (fun j=> !Ord.isOn l0 j) a0 m) w):
 wpAnyH P .any ops Q (fun _=> True) fuel l0 a0 W.drew:=
 OrdG.wpAnyH_order (w0:=(W.drew, [])) F5 hN hf nv qi (EG.start _) (fun _ _ _ h h'=> h.trans h') (y139 _) (fun _ _ _=> trivial) steps fin
end Go.Proofs.YtbnkbepgmenblaaGreatDoor
