/-
  Lemmas towards the law, 21: Parse5, Places, OrdGT, Parse6, Places2.
-/
import Derived.Test.YtdkamgafpphdjaaGreatUAT
import Derived.Lib.SliceRun
set_option maxHeartbeats 2000000
set_option maxRecDepth 100000
namespace Go.Proofs.YtdkamgafpphdjaaGreat
open Go.RowKit
set_option linter.unusedVariables false
theorem q36{d:Nat}{l:List UInt8}{a:Nat}{c:UInt8}(h:l[a]? =some c):prs (d+1) l a=
 (if c=35 then(numS l (a+1) true).map (fun x=>(.mk 1 x.1 [],x.2))
 else if c=42 then(numS l (a+1) false).map (fun x=>(.mk 2 x.1 [],x.2))
 else if c=78 then some (.mk 6 0 [],a+1)
 else if c=48 then some (.mk 7 0 [],a+1)
 else if c=43 then one 8 (prs d l (a+1))
 else if c=33 then one 11 (prs d l (a+1))
 else if c=94 then one 15 (prs d l (a+1))
 else if c=95 then one 16 (prs d l (a+1))
 else if c=40 then rnd (prs d l) l (a+1)
 else if c=91 then sqr (prs d l) l (a+1)
 else blk (prs d l) l a c):=by
 conv=> lhs;unfold prs
 rw[h]
theorem y145{d:Nat}{l:List UInt8}{a:Nat}(h:l[a]? =none):prs d l a=none:=by
 cases d with
 |zero=> rfl
 |succ d=>
  unfold prs;rw[h]
theorem y175{l:List UInt8}{a:Nat}{two:Bool}{x:Int×Nat}(h:numS l a two=some x):x.2<=l.length:=by
 unfold numS at h;cases h0:l[a]?with
 |none=> rw[h0] at h;cases h
 |some c=>
  have ha:a < l.length:=by
   rcases Nat.lt_or_ge a l.length with g|g
   · exact g
   · rw[List.getElem?_eq_none g] at h0;cases h0
  rw[h0] at h;simp only at h
  split at h
  · split at h
    · cases h1:l[a+1]?with
      |none=> rw[h1] at h;cases h;exact ha
      |some d=>
       have hb:a+1 < l.length:=by
        rcases Nat.lt_or_ge (a+1) l.length with g|g
        · exact g
        · rw[List.getElem?_eq_none g] at h1;cases h1
       rw[h1] at h;simp only at h
       split at h
       · split at h
         · cases h
         · cases h;exact hb
       · cases h;exact ha
    · cases h;exact ha
  · cases h
theorem y212(d:Nat)(hd:d<=30)(s:ByteArray)(a:Nat)(w:World)(hs:s.size<=1000000000)(ha:a < s.size)(hc:s[a]=35):
 Calls Tryz.prog 192 #[.string s,.int .i64 a,.int .i64 ((d:Int)+1)] w (j17 w.heap.size w s.size (prs (d+1) s.data.toList a)):=by
 have hR:prs (d+1) s.data.toList a=(numS s.data.toList (a+1) true).map (fun x=>(.mk 1 x.1 [],x.2)):=by rw[q36 (q44 ha hc)];rfl
 rw[hR];have hN:=fun W=> q140 s (a+1) W hs (by omega)
 have hle: ∀x,numS s.data.toList (a+1) true=some x->x.2<=s.size:=fun x h=> by have:=y175 h;simpa using this
 obtain⟨S,hS⟩: ∃S,S=numS s.data.toList (a+1) true:=⟨_,rfl⟩;rw[<-hS] at hN hle⊢;rw[show((a+1:Nat):Int)=(a:Int)+1 by omega] at hN;have HN:=hdq hN;have HL:=hdq hle;clear hR hN hle hS;go_enter Tryz.func192,Tryz.ntmps192;go_wp2_with fail;refine(HN.out _).mono ?_;rintro e w1 ⟨rfl,rfl⟩;obtain⟨x,hx⟩: ∃x,x=(resN S).1:=⟨_,rfl⟩;obtain⟨nx,hnx⟩: ∃nx,nx=(resN S).2:=⟨_,rfl⟩;rw[<-hx,<-hnx];have HX:=hdq hx;have HNX:=hdq hnx;clear hx hnx;go_wp2_with fail;refine(y17 _ 1 x).mono ?_;rintro e w2 ⟨rfl,e2⟩;obtain⟨s0,s1,s2,f0,f1,f2⟩:=own3 e2.newBlk;have hsz:=e2.size_alloc;have hE:=((xr w).alloc (.cells #[.int .i64 0,.int .i64 0,.slice none 0 0] 25)).trans e2;go_wp2_with fail;refine bodyPost_ret (v:= .tuple #[.agg #[.int .i64 1,.int .i64 x,.slice none 0 0],.int .i64 nx]) (by simp[results,Tryz.results192,go_sem,s0,s1,s2]) rfl ⟨.mk 1 x [],_,nx,rfl,From.leaf _ _ _ _,((hE.setCell (by simp) _).setCell (by simp) _).setCell (by simp) _, ?_, ?_⟩
 · intro z hz
   cases S with
   |none=> cases hz
   |some y=>
    cases hz
    exact⟨by rw[HX.out];rfl,by rw[HNX.out];rfl,HL.out y rfl⟩
 · intro hz
   cases S with
   |none=> rw[HNX.out];rfl
   |some y=> cases hz
theorem q202(d:Nat)(hd:d<=30)(s:ByteArray)(a:Nat)(w:World)(hs:s.size<=1000000000)(ha:a < s.size)(hc:s[a]=42):
 Calls Tryz.prog 192 #[.string s,.int .i64 a,.int .i64 ((d:Int)+1)] w (j17 w.heap.size w s.size (prs (d+1) s.data.toList a)):=by
 have hR:prs (d+1) s.data.toList a=(numS s.data.toList (a+1) false).map (fun x=>(.mk 2 x.1 [],x.2)):=by rw[q36 (q44 ha hc)];rfl
 rw[hR];have hN:=fun W=> q132 s (a+1) W hs (by omega)
 have hle: ∀x,numS s.data.toList (a+1) false=some x->x.2<=s.size:=fun x h=> by have:=y175 h;simpa using this
 obtain⟨S,hS⟩: ∃S,S=numS s.data.toList (a+1) false:=⟨_,rfl⟩;rw[<-hS] at hN hle⊢;rw[show((a+1:Nat):Int)=(a:Int)+1 by omega] at hN;have HN:=hdq hN;have HL:=hdq hle;clear hR hN hle hS;go_enter Tryz.func192,Tryz.ntmps192;go_wp2_with fail;refine(HN.out _).mono ?_;rintro e w1 ⟨rfl,rfl⟩;obtain⟨x,hx⟩: ∃x,x=(resN S).1:=⟨_,rfl⟩;obtain⟨nx,hnx⟩: ∃nx,nx=(resN S).2:=⟨_,rfl⟩;rw[<-hx,<-hnx];have HX:=hdq hx;have HNX:=hdq hnx;clear hx hnx;go_wp2_with fail;refine(y17 _ 2 x).mono ?_;rintro e w2 ⟨rfl,e2⟩;obtain⟨s0,s1,s2,f0,f1,f2⟩:=own3 e2.newBlk;have hsz:=e2.size_alloc;have hE:=((xr w).alloc (.cells #[.int .i64 0,.int .i64 0,.slice none 0 0] 25)).trans e2;go_wp2_with fail;refine bodyPost_ret (v:= .tuple #[.agg #[.int .i64 2,.int .i64 x,.slice none 0 0],.int .i64 nx]) (by simp[results,Tryz.results192,go_sem,s0,s1,s2]) rfl ⟨.mk 2 x [],_,nx,rfl,From.leaf _ _ _ _,((hE.setCell (by simp) _).setCell (by simp) _).setCell (by simp) _, ?_, ?_⟩
 · intro z hz
   cases S with
   |none=> cases hz
   |some y=>
    cases hz
    exact⟨by rw[HX.out];rfl,by rw[HNX.out];rfl,HL.out y rfl⟩
 · intro hz
   cases S with
   |none=> rw[HNX.out];rfl
   |some y=> cases hz
theorem q214(d:Nat)(hd:d<=30)(s:ByteArray)(a:Nat)(w:World)(hs:s.size<=1000000000)(ha:a < s.size)(hc:s[a]=78):
 Calls Tryz.prog 192 #[.string s,.int .i64 a,.int .i64 ((d:Int)+1)] w (j17 w.heap.size w s.size (prs (d+1) s.data.toList a)):=by
 have HR:=hdq (show prs (d+1) s.data.toList a=some (.mk 6 0 [],a+1) from by rw[q36 (q44 ha hc)];rfl);generalize prs (d+1) s.data.toList a=R at HR⊢;go_enter Tryz.func192,Tryz.ntmps192;go_wp2_with fail;refine(y17 _ 6 0).mono ?_;rintro e w2 ⟨rfl,e2⟩;obtain⟨s0,s1,s2,f0,f1,f2⟩:=own3 e2.newBlk;have hsz:=e2.size_alloc;have hE:=((xr w).alloc (.cells #[.int .i64 0,.int .i64 0,.slice none 0 0] 25)).trans e2;go_wp2_with fail;refine bodyPost_ret (v:= .tuple #[.agg #[.int .i64 6,.int .i64 0,.slice none 0 0],.int .i64 ((a:Int)+1)]) (by simp[results,Tryz.results192,go_sem,s0,s1,s2]) rfl ⟨.mk 6 0 [],_,_,rfl,From.leaf _ _ _ _,((hE.setCell (by simp) _).setCell (by simp) _).setCell (by simp) _, ?_, ?_⟩
 · intro z hz
   rw[HR.out] at hz;cases hz
   exact⟨rfl,by simp,ha⟩
 · intro hz
   rw[HR.out] at hz;cases hz
theorem j203(d:Nat)(hd:d<=30)(s:ByteArray)(a:Nat)(w:World)(hs:s.size<=1000000000)(ha:a < s.size)(hc:s[a]=48):
 Calls Tryz.prog 192 #[.string s,.int .i64 a,.int .i64 ((d:Int)+1)] w (j17 w.heap.size w s.size (prs (d+1) s.data.toList a)):=by
 have HR:=hdq (show prs (d+1) s.data.toList a=some (.mk 7 0 [],a+1) from by rw[q36 (q44 ha hc)];rfl);generalize prs (d+1) s.data.toList a=R at HR⊢;go_enter Tryz.func192,Tryz.ntmps192;go_wp2_with fail;refine(y17 _ 7 0).mono ?_;rintro e w2 ⟨rfl,e2⟩;obtain⟨s0,s1,s2,f0,f1,f2⟩:=own3 e2.newBlk;have hsz:=e2.size_alloc;have hE:=((xr w).alloc (.cells #[.int .i64 0,.int .i64 0,.slice none 0 0] 25)).trans e2;go_wp2_with fail;refine bodyPost_ret (v:= .tuple #[.agg #[.int .i64 7,.int .i64 0,.slice none 0 0],.int .i64 ((a:Int)+1)]) (by simp[results,Tryz.results192,go_sem,s0,s1,s2]) rfl ⟨.mk 7 0 [],_,_,rfl,From.leaf _ _ _ _,((hE.setCell (by simp) _).setCell (by simp) _).setCell (by simp) _, ?_, ?_⟩
 · intro z hz
   rw[HR.out] at hz;cases hz
   exact⟨rfl,by simp,ha⟩
 · intro hz
   rw[HR.out] at hz;cases hz
theorem j17.on{B:Nat}{w:World}{size:Nat}{o:Option (Tr×Nat)}{e:Ending}{w':World}(h:j17 B w size o e w'): ∃(t:Tr) (k n:Int) (A:Option Addr) (l c:Nat) (nx:Int),e= .returned (.tuple #[.agg #[.int .i64 k,.int .i64 n,.slice A l c],.int .i64 nx])/\From B w' t (.agg #[.int .i64 k,.int .i64 n,.slice A l c])/\Ext w w'/\Hid ((∀x,o=some x->t=x.1/\nx=x.2/\x.2<=size)/\(o=none->nx= -1)):=by
 obtain⟨t,u,nx,rfl,hF,e1,q⟩:=h;obtain⟨k,n,A,l,c,rfl⟩:=hF.three;exact⟨t,k,n,A,l,c,nx,rfl,hF,e1,hdq q⟩
theorem rnd40(d:Nat)(ih:j25 d)(s:ByteArray)(a:Nat)(w:World)(hs:s.size<=1000000000)(ha:a < s.size):
 Calls Tryz.prog 209 #[.string s,.int .i64 ((a:Int)+1),.int .i64 d] w (j17 w.heap.size w s.size (rnd (prs d s.data.toList) s.data.toList (a+1))):=by
 have:=q177 d ih s (a+1) w hs ha
 rwa [show((a+1:Nat):Int)=(a:Int)+1 by omega] at this
theorem j213(d:Nat)(hd:d<=30)(ih:j25 d)(s:ByteArray)(a:Nat)(w:World)(hs:s.size<=1000000000)(ha:a < s.size)(hc:s[a]=43):
 Calls Tryz.prog 192 #[.string s,.int .i64 a,.int .i64 ((d:Int)+1)] w (j17 w.heap.size w s.size (prs (d+1) s.data.toList a)):=by
 have HI:=hdq (fun W=> y182 d ih s a W hs ha hc hd);have hR:=q36 (d:=d) (q44 ha hc);rw[hR];clear hR
 repeat rw[if_neg (by decide)]
 try rw[if_pos rfl]
 clear ih;go_enter Tryz.func192,Tryz.ntmps192;go_wp2_with fail;refine(HI.out _).mono ?_;intro e w1 hq;obtain⟨t,k1,n1,A1,l1,c1,nx,rfl,hF,e1,HQ⟩:=hq.on;obtain⟨s0,s1,s2,f0,f1,f2⟩:=own3 e1.newBlk;have hsz:=e1.size_alloc;have hE:=((xr w).alloc (.cells #[.int .i64 0,.int .i64 0,.slice none 0 0] 25)).trans e1;have hF':From (w.heap.size+1) w1 t (.agg #[.int .i64 k1,.int .i64 n1,.slice A1 l1 c1]):=by simpa using hF
 clear hq hF;go_wp2_with fail;exact bodyPost_ret (v:= .tuple #[.agg #[.int .i64 k1,.int .i64 n1,.slice A1 l1 c1],.int .i64 nx]) (by simp[results,Tryz.results192,go_sem,s0,s1,s2]) rfl ⟨t,_,nx,rfl,(((hF'.set (by simp) _).set (by simp) _).set (by simp) _).since (by omega),((hE.setCell (by simp) _).setCell (by simp) _).setCell (by simp) _,HQ.out.1,HQ.out.2⟩
theorem j202(d:Nat)(hd:d<=30)(ih:j25 d)(s:ByteArray)(a:Nat)(w:World)(hs:s.size<=1000000000)(ha:a < s.size)(hc:s[a]=33):
 Calls Tryz.prog 192 #[.string s,.int .i64 a,.int .i64 ((d:Int)+1)] w (j17 w.heap.size w s.size (prs (d+1) s.data.toList a)):=by
 have HI:=hdq (fun W=> y169 d ih s a W hs ha hc hd);have hR:=q36 (d:=d) (q44 ha hc);rw[hR];clear hR
 repeat rw[if_neg (by decide)]
 try rw[if_pos rfl]
 clear ih;go_enter Tryz.func192,Tryz.ntmps192;go_wp2_with fail;refine(HI.out _).mono ?_;intro e w1 hq;obtain⟨t,k1,n1,A1,l1,c1,nx,rfl,hF,e1,HQ⟩:=hq.on;obtain⟨s0,s1,s2,f0,f1,f2⟩:=own3 e1.newBlk;have hsz:=e1.size_alloc;have hE:=((xr w).alloc (.cells #[.int .i64 0,.int .i64 0,.slice none 0 0] 25)).trans e1;have hF':From (w.heap.size+1) w1 t (.agg #[.int .i64 k1,.int .i64 n1,.slice A1 l1 c1]):=by simpa using hF
 clear hq hF;go_wp2_with fail;exact bodyPost_ret (v:= .tuple #[.agg #[.int .i64 k1,.int .i64 n1,.slice A1 l1 c1],.int .i64 nx]) (by simp[results,Tryz.results192,go_sem,s0,s1,s2]) rfl ⟨t,_,nx,rfl,(((hF'.set (by simp) _).set (by simp) _).set (by simp) _).since (by omega),((hE.setCell (by simp) _).setCell (by simp) _).setCell (by simp) _,HQ.out.1,HQ.out.2⟩
theorem j217(d:Nat)(hd:d<=30)(ih:j25 d)(s:ByteArray)(a:Nat)(w:World)(hs:s.size<=1000000000)(ha:a < s.size)(hc:s[a]=94):
 Calls Tryz.prog 192 #[.string s,.int .i64 a,.int .i64 ((d:Int)+1)] w (j17 w.heap.size w s.size (prs (d+1) s.data.toList a)):=by
 have HI:=hdq (fun W=> y179 d ih s a W hs ha hc hd);have hR:=q36 (d:=d) (q44 ha hc);rw[hR];clear hR
 repeat rw[if_neg (by decide)]
 try rw[if_pos rfl]
 clear ih;go_enter Tryz.func192,Tryz.ntmps192;go_wp2_with fail;refine(HI.out _).mono ?_;intro e w1 hq;obtain⟨t,k1,n1,A1,l1,c1,nx,rfl,hF,e1,HQ⟩:=hq.on;obtain⟨s0,s1,s2,f0,f1,f2⟩:=own3 e1.newBlk;have hsz:=e1.size_alloc;have hE:=((xr w).alloc (.cells #[.int .i64 0,.int .i64 0,.slice none 0 0] 25)).trans e1;have hF':From (w.heap.size+1) w1 t (.agg #[.int .i64 k1,.int .i64 n1,.slice A1 l1 c1]):=by simpa using hF
 clear hq hF;go_wp2_with fail;exact bodyPost_ret (v:= .tuple #[.agg #[.int .i64 k1,.int .i64 n1,.slice A1 l1 c1],.int .i64 nx]) (by simp[results,Tryz.results192,go_sem,s0,s1,s2]) rfl ⟨t,_,nx,rfl,(((hF'.set (by simp) _).set (by simp) _).set (by simp) _).since (by omega),((hE.setCell (by simp) _).setCell (by simp) _).setCell (by simp) _,HQ.out.1,HQ.out.2⟩
theorem j201(d:Nat)(hd:d<=30)(ih:j25 d)(s:ByteArray)(a:Nat)(w:World)(hs:s.size<=1000000000)(ha:a < s.size)(hc:s[a]=95):
 Calls Tryz.prog 192 #[.string s,.int .i64 a,.int .i64 ((d:Int)+1)] w (j17 w.heap.size w s.size (prs (d+1) s.data.toList a)):=by
 have HI:=hdq (fun W=> j194 d ih s a W hs ha hc hd);have hR:=q36 (d:=d) (q44 ha hc);rw[hR];clear hR
 repeat rw[if_neg (by decide)]
 try rw[if_pos rfl]
 clear ih;go_enter Tryz.func192,Tryz.ntmps192;go_wp2_with fail;refine(HI.out _).mono ?_;intro e w1 hq;obtain⟨t,k1,n1,A1,l1,c1,nx,rfl,hF,e1,HQ⟩:=hq.on;obtain⟨s0,s1,s2,f0,f1,f2⟩:=own3 e1.newBlk;have hsz:=e1.size_alloc;have hE:=((xr w).alloc (.cells #[.int .i64 0,.int .i64 0,.slice none 0 0] 25)).trans e1;have hF':From (w.heap.size+1) w1 t (.agg #[.int .i64 k1,.int .i64 n1,.slice A1 l1 c1]):=by simpa using hF
 clear hq hF;go_wp2_with fail;exact bodyPost_ret (v:= .tuple #[.agg #[.int .i64 k1,.int .i64 n1,.slice A1 l1 c1],.int .i64 nx]) (by simp[results,Tryz.results192,go_sem,s0,s1,s2]) rfl ⟨t,_,nx,rfl,(((hF'.set (by simp) _).set (by simp) _).set (by simp) _).since (by omega),((hE.setCell (by simp) _).setCell (by simp) _).setCell (by simp) _,HQ.out.1,HQ.out.2⟩
theorem y215(d:Nat)(hd:d<=30)(ih:j25 d)(s:ByteArray)(a:Nat)(w:World)(hs:s.size<=1000000000)(ha:a < s.size)(hc:s[a]=60):
 Calls Tryz.prog 192 #[.string s,.int .i64 a,.int .i64 ((d:Int)+1)] w (j17 w.heap.size w s.size (prs (d+1) s.data.toList a)):=by
 have HI:=hdq (fun W=> j208 d hd ih s a W hs ha hc);have hR:=q36 (d:=d) (q44 ha hc);rw[hR];clear hR
 repeat rw[if_neg (by decide)]
 try rw[if_pos rfl]
 clear ih;go_enter Tryz.func192,Tryz.ntmps192;go_wp2_with fail;refine(HI.out _).mono ?_;intro e w1 hq;obtain⟨t,k1,n1,A1,l1,c1,nx,rfl,hF,e1,HQ⟩:=hq.on;obtain⟨s0,s1,s2,f0,f1,f2⟩:=own3 e1.newBlk;have hsz:=e1.size_alloc;have hE:=((xr w).alloc (.cells #[.int .i64 0,.int .i64 0,.slice none 0 0] 25)).trans e1;have hF':From (w.heap.size+1) w1 t (.agg #[.int .i64 k1,.int .i64 n1,.slice A1 l1 c1]):=by simpa using hF
 clear hq hF;go_wp2_with fail;exact bodyPost_ret (v:= .tuple #[.agg #[.int .i64 k1,.int .i64 n1,.slice A1 l1 c1],.int .i64 nx]) (by simp[results,Tryz.results192,go_sem,s0,s1,s2]) rfl ⟨t,_,nx,rfl,(((hF'.set (by simp) _).set (by simp) _).set (by simp) _).since (by omega),((hE.setCell (by simp) _).setCell (by simp) _).setCell (by simp) _,HQ.out.1,HQ.out.2⟩
theorem q173(d:Nat)(hd:d<=30)(ih:j25 d)(s:ByteArray)(a:Nat)(w:World)(hs:s.size<=1000000000)(ha:a < s.size)(hc:s[a]=123):
 Calls Tryz.prog 192 #[.string s,.int .i64 a,.int .i64 ((d:Int)+1)] w (j17 w.heap.size w s.size (prs (d+1) s.data.toList a)):=by
 have HI:=hdq (fun W=> y177 d hd ih s a W hs ha hc);have hR:=q36 (d:=d) (q44 ha hc);rw[hR];clear hR
 repeat rw[if_neg (by decide)]
 try rw[if_pos rfl]
 clear ih;go_enter Tryz.func192,Tryz.ntmps192;go_wp2_with fail;refine(HI.out _).mono ?_;intro e w1 hq;obtain⟨t,k1,n1,A1,l1,c1,nx,rfl,hF,e1,HQ⟩:=hq.on;obtain⟨s0,s1,s2,f0,f1,f2⟩:=own3 e1.newBlk;have hsz:=e1.size_alloc;have hE:=((xr w).alloc (.cells #[.int .i64 0,.int .i64 0,.slice none 0 0] 25)).trans e1;have hF':From (w.heap.size+1) w1 t (.agg #[.int .i64 k1,.int .i64 n1,.slice A1 l1 c1]):=by simpa using hF
 clear hq hF;go_wp2_with fail;exact bodyPost_ret (v:= .tuple #[.agg #[.int .i64 k1,.int .i64 n1,.slice A1 l1 c1],.int .i64 nx]) (by simp[results,Tryz.results192,go_sem,s0,s1,s2]) rfl ⟨t,_,nx,rfl,(((hF'.set (by simp) _).set (by simp) _).set (by simp) _).since (by omega),((hE.setCell (by simp) _).setCell (by simp) _).setCell (by simp) _,HQ.out.1,HQ.out.2⟩
theorem y199(d:Nat)(hd:d<=30)(ih:j25 d)(s:ByteArray)(a:Nat)(w:World)(hs:s.size<=1000000000)(ha:a < s.size)(hc:s[a]=124):
 Calls Tryz.prog 192 #[.string s,.int .i64 a,.int .i64 ((d:Int)+1)] w (j17 w.heap.size w s.size (prs (d+1) s.data.toList a)):=by
 have HI:=hdq (fun W=> q184 d hd ih s a W hs ha hc);have hR:=q36 (d:=d) (q44 ha hc);rw[hR];clear hR
 repeat rw[if_neg (by decide)]
 try rw[if_pos rfl]
 clear ih;go_enter Tryz.func192,Tryz.ntmps192;go_wp2_with fail;refine(HI.out _).mono ?_;intro e w1 hq;obtain⟨t,k1,n1,A1,l1,c1,nx,rfl,hF,e1,HQ⟩:=hq.on;obtain⟨s0,s1,s2,f0,f1,f2⟩:=own3 e1.newBlk;have hsz:=e1.size_alloc;have hE:=((xr w).alloc (.cells #[.int .i64 0,.int .i64 0,.slice none 0 0] 25)).trans e1;have hF':From (w.heap.size+1) w1 t (.agg #[.int .i64 k1,.int .i64 n1,.slice A1 l1 c1]):=by simpa using hF
 clear hq hF;go_wp2_with fail;exact bodyPost_ret (v:= .tuple #[.agg #[.int .i64 k1,.int .i64 n1,.slice A1 l1 c1],.int .i64 nx]) (by simp[results,Tryz.results192,go_sem,s0,s1,s2]) rfl ⟨t,_,nx,rfl,(((hF'.set (by simp) _).set (by simp) _).set (by simp) _).since (by omega),((hE.setCell (by simp) _).setCell (by simp) _).setCell (by simp) _,HQ.out.1,HQ.out.2⟩
theorem q208(d:Nat)(hd:d<=30)(ih:j25 d)(s:ByteArray)(a:Nat)(w:World)(hs:s.size<=1000000000)(ha:a < s.size)(hc:s[a]=64):
 Calls Tryz.prog 192 #[.string s,.int .i64 a,.int .i64 ((d:Int)+1)] w (j17 w.heap.size w s.size (prs (d+1) s.data.toList a)):=by
 have HI:=hdq (fun W=> y211 d hd ih s a W hs ha hc);have hR:=q36 (d:=d) (q44 ha hc);rw[hR];clear hR
 repeat rw[if_neg (by decide)]
 try rw[if_pos rfl]
 clear ih;go_enter Tryz.func192,Tryz.ntmps192;go_wp2_with fail;refine(HI.out _).mono ?_;intro e w1 hq;obtain⟨t,k1,n1,A1,l1,c1,nx,rfl,hF,e1,HQ⟩:=hq.on;obtain⟨s0,s1,s2,f0,f1,f2⟩:=own3 e1.newBlk;have hsz:=e1.size_alloc;have hE:=((xr w).alloc (.cells #[.int .i64 0,.int .i64 0,.slice none 0 0] 25)).trans e1;have hF':From (w.heap.size+1) w1 t (.agg #[.int .i64 k1,.int .i64 n1,.slice A1 l1 c1]):=by simpa using hF
 clear hq hF;go_wp2_with fail;exact bodyPost_ret (v:= .tuple #[.agg #[.int .i64 k1,.int .i64 n1,.slice A1 l1 c1],.int .i64 nx]) (by simp[results,Tryz.results192,go_sem,s0,s1,s2]) rfl ⟨t,_,nx,rfl,(((hF'.set (by simp) _).set (by simp) _).set (by simp) _).since (by omega),((hE.setCell (by simp) _).setCell (by simp) _).setCell (by simp) _,HQ.out.1,HQ.out.2⟩
theorem q216(d:Nat)(hd:d<=30)(ih:j25 d)(s:ByteArray)(a:Nat)(w:World)(hs:s.size<=1000000000)(ha:a < s.size)(hc:s[a]=40):
 Calls Tryz.prog 192 #[.string s,.int .i64 a,.int .i64 ((d:Int)+1)] w (j17 w.heap.size w s.size (prs (d+1) s.data.toList a)):=by
 have HI:=hdq (fun W=> rnd40 d ih s a W hs ha);have hR:=q36 (d:=d) (q44 ha hc);rw[hR];clear hR
 repeat rw[if_neg (by decide)]
 try rw[if_pos rfl]
 clear ih;go_enter Tryz.func192,Tryz.ntmps192;go_wp2_with fail;refine(HI.out _).mono ?_;intro e w1 hq;obtain⟨t,k1,n1,A1,l1,c1,nx,rfl,hF,e1,HQ⟩:=hq.on;obtain⟨s0,s1,s2,f0,f1,f2⟩:=own3 e1.newBlk;have hsz:=e1.size_alloc;have hE:=((xr w).alloc (.cells #[.int .i64 0,.int .i64 0,.slice none 0 0] 25)).trans e1;have hF':From (w.heap.size+1) w1 t (.agg #[.int .i64 k1,.int .i64 n1,.slice A1 l1 c1]):=by simpa using hF
 clear hq hF;go_wp2_with fail;exact bodyPost_ret (v:= .tuple #[.agg #[.int .i64 k1,.int .i64 n1,.slice A1 l1 c1],.int .i64 nx]) (by simp[results,Tryz.results192,go_sem,s0,s1,s2]) rfl ⟨t,_,nx,rfl,(((hF'.set (by simp) _).set (by simp) _).set (by simp) _).since (by omega),((hE.setCell (by simp) _).setCell (by simp) _).setCell (by simp) _,HQ.out.1,HQ.out.2⟩
end Go.Proofs.YtdkamgafpphdjaaGreat
namespace Go.Proofs.YtdkamgafpphdjaaGreat
open Go.RowKit
set_option linter.unusedVariables false
attribute [local go_sem ↓] Go.wp_at_zero Go.wp_at_succ
theorem q27{w:World}{base base' k n:Nat}{e:TypeId}{v:Value}{xs:List Value}(h:w.ownsRow base e k v n xs)(hb:base'<=base):w.ownsRow base' e k v n xs:=by
 refine⟨h.1, ?_⟩;rcases h.2 with h|⟨g,cap,cur,rfl,h1,r⟩
 · exact .inl h
 · exact .inr ⟨g,cap,cur,rfl,Nat.le_trans hb h1,r⟩
def y219(w:World)(u:Value)(p:List Int):Prop:=j95 w (fun b=> b < w.heap.size) u p
theorem y219.ext{w w':World}{u:Value}{p:List Int}(h:y219 w u p)(he:Ext w w'):y219 w' u p:=h.mono (fun b hb=> Nat.lt_of_lt_of_le hb he.size) (fun b hb=> he.heap b hb)
theorem j26{w:World}{base:Nat}{e:TypeId}{v:Value}{p:List Int}(h:w.ownsRow base e 1 v p.length (p.map (Value.int .i64))):y219 w v p:=(y129 h).mono (fun b hb=> hb.2.1) (fun _ _=> rfl)
theorem q152:(Tryz.prog.info? 3).map (fun i=>(i.zero,i.size,i.bytes))=some (some (.int .i64 0),1,8):=by kernel_rfl
end Go.Proofs.YtdkamgafpphdjaaGreat
namespace Go.Proofs.YtdkamgafpphdjaaGreat
open Go.RowKit
set_option linter.unusedVariables false
def EG(x y:World×List Nat):Prop:=Ext x.1 y.1/\(∀g,g∈x.2->g∈y.2)/\(∀g,g∈y.2->g∈x.2\/x.1.heap.size<=g)/\ ∀g,g∈y.2->g < y.1.heap.size
theorem EG.start(w:World):EG (w, []) (w, []):=⟨xr _,fun _ h=> h,fun g h=> .inl h,fun g h=> by cases h⟩
theorem EG.trans{x y z:World×List Nat}(h:EG x y)(k:EG y z):EG x z:=by
 refine⟨h.1.trans k.1,fun g hg=> k.2.1 g (h.2.1 g hg),fun g hg=> ?_,k.2.2.2⟩;rcases k.2.2.1 g hg with e|e
 · exact h.2.2.1 g e
 · exact .inr (Nat.le_trans h.1.size e)
theorem eSq{x:World×List Nat}{w w':World}{z:List Nat}(h:EG x (w,z))(e:Ext w w'):EG (w,z) (w',z):=
 ⟨e,fun _ h=> h,fun _ h=> .inl h,fun g hg=> Nat.lt_of_lt_of_le (h.2.2.2 g hg) e.size⟩
theorem EG.id{x:World×List Nat}{w:World}{z:List Nat}(h:EG x (w,z)):EG (w,z) (w,z):=eSq h (xr _)
theorem EG.box{x:World×List Nat}{w:World}{o:Obj}{z:List Nat}(h:EG x (w,z)):EG (w,z) (w.alloc o,w.heap.size::z):=by
 refine⟨(xr _).alloc _,fun _ h=> List.mem_cons_of_mem _ h,fun g hg=> ?_,fun g hg=> ?_⟩
 · rcases List.mem_cons.1 hg with rfl|hg
   · exact .inr (Nat.le_refl _)
   · exact .inl hg
 · have:(w.alloc o).heap.size=w.heap.size+1:=by simp
   rcases List.mem_cons.1 hg with rfl|hg
   · show w.heap.size <(w.alloc o).heap.size;omega
   · have:=h.2.2.2 g hg;show g <(w.alloc o).heap.size;simp only at this;omega
def Mz(M:Nat->Prop)(z:List Nat)(b:Nat):Prop:=M b/\ ¬b∈z
theorem Mz.later{M:Nat->Prop}{x y:World×List Nat}(h:EG x y){b:Nat}(hb:Mz M x.2 b/\b < x.1.heap.size):Mz M y.2 b:=by
 refine⟨hb.1.1,fun e=> ?_⟩;rcases h.2.2.1 b e with f|f
 · exact hb.1.2 f
 · have:=hb.2
   omega
theorem InT.laterG{M:Nat->Prop}{x y:World×List Nat}{t:Tr}{v:Value}(h:InT x.1 (Mz M x.2) t v)(e:EG x y):InT y.1 (Mz M y.2) t v:=
 InT.mono (fun b hb=> Mz.later e hb) (fun _ _=> rfl) (h.bound.later e.1)
theorem InK.laterG{M:Nat->Prop}{x y:World×List Nat}{A:Option Addr}{ks:List Tr}(h:InK x.1 (Mz M x.2) A ks)(e:EG x y):InK y.1 (Mz M y.2) A ks:=
 InK.mono (fun b hb=> Mz.later e hb) (fun _ _=> rfl) (h.bound.later e.1)
theorem InT.oldG{M:Nat->Prop}{W w:World}{z:List Nat}{t:Tr}{v:Value}(h:InT W M t v)(e:EG (W.drew, []) (w,z)):InT w (Mz M z) t v:=
 InT.laterG (x:=(W.drew, [])) (y:=(w,z)) (InT.mono (fun b hb=>⟨hb,fun h=> by cases h⟩) (fun _ _=> rfl) (InT.later h (xr W).drew)) e
theorem EG.news{M:Nat->Prop}{x:World×List Nat}{w:World}{z:List Nat}(h:EG x (w,z))(hM: ∀b,w.heap.size<=b->M b): ∀b,w.heap.size<=b->Mz M z b:=
 fun b hb=>⟨hM b hb,fun e=> by have:=h.2.2.2 b e;simp only at this;omega⟩
theorem step_if{P:Program}{ops:Array Oper}{Q:Exit->Act->World->Prop}{i j:Nat}{o:Oper}{a:Act}{w:World}{R:Act->World->Prop}{y b:Bool}{d:Nat}(ho:ops[i]? =some o)(hg:o.guard=some (j,y))(hj:Ord.dstOf ops j=some d)(hv:a.eval (.tmp d)= .bool b)
 (h1:b=y-> ∀K:Act->World->Prop,(∀a' w',R a' w'->K a' w')->o.wp P a w K Q) (h2: ¬b=y->R (a.put o.dst undef) w):wpOp P ops Q i R a w:=by
 have hs:a.tmps[d]? =some (.bool b):=by
  rw[show a.eval (.tmp d)=a.tmps.getD d undef from rfl,Array.getD_eq_getD_getElem?] at hv;cases h:a.tmps[d]?with
  |none=> rw[h] at hv;cases hv
  |some x=> rw[h] at hv;simp only[Option.getD_some] at hv;rw[hv]
 have hy:yielded ops a.tmps j=some b:=by
  unfold yielded;rw[show((ops[j]?).bind fun x=> x.dst)=some d from hj];simp only[Option.bind_some,hs]
 unfold wpOp;rw[ho];simp only;unfold Region.wanted;rw[hg];simp only[hy];by_cases e:b=y
 · rw[if_pos (by simp[e])]
   exact .inl (h1 e R fun _ _ h=> h)
 · rw[if_neg (by simpa using e)]
   exact h2 e
def Sp.holdsG:Sp->Value->World×List Nat->Prop
 | .any,_,_=> True
 | .val u,v,_=> v=u
 | .tree M t,v,x=> InT x.1 (Mz M x.2) t v
 | .row M ts,v,x=> ∃A c,v= .slice A ts.length c/\ts.length<=c/\c<=maxLen/\InK x.1 (Mz M x.2) A ts
 | .two M t c,v,x=> ∃u,v= .tuple #[u,c]/\InT x.1 (Mz M x.2) t u
 | .box W,v,x=> ∃g,v= .pointer (some ⟨g,0,none⟩)/\g∈x.2/\BoxAt W x.1 g
theorem Sp.extG: ∀{s:Sp} {v:Value} {x y:World×List Nat},s.holdsG v x->EG x y->s.holdsG v y
 | .any,_,_,_,_,_=> trivial
 | .val u,_,_,_,h,_=> h
 | .tree M t,_,_,_,h,e=> InT.laterG h e
 | .row M ts,_,_,_,h,e=> by
  obtain⟨A,c,h1,h2,h3,h4⟩:=h;exact⟨A,c,h1,h2,h3,InK.laterG h4 e⟩
 | .two M t c,_,_,_,h,e=> by
  obtain⟨u,h1,h2⟩:=h;exact⟨u,h1,InT.laterG h2 e⟩
 | .box W,_,_,_,h,e=> by
  obtain⟨g,h1,hz,h2,h3⟩:=h;exact⟨g,h1,e.2.1 g hz,h2,e.1.blk h3⟩
def spGG(l:List Sp)(i:Nat)(v:Value)(x:World×List Nat):Prop:=(l.getD i .any).holdsG v x
theorem j151(l:List Sp): ∀i v x y,spGG l i v x->EG x y->spGG l i v y:=fun i v x y h e=> Sp.extG h e
theorem ordG{P:Program}{ops:Array Oper}{Q:Exit->Act->World->Prop}{l0:Array Bool}{a0:Act}{fuel:Nat}(W:World)(m N:Nat)(lT:Array Bool)(fT:Nat)(l:List Sp)(hok:Ord.okO ops l0 m N=true)(hN:a0.tmps.size=N)(hf:fuel=Ord.opnO l0 ops.size)(hlT:Ord.doneO l0 m=lT)(hfT:Ord.opnO lT ops.size=fT)
 (steps:OrdG.StepsO P ops Q l0 m EG (spGG l) a0 (W.drew, []) 0 (ops.toList.take m))
 (fin: ∀(v:Nat->Value) w z,EG (W.drew, []) (w,z)->(∀j,j < m->Ord.isOn l0 j=false->spGG l j (v j) (w,z))->wpAnyH P .any ops Q (fun _=> True) fT lT (Ord.putN ops v (fun j=> !Ord.isOn l0 j) a0 m) w):
 wpAnyH P .any ops Q (fun _=> True) fuel l0 a0 W.drew:=
 OrdG.wpAnyH_order (w0:=(W.drew, [])) hok hN hf hlT hfT (EG.start _) (fun _ _ _ h h'=> h.trans h') (j151 _) (fun _ _ _=> trivial) steps fin
theorem q201(d:Nat)(hd:d<=30)(ih:j25 d)(s:ByteArray)(a:Nat)(w:World)(hs:s.size<=1000000000)(ha:a < s.size)(hc:s[a]=91):
 Calls Tryz.prog 192 #[.string s,.int .i64 a,.int .i64 ((d:Int)+1)] w (j17 w.heap.size w s.size (prs (d+1) s.data.toList a)):=by
 have hR0:prs (d+1) s.data.toList a=sqr (prs d s.data.toList) s.data.toList (a+1):=by rw[q36 (q44 ha hc)];rfl
 rw[hR0];clear hR0;have HI:=hdq (fun(a:Nat) (A:Int) (hA:A=a) W (ha:a<=s.size+2)=>(show Calls Tryz.prog 192 #[.string s,.int .i64 A,.int .i64 d] W (j17 W.heap.size W s.size (prs d s.data.toList a)) from by subst hA;exact ih s a W hs ha));obtain⟨F,hF⟩: ∃F,F=prs d s.data.toList:=⟨_,rfl⟩;rw[<-hF] at HI⊢;have hdef:sqr F s.data.toList (a+1)=match F (a+1) with
  |none=> none
  |some (x,b)=> if s.data.toList[b]? =some 93 then(match F (b+1) with|none=> none|some (y,c)=> some (.mk 4 0 [x,y],c)) else none:=rfl
 obtain⟨R,hR⟩: ∃R,R=sqr F s.data.toList (a+1):=⟨_,rfl⟩;rw[<-hR] at hdef⊢;have HD:=hdq hdef;clear hR ih hF hdef;go_enter Tryz.func192,Tryz.ntmps192;go_wp2_with fail;refine(HI.out (a+1) _ (by omega) _ (by omega)).mono ?_;rintro e w1 ⟨t,u,nx,rfl,hF,e1,q1,q2⟩;obtain⟨k0,n0,A0,l0,c0,rfl⟩:=hF.three;have hb:=e1.newBlk;have hsz:=e1.size_alloc;have hx0:=((xr w).alloc (.cells #[.int .i64 0,.int .i64 0,.slice none 0 0] 25)).trans e1;have hx1:=hx0.trans ((xr w1).alloc (.cells #[.int .i64 k0,.int .i64 n0,.slice A0 l0 c0] 25));have hF1:=hF.ext ((xr w1).alloc (.cells #[.int .i64 k0,.int .i64 n0,.slice A0 l0 c0] 25));simp only[World.size_alloc] at hF1;have hb':=((xr w1).alloc (.cells #[.int .i64 k0,.int .i64 n0,.slice A0 l0 c0] 25)).blk hb;have hbA:=heap_alloc_new w1 (.cells #[.int .i64 k0,.int .i64 n0,.slice A0 l0 c0] 25);cases hFa:F (a+1) with
 |none=>
  obtain rfl:=q2 hFa;have hRn:=HD.out;rw[hFa] at hRn;have HR:=hdq hRn;obtain⟨s0,s1,s2,f0,f1,f2⟩:=own3 hb';clear q1 q2 hRn hFa hsz;go_wp2_with fail;exact bodyPost_ret (v:= .tuple #[.agg #[.int .i64 0,.int .i64 0,.slice none 0 0],.int .i64 (-1)]) (by simp[results,Tryz.results192,go_sem,s0,s1,s2]) rfl (q54 _ _ _ _ _ HR.out (((hx1.setCell (by simp) _).setCell (by simp) _).setCell (by simp) _))
 |some y=>
  obtain⟨x,b⟩:=y;obtain⟨h1,h2,h3⟩:=q1 _ hFa;simp only at h1 h2 h3;have hRs:=HD.out;rw[hFa] at hRs;simp only at hRs;subst h1 h2;clear q1 q2 hFa;have t0:decide ((b:Int) < 0)=false:=decide_eq_false (by omega);by_cases hlt:b < s.size
  · obtain⟨c,hcc⟩: ∃c,s[b]=c:=⟨_,rfl⟩
    rw[q44 hlt hcc] at hRs;have hbz:(b:Int) <(s.size:Int):=by omega
    have t1:decide ((s.size:Int)<=(b:Int))=false:=decide_eq_false (by omega);obtain⟨m,hm⟩: ∃m,c.toNat=m:=⟨_,rfl⟩;by_cases h93:c=93
    · have hm93:m=93:=by rw[<-hm,h93];rfl
      rw[if_pos (by rw[h93])] at hRs;subst hm93;have HRS:=hdq hRs;clear hRs h93;go_wp2_with fail;refine(HI.out (b+1) _ (by omega) _ (by omega)).mono ?_;rintro e w2 ⟨t',u',nx',rfl,hF',e2,q1,q2⟩;obtain⟨k1,n1,A1,l1,c1,rfl⟩:=hF'.three;have hs2:=e2.size_alloc;have hxa:=e2.trans ((xr w2).alloc (.cells #[.int .i64 k1,.int .i64 n1,.slice A1 l1 c1] 25));have hb2:=hxa.blk hb';have hbA2:=hxa.blk hbA;have hbB:=heap_alloc_new w2 (.cells #[.int .i64 k1,.int .i64 n1,.slice A1 l1 c1] 25);obtain⟨x0,x1,x2,-,-,-⟩:=own3 hbA2;have hx2:=hx1.trans hxa;have hF2:=hF1.ext hxa;have hF2':=(hF'.ext ((xr w2).alloc (.cells #[.int .i64 k1,.int .i64 n1,.slice A1 l1 c1] 25))).since (show w.heap.size+1<=_ by simp;omega);have HQ1:=hdq q1;have HQ2:=hdq q2;clear q1 q2 hs2;go_wp2_with fail;refine(y28 (w.heap.size+1) _ 4 _ 2 [t,t'] (by intro h;cases h) (j18.two (g:=w2.heap.size+1) (e:=25) hF2 hF2' (by have:=e2.size_alloc;simp;omega) (by simp)) (by have:=e2.size_alloc;simp;omega) (by simp)).mono ?_;rintro e w3 ⟨v,rfl,hN,e3⟩;obtain⟨k3,n3,A3,l3,c3,rfl⟩:=hN.three;obtain⟨z0,z1,z2,g0,g1,g2⟩:=own3 (e3.blk (((xr _).alloc _).blk hb2));have hx3:=hx2.trans (((xr _).alloc _).trans e3);clear x0 x1 x2;go_wp2_with fail;refine bodyPost_ret (v:= .tuple #[.agg #[.int .i64 k3,.int .i64 n3,.slice A3 l3 c3],.int .i64 nx']) (by simp[results,Tryz.results192,go_sem,z0,z1,z2]) rfl ⟨_,_,_,rfl,(((hN.set (by simp) _).set (by simp) _).set (by simp) _).since (by omega),((hx3.setCell (by simp) _).setCell (by simp) _).setCell (by simp) _, ?_, ?_⟩
      · intro x hx
        rw[HRS.out] at hx;cases hFb:F (b+1) with
        |none=> rw[hFb] at hx;cases hx
        |some y2=>
         rw[hFb] at hx;cases hx
         obtain⟨g1,g2,g3⟩:=HQ1.out _ hFb;exact⟨by rw[g1],g2,g3⟩
      · intro hx
        rw[HRS.out] at hx;cases hFb:F (b+1) with
        |none=> exact HQ2.out hFb
        |some y2=> rw[hFb] at hx;cases hx
    · rw[if_neg (by intro h;cases h;exact h93 rfl)] at hRs
      have HR:=hdq hRs;have t7:((m:Int) !=93)=true:=by rw[bne_iff_ne];intro h;exact h93 (UInt8.toNat_inj.1 (by rw[hm];simp;omega))
      obtain⟨s0,s1,s2,f0,f1,f2⟩:=own3 hb';clear hRs h93 hsz;go_wp2_with fail;exact bodyPost_ret (v:= .tuple #[.agg #[.int .i64 0,.int .i64 0,.slice none 0 0],.int .i64 (-1)]) (by simp[results,Tryz.results192,go_sem,s0,s1,s2]) rfl (q54 _ _ _ _ _ HR.out (((hx1.setCell (by simp) _).setCell (by simp) _).setCell (by simp) _))
  · rw[j40 s (by omega),if_neg (by simp)] at hRs
    have HR:=hdq hRs;have t1:decide ((s.size:Int)<=(b:Int))=true:=decide_eq_true (by omega);obtain⟨s0,s1,s2,f0,f1,f2⟩:=own3 hb';clear hRs hsz;go_wp2_with fail;exact bodyPost_ret (v:= .tuple #[.agg #[.int .i64 0,.int .i64 0,.slice none 0 0],.int .i64 (-1)]) (by simp[results,Tryz.results192,go_sem,s0,s1,s2]) rfl (q54 _ _ _ _ _ HR.out (((hx1.setCell (by simp) _).setCell (by simp) _).setCell (by simp) _))
theorem j41{c:UInt8}{p:Nat}{v:UInt8}(hp:c.toNat=p)(h:c≠v):((p:Int)==(v.toNat:Int))=false:=by
 rw[beq_eq_false_iff_ne];intro e;exact h (UInt8.toNat_inj.1 (by rw[hp];omega))
theorem q210(d:Nat)(hd:d<=30)(s:ByteArray)(a:Nat)(w:World)(hs:s.size<=1000000000)(ha:a < s.size)(c:UInt8)(hc:s[a]=c)
 (h1:c≠35) (h2:c≠42) (h3:c≠78) (h4:c≠48) (h5:c≠43) (h6:c≠33) (h7:c≠94) (h8:c≠95) (h9:c≠40) (h10:c≠91) (hk:blkK c=0):
 Calls Tryz.prog 192 #[.string s,.int .i64 a,.int .i64 ((d:Int)+1)] w (j17 w.heap.size w s.size (prs (d+1) s.data.toList a)):=by
 have HI:=hdq (fun W=> q203 d hd s a W hs ha c hc hk);have hR:=q36 (d:=d) (q44 ha hc);rw[if_neg h1,if_neg h2,if_neg h3,if_neg h4,if_neg h5,if_neg h6,if_neg h7,if_neg h8,if_neg h9,if_neg h10] at hR;rw[hR];obtain⟨p,hp⟩: ∃p,c.toNat=p:=⟨_,rfl⟩;have t1:((p:Int)==35)=false:=j41 hp h1;have t2:((p:Int)==42)=false:=j41 hp h2;have t3:((p:Int)==78)=false:=j41 hp h3;have t4:((p:Int)==48)=false:=j41 hp h4;have t5:((p:Int)==43)=false:=j41 hp h5;have t6:((p:Int)==33)=false:=j41 hp h6;have t7:((p:Int)==94)=false:=j41 hp h7;have t8:((p:Int)==95)=false:=j41 hp h8;have t9:((p:Int)==40)=false:=j41 hp h9;have t10:((p:Int)==91)=false:=j41 hp h10;clear hR h1 h2 h3 h4 h5 h6 h7 h8 h9 h10 hk;go_enter Tryz.func192,Tryz.ntmps192;go_wp2_with fail;refine(HI.out _).mono ?_;intro e w1 hq;obtain⟨t,k1,n1,A1,l1,c1,nx,rfl,hF,e1,HQ⟩:=hq.on;obtain⟨s0,s1,s2,f0,f1,f2⟩:=own3 e1.newBlk;have hsz:=e1.size_alloc;have hE:=((xr w).alloc (.cells #[.int .i64 0,.int .i64 0,.slice none 0 0] 25)).trans e1;have hF':From (w.heap.size+1) w1 t (.agg #[.int .i64 k1,.int .i64 n1,.slice A1 l1 c1]):=by simpa using hF
 clear hq hF;go_wp2_with fail;exact bodyPost_ret (v:= .tuple #[.agg #[.int .i64 k1,.int .i64 n1,.slice A1 l1 c1],.int .i64 nx]) (by simp[results,Tryz.results192,go_sem,s0,s1,s2]) rfl ⟨t,_,nx,rfl,(((hF'.set (by simp) _).set (by simp) _).set (by simp) _).since (by omega),((hE.setCell (by simp) _).setCell (by simp) _).setCell (by simp) _,HQ.out.1,HQ.out.2⟩
theorem j161(s:ByteArray)(a:Nat)(w:World):Calls Tryz.prog 192 #[.string s,.int .i64 a,.int .i64 0] w (j17 w.heap.size w s.size none):=by
 go_enter Tryz.func192,Tryz.ntmps192;go_wp2_with fail;exact bodyPost_ret (v:= .tuple #[.agg #[.int .i64 0,.int .i64 0,.slice none 0 0],.int .i64 (-1)]) (by simp[results,Tryz.results192,go_sem]) rfl (q54 _ _ _ _ _ rfl ((xr w).alloc _))
theorem j187(d:Nat)(hd:d<=30)(s:ByteArray)(a:Nat)(w:World)(hs:s.size<=1000000000)(ha:s.size<=a):Calls Tryz.prog 192 #[.string s,.int .i64 a,.int .i64 ((d:Int)+1)] w (j17 w.heap.size w s.size none):=by
 have t0:decide ((a:Int) < 0)=false:=decide_eq_false (by omega);have t1:decide ((s.size:Int)<=(a:Int))=true:=decide_eq_true (by omega);go_enter Tryz.func192,Tryz.ntmps192;go_wp2_with fail;exact bodyPost_ret (v:= .tuple #[.agg #[.int .i64 0,.int .i64 0,.slice none 0 0],.int .i64 (-1)]) (by simp[results,Tryz.results192,go_sem]) rfl (q54 _ _ _ _ _ rfl ((xr w).alloc _))
theorem y77: ∀d:Nat,d<=30->j25 d
 |0,_=> fun s a w hs ha=> j161 s a w
 |d+1,hd=> by
  have ih:=y77 d (by omega);intro s a w hs ha;rw[show((d+1:Nat):Int)=(d:Int)+1 by omega];have hd':d<=30:=by omega
  rcases Nat.lt_or_ge a s.size with hlt|hge
  · obtain⟨c,hc⟩: ∃c,s[a]=c:=⟨_,rfl⟩
    by_cases h35:c=35
    · exact y212 d hd' s a w hs hlt (by rw[hc,h35])
    by_cases h42:c=42
    · exact q202 d hd' s a w hs hlt (by rw[hc,h42])
    by_cases h78:c=78
    · exact q214 d hd' s a w hs hlt (by rw[hc,h78])
    by_cases h48:c=48
    · exact j203 d hd' s a w hs hlt (by rw[hc,h48])
    by_cases h43:c=43
    · exact j213 d hd' ih s a w hs hlt (by rw[hc,h43])
    by_cases h33:c=33
    · exact j202 d hd' ih s a w hs hlt (by rw[hc,h33])
    by_cases h94:c=94
    · exact j217 d hd' ih s a w hs hlt (by rw[hc,h94])
    by_cases h95:c=95
    · exact j201 d hd' ih s a w hs hlt (by rw[hc,h95])
    by_cases h40:c=40
    · exact q216 d hd' ih s a w hs hlt (by rw[hc,h40])
    by_cases h91:c=91
    · exact q201 d hd' ih s a w hs hlt (by rw[hc,h91])
    by_cases h60:c=60
    · exact y215 d hd' ih s a w hs hlt (by rw[hc,h60])
    by_cases h123:c=123
    · exact q173 d hd' ih s a w hs hlt (by rw[hc,h123])
    by_cases h124:c=124
    · exact y199 d hd' ih s a w hs hlt (by rw[hc,h124])
    by_cases h64:c=64
    · exact q208 d hd' ih s a w hs hlt (by rw[hc,h64])
    exact q210 d hd' s a w hs hlt c hc h35 h42 h78 h48 h43 h33 h94 h95 h40 h91 (by unfold blkK;rw[if_neg h60,if_neg h123,if_neg h124,if_neg h64])
  · rw[y145 (j40 s hge)]
    exact j187 d hd' s a w hs hge
end Go.Proofs.YtdkamgafpphdjaaGreat
namespace Go.Proofs.YtdkamgafpphdjaaGreat
open Go.RowKit
set_option linter.unusedVariables false
attribute [local go_sem ↓] Go.wp_at_zero Go.wp_at_succ
theorem q21{t:Tr}(h:valid sigT t=true):cnt t<=400/\shape sigT t 30=true:=by
 unfold valid at h;rw[Bool.and_eq_true] at h;exact⟨of_decide_eq_true h.2,h.1⟩
end Go.Proofs.YtdkamgafpphdjaaGreat
