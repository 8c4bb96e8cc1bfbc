/-
  Lemmas towards the law, 20: Parse4, Redex, Box, OrdT, DefTypes.
-/
import Derived.Test.YtdkamgafpphdjaaGreatUAQ
set_option maxHeartbeats 1000000
set_option maxRecDepth 100000
namespace Go.Proofs.YtdkamgafpphdjaaGreat
open Go.RowKit
set_option linter.unusedVariables false
theorem q80(d:Nat)(ih:j25 d)(s:ByteArray)(a many:Nat)(last:UInt8)(A M L:Int)(hA:A=a)(hM:M=many)(hL:L=(last.toNat:Int))(w:World)(hs:s.size<=1000000000)(ha:a<=s.size+2)(hm:many<=4)(hm1:1<=many):
 Calls Tryz.prog 220 #[.string s,.int .i64 A,.int .i64 d,.int .i64 M,.int .u8 L] w (SerQ w.heap.size w s.size (ser (prs d s.data.toList) s.data.toList last many a)):=by
 subst hA hM hL;exact j166 d ih s a many last w hs ha hm hm1
theorem q54(B:Nat)(w w':World)(size:Nat)(o:Option (Tr×Nat))(ho:o=none)(hx:Ext w w'):j17 B w size o (.returned (.tuple #[.agg #[.int .i64 0,.int .i64 0,.slice none 0 0],.int .i64 (-1)])) w':=
 ⟨.mk 0 0 [],_,-1,rfl,From.leaf _ _ _ _,hx,(fun x hx=> by rw[ho] at hx;cases hx),fun _=> rfl⟩
theorem j18.set{B:Nat}{w:World}{A:Option Addr}{ks:List Tr}(h:j18 B w A ks){p:Addr}(hp:p.block < B)(u:Value):j18 B (w.setCell p u) A ks:=
 h.mono (fun b hb=>⟨hb.1,by simpa using hb.2⟩) (fun b hb=> Below.heap_setCell w p u b (by omega))
theorem From.mk{B:Nat}{w:World}{A:Option Addr}{ks:List Tr}{cap:Nat}(k n:Int)(h:j18 B w A ks)(hl:ks.length<=cap)(hc:cap<=maxLen):From B w (.mk k n ks) (.agg #[.int .i64 k,.int .i64 n,.slice A ks.length cap]):=InT.mk_iff.2 ⟨A,cap,rfl,hl,hc,h⟩
theorem j208(d:Nat)(hd:d<=30)(ih:j25 d)(s:ByteArray)(a:Nat)(w:World)(hs:s.size<=1000000000)(ha:a < s.size)(hc:s[a]=60):
 Calls Tryz.prog 210 #[.string s,.int .i64 a,.int .i64 ((d:Int)+1)] w (j17 w.heap.size w s.size (blk (prs d s.data.toList) s.data.toList a 60)):=by
 have HI:=hdq (fun W=> q80 d ih s (a+1) 4 62 ((a:Int)+1) 4 62 (by omega) (by omega) (by decide) W hs (by omega) (by omega) (by omega));obtain⟨F,hF⟩: ∃F,F=prs d s.data.toList:=⟨_,rfl⟩;rw[<-hF] at HI⊢;obtain⟨S,hS⟩: ∃S,S=ser F s.data.toList 62 4 (a+1):=⟨_,rfl⟩;rw[<-hS] at HI;have hR:blk F s.data.toList a 60=S.map (fun x=>(.mk 9 0 x.1,x.2)):=by rw[hS];rfl
 rw[hR];have HK:=hdq (fun W=> y22 9 W);have hop:opsT 9=4:=rfl;rw[hop] at HK;clear hR ih hF hS hop;go_enter Tryz.func210,Tryz.ntmps210;go_wp2_with fail;refine(HK.out _).mono ?_;rintro e w0 ⟨rfl,rfl⟩;go_wp2_with fail;refine(HI.out _).mono ?_;rintro e w1 ⟨ts,A,cap,nx,rfl,h1,h2,hK,e1,q1,q2⟩;obtain⟨s0,s1,s2,f0,f1,f2⟩:=own3 e1.newBlk;have hsz:=e1.size_alloc;have hx:=((xr w).alloc (.cells #[.int .i64 0,.int .i64 0,.slice none 0 0] 25)).trans e1;have HQ1:=hdq q1;have HQ2:=hdq q2;have hK':j18 (w.heap.size+1) w1 A ts:=by simpa using hK
 clear q1 q2 hK;go_wp2_with fail;refine bodyPost_ret (v:= .tuple #[.agg #[.int .i64 9,.int .i64 0,.slice A ts.length cap],.int .i64 nx]) (by simp[results,Tryz.results210,go_sem,s0,s1,s2]) rfl ⟨.mk 9 0 ts,_,nx,rfl, ?_, ?_, ?_, ?_⟩
 · exact(From.mk 9 0 (((hK'.set (by simp) _).set (by simp) _).set (by simp) _) h1 h2).since (by omega)
 · exact((hx.setCell (by simp) _).setCell (by simp) _).setCell (by simp) _
 · intro x hx
   cases S with
   |none=> cases hx
   |some y=>
    obtain⟨g1,g2,g3⟩:=HQ1.out y rfl;cases hx
    exact⟨by rw[g1],g2,g3⟩
 · intro hx
   cases S with
   |none=> exact HQ2.out rfl
   |some y=> cases hx
theorem y177(d:Nat)(hd:d<=30)(ih:j25 d)(s:ByteArray)(a:Nat)(w:World)(hs:s.size<=1000000000)(ha:a < s.size)(hc:s[a]=123):
 Calls Tryz.prog 210 #[.string s,.int .i64 a,.int .i64 ((d:Int)+1)] w (j17 w.heap.size w s.size (blk (prs d s.data.toList) s.data.toList a 123)):=by
 have HI:=hdq (fun W=> q80 d ih s (a+1) 3 125 ((a:Int)+1) 3 125 (by omega) (by omega) (by decide) W hs (by omega) (by omega) (by omega));obtain⟨F,hF⟩: ∃F,F=prs d s.data.toList:=⟨_,rfl⟩;rw[<-hF] at HI⊢;obtain⟨S,hS⟩: ∃S,S=ser F s.data.toList 125 3 (a+1):=⟨_,rfl⟩;rw[<-hS] at HI;have hR:blk F s.data.toList a 123=S.map (fun x=>(.mk 10 0 x.1,x.2)):=by rw[hS];rfl
 rw[hR];have HK:=hdq (fun W=> y22 10 W);have hop:opsT 10=3:=rfl;rw[hop] at HK;clear hR ih hF hS hop;go_enter Tryz.func210,Tryz.ntmps210;go_wp2_with fail;refine(HK.out _).mono ?_;rintro e w0 ⟨rfl,rfl⟩;go_wp2_with fail;refine(HI.out _).mono ?_;rintro e w1 ⟨ts,A,cap,nx,rfl,h1,h2,hK,e1,q1,q2⟩;obtain⟨s0,s1,s2,f0,f1,f2⟩:=own3 e1.newBlk;have hsz:=e1.size_alloc;have hx:=((xr w).alloc (.cells #[.int .i64 0,.int .i64 0,.slice none 0 0] 25)).trans e1;have HQ1:=hdq q1;have HQ2:=hdq q2;have hK':j18 (w.heap.size+1) w1 A ts:=by simpa using hK
 clear q1 q2 hK;go_wp2_with fail;refine bodyPost_ret (v:= .tuple #[.agg #[.int .i64 10,.int .i64 0,.slice A ts.length cap],.int .i64 nx]) (by simp[results,Tryz.results210,go_sem,s0,s1,s2]) rfl ⟨.mk 10 0 ts,_,nx,rfl, ?_, ?_, ?_, ?_⟩
 · exact(From.mk 10 0 (((hK'.set (by simp) _).set (by simp) _).set (by simp) _) h1 h2).since (by omega)
 · exact((hx.setCell (by simp) _).setCell (by simp) _).setCell (by simp) _
 · intro x hx
   cases S with
   |none=> cases hx
   |some y=>
    obtain⟨g1,g2,g3⟩:=HQ1.out y rfl;cases hx
    exact⟨by rw[g1],g2,g3⟩
 · intro hx
   cases S with
   |none=> exact HQ2.out rfl
   |some y=> cases hx
theorem q184(d:Nat)(hd:d<=30)(ih:j25 d)(s:ByteArray)(a:Nat)(w:World)(hs:s.size<=1000000000)(ha:a < s.size)(hc:s[a]=124):
 Calls Tryz.prog 210 #[.string s,.int .i64 a,.int .i64 ((d:Int)+1)] w (j17 w.heap.size w s.size (blk (prs d s.data.toList) s.data.toList a 124)):=by
 have HI:=hdq (fun W=> q80 d ih s (a+1) 3 124 ((a:Int)+1) 3 124 (by omega) (by omega) (by decide) W hs (by omega) (by omega) (by omega));obtain⟨F,hF⟩: ∃F,F=prs d s.data.toList:=⟨_,rfl⟩;rw[<-hF] at HI⊢;obtain⟨S,hS⟩: ∃S,S=ser F s.data.toList 124 3 (a+1):=⟨_,rfl⟩;rw[<-hS] at HI;have hR:blk F s.data.toList a 124=S.map (fun x=>(.mk 14 0 x.1,x.2)):=by rw[hS];rfl
 rw[hR];have HK:=hdq (fun W=> y22 14 W);have hop:opsT 14=3:=rfl;rw[hop] at HK;clear hR ih hF hS hop;go_enter Tryz.func210,Tryz.ntmps210;go_wp2_with fail;refine(HK.out _).mono ?_;rintro e w0 ⟨rfl,rfl⟩;go_wp2_with fail;refine(HI.out _).mono ?_;rintro e w1 ⟨ts,A,cap,nx,rfl,h1,h2,hK,e1,q1,q2⟩;obtain⟨s0,s1,s2,f0,f1,f2⟩:=own3 e1.newBlk;have hsz:=e1.size_alloc;have hx:=((xr w).alloc (.cells #[.int .i64 0,.int .i64 0,.slice none 0 0] 25)).trans e1;have HQ1:=hdq q1;have HQ2:=hdq q2;have hK':j18 (w.heap.size+1) w1 A ts:=by simpa using hK
 clear q1 q2 hK;go_wp2_with fail;refine bodyPost_ret (v:= .tuple #[.agg #[.int .i64 14,.int .i64 0,.slice A ts.length cap],.int .i64 nx]) (by simp[results,Tryz.results210,go_sem,s0,s1,s2]) rfl ⟨.mk 14 0 ts,_,nx,rfl, ?_, ?_, ?_, ?_⟩
 · exact(From.mk 14 0 (((hK'.set (by simp) _).set (by simp) _).set (by simp) _) h1 h2).since (by omega)
 · exact((hx.setCell (by simp) _).setCell (by simp) _).setCell (by simp) _
 · intro x hx
   cases S with
   |none=> cases hx
   |some y=>
    obtain⟨g1,g2,g3⟩:=HQ1.out y rfl;cases hx
    exact⟨by rw[g1],g2,g3⟩
 · intro hx
   cases S with
   |none=> exact HQ2.out rfl
   |some y=> cases hx
theorem y211(d:Nat)(hd:d<=30)(ih:j25 d)(s:ByteArray)(a:Nat)(w:World)(hs:s.size<=1000000000)(ha:a < s.size)(hc:s[a]=64):
 Calls Tryz.prog 210 #[.string s,.int .i64 a,.int .i64 ((d:Int)+1)] w (j17 w.heap.size w s.size (blk (prs d s.data.toList) s.data.toList a 64)):=by
 have HI:=hdq (fun W=> q80 d ih s (a+2) 3 62 ((a:Int)+2) 3 62 (by omega) (by omega) (by decide) W hs (by omega) (by omega) (by omega));obtain⟨F,hF⟩: ∃F,F=prs d s.data.toList:=⟨_,rfl⟩;rw[<-hF] at HI⊢;obtain⟨S,hS⟩: ∃S,S=ser F s.data.toList 62 3 (a+2):=⟨_,rfl⟩;rw[<-hS] at HI;have hR:blk F s.data.toList a 64=if s.data.toList[a+1]? =some 60 then S.map (fun x=>(.mk 12 0 x.1,x.2)) else none:=by rw[hS];rfl
 obtain⟨R,hRR⟩: ∃R,R=blk F s.data.toList a 64:=⟨_,rfl⟩;rw[<-hRR] at hR⊢;have HK:=hdq (fun W=> y22 12 W);have hop:opsT 12=3:=rfl;rw[hop] at HK;clear hRR ih hF hS hop;by_cases h1:a+1 < s.size
 · obtain⟨c,hcc⟩: ∃c,s[a+1]=c:=⟨_,rfl⟩
   rw[q44 h1 hcc] at hR;have t1:decide ((s.size:Int) <(a:Int)+2)=false:=decide_eq_false (by omega);have hz1:(a:Int)+1 <(s.size:Int):=by omega
   obtain⟨p,hp⟩: ∃p,c.toNat=p:=⟨_,rfl⟩;by_cases h60:c=60
   · rw[if_pos (by rw[h60])] at hR
     have hp60:p=60:=by rw[<-hp,h60];rfl
     have HR:=hdq hR;subst hp60;clear hR h60;go_enter Tryz.func210,Tryz.ntmps210;go_wp2_with fail;refine(HK.out _).mono ?_;rintro e w0 ⟨rfl,rfl⟩;go_wp2_with fail;refine(HI.out _).mono ?_;rintro e w1 ⟨ts,A,cap,nx,rfl,h1',h2,hK,e1,q1,q2⟩;obtain⟨s0,s1,s2,f0,f1,f2⟩:=own3 e1.newBlk;have hsz:=e1.size_alloc;have hx:=((xr w).alloc (.cells #[.int .i64 0,.int .i64 0,.slice none 0 0] 25)).trans e1;have HQ1:=hdq q1;have HQ2:=hdq q2;have hK':j18 (w.heap.size+1) w1 A ts:=by simpa using hK
     clear q1 q2 hK;go_wp2_with fail;refine bodyPost_ret (v:= .tuple #[.agg #[.int .i64 12,.int .i64 0,.slice A ts.length cap],.int .i64 nx]) (by simp[results,Tryz.results210,go_sem,s0,s1,s2]) rfl ⟨.mk 12 0 ts,_,nx,rfl, ?_, ?_, ?_, ?_⟩
     · exact(From.mk 12 0 (((hK'.set (by simp) _).set (by simp) _).set (by simp) _) h1' h2).since (by omega)
     · exact((hx.setCell (by simp) _).setCell (by simp) _).setCell (by simp) _
     · intro x hx
       rw[HR.out] at hx;cases S with
       |none=> cases hx
       |some y=>
        obtain⟨g1,g2,g3⟩:=HQ1.out y rfl;cases hx
        exact⟨by rw[g1],g2,g3⟩
     · intro hx
       rw[HR.out] at hx;cases S with
       |none=> exact HQ2.out rfl
       |some y=> cases hx
   · rw[if_neg (by intro h;cases h;exact h60 rfl)] at hR
     have t2:((p:Int) !=60)=true:=by rw[bne_iff_ne];intro h;exact h60 (UInt8.toNat_inj.1 (by rw[hp];simp;omega))
     have HR:=hdq hR;clear hR h60;go_enter Tryz.func210,Tryz.ntmps210;go_wp2_with fail;exact bodyPost_ret (v:= .tuple #[.agg #[.int .i64 0,.int .i64 0,.slice none 0 0],.int .i64 (-1)]) (by simp[results,Tryz.results210,go_sem]) rfl (q54 _ _ _ _ _ HR.out ((xr w).alloc _))
 · rw[j40 s (by omega),if_neg (by simp)] at hR
   have t1:decide ((s.size:Int) <(a:Int)+2)=true:=decide_eq_true (by omega);have HR:=hdq hR;clear hR;go_enter Tryz.func210,Tryz.ntmps210;go_wp2_with fail;exact bodyPost_ret (v:= .tuple #[.agg #[.int .i64 0,.int .i64 0,.slice none 0 0],.int .i64 (-1)]) (by simp[results,Tryz.results210,go_sem]) rfl (q54 _ _ _ _ _ HR.out ((xr w).alloc _))
theorem q203(d:Nat)(hd:d<=30)(s:ByteArray)(a:Nat)(w:World)(hs:s.size<=1000000000)(ha:a < s.size)(c:UInt8)(hc:s[a]=c)(hk:blkK c=0):
 Calls Tryz.prog 210 #[.string s,.int .i64 a,.int .i64 ((d:Int)+1)] w (j17 w.heap.size w s.size (blk (prs d s.data.toList) s.data.toList a c)):=by
 have HR:=hdq (show blk (prs d s.data.toList) s.data.toList a c=none from by unfold blk;rw[if_pos hk]);generalize blk (prs d s.data.toList) s.data.toList a c=R at HR⊢;obtain⟨p,hp⟩: ∃p,c.toNat=p:=⟨_,rfl⟩;have g1:c≠60:=fun h=> by rw[h] at hk;exact absurd hk (by decide)
 have g2:c≠123:=fun h=> by rw[h] at hk;exact absurd hk (by decide)
 have g3:c≠124:=fun h=> by rw[h] at hk;exact absurd hk (by decide)
 have g4:c≠64:=fun h=> by rw[h] at hk;exact absurd hk (by decide)
 have t1:((p:Int)==60)=false:=by rw[beq_eq_false_iff_ne];intro h;exact g1 (UInt8.toNat_inj.1 (by rw[hp];simp;omega))
 have t2:((p:Int)==123)=false:=by rw[beq_eq_false_iff_ne];intro h;exact g2 (UInt8.toNat_inj.1 (by rw[hp];simp;omega))
 have t3:((p:Int)==124)=false:=by rw[beq_eq_false_iff_ne];intro h;exact g3 (UInt8.toNat_inj.1 (by rw[hp];simp;omega))
 have t4:((p:Int)==64)=false:=by rw[beq_eq_false_iff_ne];intro h;exact g4 (UInt8.toNat_inj.1 (by rw[hp];simp;omega))
 clear g1 g2 g3 g4 hk;go_enter Tryz.func210,Tryz.ntmps210;go_wp2_with fail;exact bodyPost_ret (v:= .tuple #[.agg #[.int .i64 0,.int .i64 0,.slice none 0 0],.int .i64 (-1)]) (by simp[results,Tryz.results210,go_sem]) rfl (q54 _ _ _ _ _ HR.out ((xr w).alloc _))
theorem kinds16{k n:Int}{ks:List Tr}{d:Int}(h:shape sigT (.mk k n ks) d=true):(opsT k=(ks.length:Int))/\(k=1\/k=2\/k=3\/k=4\/k=5\/k=6\/k=7\/k=8\/k=9\/k=10\/k=11\/k=12\/k=13\/k=14\/k=15\/k=16):=by
 obtain⟨h1,h2,h3,h4⟩:=j31 h;simp only[sigT] at h1;have hr:1<=k/\k<=16:=by
  by_cases h:1<=k/\k<=16
  · exact h
  · exfalso
    unfold opsT at h1;rw[if_neg (by omega),if_neg (by omega),if_neg (by omega),if_neg (by omega),if_neg (by omega),if_neg (by omega),if_neg (by omega),if_neg (by omega),if_neg (by omega),if_neg (by omega),if_neg (by omega),if_neg (by omega),if_neg (by omega),if_neg (by omega),if_neg (by omega),if_neg (by omega)] at h1;omega
 exact⟨h1,by omega⟩
theorem j71{ks:List Tr}{j:Nat}{t:Tr}(hj:j < ks.length)(h:ks[j]=t):kd ks j=t:=by
 unfold kd;rw[List.getD_eq_getElem?_getD,List.getElem?_eq_getElem hj];exact h
theorem y32(t:Tr)(d:Int)(hsh:shape sigT t d=true)(w:World)(v:Value)(hin:Lies w t v):Calls Tryz.prog 56 #[v] w fun e w'=> e= .returned (.int .i64 (rdxT t))/\Ext w w':=by
 obtain⟨k,n,ks⟩:=t;obtain⟨A,cap,rfl,hl,hc,hK⟩:=Lies.mk_iff.1 hin;obtain⟨hops,hk⟩:=kinds16 hsh;unfold maxLen at hc;clear hsh hin;rcases hk with rfl|rfl|rfl|rfl|rfl|rfl|rfl|rfl|rfl|rfl|rfl|rfl|rfl|rfl|rfl|rfl
 · rw[show rdxT (.mk 1 n ks)=0 from rfl]
   clear hops hK;go_enter Tryz.func56,Tryz.ntmps56;go_wp2_with fail;go_ret;exact⟨rfl,(xr _).alloc _⟩
 · rw[show rdxT (.mk 2 n ks)=0 from rfl]
   clear hops hK;go_enter Tryz.func56,Tryz.ntmps56;go_wp2_with fail;go_ret;exact⟨rfl,(xr _).alloc _⟩
 · rw[show rdxT (.mk 3 n ks)=0 from rfl]
   clear hops hK;go_enter Tryz.func56,Tryz.ntmps56;go_wp2_with fail;go_ret;exact⟨rfl,(xr _).alloc _⟩
 · rw[show rdxT (.mk 4 n ks)=0 from rfl]
   clear hops hK;go_enter Tryz.func56,Tryz.ntmps56;go_wp2_with fail;go_ret;exact⟨rfl,(xr _).alloc _⟩
 · have hlen:ks.length=2:=by have:(2:Int)=(ks.length:Int):=hops;omega
   have hlt:(0:Int) <(ks.length:Int):=by omega
   obtain⟨b,o,k',n',A',cap',kids,rfl,hid,c0,c1,c2,-,-,-,-,-⟩:=hK.get ((xr w).alloc (.cells #[.int .i64 5,.int .i64 n,.slice A ks.length cap] 25)) (j:=0) (by omega);simp only[Nat.zero_mul,Nat.add_zero] at c0;clear c1 c2;have hkd:kd ks 0= .mk k' n' kids:=j71 (by omega) hid.out;have hR:rdxT (.mk 5 n ks)=if k'=4 then 1 else 0:=by show rdx 5 ks=_;unfold rdx;rw[hkd];rfl
   rw[hR];clear hR hkd hid hops hK hlen;by_cases e4:k'=4
   · subst e4
     rw[if_pos rfl];go_enter Tryz.func56,Tryz.ntmps56;go_wp2_with fail;go_ret;exact⟨rfl,(xr _).alloc _⟩
   have d4:(k'==4)=false:=beq_eq_false_iff_ne.2 e4;rw[if_neg e4];go_enter Tryz.func56,Tryz.ntmps56;go_wp2_with fail;go_ret;exact⟨rfl,(xr _).alloc _⟩
 · rw[show rdxT (.mk 6 n ks)=0 from rfl]
   clear hops hK;go_enter Tryz.func56,Tryz.ntmps56;go_wp2_with fail;go_ret;exact⟨rfl,(xr _).alloc _⟩
 · rw[show rdxT (.mk 7 n ks)=0 from rfl]
   clear hops hK;go_enter Tryz.func56,Tryz.ntmps56;go_wp2_with fail;go_ret;exact⟨rfl,(xr _).alloc _⟩
 · rw[show rdxT (.mk 8 n ks)=0 from rfl]
   clear hops hK;go_enter Tryz.func56,Tryz.ntmps56;go_wp2_with fail;go_ret;exact⟨rfl,(xr _).alloc _⟩
 · have hlen:ks.length=4:=by have:(4:Int)=(ks.length:Int):=hops;omega
   have hlt:(3:Int) <(ks.length:Int):=by omega
   obtain⟨b,o,k',n',A',cap',kids,rfl,hid,c0,c1,c2,-,-,-,-,-⟩:=hK.get ((xr w).alloc (.cells #[.int .i64 9,.int .i64 n,.slice A ks.length cap] 25)) (j:=3) (by omega);simp only[Nat.reduceMul] at c0;clear c1 c2;have hkd:kd ks 3= .mk k' n' kids:=j71 (by omega) hid.out;have hR:rdxT (.mk 9 n ks)=if k'=7 then 2 else if k'=8 then 3 else 0:=by show rdx 9 ks=_;unfold rdx;rw[hkd];rfl
   rw[hR];clear hR hkd hid hops hK hlen;by_cases e7:k'=7
   · subst e7
     rw[if_pos rfl];go_enter Tryz.func56,Tryz.ntmps56;go_wp2_with fail;go_ret;exact⟨rfl,(xr _).alloc _⟩
   by_cases e8:k'=8
   · subst e8
     rw[if_neg (by decide),if_pos rfl];go_enter Tryz.func56,Tryz.ntmps56;go_wp2_with fail;go_ret;exact⟨rfl,(xr _).alloc _⟩
   have d7:(k'==7)=false:=beq_eq_false_iff_ne.2 e7;have d8:(k'==8)=false:=beq_eq_false_iff_ne.2 e8;rw[if_neg e7,if_neg e8];go_enter Tryz.func56,Tryz.ntmps56;go_wp2_with fail;go_ret;exact⟨rfl,(xr _).alloc _⟩
 · rw[show rdxT (.mk 10 n ks)=0 from rfl]
   clear hops hK;go_enter Tryz.func56,Tryz.ntmps56;go_wp2_with fail;go_ret;exact⟨rfl,(xr _).alloc _⟩
 · rw[show rdxT (.mk 11 n ks)=0 from rfl]
   clear hops hK;go_enter Tryz.func56,Tryz.ntmps56;go_wp2_with fail;go_ret;exact⟨rfl,(xr _).alloc _⟩
 · have hlen:ks.length=3:=by have:(3:Int)=(ks.length:Int):=hops;omega
   have hlt:(1:Int) <(ks.length:Int):=by omega
   obtain⟨b,o,k',n',A',cap',kids,rfl,hid,c0,c1,c2,-,-,-,-,-⟩:=hK.get ((xr w).alloc (.cells #[.int .i64 12,.int .i64 n,.slice A ks.length cap] 25)) (j:=1) (by omega);simp only[Nat.reduceMul] at c0;clear c1 c2;have hkd:kd ks 1= .mk k' n' kids:=j71 (by omega) hid.out;have hR:rdxT (.mk 12 n ks)=if k'=11 then 4 else 0:=by show rdx 12 ks=_;unfold rdx;rw[hkd];rfl
   rw[hR];clear hR hkd hid hops hK hlen;by_cases e11:k'=11
   · subst e11
     rw[if_pos rfl];go_enter Tryz.func56,Tryz.ntmps56;go_wp2_with fail;go_ret;exact⟨rfl,(xr _).alloc _⟩
   have d11:(k'==11)=false:=beq_eq_false_iff_ne.2 e11;rw[if_neg e11];go_enter Tryz.func56,Tryz.ntmps56;go_wp2_with fail;go_ret;exact⟨rfl,(xr _).alloc _⟩
 · rw[show rdxT (.mk 13 n ks)=0 from rfl]
   clear hops hK;go_enter Tryz.func56,Tryz.ntmps56;go_wp2_with fail;go_ret;exact⟨rfl,(xr _).alloc _⟩
 · rw[show rdxT (.mk 14 n ks)=0 from rfl]
   clear hops hK;go_enter Tryz.func56,Tryz.ntmps56;go_wp2_with fail;go_ret;exact⟨rfl,(xr _).alloc _⟩
 · have hlen:ks.length=1:=by have:(1:Int)=(ks.length:Int):=hops;omega
   have hlt:(0:Int) <(ks.length:Int):=by omega
   obtain⟨b,o,k',n',A',cap',kids,rfl,hid,c0,c1,c2,-,-,-,-,-⟩:=hK.get ((xr w).alloc (.cells #[.int .i64 15,.int .i64 n,.slice A ks.length cap] 25)) (j:=0) (by omega);simp only[Nat.zero_mul,Nat.add_zero] at c0;clear c1 c2;have hkd:kd ks 0= .mk k' n' kids:=j71 (by omega) hid.out;have hR:rdxT (.mk 15 n ks)=if k'=14 then 5 else 0:=by show rdx 15 ks=_;unfold rdx;rw[hkd];rfl
   rw[hR];clear hR hkd hid hops hK hlen;by_cases e14:k'=14
   · subst e14
     rw[if_pos rfl];go_enter Tryz.func56,Tryz.ntmps56;go_wp2_with fail;go_ret;exact⟨rfl,(xr _).alloc _⟩
   have d14:(k'==14)=false:=beq_eq_false_iff_ne.2 e14;rw[if_neg e14];go_enter Tryz.func56,Tryz.ntmps56;go_wp2_with fail;go_ret;exact⟨rfl,(xr _).alloc _⟩
 · have hlen:ks.length=1:=by have:(1:Int)=(ks.length:Int):=hops;omega
   have hlt:(0:Int) <(ks.length:Int):=by omega
   obtain⟨b,o,k',n',A',cap',kids,rfl,hid,c0,c1,c2,-,-,-,-,-⟩:=hK.get ((xr w).alloc (.cells #[.int .i64 16,.int .i64 n,.slice A ks.length cap] 25)) (j:=0) (by omega);simp only[Nat.zero_mul,Nat.add_zero] at c0;clear c1 c2;have hkd:kd ks 0= .mk k' n' kids:=j71 (by omega) hid.out;have hR:rdxT (.mk 16 n ks)=if k'=14 then 6 else 0:=by show rdx 16 ks=_;unfold rdx;rw[hkd];rfl
   rw[hR];clear hR hkd hid hops hK hlen;by_cases e14:k'=14
   · subst e14
     rw[if_pos rfl];go_enter Tryz.func56,Tryz.ntmps56;go_wp2_with fail;go_ret;exact⟨rfl,(xr _).alloc _⟩
   have d14:(k'==14)=false:=beq_eq_false_iff_ne.2 e14;rw[if_neg e14];go_enter Tryz.func56,Tryz.ntmps56;go_wp2_with fail;go_ret;exact⟨rfl,(xr _).alloc _⟩
theorem box1{w w1:World}{a:Obj}(h:w1=w.alloc a):w1.heap[w.heap.size]? =some a/\w.heap.size < w1.heap.size/\Ext w w1:=by
 subst h;obtain⟨p,s⟩:=blk1 (xr (w.alloc a));exact⟨p,s,(xr w).alloc a⟩
theorem box2{w w1:World}{a b:Obj}(h:w1=(w.alloc a).alloc b):w1.heap[w.heap.size]? =some a/\w1.heap[w.heap.size+1]? =some b/\w.heap.size+1 < w1.heap.size/\Ext w w1:=by
 subst h;obtain⟨p,q,s⟩:=blk2 (xr ((w.alloc a).alloc b));exact⟨p,q,s,((xr w).alloc a).alloc b⟩
theorem box3{w w1:World}{a b c:Obj}(h:w1=((w.alloc a).alloc b).alloc c):w1.heap[w.heap.size]? =some a/\w1.heap[w.heap.size+1]? =some b/\w1.heap[w.heap.size+1+1]? =some c/\w.heap.size+1+1 < w1.heap.size/\Ext w w1:=by
 subst h;obtain⟨p,q,r,s⟩:=blk3 (xr (((w.alloc a).alloc b).alloc c));exact⟨p,q,r,s,(((xr w).alloc a).alloc b).alloc c⟩
theorem own1{w:World}{g:Nat}{x0:Value}{e:TypeId}(hb:w.heap[g]? =some (.cells #[x0] e (0,0))):w.cell? ⟨g,0,none⟩=some x0:=y10 hb 0
theorem own5{w:World}{g:Nat}{x0 x1 x2 x3 x4:Value}{e:TypeId}(hb:w.heap[g]? =some (.cells #[x0,x1,x2,x3,x4] e (0,0))):
 w.cell? ⟨g,0,none⟩=some x0/\w.cell? ⟨g,1,none⟩=some x1/\w.cell? ⟨g,2,none⟩=some x2/\w.cell? ⟨g,3,none⟩=some x3/\w.cell? ⟨g,4,none⟩=some x4:=
 ⟨y10 hb 0,y10 hb 1,y10 hb 2,y10 hb 3,y10 hb 4⟩
theorem Ext.set3{a b:World}(h:Ext a b){g:Nat}(hg:a.heap.size<=g)(x y z:Value):Ext a (((b.setCell ⟨g,0,none⟩ x).setCell ⟨g,1,none⟩ y).setCell ⟨g,2,none⟩ z):=((h.setCell hg x).setCell hg y).setCell hg z
theorem j10{a:Act}{t:Nat}{v:Value}(h:a.eval (.tmp t)=v):a.tmps[t]?.getD undef=v:=by
 rw[<-h];exact(Array.getD_eq_getD_getElem? ..).symm
def BoxAt(W w:World)(g:Nat):Prop:=W.heap.size<=g/\w.heap[g]? =some (.cells #[.int .i64 0,.int .i64 0,.slice none 0 0] 25 (0,0))
inductive Sp where
 |any
 |val (u:Value)
 |tree (M:Nat->Prop) (t:Tr)
 |row (M:Nat->Prop) (ts:List Tr)
 |two (M:Nat->Prop) (t:Tr) (c:Value)
 |box (W:World)
theorem InK.news{w:World}{M:Nat->Prop}{e:TypeId}{t:Tr}{v0 v1 v2:Value}(h:InT w M t (.agg #[v0,v1,v2]))(hM:M w.heap.size):InK (w.alloc (.cells #[v0,v1,v2] e)) M (some ⟨w.heap.size,0,none⟩) [t]:=
 .inr ⟨w.heap.size,0,rfl,hM,⟨⟨v0,v1,v2,y10 (heap_alloc_new w _) 0,y10 (heap_alloc_new w _) 1,y10 (heap_alloc_new w _) 2,h.later ((xr w).alloc _)⟩,trivial⟩⟩
theorem InK.news2{w:World}{M:Nat->Prop}{e:TypeId}{t u:Tr}{v0 v1 v2 u0 u1 u2:Value}(h:InT w M t (.agg #[v0,v1,v2]))(k:InT w M u (.agg #[u0,u1,u2]))(hM:M w.heap.size):InK (w.alloc (.cells #[v0,v1,v2,u0,u1,u2] e)) M (some ⟨w.heap.size,0,none⟩) [t,u]:=
 .inr ⟨w.heap.size,0,rfl,hM,⟨⟨v0,v1,v2,y10 (heap_alloc_new w _) 0,y10 (heap_alloc_new w _) 1,y10 (heap_alloc_new w _) 2,h.later ((xr w).alloc _)⟩,⟨u0,u1,u2,y10 (heap_alloc_new w _) 3,y10 (heap_alloc_new w _) 4,y10 (heap_alloc_new w _) 5,k.later ((xr w).alloc _)⟩,trivial⟩⟩
theorem InK.news3{w:World}{M:Nat->Prop}{e:TypeId}{t u x:Tr}{v0 v1 v2 u0 u1 u2 x0 x1 x2:Value}(h:InT w M t (.agg #[v0,v1,v2]))(k:InT w M u (.agg #[u0,u1,u2]))(l:InT w M x (.agg #[x0,x1,x2]))(hM:M w.heap.size):InK (w.alloc (.cells #[v0,v1,v2,u0,u1,u2,x0,x1,x2] e)) M (some ⟨w.heap.size,0,none⟩) [t,u,x]:=
 .inr ⟨w.heap.size,0,rfl,hM,⟨⟨v0,v1,v2,y10 (heap_alloc_new w _) 0,y10 (heap_alloc_new w _) 1,y10 (heap_alloc_new w _) 2,h.later ((xr w).alloc _)⟩,⟨u0,u1,u2,y10 (heap_alloc_new w _) 3,y10 (heap_alloc_new w _) 4,y10 (heap_alloc_new w _) 5,k.later ((xr w).alloc _)⟩,⟨x0,x1,x2,y10 (heap_alloc_new w _) 6,y10 (heap_alloc_new w _) 7,y10 (heap_alloc_new w _) 8,l.later ((xr w).alloc _)⟩,trivial⟩⟩
def tys:List Tr->List Tr
 |t::_::r=> t::tys r
 |_=> []
def tysV(ks:List Tr)(n:Nat):List Tr:=if dfV ks n=true then tys ks else []
theorem j111: ∀(ks:List Tr) (j:Nat) (h:j*2+1 < ks.length),tys (ks.take ((j+1)*2))=tys (ks.take (j*2))++ [ks[j*2]'(by omega)]
 |t::b::r,0,h=> by simp[tys]
 |t::b::r,j+1,h=> by
  have:=j111 r j (by simp at h;omega);have e1:(j+1+1)*2=(j+1)*2+1+1:=by omega
  have e2:(j+1)*2=j*2+1+1:=by omega
  have e3:(t::b::r).take ((j+1+1)*2)=t::b::r.take ((j+1)*2):=by rw[e1];simp only[List.take_succ_cons]
  have e4:(t::b::r).take ((j+1)*2)=t::b::r.take (j*2):=by rw[e2];simp only[List.take_succ_cons]
  have e5:(t::b::r)[(j+1)*2]'(by omega)=r[j*2]'(by simp at h;omega):=by
   simp only[e2,List.getElem_cons_succ]
  rw[e3,e4,e5];simp only[tys,List.cons_append,this]
 | [_],j,h=> by simp at h
 | [],j,h=> by simp at h
theorem q185: ∀(ks:List Tr) (n:Nat),ks.length=n*2->(tys ks).length=n
 |t::b::r,n+1,h=> by simp[tys,q185 r n (by simp at h;omega)]
 | [],0,_=> rfl
 | [_],n,h=> by simp at h;omega
 | [],n+1,h=> by simp at h
 |t::b::r,0,h=> by simp at h
theorem infoTy:(Tryz.prog.info? 25).map (fun i=>(i.zero,i.size,i.bytes))=some (some (.agg #[.int .i64 0,.int .i64 0,.slice none 0 0]),3,40):=by kernel_rfl
theorem j127(ks:List Tr)(n cap:Nat)(w:World)(A:Option Addr)(h:y16 w A ks)(hn:ks.length=n*2)(hl:n<=cap)(hc:cap<=maxLen)(hcn: ∀t∈ks,cnt t<=1048577):
 Calls Tryz.prog 28 #[.slice A n cap] w fun e w'=> ∃B c,e= .returned (.tuple #[.slice B (tysV ks n).length c,.bool (dfV ks n)])/\(tysV ks n).length<=c/\c<=maxLen/\y96 w w' 25 B (tysV ks n)/\Ext w w':=by
 have hcc:=hc;unfold maxLen at hcc;have HV:=hdq (q48 ks n cap w A h hn hl hc);have hV:tysV ks n=if dfV ks n=true then tys ks else []:=rfl
 have hval:dfV ks n=true->n<=8/\ ∀t∈ks,cnt t<=400:=fun h=> y134 h hn
 obtain⟨i0,hi,hz0,hz1,hz2⟩:=info_parts infoTy;obtain⟨b,hb⟩: ∃b,dfV ks n=b:=⟨_,rfl⟩;rw[hb] at HV hV hval⊢;clear hb;cases b with
 |false=>
  rw[if_neg (by decide)] at hV;rw[hV];clear hV hval hcn;go_enter Tryz.func28,Tryz.ntmps28;go_wp2_with fail;refine HV.out.mono ?_;rintro e w1 ⟨rfl,e1⟩;go_wp2_with fail;go_ret2;exact⟨none,0,rfl,by simp,by simp,y96.nil _ _ _ _,e1⟩
 |true=>
  rw[if_pos rfl] at hV;rw[hV];obtain⟨hn8,hsm⟩:=hval rfl;clear hV hval hcn;go_enter Tryz.func28,Tryz.ntmps28;go_wp2_with fail;refine HV.out.mono ?_;rintro e w1 ⟨rfl,e1⟩;go_wp2_with fail
  go_loopw [4,12] (fun v i wr=> ∃(j:Nat),j<=n/\i= .int .i64 j/\Grow w wr 25 v (tys (ks.take (j*2)))/\Ext w wr) (fun _ i _=> n -(intOf i).toNat)
  case atStart=> exact⟨0,Nat.zero_le _,rfl,by simpa[tys] using Grow.nil _ _ _,e1⟩
  case round=>
   obtain⟨j,hj,rfl,hG,hx⟩:=hrel;by_cases hlt:j < n
   · obtain⟨b,o,k1,n1,A1,p1,kids1,k2,n2,A2,p2,kids2,rfl,hbw,HK1,HK2,⟨c0,c1,c2,c3,c4,c5⟩,⟨l1,m1,hK1,hin1,hmem1⟩,⟨l2,m2,hK2,hin2,hmem2⟩⟩:=h.getD (j:=j) hx (by omega)
     have hj':(j:Int) <(n:Int):=by omega
     have hl6:w.heap.size<=wr.heap.size:=hx.size;have htk:=j111 ks j (by omega);rw[HK1.out] at htk;have HTK:=hdq htk;have hlen:(tys (ks.take (j*2))).length=j:=q185 _ j (by rw[List.length_take];omega);have HLEN:=hdq hlen;clear htk hlen;go_wp2_with fail;have hE:=(xr wr).alloc (.cells #[.int .i64 k1,.int .i64 n1,.slice A1 kids1.length p1,.int .i64 k2,.int .i64 n2,.slice A2 kids2.length p2] 83);refine(q35 _ _ _ (hin1.ext hE) (by have:=hsm _ hmem1;omega)).mono ?_;rintro e w2 ⟨u,rfl,hM,e2⟩;obtain⟨a1,a2,a3,a4,a5,rfl⟩:=hM.three';clear c0 c1 c2 c3 c4 c5;obtain⟨Bv,cv,rfl,-,-,-⟩:=hG.made;go_wp2_with (at_builtin;refine y69 _ (by rfl) (.tmp 16) (.tmp 20) _ (by rfl) 25 i0 _ Tryz.underlying23 hi hz0 hz1 hz2 rfl (by rfl) hG hx.size (hE.trans e2) (hM.since (by have:=hE.size;omega)) ((xr _).alloc _) (by rfl) (heap_alloc_new _ _) (by rw[HLEN.out];omega) ?_)
     intro v' w5 hG5 hB5;obtain⟨B5,c5,rfl,q1,q2,-⟩:=hG5.made;rw[<-HTK.out] at hG5;go_wp2_with fail
     go_roundw
     case rel=> exact⟨j+1,by omega,by go_num,by simpa[HTK.out] using hG5,hx.trans' hB5 (Nat.le_refl _)⟩
     case measure=> simp[intOf];omega
   · obtain⟨B5,c5,rfl,q1,q2,hM⟩:=hG.made
     have hjl:ks.take (j*2)=ks:=List.take_of_length_le (by omega);rw[hjl] at q1 hM;rw[hjl];go_wp2_with fail;go_ret2;exact⟨_,_,rfl,q1,q2,hM,hx⟩
end Go.Proofs.YtdkamgafpphdjaaGreat
