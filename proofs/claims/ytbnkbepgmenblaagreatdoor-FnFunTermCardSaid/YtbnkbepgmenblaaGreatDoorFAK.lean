/-
  Lemmas towards the law, 11: Fmt, Ints, SpExtract, ExShape.
-/
import Derived.Test.YtbnkbepgmenblaaGreatDoorFAJ
import Derived.Laws.Concat
import Derived.Laws.IdiomStrings
set_option linter.unusedVariables false
set_option maxHeartbeats 4000000
set_option maxRecDepth 100000
namespace Go.Proofs.YtbnkbepgmenblaaGreatDoor
open Go.RowKit
theorem conv1(w:World)(x:Int)(b:UInt8)(hb:(b.toNat:Int)=x):(convert 22 9 (.slice (some ⟨w.heap.size,0,none⟩) 1 1)).run Tryz.prog (w.alloc (.cells #[.int .u8 x] 5))= .ok (.string (ofL [b])) (w.alloc (.cells #[.int .u8 x] 5)):=by
 have:=run_convert_bytes_back (P:=Tryz.prog) (w.alloc (.cells #[.int .u8 x] 5)) 22 9 5 ⟨w.heap.size,0,none⟩ 1 [b] Tryz.underlying22 Tryz.underlying5 Tryz.underlying9 (fun j hj=> by
  have:j=0:=by simpa using hj
  subst this;rw[Addr.add_lit,Nat.zero_add,q10 (heap_alloc_new w _)];simp only[List.getElem_cons_zero,hb]
  rfl)
 simpa[ofL] using this
theorem j173(a:List UInt8):ofL a++({data:=#[]}:ByteArray)=ofL a:=by
 have:=y13 a []
 simpa[ofL] using this
theorem q135(n:Nat)(h:n < 256):((UInt8.ofNat n).toNat:Int)=n:=by
 simp
 omega
theorem j104(n:Nat)(hn:n<=99)(w:World):Calls Tryz.prog 92 #[.int .i64 n] w fun e w'=> e= .returned (.string (ofL (decL n)))/\Ext w w':=by
 by_cases h9:n<=9
 · obtain⟨b,hb⟩: ∃b,b=UInt8.ofNat (48+n):=⟨_,rfl⟩
   have hc:=conv1 w (48+n) b (by rw[hb,q135 _ (by omega)];omega);have hd:decL n= [b]:=by
    unfold decL;rw[if_pos (by omega),hb]
    rfl
   have HD:=hdq hd;have HC:=hdq (j173 [b]);clear hd hb;go_enter Tryz.func92,Tryz.ntmps92;go_wp2_with fail;refine wp_loop_rounds 1 ?_;rw[rounds_succ];go_wp2_with fail;go_ret;exact⟨by rw[HD.out,<-HC.out];rfl,(xr w).alloc _⟩
 · obtain⟨r,hr⟩: ∃r:Int,r=(n:Int) % 10:=⟨_,rfl⟩
   obtain⟨q,hq⟩: ∃q:Int,q=(n:Int) / 10:=⟨_,rfl⟩;have Bw:0<=r:=by omega
   have Ai:r<=9:=by omega
   have bl:0<=q:=by omega
   have dw:q<=9:=by omega
   obtain⟨b,hb⟩: ∃b,b=UInt8.ofNat (48+n / 10):=⟨_,rfl⟩;obtain⟨c,hcb⟩: ∃b,b=UInt8.ofNat (48+n - n / 10*10):=⟨_,rfl⟩;have hc:=conv1 w (48+r) c (by rw[hcb,q135 _ (by omega)];omega);have hc2:=conv1 (w.alloc (.cells #[.int .u8 (48+r)] 5)) (48+q) b (by rw[hb,q135 _ (by omega)];omega);rw[World.size_alloc] at hc2;have hd:decL n= [b]++ [c]:=by
    unfold decL;rw[if_neg (by omega),hb,hcb];simp only[List.cons_append,List.nil_append,List.cons.injEq,and_true]
    constructor <;>(congr 1;try omega)
   have HD:=hdq hd;have HC:=hdq (j173 [c]);have h3:decide ((9:Int) < q)=false:=decide_eq_false (by omega);clear hd hb hcb;subst hr hq;go_enter Tryz.func92,Tryz.ntmps92;go_wp2_with fail;refine wp_loop_rounds 2 ?_;rw[rounds_succ];go_wp2_with fail;rw[rounds_succ];go_wp2_with fail;go_ret;exact⟨by rw[HD.out,<-y13,<-HC.out];rfl,((xr w).alloc _).alloc _⟩
def TextC(t:Tr):Prop:= ∀(w:World) (v:Value) (d:Int),shape sigT t d=true->cnt t<=1000->Lies w t v->Calls Tryz.prog 63 #[v] w fun e w'=> e= .returned (.string (ofL (fmtL t)))/\Ext w w'
theorem j27{x:List UInt8}{n:Nat}(h:x.length<=n):(ofL x).size<=n:=by rw[j17];exact h
theorem q62(ks:List Tr)(hk: ∀t∈ks,TextC t)(d:Int)(hsh: ∀t∈ks,shape sigT t d=true)(J2:cnts ks<=1000)(w:World)(A:Option Addr)(cap:Nat)(h:y23 w A ks)(hl:ks.length<=cap)(hc:cap<=maxLen):
 Calls Tryz.prog 93 #[.slice A ks.length cap] w fun e w'=> e= .returned (.string (ofL (fmtK [44] ks true)))/\Ext w w':=by
 have hcc:=hc;unfold maxLen at hcc;have hlc:=j23 ks;go_enter Tryz.func93,Tryz.ntmps93;go_wp2_with fail
 go_loopw [3,4] (fun o i wr=> ∃(j:Nat) (x:List UInt8),j<=ks.length/\i= .int .i64 j/\o= .string (ofL x)/\x++fmtK [44] (ks.drop j) (decide (j=0))=fmtK [44] ks true/\x.length+5*cnts (ks.drop j)<=5*cnts ks/\Ext w wr) (fun _ i _=> ks.length -(intOf i).toNat)
 case atStart=> exact⟨0, [],Nat.zero_le _,rfl,rfl,rfl,by simp,xr _⟩
 case round=>
  obtain⟨j,x,hj,rfl,rfl,F4,hlen,he⟩:=hrel;have HE:=hdq F4;clear F4;by_cases hlt:j < ks.length
  · obtain⟨b,o,k,n,A',cap',kids,rfl,HK,c0,c1,c2,I6,G9,hK,j8,j6⟩:=h.get he hlt
    have yr:(j:Int) <(ks.length:Int):=by omega
    have hst:ks.drop j= .mk k n kids::ks.drop (j+1):=by rw[List.drop_eq_getElem_cons hlt,HK.out]
    have hf:=j22 (.mk k n kids);have iw:cnts (ks.drop j)=cnt (.mk k n kids)+cnts (ks.drop (j+1)):=by rw[hst];simp only[cnts]
    have hcm:=q16 j6;have HC:=hdq (hk _ j6 wr _ d (hsh _ j6) (by omega) j8);have hfk:fmtK [44] (ks.drop j) (decide (j=0))=(if decide (j=0)=true then [] else [44])++fmtL (.mk k n kids)++fmtK [44] (ks.drop (j+1)) false:=by
     rw[hst];conv=> lhs;unfold fmtK
    have Kw:=hdq hfk;have y7:x.length<=10000:=by omega
    have hx1:=j27 y7;obtain⟨y,hy⟩: ∃y,y=fmtL (.mk k n kids):=⟨_,rfl⟩;rw[<-hy] at HC Kw hf;have hx2:=j27 (x:=y) (n:=10000) (by omega);have HCD:=hdq iw;have HL:=hdq (show x.length+5*(cnt (.mk k n kids)+cnts (ks.drop (j+1)))<=5*cnts ks from by rw[<-iw];exact hlen);clear hst iw hfk hy hlen;rcases Nat.eq_zero_or_pos j with h0|h0
    · subst h0
      have sf:decide ((0:Int) <((0:Nat):Int))=false:=by decide
      simp only[Nat.zero_mul,Nat.add_zero] at c0 c1 c2;go_wp2_with fail;refine HC.out.mono ?_;rintro e w1 ⟨rfl,e1⟩;go_wp2_with fail
      go_roundw
      case rel=> exact⟨1,x++y,by omega,rfl,by rw[y13],by rw[<-HE.out,Kw.out];simp,by have:=HL.out;rw[Nat.zero_add] at this;simp only[List.length_append];omega,he.trans e1⟩
      case measure=> simp[intOf];omega
    · have sf:decide ((0:Int) <(j:Int))=true:=decide_eq_true (by omega)
      have HX:=hdq (show ofL x++({data:=#[44]}:ByteArray)=ofL (x++ [44]) from y13 x [44]);have hx3:(ofL x++({data:=#[44]}:ByteArray)).size<=10001:=by rw[HX.out,j17];simp;omega
      go_wp2_with fail;refine HC.out.mono ?_;rintro e w1 ⟨rfl,e1⟩;go_wp2_with fail
      go_roundw
      case rel=> exact⟨j+1,x++ [44]++y,by omega,by go_num,by rw[HX.out,y13],by rw[<-HE.out,Kw.out,show decide (j=0)=false from decide_eq_false (by omega),show decide (j+1=0)=false from decide_eq_false (by omega)];simp,by have:=HL.out;simp only[List.length_append,List.length_singleton];omega,he.trans e1⟩
      case measure=> simp[intOf];omega
  · have hd:=List.drop_of_length_le (show ks.length<=j by omega)
    have hx:x=fmtK [44] ks true:=by rw[<-HE.out,hd];simp[fmtK]
    have HX:=hdq hx;clear hd hx;go_wp2_with fail;go_ret;exact⟨by rw[<-HX.out];rfl,he⟩
theorem q218{ks:List Tr}{t:Tr}(h:ks.length=1)(h0:0 < ks.length)(e:ks[0]=t):ks= [t]:=by
 match ks,h with
 | [q],_=> rw[<-e];rfl
theorem q204{ks:List Tr}{t u:Tr}(h:ks.length=2)(h0:0 < ks.length)(h1:1 < ks.length)(e:ks[0]=t)(e1:ks[1]=u):ks= [t,u]:=by
 match ks,h with
 | [q,r],_=> rw[<-e,<-e1];rfl
theorem y156: ∀t:Tr,TextC t:=Tr.ind fun k n ks hk=> by
 intro w v d hsh J2 j8;obtain⟨A,cap,rfl,hl,hc,hK⟩:=Lies.mk_iff.1 j8;obtain⟨j7,H7,I0,hsk⟩:=j11 hsh;have j7:opsT k=(ks.length:Int):=j7;have I0:n<=j15 k:=I0;have hlc:=j23 ks;have hcc:=hc;unfold maxLen at hcc;simp only[cnt] at J2;have hx:Ext w (w.alloc (.cells #[.int .i64 k,.int .i64 n,.slice A ks.length cap] 26)):=(xr w).alloc _;have ia:=heap_alloc_new w (.cells #[.int .i64 k,.int .i64 n,.slice A ks.length cap] 26);by_cases c8:k=8
 · subst c8
   have G8:ks.length=1:=by have:(1:Int)=(ks.length:Int):=j7;omega
   obtain⟨b,o,k0,n0,A0,y9,j9,rfl,HK,x0,x1,x2,I6,G9,U3,B9,j6⟩:=hK.get hx (j:=0) (by omega);simp only[Nat.zero_mul,Nat.add_zero] at x0 x1 x2;obtain⟨t0,D5⟩: ∃t0,t0=Tr.mk k0 n0 j9:=⟨_,rfl⟩;have l8:ks= [t0]:=q218 G8 (by omega) (by rw[D5];exact HK.out);have hl0:0 < ks.length:=by omega
   have hf:=j22 t0;have hcm:=q16 j6;rw[<-D5] at hcm;have HC:=hdq (fun W (hW:Ext _ W)=> hk _ j6 W _ (d - 1) (hsk _ j6) (by rw[<-D5];omega) (B9.ext hW));rw[<-D5] at HC;have y7:(fmtL t0).length<=10000:=by omega
   obtain⟨y,hy⟩: ∃y,y=fmtL t0:=⟨_,rfl⟩;rw[<-hy] at HC y7;have hx1:=j27 y7;have hr:fmtL (.mk 8 n ks)= [43]++y:=by
    rw[l8,hy];simp[fmtL,fmtK,opn,cls]
   have HR:=hdq hr;clear hr l8 D5 hy HK j7 hf hcm G8;go_enter Tryz.func63,Tryz.ntmps63;go_wp2_with fail;refine(HC.out _ (xr _)).mono ?_;rintro e w2 ⟨rfl,e2⟩;go_wp2_with fail;go_ret;exact⟨by rw[HR.out,<-y13];rfl,hx.trans e2⟩
 by_cases c11:k=11
 · subst c11
   have G8:ks.length=1:=by have:(1:Int)=(ks.length:Int):=j7;omega
   obtain⟨b,o,k0,n0,A0,y9,j9,rfl,HK,x0,x1,x2,I6,G9,U3,B9,j6⟩:=hK.get hx (j:=0) (by omega);simp only[Nat.zero_mul,Nat.add_zero] at x0 x1 x2;obtain⟨t0,D5⟩: ∃t0,t0=Tr.mk k0 n0 j9:=⟨_,rfl⟩;have l8:ks= [t0]:=q218 G8 (by omega) (by rw[D5];exact HK.out);have hl0:0 < ks.length:=by omega
   have hf:=j22 t0;have hcm:=q16 j6;rw[<-D5] at hcm;have HC:=hdq (fun W (hW:Ext _ W)=> hk _ j6 W _ (d - 1) (hsk _ j6) (by rw[<-D5];omega) (B9.ext hW));rw[<-D5] at HC;have y7:(fmtL t0).length<=10000:=by omega
   obtain⟨y,hy⟩: ∃y,y=fmtL t0:=⟨_,rfl⟩;rw[<-hy] at HC y7;have hx1:=j27 y7;have hr:fmtL (.mk 11 n ks)= [33]++y:=by
    rw[l8,hy];simp[fmtL,fmtK,opn,cls]
   have HR:=hdq hr;clear hr l8 D5 hy HK j7 hf hcm G8;go_enter Tryz.func63,Tryz.ntmps63;go_wp2_with fail;refine(HC.out _ (xr _)).mono ?_;rintro e w2 ⟨rfl,e2⟩;go_wp2_with fail;go_ret;exact⟨by rw[HR.out,<-y13];rfl,hx.trans e2⟩
 by_cases c15:k=15
 · subst c15
   have G8:ks.length=1:=by have:(1:Int)=(ks.length:Int):=j7;omega
   obtain⟨b,o,k0,n0,A0,y9,j9,rfl,HK,x0,x1,x2,I6,G9,U3,B9,j6⟩:=hK.get hx (j:=0) (by omega);simp only[Nat.zero_mul,Nat.add_zero] at x0 x1 x2;obtain⟨t0,D5⟩: ∃t0,t0=Tr.mk k0 n0 j9:=⟨_,rfl⟩;have l8:ks= [t0]:=q218 G8 (by omega) (by rw[D5];exact HK.out);have hl0:0 < ks.length:=by omega
   have hf:=j22 t0;have hcm:=q16 j6;rw[<-D5] at hcm;have HC:=hdq (fun W (hW:Ext _ W)=> hk _ j6 W _ (d - 1) (hsk _ j6) (by rw[<-D5];omega) (B9.ext hW));rw[<-D5] at HC;have y7:(fmtL t0).length<=10000:=by omega
   obtain⟨y,hy⟩: ∃y,y=fmtL t0:=⟨_,rfl⟩;rw[<-hy] at HC y7;have hx1:=j27 y7;have hr:fmtL (.mk 15 n ks)= [94]++y:=by
    rw[l8,hy];simp[fmtL,fmtK,opn,cls]
   have HR:=hdq hr;clear hr l8 D5 hy HK j7 hf hcm G8;go_enter Tryz.func63,Tryz.ntmps63;go_wp2_with fail;refine(HC.out _ (xr _)).mono ?_;rintro e w2 ⟨rfl,e2⟩;go_wp2_with fail;go_ret;exact⟨by rw[HR.out,<-y13];rfl,hx.trans e2⟩
 by_cases c16:k=16
 · subst c16
   have G8:ks.length=1:=by have:(1:Int)=(ks.length:Int):=j7;omega
   obtain⟨b,o,k0,n0,A0,y9,j9,rfl,HK,x0,x1,x2,I6,G9,U3,B9,j6⟩:=hK.get hx (j:=0) (by omega);simp only[Nat.zero_mul,Nat.add_zero] at x0 x1 x2;obtain⟨t0,D5⟩: ∃t0,t0=Tr.mk k0 n0 j9:=⟨_,rfl⟩;have l8:ks= [t0]:=q218 G8 (by omega) (by rw[D5];exact HK.out);have hl0:0 < ks.length:=by omega
   have hf:=j22 t0;have hcm:=q16 j6;rw[<-D5] at hcm;have HC:=hdq (fun W (hW:Ext _ W)=> hk _ j6 W _ (d - 1) (hsk _ j6) (by rw[<-D5];omega) (B9.ext hW));rw[<-D5] at HC;have y7:(fmtL t0).length<=10000:=by omega
   obtain⟨y,hy⟩: ∃y,y=fmtL t0:=⟨_,rfl⟩;rw[<-hy] at HC y7;have hx1:=j27 y7;have hr:fmtL (.mk 16 n ks)= [95]++y:=by
    rw[l8,hy];simp[fmtL,fmtK,opn,cls]
   have HR:=hdq hr;clear hr l8 D5 hy HK j7 hf hcm G8;go_enter Tryz.func63,Tryz.ntmps63;go_wp2_with fail;refine(HC.out _ (xr _)).mono ?_;rintro e w2 ⟨rfl,e2⟩;go_wp2_with fail;go_ret;exact⟨by rw[HR.out,<-y13];rfl,hx.trans e2⟩
 by_cases c3:k=3
 · subst c3
   have F9:ks.length=2:=by have:(2:Int)=(ks.length:Int):=j7;omega
   obtain⟨b,o,k0,n0,A0,y9,j9,rfl,HK,x0,x1,x2,I6,G9,U3,B9,j6⟩:=hK.get hx (j:=0) (by omega);obtain⟨b',o',k1,n1,A1,D8,i7,gh,G4,y0,y1,y2,fy,fu,I9,y8,q9⟩:=hK.get hx (j:=1) (by omega);cases gh
   simp only[Nat.zero_mul,Nat.add_zero] at x0 x1 x2;simp only[Nat.one_mul] at y0 y1 y2;obtain⟨t0,D5⟩: ∃t0,t0=Tr.mk k0 n0 j9:=⟨_,rfl⟩;obtain⟨t1,P9⟩: ∃t1,t1=Tr.mk k1 n1 i7:=⟨_,rfl⟩;have l8:ks= [t0,t1]:=q204 F9 (by omega) (by omega) (by rw[D5];exact HK.out) (by rw[P9];exact G4.out);have hl0:0 < ks.length:=by omega
   have M6:1 < ks.length:=by omega
   have hf:=j22 t0;have Z1:=j22 t1;have hcm:=q16 j6;have O6:=q16 q9;rw[<-D5] at hcm;rw[<-P9] at O6;have HC:=hdq (fun W (hW:Ext _ W)=> hk _ j6 W _ (d - 1) (hsk _ j6) (by rw[<-D5];omega) (B9.ext hW));have cx:=hdq (fun W (hW:Ext _ W)=> hk _ q9 W _ (d - 1) (hsk _ q9) (by rw[<-P9];omega) (y8.ext hW));rw[<-D5] at HC;rw[<-P9] at cx;have y7:(fmtL t0).length<=10000:=by omega
   have Q5:(fmtL t1).length<=10000:=by omega
   obtain⟨y,hy⟩: ∃y,y=fmtL t0:=⟨_,rfl⟩;obtain⟨z,hz⟩: ∃z,z=fmtL t1:=⟨_,rfl⟩;rw[<-hy] at HC y7;rw[<-hz] at cx Q5;have hx1:=j27 y7;have hx2:=j27 Q5;have hr:fmtL (.mk 3 n ks)= [40]++y++ [62]++z++ [41]:=by
    rw[l8,hy,hz];simp[fmtL,fmtK,opn,sep,cls]
   have HR:=hdq hr;have K5:(0:Int) <(ks.length:Int):=by omega
   have W4:(1:Int) <(ks.length:Int):=by omega
   have I0: ¬(9223372036854775807 < 1+(ofL y).size):=by omega
   have Gt: ¬(9223372036854775807 < 1+(ofL y).size+1):=by omega
   have Ei: ¬(9223372036854775807 < 1+(ofL y).size+1+(ofL z).size):=by omega
   have Hw: ¬(9223372036854775807 < 1+(ofL y).size+1+(ofL z).size+1):=by omega
   obtain⟨s0,s1,s2,-,-,-⟩:=own3 ia;clear hr l8 D5 hy P9 hz HK G4 j7 hf Z1 hcm O6 F9;go_enter Tryz.func63,Tryz.ntmps63;go_wp2_with fail;generalize World.alloc w _=w1 at*;have HS:=hdq (show∀w',Ext w1 w'->w'.cell? ⟨w.heap.size,2,none⟩=some (.slice (some ⟨b,o,none⟩) ks.length cap)/\w'.cell? ⟨b,o,none⟩=some (.int .i64 k0)/\w'.cell? ⟨b,o+1,none⟩=some (.int .i64 n0)/\w'.cell? ⟨b,o+2,none⟩=some (.slice A0 j9.length y9)/\w'.cell? ⟨b,o+3,none⟩=some (.int .i64 k1)/\w'.cell? ⟨b,o+3+1,none⟩=some (.int .i64 n1)/\w'.cell? ⟨b,o+3+2,none⟩=some (.slice A1 i7.length D8) from fun w' hw'=>⟨hw'.cell s2,hw'.cell x0,hw'.cell x1,hw'.cell x2,hw'.cell y0,hw'.cell y1,hw'.cell y2⟩)
   go_region_held3 (fun w'=> w'.cell? ⟨w.heap.size,2,none⟩=some (.slice (some ⟨b,o,none⟩) ks.length cap)/\w'.cell? ⟨b,o,none⟩=some (.int .i64 k0)/\w'.cell? ⟨b,o+1,none⟩=some (.int .i64 n0)/\w'.cell? ⟨b,o+2,none⟩=some (.slice A0 j9.length y9)/\w'.cell? ⟨b,o+3,none⟩=some (.int .i64 k1)/\w'.cell? ⟨b,o+3+1,none⟩=some (.int .i64 n1)/\w'.cell? ⟨b,o+3+2,none⟩=some (.slice A1 i7.length D8))
    (first|exact HS.out _ ((xr w1).drew.trans (e2.trans e3)) |exact HS.out _ ((xr w1).drew.trans e2) |exact HS.out _ (xr w1).drew)
    (first|(go_at_call 63;(with_reducible refine(HC.out _ (xr w1).drew).mono ?_);rintro e w2 ⟨rfl,e2⟩) |(go_at_call 63;refine(cx.out _ ((xr w1).drew.trans e2)).mono ?_;rintro e w3 ⟨rfl,e3⟩))
   clear s0 s1 s2 x0 x1 x2 y0 y1 y2 HS;go_wp2_with fail;go_ret;exact⟨by rw[HR.out];simp only[<-y13];rfl,hx.trans ((xr w1).drew.trans (e2.trans e3))⟩
 by_cases c4:k=4
 · subst c4
   have F9:ks.length=2:=by have:(2:Int)=(ks.length:Int):=j7;omega
   obtain⟨b,o,k0,n0,A0,y9,j9,rfl,HK,x0,x1,x2,I6,G9,U3,B9,j6⟩:=hK.get hx (j:=0) (by omega);obtain⟨b',o',k1,n1,A1,D8,i7,gh,G4,y0,y1,y2,fy,fu,I9,y8,q9⟩:=hK.get hx (j:=1) (by omega);cases gh
   simp only[Nat.zero_mul,Nat.add_zero] at x0 x1 x2;simp only[Nat.one_mul] at y0 y1 y2;obtain⟨t0,D5⟩: ∃t0,t0=Tr.mk k0 n0 j9:=⟨_,rfl⟩;obtain⟨t1,P9⟩: ∃t1,t1=Tr.mk k1 n1 i7:=⟨_,rfl⟩;have l8:ks= [t0,t1]:=q204 F9 (by omega) (by omega) (by rw[D5];exact HK.out) (by rw[P9];exact G4.out);have hl0:0 < ks.length:=by omega
   have M6:1 < ks.length:=by omega
   have hf:=j22 t0;have Z1:=j22 t1;have hcm:=q16 j6;have O6:=q16 q9;rw[<-D5] at hcm;rw[<-P9] at O6;have HC:=hdq (fun W (hW:Ext _ W)=> hk _ j6 W _ (d - 1) (hsk _ j6) (by rw[<-D5];omega) (B9.ext hW));have cx:=hdq (fun W (hW:Ext _ W)=> hk _ q9 W _ (d - 1) (hsk _ q9) (by rw[<-P9];omega) (y8.ext hW));rw[<-D5] at HC;rw[<-P9] at cx;have y7:(fmtL t0).length<=10000:=by omega
   have Q5:(fmtL t1).length<=10000:=by omega
   obtain⟨y,hy⟩: ∃y,y=fmtL t0:=⟨_,rfl⟩;obtain⟨z,hz⟩: ∃z,z=fmtL t1:=⟨_,rfl⟩;rw[<-hy] at HC y7;rw[<-hz] at cx Q5;have hx1:=j27 y7;have hx2:=j27 Q5;have hr:fmtL (.mk 4 n ks)= [91]++y++ [93]++z:=by
    rw[l8,hy,hz];simp[fmtL,fmtK,opn,sep,cls]
   have HR:=hdq hr;have K5:(0:Int) <(ks.length:Int):=by omega
   have W4:(1:Int) <(ks.length:Int):=by omega
   have I0: ¬(9223372036854775807 < 1+(ofL y).size):=by omega
   have Gt: ¬(9223372036854775807 < 1+(ofL y).size+1):=by omega
   have Ei: ¬(9223372036854775807 < 1+(ofL y).size+1+(ofL z).size):=by omega
   have Hw: ¬(9223372036854775807 < 1+(ofL y).size+1+(ofL z).size+1):=by omega
   obtain⟨s0,s1,s2,-,-,-⟩:=own3 ia;clear hr l8 D5 hy P9 hz HK G4 j7 hf Z1 hcm O6 F9;go_enter Tryz.func63,Tryz.ntmps63;go_wp2_with fail;generalize World.alloc w _=w1 at*;have HS:=hdq (show∀w',Ext w1 w'->w'.cell? ⟨w.heap.size,2,none⟩=some (.slice (some ⟨b,o,none⟩) ks.length cap)/\w'.cell? ⟨b,o,none⟩=some (.int .i64 k0)/\w'.cell? ⟨b,o+1,none⟩=some (.int .i64 n0)/\w'.cell? ⟨b,o+2,none⟩=some (.slice A0 j9.length y9)/\w'.cell? ⟨b,o+3,none⟩=some (.int .i64 k1)/\w'.cell? ⟨b,o+3+1,none⟩=some (.int .i64 n1)/\w'.cell? ⟨b,o+3+2,none⟩=some (.slice A1 i7.length D8) from fun w' hw'=>⟨hw'.cell s2,hw'.cell x0,hw'.cell x1,hw'.cell x2,hw'.cell y0,hw'.cell y1,hw'.cell y2⟩)
   go_region_held3 (fun w'=> w'.cell? ⟨w.heap.size,2,none⟩=some (.slice (some ⟨b,o,none⟩) ks.length cap)/\w'.cell? ⟨b,o,none⟩=some (.int .i64 k0)/\w'.cell? ⟨b,o+1,none⟩=some (.int .i64 n0)/\w'.cell? ⟨b,o+2,none⟩=some (.slice A0 j9.length y9)/\w'.cell? ⟨b,o+3,none⟩=some (.int .i64 k1)/\w'.cell? ⟨b,o+3+1,none⟩=some (.int .i64 n1)/\w'.cell? ⟨b,o+3+2,none⟩=some (.slice A1 i7.length D8))
    (first|exact HS.out _ ((xr w1).drew.trans (e2.trans e3)) |exact HS.out _ ((xr w1).drew.trans e2) |exact HS.out _ (xr w1).drew)
    (first|(go_at_call 63;(with_reducible refine(HC.out _ (xr w1).drew).mono ?_);rintro e w2 ⟨rfl,e2⟩) |(go_at_call 63;refine(cx.out _ ((xr w1).drew.trans e2)).mono ?_;rintro e w3 ⟨rfl,e3⟩))
   clear s0 s1 s2 x0 x1 x2 y0 y1 y2 HS;go_wp2_with fail;go_ret;exact⟨by rw[HR.out];simp only[<-y13];rfl,hx.trans ((xr w1).drew.trans (e2.trans e3))⟩
 by_cases c5:k=5
 · subst c5
   have F9:ks.length=2:=by have:(2:Int)=(ks.length:Int):=j7;omega
   obtain⟨b,o,k0,n0,A0,y9,j9,rfl,HK,x0,x1,x2,I6,G9,U3,B9,j6⟩:=hK.get hx (j:=0) (by omega);obtain⟨b',o',k1,n1,A1,D8,i7,gh,G4,y0,y1,y2,fy,fu,I9,y8,q9⟩:=hK.get hx (j:=1) (by omega);cases gh
   simp only[Nat.zero_mul,Nat.add_zero] at x0 x1 x2;simp only[Nat.one_mul] at y0 y1 y2;obtain⟨t0,D5⟩: ∃t0,t0=Tr.mk k0 n0 j9:=⟨_,rfl⟩;obtain⟨t1,P9⟩: ∃t1,t1=Tr.mk k1 n1 i7:=⟨_,rfl⟩;have l8:ks= [t0,t1]:=q204 F9 (by omega) (by omega) (by rw[D5];exact HK.out) (by rw[P9];exact G4.out);have hl0:0 < ks.length:=by omega
   have M6:1 < ks.length:=by omega
   have hf:=j22 t0;have Z1:=j22 t1;have hcm:=q16 j6;have O6:=q16 q9;rw[<-D5] at hcm;rw[<-P9] at O6;have HC:=hdq (fun W (hW:Ext _ W)=> hk _ j6 W _ (d - 1) (hsk _ j6) (by rw[<-D5];omega) (B9.ext hW));have cx:=hdq (fun W (hW:Ext _ W)=> hk _ q9 W _ (d - 1) (hsk _ q9) (by rw[<-P9];omega) (y8.ext hW));rw[<-D5] at HC;rw[<-P9] at cx;have y7:(fmtL t0).length<=10000:=by omega
   have Q5:(fmtL t1).length<=10000:=by omega
   obtain⟨y,hy⟩: ∃y,y=fmtL t0:=⟨_,rfl⟩;obtain⟨z,hz⟩: ∃z,z=fmtL t1:=⟨_,rfl⟩;rw[<-hy] at HC y7;rw[<-hz] at cx Q5;have hx1:=j27 y7;have hx2:=j27 Q5;have hr:fmtL (.mk 5 n ks)= [40]++y++ [32]++z++ [41]:=by
    rw[l8,hy,hz];simp[fmtL,fmtK,opn,sep,cls]
   have HR:=hdq hr;have K5:(0:Int) <(ks.length:Int):=by omega
   have W4:(1:Int) <(ks.length:Int):=by omega
   have I0: ¬(9223372036854775807 < 1+(ofL y).size):=by omega
   have Gt: ¬(9223372036854775807 < 1+(ofL y).size+1):=by omega
   have Ei: ¬(9223372036854775807 < 1+(ofL y).size+1+(ofL z).size):=by omega
   have Hw: ¬(9223372036854775807 < 1+(ofL y).size+1+(ofL z).size+1):=by omega
   obtain⟨s0,s1,s2,-,-,-⟩:=own3 ia;clear hr l8 D5 hy P9 hz HK G4 j7 hf Z1 hcm O6 F9;go_enter Tryz.func63,Tryz.ntmps63;go_wp2_with fail;generalize World.alloc w _=w1 at*;have HS:=hdq (show∀w',Ext w1 w'->w'.cell? ⟨w.heap.size,2,none⟩=some (.slice (some ⟨b,o,none⟩) ks.length cap)/\w'.cell? ⟨b,o,none⟩=some (.int .i64 k0)/\w'.cell? ⟨b,o+1,none⟩=some (.int .i64 n0)/\w'.cell? ⟨b,o+2,none⟩=some (.slice A0 j9.length y9)/\w'.cell? ⟨b,o+3,none⟩=some (.int .i64 k1)/\w'.cell? ⟨b,o+3+1,none⟩=some (.int .i64 n1)/\w'.cell? ⟨b,o+3+2,none⟩=some (.slice A1 i7.length D8) from fun w' hw'=>⟨hw'.cell s2,hw'.cell x0,hw'.cell x1,hw'.cell x2,hw'.cell y0,hw'.cell y1,hw'.cell y2⟩)
   go_region_held3 (fun w'=> w'.cell? ⟨w.heap.size,2,none⟩=some (.slice (some ⟨b,o,none⟩) ks.length cap)/\w'.cell? ⟨b,o,none⟩=some (.int .i64 k0)/\w'.cell? ⟨b,o+1,none⟩=some (.int .i64 n0)/\w'.cell? ⟨b,o+2,none⟩=some (.slice A0 j9.length y9)/\w'.cell? ⟨b,o+3,none⟩=some (.int .i64 k1)/\w'.cell? ⟨b,o+3+1,none⟩=some (.int .i64 n1)/\w'.cell? ⟨b,o+3+2,none⟩=some (.slice A1 i7.length D8))
    (first|exact HS.out _ ((xr w1).drew.trans (e2.trans e3)) |exact HS.out _ ((xr w1).drew.trans e2) |exact HS.out _ (xr w1).drew)
    (first|(go_at_call 63;(with_reducible refine(HC.out _ (xr w1).drew).mono ?_);rintro e w2 ⟨rfl,e2⟩) |(go_at_call 63;refine(cx.out _ ((xr w1).drew.trans e2)).mono ?_;rintro e w3 ⟨rfl,e3⟩))
   clear s0 s1 s2 x0 x1 x2 y0 y1 y2 HS;go_wp2_with fail;go_ret;exact⟨by rw[HR.out];simp only[<-y13];rfl,hx.trans ((xr w1).drew.trans (e2.trans e3))⟩
 by_cases c13:k=13
 · subst c13
   have F9:ks.length=2:=by have:(2:Int)=(ks.length:Int):=j7;omega
   obtain⟨b,o,k0,n0,A0,y9,j9,rfl,HK,x0,x1,x2,I6,G9,U3,B9,j6⟩:=hK.get hx (j:=0) (by omega);obtain⟨b',o',k1,n1,A1,D8,i7,gh,G4,y0,y1,y2,fy,fu,I9,y8,q9⟩:=hK.get hx (j:=1) (by omega);cases gh
   simp only[Nat.zero_mul,Nat.add_zero] at x0 x1 x2;simp only[Nat.one_mul] at y0 y1 y2;obtain⟨t0,D5⟩: ∃t0,t0=Tr.mk k0 n0 j9:=⟨_,rfl⟩;obtain⟨t1,P9⟩: ∃t1,t1=Tr.mk k1 n1 i7:=⟨_,rfl⟩;have l8:ks= [t0,t1]:=q204 F9 (by omega) (by omega) (by rw[D5];exact HK.out) (by rw[P9];exact G4.out);have hl0:0 < ks.length:=by omega
   have M6:1 < ks.length:=by omega
   have hf:=j22 t0;have Z1:=j22 t1;have hcm:=q16 j6;have O6:=q16 q9;rw[<-D5] at hcm;rw[<-P9] at O6;have HC:=hdq (fun W (hW:Ext _ W)=> hk _ j6 W _ (d - 1) (hsk _ j6) (by rw[<-D5];omega) (B9.ext hW));have cx:=hdq (fun W (hW:Ext _ W)=> hk _ q9 W _ (d - 1) (hsk _ q9) (by rw[<-P9];omega) (y8.ext hW));rw[<-D5] at HC;rw[<-P9] at cx;have y7:(fmtL t0).length<=10000:=by omega
   have Q5:(fmtL t1).length<=10000:=by omega
   obtain⟨y,hy⟩: ∃y,y=fmtL t0:=⟨_,rfl⟩;obtain⟨z,hz⟩: ∃z,z=fmtL t1:=⟨_,rfl⟩;rw[<-hy] at HC y7;rw[<-hz] at cx Q5;have hx1:=j27 y7;have hx2:=j27 Q5;have hr:fmtL (.mk 13 n ks)= [40]++y++ [42]++z++ [41]:=by
    rw[l8,hy,hz];simp[fmtL,fmtK,opn,sep,cls]
   have HR:=hdq hr;have K5:(0:Int) <(ks.length:Int):=by omega
   have W4:(1:Int) <(ks.length:Int):=by omega
   have I0: ¬(9223372036854775807 < 1+(ofL y).size):=by omega
   have Gt: ¬(9223372036854775807 < 1+(ofL y).size+1):=by omega
   have Ei: ¬(9223372036854775807 < 1+(ofL y).size+1+(ofL z).size):=by omega
   have Hw: ¬(9223372036854775807 < 1+(ofL y).size+1+(ofL z).size+1):=by omega
   obtain⟨s0,s1,s2,-,-,-⟩:=own3 ia;clear hr l8 D5 hy P9 hz HK G4 j7 hf Z1 hcm O6 F9;go_enter Tryz.func63,Tryz.ntmps63;go_wp2_with fail;generalize World.alloc w _=w1 at*;have HS:=hdq (show∀w',Ext w1 w'->w'.cell? ⟨w.heap.size,2,none⟩=some (.slice (some ⟨b,o,none⟩) ks.length cap)/\w'.cell? ⟨b,o,none⟩=some (.int .i64 k0)/\w'.cell? ⟨b,o+1,none⟩=some (.int .i64 n0)/\w'.cell? ⟨b,o+2,none⟩=some (.slice A0 j9.length y9)/\w'.cell? ⟨b,o+3,none⟩=some (.int .i64 k1)/\w'.cell? ⟨b,o+3+1,none⟩=some (.int .i64 n1)/\w'.cell? ⟨b,o+3+2,none⟩=some (.slice A1 i7.length D8) from fun w' hw'=>⟨hw'.cell s2,hw'.cell x0,hw'.cell x1,hw'.cell x2,hw'.cell y0,hw'.cell y1,hw'.cell y2⟩)
   go_region_held3 (fun w'=> w'.cell? ⟨w.heap.size,2,none⟩=some (.slice (some ⟨b,o,none⟩) ks.length cap)/\w'.cell? ⟨b,o,none⟩=some (.int .i64 k0)/\w'.cell? ⟨b,o+1,none⟩=some (.int .i64 n0)/\w'.cell? ⟨b,o+2,none⟩=some (.slice A0 j9.length y9)/\w'.cell? ⟨b,o+3,none⟩=some (.int .i64 k1)/\w'.cell? ⟨b,o+3+1,none⟩=some (.int .i64 n1)/\w'.cell? ⟨b,o+3+2,none⟩=some (.slice A1 i7.length D8))
    (first|exact HS.out _ ((xr w1).drew.trans (e2.trans e3)) |exact HS.out _ ((xr w1).drew.trans e2) |exact HS.out _ (xr w1).drew)
    (first|(go_at_call 63;(with_reducible refine(HC.out _ (xr w1).drew).mono ?_);rintro e w2 ⟨rfl,e2⟩) |(go_at_call 63;refine(cx.out _ ((xr w1).drew.trans e2)).mono ?_;rintro e w3 ⟨rfl,e3⟩))
   clear s0 s1 s2 x0 x1 x2 y0 y1 y2 HS;go_wp2_with fail;go_ret;exact⟨by rw[HR.out];simp only[<-y13];rfl,hx.trans ((xr w1).drew.trans (e2.trans e3))⟩
 by_cases c9:k=9
 · subst c9
   have hf:=j58 [44] (by simp) ks true;have HC:=hdq (fun W (hW:Ext w W)=> q62 ks hk (d - 1) hsk (by omega) W A cap (hK.ext hW) hl hc);have y7:(fmtK [44] ks true).length<=10000:=by omega
   have hr:fmtL (.mk 9 n ks)= [60]++fmtK [44] ks true++ [62]:=by
    simp[fmtL,opn,sep,cls]
   obtain⟨y,hy⟩: ∃y,y=fmtK [44] ks true:=⟨_,rfl⟩;rw[<-hy] at HC y7 hr;have hx1:=j27 y7;have HR:=hdq hr;have dw:((⟨#[60]⟩:ByteArray)++ofL y).size<=10002:=by
    have:=j27 (x:= [60]++y) (n:=10002) (by simp;omega)
    rwa [<-y13] at this
   clear hr hy j7 hf;go_enter Tryz.func63,Tryz.ntmps63;go_wp2_with fail;refine(HC.out _ hx).mono ?_;rintro e w2 ⟨rfl,e2⟩;go_wp2_with fail;go_ret;exact⟨by rw[HR.out,<-y13,<-y13];rfl,hx.trans e2⟩
 by_cases c10:k=10
 · subst c10
   have hf:=j58 [44] (by simp) ks true;have HC:=hdq (fun W (hW:Ext w W)=> q62 ks hk (d - 1) hsk (by omega) W A cap (hK.ext hW) hl hc);have y7:(fmtK [44] ks true).length<=10000:=by omega
   have hr:fmtL (.mk 10 n ks)= [123]++fmtK [44] ks true++ [125]:=by
    simp[fmtL,opn,sep,cls]
   obtain⟨y,hy⟩: ∃y,y=fmtK [44] ks true:=⟨_,rfl⟩;rw[<-hy] at HC y7 hr;have hx1:=j27 y7;have HR:=hdq hr;have dw:((⟨#[123]⟩:ByteArray)++ofL y).size<=10002:=by
    have:=j27 (x:= [123]++y) (n:=10002) (by simp;omega)
    rwa [<-y13] at this
   clear hr hy j7 hf;go_enter Tryz.func63,Tryz.ntmps63;go_wp2_with fail;refine(HC.out _ hx).mono ?_;rintro e w2 ⟨rfl,e2⟩;go_wp2_with fail;go_ret;exact⟨by rw[HR.out,<-y13,<-y13];rfl,hx.trans e2⟩
 by_cases c14:k=14
 · subst c14
   have hf:=j58 [44] (by simp) ks true;have HC:=hdq (fun W (hW:Ext w W)=> q62 ks hk (d - 1) hsk (by omega) W A cap (hK.ext hW) hl hc);have y7:(fmtK [44] ks true).length<=10000:=by omega
   have hr:fmtL (.mk 14 n ks)= [124]++fmtK [44] ks true++ [124]:=by
    simp[fmtL,opn,sep,cls]
   obtain⟨y,hy⟩: ∃y,y=fmtK [44] ks true:=⟨_,rfl⟩;rw[<-hy] at HC y7 hr;have hx1:=j27 y7;have HR:=hdq hr;have dw:((⟨#[124]⟩:ByteArray)++ofL y).size<=10002:=by
    have:=j27 (x:= [124]++y) (n:=10002) (by simp;omega)
    rwa [<-y13] at this
   clear hr hy j7 hf;go_enter Tryz.func63,Tryz.ntmps63;go_wp2_with fail;refine(HC.out _ hx).mono ?_;rintro e w2 ⟨rfl,e2⟩;go_wp2_with fail;go_ret;exact⟨by rw[HR.out,<-y13,<-y13];rfl,hx.trans e2⟩
 by_cases c12:k=12
 · subst c12
   have hf:=j58 [44] (by simp) ks true;have HC:=hdq (fun W (hW:Ext w W)=> q62 ks hk (d - 1) hsk (by omega) W A cap (hK.ext hW) hl hc);have y7:(fmtK [44] ks true).length<=10000:=by omega
   have hr:fmtL (.mk 12 n ks)= [64,60]++fmtK [44] ks true++ [62]:=by
    simp[fmtL,opn,sep,cls]
   obtain⟨y,hy⟩: ∃y,y=fmtK [44] ks true:=⟨_,rfl⟩;rw[<-hy] at HC y7 hr;have hx1:=j27 y7;have HR:=hdq hr;have dw:((⟨#[64,60]⟩:ByteArray)++ofL y).size<=10002:=by
    have:=j27 (x:= [64,60]++y) (n:=10002) (by simp;omega)
    rwa [<-y13] at this
   clear hr hy j7 hf;go_enter Tryz.func63,Tryz.ntmps63;go_wp2_with fail;refine(HC.out _ hx).mono ?_;rintro e w2 ⟨rfl,e2⟩;go_wp2_with fail;go_ret;exact⟨by rw[HR.out,<-y13,<-y13];rfl,hx.trans e2⟩
 by_cases c6:k=6
 · subst c6
   have Z9:ks= []:=List.eq_nil_of_length_eq_zero (by have:(0:Int)=(ks.length:Int):=j7;omega);have hr:fmtL (.mk 6 n ks)= [78]:=by
    rw[Z9];simp[fmtL,fmtK,opn,cls]
   have HR:=hdq hr;clear hr j7 Z9;go_enter Tryz.func63,Tryz.ntmps63;go_wp2_with fail;go_ret;exact⟨by rw[HR.out];rfl,hx⟩
 by_cases c7:k=7
 · subst c7
   have Z9:ks= []:=List.eq_nil_of_length_eq_zero (by have:(0:Int)=(ks.length:Int):=j7;omega);have hr:fmtL (.mk 7 n ks)= [48]:=by
    rw[Z9];simp[fmtL,fmtK,opn,cls]
   have HR:=hdq hr;clear hr j7 Z9;go_enter Tryz.func63,Tryz.ntmps63;go_wp2_with fail;go_ret;exact⟨by rw[HR.out];rfl,hx⟩
 by_cases c1:k=1
 · subst c1
   obtain⟨m,rfl⟩: ∃m:Nat,n=m:=⟨n.toNat,by omega⟩;have hm:(m:Int)<=20:=I0;have HC:=hdq (fun W=> j104 m (by omega) W);have hr:fmtL (.mk 1 m ks)= [35]++decL m:=by
    simp[fmtL]
   have y7:=q72 m;obtain⟨y,hy⟩: ∃y,y=decL m:=⟨_,rfl⟩;rw[<-hy] at HC y7 hr;have hx1:=j27 y7;have HR:=hdq hr;clear hr j7 hy;go_enter Tryz.func63,Tryz.ntmps63;go_wp2_with fail;refine(HC.out _).mono ?_;rintro e w2 ⟨rfl,e2⟩;go_wp2_with fail;go_ret;exact⟨by rw[HR.out,<-y13];rfl,hx.trans e2⟩
 by_cases c2:k=2
 · subst c2
   obtain⟨m,rfl⟩: ∃m:Nat,n=m:=⟨n.toNat,by omega⟩;have hm:(m:Int)<=3:=I0;have HC:=hdq (fun W=> j104 m (by omega) W);have hr:fmtL (.mk 2 m ks)= [42]++decL m:=by
    simp[fmtL]
   have y7:=q72 m;obtain⟨y,hy⟩: ∃y,y=decL m:=⟨_,rfl⟩;rw[<-hy] at HC y7 hr;have hx1:=j27 y7;have HR:=hdq hr;clear hr j7 hy;go_enter Tryz.func63,Tryz.ntmps63;go_wp2_with fail;refine(HC.out _).mono ?_;rintro e w2 ⟨rfl,e2⟩;go_wp2_with fail;go_ret;exact⟨by rw[HR.out,<-y13];rfl,hx.trans e2⟩
 exfalso
 have rk:0<=opsT k:=by omega
 unfold opsT at rk
 repeat rw[if_neg (by omega)] at rk
 omega
theorem j97(t:Tr)(w:World)(v:Value)(j8:Lies w t v):Calls Tryz.prog 30 #[v] w fun e w'=> e= .returned (.string (ofL (fmtV t)))/\Ext w w':=by
 have H1:=hdq (fun W (hW:Ext w W)=> q108 t W v (j8.ext hW));have H2:=hdq (fun(hv:valid sigT t=true) W (hW:Ext w W)=> y156 t W v 30 (y11 hv).1 (by have:=(y11 hv).2;omega) (j8.ext hW));have hf:fmtV t=if valid sigT t=true then fmtL t else []:=rfl
 obtain⟨b,hb⟩: ∃b,b=valid sigT t:=⟨_,rfl⟩;rw[<-hb] at H1 H2 hf;have HF:=hdq hf;clear hb hf;obtain⟨k,n,ks⟩:=t;obtain⟨A,cap,rfl,hl,hc,hK⟩:=Lies.mk_iff.1 j8;have hx:Ext w (w.alloc (.cells #[.int .i64 k,.int .i64 n,.slice A ks.length cap] 26)):=(xr w).alloc _;have ia:=heap_alloc_new w (.cells #[.int .i64 k,.int .i64 n,.slice A ks.length cap] 26);cases b with
 |false=>
  go_enter Tryz.func30,Tryz.ntmps30;go_wp2_with fail;refine(H1.out _ hx).mono ?_;rintro e w1 ⟨rfl,e1⟩;go_wp2_with fail;go_ret;exact⟨by rw[HF.out];rfl,hx.trans e1⟩
 |true=>
  go_enter Tryz.func30,Tryz.ntmps30;go_wp2_with fail;refine(H1.out _ hx).mono ?_;rintro e w1 ⟨rfl,e1⟩;obtain⟨s0,s1,s2,-,-,-⟩:=own3 (e1.blk ia);go_wp2_with fail;refine(H2.out trivial _ (hx.trans e1)).mono ?_;rintro e w2 ⟨rfl,e2⟩;go_wp2_with fail;go_ret;exact⟨by rw[HF.out];rfl,(hx.trans e1).trans e2⟩
def OwnI(w:World)(e:TypeId)(A:Option Addr)(ns:List Int)(L:List Nat):Prop:=
 (ns= []/\L= [])\/ ∃b cs,A=some ⟨b,0,none⟩/\w.heap[b]? =some (.cells cs e (0,0))/\ns.length<=cs.size/\cs.toList.take ns.length=ns.map (Value.int .i64)/\L= [b]
theorem OwnI.mono{w w':World}{e:TypeId}{A:Option Addr}{ns:List Int}{L:List Nat}(h:OwnI w e A ns L)(hw: ∀b,b∈L->w'.heap[b]? =w.heap[b]?):OwnI w' e A ns L:=by
 rcases h with h|⟨b,cs,rfl,hb,h1,h2,rfl⟩
 · exact .inl h
 · exact .inr ⟨b,cs,rfl,(hw b (by simp)).trans hb,h1,h2,rfl⟩
theorem y178.own{W w:World}{e:TypeId}{v:Value}{ns:List Int}(h:y178 W w e v ns): ∃A cap L,v= .slice A ns.length cap/\ns.length<=cap/\cap<=maxLen/\OwnI w e A ns L/\q33 W w L:=by
 rcases h.2 with⟨rfl,h0⟩ |⟨g,cap,cur,rfl,hb,hg,hn,hm,hcs,ht⟩
 · obtain rfl:ns= []:=List.eq_nil_of_length_eq_zero h0
   exact⟨none,0, [],rfl,Nat.le_refl _,Nat.zero_le _,.inl ⟨rfl,rfl⟩,q33.nil _ _⟩
 · refine⟨_,cap, [g],rfl,hn,hm,.inr ⟨g,cur,rfl,hg,by omega,by simpa using ht,rfl⟩,by simp,fun b hb'=> ?_⟩
   obtain rfl:=List.mem_singleton.1 hb';exact⟨hb,j10 hg⟩
theorem InK.two{w:World}{S:Nat->Prop}{e:TypeId}{t t':Tr}{v0 v1 v2 u0 u1 u2:Value}{g:Nat}(h:InT w S t (.agg #[v0,v1,v2]))(h':InT w S t' (.agg #[u0,u1,u2]))(hg:w.heap[g]? =some (.cells #[v0,v1,v2,u0,u1,u2] e (0,0)))(hS:S g):InK w S (some ⟨g,0,none⟩) [t,t']:=by
 refine .inr ⟨g,0,rfl,hS, ?_⟩;unfold InL;refine⟨⟨v0,v1,v2,q10 hg 0,q10 hg 1,q10 hg 2,h⟩, ?_⟩;unfold InL;refine⟨⟨u0,u1,u2,q10 hg 3,q10 hg 4,q10 hg 5,h'⟩, ?_⟩;unfold InL
 trivial
theorem InT.three{w:World}{S:Nat->Prop}{t:Tr}{u:Value}(h:InT w S t u): ∃k n A l c,u= .agg #[.int .i64 k,.int .i64 n,.slice A l c]:=by
 obtain⟨k,n,ks⟩:=t;obtain⟨A,cap,rfl,_⟩:=InT.mk_iff.1 h;exact⟨k,n,A,_,cap,rfl⟩
theorem New.to{W w w1 w2:World}{t:Tr}{v:Value}(h:New w w1 t v)(he:Ext w1 w2)(hW:W.heap.size<=w.heap.size){S:Nat->Prop}(hS: ∀b,W.heap.size<=b->b < w1.heap.size->S b):InT w2 S t v:=
 h.mono (fun b hb=> hS b (Nat.le_trans hW hb.1) hb.2) (fun b hb=> he.heap b hb.2)
theorem q125{g:Sig}: ∀{ts:List Tr} {d:Int},(∀t∈ts,shape g t d=true)->q21 g ts d=true
 | [],_,_=> rfl
 |t::ts,d,h=> by
  simp only[q21,Bool.and_eq_true];exact⟨h t (by simp),q125 (fun x hx=> h x (by simp[hx]))⟩
theorem q196{g:Sig}{k n:Int}{ks:List Tr}{d:Int}(h1:1<=d)(h2:g.ops k=(ks.length:Int))(h3:0<=n)(h4:n<=g.most k)(h5: ∀t∈ks,shape g t (d - 1)=true):shape g (.mk k n ks) d=true:=by
 simp only[shape,y79,Bool.and_eq_true,decide_eq_true_eq];exact⟨h1,⟨h2,j31.2 ⟨h3,h4⟩⟩,q125 h5⟩
theorem y160{g:Sig}{t:Tr}{d:Int}(h:shape g t d=true):1<=d:=by
 obtain⟨k,n,ks⟩:=t;simp only[shape,Bool.and_eq_true,decide_eq_true_eq] at h;exact h.1
theorem j45{g:Sig}: ∀{t:Tr} {d e:Int},shape g t d=true->d<=e->shape g t e=true:=by
 intro t;refine Tr.ind (P:=fun t=> ∀{d e:Int},shape g t d=true->d<=e->shape g t e=true) (fun k n ks ih=> ?_) t;intro d e h hd;obtain⟨h1,h2,h3,h4⟩:=j11 h;have:=y160 h;exact q196 (by omega) h1 h2 h3 (fun t ht=> ih t ht (h4 t ht) (by omega))
end Go.Proofs.YtbnkbepgmenblaaGreatDoor
