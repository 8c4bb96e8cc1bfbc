/-
  Lemmas towards the law, 12: Fmt, Ints2, Fvs.
-/
import Derived.Test.YtdkamgafpphdjaaGreatUAK
import Derived.Laws.Concat
import Derived.Laws.IdiomStrings
set_option maxHeartbeats 4000000
set_option maxRecDepth 100000
namespace Go.Proofs.YtdkamgafpphdjaaGreat
open Go.RowKit
set_option linter.unusedVariables false
theorem conv1(w:World)(x:Int)(b:UInt8)(hb:(b.toNat:Int)=x):(convert 22 9 (.slice (some ⟨w.heap.size,0,none⟩) 1 1)).run Tryz.prog (w.alloc (.cells #[.int .u8 x] 5))= .ok (.string (ofL [b])) (w.alloc (.cells #[.int .u8 x] 5)):=by
 have:=run_convert_bytes_back (P:=Tryz.prog) (w.alloc (.cells #[.int .u8 x] 5)) 22 9 5 ⟨w.heap.size,0,none⟩ 1 [b] Tryz.underlying22 Tryz.underlying5 Tryz.underlying9 (fun j hj=> by
  have:j=0:=by simpa using hj
  subst this;rw[Addr.add_lit,Nat.zero_add,y10 (heap_alloc_new w _)];simp only[List.getElem_cons_zero,hb]
  rfl)
 simpa[ofL] using this
theorem y183(a:List UInt8):ofL a++({data:=#[]}:ByteArray)=ofL a:=by
 have:=q14 a []
 simpa[ofL] using this
theorem y138(n:Nat)(h:n < 256):((UInt8.ofNat n).toNat:Int)=n:=by
 simp
 omega
theorem q108(n:Nat)(hn:n<=99)(w:World):Calls Tryz.prog 211 #[.int .i64 n] w fun e w'=> e= .returned (.string (ofL (decL n)))/\Ext w w':=by
 by_cases h9:n<=9
 · obtain⟨b,hb⟩: ∃b,b=UInt8.ofNat (48+n):=⟨_,rfl⟩
   have hc:=conv1 w (48+n) b (by rw[hb,y138 _ (by omega)];omega);have hd:decL n= [b]:=by
    unfold decL;rw[if_pos (by omega),hb]
    rfl
   have HD:=hdq hd;have HC:=hdq (y183 [b]);clear hd hb;go_enter Tryz.func211,Tryz.ntmps211;go_wp2_with fail;refine wp_loop_rounds 1 ?_;rw[rounds_succ];go_wp2_with fail;go_ret;exact⟨by rw[HD.out,<-HC.out];rfl,(xr w).alloc _⟩
 · obtain⟨r,hr⟩: ∃r:Int,r=(n:Int) % 10:=⟨_,rfl⟩
   obtain⟨q,hq⟩: ∃q:Int,q=(n:Int) / 10:=⟨_,rfl⟩;have hm0:0<=r:=by omega
   have hm1:r<=9:=by omega
   have hq0:0<=q:=by omega
   have hq1:q<=9:=by omega
   obtain⟨b,hb⟩: ∃b,b=UInt8.ofNat (48+n / 10):=⟨_,rfl⟩;obtain⟨c,hcb⟩: ∃b,b=UInt8.ofNat (48+n - n / 10*10):=⟨_,rfl⟩;have hc:=conv1 w (48+r) c (by rw[hcb,y138 _ (by omega)];omega);have hc2:=conv1 (w.alloc (.cells #[.int .u8 (48+r)] 5)) (48+q) b (by rw[hb,y138 _ (by omega)];omega);rw[World.size_alloc] at hc2;have hd:decL n= [b]++ [c]:=by
    unfold decL;rw[if_neg (by omega),hb,hcb];simp only[List.cons_append,List.nil_append,List.cons.injEq,and_true]
    constructor <;>(congr 1;try omega)
   have HD:=hdq hd;have HC:=hdq (y183 [c]);have h3:decide ((9:Int) < q)=false:=decide_eq_false (by omega);clear hd hb hcb;subst hr hq;go_enter Tryz.func211,Tryz.ntmps211;go_wp2_with fail;refine wp_loop_rounds 2 ?_;rw[rounds_succ];go_wp2_with fail;rw[rounds_succ];go_wp2_with fail;go_ret;exact⟨by rw[HD.out,<-q14,<-HC.out];rfl,((xr w).alloc _).alloc _⟩
def TextC(t:Tr):Prop:= ∀(w:World) (v:Value) (d:Int),shape sigT t d=true->cnt t<=1000->Lies w t v->Calls Tryz.prog 197 #[v] w fun e w'=> e= .returned (.string (ofL (fmtL t)))/\Ext w w'
theorem y31{x:List UInt8}{n:Nat}(h:x.length<=n):(ofL x).size<=n:=by rw[y89];exact h
theorem y63(ks:List Tr)(hk: ∀t∈ks,TextC t)(d:Int)(hsh: ∀t∈ks,shape sigT t d=true)(hcn:cnts ks<=1000)(w:World)(A:Option Addr)(cap:Nat)(h:y16 w A ks)(hl:ks.length<=cap)(hc:cap<=maxLen):
 Calls Tryz.prog 212 #[.slice A ks.length cap] w fun e w'=> e= .returned (.string (ofL (fmtK [44] ks true)))/\Ext w w':=by
 have hcc:=hc;unfold maxLen at hcc;have hlc:=j16 ks;go_enter Tryz.func212,Tryz.ntmps212;go_wp2_with fail
 go_loopw [3,4] (fun o i wr=> ∃(j:Nat) (x:List UInt8),j<=ks.length/\i= .int .i64 j/\o= .string (ofL x)/\x++fmtK [44] (ks.drop j) (decide (j=0))=fmtK [44] ks true/\x.length+5*cnts (ks.drop j)<=5*cnts ks/\Ext w wr) (fun _ i _=> ks.length -(intOf i).toNat)
 case atStart=> exact⟨0, [],Nat.zero_le _,rfl,rfl,rfl,by simp,xr _⟩
 case round=>
  obtain⟨j,x,hj,rfl,rfl,heq,hlen,he⟩:=hrel;have HE:=hdq heq;clear heq;by_cases hlt:j < ks.length
  · obtain⟨b,o,k,n,A',cap',kids,rfl,HK,c0,c1,c2,hkl,hkc,hK,hin,hmem⟩:=h.get he hlt
    have hjz:(j:Int) <(ks.length:Int):=by omega
    have hst:ks.drop j= .mk k n kids::ks.drop (j+1):=by rw[List.drop_eq_getElem_cons hlt,HK.out]
    have hf:=y23 (.mk k n kids);have hcd:cnts (ks.drop j)=cnt (.mk k n kids)+cnts (ks.drop (j+1)):=by rw[hst];simp only[cnts]
    have hcm:=y14 hmem;have HC:=hdq (hk _ hmem wr _ d (hsh _ hmem) (by omega) hin);have hfk:fmtK [44] (ks.drop j) (decide (j=0))=(if decide (j=0)=true then [] else [44])++fmtL (.mk k n kids)++fmtK [44] (ks.drop (j+1)) false:=by
     rw[hst];conv=> lhs;unfold fmtK
    have HFK:=hdq hfk;have hxl:x.length<=10000:=by omega
    have hx1:=y31 hxl;obtain⟨y,hy⟩: ∃y,y=fmtL (.mk k n kids):=⟨_,rfl⟩;rw[<-hy] at HC HFK hf;have hx2:=y31 (x:=y) (n:=10000) (by omega);have HCD:=hdq hcd;have HL:=hdq (show x.length+5*(cnt (.mk k n kids)+cnts (ks.drop (j+1)))<=5*cnts ks from by rw[<-hcd];exact hlen);clear hst hcd hfk hy hlen;rcases Nat.eq_zero_or_pos j with h0|h0
    · subst h0
      have hd0:decide ((0:Int) <((0:Nat):Int))=false:=by decide
      simp only[Nat.zero_mul,Nat.add_zero] at c0 c1 c2;go_wp2_with fail;refine HC.out.mono ?_;rintro e w1 ⟨rfl,e1⟩;go_wp2_with fail
      go_roundw
      case rel=> exact⟨1,x++y,by omega,rfl,by rw[q14],by rw[<-HE.out,HFK.out];simp,by have:=HL.out;rw[Nat.zero_add] at this;simp only[List.length_append];omega,he.trans e1⟩
      case measure=> simp[intOf];omega
    · have hd0:decide ((0:Int) <(j:Int))=true:=decide_eq_true (by omega)
      have HX:=hdq (show ofL x++({data:=#[44]}:ByteArray)=ofL (x++ [44]) from q14 x [44]);have hx3:(ofL x++({data:=#[44]}:ByteArray)).size<=10001:=by rw[HX.out,y89];simp;omega
      go_wp2_with fail;refine HC.out.mono ?_;rintro e w1 ⟨rfl,e1⟩;go_wp2_with fail
      go_roundw
      case rel=> exact⟨j+1,x++ [44]++y,by omega,by go_num,by rw[HX.out,q14],by rw[<-HE.out,HFK.out,show decide (j=0)=false from decide_eq_false (by omega),show decide (j+1=0)=false from decide_eq_false (by omega)];simp,by have:=HL.out;simp only[List.length_append,List.length_singleton];omega,he.trans e1⟩
      case measure=> simp[intOf];omega
  · have hd:=List.drop_of_length_le (show ks.length<=j by omega)
    have hx:x=fmtK [44] ks true:=by rw[<-HE.out,hd];simp[fmtK]
    have HX:=hdq hx;clear hd hx;go_wp2_with fail;go_ret;exact⟨by rw[<-HX.out];rfl,he⟩
theorem j221{ks:List Tr}{t:Tr}(h:ks.length=1)(h0:0 < ks.length)(e:ks[0]=t):ks= [t]:=by
 match ks,h with
 | [q],_=> rw[<-e];rfl
theorem y205{ks:List Tr}{t u:Tr}(h:ks.length=2)(h0:0 < ks.length)(h1:1 < ks.length)(e:ks[0]=t)(e1:ks[1]=u):ks= [t,u]:=by
 match ks,h with
 | [q,r],_=> rw[<-e,<-e1];rfl
theorem q86: ∀t:Tr,TextC t:=Tr.ind fun k n ks hk=> by
 intro w v d hsh hcn hin;obtain⟨A,cap,rfl,hl,hc,hK⟩:=Lies.mk_iff.1 hin;obtain⟨hops,hn0,hn1,hsk⟩:=y12 hsh;have hops:opsT k=(ks.length:Int):=hops;have hn1:n<=q28 k:=hn1;have hlc:=j16 ks;have hcc:=hc;unfold maxLen at hcc;simp only[cnt] at hcn;have hx:Ext w (w.alloc (.cells #[.int .i64 k,.int .i64 n,.slice A ks.length cap] 25)):=(xr w).alloc _;have hbx:=heap_alloc_new w (.cells #[.int .i64 k,.int .i64 n,.slice A ks.length cap] 25);by_cases c8:k=8
 · subst c8
   have hlen1:ks.length=1:=by have:(1:Int)=(ks.length:Int):=hops;omega
   obtain⟨b,o,k0,n0,A0,cap0,kids0,rfl,HK,x0,x1,x2,hkl,hkc,hK0,hin0,hmem⟩:=hK.get hx (j:=0) (by omega);simp only[Nat.zero_mul,Nat.add_zero] at x0 x1 x2;obtain⟨t0,ht0⟩: ∃t0,t0=Tr.mk k0 n0 kids0:=⟨_,rfl⟩;have hks:ks= [t0]:=j221 hlen1 (by omega) (by rw[ht0];exact HK.out);have hl0:0 < ks.length:=by omega
   have hf:=y23 t0;have hcm:=y14 hmem;rw[<-ht0] at hcm;have HC:=hdq (fun W (hW:Ext _ W)=> hk _ hmem W _ (d - 1) (hsk _ hmem) (by rw[<-ht0];omega) (hin0.ext hW));rw[<-ht0] at HC;have hxl:(fmtL t0).length<=10000:=by omega
   obtain⟨y,hy⟩: ∃y,y=fmtL t0:=⟨_,rfl⟩;rw[<-hy] at HC hxl;have hx1:=y31 hxl;have hr:fmtL (.mk 8 n ks)= [43]++y:=by
    rw[hks,hy];simp[fmtL,fmtK,opn,cls]
   have HR:=hdq hr;clear hr hks ht0 hy HK hops hf hcm hlen1;go_enter Tryz.func197,Tryz.ntmps197;go_wp2_with fail;refine(HC.out _ (xr _)).mono ?_;rintro e w2 ⟨rfl,e2⟩;go_wp2_with fail;go_ret;exact⟨by rw[HR.out,<-q14];rfl,hx.trans e2⟩
 by_cases c11:k=11
 · subst c11
   have hlen1:ks.length=1:=by have:(1:Int)=(ks.length:Int):=hops;omega
   obtain⟨b,o,k0,n0,A0,cap0,kids0,rfl,HK,x0,x1,x2,hkl,hkc,hK0,hin0,hmem⟩:=hK.get hx (j:=0) (by omega);simp only[Nat.zero_mul,Nat.add_zero] at x0 x1 x2;obtain⟨t0,ht0⟩: ∃t0,t0=Tr.mk k0 n0 kids0:=⟨_,rfl⟩;have hks:ks= [t0]:=j221 hlen1 (by omega) (by rw[ht0];exact HK.out);have hl0:0 < ks.length:=by omega
   have hf:=y23 t0;have hcm:=y14 hmem;rw[<-ht0] at hcm;have HC:=hdq (fun W (hW:Ext _ W)=> hk _ hmem W _ (d - 1) (hsk _ hmem) (by rw[<-ht0];omega) (hin0.ext hW));rw[<-ht0] at HC;have hxl:(fmtL t0).length<=10000:=by omega
   obtain⟨y,hy⟩: ∃y,y=fmtL t0:=⟨_,rfl⟩;rw[<-hy] at HC hxl;have hx1:=y31 hxl;have hr:fmtL (.mk 11 n ks)= [33]++y:=by
    rw[hks,hy];simp[fmtL,fmtK,opn,cls]
   have HR:=hdq hr;clear hr hks ht0 hy HK hops hf hcm hlen1;go_enter Tryz.func197,Tryz.ntmps197;go_wp2_with fail;refine(HC.out _ (xr _)).mono ?_;rintro e w2 ⟨rfl,e2⟩;go_wp2_with fail;go_ret;exact⟨by rw[HR.out,<-q14];rfl,hx.trans e2⟩
 by_cases c15:k=15
 · subst c15
   have hlen1:ks.length=1:=by have:(1:Int)=(ks.length:Int):=hops;omega
   obtain⟨b,o,k0,n0,A0,cap0,kids0,rfl,HK,x0,x1,x2,hkl,hkc,hK0,hin0,hmem⟩:=hK.get hx (j:=0) (by omega);simp only[Nat.zero_mul,Nat.add_zero] at x0 x1 x2;obtain⟨t0,ht0⟩: ∃t0,t0=Tr.mk k0 n0 kids0:=⟨_,rfl⟩;have hks:ks= [t0]:=j221 hlen1 (by omega) (by rw[ht0];exact HK.out);have hl0:0 < ks.length:=by omega
   have hf:=y23 t0;have hcm:=y14 hmem;rw[<-ht0] at hcm;have HC:=hdq (fun W (hW:Ext _ W)=> hk _ hmem W _ (d - 1) (hsk _ hmem) (by rw[<-ht0];omega) (hin0.ext hW));rw[<-ht0] at HC;have hxl:(fmtL t0).length<=10000:=by omega
   obtain⟨y,hy⟩: ∃y,y=fmtL t0:=⟨_,rfl⟩;rw[<-hy] at HC hxl;have hx1:=y31 hxl;have hr:fmtL (.mk 15 n ks)= [94]++y:=by
    rw[hks,hy];simp[fmtL,fmtK,opn,cls]
   have HR:=hdq hr;clear hr hks ht0 hy HK hops hf hcm hlen1;go_enter Tryz.func197,Tryz.ntmps197;go_wp2_with fail;refine(HC.out _ (xr _)).mono ?_;rintro e w2 ⟨rfl,e2⟩;go_wp2_with fail;go_ret;exact⟨by rw[HR.out,<-q14];rfl,hx.trans e2⟩
 by_cases c16:k=16
 · subst c16
   have hlen1:ks.length=1:=by have:(1:Int)=(ks.length:Int):=hops;omega
   obtain⟨b,o,k0,n0,A0,cap0,kids0,rfl,HK,x0,x1,x2,hkl,hkc,hK0,hin0,hmem⟩:=hK.get hx (j:=0) (by omega);simp only[Nat.zero_mul,Nat.add_zero] at x0 x1 x2;obtain⟨t0,ht0⟩: ∃t0,t0=Tr.mk k0 n0 kids0:=⟨_,rfl⟩;have hks:ks= [t0]:=j221 hlen1 (by omega) (by rw[ht0];exact HK.out);have hl0:0 < ks.length:=by omega
   have hf:=y23 t0;have hcm:=y14 hmem;rw[<-ht0] at hcm;have HC:=hdq (fun W (hW:Ext _ W)=> hk _ hmem W _ (d - 1) (hsk _ hmem) (by rw[<-ht0];omega) (hin0.ext hW));rw[<-ht0] at HC;have hxl:(fmtL t0).length<=10000:=by omega
   obtain⟨y,hy⟩: ∃y,y=fmtL t0:=⟨_,rfl⟩;rw[<-hy] at HC hxl;have hx1:=y31 hxl;have hr:fmtL (.mk 16 n ks)= [95]++y:=by
    rw[hks,hy];simp[fmtL,fmtK,opn,cls]
   have HR:=hdq hr;clear hr hks ht0 hy HK hops hf hcm hlen1;go_enter Tryz.func197,Tryz.ntmps197;go_wp2_with fail;refine(HC.out _ (xr _)).mono ?_;rintro e w2 ⟨rfl,e2⟩;go_wp2_with fail;go_ret;exact⟨by rw[HR.out,<-q14];rfl,hx.trans e2⟩
 by_cases c3:k=3
 · subst c3
   have hlen2:ks.length=2:=by have:(2:Int)=(ks.length:Int):=hops;omega
   obtain⟨b,o,k0,n0,A0,cap0,kids0,rfl,HK,x0,x1,x2,hkl,hkc,hK0,hin0,hmem⟩:=hK.get hx (j:=0) (by omega);obtain⟨b',o',k1,n1,A1,cap1,kids1,hbo,HK1,y0,y1,y2,hkl1,hkc1,hK1,hin1,hmem1⟩:=hK.get hx (j:=1) (by omega);cases hbo
   simp only[Nat.zero_mul,Nat.add_zero] at x0 x1 x2;simp only[Nat.one_mul] at y0 y1 y2;obtain⟨t0,ht0⟩: ∃t0,t0=Tr.mk k0 n0 kids0:=⟨_,rfl⟩;obtain⟨t1,ht1⟩: ∃t1,t1=Tr.mk k1 n1 kids1:=⟨_,rfl⟩;have hks:ks= [t0,t1]:=y205 hlen2 (by omega) (by omega) (by rw[ht0];exact HK.out) (by rw[ht1];exact HK1.out);have hl0:0 < ks.length:=by omega
   have hl1:1 < ks.length:=by omega
   have hf:=y23 t0;have hf1:=y23 t1;have hcm:=y14 hmem;have hcm1:=y14 hmem1;rw[<-ht0] at hcm;rw[<-ht1] at hcm1;have HC:=hdq (fun W (hW:Ext _ W)=> hk _ hmem W _ (d - 1) (hsk _ hmem) (by rw[<-ht0];omega) (hin0.ext hW));have HC1:=hdq (fun W (hW:Ext _ W)=> hk _ hmem1 W _ (d - 1) (hsk _ hmem1) (by rw[<-ht1];omega) (hin1.ext hW));rw[<-ht0] at HC;rw[<-ht1] at HC1;have hxl:(fmtL t0).length<=10000:=by omega
   have hxl1:(fmtL t1).length<=10000:=by omega
   obtain⟨y,hy⟩: ∃y,y=fmtL t0:=⟨_,rfl⟩;obtain⟨z,hz⟩: ∃z,z=fmtL t1:=⟨_,rfl⟩;rw[<-hy] at HC hxl;rw[<-hz] at HC1 hxl1;have hx1:=y31 hxl;have hx2:=y31 hxl1;have hr:fmtL (.mk 3 n ks)= [40]++y++ [62]++z++ [41]:=by
    rw[hks,hy,hz];simp[fmtL,fmtK,opn,sep,cls]
   have HR:=hdq hr;have hi0:(0:Int) <(ks.length:Int):=by omega
   have hi1:(1:Int) <(ks.length:Int):=by omega
   have hn1: ¬(9223372036854775807 < 1+(ofL y).size):=by omega
   have hn2: ¬(9223372036854775807 < 1+(ofL y).size+1):=by omega
   have hn3: ¬(9223372036854775807 < 1+(ofL y).size+1+(ofL z).size):=by omega
   have hn4: ¬(9223372036854775807 < 1+(ofL y).size+1+(ofL z).size+1):=by omega
   obtain⟨s0,s1,s2,-,-,-⟩:=own3 hbx;clear hr hks ht0 hy ht1 hz HK HK1 hops hf hf1 hcm hcm1 hlen2;go_enter Tryz.func197,Tryz.ntmps197;go_wp2_with fail;generalize World.alloc w _=w1 at*;have HS:=hdq (show∀w',Ext w1 w'->w'.cell? ⟨w.heap.size,2,none⟩=some (.slice (some ⟨b,o,none⟩) ks.length cap)/\w'.cell? ⟨b,o,none⟩=some (.int .i64 k0)/\w'.cell? ⟨b,o+1,none⟩=some (.int .i64 n0)/\w'.cell? ⟨b,o+2,none⟩=some (.slice A0 kids0.length cap0)/\w'.cell? ⟨b,o+3,none⟩=some (.int .i64 k1)/\w'.cell? ⟨b,o+3+1,none⟩=some (.int .i64 n1)/\w'.cell? ⟨b,o+3+2,none⟩=some (.slice A1 kids1.length cap1) from fun w' hw'=>⟨hw'.cell s2,hw'.cell x0,hw'.cell x1,hw'.cell x2,hw'.cell y0,hw'.cell y1,hw'.cell y2⟩)
   go_region_held3 (fun w'=> w'.cell? ⟨w.heap.size,2,none⟩=some (.slice (some ⟨b,o,none⟩) ks.length cap)/\w'.cell? ⟨b,o,none⟩=some (.int .i64 k0)/\w'.cell? ⟨b,o+1,none⟩=some (.int .i64 n0)/\w'.cell? ⟨b,o+2,none⟩=some (.slice A0 kids0.length cap0)/\w'.cell? ⟨b,o+3,none⟩=some (.int .i64 k1)/\w'.cell? ⟨b,o+3+1,none⟩=some (.int .i64 n1)/\w'.cell? ⟨b,o+3+2,none⟩=some (.slice A1 kids1.length cap1))
    (first|exact HS.out _ ((xr w1).drew.trans (e2.trans e3)) |exact HS.out _ ((xr w1).drew.trans e2) |exact HS.out _ (xr w1).drew)
    (first|(go_at_call 197;(with_reducible refine(HC.out _ (xr w1).drew).mono ?_);rintro e w2 ⟨rfl,e2⟩) |(go_at_call 197;refine(HC1.out _ ((xr w1).drew.trans e2)).mono ?_;rintro e w3 ⟨rfl,e3⟩))
   clear s0 s1 s2 x0 x1 x2 y0 y1 y2 HS;go_wp2_with fail;go_ret;exact⟨by rw[HR.out];simp only[<-q14];rfl,hx.trans ((xr w1).drew.trans (e2.trans e3))⟩
 by_cases c4:k=4
 · subst c4
   have hlen2:ks.length=2:=by have:(2:Int)=(ks.length:Int):=hops;omega
   obtain⟨b,o,k0,n0,A0,cap0,kids0,rfl,HK,x0,x1,x2,hkl,hkc,hK0,hin0,hmem⟩:=hK.get hx (j:=0) (by omega);obtain⟨b',o',k1,n1,A1,cap1,kids1,hbo,HK1,y0,y1,y2,hkl1,hkc1,hK1,hin1,hmem1⟩:=hK.get hx (j:=1) (by omega);cases hbo
   simp only[Nat.zero_mul,Nat.add_zero] at x0 x1 x2;simp only[Nat.one_mul] at y0 y1 y2;obtain⟨t0,ht0⟩: ∃t0,t0=Tr.mk k0 n0 kids0:=⟨_,rfl⟩;obtain⟨t1,ht1⟩: ∃t1,t1=Tr.mk k1 n1 kids1:=⟨_,rfl⟩;have hks:ks= [t0,t1]:=y205 hlen2 (by omega) (by omega) (by rw[ht0];exact HK.out) (by rw[ht1];exact HK1.out);have hl0:0 < ks.length:=by omega
   have hl1:1 < ks.length:=by omega
   have hf:=y23 t0;have hf1:=y23 t1;have hcm:=y14 hmem;have hcm1:=y14 hmem1;rw[<-ht0] at hcm;rw[<-ht1] at hcm1;have HC:=hdq (fun W (hW:Ext _ W)=> hk _ hmem W _ (d - 1) (hsk _ hmem) (by rw[<-ht0];omega) (hin0.ext hW));have HC1:=hdq (fun W (hW:Ext _ W)=> hk _ hmem1 W _ (d - 1) (hsk _ hmem1) (by rw[<-ht1];omega) (hin1.ext hW));rw[<-ht0] at HC;rw[<-ht1] at HC1;have hxl:(fmtL t0).length<=10000:=by omega
   have hxl1:(fmtL t1).length<=10000:=by omega
   obtain⟨y,hy⟩: ∃y,y=fmtL t0:=⟨_,rfl⟩;obtain⟨z,hz⟩: ∃z,z=fmtL t1:=⟨_,rfl⟩;rw[<-hy] at HC hxl;rw[<-hz] at HC1 hxl1;have hx1:=y31 hxl;have hx2:=y31 hxl1;have hr:fmtL (.mk 4 n ks)= [91]++y++ [93]++z:=by
    rw[hks,hy,hz];simp[fmtL,fmtK,opn,sep,cls]
   have HR:=hdq hr;have hi0:(0:Int) <(ks.length:Int):=by omega
   have hi1:(1:Int) <(ks.length:Int):=by omega
   have hn1: ¬(9223372036854775807 < 1+(ofL y).size):=by omega
   have hn2: ¬(9223372036854775807 < 1+(ofL y).size+1):=by omega
   have hn3: ¬(9223372036854775807 < 1+(ofL y).size+1+(ofL z).size):=by omega
   have hn4: ¬(9223372036854775807 < 1+(ofL y).size+1+(ofL z).size+1):=by omega
   obtain⟨s0,s1,s2,-,-,-⟩:=own3 hbx;clear hr hks ht0 hy ht1 hz HK HK1 hops hf hf1 hcm hcm1 hlen2;go_enter Tryz.func197,Tryz.ntmps197;go_wp2_with fail;generalize World.alloc w _=w1 at*;have HS:=hdq (show∀w',Ext w1 w'->w'.cell? ⟨w.heap.size,2,none⟩=some (.slice (some ⟨b,o,none⟩) ks.length cap)/\w'.cell? ⟨b,o,none⟩=some (.int .i64 k0)/\w'.cell? ⟨b,o+1,none⟩=some (.int .i64 n0)/\w'.cell? ⟨b,o+2,none⟩=some (.slice A0 kids0.length cap0)/\w'.cell? ⟨b,o+3,none⟩=some (.int .i64 k1)/\w'.cell? ⟨b,o+3+1,none⟩=some (.int .i64 n1)/\w'.cell? ⟨b,o+3+2,none⟩=some (.slice A1 kids1.length cap1) from fun w' hw'=>⟨hw'.cell s2,hw'.cell x0,hw'.cell x1,hw'.cell x2,hw'.cell y0,hw'.cell y1,hw'.cell y2⟩)
   go_region_held3 (fun w'=> w'.cell? ⟨w.heap.size,2,none⟩=some (.slice (some ⟨b,o,none⟩) ks.length cap)/\w'.cell? ⟨b,o,none⟩=some (.int .i64 k0)/\w'.cell? ⟨b,o+1,none⟩=some (.int .i64 n0)/\w'.cell? ⟨b,o+2,none⟩=some (.slice A0 kids0.length cap0)/\w'.cell? ⟨b,o+3,none⟩=some (.int .i64 k1)/\w'.cell? ⟨b,o+3+1,none⟩=some (.int .i64 n1)/\w'.cell? ⟨b,o+3+2,none⟩=some (.slice A1 kids1.length cap1))
    (first|exact HS.out _ ((xr w1).drew.trans (e2.trans e3)) |exact HS.out _ ((xr w1).drew.trans e2) |exact HS.out _ (xr w1).drew)
    (first|(go_at_call 197;(with_reducible refine(HC.out _ (xr w1).drew).mono ?_);rintro e w2 ⟨rfl,e2⟩) |(go_at_call 197;refine(HC1.out _ ((xr w1).drew.trans e2)).mono ?_;rintro e w3 ⟨rfl,e3⟩))
   clear s0 s1 s2 x0 x1 x2 y0 y1 y2 HS;go_wp2_with fail;go_ret;exact⟨by rw[HR.out];simp only[<-q14];rfl,hx.trans ((xr w1).drew.trans (e2.trans e3))⟩
 by_cases c5:k=5
 · subst c5
   have hlen2:ks.length=2:=by have:(2:Int)=(ks.length:Int):=hops;omega
   obtain⟨b,o,k0,n0,A0,cap0,kids0,rfl,HK,x0,x1,x2,hkl,hkc,hK0,hin0,hmem⟩:=hK.get hx (j:=0) (by omega);obtain⟨b',o',k1,n1,A1,cap1,kids1,hbo,HK1,y0,y1,y2,hkl1,hkc1,hK1,hin1,hmem1⟩:=hK.get hx (j:=1) (by omega);cases hbo
   simp only[Nat.zero_mul,Nat.add_zero] at x0 x1 x2;simp only[Nat.one_mul] at y0 y1 y2;obtain⟨t0,ht0⟩: ∃t0,t0=Tr.mk k0 n0 kids0:=⟨_,rfl⟩;obtain⟨t1,ht1⟩: ∃t1,t1=Tr.mk k1 n1 kids1:=⟨_,rfl⟩;have hks:ks= [t0,t1]:=y205 hlen2 (by omega) (by omega) (by rw[ht0];exact HK.out) (by rw[ht1];exact HK1.out);have hl0:0 < ks.length:=by omega
   have hl1:1 < ks.length:=by omega
   have hf:=y23 t0;have hf1:=y23 t1;have hcm:=y14 hmem;have hcm1:=y14 hmem1;rw[<-ht0] at hcm;rw[<-ht1] at hcm1;have HC:=hdq (fun W (hW:Ext _ W)=> hk _ hmem W _ (d - 1) (hsk _ hmem) (by rw[<-ht0];omega) (hin0.ext hW));have HC1:=hdq (fun W (hW:Ext _ W)=> hk _ hmem1 W _ (d - 1) (hsk _ hmem1) (by rw[<-ht1];omega) (hin1.ext hW));rw[<-ht0] at HC;rw[<-ht1] at HC1;have hxl:(fmtL t0).length<=10000:=by omega
   have hxl1:(fmtL t1).length<=10000:=by omega
   obtain⟨y,hy⟩: ∃y,y=fmtL t0:=⟨_,rfl⟩;obtain⟨z,hz⟩: ∃z,z=fmtL t1:=⟨_,rfl⟩;rw[<-hy] at HC hxl;rw[<-hz] at HC1 hxl1;have hx1:=y31 hxl;have hx2:=y31 hxl1;have hr:fmtL (.mk 5 n ks)= [40]++y++ [32]++z++ [41]:=by
    rw[hks,hy,hz];simp[fmtL,fmtK,opn,sep,cls]
   have HR:=hdq hr;have hi0:(0:Int) <(ks.length:Int):=by omega
   have hi1:(1:Int) <(ks.length:Int):=by omega
   have hn1: ¬(9223372036854775807 < 1+(ofL y).size):=by omega
   have hn2: ¬(9223372036854775807 < 1+(ofL y).size+1):=by omega
   have hn3: ¬(9223372036854775807 < 1+(ofL y).size+1+(ofL z).size):=by omega
   have hn4: ¬(9223372036854775807 < 1+(ofL y).size+1+(ofL z).size+1):=by omega
   obtain⟨s0,s1,s2,-,-,-⟩:=own3 hbx;clear hr hks ht0 hy ht1 hz HK HK1 hops hf hf1 hcm hcm1 hlen2;go_enter Tryz.func197,Tryz.ntmps197;go_wp2_with fail;generalize World.alloc w _=w1 at*;have HS:=hdq (show∀w',Ext w1 w'->w'.cell? ⟨w.heap.size,2,none⟩=some (.slice (some ⟨b,o,none⟩) ks.length cap)/\w'.cell? ⟨b,o,none⟩=some (.int .i64 k0)/\w'.cell? ⟨b,o+1,none⟩=some (.int .i64 n0)/\w'.cell? ⟨b,o+2,none⟩=some (.slice A0 kids0.length cap0)/\w'.cell? ⟨b,o+3,none⟩=some (.int .i64 k1)/\w'.cell? ⟨b,o+3+1,none⟩=some (.int .i64 n1)/\w'.cell? ⟨b,o+3+2,none⟩=some (.slice A1 kids1.length cap1) from fun w' hw'=>⟨hw'.cell s2,hw'.cell x0,hw'.cell x1,hw'.cell x2,hw'.cell y0,hw'.cell y1,hw'.cell y2⟩)
   go_region_held3 (fun w'=> w'.cell? ⟨w.heap.size,2,none⟩=some (.slice (some ⟨b,o,none⟩) ks.length cap)/\w'.cell? ⟨b,o,none⟩=some (.int .i64 k0)/\w'.cell? ⟨b,o+1,none⟩=some (.int .i64 n0)/\w'.cell? ⟨b,o+2,none⟩=some (.slice A0 kids0.length cap0)/\w'.cell? ⟨b,o+3,none⟩=some (.int .i64 k1)/\w'.cell? ⟨b,o+3+1,none⟩=some (.int .i64 n1)/\w'.cell? ⟨b,o+3+2,none⟩=some (.slice A1 kids1.length cap1))
    (first|exact HS.out _ ((xr w1).drew.trans (e2.trans e3)) |exact HS.out _ ((xr w1).drew.trans e2) |exact HS.out _ (xr w1).drew)
    (first|(go_at_call 197;(with_reducible refine(HC.out _ (xr w1).drew).mono ?_);rintro e w2 ⟨rfl,e2⟩) |(go_at_call 197;refine(HC1.out _ ((xr w1).drew.trans e2)).mono ?_;rintro e w3 ⟨rfl,e3⟩))
   clear s0 s1 s2 x0 x1 x2 y0 y1 y2 HS;go_wp2_with fail;go_ret;exact⟨by rw[HR.out];simp only[<-q14];rfl,hx.trans ((xr w1).drew.trans (e2.trans e3))⟩
 by_cases c13:k=13
 · subst c13
   have hlen2:ks.length=2:=by have:(2:Int)=(ks.length:Int):=hops;omega
   obtain⟨b,o,k0,n0,A0,cap0,kids0,rfl,HK,x0,x1,x2,hkl,hkc,hK0,hin0,hmem⟩:=hK.get hx (j:=0) (by omega);obtain⟨b',o',k1,n1,A1,cap1,kids1,hbo,HK1,y0,y1,y2,hkl1,hkc1,hK1,hin1,hmem1⟩:=hK.get hx (j:=1) (by omega);cases hbo
   simp only[Nat.zero_mul,Nat.add_zero] at x0 x1 x2;simp only[Nat.one_mul] at y0 y1 y2;obtain⟨t0,ht0⟩: ∃t0,t0=Tr.mk k0 n0 kids0:=⟨_,rfl⟩;obtain⟨t1,ht1⟩: ∃t1,t1=Tr.mk k1 n1 kids1:=⟨_,rfl⟩;have hks:ks= [t0,t1]:=y205 hlen2 (by omega) (by omega) (by rw[ht0];exact HK.out) (by rw[ht1];exact HK1.out);have hl0:0 < ks.length:=by omega
   have hl1:1 < ks.length:=by omega
   have hf:=y23 t0;have hf1:=y23 t1;have hcm:=y14 hmem;have hcm1:=y14 hmem1;rw[<-ht0] at hcm;rw[<-ht1] at hcm1;have HC:=hdq (fun W (hW:Ext _ W)=> hk _ hmem W _ (d - 1) (hsk _ hmem) (by rw[<-ht0];omega) (hin0.ext hW));have HC1:=hdq (fun W (hW:Ext _ W)=> hk _ hmem1 W _ (d - 1) (hsk _ hmem1) (by rw[<-ht1];omega) (hin1.ext hW));rw[<-ht0] at HC;rw[<-ht1] at HC1;have hxl:(fmtL t0).length<=10000:=by omega
   have hxl1:(fmtL t1).length<=10000:=by omega
   obtain⟨y,hy⟩: ∃y,y=fmtL t0:=⟨_,rfl⟩;obtain⟨z,hz⟩: ∃z,z=fmtL t1:=⟨_,rfl⟩;rw[<-hy] at HC hxl;rw[<-hz] at HC1 hxl1;have hx1:=y31 hxl;have hx2:=y31 hxl1;have hr:fmtL (.mk 13 n ks)= [40]++y++ [42]++z++ [41]:=by
    rw[hks,hy,hz];simp[fmtL,fmtK,opn,sep,cls]
   have HR:=hdq hr;have hi0:(0:Int) <(ks.length:Int):=by omega
   have hi1:(1:Int) <(ks.length:Int):=by omega
   have hn1: ¬(9223372036854775807 < 1+(ofL y).size):=by omega
   have hn2: ¬(9223372036854775807 < 1+(ofL y).size+1):=by omega
   have hn3: ¬(9223372036854775807 < 1+(ofL y).size+1+(ofL z).size):=by omega
   have hn4: ¬(9223372036854775807 < 1+(ofL y).size+1+(ofL z).size+1):=by omega
   obtain⟨s0,s1,s2,-,-,-⟩:=own3 hbx;clear hr hks ht0 hy ht1 hz HK HK1 hops hf hf1 hcm hcm1 hlen2;go_enter Tryz.func197,Tryz.ntmps197;go_wp2_with fail;generalize World.alloc w _=w1 at*;have HS:=hdq (show∀w',Ext w1 w'->w'.cell? ⟨w.heap.size,2,none⟩=some (.slice (some ⟨b,o,none⟩) ks.length cap)/\w'.cell? ⟨b,o,none⟩=some (.int .i64 k0)/\w'.cell? ⟨b,o+1,none⟩=some (.int .i64 n0)/\w'.cell? ⟨b,o+2,none⟩=some (.slice A0 kids0.length cap0)/\w'.cell? ⟨b,o+3,none⟩=some (.int .i64 k1)/\w'.cell? ⟨b,o+3+1,none⟩=some (.int .i64 n1)/\w'.cell? ⟨b,o+3+2,none⟩=some (.slice A1 kids1.length cap1) from fun w' hw'=>⟨hw'.cell s2,hw'.cell x0,hw'.cell x1,hw'.cell x2,hw'.cell y0,hw'.cell y1,hw'.cell y2⟩)
   go_region_held3 (fun w'=> w'.cell? ⟨w.heap.size,2,none⟩=some (.slice (some ⟨b,o,none⟩) ks.length cap)/\w'.cell? ⟨b,o,none⟩=some (.int .i64 k0)/\w'.cell? ⟨b,o+1,none⟩=some (.int .i64 n0)/\w'.cell? ⟨b,o+2,none⟩=some (.slice A0 kids0.length cap0)/\w'.cell? ⟨b,o+3,none⟩=some (.int .i64 k1)/\w'.cell? ⟨b,o+3+1,none⟩=some (.int .i64 n1)/\w'.cell? ⟨b,o+3+2,none⟩=some (.slice A1 kids1.length cap1))
    (first|exact HS.out _ ((xr w1).drew.trans (e2.trans e3)) |exact HS.out _ ((xr w1).drew.trans e2) |exact HS.out _ (xr w1).drew)
    (first|(go_at_call 197;(with_reducible refine(HC.out _ (xr w1).drew).mono ?_);rintro e w2 ⟨rfl,e2⟩) |(go_at_call 197;refine(HC1.out _ ((xr w1).drew.trans e2)).mono ?_;rintro e w3 ⟨rfl,e3⟩))
   clear s0 s1 s2 x0 x1 x2 y0 y1 y2 HS;go_wp2_with fail;go_ret;exact⟨by rw[HR.out];simp only[<-q14];rfl,hx.trans ((xr w1).drew.trans (e2.trans e3))⟩
 by_cases c9:k=9
 · subst c9
   have hf:=y59 [44] (by simp) ks true;have HC:=hdq (fun W (hW:Ext w W)=> y63 ks hk (d - 1) hsk (by omega) W A cap (hK.ext hW) hl hc);have hxl:(fmtK [44] ks true).length<=10000:=by omega
   have hr:fmtL (.mk 9 n ks)= [60]++fmtK [44] ks true++ [62]:=by
    simp[fmtL,opn,sep,cls]
   obtain⟨y,hy⟩: ∃y,y=fmtK [44] ks true:=⟨_,rfl⟩;rw[<-hy] at HC hxl hr;have hx1:=y31 hxl;have HR:=hdq hr;have hq1:((⟨#[60]⟩:ByteArray)++ofL y).size<=10002:=by
    have:=y31 (x:= [60]++y) (n:=10002) (by simp;omega)
    rwa [<-q14] at this
   clear hr hy hops hf;go_enter Tryz.func197,Tryz.ntmps197;go_wp2_with fail;refine(HC.out _ hx).mono ?_;rintro e w2 ⟨rfl,e2⟩;go_wp2_with fail;go_ret;exact⟨by rw[HR.out,<-q14,<-q14];rfl,hx.trans e2⟩
 by_cases c10:k=10
 · subst c10
   have hf:=y59 [44] (by simp) ks true;have HC:=hdq (fun W (hW:Ext w W)=> y63 ks hk (d - 1) hsk (by omega) W A cap (hK.ext hW) hl hc);have hxl:(fmtK [44] ks true).length<=10000:=by omega
   have hr:fmtL (.mk 10 n ks)= [123]++fmtK [44] ks true++ [125]:=by
    simp[fmtL,opn,sep,cls]
   obtain⟨y,hy⟩: ∃y,y=fmtK [44] ks true:=⟨_,rfl⟩;rw[<-hy] at HC hxl hr;have hx1:=y31 hxl;have HR:=hdq hr;have hq1:((⟨#[123]⟩:ByteArray)++ofL y).size<=10002:=by
    have:=y31 (x:= [123]++y) (n:=10002) (by simp;omega)
    rwa [<-q14] at this
   clear hr hy hops hf;go_enter Tryz.func197,Tryz.ntmps197;go_wp2_with fail;refine(HC.out _ hx).mono ?_;rintro e w2 ⟨rfl,e2⟩;go_wp2_with fail;go_ret;exact⟨by rw[HR.out,<-q14,<-q14];rfl,hx.trans e2⟩
 by_cases c14:k=14
 · subst c14
   have hf:=y59 [44] (by simp) ks true;have HC:=hdq (fun W (hW:Ext w W)=> y63 ks hk (d - 1) hsk (by omega) W A cap (hK.ext hW) hl hc);have hxl:(fmtK [44] ks true).length<=10000:=by omega
   have hr:fmtL (.mk 14 n ks)= [124]++fmtK [44] ks true++ [124]:=by
    simp[fmtL,opn,sep,cls]
   obtain⟨y,hy⟩: ∃y,y=fmtK [44] ks true:=⟨_,rfl⟩;rw[<-hy] at HC hxl hr;have hx1:=y31 hxl;have HR:=hdq hr;have hq1:((⟨#[124]⟩:ByteArray)++ofL y).size<=10002:=by
    have:=y31 (x:= [124]++y) (n:=10002) (by simp;omega)
    rwa [<-q14] at this
   clear hr hy hops hf;go_enter Tryz.func197,Tryz.ntmps197;go_wp2_with fail;refine(HC.out _ hx).mono ?_;rintro e w2 ⟨rfl,e2⟩;go_wp2_with fail;go_ret;exact⟨by rw[HR.out,<-q14,<-q14];rfl,hx.trans e2⟩
 by_cases c12:k=12
 · subst c12
   have hf:=y59 [44] (by simp) ks true;have HC:=hdq (fun W (hW:Ext w W)=> y63 ks hk (d - 1) hsk (by omega) W A cap (hK.ext hW) hl hc);have hxl:(fmtK [44] ks true).length<=10000:=by omega
   have hr:fmtL (.mk 12 n ks)= [64,60]++fmtK [44] ks true++ [62]:=by
    simp[fmtL,opn,sep,cls]
   obtain⟨y,hy⟩: ∃y,y=fmtK [44] ks true:=⟨_,rfl⟩;rw[<-hy] at HC hxl hr;have hx1:=y31 hxl;have HR:=hdq hr;have hq1:((⟨#[64,60]⟩:ByteArray)++ofL y).size<=10002:=by
    have:=y31 (x:= [64,60]++y) (n:=10002) (by simp;omega)
    rwa [<-q14] at this
   clear hr hy hops hf;go_enter Tryz.func197,Tryz.ntmps197;go_wp2_with fail;refine(HC.out _ hx).mono ?_;rintro e w2 ⟨rfl,e2⟩;go_wp2_with fail;go_ret;exact⟨by rw[HR.out,<-q14,<-q14];rfl,hx.trans e2⟩
 by_cases c6:k=6
 · subst c6
   have hlen0:ks= []:=List.eq_nil_of_length_eq_zero (by have:(0:Int)=(ks.length:Int):=hops;omega);have hr:fmtL (.mk 6 n ks)= [78]:=by
    rw[hlen0];simp[fmtL,fmtK,opn,cls]
   have HR:=hdq hr;clear hr hops hlen0;go_enter Tryz.func197,Tryz.ntmps197;go_wp2_with fail;go_ret;exact⟨by rw[HR.out];rfl,hx⟩
 by_cases c7:k=7
 · subst c7
   have hlen0:ks= []:=List.eq_nil_of_length_eq_zero (by have:(0:Int)=(ks.length:Int):=hops;omega);have hr:fmtL (.mk 7 n ks)= [48]:=by
    rw[hlen0];simp[fmtL,fmtK,opn,cls]
   have HR:=hdq hr;clear hr hops hlen0;go_enter Tryz.func197,Tryz.ntmps197;go_wp2_with fail;go_ret;exact⟨by rw[HR.out];rfl,hx⟩
 by_cases c1:k=1
 · subst c1
   obtain⟨m,rfl⟩: ∃m:Nat,n=m:=⟨n.toNat,by omega⟩;have hm:(m:Int)<=20:=hn1;have HC:=hdq (fun W=> q108 m (by omega) W);have hr:fmtL (.mk 1 m ks)= [35]++decL m:=by
    simp[fmtL]
   have hxl:=j113 m;obtain⟨y,hy⟩: ∃y,y=decL m:=⟨_,rfl⟩;rw[<-hy] at HC hxl hr;have hx1:=y31 hxl;have HR:=hdq hr;clear hr hops hy;go_enter Tryz.func197,Tryz.ntmps197;go_wp2_with fail;refine(HC.out _).mono ?_;rintro e w2 ⟨rfl,e2⟩;go_wp2_with fail;go_ret;exact⟨by rw[HR.out,<-q14];rfl,hx.trans e2⟩
 by_cases c2:k=2
 · subst c2
   obtain⟨m,rfl⟩: ∃m:Nat,n=m:=⟨n.toNat,by omega⟩;have hm:(m:Int)<=3:=hn1;have HC:=hdq (fun W=> q108 m (by omega) W);have hr:fmtL (.mk 2 m ks)= [42]++decL m:=by
    simp[fmtL]
   have hxl:=j113 m;obtain⟨y,hy⟩: ∃y,y=decL m:=⟨_,rfl⟩;rw[<-hy] at HC hxl hr;have hx1:=y31 hxl;have HR:=hdq hr;clear hr hops hy;go_enter Tryz.func197,Tryz.ntmps197;go_wp2_with fail;refine(HC.out _).mono ?_;rintro e w2 ⟨rfl,e2⟩;go_wp2_with fail;go_ret;exact⟨by rw[HR.out,<-q14];rfl,hx.trans e2⟩
 exfalso
 have hge:0<=opsT k:=by omega
 unfold opsT at hge
 repeat rw[if_neg (by omega)] at hge
 omega
theorem y102(t:Tr)(w:World)(v:Value)(hin:Lies w t v):Calls Tryz.prog 193 #[v] w fun e w'=> e= .returned (.string (ofL (fmtV t)))/\Ext w w':=by
 have H1:=hdq (fun W (hW:Ext w W)=> y30 t W v (hin.ext hW));have H2:=hdq (fun(hv:valid sigT t=true) W (hW:Ext w W)=> q86 t W v 30 (j11 hv).1 (by have:=(j11 hv).2;omega) (hin.ext hW));have hf:fmtV t=if valid sigT t=true then fmtL t else []:=rfl
 obtain⟨b,hb⟩: ∃b,b=valid sigT t:=⟨_,rfl⟩;rw[<-hb] at H1 H2 hf;have HF:=hdq hf;clear hb hf;obtain⟨k,n,ks⟩:=t;obtain⟨A,cap,rfl,hl,hc,hK⟩:=Lies.mk_iff.1 hin;have hx:Ext w (w.alloc (.cells #[.int .i64 k,.int .i64 n,.slice A ks.length cap] 25)):=(xr w).alloc _;have hbx:=heap_alloc_new w (.cells #[.int .i64 k,.int .i64 n,.slice A ks.length cap] 25);cases b with
 |false=>
  go_enter Tryz.func193,Tryz.ntmps193;go_wp2_with fail;refine(H1.out _ hx).mono ?_;rintro e w1 ⟨rfl,e1⟩;go_wp2_with fail;go_ret;exact⟨by rw[HF.out];rfl,hx.trans e1⟩
 |true=>
  go_enter Tryz.func193,Tryz.ntmps193;go_wp2_with fail;refine(H1.out _ hx).mono ?_;rintro e w1 ⟨rfl,e1⟩;obtain⟨s0,s1,s2,-,-,-⟩:=own3 (e1.blk hbx);go_wp2_with fail;refine(H2.out trivial _ (hx.trans e1)).mono ?_;rintro e w2 ⟨rfl,e2⟩;go_wp2_with fail;go_ret;exact⟨by rw[HF.out];rfl,(hx.trans e1).trans e2⟩
theorem q43{P:Program}(w:World){ops:Array Oper}{rest:List Oper}{o:Oper}{a:Act}{Q:Exit->Act->World->Prop}(hgd:o.guard=none)(s x:Operand)(t:TypeId)
 (ho:o.op= .call {callee:= .builtin .append,args:=#[s,x],argTypes:=#[t,t]})
 (base:Nat) (e e':TypeId) (i:TypeInfo) (z:Value) (bytes:Nat) (ht:P.underlying t=some (.slice e)) (hi:P.info? e=some i) (hz:i.zero=some z) (hsize:i.size=1) (hby:i.bytes=bytes) (hb8:bytes<=64) (hzs:z.cells.size=1)
 {v:Value} {n:Nat} {xs:List Value} {y:Value} {gx:Nat} (hy:y.oneCell'=true) (hs:a.eval s=v) (hown:w.ownsRow base e 1 v n xs)
 (hx:a.eval x= .slice (some ⟨gx,0,none⟩) 1 1) (hgx:w.heap[gx]? =some (.cells #[y] e' (0,0))) (hn:n < 1099511627776) (hbase:base<=w.heap.size)
 (h: ∀v' w',w'.ownsRow base e 1 v' (n+1) (xs++ [y])->w.grownBy w' v.ownBlock->(∀g,v'.ownBlock=some g->v.ownBlock=some g\/w.heap.size<=g)->wpList P ops Q rest (a.put o.dst v') w'):wpList P ops Q (o::rest) a w:=by
 refine wpList_plain hgd fun K hK=> ?_
 have hc: ∀j u, [y][j]? =some u->w.cell? ((⟨gx,0,none⟩:Addr).add j)=some u:=by
  intro j u hu;rw[Addr.add_lit,Nat.zero_add,y10 hgx]
  simpa using hu
 have h1: ∀u∈ [y],u.oneCell'=true:=by intro u hu;rw[List.mem_singleton.1 hu];exact hy
 have hb:(n+1)*bytes<=140737488355328:=Nat.le_trans (Nat.mul_le_mul (show n+1<=1099511627776 by omega) hb8) (by decide);obtain⟨v',w',hr,r1,r2,r3⟩:=q16 (P:=P) w base t o.type e i z 1 bytes ht hi hz hsize hby hzs (by decide) v n xs hown ⟨gx,0,none⟩ 1 1 [y] rfl hc h1 (by unfold maxLen;omega) hb hbase;unfold Oper.wp execOp;simp only[ho,resolve,invoke,builtin,Sem.run_bind,Sem.run_pure,Result.andThen_ok,List.map_toArray,List.map_cons,List.map_nil,hs,hx,hr];exact hK _ _ (h v' w' r1 r2 r3)
theorem y25{w:World}{base:Nat}{e:TypeId}{v:Value}{ns:List Int}(hG:w.ownsRow base e 1 v ns.length (ns.map (Value.int .i64))): ∃B c,v= .slice B ns.length c/\ns.length<=c/\c<=maxLen/\Nums w B ns:=by
 have hcl:=fun g' hg'=> hG.cells (g:=g') hg'
 rcases hG.2 with⟨rfl,h0⟩ |⟨g',c',cur,rfl,hb',hg',hn',hm',_⟩
 · obtain rfl:ns= []:=List.eq_nil_of_length_eq_zero h0
   exact⟨none,0,rfl,Nat.le_refl _,Nat.zero_le _,.inl rfl⟩
 · refine⟨_,c',rfl,hn',hm',.inr ⟨g',0,rfl,q10 hg',fun jj hjj=> ?_⟩⟩
   have:=hcl g' rfl jj (.int .i64 ns[jj]) (by rw[List.getElem?_map,List.getElem?_eq_getElem hjj];rfl)
   rwa [Addr.add_lit] at this
mutual
def fvs:Tr->Int->List Int
 | .mk k n ks,b=>(if k=1/\b<=n then [n - b] else [])++fvss k ks 0 b
def fvss:Int->List Tr->Nat->Int->List Int
 |_, [],_,_=> []
 |k,t::ts,i,b=> fvs t (b+und k i)++fvss k ts (i+1) b
end
mutual
theorem j148: ∀(t:Tr) (b s:Int),0<=s->(fvs t b).foldl (fun s i=> max s (i+1)) s=max s (mxf t b)
 | .mk k n ks,b,s,hs=> by
  unfold fvs mxf;rw[List.foldl_append];by_cases h:k=1/\b<=n
  · rw[if_pos h,if_pos h]
    simp only[List.foldl_cons,List.foldl_nil];rw[y100 k ks 0 b _ (by omega),Int.max_assoc]
  · rw[if_neg h,if_neg h]
    simp only[List.foldl_nil];rw[y100 k ks 0 b s hs];have:=y67 k ks 0 b;omega
theorem y100: ∀(k:Int) (ts:List Tr) (i:Nat) (b s:Int),0<=s->(fvss k ts i b).foldl (fun s i=> max s (i+1)) s=max s (mxfs k ts i b)
 |_, [],_,_,s,hs=> by simp only[fvss,mxfs,List.foldl_nil];omega
 |k,t::ts,i,b,s,hs=> by
  unfold fvss mxfs;rw[List.foldl_append,j148 t _ s hs,y100 k ts (i+1) b _ (by omega),Int.max_assoc]
end
theorem q68(k:Int):sigT.most k<=20:=by
 show q28 k<=20
 unfold q28
 split
 · omega
 · split <;> omega
mutual
theorem j190: ∀(t:Tr) (b d:Int) (i:Int),shape sigT t d=true->0<=b->i∈fvs t b->0<=i/\i<=20/\i < mxf t b
 | .mk k n ks,b,d,i,hs,hb,hm=> by
  obtain⟨-,h0,h1,hk⟩:=y12 hs;have h2:=q68 k;unfold fvs at hm;unfold mxf;rcases List.mem_append.1 hm with hm|hm
  · by_cases h:k=1/\b<=n
    · rw[if_pos h] at hm⊢
      simp only[List.mem_singleton] at hm;omega
    · rw[if_neg h] at hm
      cases hm
  · have:=j143 k ks 0 b (d - 1) i hk hb hm
    omega
theorem j143: ∀(k:Int) (ts:List Tr) (j:Nat) (b d:Int) (i:Int),(∀t∈ts,shape sigT t d=true)->0<=b->i∈fvss k ts j b->0<=i/\i<=20/\i < mxfs k ts j b
 |_, [],_,_,_,_,_,_,hm=> by unfold fvss at hm;cases hm
 |k,t::ts,j,b,d,i,hs,hb,hm=> by
  unfold fvss at hm;unfold mxfs;have hu:=j44 k j;rcases List.mem_append.1 hm with hm|hm
  · have:=j190 t _ d i (hs t (by simp)) (by omega) hm
    omega
  · have:=j143 k ts (j+1) b d i (fun t ht=> hs t (by simp[ht])) hb hm
    omega
end
end Go.Proofs.YtdkamgafpphdjaaGreat
