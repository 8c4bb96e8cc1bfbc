/-
  Lemmas towards the law, 8: Fmt, ExShape, Sub, Ints2.
-/
import Derived.Test.YtbnkbepgmenblaaGreatTAG
import Derived.Laws.Concat
import Derived.Laws.IdiomStrings
set_option linter.unusedVariables false
set_option maxHeartbeats 4000000
set_option maxRecDepth 100000
namespace Go.Proofs.YtbnkbepgmenblaaGreat
open Go.RowKit
theorem conv1(w:World)(x:Int)(b:UInt8)(hb:(b.toNat:Int)=x):(convert 22 9 (.slice (some ⟨w.heap.size,0,none⟩) 1 1)).run Tryz.prog (w.alloc (.cells #[.int .u8 x] 5))= .ok (.string (ofL [b])) (w.alloc (.cells #[.int .u8 x] 5)):=by
 have:=run_convert_bytes_back (P:=Tryz.prog) (w.alloc (.cells #[.int .u8 x] 5)) 22 9 5 ⟨w.heap.size,0,none⟩ 1 [b] Tryz.underlying22 Tryz.underlying5 Tryz.underlying9 (fun j hj=> by
  have:j=0:=by simpa using hj
  subst this;rw[Addr.add_lit,Nat.zero_add,q10 (heap_alloc_new w _)];simp only[List.getElem_cons_zero,hb]
  rfl)
 simpa[ofL] using this
theorem j188(a:List UInt8):ofL a++({data:=#[]}:ByteArray)=ofL a:=by
 have:=j15 a []
 simpa[ofL] using this
theorem j145(n:Nat)(h:n < 256):((UInt8.ofNat n).toNat:Int)=n:=by
 simp
 omega
theorem y115(n:Nat)(hn:n<=99)(w:World):Calls Tryz.prog 212 #[.int .i64 n] w fun e w'=> e= .returned (.string (ofL (decL n)))/\Ext w w':=by
 by_cases h9:n<=9
 · obtain⟨b,hb⟩: ∃b,b=UInt8.ofNat (48+n):=⟨_,rfl⟩
   have hc:=conv1 w (48+n) b (by rw[hb,j145 _ (by omega)];omega);have hd:decL n= [b]:=by
    unfold decL;rw[if_pos (by omega),hb]
    rfl
   have HD:=hdq hd;have HC:=hdq (j188 [b]);clear hd hb;go_enter Tryz.func212,Tryz.ntmps212;go_wp2_with fail;refine wp_loop_rounds 1 ?_;rw[rounds_succ];go_wp2_with fail;go_ret;exact⟨by rw[HD.out,<-HC.out];rfl,(xr w).alloc _⟩
 · obtain⟨r,hr⟩: ∃r:Int,r=(n:Int) % 10:=⟨_,rfl⟩
   obtain⟨q,hq⟩: ∃q:Int,q=(n:Int) / 10:=⟨_,rfl⟩;have Ya:0<=r:=by omega
   have Uf:r<=9:=by omega
   have uq:0<=q:=by omega
   have Bi:q<=9:=by omega
   obtain⟨b,hb⟩: ∃b,b=UInt8.ofNat (48+n / 10):=⟨_,rfl⟩;obtain⟨c,hcb⟩: ∃b,b=UInt8.ofNat (48+n - n / 10*10):=⟨_,rfl⟩;have hc:=conv1 w (48+r) c (by rw[hcb,j145 _ (by omega)];omega);have hc2:=conv1 (w.alloc (.cells #[.int .u8 (48+r)] 5)) (48+q) b (by rw[hb,j145 _ (by omega)];omega);rw[World.size_alloc] at hc2;have hd:decL n= [b]++ [c]:=by
    unfold decL;rw[if_neg (by omega),hb,hcb];simp only[List.cons_append,List.nil_append,List.cons.injEq,and_true]
    constructor <;>(congr 1;try omega)
   have HD:=hdq hd;have HC:=hdq (j188 [c]);have h3:decide ((9:Int) < q)=false:=decide_eq_false (by omega);clear hd hb hcb;subst hr hq;go_enter Tryz.func212,Tryz.ntmps212;go_wp2_with fail;refine wp_loop_rounds 2 ?_;rw[rounds_succ];go_wp2_with fail;rw[rounds_succ];go_wp2_with fail;go_ret;exact⟨by rw[HD.out,<-j15,<-HC.out];rfl,((xr w).alloc _).alloc _⟩
def TextC(t:Tr):Prop:= ∀(w:World) (v:Value) (d:Int),shape sigT t d=true->cnt t<=1000->Lies w t v->Calls Tryz.prog 203 #[v] w fun e w'=> e= .returned (.string (ofL (fmtL t)))/\Ext w w'
theorem j40{x:List UInt8}{n:Nat}(h:x.length<=n):(ofL x).size<=n:=by rw[q118];exact h
theorem y73(ks:List Tr)(hk: ∀t∈ks,TextC t)(d:Int)(hsh: ∀t∈ks,shape sigT t d=true)(I1:cnts ks<=1000)(w:World)(A:Option Addr)(cap:Nat)(h:j26 w A ks)(hl:ks.length<=cap)(hc:cap<=maxLen):
 Calls Tryz.prog 213 #[.slice A ks.length cap] w fun e w'=> e= .returned (.string (ofL (fmtK [44] ks true)))/\Ext w w':=by
 have hcc:=hc;unfold maxLen at hcc;have hlc:=y19 ks;go_enter Tryz.func213,Tryz.ntmps213;go_wp2_with fail
 go_loopw [3,4] (fun o i wr=> ∃(j:Nat) (x:List UInt8),j<=ks.length/\i= .int .i64 j/\o= .string (ofL x)/\x++fmtK [44] (ks.drop j) (decide (j=0))=fmtK [44] ks true/\x.length+5*cnts (ks.drop j)<=5*cnts ks/\Ext w wr) (fun _ i _=> ks.length -(intOf i).toNat)
 case atStart=> exact⟨0, [],Nat.zero_le _,rfl,rfl,rfl,by simp,xr _⟩
 case round=>
  obtain⟨j,x,hj,rfl,rfl,dv,hlen,he⟩:=hrel;have HE:=hdq dv;clear dv;by_cases hlt:j < ks.length
  · obtain⟨b,o,k,n,A',cap',kids,rfl,HK,c0,c1,c2,K8,L6,hK,j7,j5⟩:=h.get he hlt
    have Mx:(j:Int) <(ks.length:Int):=by omega
    have hst:ks.drop j= .mk k n kids::ks.drop (j+1):=by rw[List.drop_eq_getElem_cons hlt,HK.out]
    have hf:=y30 (.mk k n kids);have Gi:cnts (ks.drop j)=cnt (.mk k n kids)+cnts (ks.drop (j+1)):=by rw[hst];simp only[cnts]
    have hcm:=y15 j5;have HC:=hdq (hk _ j5 wr _ d (hsh _ j5) (by omega) j7);have hfk:fmtK [44] (ks.drop j) (decide (j=0))=(if decide (j=0)=true then [] else [44])++fmtL (.mk k n kids)++fmtK [44] (ks.drop (j+1)) false:=by
     rw[hst];conv=> lhs;unfold fmtK
    have HFK:=hdq hfk;have J3:x.length<=10000:=by omega
    have hx1:=j40 J3;obtain⟨y,hy⟩: ∃y,y=fmtL (.mk k n kids):=⟨_,rfl⟩;rw[<-hy] at HC HFK hf;have hx2:=j40 (x:=y) (n:=10000) (by omega);have HCD:=hdq Gi;have HL:=hdq (show x.length+5*(cnt (.mk k n kids)+cnts (ks.drop (j+1)))<=5*cnts ks from by rw[<-Gi];exact hlen);clear hst Gi hfk hy hlen;rcases Nat.eq_zero_or_pos j with h0|h0
    · subst h0
      have mq:decide ((0:Int) <((0:Nat):Int))=false:=by decide
      simp only[Nat.zero_mul,Nat.add_zero] at c0 c1 c2;go_wp2_with fail;refine HC.out.mono ?_;rintro e w1 ⟨rfl,e1⟩;go_wp2_with fail
      go_roundw
      case rel=> exact⟨1,x++y,by omega,rfl,by rw[j15],by rw[<-HE.out,HFK.out];simp,by have:=HL.out;rw[Nat.zero_add] at this;simp only[List.length_append];omega,he.trans e1⟩
      case measure=> simp[intOf];omega
    · have mq:decide ((0:Int) <(j:Int))=true:=decide_eq_true (by omega)
      have HX:=hdq (show ofL x++({data:=#[44]}:ByteArray)=ofL (x++ [44]) from j15 x [44]);have hx3:(ofL x++({data:=#[44]}:ByteArray)).size<=10001:=by rw[HX.out,q118];simp;omega
      go_wp2_with fail;refine HC.out.mono ?_;rintro e w1 ⟨rfl,e1⟩;go_wp2_with fail
      go_roundw
      case rel=> exact⟨j+1,x++ [44]++y,by omega,by go_num,by rw[HX.out,j15],by rw[<-HE.out,HFK.out,show decide (j=0)=false from decide_eq_false (by omega),show decide (j+1=0)=false from decide_eq_false (by omega)];simp,by have:=HL.out;simp only[List.length_append,List.length_singleton];omega,he.trans e1⟩
      case measure=> simp[intOf];omega
  · have hd:=List.drop_of_length_le (show ks.length<=j by omega)
    have hx:x=fmtK [44] ks true:=by rw[<-HE.out,hd];simp[fmtK]
    have HX:=hdq hx;clear hd hx;go_wp2_with fail;go_ret;exact⟨by rw[<-HX.out];rfl,he⟩
theorem j220{ks:List Tr}{t:Tr}(h:ks.length=1)(h0:0 < ks.length)(e:ks[0]=t):ks= [t]:=by
 match ks,h with
 | [q],_=> rw[<-e];rfl
theorem j211{ks:List Tr}{t u:Tr}(h:ks.length=2)(h0:0 < ks.length)(h1:1 < ks.length)(e:ks[0]=t)(e1:ks[1]=u):ks= [t,u]:=by
 match ks,h with
 | [q,r],_=> rw[<-e,<-e1];rfl
theorem y168: ∀t:Tr,TextC t:=Tr.ind fun k n ks hk=> by
 intro w v d hsh I1 j7;obtain⟨A,cap,rfl,hl,hc,hK⟩:=Lies.mk_iff.1 j7;obtain⟨j8,ah,az,hsk⟩:=j12 hsh;have j8:opsT k=(ks.length:Int):=j8;have az:n<=q33 k:=az;have hlc:=y19 ks;have hcc:=hc;unfold maxLen at hcc;simp only[cnt] at I1;have hx:Ext w (w.alloc (.cells #[.int .i64 k,.int .i64 n,.slice A ks.length cap] 25)):=(xr w).alloc _;have bf:=heap_alloc_new w (.cells #[.int .i64 k,.int .i64 n,.slice A ks.length cap] 25);by_cases c8:k=8
 · subst c8
   have P6:ks.length=1:=by have:(1:Int)=(ks.length:Int):=j8;omega
   obtain⟨b,o,k0,n0,A0,C7,i6,rfl,HK,x0,x1,x2,K8,L6,V5,D3,j5⟩:=hK.get hx (j:=0) (by omega);simp only[Nat.zero_mul,Nat.add_zero] at x0 x1 x2;obtain⟨t0,J8⟩: ∃t0,t0=Tr.mk k0 n0 i6:=⟨_,rfl⟩;have p9:ks= [t0]:=j220 P6 (by omega) (by rw[J8];exact HK.out);have hl0:0 < ks.length:=by omega
   have hf:=y30 t0;have hcm:=y15 j5;rw[<-J8] at hcm;have HC:=hdq (fun W (hW:Ext _ W)=> hk _ j5 W _ (d - 1) (hsk _ j5) (by rw[<-J8];omega) (D3.ext hW));rw[<-J8] at HC;have J3:(fmtL t0).length<=10000:=by omega
   obtain⟨y,hy⟩: ∃y,y=fmtL t0:=⟨_,rfl⟩;rw[<-hy] at HC J3;have hx1:=j40 J3;have hr:fmtL (.mk 8 n ks)= [43]++y:=by
    rw[p9,hy];simp[fmtL,fmtK,opn,cls]
   have HR:=hdq hr;clear hr p9 J8 hy HK j8 hf hcm P6;go_enter Tryz.func203,Tryz.ntmps203;go_wp2_with fail;refine(HC.out _ (xr _)).mono ?_;rintro e w2 ⟨rfl,e2⟩;go_wp2_with fail;go_ret;exact⟨by rw[HR.out,<-j15];rfl,hx.trans e2⟩
 by_cases c11:k=11
 · subst c11
   have P6:ks.length=1:=by have:(1:Int)=(ks.length:Int):=j8;omega
   obtain⟨b,o,k0,n0,A0,C7,i6,rfl,HK,x0,x1,x2,K8,L6,V5,D3,j5⟩:=hK.get hx (j:=0) (by omega);simp only[Nat.zero_mul,Nat.add_zero] at x0 x1 x2;obtain⟨t0,J8⟩: ∃t0,t0=Tr.mk k0 n0 i6:=⟨_,rfl⟩;have p9:ks= [t0]:=j220 P6 (by omega) (by rw[J8];exact HK.out);have hl0:0 < ks.length:=by omega
   have hf:=y30 t0;have hcm:=y15 j5;rw[<-J8] at hcm;have HC:=hdq (fun W (hW:Ext _ W)=> hk _ j5 W _ (d - 1) (hsk _ j5) (by rw[<-J8];omega) (D3.ext hW));rw[<-J8] at HC;have J3:(fmtL t0).length<=10000:=by omega
   obtain⟨y,hy⟩: ∃y,y=fmtL t0:=⟨_,rfl⟩;rw[<-hy] at HC J3;have hx1:=j40 J3;have hr:fmtL (.mk 11 n ks)= [33]++y:=by
    rw[p9,hy];simp[fmtL,fmtK,opn,cls]
   have HR:=hdq hr;clear hr p9 J8 hy HK j8 hf hcm P6;go_enter Tryz.func203,Tryz.ntmps203;go_wp2_with fail;refine(HC.out _ (xr _)).mono ?_;rintro e w2 ⟨rfl,e2⟩;go_wp2_with fail;go_ret;exact⟨by rw[HR.out,<-j15];rfl,hx.trans e2⟩
 by_cases c15:k=15
 · subst c15
   have P6:ks.length=1:=by have:(1:Int)=(ks.length:Int):=j8;omega
   obtain⟨b,o,k0,n0,A0,C7,i6,rfl,HK,x0,x1,x2,K8,L6,V5,D3,j5⟩:=hK.get hx (j:=0) (by omega);simp only[Nat.zero_mul,Nat.add_zero] at x0 x1 x2;obtain⟨t0,J8⟩: ∃t0,t0=Tr.mk k0 n0 i6:=⟨_,rfl⟩;have p9:ks= [t0]:=j220 P6 (by omega) (by rw[J8];exact HK.out);have hl0:0 < ks.length:=by omega
   have hf:=y30 t0;have hcm:=y15 j5;rw[<-J8] at hcm;have HC:=hdq (fun W (hW:Ext _ W)=> hk _ j5 W _ (d - 1) (hsk _ j5) (by rw[<-J8];omega) (D3.ext hW));rw[<-J8] at HC;have J3:(fmtL t0).length<=10000:=by omega
   obtain⟨y,hy⟩: ∃y,y=fmtL t0:=⟨_,rfl⟩;rw[<-hy] at HC J3;have hx1:=j40 J3;have hr:fmtL (.mk 15 n ks)= [94]++y:=by
    rw[p9,hy];simp[fmtL,fmtK,opn,cls]
   have HR:=hdq hr;clear hr p9 J8 hy HK j8 hf hcm P6;go_enter Tryz.func203,Tryz.ntmps203;go_wp2_with fail;refine(HC.out _ (xr _)).mono ?_;rintro e w2 ⟨rfl,e2⟩;go_wp2_with fail;go_ret;exact⟨by rw[HR.out,<-j15];rfl,hx.trans e2⟩
 by_cases c16:k=16
 · subst c16
   have P6:ks.length=1:=by have:(1:Int)=(ks.length:Int):=j8;omega
   obtain⟨b,o,k0,n0,A0,C7,i6,rfl,HK,x0,x1,x2,K8,L6,V5,D3,j5⟩:=hK.get hx (j:=0) (by omega);simp only[Nat.zero_mul,Nat.add_zero] at x0 x1 x2;obtain⟨t0,J8⟩: ∃t0,t0=Tr.mk k0 n0 i6:=⟨_,rfl⟩;have p9:ks= [t0]:=j220 P6 (by omega) (by rw[J8];exact HK.out);have hl0:0 < ks.length:=by omega
   have hf:=y30 t0;have hcm:=y15 j5;rw[<-J8] at hcm;have HC:=hdq (fun W (hW:Ext _ W)=> hk _ j5 W _ (d - 1) (hsk _ j5) (by rw[<-J8];omega) (D3.ext hW));rw[<-J8] at HC;have J3:(fmtL t0).length<=10000:=by omega
   obtain⟨y,hy⟩: ∃y,y=fmtL t0:=⟨_,rfl⟩;rw[<-hy] at HC J3;have hx1:=j40 J3;have hr:fmtL (.mk 16 n ks)= [95]++y:=by
    rw[p9,hy];simp[fmtL,fmtK,opn,cls]
   have HR:=hdq hr;clear hr p9 J8 hy HK j8 hf hcm P6;go_enter Tryz.func203,Tryz.ntmps203;go_wp2_with fail;refine(HC.out _ (xr _)).mono ?_;rintro e w2 ⟨rfl,e2⟩;go_wp2_with fail;go_ret;exact⟨by rw[HR.out,<-j15];rfl,hx.trans e2⟩
 by_cases c3:k=3
 · subst c3
   have K7:ks.length=2:=by have:(2:Int)=(ks.length:Int):=j8;omega
   obtain⟨b,o,k0,n0,A0,C7,i6,rfl,HK,x0,x1,x2,K8,L6,V5,D3,j5⟩:=hK.get hx (j:=0) (by omega);obtain⟨b',o',k1,n1,A1,I0,j9,Bn,N0,y0,y1,y2,jk,ir,Q3,D2,u6⟩:=hK.get hx (j:=1) (by omega);cases Bn
   simp only[Nat.zero_mul,Nat.add_zero] at x0 x1 x2;simp only[Nat.one_mul] at y0 y1 y2;obtain⟨t0,J8⟩: ∃t0,t0=Tr.mk k0 n0 i6:=⟨_,rfl⟩;obtain⟨t1,cj⟩: ∃t1,t1=Tr.mk k1 n1 j9:=⟨_,rfl⟩;have p9:ks= [t0,t1]:=j211 K7 (by omega) (by omega) (by rw[J8];exact HK.out) (by rw[cj];exact N0.out);have hl0:0 < ks.length:=by omega
   have P9:1 < ks.length:=by omega
   have hf:=y30 t0;have pp:=y30 t1;have hcm:=y15 j5;have cr:=y15 u6;rw[<-J8] at hcm;rw[<-cj] at cr;have HC:=hdq (fun W (hW:Ext _ W)=> hk _ j5 W _ (d - 1) (hsk _ j5) (by rw[<-J8];omega) (D3.ext hW));have ol:=hdq (fun W (hW:Ext _ W)=> hk _ u6 W _ (d - 1) (hsk _ u6) (by rw[<-cj];omega) (D2.ext hW));rw[<-J8] at HC;rw[<-cj] at ol;have J3:(fmtL t0).length<=10000:=by omega
   have dc:(fmtL t1).length<=10000:=by omega
   obtain⟨y,hy⟩: ∃y,y=fmtL t0:=⟨_,rfl⟩;obtain⟨z,hz⟩: ∃z,z=fmtL t1:=⟨_,rfl⟩;rw[<-hy] at HC J3;rw[<-hz] at ol dc;have hx1:=j40 J3;have hx2:=j40 dc;have hr:fmtL (.mk 3 n ks)= [40]++y++ [62]++z++ [41]:=by
    rw[p9,hy,hz];simp[fmtL,fmtK,opn,sep,cls]
   have HR:=hdq hr;have P3:(0:Int) <(ks.length:Int):=by omega
   have ft:(1:Int) <(ks.length:Int):=by omega
   have az: ¬(9223372036854775807 < 1+(ofL y).size):=by omega
   have Kw: ¬(9223372036854775807 < 1+(ofL y).size+1):=by omega
   have Lg: ¬(9223372036854775807 < 1+(ofL y).size+1+(ofL z).size):=by omega
   have Ou: ¬(9223372036854775807 < 1+(ofL y).size+1+(ofL z).size+1):=by omega
   obtain⟨s0,s1,s2,-,-,-⟩:=own3 bf;clear hr p9 J8 hy cj hz HK N0 j8 hf pp hcm cr K7;go_enter Tryz.func203,Tryz.ntmps203;go_wp2_with fail;generalize World.alloc w _=w1 at*;have HS:=hdq (show∀w',Ext w1 w'->w'.cell? ⟨w.heap.size,2,none⟩=some (.slice (some ⟨b,o,none⟩) ks.length cap)/\w'.cell? ⟨b,o,none⟩=some (.int .i64 k0)/\w'.cell? ⟨b,o+1,none⟩=some (.int .i64 n0)/\w'.cell? ⟨b,o+2,none⟩=some (.slice A0 i6.length C7)/\w'.cell? ⟨b,o+3,none⟩=some (.int .i64 k1)/\w'.cell? ⟨b,o+3+1,none⟩=some (.int .i64 n1)/\w'.cell? ⟨b,o+3+2,none⟩=some (.slice A1 j9.length I0) from fun w' hw'=>⟨hw'.cell s2,hw'.cell x0,hw'.cell x1,hw'.cell x2,hw'.cell y0,hw'.cell y1,hw'.cell y2⟩)
   go_region_held3 (fun w'=> w'.cell? ⟨w.heap.size,2,none⟩=some (.slice (some ⟨b,o,none⟩) ks.length cap)/\w'.cell? ⟨b,o,none⟩=some (.int .i64 k0)/\w'.cell? ⟨b,o+1,none⟩=some (.int .i64 n0)/\w'.cell? ⟨b,o+2,none⟩=some (.slice A0 i6.length C7)/\w'.cell? ⟨b,o+3,none⟩=some (.int .i64 k1)/\w'.cell? ⟨b,o+3+1,none⟩=some (.int .i64 n1)/\w'.cell? ⟨b,o+3+2,none⟩=some (.slice A1 j9.length I0))
    (first|exact HS.out _ ((xr w1).drew.trans (e2.trans e3)) |exact HS.out _ ((xr w1).drew.trans e2) |exact HS.out _ (xr w1).drew)
    (first|(go_at_call 203;(with_reducible refine(HC.out _ (xr w1).drew).mono ?_);rintro e w2 ⟨rfl,e2⟩) |(go_at_call 203;refine(ol.out _ ((xr w1).drew.trans e2)).mono ?_;rintro e w3 ⟨rfl,e3⟩))
   clear s0 s1 s2 x0 x1 x2 y0 y1 y2 HS;go_wp2_with fail;go_ret;exact⟨by rw[HR.out];simp only[<-j15];rfl,hx.trans ((xr w1).drew.trans (e2.trans e3))⟩
 by_cases c4:k=4
 · subst c4
   have K7:ks.length=2:=by have:(2:Int)=(ks.length:Int):=j8;omega
   obtain⟨b,o,k0,n0,A0,C7,i6,rfl,HK,x0,x1,x2,K8,L6,V5,D3,j5⟩:=hK.get hx (j:=0) (by omega);obtain⟨b',o',k1,n1,A1,I0,j9,Bn,N0,y0,y1,y2,jk,ir,Q3,D2,u6⟩:=hK.get hx (j:=1) (by omega);cases Bn
   simp only[Nat.zero_mul,Nat.add_zero] at x0 x1 x2;simp only[Nat.one_mul] at y0 y1 y2;obtain⟨t0,J8⟩: ∃t0,t0=Tr.mk k0 n0 i6:=⟨_,rfl⟩;obtain⟨t1,cj⟩: ∃t1,t1=Tr.mk k1 n1 j9:=⟨_,rfl⟩;have p9:ks= [t0,t1]:=j211 K7 (by omega) (by omega) (by rw[J8];exact HK.out) (by rw[cj];exact N0.out);have hl0:0 < ks.length:=by omega
   have P9:1 < ks.length:=by omega
   have hf:=y30 t0;have pp:=y30 t1;have hcm:=y15 j5;have cr:=y15 u6;rw[<-J8] at hcm;rw[<-cj] at cr;have HC:=hdq (fun W (hW:Ext _ W)=> hk _ j5 W _ (d - 1) (hsk _ j5) (by rw[<-J8];omega) (D3.ext hW));have ol:=hdq (fun W (hW:Ext _ W)=> hk _ u6 W _ (d - 1) (hsk _ u6) (by rw[<-cj];omega) (D2.ext hW));rw[<-J8] at HC;rw[<-cj] at ol;have J3:(fmtL t0).length<=10000:=by omega
   have dc:(fmtL t1).length<=10000:=by omega
   obtain⟨y,hy⟩: ∃y,y=fmtL t0:=⟨_,rfl⟩;obtain⟨z,hz⟩: ∃z,z=fmtL t1:=⟨_,rfl⟩;rw[<-hy] at HC J3;rw[<-hz] at ol dc;have hx1:=j40 J3;have hx2:=j40 dc;have hr:fmtL (.mk 4 n ks)= [91]++y++ [93]++z:=by
    rw[p9,hy,hz];simp[fmtL,fmtK,opn,sep,cls]
   have HR:=hdq hr;have P3:(0:Int) <(ks.length:Int):=by omega
   have ft:(1:Int) <(ks.length:Int):=by omega
   have az: ¬(9223372036854775807 < 1+(ofL y).size):=by omega
   have Kw: ¬(9223372036854775807 < 1+(ofL y).size+1):=by omega
   have Lg: ¬(9223372036854775807 < 1+(ofL y).size+1+(ofL z).size):=by omega
   have Ou: ¬(9223372036854775807 < 1+(ofL y).size+1+(ofL z).size+1):=by omega
   obtain⟨s0,s1,s2,-,-,-⟩:=own3 bf;clear hr p9 J8 hy cj hz HK N0 j8 hf pp hcm cr K7;go_enter Tryz.func203,Tryz.ntmps203;go_wp2_with fail;generalize World.alloc w _=w1 at*;have HS:=hdq (show∀w',Ext w1 w'->w'.cell? ⟨w.heap.size,2,none⟩=some (.slice (some ⟨b,o,none⟩) ks.length cap)/\w'.cell? ⟨b,o,none⟩=some (.int .i64 k0)/\w'.cell? ⟨b,o+1,none⟩=some (.int .i64 n0)/\w'.cell? ⟨b,o+2,none⟩=some (.slice A0 i6.length C7)/\w'.cell? ⟨b,o+3,none⟩=some (.int .i64 k1)/\w'.cell? ⟨b,o+3+1,none⟩=some (.int .i64 n1)/\w'.cell? ⟨b,o+3+2,none⟩=some (.slice A1 j9.length I0) from fun w' hw'=>⟨hw'.cell s2,hw'.cell x0,hw'.cell x1,hw'.cell x2,hw'.cell y0,hw'.cell y1,hw'.cell y2⟩)
   go_region_held3 (fun w'=> w'.cell? ⟨w.heap.size,2,none⟩=some (.slice (some ⟨b,o,none⟩) ks.length cap)/\w'.cell? ⟨b,o,none⟩=some (.int .i64 k0)/\w'.cell? ⟨b,o+1,none⟩=some (.int .i64 n0)/\w'.cell? ⟨b,o+2,none⟩=some (.slice A0 i6.length C7)/\w'.cell? ⟨b,o+3,none⟩=some (.int .i64 k1)/\w'.cell? ⟨b,o+3+1,none⟩=some (.int .i64 n1)/\w'.cell? ⟨b,o+3+2,none⟩=some (.slice A1 j9.length I0))
    (first|exact HS.out _ ((xr w1).drew.trans (e2.trans e3)) |exact HS.out _ ((xr w1).drew.trans e2) |exact HS.out _ (xr w1).drew)
    (first|(go_at_call 203;(with_reducible refine(HC.out _ (xr w1).drew).mono ?_);rintro e w2 ⟨rfl,e2⟩) |(go_at_call 203;refine(ol.out _ ((xr w1).drew.trans e2)).mono ?_;rintro e w3 ⟨rfl,e3⟩))
   clear s0 s1 s2 x0 x1 x2 y0 y1 y2 HS;go_wp2_with fail;go_ret;exact⟨by rw[HR.out];simp only[<-j15];rfl,hx.trans ((xr w1).drew.trans (e2.trans e3))⟩
 by_cases c5:k=5
 · subst c5
   have K7:ks.length=2:=by have:(2:Int)=(ks.length:Int):=j8;omega
   obtain⟨b,o,k0,n0,A0,C7,i6,rfl,HK,x0,x1,x2,K8,L6,V5,D3,j5⟩:=hK.get hx (j:=0) (by omega);obtain⟨b',o',k1,n1,A1,I0,j9,Bn,N0,y0,y1,y2,jk,ir,Q3,D2,u6⟩:=hK.get hx (j:=1) (by omega);cases Bn
   simp only[Nat.zero_mul,Nat.add_zero] at x0 x1 x2;simp only[Nat.one_mul] at y0 y1 y2;obtain⟨t0,J8⟩: ∃t0,t0=Tr.mk k0 n0 i6:=⟨_,rfl⟩;obtain⟨t1,cj⟩: ∃t1,t1=Tr.mk k1 n1 j9:=⟨_,rfl⟩;have p9:ks= [t0,t1]:=j211 K7 (by omega) (by omega) (by rw[J8];exact HK.out) (by rw[cj];exact N0.out);have hl0:0 < ks.length:=by omega
   have P9:1 < ks.length:=by omega
   have hf:=y30 t0;have pp:=y30 t1;have hcm:=y15 j5;have cr:=y15 u6;rw[<-J8] at hcm;rw[<-cj] at cr;have HC:=hdq (fun W (hW:Ext _ W)=> hk _ j5 W _ (d - 1) (hsk _ j5) (by rw[<-J8];omega) (D3.ext hW));have ol:=hdq (fun W (hW:Ext _ W)=> hk _ u6 W _ (d - 1) (hsk _ u6) (by rw[<-cj];omega) (D2.ext hW));rw[<-J8] at HC;rw[<-cj] at ol;have J3:(fmtL t0).length<=10000:=by omega
   have dc:(fmtL t1).length<=10000:=by omega
   obtain⟨y,hy⟩: ∃y,y=fmtL t0:=⟨_,rfl⟩;obtain⟨z,hz⟩: ∃z,z=fmtL t1:=⟨_,rfl⟩;rw[<-hy] at HC J3;rw[<-hz] at ol dc;have hx1:=j40 J3;have hx2:=j40 dc;have hr:fmtL (.mk 5 n ks)= [40]++y++ [32]++z++ [41]:=by
    rw[p9,hy,hz];simp[fmtL,fmtK,opn,sep,cls]
   have HR:=hdq hr;have P3:(0:Int) <(ks.length:Int):=by omega
   have ft:(1:Int) <(ks.length:Int):=by omega
   have az: ¬(9223372036854775807 < 1+(ofL y).size):=by omega
   have Kw: ¬(9223372036854775807 < 1+(ofL y).size+1):=by omega
   have Lg: ¬(9223372036854775807 < 1+(ofL y).size+1+(ofL z).size):=by omega
   have Ou: ¬(9223372036854775807 < 1+(ofL y).size+1+(ofL z).size+1):=by omega
   obtain⟨s0,s1,s2,-,-,-⟩:=own3 bf;clear hr p9 J8 hy cj hz HK N0 j8 hf pp hcm cr K7;go_enter Tryz.func203,Tryz.ntmps203;go_wp2_with fail;generalize World.alloc w _=w1 at*;have HS:=hdq (show∀w',Ext w1 w'->w'.cell? ⟨w.heap.size,2,none⟩=some (.slice (some ⟨b,o,none⟩) ks.length cap)/\w'.cell? ⟨b,o,none⟩=some (.int .i64 k0)/\w'.cell? ⟨b,o+1,none⟩=some (.int .i64 n0)/\w'.cell? ⟨b,o+2,none⟩=some (.slice A0 i6.length C7)/\w'.cell? ⟨b,o+3,none⟩=some (.int .i64 k1)/\w'.cell? ⟨b,o+3+1,none⟩=some (.int .i64 n1)/\w'.cell? ⟨b,o+3+2,none⟩=some (.slice A1 j9.length I0) from fun w' hw'=>⟨hw'.cell s2,hw'.cell x0,hw'.cell x1,hw'.cell x2,hw'.cell y0,hw'.cell y1,hw'.cell y2⟩)
   go_region_held3 (fun w'=> w'.cell? ⟨w.heap.size,2,none⟩=some (.slice (some ⟨b,o,none⟩) ks.length cap)/\w'.cell? ⟨b,o,none⟩=some (.int .i64 k0)/\w'.cell? ⟨b,o+1,none⟩=some (.int .i64 n0)/\w'.cell? ⟨b,o+2,none⟩=some (.slice A0 i6.length C7)/\w'.cell? ⟨b,o+3,none⟩=some (.int .i64 k1)/\w'.cell? ⟨b,o+3+1,none⟩=some (.int .i64 n1)/\w'.cell? ⟨b,o+3+2,none⟩=some (.slice A1 j9.length I0))
    (first|exact HS.out _ ((xr w1).drew.trans (e2.trans e3)) |exact HS.out _ ((xr w1).drew.trans e2) |exact HS.out _ (xr w1).drew)
    (first|(go_at_call 203;(with_reducible refine(HC.out _ (xr w1).drew).mono ?_);rintro e w2 ⟨rfl,e2⟩) |(go_at_call 203;refine(ol.out _ ((xr w1).drew.trans e2)).mono ?_;rintro e w3 ⟨rfl,e3⟩))
   clear s0 s1 s2 x0 x1 x2 y0 y1 y2 HS;go_wp2_with fail;go_ret;exact⟨by rw[HR.out];simp only[<-j15];rfl,hx.trans ((xr w1).drew.trans (e2.trans e3))⟩
 by_cases c13:k=13
 · subst c13
   have K7:ks.length=2:=by have:(2:Int)=(ks.length:Int):=j8;omega
   obtain⟨b,o,k0,n0,A0,C7,i6,rfl,HK,x0,x1,x2,K8,L6,V5,D3,j5⟩:=hK.get hx (j:=0) (by omega);obtain⟨b',o',k1,n1,A1,I0,j9,Bn,N0,y0,y1,y2,jk,ir,Q3,D2,u6⟩:=hK.get hx (j:=1) (by omega);cases Bn
   simp only[Nat.zero_mul,Nat.add_zero] at x0 x1 x2;simp only[Nat.one_mul] at y0 y1 y2;obtain⟨t0,J8⟩: ∃t0,t0=Tr.mk k0 n0 i6:=⟨_,rfl⟩;obtain⟨t1,cj⟩: ∃t1,t1=Tr.mk k1 n1 j9:=⟨_,rfl⟩;have p9:ks= [t0,t1]:=j211 K7 (by omega) (by omega) (by rw[J8];exact HK.out) (by rw[cj];exact N0.out);have hl0:0 < ks.length:=by omega
   have P9:1 < ks.length:=by omega
   have hf:=y30 t0;have pp:=y30 t1;have hcm:=y15 j5;have cr:=y15 u6;rw[<-J8] at hcm;rw[<-cj] at cr;have HC:=hdq (fun W (hW:Ext _ W)=> hk _ j5 W _ (d - 1) (hsk _ j5) (by rw[<-J8];omega) (D3.ext hW));have ol:=hdq (fun W (hW:Ext _ W)=> hk _ u6 W _ (d - 1) (hsk _ u6) (by rw[<-cj];omega) (D2.ext hW));rw[<-J8] at HC;rw[<-cj] at ol;have J3:(fmtL t0).length<=10000:=by omega
   have dc:(fmtL t1).length<=10000:=by omega
   obtain⟨y,hy⟩: ∃y,y=fmtL t0:=⟨_,rfl⟩;obtain⟨z,hz⟩: ∃z,z=fmtL t1:=⟨_,rfl⟩;rw[<-hy] at HC J3;rw[<-hz] at ol dc;have hx1:=j40 J3;have hx2:=j40 dc;have hr:fmtL (.mk 13 n ks)= [40]++y++ [42]++z++ [41]:=by
    rw[p9,hy,hz];simp[fmtL,fmtK,opn,sep,cls]
   have HR:=hdq hr;have P3:(0:Int) <(ks.length:Int):=by omega
   have ft:(1:Int) <(ks.length:Int):=by omega
   have az: ¬(9223372036854775807 < 1+(ofL y).size):=by omega
   have Kw: ¬(9223372036854775807 < 1+(ofL y).size+1):=by omega
   have Lg: ¬(9223372036854775807 < 1+(ofL y).size+1+(ofL z).size):=by omega
   have Ou: ¬(9223372036854775807 < 1+(ofL y).size+1+(ofL z).size+1):=by omega
   obtain⟨s0,s1,s2,-,-,-⟩:=own3 bf;clear hr p9 J8 hy cj hz HK N0 j8 hf pp hcm cr K7;go_enter Tryz.func203,Tryz.ntmps203;go_wp2_with fail;generalize World.alloc w _=w1 at*;have HS:=hdq (show∀w',Ext w1 w'->w'.cell? ⟨w.heap.size,2,none⟩=some (.slice (some ⟨b,o,none⟩) ks.length cap)/\w'.cell? ⟨b,o,none⟩=some (.int .i64 k0)/\w'.cell? ⟨b,o+1,none⟩=some (.int .i64 n0)/\w'.cell? ⟨b,o+2,none⟩=some (.slice A0 i6.length C7)/\w'.cell? ⟨b,o+3,none⟩=some (.int .i64 k1)/\w'.cell? ⟨b,o+3+1,none⟩=some (.int .i64 n1)/\w'.cell? ⟨b,o+3+2,none⟩=some (.slice A1 j9.length I0) from fun w' hw'=>⟨hw'.cell s2,hw'.cell x0,hw'.cell x1,hw'.cell x2,hw'.cell y0,hw'.cell y1,hw'.cell y2⟩)
   go_region_held3 (fun w'=> w'.cell? ⟨w.heap.size,2,none⟩=some (.slice (some ⟨b,o,none⟩) ks.length cap)/\w'.cell? ⟨b,o,none⟩=some (.int .i64 k0)/\w'.cell? ⟨b,o+1,none⟩=some (.int .i64 n0)/\w'.cell? ⟨b,o+2,none⟩=some (.slice A0 i6.length C7)/\w'.cell? ⟨b,o+3,none⟩=some (.int .i64 k1)/\w'.cell? ⟨b,o+3+1,none⟩=some (.int .i64 n1)/\w'.cell? ⟨b,o+3+2,none⟩=some (.slice A1 j9.length I0))
    (first|exact HS.out _ ((xr w1).drew.trans (e2.trans e3)) |exact HS.out _ ((xr w1).drew.trans e2) |exact HS.out _ (xr w1).drew)
    (first|(go_at_call 203;(with_reducible refine(HC.out _ (xr w1).drew).mono ?_);rintro e w2 ⟨rfl,e2⟩) |(go_at_call 203;refine(ol.out _ ((xr w1).drew.trans e2)).mono ?_;rintro e w3 ⟨rfl,e3⟩))
   clear s0 s1 s2 x0 x1 x2 y0 y1 y2 HS;go_wp2_with fail;go_ret;exact⟨by rw[HR.out];simp only[<-j15];rfl,hx.trans ((xr w1).drew.trans (e2.trans e3))⟩
 by_cases c9:k=9
 · subst c9
   have hf:=q72 [44] (by simp) ks true;have HC:=hdq (fun W (hW:Ext w W)=> y73 ks hk (d - 1) hsk (by omega) W A cap (hK.ext hW) hl hc);have J3:(fmtK [44] ks true).length<=10000:=by omega
   have hr:fmtL (.mk 9 n ks)= [60]++fmtK [44] ks true++ [62]:=by
    simp[fmtL,opn,sep,cls]
   obtain⟨y,hy⟩: ∃y,y=fmtK [44] ks true:=⟨_,rfl⟩;rw[<-hy] at HC J3 hr;have hx1:=j40 J3;have HR:=hdq hr;have Bi:((⟨#[60]⟩:ByteArray)++ofL y).size<=10002:=by
    have:=j40 (x:= [60]++y) (n:=10002) (by simp;omega)
    rwa [<-j15] at this
   clear hr hy j8 hf;go_enter Tryz.func203,Tryz.ntmps203;go_wp2_with fail;refine(HC.out _ hx).mono ?_;rintro e w2 ⟨rfl,e2⟩;go_wp2_with fail;go_ret;exact⟨by rw[HR.out,<-j15,<-j15];rfl,hx.trans e2⟩
 by_cases c10:k=10
 · subst c10
   have hf:=q72 [44] (by simp) ks true;have HC:=hdq (fun W (hW:Ext w W)=> y73 ks hk (d - 1) hsk (by omega) W A cap (hK.ext hW) hl hc);have J3:(fmtK [44] ks true).length<=10000:=by omega
   have hr:fmtL (.mk 10 n ks)= [123]++fmtK [44] ks true++ [125]:=by
    simp[fmtL,opn,sep,cls]
   obtain⟨y,hy⟩: ∃y,y=fmtK [44] ks true:=⟨_,rfl⟩;rw[<-hy] at HC J3 hr;have hx1:=j40 J3;have HR:=hdq hr;have Bi:((⟨#[123]⟩:ByteArray)++ofL y).size<=10002:=by
    have:=j40 (x:= [123]++y) (n:=10002) (by simp;omega)
    rwa [<-j15] at this
   clear hr hy j8 hf;go_enter Tryz.func203,Tryz.ntmps203;go_wp2_with fail;refine(HC.out _ hx).mono ?_;rintro e w2 ⟨rfl,e2⟩;go_wp2_with fail;go_ret;exact⟨by rw[HR.out,<-j15,<-j15];rfl,hx.trans e2⟩
 by_cases c14:k=14
 · subst c14
   have hf:=q72 [44] (by simp) ks true;have HC:=hdq (fun W (hW:Ext w W)=> y73 ks hk (d - 1) hsk (by omega) W A cap (hK.ext hW) hl hc);have J3:(fmtK [44] ks true).length<=10000:=by omega
   have hr:fmtL (.mk 14 n ks)= [124]++fmtK [44] ks true++ [124]:=by
    simp[fmtL,opn,sep,cls]
   obtain⟨y,hy⟩: ∃y,y=fmtK [44] ks true:=⟨_,rfl⟩;rw[<-hy] at HC J3 hr;have hx1:=j40 J3;have HR:=hdq hr;have Bi:((⟨#[124]⟩:ByteArray)++ofL y).size<=10002:=by
    have:=j40 (x:= [124]++y) (n:=10002) (by simp;omega)
    rwa [<-j15] at this
   clear hr hy j8 hf;go_enter Tryz.func203,Tryz.ntmps203;go_wp2_with fail;refine(HC.out _ hx).mono ?_;rintro e w2 ⟨rfl,e2⟩;go_wp2_with fail;go_ret;exact⟨by rw[HR.out,<-j15,<-j15];rfl,hx.trans e2⟩
 by_cases c12:k=12
 · subst c12
   have hf:=q72 [44] (by simp) ks true;have HC:=hdq (fun W (hW:Ext w W)=> y73 ks hk (d - 1) hsk (by omega) W A cap (hK.ext hW) hl hc);have J3:(fmtK [44] ks true).length<=10000:=by omega
   have hr:fmtL (.mk 12 n ks)= [64,60]++fmtK [44] ks true++ [62]:=by
    simp[fmtL,opn,sep,cls]
   obtain⟨y,hy⟩: ∃y,y=fmtK [44] ks true:=⟨_,rfl⟩;rw[<-hy] at HC J3 hr;have hx1:=j40 J3;have HR:=hdq hr;have Bi:((⟨#[64,60]⟩:ByteArray)++ofL y).size<=10002:=by
    have:=j40 (x:= [64,60]++y) (n:=10002) (by simp;omega)
    rwa [<-j15] at this
   clear hr hy j8 hf;go_enter Tryz.func203,Tryz.ntmps203;go_wp2_with fail;refine(HC.out _ hx).mono ?_;rintro e w2 ⟨rfl,e2⟩;go_wp2_with fail;go_ret;exact⟨by rw[HR.out,<-j15,<-j15];rfl,hx.trans e2⟩
 by_cases c6:k=6
 · subst c6
   have T5:ks= []:=List.eq_nil_of_length_eq_zero (by have:(0:Int)=(ks.length:Int):=j8;omega);have hr:fmtL (.mk 6 n ks)= [78]:=by
    rw[T5];simp[fmtL,fmtK,opn,cls]
   have HR:=hdq hr;clear hr j8 T5;go_enter Tryz.func203,Tryz.ntmps203;go_wp2_with fail;go_ret;exact⟨by rw[HR.out];rfl,hx⟩
 by_cases c7:k=7
 · subst c7
   have T5:ks= []:=List.eq_nil_of_length_eq_zero (by have:(0:Int)=(ks.length:Int):=j8;omega);have hr:fmtL (.mk 7 n ks)= [48]:=by
    rw[T5];simp[fmtL,fmtK,opn,cls]
   have HR:=hdq hr;clear hr j8 T5;go_enter Tryz.func203,Tryz.ntmps203;go_wp2_with fail;go_ret;exact⟨by rw[HR.out];rfl,hx⟩
 by_cases c1:k=1
 · subst c1
   obtain⟨m,rfl⟩: ∃m:Nat,n=m:=⟨n.toNat,by omega⟩;have hm:(m:Int)<=20:=az;have HC:=hdq (fun W=> y115 m (by omega) W);have hr:fmtL (.mk 1 m ks)= [35]++decL m:=by
    simp[fmtL]
   have J3:=y122 m;obtain⟨y,hy⟩: ∃y,y=decL m:=⟨_,rfl⟩;rw[<-hy] at HC J3 hr;have hx1:=j40 J3;have HR:=hdq hr;clear hr j8 hy;go_enter Tryz.func203,Tryz.ntmps203;go_wp2_with fail;refine(HC.out _).mono ?_;rintro e w2 ⟨rfl,e2⟩;go_wp2_with fail;go_ret;exact⟨by rw[HR.out,<-j15];rfl,hx.trans e2⟩
 by_cases c2:k=2
 · subst c2
   obtain⟨m,rfl⟩: ∃m:Nat,n=m:=⟨n.toNat,by omega⟩;have hm:(m:Int)<=3:=az;have HC:=hdq (fun W=> y115 m (by omega) W);have hr:fmtL (.mk 2 m ks)= [42]++decL m:=by
    simp[fmtL]
   have J3:=y122 m;obtain⟨y,hy⟩: ∃y,y=decL m:=⟨_,rfl⟩;rw[<-hy] at HC J3 hr;have hx1:=j40 J3;have HR:=hdq hr;clear hr j8 hy;go_enter Tryz.func203,Tryz.ntmps203;go_wp2_with fail;refine(HC.out _).mono ?_;rintro e w2 ⟨rfl,e2⟩;go_wp2_with fail;go_ret;exact⟨by rw[HR.out,<-j15];rfl,hx.trans e2⟩
 exfalso
 have Cr:0<=opsT k:=by omega
 unfold opsT at Cr
 repeat rw[if_neg (by omega)] at Cr
 omega
theorem j111(t:Tr)(w:World)(v:Value)(j7:Lies w t v):Calls Tryz.prog 183 #[v] w fun e w'=> e= .returned (.string (ofL (fmtV t)))/\Ext w w':=by
 have H1:=hdq (fun W (hW:Ext w W)=> q28 t W v (j7.ext hW));have H2:=hdq (fun(hv:valid sigT t=true) W (hW:Ext w W)=> y168 t W v 30 (y12 hv).1 (by have:=(y12 hv).2;omega) (j7.ext hW));have hf:fmtV t=if valid sigT t=true then fmtL t else []:=rfl
 obtain⟨b,hb⟩: ∃b,b=valid sigT t:=⟨_,rfl⟩;rw[<-hb] at H1 H2 hf;have HF:=hdq hf;clear hb hf;obtain⟨k,n,ks⟩:=t;obtain⟨A,cap,rfl,hl,hc,hK⟩:=Lies.mk_iff.1 j7;have hx:Ext w (w.alloc (.cells #[.int .i64 k,.int .i64 n,.slice A ks.length cap] 25)):=(xr w).alloc _;have bf:=heap_alloc_new w (.cells #[.int .i64 k,.int .i64 n,.slice A ks.length cap] 25);cases b with
 |false=>
  go_enter Tryz.func183,Tryz.ntmps183;go_wp2_with fail;refine(H1.out _ hx).mono ?_;rintro e w1 ⟨rfl,e1⟩;go_wp2_with fail;go_ret;exact⟨by rw[HF.out];rfl,hx.trans e1⟩
 |true=>
  go_enter Tryz.func183,Tryz.ntmps183;go_wp2_with fail;refine(H1.out _ hx).mono ?_;rintro e w1 ⟨rfl,e1⟩;obtain⟨s0,s1,s2,-,-,-⟩:=own3 (e1.blk bf);go_wp2_with fail;refine(H2.out trivial _ (hx.trans e1)).mono ?_;rintro e w2 ⟨rfl,e2⟩;go_wp2_with fail;go_ret;exact⟨by rw[HF.out];rfl,(hx.trans e1).trans e2⟩
theorem j135{g:Sig}: ∀{ts:List Tr} {d:Int},(∀t∈ts,shape g t d=true)->q24 g ts d=true
 | [],_,_=> rfl
 |t::ts,d,h=> by
  simp only[q24,Bool.and_eq_true];exact⟨h t (by simp),j135 (fun x hx=> h x (by simp[hx]))⟩
theorem j69{g:Sig}{k n:Int}{ks:List Tr}{d:Int}(h1:1<=d)(h2:g.ops k=(ks.length:Int))(h3:0<=n)(h4:n<=g.most k)(h5: ∀t∈ks,shape g t (d - 1)=true):shape g (.mk k n ks) d=true:=by
 simp only[shape,q88,Bool.and_eq_true,decide_eq_true_eq];exact⟨h1,⟨h2,y39.2 ⟨h3,h4⟩⟩,j135 h5⟩
theorem y67{g:Sig}{t:Tr}{d:Int}(h:shape g t d=true):1<=d:=by
 obtain⟨k,n,ks⟩:=t;simp only[shape,Bool.and_eq_true,decide_eq_true_eq] at h;exact h.1
theorem y28{g:Sig}: ∀{t:Tr} {d e:Int},shape g t d=true->d<=e->shape g t e=true:=by
 intro t;refine Tr.ind (P:=fun t=> ∀{d e:Int},shape g t d=true->d<=e->shape g t e=true) (fun k n ks ih=> ?_) t;intro d e h hd;obtain⟨h1,h2,h3,h4⟩:=j12 h;have:=y67 h;exact j69 (by omega) h1 h2 h3 (fun t ht=> ih t ht (h4 t ht) (by omega))
def q16:Tr:= .mk 0 0 []
mutual
def shfT(y:Int):Tr->Int->Tr
 | .mk k n ks,c=> .mk k (if k=1/\c<=n then n+y else n) (j20 y k ks 0 c)
def j20(y:Int):Int->List Tr->Nat->Int->List Tr
 |_, [],_,_=> []
 |k,t::ts,i,c=> shfT y t (c+und k i)::j20 y k ts (i+1) c
end
mutual
def sbsT(u:Tr):Tr->Int->Int->Tr
 | .mk k n ks,x,d=> if k=1/\n=x then shfT d u 0 else .mk k (if k=1/\x < n then n - 1 else n) (q21 u k ks 0 x d)
def q21(u:Tr):Int->List Tr->Nat->Int->Int->List Tr
 |_, [],_,_,_=> []
 |k,t::ts,i,x,d=> sbsT u t (x+und k i) (d+und k i)::q21 u k ts (i+1) x d
end
mutual
def chgT(g:Int->Int->Tr):Tr->Int->Tr
 | .mk k n ks,b=> if k=1 then g n b else .mk k n (y92 g k ks 0 b)
def y92(g:Int->Int->Tr):Int->List Tr->Nat->Int->List Tr
 |_, [],_,_=> []
 |k,t::ts,i,b=> chgT g t (b+und k i)::y92 g k ts (i+1) b
end
mutual
def allT(h:Int->Int->Bool):Tr->Int->Bool
 | .mk k n ks,b=> if k=1 then h n b else j42 h k ks 0 b
def j42(h:Int->Int->Bool):Int->List Tr->Nat->Int->Bool
 |_, [],_,_=> true
 |k,t::ts,i,b=> allT h t (b+und k i)&& j42 h k ts (i+1) b
end
theorem q64(y:Int): ∀(k:Int) (ts:List Tr) (i:Nat) (c:Int),(j20 y k ts i c).length=ts.length
 |_, [],_,_=> rfl
 |k,t::ts,i,c=> by simp[j20,q64 y k ts (i+1) c]
theorem q87(u:Tr): ∀(k:Int) (ts:List Tr) (i:Nat) (x d:Int),(q21 u k ts i x d).length=ts.length
 |_, [],_,_,_=> rfl
 |k,t::ts,i,x,d=> by simp[q21,q87 u k ts (i+1) x d]
mutual
theorem j120(y:Int): ∀(t:Tr) (c:Int),cnt (shfT y t c)=cnt t
 | .mk k n ks,c=> by
  unfold shfT;simp only[cnt,q135 y k ks 0 c]
theorem q135(y:Int): ∀(k:Int) (ts:List Tr) (i:Nat) (c:Int),cnts (j20 y k ts i c)=cnts ts
 |_, [],_,_=> rfl
 |k,t::ts,i,c=> by
  unfold j20;simp only[cnts,j120 y t _,q135 y k ts (i+1) c]
end
mutual
theorem q69{g:Sig}: ∀{t:Tr} {d e:Int},shape g t d=true->d<=e->shape g t e=true
 | .mk k n ks,d,e,h,hd=> by
  simp only[shape,Bool.and_eq_true,decide_eq_true_eq] at h⊢;exact⟨by omega,h.2.1,y105 h.2.2 (by omega)⟩
theorem y105{g:Sig}: ∀{ts:List Tr} {d e:Int},q24 g ts d=true->d<=e->q24 g ts e=true
 | [],_,_,_,_=> rfl
 |t::ts,d,e,h,hd=> by
  simp only[q24,Bool.and_eq_true] at h⊢;exact⟨q69 h.1 hd,y105 h.2 hd⟩
end
theorem y89{n:Int}{ks:List Tr}{d:Int}(h:shape sigT (.mk 1 n ks) d=true):ks= []/\0<=n/\n<=20:=by
 obtain⟨h0,h1,h2,-⟩:=j12 h;have h3:=q102 1;have:(0:Int)=(ks.length:Int):=h0;exact⟨List.eq_nil_of_length_eq_zero (by omega),h1,by omega⟩
def gsh(y c:Int)(n b:Int):Tr:= .mk 1 (if c<=n - b then n+y else n) []
def hsh(y c:Int)(n b:Int):Bool:=if c<=n - b then decide (c<=n+y - b)&& decide (n+y<=20) else true
mutual
theorem j157(y c:Int): ∀(t:Tr) (b d:Int),shape sigT t d=true->chgT (gsh y c) t b=shfT y t (c+b)
 | .mk k n ks,b,d,h=> by
  unfold chgT shfT;by_cases hk:k=1
  · subst hk
    obtain⟨rfl,-,-⟩:=y89 h;rw[if_pos rfl];unfold gsh;by_cases h2:c<=n - b
    · rw[if_pos h2,if_pos ⟨rfl,by omega⟩];rfl
    · rw[if_neg h2,if_neg (by omega)];rfl
  · rw[if_neg hk,if_neg (fun h=> hk h.1),j137 y c k ks 0 b (d - 1) (j12 h).2.2.2]
theorem j137(y c:Int): ∀(k:Int) (ts:List Tr) (i:Nat) (b d:Int),(∀t∈ts,shape sigT t d=true)->y92 (gsh y c) k ts i b=j20 y k ts i (c+b)
 |_, [],_,_,_,_=> rfl
 |k,t::ts,i,b,d,h=> by
  unfold y92 j20;rw[j157 y c t _ d (h t (by simp)),j137 y c k ts (i+1) b d (fun t ht=> h t (by simp[ht])),Int.add_assoc]
end
theorem q164{g:Sig}{k n:Int}{a b:Nat}(h:a=b):q88 g k n a=q88 g k n b:=by rw[h]
mutual
theorem q149(y c:Int)(hy:0<=y): ∀(t:Tr) (b d:Int),shape sigT t d=true->allT (hsh y c) t b=shape sigT (shfT y t (c+b)) d
 | .mk k n ks,b,d,h=> by
  have hh:=h;simp only[shape,Bool.and_eq_true] at hh;unfold allT shfT;by_cases hk:k=1
  · subst hk
    obtain⟨rfl,h0,h1⟩:=y89 h;have hd:=of_decide_eq_true hh.1;rw[if_pos rfl];have hs: ∀x:Int,0<=x->shape sigT (.mk 1 x []) d=decide (x<=20):=fun x hx=> by
     simp only[shape,q24,q88,List.length_nil,Bool.and_true];rw[decide_eq_true hd,decide_eq_true (show sigT.ops 1=((0:Nat):Int) from rfl),Bool.true_and,Bool.true_and]
     show inR x 0 20=_
     unfold inR;rw[decide_eq_true hx,Bool.true_and]
    unfold hsh;by_cases h2:c<=n - b
    · rw[if_pos h2,if_pos ⟨rfl,by omega⟩,show j20 y 1 [] 0 (c+b)= [] from rfl,hs _ (by omega),decide_eq_true (by omega),Bool.true_and]
    · rw[if_neg h2,if_neg (by omega),show j20 y 1 [] 0 (c+b)= [] from rfl,hs _ h0,decide_eq_true h1]
  · rw[if_neg hk,if_neg (fun h=> hk h.1),j129 y c hy k ks 0 b (d - 1) hh.2.2]
    simp only[shape];rw[hh.1,q164 (q64 y k ks 0 (c+b)),hh.2.1]
    rfl
theorem j129(y c:Int)(hy:0<=y): ∀(k:Int) (ts:List Tr) (i:Nat) (b d:Int),q24 sigT ts d=true->j42 (hsh y c) k ts i b=q24 sigT (j20 y k ts i (c+b)) d
 |_, [],_,_,_,_=> rfl
 |k,t::ts,i,b,d,h=> by
  simp only[q24,Bool.and_eq_true] at h;unfold j42 j20;simp only[q24];rw[q149 y c hy t _ d h.1,j129 y c hy k ts (i+1) b d h.2,Int.add_assoc]
end
theorem q202{y c:Int}(hy:0<=y){t:Tr}(h:valid sigT t=true):(allT (hsh y c) t 0 && valid sigT (chgT (gsh y c) t 0))=valid sigT (shfT y t c)/\chgT (gsh y c) t 0=shfT y t c:=by
 obtain⟨h1,h2⟩:=y12 h;have e1:=j157 y c t 0 30 h1;have e2:=q149 y c hy t 0 30 h1;rw[Int.add_zero] at e1 e2;refine⟨?_,e1⟩;rw[e1,e2];unfold valid;cases shape sigT (shfT y t c) 30 <;> simp
def gsb(u:Tr)(x:Int)(n b:Int):Tr:=if n - b=x then(if valid sigT (shfT b u 0)=true then shfT b u 0 else q16) else .mk 1 (if x < n - b then n - 1 else n) []
def hsb(u:Tr)(x:Int)(n b:Int):Bool:=if n - b=x then valid sigT (shfT b u 0) else true
mutual
theorem q150(u:Tr)(x:Int): ∀(t:Tr) (b d:Int),shape sigT t d=true->allT (hsb u x) t b=true->chgT (gsb u x) t b=sbsT u t (x+b) b
 | .mk k n ks,b,d,h,ho=> by
  unfold allT at ho;unfold chgT sbsT;by_cases hk:k=1
  · subst hk
    obtain⟨rfl,-,-⟩:=y89 h;rw[if_pos rfl] at ho⊢;unfold hsb at ho;unfold gsb;by_cases h2:n - b=x
    · rw[if_pos h2] at ho⊢
      rw[if_pos ho,if_pos (show(1:Int)=1/\n=x+b from⟨rfl,by omega⟩)]
    · rw[if_neg h2,if_neg (show¬((1:Int)=1/\n=x+b) from by omega)]
      by_cases h3:x < n - b
      · rw[if_pos h3,if_pos (show(1:Int)=1/\x+b < n from⟨rfl,by omega⟩)];rfl
      · rw[if_neg h3,if_neg (show¬((1:Int)=1/\x+b < n) from by omega)];rfl
  · rw[if_neg hk] at ho⊢
    rw[if_neg (fun h=> hk h.1),if_neg (fun h=> hk h.1),q139 u x k ks 0 b (d - 1) (j12 h).2.2.2 ho]
theorem q139(u:Tr)(x:Int): ∀(k:Int) (ts:List Tr) (i:Nat) (b d:Int),(∀t∈ts,shape sigT t d=true)->j42 (hsb u x) k ts i b=true->y92 (gsb u x) k ts i b=q21 u k ts i (x+b) b
 |_, [],_,_,_,_,_=> rfl
 |k,t::ts,i,b,d,h,ho=> by
  unfold j42 at ho;rw[Bool.and_eq_true] at ho;unfold y92 q21;rw[q150 u x t _ d (h t (by simp)) ho.1,q139 u x k ts (i+1) b d (fun t ht=> h t (by simp[ht])) ho.2,Int.add_assoc]
end
mutual
theorem j140(u:Tr)(x:Int)(hu:cnt u<=400): ∀(t:Tr) (b d:Int),shape sigT t d=true->allT (hsb u x) t b=false-> ∀e:Int,e<=30->shape sigT (sbsT u t (x+b) b) e=false
 | .mk k n ks,b,d,h,ho,e,he=> by
  unfold allT at ho;unfold sbsT;by_cases hk:k=1
  · subst hk
    rw[if_pos rfl] at ho;unfold hsb at ho;by_cases h2:n - b=x
    · rw[if_pos h2] at ho
      rw[if_pos (show(1:Int)=1/\n=x+b from⟨rfl,by omega⟩),Bool.eq_false_iff];intro hs;have h3:=q69 hs he;unfold valid at ho;rw[h3,j120,decide_eq_true hu] at ho;cases ho
    · rw[if_neg h2] at ho
      cases ho
  · rw[if_neg hk] at ho
    rw[if_neg (fun h=> hk h.1)];simp only[shape];rw[j113 u x hu k ks 0 b (d - 1) (j12 h).2.2.2 ho (e - 1) (by omega)];simp
theorem j113(u:Tr)(x:Int)(hu:cnt u<=400): ∀(k:Int) (ts:List Tr) (i:Nat) (b d:Int),(∀t∈ts,shape sigT t d=true)->j42 (hsb u x) k ts i b=false-> ∀e:Int,e<=30->q24 sigT (q21 u k ts i (x+b) b) e=false
 |_, [],_,_,_,_,ho,_,_=> by unfold j42 at ho;cases ho
 |k,t::ts,i,b,d,h,ho,e,he=> by
  unfold j42 at ho;unfold q21;simp only[q24];rw[Bool.and_eq_false_iff] at ho⊢;rw[Int.add_assoc];rcases ho with ho|ho
  · exact .inl (j140 u x hu t _ d (h t (by simp)) ho e he)
  · exact .inr (j113 u x hu k ts (i+1) b d (fun t ht=> h t (by simp[ht])) ho e he)
end
theorem q179{u:Tr}{x:Int}(hu:cnt u<=400){t:Tr}(h:valid sigT t=true):(allT (hsb u x) t 0 && valid sigT (chgT (gsb u x) t 0))=valid sigT (sbsT u t x 0)/\(allT (hsb u x) t 0=true->chgT (gsb u x) t 0=sbsT u t x 0):=by
 obtain⟨h1,h2⟩:=y12 h;have e1:=q150 u x t 0 30 h1;have e2:=j140 u x hu t 0 30 h1;rw[Int.add_zero] at e1 e2;refine⟨?_,e1⟩;cases ha:allT (hsb u x) t 0 with
 |true=> rw[e1 ha,Bool.true_and]
 |false=>
  unfold valid;rw[e2 ha 30 (Int.le_refl _)]
  rfl
theorem Only.grown'{L:List Nat}{a w w':World}{row:Option Nat}(h:Only L a w)(hg:w.grownBy w' row)(hr: ∀k,row=some k->k∈L\/a.heap.size<=k):Only L a w':=
 ⟨hg.os.trans h.os,hg.tape.trans h.tape,hg.output.trans h.output,Nat.le_trans h.size hg.size,fun i hi hn=>(hg.block i (Nat.lt_of_lt_of_le hi h.size) (fun he=> by rcases hr i he.symm with h1|h1;exact hn h1;omega)).trans (h.block i hi hn)⟩
theorem q26{w:World}{base:Nat}{e:TypeId}{v:Value}{ns:List Int}(hG:w.ownsRow base e 1 v ns.length (ns.map (Value.int .i64))): ∃B c,v= .slice B ns.length c/\ns.length<=c/\c<=maxLen/\Nums w B ns:=by
 have Bt:=fun g' Bg=> hG.cells (g:=g') Bg
 rcases hG.2 with⟨rfl,h0⟩ |⟨g',c',cur,rfl,hb',Bg,hn',hm',_⟩
 · obtain rfl:ns= []:=List.eq_nil_of_length_eq_zero h0
   exact⟨none,0,rfl,Nat.le_refl _,Nat.zero_le _,.inl rfl⟩
 · refine⟨_,c',rfl,hn',hm',.inr ⟨g',0,rfl,j10 Bg,fun jj hjj=> ?_⟩⟩
   have:=Bt g' rfl jj (.int .i64 ns[jj]) (by rw[List.getElem?_map,List.getElem?_eq_getElem hjj];rfl)
   rwa [Addr.add_lit] at this
end Go.Proofs.YtbnkbepgmenblaaGreat
