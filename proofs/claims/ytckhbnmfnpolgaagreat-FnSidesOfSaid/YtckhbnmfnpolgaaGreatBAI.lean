/-
  Lemmas towards the law, 9: Fmt, Fvs, Ints, SpExtract, ExShape.
-/
import Derived.Test.YtckhbnmfnpolgaaGreatBAH
import Derived.Laws.Concat
import Derived.Laws.IdiomStrings
open Go renaming World->aK,heap_alloc_new->aR,rounds_succ->cW
open UInt8 renaming ofNat->kP
open Nat renaming zero_mul->cT,add_zero->cQ,one_mul->eY
open List renaming length_append->cL,eq_nil_of_length_eq_zero->aZ
open Bool renaming and_eq_true->aW
open Go.Proofs.Tryz
set_option linter.unusedVariables false
set_option maxHeartbeats 4000000
set_option maxRecDepth 100000
namespace Go.Proofs.YtckhbnmfnpolgaaGreat
open Go.RowKit
theorem Uj(w:aK)(x:Int)(b:UInt8)(c:(b.toNat:Int)=x):(convert 22 9 (.slice (some ⟨w.heap.size,0,none⟩) 1 1)).run prog (w.alloc (.cells #[.int .u8 x] 5))= .ok (.string (S5 [b])) (w.alloc (.cells #[.int .u8 x] 5)):=by
 have:=run_convert_bytes_back (P:=prog) (w.alloc (.cells #[.int .u8 x] 5)) 22 9 5 ⟨w.heap.size,0,none⟩ 1 [b] underlying22 underlying5 underlying9 (fun j a=> by
  have:j=0:=by simpa using a
  subst this;rw[Addr.add_lit,Nat.zero_add,i1 (aR w _)];simp only[List.getElem_cons_zero,c]
  rfl)
 simpa[S5] using this
theorem mD(a:List UInt8):S5 a++({data:=#[]}:ByteArray)=S5 a:=by
 have:=gc a []
 simpa[S5] using this
theorem pt(n:Nat)(h:n < 256):((kP n).toNat:Int)=n:=by
 simp
 omega
theorem VC(n:Nat)(hn:n<=99)(w:aK):Calls prog 199 #[.int .i64 n] w fun e k=> e= .returned (.string (S5 (ec n)))/\Ext w k:=by
 by_cases m:n<=9
 · obtain⟨b,d⟩: ∃b,b=kP (48+n):=⟨_,rfl⟩
   have hc:=Uj w (48+n) b (by rw[d,pt _ (by omega)];omega);have hd:ec n= [b]:=by
    unfold ec;rw[if_pos (by omega),d]
    rfl
   have f:=hdq hd;have i:=hdq (mD [b]);clear hd d;go_enter func199,ntmps199;go_wp2_with fail;refine wp_loop_rounds 1 ?_;rw[cW];go_wp2_with fail;go_ret;exact⟨by rw[f.out,<-i.out];rfl,(xr w).alloc _⟩
 · obtain⟨r,hr⟩: ∃r:Int,r=(n:Int) % 10:=⟨_,rfl⟩
   obtain⟨q,j⟩: ∃q:Int,q=(n:Int) / 10:=⟨_,rfl⟩;have l:0<=r:=by omega
   have s:r<=9:=by omega
   have o:0<=q:=by omega
   have p:q<=9:=by omega
   obtain⟨b,d⟩: ∃b,b=kP (48+n / 10):=⟨_,rfl⟩;obtain⟨c,a⟩: ∃b,b=kP (48+n - n / 10*10):=⟨_,rfl⟩;have hc:=Uj w (48+r) c (by rw[a,pt _ (by omega)];omega);have g:=Uj (w.alloc (.cells #[.int .u8 (48+r)] 5)) (48+q) b (by rw[d,pt _ (by omega)];omega);rw[World.size_alloc] at g;have hd:ec n= [b]++ [c]:=by
    unfold ec;rw[if_neg (by omega),d,a];simp only[List.cons_append,List.nil_append,List.cons.injEq,and_true]
    constructor <;>(congr 1;try omega)
   have f:=hdq hd;have i:=hdq (mD [c]);have t:decide ((9:Int) < q)=false:=decide_eq_false (by omega);clear hd d a;subst hr j;go_enter func199,ntmps199;go_wp2_with fail;refine wp_loop_rounds 2 ?_;rw[cW];go_wp2_with fail;rw[cW];go_wp2_with fail;go_ret;exact⟨by rw[f.out,<-gc,<-i.out];rfl,((xr w).alloc _).alloc _⟩
def gq(t:Tr):Prop:= ∀(w:aK) (v:Value) (d:Int),D0 m0 t d=true->cnt t<=1000->Lies w t v->Calls prog 196 #[v] w fun e a=> e= .returned (.string (S5 (N2 t)))/\Ext w a
theorem Qc{x:List UInt8}{n:Nat}(h:x.length<=n):(S5 x).size<=n:=by rw[Ws];exact h
theorem FD(a:List Tr)(hk: ∀t∈a,gq t)(d:Int)(hsh: ∀t∈a,D0 m0 t d=true)(Y:W1 a<=1000)(w:aK)(A:Option Addr)(cap:Nat)(h:q24 w A a)(hl:a.length<=cap)(hc:cap<=maxLen):
 Calls prog 200 #[.slice A a.length cap] w fun e R=> e= .returned (.string (S5 (K6 [44] a true)))/\Ext w R:=by
 have u:=hc;unfold maxLen at u;have H:=kf a;go_enter func200,ntmps200;go_wp2_with fail
 go_loopw [3,4] (fun o i wr=> ∃(j:Nat) (x:List UInt8),j<=a.length/\i= .int .i64 j/\o= .string (S5 x)/\x++K6 [44] (a.drop j) (decide (j=0))=K6 [44] a true/\x.length+5*W1 (a.drop j)<=5*W1 a/\Ext w wr) (fun _ i _=> a.length -(intOf i).toNat)
 case atStart=> exact⟨0, [],Nat.zero_le _,rfl,rfl,rfl,by simp,xr _⟩
 case round=>
  obtain⟨j,x,T,rfl,rfl,G,c,p⟩:=hrel;have q:=hdq G;clear G;by_cases g:j < a.length
  · obtain⟨b,o,k,n,X,D,kids,rfl,L,M,I,S,U,W,hK,P,s⟩:=h.get p g
    have V:(j:Int) <(a.length:Int):=by omega
    have f:a.drop j= .mk k n kids::a.drop (j+1):=by rw[List.drop_eq_getElem_cons g,L.out]
    have hf:=Of (.mk k n kids);have B:W1 (a.drop j)=cnt (.mk k n kids)+W1 (a.drop (j+1)):=by rw[f];simp only[W1]
    have K:=L9 s;have v:=hdq (hk _ s wr _ d (hsh _ s) (by omega) P);have l:K6 [44] (a.drop j) (decide (j=0))=(if decide (j=0)=true then [] else [44])++N2 (.mk k n kids)++K6 [44] (a.drop (j+1)) false:=by
     rw[f];conv=> lhs;unfold K6
    have r:=hdq l;have Q:x.length<=10000:=by omega
    have hx1:=Qc Q;obtain⟨y,E⟩: ∃y,y=N2 (.mk k n kids):=⟨_,rfl⟩;rw[<-E] at v r hf;have hx2:=Qc (x:=y) (n:=10000) (by omega);have J:=hdq B;have F:=hdq (show x.length+5*(cnt (.mk k n kids)+W1 (a.drop (j+1)))<=5*W1 a from by rw[<-B];exact c);clear f B l E c;rcases Nat.eq_zero_or_pos j with C|C
    · subst C
      have N:decide ((0:Int) <((0:Nat):Int))=false:=by decide
      simp only[cT,cQ] at M I S;go_wp2_with fail;refine v.out.mono ?_;rintro e O ⟨rfl,z⟩;go_wp2_with fail
      go_roundw
      case rel=> exact⟨1,x++y,by omega,rfl,by rw[gc],by rw[<-q.out,r.out];simp,by have:=F.out;rw[Nat.zero_add] at this;simp only[cL];omega,p.trans z⟩
      case measure=> simp[intOf];omega
    · have N:decide ((0:Int) <(j:Int))=true:=decide_eq_true (by omega)
      have m:=hdq (show S5 x++({data:=#[44]}:ByteArray)=S5 (x++ [44]) from gc x [44]);have hx3:(S5 x++({data:=#[44]}:ByteArray)).size<=10001:=by rw[m.out,Ws];simp;omega
      go_wp2_with fail;refine v.out.mono ?_;rintro e O ⟨rfl,z⟩;go_wp2_with fail
      go_roundw
      case rel=> exact⟨j+1,x++ [44]++y,by omega,by go_num,by rw[m.out,gc],by rw[<-q.out,r.out,show decide (j=0)=false from decide_eq_false (by omega),show decide (j+1=0)=false from decide_eq_false (by omega)];simp,by have:=F.out;simp only[cL,List.length_singleton];omega,p.trans z⟩
      case measure=> simp[intOf];omega
  · have hd:=List.drop_of_length_le (show a.length<=j by omega)
    have hx:x=K6 [44] a true:=by rw[<-q.out,hd];simp[K6]
    have m:=hdq hx;clear hd hx;go_wp2_with fail;go_ret;exact⟨by rw[<-m.out];rfl,p⟩
theorem Pn{a:List Tr}{t:Tr}(h:a.length=1)(b:0 < a.length)(e:a[0]=t):a= [t]:=by
 match a,h with
 | [q],_=> rw[<-e];rfl
theorem Rp{a:List Tr}{t u:Tr}(h:a.length=2)(c:0 < a.length)(d:1 < a.length)(e:a[0]=t)(b:a[1]=u):a= [t,u]:=by
 match a,h with
 | [q,r],_=> rw[<-e,<-b];rfl
theorem YF: ∀t:Tr,gq t:=Tr.ind fun k n a hk=> by
 intro w v d hsh C7 b8;obtain⟨A,cap,rfl,hl,hc,hK⟩:=Lies.mk_iff.1 b8;obtain⟨D,M4,P4,s⟩:=Z4 hsh;have D:O0 k=(a.length:Int):=D;have P4:n<=Ja k:=P4;have hlc:=kf a;have hcc:=hc;unfold maxLen at hcc;simp only[cnt] at C7;have hx:Ext w (w.alloc (.cells #[.int .i64 k,.int .i64 n,.slice A a.length cap] 25)):=(xr w).alloc _;have xl:=aR w (.cells #[.int .i64 k,.int .i64 n,.slice A a.length cap] 25);by_cases c8:k=8
 · subst c8
   have I1:a.length=1:=by have:(1:Int)=(a.length:Int):=D;omega
   obtain⟨b,o,H,n0,Q,S,G,rfl,F,L,J,E,G7,G0,M3,Z,u⟩:=hK.get hx (j:=0) (by omega);simp only[cT,cQ] at L J E;obtain⟨t0,p⟩: ∃t0,t0=Tr.mk H n0 G:=⟨_,rfl⟩;have I:a= [t0]:=Pn I1 (by omega) (by rw[p];exact F.out);have R:0 < a.length:=by omega
   have hf:=Of t0;have l:=L9 u;rw[<-p] at l;have i:=hdq (fun W (B:Ext _ W)=> hk _ u W _ (d - 1) (s _ u) (by rw[<-p];omega) (Z.ext B));rw[<-p] at i;have q:(N2 t0).length<=10000:=by omega
   obtain⟨y,g⟩: ∃y,y=N2 t0:=⟨_,rfl⟩;rw[<-g] at i q;have hx1:=Qc q;have hr:N2 (.mk 8 n a)= [43]++y:=by
    rw[I,g];simp[N2,K6,Me,qe]
   have HR:=hdq hr;clear hr I p g F D hf l I1;go_enter func196,ntmps196;go_wp2_with fail;refine(i.out _ (xr _)).mono ?_;rintro e w2 ⟨rfl,r⟩;go_wp2_with fail;go_ret;exact⟨by rw[HR.out,<-gc];rfl,hx.trans r⟩
 by_cases c11:k=11
 · subst c11
   have I1:a.length=1:=by have:(1:Int)=(a.length:Int):=D;omega
   obtain⟨b,o,H,n0,Q,S,G,rfl,F,L,J,E,G7,G0,M3,Z,u⟩:=hK.get hx (j:=0) (by omega);simp only[cT,cQ] at L J E;obtain⟨t0,p⟩: ∃t0,t0=Tr.mk H n0 G:=⟨_,rfl⟩;have I:a= [t0]:=Pn I1 (by omega) (by rw[p];exact F.out);have R:0 < a.length:=by omega
   have hf:=Of t0;have l:=L9 u;rw[<-p] at l;have i:=hdq (fun W (B:Ext _ W)=> hk _ u W _ (d - 1) (s _ u) (by rw[<-p];omega) (Z.ext B));rw[<-p] at i;have q:(N2 t0).length<=10000:=by omega
   obtain⟨y,g⟩: ∃y,y=N2 t0:=⟨_,rfl⟩;rw[<-g] at i q;have hx1:=Qc q;have hr:N2 (.mk 11 n a)= [33]++y:=by
    rw[I,g];simp[N2,K6,Me,qe]
   have HR:=hdq hr;clear hr I p g F D hf l I1;go_enter func196,ntmps196;go_wp2_with fail;refine(i.out _ (xr _)).mono ?_;rintro e w2 ⟨rfl,r⟩;go_wp2_with fail;go_ret;exact⟨by rw[HR.out,<-gc];rfl,hx.trans r⟩
 by_cases c15:k=15
 · subst c15
   have I1:a.length=1:=by have:(1:Int)=(a.length:Int):=D;omega
   obtain⟨b,o,H,n0,Q,S,G,rfl,F,L,J,E,G7,G0,M3,Z,u⟩:=hK.get hx (j:=0) (by omega);simp only[cT,cQ] at L J E;obtain⟨t0,p⟩: ∃t0,t0=Tr.mk H n0 G:=⟨_,rfl⟩;have I:a= [t0]:=Pn I1 (by omega) (by rw[p];exact F.out);have R:0 < a.length:=by omega
   have hf:=Of t0;have l:=L9 u;rw[<-p] at l;have i:=hdq (fun W (B:Ext _ W)=> hk _ u W _ (d - 1) (s _ u) (by rw[<-p];omega) (Z.ext B));rw[<-p] at i;have q:(N2 t0).length<=10000:=by omega
   obtain⟨y,g⟩: ∃y,y=N2 t0:=⟨_,rfl⟩;rw[<-g] at i q;have hx1:=Qc q;have hr:N2 (.mk 15 n a)= [94]++y:=by
    rw[I,g];simp[N2,K6,Me,qe]
   have HR:=hdq hr;clear hr I p g F D hf l I1;go_enter func196,ntmps196;go_wp2_with fail;refine(i.out _ (xr _)).mono ?_;rintro e w2 ⟨rfl,r⟩;go_wp2_with fail;go_ret;exact⟨by rw[HR.out,<-gc];rfl,hx.trans r⟩
 by_cases c16:k=16
 · subst c16
   have I1:a.length=1:=by have:(1:Int)=(a.length:Int):=D;omega
   obtain⟨b,o,H,n0,Q,S,G,rfl,F,L,J,E,G7,G0,M3,Z,u⟩:=hK.get hx (j:=0) (by omega);simp only[cT,cQ] at L J E;obtain⟨t0,p⟩: ∃t0,t0=Tr.mk H n0 G:=⟨_,rfl⟩;have I:a= [t0]:=Pn I1 (by omega) (by rw[p];exact F.out);have R:0 < a.length:=by omega
   have hf:=Of t0;have l:=L9 u;rw[<-p] at l;have i:=hdq (fun W (B:Ext _ W)=> hk _ u W _ (d - 1) (s _ u) (by rw[<-p];omega) (Z.ext B));rw[<-p] at i;have q:(N2 t0).length<=10000:=by omega
   obtain⟨y,g⟩: ∃y,y=N2 t0:=⟨_,rfl⟩;rw[<-g] at i q;have hx1:=Qc q;have hr:N2 (.mk 16 n a)= [95]++y:=by
    rw[I,g];simp[N2,K6,Me,qe]
   have HR:=hdq hr;clear hr I p g F D hf l I1;go_enter func196,ntmps196;go_wp2_with fail;refine(i.out _ (xr _)).mono ?_;rintro e w2 ⟨rfl,r⟩;go_wp2_with fail;go_ret;exact⟨by rw[HR.out,<-gc];rfl,hx.trans r⟩
 by_cases c3:k=3
 · subst c3
   have E7:a.length=2:=by have:(2:Int)=(a.length:Int):=D;omega
   obtain⟨b,o,H,n0,Q,S,G,rfl,F,L,J,E,G7,G0,M3,Z,u⟩:=hK.get hx (j:=0) (by omega);obtain⟨b',o',T,X,A1,C6,j15,wl,D6,Y,V,O,V7,W6,K9,p5,P⟩:=hK.get hx (j:=1) (by omega);cases wl
   simp only[cT,cQ] at L J E;simp only[eY] at Y V O;obtain⟨t0,p⟩: ∃t0,t0=Tr.mk H n0 G:=⟨_,rfl⟩;obtain⟨t1,K⟩: ∃t1,t1=Tr.mk T X j15:=⟨_,rfl⟩;have I:a= [t0,t1]:=Rp E7 (by omega) (by omega) (by rw[p];exact F.out) (by rw[K];exact D6.out);have R:0 < a.length:=by omega
   have Q4:1 < a.length:=by omega
   have hf:=Of t0;have df:=Of t1;have l:=L9 u;have Q8:=L9 P;rw[<-p] at l;rw[<-K] at Q8;have i:=hdq (fun W (B:Ext _ W)=> hk _ u W _ (d - 1) (s _ u) (by rw[<-p];omega) (Z.ext B));have U:=hdq (fun W (B:Ext _ W)=> hk _ P W _ (d - 1) (s _ P) (by rw[<-K];omega) (p5.ext B));rw[<-p] at i;rw[<-K] at U;have q:(N2 t0).length<=10000:=by omega
   have Q9:(N2 t1).length<=10000:=by omega
   obtain⟨y,g⟩: ∃y,y=N2 t0:=⟨_,rfl⟩;obtain⟨z,N⟩: ∃z,z=N2 t1:=⟨_,rfl⟩;rw[<-g] at i q;rw[<-N] at U Q9;have hx1:=Qc q;have hx2:=Qc Q9;have hr:N2 (.mk 3 n a)= [40]++y++ [62]++z++ [41]:=by
    rw[I,g,N];simp[N2,K6,Me,Zg,qe]
   have HR:=hdq hr;have U0:(0:Int) <(a.length:Int):=by omega
   have cm:(1:Int) <(a.length:Int):=by omega
   have P4: ¬(9223372036854775807 < 1+(S5 y).size):=by omega
   have Ck: ¬(9223372036854775807 < 1+(S5 y).size+1):=by omega
   have wo: ¬(9223372036854775807 < 1+(S5 y).size+1+(S5 z).size):=by omega
   have Dk: ¬(9223372036854775807 < 1+(S5 y).size+1+(S5 z).size+1):=by omega
   obtain⟨s0,s1,s2,-,-,-⟩:=own3 xl;clear hr I p g K N F D6 D hf df l Q8 E7;go_enter func196,ntmps196;go_wp2_with fail;generalize World.alloc w _=C at*;have M:=hdq (show∀c,Ext C c->c.cell? ⟨w.heap.size,2,none⟩=some (.slice (some ⟨b,o,none⟩) a.length cap)/\c.cell? ⟨b,o,none⟩=some (.int .i64 H)/\c.cell? ⟨b,o+1,none⟩=some (.int .i64 n0)/\c.cell? ⟨b,o+2,none⟩=some (.slice Q G.length S)/\c.cell? ⟨b,o+3,none⟩=some (.int .i64 T)/\c.cell? ⟨b,o+3+1,none⟩=some (.int .i64 X)/\c.cell? ⟨b,o+3+2,none⟩=some (.slice A1 j15.length C6) from fun c f=>⟨f.cell s2,f.cell L,f.cell J,f.cell E,f.cell Y,f.cell V,f.cell O⟩)
   go_region_held3 (fun c=> c.cell? ⟨w.heap.size,2,none⟩=some (.slice (some ⟨b,o,none⟩) a.length cap)/\c.cell? ⟨b,o,none⟩=some (.int .i64 H)/\c.cell? ⟨b,o+1,none⟩=some (.int .i64 n0)/\c.cell? ⟨b,o+2,none⟩=some (.slice Q G.length S)/\c.cell? ⟨b,o+3,none⟩=some (.int .i64 T)/\c.cell? ⟨b,o+3+1,none⟩=some (.int .i64 X)/\c.cell? ⟨b,o+3+2,none⟩=some (.slice A1 j15.length C6))
    (first|exact M.out _ ((xr C).drew.trans (r.trans e3)) |exact M.out _ ((xr C).drew.trans r) |exact M.out _ (xr C).drew)
    (first|(go_at_call 196;(with_reducible refine(i.out _ (xr C).drew).mono ?_);rintro e w2 ⟨rfl,r⟩) |(go_at_call 196;refine(U.out _ ((xr C).drew.trans r)).mono ?_;rintro e w3 ⟨rfl,e3⟩))
   clear s0 s1 s2 L J E Y V O M;go_wp2_with fail;go_ret;exact⟨by rw[HR.out];simp only[<-gc];rfl,hx.trans ((xr C).drew.trans (r.trans e3))⟩
 by_cases c4:k=4
 · subst c4
   have E7:a.length=2:=by have:(2:Int)=(a.length:Int):=D;omega
   obtain⟨b,o,H,n0,Q,S,G,rfl,F,L,J,E,G7,G0,M3,Z,u⟩:=hK.get hx (j:=0) (by omega);obtain⟨b',o',T,X,A1,C6,j15,wl,D6,Y,V,O,V7,W6,K9,p5,P⟩:=hK.get hx (j:=1) (by omega);cases wl
   simp only[cT,cQ] at L J E;simp only[eY] at Y V O;obtain⟨t0,p⟩: ∃t0,t0=Tr.mk H n0 G:=⟨_,rfl⟩;obtain⟨t1,K⟩: ∃t1,t1=Tr.mk T X j15:=⟨_,rfl⟩;have I:a= [t0,t1]:=Rp E7 (by omega) (by omega) (by rw[p];exact F.out) (by rw[K];exact D6.out);have R:0 < a.length:=by omega
   have Q4:1 < a.length:=by omega
   have hf:=Of t0;have df:=Of t1;have l:=L9 u;have Q8:=L9 P;rw[<-p] at l;rw[<-K] at Q8;have i:=hdq (fun W (B:Ext _ W)=> hk _ u W _ (d - 1) (s _ u) (by rw[<-p];omega) (Z.ext B));have U:=hdq (fun W (B:Ext _ W)=> hk _ P W _ (d - 1) (s _ P) (by rw[<-K];omega) (p5.ext B));rw[<-p] at i;rw[<-K] at U;have q:(N2 t0).length<=10000:=by omega
   have Q9:(N2 t1).length<=10000:=by omega
   obtain⟨y,g⟩: ∃y,y=N2 t0:=⟨_,rfl⟩;obtain⟨z,N⟩: ∃z,z=N2 t1:=⟨_,rfl⟩;rw[<-g] at i q;rw[<-N] at U Q9;have hx1:=Qc q;have hx2:=Qc Q9;have hr:N2 (.mk 4 n a)= [91]++y++ [93]++z:=by
    rw[I,g,N];simp[N2,K6,Me,Zg,qe]
   have HR:=hdq hr;have U0:(0:Int) <(a.length:Int):=by omega
   have cm:(1:Int) <(a.length:Int):=by omega
   have P4: ¬(9223372036854775807 < 1+(S5 y).size):=by omega
   have Ck: ¬(9223372036854775807 < 1+(S5 y).size+1):=by omega
   have wo: ¬(9223372036854775807 < 1+(S5 y).size+1+(S5 z).size):=by omega
   have Dk: ¬(9223372036854775807 < 1+(S5 y).size+1+(S5 z).size+1):=by omega
   obtain⟨s0,s1,s2,-,-,-⟩:=own3 xl;clear hr I p g K N F D6 D hf df l Q8 E7;go_enter func196,ntmps196;go_wp2_with fail;generalize World.alloc w _=C at*;have M:=hdq (show∀c,Ext C c->c.cell? ⟨w.heap.size,2,none⟩=some (.slice (some ⟨b,o,none⟩) a.length cap)/\c.cell? ⟨b,o,none⟩=some (.int .i64 H)/\c.cell? ⟨b,o+1,none⟩=some (.int .i64 n0)/\c.cell? ⟨b,o+2,none⟩=some (.slice Q G.length S)/\c.cell? ⟨b,o+3,none⟩=some (.int .i64 T)/\c.cell? ⟨b,o+3+1,none⟩=some (.int .i64 X)/\c.cell? ⟨b,o+3+2,none⟩=some (.slice A1 j15.length C6) from fun c f=>⟨f.cell s2,f.cell L,f.cell J,f.cell E,f.cell Y,f.cell V,f.cell O⟩)
   go_region_held3 (fun c=> c.cell? ⟨w.heap.size,2,none⟩=some (.slice (some ⟨b,o,none⟩) a.length cap)/\c.cell? ⟨b,o,none⟩=some (.int .i64 H)/\c.cell? ⟨b,o+1,none⟩=some (.int .i64 n0)/\c.cell? ⟨b,o+2,none⟩=some (.slice Q G.length S)/\c.cell? ⟨b,o+3,none⟩=some (.int .i64 T)/\c.cell? ⟨b,o+3+1,none⟩=some (.int .i64 X)/\c.cell? ⟨b,o+3+2,none⟩=some (.slice A1 j15.length C6))
    (first|exact M.out _ ((xr C).drew.trans (r.trans e3)) |exact M.out _ ((xr C).drew.trans r) |exact M.out _ (xr C).drew)
    (first|(go_at_call 196;(with_reducible refine(i.out _ (xr C).drew).mono ?_);rintro e w2 ⟨rfl,r⟩) |(go_at_call 196;refine(U.out _ ((xr C).drew.trans r)).mono ?_;rintro e w3 ⟨rfl,e3⟩))
   clear s0 s1 s2 L J E Y V O M;go_wp2_with fail;go_ret;exact⟨by rw[HR.out];simp only[<-gc];rfl,hx.trans ((xr C).drew.trans (r.trans e3))⟩
 by_cases c5:k=5
 · subst c5
   have E7:a.length=2:=by have:(2:Int)=(a.length:Int):=D;omega
   obtain⟨b,o,H,n0,Q,S,G,rfl,F,L,J,E,G7,G0,M3,Z,u⟩:=hK.get hx (j:=0) (by omega);obtain⟨b',o',T,X,A1,C6,j15,wl,D6,Y,V,O,V7,W6,K9,p5,P⟩:=hK.get hx (j:=1) (by omega);cases wl
   simp only[cT,cQ] at L J E;simp only[eY] at Y V O;obtain⟨t0,p⟩: ∃t0,t0=Tr.mk H n0 G:=⟨_,rfl⟩;obtain⟨t1,K⟩: ∃t1,t1=Tr.mk T X j15:=⟨_,rfl⟩;have I:a= [t0,t1]:=Rp E7 (by omega) (by omega) (by rw[p];exact F.out) (by rw[K];exact D6.out);have R:0 < a.length:=by omega
   have Q4:1 < a.length:=by omega
   have hf:=Of t0;have df:=Of t1;have l:=L9 u;have Q8:=L9 P;rw[<-p] at l;rw[<-K] at Q8;have i:=hdq (fun W (B:Ext _ W)=> hk _ u W _ (d - 1) (s _ u) (by rw[<-p];omega) (Z.ext B));have U:=hdq (fun W (B:Ext _ W)=> hk _ P W _ (d - 1) (s _ P) (by rw[<-K];omega) (p5.ext B));rw[<-p] at i;rw[<-K] at U;have q:(N2 t0).length<=10000:=by omega
   have Q9:(N2 t1).length<=10000:=by omega
   obtain⟨y,g⟩: ∃y,y=N2 t0:=⟨_,rfl⟩;obtain⟨z,N⟩: ∃z,z=N2 t1:=⟨_,rfl⟩;rw[<-g] at i q;rw[<-N] at U Q9;have hx1:=Qc q;have hx2:=Qc Q9;have hr:N2 (.mk 5 n a)= [40]++y++ [32]++z++ [41]:=by
    rw[I,g,N];simp[N2,K6,Me,Zg,qe]
   have HR:=hdq hr;have U0:(0:Int) <(a.length:Int):=by omega
   have cm:(1:Int) <(a.length:Int):=by omega
   have P4: ¬(9223372036854775807 < 1+(S5 y).size):=by omega
   have Ck: ¬(9223372036854775807 < 1+(S5 y).size+1):=by omega
   have wo: ¬(9223372036854775807 < 1+(S5 y).size+1+(S5 z).size):=by omega
   have Dk: ¬(9223372036854775807 < 1+(S5 y).size+1+(S5 z).size+1):=by omega
   obtain⟨s0,s1,s2,-,-,-⟩:=own3 xl;clear hr I p g K N F D6 D hf df l Q8 E7;go_enter func196,ntmps196;go_wp2_with fail;generalize World.alloc w _=C at*;have M:=hdq (show∀c,Ext C c->c.cell? ⟨w.heap.size,2,none⟩=some (.slice (some ⟨b,o,none⟩) a.length cap)/\c.cell? ⟨b,o,none⟩=some (.int .i64 H)/\c.cell? ⟨b,o+1,none⟩=some (.int .i64 n0)/\c.cell? ⟨b,o+2,none⟩=some (.slice Q G.length S)/\c.cell? ⟨b,o+3,none⟩=some (.int .i64 T)/\c.cell? ⟨b,o+3+1,none⟩=some (.int .i64 X)/\c.cell? ⟨b,o+3+2,none⟩=some (.slice A1 j15.length C6) from fun c f=>⟨f.cell s2,f.cell L,f.cell J,f.cell E,f.cell Y,f.cell V,f.cell O⟩)
   go_region_held3 (fun c=> c.cell? ⟨w.heap.size,2,none⟩=some (.slice (some ⟨b,o,none⟩) a.length cap)/\c.cell? ⟨b,o,none⟩=some (.int .i64 H)/\c.cell? ⟨b,o+1,none⟩=some (.int .i64 n0)/\c.cell? ⟨b,o+2,none⟩=some (.slice Q G.length S)/\c.cell? ⟨b,o+3,none⟩=some (.int .i64 T)/\c.cell? ⟨b,o+3+1,none⟩=some (.int .i64 X)/\c.cell? ⟨b,o+3+2,none⟩=some (.slice A1 j15.length C6))
    (first|exact M.out _ ((xr C).drew.trans (r.trans e3)) |exact M.out _ ((xr C).drew.trans r) |exact M.out _ (xr C).drew)
    (first|(go_at_call 196;(with_reducible refine(i.out _ (xr C).drew).mono ?_);rintro e w2 ⟨rfl,r⟩) |(go_at_call 196;refine(U.out _ ((xr C).drew.trans r)).mono ?_;rintro e w3 ⟨rfl,e3⟩))
   clear s0 s1 s2 L J E Y V O M;go_wp2_with fail;go_ret;exact⟨by rw[HR.out];simp only[<-gc];rfl,hx.trans ((xr C).drew.trans (r.trans e3))⟩
 by_cases c13:k=13
 · subst c13
   have E7:a.length=2:=by have:(2:Int)=(a.length:Int):=D;omega
   obtain⟨b,o,H,n0,Q,S,G,rfl,F,L,J,E,G7,G0,M3,Z,u⟩:=hK.get hx (j:=0) (by omega);obtain⟨b',o',T,X,A1,C6,j15,wl,D6,Y,V,O,V7,W6,K9,p5,P⟩:=hK.get hx (j:=1) (by omega);cases wl
   simp only[cT,cQ] at L J E;simp only[eY] at Y V O;obtain⟨t0,p⟩: ∃t0,t0=Tr.mk H n0 G:=⟨_,rfl⟩;obtain⟨t1,K⟩: ∃t1,t1=Tr.mk T X j15:=⟨_,rfl⟩;have I:a= [t0,t1]:=Rp E7 (by omega) (by omega) (by rw[p];exact F.out) (by rw[K];exact D6.out);have R:0 < a.length:=by omega
   have Q4:1 < a.length:=by omega
   have hf:=Of t0;have df:=Of t1;have l:=L9 u;have Q8:=L9 P;rw[<-p] at l;rw[<-K] at Q8;have i:=hdq (fun W (B:Ext _ W)=> hk _ u W _ (d - 1) (s _ u) (by rw[<-p];omega) (Z.ext B));have U:=hdq (fun W (B:Ext _ W)=> hk _ P W _ (d - 1) (s _ P) (by rw[<-K];omega) (p5.ext B));rw[<-p] at i;rw[<-K] at U;have q:(N2 t0).length<=10000:=by omega
   have Q9:(N2 t1).length<=10000:=by omega
   obtain⟨y,g⟩: ∃y,y=N2 t0:=⟨_,rfl⟩;obtain⟨z,N⟩: ∃z,z=N2 t1:=⟨_,rfl⟩;rw[<-g] at i q;rw[<-N] at U Q9;have hx1:=Qc q;have hx2:=Qc Q9;have hr:N2 (.mk 13 n a)= [40]++y++ [42]++z++ [41]:=by
    rw[I,g,N];simp[N2,K6,Me,Zg,qe]
   have HR:=hdq hr;have U0:(0:Int) <(a.length:Int):=by omega
   have cm:(1:Int) <(a.length:Int):=by omega
   have P4: ¬(9223372036854775807 < 1+(S5 y).size):=by omega
   have Ck: ¬(9223372036854775807 < 1+(S5 y).size+1):=by omega
   have wo: ¬(9223372036854775807 < 1+(S5 y).size+1+(S5 z).size):=by omega
   have Dk: ¬(9223372036854775807 < 1+(S5 y).size+1+(S5 z).size+1):=by omega
   obtain⟨s0,s1,s2,-,-,-⟩:=own3 xl;clear hr I p g K N F D6 D hf df l Q8 E7;go_enter func196,ntmps196;go_wp2_with fail;generalize World.alloc w _=C at*;have M:=hdq (show∀c,Ext C c->c.cell? ⟨w.heap.size,2,none⟩=some (.slice (some ⟨b,o,none⟩) a.length cap)/\c.cell? ⟨b,o,none⟩=some (.int .i64 H)/\c.cell? ⟨b,o+1,none⟩=some (.int .i64 n0)/\c.cell? ⟨b,o+2,none⟩=some (.slice Q G.length S)/\c.cell? ⟨b,o+3,none⟩=some (.int .i64 T)/\c.cell? ⟨b,o+3+1,none⟩=some (.int .i64 X)/\c.cell? ⟨b,o+3+2,none⟩=some (.slice A1 j15.length C6) from fun c f=>⟨f.cell s2,f.cell L,f.cell J,f.cell E,f.cell Y,f.cell V,f.cell O⟩)
   go_region_held3 (fun c=> c.cell? ⟨w.heap.size,2,none⟩=some (.slice (some ⟨b,o,none⟩) a.length cap)/\c.cell? ⟨b,o,none⟩=some (.int .i64 H)/\c.cell? ⟨b,o+1,none⟩=some (.int .i64 n0)/\c.cell? ⟨b,o+2,none⟩=some (.slice Q G.length S)/\c.cell? ⟨b,o+3,none⟩=some (.int .i64 T)/\c.cell? ⟨b,o+3+1,none⟩=some (.int .i64 X)/\c.cell? ⟨b,o+3+2,none⟩=some (.slice A1 j15.length C6))
    (first|exact M.out _ ((xr C).drew.trans (r.trans e3)) |exact M.out _ ((xr C).drew.trans r) |exact M.out _ (xr C).drew)
    (first|(go_at_call 196;(with_reducible refine(i.out _ (xr C).drew).mono ?_);rintro e w2 ⟨rfl,r⟩) |(go_at_call 196;refine(U.out _ ((xr C).drew.trans r)).mono ?_;rintro e w3 ⟨rfl,e3⟩))
   clear s0 s1 s2 L J E Y V O M;go_wp2_with fail;go_ret;exact⟨by rw[HR.out];simp only[<-gc];rfl,hx.trans ((xr C).drew.trans (r.trans e3))⟩
 by_cases c9:k=9
 · subst c9
   have hf:=aw [44] (by simp) a true;have i:=hdq (fun W (B:Ext w W)=> FD a hk (d - 1) s (by omega) W A cap (hK.ext B) hl hc);have q:(K6 [44] a true).length<=10000:=by omega
   have hr:N2 (.mk 9 n a)= [60]++K6 [44] a true++ [62]:=by
    simp[N2,Me,Zg,qe]
   obtain⟨y,g⟩: ∃y,y=K6 [44] a true:=⟨_,rfl⟩;rw[<-g] at i q hr;have hx1:=Qc q;have HR:=hdq hr;have px:((⟨#[60]⟩:ByteArray)++S5 y).size<=10002:=by
    have:=Qc (x:= [60]++y) (n:=10002) (by simp;omega)
    rwa [<-gc] at this
   clear hr g D hf;go_enter func196,ntmps196;go_wp2_with fail;refine(i.out _ hx).mono ?_;rintro e w2 ⟨rfl,r⟩;go_wp2_with fail;go_ret;exact⟨by rw[HR.out,<-gc,<-gc];rfl,hx.trans r⟩
 by_cases c10:k=10
 · subst c10
   have hf:=aw [44] (by simp) a true;have i:=hdq (fun W (B:Ext w W)=> FD a hk (d - 1) s (by omega) W A cap (hK.ext B) hl hc);have q:(K6 [44] a true).length<=10000:=by omega
   have hr:N2 (.mk 10 n a)= [123]++K6 [44] a true++ [125]:=by
    simp[N2,Me,Zg,qe]
   obtain⟨y,g⟩: ∃y,y=K6 [44] a true:=⟨_,rfl⟩;rw[<-g] at i q hr;have hx1:=Qc q;have HR:=hdq hr;have px:((⟨#[123]⟩:ByteArray)++S5 y).size<=10002:=by
    have:=Qc (x:= [123]++y) (n:=10002) (by simp;omega)
    rwa [<-gc] at this
   clear hr g D hf;go_enter func196,ntmps196;go_wp2_with fail;refine(i.out _ hx).mono ?_;rintro e w2 ⟨rfl,r⟩;go_wp2_with fail;go_ret;exact⟨by rw[HR.out,<-gc,<-gc];rfl,hx.trans r⟩
 by_cases c14:k=14
 · subst c14
   have hf:=aw [44] (by simp) a true;have i:=hdq (fun W (B:Ext w W)=> FD a hk (d - 1) s (by omega) W A cap (hK.ext B) hl hc);have q:(K6 [44] a true).length<=10000:=by omega
   have hr:N2 (.mk 14 n a)= [124]++K6 [44] a true++ [124]:=by
    simp[N2,Me,Zg,qe]
   obtain⟨y,g⟩: ∃y,y=K6 [44] a true:=⟨_,rfl⟩;rw[<-g] at i q hr;have hx1:=Qc q;have HR:=hdq hr;have px:((⟨#[124]⟩:ByteArray)++S5 y).size<=10002:=by
    have:=Qc (x:= [124]++y) (n:=10002) (by simp;omega)
    rwa [<-gc] at this
   clear hr g D hf;go_enter func196,ntmps196;go_wp2_with fail;refine(i.out _ hx).mono ?_;rintro e w2 ⟨rfl,r⟩;go_wp2_with fail;go_ret;exact⟨by rw[HR.out,<-gc,<-gc];rfl,hx.trans r⟩
 by_cases c12:k=12
 · subst c12
   have hf:=aw [44] (by simp) a true;have i:=hdq (fun W (B:Ext w W)=> FD a hk (d - 1) s (by omega) W A cap (hK.ext B) hl hc);have q:(K6 [44] a true).length<=10000:=by omega
   have hr:N2 (.mk 12 n a)= [64,60]++K6 [44] a true++ [62]:=by
    simp[N2,Me,Zg,qe]
   obtain⟨y,g⟩: ∃y,y=K6 [44] a true:=⟨_,rfl⟩;rw[<-g] at i q hr;have hx1:=Qc q;have HR:=hdq hr;have px:((⟨#[64,60]⟩:ByteArray)++S5 y).size<=10002:=by
    have:=Qc (x:= [64,60]++y) (n:=10002) (by simp;omega)
    rwa [<-gc] at this
   clear hr g D hf;go_enter func196,ntmps196;go_wp2_with fail;refine(i.out _ hx).mono ?_;rintro e w2 ⟨rfl,r⟩;go_wp2_with fail;go_ret;exact⟨by rw[HR.out,<-gc,<-gc];rfl,hx.trans r⟩
 by_cases c6:k=6
 · subst c6
   have au:a= []:=aZ (by have:(0:Int)=(a.length:Int):=D;omega);have hr:N2 (.mk 6 n a)= [78]:=by
    rw[au];simp[N2,K6,Me,qe]
   have HR:=hdq hr;clear hr D au;go_enter func196,ntmps196;go_wp2_with fail;go_ret;exact⟨by rw[HR.out];rfl,hx⟩
 by_cases c7:k=7
 · subst c7
   have au:a= []:=aZ (by have:(0:Int)=(a.length:Int):=D;omega);have hr:N2 (.mk 7 n a)= [48]:=by
    rw[au];simp[N2,K6,Me,qe]
   have HR:=hdq hr;clear hr D au;go_enter func196,ntmps196;go_wp2_with fail;go_ret;exact⟨by rw[HR.out];rfl,hx⟩
 by_cases c1:k=1
 · subst c1
   obtain⟨m,rfl⟩: ∃m:Nat,n=m:=⟨n.toNat,by omega⟩;have hm:(m:Int)<=20:=P4;have i:=hdq (fun W=> VC m (by omega) W);have hr:N2 (.mk 1 m a)= [35]++ec m:=by
    simp[N2]
   have q:=Vv m;obtain⟨y,g⟩: ∃y,y=ec m:=⟨_,rfl⟩;rw[<-g] at i q hr;have hx1:=Qc q;have HR:=hdq hr;clear hr D g;go_enter func196,ntmps196;go_wp2_with fail;refine(i.out _).mono ?_;rintro e w2 ⟨rfl,r⟩;go_wp2_with fail;go_ret;exact⟨by rw[HR.out,<-gc];rfl,hx.trans r⟩
 by_cases c2:k=2
 · subst c2
   obtain⟨m,rfl⟩: ∃m:Nat,n=m:=⟨n.toNat,by omega⟩;have hm:(m:Int)<=3:=P4;have i:=hdq (fun W=> VC m (by omega) W);have hr:N2 (.mk 2 m a)= [42]++ec m:=by
    simp[N2]
   have q:=Vv m;obtain⟨y,g⟩: ∃y,y=ec m:=⟨_,rfl⟩;rw[<-g] at i q hr;have hx1:=Qc q;have HR:=hdq hr;clear hr D g;go_enter func196,ntmps196;go_wp2_with fail;refine(i.out _).mono ?_;rintro e w2 ⟨rfl,r⟩;go_wp2_with fail;go_ret;exact⟨by rw[HR.out,<-gc];rfl,hx.trans r⟩
 exfalso
 have wy:0<=O0 k:=by omega
 unfold O0 at wy
 repeat rw[if_neg (by omega)] at wy
 omega
theorem vH(t:Tr)(w:aK)(v:Value)(f:Lies w t v):Calls prog 177 #[v] w fun e o=> e= .returned (.string (S5 (vf t)))/\Ext w o:=by
 have c:=hdq (fun W (d:Ext w W)=> oi t W v (f.ext d));have g:=hdq (fun(hv:j0 m0 t=true) W (d:Ext w W)=> YF t W v 30 (Z3 hv).1 (by have:=(Z3 hv).2;omega) (f.ext d));have hf:vf t=if j0 m0 t=true then N2 t else []:=rfl
 obtain⟨b,i⟩: ∃b,b=j0 m0 t:=⟨_,rfl⟩;rw[<-i] at c g hf;have j:=hdq hf;clear i hf;obtain⟨k,n,l⟩:=t;obtain⟨A,cap,rfl,hl,hc,hK⟩:=Lies.mk_iff.1 f;have hx:Ext w (w.alloc (.cells #[.int .i64 k,.int .i64 n,.slice A l.length cap] 25)):=(xr w).alloc _;have q:=aR w (.cells #[.int .i64 k,.int .i64 n,.slice A l.length cap] 25);cases b with
 |false=>
  go_enter func177,ntmps177;go_wp2_with fail;refine(c.out _ hx).mono ?_;rintro e m ⟨rfl,a⟩;go_wp2_with fail;go_ret;exact⟨by rw[j.out];rfl,hx.trans a⟩
 |true=>
  go_enter func177,ntmps177;go_wp2_with fail;refine(c.out _ hx).mono ?_;rintro e m ⟨rfl,a⟩;obtain⟨r,s,x,-,-,-⟩:=own3 (a.blk q);go_wp2_with fail;refine(g.out trivial _ (hx.trans a)).mono ?_;rintro e u ⟨rfl,p⟩;go_wp2_with fail;go_ret;exact⟨by rw[j.out];rfl,(hx.trans a).trans p⟩
theorem Bk(k:Int):m0.most k<=20:=by
 show Ja k<=20
 unfold Ja
 split
 · omega
 · split <;> omega
def tl(w:aK)(e:TypeId)(A:Option Addr)(ns:List Int)(L:List Nat):Prop:=
 (ns= []/\L= [])\/ ∃b cs,A=some ⟨b,0,none⟩/\w.heap[b]? =some (.cells cs e (0,0))/\ns.length<=cs.size/\cs.toList.take ns.length=ns.map (Value.int .i64)/\L= [b]
theorem tl.mono{w w':aK}{e:TypeId}{A:Option Addr}{ns:List Int}{L:List Nat}(h:tl w e A ns L)(d: ∀b,b∈L->w'.heap[b]? =w.heap[b]?):tl w' e A ns L:=by
 rcases h with h|⟨b,cs,rfl,c,a,f,rfl⟩
 · exact .inl h
 · exact .inr ⟨b,cs,rfl,(d b (by simp)).trans c,a,f,rfl⟩
theorem dj.own{W w:aK}{e:TypeId}{v:Value}{ns:List Int}(h:dj W w e v ns): ∃A cap L,v= .slice A ns.length cap/\ns.length<=cap/\cap<=maxLen/\tl w e A ns L/\Wc W w L:=by
 rcases h.2 with⟨rfl,f⟩ |⟨g,cap,a,rfl,j,d,hn,hm,i,ht⟩
 · obtain rfl:ns= []:=aZ f
   exact⟨none,0, [],rfl,Nat.le_refl _,Nat.zero_le _,.inl ⟨rfl,rfl⟩,Wc.nil _ _⟩
 · refine⟨_,cap, [g],rfl,hn,hm,.inr ⟨g,a,rfl,d,by omega,by simpa using ht,rfl⟩,by simp,fun b c=> ?_⟩
   obtain rfl:=List.mem_singleton.1 c;exact⟨j,O1 d⟩
theorem InK.two{w:aK}{S:Nat->Prop}{e:TypeId}{t f:Tr}{v0 v1 v2 d c b:Value}{g:Nat}(h:InT w S t (.agg #[v0,v1,v2]))(i:InT w S f (.agg #[d,c,b]))(a:w.heap[g]? =some (.cells #[v0,v1,v2,d,c,b] e (0,0)))(hS:S g):InK w S (some ⟨g,0,none⟩) [t,f]:=by
 refine .inr ⟨g,0,rfl,hS, ?_⟩;unfold O4;refine⟨⟨v0,v1,v2,i1 a 0,i1 a 1,i1 a 2,h⟩, ?_⟩;unfold O4;refine⟨⟨d,c,b,i1 a 3,i1 a 4,i1 a 5,i⟩, ?_⟩;unfold O4
 trivial
theorem InT.three{w:aK}{S:Nat->Prop}{t:Tr}{u:Value}(h:InT w S t u): ∃k n A l c,u= .agg #[.int .i64 k,.int .i64 n,.slice A l c]:=by
 obtain⟨k,n,a⟩:=t;obtain⟨A,cap,rfl,_⟩:=InT.mk_iff.1 h;exact⟨k,n,A,_,cap,rfl⟩
theorem JA{g:Oc}: ∀{ts:List Tr} {d:Int},(∀t∈ts,D0 g t d=true)->m9 g ts d=true
 | [],_,_=> rfl
 |t::ts,d,h=> by
  simp only[m9,aW];exact⟨h t (by simp),JA (fun x hx=> h x (by simp[hx]))⟩
theorem PE{g:Oc}{k n:Int}{a:List Tr}{d:Int}(c:1<=d)(f:g.ops k=(a.length:Int))(i:0<=n)(b:n<=g.most k)(e: ∀t∈a,D0 g t (d - 1)=true):D0 g (.mk k n a) d=true:=by
 simp only[D0,li,aW,decide_eq_true_eq];exact⟨c,⟨f,Yf.2 ⟨i,b⟩⟩,JA e⟩
theorem QE{g:Oc}{t:Tr}{d:Int}(h:D0 g t d=true):1<=d:=by
 obtain⟨k,n,a⟩:=t;simp only[D0,aW,decide_eq_true_eq] at h;exact h.1
theorem If{g:Oc}: ∀{t:Tr} {d e:Int},D0 g t d=true->d<=e->D0 g t e=true:=by
 intro t;refine Tr.ind (P:=fun t=> ∀{d e:Int},D0 g t d=true->d<=e->D0 g t e=true) (fun k n i ih=> ?_) t;intro d e h hd;obtain⟨b,c,f,a⟩:=Z4 h;have:=QE h;exact PE (by omega) b c f (fun t ht=> ih t ht (a t ht) (by omega))
