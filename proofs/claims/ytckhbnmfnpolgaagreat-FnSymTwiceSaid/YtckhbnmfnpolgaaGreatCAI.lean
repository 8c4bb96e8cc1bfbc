/-
  Lemmas towards the law, 9: Fmt, Fvs, Ints, SpExtract, ExShape.
-/
import Derived.Test.YtckhbnmfnpolgaaGreatC00
import Derived.Test.YtckhbnmfnpolgaaGreatCAH
import Derived.Laws.Concat
import Derived.Laws.IdiomStrings
open Go renaming World->aL,heap_alloc_new->aS,rounds_succ->dO
open UInt8 renaming ofNat->kZ
open Nat renaming zero_mul->cW,add_zero->cU,one_mul->fP
open List renaming length_append->cR,eq_nil_of_length_eq_zero->bO
open Bool renaming and_eq_true->aW
open Go.Proofs.Tryz
set_option linter.all false
set_option maxHeartbeats 4000000
set_option maxRecDepth 100000
namespace Go.Proofs.YtckhbnmfnpolgaaGreat
open Go.RowKit
theorem qk(w:aL)(x:Int)(b:UInt8)(c:(b.toNat:Int)=x):(convert 22 9 (.slice (some ⟨w.heap.size,0,none⟩) 1 1)).run prog (w.alloc (.cells #[.int .u8 x] 5))= .ok (.string (G5 [b])) (w.alloc (.cells #[.int .u8 x] 5)):=by
 have:=run_convert_bytes_back (P:=prog) (w.alloc (.cells #[.int .u8 x] 5)) 22 9 5 ⟨w.heap.size,0,none⟩ 1 [b] underlying22 underlying5 underlying9 (fun j a=> by
  have:j=0:=by simpa using a
  subst this;rw[Addr.add_lit,Nat.zero_add,U1 (aS w _)];simp only[List.getElem_cons_zero,c]
  rfl)
 simpa[G5] using this
theorem OB(a:List UInt8):G5 a++({data:=#[]}:ByteArray)=G5 a:=by
 have:=pc a []
 simpa[G5] using this
theorem Tu(n:Nat)(h:n < 256):((kZ n).toNat:Int)=n:=by
 simp
 omega
theorem qD(n:Nat)(hn:n<=99)(w:aL):Calls prog 199 #[m0 n] w fun e k=> e= .returned (.string (G5 (nc n)))/\Ext w k:=by
 by_cases m:n<=9
 · obtain⟨b,d⟩: ∃b,b=kZ (48+n):=⟨_,rfl⟩
   have hc:=qk w (48+n) b (by rw[d,Tu _ (by omega)];omega);have hd:nc n= [b]:=by
    unfold nc;rw[if_pos (by omega),d]
    rfl
   have g:=hdq hd;have i:=hdq (OB [b]);clear hd d;go_enter func199,ntmps199;go_wp2_with fail;refine wp_loop_rounds 1 ?_;rw[dO];go_wp2_with fail;go_ret;exact⟨by rw[g.out,<-i.out];rfl,(xr w).alloc _⟩
 · obtain⟨r,hr⟩: ∃r:Int,r=(n:Int) % 10:=⟨_,rfl⟩
   obtain⟨q,l⟩: ∃q:Int,q=(n:Int) / 10:=⟨_,rfl⟩;have j:0<=r:=by omega
   have t:r<=9:=by omega
   have s:0<=q:=by omega
   have p:q<=9:=by omega
   obtain⟨b,d⟩: ∃b,b=kZ (48+n / 10):=⟨_,rfl⟩;obtain⟨c,a⟩: ∃b,b=kZ (48+n - n / 10*10):=⟨_,rfl⟩;have hc:=qk w (48+r) c (by rw[a,Tu _ (by omega)];omega);have f:=qk (w.alloc (.cells #[.int .u8 (48+r)] 5)) (48+q) b (by rw[d,Tu _ (by omega)];omega);rw[World.size_alloc] at f;have hd:nc n= [b]++ [c]:=by
    unfold nc;rw[if_neg (by omega),d,a];simp only[List.cons_append,List.nil_append,List.cons.injEq,and_true]
    constructor <;>(congr 1;try omega)
   have g:=hdq hd;have i:=hdq (OB [c]);have o:decide ((9:Int) < q)=false:=decide_eq_false (by omega);clear hd d a;subst hr l;go_enter func199,ntmps199;go_wp2_with fail;refine wp_loop_rounds 2 ?_;rw[dO];go_wp2_with fail;rw[dO];go_wp2_with fail;go_ret;exact⟨by rw[g.out,<-pc,<-i.out];rfl,((xr w).alloc _).alloc _⟩
def pr(t:Tr):Prop:= ∀(w:aL) (v:Value) (d:Int),P0 D0 t d=true->cnt t<=1000->Lies w t v->Calls prog 196 #[v] w fun e a=> e= .returned (.string (G5 (D2 t)))/\Ext w a
theorem Uc{x:List UInt8}{n:Nat}(h:x.length<=n):(G5 x).size<=n:=by rw[jx];exact h
theorem ME(a:List Tr)(hk: ∀t∈a,pr t)(d:Int)(hsh: ∀t∈a,P0 D0 t d=true)(W:W1 a<=1000)(w:aL)(A:Option Addr)(cap:Nat)(h:y22 w A a)(hl:a.length<=cap)(hc:cap<=maxLen):
 Calls prog 200 #[.slice A a.length cap] w fun e L=> e= .returned (.string (G5 (H6 [44] a true)))/\Ext w L:=by
 have q:=hc;unfold maxLen at q;have M:=Lf a;go_enter func200,ntmps200;go_wp2_with fail
 go_loopw [3,4] (fun o i wr=> ∃(j:Nat) (x:List UInt8),j<=a.length/\i= .int .i64 j/\o= .string (G5 x)/\x++H6 [44] (a.drop j) (decide (j=0))=H6 [44] a true/\x.length+5*W1 (a.drop j)<=5*W1 a/\Ext w wr) (fun _ i _=> a.length -(intOf i).toNat)
 case atStart=> exact⟨0, [],Nat.zero_le _,rfl,rfl,rfl,by simp,xr _⟩
 case round=>
  obtain⟨j,x,V,rfl,rfl,E,c,p⟩:=hrel;have s:=hdq E;clear E;by_cases l:j < a.length
  · obtain⟨b,o,k,n,Y,G,kids,rfl,H,O,S,I,T,U,hK,N,v⟩:=h.get p l
    have X:(j:Int) <(a.length:Int):=by omega
    have f:a.drop j= .mk k n kids::a.drop (j+1):=by rw[List.drop_eq_getElem_cons l,H.out]
    have hf:=Sf (.mk k n kids);have z:W1 (a.drop j)=cnt (.mk k n kids)+W1 (a.drop (j+1)):=by rw[f];simp only[W1]
    have Q:=k9 v;have u:=hdq (hk _ v wr _ d (hsh _ v) (by omega) N);have g:H6 [44] (a.drop j) (decide (j=0))=(if decide (j=0)=true then [] else [44])++D2 (.mk k n kids)++H6 [44] (a.drop (j+1)) false:=by
     rw[f];conv=> lhs;unfold H6
    have r:=hdq g;have K:x.length<=10000:=by omega
    have hx1:=Uc K;obtain⟨y,C⟩: ∃y,y=D2 (.mk k n kids):=⟨_,rfl⟩;rw[<-C] at u r hf;have hx2:=Uc (x:=y) (n:=10000) (by omega);have J:=hdq z;have D:=hdq (show x.length+5*(cnt (.mk k n kids)+W1 (a.drop (j+1)))<=5*W1 a from by rw[<-z];exact c);clear f z g C c;rcases Nat.eq_zero_or_pos j with F|F
    · subst F
      have R:decide ((0:Int) <((0:Nat):Int))=false:=by decide
      simp only[cW,cU] at O S I;go_wp2_with fail;refine u.out.mono ?_;rintro e P ⟨rfl,B⟩;go_wp2_with fail
      go_roundw
      case rel=> exact⟨1,x++y,by omega,rfl,by rw[pc],by rw[<-s.out,r.out];simp,by have:=D.out;rw[Nat.zero_add] at this;simp only[cR];omega,p.trans B⟩
      case measure=> simp[intOf];omega
    · have R:decide ((0:Int) <(j:Int))=true:=decide_eq_true (by omega)
      have m:=hdq (show G5 x++({data:=#[44]}:ByteArray)=G5 (x++ [44]) from pc x [44]);have hx3:(G5 x++({data:=#[44]}:ByteArray)).size<=10001:=by rw[m.out,jx];simp;omega
      go_wp2_with fail;refine u.out.mono ?_;rintro e P ⟨rfl,B⟩;go_wp2_with fail
      go_roundw
      case rel=> exact⟨j+1,x++ [44]++y,by omega,by go_num,by rw[m.out,pc],by rw[<-s.out,r.out,show decide (j=0)=false from decide_eq_false (by omega),show decide (j+1=0)=false from decide_eq_false (by omega)];simp,by have:=D.out;simp only[cR,List.length_singleton];omega,p.trans B⟩
      case measure=> simp[intOf];omega
  · have hd:=List.drop_of_length_le (show a.length<=j by omega)
    have hx:x=H6 [44] a true:=by rw[<-s.out,hd];simp[H6]
    have m:=hdq hx;clear hd hx;go_wp2_with fail;go_ret;exact⟨by rw[<-m.out];rfl,p⟩
theorem Qm{a:List Tr}{t:Tr}(h:a.length=1)(b:0 < a.length)(e:a[0]=t):a= [t]:=by
 match a,h with
 | [q],_=> rw[<-e];rfl
theorem yp{a:List Tr}{t u:Tr}(h:a.length=2)(c:0 < a.length)(d:1 < a.length)(e:a[0]=t)(b:a[1]=u):a= [t,u]:=by
 match a,h with
 | [q,r],_=> rw[<-e,<-b];rfl
theorem fF: ∀t:Tr,pr t:=Tr.ind fun k n a hk=> by
 intro w v d hsh C0 b8;obtain⟨A,cap,rfl,hl,hc,hK⟩:=Lies.mk_iff.1 b8;obtain⟨D,N7,Q8,s⟩:=Z4 hsh;have D:U0 k=(a.length:Int):=D;have Q8:n<=Ma k:=Q8;have hlc:=Lf a;have hcc:=hc;unfold maxLen at hcc;simp only[cnt] at C0;have hx:Ext w (w.alloc (H0 k n A a.length cap)):=(xr w).alloc _;have yi:=aS w (H0 k n A a.length cap);by_cases c8:k=8
 · subst c8
   have I9:a.length=1:=by have:(1:Int)=(a.length:Int):=D;omega
   obtain⟨b,o,K,n0,Z,Y,J,rfl,H,I,L,E,I5,I3,M9,V,C⟩:=hK.get hx (j:=0) (by omega);simp only[cW,cU] at I L E;obtain⟨t0,l⟩: ∃t0,t0=Tr.mk K n0 J:=⟨_,rfl⟩;have G:a= [t0]:=Qm I9 (by omega) (by rw[l];exact H.out);have U:0 < a.length:=by omega
   have hf:=Sf t0;have p:=k9 C;rw[<-l] at p;have g:=hdq (fun W (u:Ext _ W)=> hk _ C W _ (d - 1) (s _ C) (by rw[<-l];omega) (V.ext u));rw[<-l] at g;have q:(D2 t0).length<=10000:=by omega
   obtain⟨y,i⟩: ∃y,y=D2 t0:=⟨_,rfl⟩;rw[<-i] at g q;have hx1:=Uc q;have hr:D2 (.mk 8 n a)= [43]++y:=by
    rw[G,i];simp[D2,H6,Ce,Pe]
   have HR:=hdq hr;clear hr G l i H D hf p I9;go_enter func196,ntmps196;go_wp2_with fail;refine(g.out _ (xr _)).mono ?_;rintro e w2 ⟨rfl,r⟩;go_wp2_with fail;go_ret;exact⟨by rw[HR.out,<-pc];rfl,hx.trans r⟩
 by_cases c11:k=11
 · subst c11
   have I9:a.length=1:=by have:(1:Int)=(a.length:Int):=D;omega
   obtain⟨b,o,K,n0,Z,Y,J,rfl,H,I,L,E,I5,I3,M9,V,C⟩:=hK.get hx (j:=0) (by omega);simp only[cW,cU] at I L E;obtain⟨t0,l⟩: ∃t0,t0=Tr.mk K n0 J:=⟨_,rfl⟩;have G:a= [t0]:=Qm I9 (by omega) (by rw[l];exact H.out);have U:0 < a.length:=by omega
   have hf:=Sf t0;have p:=k9 C;rw[<-l] at p;have g:=hdq (fun W (u:Ext _ W)=> hk _ C W _ (d - 1) (s _ C) (by rw[<-l];omega) (V.ext u));rw[<-l] at g;have q:(D2 t0).length<=10000:=by omega
   obtain⟨y,i⟩: ∃y,y=D2 t0:=⟨_,rfl⟩;rw[<-i] at g q;have hx1:=Uc q;have hr:D2 (.mk 11 n a)= [33]++y:=by
    rw[G,i];simp[D2,H6,Ce,Pe]
   have HR:=hdq hr;clear hr G l i H D hf p I9;go_enter func196,ntmps196;go_wp2_with fail;refine(g.out _ (xr _)).mono ?_;rintro e w2 ⟨rfl,r⟩;go_wp2_with fail;go_ret;exact⟨by rw[HR.out,<-pc];rfl,hx.trans r⟩
 by_cases c15:k=15
 · subst c15
   have I9:a.length=1:=by have:(1:Int)=(a.length:Int):=D;omega
   obtain⟨b,o,K,n0,Z,Y,J,rfl,H,I,L,E,I5,I3,M9,V,C⟩:=hK.get hx (j:=0) (by omega);simp only[cW,cU] at I L E;obtain⟨t0,l⟩: ∃t0,t0=Tr.mk K n0 J:=⟨_,rfl⟩;have G:a= [t0]:=Qm I9 (by omega) (by rw[l];exact H.out);have U:0 < a.length:=by omega
   have hf:=Sf t0;have p:=k9 C;rw[<-l] at p;have g:=hdq (fun W (u:Ext _ W)=> hk _ C W _ (d - 1) (s _ C) (by rw[<-l];omega) (V.ext u));rw[<-l] at g;have q:(D2 t0).length<=10000:=by omega
   obtain⟨y,i⟩: ∃y,y=D2 t0:=⟨_,rfl⟩;rw[<-i] at g q;have hx1:=Uc q;have hr:D2 (.mk 15 n a)= [94]++y:=by
    rw[G,i];simp[D2,H6,Ce,Pe]
   have HR:=hdq hr;clear hr G l i H D hf p I9;go_enter func196,ntmps196;go_wp2_with fail;refine(g.out _ (xr _)).mono ?_;rintro e w2 ⟨rfl,r⟩;go_wp2_with fail;go_ret;exact⟨by rw[HR.out,<-pc];rfl,hx.trans r⟩
 by_cases c16:k=16
 · subst c16
   have I9:a.length=1:=by have:(1:Int)=(a.length:Int):=D;omega
   obtain⟨b,o,K,n0,Z,Y,J,rfl,H,I,L,E,I5,I3,M9,V,C⟩:=hK.get hx (j:=0) (by omega);simp only[cW,cU] at I L E;obtain⟨t0,l⟩: ∃t0,t0=Tr.mk K n0 J:=⟨_,rfl⟩;have G:a= [t0]:=Qm I9 (by omega) (by rw[l];exact H.out);have U:0 < a.length:=by omega
   have hf:=Sf t0;have p:=k9 C;rw[<-l] at p;have g:=hdq (fun W (u:Ext _ W)=> hk _ C W _ (d - 1) (s _ C) (by rw[<-l];omega) (V.ext u));rw[<-l] at g;have q:(D2 t0).length<=10000:=by omega
   obtain⟨y,i⟩: ∃y,y=D2 t0:=⟨_,rfl⟩;rw[<-i] at g q;have hx1:=Uc q;have hr:D2 (.mk 16 n a)= [95]++y:=by
    rw[G,i];simp[D2,H6,Ce,Pe]
   have HR:=hdq hr;clear hr G l i H D hf p I9;go_enter func196,ntmps196;go_wp2_with fail;refine(g.out _ (xr _)).mono ?_;rintro e w2 ⟨rfl,r⟩;go_wp2_with fail;go_ret;exact⟨by rw[HR.out,<-pc];rfl,hx.trans r⟩
 by_cases c3:k=3
 · subst c3
   have E9:a.length=2:=by have:(2:Int)=(a.length:Int):=D;omega
   obtain⟨b,o,K,n0,Z,Y,J,rfl,H,I,L,E,I5,I3,M9,V,C⟩:=hK.get hx (j:=0) (by omega);obtain⟨b',o',R,Q,A1,C9,q16,wz,E6,P,S,X,Z7,Y4,M6,p5,T⟩:=hK.get hx (j:=1) (by omega);cases wz
   simp only[cW,cU] at I L E;simp only[fP] at P S X;obtain⟨t0,l⟩: ∃t0,t0=Tr.mk K n0 J:=⟨_,rfl⟩;obtain⟨t1,F⟩: ∃t1,t1=Tr.mk R Q q16:=⟨_,rfl⟩;have G:a= [t0,t1]:=yp E9 (by omega) (by omega) (by rw[l];exact H.out) (by rw[F];exact E6.out);have U:0 < a.length:=by omega
   have S6:1 < a.length:=by omega
   have hf:=Sf t0;have gi:=Sf t1;have p:=k9 C;have U2:=k9 T;rw[<-l] at p;rw[<-F] at U2;have g:=hdq (fun W (u:Ext _ W)=> hk _ C W _ (d - 1) (s _ C) (by rw[<-l];omega) (V.ext u));have N:=hdq (fun W (u:Ext _ W)=> hk _ T W _ (d - 1) (s _ T) (by rw[<-F];omega) (p5.ext u));rw[<-l] at g;rw[<-F] at N;have q:(D2 t0).length<=10000:=by omega
   have V5:(D2 t1).length<=10000:=by omega
   obtain⟨y,i⟩: ∃y,y=D2 t0:=⟨_,rfl⟩;obtain⟨z,O⟩: ∃z,z=D2 t1:=⟨_,rfl⟩;rw[<-i] at g q;rw[<-O] at N V5;have hx1:=Uc q;have hx2:=Uc V5;have hr:D2 (.mk 3 n a)= [40]++y++ [62]++z++ [41]:=by
    rw[G,i,O];simp[D2,H6,Ce,vi,Pe]
   have HR:=hdq hr;have V8:(0:Int) <(a.length:Int):=by omega
   have fw:(1:Int) <(a.length:Int):=by omega
   have Q8: ¬(9223372036854775807 < 1+(G5 y).size):=by omega
   have Fq: ¬(9223372036854775807 < 1+(G5 y).size+1):=by omega
   have yu: ¬(9223372036854775807 < 1+(G5 y).size+1+(G5 z).size):=by omega
   have rz: ¬(9223372036854775807 < 1+(G5 y).size+1+(G5 z).size+1):=by omega
   obtain⟨s0,s1,s2,-,-,-⟩:=own3 yi;clear hr G l i F O H E6 D hf gi p U2 E9;go_enter func196,ntmps196;go_wp2_with fail;generalize World.alloc w _=B at*;have M:=hdq (show∀c,Ext B c->c.cell? ⟨w.heap.size,2,none⟩=some (.slice (some ⟨b,o,none⟩) a.length cap)/\c.cell? ⟨b,o,none⟩=some (m0 K)/\c.cell? ⟨b,o+1,none⟩=some (m0 n0)/\c.cell? ⟨b,o+2,none⟩=some (.slice Z J.length Y)/\c.cell? ⟨b,o+3,none⟩=some (m0 R)/\c.cell? ⟨b,o+3+1,none⟩=some (m0 Q)/\c.cell? ⟨b,o+3+2,none⟩=some (.slice A1 q16.length C9) from fun c f=>⟨f.cell s2,f.cell I,f.cell L,f.cell E,f.cell P,f.cell S,f.cell X⟩)
   go_region_held3 (fun c=> c.cell? ⟨w.heap.size,2,none⟩=some (.slice (some ⟨b,o,none⟩) a.length cap)/\c.cell? ⟨b,o,none⟩=some (m0 K)/\c.cell? ⟨b,o+1,none⟩=some (m0 n0)/\c.cell? ⟨b,o+2,none⟩=some (.slice Z J.length Y)/\c.cell? ⟨b,o+3,none⟩=some (m0 R)/\c.cell? ⟨b,o+3+1,none⟩=some (m0 Q)/\c.cell? ⟨b,o+3+2,none⟩=some (.slice A1 q16.length C9))
    (first|exact M.out _ ((xr B).drew.trans (r.trans e3)) |exact M.out _ ((xr B).drew.trans r) |exact M.out _ (xr B).drew)
    (first|(go_at_call 196;(with_reducible refine(g.out _ (xr B).drew).mono ?_);rintro e w2 ⟨rfl,r⟩) |(go_at_call 196;refine(N.out _ ((xr B).drew.trans r)).mono ?_;rintro e w3 ⟨rfl,e3⟩))
   clear s0 s1 s2 I L E P S X M;go_wp2_with fail;go_ret;exact⟨by rw[HR.out];simp only[<-pc];rfl,hx.trans ((xr B).drew.trans (r.trans e3))⟩
 by_cases c4:k=4
 · subst c4
   have E9:a.length=2:=by have:(2:Int)=(a.length:Int):=D;omega
   obtain⟨b,o,K,n0,Z,Y,J,rfl,H,I,L,E,I5,I3,M9,V,C⟩:=hK.get hx (j:=0) (by omega);obtain⟨b',o',R,Q,A1,C9,q16,wz,E6,P,S,X,Z7,Y4,M6,p5,T⟩:=hK.get hx (j:=1) (by omega);cases wz
   simp only[cW,cU] at I L E;simp only[fP] at P S X;obtain⟨t0,l⟩: ∃t0,t0=Tr.mk K n0 J:=⟨_,rfl⟩;obtain⟨t1,F⟩: ∃t1,t1=Tr.mk R Q q16:=⟨_,rfl⟩;have G:a= [t0,t1]:=yp E9 (by omega) (by omega) (by rw[l];exact H.out) (by rw[F];exact E6.out);have U:0 < a.length:=by omega
   have S6:1 < a.length:=by omega
   have hf:=Sf t0;have gi:=Sf t1;have p:=k9 C;have U2:=k9 T;rw[<-l] at p;rw[<-F] at U2;have g:=hdq (fun W (u:Ext _ W)=> hk _ C W _ (d - 1) (s _ C) (by rw[<-l];omega) (V.ext u));have N:=hdq (fun W (u:Ext _ W)=> hk _ T W _ (d - 1) (s _ T) (by rw[<-F];omega) (p5.ext u));rw[<-l] at g;rw[<-F] at N;have q:(D2 t0).length<=10000:=by omega
   have V5:(D2 t1).length<=10000:=by omega
   obtain⟨y,i⟩: ∃y,y=D2 t0:=⟨_,rfl⟩;obtain⟨z,O⟩: ∃z,z=D2 t1:=⟨_,rfl⟩;rw[<-i] at g q;rw[<-O] at N V5;have hx1:=Uc q;have hx2:=Uc V5;have hr:D2 (.mk 4 n a)= [91]++y++ [93]++z:=by
    rw[G,i,O];simp[D2,H6,Ce,vi,Pe]
   have HR:=hdq hr;have V8:(0:Int) <(a.length:Int):=by omega
   have fw:(1:Int) <(a.length:Int):=by omega
   have Q8: ¬(9223372036854775807 < 1+(G5 y).size):=by omega
   have Fq: ¬(9223372036854775807 < 1+(G5 y).size+1):=by omega
   have yu: ¬(9223372036854775807 < 1+(G5 y).size+1+(G5 z).size):=by omega
   have rz: ¬(9223372036854775807 < 1+(G5 y).size+1+(G5 z).size+1):=by omega
   obtain⟨s0,s1,s2,-,-,-⟩:=own3 yi;clear hr G l i F O H E6 D hf gi p U2 E9;go_enter func196,ntmps196;go_wp2_with fail;generalize World.alloc w _=B at*;have M:=hdq (show∀c,Ext B c->c.cell? ⟨w.heap.size,2,none⟩=some (.slice (some ⟨b,o,none⟩) a.length cap)/\c.cell? ⟨b,o,none⟩=some (m0 K)/\c.cell? ⟨b,o+1,none⟩=some (m0 n0)/\c.cell? ⟨b,o+2,none⟩=some (.slice Z J.length Y)/\c.cell? ⟨b,o+3,none⟩=some (m0 R)/\c.cell? ⟨b,o+3+1,none⟩=some (m0 Q)/\c.cell? ⟨b,o+3+2,none⟩=some (.slice A1 q16.length C9) from fun c f=>⟨f.cell s2,f.cell I,f.cell L,f.cell E,f.cell P,f.cell S,f.cell X⟩)
   go_region_held3 (fun c=> c.cell? ⟨w.heap.size,2,none⟩=some (.slice (some ⟨b,o,none⟩) a.length cap)/\c.cell? ⟨b,o,none⟩=some (m0 K)/\c.cell? ⟨b,o+1,none⟩=some (m0 n0)/\c.cell? ⟨b,o+2,none⟩=some (.slice Z J.length Y)/\c.cell? ⟨b,o+3,none⟩=some (m0 R)/\c.cell? ⟨b,o+3+1,none⟩=some (m0 Q)/\c.cell? ⟨b,o+3+2,none⟩=some (.slice A1 q16.length C9))
    (first|exact M.out _ ((xr B).drew.trans (r.trans e3)) |exact M.out _ ((xr B).drew.trans r) |exact M.out _ (xr B).drew)
    (first|(go_at_call 196;(with_reducible refine(g.out _ (xr B).drew).mono ?_);rintro e w2 ⟨rfl,r⟩) |(go_at_call 196;refine(N.out _ ((xr B).drew.trans r)).mono ?_;rintro e w3 ⟨rfl,e3⟩))
   clear s0 s1 s2 I L E P S X M;go_wp2_with fail;go_ret;exact⟨by rw[HR.out];simp only[<-pc];rfl,hx.trans ((xr B).drew.trans (r.trans e3))⟩
 by_cases c5:k=5
 · subst c5
   have E9:a.length=2:=by have:(2:Int)=(a.length:Int):=D;omega
   obtain⟨b,o,K,n0,Z,Y,J,rfl,H,I,L,E,I5,I3,M9,V,C⟩:=hK.get hx (j:=0) (by omega);obtain⟨b',o',R,Q,A1,C9,q16,wz,E6,P,S,X,Z7,Y4,M6,p5,T⟩:=hK.get hx (j:=1) (by omega);cases wz
   simp only[cW,cU] at I L E;simp only[fP] at P S X;obtain⟨t0,l⟩: ∃t0,t0=Tr.mk K n0 J:=⟨_,rfl⟩;obtain⟨t1,F⟩: ∃t1,t1=Tr.mk R Q q16:=⟨_,rfl⟩;have G:a= [t0,t1]:=yp E9 (by omega) (by omega) (by rw[l];exact H.out) (by rw[F];exact E6.out);have U:0 < a.length:=by omega
   have S6:1 < a.length:=by omega
   have hf:=Sf t0;have gi:=Sf t1;have p:=k9 C;have U2:=k9 T;rw[<-l] at p;rw[<-F] at U2;have g:=hdq (fun W (u:Ext _ W)=> hk _ C W _ (d - 1) (s _ C) (by rw[<-l];omega) (V.ext u));have N:=hdq (fun W (u:Ext _ W)=> hk _ T W _ (d - 1) (s _ T) (by rw[<-F];omega) (p5.ext u));rw[<-l] at g;rw[<-F] at N;have q:(D2 t0).length<=10000:=by omega
   have V5:(D2 t1).length<=10000:=by omega
   obtain⟨y,i⟩: ∃y,y=D2 t0:=⟨_,rfl⟩;obtain⟨z,O⟩: ∃z,z=D2 t1:=⟨_,rfl⟩;rw[<-i] at g q;rw[<-O] at N V5;have hx1:=Uc q;have hx2:=Uc V5;have hr:D2 (.mk 5 n a)= [40]++y++ [32]++z++ [41]:=by
    rw[G,i,O];simp[D2,H6,Ce,vi,Pe]
   have HR:=hdq hr;have V8:(0:Int) <(a.length:Int):=by omega
   have fw:(1:Int) <(a.length:Int):=by omega
   have Q8: ¬(9223372036854775807 < 1+(G5 y).size):=by omega
   have Fq: ¬(9223372036854775807 < 1+(G5 y).size+1):=by omega
   have yu: ¬(9223372036854775807 < 1+(G5 y).size+1+(G5 z).size):=by omega
   have rz: ¬(9223372036854775807 < 1+(G5 y).size+1+(G5 z).size+1):=by omega
   obtain⟨s0,s1,s2,-,-,-⟩:=own3 yi;clear hr G l i F O H E6 D hf gi p U2 E9;go_enter func196,ntmps196;go_wp2_with fail;generalize World.alloc w _=B at*;have M:=hdq (show∀c,Ext B c->c.cell? ⟨w.heap.size,2,none⟩=some (.slice (some ⟨b,o,none⟩) a.length cap)/\c.cell? ⟨b,o,none⟩=some (m0 K)/\c.cell? ⟨b,o+1,none⟩=some (m0 n0)/\c.cell? ⟨b,o+2,none⟩=some (.slice Z J.length Y)/\c.cell? ⟨b,o+3,none⟩=some (m0 R)/\c.cell? ⟨b,o+3+1,none⟩=some (m0 Q)/\c.cell? ⟨b,o+3+2,none⟩=some (.slice A1 q16.length C9) from fun c f=>⟨f.cell s2,f.cell I,f.cell L,f.cell E,f.cell P,f.cell S,f.cell X⟩)
   go_region_held3 (fun c=> c.cell? ⟨w.heap.size,2,none⟩=some (.slice (some ⟨b,o,none⟩) a.length cap)/\c.cell? ⟨b,o,none⟩=some (m0 K)/\c.cell? ⟨b,o+1,none⟩=some (m0 n0)/\c.cell? ⟨b,o+2,none⟩=some (.slice Z J.length Y)/\c.cell? ⟨b,o+3,none⟩=some (m0 R)/\c.cell? ⟨b,o+3+1,none⟩=some (m0 Q)/\c.cell? ⟨b,o+3+2,none⟩=some (.slice A1 q16.length C9))
    (first|exact M.out _ ((xr B).drew.trans (r.trans e3)) |exact M.out _ ((xr B).drew.trans r) |exact M.out _ (xr B).drew)
    (first|(go_at_call 196;(with_reducible refine(g.out _ (xr B).drew).mono ?_);rintro e w2 ⟨rfl,r⟩) |(go_at_call 196;refine(N.out _ ((xr B).drew.trans r)).mono ?_;rintro e w3 ⟨rfl,e3⟩))
   clear s0 s1 s2 I L E P S X M;go_wp2_with fail;go_ret;exact⟨by rw[HR.out];simp only[<-pc];rfl,hx.trans ((xr B).drew.trans (r.trans e3))⟩
 by_cases c13:k=13
 · subst c13
   have E9:a.length=2:=by have:(2:Int)=(a.length:Int):=D;omega
   obtain⟨b,o,K,n0,Z,Y,J,rfl,H,I,L,E,I5,I3,M9,V,C⟩:=hK.get hx (j:=0) (by omega);obtain⟨b',o',R,Q,A1,C9,q16,wz,E6,P,S,X,Z7,Y4,M6,p5,T⟩:=hK.get hx (j:=1) (by omega);cases wz
   simp only[cW,cU] at I L E;simp only[fP] at P S X;obtain⟨t0,l⟩: ∃t0,t0=Tr.mk K n0 J:=⟨_,rfl⟩;obtain⟨t1,F⟩: ∃t1,t1=Tr.mk R Q q16:=⟨_,rfl⟩;have G:a= [t0,t1]:=yp E9 (by omega) (by omega) (by rw[l];exact H.out) (by rw[F];exact E6.out);have U:0 < a.length:=by omega
   have S6:1 < a.length:=by omega
   have hf:=Sf t0;have gi:=Sf t1;have p:=k9 C;have U2:=k9 T;rw[<-l] at p;rw[<-F] at U2;have g:=hdq (fun W (u:Ext _ W)=> hk _ C W _ (d - 1) (s _ C) (by rw[<-l];omega) (V.ext u));have N:=hdq (fun W (u:Ext _ W)=> hk _ T W _ (d - 1) (s _ T) (by rw[<-F];omega) (p5.ext u));rw[<-l] at g;rw[<-F] at N;have q:(D2 t0).length<=10000:=by omega
   have V5:(D2 t1).length<=10000:=by omega
   obtain⟨y,i⟩: ∃y,y=D2 t0:=⟨_,rfl⟩;obtain⟨z,O⟩: ∃z,z=D2 t1:=⟨_,rfl⟩;rw[<-i] at g q;rw[<-O] at N V5;have hx1:=Uc q;have hx2:=Uc V5;have hr:D2 (.mk 13 n a)= [40]++y++ [42]++z++ [41]:=by
    rw[G,i,O];simp[D2,H6,Ce,vi,Pe]
   have HR:=hdq hr;have V8:(0:Int) <(a.length:Int):=by omega
   have fw:(1:Int) <(a.length:Int):=by omega
   have Q8: ¬(9223372036854775807 < 1+(G5 y).size):=by omega
   have Fq: ¬(9223372036854775807 < 1+(G5 y).size+1):=by omega
   have yu: ¬(9223372036854775807 < 1+(G5 y).size+1+(G5 z).size):=by omega
   have rz: ¬(9223372036854775807 < 1+(G5 y).size+1+(G5 z).size+1):=by omega
   obtain⟨s0,s1,s2,-,-,-⟩:=own3 yi;clear hr G l i F O H E6 D hf gi p U2 E9;go_enter func196,ntmps196;go_wp2_with fail;generalize World.alloc w _=B at*;have M:=hdq (show∀c,Ext B c->c.cell? ⟨w.heap.size,2,none⟩=some (.slice (some ⟨b,o,none⟩) a.length cap)/\c.cell? ⟨b,o,none⟩=some (m0 K)/\c.cell? ⟨b,o+1,none⟩=some (m0 n0)/\c.cell? ⟨b,o+2,none⟩=some (.slice Z J.length Y)/\c.cell? ⟨b,o+3,none⟩=some (m0 R)/\c.cell? ⟨b,o+3+1,none⟩=some (m0 Q)/\c.cell? ⟨b,o+3+2,none⟩=some (.slice A1 q16.length C9) from fun c f=>⟨f.cell s2,f.cell I,f.cell L,f.cell E,f.cell P,f.cell S,f.cell X⟩)
   go_region_held3 (fun c=> c.cell? ⟨w.heap.size,2,none⟩=some (.slice (some ⟨b,o,none⟩) a.length cap)/\c.cell? ⟨b,o,none⟩=some (m0 K)/\c.cell? ⟨b,o+1,none⟩=some (m0 n0)/\c.cell? ⟨b,o+2,none⟩=some (.slice Z J.length Y)/\c.cell? ⟨b,o+3,none⟩=some (m0 R)/\c.cell? ⟨b,o+3+1,none⟩=some (m0 Q)/\c.cell? ⟨b,o+3+2,none⟩=some (.slice A1 q16.length C9))
    (first|exact M.out _ ((xr B).drew.trans (r.trans e3)) |exact M.out _ ((xr B).drew.trans r) |exact M.out _ (xr B).drew)
    (first|(go_at_call 196;(with_reducible refine(g.out _ (xr B).drew).mono ?_);rintro e w2 ⟨rfl,r⟩) |(go_at_call 196;refine(N.out _ ((xr B).drew.trans r)).mono ?_;rintro e w3 ⟨rfl,e3⟩))
   clear s0 s1 s2 I L E P S X M;go_wp2_with fail;go_ret;exact⟨by rw[HR.out];simp only[<-pc];rfl,hx.trans ((xr B).drew.trans (r.trans e3))⟩
 by_cases c9:k=9
 · subst c9
   have hf:=Nx [44] (by simp) a true;have g:=hdq (fun W (u:Ext w W)=> ME a hk (d - 1) s (by omega) W A cap (hK.ext u) hl hc);have q:(H6 [44] a true).length<=10000:=by omega
   have hr:D2 (.mk 9 n a)= [60]++H6 [44] a true++ [62]:=by
    simp[D2,Ce,vi,Pe]
   obtain⟨y,i⟩: ∃y,y=H6 [44] a true:=⟨_,rfl⟩;rw[<-i] at g q hr;have hx1:=Uc q;have HR:=hdq hr;have sr:((⟨#[60]⟩:ByteArray)++G5 y).size<=10002:=by
    have:=Uc (x:= [60]++y) (n:=10002) (by simp;omega)
    rwa [<-pc] at this
   clear hr i D hf;go_enter func196,ntmps196;go_wp2_with fail;refine(g.out _ hx).mono ?_;rintro e w2 ⟨rfl,r⟩;go_wp2_with fail;go_ret;exact⟨by rw[HR.out,<-pc,<-pc];rfl,hx.trans r⟩
 by_cases c10:k=10
 · subst c10
   have hf:=Nx [44] (by simp) a true;have g:=hdq (fun W (u:Ext w W)=> ME a hk (d - 1) s (by omega) W A cap (hK.ext u) hl hc);have q:(H6 [44] a true).length<=10000:=by omega
   have hr:D2 (.mk 10 n a)= [123]++H6 [44] a true++ [125]:=by
    simp[D2,Ce,vi,Pe]
   obtain⟨y,i⟩: ∃y,y=H6 [44] a true:=⟨_,rfl⟩;rw[<-i] at g q hr;have hx1:=Uc q;have HR:=hdq hr;have sr:((⟨#[123]⟩:ByteArray)++G5 y).size<=10002:=by
    have:=Uc (x:= [123]++y) (n:=10002) (by simp;omega)
    rwa [<-pc] at this
   clear hr i D hf;go_enter func196,ntmps196;go_wp2_with fail;refine(g.out _ hx).mono ?_;rintro e w2 ⟨rfl,r⟩;go_wp2_with fail;go_ret;exact⟨by rw[HR.out,<-pc,<-pc];rfl,hx.trans r⟩
 by_cases c14:k=14
 · subst c14
   have hf:=Nx [44] (by simp) a true;have g:=hdq (fun W (u:Ext w W)=> ME a hk (d - 1) s (by omega) W A cap (hK.ext u) hl hc);have q:(H6 [44] a true).length<=10000:=by omega
   have hr:D2 (.mk 14 n a)= [124]++H6 [44] a true++ [124]:=by
    simp[D2,Ce,vi,Pe]
   obtain⟨y,i⟩: ∃y,y=H6 [44] a true:=⟨_,rfl⟩;rw[<-i] at g q hr;have hx1:=Uc q;have HR:=hdq hr;have sr:((⟨#[124]⟩:ByteArray)++G5 y).size<=10002:=by
    have:=Uc (x:= [124]++y) (n:=10002) (by simp;omega)
    rwa [<-pc] at this
   clear hr i D hf;go_enter func196,ntmps196;go_wp2_with fail;refine(g.out _ hx).mono ?_;rintro e w2 ⟨rfl,r⟩;go_wp2_with fail;go_ret;exact⟨by rw[HR.out,<-pc,<-pc];rfl,hx.trans r⟩
 by_cases c12:k=12
 · subst c12
   have hf:=Nx [44] (by simp) a true;have g:=hdq (fun W (u:Ext w W)=> ME a hk (d - 1) s (by omega) W A cap (hK.ext u) hl hc);have q:(H6 [44] a true).length<=10000:=by omega
   have hr:D2 (.mk 12 n a)= [64,60]++H6 [44] a true++ [62]:=by
    simp[D2,Ce,vi,Pe]
   obtain⟨y,i⟩: ∃y,y=H6 [44] a true:=⟨_,rfl⟩;rw[<-i] at g q hr;have hx1:=Uc q;have HR:=hdq hr;have sr:((⟨#[64,60]⟩:ByteArray)++G5 y).size<=10002:=by
    have:=Uc (x:= [64,60]++y) (n:=10002) (by simp;omega)
    rwa [<-pc] at this
   clear hr i D hf;go_enter func196,ntmps196;go_wp2_with fail;refine(g.out _ hx).mono ?_;rintro e w2 ⟨rfl,r⟩;go_wp2_with fail;go_ret;exact⟨by rw[HR.out,<-pc,<-pc];rfl,hx.trans r⟩
 by_cases c6:k=6
 · subst c6
   have ai:a= []:=bO (by have:(0:Int)=(a.length:Int):=D;omega);have hr:D2 (.mk 6 n a)= [78]:=by
    rw[ai];simp[D2,H6,Ce,Pe]
   have HR:=hdq hr;clear hr D ai;go_enter func196,ntmps196;go_wp2_with fail;go_ret;exact⟨by rw[HR.out];rfl,hx⟩
 by_cases c7:k=7
 · subst c7
   have ai:a= []:=bO (by have:(0:Int)=(a.length:Int):=D;omega);have hr:D2 (.mk 7 n a)= [48]:=by
    rw[ai];simp[D2,H6,Ce,Pe]
   have HR:=hdq hr;clear hr D ai;go_enter func196,ntmps196;go_wp2_with fail;go_ret;exact⟨by rw[HR.out];rfl,hx⟩
 by_cases c1:k=1
 · subst c1
   obtain⟨m,rfl⟩: ∃m:Nat,n=m:=⟨n.toNat,by omega⟩;have hm:(m:Int)<=20:=Q8;have g:=hdq (fun W=> qD m (by omega) W);have hr:D2 (.mk 1 m a)= [35]++nc m:=by
    simp[D2]
   have q:=Pv m;obtain⟨y,i⟩: ∃y,y=nc m:=⟨_,rfl⟩;rw[<-i] at g q hr;have hx1:=Uc q;have HR:=hdq hr;clear hr D i;go_enter func196,ntmps196;go_wp2_with fail;refine(g.out _).mono ?_;rintro e w2 ⟨rfl,r⟩;go_wp2_with fail;go_ret;exact⟨by rw[HR.out,<-pc];rfl,hx.trans r⟩
 by_cases c2:k=2
 · subst c2
   obtain⟨m,rfl⟩: ∃m:Nat,n=m:=⟨n.toNat,by omega⟩;have hm:(m:Int)<=3:=Q8;have g:=hdq (fun W=> qD m (by omega) W);have hr:D2 (.mk 2 m a)= [42]++nc m:=by
    simp[D2]
   have q:=Pv m;obtain⟨y,i⟩: ∃y,y=nc m:=⟨_,rfl⟩;rw[<-i] at g q hr;have hx1:=Uc q;have HR:=hdq hr;clear hr D i;go_enter func196,ntmps196;go_wp2_with fail;refine(g.out _).mono ?_;rintro e w2 ⟨rfl,r⟩;go_wp2_with fail;go_ret;exact⟨by rw[HR.out,<-pc];rfl,hx.trans r⟩
 exfalso
 have yx:0<=U0 k:=by omega
 unfold U0 at yx
 repeat rw[if_neg (by omega)] at yx
 omega
theorem GI(t:Tr)(w:aL)(v:Value)(f:Lies w t v):Calls prog 177 #[v] w fun e m=> e= .returned (.string (G5 (Nf t)))/\Ext w m:=by
 have d:=hdq (fun W (c:Ext w W)=> li t W v (f.ext c));have j:=hdq (fun(hv:j0 D0 t=true) W (c:Ext w W)=> fF t W v 30 (Z3 hv).1 (by have:=(Z3 hv).2;omega) (f.ext c));have hf:Nf t=if j0 D0 t=true then D2 t else []:=rfl
 obtain⟨b,l⟩: ∃b,b=j0 D0 t:=⟨_,rfl⟩;rw[<-l] at d j hf;have g:=hdq hf;clear l hf;obtain⟨k,n,i⟩:=t;obtain⟨A,cap,rfl,hl,hc,hK⟩:=Lies.mk_iff.1 f;have hx:Ext w (w.alloc (H0 k n A i.length cap)):=(xr w).alloc _;have o:=aS w (H0 k n A i.length cap);cases b with
 |false=>
  go_enter func177,ntmps177;go_wp2_with fail;refine(d.out _ hx).mono ?_;rintro e p ⟨rfl,a⟩;go_wp2_with fail;go_ret;exact⟨by rw[g.out];rfl,hx.trans a⟩
 |true=>
  go_enter func177,ntmps177;go_wp2_with fail;refine(d.out _ hx).mono ?_;rintro e p ⟨rfl,a⟩;obtain⟨u,x,s,-,-,-⟩:=own3 (a.blk o);go_wp2_with fail;refine(j.out trivial _ (hx.trans a)).mono ?_;rintro e r ⟨rfl,q⟩;go_wp2_with fail;go_ret;exact⟨by rw[g.out];rfl,(hx.trans a).trans q⟩
theorem Zi(k:Int):D0.most k<=20:=by
 show Ma k<=20
 unfold Ma
 split
 · omega
 · split <;> omega
def Pm(w:aL)(e:TypeId)(A:Option Addr)(ns:List Int)(L:List Nat):Prop:=
 (ns= []/\L= [])\/ ∃b cs,A=some ⟨b,0,none⟩/\w.heap[b]? =some (.cells cs e (0,0))/\ns.length<=cs.size/\cs.toList.take ns.length=ns.map (Value.int .i64)/\L= [b]
theorem Pm.mono{w w':aL}{e:TypeId}{A:Option Addr}{ns:List Int}{L:List Nat}(h:Pm w e A ns L)(a: ∀b,b∈L->w'.heap[b]? =w.heap[b]?):Pm w' e A ns L:=by
 rcases h with h|⟨b,cs,rfl,f,d,c,rfl⟩
 · exact .inl h
 · exact .inr ⟨b,cs,rfl,(a b (by simp)).trans f,d,c,rfl⟩
theorem Yk.own{W w:aL}{e:TypeId}{v:Value}{ns:List Int}(h:Yk W w e v ns): ∃A cap L,v= .slice A ns.length cap/\ns.length<=cap/\cap<=maxLen/\Pm w e A ns L/\bd W w L:=by
 rcases h.2 with⟨rfl,i⟩ |⟨g,cap,a,rfl,j,d,hn,hm,f,ht⟩
 · obtain rfl:ns= []:=bO i
   exact⟨none,0, [],rfl,Nat.le_refl _,Nat.zero_le _,.inl ⟨rfl,rfl⟩,bd.nil _ _⟩
 · refine⟨_,cap, [g],rfl,hn,hm,.inr ⟨g,a,rfl,d,by omega,by simpa using ht,rfl⟩,by simp,fun b c=> ?_⟩
   obtain rfl:=List.mem_singleton.1 c;exact⟨j,O1 d⟩
theorem InK.two{w:aL}{S:Nat->Prop}{e:TypeId}{t f:Tr}{v0 v1 v2 c d b:Value}{g:Nat}(h:InT w S t (.agg #[v0,v1,v2]))(i:InT w S f (.agg #[c,d,b]))(a:w.heap[g]? =some (.cells #[v0,v1,v2,c,d,b] e (0,0)))(hS:S g):InK w S (some ⟨g,0,none⟩) [t,f]:=by
 refine .inr ⟨g,0,rfl,hS, ?_⟩;unfold O4;refine⟨⟨v0,v1,v2,U1 a 0,U1 a 1,U1 a 2,h⟩, ?_⟩;unfold O4;refine⟨⟨c,d,b,U1 a 3,U1 a 4,U1 a 5,i⟩, ?_⟩;unfold O4
 trivial
theorem InT.three{w:aL}{S:Nat->Prop}{t:Tr}{u:Value}(h:InT w S t u): ∃k n A l c,u= M0 k n A l c:=by
 obtain⟨k,n,a⟩:=t;obtain⟨A,cap,rfl,_⟩:=InT.mk_iff.1 h;exact⟨k,n,A,_,cap,rfl⟩
theorem aA{g:Wc}: ∀{ts:List Tr} {d:Int},(∀t∈ts,P0 g t d=true)->Z8 g ts d=true
 | [],_,_=> rfl
 |t::ts,d,h=> by
  simp only[Z8,aW];exact⟨h t (by simp),aA (fun x hx=> h x (by simp[hx]))⟩
theorem iH{g:Wc}{k n:Int}{a:List Tr}{d:Int}(i:1<=d)(c:g.ops k=(a.length:Int))(e:0<=n)(b:n<=g.most k)(f: ∀t∈a,P0 g t (d - 1)=true):P0 g (.mk k n a) d=true:=by
 simp only[P0,ni,aW,decide_eq_true_eq];exact⟨i,⟨c,Pg.2 ⟨e,b⟩⟩,aA f⟩
theorem QH{g:Wc}{t:Tr}{d:Int}(h:P0 g t d=true):1<=d:=by
 obtain⟨k,n,a⟩:=t;simp only[P0,aW,decide_eq_true_eq] at h;exact h.1
theorem sf{g:Wc}: ∀{t:Tr} {d e:Int},P0 g t d=true->d<=e->P0 g t e=true:=by
 intro t;refine Tr.ind (P:=fun t=> ∀{d e:Int},P0 g t d=true->d<=e->P0 g t e=true) (fun k n i ih=> ?_) t;intro d e h hd;obtain⟨f,b,c,a⟩:=Z4 h;have:=QH h;exact iH (by omega) f b c (fun t ht=> ih t ht (a t ht) (by omega))
