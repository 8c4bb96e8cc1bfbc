/- Lemmas towards the law. -/
import Derived.Test.YtckhbnmfnpolgaaGreatTAH
import Derived.Laws.Concat
import Derived.Laws.IdiomStrings
open Go renaming World->aN,heap_alloc_new->aT,rounds_succ->dS
open UInt8 renaming ofNat->lW
open Nat renaming zero_mul->dN,add_zero->cX,one_mul->fU
open List renaming length_append->cV,eq_nil_of_length_eq_zero->bW
open Bool renaming and_eq_true->aX
open Go.Proofs.Tryz
set_option linter.all false
set_option maxHeartbeats 4000000
set_option maxRecDepth 100000
namespace Go.Proofs.YtckhbnmfnpolgaaGreat
open Go.RowKit
theorem Yl(w:aN)(x:Int)(b:UInt8)(c:(b.toNat:Int)=x):(convert 22 9 (.slice (some ⟨w.heap.size,0,none⟩) 1 1)).run prog (w.alloc (.cells #[.int .u8 x] 5))= .ok (.string (N6 [b])) (w.alloc (.cells #[.int .u8 x] 5)):=by
 have:=run_convert_bytes_back (P:=prog) (w.alloc (.cells #[.int .u8 x] 5)) 22 9 5 ⟨w.heap.size,0,none⟩ 1 [b] underlying22 underlying5 underlying9 (fun j a=> by
  have:j=0:=by simpa using a
  subst this;rw[Addr.add_lit,Nat.zero_add,E1 (aT w _)];simp only[List.getElem_cons_zero,c]
  rfl)
 simpa[N6] using this
theorem SE(a:List UInt8):N6 a++({data:=#[]}:ByteArray)=N6 a:=by
 have:=fd a []
 simpa[N6] using this
theorem uz(n:Nat)(h:n < 256):((lW n).toNat:Int)=n:=by
 simp
 omega
theorem xF(n:Nat)(hn:n<=99)(w:aN):Calls prog 199 #[j0 n] w fun e j=> e= .returned (.string (N6 (Yc n)))/\Ext w j:=by
 by_cases o:n<=9
 · obtain⟨b,a⟩: ∃b,b=lW (48+n):=⟨_,rfl⟩
   have hc:=Yl w (48+n) b (by rw[a,uz _ (by omega)];omega);have hd:Yc n= [b]:=by
    unfold Yc;rw[if_pos (by omega),a]
    rfl
   have f:=hdq hd;have i:=hdq (SE [b]);clear hd a;go_enter func199,ntmps199;go_wp2_with fail;refine wp_loop_rounds 1 ?_;rw[dS];go_wp2_with fail;go_ret;exact⟨by rw[f.out,<-i.out];rfl,(xr w).alloc _⟩
 · obtain⟨r,hr⟩: ∃r:Int,r=(n:Int) % 10:=⟨_,rfl⟩
   obtain⟨q,k⟩: ∃q:Int,q=(n:Int) / 10:=⟨_,rfl⟩;have l:0<=r:=by omega
   have t:r<=9:=by omega
   have p:0<=q:=by omega
   have s:q<=9:=by omega
   obtain⟨b,a⟩: ∃b,b=lW (48+n / 10):=⟨_,rfl⟩;obtain⟨c,d⟩: ∃b,b=lW (48+n - n / 10*10):=⟨_,rfl⟩;have hc:=Yl w (48+r) c (by rw[d,uz _ (by omega)];omega);have g:=Yl (w.alloc (.cells #[.int .u8 (48+r)] 5)) (48+q) b (by rw[a,uz _ (by omega)];omega);rw[World.size_alloc] at g;have hd:Yc n= [b]++ [c]:=by
    unfold Yc;rw[if_neg (by omega),a,d];simp only[List.cons_append,List.nil_append,List.cons.injEq,and_true]
    constructor <;>(congr 1;try omega)
   have f:=hdq hd;have i:=hdq (SE [c]);have m:decide ((9:Int) < q)=false:=decide_eq_false (by omega);clear hd a d;subst hr k;go_enter func199,ntmps199;go_wp2_with fail;refine wp_loop_rounds 2 ?_;rw[dS];go_wp2_with fail;rw[dS];go_wp2_with fail;go_ret;exact⟨by rw[f.out,<-fd,<-i.out];rfl,((xr w).alloc _).alloc _⟩
def Tt(t:Tr):Prop:= ∀(w:aN) (v:Value) (d:Int),I0 sigT t d=true->cnt t<=1000->Lies w t v->Calls prog 196 #[v] w fun e a=> e= .returned (.string (N6 (N3 t)))/\Ext w a
theorem Wd{x:List UInt8}{n:Nat}(h:x.length<=n):(N6 x).size<=n:=by rw[zv];exact h
theorem CF(a:List Tr)(hk: ∀t∈a,Tt t)(d:Int)(hsh: ∀t∈a,I0 sigT t d=true)(X:O1 a<=1000)(w:aN)(A:Option Addr)(cap:Nat)(h:V8 w A a)(hl:a.length<=cap)(hc:cap<=maxLen):
 Calls prog 200 #[.slice A a.length cap] w fun e M=> e= .returned (.string (N6 (D7 [44] a true)))/\Ext w M:=by
 have q:=hc;unfold maxLen at q;have J:=Tg a;go_enter func200,ntmps200;go_wp2_with fail
 go_loopw [3,4] (fun o i wr=> ∃(j:Nat) (x:List UInt8),j<=a.length/\i= j0 j/\o= .string (N6 x)/\x++D7 [44] (a.drop j) (decide (j=0))=D7 [44] a true/\x.length+5*O1 (a.drop j)<=5*O1 a/\Ext w wr) (fun _ i _=> a.length -(intOf i).toNat)
 case atStart=> exact⟨0, [],Nat.zero_le _,rfl,rfl,rfl,by simp,xr _⟩
 case round=>
  obtain⟨j,x,T,rfl,rfl,F,c,m⟩:=hrel;have s:=hdq F;clear F;by_cases g:j < a.length
  · obtain⟨b,o,k,n,W,E,kids,rfl,N,L,H,O,Y,V,hK,Q,v⟩:=h.get m g
    have U:(j:Int) <(a.length:Int):=by omega
    have f:a.drop j= .mk k n kids::a.drop (j+1):=by rw[List.drop_eq_getElem_cons g,N.out]
    have hf:=Yg (.mk k n kids);have z:O1 (a.drop j)=cnt (.mk k n kids)+O1 (a.drop (j+1)):=by rw[f];simp only[O1]
    have R:=ya v;have B:=hdq (hk _ v wr _ d (hsh _ v) (by omega) Q);have l:D7 [44] (a.drop j) (decide (j=0))=(if decide (j=0)=true then [] else [44])++N3 (.mk k n kids)++D7 [44] (a.drop (j+1)) false:=by
     rw[f];conv=> lhs;unfold D7
    have u:=hdq l;have I:x.length<=10000:=by omega
    have hx1:=Wd I;obtain⟨y,D⟩: ∃y,y=N3 (.mk k n kids):=⟨_,rfl⟩;rw[<-D] at B u hf;have hx2:=Wd (x:=y) (n:=10000) (by omega);have S:=hdq z;have C:=hdq (show x.length+5*(cnt (.mk k n kids)+O1 (a.drop (j+1)))<=5*O1 a from by rw[<-z];exact c);clear f z l D c;rcases Nat.eq_zero_or_pos j with G|G
    · subst G
      have P:decide ((0:Int) <((0:Nat):Int))=false:=by decide
      simp only[dN,cX] at L H O;go_wp2_with fail;refine B.out.mono ?_;rintro e K ⟨rfl,r⟩;go_wp2_with fail
      go_roundw
      case rel=> exact⟨1,x++y,by omega,rfl,by rw[fd],by rw[<-s.out,u.out];simp,by have:=C.out;rw[Nat.zero_add] at this;simp only[cV];omega,m.trans r⟩
      case measure=> simp[intOf];omega
    · have P:decide ((0:Int) <(j:Int))=true:=decide_eq_true (by omega)
      have p:=hdq (show N6 x++({data:=#[44]}:ByteArray)=N6 (x++ [44]) from fd x [44]);have hx3:(N6 x++({data:=#[44]}:ByteArray)).size<=10001:=by rw[p.out,zv];simp;omega
      go_wp2_with fail;refine B.out.mono ?_;rintro e K ⟨rfl,r⟩;go_wp2_with fail
      go_roundw
      case rel=> exact⟨j+1,x++ [44]++y,by omega,by go_num,by rw[p.out,fd],by rw[<-s.out,u.out,show decide (j=0)=false from decide_eq_false (by omega),show decide (j+1=0)=false from decide_eq_false (by omega)];simp,by have:=C.out;simp only[cV,List.length_singleton];omega,m.trans r⟩
      case measure=> simp[intOf];omega
  · have hd:=List.drop_of_length_le (show a.length<=j by omega)
    have hx:x=D7 [44] a true:=by rw[<-s.out,hd];simp[D7]
    have p:=hdq hx;clear hd hx;go_wp2_with fail;go_ret;exact⟨by rw[<-p.out];rfl,m⟩
theorem Ds{a:List Tr}{t:Tr}(h:a.length=1)(b:0 < a.length)(e:a[0]=t):a= [t]:=by
 match a,h with
 | [q],_=> rw[<-e];rfl
theorem Up{a:List Tr}{t u:Tr}(h:a.length=2)(c:0 < a.length)(d:1 < a.length)(e:a[0]=t)(b:a[1]=u):a= [t,u]:=by
 match a,h with
 | [q,r],_=> rw[<-e,<-b];rfl
theorem mK: ∀t:Tr,Tt t:=Tr.ind fun k n a hk=> by
 intro w v d hsh D4 d6;obtain⟨A,cap,rfl,hl,hc,hK⟩:=Lies.mk_iff.1 d6;obtain⟨D,O8,R7,s⟩:=m6 hsh;have D:S0 k=(a.length:Int):=D;have R7:n<=Za k:=R7;have hlc:=Tg a;have hcc:=hc;unfold maxLen at hcc;simp only[cnt] at D4;have hx:Ext w (w.alloc (D0 k n A a.length cap)):=(xr w).alloc _;have zj:=aT w (D0 k n A a.length cap);by_cases c8:k=8
 · subst c8
   have J1:a.length=1:=by have:(1:Int)=(a.length:Int):=D;omega
   obtain⟨b,o,H,n0,U,Y,K,rfl,J,L,I,G,I7,I6,N5,V,B⟩:=hK.get hx (j:=0) (by omega);simp only[dN,cX] at L I G;obtain⟨t0,p⟩: ∃t0,t0=Tr.mk H n0 K:=⟨_,rfl⟩;have F:a= [t0]:=Ds J1 (by omega) (by rw[p];exact J.out);have P:0 < a.length:=by omega
   have hf:=Yg t0;have l:=ya B;rw[<-p] at l;have g:=hdq (fun W (u:Ext _ W)=> hk _ B W _ (d - 1) (s _ B) (by rw[<-p];omega) (V.ext u));rw[<-p] at g;have q:(N3 t0).length<=10000:=by omega
   obtain⟨y,i⟩: ∃y,y=N3 t0:=⟨_,rfl⟩;rw[<-i] at g q;have hx1:=Wd q;have hr:N3 (.mk 8 n a)= [43]++y:=by
    rw[F,i];simp[N3,D7,ff,pf]
   have HR:=hdq hr;clear hr F p i J D hf l J1;go_enter func196,ntmps196;go_wp2_with fail;refine(g.out _ (xr _)).mono ?_;rintro e w2 ⟨rfl,r⟩;go_wp2_with fail;go_ret;exact⟨by rw[HR.out,<-fd];rfl,hx.trans r⟩
 by_cases c11:k=11
 · subst c11
   have J1:a.length=1:=by have:(1:Int)=(a.length:Int):=D;omega
   obtain⟨b,o,H,n0,U,Y,K,rfl,J,L,I,G,I7,I6,N5,V,B⟩:=hK.get hx (j:=0) (by omega);simp only[dN,cX] at L I G;obtain⟨t0,p⟩: ∃t0,t0=Tr.mk H n0 K:=⟨_,rfl⟩;have F:a= [t0]:=Ds J1 (by omega) (by rw[p];exact J.out);have P:0 < a.length:=by omega
   have hf:=Yg t0;have l:=ya B;rw[<-p] at l;have g:=hdq (fun W (u:Ext _ W)=> hk _ B W _ (d - 1) (s _ B) (by rw[<-p];omega) (V.ext u));rw[<-p] at g;have q:(N3 t0).length<=10000:=by omega
   obtain⟨y,i⟩: ∃y,y=N3 t0:=⟨_,rfl⟩;rw[<-i] at g q;have hx1:=Wd q;have hr:N3 (.mk 11 n a)= [33]++y:=by
    rw[F,i];simp[N3,D7,ff,pf]
   have HR:=hdq hr;clear hr F p i J D hf l J1;go_enter func196,ntmps196;go_wp2_with fail;refine(g.out _ (xr _)).mono ?_;rintro e w2 ⟨rfl,r⟩;go_wp2_with fail;go_ret;exact⟨by rw[HR.out,<-fd];rfl,hx.trans r⟩
 by_cases c15:k=15
 · subst c15
   have J1:a.length=1:=by have:(1:Int)=(a.length:Int):=D;omega
   obtain⟨b,o,H,n0,U,Y,K,rfl,J,L,I,G,I7,I6,N5,V,B⟩:=hK.get hx (j:=0) (by omega);simp only[dN,cX] at L I G;obtain⟨t0,p⟩: ∃t0,t0=Tr.mk H n0 K:=⟨_,rfl⟩;have F:a= [t0]:=Ds J1 (by omega) (by rw[p];exact J.out);have P:0 < a.length:=by omega
   have hf:=Yg t0;have l:=ya B;rw[<-p] at l;have g:=hdq (fun W (u:Ext _ W)=> hk _ B W _ (d - 1) (s _ B) (by rw[<-p];omega) (V.ext u));rw[<-p] at g;have q:(N3 t0).length<=10000:=by omega
   obtain⟨y,i⟩: ∃y,y=N3 t0:=⟨_,rfl⟩;rw[<-i] at g q;have hx1:=Wd q;have hr:N3 (.mk 15 n a)= [94]++y:=by
    rw[F,i];simp[N3,D7,ff,pf]
   have HR:=hdq hr;clear hr F p i J D hf l J1;go_enter func196,ntmps196;go_wp2_with fail;refine(g.out _ (xr _)).mono ?_;rintro e w2 ⟨rfl,r⟩;go_wp2_with fail;go_ret;exact⟨by rw[HR.out,<-fd];rfl,hx.trans r⟩
 by_cases c16:k=16
 · subst c16
   have J1:a.length=1:=by have:(1:Int)=(a.length:Int):=D;omega
   obtain⟨b,o,H,n0,U,Y,K,rfl,J,L,I,G,I7,I6,N5,V,B⟩:=hK.get hx (j:=0) (by omega);simp only[dN,cX] at L I G;obtain⟨t0,p⟩: ∃t0,t0=Tr.mk H n0 K:=⟨_,rfl⟩;have F:a= [t0]:=Ds J1 (by omega) (by rw[p];exact J.out);have P:0 < a.length:=by omega
   have hf:=Yg t0;have l:=ya B;rw[<-p] at l;have g:=hdq (fun W (u:Ext _ W)=> hk _ B W _ (d - 1) (s _ B) (by rw[<-p];omega) (V.ext u));rw[<-p] at g;have q:(N3 t0).length<=10000:=by omega
   obtain⟨y,i⟩: ∃y,y=N3 t0:=⟨_,rfl⟩;rw[<-i] at g q;have hx1:=Wd q;have hr:N3 (.mk 16 n a)= [95]++y:=by
    rw[F,i];simp[N3,D7,ff,pf]
   have HR:=hdq hr;clear hr F p i J D hf l J1;go_enter func196,ntmps196;go_wp2_with fail;refine(g.out _ (xr _)).mono ?_;rintro e w2 ⟨rfl,r⟩;go_wp2_with fail;go_ret;exact⟨by rw[HR.out,<-fd];rfl,hx.trans r⟩
 by_cases c3:k=3
 · subst c3
   have F5:a.length=2:=by have:(2:Int)=(a.length:Int):=D;omega
   obtain⟨b,o,H,n0,U,Y,K,rfl,J,L,I,G,I7,I6,N5,V,B⟩:=hK.get hx (j:=0) (by omega);obtain⟨b',o',Q,O,A1,D3,q16,vg,E7,X,S,N,Z4,ak,M6,p6,T⟩:=hK.get hx (j:=1) (by omega);cases vg
   simp only[dN,cX] at L I G;simp only[fU] at X S N;obtain⟨t0,p⟩: ∃t0,t0=Tr.mk H n0 K:=⟨_,rfl⟩;obtain⟨t1,E⟩: ∃t1,t1=Tr.mk Q O q16:=⟨_,rfl⟩;have F:a= [t0,t1]:=Up F5 (by omega) (by omega) (by rw[p];exact J.out) (by rw[E];exact E7.out);have P:0 < a.length:=by omega
   have T3:1 < a.length:=by omega
   have hf:=Yg t0;have gg:=Yg t1;have l:=ya B;have U5:=ya T;rw[<-p] at l;rw[<-E] at U5;have g:=hdq (fun W (u:Ext _ W)=> hk _ B W _ (d - 1) (s _ B) (by rw[<-p];omega) (V.ext u));have Z:=hdq (fun W (u:Ext _ W)=> hk _ T W _ (d - 1) (s _ T) (by rw[<-E];omega) (p6.ext u));rw[<-p] at g;rw[<-E] at Z;have q:(N3 t0).length<=10000:=by omega
   have V5:(N3 t1).length<=10000:=by omega
   obtain⟨y,i⟩: ∃y,y=N3 t0:=⟨_,rfl⟩;obtain⟨z,R⟩: ∃z,z=N3 t1:=⟨_,rfl⟩;rw[<-i] at g q;rw[<-R] at Z V5;have hx1:=Wd q;have hx2:=Wd V5;have hr:N3 (.mk 3 n a)= [40]++y++ [62]++z++ [41]:=by
    rw[F,i,R];simp[N3,D7,ff,oj,pf]
   have HR:=hdq hr;have W6:(0:Int) <(a.length:Int):=by omega
   have gy:(1:Int) <(a.length:Int):=by omega
   have R7: ¬(9223372036854775807 < 1+(N6 y).size):=by omega
   have Fw: ¬(9223372036854775807 < 1+(N6 y).size+1):=by omega
   have zi: ¬(9223372036854775807 < 1+(N6 y).size+1+(N6 z).size):=by omega
   have pu: ¬(9223372036854775807 < 1+(N6 y).size+1+(N6 z).size+1):=by omega
   obtain⟨s0,s1,s2,-,-,-⟩:=own3 zj;clear hr F p i E R J E7 D hf gg l U5 F5;go_enter func196,ntmps196;go_wp2_with fail;generalize World.alloc w _=C at*;have M:=hdq (show∀c,Ext C c->c.cell? ⟨w.heap.size,2,none⟩=some (.slice (some ⟨b,o,none⟩) a.length cap)/\c.cell? ⟨b,o,none⟩=some (j0 H)/\c.cell? ⟨b,o+1,none⟩=some (j0 n0)/\c.cell? ⟨b,o+2,none⟩=some (.slice U K.length Y)/\c.cell? ⟨b,o+3,none⟩=some (j0 Q)/\c.cell? ⟨b,o+3+1,none⟩=some (j0 O)/\c.cell? ⟨b,o+3+2,none⟩=some (.slice A1 q16.length D3) from fun c f=>⟨f.cell s2,f.cell L,f.cell I,f.cell G,f.cell X,f.cell S,f.cell N⟩)
   go_region_held3 (fun c=> c.cell? ⟨w.heap.size,2,none⟩=some (.slice (some ⟨b,o,none⟩) a.length cap)/\c.cell? ⟨b,o,none⟩=some (j0 H)/\c.cell? ⟨b,o+1,none⟩=some (j0 n0)/\c.cell? ⟨b,o+2,none⟩=some (.slice U K.length Y)/\c.cell? ⟨b,o+3,none⟩=some (j0 Q)/\c.cell? ⟨b,o+3+1,none⟩=some (j0 O)/\c.cell? ⟨b,o+3+2,none⟩=some (.slice A1 q16.length D3))
    (first|exact M.out _ ((xr C).drew.trans (r.trans e3)) |exact M.out _ ((xr C).drew.trans r) |exact M.out _ (xr C).drew)
    (first|(go_at_call 196;(with_reducible refine(g.out _ (xr C).drew).mono ?_);rintro e w2 ⟨rfl,r⟩) |(go_at_call 196;refine(Z.out _ ((xr C).drew.trans r)).mono ?_;rintro e w3 ⟨rfl,e3⟩))
   clear s0 s1 s2 L I G X S N M;go_wp2_with fail;go_ret;exact⟨by rw[HR.out];simp only[<-fd];rfl,hx.trans ((xr C).drew.trans (r.trans e3))⟩
 by_cases c4:k=4
 · subst c4
   have F5:a.length=2:=by have:(2:Int)=(a.length:Int):=D;omega
   obtain⟨b,o,H,n0,U,Y,K,rfl,J,L,I,G,I7,I6,N5,V,B⟩:=hK.get hx (j:=0) (by omega);obtain⟨b',o',Q,O,A1,D3,q16,vg,E7,X,S,N,Z4,ak,M6,p6,T⟩:=hK.get hx (j:=1) (by omega);cases vg
   simp only[dN,cX] at L I G;simp only[fU] at X S N;obtain⟨t0,p⟩: ∃t0,t0=Tr.mk H n0 K:=⟨_,rfl⟩;obtain⟨t1,E⟩: ∃t1,t1=Tr.mk Q O q16:=⟨_,rfl⟩;have F:a= [t0,t1]:=Up F5 (by omega) (by omega) (by rw[p];exact J.out) (by rw[E];exact E7.out);have P:0 < a.length:=by omega
   have T3:1 < a.length:=by omega
   have hf:=Yg t0;have gg:=Yg t1;have l:=ya B;have U5:=ya T;rw[<-p] at l;rw[<-E] at U5;have g:=hdq (fun W (u:Ext _ W)=> hk _ B W _ (d - 1) (s _ B) (by rw[<-p];omega) (V.ext u));have Z:=hdq (fun W (u:Ext _ W)=> hk _ T W _ (d - 1) (s _ T) (by rw[<-E];omega) (p6.ext u));rw[<-p] at g;rw[<-E] at Z;have q:(N3 t0).length<=10000:=by omega
   have V5:(N3 t1).length<=10000:=by omega
   obtain⟨y,i⟩: ∃y,y=N3 t0:=⟨_,rfl⟩;obtain⟨z,R⟩: ∃z,z=N3 t1:=⟨_,rfl⟩;rw[<-i] at g q;rw[<-R] at Z V5;have hx1:=Wd q;have hx2:=Wd V5;have hr:N3 (.mk 4 n a)= [91]++y++ [93]++z:=by
    rw[F,i,R];simp[N3,D7,ff,oj,pf]
   have HR:=hdq hr;have W6:(0:Int) <(a.length:Int):=by omega
   have gy:(1:Int) <(a.length:Int):=by omega
   have R7: ¬(9223372036854775807 < 1+(N6 y).size):=by omega
   have Fw: ¬(9223372036854775807 < 1+(N6 y).size+1):=by omega
   have zi: ¬(9223372036854775807 < 1+(N6 y).size+1+(N6 z).size):=by omega
   have pu: ¬(9223372036854775807 < 1+(N6 y).size+1+(N6 z).size+1):=by omega
   obtain⟨s0,s1,s2,-,-,-⟩:=own3 zj;clear hr F p i E R J E7 D hf gg l U5 F5;go_enter func196,ntmps196;go_wp2_with fail;generalize World.alloc w _=C at*;have M:=hdq (show∀c,Ext C c->c.cell? ⟨w.heap.size,2,none⟩=some (.slice (some ⟨b,o,none⟩) a.length cap)/\c.cell? ⟨b,o,none⟩=some (j0 H)/\c.cell? ⟨b,o+1,none⟩=some (j0 n0)/\c.cell? ⟨b,o+2,none⟩=some (.slice U K.length Y)/\c.cell? ⟨b,o+3,none⟩=some (j0 Q)/\c.cell? ⟨b,o+3+1,none⟩=some (j0 O)/\c.cell? ⟨b,o+3+2,none⟩=some (.slice A1 q16.length D3) from fun c f=>⟨f.cell s2,f.cell L,f.cell I,f.cell G,f.cell X,f.cell S,f.cell N⟩)
   go_region_held3 (fun c=> c.cell? ⟨w.heap.size,2,none⟩=some (.slice (some ⟨b,o,none⟩) a.length cap)/\c.cell? ⟨b,o,none⟩=some (j0 H)/\c.cell? ⟨b,o+1,none⟩=some (j0 n0)/\c.cell? ⟨b,o+2,none⟩=some (.slice U K.length Y)/\c.cell? ⟨b,o+3,none⟩=some (j0 Q)/\c.cell? ⟨b,o+3+1,none⟩=some (j0 O)/\c.cell? ⟨b,o+3+2,none⟩=some (.slice A1 q16.length D3))
    (first|exact M.out _ ((xr C).drew.trans (r.trans e3)) |exact M.out _ ((xr C).drew.trans r) |exact M.out _ (xr C).drew)
    (first|(go_at_call 196;(with_reducible refine(g.out _ (xr C).drew).mono ?_);rintro e w2 ⟨rfl,r⟩) |(go_at_call 196;refine(Z.out _ ((xr C).drew.trans r)).mono ?_;rintro e w3 ⟨rfl,e3⟩))
   clear s0 s1 s2 L I G X S N M;go_wp2_with fail;go_ret;exact⟨by rw[HR.out];simp only[<-fd];rfl,hx.trans ((xr C).drew.trans (r.trans e3))⟩
 by_cases c5:k=5
 · subst c5
   have F5:a.length=2:=by have:(2:Int)=(a.length:Int):=D;omega
   obtain⟨b,o,H,n0,U,Y,K,rfl,J,L,I,G,I7,I6,N5,V,B⟩:=hK.get hx (j:=0) (by omega);obtain⟨b',o',Q,O,A1,D3,q16,vg,E7,X,S,N,Z4,ak,M6,p6,T⟩:=hK.get hx (j:=1) (by omega);cases vg
   simp only[dN,cX] at L I G;simp only[fU] at X S N;obtain⟨t0,p⟩: ∃t0,t0=Tr.mk H n0 K:=⟨_,rfl⟩;obtain⟨t1,E⟩: ∃t1,t1=Tr.mk Q O q16:=⟨_,rfl⟩;have F:a= [t0,t1]:=Up F5 (by omega) (by omega) (by rw[p];exact J.out) (by rw[E];exact E7.out);have P:0 < a.length:=by omega
   have T3:1 < a.length:=by omega
   have hf:=Yg t0;have gg:=Yg t1;have l:=ya B;have U5:=ya T;rw[<-p] at l;rw[<-E] at U5;have g:=hdq (fun W (u:Ext _ W)=> hk _ B W _ (d - 1) (s _ B) (by rw[<-p];omega) (V.ext u));have Z:=hdq (fun W (u:Ext _ W)=> hk _ T W _ (d - 1) (s _ T) (by rw[<-E];omega) (p6.ext u));rw[<-p] at g;rw[<-E] at Z;have q:(N3 t0).length<=10000:=by omega
   have V5:(N3 t1).length<=10000:=by omega
   obtain⟨y,i⟩: ∃y,y=N3 t0:=⟨_,rfl⟩;obtain⟨z,R⟩: ∃z,z=N3 t1:=⟨_,rfl⟩;rw[<-i] at g q;rw[<-R] at Z V5;have hx1:=Wd q;have hx2:=Wd V5;have hr:N3 (.mk 5 n a)= [40]++y++ [32]++z++ [41]:=by
    rw[F,i,R];simp[N3,D7,ff,oj,pf]
   have HR:=hdq hr;have W6:(0:Int) <(a.length:Int):=by omega
   have gy:(1:Int) <(a.length:Int):=by omega
   have R7: ¬(9223372036854775807 < 1+(N6 y).size):=by omega
   have Fw: ¬(9223372036854775807 < 1+(N6 y).size+1):=by omega
   have zi: ¬(9223372036854775807 < 1+(N6 y).size+1+(N6 z).size):=by omega
   have pu: ¬(9223372036854775807 < 1+(N6 y).size+1+(N6 z).size+1):=by omega
   obtain⟨s0,s1,s2,-,-,-⟩:=own3 zj;clear hr F p i E R J E7 D hf gg l U5 F5;go_enter func196,ntmps196;go_wp2_with fail;generalize World.alloc w _=C at*;have M:=hdq (show∀c,Ext C c->c.cell? ⟨w.heap.size,2,none⟩=some (.slice (some ⟨b,o,none⟩) a.length cap)/\c.cell? ⟨b,o,none⟩=some (j0 H)/\c.cell? ⟨b,o+1,none⟩=some (j0 n0)/\c.cell? ⟨b,o+2,none⟩=some (.slice U K.length Y)/\c.cell? ⟨b,o+3,none⟩=some (j0 Q)/\c.cell? ⟨b,o+3+1,none⟩=some (j0 O)/\c.cell? ⟨b,o+3+2,none⟩=some (.slice A1 q16.length D3) from fun c f=>⟨f.cell s2,f.cell L,f.cell I,f.cell G,f.cell X,f.cell S,f.cell N⟩)
   go_region_held3 (fun c=> c.cell? ⟨w.heap.size,2,none⟩=some (.slice (some ⟨b,o,none⟩) a.length cap)/\c.cell? ⟨b,o,none⟩=some (j0 H)/\c.cell? ⟨b,o+1,none⟩=some (j0 n0)/\c.cell? ⟨b,o+2,none⟩=some (.slice U K.length Y)/\c.cell? ⟨b,o+3,none⟩=some (j0 Q)/\c.cell? ⟨b,o+3+1,none⟩=some (j0 O)/\c.cell? ⟨b,o+3+2,none⟩=some (.slice A1 q16.length D3))
    (first|exact M.out _ ((xr C).drew.trans (r.trans e3)) |exact M.out _ ((xr C).drew.trans r) |exact M.out _ (xr C).drew)
    (first|(go_at_call 196;(with_reducible refine(g.out _ (xr C).drew).mono ?_);rintro e w2 ⟨rfl,r⟩) |(go_at_call 196;refine(Z.out _ ((xr C).drew.trans r)).mono ?_;rintro e w3 ⟨rfl,e3⟩))
   clear s0 s1 s2 L I G X S N M;go_wp2_with fail;go_ret;exact⟨by rw[HR.out];simp only[<-fd];rfl,hx.trans ((xr C).drew.trans (r.trans e3))⟩
 by_cases c13:k=13
 · subst c13
   have F5:a.length=2:=by have:(2:Int)=(a.length:Int):=D;omega
   obtain⟨b,o,H,n0,U,Y,K,rfl,J,L,I,G,I7,I6,N5,V,B⟩:=hK.get hx (j:=0) (by omega);obtain⟨b',o',Q,O,A1,D3,q16,vg,E7,X,S,N,Z4,ak,M6,p6,T⟩:=hK.get hx (j:=1) (by omega);cases vg
   simp only[dN,cX] at L I G;simp only[fU] at X S N;obtain⟨t0,p⟩: ∃t0,t0=Tr.mk H n0 K:=⟨_,rfl⟩;obtain⟨t1,E⟩: ∃t1,t1=Tr.mk Q O q16:=⟨_,rfl⟩;have F:a= [t0,t1]:=Up F5 (by omega) (by omega) (by rw[p];exact J.out) (by rw[E];exact E7.out);have P:0 < a.length:=by omega
   have T3:1 < a.length:=by omega
   have hf:=Yg t0;have gg:=Yg t1;have l:=ya B;have U5:=ya T;rw[<-p] at l;rw[<-E] at U5;have g:=hdq (fun W (u:Ext _ W)=> hk _ B W _ (d - 1) (s _ B) (by rw[<-p];omega) (V.ext u));have Z:=hdq (fun W (u:Ext _ W)=> hk _ T W _ (d - 1) (s _ T) (by rw[<-E];omega) (p6.ext u));rw[<-p] at g;rw[<-E] at Z;have q:(N3 t0).length<=10000:=by omega
   have V5:(N3 t1).length<=10000:=by omega
   obtain⟨y,i⟩: ∃y,y=N3 t0:=⟨_,rfl⟩;obtain⟨z,R⟩: ∃z,z=N3 t1:=⟨_,rfl⟩;rw[<-i] at g q;rw[<-R] at Z V5;have hx1:=Wd q;have hx2:=Wd V5;have hr:N3 (.mk 13 n a)= [40]++y++ [42]++z++ [41]:=by
    rw[F,i,R];simp[N3,D7,ff,oj,pf]
   have HR:=hdq hr;have W6:(0:Int) <(a.length:Int):=by omega
   have gy:(1:Int) <(a.length:Int):=by omega
   have R7: ¬(9223372036854775807 < 1+(N6 y).size):=by omega
   have Fw: ¬(9223372036854775807 < 1+(N6 y).size+1):=by omega
   have zi: ¬(9223372036854775807 < 1+(N6 y).size+1+(N6 z).size):=by omega
   have pu: ¬(9223372036854775807 < 1+(N6 y).size+1+(N6 z).size+1):=by omega
   obtain⟨s0,s1,s2,-,-,-⟩:=own3 zj;clear hr F p i E R J E7 D hf gg l U5 F5;go_enter func196,ntmps196;go_wp2_with fail;generalize World.alloc w _=C at*;have M:=hdq (show∀c,Ext C c->c.cell? ⟨w.heap.size,2,none⟩=some (.slice (some ⟨b,o,none⟩) a.length cap)/\c.cell? ⟨b,o,none⟩=some (j0 H)/\c.cell? ⟨b,o+1,none⟩=some (j0 n0)/\c.cell? ⟨b,o+2,none⟩=some (.slice U K.length Y)/\c.cell? ⟨b,o+3,none⟩=some (j0 Q)/\c.cell? ⟨b,o+3+1,none⟩=some (j0 O)/\c.cell? ⟨b,o+3+2,none⟩=some (.slice A1 q16.length D3) from fun c f=>⟨f.cell s2,f.cell L,f.cell I,f.cell G,f.cell X,f.cell S,f.cell N⟩)
   go_region_held3 (fun c=> c.cell? ⟨w.heap.size,2,none⟩=some (.slice (some ⟨b,o,none⟩) a.length cap)/\c.cell? ⟨b,o,none⟩=some (j0 H)/\c.cell? ⟨b,o+1,none⟩=some (j0 n0)/\c.cell? ⟨b,o+2,none⟩=some (.slice U K.length Y)/\c.cell? ⟨b,o+3,none⟩=some (j0 Q)/\c.cell? ⟨b,o+3+1,none⟩=some (j0 O)/\c.cell? ⟨b,o+3+2,none⟩=some (.slice A1 q16.length D3))
    (first|exact M.out _ ((xr C).drew.trans (r.trans e3)) |exact M.out _ ((xr C).drew.trans r) |exact M.out _ (xr C).drew)
    (first|(go_at_call 196;(with_reducible refine(g.out _ (xr C).drew).mono ?_);rintro e w2 ⟨rfl,r⟩) |(go_at_call 196;refine(Z.out _ ((xr C).drew.trans r)).mono ?_;rintro e w3 ⟨rfl,e3⟩))
   clear s0 s1 s2 L I G X S N M;go_wp2_with fail;go_ret;exact⟨by rw[HR.out];simp only[<-fd];rfl,hx.trans ((xr C).drew.trans (r.trans e3))⟩
 by_cases c9:k=9
 · subst c9
   have hf:=gA [44] (by simp) a true;have g:=hdq (fun W (u:Ext w W)=> CF a hk (d - 1) s (by omega) W A cap (hK.ext u) hl hc);have q:(D7 [44] a true).length<=10000:=by omega
   have hr:N3 (.mk 9 n a)= [60]++D7 [44] a true++ [62]:=by
    simp[N3,ff,oj,pf]
   obtain⟨y,i⟩: ∃y,y=D7 [44] a true:=⟨_,rfl⟩;rw[<-i] at g q hr;have hx1:=Wd q;have HR:=hdq hr;have uh:((⟨#[60]⟩:ByteArray)++N6 y).size<=10002:=by
    have:=Wd (x:= [60]++y) (n:=10002) (by simp;omega)
    rwa [<-fd] at this
   clear hr i D hf;go_enter func196,ntmps196;go_wp2_with fail;refine(g.out _ hx).mono ?_;rintro e w2 ⟨rfl,r⟩;go_wp2_with fail;go_ret;exact⟨by rw[HR.out,<-fd,<-fd];rfl,hx.trans r⟩
 by_cases c10:k=10
 · subst c10
   have hf:=gA [44] (by simp) a true;have g:=hdq (fun W (u:Ext w W)=> CF a hk (d - 1) s (by omega) W A cap (hK.ext u) hl hc);have q:(D7 [44] a true).length<=10000:=by omega
   have hr:N3 (.mk 10 n a)= [123]++D7 [44] a true++ [125]:=by
    simp[N3,ff,oj,pf]
   obtain⟨y,i⟩: ∃y,y=D7 [44] a true:=⟨_,rfl⟩;rw[<-i] at g q hr;have hx1:=Wd q;have HR:=hdq hr;have uh:((⟨#[123]⟩:ByteArray)++N6 y).size<=10002:=by
    have:=Wd (x:= [123]++y) (n:=10002) (by simp;omega)
    rwa [<-fd] at this
   clear hr i D hf;go_enter func196,ntmps196;go_wp2_with fail;refine(g.out _ hx).mono ?_;rintro e w2 ⟨rfl,r⟩;go_wp2_with fail;go_ret;exact⟨by rw[HR.out,<-fd,<-fd];rfl,hx.trans r⟩
 by_cases c14:k=14
 · subst c14
   have hf:=gA [44] (by simp) a true;have g:=hdq (fun W (u:Ext w W)=> CF a hk (d - 1) s (by omega) W A cap (hK.ext u) hl hc);have q:(D7 [44] a true).length<=10000:=by omega
   have hr:N3 (.mk 14 n a)= [124]++D7 [44] a true++ [124]:=by
    simp[N3,ff,oj,pf]
   obtain⟨y,i⟩: ∃y,y=D7 [44] a true:=⟨_,rfl⟩;rw[<-i] at g q hr;have hx1:=Wd q;have HR:=hdq hr;have uh:((⟨#[124]⟩:ByteArray)++N6 y).size<=10002:=by
    have:=Wd (x:= [124]++y) (n:=10002) (by simp;omega)
    rwa [<-fd] at this
   clear hr i D hf;go_enter func196,ntmps196;go_wp2_with fail;refine(g.out _ hx).mono ?_;rintro e w2 ⟨rfl,r⟩;go_wp2_with fail;go_ret;exact⟨by rw[HR.out,<-fd,<-fd];rfl,hx.trans r⟩
 by_cases c12:k=12
 · subst c12
   have hf:=gA [44] (by simp) a true;have g:=hdq (fun W (u:Ext w W)=> CF a hk (d - 1) s (by omega) W A cap (hK.ext u) hl hc);have q:(D7 [44] a true).length<=10000:=by omega
   have hr:N3 (.mk 12 n a)= [64,60]++D7 [44] a true++ [62]:=by
    simp[N3,ff,oj,pf]
   obtain⟨y,i⟩: ∃y,y=D7 [44] a true:=⟨_,rfl⟩;rw[<-i] at g q hr;have hx1:=Wd q;have HR:=hdq hr;have uh:((⟨#[64,60]⟩:ByteArray)++N6 y).size<=10002:=by
    have:=Wd (x:= [64,60]++y) (n:=10002) (by simp;omega)
    rwa [<-fd] at this
   clear hr i D hf;go_enter func196,ntmps196;go_wp2_with fail;refine(g.out _ hx).mono ?_;rintro e w2 ⟨rfl,r⟩;go_wp2_with fail;go_ret;exact⟨by rw[HR.out,<-fd,<-fd];rfl,hx.trans r⟩
 by_cases c6:k=6
 · subst c6
   have bu:a= []:=bW (by have:(0:Int)=(a.length:Int):=D;omega);have hr:N3 (.mk 6 n a)= [78]:=by
    rw[bu];simp[N3,D7,ff,pf]
   have HR:=hdq hr;clear hr D bu;go_enter func196,ntmps196;go_wp2_with fail;go_ret;exact⟨by rw[HR.out];rfl,hx⟩
 by_cases c7:k=7
 · subst c7
   have bu:a= []:=bW (by have:(0:Int)=(a.length:Int):=D;omega);have hr:N3 (.mk 7 n a)= [48]:=by
    rw[bu];simp[N3,D7,ff,pf]
   have HR:=hdq hr;clear hr D bu;go_enter func196,ntmps196;go_wp2_with fail;go_ret;exact⟨by rw[HR.out];rfl,hx⟩
 by_cases c1:k=1
 · subst c1
   obtain⟨m,rfl⟩: ∃m:Nat,n=m:=⟨n.toNat,by omega⟩;have hm:(m:Int)<=20:=R7;have g:=hdq (fun W=> xF m (by omega) W);have hr:N3 (.mk 1 m a)= [35]++Yc m:=by
    simp[N3]
   have q:=Zy m;obtain⟨y,i⟩: ∃y,y=Yc m:=⟨_,rfl⟩;rw[<-i] at g q hr;have hx1:=Wd q;have HR:=hdq hr;clear hr D i;go_enter func196,ntmps196;go_wp2_with fail;refine(g.out _).mono ?_;rintro e w2 ⟨rfl,r⟩;go_wp2_with fail;go_ret;exact⟨by rw[HR.out,<-fd];rfl,hx.trans r⟩
 by_cases c2:k=2
 · subst c2
   obtain⟨m,rfl⟩: ∃m:Nat,n=m:=⟨n.toNat,by omega⟩;have hm:(m:Int)<=3:=R7;have g:=hdq (fun W=> xF m (by omega) W);have hr:N3 (.mk 2 m a)= [42]++Yc m:=by
    simp[N3]
   have q:=Zy m;obtain⟨y,i⟩: ∃y,y=Yc m:=⟨_,rfl⟩;rw[<-i] at g q hr;have hx1:=Wd q;have HR:=hdq hr;clear hr D i;go_enter func196,ntmps196;go_wp2_with fail;refine(g.out _).mono ?_;rintro e w2 ⟨rfl,r⟩;go_wp2_with fail;go_ret;exact⟨by rw[HR.out,<-fd];rfl,hx.trans r⟩
 exfalso
 have ze:0<=S0 k:=by omega
 unfold S0 at ze
 repeat rw[if_neg (by omega)] at ze
 omega
theorem ZI(t:Tr)(w:aN)(v:Value)(f:Lies w t v):Calls prog 177 #[v] w fun e o=> e= .returned (.string (N6 (Rg t)))/\Ext w o:=by
 have d:=hdq (fun W (c:Ext w W)=> rj t W v (f.ext c));have i:=hdq (fun(hv:valid sigT t=true) W (c:Ext w W)=> mK t W v 30 (N4 hv).1 (by have:=(N4 hv).2;omega) (f.ext c));have hf:Rg t=if valid sigT t=true then N3 t else []:=rfl
 obtain⟨b,j⟩: ∃b,b=valid sigT t:=⟨_,rfl⟩;rw[<-j] at d i hf;have g:=hdq hf;clear j hf;obtain⟨k,n,l⟩:=t;obtain⟨A,cap,rfl,hl,hc,hK⟩:=Lies.mk_iff.1 f;have hx:Ext w (w.alloc (D0 k n A l.length cap)):=(xr w).alloc _;have q:=aT w (D0 k n A l.length cap);cases b with
 |false=>
  go_enter func177,ntmps177;go_wp2_with fail;refine(d.out _ hx).mono ?_;rintro e m ⟨rfl,a⟩;go_wp2_with fail;go_ret;exact⟨by rw[g.out];rfl,hx.trans a⟩
 |true=>
  go_enter func177,ntmps177;go_wp2_with fail;refine(d.out _ hx).mono ?_;rintro e m ⟨rfl,a⟩;obtain⟨u,s,r,-,-,-⟩:=own3 (a.blk q);go_wp2_with fail;refine(i.out trivial _ (hx.trans a)).mono ?_;rintro e x ⟨rfl,p⟩;go_wp2_with fail;go_ret;exact⟨by rw[g.out];rfl,(hx.trans a).trans p⟩
theorem Tj(k:Int):sigT.most k<=20:=by
 show Za k<=20
 unfold Za
 split
 · omega
 · split <;> omega
theorem Nv{w:aN}{base:Nat}{e:TypeId}{v:Value}{ns:List Int}(hG:w.ownsRow base e 1 v ns.length (ns.map (Value.int .i64))): ∃B c,v= .slice B ns.length c/\ns.length<=c/\c<=maxLen/\Xb w B ns:=by
 have n:=fun a b=> hG.cells (g:=a) b
 rcases hG.2 with⟨rfl,m⟩ |⟨a,o,i,rfl,k,b,j,l,_⟩
 · obtain rfl:ns= []:=bW m
   exact⟨none,0,rfl,Nat.le_refl _,Nat.zero_le _,.inl rfl⟩
 · refine⟨_,o,rfl,j,l,.inr ⟨a,0,rfl,D1 b,fun d f=> ?_⟩⟩
   have:=n a rfl d (j0 ns[d]) (by rw[List.getElem?_map,List.getElem?_eq_getElem f];rfl)
   rwa [Addr.add_lit] at this
theorem InK.two{w:aN}{S:Nat->Prop}{e:TypeId}{t f:Tr}{v0 v1 v2 c d b:Value}{g:Nat}(h:InT w S t (.agg #[v0,v1,v2]))(i:InT w S f (.agg #[c,d,b]))(a:w.heap[g]? =some (.cells #[v0,v1,v2,c,d,b] e (0,0)))(hS:S g):InK w S (some ⟨g,0,none⟩) [t,f]:=by
 refine .inr ⟨g,0,rfl,hS, ?_⟩;unfold d5;refine⟨⟨v0,v1,v2,E1 a 0,E1 a 1,E1 a 2,h⟩, ?_⟩;unfold d5;refine⟨⟨c,d,b,E1 a 3,E1 a 4,E1 a 5,i⟩, ?_⟩;unfold d5
 trivial
theorem InT.three{w:aN}{S:Nat->Prop}{t:Tr}{u:Value}(h:InT w S t u): ∃k n A l c,u= m0 k n A l c:=by
 obtain⟨k,n,a⟩:=t;obtain⟨A,cap,rfl,_⟩:=InT.mk_iff.1 h;exact⟨k,n,A,_,cap,rfl⟩
theorem YB{g:Ud}: ∀{ts:List Tr} {d:Int},(∀t∈ts,I0 g t d=true)->ma g ts d=true
 | [],_,_=> rfl
 |t::ts,d,h=> by
  simp only[ma,aX];exact⟨h t (by simp),YB (fun x hx=> h x (by simp[hx]))⟩
theorem gK{g:Ud}{k n:Int}{a:List Tr}{d:Int}(i:1<=d)(b:g.ops k=(a.length:Int))(c:0<=n)(e:n<=g.most k)(f: ∀t∈a,I0 g t (d - 1)=true):I0 g (.mk k n a) d=true:=by
 simp only[I0,Nj,aX,decide_eq_true_eq];exact⟨i,⟨b,ti.2 ⟨c,e⟩⟩,YB f⟩
theorem KJ{g:Ud}{t:Tr}{d:Int}(h:I0 g t d=true):1<=d:=by
 obtain⟨k,n,a⟩:=t;simp only[I0,aX,decide_eq_true_eq] at h;exact h.1
theorem Tf{g:Ud}: ∀{t:Tr} {d e:Int},I0 g t d=true->d<=e->I0 g t e=true:=by
 intro t;refine Tr.ind (P:=fun t=> ∀{d e:Int},I0 g t d=true->d<=e->I0 g t e=true) (fun k n i ih=> ?_) t;intro d e h hd;obtain⟨f,a,b,c⟩:=m6 h;have:=KJ h;exact gK (by omega) f a b (fun t ht=> ih t ht (c t ht) (by omega))
