/-
  Lemmas towards the law, 8: Draw, Free, DrawFun, Own, Copy.
-/
import Derived.Test.YtckhbnmfnpolgaaGreatBAG
import Derived.Laws.BitsAllLaws
open Go renaming World->aK,TypeId->aY,Value->aS,maxLen->aU,Calls->aV,heap_alloc_new->aR
open Go.World renaming cell?_of_block->dQ,block_lt_of_cell?->bR
open List renaming length_take->cU,getElem?_eq_getElem->bV,take_append_getElem->fP,length_append->cL,length_singleton->cO,take_length->iN
open Nat renaming le_refl->aM,zero_le->bT
open Int renaming eq_ofNat_of_zero_le->cV
open Bool renaming and_eq_true->aW
open Go.Proofs.Tryz
set_option linter.unusedVariables false
set_option maxHeartbeats 2000000
set_option maxRecDepth 100000
namespace Go.Proofs.YtckhbnmfnpolgaaGreat
open Go.RowKit Go.ChangeShapes Go.WideShapes Go.Deep
def Wd(w:aK)(B:Nat)(A:Option Addr)(ns:List Int):Prop:=ns= []\/ ∃b o,A=some ⟨b,o,none⟩/\b < B/\b < w.heap.size/\ ∀j (h:j < ns.length),w.cell? ⟨b,o+j,none⟩=some (.int .u8 ns[j])/\0<=ns[j]/\ns[j] < 256
theorem Wd.below{w c:aK}{B:Nat}{A:Option Addr}{ns:List Int}(h:Wd w B A ns)(hs:w.heap.size<=c.heap.size)(g: ∀b,b < B->b < w.heap.size->c.heap[b]? =w.heap[b]?):Wd c B A ns:=by
 rcases h with h|⟨b,o,rfl,f,d,hc⟩
 · exact .inl h
 · exact .inr ⟨b,o,rfl,f,by omega,fun j e=>⟨(dQ (w:=w) (a:=⟨b,o+j,none⟩) (g b f d)).trans (hc j e).1,(hc j e).2⟩⟩
theorem Wd.ext{w a:aK}{B:Nat}{A:Option Addr}{ns:List Int}(h:Wd w B A ns)(c:Ext w a):Wd a B A ns:=h.below c.size (fun b _ d=> c.heap b d)
theorem Wd.mono{w:aK}{B a:Nat}{A:Option Addr}{ns:List Int}(h:Wd w B A ns)(d:B<=a):Wd w a A ns:=by
 rcases h with h|⟨b,o,rfl,c,r⟩
 · exact .inl h
 · exact .inr ⟨b,o,rfl,by omega,r⟩
theorem Wd.take{w:aK}{B:Nat}{A:Option Addr}{ns:List Int}(h:Wd w B A ns)(n:Nat):Wd w B A (ns.take n):=by
 rcases h with rfl|⟨b,o,rfl,c,hs,hc⟩
 · exact .inl (by simp)
 · refine .inr ⟨b,o,rfl,c,hs,fun j a=> ?_⟩
   rw[cU] at a;rw[List.getElem_take];exact hc j (by omega)
section
variable {H : Type} {enc : aY × aS → H} {P : Program} {w : aK} {spare : Nat → Bool} {held : Bool}
theorem uI{s i:aY}(hs:P.underlying s=some (.slice i))(hi:P.underlying i=some (.int .u8))(ci:P.cellsOf i=1){r:Reach}{J:Nat}{v:aS}{d:DataW H}{p:List MemPlace}(hv:Value.okWide P w r J s v)(h:DataW.Trod enc P w 0 spare held s v d p):
 ∃(A:Option Addr) (cap:Nat) (ns:List Int),v= .slice A ns.length cap/\ns.length<=cap/\cap<=aU/\Wd w w.heap.size A ns/\(A=none->cap=0):=by
 obtain⟨K,L,M,rfl⟩:=okWide_slice hs hv;obtain⟨fuel,hf⟩:=h;rcases DataW.trod_slice hs hf with⟨e,_⟩ |⟨a,len,cap,u,rest,n,rfl,e,_,_,hl,hm,B,G,_,_⟩
 · simp only[Value.cells,List.cons.injEq,and_true] at e
   exact⟨none,0, [],e,aM _,bT _,.inl rfl,fun _=> rfl⟩
 · have D: ∀j,j < len-> ∃x:Int,w.cell? (a.add j)=some (.int .u8 x)/\0<=x/\x < 256:=by
    intro j q;have l:=G j q;rw[bV (by omega)] at l;obtain⟨E,C,I⟩:=Option.bind_eq_some_iff.1 l;obtain⟨x,rfl,_,t⟩:=DataW.trod_int hi I;obtain⟨_,_,f⟩:=World.cells?_some C;rw[ci] at f;have g:=f 0 (by omega);rw[Nat.mul_one] at g;have m: ∀y:Addr,y.add 0=y:=fun y=> by simp[Addr.add]
    rw[m] at g;simp[Lit.wf,IntKind.min,IntKind.max,IntKind.signed,IntKind.bits] at t
    exact⟨x,g,by omega,by omega⟩
   obtain⟨ns,F,z⟩:=uD len D;subst F;simp only[Value.cells,List.cons.injEq,and_true] at e;refine⟨some a,cap,ns,e,hl,hm, ?_,fun h=> by cases h⟩;cases ns with
   |nil=> exact .inl rfl
   |cons t0 ts=>
    obtain⟨b,o,c⟩:=a;have k:b < w.heap.size/\c=none:=by
     have g:=(z 0 (by simp)).1;have m:(⟨b,o,c⟩:Addr).add 0=⟨b,o,c⟩:=by simp[Addr.add]
     rw[m] at g;exact⟨bR _ _ g,by simpa using World.cell?_spot g⟩
    obtain⟨k,rfl⟩:=k;refine .inr ⟨b,o,rfl,k,k,fun j q=> ?_⟩;have g:=z j q;rw[CD] at g;exact g
end
theorem bE(a b:Int)(c:0<=a)(g:a < 4611686018427387904)(d:0<=b)(f:b < 4611686018427387904):0<=bits .xor .i64 a b/\bits .xor .i64 a b < 4611686018427387904:=by
 obtain⟨x,rfl⟩:=cV c;obtain⟨y,rfl⟩:=cV d;have hx:x ^^^ y < 2 ^ 62:=Nat.xor_lt_two_pow (by omega) (by omega);have e:bits .xor .i64 (x:Int) (y:Int)=((x ^^^ y:Nat):Int):=by
  show IntKind.i64.wrap ((BitVec.ofInt 64 (x:Int)^^^ BitVec.ofInt 64 (y:Int)).toNat:Int)=_
  rw[BitVec.toNat_xor,ofInt_u64 x (by omega),ofInt_u64 y (by omega)];simp only[IntKind.wrap,IntKind.bits,IntKind.signed];simp
  omega
 rw[e];omega
def Rd(w:aK)(g:Nat)(m:Nat):Prop:= ∃(A:Option Addr) (cap:Nat) (a:List Int) (p:Nat),w.heap[g]? =some (.cells #[.slice A a.length cap,.int .i64 p] 88 (0,0))/\a.length<=cap/\cap<=aU/\a.length<=2000/\p<=m/\Wd w g A a
theorem Rd.drewN{w:aK}{g m:Nat}(h:Rd w g m)(n:Nat):Rd (w.drewN n) g m:=by
 obtain⟨A,cap,d,p,c,b,f,i,a,e⟩:=h;exact⟨A,cap,d,p,c,b,f,i,a,e.below (aM _) (fun _ _ _=> rfl)⟩
theorem X0.drewN{L:List Nat}{a b:aK}(h:X0 L a b)(n:Nat):X0 L a (b.drewN n):=⟨h.os,h.tape,h.output,h.size,h.block⟩
theorem fC{w:aK}{g:Nat}{c b:aS}{e:aY}(a:w.heap[g]? =some (.cells #[c,b] e (0,0))):
 w.cell? ⟨g,0,none⟩=some c/\w.cell? ⟨g,1,none⟩=some b/\w.frozen? ⟨g,0,none⟩=false/\w.frozen? ⟨g,1,none⟩=false:=
 ⟨i1 a 0,i1 a 1,Ob a 0,Ob a 1⟩
theorem Pf(w:aK)(g m:Nat)(n:Int)(h:Rd w g m)(hm:m < 1125899906842624):aV prog 67 #[.pointer (some ⟨g,0,none⟩),.int .i64 n] w fun e O=>
 ∃x:Int,e= .returned (.int .i64 x)/\0<=x/\(x=0\/x < n)/\Rd O g (m+1)/\X0 [g] w O:=by
 obtain⟨A,cap,c,p,v,hl,hc,G,Z,C⟩:=h;have R:=O1 v;obtain⟨u,l⟩: ∃u,u=w.setCell ⟨g,1,none⟩ (.int .i64 ((p:Int)+1)):=⟨_,rfl⟩;have f:u.heap[g]? =some (.cells #[.slice A c.length cap,.int .i64 ((p:Int)+1)] 88 (0,0)):=l▸M6 v 1 _;have t:X0 [g] w u:=l▸(X0.refl _ _).setCell (by simp) _;have W:Wd u g A c:=C.below t.size (fun b v hs=> t.block b hs (by simp;omega));have M:Rd u g (m+1):=⟨A,cap,c,p+1,by simpa using f,hl,hc,G,by omega,W⟩;obtain⟨c0,X,f0,f1⟩:=fC v;obtain⟨d0,d1,-,-⟩:=fC f;have HB:=hdq v;have Da:=hdq f;have HR:=hdq M;clear v f M;by_cases hn:n < 1
 · have U:decide (n < 1)=true:=decide_eq_true hn
   go_enter func67,ntmps67;go_wp2_with fail;rw[<-l];go_ret;exact⟨0,rfl,Int.le_refl _,.inl rfl,HR.out,t⟩
 have U:decide (n < 1)=false:=decide_eq_false hn;by_cases r:c= []
 · subst r
   go_enter func67,ntmps67;go_wp2_with fail;rw[<-l];go_ret;exact⟨0,rfl,Int.le_refl _,.inl rfl,HR.out,t⟩
 have i:0 < c.length:=List.length_pos_iff.2 r;rcases C with C|⟨bb,o,rfl,V,N,a⟩
 · exact absurd C r
 have b2:((c.length:Int)==0)=false:=by rw[beq_eq_false_iff_ne];omega
 by_cases hk:p < c.length
 · have S:decide ((p:Int) <(c.length:Int))=true:=decide_eq_true (by omega)
   obtain⟨I,F,K⟩:=a p hk;generalize c[p]=x at I F K;clear a;go_enter func67,ntmps67;go_wp2_with fail;rw[<-l];go_ret;exact⟨_,rfl,Int.emod_nonneg _ (by omega),.inr (Int.emod_lt_of_pos _ (by omega)),HR.out,t⟩
 · have S:decide ((p:Int) <(c.length:Int))=false:=decide_eq_false (by omega)
   obtain⟨s,j⟩: ∃s:Nat,s=p % c.length:=⟨_,rfl⟩;obtain⟨B,k⟩: ∃B:Nat,B=(p*7+3) % c.length:=⟨_,rfl⟩;have Q:s < c.length:=j▸Nat.mod_lt _ i;have G:B < c.length:=k▸Nat.mod_lt _ i;have e1:((p:Int) % (c.length:Int))=(s:Int):=by rw[j];exact(Int.natCast_emod p c.length).symm
   have e2:(((p:Int)*7+3) % (c.length:Int))=(B:Int):=by rw[k];rw[Int.natCast_emod];rfl
   obtain⟨d,hd⟩: ∃d:Nat,d=p / c.length:=⟨_,rfl⟩;have h3:d<=p:=hd▸Nat.div_le_self _ _;have e3:((p:Int) /(c.length:Int))=(d:Int):=by rw[hd];exact(Int.natCast_ediv p c.length).symm
   obtain⟨I,F,K⟩:=a s Q;obtain⟨T,D,J⟩:=a B G;generalize c[s]=x at I F K;generalize c[B]=y at T D J;clear a j k hd;go_enter func67,ntmps67;go_wp2_with fail;rw[<-l]
   go_quiet (fail)
   obtain⟨z,r⟩: ∃z:Int,z=x*131+y*1117+(p:Int)*29+(d:Int)*53:=⟨_,rfl⟩;rw[<-r];have L:0<=z:=by omega
   have E:z < 4611686018427387904:=by omega
   have hx:=bE z (z / 64) L E (by omega) (by omega);clear r;generalize Y:bits .xor .i64 z (z / 64)=q at hx;go_wp2_with fail;rw[<-l];go_ret;exact⟨_,rfl,Int.emod_nonneg _ (by omega),.inr (Int.emod_lt_of_pos _ (by omega)),HR.out.drewN _,t.drewN _⟩
theorem an(w:aK)(g m:Nat)(h:Rd w g m)(hm:m < 1125899906842624)(A:Option Addr)(cap:Nat)(ns:List Int)(hl:ns.length<=cap)(hc:cap<=aU)(r:0 < ns.length)(hN:Qa w A ns)(hA: ∀b o,A=some ⟨b,o,none⟩->b≠g):aV prog 100 #[.pointer (some ⟨g,0,none⟩),.slice A ns.length cap] w fun e n=>
 ∃x:Int,e= .returned (.int .i64 x)/\x∈ns/\Rd n g (m+1)/\X0 [g] w n:=by
 unfold aU at hc;rcases hN with hN|⟨b,o,rfl,t,c⟩
 · subst hN
   cases r
 go_enter func100,ntmps100;go_wp2_with fail;refine(Pf w g m ns.length h hm).mono ?_;rintro e s ⟨i,rfl,q,u,p,k⟩;obtain⟨j,rfl⟩:=cV q;have f:j < ns.length:=by omega
 have d:s.cell? ⟨b,o+j,none⟩=some (.int .i64 ns[j]):=(dQ (w:=w) (a:=⟨b,o+j,none⟩) (k.block b t (by have:=hA b o rfl;simpa using this))).trans (c j f);have l:=List.getElem_mem f;generalize ns[j]=x at d l;clear c;go_wp2_with fail;go_ret;exact⟨x,rfl,l,p,k⟩
theorem lG(w:aK)(A:Option Addr)(cap:Nat)(a:List Int)(hl:a.length<=cap)(hc:cap<=aU)(i:Wd w w.heap.size A a):aV prog 53 #[.slice A a.length cap] w fun e g=>
 e= .returned (.pointer (some ⟨w.heap.size,0,none⟩))/\Rd g w.heap.size 0/\Ext w g:=by
 have b:=hc;unfold aU at hc;have f: ∀(k:Nat) (c:Nat),k<=a.length->k<=c->c<=aU->k<=2000->Rd (w.alloc (.cells #[.slice A k c,.int .i64 0] 88)) w.heap.size 0:=by
  intro k c m j l n;have hk:(a.take k).length=k:=by rw[cU];omega
  refine⟨A,c,a.take k,0, ?_,by omega,l,by omega,aM _,(i.take k).ext ((xr w).alloc _)⟩;rw[hk];exact aR w _
 by_cases j:2000 < a.length
 · have d:decide ((2000:Int) <(a.length:Int))=true:=decide_eq_true (by omega)
   have R:=f 2000 cap (by omega) (by omega) b (aM _);go_enter func53,ntmps53;go_wp2_with fail;go_ret;exact⟨rfl,R,(xr w).alloc _⟩
 · have d:decide ((2000:Int) <(a.length:Int))=false:=decide_eq_false (by omega)
   have R:=f a.length cap (aM _) hl b (by omega);go_enter func53,ntmps53;go_wp2_with fail;go_ret;exact⟨rfl,R,(xr w).alloc _⟩
end Go.Proofs.YtckhbnmfnpolgaaGreat
namespace Go.Proofs.YtckhbnmfnpolgaaGreat
open Go.RowKit
def E4(k:Int)(i:Nat):Int:=if i=1/\(k=3\/k=4\/k=13) then 1 else 0
theorem Xp(k:Int)(i:Nat):0<=E4 k i/\E4 k i<=1:=by unfold E4;split <;> omega
def el(k:Int):Bool:=k==3||k==4||k==13
theorem Rk(k:Int)(i:Nat):E4 k i=if((i:Int)==1 && el k)=true then 1 else 0:=by
 unfold E4 el;by_cases h:i=1
 · subst h
   by_cases c:k=3
   · subst c;rfl
   · by_cases a:k=4
     · subst a;rfl
     · by_cases b:k=13
       · subst b;rfl
       · rw[if_neg (by omega),if_neg (by simp[c,a,b])]
 · rw[if_neg (by omega),if_neg (by rw[beq_eq_false_iff_ne.2 (by omega:(i:Int)≠1)];simp)]
theorem Z4{g:Oc}{k n:Int}{a:List Tr}{d:Int}(h:D0 g (.mk k n a) d=true):g.ops k=(a.length:Int)/\0<=n/\n<=g.most k/\ ∀t∈a,D0 g t (d - 1)=true:=by
 have mem: ∀{a:List Tr} {d:Int} {t:Tr},m9 g a d=true->t∈a->D0 g t d=true:=by
  intro a
  induction a with
  |nil=> intro d t _ hm;cases hm
  |cons x a ih=>
   intro d t h hm;simp only[m9,aW] at h;rcases List.mem_cons.1 hm with rfl|hm
   · exact h.1
   · exact ih h.2 hm
 simp only[D0,li,aW] at h;have c:=of_decide_eq_true h.2.1.1;have b:=Yf.1 h.2.1.2;exact⟨c,b.1,b.2,fun t ht=> mem h.2.2 ht⟩
theorem nH(k:Int)(w:aK):aV prog 178 #[.int .i64 k] w fun e g=> e= .returned (.bool (el k))/\w=g:=by
 obtain⟨a,j⟩: ∃b,(k==3)=b:=⟨_,rfl⟩;obtain⟨d,f⟩: ∃b,(k==4)=b:=⟨_,rfl⟩;obtain⟨c,i⟩: ∃b,(k==13)=b:=⟨_,rfl⟩;have e:el k=(a||d||c):=by unfold el;rw[j,f,i]
 have E:=hdq e;clear e;cases a <;> cases d <;> cases c
 all_goals go_enter func178,ntmps178
 all_goals go_wp2_with fail
 all_goals go_ret
 all_goals exact⟨by rw[E.out];rfl,rfl⟩
theorem ws(k:Int)(i:Nat)(w:aK):aV prog 138 #[.int .i64 k,.int .i64 i] w fun e f=> e= .returned (.int .i64 (E4 k i))/\w=f:=by
 obtain⟨j,d⟩: ∃b,((i:Int)==1)=b:=⟨_,rfl⟩;have c:=hdq (nH k);obtain⟨g,a⟩: ∃b,el k=b:=⟨_,rfl⟩;have E:=hdq (Rk k i);rw[d,a] at E;rw[a] at c;clear a;cases j <;> cases g
 all_goals go_enter func138,ntmps138
 all_goals go_wp2_with (go_at_call 178;refine(c.out _).mono ?_;rintro e l ⟨rfl,rfl⟩)
 all_goals go_ret
 all_goals exact⟨by rw[E.out];rfl,rfl⟩
theorem zF(k:Int)(i:Nat)(w:aK):aV prog 161 #[.int .i64 k,.int .i64 i] w fun e l=> e= .returned (.bool ((i:Int)==1 && el k))/\w=l:=by
 obtain⟨f,j⟩: ∃b,((i:Int)==1)=b:=⟨_,rfl⟩;obtain⟨a,n⟩: ∃b,(k==3)=b:=⟨_,rfl⟩;obtain⟨d,g⟩: ∃b,(k==4)=b:=⟨_,rfl⟩;obtain⟨c,m⟩: ∃b,(k==13)=b:=⟨_,rfl⟩;have e:((i:Int)==1 && el k)=(f &&(a||d||c)):=by unfold el;rw[j,n,g,m]
 have E:=hdq e;clear e;cases f <;> cases a <;> cases d <;> cases c
 all_goals go_enter func161,ntmps161
 all_goals go_wp2_with fail
 all_goals go_ret
 all_goals exact⟨by rw[E.out];rfl,rfl⟩
theorem Fz(k:Int)(i:Nat)(w:aK):aV prog 127 #[.int .i64 k,.int .i64 i] w fun e d=> e= .returned (.int .i64 (E4 k i))/\w=d:=by
 have a:=hdq (zF k i);have E:=hdq (Rk k i);obtain⟨f,c⟩: ∃b,((i:Int)==1 && el k)=b:=⟨_,rfl⟩;rw[c] at E a;clear c;cases f
 all_goals go_enter func127,ntmps127
 all_goals go_wp2_with (go_at_call 161;refine(a.out _).mono ?_;rintro e g ⟨rfl,rfl⟩)
 all_goals go_ret
 all_goals exact⟨by rw[E.out];rfl,rfl⟩
theorem Z3{g:Oc}{t:Tr}(h:j0 g t=true):D0 g t 30=true/\cnt t<=400:=by
 unfold j0 at h;rw[aW] at h;exact⟨h.1,of_decide_eq_true h.2⟩
theorem OG{w:aK}{g:Nat}{cs:Array aS}{e:aY}{ns:List Int}(a:w.heap[g]? =some (.cells cs e (0,0)))(hc:cs.toList=ns.map (Value.int .i64)):Qa w (some ⟨g,0,none⟩) ns:=by
 refine .inr ⟨g,0,rfl,O1 a,fun j b=> ?_⟩;rw[i1 a,<-Array.getElem?_toList,hc,Nat.zero_add,List.getElem?_map,bV b]
 rfl
theorem Rd.ext{w a:aK}{g m:Nat}(h:Rd w g m)(b:Ext w a):Rd a g m:=by
 obtain⟨A,cap,f,p,e,d,j,k,c,i⟩:=h;exact⟨A,cap,f,p,b.blk e,d,j,k,c,i.ext b⟩
theorem Rd.lt{w:aK}{g m:Nat}(h:Rd w g m):g < w.heap.size:=by
 obtain⟨A,cap,b,p,a,_⟩:=h;exact O1 a
theorem Rd.mono{w:aK}{g m a:Nat}(h:Rd w g m)(hm:m<=a):Rd w g a:=by
 obtain⟨A,cap,d,p,c,b,f,i,j,e⟩:=h;exact⟨A,cap,d,p,c,b,f,i,by omega,e⟩
def dj(W w:aK)(e:aY)(v:aS)(ns:List Int):Prop:=w.ownsRow W.heap.size e 1 v ns.length (ns.map (Value.int .i64))
theorem dj.only{W w d:aK}{e:aY}{v:aS}{ns:List Int}{L:List Nat}(h:dj W w e v ns)(i:X0 L w d)(j: ∀b,b∈L->b < W.heap.size):dj W d e v ns:=by
 refine⟨h.1, ?_⟩;rcases h.2 with h|⟨g,cap,a,rfl,f,c,r⟩
 · exact .inl h
 · exact .inr ⟨g,cap,a,rfl,f,(i.block g (O1 c) (fun hm=> by have:=j g hm;omega)).trans c,r⟩
end Go.Proofs.YtckhbnmfnpolgaaGreat
namespace Go.Proofs.YtckhbnmfnpolgaaGreat
open Go.RowKit
attribute [local go_sem ↓] Go.wp_at_zero Go.wp_at_succ
def rH(t:Tr):Prop:= ∀(w:aK) (v:aS),Lies w t v->cnt t<=1000000->
 aV prog 43 #[v] w fun e a=> ∃u,e= .returned u/\P0 w a 25 t u/\Ext w a
theorem PD:(prog.info? 25).map (fun i=>(i.zero,i.size,i.bytes))=some (some (.agg #[.int .i64 0,.int .i64 0,.slice none 0 0]),3,40):=by kernel_rfl
theorem ti: ∀t:Tr,rH t:=Tr.ind fun k n a hk=> by
 intro w v b8 O8;obtain⟨A,cap,rfl,hl,hc,hK⟩:=Lies.mk_iff.1 b8;obtain⟨i0,hi,M,I,D⟩:=info_parts PD;have q:=hc;unfold aU at q;simp only[cnt] at O8;have hlc:=kf a;go_enter func43,ntmps43;go_wp2_with fail;obtain⟨c,z⟩: ∃c,c=(w.alloc (.cells #[.int .i64 k,.int .i64 n,.slice A a.length cap] 25)).alloc (.cells #[.int .i64 0,.int .i64 0,.slice none 0 0] 25):=⟨_,rfl⟩;obtain⟨W,x⟩: ∃W,W=c.alloc (.cells #[.int .i64 k,.int .i64 n,.slice none 0 0] 25):=⟨_,rfl⟩;have K:c.heap.size=w.heap.size+1+1:=by rw[z];simp
 have ju:W.heap.size=w.heap.size+3:=by rw[x];simp;omega
 have S:Ext w c:=z▸((xr w).alloc _).alloc _;have Z8:Ext c W:=x▸(xr c).alloc _;have E1:c.heap[w.heap.size+1]? =some (.cells #[.int .i64 0,.int .i64 0,.slice none 0 0] 25 (0,0)):=by
  rw[z];exact(W3 (xr _)).2.1
 have cg:W.heap[w.heap.size+1+1]? =some (.cells #[.int .i64 k,.int .i64 n,.slice none 0 0] 25 (0,0)):=by
  have:=aR c (.cells #[.int .i64 k,.int .i64 n,.slice none 0 0] 25);rw[K] at this;rw[x];exact this
 rw[<-z,<-x];clear x z
 go_loopw [14] (fun i wr=> ∃(j:Nat) (v:aS),j<=a.length/\i= .int .i64 j/\wr.heap[w.heap.size+1+1]? =some (.cells #[.int .i64 k,.int .i64 n,v] 25 (0,0))/\N4 W wr 25 v (a.take j)/\Ext c wr/\W.heap.size<=wr.heap.size) (fun i _=> a.length -(intOf i).toNat)
 case atStart=> exact⟨0,_,bT _,rfl,cg,N4.nil _ _ _,Z8,aM _⟩
 case round=>
  obtain⟨j,v,hj,rfl,B,hG,m,J⟩:=hrel;by_cases s:j < a.length
  · obtain⟨b,o,k',Q,T,d,kids,rfl,HK,c0,c1,c2,G7,G0,hK',u6,d6⟩:=hK.get (S.trans m) s
    have X:=fP s;rw[HK.out] at X;have hcm:=L9 d6;have y:(a.take j).length < 1099511627776:=by rw[cU];omega
    have R8:(a.take j).length=j:=by rw[cU];omega
    have HL:=hdq R8;go_wp2_with fail;have hx:=(xr wr).alloc (.cells #[.int .i64 k',.int .i64 Q,.slice T kids.length d] 25);have F:=aR wr (.cells #[.int .i64 k',.int .i64 Q,.slice T kids.length d] 25);generalize wr.alloc _=r at hx F;have I6:W.heap.size<=r.heap.size:=by have:=hx.size;omega
    have G5:=hG.ext hx;have V:=hx.blk B;have hv:=i1 V 2;have p8: ∀G,Below W.heap.size r G->G.heap[w.heap.size+1+1]? =some (.cells #[.int .i64 k,.int .i64 n,v] 25 (0,0)):=fun G hB=>(hB.block (w.heap.size+1+1) (by omega)).trans V
    have g:=hdq p8;obtain⟨d0,d1,d2,-,-,-⟩:=own3 F;have O:Ext r r.drew:=(xr r).drew;have R6:=(u6.ext hx).ext O;have bm:=m.trans hx;clear p8 R8 c0 c1 c2 B hG m J q
    go_region_law (first|(go_simp;go_at_call 43;refine(hk _ d6 _ _ R6 (by omega)).mono ?_;rintro e w4 ⟨u,rfl,E,N⟩;obtain⟨a1,a2,a3,a4,a5,rfl⟩:=E.three';have f:=i1 (g.out _ ((O.trans N).below I6)) 2;have ie:=bR _ _ f) |(refine Rx _ (by rfl) (.tmp 19) (.tmp 22) _ (by rfl) 25 i0 _ underlying23 hi M I D rfl (by rfl) G5 I6 (O.trans N) (E.since (aM _)) ((xr _).alloc _) (by rfl) (aR _ _) y ?_;intro v' w5 C l;obtain⟨R,Z,rfl,L,Y,-⟩:=C.made;have ig:=i1 (g.out _ l) 2;have qp:=Ob (g.out _ l) 2))
    all_goals(
     have U4:Ext c w5:=bm.trans' l (by omega);have hs5:=l.size;have ae:=g.out _ l;rw[cL,cO,X,show(a.take j).length+1=min (j+1) a.length from by rw[cU];omega] at C;have ib:=fun u=> C.after ((pa.refl W.heap.size w5).setCell (p:=⟨w.heap.size+1+1,2,none⟩) (by show w.heap.size+1+1 < W.heap.size;omega) u)
     clear f ie hv g E N d0 d1 d2 F;go_wp2_with fail
     go_roundw
     case rel=> exact⟨j+1,_,by omega,by go_num,M6 ae 2 _,ib _,U4.setCell (by show _<=w.heap.size+1+1;omega) _,by simp;omega⟩
     case measure=> simp[intOf];omega)
  · obtain⟨R,Z,rfl,L,Y,W5⟩:=hG.made
    have R9:j=a.length:=by omega
    have U:(a.take j).length=a.length:=by rw[R9,iN]
    obtain⟨r0,r1,r2,-,-,-⟩:=own3 B;have N7:=m.blk E1;obtain⟨s0,s1,s2,f0,f1,f2⟩:=own3 N7;rw[U] at L r2;rw[show a.take j=a from by rw[R9,iN]] at W5;clear U B;go_wp2_with fail;refine bodyPost_ret (v:= .agg #[.int .i64 k,.int .i64 n,.slice R a.length Z]) (by simp[results,results43,go_sem,s0,s1,s2]) rfl ⟨_,rfl, ?_, ?_⟩
    · exact P0.since (P0.after (P0.mk L Y W5) ((((pa.refl _ _).setCell (by show w.heap.size+1 < _;omega) _).setCell (by show w.heap.size+1 < _;omega) _).setCell (by show w.heap.size+1 < _;omega) _)) (by omega)
    · exact((((S.trans m).setCell (by simp) _).setCell (by simp) _).setCell (by simp) _)
def Zm(t:Tr):Prop:= ∀(w:aK) (v:aS),Lies w t v->cnt t<=1000000->
 aV prog 46 #[v] w fun e a=> ∃u,e= .returned u/\P0 w a 25 t u/\Ext w a
theorem yA:(prog.info? 25).map (fun i=>(i.zero,i.size,i.bytes))=some (some (.agg #[.int .i64 0,.int .i64 0,.slice none 0 0]),3,40):=by kernel_rfl
theorem Yg: ∀t:Tr,Zm t:=Tr.ind fun k n a hk=> by
 intro w v b8 O8;obtain⟨A,cap,rfl,hl,hc,hK⟩:=Lies.mk_iff.1 b8;obtain⟨i0,hi,J,F,C⟩:=info_parts yA;have q:=hc;unfold aU at q;simp only[cnt] at O8;have hlc:=kf a;go_enter func46,ntmps46;go_wp2_with fail;obtain⟨c,f⟩: ∃c,c=(w.alloc (.cells #[.int .i64 k,.int .i64 n,.slice A a.length cap] 25)).alloc (.cells #[.int .i64 0,.int .i64 0,.slice none 0 0] 25):=⟨_,rfl⟩;obtain⟨W,x⟩: ∃W,W=c.alloc (.cells #[.int .i64 k,.int .i64 n,.slice none 0 0] 25):=⟨_,rfl⟩;have G:c.heap.size=w.heap.size+1+1:=by rw[f];simp
 have ju:W.heap.size=w.heap.size+3:=by rw[x];simp;omega
 have R:Ext w c:=f▸((xr w).alloc _).alloc _;have Z8:Ext c W:=x▸(xr c).alloc _;have E1:c.heap[w.heap.size+1]? =some (.cells #[.int .i64 0,.int .i64 0,.slice none 0 0] 25 (0,0)):=by
  rw[f];exact(W3 (xr _)).2.1
 have cg:W.heap[w.heap.size+1+1]? =some (.cells #[.int .i64 k,.int .i64 n,.slice none 0 0] 25 (0,0)):=by
  have:=aR c (.cells #[.int .i64 k,.int .i64 n,.slice none 0 0] 25);rw[G] at this;rw[x];exact this
 have O:c.heap[w.heap.size]? =some (.cells #[.int .i64 k,.int .i64 n,.slice A a.length cap] 25 (0,0)):=by
  rw[f];exact(W3 (xr _)).1
 rw[<-f,<-x];clear x f
 go_loopw [4] (fun i wr=> ∃(j:Nat) (v:aS),j<=a.length/\i= .int .i64 j/\wr.heap[w.heap.size+1+1]? =some (.cells #[.int .i64 k,.int .i64 n,v] 25 (0,0))/\N4 W wr 25 v (a.take j)/\Ext c wr/\W.heap.size<=wr.heap.size) (fun i _=> a.length -(intOf i).toNat)
 case atStart=> exact⟨0,_,bT _,rfl,cg,N4.nil _ _ _,Z8,aM _⟩
 case round=>
  obtain⟨j,v,hj,rfl,z,hG,d,s⟩:=hrel;by_cases r:j < a.length
  · obtain⟨b,o,k',n',A',N,kids,rfl,HK,c0,c1,c2,G7,G0,hK',u6,Y⟩:=hK.get (R.trans d) r
    have U:=fP r;rw[HK.out] at U;have hcm:=L9 Y;have y:(a.take j).length < 1099511627776:=by rw[cU];omega
    have R8:(a.take j).length=j:=by rw[cU];omega
    have HL:=hdq R8;have L:=d.blk O;obtain⟨-,-,t2,-,-,-⟩:=own3 L;have hj':(j:Int) <(a.length:Int):=by omega
    go_wp2_with fail;have I6:=s;have G5:=hG;have T:=z;have hv:=i1 T 2;have p8: ∀E,Below W.heap.size wr E->E.heap[w.heap.size+1+1]? =some (.cells #[.int .i64 k,.int .i64 n,v] 25 (0,0)):=fun E hB=>(hB.block (w.heap.size+1+1) (by omega)).trans T
    have l:=hdq p8;have M:Ext wr wr.drew:=(xr wr).drew;have R6:=u6.ext M;have bm:=d;clear p8 R8 z hG d s q
    go_region_law (first|(go_simp;go_at_call 46;refine(hk _ Y _ _ R6 (by omega)).mono ?_;rintro e w4 ⟨u,rfl,D,K⟩;obtain⟨a1,a2,a3,a4,a5,rfl⟩:=D.three';have g:=i1 (l.out _ ((M.trans K).below I6)) 2;have ie:=bR _ _ g) |(refine Rx _ (by rfl) (.tmp 18) (.tmp 25) _ (by rfl) 25 i0 _ underlying23 hi J F C rfl (by rfl) G5 I6 (M.trans K) (D.since (aM _)) ((xr _).alloc _) (by rfl) (aR _ _) y ?_;intro v' w5 B m;obtain⟨Q,X,rfl,I,V,-⟩:=B.made;have ig:=i1 (l.out _ m) 2;have qp:=Ob (l.out _ m) 2))
    all_goals(
     have U4:Ext c w5:=bm.trans' m (by omega);have hs5:=m.size;have ae:=l.out _ m;rw[cL,cO,U,show(a.take j).length+1=min (j+1) a.length from by rw[cU];omega] at B;have ib:=fun u=> B.after ((pa.refl W.heap.size w5).setCell (p:=⟨w.heap.size+1+1,2,none⟩) (by show w.heap.size+1+1 < W.heap.size;omega) u)
     clear g ie hv l D K c0 c1 c2 t2;go_wp2_with fail
     go_roundw
     case rel=> exact⟨j+1,_,by omega,by go_num,M6 ae 2 _,ib _,U4.setCell (by show _<=w.heap.size+1+1;omega) _,by simp;omega⟩
     case measure=> simp[intOf];omega)
  · obtain⟨Q,X,rfl,I,V,W5⟩:=hG.made
    have Z:j=a.length:=by omega
    have S:(a.take j).length=a.length:=by rw[Z,iN]
    obtain⟨r0,r1,r2,-,-,-⟩:=own3 z;have L:=d.blk O;obtain⟨-,-,t2,-,-,-⟩:=own3 L;have N7:=d.blk E1;obtain⟨s0,s1,s2,f0,f1,f2⟩:=own3 N7;rw[S] at I r2;rw[show a.take j=a from by rw[Z,iN]] at W5;clear S z;go_wp2_with fail;refine bodyPost_ret (v:= .agg #[.int .i64 k,.int .i64 n,.slice Q a.length X]) (by simp[results,results46,go_sem,s0,s1,s2]) rfl ⟨_,rfl, ?_, ?_⟩
    · exact P0.since (P0.after (P0.mk I V W5) ((((pa.refl _ _).setCell (by show w.heap.size+1 < _;omega) _).setCell (by show w.heap.size+1 < _;omega) _).setCell (by show w.heap.size+1 < _;omega) _)) (by omega)
    · exact((((R.trans d).setCell (by simp) _).setCell (by simp) _).setCell (by simp) _)
