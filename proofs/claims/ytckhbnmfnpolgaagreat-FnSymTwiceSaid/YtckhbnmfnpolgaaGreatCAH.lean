/-
  Lemmas towards the law, 8: Draw, Free, DrawFun, Own, Copy.
-/
import Derived.Test.YtckhbnmfnpolgaaGreatC00
import Derived.Test.YtckhbnmfnpolgaaGreatCAG
import Derived.Laws.BitsAllLaws
open Go renaming World->aL,TypeId->aZ,Value->aT,maxLen->aV,Calls->aX,heap_alloc_new->aS
open Go.World renaming cell?_of_block->dY,block_lt_of_cell?->bU
open List renaming length_take->dM,getElem?_eq_getElem->bZ,take_append_getElem->fV,length_append->cR,length_singleton->cT,take_length->jL
open Nat renaming le_refl->aN,zero_le->bV
open Int renaming eq_ofNat_of_zero_le->dN
open Bool renaming and_eq_true->aW
open Go.Proofs.Tryz
set_option linter.all false
set_option maxHeartbeats 2000000
set_option maxRecDepth 100000
namespace Go.Proofs.YtckhbnmfnpolgaaGreat
open Go.RowKit Go.ChangeShapes Go.WideShapes Go.Deep
def ge(w:aL)(B:Nat)(A:Option Addr)(ns:List Int):Prop:=ns= []\/ ∃b o,A=some ⟨b,o,none⟩/\b < B/\b < w.heap.size/\ ∀j (h:j < ns.length),w.cell? ⟨b,o+j,none⟩=some (.int .u8 ns[j])/\0<=ns[j]/\ns[j] < 256
theorem ge.below{w d:aL}{B:Nat}{A:Option Addr}{ns:List Int}(h:ge w B A ns)(hs:w.heap.size<=d.heap.size)(g: ∀b,b < B->b < w.heap.size->d.heap[b]? =w.heap[b]?):ge d B A ns:=by
 rcases h with h|⟨b,o,rfl,f,c,hc⟩
 · exact .inl h
 · exact .inr ⟨b,o,rfl,f,by omega,fun j e=>⟨(dY (w:=w) (a:=⟨b,o+j,none⟩) (g b f c)).trans (hc j e).1,(hc j e).2⟩⟩
theorem ge.ext{w a:aL}{B:Nat}{A:Option Addr}{ns:List Int}(h:ge w B A ns)(c:Ext w a):ge a B A ns:=h.below c.size (fun b _ d=> c.heap b d)
theorem ge.mono{w:aL}{B a:Nat}{A:Option Addr}{ns:List Int}(h:ge w B A ns)(hB:B<=a):ge w a A ns:=by
 rcases h with h|⟨b,o,rfl,c,r⟩
 · exact .inl h
 · exact .inr ⟨b,o,rfl,by omega,r⟩
theorem ge.take{w:aL}{B:Nat}{A:Option Addr}{ns:List Int}(h:ge w B A ns)(n:Nat):ge w B A (ns.take n):=by
 rcases h with rfl|⟨b,o,rfl,c,hs,hc⟩
 · exact .inl (by simp)
 · refine .inr ⟨b,o,rfl,c,hs,fun j a=> ?_⟩
   rw[dM] at a;rw[List.getElem_take];exact hc j (by omega)
section
variable {H : Type} {enc : aZ × aT → H} {P : Program} {w : aL} {spare : Nat → Bool} {held : Bool}
theorem Wz{s i:aZ}(hs:P.underlying s=some (.slice i))(hi:P.underlying i=some (.int .u8))(ci:P.cellsOf i=1){r:Reach}{C:Nat}{v:aT}{d:DataW H}{p:List MemPlace}(hv:Value.okWide P w r C s v)(h:DataW.Trod enc P w 0 spare held s v d p):
 ∃(A:Option Addr) (cap:Nat) (ns:List Int),v= .slice A ns.length cap/\ns.length<=cap/\cap<=aV/\ge w w.heap.size A ns/\(A=none->cap=0):=by
 obtain⟨M,K,L,rfl⟩:=okWide_slice hs hv;obtain⟨fuel,hf⟩:=h;rcases DataW.trod_slice hs hf with⟨c,_⟩ |⟨a,len,cap,q,rest,n,rfl,c,_,_,hl,hm,z,G,_,_⟩
 · simp only[Value.cells,List.cons.injEq,and_true] at c
   exact⟨none,0, [],c,aN _,bV _,.inl rfl,fun _=> rfl⟩
 · have E: ∀j,j < len-> ∃x:Int,w.cell? (a.add j)=some (.int .u8 x)/\0<=x/\x < 256:=by
    intro j u;have l:=G j u;rw[bZ (by omega)] at l;obtain⟨F,J,D⟩:=Option.bind_eq_some_iff.1 l;obtain⟨x,rfl,_,t⟩:=DataW.trod_int hi D;obtain⟨_,_,e⟩:=World.cells?_some J;rw[ci] at e;have g:=e 0 (by omega);rw[Nat.mul_one] at g;have m: ∀y:Addr,y.add 0=y:=fun y=> by simp[Addr.add]
    rw[m] at g;simp[Lit.wf,IntKind.min,IntKind.max,IntKind.signed,IntKind.bits] at t
    exact⟨x,g,by omega,by omega⟩
   obtain⟨ns,I,B⟩:=DE len E;subst I;simp only[Value.cells,List.cons.injEq,and_true] at c;refine⟨some a,cap,ns,c,hl,hm, ?_,fun h=> by cases h⟩;cases ns with
   |nil=> exact .inl rfl
   |cons t0 ts=>
    obtain⟨b,o,f⟩:=a;have k:b < w.heap.size/\f=none:=by
     have g:=(B 0 (by simp)).1;have m:(⟨b,o,f⟩:Addr).add 0=⟨b,o,f⟩:=by simp[Addr.add]
     rw[m] at g;exact⟨bU _ _ g,by simpa using World.cell?_spot g⟩
    obtain⟨k,rfl⟩:=k;refine .inr ⟨b,o,rfl,k,k,fun j u=> ?_⟩;have g:=B j u;rw[EE] at g;exact g
end
theorem EJ(a b:Int)(d:0<=a)(g:a < 4611686018427387904)(c:0<=b)(f:b < 4611686018427387904):0<=bits .xor .i64 a b/\bits .xor .i64 a b < 4611686018427387904:=by
 obtain⟨x,rfl⟩:=dN d;obtain⟨y,rfl⟩:=dN c;have hx:x ^^^ y < 2 ^ 62:=Nat.xor_lt_two_pow (by omega) (by omega);have e:bits .xor .i64 (x:Int) (y:Int)=((x ^^^ y:Nat):Int):=by
  show IntKind.i64.wrap ((BitVec.ofInt 64 (x:Int)^^^ BitVec.ofInt 64 (y:Int)).toNat:Int)=_
  rw[BitVec.toNat_xor,ofInt_u64 x (by omega),ofInt_u64 y (by omega)];simp only[IntKind.wrap,IntKind.bits,IntKind.signed];simp
  omega
 rw[e];omega
def Rd(w:aL)(g:Nat)(m:Nat):Prop:= ∃(A:Option Addr) (cap:Nat) (a:List Int) (p:Nat),w.heap[g]? =some (.cells #[.slice A a.length cap,.int .i64 p] 88 (0,0))/\a.length<=cap/\cap<=aV/\a.length<=2000/\p<=m/\ge w g A a
theorem Rd.drewN{w:aL}{g m:Nat}(h:Rd w g m)(n:Nat):Rd (w.drewN n) g m:=by
 obtain⟨A,cap,e,p,f,b,c,d,a,hB⟩:=h;exact⟨A,cap,e,p,f,b,c,d,a,hB.below (aN _) (fun _ _ _=> rfl)⟩
theorem D1.drewN{L:List Nat}{a b:aL}(h:D1 L a b)(n:Nat):D1 L a (b.drewN n):=⟨h.os,h.tape,h.output,h.size,h.block⟩
theorem BA{w:aL}{g:Nat}{c b:aT}{e:aZ}(a:w.heap[g]? =some (.cells #[c,b] e (0,0))):
 w.cell? ⟨g,0,none⟩=some c/\w.cell? ⟨g,1,none⟩=some b/\w.frozen? ⟨g,0,none⟩=false/\w.frozen? ⟨g,1,none⟩=false:=
 ⟨U1 a 0,U1 a 1,ib a 0,ib a 1⟩
theorem Yf(w:aL)(g m:Nat)(n:Int)(h:Rd w g m)(hm:m < 1125899906842624):aX prog 67 #[.pointer (some ⟨g,0,none⟩),m0 n] w fun e L=>
 ∃x:Int,e= .returned (m0 x)/\0<=x/\(x=0\/x < n)/\Rd L g (m+1)/\D1 [g] w L:=by
 obtain⟨A,cap,c,p,v,hl,hc,E,hp,hB⟩:=h;have R:=O1 v;obtain⟨u,k⟩: ∃u,u=w.setCell ⟨g,1,none⟩ (m0 ((p:Int)+1)):=⟨_,rfl⟩;have f:u.heap[g]? =some (.cells #[.slice A c.length cap,m0 ((p:Int)+1)] 88 (0,0)):=k▸N5 v 1 _;have s:D1 [g] w u:=k▸(D1.refl _ _).setCell (by simp) _;have O:ge u g A c:=hB.below s.size (fun b v hs=> s.block b hs (by simp;omega));have M:Rd u g (m+1):=⟨A,cap,c,p+1,by simpa using f,hl,hc,E,by omega,O⟩;obtain⟨c0,c1,f0,f1⟩:=BA v;obtain⟨Z,d1,-,-⟩:=BA f;have W:=hdq v;have Y:=hdq f;have HR:=hdq M;clear v f M;by_cases hn:n < 1
 · have S:decide (n < 1)=true:=decide_eq_true hn
   go_enter func67,ntmps67;go_wp2_with fail;rw[<-k];go_ret;exact⟨0,rfl,Int.le_refl _,.inl rfl,HR.out,s⟩
 have S:decide (n < 1)=false:=decide_eq_false hn;by_cases r:c= []
 · subst r
   go_enter func67,ntmps67;go_wp2_with fail;rw[<-k];go_ret;exact⟨0,rfl,Int.le_refl _,.inl rfl,HR.out,s⟩
 have i:0 < c.length:=List.length_pos_iff.2 r;rcases hB with hB|⟨X,o,rfl,Q,N,a⟩
 · exact absurd hB r
 have b2:((c.length:Int)==0)=false:=by rw[beq_eq_false_iff_ne];omega
 by_cases hk:p < c.length
 · have V:decide ((p:Int) <(c.length:Int))=true:=decide_eq_true (by omega)
   obtain⟨K,C,F⟩:=a p hk;generalize c[p]=x at K C F;clear a;go_enter func67,ntmps67;go_wp2_with fail;rw[<-k];go_ret;exact⟨_,rfl,Int.emod_nonneg _ (by omega),.inr (Int.emod_lt_of_pos _ (by omega)),HR.out,s⟩
 · have V:decide ((p:Int) <(c.length:Int))=false:=decide_eq_false (by omega)
   obtain⟨B,l⟩: ∃B:Nat,B=p % c.length:=⟨_,rfl⟩;obtain⟨t,j⟩: ∃t:Nat,t=(p*7+3) % c.length:=⟨_,rfl⟩;have U:B < c.length:=l▸Nat.mod_lt _ i;have E:t < c.length:=j▸Nat.mod_lt _ i;have e1:((p:Int) % (c.length:Int))=(B:Int):=by rw[l];exact(Int.natCast_emod p c.length).symm
   have e2:(((p:Int)*7+3) % (c.length:Int))=(t:Int):=by rw[j];rw[Int.natCast_emod];rfl
   obtain⟨d,hd⟩: ∃d:Nat,d=p / c.length:=⟨_,rfl⟩;have h3:d<=p:=hd▸Nat.div_le_self _ _;have e3:((p:Int) /(c.length:Int))=(d:Int):=by rw[hd];exact(Int.natCast_ediv p c.length).symm
   obtain⟨K,C,F⟩:=a B U;obtain⟨T,G,J⟩:=a t E;generalize c[B]=x at K C F;generalize c[t]=y at T G J;clear a l j hd;go_enter func67,ntmps67;go_wp2_with fail;rw[<-k]
   go_quiet (fail)
   obtain⟨z,r⟩: ∃z:Int,z=x*131+y*1117+(p:Int)*29+(d:Int)*53:=⟨_,rfl⟩;rw[<-r];have D:0<=z:=by omega
   have I:z < 4611686018427387904:=by omega
   have hx:=EJ z (z / 64) D I (by omega) (by omega);clear r;generalize hq:bits .xor .i64 z (z / 64)=q at hx;go_wp2_with fail;rw[<-k];go_ret;exact⟨_,rfl,Int.emod_nonneg _ (by omega),.inr (Int.emod_lt_of_pos _ (by omega)),HR.out.drewN _,s.drewN _⟩
theorem dm(w:aL)(g m:Nat)(h:Rd w g m)(hm:m < 1125899906842624)(A:Option Addr)(cap:Nat)(ns:List Int)(hl:ns.length<=cap)(hc:cap<=aV)(s:0 < ns.length)(hN:Sa w A ns)(hA: ∀b o,A=some ⟨b,o,none⟩->b≠g):aX prog 100 #[.pointer (some ⟨g,0,none⟩),.slice A ns.length cap] w fun e f=>
 ∃x:Int,e= .returned (m0 x)/\x∈ns/\Rd f g (m+1)/\D1 [g] w f:=by
 unfold aV at hc;rcases hN with hN|⟨b,o,rfl,t,c⟩
 · subst hN
   cases s
 go_enter func100,ntmps100;go_wp2_with fail;refine(Yf w g m ns.length h hm).mono ?_;rintro e q ⟨i,rfl,r,u,p,k⟩;obtain⟨j,rfl⟩:=dN r;have l:j < ns.length:=by omega
 have d:q.cell? ⟨b,o+j,none⟩=some (m0 ns[j]):=(dY (w:=w) (a:=⟨b,o+j,none⟩) (k.block b t (by have:=hA b o rfl;simpa using this))).trans (c j l);have n:=List.getElem_mem l;generalize ns[j]=x at d n;clear c;go_wp2_with fail;go_ret;exact⟨x,rfl,n,p,k⟩
theorem wG(w:aL)(A:Option Addr)(cap:Nat)(a:List Int)(hl:a.length<=cap)(hc:cap<=aV)(hB:ge w w.heap.size A a):aX prog 53 #[.slice A a.length cap] w fun e f=>
 e= .returned (.pointer (some ⟨w.heap.size,0,none⟩))/\Rd f w.heap.size 0/\Ext w f:=by
 have b:=hc;unfold aV at hc;have g: ∀(k:Nat) (c:Nat),k<=a.length->k<=c->c<=aV->k<=2000->Rd (w.alloc (.cells #[.slice A k c,m0 0] 88)) w.heap.size 0:=by
  intro k c m j i l;have hk:(a.take k).length=k:=by rw[dM];omega
  refine⟨A,c,a.take k,0, ?_,by omega,i,by omega,aN _,(hB.take k).ext ((xr w).alloc _)⟩;rw[hk];exact aS w _
 by_cases j:2000 < a.length
 · have d:decide ((2000:Int) <(a.length:Int))=true:=decide_eq_true (by omega)
   have R:=g 2000 cap (by omega) (by omega) b (aN _);go_enter func53,ntmps53;go_wp2_with fail;go_ret;exact⟨rfl,R,(xr w).alloc _⟩
 · have d:decide ((2000:Int) <(a.length:Int))=false:=decide_eq_false (by omega)
   have R:=g a.length cap (aN _) hl b (by omega);go_enter func53,ntmps53;go_wp2_with fail;go_ret;exact⟨rfl,R,(xr w).alloc _⟩
end Go.Proofs.YtckhbnmfnpolgaaGreat
namespace Go.Proofs.YtckhbnmfnpolgaaGreat
open Go.RowKit
def E4(k:Int)(i:Nat):Int:=if i=1/\(k=3\/k=4\/k=13) then 1 else 0
theorem Vq(k:Int)(i:Nat):0<=E4 k i/\E4 k i<=1:=by unfold E4;split <;> omega
def sl(k:Int):Bool:=k==3||k==4||k==13
theorem Zk(k:Int)(i:Nat):E4 k i=if((i:Int)==1 && sl k)=true then 1 else 0:=by
 unfold E4 sl;by_cases h:i=1
 · subst h
   by_cases c:k=3
   · subst c;rfl
   · by_cases a:k=4
     · subst a;rfl
     · by_cases b:k=13
       · subst b;rfl
       · rw[if_neg (by omega),if_neg (by simp[c,a,b])]
 · rw[if_neg (by omega),if_neg (by rw[beq_eq_false_iff_ne.2 (by omega:(i:Int)≠1)];simp)]
theorem Z4{g:Wc}{k n:Int}{a:List Tr}{d:Int}(h:P0 g (.mk k n a) d=true):g.ops k=(a.length:Int)/\0<=n/\n<=g.most k/\ ∀t∈a,P0 g t (d - 1)=true:=by
 have mem: ∀{a:List Tr} {d:Int} {t:Tr},Z8 g a d=true->t∈a->P0 g t d=true:=by
  intro a
  induction a with
  |nil=> intro d t _ hm;cases hm
  |cons x a ih=>
   intro d t h hm;simp only[Z8,aW] at h;rcases List.mem_cons.1 hm with rfl|hm
   · exact h.1
   · exact ih h.2 hm
 simp only[P0,ni,aW] at h;have c:=of_decide_eq_true h.2.1.1;have b:=Pg.1 h.2.1.2;exact⟨c,b.1,b.2,fun t ht=> mem h.2.2 ht⟩
theorem TI(k:Int)(w:aL):aX prog 178 #[m0 k] w fun e g=> e= .returned (.bool (sl k))/\w=g:=by
 obtain⟨c,j⟩: ∃b,(k==3)=b:=⟨_,rfl⟩;obtain⟨a,f⟩: ∃b,(k==4)=b:=⟨_,rfl⟩;obtain⟨d,i⟩: ∃b,(k==13)=b:=⟨_,rfl⟩;have e:sl k=(c||a||d):=by unfold sl;rw[j,f,i]
 have E:=hdq e;clear e;cases c <;> cases a <;> cases d
 all_goals go_enter func178,ntmps178
 all_goals go_wp2_with fail
 all_goals go_ret
 all_goals exact⟨by rw[E.out];rfl,rfl⟩
theorem nv(k:Int)(i:Nat)(w:aL):aX prog 138 #[m0 k,m0 i] w fun e f=> e= .returned (m0 (E4 k i))/\w=f:=by
 obtain⟨d,j⟩: ∃b,((i:Int)==1)=b:=⟨_,rfl⟩;have c:=hdq (TI k);obtain⟨g,a⟩: ∃b,sl k=b:=⟨_,rfl⟩;have E:=hdq (Zk k i);rw[j,a] at E;rw[a] at c;clear a;cases d <;> cases g
 all_goals go_enter func138,ntmps138
 all_goals go_wp2_with (go_at_call 178;refine(c.out _).mono ?_;rintro e l ⟨rfl,rfl⟩)
 all_goals go_ret
 all_goals exact⟨by rw[E.out];rfl,rfl⟩
theorem sG(k:Int)(i:Nat)(w:aL):aX prog 161 #[m0 k,m0 i] w fun e j=> e= .returned (.bool ((i:Int)==1 && sl k))/\w=j:=by
 obtain⟨a,n⟩: ∃b,((i:Int)==1)=b:=⟨_,rfl⟩;obtain⟨d,m⟩: ∃b,(k==3)=b:=⟨_,rfl⟩;obtain⟨c,g⟩: ∃b,(k==4)=b:=⟨_,rfl⟩;obtain⟨f,l⟩: ∃b,(k==13)=b:=⟨_,rfl⟩;have e:((i:Int)==1 && sl k)=(a &&(d||c||f)):=by unfold sl;rw[n,m,g,l]
 have E:=hdq e;clear e;cases a <;> cases d <;> cases c <;> cases f
 all_goals go_enter func161,ntmps161
 all_goals go_wp2_with fail
 all_goals go_ret
 all_goals exact⟨by rw[E.out];rfl,rfl⟩
theorem ZC(k:Int)(i:Nat)(w:aL):aX prog 127 #[m0 k,m0 i] w fun e d=> e= .returned (m0 (E4 k i))/\w=d:=by
 have a:=hdq (sG k i);have E:=hdq (Zk k i);obtain⟨f,c⟩: ∃b,((i:Int)==1 && sl k)=b:=⟨_,rfl⟩;rw[c] at E a;clear c;cases f
 all_goals go_enter func127,ntmps127
 all_goals go_wp2_with (go_at_call 161;refine(a.out _).mono ?_;rintro e g ⟨rfl,rfl⟩)
 all_goals go_ret
 all_goals exact⟨by rw[E.out];rfl,rfl⟩
theorem Z3{g:Wc}{t:Tr}(h:j0 g t=true):P0 g t 30=true/\cnt t<=400:=by
 unfold j0 at h;rw[aW] at h;exact⟨h.1,of_decide_eq_true h.2⟩
theorem CJ{w:aL}{g:Nat}{cs:Array aT}{e:aZ}{ns:List Int}(a:w.heap[g]? =some (.cells cs e (0,0)))(hc:cs.toList=ns.map (Value.int .i64)):Sa w (some ⟨g,0,none⟩) ns:=by
 refine .inr ⟨g,0,rfl,O1 a,fun j b=> ?_⟩;rw[U1 a,<-Array.getElem?_toList,hc,Nat.zero_add,List.getElem?_map,bZ b]
 rfl
theorem Rd.ext{w a:aL}{g m:Nat}(h:Rd w g m)(b:Ext w a):Rd a g m:=by
 obtain⟨A,cap,i,p,j,d,e,f,c,hB⟩:=h;exact⟨A,cap,i,p,b.blk j,d,e,f,c,hB.ext b⟩
theorem Rd.lt{w:aL}{g m:Nat}(h:Rd w g m):g < w.heap.size:=by
 obtain⟨A,cap,b,p,a,_⟩:=h;exact O1 a
theorem Rd.mono{w:aL}{g m a:Nat}(h:Rd w g m)(hm:m<=a):Rd w g a:=by
 obtain⟨A,cap,e,p,f,b,c,d,i,hB⟩:=h;exact⟨A,cap,e,p,f,b,c,d,by omega,hB⟩
def Yk(W w:aL)(e:aZ)(v:aT)(ns:List Int):Prop:=w.ownsRow W.heap.size e 1 v ns.length (ns.map (Value.int .i64))
theorem Yk.only{W w c:aL}{e:aZ}{v:aT}{ns:List Int}{L:List Nat}(h:Yk W w e v ns)(f:D1 L w c)(i: ∀b,b∈L->b < W.heap.size):Yk W c e v ns:=by
 refine⟨h.1, ?_⟩;rcases h.2 with h|⟨g,cap,a,rfl,j,d,r⟩
 · exact .inl h
 · exact .inr ⟨g,cap,a,rfl,j,(f.block g (O1 d) (fun hm=> by have:=i g hm;omega)).trans d,r⟩
end Go.Proofs.YtckhbnmfnpolgaaGreat
namespace Go.Proofs.YtckhbnmfnpolgaaGreat
open Go.RowKit
attribute [local go_sem ↓] Go.wp_at_zero Go.wp_at_succ
def tJ(t:Tr):Prop:= ∀(w:aL) (v:aT),Lies w t v->cnt t<=1000000->
 aX prog 43 #[v] w fun e a=> ∃u,e= .returned u/\W0 w a 25 t u/\Ext w a
theorem AH:(prog.info? 25).map (fun i=>(i.zero,i.size,i.bytes))=some (some (M0 0 0 none 0 0),3,40):=by kernel_rfl
theorem Qg: ∀t:Tr,tJ t:=Tr.ind fun k n a hk=> by
 intro w v b8 P6;obtain⟨A,cap,rfl,hl,hc,hK⟩:=Lies.mk_iff.1 b8;obtain⟨i0,hi,L,F,C⟩:=info_parts AH;have r:=hc;unfold aV at r;simp only[cnt] at P6;have hlc:=Lf a;go_enter func43,ntmps43;go_wp2_with fail;obtain⟨c,q⟩: ∃c,c=(w.alloc (.cells #[.int .i64 k,.int .i64 n,.slice A a.length cap] 25)).alloc (.cells #[.int .i64 0,.int .i64 0,.slice none 0 0] 25):=⟨_,rfl⟩;obtain⟨W,y⟩: ∃W,W=c.alloc (.cells #[.int .i64 k,.int .i64 n,.slice none 0 0] 25):=⟨_,rfl⟩;have G:c.heap.size=w.heap.size+1+1:=by rw[q];simp
 have mb:W.heap.size=w.heap.size+3:=by rw[y];simp;omega
 have X:Ext w c:=q▸((xr w).alloc _).alloc _;have cn:Ext c W:=y▸(xr c).alloc _;have F3:c.heap[w.heap.size+1]? =some (.cells #[.int .i64 0,.int .i64 0,.slice none 0 0] 25 (0,0)):=by
  rw[q];exact(blk2 (xr _)).2.1
 have ei:W.heap[w.heap.size+1+1]? =some (.cells #[.int .i64 k,.int .i64 n,.slice none 0 0] 25 (0,0)):=by
  have:=aS c (.cells #[.int .i64 k,.int .i64 n,.slice none 0 0] 25);rw[G] at this;rw[y];exact this
 rw[<-q,<-y];clear y q
 go_loopw [14] (fun i wr=> ∃(j:Nat) (v:aT),j<=a.length/\i= .int .i64 j/\wr.heap[w.heap.size+1+1]? =some (.cells #[.int .i64 k,.int .i64 n,v] 25 (0,0))/\N4 W wr 25 v (a.take j)/\Ext c wr/\W.heap.size<=wr.heap.size) (fun i _=> a.length -(intOf i).toNat)
 case atStart=> exact⟨0,_,bV _,rfl,ei,N4.nil _ _ _,cn,aN _⟩
 case round=>
  obtain⟨j,v,hj,rfl,B,hG,z,D⟩:=hrel;by_cases x:j < a.length
  · obtain⟨b,o,k',n',A',d,kids,rfl,HK,c0,c1,c2,I5,I3,hK',x7,e9⟩:=hK.get (X.trans z) x
    have I0:=fV x;rw[HK.out] at I0;have hcm:=k9 e9;have l:(a.take j).length < 1099511627776:=by rw[dM];omega
    have U9:(a.take j).length=j:=by rw[dM];omega
    have HL:=hdq U9;go_wp2_with fail;have hx:=(xr wr).alloc (.cells #[.int .i64 k',.int .i64 n',.slice A' kids.length d] 25);have J:=aS wr (.cells #[.int .i64 k',.int .i64 n',.slice A' kids.length d] 25);generalize wr.alloc _=m at hx J;have Q:W.heap.size<=m.heap.size:=by have:=hx.size;omega
    have I2:=hG.ext hx;have Y:=hx.blk B;have hv:=U1 Y 2;have p8: ∀K,Below W.heap.size m K->K.heap[w.heap.size+1+1]? =some (.cells #[.int .i64 k,.int .i64 n,v] 25 (0,0)):=fun K hB=>(hB.block (w.heap.size+1+1) (by omega)).trans Y
    have s:=hdq p8;obtain⟨d0,d1,d2,-,-,-⟩:=own3 J;have M:Ext m m.drew:=(xr m).drew;have U3:=(x7.ext hx).ext M;have dz:=z.trans hx;clear p8 U9 c0 c1 c2 B hG z D r
    go_region_law (first|(go_simp;go_at_call 43;refine(hk _ e9 _ _ U3 (by omega)).mono ?_;rintro e w4 ⟨u,rfl,I,E⟩;obtain⟨a1,a2,a3,a4,a5,rfl⟩:=I.three';have g:=U1 (s.out _ ((M.trans E).below Q)) 2;have iz:=bU _ _ g) |(refine qE _ (by rfl) (.tmp 19) (.tmp 22) _ (by rfl) 25 i0 _ underlying23 hi L F C rfl (by rfl) I2 Q (M.trans E) (I.since (aN _)) ((xr _).alloc _) (by rfl) (aS _ _) l ?_;intro v' S N f;obtain⟨T,U,rfl,O,R,-⟩:=N.made;have kr:=U1 (s.out _ f) 2;have ui:=ib (s.out _ f) 2))
    all_goals(
     have W8:Ext c S:=dz.trans' f (by omega);have hs5:=f.size;have ba:=s.out _ f;rw[cR,cT,I0,show(a.take j).length+1=min (j+1) a.length from by rw[dM];omega] at N;have jh:=fun u=> N.after ((ja.refl W.heap.size S).setCell (p:=⟨w.heap.size+1+1,2,none⟩) (by show w.heap.size+1+1 < W.heap.size;omega) u)
     clear g iz hv s I E d0 d1 d2 J;go_wp2_with fail
     go_roundw
     case rel=> exact⟨j+1,_,by omega,by go_num,N5 ba 2 _,jh _,W8.setCell (by show _<=w.heap.size+1+1;omega) _,by simp;omega⟩
     case measure=> simp[intOf];omega)
  · obtain⟨T,U,rfl,O,R,Y5⟩:=hG.made
    have V:j=a.length:=by omega
    have Z:(a.take j).length=a.length:=by rw[V,jL]
    obtain⟨r0,r1,r2,-,-,-⟩:=own3 B;have P3:=z.blk F3;obtain⟨s0,s1,s2,f0,f1,f2⟩:=own3 P3;rw[Z] at O r2;rw[show a.take j=a from by rw[V,jL]] at Y5;clear Z B;go_wp2_with fail;refine bodyPost_ret (v:= .agg #[.int .i64 k,.int .i64 n,.slice T a.length U]) (by simp[results,results43,go_sem,s0,s1,s2]) rfl ⟨_,rfl, ?_, ?_⟩
    · exact W0.since (W0.after (W0.mk O R Y5) ((((ja.refl _ _).setCell (by show w.heap.size+1 < _;omega) _).setCell (by show w.heap.size+1 < _;omega) _).setCell (by show w.heap.size+1 < _;omega) _)) (by omega)
    · exact((((X.trans z).setCell (by simp) _).setCell (by simp) _).setCell (by simp) _)
def Qp(t:Tr):Prop:= ∀(w:aL) (v:aT),Lies w t v->cnt t<=1000000->
 aX prog 46 #[v] w fun e a=> ∃u,e= .returned u/\W0 w a 25 t u/\Ext w a
theorem oA:(prog.info? 25).map (fun i=>(i.zero,i.size,i.bytes))=some (some (M0 0 0 none 0 0),3,40):=by kernel_rfl
theorem Vf: ∀t:Tr,Qp t:=Tr.ind fun k n a hk=> by
 intro w v b8 P6;obtain⟨A,cap,rfl,hl,hc,hK⟩:=Lies.mk_iff.1 b8;obtain⟨i0,hi,J,E,B⟩:=info_parts oA;have r:=hc;unfold aV at r;simp only[cnt] at P6;have hlc:=Lf a;go_enter func46,ntmps46;go_wp2_with fail;obtain⟨c,f⟩: ∃c,c=(w.alloc (.cells #[.int .i64 k,.int .i64 n,.slice A a.length cap] 25)).alloc (.cells #[.int .i64 0,.int .i64 0,.slice none 0 0] 25):=⟨_,rfl⟩;obtain⟨W,y⟩: ∃W,W=c.alloc (.cells #[.int .i64 k,.int .i64 n,.slice none 0 0] 25):=⟨_,rfl⟩;have F:c.heap.size=w.heap.size+1+1:=by rw[f];simp
 have mb:W.heap.size=w.heap.size+3:=by rw[y];simp;omega
 have V:Ext w c:=f▸((xr w).alloc _).alloc _;have cn:Ext c W:=y▸(xr c).alloc _;have F3:c.heap[w.heap.size+1]? =some (.cells #[.int .i64 0,.int .i64 0,.slice none 0 0] 25 (0,0)):=by
  rw[f];exact(blk2 (xr _)).2.1
 have ei:W.heap[w.heap.size+1+1]? =some (.cells #[.int .i64 k,.int .i64 n,.slice none 0 0] 25 (0,0)):=by
  have:=aS c (.cells #[.int .i64 k,.int .i64 n,.slice none 0 0] 25);rw[F] at this;rw[y];exact this
 have O:c.heap[w.heap.size]? =some (.cells #[.int .i64 k,.int .i64 n,.slice A a.length cap] 25 (0,0)):=by
  rw[f];exact(blk2 (xr _)).1
 rw[<-f,<-y];clear y f
 go_loopw [4] (fun i wr=> ∃(j:Nat) (v:aT),j<=a.length/\i= .int .i64 j/\wr.heap[w.heap.size+1+1]? =some (.cells #[.int .i64 k,.int .i64 n,v] 25 (0,0))/\N4 W wr 25 v (a.take j)/\Ext c wr/\W.heap.size<=wr.heap.size) (fun i _=> a.length -(intOf i).toNat)
 case atStart=> exact⟨0,_,bV _,rfl,ei,N4.nil _ _ _,cn,aN _⟩
 case round=>
  obtain⟨j,v,hj,rfl,z,hG,d,q⟩:=hrel;by_cases x:j < a.length
  · obtain⟨b,o,k',n',A',cap',kids,rfl,HK,c0,c1,c2,I5,I3,hK',x7,e9⟩:=hK.get (V.trans d) x
    have I0:=fV x;rw[HK.out] at I0;have hcm:=k9 e9;have m:(a.take j).length < 1099511627776:=by rw[dM];omega
    have U9:(a.take j).length=j:=by rw[dM];omega
    have HL:=hdq U9;have C:=d.blk O;obtain⟨-,-,t2,-,-,-⟩:=own3 C;have hj':(j:Int) <(a.length:Int):=by omega
    go_wp2_with fail;have N:=q;have I2:=hG;have X:=z;have hv:=U1 X 2;have Z: ∀I,Below W.heap.size wr I->I.heap[w.heap.size+1+1]? =some (.cells #[.int .i64 k,.int .i64 n,v] 25 (0,0)):=fun I hB=>(hB.block (w.heap.size+1+1) (by omega)).trans X
    have s:=hdq Z;have K:Ext wr wr.drew:=(xr wr).drew;have U3:=x7.ext K;have dz:=d;clear Z U9 z hG d q r
    go_region_law (first|(go_simp;go_at_call 46;refine(hk _ e9 _ _ U3 (by omega)).mono ?_;rintro e w4 ⟨u,rfl,G,D⟩;obtain⟨a1,a2,a3,a4,a5,rfl⟩:=G.three';have l:=U1 (s.out _ ((K.trans D).below N)) 2;have iz:=bU _ _ l) |(refine qE _ (by rfl) (.tmp 18) (.tmp 25) _ (by rfl) 25 i0 _ underlying23 hi J E B rfl (by rfl) I2 N (K.trans D) (G.since (aN _)) ((xr _).alloc _) (by rfl) (aS _ _) m ?_;intro v' R L g;obtain⟨S,T,rfl,M,Q,-⟩:=L.made;have kr:=U1 (s.out _ g) 2;have ui:=ib (s.out _ g) 2))
    all_goals(
     have W8:Ext c R:=dz.trans' g (by omega);have hs5:=g.size;have ba:=s.out _ g;rw[cR,cT,I0,show(a.take j).length+1=min (j+1) a.length from by rw[dM];omega] at L;have jh:=fun u=> L.after ((ja.refl W.heap.size R).setCell (p:=⟨w.heap.size+1+1,2,none⟩) (by show w.heap.size+1+1 < W.heap.size;omega) u)
     clear l iz hv s G D c0 c1 c2 t2;go_wp2_with fail
     go_roundw
     case rel=> exact⟨j+1,_,by omega,by go_num,N5 ba 2 _,jh _,W8.setCell (by show _<=w.heap.size+1+1;omega) _,by simp;omega⟩
     case measure=> simp[intOf];omega)
  · obtain⟨S,T,rfl,M,Q,Y5⟩:=hG.made
    have U:j=a.length:=by omega
    have Y:(a.take j).length=a.length:=by rw[U,jL]
    obtain⟨r0,r1,r2,-,-,-⟩:=own3 z;have C:=d.blk O;obtain⟨-,-,t2,-,-,-⟩:=own3 C;have P3:=d.blk F3;obtain⟨s0,s1,s2,f0,f1,f2⟩:=own3 P3;rw[Y] at M r2;rw[show a.take j=a from by rw[U,jL]] at Y5;clear Y z;go_wp2_with fail;refine bodyPost_ret (v:= .agg #[.int .i64 k,.int .i64 n,.slice S a.length T]) (by simp[results,results46,go_sem,s0,s1,s2]) rfl ⟨_,rfl, ?_, ?_⟩
    · exact W0.since (W0.after (W0.mk M Q Y5) ((((ja.refl _ _).setCell (by show w.heap.size+1 < _;omega) _).setCell (by show w.heap.size+1 < _;omega) _).setCell (by show w.heap.size+1 < _;omega) _)) (by omega)
    · exact((((V.trans d).setCell (by simp) _).setCell (by simp) _).setCell (by simp) _)
