/- Lemmas towards the law. -/
import Derived.Test.YtckhbnmfnpolgaaGreatTAG
import Derived.Laws.BitsAllLaws
open Go renaming World->aN,Value->aU,maxLen->aW,Calls->aY,heap_alloc_new->aT
open Go.World renaming cell?_of_block->eN,block_lt_of_cell?->bY
open List renaming length_take->dQ,getElem?_eq_getElem->cR,take_append_getElem->gN,length_append->cV,length_singleton->cW,take_length->jP
open Nat renaming le_refl->aP,zero_le->cO
open Int renaming eq_ofNat_of_zero_le->dP
open Bool renaming and_eq_true->aX
open Go.Proofs.Tryz
set_option linter.all false
set_option maxHeartbeats 2000000
set_option maxRecDepth 100000
namespace Go.Proofs.YtckhbnmfnpolgaaGreat
open Go.RowKit Go.ChangeShapes Go.WideShapes Go.Deep
def Te(w:aN)(B:Nat)(A:Option Addr)(ns:List Int):Prop:=ns= []\/ ∃b o,A=some ⟨b,o,none⟩/\b < B/\b < w.heap.size/\ ∀j (h:j < ns.length),w.cell? ⟨b,o+j,none⟩=some (.int .u8 ns[j])/\0<=ns[j]/\ns[j] < 256
theorem Te.below{w d:aN}{B:Nat}{A:Option Addr}{ns:List Int}(h:Te w B A ns)(hs:w.heap.size<=d.heap.size)(g: ∀b,b < B->b < w.heap.size->d.heap[b]? =w.heap[b]?):Te d B A ns:=by
 rcases h with h|⟨b,o,rfl,f,c,hc⟩
 · exact .inl h
 · exact .inr ⟨b,o,rfl,f,by omega,fun j e=>⟨(eN (w:=w) (a:=⟨b,o+j,none⟩) (g b f c)).trans (hc j e).1,(hc j e).2⟩⟩
theorem Te.ext{w a:aN}{B:Nat}{A:Option Addr}{ns:List Int}(h:Te w B A ns)(c:Ext w a):Te a B A ns:=h.below c.size (fun b _ d=> c.heap b d)
theorem Te.mono{w:aN}{B a:Nat}{A:Option Addr}{ns:List Int}(h:Te w B A ns)(d:B<=a):Te w a A ns:=by
 rcases h with h|⟨b,o,rfl,c,r⟩
 · exact .inl h
 · exact .inr ⟨b,o,rfl,by omega,r⟩
theorem Te.take{w:aN}{B:Nat}{A:Option Addr}{ns:List Int}(h:Te w B A ns)(n:Nat):Te w B A (ns.take n):=by
 rcases h with rfl|⟨b,o,rfl,c,hs,hc⟩
 · exact .inl (by simp)
 · refine .inr ⟨b,o,rfl,c,hs,fun j a=> ?_⟩
   rw[dQ] at a;rw[List.getElem_take];exact hc j (by omega)
section
variable {H : Type} {enc : TypeId × aU → H} {P : Program} {w : aN} {spare : Nat → Bool} {held : Bool}
theorem TH{s i:TypeId}(hs:P.underlying s=some (.slice i))(hi:P.underlying i=some (.int .u8))(ci:P.cellsOf i=1){r:Reach}{G:Nat}{v:aU}{d:DataW H}{p:List MemPlace}(hv:Value.okWide P w r G s v)(h:DataW.Trod enc P w 0 spare held s v d p):
 ∃(A:Option Addr) (cap:Nat) (ns:List Int),v= .slice A ns.length cap/\ns.length<=cap/\cap<=aW/\Te w w.heap.size A ns/\(A=none->cap=0):=by
 obtain⟨L,K,M,rfl⟩:=okWide_slice hs hv;obtain⟨fuel,hf⟩:=h;rcases DataW.trod_slice hs hf with⟨e,_⟩ |⟨a,len,cap,u,rest,n,rfl,e,_,_,hl,hm,z,D,_,_⟩
 · simp only[Value.cells,List.cons.injEq,and_true] at e
   exact⟨none,0, [],e,aP _,cO _,.inl rfl,fun _=> rfl⟩
 · have J: ∀j,j < len-> ∃x:Int,w.cell? (a.add j)=some (.int .u8 x)/\0<=x/\x < 256:=by
    intro j m;have l:=D j m;rw[cR (by omega)] at l;obtain⟨F,I,E⟩:=Option.bind_eq_some_iff.1 l;obtain⟨x,rfl,_,q⟩:=DataW.trod_int hi E;obtain⟨_,_,c⟩:=World.cells?_some I;rw[ci] at c;have g:=c 0 (by omega);rw[Nat.mul_one] at g;have t: ∀y:Addr,y.add 0=y:=fun y=> by simp[Addr.add]
    rw[t] at g;simp[Lit.wf,IntKind.min,IntKind.max,IntKind.signed,IntKind.bits] at q
    exact⟨x,g,by omega,by omega⟩
   obtain⟨ns,C,B⟩:=LF len J;subst C;simp only[Value.cells,List.cons.injEq,and_true] at e;refine⟨some a,cap,ns,e,hl,hm, ?_,fun h=> by cases h⟩;cases ns with
   |nil=> exact .inl rfl
   |cons t0 ts=>
    obtain⟨b,o,f⟩:=a;have k:b < w.heap.size/\f=none:=by
     have g:=(B 0 (by simp)).1;have t:(⟨b,o,f⟩:Addr).add 0=⟨b,o,f⟩:=by simp[Addr.add]
     rw[t] at g;exact⟨bY _ _ g,by simpa using World.cell?_spot g⟩
    obtain⟨k,rfl⟩:=k;refine .inr ⟨b,o,rfl,k,k,fun j m=> ?_⟩;have g:=B j m;rw[FF] at g;exact g
end
theorem rK(a b:Int)(d:0<=a)(f:a < 4611686018427387904)(c:0<=b)(g:b < 4611686018427387904):0<=bits .xor .i64 a b/\bits .xor .i64 a b < 4611686018427387904:=by
 obtain⟨x,rfl⟩:=dP d;obtain⟨y,rfl⟩:=dP c;have hx:x ^^^ y < 2 ^ 62:=Nat.xor_lt_two_pow (by omega) (by omega);have e:bits .xor .i64 (x:Int) (y:Int)=((x ^^^ y:Nat):Int):=by
  show IntKind.i64.wrap ((BitVec.ofInt 64 (x:Int)^^^ BitVec.ofInt 64 (y:Int)).toNat:Int)=_
  rw[BitVec.toNat_xor,ofInt_u64 x (by omega),ofInt_u64 y (by omega)];simp only[IntKind.wrap,IntKind.bits,IntKind.signed];simp
  omega
 rw[e];omega
def Rd(w:aN)(g:Nat)(m:Nat):Prop:= ∃(A:Option Addr) (cap:Nat) (a:List Int) (p:Nat),w.heap[g]? =some (.cells #[.slice A a.length cap,.int .i64 p] 88 (0,0))/\a.length<=cap/\cap<=aW/\a.length<=2000/\p<=m/\Te w g A a
theorem Rd.drewN{w:aN}{g m:Nat}(h:Rd w g m)(n:Nat):Rd (w.drewN n) g m:=by
 obtain⟨A,cap,d,p,c,i,a,b,f,e⟩:=h;exact⟨A,cap,d,p,c,i,a,b,f,e.below (aP _) (fun _ _ _=> rfl)⟩
theorem i1.drewN{L:List Nat}{a b:aN}(h:i1 L a b)(n:Nat):i1 L a (b.drewN n):=⟨h.os,h.tape,h.output,h.size,h.block⟩
theorem VE{w:aN}{g:Nat}{c b:aU}{e:TypeId}(a:w.heap[g]? =some (.cells #[c,b] e (0,0))):
 w.cell? ⟨g,0,none⟩=some c/\w.cell? ⟨g,1,none⟩=some b/\w.frozen? ⟨g,0,none⟩=false/\w.frozen? ⟨g,1,none⟩=false:=
 ⟨E1 a 0,E1 a 1,mc a 0,mc a 1⟩
theorem Qf(w:aN)(g m:Nat)(n:Int)(h:Rd w g m)(hm:m < 1125899906842624):aY prog 67 #[O2 g,j0 n] w fun e O=>
 ∃x:Int,e= .returned (j0 x)/\0<=x/\(x=0\/x < n)/\Rd O g (m+1)/\i1 [g] w O:=by
 obtain⟨A,cap,c,p,t,hl,hc,G,hp,C⟩:=h;have Q:=D1 t;obtain⟨s,j⟩: ∃s,s=w.setCell ⟨g,1,none⟩ (j0 ((p:Int)+1)):=⟨_,rfl⟩;have f:s.heap[g]? =some (.cells #[.slice A c.length cap,j0 ((p:Int)+1)] 88 (0,0)):=j▸b6 t 1 _;have u:i1 [g] w s:=j▸(i1.refl _ _).setCell (by simp) _;have T:Te s g A c:=C.below u.size (fun b t hs=> u.block b hs (by simp;omega));have N:Rd s g (m+1):=⟨A,cap,c,p+1,by simpa using f,hl,hc,G,by omega,T⟩;obtain⟨c0,X,f0,f1⟩:=VE t;obtain⟨d0,d1,-,-⟩:=VE f;have HB:=hdq t;have Ge:=hdq f;have HR:=hdq N;clear t f N;by_cases hn:n < 1
 · have S:decide (n < 1)=true:=decide_eq_true hn
   go_enter func67,ntmps67;go_wp2_with fail;rw[<-j];go_ret;exact⟨0,rfl,Int.le_refl _,.inl rfl,HR.out,u⟩
 have S:decide (n < 1)=false:=decide_eq_false hn;by_cases r:c= []
 · subst r
   go_enter func67,ntmps67;go_wp2_with fail;rw[<-j];go_ret;exact⟨0,rfl,Int.le_refl _,.inl rfl,HR.out,u⟩
 have i:0 < c.length:=List.length_pos_iff.2 r;rcases C with C|⟨Z,o,rfl,U,M,a⟩
 · exact absurd C r
 have b2:((c.length:Int)==0)=false:=by rw[beq_eq_false_iff_ne];omega
 by_cases hk:p < c.length
 · have W:decide ((p:Int) <(c.length:Int))=true:=decide_eq_true (by omega)
   obtain⟨J,D,K⟩:=a p hk;generalize c[p]=x at J D K;clear a;go_enter func67,ntmps67;go_wp2_with fail;rw[<-j];go_ret;exact⟨_,rfl,Int.emod_nonneg _ (by omega),.inr (Int.emod_lt_of_pos _ (by omega)),HR.out,u⟩
 · have W:decide ((p:Int) <(c.length:Int))=false:=decide_eq_false (by omega)
   obtain⟨v,k⟩: ∃v:Nat,v=p % c.length:=⟨_,rfl⟩;obtain⟨B,l⟩: ∃B:Nat,B=(p*7+3) % c.length:=⟨_,rfl⟩;have V:v < c.length:=k▸Nat.mod_lt _ i;have G:B < c.length:=l▸Nat.mod_lt _ i;have e1:((p:Int) % (c.length:Int))=(v:Int):=by rw[k];exact(Int.natCast_emod p c.length).symm
   have e2:(((p:Int)*7+3) % (c.length:Int))=(B:Int):=by rw[l];rw[Int.natCast_emod];rfl
   obtain⟨d,hd⟩: ∃d:Nat,d=p / c.length:=⟨_,rfl⟩;have Y:d<=p:=hd▸Nat.div_le_self _ _;have e3:((p:Int) /(c.length:Int))=(d:Int):=by rw[hd];exact(Int.natCast_ediv p c.length).symm
   obtain⟨J,D,K⟩:=a v V;obtain⟨R,I,L⟩:=a B G;generalize c[v]=x at J D K;generalize c[B]=y at R I L;clear a k l hd;go_enter func67,ntmps67;go_wp2_with fail;rw[<-j]
   go_quiet (fail)
   obtain⟨z,r⟩: ∃z:Int,z=x*131+y*1117+(p:Int)*29+(d:Int)*53:=⟨_,rfl⟩;rw[<-r];have E:0<=z:=by omega
   have F:z < 4611686018427387904:=by omega
   have hx:=rK z (z / 64) E F (by omega) (by omega);clear r;generalize hq:bits .xor .i64 z (z / 64)=q at hx;go_wp2_with fail;rw[<-j];go_ret;exact⟨_,rfl,Int.emod_nonneg _ (by omega),.inr (Int.emod_lt_of_pos _ (by omega)),HR.out.drewN _,u.drewN _⟩
theorem Qq(w:aN)(g m:Nat)(h:Rd w g m)(hm:m < 1125899906842624)(A:Option Addr)(cap:Nat)(ns:List Int)(hl:ns.length<=cap)(hc:cap<=aW)(p:0 < ns.length)(hN:Xb w A ns)(hA: ∀b o,A=some ⟨b,o,none⟩->b≠g):aY prog 100 #[O2 g,.slice A ns.length cap] w fun e k=>
 ∃x:Int,e= .returned (j0 x)/\x∈ns/\Rd k g (m+1)/\i1 [g] w k:=by
 unfold aW at hc;rcases hN with hN|⟨b,o,rfl,s,c⟩
 · subst hN
   cases p
 go_enter func100,ntmps100;go_wp2_with fail;refine(Qf w g m ns.length h hm).mono ?_;rintro e q ⟨i,rfl,t,u,r,l⟩;obtain⟨j,rfl⟩:=dP t;have f:j < ns.length:=by omega
 have d:q.cell? ⟨b,o+j,none⟩=some (j0 ns[j]):=(eN (w:=w) (a:=⟨b,o+j,none⟩) (l.block b s (by have:=hA b o rfl;simpa using this))).trans (c j f);have n:=List.getElem_mem f;generalize ns[j]=x at d n;clear c;go_wp2_with fail;go_ret;exact⟨x,rfl,n,r,l⟩
theorem EJ(w:aN)(A:Option Addr)(cap:Nat)(a:List Int)(hl:a.length<=cap)(hc:cap<=aW)(l:Te w w.heap.size A a):aY prog 53 #[.slice A a.length cap] w fun e g=>
 e= .returned (O2 w.heap.size)/\Rd g w.heap.size 0/\Ext w g:=by
 have b:=hc;unfold aW at hc;have f: ∀(k:Nat) (c:Nat),k<=a.length->k<=c->c<=aW->k<=2000->Rd (w.alloc (.cells #[.slice A k c,j0 0] 88)) w.heap.size 0:=by
  intro k c n j i m;have hk:(a.take k).length=k:=by rw[dQ];omega
  refine⟨A,c,a.take k,0, ?_,by omega,i,by omega,aP _,(l.take k).ext ((xr w).alloc _)⟩;rw[hk];exact aT w _
 by_cases j:2000 < a.length
 · have d:decide ((2000:Int) <(a.length:Int))=true:=decide_eq_true (by omega)
   have R:=f 2000 cap (by omega) (by omega) b (aP _);go_enter func53,ntmps53;go_wp2_with fail;go_ret;exact⟨rfl,R,(xr w).alloc _⟩
 · have d:decide ((2000:Int) <(a.length:Int))=false:=decide_eq_false (by omega)
   have R:=f a.length cap (aP _) hl b (by omega);go_enter func53,ntmps53;go_wp2_with fail;go_ret;exact⟨rfl,R,(xr w).alloc _⟩
end Go.Proofs.YtckhbnmfnpolgaaGreat
namespace Go.Proofs.YtckhbnmfnpolgaaGreat
open Go.RowKit
def T4(k:Int)(i:Nat):Int:=if i=1/\(k=3\/k=4\/k=13) then 1 else 0
theorem Rq(k:Int)(i:Nat):0<=T4 k i/\T4 k i<=1:=by unfold T4;split <;> omega
def Nm(k:Int):Bool:=k==3||k==4||k==13
theorem jm(k:Int)(i:Nat):T4 k i=if((i:Int)==1 && Nm k)=true then 1 else 0:=by
 unfold T4 Nm;by_cases h:i=1
 · subst h
   by_cases a:k=3
   · subst a;rfl
   · by_cases b:k=4
     · subst b;rfl
     · by_cases c:k=13
       · subst c;rfl
       · rw[if_neg (by omega),if_neg (by simp[a,b,c])]
 · rw[if_neg (by omega),if_neg (by rw[beq_eq_false_iff_ne.2 (by omega:(i:Int)≠1)];simp)]
theorem m6{g:Ud}{k n:Int}{a:List Tr}{d:Int}(h:I0 g (.mk k n a) d=true):g.ops k=(a.length:Int)/\0<=n/\n<=g.most k/\ ∀t∈a,I0 g t (d - 1)=true:=by
 have mem: ∀{a:List Tr} {d:Int} {t:Tr},ma g a d=true->t∈a->I0 g t d=true:=by
  intro a
  induction a with
  |nil=> intro d t _ hm;cases hm
  |cons x a ih=>
   intro d t h hm;simp only[ma,aX] at h;rcases List.mem_cons.1 hm with rfl|hm
   · exact h.1
   · exact ih h.2 hm
 simp only[I0,Nj,aX] at h;have c:=of_decide_eq_true h.2.1.1;have b:=ti.1 h.2.1.2;exact⟨c,b.1,b.2,fun t ht=> mem h.2.2 ht⟩
theorem nJ(k:Int)(w:aN):aY prog 178 #[j0 k] w fun e g=> e= .returned (.bool (Nm k))/\w=g:=by
 obtain⟨d,f⟩: ∃b,(k==3)=b:=⟨_,rfl⟩;obtain⟨c,i⟩: ∃b,(k==4)=b:=⟨_,rfl⟩;obtain⟨a,j⟩: ∃b,(k==13)=b:=⟨_,rfl⟩;have e:Nm k=(d||c||a):=by unfold Nm;rw[f,i,j]
 have E:=hdq e;clear e;cases d <;> cases c <;> cases a
 all_goals go_enter func178,ntmps178
 all_goals go_wp2_with fail
 all_goals go_ret
 all_goals exact⟨by rw[E.out];rfl,rfl⟩
theorem Kx(k:Int)(i:Nat)(w:aN):aY prog 138 #[j0 k,j0 i] w fun e d=> e= .returned (j0 (T4 k i))/\w=d:=by
 obtain⟨g,j⟩: ∃b,((i:Int)==1)=b:=⟨_,rfl⟩;have c:=hdq (nJ k);obtain⟨f,a⟩: ∃b,Nm k=b:=⟨_,rfl⟩;have E:=hdq (jm k i);rw[j,a] at E;rw[a] at c;clear a;cases g <;> cases f
 all_goals go_enter func138,ntmps138
 all_goals go_wp2_with (go_at_call 178;refine(c.out _).mono ?_;rintro e l ⟨rfl,rfl⟩)
 all_goals go_ret
 all_goals exact⟨by rw[E.out];rfl,rfl⟩
theorem RG(k:Int)(i:Nat)(w:aN):aY prog 161 #[j0 k,j0 i] w fun e j=> e= .returned (.bool ((i:Int)==1 && Nm k))/\w=j:=by
 obtain⟨d,m⟩: ∃b,((i:Int)==1)=b:=⟨_,rfl⟩;obtain⟨f,g⟩: ∃b,(k==3)=b:=⟨_,rfl⟩;obtain⟨c,l⟩: ∃b,(k==4)=b:=⟨_,rfl⟩;obtain⟨a,n⟩: ∃b,(k==13)=b:=⟨_,rfl⟩;have e:((i:Int)==1 && Nm k)=(d &&(f||c||a)):=by unfold Nm;rw[m,g,l,n]
 have E:=hdq e;clear e;cases d <;> cases f <;> cases c <;> cases a
 all_goals go_enter func161,ntmps161
 all_goals go_wp2_with fail
 all_goals go_ret
 all_goals exact⟨by rw[E.out];rfl,rfl⟩
theorem IA(k:Int)(i:Nat)(w:aN):aY prog 127 #[j0 k,j0 i] w fun e d=> e= .returned (j0 (T4 k i))/\w=d:=by
 have c:=hdq (RG k i);have E:=hdq (jm k i);obtain⟨f,a⟩: ∃b,((i:Int)==1 && Nm k)=b:=⟨_,rfl⟩;rw[a] at E c;clear a;cases f
 all_goals go_enter func127,ntmps127
 all_goals go_wp2_with (go_at_call 161;refine(c.out _).mono ?_;rintro e g ⟨rfl,rfl⟩)
 all_goals go_ret
 all_goals exact⟨by rw[E.out];rfl,rfl⟩
theorem N4{g:Ud}{t:Tr}(h:valid g t=true):I0 g t 30=true/\cnt t<=400:=by
 unfold valid at h;rw[aX] at h;exact⟨h.1,of_decide_eq_true h.2⟩
theorem sG{w:aN}{g:Nat}{cs:Array aU}{e:TypeId}{ns:List Int}(a:w.heap[g]? =some (.cells cs e (0,0)))(hc:cs.toList=ns.map (Value.int .i64)):Xb w (some ⟨g,0,none⟩) ns:=by
 refine .inr ⟨g,0,rfl,D1 a,fun j b=> ?_⟩;rw[E1 a,<-Array.getElem?_toList,hc,Nat.zero_add,List.getElem?_map,cR b]
 rfl
theorem Rd.ext{w a:aN}{g m:Nat}(h:Rd w g m)(b:Ext w a):Rd a g m:=by
 obtain⟨A,cap,f,p,e,k,c,d,j,i⟩:=h;exact⟨A,cap,f,p,b.blk e,k,c,d,j,i.ext b⟩
theorem Rd.lt{w:aN}{g m:Nat}(h:Rd w g m):g < w.heap.size:=by
 obtain⟨A,cap,b,p,a,_⟩:=h;exact D1 a
theorem Rd.mono{w:aN}{g m a:Nat}(h:Rd w g m)(hm:m<=a):Rd w g a:=by
 obtain⟨A,cap,e,p,d,i,b,c,j,f⟩:=h;exact⟨A,cap,e,p,d,i,b,c,by omega,f⟩
end Go.Proofs.YtckhbnmfnpolgaaGreat
namespace Go.Proofs.YtckhbnmfnpolgaaGreat
open Go.RowKit
attribute [local go_sem ↓] Go.wp_at_zero Go.wp_at_succ
def xG(t:Tr):Prop:= ∀(w:aN) (v:aU),Lies w t v->cnt t<=1000000->
 aY prog 43 #[v] w fun e a=> ∃u,e= .returned u/\W0 w a 25 t u/\Ext w a
theorem cH:(prog.info? 25).map (fun i=>(i.zero,i.size,i.bytes))=some (some (m0 0 0 none 0 0),3,40):=by kernel_rfl
theorem Oi: ∀t:Tr,xG t:=Tr.ind fun k n a hk=> by
 intro w v d6 P9;obtain⟨A,cap,rfl,hl,hc,hK⟩:=Lies.mk_iff.1 d6;obtain⟨i0,hi,K,M,G⟩:=info_parts cH;have q:=hc;unfold aW at q;simp only[cnt] at P9;have hlc:=Tg a;go_enter func43,ntmps43;go_wp2_with fail;obtain⟨c,g⟩: ∃c,c=(w.alloc (D0 k n A a.length cap)).alloc M0:=⟨_,rfl⟩;obtain⟨W,m⟩: ∃W,W=c.alloc (D0 k n none 0 0):=⟨_,rfl⟩;have F:c.heap.size=w.heap.size+1+1:=by rw[g];simp
 have om:W.heap.size=w.heap.size+3:=by rw[m];simp;omega
 have C0:Ext w c:=g▸((xr w).alloc _).alloc _;have dy:Ext c W:=m▸(xr c).alloc _;have F6:c.heap[w.heap.size+1]? =some M0:=by
  rw[g];exact(blk2 (xr _)).2.1
 have gp:W.heap[w.heap.size+1+1]? =some (D0 k n none 0 0):=by
  have:=aT c (D0 k n none 0 0);rw[F] at this;rw[m];exact this
 rw[<-g,<-m];clear m g
 go_loopw [14] (fun i wr=> ∃(j:Nat) (v:aU),j<=a.length/\i= j0 j/\wr.heap[w.heap.size+1+1]? =some (.cells #[j0 k,j0 n,v] 25 (0,0))/\Y5 W wr 25 v (a.take j)/\Ext c wr/\W.heap.size<=wr.heap.size) (fun i _=> a.length -(intOf i).toNat)
 case atStart=> exact⟨0,_,cO _,rfl,gp,Y5.nil _ _ _,dy,aP _⟩
 case round=>
  obtain⟨j,v,hj,rfl,B,hG,l,E⟩:=hrel;by_cases x:j < a.length
  · obtain⟨b,o,R,U,Z,d,kids,rfl,HK,c0,c1,c2,I7,I6,hK',x9,S⟩:=hK.get (C0.trans l) x
    have I1:=gN x;rw[HK.out] at I1;have hcm:=ya S;have s:(a.take j).length < 1099511627776:=by rw[dQ];omega
    have W4:(a.take j).length=j:=by rw[dQ];omega
    have HL:=hdq W4;go_wp2_with fail;have hx:=(xr wr).alloc (D0 R U Z kids.length d);have N:=aT wr (D0 R U Z kids.length d);generalize wr.alloc _=z at hx N;have J6:W.heap.size<=z.heap.size:=by have:=hx.size;omega
    have I5:=hG.ext hx;have N2:=hx.blk B;have hv:=E1 N2 2;have Y: ∀O,Below W.heap.size z O->O.heap[w.heap.size+1+1]? =some (.cells #[j0 k,j0 n,v] 25 (0,0)):=fun O hB=>(hB.block (w.heap.size+1+1) (by omega)).trans N2
    have r:=hdq Y;obtain⟨d0,d1,d2,-,-,-⟩:=own3 N;have D:Ext z z.drew:=(xr z).drew;have T9:=(x9.ext hx).ext D;have eu:=l.trans hx;clear Y W4 c0 c1 c2 B hG l E q
    go_region_law (first|(go_simp;go_at_call 43;refine(hk _ S _ _ T9 (by omega)).mono ?_;rintro e w4 ⟨u,rfl,I,C⟩;obtain⟨a1,a2,a3,a4,a5,rfl⟩:=I.three';have f:=E1 (r.out _ ((D.trans C).below J6)) 2;have kh:=bY _ _ f) |(refine ED _ (by rfl) (.tmp 19) (.tmp 22) _ (by rfl) 25 i0 _ underlying23 hi K M G rfl (by rfl) I5 J6 (D.trans C) (I.since (aP _)) ((xr _).alloc _) (by rfl) (aT _ _) s ?_;intro v' T J y;obtain⟨B5,Q,rfl,L,X,-⟩:=J.made;have ln:=E1 (r.out _ y) 2;have un:=mc (r.out _ y) 2))
    all_goals(
     have X6:Ext c T:=eu.trans' y (by omega);have hs5:=y.size;have cn:=r.out _ y;rw[cV,cW,I1,show(a.take j).length+1=min (j+1) a.length from by rw[dQ];omega] at J;have jq:=fun u=> J.after ((Ua.refl W.heap.size T).setCell (p:=⟨w.heap.size+1+1,2,none⟩) (by show w.heap.size+1+1 < W.heap.size;omega) u)
     clear f kh hv r I C d0 d1 d2 N;go_wp2_with fail
     go_roundw
     case rel=> exact⟨j+1,_,by omega,by go_num,b6 cn 2 _,jq _,X6.setCell (by show _<=w.heap.size+1+1;omega) _,by simp;omega⟩
     case measure=> simp[intOf];omega)
  · obtain⟨B5,Q,rfl,L,X,ap⟩:=hG.made
    have V:j=a.length:=by omega
    have lh:(a.take j).length=a.length:=by rw[V,jP]
    obtain⟨r0,r1,r2,-,-,-⟩:=own3 B;have P4:=l.blk F6;obtain⟨s0,s1,s2,f0,f1,f2⟩:=own3 P4;rw[lh] at L r2;rw[show a.take j=a from by rw[V,jP]] at ap;clear lh B;go_wp2_with fail;refine bodyPost_ret (v:= m0 k n B5 a.length Q) (by simp[results,results43,go_sem,s0,s1,s2]) rfl ⟨_,rfl, ?_, ?_⟩
    · exact W0.since (W0.after (W0.mk L X ap) ((((Ua.refl _ _).setCell (by show w.heap.size+1 < _;omega) _).setCell (by show w.heap.size+1 < _;omega) _).setCell (by show w.heap.size+1 < _;omega) _)) (by omega)
    · exact((((C0.trans l).setCell (by simp) _).setCell (by simp) _).setCell (by simp) _)
def Xm(t:Tr):Prop:= ∀(w:aN) (v:aU),Lies w t v->cnt t<=1000000->
 aY prog 46 #[v] w fun e a=> ∃u,e= .returned u/\W0 w a 25 t u/\Ext w a
theorem UB:(prog.info? 25).map (fun i=>(i.zero,i.size,i.bytes))=some (some (m0 0 0 none 0 0),3,40):=by kernel_rfl
theorem Sf: ∀t:Tr,Xm t:=Tr.ind fun k n a hk=> by
 intro w v d6 P9;obtain⟨A,cap,rfl,hl,hc,hK⟩:=Lies.mk_iff.1 d6;obtain⟨i0,hi,I,L,E⟩:=info_parts UB;have q:=hc;unfold aW at q;simp only[cnt] at P9;have hlc:=Tg a;go_enter func46,ntmps46;go_wp2_with fail;obtain⟨c,f⟩: ∃c,c=(w.alloc (D0 k n A a.length cap)).alloc M0:=⟨_,rfl⟩;obtain⟨W,l⟩: ∃W,W=c.alloc (D0 k n none 0 0):=⟨_,rfl⟩;have D:c.heap.size=w.heap.size+1+1:=by rw[f];simp
 have om:W.heap.size=w.heap.size+3:=by rw[l];simp;omega
 have C0:Ext w c:=f▸((xr w).alloc _).alloc _;have dy:Ext c W:=l▸(xr c).alloc _;have F6:c.heap[w.heap.size+1]? =some M0:=by
  rw[f];exact(blk2 (xr _)).2.1
 have gp:W.heap[w.heap.size+1+1]? =some (D0 k n none 0 0):=by
  have:=aT c (D0 k n none 0 0);rw[D] at this;rw[l];exact this
 have R:c.heap[w.heap.size]? =some (D0 k n A a.length cap):=by
  rw[f];exact(blk2 (xr _)).1
 rw[<-f,<-l];clear l f
 go_loopw [4] (fun i wr=> ∃(j:Nat) (v:aU),j<=a.length/\i= j0 j/\wr.heap[w.heap.size+1+1]? =some (.cells #[j0 k,j0 n,v] 25 (0,0))/\Y5 W wr 25 v (a.take j)/\Ext c wr/\W.heap.size<=wr.heap.size) (fun i _=> a.length -(intOf i).toNat)
 case atStart=> exact⟨0,_,cO _,rfl,gp,Y5.nil _ _ _,dy,aP _⟩
 case round=>
  obtain⟨j,v,hj,rfl,z,hG,d,m⟩:=hrel;by_cases x:j < a.length
  · obtain⟨b,o,k',n',A',O,kids,rfl,HK,c0,c1,c2,I7,I6,hK',x9,Q⟩:=hK.get (C0.trans d) x
    have I1:=gN x;rw[HK.out] at I1;have hcm:=ya Q;have s:(a.take j).length < 1099511627776:=by rw[dQ];omega
    have Z:(a.take j).length=j:=by rw[dQ];omega
    have HL:=hdq Z;have J:=d.blk R;obtain⟨-,-,t2,-,-,-⟩:=own3 J;have hj':(j:Int) <(a.length:Int):=by omega
    go_wp2_with fail;have J6:=m;have I5:=hG;have N2:=z;have hv:=E1 N2 2;have V: ∀M,Below W.heap.size wr M->M.heap[w.heap.size+1+1]? =some (.cells #[j0 k,j0 n,v] 25 (0,0)):=fun M hB=>(hB.block (w.heap.size+1+1) (by omega)).trans N2
    have r:=hdq V;have C:Ext wr wr.drew:=(xr wr).drew;have T9:=x9.ext C;have eu:=d;clear V Z z hG d m q
    go_region_law (first|(go_simp;go_at_call 46;refine(hk _ Q _ _ T9 (by omega)).mono ?_;rintro e w4 ⟨u,rfl,F,B⟩;obtain⟨a1,a2,a3,a4,a5,rfl⟩:=F.three';have g:=E1 (r.out _ ((C.trans B).below J6)) 2;have kh:=bY _ _ g) |(refine ED _ (by rfl) (.tmp 18) (.tmp 25) _ (by rfl) 25 i0 _ underlying23 hi I L E rfl (by rfl) I5 J6 (C.trans B) (F.since (aP _)) ((xr _).alloc _) (by rfl) (aT _ _) s ?_;intro v' S G y;obtain⟨X,N,rfl,K,U,-⟩:=G.made;have ln:=E1 (r.out _ y) 2;have un:=mc (r.out _ y) 2))
    all_goals(
     have X6:Ext c S:=eu.trans' y (by omega);have hs5:=y.size;have cn:=r.out _ y;rw[cV,cW,I1,show(a.take j).length+1=min (j+1) a.length from by rw[dQ];omega] at G;have jq:=fun u=> G.after ((Ua.refl W.heap.size S).setCell (p:=⟨w.heap.size+1+1,2,none⟩) (by show w.heap.size+1+1 < W.heap.size;omega) u)
     clear g kh hv r F B c0 c1 c2 t2;go_wp2_with fail
     go_roundw
     case rel=> exact⟨j+1,_,by omega,by go_num,b6 cn 2 _,jq _,X6.setCell (by show _<=w.heap.size+1+1;omega) _,by simp;omega⟩
     case measure=> simp[intOf];omega)
  · obtain⟨X,N,rfl,K,U,ap⟩:=hG.made
    have T:j=a.length:=by omega
    have Y:(a.take j).length=a.length:=by rw[T,jP]
    obtain⟨r0,r1,r2,-,-,-⟩:=own3 z;have J:=d.blk R;obtain⟨-,-,t2,-,-,-⟩:=own3 J;have P4:=d.blk F6;obtain⟨s0,s1,s2,f0,f1,f2⟩:=own3 P4;rw[Y] at K r2;rw[show a.take j=a from by rw[T,jP]] at ap;clear Y z;go_wp2_with fail;refine bodyPost_ret (v:= m0 k n X a.length N) (by simp[results,results46,go_sem,s0,s1,s2]) rfl ⟨_,rfl, ?_, ?_⟩
    · exact W0.since (W0.after (W0.mk K U ap) ((((Ua.refl _ _).setCell (by show w.heap.size+1 < _;omega) _).setCell (by show w.heap.size+1 < _;omega) _).setCell (by show w.heap.size+1 < _;omega) _)) (by omega)
    · exact((((C0.trans d).setCell (by simp) _).setCell (by simp) _).setCell (by simp) _)
