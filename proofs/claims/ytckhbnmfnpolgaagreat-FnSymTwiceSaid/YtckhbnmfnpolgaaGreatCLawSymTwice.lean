/-
  PROVED: the law FnSymTwice returns true for every input: exchange is an involution.
  CONDITIONS: none.
-/
import Derived.Test.YtckhbnmfnpolgaaGreatCAE
import Derived.Test.YtckhbnmfnpolgaaGreatCAF
import Derived.Test.YtckhbnmfnpolgaaGreatCBM
import Derived.Test.YtckhbnmfnpolgaaGreatCBN
import Derived.Deep.RegionHeld3
import Derived.Test.YtckhbnmfnpolgaaGreatRows
open Go.World renaming alloc->aO
open Go.Proofs.Tryz
set_option linter.all false
set_option maxHeartbeats 40000000
set_option maxRecDepth 100000
namespace Go.Proofs.YtckhbnmfnpolgaaGreat.symTwice
open Go Go.RowKit Go.ChangeShapes Go.WideShapes Go.ChangeAt
theorem own:ownKnob prog.godebug=none:=by kernel_rfl
theorem q212(c:Tr)(w:World)(v u:Value)(h:Lies w c v)(k:Lies w c u):Calls prog 15 #[v,u] w fun e a=> e= .returned (.bool true)/\Ext w a:=by
 have:=FE c w c v u h k;rw[BE] at this;exact this
theorem Nk{ctx:List Tr}{t:Tr}{r q:Tr×Int}{f:Nat}(h:q.2=0-> ∃G e T l u A,ctx=ctxE G/\t=enc e/\r=(enc (.id T l u),0)/\q.1=enc (Y2 T l e)/\Vb G e T l u/\M.Ty G (Y2 T l e) A/\M.Lim G (Y2 T l e)/\j0 D0 (enc (Y2 T l e))=true)(hr:X0 (Yb f ctx t) 10=some r)(C:q.2=0):
 ∃g c b a d,X0 (Yb g ctx q.1) 10=some b/\(b.2=0->Jb c ctx (me b.1 q.1)=some a)/\(b.2≠0->a=(j2,b.2))/\(a.2=0\/a.2=2)/\Yb f ctx t=some (d,0)/\(a.2=0-> ∃m x,Nq m ctx a.1 d=some x/\(x.2=0\/x.2=2))/\(t.kind=11->(Yc q.1 t 200 !=2)=true):=by
 obtain⟨G,e,T,l,u,A,rfl,rfl,rfl,L,hS,I,p,v⟩:=h C;rw[L];obtain⟨d,n,-,-⟩:=We hr;obtain⟨g,K⟩:=So (ctxE G) (enc (Y2 T l e));obtain⟨b,o⟩:=(K g (Nat.le_refl _)).frm 10;obtain⟨w,s⟩:=iF hS I p v o;have j:(enc e).kind=11->(Yc (enc (Y2 T l e)) (enc e) 200 !=2)=true:=fun hk=> by
  rw[bne_iff_ne];exact fun hc=> dA hc (SE hS hk)
 obtain hc|hc:=w
 · obtain⟨D,i⟩:=s hc
   have z: ∃c a,Jb c (ctxE G) (enc (Y2 T u (Y2 T l e)))=some a:=by
    unfold Jb
    split
    · obtain⟨c,k⟩:=So (ctxE G) (enc (Y2 T u (Y2 T l e)))
      exact⟨c,(k c (Nat.le_refl _)).thn fun _ _=> Is.mk _⟩
    · exact⟨0,_,rfl⟩
   obtain⟨c,a,k⟩:=z;obtain⟨H,B⟩:=fo hS p i k;refine⟨g,c,b,a,d,o,fun _=> by rw[D,ZA];exact k,fun h=> absurd hc h,H,n,fun E=> ?_,j⟩;obtain⟨y,F⟩:=B E;rw[y];obtain⟨m,J⟩:=SA (ctxE G) (enc (Y2 T u (Y2 T l e))) d;obtain⟨x,hx⟩:=J m (Nat.le_refl _);exact⟨m,x,hx,tG hS p i F n _ _ hx⟩
 · exact⟨g,0,b,(j2,b.2),d,o,fun h=> absurd (h.symm.trans hc) (by decide),fun _=> rfl,.inr hc,n,fun h=> absurd (h.symm.trans hc) (by decide),j⟩
theorem walk(E:World)(A:Option Addr)(cap:Nat)(y:List Int)(hl:y.length<=cap)(hc:cap<=maxLen)(hB:ge E E.heap.size A y):
 Calls prog 4 #[.slice A y.length cap] E fun e w'=> e= .returned (.bool true)/\Ext E w':=by
 have hcc:=hc;unfold maxLen at hcc;by_cases hn:1048576 <(y.length:Int)
 · have d1:decide (1048576 <(y.length:Int))=true:=decide_eq_true hn
   go_enter func4,ntmps4;go_wp2_with fail;go_ret;exact⟨rfl,xr _⟩
 have d1:decide (1048576 <(y.length:Int))=false:=decide_eq_false hn;go_enter func4,ntmps4;go_wp2_with fail;refine(q66 E A cap y hl hc hB).mono ?_;rintro e s ⟨B,n,c,ctx,t,u,rfl,hS,w,⟨F,i,hA⟩,hK,hT,Y⟩;obtain⟨tk,tn,ts⟩:=t;obtain⟨At,ct,rfl,-⟩:=InT.mk_iff.1 hT;obtain⟨f,f',r,f2,xn,⟨p,k⟩,I,D,G,P,h5⟩:=y231 hS.law;have K:y22 s B ctx:=InK.mono (fun b hb=> hb.2) (fun _ _=> rfl) hK;have T:=hT.lies;have R:=hdq (fun W (X:Ext s W)=> CI xn f' ctx B c W (K.ext X) (by rw[w];exact F) i _ _ (T.ext X) AllN (fun _ _=> trivial) r (p,k) D (fun h=>(G h).2) P);have HS:=hdq (fun W (X:Ext s W)=> WJ f f2 ctx B c W (K.ext X) (by rw[w];exact F) i hA _ _ (T.ext X) r (p,k) I (fun h=>(G h).1) P);have HP:=hdq (fun W (X:Ext s W) f2 f t v (ht:Lies W t v) r q I D G=> CI f2 f ctx B c W (K.ext X) (by rw[w];exact F) i t v ht AllN (fun _ _=> trivial) r q I D G);have HE:=hdq (fun W (X:Ext s W) f q h=> LF f ctx B c W (K.ext X) (by rw[w];exact F) i _ _ (T.ext X) AllN (fun _ _=> trivial) q h);have HT:=hdq (fun W (X:Ext s W)=> T.ext X);have HF:=hdq (Nk h5 D);have U:=hdq (fun f x t u (h:Nq f ctx t u=some x) W (X:Ext s W) v v' (hv:Lies W t v) (N:Lies W u v')=> XJ f ctx B c W (K.ext X) (by rw[w];exact F) i t v hv u v' N x h);rw[w] at R HS U HP HE;have xo:=i;unfold maxLen at xo;clear hS I D G P h5 K T hK hT w hA i;go_wp2_with fail;generalize j:aO s _=w2;obtain⟨a,X⟩:=nb j;have Q:=cb3 a;refine(R.out _ X).mono ?_;rintro e w3 ⟨u0,rfl,d,e⟩;replace d:=d.lies';obtain⟨_,_,_,_,_,rfl⟩:=d.three;replace X:=X.trans e;replace a:=e.blk a;replace Q:=cb3 a;have z:=fun o=> cb3 (((xr w3).alloc o).blk a)
 clear j R e;go_wp2_with fail;generalize j:aO w3 _=w4;obtain⟨g,e⟩:=nb j;replace X:=X.trans e;replace d:=d.ext e;replace a:=e.blk a;clear j e Q z;have Q:=cb3 a;refine(HS.out _ X).mono ?_;rintro e w5 ⟨v0,rfl,m,e⟩;replace m:=m.lies';obtain⟨_,_,_,_,_,rfl⟩:=m.three;replace X:=X.trans e;replace d:=d.ext e;replace a:=e.blk a;replace g:=e.blk g;have z:=fun o=> cb3 (((xr w5).alloc o).blk g)
 have hz:(k !=k)=false:=by simp
 clear HS e Q;go_wp2_with fail;generalize j:aO w5 _=w6;obtain⟨L,e⟩:=nb j;replace X:=X.trans e;replace d:=d.ext e;replace m:=m.ext e;replace a:=e.blk a;replace g:=e.blk g;clear j e z;refine(q212 _ _ _ _ d m).mono ?_;rintro e w7 ⟨rfl,e⟩;replace X:=X.trans e;replace d:=d.ext e;replace m:=m.ext e;replace a:=e.blk a;replace g:=e.blk g;replace L:=e.blk L;clear e;have Q:=cb3 a;have Q5:=cb3 g;have Q7:=cb3 L;have hz':(k==k)=true:=by simp
 obtain⟨HK,hk⟩ |rfl:=cz k
 · go_wp2_with fail
   refine(q212 _ _ _ _ d m).mono ?_;rintro e O ⟨rfl,e⟩;go_wp2_with fail;go_ret;exact⟨rfl,Y.trans (X.trans e)⟩
 obtain⟨f3,f4,r3,⟨q,V⟩,s0,g1,g2,g3,g4,g5,g6,g7⟩:=HF.out rfl;have H:=hdq (fun W X v (hv:Lies W p v)=> HP.out W X f4 f3 p v hv r3 (q,V) g1 g2 g3);have fg:=hdq (fun W X=> HE.out W X f' (s0,0) g5);have G4:=hdq g4;have G6:=hdq g6;have G7:=hdq g7;clear HF HP HE g1 g2 g3 g4 g5 g6 g7 L Q7 m hz hz';go_wp2_with fail;refine(H.out _ X _ d).mono ?_;rintro e O ⟨u1,rfl,l,e⟩;replace l:=l.lies';obtain⟨_,_,_,_,_,rfl⟩:=l.three;replace d:=d.ext e;replace a:=e.blk a;replace g:=e.blk g;replace X:=X.trans e;have z:=fun o=> cb3 (((xr O).alloc o).blk a)
 clear e Q Q5 H;go_wp2_with fail;generalize j:aO O _=w9;obtain⟨J,e⟩:=nb j;replace d:=d.ext e;replace l:=l.ext e;replace a:=e.blk a;replace g:=e.blk g;replace X:=X.trans e;clear j e z;refine(fg.out _ X).mono ?_;rintro e T3 ⟨u2,rfl,C,e⟩;replace C:=C.lies';obtain⟨_,_,_,_,_,rfl⟩:=C.three;replace d:=d.ext e;replace l:=l.ext e;replace a:=e.blk a;replace g:=e.blk g;replace J:=e.blk J;replace X:=X.trans e;have z:=fun o=> cb3 (((xr T3).alloc o).blk J)
 clear e fg;obtain⟨yl,S⟩ |rfl:=cz V
 · obtain rfl:V=2:=(G4.out).resolve_left yl.out
   go_wp2_with fail;go_ret;exact⟨rfl,Y.trans (X.alloc _)⟩
 obtain⟨f6,x,k1,k2⟩:=G6.out rfl;have P9:=hdq (U.out f6 x _ _ k1);have M:=hdq k2;clear k1 k2 G4 G6 U;go_wp2_with fail;generalize j:aO T3 _=ee;obtain⟨-,e⟩:=nb j;replace d:=d.ext e;replace l:=l.ext e;replace C:=C.ext e;replace a:=e.blk a;replace g:=e.blk g;replace X:=X.trans e;clear j e z J;refine(P9.out _ X _ _ l C).mono ?_;rintro e iu ⟨rfl,e⟩;replace d:=d.ext e;replace a:=e.blk a;replace g:=e.blk g;replace X:=X.trans e;have Q4:=cb3 a;have Q5:=cb3 g;generalize x.2=cx at M⊢;clear e a g l C P9;have Z:=Y.trans X;obtain⟨yl,S⟩ |S:=czk tk 11
 · obtain rfl|rfl:=M.out
   · go_wp2_with fail
     go_ret;exact⟨rfl,Z⟩
   · go_wp2_with fail
     go_ret;exact⟨rfl,Z⟩
 subst S;have q7:=G7.out rfl;have yn:((11:Int) !=11)=false:=by decide
 go_wp2_with fail;refine(LJ _ _ 200 _ _ _ d (HT.out _ X)).mono ?_;rintro e rk ⟨rfl,e⟩;have Z':=Z.trans e;generalize Yc p (.mk 11 tn ts) 200=cv at q7⊢;obtain rfl|rfl:=M.out
 · go_wp2_with fail
   go_ret;exact⟨rfl,Z'⟩
 · go_wp2_with fail
   go_ret;exact⟨rfl,Z'⟩
theorem lifted(os:Os)(a:os.Started)(H:Type)(enc:TypeId×Value->H):
 ReturnsInHanded {} checked os 4 .any (Rows.fnSymTwiceSpec.pre6 enc prog Tryz.f4 Rows.fnSymTwiceRow.domain false) (Rows.fnSymTwiceSpec.post enc prog Tryz.f4 false true false false):=by
 refine uA (C:=checked) (fn:=Tryz.f4) (tb:=4) own a (by kernel_rfl) func4 (by kernel_rfl) (by kernel_rfl) rfl underlying4 rfl
  (fun f h=> by
   match f,h with
   | [t],_=> exact⟨rfl,rfl,rfl⟩)
  (ChangeSpec.witness6 (enc:=enc) (C:=checked) false ⟨#[],#[.slice none 0 0], []⟩ 8 (by kernel_rfl) (by kernel_rfl) (by kernel_rfl) (by kernel_rfl)) ?_
 intro W base args f p b hA l;rw[params4] at hA b;obtain⟨v0,j,q,m,u,r,s,rfl,rfl,n,o⟩:=trodAll_cons hA;obtain⟨rfl,rfl,rfl⟩:=trodAll_nil o;obtain rfl:args=#[v0]:=by cases args;simp_all
 obtain⟨i,g,k,rfl,d,e,c⟩:=Wz underlying22 underlying5 (by kernel_rfl) (b 0 22 v0 rfl rfl) n;exact walk W i g k d e c.1
theorem over:Rows.fnSymTwiceRow.holds Tryz.pinned (OpenSpec.ofChange Rows.fnSymTwiceSpec):=
 OpenClaim.holds_of_wide 4 Tryz.f4 rfl rfl rfl rfl rfl rfl rfl ⟨rfl,rfl,rfl,rfl,rfl⟩ rfl rfl rfl rfl rfl (by kernel_rfl) func4 (by kernel_rfl)
  (of_decide_eq_true (by kernel_rfl)) (by unfold Func.isWrapper;first|(rw[if_pos (by decide+kernel)];kernel_rfl) |(rw[if_neg (by decide+kernel)];exact⟨rfl,rfl⟩))
  (fun os a H enc _=> lifted os a H enc)
theorem proved:Rows.FnSymTwiceSaid:=over
#print axioms proved
