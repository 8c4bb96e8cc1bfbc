/-
  PROVED: the law FnSymProof returns true for every input: equality is symmetric.
  CONDITIONS: none.
-/
import Derived.Test.YtckhbnmfnpolgaaGreatC00
import Derived.Test.YtckhbnmfnpolgaaGreatCAE
import Derived.Test.YtckhbnmfnpolgaaGreatCAF
import Derived.Test.YtckhbnmfnpolgaaGreatCBM
import Derived.Deep.RegionHeld3
import Derived.Test.YtckhbnmfnpolgaaGreatRows
open Go.World renaming alloc->aO
open Go.Proofs.Tryz
set_option linter.all false
set_option maxHeartbeats 40000000
set_option maxRecDepth 100000
namespace Go.Proofs.YtckhbnmfnpolgaaGreat.symProof
open Go Go.RowKit Go.ChangeShapes Go.WideShapes Go.ChangeAt
theorem own:ownKnob prog.godebug=none:=by kernel_rfl
theorem q212(c:Tr)(w:World)(v u:Value)(h:Lies w c v)(k:Lies w c u):Calls prog 15 #[v,u] w fun e a=> e= .returned (.bool true)/\Ext w a:=by
 have:=FE c w c v u h k;rw[BE] at this;exact this
theorem BF(w:World)(c b a:Value)(e:TypeId)(o2 d:Obj):(((w.alloc (.cells #[c,b,a] e)).alloc o2).alloc d).cell? ⟨w.heap.size,0,none⟩=some c/\(((w.alloc (.cells #[c,b,a] e)).alloc o2).alloc d).cell? ⟨w.heap.size,1,none⟩=some b/\(((w.alloc (.cells #[c,b,a] e)).alloc o2).alloc d).cell? ⟨w.heap.size,2,none⟩=some a:=by
 have h:=(((xr _).alloc o2).alloc d).blk (heap_alloc_new w (.cells #[c,b,a] e));exact⟨U1 h 0,U1 h 1,U1 h 2⟩
theorem Nk{ctx:List Tr}{t:Tr}{r q:Tr×Int}(h:q.2=0-> ∃G e T l u A,ctx=ctxE G/\t=enc e/\r=(enc (.id T l u),0)/\q.1=enc (Y2 T l e)/\Vb G e T l u/\M.Ty G (Y2 T l e) A/\M.Lim G (Y2 T l e)/\j0 D0 (enc (Y2 T l e))=true)(b:q.2=0):
 r.2=0/\ ∃f x,Nq f ctx q.1 (.mk 10 0 [sd r 0,sd r 2,sd r 1])=some x/\(j0 D0 (.mk 10 0 [sd r 0,sd r 2,sd r 1])=true->x.2=0\/x.2=2):=by
 obtain⟨G,e,T,l,u,A,rfl,rfl,rfl,d,hS,c,a,v⟩:=h b;rw[d];obtain⟨f,k⟩:=SA (ctxE G) (enc (Y2 T l e)) (enc (.id T u l));obtain⟨x,hx⟩:=k f (Nat.le_refl _);exact⟨rfl,f,x,hx,fun hv=> hS.check c a v hv f _ _ hx⟩
theorem walk(D:World)(A:Option Addr)(cap:Nat)(w:List Int)(hl:w.length<=cap)(hc:cap<=maxLen)(hB:ge D D.heap.size A w):
 Calls prog 5 #[.slice A w.length cap] D fun e w'=> e= .returned (.bool true)/\Ext D w':=by
 have hcc:=hc;unfold maxLen at hcc;by_cases hn:1048576 <(w.length:Int)
 · have d1:decide (1048576 <(w.length:Int))=true:=decide_eq_true hn
   go_enter func5,ntmps5;go_wp2_with fail;go_ret;exact⟨rfl,xr _⟩
 have d1:decide (1048576 <(w.length:Int))=false:=decide_eq_false hn;go_enter func5,ntmps5;go_wp2_with fail;refine(q66 D A cap w hl hc hB).mono ?_;rintro e z ⟨B,n,c,ctx,t,u,rfl,hS,y,⟨P,i,hA⟩,hK,hT,Y⟩;obtain⟨t1,t2,t3,t4,t5,rfl⟩:=hT.three;obtain⟨f,f',r,f2,xn,⟨p,k⟩,h1,V,h3,h4,h5⟩:=y231 hS.law;have K:y22 z B ctx:=InK.mono (fun b hb=> hb.2) (fun _ _=> rfl) hK;have T:=hT.lies;have HI:=hdq (fun W (X:Ext z W)=> CI xn f' ctx B c W (K.ext X) (by rw[y];exact P) i t _ (T.ext X) AllN (fun _ _=> trivial) r (p,k) V (fun h=>(h3 h).2) h4);have HS:=hdq (fun W (X:Ext z W)=> WJ f f2 ctx B c W (K.ext X) (by rw[y];exact P) i hA t _ (T.ext X) r (p,k) h1 (fun h=>(h3 h).1) h4);have HD:=hdq (fun W (X:Ext z W)=> kH f' ctx B c W (K.ext X) (by rw[y];exact P) i t _ (T.ext X) r V);have HF:=hdq (Nk h5);have HC:=hdq (fun f x t u (h:Nq f ctx t u=some x) W (X:Ext z W) v v' (hv:Lies W t v) (hv':Lies W u v')=> XJ f ctx B c W (K.ext X) (by rw[y];exact P) i t v hv u v' hv' x h);rw[y] at HI HS HC HD;have xo:=i;unfold maxLen at xo;clear hS h1 V h3 h4 h5 K T hK hT y hA i;go_wp2_with fail;generalize j:aO z _=w2;obtain⟨d,X⟩:=nb j;have Q:=cb3 d;refine(HI.out _ X).mono ?_;rintro e w3 ⟨u0,rfl,a,e⟩;replace a:=a.lies';obtain⟨_,_,_,_,_,rfl⟩:=a.three;replace X:=X.trans e;replace d:=e.blk d;replace Q:=cb3 d;have J:=fun o=> cb3 (((xr w3).alloc o).blk d)
 clear j HI e;go_wp2_with fail;generalize j:aO w3 _=w4;obtain⟨g,e⟩:=nb j;replace X:=X.trans e;replace a:=a.ext e;replace d:=e.blk d;clear j e Q J;have Q:=cb3 d;refine(HS.out _ X).mono ?_;rintro e w5 ⟨v0,rfl,m,e⟩;replace m:=m.lies';obtain⟨_,_,_,_,_,rfl⟩:=m.three;replace X:=X.trans e;replace a:=a.ext e;replace d:=e.blk d;replace g:=e.blk g;have J:=fun o=> cb3 (((xr w5).alloc o).blk g)
 have hz:(k !=k)=false:=by simp
 clear HS e Q;go_wp2_with fail;generalize j:aO w5 _=w6;obtain⟨S,e⟩:=nb j;replace X:=X.trans e;replace a:=a.ext e;replace m:=m.ext e;replace d:=e.blk d;replace g:=e.blk g;clear j e J;refine(q212 _ _ _ _ a m).mono ?_;rintro e w7 ⟨rfl,e⟩;replace X:=X.trans e;replace a:=a.ext e;replace m:=m.ext e;replace d:=e.blk d;replace g:=e.blk g;replace S:=e.blk S;clear e;have Q:=cb3 d;have Q5:=cb3 g;have Q7:=cb3 S;have hz':(k==k)=true:=by simp
 obtain⟨HK,hk⟩ |rfl:=cz k
 · go_wp2_with fail
   refine(q212 _ _ _ _ a m).mono ?_;rintro e q ⟨rfl,e⟩;go_wp2_with fail;go_ret;exact⟨rfl,Y.trans (X.trans e)⟩
 obtain⟨hr,fc,x,g1,g2⟩:=HF.out rfl;have P9:=hdq (HC.out fc x _ _ g1);have U:=hdq g2;clear HF HC g1 g2 S Q7 m hz hz';go_wp2_with fail;refine(HD.out _ X).mono ?_;rintro e q ⟨u0,u1,u2,rfl,F,G,L,e⟩;replace F:=F.lies';obtain⟨_,_,_,_,_,rfl⟩:=F.three;replace G:=G.lies';obtain⟨_,_,_,_,_,rfl⟩:=G.three;replace L:=L.lies';obtain⟨_,_,_,_,_,rfl⟩:=L.three;rw[hr];replace X:=X.trans e;replace a:=a.ext e;replace g:=e.blk g;clear HD e Q Q5 d;have J:=fun o1 o2 l E I=> U1 (((((((xr q).alloc o1).alloc o2).alloc l).alloc E).alloc I).blk g) 0
 have c1:=fun o1 o2 l E I=> U1 (((((((xr q).alloc o1).alloc o2).alloc l).alloc E).alloc I).blk g) 1
 have c2:=fun o1 o2 l E I=> U1 (((((((xr q).alloc o1).alloc o2).alloc l).alloc E).alloc I).blk g) 2
 have d0:=fun M O C e o2 l=>(BF q M O C e o2 l).1
 have d1':=fun M O C e o2 l=>(BF q M O C e o2 l).2.1
 have d2:=fun M O C e o2 l=>(BF q M O C e o2 l).2.2
 go_wp2_with fail;clear J c1 c2 d0 d1' d2;generalize j:aO (aO (aO q _) _) _=R;obtain⟨-,-,-,-,e⟩:=Tg j.symm;rw[show q.heap.size+1+1+1=R.heap.size by rw[<-j];simp];obtain⟨s,o6⟩:=fd 25 (N:=AllN) (InT.mono (fun _ _=> trivial) (fun _ _=> rfl) (F.ext e)) (InT.mono (fun _ _=> trivial) (fun _ _=> rfl) (L.ext e)) (InT.mono (fun _ _=> trivial) (fun _ _=> rfl) (G.ext e)) (fun _ _=> trivial);generalize hv:aO R _=T3 at s o6⊢;have H:=(InT.mk_iff.2 ⟨_,_,rfl,Nat.le_refl 3,by unfold maxLen;omega,o6⟩:InT T3 AllN (.mk 10 0 [sd r 0,sd r 2,sd r 1]) (M0 10 0 (some ⟨R.heap.size,0,none⟩) 3 3)).lies';rw[show R.heap.size+1=T3.heap.size by rw[<-hv];simp];generalize hu:aO T3 _=ee;obtain⟨sw,e2⟩:=nb hu;replace e:=(e.trans s).trans e2;replace X:=X.trans e;replace H:=H.ext e2;clear j hv hu s e2 o6 F G L;refine(P9.out _ X _ _ (a.ext e) H).mono ?_;rintro s iu ⟨rfl,s⟩;have Q:=cb3 (s.blk sw);have HV:=hdq (ro _ iu _ (H.ext s));generalize j0 D0 (.mk 10 0 [sd r 0,sd r 2,sd r 1])=vb at HV U;generalize x.2=cx at U⊢;clear a g H sw P9;go_wp2_with fail;refine HV.out.mono ?_;rintro e1 rk ⟨rfl,e1⟩;have Z:=Y.trans (X.trans (s.trans e1));cases vb
 · go_wp2_with fail
   go_ret;exact⟨rfl,Z⟩
 · obtain rfl|rfl:=U.out rfl
   · go_wp2_with fail
     go_ret;exact⟨rfl,Z⟩
   · go_wp2_with fail
     go_ret;exact⟨rfl,Z⟩
theorem lifted(os:Os)(a:os.Started)(H:Type)(enc:TypeId×Value->H):
 ReturnsInHanded {} checked os 5 .any (Rows.fnSymProofSpec.pre6 enc prog Tryz.f5 Rows.fnSymProofRow.domain false) (Rows.fnSymProofSpec.post enc prog Tryz.f5 false true false false):=by
 refine uA (C:=checked) (fn:=Tryz.f5) (tb:=4) own a (by kernel_rfl) func5 (by kernel_rfl) (by kernel_rfl) rfl underlying4 rfl
  (fun f h=> by
   match f,h with
   | [t],_=> exact⟨rfl,rfl,rfl⟩)
  (ChangeSpec.witness6 (enc:=enc) (C:=checked) false ⟨#[],#[.slice none 0 0], []⟩ 8 (by kernel_rfl) (by kernel_rfl) (by kernel_rfl) (by kernel_rfl)) ?_
 intro W base args f p b hA l;rw[params5] at hA b;obtain⟨v0,j,q,m,u,r,s,rfl,rfl,n,o⟩:=trodAll_cons hA;obtain⟨rfl,rfl,rfl⟩:=trodAll_nil o;obtain rfl:args=#[v0]:=by cases args;simp_all
 obtain⟨i,g,k,rfl,d,e,c⟩:=Wz underlying22 underlying5 (by kernel_rfl) (b 0 22 v0 rfl rfl) n;exact walk W i g k d e c.1
theorem over:Rows.fnSymProofRow.holds Tryz.pinned (OpenSpec.ofChange Rows.fnSymProofSpec):=
 OpenClaim.holds_of_wide 5 Tryz.f5 rfl rfl rfl rfl rfl rfl rfl ⟨rfl,rfl,rfl,rfl,rfl⟩ rfl rfl rfl rfl rfl (by kernel_rfl) func5 (by kernel_rfl)
  (of_decide_eq_true (by kernel_rfl)) (by unfold Func.isWrapper;first|(rw[if_pos (by decide+kernel)];kernel_rfl) |(rw[if_neg (by decide+kernel)];exact⟨rfl,rfl⟩))
  (fun os a H enc _=> lifted os a H enc)
theorem proved:Rows.FnSymProofSaid:=over
#print axioms proved
