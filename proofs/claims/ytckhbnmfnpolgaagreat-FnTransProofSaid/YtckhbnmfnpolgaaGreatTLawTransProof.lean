/-
  PROVED: the law FnTransProof returns true for every input: equality is transitive.
  CONDITIONS: none.
-/
import Derived.Test.YtckhbnmfnpolgaaGreatTBN
import Derived.Test.YtckhbnmfnpolgaaGreatRows
open Go.World renaming alloc->aO
open Go.Proofs.Tryz
set_option linter.all false
set_option maxHeartbeats 40000000
set_option maxRecDepth 100000
namespace Go.Proofs.YtckhbnmfnpolgaaGreat.transProof
open Go Go.RowKit Go.ChangeShapes Go.WideShapes Go.ChangeAt
theorem own:ownKnob prog.godebug=none:=by kernel_rfl
theorem sameT(c:Tr)(w:World)(v u:Value)(h:Lies w c v)(k:Lies w c u):Calls prog 15 #[v,u] w fun e a=> e= .returned (.bool true)/\Ext w a:=by
 have:=kG c w c v u h k;rw[jw] at this;exact this
theorem walk(J:World)(A:Option Addr)(cap:Nat)(z:List Int)(hl:z.length<=cap)(hc:cap<=maxLen)(hB:Te J J.heap.size A z):
 Calls prog 8 #[.slice A z.length cap] J fun e w'=> e= .returned (.bool true)/\Ext J w':=by
 have hcc:=hc;unfold maxLen at hcc;by_cases hn:1048576 <(z.length:Int)
 · have d1:decide (1048576 <(z.length:Int))=true:=decide_eq_true hn
   go_enter func8,ntmps8;go_wp2_with fail;go_ret;exact⟨rfl,xr _⟩
 have d1:decide (1048576 <(z.length:Int))=false:=decide_eq_false hn;go_enter func8,ntmps8;go_wp2_with fail;refine(NL J A cap z hl hc hB).mono ?_;rintro e E ⟨B,n,c,ctx,d,y,ud,uy,rfl,hQ,D,⟨R,i,hA⟩,K,O,M,Y⟩;obtain⟨_,_,_,_,_,rfl⟩:=O.three;obtain⟨_,_,_,_,_,rfl⟩:=M.three;obtain⟨hd,hy⟩:=hQ.law;obtain⟨f,g,f2,f',g',kj,⟨p,k⟩,⟨I,c1⟩,⟨r2,c2⟩,h1,h2,h3,h4,h5⟩:=wn hd hy;have HI:=hdq (fun W (X:Ext E W)=> BG f' g' kj ctx B c W (K.ext X) (by rw[D];exact R) i d y _ _ (O.ext X) (M.ext X) AllN (fun _ _=> trivial) (p,k) h2);have HS:=hdq (fun W (X:Ext E W)=> FL f g f2 ctx B c W (K.ext X) (by rw[D];exact R) i hA d y _ _ (O.ext X) (M.ext X) (p,k) h1);have HD:=hdq (fun W (X:Ext E W)=> ME f' ctx B c W (K.ext X) (by rw[D];exact R) i d _ (O.ext X) (I,c1) h3);have HE:=hdq (fun W (X:Ext E W)=> ME g' ctx B c W (K.ext X) (by rw[D];exact R) i y _ (M.ext X) (r2,c2) h4);have HF:=hdq h5;have HC:=hdq (fun f x t u (h:Ys f ctx t u=some x) W (X:Ext E W) v v' (hv:Lies W t v) (hv':Lies W u v')=> uI f ctx B c W (K.ext X) (by rw[D];exact R) i t v hv u v' hv' x h);rw[D] at HI HS HC HD HE;have Kr:=i;unfold maxLen at Kr;clear hQ hd hy h1 h2 h3 h4 h5 K O M D hA i;go_wp2_with fail;generalize j:aO (aO E _) _=w2;obtain⟨m,l,-,X⟩:=box2 j.symm;refine(HI.out _ X).mono ?_;rintro e w3 ⟨u0,rfl,a,e⟩;replace a:=a.lies';obtain⟨_,_,_,_,_,rfl⟩:=a.three;replace m:=e.blk m;replace l:=e.blk l;replace X:=X.trans e;have k4:=fun o=> cb3 (((xr w3).alloc o).blk m)
 have k5:=fun o=> cb3 (((xr w3).alloc o).blk l)
 clear j HI e;go_wp2_with fail;generalize j:aO w3 _=w4;obtain⟨b,e⟩:=nb j;replace a:=a.ext e;replace m:=e.blk m;replace l:=e.blk l;replace X:=X.trans e;clear j e k4 k5;refine(HS.out _ X).mono ?_;rintro e w5 ⟨v0,rfl,r,e⟩;replace r:=r.lies';obtain⟨_,_,_,_,_,rfl⟩:=r.three;replace a:=a.ext e;replace m:=e.blk m;replace l:=e.blk l;replace b:=e.blk b;replace X:=X.trans e;have k6:=fun o=> cb3 (((xr w5).alloc o).blk b)
 have hz:(k !=k)=false:=by simp
 clear HS e;go_wp2_with fail;generalize j:aO w5 _=w6;obtain⟨U,e⟩:=nb j;replace a:=a.ext e;replace r:=r.ext e;replace m:=e.blk m;replace l:=e.blk l;replace b:=e.blk b;replace X:=X.trans e;clear j e k6;refine(sameT _ _ _ _ a r).mono ?_;rintro e w7 ⟨rfl,e⟩;replace a:=a.ext e;replace r:=r.ext e;replace m:=e.blk m;replace l:=e.blk l;replace b:=e.blk b;replace U:=e.blk U;replace X:=X.trans e;clear e;have Q4:=cb3 m;have Q6:=cb3 b;have Q8:=cb3 U;have hz':(k==k)=true:=by simp
 obtain⟨HK,hk⟩ |rfl:=cz k
 · go_wp2_with fail
   refine(sameT _ _ _ _ a r).mono ?_;rintro e w8 ⟨rfl,e⟩;go_wp2_with fail;go_ret;exact⟨rfl,Y.trans (X.trans e)⟩
 obtain⟨rfl,rfl,fc,x,g1,g2⟩:=HF.out rfl;have T5:=hdq (HC.out fc x _ _ g1);have HG:=hdq g2;clear HF HC g1 g2 U Q8 r hz hz';go_wp2_with fail;refine(HD.out _ X).mono ?_;rintro e w8 ⟨u0,u1,u2,rfl,s,q,V,e⟩;replace s:=s.lies';obtain⟨_,_,_,_,_,rfl⟩:=s.three;replace q:=q.lies';obtain⟨_,_,_,_,_,rfl⟩:=q.three;replace V:=V.lies';obtain⟨_,_,_,_,_,rfl⟩:=V.three;replace a:=a.ext e;replace l:=e.blk l;replace b:=e.blk b;replace X:=X.trans e;rw[vl] at s q;have k5:=fun o1 o2 C=> cb3 (((((xr w8).alloc o1).alloc o2).alloc C).blk l)
 clear HD e Q4 Q6 m V;go_wp2_with fail;generalize j:aO (aO (aO w8 _) _) _=P;obtain⟨Er,S,-,-,e⟩:=be j.symm;replace a:=a.ext e;replace s:=s.ext e;replace q:=q.ext e;replace b:=e.blk b;replace X:=X.trans e;clear j e k5 l;refine(HE.out _ X).mono ?_;rintro e H ⟨u0,u1,u2,rfl,E0,T,F,e⟩;replace E0:=E0.lies';obtain⟨_,_,_,_,_,rfl⟩:=E0.three;replace T:=T.lies';obtain⟨_,_,_,_,_,rfl⟩:=T.three;replace F:=F.lies';obtain⟨_,_,_,_,_,rfl⟩:=F.three;replace a:=a.ext e;replace s:=s.ext e;replace q:=q.ext e;replace b:=e.blk b;replace Er:=e.blk Er;replace S:=e.blk S;replace X:=X.trans e;rw[vl] at F;have k0:=fun o1 o2 C=> cb3 (((((xr H).alloc o1).alloc o2).alloc C).blk Er)
 have k1:=fun o1 o2 C=> cb3 (((((xr H).alloc o1).alloc o2).alloc C).blk S)
 have k6:=fun o1 o2 C o4 o5=> cb3 (((((((xr H).alloc o1).alloc o2).alloc C).alloc o4).alloc o5).blk b)
 clear HE e E0 T Er S;go_wp2_with fail;clear k0 k1 k6;generalize j:aO (aO (aO H _) _) _=P;obtain⟨-,-,-,-,e⟩:=be j.symm;rw[show H.heap.size+1+1+1=P.heap.size by rw[<-j];simp];obtain⟨w,o7⟩:=Zc 25 (N:=AllN) (InT.mono (fun _ _=> trivial) (fun _ _=> rfl) (s.ext e)) (InT.mono (fun _ _=> trivial) (fun _ _=> rfl) (q.ext e)) (InT.mono (fun _ _=> trivial) (fun _ _=> rfl) (F.ext e)) (fun _ _=> trivial);generalize hv:aO P _=Y4 at w o7⊢;have G:=(InT.mk_iff.2 ⟨_,_,rfl,Nat.le_refl 3,by unfold maxLen;omega,o7⟩:InT Y4 AllN (.mk 10 0 [kd I.kids 0,kd I.kids 1,kd r2.kids 2]) (m0 10 0 (some ⟨P.heap.size,0,none⟩) 3 3)).lies';rw[show P.heap.size+1=Y4.heap.size by rw[<-hv];simp];generalize hu:aO Y4 _=ki;obtain⟨L,e2⟩:=nb hu;replace e:=(e.trans w).trans e2;replace X:=X.trans e;replace G:=G.ext e2;clear j hv hu w e2 o7 s q F;refine(T5.out _ X _ _ (a.ext e) G).mono ?_;rintro w si ⟨rfl,w⟩;have Q:=cb3 (w.blk L);have HV:=hdq (Qo _ si _ (G.ext w));generalize valid sigT (.mk 10 0 [kd I.kids 0,kd I.kids 1,kd r2.kids 2])=vb at HV HG;generalize x.2=cx at HG⊢;clear a b G L T5;go_wp2_with fail;refine HV.out.mono ?_;rintro e1 yf ⟨rfl,e1⟩;have Z:=Y.trans (X.trans (w.trans e1));cases vb
 · go_wp2_with fail
   go_ret;exact⟨rfl,Z⟩
 · obtain rfl|rfl:=HG.out rfl
   · go_wp2_with fail
     go_ret;exact⟨rfl,Z⟩
   · go_wp2_with fail
     go_ret;exact⟨rfl,Z⟩
theorem lifted(os:Os)(a:os.Started)(H:Type)(enc:TypeId×Value->H):
 ReturnsInHanded {} checked os 8 .any (Rows.fnTransProofSpec.pre6 enc prog Tryz.f8 Rows.fnTransProofRow.domain false) (Rows.fnTransProofSpec.post enc prog Tryz.f8 false true false false):=by
 refine KK (C:=checked) (fn:=Tryz.f8) (tb:=4) own a (by kernel_rfl) func8 (by kernel_rfl) (by kernel_rfl) rfl underlying4 rfl
  (fun i h=> by
   match i,h with
   | [u],_=> exact⟨rfl,rfl,rfl⟩)
  (ChangeSpec.witness6 (enc:=enc) (C:=checked) false ⟨#[],#[.slice none 0 0], []⟩ 8 (by kernel_rfl) (by kernel_rfl) (by kernel_rfl) (by kernel_rfl)) ?_
 intro W base args i p b hA k;rw[params8] at hA b;obtain⟨v0,m,r,n,t,s,c,rfl,rfl,o,l⟩:=trodAll_cons hA;obtain⟨rfl,rfl,rfl⟩:=trodAll_nil l;obtain rfl:args=#[v0]:=by cases args;simp_all
 obtain⟨j,q,g,rfl,d,e,f⟩:=TH underlying22 underlying5 (by kernel_rfl) (b 0 22 v0 rfl rfl) o;exact walk W j q g d e f.1
theorem over:Rows.fnTransProofRow.holds Tryz.pinned (OpenSpec.ofChange Rows.fnTransProofSpec):=
 OpenClaim.holds_of_wide 8 Tryz.f8 rfl rfl rfl rfl rfl rfl rfl ⟨rfl,rfl,rfl,rfl,rfl⟩ rfl rfl rfl rfl rfl (by kernel_rfl) func8 (by kernel_rfl)
  (of_decide_eq_true (by kernel_rfl)) (by unfold Func.isWrapper;first|(rw[if_pos (by decide+kernel)];kernel_rfl) |(rw[if_neg (by decide+kernel)];exact⟨rfl,rfl⟩))
  (fun os a H enc _=> lifted os a H enc)
theorem proved:Rows.FnTransProofSaid:=over
#print axioms proved
