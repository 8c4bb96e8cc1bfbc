/-
  PROVED: the law FnSidesOf returns true for every input: sides have the type.
  CONDITIONS: none.
-/
import Derived.Test.YtckhbnmfnpolgaaGreatBAE
import Derived.Test.YtckhbnmfnpolgaaGreatBAF
import Derived.Test.YtckhbnmfnpolgaaGreatBBA
import Derived.Test.YtckhbnmfnpolgaaGreatBBL
import Derived.Test.YtckhbnmfnpolgaaGreatBBM
import Derived.Deep.RegionHeld3
import Derived.Test.YtckhbnmfnpolgaaGreatRows
open Go.World renaming alloc->aN
open And renaming intro->eZ
open Go.Proofs.Tryz
set_option linter.unusedVariables false
set_option maxHeartbeats 40000000
set_option maxRecDepth 100000
namespace Go.Proofs.YtckhbnmfnpolgaaGreat.sidesOf
open Go Go.RowKit Go.ChangeShapes Go.WideShapes Go.ChangeAt
theorem own:ownKnob prog.godebug=none:=by kernel_rfl
theorem sameT(c:Tr)(w:World)(v u:Value)(h:Lies w c v)(k:Lies w c u):Calls prog 15 #[v,u] w fun e a=> e= .returned (.bool true)/\Ext w a:=by
 have:=ZF c w c v u h k;rw[Wr] at this;exact this
theorem VF(w:World)(c a b:Value)(e:TypeId)(o2 d:Obj):(((w.alloc (.cells #[c,a,b] e)).alloc o2).alloc d).cell? ⟨w.heap.size,0,none⟩=some c/\(((w.alloc (.cells #[c,a,b] e)).alloc o2).alloc d).cell? ⟨w.heap.size,1,none⟩=some a/\(((w.alloc (.cells #[c,a,b] e)).alloc o2).alloc d).cell? ⟨w.heap.size,2,none⟩=some b:=by
 have h:=(((xr _).alloc o2).alloc d).blk (heap_alloc_new w (.cells #[c,a,b] e));exact⟨i1 h 0,i1 h 1,i1 h 2⟩
theorem gx{f:Nat}{ctx:List Tr}{t s:Tr}(h:V0 (Uf f ctx t) 10=some (s,0)): ∃a c b d,fq a ctx (kd s.kids 1) (kd s.kids 0)=some c/\fq b ctx (kd s.kids 2) (kd s.kids 0)=some d/\(c.2 !=1)=true/\(d.2 !=1)=true/\(ctx.length=0->(Sc (kd s.kids 1) (kd s.kids 2) 200 !=2)=true):=by
 obtain⟨G,T,l,r,rfl,rfl,-,j,n,o⟩:=MH h;obtain⟨a,m⟩:=oB (ctxE G) (enc l) (enc T);obtain⟨b,k⟩:=oB (ctxE G) (enc r) (enc T);obtain⟨c,e⟩:=m a (Nat.le_refl _);obtain⟨d,g⟩:=k b (Nat.le_refl _);refine⟨a,c,b,d,e,g, ?_, ?_,fun i=> ?_⟩
 · rcases j a _ _ e with h|h <;> simp[h]
 · rcases n b _ _ g with h|h <;> simp[h]
 · have:=o (List.eq_nil_of_length_eq_zero i)
   rw[bne_iff_ne];exact fun hc=> tC hc this
theorem walk(I:World)(A:Option Addr)(cap:Nat)(p:List Int)(hl:p.length<=cap)(hc:cap<=maxLen)(hB:Wd I I.heap.size A p):
 Calls prog 3 #[.slice A p.length cap] I fun e w'=> e= .returned (.bool true)/\Ext I w':=by
 have hcc:=hc;unfold maxLen at hcc;by_cases hn:1048576 <(p.length:Int)
 · have d1:decide (1048576 <(p.length:Int))=true:=decide_eq_true hn
   go_enter func3,ntmps3;go_wp2_with fail;go_ret;exact⟨rfl,xr _⟩
 have d1:decide (1048576 <(p.length:Int))=false:=decide_eq_false hn;go_enter func3,ntmps3;go_wp2_with fail;refine(j111 I A cap p hl hc hB).mono ?_;rintro e J ⟨B,n,c,ctx,t,u,rfl,hS,y,⟨Y1,d,hA⟩,hK,hT,Y⟩;obtain⟨t1,t2,t3,t4,t5,rfl⟩:=hT.three;obtain⟨f,f',⟨s,k⟩,h1,P⟩:=hS.law;have K:q24 J B ctx:=InK.mono (fun b hb=> hb.2) (fun _ _=> rfl) hK;have T:=hT.lies;have HI:=hdq (fun W (X:Ext J W)=> AH f' ctx B c W (K.ext X) (by rw[y];exact Y1) d t _ (T.ext X) (s,k) P);have HS:=hdq (fun W (X:Ext J W)=> cI f ctx B c W (K.ext X) (by rw[y];exact Y1) d hA t _ (T.ext X) (s,k) h1);have HF:=hdq (fun(hk:k=0)=> gx (s:=s) (by rw[hk] at P;exact P));have HC:=hdq (fun f x t u (h:fq f ctx t u=some x) W (X:Ext J W) v v' (hv:Lies W t v) (hv':Lies W u v')=> lH f ctx B c W (K.ext X) (by rw[y];exact Y1) d t v hv u v' hv' x h);rw[y] at HI HS HC;have HN:=hdq y;have Fx:=d;unfold maxLen at Fx;clear hS h1 P K T hK hT y hA d;go_wp2_with fail;generalize l:aN J _=w2;obtain⟨C,X⟩:=nb l;refine(HI.out _ X).mono ?_;rintro e S ⟨u0,u1,u2,rfl,j,i,g,e⟩;replace j:=j.lies';obtain⟨_,_,_,_,_,rfl⟩:=j.three;replace i:=i.lies';obtain⟨_,_,_,_,_,rfl⟩:=i.three;replace g:=g.lies';obtain⟨_,_,_,_,_,rfl⟩:=g.three;replace X:=X.trans e;have Q:=cb3 (e.blk C);have V:=fun o1 o2 a=> i1 (((((xr S).alloc o1).alloc o2).alloc a).blk (e.blk C)) 0
 have U:=fun o1 o2 a=> i1 (((((xr S).alloc o1).alloc o2).alloc a).blk (e.blk C)) 1
 have c2:=fun o1 o2 a=> i1 (((((xr S).alloc o1).alloc o2).alloc a).blk (e.blk C)) 2
 clear l HI e;go_wp2_with fail;clear V U c2;generalize l:aN (aN (aN S _) _) _=w4;obtain⟨F,b6,b7,-,e⟩:=xg l.symm;replace X:=X.trans e;replace j:=j.ext e;replace i:=i.ext e;replace g:=g.ext e;clear l e Q C;refine(HS.out _ X).mono ?_;rintro e r ⟨v0,v1,v2,rfl,L,M1,D,e⟩;replace L:=L.lies';obtain⟨_,_,_,_,_,rfl⟩:=L.three;replace M1:=M1.lies';obtain⟨_,_,_,_,_,rfl⟩:=M1.three;replace D:=D.lies';obtain⟨_,_,_,_,_,rfl⟩:=D.three;have V:=fun o1 o2 a=> i1 (((((xr r).alloc o1).alloc o2).alloc a).blk (e.blk F)) 0
 have U:=fun o1 o2 a=> i1 (((((xr r).alloc o1).alloc o2).alloc a).blk (e.blk F)) 1
 have c2:=fun o1 o2 a=> i1 (((((xr r).alloc o1).alloc o2).alloc a).blk (e.blk F)) 2
 have d0:=fun M o m e o2 a=>(VF r M o m e o2 a).1
 have d1':=fun M o m e o2 a=>(VF r M o m e o2 a).2.1
 have d2:=fun M o m e o2 a=>(VF r M o m e o2 a).2.2
 have hz:(k !=k)=false:=by simp
 go_wp2_with fail;clear V U c2 d0 d1' d2;generalize l:aN (aN (aN r _) _) _=R;obtain⟨b9,N,O,-,E⟩:=xg l.symm;replace e:=e.trans E;have G:=hdq (X.trans e);have H:=hdq (fun W (Z:Ext R W)=> eZ (cb3 (Z.blk (e.blk F))) (eZ (cb3 (Z.blk (e.blk b6))) (eZ (cb3 (Z.blk (e.blk b7))) (eZ (cb3 (Z.blk b9)) (eZ (cb3 (Z.blk N)) (cb3 (Z.blk O)))))));have q:=hdq (fun W (Z:Ext R W)=> eZ (sameT _ W _ _ (j.ext (e.trans Z)) (L.ext (E.trans Z))) (eZ (sameT _ W _ _ (i.ext (e.trans Z)) (M1.ext (E.trans Z))) (sameT _ W _ _ (g.ext (e.trans Z)) (D.ext (E.trans Z)))));have z:=hdq (fun W (Z:Ext R W)=> eZ (j.ext (e.trans Z)) (eZ (i.ext (e.trans Z)) (g.ext (e.trans Z))));clear l e E X j i g L M1 D F b6 b7 b9 N O HS;have hz':(k==k)=true:=by simp
 have Z:=xr R;have Q:=H.out _ Z;refine(q.out _ Z).1.mono ?_;rintro e w7 ⟨rfl,e⟩;replace Z:=Z.trans e;replace Q:=H.out _ Z;go_wp2_with fail;refine(q.out _ Z).2.1.mono ?_;rintro e w8 ⟨rfl,e⟩;replace Z:=Z.trans e;replace Q:=H.out _ Z;go_wp2_with fail;refine(q.out _ Z).2.2.mono ?_;rintro e w9 ⟨rfl,e⟩;replace Z:=Z.trans e;replace Q:=H.out _ Z;obtain⟨HK,hk⟩ |rfl:=cz k
 · go_wp2_with fail
   refine(q.out _ Z).1.mono ?_;rintro e W9 ⟨rfl,e⟩;replace Z:=Z.trans e;replace Q:=H.out _ Z;go_wp2_with fail;refine(q.out _ Z).2.1.mono ?_;rintro e bh ⟨rfl,e⟩;replace Z:=Z.trans e;replace Q:=H.out _ Z;go_wp2_with fail;refine(q.out _ Z).2.2.mono ?_;rintro e im ⟨rfl,e⟩;replace Z:=Z.trans e;replace Q:=H.out _ Z;go_wp2_with fail;go_ret;exact⟨rfl,(Y.trans G.out).trans Z⟩
 obtain⟨f1,o,f2,m,g1,g2,q1,q2,w⟩:=HF.out rfl;have Q7:=hdq (HC.out f1 o _ _ g1);have qz:=hdq (HC.out f2 m _ _ g2);have HQ:=hdq w;clear g1 g2 w q;go_wp2_with fail;refine(Q7.out _ (G.out.trans Z) _ _ (z.out _ Z).2.1 (z.out _ Z).1).mono ?_;rintro e W9 ⟨rfl,e⟩;replace Z:=Z.trans e;replace Q:=H.out _ Z;go_wp2_with fail;refine(qz.out _ (G.out.trans Z) _ _ (z.out _ Z).2.2 (z.out _ Z).1).mono ?_;rintro e bh ⟨rfl,e⟩;replace Z:=Z.trans e;replace Q:=H.out _ Z;obtain rfl|M4:=Nat.eq_zero_or_pos n
 · have w:=HQ.out HN.out
   go_wp2_with fail;refine(gJ _ _ 200 _ _ _ (z.out _ Z).2.1 (z.out _ Z).2.2).mono ?_;rintro e im ⟨rfl,e⟩;replace w:(Sc (sd (s,0) 1) (sd (s,0) 2) 200 !=2)=true:=w;generalize Sc (sd (s,0) 1) (sd (s,0) 2) 200=cv at w⊢;go_wp2_with fail;go_ret;exact⟨rfl,(Y.trans G.out).trans (Z.trans e)⟩
 · have hnz:(0:Int) <(n:Int):=by omega
   go_wp2_with fail;go_ret;exact⟨rfl,(Y.trans G.out).trans Z⟩
theorem lifted(os:Os)(a:os.Started)(H:Type)(enc:TypeId×Value->H):
 ReturnsInHanded {} checked os 3 .any (Rows.fnSidesOfSpec.pre6 enc prog Tryz.f3 Rows.fnSidesOfRow.domain false) (Rows.fnSidesOfSpec.post enc prog Tryz.f3 false true false false):=by
 refine VE (C:=checked) (fn:=Tryz.f3) (tb:=4) own a (by kernel_rfl) func3 (by kernel_rfl) (by kernel_rfl) rfl underlying4 rfl
  (fun i h=> by
   match i,h with
   | [s],_=> exact⟨rfl,rfl,rfl⟩)
  (ChangeSpec.witness6 (enc:=enc) (C:=checked) false ⟨#[],#[.slice none 0 0], []⟩ 8 (by kernel_rfl) (by kernel_rfl) (by kernel_rfl) (by kernel_rfl)) ?_
 intro W base args i p b hA m;rw[params3] at hA b;obtain⟨v0,k,t,o,u,r,c,rfl,rfl,j,q⟩:=trodAll_cons hA;obtain⟨rfl,rfl,rfl⟩:=trodAll_nil q;obtain rfl:args=#[v0]:=by cases args;simp_all
 obtain⟨l,n,d,rfl,e,g,f⟩:=uI underlying22 underlying5 (by kernel_rfl) (b 0 22 v0 rfl rfl) j;exact walk W l n d e g f.1
theorem over:Rows.fnSidesOfRow.holds Tryz.pinned (OpenSpec.ofChange Rows.fnSidesOfSpec):=
 OpenClaim.holds_of_wide 3 Tryz.f3 rfl rfl rfl rfl rfl rfl rfl ⟨rfl,rfl,rfl,rfl,rfl⟩ rfl rfl rfl rfl rfl (by kernel_rfl) func3 (by kernel_rfl)
  (of_decide_eq_true (by kernel_rfl)) (by unfold Func.isWrapper;first|(rw[if_pos (by decide+kernel)];kernel_rfl) |(rw[if_neg (by decide+kernel)];exact⟨rfl,rfl⟩))
  (fun os a H enc _=> lifted os a H enc)
theorem proved:Rows.FnSidesOfSaid:=over
#print axioms proved
