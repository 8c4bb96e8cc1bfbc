/-
  Lemmas towards the law, 36: Nt, MTxt, SCk, InfM.
-/
import Derived.Test.YtckhbnmfnpolgaaGreatC00
import Derived.Test.YtckhbnmfnpolgaaGreatCBI
open Go renaming World->aL,Calls->aX,results->aR,wpAnyH_done->bP,maxLen->aV
open Go.World renaming alloc->aO,setCell->cM
open Nat renaming le_refl->aN,zero_le->bV
open Go.IntWalk renaming i64_in->eL
open List renaming take_succ_eq_append_getElem->gY,drop_eq_getElem_cons->cL,drop_of_length_le->cV
open Go.Proofs.Tryz
set_option linter.all false
set_option maxHeartbeats 40000000
set_option maxRecDepth 100000
namespace Go.Proofs.YtckhbnmfnpolgaaGreat
open Go Go.RowKit
open M (dep fvb)
attribute [local go_sem ↓] Go.wp_at_zero Go.wp_at_succ
def NQ(n D C:Nat)(t:Tr):Prop:= ∃a,t=enc a/\NC n a/\dep a<=D/\cnt t<=C
section
variable {n D C : Nat} {t u v : Tr}
theorem NQ.up(h:NQ n D C t):NQ n (4+D) (8+3*C) t:=by
 obtain⟨a,rfl,b,c,d⟩:=h;exact⟨a,rfl,b,by omega,by omega⟩
theorem NQ.var{i:Nat}(h:i < n):NQ n (4+D) (8+3*C) (.mk 1 i []):=⟨_,rfl,.var h,by simp only[dep];omega,by simp only[enc,cnt,W1];omega⟩
theorem NQ.zero:NQ n (4+D) (8+3*C) (.mk 7 0 []):=⟨_,rfl,.zero,by simp only[dep];omega,by simp only[enc,cnt,W1];omega⟩
theorem NQ.succ(h:NQ n D C t):NQ n (4+D) (8+3*C) (.mk 8 0 [t]):=by
 obtain⟨a,rfl,b,c,d⟩:=h;exact⟨_,rfl,.succ b,by simp only[dep];omega,by simp only[enc,cnt,W1];omega⟩
theorem NQ.app(h:NQ (n+1) D C t)(k:NQ n D C u):NQ n (4+D) (8+3*C) (.mk 5 0 [.mk 4 0 [.mk 6 0 [],t],u]):=by
 obtain⟨a,rfl,d,e,i⟩:=h;obtain⟨b,rfl,c,g,f⟩:=k;exact⟨_,rfl,.app d c,by simp only[dep];omega,by simp only[enc,cnt,W1];omega⟩
theorem NQ.elim(h:NQ n D C t)(k:NQ (n+2) D C u)(l:NQ n D C v):NQ n (4+D) (8+3*C) (.mk 9 0 [.mk 4 0 [.mk 6 0 [],.mk 6 0 []],t,.mk 4 0 [.mk 6 0 [],.mk 4 0 [.mk 6 0 [],u]],v]):=by
 obtain⟨a,rfl,d,i,p⟩:=h;obtain⟨b,rfl,e,o,m⟩:=k;obtain⟨c,rfl,f,g,j⟩:=l;exact⟨_,rfl,.elim d e f,by simp only[dep];omega,by simp only[enc,cnt,W1];omega⟩
theorem NQ.part{x:Int}(hx:x∈ [(15:Int),16])(h:NQ n D C t)(k:NQ n D C u):NQ n (4+D) (8+3*C) (.mk x 0 [.mk 14 0 [.mk 13 0 [.mk 6 0 [],.mk 6 0 []],t,u]]):=by
 obtain⟨a,rfl,d,e,i⟩:=h;obtain⟨b,rfl,c,g,f⟩:=k;simp only[List.mem_cons,List.not_mem_nil,or_false] at hx;rcases hx with rfl|rfl
 · exact⟨_,rfl,.fst d c,by simp only[dep];omega,by simp only[enc,cnt,W1];omega⟩
 · exact⟨_,rfl,.snd d c,by simp only[dep];omega,by simp only[enc,cnt,W1];omega⟩
theorem NQ.move(h:NQ n D C t)(k:NQ n D C u):NQ n (4+D) (8+3*C) (.mk 12 0 [.mk 4 0 [.mk 6 0 [],.mk 6 0 []],.mk 11 0 [t],u]):=by
 obtain⟨a,rfl,d,e,i⟩:=h;obtain⟨b,rfl,c,g,f⟩:=k;exact⟨_,rfl,.move d c,by simp only[dep];omega,by simp only[enc,cnt,W1];omega⟩
end
def Mq(k q D C:Nat):Prop:= ∀(w:aL) (g m n:Nat) (b a:Int),Rd w g m->m+q < 900000->b=n->n+2*k<=20->a<=k-> -3<=a->aX prog 99 #[.pointer (some ⟨g,0,none⟩),.int .i64 b,.int .i64 a] w (DQ w g (m+q) (NQ n D C))
theorem Ns(k q D C:Nat)(ih:1<=k->Mq (k - 1) q D C):Mq k (3+4*q) (4+D) (8+3*C):=by
 intro H g m n G J hR hm hsc hn hk hsz;have B:=hdq hR.lt;have hs0:0<=G/\G+2*k<=20:=by omega
 have E:=hdq hsc;clear hsc hn;go_enter func99,ntmps99;go_wp2_with fail;generalize M:aO H _=w1;obtain⟨br,e⟩:=nb M;have Z:=(St.of hR e).id;have Y:D1 [g] H w1:=oE e;clear M e hR;refine(q15 _ 7 0).mono ?_;rintro e w2 ⟨rfl,e⟩;replace Z:=Z.up e;go_wp2_with fail;generalize M:aO w2 _=w3;obtain⟨I,e⟩:=nb M;have F:=hdq (nq (r:=H.heap.size) (g:=g) I (by have:=O1 br;have:=Z.1.size;omega) (by have:=O1 br;have:=B.out;have:=Z.1.size;omega));replace br:=e.blk (Z.br br (by have:=B.out;omega));replace Y:=Y.trans (Z.up e).1;replace Z:=(Z.up e).id;have Q:=F.out _ Z.off;clear M I e;refine(q15 _ 6 0).mono ?_;rintro e w4 ⟨rfl,e⟩;replace Z:=Z.up e;replace Q:=F.out _ Z.off;by_cases hl:J < 1
 · have t0:decide (J < 1)=true:=decide_eq_true hl
   by_cases hs:G<=0
   · have t1:decide (0 < G)=false:=decide_eq_false (by omega)
     replace Z:=Z.up ((xr _).alloc (H0 6 0 none 0 0));replace Q:=F.out _ Z.off;have R:=cbn (Z.br br (by have:=B.out;omega));go_wp2_with fail;exact Oa (by simp[aR,results99,go_sem,R]) (NQ.zero) (d5 _ _ 7 0) Y Z B.out (aN _) (by omega) rfl
   · have t1:decide (0 < G)=true:=decide_eq_true (by omega)
     go_wp2_with fail;generalize M:aO w4 _=w5;obtain⟨I,e⟩:=nb M;replace F:=hdq (both (lD F.out (Z.up e)) (nq (r:=H.heap.size) (g:=g) I (by have:=O1 br;have:=Z.1.size;omega) (by have:=O1 br;have:=B.out;have:=Z.1.size;omega)));replace br:=e.blk (Z.br br (by have:=B.out;omega));replace Y:=Y.trans (Z.up e).1;replace Z:=(Z.up e).id;replace Q:=F.out _ Z.off;clear M I e;refine(Yf _ g _ 2 Z.2 (by omega)).mono ?_;rintro e w6 ⟨x,rfl,hx0,hx1,R,o⟩;replace Z:=Z.tr o R;clear o R;replace Q:=F.out _ Z.off;obtain⟨HC,t⟩ |rfl:=cz x
     · have R:=cbn (Z.br br (by have:=B.out;omega))
       go_wp2_with fail;exact Oa (by simp[aR,results99,go_sem,R]) (NQ.zero) (d5 _ _ 7 0) Y Z B.out (aN _) (by omega) rfl
     go_wp2_with fail;refine(Yf _ g _ G Z.2 (by omega)).mono ?_;rintro e P ⟨y,rfl,hy0,hy1,R,o⟩;replace Z:=Z.tr o R;clear o R;obtain⟨i,rfl⟩:=Int.eq_ofNat_of_zero_le hy0;replace Q:=F.out _ Z.off;go_wp2_with fail;refine(q15 _ 1 i).mono ?_;rintro e V ⟨rfl,e⟩;replace Z:=Z.up e;replace Q:=F.out _ Z.off;have R:=cbn (Z.br br (by have:=B.out;omega));go_wp2_with fail;exact Oa (by simp[aR,results99,go_sem,R]) (NQ.var (by have:=E.out;omega)) (d5 _ _ 1 i) Y Z B.out (aN _) (by omega) rfl
 have t0:decide (J < 1)=false:=decide_eq_false hl;have O:=hdq (ih (by omega));clear ih;have W:=hdq (And.intro (eL (G+1) ⟨by omega,by omega⟩) (eL (J - 1) ⟨by omega,by omega⟩));go_wp2_with fail;generalize M:aO w4 _=w5;obtain⟨I,e⟩:=nb M;replace F:=hdq (both (lD F.out (Z.up e)) (nq (r:=H.heap.size) (g:=g) I (by have:=O1 br;have:=Z.1.size;omega) (by have:=O1 br;have:=B.out;have:=Z.1.size;omega)));replace br:=e.blk (Z.br br (by have:=B.out;omega));replace Y:=Y.trans (Z.up e).1;replace Z:=(Z.up e).id;replace Q:=F.out _ Z.off;clear M I e;refine(Yf _ g _ 7 Z.2 (by omega)).mono ?_;rintro e w6 ⟨x,rfl,hx0,hx1,R,o⟩;replace Z:=Z.tr o R;clear o R;replace Q:=F.out _ Z.off;by_cases h0:x=0
 · subst h0
   go_wp2_with fail;refine Wd H.heap.size (by kernel_rfl) Z fun P e Z=> ?_
   replace Q:=F.out _ Z.off;refine O2 [0,1,2,3,4,5,9,10,11,12] 7 (by kernel_rfl) Z.off (fun _ _ _ _ _ h=> h) ?_
   iterate 10 (refine tk rfl (by rfl) (by intro w X;have Q:=F.out _ X;go_simp;(try with_reducible rfl)) ?_;try simp only[N2])
   refine O0 6 (by kernel_rfl) rfl rfl (fun K hK=> ?_)
   go_simp
   go_at_call 99
   try rw[W.out.1]
   try rw[W.out.2]
   refine(O.out _ g _ (n+1) (G+1) (J - 1) Z.2 (by omega) (by have:=E.out;omega) (by have:=E.out;omega) (by omega) (by omega)).mono ?_;intro e V h;obtain⟨ta,ua,va,Aa,la,ca,rfl,Pa,a,o,Z⟩:=h.at Z br;clear o;replace Q:=F.out _ Z.off;refine hK.out _ _ Z.off (fun _=> ?_);clear hK K;refine O0 7 (by kernel_rfl) rfl rfl (fun K hK=> ?_)
   go_simp
   obtain⟨e,l⟩:=K6 25 ((d5 _ _ 6 0)) a (Z.news br);replace Z:=Z.up e;replace Q:=F.out _ Z.off;refine hK.out _ _ Z.off (fun _=> ?_);clear hK K;refine O0 8 (by kernel_rfl) rfl rfl (fun K hK=> ?_)
   go_simp
   go_at_call 60
   refine(Qa 4 (Z.news br) l rfl).mono ?_;rintro e w9 ⟨Ab,cb,rfl,b,e⟩;replace Z:=Z.up e;replace Q:=F.out _ Z.off;clear l;refine hK.out _ _ Z.off (fun _=> ?_);clear hK K;refine O0 13 (by kernel_rfl) rfl rfl (fun K hK=> ?_)
   go_simp
   go_at_call 99
   try rw[W.out.1]
   try rw[W.out.2]
   refine(O.out _ g _ n (G) (J - 1) Z.2 (by omega) (by have:=E.out;omega) (by have:=E.out;omega) (by omega) (by omega)).mono ?_;intro e T3 h;obtain⟨td,ud,vd,Ad,ld,cd,rfl,U,d,o,Z⟩:=h.at Z br;replace b:=b.dl o (Na (by have:=B.out;omega));clear o;replace Q:=F.out _ Z.off;refine hK.out _ _ Z.off (fun _=> ?_);clear hK K;refine O0 14 (by kernel_rfl) rfl rfl (fun K hK=> ?_)
   go_simp
   obtain⟨e,l⟩:=K6 25 b d (Z.news br);replace Z:=Z.up e;replace Q:=F.out _ Z.off;refine hK.out _ _ Z.off (fun _=> ?_);clear hK K;refine O0 15 (by kernel_rfl) rfl rfl (fun K hK=> ?_)
   go_simp
   go_at_call 60
   refine(Qa 5 (Z.news br) l rfl).mono ?_;rintro e ee ⟨Af,cf,rfl,f,e⟩;replace Z:=Z.up e;replace Q:=F.out _ Z.off;clear l;refine hK.out _ _ Z.off (fun _=> ?_);clear hK K;have R:=cbn (Z.br br (by have:=B.out;omega));refine O0 16 (by kernel_rfl) rfl rfl (fun K hK=> ?_)
   go_simp
   refine hK.out _ _ (Z.off.set3 _ _ _) (fun _=> ?_);clear hK K;refine bP (by kernel_rfl) ?_ _;go_wp2_with fail;exact Oa (by simp[aR,results99,go_sem,R]) (NQ.app Pa U) f Y Z B.out (aN _) (by omega) rfl
 have t1:(x==0)=false:=beq_eq_false_iff_ne.2 h0;by_cases h1:x=1
 · subst h1
   have zk:=hdq (And.intro (eL (G+2) ⟨by omega,by omega⟩) (eL (J - 2) ⟨by omega,by omega⟩));go_wp2_with fail;refine Wd H.heap.size (by kernel_rfl) Z fun P e Z=> ?_
   replace Q:=F.out _ Z.off;refine O2 [0,1,2,3,4,5,6] 7 (by kernel_rfl) Z.off (fun _ _ _ _ _ h=> h) ?_
   iterate 7 (refine tk rfl (by rfl) (by intro w X;have Q:=F.out _ X;go_simp;(try with_reducible rfl)) ?_;try simp only[N2])
   refine Rv 7 12 (by kernel_rfl) rfl rfl rfl rfl (fun K hK=> ?_) (fun K hK=> ?_)
   · go_simp
     go_at_call 99
     try rw[zk.out.1]
     try rw[zk.out.2]
     refine(O.out _ g _ (n+2) (G+2) (J - 2) Z.2 (by omega) (by have:=E.out;omega) (by have:=E.out;omega) (by omega) (by omega)).mono ?_;intro e V h;obtain⟨ts,us,vs,As,ls,cs,rfl,Ps,s,o,Z⟩:=h.at Z br;clear o;replace Q:=F.out _ Z.off;refine hK.out _ _ Z.off (fun _=> ?_);clear hK K;refine Vi 13 134 #[true,true,true,true,true,true,true,true,true,true,true,true,true,false] 1 [.any,.any,.any,.any,.any,.any,.any,.any,Sp.row (fun b=> H.heap.size < b) [.mk 6 0 [],ts],Sp.tree (fun b=> H.heap.size < b) (.mk 4 0 [.mk 6 0 [],ts]),Sp.row (fun b=> H.heap.size < b) [.mk 6 0 [],.mk 4 0 [.mk 6 0 [],ts]],Sp.tree (fun b=> H.heap.size < b) (.mk 4 0 [.mk 6 0 [],.mk 4 0 [.mk 6 0 [],ts]]),Sp.box V] [8,9,10,11,12] (fun w h=>(Z.up h).off) (by kernel_rfl) rfl ?st1 ?fi1
     case st1=>
      repeat' first|exact trivial|refine And.intro ⟨_,rfl, ?_⟩ ?_
      all_goals(intro a w z hE S i6;refine Ord.step_of rfl rfl ?_;intro K hK)
      · (have f50:=D3 (show a.eval (.tmp 50)= M0 6 0 none 0 0 from S 50 (by kernel_rfl));have f56:=D3 (show a.eval (.tmp 56)= M0 us vs As ls cs from S 56 (by kernel_rfl));go_simp;obtain⟨e',h⟩:=K6 25 (d5 _ _ 6 0) (s.oldG' hE) (md (Z.news br) hE);exact hK _ _ ⟨_,z,rfl,n9 hE e',_,2,rfl,aN _,by decide,h⟩)
      · (obtain⟨A8,c8,f8,ml,xz,lx⟩: ∃A c,a.eval (.tmp 57)= .slice A 2 c/\2<=c/\c<=aV/\InK w (Mz _ z) A [.mk 6 0 [],ts]:=i6 8 57 (by kernel_rfl);replace f8:=D3 f8;go_simp;go_at_call 60;refine(Kx 4 _ _ (md (Z.news br) hE) A8 c8 _ lx (by simp) ml (by simp)).mono ?_;rintro e w' ⟨u,rfl,hx,e'⟩;exact hK _ _ ⟨_,z,rfl,n9 hE e',hx⟩)
      · (have f49:=D3 (show a.eval (.tmp 49)= M0 6 0 none 0 0 from S 49 (by kernel_rfl));have h9:InT w (Mz _ z) (.mk 4 0 [.mk 6 0 [],ts]) (a.eval (.tmp 58)):=i6 9 58 (by kernel_rfl);obtain⟨_,_,_,_,_,f9⟩:=h9.three;rw[f9] at h9;replace f9:=D3 f9;go_simp;obtain⟨e',h⟩:=K6 25 (d5 _ _ 6 0) h9 (md (Z.news br) hE);exact hK _ _ ⟨_,z,rfl,n9 hE e',_,2,rfl,aN _,by decide,h⟩)
      · (obtain⟨Bh,c10,f10,Dt,g10_2,Do⟩: ∃A c,a.eval (.tmp 59)= .slice A 2 c/\2<=c/\c<=aV/\InK w (Mz _ z) A [.mk 6 0 [],.mk 4 0 [.mk 6 0 [],ts]]:=i6 10 59 (by kernel_rfl);replace f10:=D3 f10;go_simp;go_at_call 60;refine(Kx 4 _ _ (md (Z.news br) hE) Bh c10 _ Do (by simp) Dt (by simp)).mono ?_;rintro e w' ⟨u,rfl,hx,e'⟩;exact hK _ _ ⟨_,z,rfl,n9 hE e',hx⟩)
      · (go_simp;exact hK _ _ ⟨_,_,rfl,EG.box hE,_,rfl,List.mem_cons_self ..,(show _<=w.heap.size from hE.1.size),heap_alloc_new _ _⟩)
     case fi1=>
      intro v w' z hE hG;have ht:InT w' (Mz _ z) (.mk 4 0 [.mk 6 0 [],.mk 4 0 [.mk 6 0 [],ts]]) (v 11):=hG 11 (by decide) (by kernel_rfl);obtain⟨a1,a2,a3,a4,a5,C4⟩:=ht.three;rw[C4] at ht;obtain⟨gb,hv2,gz,bl,bx⟩: ∃g,v 12= .pointer (some ⟨g,0,none⟩)/\g∈z/\V.heap.size<=g/\w'.heap[g]? =_:=hG 12 (by decide) (by kernel_rfl);simp only[List.foldl,Ord.dstOf,List.getElem?_toArray,List.getElem?_cons_zero,List.getElem?_cons_succ,Option.bind_some,Act.put,List.setIfInBounds_toArray,List.set_cons_zero,List.set_cons_succ];rw[C4,hv2];replace ht:=(InT.mono (fun b (hb:Mz _ z b)=>(⟨hb.1,fun h=> hb.2 (h▸gz)⟩:(fun b=> H.heap.size < b) b/\b≠gb)) (fun _ _=> rfl) ht).ret (m0 a1) (m0 a2) (.slice a3 a4 a5);have T:H.heap.size < gb/\g < gb/\gb≠g:=by have:=B.out;have:=O1 br;have:=Z.1.size;omega
      have qz:=Nat.le_trans Z.1.size bl;replace Z:=Z.up hE.1;clear hG hE gz C4 hv2;have Zx:=cbn bx;refine O0 13 (by kernel_rfl) rfl rfl (fun K hK=> ?_)
      go_simp
      obtain⟨Z,I⟩:=Z.new3 qz T.2.1 bx (m0 a1) (m0 a2) (.slice a3 a4 a5);refine hK.out _ _ Z.off (fun _=> ?_);clear hK K Zx;generalize cM (cM (cM _ _ _) _ _) _ _=w9 at ht Z I⊢;refine bP (by kernel_rfl) ?_ _;clear bx;replace F:=hdq (both (lD F.out Z) (nq (r:=H.heap.size) (g:=g) I (by omega) (by omega)));replace br:=Z.br br (by have:=B.out;omega);replace Y:=Y.trans Z.1;replace Z:=Z.id;replace Q:=F.out _ Z.off;clear I;go_wp2_with fail;refine Wd H.heap.size (by kernel_rfl) Z fun T3 e Z=> ?_
      replace ht:=ht.later e;replace Q:=F.out _ Z.off;refine O2 [0,1,4,5,6,7,9,10,11,12,13] 7 (by kernel_rfl) Z.off (fun _ _ _ _ _ h=> h) ?_
      iterate 11 (refine tk rfl (by rfl) (by intro w X;have Q:=F.out _ X;go_simp;(try with_reducible rfl)) ?_;try simp only[N2])
      refine O0 2 (by kernel_rfl) rfl rfl (fun K hK=> ?_)
      go_simp
      obtain⟨e,l⟩:=K6 25 ((d5 _ _ 6 0)) ((d5 _ _ 6 0)) (Z.news br);replace Z:=Z.up e;replace ht:=ht.later e;replace Q:=F.out _ Z.off;refine hK.out _ _ Z.off (fun _=> ?_);clear hK K;refine O0 3 (by kernel_rfl) rfl rfl (fun K hK=> ?_)
      go_simp
      go_at_call 60
      refine(Qa 4 (Z.news br) l rfl).mono ?_;rintro e ee ⟨Ap,cp,rfl,p,e⟩;replace Z:=Z.up e;replace ht:=ht.later e;replace Q:=F.out _ Z.off;clear l;refine hK.out _ _ Z.off (fun _=> ?_);clear hK K;refine O0 8 (by kernel_rfl) rfl rfl (fun K hK=> ?_)
      go_simp
      go_at_call 99
      rw[zk.out.2];refine(O.out _ g _ n (G) (J - 2) Z.2 (by omega) (by have:=E.out;omega) (by have:=E.out;omega) (by omega) (by omega)).mono ?_;intro e iu h;obtain⟨tc,uc,vc,Ac,lc,cc,rfl,Pc,c,o,Z⟩:=h.at Z br;replace ht:=ht.dl o (Na (by have:=B.out;omega));replace p:=p.dl o (Na (by have:=B.out;omega));clear o;replace Q:=F.out _ Z.off;refine hK.out _ _ Z.off (fun _=> ?_);clear hK K;refine O0 14 (by kernel_rfl) rfl rfl (fun K hK=> ?_)
      go_simp
      go_at_call 99
      try rw[W.out.1]
      try rw[W.out.2]
      refine(O.out _ g _ n (G) (J - 1) Z.2 (by omega) (by have:=E.out;omega) (by have:=E.out;omega) (by omega) (by omega)).mono ?_;intro e rk h;obtain⟨td,ud,vd,Ad,ld,cd,rfl,U,d,o,Z⟩:=h.at Z br;replace ht:=ht.dl o (Na (by have:=B.out;omega));replace p:=p.dl o (Na (by have:=B.out;omega));replace c:=c.dl o (Na (by have:=B.out;omega));clear o;replace Q:=F.out _ Z.off;refine hK.out _ _ Z.off (fun _=> ?_);clear hK K;refine O0 15 (by kernel_rfl) rfl rfl (fun K hK=> ?_)
      go_simp
      obtain⟨e,l⟩:=RD 25 p c ht d (Z.news br);replace Z:=Z.up e;replace Q:=F.out _ Z.off;refine hK.out _ _ Z.off (fun _=> ?_);clear hK K;refine O0 16 (by kernel_rfl) rfl rfl (fun K hK=> ?_)
      go_simp
      go_at_call 60
      refine(Qa 9 (Z.news br) l rfl).mono ?_;rintro e zl ⟨Af,cf,rfl,f,e⟩;replace Z:=Z.up e;replace Q:=F.out _ Z.off;clear l;refine hK.out _ _ Z.off (fun _=> ?_);clear hK K;have R:=cbn (Z.br br (by have:=B.out;omega));refine O0 17 (by kernel_rfl) rfl rfl (fun K hK=> ?_)
      go_simp
      refine hK.out _ _ (Z.off.set3 _ _ _) (fun _=> ?_);clear hK K;refine bP (by kernel_rfl) ?_ _;go_wp2_with fail;exact Oa (by simp[aR,results99,go_sem,R]) (NQ.elim Pc Ps U) f Y Z B.out (aN _) (by omega) rfl
   · go_simp
     obtain⟨bx,e⟩:=nb (w:=P) (o:= H0 0 0 none 0 0) rfl;have L:=Z.up e;refine hK.out _ _ L.off (fun _=> ?_);clear hK K;have T:H.heap.size < P.heap.size/\g < P.heap.size/\P.heap.size≠g:=by have:=B.out;have:=O1 br;have:=Z.1.size;omega
     have qz:=Z.1.size;generalize aO P _=V at bx L⊢;generalize P.heap.size=gb at*;have br':=br;replace br:=bx;replace Z:=L.id;replace Q:=F.out _ L.off;refine O0 7 (by kernel_rfl) rfl rfl (fun K hK=> ?_)
     go_simp
     go_at_call 99
     try rw[zk.out.1]
     try rw[zk.out.2]
     refine(O.out _ g _ (n+2) (G+2) (J - 2) Z.2 (by omega) (by have:=E.out;omega) (by have:=E.out;omega) (by omega) (by omega)).mono ?_;intro e w9 h;obtain⟨ts,us,vs,As,ls,cs,rfl,Ps,s,o,Z⟩:=h.at Z br;clear o;replace Q:=F.out _ (L.off.trans Z.off);refine hK.out _ _ (L.off.trans Z.off) (fun _=> ?_);clear hK K;refine O0 8 (by kernel_rfl) rfl rfl (fun K hK=> ?_)
     go_simp
     obtain⟨e,l⟩:=K6 25 ((d5 _ _ 6 0)) s (Z.news br);replace Z:=Z.up e;replace Q:=F.out _ (L.off.trans Z.off);refine hK.out _ _ (L.off.trans Z.off) (fun _=> ?_);clear hK K;refine O0 9 (by kernel_rfl) rfl rfl (fun K hK=> ?_)
     go_simp
     go_at_call 60
     refine(Qa 4 (Z.news br) l rfl).mono ?_;rintro e T3 ⟨Aa,ca,rfl,a,e⟩;replace Z:=Z.up e;replace Q:=F.out _ (L.off.trans Z.off);clear l;refine hK.out _ _ (L.off.trans Z.off) (fun _=> ?_);clear hK K;refine O0 10 (by kernel_rfl) rfl rfl (fun K hK=> ?_)
     go_simp
     obtain⟨e,l⟩:=K6 25 ((d5 _ _ 6 0)) a (Z.news br);replace Z:=Z.up e;replace Q:=F.out _ (L.off.trans Z.off);refine hK.out _ _ (L.off.trans Z.off) (fun _=> ?_);clear hK K;refine O0 11 (by kernel_rfl) rfl rfl (fun K hK=> ?_)
     go_simp
     go_at_call 60
     refine(Qa 4 (Z.news br) l rfl).mono ?_;rintro e ee ⟨Ab,cb,rfl,b,e⟩;replace Z:=Z.up e;replace Q:=F.out _ (L.off.trans Z.off);clear l;refine hK.out _ _ (L.off.trans Z.off) (fun _=> ?_);clear hK K;replace bx:=Z.br br T.2.2;replace Z:=L.tr Z.1 Z.2;clear br;have br:=br';obtain⟨a1,a2,a3,a4,a5,C4⟩: ∃a1 a2 a3 a4 a5,(M0 4 0 Ab 2 cb)= M0 a1 a2 a3 a4 a5:=⟨_,_,_,_,_,rfl⟩;rw[C4] at b⊢;clear C4;have ht:=(InT.mono (fun c (hc:gb < c)=>(⟨by omega,by omega⟩:H.heap.size < c/\c≠gb)) (fun _ _=> rfl) b).ret (m0 a1) (m0 a2) (.slice a3 a4 a5);have Zx:=cbn bx;refine O0 13 (by kernel_rfl) rfl rfl (fun K hK=> ?_)
     go_simp
     obtain⟨Z,I⟩:=Z.new3 qz T.2.1 bx (m0 a1) (m0 a2) (.slice a3 a4 a5);refine hK.out _ _ Z.off (fun _=> ?_);clear hK K Zx;generalize cM (cM (cM _ _ _) _ _) _ _=iu at ht Z I⊢;refine bP (by kernel_rfl) ?_ _;clear bx;replace F:=hdq (both (lD F.out Z) (nq (r:=H.heap.size) (g:=g) I (by omega) (by omega)));replace br:=Z.br br (by have:=B.out;omega);replace Y:=Y.trans Z.1;replace Z:=Z.id;replace Q:=F.out _ Z.off;clear I;go_wp2_with fail;refine Wd H.heap.size (by kernel_rfl) Z fun rk e Z=> ?_
     replace ht:=ht.later e;replace Q:=F.out _ Z.off;refine O2 [0,1,4,5,6,7,9,10,11,12,13] 7 (by kernel_rfl) Z.off (fun _ _ _ _ _ h=> h) ?_
     iterate 11 (refine tk rfl (by rfl) (by intro w X;have Q:=F.out _ X;go_simp;(try with_reducible rfl)) ?_;try simp only[N2])
     refine O0 2 (by kernel_rfl) rfl rfl (fun K hK=> ?_)
     go_simp
     obtain⟨e,l⟩:=K6 25 ((d5 _ _ 6 0)) ((d5 _ _ 6 0)) (Z.news br);replace Z:=Z.up e;replace ht:=ht.later e;replace Q:=F.out _ Z.off;refine hK.out _ _ Z.off (fun _=> ?_);clear hK K;refine O0 3 (by kernel_rfl) rfl rfl (fun K hK=> ?_)
     go_simp
     go_at_call 60
     refine(Qa 4 (Z.news br) l rfl).mono ?_;rintro e zl ⟨Ap,cp,rfl,p,e⟩;replace Z:=Z.up e;replace ht:=ht.later e;replace Q:=F.out _ Z.off;clear l;refine hK.out _ _ Z.off (fun _=> ?_);clear hK K;refine O0 8 (by kernel_rfl) rfl rfl (fun K hK=> ?_)
     go_simp
     go_at_call 99
     rw[zk.out.2];refine(O.out _ g _ n (G) (J - 2) Z.2 (by omega) (by have:=E.out;omega) (by have:=E.out;omega) (by omega) (by omega)).mono ?_;intro e Lx h;obtain⟨tc,uc,vc,Ac,lc,cc,rfl,Pc,c,o,Z⟩:=h.at Z br;replace ht:=ht.dl o (Na (by have:=B.out;omega));replace p:=p.dl o (Na (by have:=B.out;omega));clear o;replace Q:=F.out _ Z.off;refine hK.out _ _ Z.off (fun _=> ?_);clear hK K;refine O0 14 (by kernel_rfl) rfl rfl (fun K hK=> ?_)
     go_simp
     go_at_call 99
     try rw[W.out.1]
     try rw[W.out.2]
     refine(O.out _ g _ n (G) (J - 1) Z.2 (by omega) (by have:=E.out;omega) (by have:=E.out;omega) (by omega) (by omega)).mono ?_;intro e w16 h;obtain⟨td,ud,vd,Ad,ld,cd,rfl,U,d,o,Z⟩:=h.at Z br;replace ht:=ht.dl o (Na (by have:=B.out;omega));replace p:=p.dl o (Na (by have:=B.out;omega));replace c:=c.dl o (Na (by have:=B.out;omega));clear o;replace Q:=F.out _ Z.off;refine hK.out _ _ Z.off (fun _=> ?_);clear hK K;refine O0 15 (by kernel_rfl) rfl rfl (fun K hK=> ?_)
     go_simp
     obtain⟨e,l⟩:=RD 25 p c ht d (Z.news br);replace Z:=Z.up e;replace Q:=F.out _ Z.off;refine hK.out _ _ Z.off (fun _=> ?_);clear hK K;refine O0 16 (by kernel_rfl) rfl rfl (fun K hK=> ?_)
     go_simp
     go_at_call 60
     refine(Qa 9 (Z.news br) l rfl).mono ?_;rintro e w17 ⟨Af,cf,rfl,f,e⟩;replace Z:=Z.up e;replace Q:=F.out _ Z.off;clear l;refine hK.out _ _ Z.off (fun _=> ?_);clear hK K;have R:=cbn (Z.br br (by have:=B.out;omega));refine O0 17 (by kernel_rfl) rfl rfl (fun K hK=> ?_)
     go_simp
     refine hK.out _ _ (Z.off.set3 _ _ _) (fun _=> ?_);clear hK K;refine bP (by kernel_rfl) ?_ _;go_wp2_with fail;exact Oa (by simp[aR,results99,go_sem,R]) (NQ.elim Pc Ps U) f Y Z B.out (aN _) (by omega) rfl
 have t2:(x==1)=false:=beq_eq_false_iff_ne.2 h1;by_cases h2:x=2
 · subst h2
   go_wp2_with fail;obtain⟨e,l⟩:=K6 25 ((d5 _ _ 6 0)) ((d5 _ _ 6 0)) (Z.news br);replace Z:=Z.up e;replace Q:=F.out _ Z.off;refine(Qa 13 (Z.news br) l rfl).mono ?_;rintro e P ⟨Aa,ca,rfl,a,e⟩;replace Z:=Z.up e;replace Q:=F.out _ Z.off;clear l;go_wp2_with fail;refine(O.out _ g _ n (G) (J - 1) Z.2 (by omega) (by have:=E.out;omega) (by have:=E.out;omega) (by omega) (by omega)).mono ?_;intro e V h;obtain⟨tb,ub,vb,Ab,lb,cb,rfl,Pb,b,o,Z⟩:=h.at Z br;replace a:=a.dl o (Na (by have:=B.out;omega));clear o;replace Q:=F.out _ Z.off;go_wp2_with fail;refine(O.out _ g _ n (G) (J - 2) Z.2 (by omega) (by have:=E.out;omega) (by have:=E.out;omega) (by omega) (by omega)).mono ?_;intro e w9 h;obtain⟨td,ud,vd,Ad,ld,cd,rfl,U,d,o,Z⟩:=h.at Z br;replace a:=a.dl o (Na (by have:=B.out;omega));replace b:=b.dl o (Na (by have:=B.out;omega));clear o;replace Q:=F.out _ Z.off;go_wp2_with fail;obtain⟨e,l⟩:=fd 25 a b d (Z.news br);replace Z:=Z.up e;replace Q:=F.out _ Z.off;refine(Qa 14 (Z.news br) l rfl).mono ?_;rintro e T3 ⟨Af,cf,rfl,f,e⟩;replace Z:=Z.up e;replace Q:=F.out _ Z.off;clear l;go_wp2_with fail;generalize M:aO T3 _=ee;obtain⟨I,e⟩:=nb M;replace F:=hdq (both (lD F.out (Z.up e)) (nq (r:=H.heap.size) (g:=g) I (by have:=O1 br;have:=Z.1.size;omega) (by have:=O1 br;have:=B.out;have:=Z.1.size;omega)));replace br:=e.blk (Z.br br (by have:=B.out;omega));replace Y:=Y.trans (Z.up e).1;replace Z:=(Z.up e).id;replace f:=f.later e;replace Q:=F.out _ Z.off;clear M I e;refine Wd H.heap.size (by kernel_rfl) Z fun iu e Z=> ?_
   replace f:=f.later e;replace Q:=F.out _ Z.off;refine O2 [0,3] 5 (by kernel_rfl) Z.off (fun _ _ _ _ _ h=> h) ?_
   iterate 2 (refine tk rfl (by rfl) (by intro w X;have Q:=F.out _ X;go_simp;(try with_reducible rfl)) ?_;try simp only[N2])
   refine Rv 1 4 (by kernel_rfl) rfl rfl rfl rfl (fun K hK=> ?_) (fun K hK=> ?_)
   · go_simp
     obtain⟨ql,N⟩:=YJ (cs:=#[m0 15,m0 16]) 3 [15,16] rfl Z.2;replace Z:=Z.up ql;replace f:=f.later ql;replace Q:=F.out _ Z.off;refine hK.out _ _ Z.off (fun _=> ?_);clear hK K;generalize aO iu (.cells #[m0 15,m0 16] 3)=rk at ql Z Q f N⊢;refine Rv 2 4 (by kernel_rfl) rfl rfl rfl rfl (fun K hK=> ?_) (fun K hK=> ?_)
     · go_simp
       go_at_call 100
       refine(Xt N rfl Z.2 (by omega)).mono ?_;rintro e zl ⟨x,rfl,hx,o,R⟩;replace Z:=Z.tr o R;replace f:=f.dl o (Na (by have:=B.out;omega));clear o R;replace Q:=F.out _ Z.off;refine hK.out _ _ Z.off (fun _=> ?_);clear hK K;refine O0 4 (by kernel_rfl) rfl rfl (fun K hK=> ?_)
       go_simp
       obtain⟨E14,l⟩:=mc 25 f (Z.news br);replace Z:=Z.up E14;replace Q:=F.out _ Z.off;refine hK.out _ _ Z.off (fun _=> ?_);clear hK K;generalize aO zl (H0 14 0 Af 3 cf)=Lx at E14 Z Q l⊢;refine O0 5 (by kernel_rfl) rfl rfl (fun K hK=> ?_)
       go_simp
       go_at_call 60
       refine(Qa x (Z.news br) l rfl).mono ?_;rintro e w16 ⟨Aj,cj,rfl,j,e⟩;replace Z:=Z.up e;replace Q:=F.out _ Z.off;clear l;refine hK.out _ _ Z.off (fun _=> ?_);clear hK K;have R:=cbn (Z.br br (by have:=B.out;omega));refine O0 6 (by kernel_rfl) rfl rfl (fun K hK=> ?_)
       go_simp
       refine hK.out _ _ (Z.off.set3 _ _ _) (fun _=> ?_);clear hK K;refine bP (by kernel_rfl) ?_ _;go_wp2_with fail;exact Oa (by simp[aR,results99,go_sem,R]) (NQ.part hx Pb U) j Y Z B.out (aN _) (by omega) rfl
     · go_simp
       obtain⟨yz,l⟩:=mc 25 f (Z.news br);replace Z:=Z.up yz;replace Q:=F.out _ Z.off;refine hK.out _ _ Z.off (fun _=> ?_);clear hK K;replace N:=And.intro (N.1.ext yz) N.2;refine O0 2 (by kernel_rfl) rfl rfl (fun K hK=> ?_)
       go_simp
       go_at_call 100
       refine(Xt N rfl Z.2 (by omega)).mono ?_;rintro e zl ⟨x,rfl,hx,o,R⟩;replace Z:=Z.tr o R;replace l:=l.dl o (Na (by have:=B.out;omega));clear o R;replace Q:=F.out _ Z.off;refine hK.out _ _ Z.off (fun _=> ?_);clear hK K;refine O0 5 (by kernel_rfl) rfl rfl (fun K hK=> ?_)
       go_simp
       go_at_call 60
       refine(Qa x (Z.news br) l rfl).mono ?_;rintro e Lx ⟨Aj,cj,rfl,j,e⟩;replace Z:=Z.up e;replace Q:=F.out _ Z.off;clear l;refine hK.out _ _ Z.off (fun _=> ?_);clear hK K;have R:=cbn (Z.br br (by have:=B.out;omega));refine O0 6 (by kernel_rfl) rfl rfl (fun K hK=> ?_)
       go_simp
       refine hK.out _ _ (Z.off.set3 _ _ _) (fun _=> ?_);clear hK K;refine bP (by kernel_rfl) ?_ _;go_wp2_with fail;exact Oa (by simp[aR,results99,go_sem,R]) (NQ.part hx Pb U) j Y Z B.out (aN _) (by omega) rfl
   · go_simp
     obtain⟨ql,l⟩:=mc 25 f (Z.news br);replace Z:=Z.up ql;replace Q:=F.out _ Z.off;refine hK.out _ _ Z.off (fun _=> ?_);clear hK K;generalize aO iu (H0 14 0 Af 3 cf)=rk at ql Z Q l⊢;refine O0 1 (by kernel_rfl) rfl rfl (fun K hK=> ?_)
     go_simp
     obtain⟨yz,N⟩:=YJ (cs:=#[m0 15,m0 16]) 3 [15,16] rfl Z.2;replace Z:=Z.up yz;replace Q:=F.out _ Z.off;refine hK.out _ _ Z.off (fun _=> ?_);clear hK K;generalize aO rk (.cells #[m0 15,m0 16] 3)=zl at yz Z Q N⊢;replace l:=l.later yz;refine O0 2 (by kernel_rfl) rfl rfl (fun K hK=> ?_)
     go_simp
     go_at_call 100
     refine(Xt N rfl Z.2 (by omega)).mono ?_;rintro e Lx ⟨x,rfl,hx,o,R⟩;replace Z:=Z.tr o R;replace l:=l.dl o (Na (by have:=B.out;omega));clear o R;replace Q:=F.out _ Z.off;refine hK.out _ _ Z.off (fun _=> ?_);clear hK K;refine O0 5 (by kernel_rfl) rfl rfl (fun K hK=> ?_)
     go_simp
     go_at_call 60
     refine(Qa x (Z.news br) l rfl).mono ?_;rintro e w16 ⟨Aj,cj,rfl,j,e⟩;replace Z:=Z.up e;replace Q:=F.out _ Z.off;clear l;refine hK.out _ _ Z.off (fun _=> ?_);clear hK K;have R:=cbn (Z.br br (by have:=B.out;omega));refine O0 6 (by kernel_rfl) rfl rfl (fun K hK=> ?_)
     go_simp
     refine hK.out _ _ (Z.off.set3 _ _ _) (fun _=> ?_);clear hK K;refine bP (by kernel_rfl) ?_ _;go_wp2_with fail;exact Oa (by simp[aR,results99,go_sem,R]) (NQ.part hx Pb U) j Y Z B.out (aN _) (by omega) rfl
 have t3:(x==2)=false:=beq_eq_false_iff_ne.2 h2;by_cases h3:x=3
 · subst h3
   go_wp2_with fail;obtain⟨e,l⟩:=K6 25 ((d5 _ _ 6 0)) ((d5 _ _ 6 0)) (Z.news br);replace Z:=Z.up e;replace Q:=F.out _ Z.off;refine(Qa 4 (Z.news br) l rfl).mono ?_;rintro e P ⟨Aa,ca,rfl,a,e⟩;replace Z:=Z.up e;replace Q:=F.out _ Z.off;clear l;go_wp2_with fail;refine(O.out _ g _ n (G) (J - 2) Z.2 (by omega) (by have:=E.out;omega) (by have:=E.out;omega) (by omega) (by omega)).mono ?_;intro e V h;obtain⟨tb,ub,vb,Ab,lb,cb,rfl,Pb,b,o,Z⟩:=h.at Z br;replace a:=a.dl o (Na (by have:=B.out;omega));clear o;replace Q:=F.out _ Z.off;go_wp2_with fail;obtain⟨e,l⟩:=mc 25 b (Z.news br);replace Z:=Z.up e;replace a:=a.later e;replace Q:=F.out _ Z.off;refine(Qa 11 (Z.news br) l rfl).mono ?_;rintro e w9 ⟨Ad,cd,rfl,d,e⟩;replace Z:=Z.up e;replace a:=a.later e;replace Q:=F.out _ Z.off;clear l;go_wp2_with fail;refine(O.out _ g _ n (G) (J - 1) Z.2 (by omega) (by have:=E.out;omega) (by have:=E.out;omega) (by omega) (by omega)).mono ?_;intro e T3 h;obtain⟨tj,uj,vj,Aj,lj,cj,rfl,Pj,j,o,Z⟩:=h.at Z br;replace a:=a.dl o (Na (by have:=B.out;omega));replace d:=d.dl o (Na (by have:=B.out;omega));clear o;replace Q:=F.out _ Z.off;go_wp2_with fail;obtain⟨e,l⟩:=fd 25 a d j (Z.news br);replace Z:=Z.up e;replace Q:=F.out _ Z.off;refine(Qa 12 (Z.news br) l rfl).mono ?_;rintro e ee ⟨Af,cf,rfl,f,e⟩;replace Z:=Z.up e;replace Q:=F.out _ Z.off;clear l;have R:=cbn (Z.br br (by have:=B.out;omega));go_wp2_with fail;exact Oa (by simp[aR,results99,go_sem,R]) (NQ.move Pb Pj) f Y Z B.out (aN _) (by omega) rfl
 have t4:(x==3)=false:=beq_eq_false_iff_ne.2 h3;by_cases h4:x=4
 · subst h4
   go_wp2_with fail;refine(O.out _ g _ n (G) (0) Z.2 (by omega) (by have:=E.out;omega) (by have:=E.out;omega) (by omega) (by omega)).mono ?_;intro e P h;obtain⟨ta,ua,va,Aa,la,ca,rfl,Pa,a,o,Z⟩:=h.at Z br;clear o;replace Q:=F.out _ Z.off;have R:=cbn (Z.br br (by have:=B.out;omega));go_wp2_with fail;exact Oa (by simp[aR,results99,go_sem,R]) (Pa.up) a Y Z B.out (aN _) (by omega) rfl
 have t5:(x==4)=false:=beq_eq_false_iff_ne.2 h4;go_wp2_with fail;refine(O.out _ g _ n (G) (J - 1) Z.2 (by omega) (by have:=E.out;omega) (by have:=E.out;omega) (by omega) (by omega)).mono ?_;intro e P h;obtain⟨ta,ua,va,Aa,la,ca,rfl,Pa,a,o,Z⟩:=h.at Z br;clear o;replace Q:=F.out _ Z.off;go_wp2_with fail;obtain⟨e,l⟩:=mc 25 a (Z.news br);replace Z:=Z.up e;replace Q:=F.out _ Z.off;refine(Qa 8 (Z.news br) l rfl).mono ?_;rintro e V ⟨Ab,cb,rfl,b,e⟩;replace Z:=Z.up e;replace Q:=F.out _ Z.off;clear l;have R:=cbn (Z.br br (by have:=B.out;omega));go_wp2_with fail;exact Oa (by simp[aR,results99,go_sem,R]) (NQ.succ Pa) b Y Z B.out (aN _) (by omega) rfl
theorem To:Mq 4 1023 20 968:=Ns 4 255 16 320 fun _=> Ns 3 63 12 104 fun _=> Ns 2 15 8 32 fun _=> Ns 1 3 4 8 fun _=> Ns 0 0 0 0 fun h=> absurd h (by decide)
theorem Yl:Mq 2 63 12 104:=Ns 2 15 8 32 fun _=> Ns 1 3 4 8 fun _=> Ns 0 0 0 0 fun h=> absurd h (by decide)
end Go.Proofs.YtckhbnmfnpolgaaGreat
namespace Go.Proofs.YtckhbnmfnpolgaaGreat
open Go.RowKit
open M (Hd HR Cv Ty Lim Wb y6 U4 dep DG fvb)
open M.Tm
def txts:List (List M.Tm×List M.Tm):= [
 ([], [lam (sort 0) (lam (var 0) (var 0)),lam nat (refl (var 0)),lam nat (lam nat (elim (lam nat nat) (var 1) (lam nat (lam nat (succ (var 0)))) (var 0))),pi nat (sort 0),app (lam (sort 0) (lam (var 0) (var 0))) nat,
  lam (sg nat nat) (pair (sg nat nat) (M.Tm.snd (var 0)) (fst (var 0))),lam nat (pair (sg nat (id nat (var 0) (var 1))) (var 0) (refl (var 0))),lam nat (lam nat (lam (id nat (var 1) (var 0)) (M.Tm.move (lam nat (id nat (var 0) (var 3))) (var 0) (refl (var 2))))),
  elim (lam nat (sort 0)) nat (lam nat (lam (sort 0) (pi nat (var 1)))) (succ (succ zero)),pi (sort 0) (pi (var 0) (var 1)),lam (sort 0) (lam (pi (var 0) (var 1)) (var 0)),sort 2]),
 ([pi (var 1) (var 2),var 0,sort 0], [app (var 0) (var 1),refl (var 1),id (var 2) (var 1) (app (var 0) (var 1)),lam (var 2) (var 1),pair (sg (var 2) (var 3)) (var 1) (app (var 0) (var 1)),lam (id (var 2) (var 1) (app (var 0) (var 1))) (M.Tm.move (lam (var 3) (var 4)) (var 0) (var 2))]),
 ([id nat (var 0) (succ zero),nat], [var 0,M.Tm.move (lam nat (id nat (succ (var 2)) (succ (var 0)))) (var 0) (refl (succ (var 1))),succ (var 1),M.Tm.move (lam nat nat) (var 0) (var 1),elim (lam nat nat) zero (lam nat (lam nat (var 1))) (var 1)]),
 ([pi nat (app (var 1) (var 0)),pi nat (sort 0)], [app (var 0) zero,lam nat (app (var 1) (var 0)),app (var 1) (succ (succ zero)),lam nat (lam (id nat (var 0) zero) (M.Tm.move (var 3) (var 0) (app (var 2) (var 1))))]),
 ([id nat (var 2) (var 1),id nat (var 2) (var 1),nat,nat,nat], [var 0,var 1]),
 ([id (var 2) (var 1) (var 0),var 1,var 0,sort 0], [var 0])]
def yC(G:List M.Tm)(t:M.Tm):Bool:=match Yb 30 (ctxE G) (enc t) with
 |some (_,c)=> c==0
 |none=> false
theorem Su:(txts.all fun p=> p.2.all ec)=true:=by decide+kernel
theorem Zu:(txts.all fun p=> p.2.all (yC p.1))=true:=by decide+kernel
theorem ix:(txts.all fun p=> p.1.all fun A=> decide (dep A<=3))=true:=by decide+kernel
end Go.Proofs.YtckhbnmfnpolgaaGreat
namespace Go.Proofs.YtckhbnmfnpolgaaGreat
open Go.RowKit
attribute [local go_sem ↓] Go.wp_at_zero Go.wp_at_succ
def ccRS(f:Nat):List Tr->List Tr->An
 |_, []=> some (j2,0)
 |done,t::ts=> thn (X0 (Q0 f done t) 2) fun _=> ccRS f (done++ [t]) ts
def Yu(f:Nat)(ctx:List Tr):An:=if Ob ctx=true then ccRS f [] ctx else some (j2,3)
theorem Zy{a:List Tr}{t:Tr}(ht:t∈a)(hv:j0 D0 t=false):Ob a=false:=by
 unfold Ob;rw[Bool.and_eq_false_iff];refine .inr ?_;simp only[Bool.not_eq_false',List.any_eq_true];exact⟨t,ht,by simp[hv]⟩
theorem CD{a:List Tr}(hv: ∀t∈a,j0 D0 t=true):Ob a=decide ((a.length:Int)<=8):=by
 unfold Ob;have:a.any (fun t=> !j0 D0 t)=false:=by
  simp only[List.any_eq_false];intro t ht;simp[hv t ht]
 simp[this]
 omega
theorem mB{a:List Tr}(h:Ob a=true):a.length<=8/\ ∀t∈a,j0 D0 t=true:=by
 by_cases hv: ∀t∈a,j0 D0 t=true
 · rw[CD hv,decide_eq_true_eq] at h
   exact⟨by omega,hv⟩
 · exact⟨by unfold Ob at h;simp at h;exact h.1,fun t ht=> by
    cases e:j0 D0 t
    · rw[Zy ht e] at h;cases h
    · rfl⟩
theorem xC(a:List Tr)(w:aL)(A:Option Addr)(cap:Nat)(hK:y22 w A a)(hl:a.length<=cap)(hc:cap<=aV):
 aX prog 87 #[.slice A a.length cap] w fun e y=> e= .returned (.bool (Ob a))/\Ext w y:=by
 have f:=hc;unfold aV at f;go_enter func87,ntmps87;go_wp2_with fail
 go_loopw [3] (fun i wr=> ∃j:Nat,j<=a.length/\i= .int .i64 j/\Hid (∀t∈a.take j,j0 D0 t=true)/\Ext w wr) (fun i _=> a.length -(intOf i).toNat)
 case atStart=> exact⟨0,bV _,rfl,hdq (by simp),xr _⟩
 case round=>
  obtain⟨j,K,rfl,c,hx⟩:=hrel;by_cases d:j < a.length
  · obtain⟨b,o,p,l,M,O,q16,rfl,F,B,G,x,N,m1,P,H,s⟩:=hK.get hx d
    have E:(j:Int) <(a.length:Int):=by omega
    have q:=hdq (li (.mk p l q16) _ _ H);go_wp2_with fail;refine q.out.mono ?_;rintro e L ⟨rfl,I⟩;have r:=hx.trans I;obtain⟨g,k⟩: ∃g,j0 D0 (.mk p l q16)=g:=⟨_,rfl⟩;rw[k];have m:=hdq k;clear k q B G x;cases g with
    |false=>
     go_wp2_with fail;go_ret;exact⟨by rw[Zy s m.out];rfl,r⟩
    |true=>
     have J:Hid (∀t∈a.take (j+1),j0 D0 t=true):=hdq fun t ht=> by
      rw[gY d,List.mem_append,List.mem_singleton] at ht;rcases ht with ht|rfl
      · exact c.out t ht
      · rw[F.out];exact m.out
     go_wp2_with fail
     go_roundw
     case rel=> exact⟨j+1,by omega,by go_num,J,r⟩
     case measure=> simp[intOf];omega
  · have hv: ∀t∈a,j0 D0 t=true:=by
     have:=c.out
     rwa [List.take_of_length_le (by omega)] at this
    have z:=hdq hv;clear hv c;go_wp2_with fail;go_ret;exact⟨by rw[CD z.out];rfl,hx⟩
theorem pF(f:Nat)(a:List Tr)(w:aL)(A:Option Addr)(cap:Nat)(hK:y22 w A a)(hl:a.length<=cap)(hc:cap<=aV)(r:Tr×Int)(h:Yu f a=some r):
 aX prog 88 #[.slice A a.length cap] w fun e w'=> e= .returned (.int .i64 r.2)/\Ext w w':=by
 have q:=hc;unfold aV at q;have M:=hdq (xC a w A cap hK hl hc);go_enter func88,ntmps88;go_wp2_with fail;refine M.out.mono ?_;rintro e w1 ⟨rfl,L⟩;obtain⟨z,k⟩: ∃z,Ob a=z:=⟨_,rfl⟩;rw[k];unfold Yu at h;rw[k] at h;clear M;cases z with
 |false=>
  obtain rfl:r=(j2,3):=by simpa using h.symm
  go_wp2_with fail;go_ret;exact⟨rfl,L⟩
 |true=>
  rw[if_pos rfl] at h;obtain⟨h8,hv⟩:=mB k;have ae:=hdq hv;have Gc:=hdq h;have V:=hdq hK;clear k hv h;go_wp2_with fail
  go_loopw [3] (fun i wr=> ∃j:Nat,j<=a.length/\i= .int .i64 j/\Hid (ccRS f (a.take j) (a.drop j)=some r)/\Ext w wr) (fun i _=> a.length -(intOf i).toNat)
  case atStart=> exact⟨0,bV _,rfl,Gc,L⟩
  case round=>
   obtain⟨i,hi,rfl,HR,hx2⟩:=hrel;by_cases g:i < a.length
   · obtain⟨b,o,T,R,A1,p1,q16,rfl,Y,I,P,N,l1,m1,M6,J,j9⟩:=hK.get hx2 g
     have Z:(i:Int) <(a.length:Int):=by omega
     have V8:(0:Int)<=(i:Int):=by omega
     have U:(i:Int)<=(cap:Int):=by omega
     obtain⟨sA,c,l,m,F⟩:=Ud (by
      have:=HR.out;rw[cL g,ccRS] at this;exact this)
     rw[Y.out] at l;have B:=hdq l;have s:=hdq m;have p:=hdq F;have N8:=hdq J;have y:=hdq (fun(W:aL) (O:Ext wr W)=> wv (Sq f) W AllN (A:=some ⟨b,o,none⟩) (ca:=cap) (G:=a.take i) ⟨fun _ _=> trivial,by simp;omega,hc,(InK.all (V.out.ext (hx2.trans O))).take i,by simp;omega,by simp,fun x hm=> ae.out x (List.mem_of_mem_take hm)⟩ (.mk T R q16) _ (InT.all (N8.out.ext O)) _ B.out);rw[show(a.take i).length=i from by simp;omega] at y;clear l m F J M6 HR;go_wp2_with fail;refine wp_region_held_drew (S:=fun w=> Ext wr w) (by kernel_rfl) (xr wr).drew (fun _=> ?_);refine O2 [0,1,2,3,4,5,6] 6 (by kernel_rfl) (xr wr).drew (fun _ _ _ _ _ h=> h) ?_
     iterate 7 (refine tk rfl (by rfl) (by intro w X;have q0:=X.cell I;have l:=X.cell P;have m:=X.cell N;go_simp;(try with_reducible rfl)) ?_;try simp only[N2])
     refine O0 7 (by kernel_rfl) rfl rfl (fun K hK=> ?_)
     go_simp
     go_at_call 128
     refine(y.out _ (xr wr).drew).mono ?_;rintro e w2 ⟨rfl,e2⟩;have E:=(xr wr).drew.trans e2;refine hK.out _ _ E (fun _=> ?_);clear hK K I P N y;refine O2 [8,9,10,11,12] 0 (by kernel_rfl) E (fun _ _ _ _ _ h=> h) ?_
     iterate 5 (refine tk rfl (by rfl) (by intro w X;go_simp;(try with_reducible rfl)) ?_;try simp only[N2])
     refine bP (by kernel_rfl) ?_ _;have H:=hx2.trans E;by_cases d:c=0
     · subst d
       have Q:=hdq (s.out rfl);rw[<-gY g] at Q;clear B s p;go_wp2_with fail
       go_roundw
       case rel=> exact⟨i+1,by omega,by go_num,Q,H⟩
       case measure=> simp[intOf];omega
     · have t1:(c !=0)=true:=by simp[d]
       have hr:=p.out d;clear B s p d;go_wp2_with fail;go_ret;exact⟨by rw[hr];rfl,H⟩
   · have hr:r=(j2,0):=by
      have:=HR.out;rw[cV (by omega)] at this
      simpa[ccRS] using this.symm
     go_wp2_with fail;go_ret;exact⟨by rw[hr];rfl,hx2⟩
theorem Ww(t:Tr)(w:aL)(v:Value)(a:Lies w t v):aX prog 94 #[v] w fun e c=> e= .returned (.bool (!j0 D0 t))/\Ext w c:=by
 have d:=hdq (fun W (b:Ext w W)=> ro t W v (a.ext b));obtain⟨k,n,g⟩:=t;obtain⟨A,cap,rfl,hl,hc,hK⟩:=Lies.mk_iff.1 a;go_enter func94,ntmps94;go_wp2_with fail;refine(d.out _ ((xr w).alloc _)).mono ?_;rintro e i ⟨rfl,f⟩;go_wp2_with fail;go_ret;exact⟨rfl,f.pre⟩
theorem mG(c:List Tr)(w:aL)(A:Option Addr)(cap:Nat)(hl:c.length<=cap)(hc:cap<=aV)(h:y22 w A c):
 aX prog 131 #[.slice A c.length cap,.func (.func 94) #[] #[]] w fun e d=> e= .returned (.int .i64 (vl (fun t=> !j0 D0 t) c 0))/\Ext w d:=by
 obtain⟨p,m⟩: ∃p:Tr->Bool,p=fun t=> !j0 D0 t:=⟨_,rfl⟩
 have hf: ∀t∈c,∀d v,Ext w d->Lies d t v->aX prog 94 #[v] d fun e l=> e= .returned (.bool (p t))/\Ext d l:=fun t _ d v _ hv=> by rw[m];exact Ww t d v hv
 rw[<-m];clear m;unfold aV at hc;go_enter func131,ntmps131;go_wp2_with fail
 go_loopw [8] (fun i wr=> ∃j:Nat,j<=c.length/\i= .int .i64 j/\vl p c 0=vl p (c.drop j) j/\Ext w wr) (fun i _=> c.length -(intOf i).toNat)
 case atStart=> exact⟨0,bV _,rfl,rfl,xr _⟩
 case round=>
  obtain⟨j,K,rfl,s,hx⟩:=hrel;have q:=hdq s;clear s;by_cases f:j < c.length
  · obtain⟨b,o,k,n,N,x,kids,rfl,B,J,M,G,H,I,hK,E,F⟩:=h.get hx f
    have a:vl p (c.drop j) j=if p (.mk k n kids)=true then(j:Int) else vl p (c.drop (j+1)) (j+1):=by
     rw[cL f,B.out];conv=> lhs;unfold vl
    have z:=hdq (hf _ F);clear hf;go_wp2_with fail;refine(z.out wr _ hx E).mono ?_;rintro e L ⟨rfl,y⟩;generalize p (.mk k n kids)=r at a;cases r with
    |true=>
     rw[if_pos rfl] at a;have g:=hdq a;clear a;go_wp2_with fail;go_ret;exact⟨by rw[q.out,g.out];rfl,hx.trans y⟩
    |false=>
     rw[if_neg (by decide)] at a;have g:=hdq a;clear a;go_wp2_with fail
     go_roundw
     case rel=> exact⟨j+1,by omega,by go_num,by rw[q.out,g.out],hx.trans y⟩
     case measure=> simp[intOf];omega
  · go_wp2_with fail
    go_ret;exact⟨by rw[q.out,cV (by omega)];rfl,hx⟩
theorem XI(a:List Tr)(w:aL)(A:Option Addr)(cap:Nat)(hl:a.length<=cap)(hc:cap<=aV)(h:y22 w A a):
 aX prog 93 #[.slice A a.length cap,.func (.func 94) #[] #[]] w fun e d=> e= .returned (.bool (a.any (fun t=> !j0 D0 t)))/\Ext w d:=by
 have c:=hdq (mG a w A cap hl hc h);have b:=hdq (XC (fun t=> !j0 D0 t) a 0);go_enter func93,ntmps93;go_wp2_with fail;refine c.out.mono ?_;rintro e g ⟨rfl,f⟩;go_wp2_with fail;go_ret;exact⟨by rw[<-b.out];rfl,f⟩
theorem zC(f:Nat)(a:List Tr)(w:aL)(A:Option Addr)(cap:Nat)(hK:y22 w A a)(hl:a.length<=cap)(hc:cap<=aV)(l:List Tr)(B:Option Addr)(b:Nat)(o:y22 w B l)(c:l.length<=b)(d:b<=aV)(r:Tr×Int)(h:ra f a l=some r):
 aX prog 48 #[.slice A a.length cap,.slice B l.length b] w fun e s=> e= .returned (m0 r.2)/\Ext w s:=by
 obtain⟨q,k,hr⟩: ∃q,ccV f a=some q/\(if l.all (fun t=> j0 D0 t)=true then some q else some (j2,3))=some r:=by
  unfold ra at h;cases e:ccV f a with
  |none=> rw[e] at h;cases h
  |some q=> rw[e] at h;exact⟨q,rfl,h⟩
 have x:=hdq (eJ f a w A cap hK hl hc q k);have g:=hdq (fun W (p:Ext w W)=> XI l W B b c d (o.ext p));have m:(l.any fun t=> !j0 D0 t)= !l.all (fun t=> j0 D0 t):=by rw[List.not_all_eq_any_not]
 rw[m] at g;generalize l.all (fun t=> j0 D0 t)=z at hr g;have HR:=hdq hr;clear hr m hK o h k;go_enter func48,ntmps48;go_wp2_with fail;refine x.out.mono ?_;rintro e E ⟨rfl,i⟩;go_wp2_with fail;refine(g.out _ i).mono ?_;rintro e y ⟨rfl,j⟩;cases z with
 |true=>
  have hr:=HR.out;rw[if_pos rfl] at hr;obtain rfl:q=r:=by simpa using hr
  clear HR hr;go_wp2_with fail;go_ret;exact⟨rfl,i.trans j⟩
 |false=>
  have hr:=HR.out;rw[if_neg (by decide)] at hr;obtain rfl:(j2,(3:Int))=r:=by simpa using hr
  clear HR hr;go_wp2_with fail;go_ret;exact⟨rfl,i.trans j⟩
theorem kF{S:aL}{A:Option Addr}{ca:Nat}{G:List Tr}{g:Tr->An}(P:ue S A ca G g)(f:aL)(hx:Ext S f)(hG:y22 f A G)(t:Tr)(v:Value)(ht:Lies f t v)(hv:j0 D0 t=true)(a:Tr)(T:Value)(q:Lies f a T)(c:Int)(h:pa (g t) a=some c):aX prog 50 #[.slice A G.length ca,v,T] f fun e w'=> e= .returned (m0 c)/\Ext f w':=by
 obtain⟨k,n,M⟩:=t;obtain⟨At,ct,rfl,hl,l8,hK⟩:=Lies.mk_iff.1 ht;obtain⟨w,B,z⟩:=a;obtain⟨Z,c8,rfl,hl8,hc8,Jr⟩:=Lies.mk_iff.1 q;have HT:=hdq ht;have HW:=hdq q;have HI:=hdq P;have Y:=hdq hG;have HV:=hdq hv;obtain⟨s,d,hs,o⟩: ∃s d,g (.mk k n M)=some (s,d)/\c=if d=0 then d4 s (.mk w B z) else d:=by
  rcases Vt h with⟨s,hs,rfl⟩ |⟨s,hs,hc⟩
  · exact⟨s,0,hs,by rw[if_pos rfl]⟩
  · exact⟨s,c,hs,by rw[if_neg hc]⟩
 have N:=hdq hs;clear h hs ht q P hG hv hK Jr;obtain⟨w1,r⟩: ∃x,x=((f.alloc (H0 k n At M.length ct)).alloc (H0 w B Z z.length c8)):=⟨_,rfl⟩;obtain⟨U,J,s1,m⟩:=box2 r;go_enter func50,ntmps50;go_wp2_with fail;rw[<-r];clear r;refine(HI.out w1 AllN (hx.trans m) (fun _ _=> trivial) (InK.all (Y.out.ext m)) _ _ (InT.all (HT.out.ext m)) HV.out _ N.out).mono ?_;rintro e i ⟨u,rfl,hT,l⟩;have s2:=l.size;simp only at hT⊢;obtain⟨W,H,Q,K,X,rfl⟩:=hT.three;have T1:=hdq hT;clear hT N;by_cases hd:d=0
 case neg=>
  rw[if_neg hd] at o;subst o;have t1:(c !=0)=true:=by simp[hd]
  clear hd;have y:=m;have E:=y.trans l;have j:=l;have F:=cb3 (j.blk U);have O:=cb3 (j.blk J);go_wp2_with fail;go_ret;exact⟨rfl,E.alloc _⟩
 subst hd;rw[if_pos rfl] at o;subst o;have j:=l;have F:=cb3 (j.blk U);have O:=cb3 (j.blk J);obtain⟨p,b⟩: ∃x,x=i.alloc (H0 W H Q K X):=⟨_,rfl⟩;have V:Ext i p:=b▸(xr i).alloc _;have L:=heap_alloc_new i (H0 W H Q K X);rw[<-b] at L;have s3:i.heap.size < p.heap.size:=O1 L;go_wp2_with fail;rw[<-b];clear b;clear F O;have y:=m;have E:=y.trans l;have I:=E.trans V;have T6:=V;refine(cF s (.mk w B z) p _ _ (T1.out.lies'.ext T6) (HW.out.ext I)).mono ?_;rintro e w4 ⟨rfl,R⟩;have s4:=R.size;have s8:=I.trans R;go_wp2_with fail;go_ret;exact⟨rfl,s8⟩
