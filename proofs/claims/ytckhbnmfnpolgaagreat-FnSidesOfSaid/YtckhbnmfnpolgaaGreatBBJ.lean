/-
  Lemmas towards the law, 36: Nt, MTxt, SCk, InfM.
-/
import Derived.Test.YtckhbnmfnpolgaaGreatBBI
open Go renaming World->aK,Calls->aV,results->aQ,wpAnyH_done->bP,maxLen->aU
open Go.World renaming alloc->aN,setCell->cP
open Nat renaming le_refl->aM,zero_le->bT
open Go.IntWalk renaming i64_in->dR
open List renaming take_succ_eq_append_getElem->gP,drop_eq_getElem_cons->bX,drop_of_length_le->cR
open Go.Proofs.Tryz
set_option linter.unusedVariables false
set_option maxHeartbeats 40000000
set_option maxRecDepth 100000
namespace Go.Proofs.YtckhbnmfnpolgaaGreat
open Go Go.RowKit
open M (dep fvb)
attribute [local go_sem ↓] Go.wp_at_zero Go.wp_at_succ
def NQ(n D C:Nat)(t:Tr):Prop:= ∃a,t=enc a/\NC n a/\dep a<=D/\cnt t<=C
section
variable {n D C : Nat} {t u v : Tr}
theorem NQ.up(h:NQ n D C t):NQ n (4+D) (8+3*C) t:=by
 obtain⟨a,rfl,b,c,d⟩:=h;exact⟨a,rfl,b,by omega,by omega⟩
theorem NQ.var{i:Nat}(h:i < n):NQ n (4+D) (8+3*C) (.mk 1 i []):=⟨_,rfl,.var h,by simp only[dep];omega,by simp only[enc,cnt,W1];omega⟩
theorem NQ.zero:NQ n (4+D) (8+3*C) (.mk 7 0 []):=⟨_,rfl,.zero,by simp only[dep];omega,by simp only[enc,cnt,W1];omega⟩
theorem NQ.succ(h:NQ n D C t):NQ n (4+D) (8+3*C) (.mk 8 0 [t]):=by
 obtain⟨a,rfl,b,c,d⟩:=h;exact⟨_,rfl,.succ b,by simp only[dep];omega,by simp only[enc,cnt,W1];omega⟩
theorem NQ.app(h:NQ (n+1) D C t)(k:NQ n D C u):NQ n (4+D) (8+3*C) (.mk 5 0 [.mk 4 0 [.mk 6 0 [],t],u]):=by
 obtain⟨a,rfl,c,g,i⟩:=h;obtain⟨b,rfl,d,f,e⟩:=k;exact⟨_,rfl,.app c d,by simp only[dep];omega,by simp only[enc,cnt,W1];omega⟩
theorem NQ.elim(h:NQ n D C t)(k:NQ (n+2) D C u)(l:NQ n D C v):NQ n (4+D) (8+3*C) (.mk 9 0 [.mk 4 0 [.mk 6 0 [],.mk 6 0 []],t,.mk 4 0 [.mk 6 0 [],.mk 4 0 [.mk 6 0 [],u]],v]):=by
 obtain⟨a,rfl,d,o,p⟩:=h;obtain⟨b,rfl,f,j,g⟩:=k;obtain⟨c,rfl,e,m,i⟩:=l;exact⟨_,rfl,.elim d f e,by simp only[dep];omega,by simp only[enc,cnt,W1];omega⟩
theorem NQ.part{x:Int}(hx:x∈ [(15:Int),16])(h:NQ n D C t)(k:NQ n D C u):NQ n (4+D) (8+3*C) (.mk x 0 [.mk 14 0 [.mk 13 0 [.mk 6 0 [],.mk 6 0 []],t,u]]):=by
 obtain⟨a,rfl,c,g,i⟩:=h;obtain⟨b,rfl,d,f,e⟩:=k;simp only[List.mem_cons,List.not_mem_nil,or_false] at hx;rcases hx with rfl|rfl
 · exact⟨_,rfl,.fst c d,by simp only[dep];omega,by simp only[enc,cnt,W1];omega⟩
 · exact⟨_,rfl,.snd c d,by simp only[dep];omega,by simp only[enc,cnt,W1];omega⟩
theorem NQ.move(h:NQ n D C t)(k:NQ n D C u):NQ n (4+D) (8+3*C) (.mk 12 0 [.mk 4 0 [.mk 6 0 [],.mk 6 0 []],.mk 11 0 [t],u]):=by
 obtain⟨a,rfl,c,g,i⟩:=h;obtain⟨b,rfl,d,f,e⟩:=k;exact⟨_,rfl,.move c d,by simp only[dep];omega,by simp only[enc,cnt,W1];omega⟩
end
def gp(k q D C:Nat):Prop:= ∀(w:aK) (g m n:Nat) (b a:Int),Rd w g m->m+q < 900000->b=n->n+2*k<=20->a<=k-> -3<=a->aV prog 99 #[.pointer (some ⟨g,0,none⟩),.int .i64 b,.int .i64 a] w (DQ w g (m+q) (NQ n D C))
theorem Qq(k q D C:Nat)(ih:1<=k->gp (k - 1) q D C):gp k (3+4*q) (4+D) (8+3*C):=by
 intro H g m n G J hR hm hsc hn hk hsz;have B:=hdq hR.lt;have hs0:0<=G/\G+2*k<=20:=by omega
 have E:=hdq hsc;clear hsc hn;go_enter func99,ntmps99;go_wp2_with fail;generalize P:aN H _=w1;obtain⟨br,e⟩:=nb P;have Z:=(St.of hR e).id;have Y:X0 [g] H w1:=oE e;clear P e hR;refine(y15 _ 7 0).mono ?_;rintro e w2 ⟨rfl,e⟩;replace Z:=Z.up e;go_wp2_with fail;generalize P:aN w2 _=w3;obtain⟨I,e⟩:=nb P;have F:=hdq (Xl (r:=H.heap.size) (g:=g) I (by have:=O1 br;have:=Z.1.size;omega) (by have:=O1 br;have:=B.out;have:=Z.1.size;omega));replace br:=e.blk (Z.br br (by have:=B.out;omega));replace Y:=Y.trans (Z.up e).1;replace Z:=(Z.up e).id;have Q:=F.out _ Z.off;clear P I e;refine(y15 _ 6 0).mono ?_;rintro e w4 ⟨rfl,e⟩;replace Z:=Z.up e;replace Q:=F.out _ Z.off;by_cases hl:J < 1
 · have t0:decide (J < 1)=true:=decide_eq_true hl
   by_cases hs:G<=0
   · have t1:decide (0 < G)=false:=decide_eq_false (by omega)
     replace Z:=Z.up ((xr _).alloc (.cells #[.int .i64 6,.int .i64 0,.slice none 0 0] 25));replace Q:=F.out _ Z.off;have R:=cbn (Z.br br (by have:=B.out;omega));go_wp2_with fail;exact Na (by simp[aQ,results99,go_sem,R]) (NQ.zero) (F5 _ _ 7 0) Y Z B.out (aM _) (by omega) rfl
   · have t1:decide (0 < G)=true:=decide_eq_true (by omega)
     go_wp2_with fail;generalize P:aN w4 _=w5;obtain⟨I,e⟩:=nb P;replace F:=hdq (both (mC F.out (Z.up e)) (Xl (r:=H.heap.size) (g:=g) I (by have:=O1 br;have:=Z.1.size;omega) (by have:=O1 br;have:=B.out;have:=Z.1.size;omega)));replace br:=e.blk (Z.br br (by have:=B.out;omega));replace Y:=Y.trans (Z.up e).1;replace Z:=(Z.up e).id;replace Q:=F.out _ Z.off;clear P I e;refine(Pf _ g _ 2 Z.2 (by omega)).mono ?_;rintro e w6 ⟨x,rfl,hx0,hx1,R,o⟩;replace Z:=Z.tr o R;clear o R;replace Q:=F.out _ Z.off;obtain⟨HC,t⟩ |rfl:=cz x
     · have R:=cbn (Z.br br (by have:=B.out;omega))
       go_wp2_with fail;exact Na (by simp[aQ,results99,go_sem,R]) (NQ.zero) (F5 _ _ 7 0) Y Z B.out (aM _) (by omega) rfl
     go_wp2_with fail;refine(Pf _ g _ G Z.2 (by omega)).mono ?_;rintro e S ⟨y,rfl,hy0,hy1,R,o⟩;replace Z:=Z.tr o R;clear o R;obtain⟨i,rfl⟩:=Int.eq_ofNat_of_zero_le hy0;replace Q:=F.out _ Z.off;go_wp2_with fail;refine(y15 _ 1 i).mono ?_;rintro e w8 ⟨rfl,e⟩;replace Z:=Z.up e;replace Q:=F.out _ Z.off;have R:=cbn (Z.br br (by have:=B.out;omega));go_wp2_with fail;exact Na (by simp[aQ,results99,go_sem,R]) (NQ.var (by have:=E.out;omega)) (F5 _ _ 1 i) Y Z B.out (aM _) (by omega) rfl
 have t0:decide (J < 1)=false:=decide_eq_false hl;have M:=hdq (ih (by omega));clear ih;have HW:=hdq (And.intro (dR (G+1) ⟨by omega,by omega⟩) (dR (J - 1) ⟨by omega,by omega⟩));go_wp2_with fail;generalize P:aN w4 _=w5;obtain⟨I,e⟩:=nb P;replace F:=hdq (both (mC F.out (Z.up e)) (Xl (r:=H.heap.size) (g:=g) I (by have:=O1 br;have:=Z.1.size;omega) (by have:=O1 br;have:=B.out;have:=Z.1.size;omega)));replace br:=e.blk (Z.br br (by have:=B.out;omega));replace Y:=Y.trans (Z.up e).1;replace Z:=(Z.up e).id;replace Q:=F.out _ Z.off;clear P I e;refine(Pf _ g _ 7 Z.2 (by omega)).mono ?_;rintro e w6 ⟨x,rfl,hx0,hx1,R,o⟩;replace Z:=Z.tr o R;clear o R;replace Q:=F.out _ Z.off;by_cases h0:x=0
 · subst h0
   go_wp2_with fail;refine Vd H.heap.size (by kernel_rfl) Z fun S e Z=> ?_
   replace Q:=F.out _ Z.off;refine W2 [0,1,2,3,4,5,9,10,11,12] 7 (by kernel_rfl) Z.off (fun _ _ _ _ _ h=> h) ?_
   iterate 10 (refine tk rfl (by rfl) (by intro w X;have Q:=F.out _ X;go_simp;(try with_reducible rfl)) ?_;try simp only[I3])
   refine H0 6 (by kernel_rfl) rfl rfl (fun K hK=> ?_)
   go_simp
   go_at_call 99
   try rw[HW.out.1]
   try rw[HW.out.2]
   refine(M.out _ g _ (n+1) (G+1) (J - 1) Z.2 (by omega) (by have:=E.out;omega) (by have:=E.out;omega) (by omega) (by omega)).mono ?_;intro e w8 h;obtain⟨ta,ua,va,Aa,la,ca,rfl,Pa,a,o,Z⟩:=h.at Z br;clear o;replace Q:=F.out _ Z.off;refine hK.out _ _ Z.off (fun _=> ?_);clear hK K;refine H0 7 (by kernel_rfl) rfl rfl (fun K hK=> ?_)
   go_simp
   obtain⟨e,l⟩:=k7 25 ((F5 _ _ 6 0)) a (Z.news br);replace Z:=Z.up e;replace Q:=F.out _ Z.off;refine hK.out _ _ Z.off (fun _=> ?_);clear hK K;refine H0 8 (by kernel_rfl) rfl rfl (fun K hK=> ?_)
   go_simp
   go_at_call 60
   refine(Ra 4 (Z.news br) l rfl).mono ?_;rintro e w9 ⟨Ab,cb,rfl,b,e⟩;replace Z:=Z.up e;replace Q:=F.out _ Z.off;clear l;refine hK.out _ _ Z.off (fun _=> ?_);clear hK K;refine H0 13 (by kernel_rfl) rfl rfl (fun K hK=> ?_)
   go_simp
   go_at_call 99
   try rw[HW.out.1]
   try rw[HW.out.2]
   refine(M.out _ g _ n (G) (J - 1) Z.2 (by omega) (by have:=E.out;omega) (by have:=E.out;omega) (by omega) (by omega)).mono ?_;intro e W9 h;obtain⟨td,ud,vd,Ad,ld,cd,rfl,V,d,o,Z⟩:=h.at Z br;replace b:=b.dl o (La (by have:=B.out;omega));clear o;replace Q:=F.out _ Z.off;refine hK.out _ _ Z.off (fun _=> ?_);clear hK K;refine H0 14 (by kernel_rfl) rfl rfl (fun K hK=> ?_)
   go_simp
   obtain⟨e,l⟩:=k7 25 b d (Z.news br);replace Z:=Z.up e;replace Q:=F.out _ Z.off;refine hK.out _ _ Z.off (fun _=> ?_);clear hK K;refine H0 15 (by kernel_rfl) rfl rfl (fun K hK=> ?_)
   go_simp
   go_at_call 60
   refine(Ra 5 (Z.news br) l rfl).mono ?_;rintro e bh ⟨Af,cf,rfl,f,e⟩;replace Z:=Z.up e;replace Q:=F.out _ Z.off;clear l;refine hK.out _ _ Z.off (fun _=> ?_);clear hK K;have R:=cbn (Z.br br (by have:=B.out;omega));refine H0 16 (by kernel_rfl) rfl rfl (fun K hK=> ?_)
   go_simp
   refine hK.out _ _ (Z.off.set3 _ _ _) (fun _=> ?_);clear hK K;refine bP (by kernel_rfl) ?_ _;go_wp2_with fail;exact Na (by simp[aQ,results99,go_sem,R]) (NQ.app Pa V) f Y Z B.out (aM _) (by omega) rfl
 have t1:(x==0)=false:=beq_eq_false_iff_ne.2 h0;by_cases h1:x=1
 · subst h1
   have xk:=hdq (And.intro (dR (G+2) ⟨by omega,by omega⟩) (dR (J - 2) ⟨by omega,by omega⟩));go_wp2_with fail;refine Vd H.heap.size (by kernel_rfl) Z fun S e Z=> ?_
   replace Q:=F.out _ Z.off;refine W2 [0,1,2,3,4,5,6] 7 (by kernel_rfl) Z.off (fun _ _ _ _ _ h=> h) ?_
   iterate 7 (refine tk rfl (by rfl) (by intro w X;have Q:=F.out _ X;go_simp;(try with_reducible rfl)) ?_;try simp only[I3])
   refine Zr 7 12 (by kernel_rfl) rfl rfl rfl rfl (fun K hK=> ?_) (fun K hK=> ?_)
   · go_simp
     go_at_call 99
     try rw[xk.out.1]
     try rw[xk.out.2]
     refine(M.out _ g _ (n+2) (G+2) (J - 2) Z.2 (by omega) (by have:=E.out;omega) (by have:=E.out;omega) (by omega) (by omega)).mono ?_;intro e w8 h;obtain⟨ts,us,vs,As,ls,cs,rfl,Ps,s,o,Z⟩:=h.at Z br;clear o;replace Q:=F.out _ Z.off;refine hK.out _ _ Z.off (fun _=> ?_);clear hK K;refine Wo 13 134 #[true,true,true,true,true,true,true,true,true,true,true,true,true,false] 1 [.any,.any,.any,.any,.any,.any,.any,.any,Sp.row (fun b=> H.heap.size < b) [.mk 6 0 [],ts],Sp.tree (fun b=> H.heap.size < b) (.mk 4 0 [.mk 6 0 [],ts]),Sp.row (fun b=> H.heap.size < b) [.mk 6 0 [],.mk 4 0 [.mk 6 0 [],ts]],Sp.tree (fun b=> H.heap.size < b) (.mk 4 0 [.mk 6 0 [],.mk 4 0 [.mk 6 0 [],ts]]),Sp.box w8] [8,9,10,11,12] (fun w h=>(Z.up h).off) (by kernel_rfl) rfl ?st1 ?fi1
     case st1=>
      repeat' first|exact trivial|refine And.intro ⟨_,rfl, ?_⟩ ?_
      all_goals(intro a w z O T j5;refine Ord.step_of rfl rfl ?_;intro K hK)
      · (have f50:=S4 (show a.eval (.tmp 50)= .agg #[.int .i64 6,.int .i64 0,.slice none 0 0] from T 50 (by kernel_rfl));have f56:=S4 (show a.eval (.tmp 56)= .agg #[.int .i64 us,.int .i64 vs,.slice As ls cs] from T 56 (by kernel_rfl));go_simp;obtain⟨e',h⟩:=k7 25 (F5 _ _ 6 0) (s.oldG' O) (Re (Z.news br) O);exact hK _ _ ⟨_,z,rfl,Ma O e',_,2,rfl,aM _,by decide,h⟩)
      · (obtain⟨A8,c8,f8,Fa,g8_2,Fb⟩: ∃A c,a.eval (.tmp 57)= .slice A 2 c/\2<=c/\c<=aU/\InK w (Mz _ z) A [.mk 6 0 [],ts]:=j5 8 57 (by kernel_rfl);replace f8:=S4 f8;go_simp;go_at_call 60;refine(Xm 4 _ _ (Re (Z.news br) O) A8 c8 _ Fb (by simp) Fa (by simp)).mono ?_;rintro e w' ⟨u,rfl,hx,e'⟩;exact hK _ _ ⟨_,z,rfl,Ma O e',hx⟩)
      · (have f49:=S4 (show a.eval (.tmp 49)= .agg #[.int .i64 6,.int .i64 0,.slice none 0 0] from T 49 (by kernel_rfl));have h9:InT w (Mz _ z) (.mk 4 0 [.mk 6 0 [],ts]) (a.eval (.tmp 58)):=j5 9 58 (by kernel_rfl);obtain⟨_,_,_,_,_,f9⟩:=h9.three;rw[f9] at h9;replace f9:=S4 f9;go_simp;obtain⟨e',h⟩:=k7 25 (F5 _ _ 6 0) h9 (Re (Z.news br) O);exact hK _ _ ⟨_,z,rfl,Ma O e',_,2,rfl,aM _,by decide,h⟩)
      · (obtain⟨yc,c10,f10,zx,g10_2,xx⟩: ∃A c,a.eval (.tmp 59)= .slice A 2 c/\2<=c/\c<=aU/\InK w (Mz _ z) A [.mk 6 0 [],.mk 4 0 [.mk 6 0 [],ts]]:=j5 10 59 (by kernel_rfl);replace f10:=S4 f10;go_simp;go_at_call 60;refine(Xm 4 _ _ (Re (Z.news br) O) yc c10 _ xx (by simp) zx (by simp)).mono ?_;rintro e w' ⟨u,rfl,hx,e'⟩;exact hK _ _ ⟨_,z,rfl,Ma O e',hx⟩)
      · (go_simp;exact hK _ _ ⟨_,_,rfl,EG.box O,_,rfl,List.mem_cons_self ..,(show _<=w.heap.size from O.1.size),heap_alloc_new _ _⟩)
     case fi1=>
      intro v w' z O hG;have ht:InT w' (Mz _ z) (.mk 4 0 [.mk 6 0 [],.mk 4 0 [.mk 6 0 [],ts]]) (v 11):=hG 11 (by decide) (by kernel_rfl);obtain⟨a1,a2,a3,a4,a5,D1⟩:=ht.three;rw[D1] at ht;obtain⟨gb,hv2,gz,bl,U⟩: ∃g,v 12= .pointer (some ⟨g,0,none⟩)/\g∈z/\w8.heap.size<=g/\w'.heap[g]? =_:=hG 12 (by decide) (by kernel_rfl);simp only[List.foldl,Ord.dstOf,List.getElem?_toArray,List.getElem?_cons_zero,List.getElem?_cons_succ,Option.bind_some,Act.put,List.setIfInBounds_toArray,List.set_cons_zero,List.set_cons_succ];rw[D1,hv2];replace ht:=(InT.mono (fun b (hb:Mz _ z b)=>(⟨hb.1,fun h=> hb.2 (h▸gz)⟩:(fun b=> H.heap.size < b) b/\b≠gb)) (fun _ _=> rfl) ht).ret (.int .i64 a1) (.int .i64 a2) (.slice a3 a4 a5);have W:H.heap.size < gb/\g < gb/\gb≠g:=by have:=B.out;have:=O1 br;have:=Z.1.size;omega
      have np:=Nat.le_trans Z.1.size bl;replace Z:=Z.up O.1;clear hG O gz D1 hv2;have Zx:=cbn U;refine H0 13 (by kernel_rfl) rfl rfl (fun K hK=> ?_)
      go_simp
      obtain⟨Z,I⟩:=Z.new3 np W.2.1 U (.int .i64 a1) (.int .i64 a2) (.slice a3 a4 a5);refine hK.out _ _ Z.off (fun _=> ?_);clear hK K Zx;generalize cP (cP (cP _ _ _) _ _) _ _=w9 at ht Z I⊢;refine bP (by kernel_rfl) ?_ _;clear U;replace F:=hdq (both (mC F.out Z) (Xl (r:=H.heap.size) (g:=g) I (by omega) (by omega)));replace br:=Z.br br (by have:=B.out;omega);replace Y:=Y.trans Z.1;replace Z:=Z.id;replace Q:=F.out _ Z.off;clear I;go_wp2_with fail;refine Vd H.heap.size (by kernel_rfl) Z fun W9 e Z=> ?_
      replace ht:=ht.later e;replace Q:=F.out _ Z.off;refine W2 [0,1,4,5,6,7,9,10,11,12,13] 7 (by kernel_rfl) Z.off (fun _ _ _ _ _ h=> h) ?_
      iterate 11 (refine tk rfl (by rfl) (by intro w X;have Q:=F.out _ X;go_simp;(try with_reducible rfl)) ?_;try simp only[I3])
      refine H0 2 (by kernel_rfl) rfl rfl (fun K hK=> ?_)
      go_simp
      obtain⟨e,l⟩:=k7 25 ((F5 _ _ 6 0)) ((F5 _ _ 6 0)) (Z.news br);replace Z:=Z.up e;replace ht:=ht.later e;replace Q:=F.out _ Z.off;refine hK.out _ _ Z.off (fun _=> ?_);clear hK K;refine H0 3 (by kernel_rfl) rfl rfl (fun K hK=> ?_)
      go_simp
      go_at_call 60
      refine(Ra 4 (Z.news br) l rfl).mono ?_;rintro e bh ⟨Ap,cp,rfl,p,e⟩;replace Z:=Z.up e;replace ht:=ht.later e;replace Q:=F.out _ Z.off;clear l;refine hK.out _ _ Z.off (fun _=> ?_);clear hK K;refine H0 8 (by kernel_rfl) rfl rfl (fun K hK=> ?_)
      go_simp
      go_at_call 99
      rw[xk.out.2];refine(M.out _ g _ n (G) (J - 2) Z.2 (by omega) (by have:=E.out;omega) (by have:=E.out;omega) (by omega) (by omega)).mono ?_;intro e im h;obtain⟨tc,uc,vc,Ac,lc,cc,rfl,Pc,c,o,Z⟩:=h.at Z br;replace ht:=ht.dl o (La (by have:=B.out;omega));replace p:=p.dl o (La (by have:=B.out;omega));clear o;replace Q:=F.out _ Z.off;refine hK.out _ _ Z.off (fun _=> ?_);clear hK K;refine H0 14 (by kernel_rfl) rfl rfl (fun K hK=> ?_)
      go_simp
      go_at_call 99
      try rw[HW.out.1]
      try rw[HW.out.2]
      refine(M.out _ g _ n (G) (J - 1) Z.2 (by omega) (by have:=E.out;omega) (by have:=E.out;omega) (by omega) (by omega)).mono ?_;intro e wh h;obtain⟨td,ud,vd,Ad,ld,cd,rfl,V,d,o,Z⟩:=h.at Z br;replace ht:=ht.dl o (La (by have:=B.out;omega));replace p:=p.dl o (La (by have:=B.out;omega));replace c:=c.dl o (La (by have:=B.out;omega));clear o;replace Q:=F.out _ Z.off;refine hK.out _ _ Z.off (fun _=> ?_);clear hK K;refine H0 15 (by kernel_rfl) rfl rfl (fun K hK=> ?_)
      go_simp
      obtain⟨e,l⟩:=Hy 25 p c ht d (Z.news br);replace Z:=Z.up e;replace Q:=F.out _ Z.off;refine hK.out _ _ Z.off (fun _=> ?_);clear hK K;refine H0 16 (by kernel_rfl) rfl rfl (fun K hK=> ?_)
      go_simp
      go_at_call 60
      refine(Ra 9 (Z.news br) l rfl).mono ?_;rintro e xa ⟨Af,cf,rfl,f,e⟩;replace Z:=Z.up e;replace Q:=F.out _ Z.off;clear l;refine hK.out _ _ Z.off (fun _=> ?_);clear hK K;have R:=cbn (Z.br br (by have:=B.out;omega));refine H0 17 (by kernel_rfl) rfl rfl (fun K hK=> ?_)
      go_simp
      refine hK.out _ _ (Z.off.set3 _ _ _) (fun _=> ?_);clear hK K;refine bP (by kernel_rfl) ?_ _;go_wp2_with fail;exact Na (by simp[aQ,results99,go_sem,R]) (NQ.elim Pc Ps V) f Y Z B.out (aM _) (by omega) rfl
   · go_simp
     obtain⟨U,e⟩:=nb (w:=S) (o:= .cells #[.int .i64 0,.int .i64 0,.slice none 0 0] 25) rfl;have L:=Z.up e;refine hK.out _ _ L.off (fun _=> ?_);clear hK K;have W:H.heap.size < S.heap.size/\g < S.heap.size/\S.heap.size≠g:=by have:=B.out;have:=O1 br;have:=Z.1.size;omega
     have np:=Z.1.size;generalize aN S _=w8 at U L⊢;generalize S.heap.size=gb at*;have br':=br;replace br:=U;replace Z:=L.id;replace Q:=F.out _ L.off;refine H0 7 (by kernel_rfl) rfl rfl (fun K hK=> ?_)
     go_simp
     go_at_call 99
     try rw[xk.out.1]
     try rw[xk.out.2]
     refine(M.out _ g _ (n+2) (G+2) (J - 2) Z.2 (by omega) (by have:=E.out;omega) (by have:=E.out;omega) (by omega) (by omega)).mono ?_;intro e w9 h;obtain⟨ts,us,vs,As,ls,cs,rfl,Ps,s,o,Z⟩:=h.at Z br;clear o;replace Q:=F.out _ (L.off.trans Z.off);refine hK.out _ _ (L.off.trans Z.off) (fun _=> ?_);clear hK K;refine H0 8 (by kernel_rfl) rfl rfl (fun K hK=> ?_)
     go_simp
     obtain⟨e,l⟩:=k7 25 ((F5 _ _ 6 0)) s (Z.news br);replace Z:=Z.up e;replace Q:=F.out _ (L.off.trans Z.off);refine hK.out _ _ (L.off.trans Z.off) (fun _=> ?_);clear hK K;refine H0 9 (by kernel_rfl) rfl rfl (fun K hK=> ?_)
     go_simp
     go_at_call 60
     refine(Ra 4 (Z.news br) l rfl).mono ?_;rintro e W9 ⟨Aa,ca,rfl,a,e⟩;replace Z:=Z.up e;replace Q:=F.out _ (L.off.trans Z.off);clear l;refine hK.out _ _ (L.off.trans Z.off) (fun _=> ?_);clear hK K;refine H0 10 (by kernel_rfl) rfl rfl (fun K hK=> ?_)
     go_simp
     obtain⟨e,l⟩:=k7 25 ((F5 _ _ 6 0)) a (Z.news br);replace Z:=Z.up e;replace Q:=F.out _ (L.off.trans Z.off);refine hK.out _ _ (L.off.trans Z.off) (fun _=> ?_);clear hK K;refine H0 11 (by kernel_rfl) rfl rfl (fun K hK=> ?_)
     go_simp
     go_at_call 60
     refine(Ra 4 (Z.news br) l rfl).mono ?_;rintro e bh ⟨Ab,cb,rfl,b,e⟩;replace Z:=Z.up e;replace Q:=F.out _ (L.off.trans Z.off);clear l;refine hK.out _ _ (L.off.trans Z.off) (fun _=> ?_);clear hK K;replace U:=Z.br br W.2.2;replace Z:=L.tr Z.1 Z.2;clear br;have br:=br';obtain⟨a1,a2,a3,a4,a5,D1⟩: ∃a1 a2 a3 a4 a5,(Value.agg #[.int .i64 4,.int .i64 0,.slice Ab 2 cb])= .agg #[.int .i64 a1,.int .i64 a2,.slice a3 a4 a5]:=⟨_,_,_,_,_,rfl⟩;rw[D1] at b⊢;clear D1;have ht:=(InT.mono (fun c (hc:gb < c)=>(⟨by omega,by omega⟩:H.heap.size < c/\c≠gb)) (fun _ _=> rfl) b).ret (.int .i64 a1) (.int .i64 a2) (.slice a3 a4 a5);have Zx:=cbn U;refine H0 13 (by kernel_rfl) rfl rfl (fun K hK=> ?_)
     go_simp
     obtain⟨Z,I⟩:=Z.new3 np W.2.1 U (.int .i64 a1) (.int .i64 a2) (.slice a3 a4 a5);refine hK.out _ _ Z.off (fun _=> ?_);clear hK K Zx;generalize cP (cP (cP _ _ _) _ _) _ _=im at ht Z I⊢;refine bP (by kernel_rfl) ?_ _;clear U;replace F:=hdq (both (mC F.out Z) (Xl (r:=H.heap.size) (g:=g) I (by omega) (by omega)));replace br:=Z.br br (by have:=B.out;omega);replace Y:=Y.trans Z.1;replace Z:=Z.id;replace Q:=F.out _ Z.off;clear I;go_wp2_with fail;refine Vd H.heap.size (by kernel_rfl) Z fun wh e Z=> ?_
     replace ht:=ht.later e;replace Q:=F.out _ Z.off;refine W2 [0,1,4,5,6,7,9,10,11,12,13] 7 (by kernel_rfl) Z.off (fun _ _ _ _ _ h=> h) ?_
     iterate 11 (refine tk rfl (by rfl) (by intro w X;have Q:=F.out _ X;go_simp;(try with_reducible rfl)) ?_;try simp only[I3])
     refine H0 2 (by kernel_rfl) rfl rfl (fun K hK=> ?_)
     go_simp
     obtain⟨e,l⟩:=k7 25 ((F5 _ _ 6 0)) ((F5 _ _ 6 0)) (Z.news br);replace Z:=Z.up e;replace ht:=ht.later e;replace Q:=F.out _ Z.off;refine hK.out _ _ Z.off (fun _=> ?_);clear hK K;refine H0 3 (by kernel_rfl) rfl rfl (fun K hK=> ?_)
     go_simp
     go_at_call 60
     refine(Ra 4 (Z.news br) l rfl).mono ?_;rintro e xa ⟨Ap,cp,rfl,p,e⟩;replace Z:=Z.up e;replace ht:=ht.later e;replace Q:=F.out _ Z.off;clear l;refine hK.out _ _ Z.off (fun _=> ?_);clear hK K;refine H0 8 (by kernel_rfl) rfl rfl (fun K hK=> ?_)
     go_simp
     go_at_call 99
     rw[xk.out.2];refine(M.out _ g _ n (G) (J - 2) Z.2 (by omega) (by have:=E.out;omega) (by have:=E.out;omega) (by omega) (by omega)).mono ?_;intro e Gw h;obtain⟨tc,uc,vc,Ac,lc,cc,rfl,Pc,c,o,Z⟩:=h.at Z br;replace ht:=ht.dl o (La (by have:=B.out;omega));replace p:=p.dl o (La (by have:=B.out;omega));clear o;replace Q:=F.out _ Z.off;refine hK.out _ _ Z.off (fun _=> ?_);clear hK K;refine H0 14 (by kernel_rfl) rfl rfl (fun K hK=> ?_)
     go_simp
     go_at_call 99
     try rw[HW.out.1]
     try rw[HW.out.2]
     refine(M.out _ g _ n (G) (J - 1) Z.2 (by omega) (by have:=E.out;omega) (by have:=E.out;omega) (by omega) (by omega)).mono ?_;intro e w16 h;obtain⟨td,ud,vd,Ad,ld,cd,rfl,V,d,o,Z⟩:=h.at Z br;replace ht:=ht.dl o (La (by have:=B.out;omega));replace p:=p.dl o (La (by have:=B.out;omega));replace c:=c.dl o (La (by have:=B.out;omega));clear o;replace Q:=F.out _ Z.off;refine hK.out _ _ Z.off (fun _=> ?_);clear hK K;refine H0 15 (by kernel_rfl) rfl rfl (fun K hK=> ?_)
     go_simp
     obtain⟨e,l⟩:=Hy 25 p c ht d (Z.news br);replace Z:=Z.up e;replace Q:=F.out _ Z.off;refine hK.out _ _ Z.off (fun _=> ?_);clear hK K;refine H0 16 (by kernel_rfl) rfl rfl (fun K hK=> ?_)
     go_simp
     go_at_call 60
     refine(Ra 9 (Z.news br) l rfl).mono ?_;rintro e w17 ⟨Af,cf,rfl,f,e⟩;replace Z:=Z.up e;replace Q:=F.out _ Z.off;clear l;refine hK.out _ _ Z.off (fun _=> ?_);clear hK K;have R:=cbn (Z.br br (by have:=B.out;omega));refine H0 17 (by kernel_rfl) rfl rfl (fun K hK=> ?_)
     go_simp
     refine hK.out _ _ (Z.off.set3 _ _ _) (fun _=> ?_);clear hK K;refine bP (by kernel_rfl) ?_ _;go_wp2_with fail;exact Na (by simp[aQ,results99,go_sem,R]) (NQ.elim Pc Ps V) f Y Z B.out (aM _) (by omega) rfl
 have t2:(x==1)=false:=beq_eq_false_iff_ne.2 h1;by_cases h2:x=2
 · subst h2
   go_wp2_with fail;obtain⟨e,l⟩:=k7 25 ((F5 _ _ 6 0)) ((F5 _ _ 6 0)) (Z.news br);replace Z:=Z.up e;replace Q:=F.out _ Z.off;refine(Ra 13 (Z.news br) l rfl).mono ?_;rintro e S ⟨Aa,ca,rfl,a,e⟩;replace Z:=Z.up e;replace Q:=F.out _ Z.off;clear l;go_wp2_with fail;refine(M.out _ g _ n (G) (J - 1) Z.2 (by omega) (by have:=E.out;omega) (by have:=E.out;omega) (by omega) (by omega)).mono ?_;intro e w8 h;obtain⟨tb,ub,vb,Ab,lb,cb,rfl,Pb,b,o,Z⟩:=h.at Z br;replace a:=a.dl o (La (by have:=B.out;omega));clear o;replace Q:=F.out _ Z.off;go_wp2_with fail;refine(M.out _ g _ n (G) (J - 2) Z.2 (by omega) (by have:=E.out;omega) (by have:=E.out;omega) (by omega) (by omega)).mono ?_;intro e w9 h;obtain⟨td,ud,vd,Ad,ld,cd,rfl,V,d,o,Z⟩:=h.at Z br;replace a:=a.dl o (La (by have:=B.out;omega));replace b:=b.dl o (La (by have:=B.out;omega));clear o;replace Q:=F.out _ Z.off;go_wp2_with fail;obtain⟨e,l⟩:=fg 25 a b d (Z.news br);replace Z:=Z.up e;replace Q:=F.out _ Z.off;refine(Ra 14 (Z.news br) l rfl).mono ?_;rintro e W9 ⟨Af,cf,rfl,f,e⟩;replace Z:=Z.up e;replace Q:=F.out _ Z.off;clear l;go_wp2_with fail;generalize P:aN W9 _=bh;obtain⟨I,e⟩:=nb P;replace F:=hdq (both (mC F.out (Z.up e)) (Xl (r:=H.heap.size) (g:=g) I (by have:=O1 br;have:=Z.1.size;omega) (by have:=O1 br;have:=B.out;have:=Z.1.size;omega)));replace br:=e.blk (Z.br br (by have:=B.out;omega));replace Y:=Y.trans (Z.up e).1;replace Z:=(Z.up e).id;replace f:=f.later e;replace Q:=F.out _ Z.off;clear P I e;refine Vd H.heap.size (by kernel_rfl) Z fun im e Z=> ?_
   replace f:=f.later e;replace Q:=F.out _ Z.off;refine W2 [0,3] 5 (by kernel_rfl) Z.off (fun _ _ _ _ _ h=> h) ?_
   iterate 2 (refine tk rfl (by rfl) (by intro w X;have Q:=F.out _ X;go_simp;(try with_reducible rfl)) ?_;try simp only[I3])
   refine Zr 1 4 (by kernel_rfl) rfl rfl rfl rfl (fun K hK=> ?_) (fun K hK=> ?_)
   · go_simp
     obtain⟨xj,N⟩:=WI (cs:=#[.int .i64 15,.int .i64 16]) 3 [15,16] rfl Z.2;replace Z:=Z.up xj;replace f:=f.later xj;replace Q:=F.out _ Z.off;refine hK.out _ _ Z.off (fun _=> ?_);clear hK K;generalize aN im (.cells #[.int .i64 15,.int .i64 16] 3)=wh at xj Z Q f N⊢;refine Zr 2 4 (by kernel_rfl) rfl rfl rfl rfl (fun K hK=> ?_) (fun K hK=> ?_)
     · go_simp
       go_at_call 100
       refine(Wv N rfl Z.2 (by omega)).mono ?_;rintro e xa ⟨x,rfl,hx,o,R⟩;replace Z:=Z.tr o R;replace f:=f.dl o (La (by have:=B.out;omega));clear o R;replace Q:=F.out _ Z.off;refine hK.out _ _ Z.off (fun _=> ?_);clear hK K;refine H0 4 (by kernel_rfl) rfl rfl (fun K hK=> ?_)
       go_simp
       obtain⟨E14,l⟩:=Tc 25 f (Z.news br);replace Z:=Z.up E14;replace Q:=F.out _ Z.off;refine hK.out _ _ Z.off (fun _=> ?_);clear hK K;generalize aN xa (.cells #[.int .i64 14,.int .i64 0,.slice Af 3 cf] 25)=Gw at E14 Z Q l⊢;refine H0 5 (by kernel_rfl) rfl rfl (fun K hK=> ?_)
       go_simp
       go_at_call 60
       refine(Ra x (Z.news br) l rfl).mono ?_;rintro e w16 ⟨Aj,cj,rfl,j,e⟩;replace Z:=Z.up e;replace Q:=F.out _ Z.off;clear l;refine hK.out _ _ Z.off (fun _=> ?_);clear hK K;have R:=cbn (Z.br br (by have:=B.out;omega));refine H0 6 (by kernel_rfl) rfl rfl (fun K hK=> ?_)
       go_simp
       refine hK.out _ _ (Z.off.set3 _ _ _) (fun _=> ?_);clear hK K;refine bP (by kernel_rfl) ?_ _;go_wp2_with fail;exact Na (by simp[aQ,results99,go_sem,R]) (NQ.part hx Pb V) j Y Z B.out (aM _) (by omega) rfl
     · go_simp
       obtain⟨xn,l⟩:=Tc 25 f (Z.news br);replace Z:=Z.up xn;replace Q:=F.out _ Z.off;refine hK.out _ _ Z.off (fun _=> ?_);clear hK K;replace N:=And.intro (N.1.ext xn) N.2;refine H0 2 (by kernel_rfl) rfl rfl (fun K hK=> ?_)
       go_simp
       go_at_call 100
       refine(Wv N rfl Z.2 (by omega)).mono ?_;rintro e xa ⟨x,rfl,hx,o,R⟩;replace Z:=Z.tr o R;replace l:=l.dl o (La (by have:=B.out;omega));clear o R;replace Q:=F.out _ Z.off;refine hK.out _ _ Z.off (fun _=> ?_);clear hK K;refine H0 5 (by kernel_rfl) rfl rfl (fun K hK=> ?_)
       go_simp
       go_at_call 60
       refine(Ra x (Z.news br) l rfl).mono ?_;rintro e Gw ⟨Aj,cj,rfl,j,e⟩;replace Z:=Z.up e;replace Q:=F.out _ Z.off;clear l;refine hK.out _ _ Z.off (fun _=> ?_);clear hK K;have R:=cbn (Z.br br (by have:=B.out;omega));refine H0 6 (by kernel_rfl) rfl rfl (fun K hK=> ?_)
       go_simp
       refine hK.out _ _ (Z.off.set3 _ _ _) (fun _=> ?_);clear hK K;refine bP (by kernel_rfl) ?_ _;go_wp2_with fail;exact Na (by simp[aQ,results99,go_sem,R]) (NQ.part hx Pb V) j Y Z B.out (aM _) (by omega) rfl
   · go_simp
     obtain⟨xj,l⟩:=Tc 25 f (Z.news br);replace Z:=Z.up xj;replace Q:=F.out _ Z.off;refine hK.out _ _ Z.off (fun _=> ?_);clear hK K;generalize aN im (.cells #[.int .i64 14,.int .i64 0,.slice Af 3 cf] 25)=wh at xj Z Q l⊢;refine H0 1 (by kernel_rfl) rfl rfl (fun K hK=> ?_)
     go_simp
     obtain⟨xn,N⟩:=WI (cs:=#[.int .i64 15,.int .i64 16]) 3 [15,16] rfl Z.2;replace Z:=Z.up xn;replace Q:=F.out _ Z.off;refine hK.out _ _ Z.off (fun _=> ?_);clear hK K;generalize aN wh (.cells #[.int .i64 15,.int .i64 16] 3)=xa at xn Z Q N⊢;replace l:=l.later xn;refine H0 2 (by kernel_rfl) rfl rfl (fun K hK=> ?_)
     go_simp
     go_at_call 100
     refine(Wv N rfl Z.2 (by omega)).mono ?_;rintro e Gw ⟨x,rfl,hx,o,R⟩;replace Z:=Z.tr o R;replace l:=l.dl o (La (by have:=B.out;omega));clear o R;replace Q:=F.out _ Z.off;refine hK.out _ _ Z.off (fun _=> ?_);clear hK K;refine H0 5 (by kernel_rfl) rfl rfl (fun K hK=> ?_)
     go_simp
     go_at_call 60
     refine(Ra x (Z.news br) l rfl).mono ?_;rintro e w16 ⟨Aj,cj,rfl,j,e⟩;replace Z:=Z.up e;replace Q:=F.out _ Z.off;clear l;refine hK.out _ _ Z.off (fun _=> ?_);clear hK K;have R:=cbn (Z.br br (by have:=B.out;omega));refine H0 6 (by kernel_rfl) rfl rfl (fun K hK=> ?_)
     go_simp
     refine hK.out _ _ (Z.off.set3 _ _ _) (fun _=> ?_);clear hK K;refine bP (by kernel_rfl) ?_ _;go_wp2_with fail;exact Na (by simp[aQ,results99,go_sem,R]) (NQ.part hx Pb V) j Y Z B.out (aM _) (by omega) rfl
 have t3:(x==2)=false:=beq_eq_false_iff_ne.2 h2;by_cases h3:x=3
 · subst h3
   go_wp2_with fail;obtain⟨e,l⟩:=k7 25 ((F5 _ _ 6 0)) ((F5 _ _ 6 0)) (Z.news br);replace Z:=Z.up e;replace Q:=F.out _ Z.off;refine(Ra 4 (Z.news br) l rfl).mono ?_;rintro e S ⟨Aa,ca,rfl,a,e⟩;replace Z:=Z.up e;replace Q:=F.out _ Z.off;clear l;go_wp2_with fail;refine(M.out _ g _ n (G) (J - 2) Z.2 (by omega) (by have:=E.out;omega) (by have:=E.out;omega) (by omega) (by omega)).mono ?_;intro e w8 h;obtain⟨tb,ub,vb,Ab,lb,cb,rfl,Pb,b,o,Z⟩:=h.at Z br;replace a:=a.dl o (La (by have:=B.out;omega));clear o;replace Q:=F.out _ Z.off;go_wp2_with fail;obtain⟨e,l⟩:=Tc 25 b (Z.news br);replace Z:=Z.up e;replace a:=a.later e;replace Q:=F.out _ Z.off;refine(Ra 11 (Z.news br) l rfl).mono ?_;rintro e w9 ⟨Ad,cd,rfl,d,e⟩;replace Z:=Z.up e;replace a:=a.later e;replace Q:=F.out _ Z.off;clear l;go_wp2_with fail;refine(M.out _ g _ n (G) (J - 1) Z.2 (by omega) (by have:=E.out;omega) (by have:=E.out;omega) (by omega) (by omega)).mono ?_;intro e W9 h;obtain⟨tj,uj,vj,Aj,lj,cj,rfl,Pj,j,o,Z⟩:=h.at Z br;replace a:=a.dl o (La (by have:=B.out;omega));replace d:=d.dl o (La (by have:=B.out;omega));clear o;replace Q:=F.out _ Z.off;go_wp2_with fail;obtain⟨e,l⟩:=fg 25 a d j (Z.news br);replace Z:=Z.up e;replace Q:=F.out _ Z.off;refine(Ra 12 (Z.news br) l rfl).mono ?_;rintro e bh ⟨Af,cf,rfl,f,e⟩;replace Z:=Z.up e;replace Q:=F.out _ Z.off;clear l;have R:=cbn (Z.br br (by have:=B.out;omega));go_wp2_with fail;exact Na (by simp[aQ,results99,go_sem,R]) (NQ.move Pb Pj) f Y Z B.out (aM _) (by omega) rfl
 have t4:(x==3)=false:=beq_eq_false_iff_ne.2 h3;by_cases h4:x=4
 · subst h4
   go_wp2_with fail;refine(M.out _ g _ n (G) (0) Z.2 (by omega) (by have:=E.out;omega) (by have:=E.out;omega) (by omega) (by omega)).mono ?_;intro e S h;obtain⟨ta,ua,va,Aa,la,ca,rfl,Pa,a,o,Z⟩:=h.at Z br;clear o;replace Q:=F.out _ Z.off;have R:=cbn (Z.br br (by have:=B.out;omega));go_wp2_with fail;exact Na (by simp[aQ,results99,go_sem,R]) (Pa.up) a Y Z B.out (aM _) (by omega) rfl
 have t5:(x==4)=false:=beq_eq_false_iff_ne.2 h4;go_wp2_with fail;refine(M.out _ g _ n (G) (J - 1) Z.2 (by omega) (by have:=E.out;omega) (by have:=E.out;omega) (by omega) (by omega)).mono ?_;intro e S h;obtain⟨ta,ua,va,Aa,la,ca,rfl,Pa,a,o,Z⟩:=h.at Z br;clear o;replace Q:=F.out _ Z.off;go_wp2_with fail;obtain⟨e,l⟩:=Tc 25 a (Z.news br);replace Z:=Z.up e;replace Q:=F.out _ Z.off;refine(Ra 8 (Z.news br) l rfl).mono ?_;rintro e w8 ⟨Ab,cb,rfl,b,e⟩;replace Z:=Z.up e;replace Q:=F.out _ Z.off;clear l;have R:=cbn (Z.br br (by have:=B.out;omega));go_wp2_with fail;exact Na (by simp[aQ,results99,go_sem,R]) (NQ.succ Pa) b Y Z B.out (aM _) (by omega) rfl
theorem Zp:gp 4 1023 20 968:=Qq 4 255 16 320 fun _=> Qq 3 63 12 104 fun _=> Qq 2 15 8 32 fun _=> Qq 1 3 4 8 fun _=> Qq 0 0 0 0 fun h=> absurd h (by decide)
theorem dp:gp 2 63 12 104:=Qq 2 15 8 32 fun _=> Qq 1 3 4 8 fun _=> Qq 0 0 0 0 fun h=> absurd h (by decide)
end Go.Proofs.YtckhbnmfnpolgaaGreat
namespace Go.Proofs.YtckhbnmfnpolgaaGreat
open Go.RowKit
open M (Hd HR Cv Ty M2 zc y6 W4 dep DG fvb)
open M.Tm
def txts:List (List M.Tm×List M.Tm):= [
 ([], [lam (sort 0) (lam (var 0) (var 0)),lam nat (refl (var 0)),lam nat (lam nat (elim (lam nat nat) (var 1) (lam nat (lam nat (succ (var 0)))) (var 0))),pi nat (sort 0),app (lam (sort 0) (lam (var 0) (var 0))) nat,
  lam (sg nat nat) (pair (sg nat nat) (M.Tm.snd (var 0)) (fst (var 0))),lam nat (pair (sg nat (id nat (var 0) (var 1))) (var 0) (refl (var 0))),lam nat (lam nat (lam (id nat (var 1) (var 0)) (M.Tm.move (lam nat (id nat (var 0) (var 3))) (var 0) (refl (var 2))))),
  elim (lam nat (sort 0)) nat (lam nat (lam (sort 0) (pi nat (var 1)))) (succ (succ zero)),pi (sort 0) (pi (var 0) (var 1)),lam (sort 0) (lam (pi (var 0) (var 1)) (var 0)),sort 2]),
 ([pi (var 1) (var 2),var 0,sort 0], [app (var 0) (var 1),refl (var 1),id (var 2) (var 1) (app (var 0) (var 1)),lam (var 2) (var 1),pair (sg (var 2) (var 3)) (var 1) (app (var 0) (var 1)),lam (id (var 2) (var 1) (app (var 0) (var 1))) (M.Tm.move (lam (var 3) (var 4)) (var 0) (var 2))]),
 ([id nat (var 0) (succ zero),nat], [var 0,M.Tm.move (lam nat (id nat (succ (var 2)) (succ (var 0)))) (var 0) (refl (succ (var 1))),succ (var 1),M.Tm.move (lam nat nat) (var 0) (var 1),elim (lam nat nat) zero (lam nat (lam nat (var 1))) (var 1)]),
 ([pi nat (app (var 1) (var 0)),pi nat (sort 0)], [app (var 0) zero,lam nat (app (var 1) (var 0)),app (var 1) (succ (succ zero)),lam nat (lam (id nat (var 0) zero) (M.Tm.move (var 3) (var 0) (app (var 2) (var 1))))]),
 ([id nat (var 2) (var 1),id nat (var 2) (var 1),nat,nat,nat], [var 0,var 1]),
 ([id (var 2) (var 1) (var 0),var 1,var 0,sort 0], [var 0])]
def gD(G:List M.Tm)(t:M.Tm):Bool:=match Uf 30 (ctxE G) (enc t) with
 |some (_,c)=> c==0
 |none=> false
theorem Rt:(txts.all fun p=> p.2.all ac)=true:=by decide+kernel
theorem pv:(txts.all fun p=> p.2.all (gD p.1))=true:=by decide+kernel
theorem Rr:(txts.all fun p=> p.1.all fun A=> decide (dep A<=3))=true:=by decide+kernel
end Go.Proofs.YtckhbnmfnpolgaaGreat
namespace Go.Proofs.YtckhbnmfnpolgaaGreat
open Go.RowKit
attribute [local go_sem ↓] Go.wp_at_zero Go.wp_at_succ
def ccRS(f:Nat):List Tr->List Tr->An
 |_, []=> some (E2,0)
 |done,t::ts=> thn (V0 (M0 f done t) 2) fun _=> ccRS f (done++ [t]) ts
def Ft(f:Nat)(ctx:List Tr):An:=if Xb ctx=true then ccRS f [] ctx else some (E2,3)
theorem My{a:List Tr}{t:Tr}(ht:t∈a)(hv:j0 m0 t=false):Xb a=false:=by
 unfold Xb;rw[Bool.and_eq_false_iff];refine .inr ?_;simp only[Bool.not_eq_false',List.any_eq_true];exact⟨t,ht,by simp[hv]⟩
theorem Hx{a:List Tr}(hv: ∀t∈a,j0 m0 t=true):Xb a=decide ((a.length:Int)<=8):=by
 unfold Xb;have:a.any (fun t=> !j0 m0 t)=false:=by
  simp only[List.any_eq_false];intro t ht;simp[hv t ht]
 simp[this]
 omega
theorem Tz{a:List Tr}(h:Xb a=true):a.length<=8/\ ∀t∈a,j0 m0 t=true:=by
 by_cases hv: ∀t∈a,j0 m0 t=true
 · rw[Hx hv,decide_eq_true_eq] at h
   exact⟨by omega,hv⟩
 · exact⟨by unfold Xb at h;simp at h;exact h.1,fun t ht=> by
    cases e:j0 m0 t
    · rw[My ht e] at h;cases h
    · rfl⟩
theorem TA(c:List Tr)(w:aK)(A:Option Addr)(cap:Nat)(hK:q24 w A c)(hl:c.length<=cap)(hc:cap<=aU):
 aV prog 87 #[.slice A c.length cap] w fun e I=> e= .returned (.bool (Xb c))/\Ext w I:=by
 have k:=hc;unfold aU at k;go_enter func87,ntmps87;go_wp2_with fail
 go_loopw [3] (fun i wr=> ∃j:Nat,j<=c.length/\i= .int .i64 j/\Hid (∀t∈c.take j,j0 m0 t=true)/\Ext w wr) (fun i _=> c.length -(intOf i).toNat)
 case atStart=> exact⟨0,bT _,rfl,hdq (by simp),xr _⟩
 case round=>
  obtain⟨j,K,rfl,a,hx⟩:=hrel;by_cases d:j < c.length
  · obtain⟨b,o,m,l,P,N,j15,rfl,F,H,x,J,M,m1,L,G,y⟩:=hK.get hx d
    have z:(j:Int) <(c.length:Int):=by omega
    have q:=hdq (oi (.mk m l j15) _ _ G);go_wp2_with fail;refine q.out.mono ?_;rintro e O ⟨rfl,s⟩;have p:=hx.trans s;obtain⟨f,g⟩: ∃f,j0 m0 (.mk m l j15)=f:=⟨_,rfl⟩;rw[g];have r:=hdq g;clear g q H x J;cases f with
    |false=>
     go_wp2_with fail;go_ret;exact⟨by rw[My y r.out];rfl,p⟩
    |true=>
     have B:Hid (∀t∈c.take (j+1),j0 m0 t=true):=hdq fun t ht=> by
      rw[gP d,List.mem_append,List.mem_singleton] at ht;rcases ht with ht|rfl
      · exact a.out t ht
      · rw[F.out];exact r.out
     go_wp2_with fail
     go_roundw
     case rel=> exact⟨j+1,by omega,by go_num,B,p⟩
     case measure=> simp[intOf];omega
  · have hv: ∀t∈c,j0 m0 t=true:=by
     have:=a.out
     rwa [List.take_of_length_le (by omega)] at this
    have E:=hdq hv;clear hv a;go_wp2_with fail;go_ret;exact⟨by rw[Hx E.out];rfl,hx⟩
theorem FJ(f:Nat)(a:List Tr)(w:aK)(A:Option Addr)(cap:Nat)(hK:q24 w A a)(hl:a.length<=cap)(hc:cap<=aU)(r:Tr×Int)(h:Ft f a=some r):
 aV prog 88 #[.slice A a.length cap] w fun e w'=> e= .returned (.int .i64 r.2)/\Ext w w':=by
 have s:=hc;unfold aU at s;have Q:=hdq (TA a w A cap hK hl hc);go_enter func88,ntmps88;go_wp2_with fail;refine Q.out.mono ?_;rintro e w1 ⟨rfl,O⟩;obtain⟨z,k⟩: ∃z,Xb a=z:=⟨_,rfl⟩;rw[k];unfold Ft at h;rw[k] at h;clear Q;cases z with
 |false=>
  obtain rfl:r=(E2,3):=by simpa using h.symm
  go_wp2_with fail;go_ret;exact⟨rfl,O⟩
 |true=>
  rw[if_pos rfl] at h;obtain⟨h8,hv⟩:=Tz k;have Y3:=hdq hv;have Z:=hdq h;have U:=hdq hK;clear k hv h;go_wp2_with fail
  go_loopw [3] (fun i wr=> ∃j:Nat,j<=a.length/\i= .int .i64 j/\Hid (ccRS f (a.take j) (a.drop j)=some r)/\Ext w wr) (fun i _=> a.length -(intOf i).toNat)
  case atStart=> exact⟨0,bT _,rfl,Z,O⟩
  case round=>
   obtain⟨i,hi,rfl,HR,hx2⟩:=hrel;by_cases g:i < a.length
   · obtain⟨b,o,k1,n1,A1,p1,j15,rfl,T,I,F,N,l1,m1,R,J,j9⟩:=hK.get hx2 g
     have Y:(i:Int) <(a.length:Int):=by omega
     have U0:(0:Int)<=(i:Int):=by omega
     have V:(i:Int)<=(cap:Int):=by omega
     obtain⟨sA,c,l,B,H⟩:=Xd (by
      have:=HR.out;rw[bX g,ccRS] at this;exact this)
     rw[T.out] at l;have p:=hdq l;have y:=hdq B;have m:=hdq H;have N5:=hdq J;have q:=hdq (fun(W:aK) (P:Ext wr W)=> Tt (Fr f) W AllN (A:=some ⟨b,o,none⟩) (ca:=cap) (G:=a.take i) ⟨fun _ _=> trivial,by simp;omega,hc,(InK.all (U.out.ext (hx2.trans P))).take i,by simp;omega,by simp,fun x hm=> Y3.out x (List.mem_of_mem_take hm)⟩ (.mk k1 n1 j15) _ (InT.all (N5.out.ext P)) _ p.out);rw[show(a.take i).length=i from by simp;omega] at q;clear l B H J R HR;go_wp2_with fail;refine wp_region_held_drew (S:=fun w=> Ext wr w) (by kernel_rfl) (xr wr).drew (fun _=> ?_);refine W2 [0,1,2,3,4,5,6] 6 (by kernel_rfl) (xr wr).drew (fun _ _ _ _ _ h=> h) ?_
     iterate 7 (refine tk rfl (by rfl) (by intro w X;have q0:=X.cell I;have l:=X.cell F;have B:=X.cell N;go_simp;(try with_reducible rfl)) ?_;try simp only[I3])
     refine H0 7 (by kernel_rfl) rfl rfl (fun K hK=> ?_)
     go_simp
     go_at_call 128
     refine(q.out _ (xr wr).drew).mono ?_;rintro e w2 ⟨rfl,e2⟩;have E:=(xr wr).drew.trans e2;refine hK.out _ _ E (fun _=> ?_);clear hK K I F N q;refine W2 [8,9,10,11,12] 0 (by kernel_rfl) E (fun _ _ _ _ _ h=> h) ?_
     iterate 5 (refine tk rfl (by rfl) (by intro w X;go_simp;(try with_reducible rfl)) ?_;try simp only[I3])
     refine bP (by kernel_rfl) ?_ _;have L:=hx2.trans E;by_cases d:c=0
     · subst d
       have M:=hdq (y.out rfl);rw[<-gP g] at M;clear p y m;go_wp2_with fail
       go_roundw
       case rel=> exact⟨i+1,by omega,by go_num,M,L⟩
       case measure=> simp[intOf];omega
     · have t1:(c !=0)=true:=by simp[d]
       have hr:=m.out d;clear p y m d;go_wp2_with fail;go_ret;exact⟨by rw[hr];rfl,L⟩
   · have hr:r=(E2,0):=by
      have:=HR.out;rw[cR (by omega)] at this
      simpa[ccRS] using this.symm
     go_wp2_with fail;go_ret;exact⟨by rw[hr];rfl,hx2⟩
theorem Su(t:Tr)(w:aK)(v:Value)(a:Lies w t v):aV prog 94 #[v] w fun e f=> e= .returned (.bool (!j0 m0 t))/\Ext w f:=by
 have d:=hdq (fun W (c:Ext w W)=> kr t W v (a.ext c));obtain⟨k,n,i⟩:=t;obtain⟨A,cap,rfl,hl,hc,hK⟩:=Lies.mk_iff.1 a;go_enter func94,ntmps94;go_wp2_with fail;refine(d.out _ ((xr w).alloc _)).mono ?_;rintro e g ⟨rfl,b⟩;go_wp2_with fail;go_ret;exact⟨rfl,b.pre⟩
theorem KF(c:List Tr)(w:aK)(A:Option Addr)(cap:Nat)(hl:c.length<=cap)(hc:cap<=aU)(h:q24 w A c):
 aV prog 131 #[.slice A c.length cap,.func (.func 94) #[] #[]] w fun e d=> e= .returned (.int .i64 (pl (fun t=> !j0 m0 t) c 0))/\Ext w d:=by
 obtain⟨p,l⟩: ∃p:Tr->Bool,p=fun t=> !j0 m0 t:=⟨_,rfl⟩
 have hf: ∀t∈c,∀d v,Ext w d->Lies d t v->aV prog 94 #[v] d fun e q=> e= .returned (.bool (p t))/\Ext d q:=fun t _ d v _ hv=> by rw[l];exact Su t d v hv
 rw[<-l];clear l;unfold aU at hc;go_enter func131,ntmps131;go_wp2_with fail
 go_loopw [8] (fun i wr=> ∃j:Nat,j<=c.length/\i= .int .i64 j/\pl p c 0=pl p (c.drop j) j/\Ext w wr) (fun i _=> c.length -(intOf i).toNat)
 case atStart=> exact⟨0,bT _,rfl,rfl,xr _⟩
 case round=>
  obtain⟨j,G,rfl,y,hx⟩:=hrel;have m:=hdq y;clear y;by_cases f:j < c.length
  · obtain⟨b,o,k,n,K,x,kids,rfl,z,L,I,N,H,J,hK,E,B⟩:=h.get hx f
    have a:pl p (c.drop j) j=if p (.mk k n kids)=true then(j:Int) else pl p (c.drop (j+1)) (j+1):=by
     rw[bX f,z.out];conv=> lhs;unfold pl
    have F:=hdq (hf _ B);clear hf;go_wp2_with fail;refine(F.out wr _ hx E).mono ?_;rintro e M ⟨rfl,s⟩;generalize p (.mk k n kids)=r at a;cases r with
    |true=>
     rw[if_pos rfl] at a;have g:=hdq a;clear a;go_wp2_with fail;go_ret;exact⟨by rw[m.out,g.out];rfl,hx.trans s⟩
    |false=>
     rw[if_neg (by decide)] at a;have g:=hdq a;clear a;go_wp2_with fail
     go_roundw
     case rel=> exact⟨j+1,by omega,by go_num,by rw[m.out,g.out],hx.trans s⟩
     case measure=> simp[intOf];omega
  · go_wp2_with fail
    go_ret;exact⟨by rw[m.out,cR (by omega)];rfl,hx⟩
theorem gI(a:List Tr)(w:aK)(A:Option Addr)(cap:Nat)(hl:a.length<=cap)(hc:cap<=aU)(h:q24 w A a):
 aV prog 93 #[.slice A a.length cap,.func (.func 94) #[] #[]] w fun e c=> e= .returned (.bool (a.any (fun t=> !j0 m0 t)))/\Ext w c:=by
 have d:=hdq (KF a w A cap hl hc h);have f:=hdq (NI (fun t=> !j0 m0 t) a 0);go_enter func93,ntmps93;go_wp2_with fail;refine d.out.mono ?_;rintro e g ⟨rfl,b⟩;go_wp2_with fail;go_ret;exact⟨by rw[<-f.out];rfl,b⟩
theorem BA(f:Nat)(a:List Tr)(w:aK)(A:Option Addr)(cap:Nat)(hK:q24 w A a)(hl:a.length<=cap)(hc:cap<=aU)(l:List Tr)(B:Option Addr)(b:Nat)(o:q24 w B l)(i:l.length<=b)(c:b<=aU)(r:Tr×Int)(h:Va f a l=some r):
 aV prog 48 #[.slice A a.length cap,.slice B l.length b] w fun e x=> e= .returned (.int .i64 r.2)/\Ext w x:=by
 obtain⟨q,j,hr⟩: ∃q,Zc f a=some q/\(if l.all (fun t=> j0 m0 t)=true then some q else some (E2,3))=some r:=by
  unfold Va at h;cases e:Zc f a with
  |none=> rw[e] at h;cases h
  |some q=> rw[e] at h;exact⟨q,rfl,h⟩
 have s:=hdq (KH f a w A cap hK hl hc q j);have g:=hdq (fun W (p:Ext w W)=> gI l W B b i c (o.ext p));have k:(l.any fun t=> !j0 m0 t)= !l.all (fun t=> j0 m0 t):=by rw[List.not_all_eq_any_not]
 rw[k] at g;generalize l.all (fun t=> j0 m0 t)=z at hr g;have HR:=hdq hr;clear hr k hK o h j;go_enter func48,ntmps48;go_wp2_with fail;refine s.out.mono ?_;rintro e E ⟨rfl,d⟩;go_wp2_with fail;refine(g.out _ d).mono ?_;rintro e y ⟨rfl,m⟩;cases z with
 |true=>
  have hr:=HR.out;rw[if_pos rfl] at hr;obtain rfl:q=r:=by simpa using hr
  clear HR hr;go_wp2_with fail;go_ret;exact⟨rfl,d.trans m⟩
 |false=>
  have hr:=HR.out;rw[if_neg (by decide)] at hr;obtain rfl:(E2,(3:Int))=r:=by simpa using hr
  clear HR hr;go_wp2_with fail;go_ret;exact⟨rfl,d.trans m⟩
theorem nI{M:aK}{A:Option Addr}{ca:Nat}{G:List Tr}{f:Tr->An}(N:Ce M A ca G f)(g:aK)(hx:Ext M g)(hG:q24 g A G)(t:Tr)(v:Value)(ht:Lies g t v)(hv:j0 m0 t=true)(a:Tr)(K:Value)(E:Lies g a K)(c:Int)(h:Ba (f t) a=some c):aV prog 50 #[.slice A G.length ca,v,K] g fun e w'=> e= .returned (.int .i64 c)/\Ext g w':=by
 obtain⟨k,n,L⟩:=t;obtain⟨At,ct,rfl,hl,l8,hK⟩:=Lies.mk_iff.1 ht;obtain⟨w,p,q⟩:=a;obtain⟨A8,c8,rfl,hl8,hc8,Hm⟩:=Lies.mk_iff.1 E;have HT:=hdq ht;have HW:=hdq E;have HI:=hdq N;have HG:=hdq hG;have HV:=hdq hv;obtain⟨s,d,hs,o⟩: ∃s d,f (.mk k n L)=some (s,d)/\c=if d=0 then V3 s (.mk w p q) else d:=by
  rcases Ys h with⟨s,hs,rfl⟩ |⟨s,hs,hc⟩
  · exact⟨s,0,hs,by rw[if_pos rfl]⟩
  · exact⟨s,c,hs,by rw[if_neg hc]⟩
 have V:=hdq hs;clear h hs ht E N hG hv hK Hm;obtain⟨w1,z⟩: ∃x,x=((g.alloc (.cells #[.int .i64 k,.int .i64 n,.slice At L.length ct] 25)).alloc (.cells #[.int .i64 w,.int .i64 p,.slice A8 q.length c8] 25)):=⟨_,rfl⟩;obtain⟨O,F,s1,l⟩:=box2 z;go_enter func50,ntmps50;go_wp2_with fail;rw[<-z];clear z;refine(HI.out w1 AllN (hx.trans l) (fun _ _=> trivial) (InK.all (HG.out.ext l)) _ _ (InT.all (HT.out.ext l)) HV.out _ V.out).mono ?_;rintro e j ⟨u,rfl,hT,m⟩;have s2:=m.size;simp only at hT⊢;obtain⟨Q,X,W,J,H,rfl⟩:=hT.three;have Y:=hdq hT;clear hT V;by_cases hd:d=0
 case neg=>
  rw[if_neg hd] at o;subst o;have t1:(c !=0)=true:=by simp[hd]
  clear hd;have r:=l;have y:=r.trans m;have i:=m;have T:=cb3 (i.blk O);have U:=cb3 (i.blk F);go_wp2_with fail;go_ret;exact⟨rfl,y.alloc _⟩
 subst hd;rw[if_pos rfl] at o;subst o;have i:=m;have T:=cb3 (i.blk O);have U:=cb3 (i.blk F);obtain⟨B,b⟩: ∃x,x=j.alloc (.cells #[.int .i64 Q,.int .i64 X,.slice W J H] 25):=⟨_,rfl⟩;have R:Ext j B:=b▸(xr j).alloc _;have I:=heap_alloc_new j (.cells #[.int .i64 Q,.int .i64 X,.slice W J H] 25);rw[<-b] at I;have s3:j.heap.size < B.heap.size:=O1 I;go_wp2_with fail;rw[<-b];clear b;clear T U;have r:=l;have y:=r.trans m;have S:=y.trans R;have T5:=R;refine(aE s (.mk w p q) B _ _ (Y.out.lies'.ext T5) (HW.out.ext S)).mono ?_;rintro e w4 ⟨rfl,P⟩;have s4:=P.size;have Z:=S.trans P;go_wp2_with fail;go_ret;exact⟨rfl,Z⟩
