/- Lemmas towards the law. -/
import Derived.Test.YtckhbnmfnpolgaaGreatTBH
open Go renaming World->aN,Calls->aY,results->aS,wpAnyH_done->bO,maxLen->aW
open Go.World renaming alloc->aO,setCell->bT
open Nat renaming le_refl->aP,zero_le->cO
open Go.IntWalk renaming i64_in->eO
open List renaming take_succ_eq_append_getElem->iS,drop_eq_getElem_cons->cP,drop_of_length_le->dM
open Go.Proofs.Tryz
set_option linter.all false
set_option maxHeartbeats 40000000
set_option maxRecDepth 100000
namespace Go.Proofs.YtckhbnmfnpolgaaGreat
open Go Go.RowKit
open M (dep fvb)
attribute [local go_sem ↓] Go.wp_at_zero Go.wp_at_succ
def NQ(n D C:Nat)(t:Tr):Prop:= ∃a,t=enc a/\NC n a/\dep a<=D/\cnt t<=C
section
variable {n D C : Nat} {t u v : Tr}
theorem NQ.up(h:NQ n D C t):NQ n (4+D) (8+3*C) t:=by
 obtain⟨a,rfl,b,c,d⟩:=h;exact⟨a,rfl,b,by omega,by omega⟩
theorem NQ.var{i:Nat}(h:i < n):NQ n (4+D) (8+3*C) (.mk 1 i []):=⟨_,rfl,.var h,by simp only[dep];omega,by simp only[enc,cnt,O1];omega⟩
theorem NQ.zero:NQ n (4+D) (8+3*C) (.mk 7 0 []):=⟨_,rfl,.zero,by simp only[dep];omega,by simp only[enc,cnt,O1];omega⟩
theorem NQ.succ(h:NQ n D C t):NQ n (4+D) (8+3*C) (.mk 8 0 [t]):=by
 obtain⟨a,rfl,b,c,d⟩:=h;exact⟨_,rfl,.succ b,by simp only[dep];omega,by simp only[enc,cnt,O1];omega⟩
theorem NQ.app(h:NQ (n+1) D C t)(k:NQ n D C u):NQ n (4+D) (8+3*C) (.mk 5 0 [.mk 4 0 [.mk 6 0 [],t],u]):=by
 obtain⟨a,rfl,d,e,f⟩:=h;obtain⟨b,rfl,c,i,g⟩:=k;exact⟨_,rfl,.app d c,by simp only[dep];omega,by simp only[enc,cnt,O1];omega⟩
theorem NQ.elim(h:NQ n D C t)(k:NQ (n+2) D C u)(l:NQ n D C v):NQ n (4+D) (8+3*C) (.mk 9 0 [.mk 4 0 [.mk 6 0 [],.mk 6 0 []],t,.mk 4 0 [.mk 6 0 [],.mk 4 0 [.mk 6 0 [],u]],v]):=by
 obtain⟨a,rfl,e,i,j⟩:=h;obtain⟨b,rfl,d,p,o⟩:=k;obtain⟨c,rfl,f,m,g⟩:=l;exact⟨_,rfl,.elim e d f,by simp only[dep];omega,by simp only[enc,cnt,O1];omega⟩
theorem NQ.part{x:Int}(hx:x∈ [(15:Int),16])(h:NQ n D C t)(k:NQ n D C u):NQ n (4+D) (8+3*C) (.mk x 0 [.mk 14 0 [.mk 13 0 [.mk 6 0 [],.mk 6 0 []],t,u]]):=by
 obtain⟨a,rfl,d,e,f⟩:=h;obtain⟨b,rfl,c,i,g⟩:=k;simp only[List.mem_cons,List.not_mem_nil,or_false] at hx;rcases hx with rfl|rfl
 · exact⟨_,rfl,.fst d c,by simp only[dep];omega,by simp only[enc,cnt,O1];omega⟩
 · exact⟨_,rfl,.snd d c,by simp only[dep];omega,by simp only[enc,cnt,O1];omega⟩
theorem NQ.move(h:NQ n D C t)(k:NQ n D C u):NQ n (4+D) (8+3*C) (.mk 12 0 [.mk 4 0 [.mk 6 0 [],.mk 6 0 []],.mk 11 0 [t],u]):=by
 obtain⟨a,rfl,d,e,f⟩:=h;obtain⟨b,rfl,c,i,g⟩:=k;exact⟨_,rfl,.move d c,by simp only[dep];omega,by simp only[enc,cnt,O1];omega⟩
end
def Dn(k q D C:Nat):Prop:= ∀(w:aN) (g m n:Nat) (b a:Int),Rd w g m->m+q < 900000->b=n->n+2*k<=20->a<=k-> -3<=a->aY prog 99 #[.pointer (some ⟨g,0,none⟩),.int .i64 b,.int .i64 a] w (DQ w g (m+q) (NQ n D C))
theorem Su(k q D C:Nat)(ih:1<=k->Dn (k - 1) q D C):Dn k (3+4*q) (4+D) (8+3*C):=by
 intro H g m n G J hR hm hsc hn hk hsz;have B:=hdq hR.lt;have hs0:0<=G/\G+2*k<=20:=by omega
 have E:=hdq hsc;clear hsc hn;go_enter func99,ntmps99;go_wp2_with fail;generalize O:aO H _=w1;obtain⟨br,e⟩:=nb O;have Z:=(St.of hR e).id;have Y:i1 [g] H w1:=oE e;clear O e hR;refine(y15 _ 7 0).mono ?_;rintro e w2 ⟨rfl,e⟩;replace Z:=Z.up e;go_wp2_with fail;generalize O:aO w2 _=w3;obtain⟨I,e⟩:=nb O;have F:=hdq (Yn (r:=H.heap.size) (g:=g) I (by have:=D1 br;have:=Z.1.size;omega) (by have:=D1 br;have:=B.out;have:=Z.1.size;omega));replace br:=e.blk (Z.br br (by have:=B.out;omega));replace Y:=Y.trans (Z.up e).1;replace Z:=(Z.up e).id;have Q:=F.out _ Z.off;clear O I e;refine(y15 _ 6 0).mono ?_;rintro e w4 ⟨rfl,e⟩;replace Z:=Z.up e;replace Q:=F.out _ Z.off;by_cases hl:J < 1
 · have t0:decide (J < 1)=true:=decide_eq_true hl
   by_cases hs:G<=0
   · have t1:decide (0 < G)=false:=decide_eq_false (by omega)
     replace Z:=Z.up ((xr _).alloc (D0 6 0 none 0 0));replace Q:=F.out _ Z.off;have R:=cbn (Z.br br (by have:=B.out;omega));go_wp2_with fail;exact kb (by simp[aS,results99,go_sem,R]) (NQ.zero) (Z5 _ _ 7 0) Y Z B.out (aP _) (by omega) rfl
   · have t1:decide (0 < G)=true:=decide_eq_true (by omega)
     go_wp2_with fail;generalize O:aO w4 _=w5;obtain⟨I,e⟩:=nb O;replace F:=hdq (both (dB F.out (Z.up e)) (Yn (r:=H.heap.size) (g:=g) I (by have:=D1 br;have:=Z.1.size;omega) (by have:=D1 br;have:=B.out;have:=Z.1.size;omega)));replace br:=e.blk (Z.br br (by have:=B.out;omega));replace Y:=Y.trans (Z.up e).1;replace Z:=(Z.up e).id;replace Q:=F.out _ Z.off;clear O I e;refine(Qf _ g _ 2 Z.2 (by omega)).mono ?_;rintro e w6 ⟨x,rfl,hx0,hx1,R,o⟩;replace Z:=Z.tr o R;clear o R;replace Q:=F.out _ Z.off;obtain⟨HC,t⟩ |rfl:=cz x
     · have R:=cbn (Z.br br (by have:=B.out;omega))
       go_wp2_with fail;exact kb (by simp[aS,results99,go_sem,R]) (NQ.zero) (Z5 _ _ 7 0) Y Z B.out (aP _) (by omega) rfl
     go_wp2_with fail;refine(Qf _ g _ G Z.2 (by omega)).mono ?_;rintro e P ⟨y,rfl,hy0,hy1,R,o⟩;replace Z:=Z.tr o R;clear o R;obtain⟨i,rfl⟩:=Int.eq_ofNat_of_zero_le hy0;replace Q:=F.out _ Z.off;go_wp2_with fail;refine(y15 _ 1 i).mono ?_;rintro e V ⟨rfl,e⟩;replace Z:=Z.up e;replace Q:=F.out _ Z.off;have R:=cbn (Z.br br (by have:=B.out;omega));go_wp2_with fail;exact kb (by simp[aS,results99,go_sem,R]) (NQ.var (by have:=E.out;omega)) (Z5 _ _ 1 i) Y Z B.out (aP _) (by omega) rfl
 have t0:decide (J < 1)=false:=decide_eq_false hl;have M:=hdq (ih (by omega));clear ih;have W:=hdq (And.intro (eO (G+1) ⟨by omega,by omega⟩) (eO (J - 1) ⟨by omega,by omega⟩));go_wp2_with fail;generalize O:aO w4 _=w5;obtain⟨I,e⟩:=nb O;replace F:=hdq (both (dB F.out (Z.up e)) (Yn (r:=H.heap.size) (g:=g) I (by have:=D1 br;have:=Z.1.size;omega) (by have:=D1 br;have:=B.out;have:=Z.1.size;omega)));replace br:=e.blk (Z.br br (by have:=B.out;omega));replace Y:=Y.trans (Z.up e).1;replace Z:=(Z.up e).id;replace Q:=F.out _ Z.off;clear O I e;refine(Qf _ g _ 7 Z.2 (by omega)).mono ?_;rintro e w6 ⟨x,rfl,hx0,hx1,R,o⟩;replace Z:=Z.tr o R;clear o R;replace Q:=F.out _ Z.off;by_cases h0:x=0
 · subst h0
   go_wp2_with fail;refine Oe H.heap.size (by kernel_rfl) Z fun P e Z=> ?_
   replace Q:=F.out _ Z.off;refine B3 [0,1,2,3,4,5,9,10,11,12] 7 (by kernel_rfl) Z.off (fun _ _ _ _ _ h=> h) ?_
   iterate 10 (refine tk rfl (by rfl) (by intro w X;have Q:=F.out _ X;go_simp;(try with_reducible rfl)) ?_;try simp only[W2])
   refine H0 6 (by kernel_rfl) rfl rfl (fun K hK=> ?_)
   go_simp
   go_at_call 99
   try rw[W.out.1]
   try rw[W.out.2]
   refine(M.out _ g _ (n+1) (G+1) (J - 1) Z.2 (by omega) (by have:=E.out;omega) (by have:=E.out;omega) (by omega) (by omega)).mono ?_;intro e V h;obtain⟨ta,ua,va,Aa,la,ca,rfl,Pa,a,o,Z⟩:=h.at Z br;clear o;replace Q:=F.out _ Z.off;refine hK.out _ _ Z.off (fun _=> ?_);refine H0 7 (by kernel_rfl) rfl rfl (fun K hK=> ?_)
   go_simp
   obtain⟨e,l⟩:=n7 25 ((Z5 _ _ 6 0)) a (Z.news br);replace Z:=Z.up e;replace Q:=F.out _ Z.off;refine hK.out _ _ Z.off (fun _=> ?_);refine H0 8 (by kernel_rfl) rfl rfl (fun K hK=> ?_)
   go_simp
   go_at_call 60
   refine(db 4 (Z.news br) l rfl).mono ?_;rintro e w9 ⟨Ab,cb,rfl,b,e⟩;replace Z:=Z.up e;replace Q:=F.out _ Z.off;clear l;refine hK.out _ _ Z.off (fun _=> ?_);refine H0 13 (by kernel_rfl) rfl rfl (fun K hK=> ?_)
   go_simp
   go_at_call 99
   try rw[W.out.1]
   try rw[W.out.2]
   refine(M.out _ g _ n (G) (J - 1) Z.2 (by omega) (by have:=E.out;omega) (by have:=E.out;omega) (by omega) (by omega)).mono ?_;intro e S6 h;obtain⟨td,ud,vd,Ad,ld,cd,rfl,T,d,o,Z⟩:=h.at Z br;replace b:=b.dl o (bb (by have:=B.out;omega));clear o;replace Q:=F.out _ Z.off;refine hK.out _ _ Z.off (fun _=> ?_);refine H0 14 (by kernel_rfl) rfl rfl (fun K hK=> ?_)
   go_simp
   obtain⟨e,l⟩:=n7 25 b d (Z.news br);replace Z:=Z.up e;replace Q:=F.out _ Z.off;refine hK.out _ _ Z.off (fun _=> ?_);refine H0 15 (by kernel_rfl) rfl rfl (fun K hK=> ?_)
   go_simp
   go_at_call 60
   refine(db 5 (Z.news br) l rfl).mono ?_;rintro e Y4 ⟨Af,cf,rfl,f,e⟩;replace Z:=Z.up e;replace Q:=F.out _ Z.off;clear l;refine hK.out _ _ Z.off (fun _=> ?_);have R:=cbn (Z.br br (by have:=B.out;omega));refine H0 16 (by kernel_rfl) rfl rfl (fun K hK=> ?_)
   go_simp
   refine hK.out _ _ (Z.off.set3 _ _ _) (fun _=> ?_);refine bO (by kernel_rfl) ?_ _;go_wp2_with fail;exact kb (by simp[aS,results99,go_sem,R]) (NQ.app Pa T) f Y Z B.out (aP _) (by omega) rfl
 have t1:(x==0)=false:=beq_eq_false_iff_ne.2 h0;by_cases h1:x=1
 · subst h1
   have zh:=hdq (And.intro (eO (G+2) ⟨by omega,by omega⟩) (eO (J - 2) ⟨by omega,by omega⟩));go_wp2_with fail;refine Oe H.heap.size (by kernel_rfl) Z fun P e Z=> ?_
   replace Q:=F.out _ Z.off;refine B3 [0,1,2,3,4,5,6] 7 (by kernel_rfl) Z.off (fun _ _ _ _ _ h=> h) ?_
   iterate 7 (refine tk rfl (by rfl) (by intro w X;have Q:=F.out _ X;go_simp;(try with_reducible rfl)) ?_;try simp only[W2])
   refine Cy 7 12 (by kernel_rfl) rfl rfl rfl rfl (fun K hK=> ?_) (fun K hK=> ?_)
   · go_simp
     go_at_call 99
     try rw[zh.out.1]
     try rw[zh.out.2]
     refine(M.out _ g _ (n+2) (G+2) (J - 2) Z.2 (by omega) (by have:=E.out;omega) (by have:=E.out;omega) (by omega) (by omega)).mono ?_;intro e V h;obtain⟨ts,us,vs,As,ls,cs,rfl,Ps,s,o,Z⟩:=h.at Z br;clear o;replace Q:=F.out _ Z.off;refine hK.out _ _ Z.off (fun _=> ?_);refine Ci 13 134 #[true,true,true,true,true,true,true,true,true,true,true,true,true,false] 1 [.any,.any,.any,.any,.any,.any,.any,.any,Sp.row (fun b=> H.heap.size < b) [.mk 6 0 [],ts],Sp.tree (fun b=> H.heap.size < b) (.mk 4 0 [.mk 6 0 [],ts]),Sp.row (fun b=> H.heap.size < b) [.mk 6 0 [],.mk 4 0 [.mk 6 0 [],ts]],Sp.tree (fun b=> H.heap.size < b) (.mk 4 0 [.mk 6 0 [],.mk 4 0 [.mk 6 0 [],ts]]),Sp.box V] [8,9,10,11,12] (fun w h=>(Z.up h).off) (by kernel_rfl) rfl ?st1 ?fi1
     case st1=>
      repeat' first|exact trivial|refine And.intro ⟨_,rfl, ?_⟩ ?_
      all_goals(intro a w z hE S i6;refine Ord.step_of rfl rfl ?_;intro K hK)
      · (have f50:=v4 (show a.eval (.tmp 50)= m0 6 0 none 0 0 from S 50 (by kernel_rfl));have f56:=v4 (show a.eval (.tmp 56)= m0 us vs As ls cs from S 56 (by kernel_rfl));go_simp;obtain⟨e',h⟩:=n7 25 (Z5 _ _ 6 0) (s.oldG' hE) (Mc (Z.news br) hE);exact hK _ _ ⟨_,z,rfl,E9 hE e',_,2,rfl,aP _,by decide,h⟩)
      · (obtain⟨A8,c8,f8,nz,zx,nh⟩: ∃A c,a.eval (.tmp 57)= .slice A 2 c/\2<=c/\c<=aW/\InK w (Mz _ z) A [.mk 6 0 [],ts]:=i6 8 57 (by kernel_rfl);replace f8:=v4 f8;go_simp;go_at_call 60;refine(Xt 4 _ _ (Mc (Z.news br) hE) A8 c8 _ nh (by simp) nz (by simp)).mono ?_;rintro e w' ⟨u,rfl,hx,e'⟩;exact hK _ _ ⟨_,z,rfl,E9 hE e',hx⟩)
      · (have f49:=v4 (show a.eval (.tmp 49)= m0 6 0 none 0 0 from S 49 (by kernel_rfl));have h9:InT w (Mz _ z) (.mk 4 0 [.mk 6 0 [],ts]) (a.eval (.tmp 58)):=i6 9 58 (by kernel_rfl);obtain⟨_,_,_,_,_,f9⟩:=h9.three;rw[f9] at h9;replace f9:=v4 f9;go_simp;obtain⟨e',h⟩:=n7 25 (Z5 _ _ 6 0) h9 (Mc (Z.news br) hE);exact hK _ _ ⟨_,z,rfl,E9 hE e',_,2,rfl,aP _,by decide,h⟩)
      · (obtain⟨Ck,c10,f10,Cn,g10_2,Av⟩: ∃A c,a.eval (.tmp 59)= .slice A 2 c/\2<=c/\c<=aW/\InK w (Mz _ z) A [.mk 6 0 [],.mk 4 0 [.mk 6 0 [],ts]]:=i6 10 59 (by kernel_rfl);replace f10:=v4 f10;go_simp;go_at_call 60;refine(Xt 4 _ _ (Mc (Z.news br) hE) Ck c10 _ Av (by simp) Cn (by simp)).mono ?_;rintro e w' ⟨u,rfl,hx,e'⟩;exact hK _ _ ⟨_,z,rfl,E9 hE e',hx⟩)
      · (go_simp;exact hK _ _ ⟨_,_,rfl,EG.box hE,_,rfl,List.mem_cons_self ..,(show _<=w.heap.size from hE.1.size),heap_alloc_new _ _⟩)
     case fi1=>
      intro v w' z hE hG;have ht:InT w' (Mz _ z) (.mk 4 0 [.mk 6 0 [],.mk 4 0 [.mk 6 0 [],ts]]) (v 11):=hG 11 (by decide) (by kernel_rfl);obtain⟨a1,a2,a3,a4,a5,B8⟩:=ht.three;rw[B8] at ht;obtain⟨gb,hv2,gz,bl,bx⟩: ∃g,v 12= O2 g/\g∈z/\V.heap.size<=g/\w'.heap[g]? =_:=hG 12 (by decide) (by kernel_rfl);simp only[List.foldl,Ord.dstOf,List.getElem?_toArray,List.getElem?_cons_zero,List.getElem?_cons_succ,Option.bind_some,Act.put,List.setIfInBounds_toArray,List.set_cons_zero,List.set_cons_succ];rw[B8,hv2];replace ht:=(InT.mono (fun b (hb:Mz _ z b)=>(⟨hb.1,fun h=> hb.2 (h▸gz)⟩:(fun b=> H.heap.size < b) b/\b≠gb)) (fun _ _=> rfl) ht).ret (j0 a1) (j0 a2) (.slice a3 a4 a5);have U:H.heap.size < gb/\g < gb/\gb≠g:=by have:=B.out;have:=D1 br;have:=Z.1.size;omega
      have se:=Nat.le_trans Z.1.size bl;replace Z:=Z.up hE.1;clear hG hE gz B8 hv2;have Zx:=cbn bx;refine H0 13 (by kernel_rfl) rfl rfl (fun K hK=> ?_)
      go_simp
      obtain⟨Z,I⟩:=Z.new3 se U.2.1 bx (j0 a1) (j0 a2) (.slice a3 a4 a5);refine hK.out _ _ Z.off (fun _=> ?_);clear hK K Zx;generalize bT (bT (bT _ _ _) _ _) _ _=w9 at ht Z I⊢;refine bO (by kernel_rfl) ?_ _;clear bx;replace F:=hdq (both (dB F.out Z) (Yn (r:=H.heap.size) (g:=g) I (by omega) (by omega)));replace br:=Z.br br (by have:=B.out;omega);replace Y:=Y.trans Z.1;replace Z:=Z.id;replace Q:=F.out _ Z.off;clear I;go_wp2_with fail;refine Oe H.heap.size (by kernel_rfl) Z fun S6 e Z=> ?_
      replace ht:=ht.later e;replace Q:=F.out _ Z.off;refine B3 [0,1,4,5,6,7,9,10,11,12,13] 7 (by kernel_rfl) Z.off (fun _ _ _ _ _ h=> h) ?_
      iterate 11 (refine tk rfl (by rfl) (by intro w X;have Q:=F.out _ X;go_simp;(try with_reducible rfl)) ?_;try simp only[W2])
      refine H0 2 (by kernel_rfl) rfl rfl (fun K hK=> ?_)
      go_simp
      obtain⟨e,l⟩:=n7 25 ((Z5 _ _ 6 0)) ((Z5 _ _ 6 0)) (Z.news br);replace Z:=Z.up e;replace ht:=ht.later e;replace Q:=F.out _ Z.off;refine hK.out _ _ Z.off (fun _=> ?_);refine H0 3 (by kernel_rfl) rfl rfl (fun K hK=> ?_)
      go_simp
      go_at_call 60
      refine(db 4 (Z.news br) l rfl).mono ?_;rintro e Y4 ⟨Ap,cp,rfl,p,e⟩;replace Z:=Z.up e;replace ht:=ht.later e;replace Q:=F.out _ Z.off;clear l;refine hK.out _ _ Z.off (fun _=> ?_);refine H0 8 (by kernel_rfl) rfl rfl (fun K hK=> ?_)
      go_simp
      go_at_call 99
      rw[zh.out.2];refine(M.out _ g _ n (G) (J - 2) Z.2 (by omega) (by have:=E.out;omega) (by have:=E.out;omega) (by omega) (by omega)).mono ?_;intro e ki h;obtain⟨tc,uc,vc,Ac,lc,cc,rfl,Pc,c,o,Z⟩:=h.at Z br;replace ht:=ht.dl o (bb (by have:=B.out;omega));replace p:=p.dl o (bb (by have:=B.out;omega));clear o;replace Q:=F.out _ Z.off;refine hK.out _ _ Z.off (fun _=> ?_);refine H0 14 (by kernel_rfl) rfl rfl (fun K hK=> ?_)
      go_simp
      go_at_call 99
      try rw[W.out.1]
      try rw[W.out.2]
      refine(M.out _ g _ n (G) (J - 1) Z.2 (by omega) (by have:=E.out;omega) (by have:=E.out;omega) (by omega) (by omega)).mono ?_;intro e si h;obtain⟨td,ud,vd,Ad,ld,cd,rfl,T,d,o,Z⟩:=h.at Z br;replace ht:=ht.dl o (bb (by have:=B.out;omega));replace p:=p.dl o (bb (by have:=B.out;omega));replace c:=c.dl o (bb (by have:=B.out;omega));clear o;replace Q:=F.out _ Z.off;refine hK.out _ _ Z.off (fun _=> ?_);refine H0 15 (by kernel_rfl) rfl rfl (fun K hK=> ?_)
      go_simp
      obtain⟨e,l⟩:=SA 25 p c ht d (Z.news br);replace Z:=Z.up e;replace Q:=F.out _ Z.off;refine hK.out _ _ Z.off (fun _=> ?_);refine H0 16 (by kernel_rfl) rfl rfl (fun K hK=> ?_)
      go_simp
      go_at_call 60
      refine(db 9 (Z.news br) l rfl).mono ?_;rintro e yf ⟨Af,cf,rfl,f,e⟩;replace Z:=Z.up e;replace Q:=F.out _ Z.off;clear l;refine hK.out _ _ Z.off (fun _=> ?_);have R:=cbn (Z.br br (by have:=B.out;omega));refine H0 17 (by kernel_rfl) rfl rfl (fun K hK=> ?_)
      go_simp
      refine hK.out _ _ (Z.off.set3 _ _ _) (fun _=> ?_);refine bO (by kernel_rfl) ?_ _;go_wp2_with fail;exact kb (by simp[aS,results99,go_sem,R]) (NQ.elim Pc Ps T) f Y Z B.out (aP _) (by omega) rfl
   · go_simp
     obtain⟨bx,e⟩:=nb (w:=P) (o:= D0 0 0 none 0 0) rfl;have L:=Z.up e;refine hK.out _ _ L.off (fun _=> ?_);have U:H.heap.size < P.heap.size/\g < P.heap.size/\P.heap.size≠g:=by have:=B.out;have:=D1 br;have:=Z.1.size;omega
     have se:=Z.1.size;generalize aO P _=V at bx L⊢;generalize P.heap.size=gb at*;have br':=br;replace br:=bx;replace Z:=L.id;replace Q:=F.out _ L.off;refine H0 7 (by kernel_rfl) rfl rfl (fun K hK=> ?_)
     go_simp
     go_at_call 99
     try rw[zh.out.1]
     try rw[zh.out.2]
     refine(M.out _ g _ (n+2) (G+2) (J - 2) Z.2 (by omega) (by have:=E.out;omega) (by have:=E.out;omega) (by omega) (by omega)).mono ?_;intro e w9 h;obtain⟨ts,us,vs,As,ls,cs,rfl,Ps,s,o,Z⟩:=h.at Z br;clear o;replace Q:=F.out _ (L.off.trans Z.off);refine hK.out _ _ (L.off.trans Z.off) (fun _=> ?_);refine H0 8 (by kernel_rfl) rfl rfl (fun K hK=> ?_)
     go_simp
     obtain⟨e,l⟩:=n7 25 ((Z5 _ _ 6 0)) s (Z.news br);replace Z:=Z.up e;replace Q:=F.out _ (L.off.trans Z.off);refine hK.out _ _ (L.off.trans Z.off) (fun _=> ?_);refine H0 9 (by kernel_rfl) rfl rfl (fun K hK=> ?_)
     go_simp
     go_at_call 60
     refine(db 4 (Z.news br) l rfl).mono ?_;rintro e S6 ⟨Aa,ca,rfl,a,e⟩;replace Z:=Z.up e;replace Q:=F.out _ (L.off.trans Z.off);clear l;refine hK.out _ _ (L.off.trans Z.off) (fun _=> ?_);refine H0 10 (by kernel_rfl) rfl rfl (fun K hK=> ?_)
     go_simp
     obtain⟨e,l⟩:=n7 25 ((Z5 _ _ 6 0)) a (Z.news br);replace Z:=Z.up e;replace Q:=F.out _ (L.off.trans Z.off);refine hK.out _ _ (L.off.trans Z.off) (fun _=> ?_);refine H0 11 (by kernel_rfl) rfl rfl (fun K hK=> ?_)
     go_simp
     go_at_call 60
     refine(db 4 (Z.news br) l rfl).mono ?_;rintro e Y4 ⟨Ab,cb,rfl,b,e⟩;replace Z:=Z.up e;replace Q:=F.out _ (L.off.trans Z.off);clear l;refine hK.out _ _ (L.off.trans Z.off) (fun _=> ?_);replace bx:=Z.br br U.2.2;replace Z:=L.tr Z.1 Z.2;clear br;have br:=br';obtain⟨a1,a2,a3,a4,a5,B8⟩: ∃a1 a2 a3 a4 a5,(m0 4 0 Ab 2 cb)= m0 a1 a2 a3 a4 a5:=⟨_,_,_,_,_,rfl⟩;rw[B8] at b⊢;clear B8;have ht:=(InT.mono (fun c (hc:gb < c)=>(⟨by omega,by omega⟩:H.heap.size < c/\c≠gb)) (fun _ _=> rfl) b).ret (j0 a1) (j0 a2) (.slice a3 a4 a5);have Zx:=cbn bx;refine H0 13 (by kernel_rfl) rfl rfl (fun K hK=> ?_)
     go_simp
     obtain⟨Z,I⟩:=Z.new3 se U.2.1 bx (j0 a1) (j0 a2) (.slice a3 a4 a5);refine hK.out _ _ Z.off (fun _=> ?_);clear hK K Zx;generalize bT (bT (bT _ _ _) _ _) _ _=ki at ht Z I⊢;refine bO (by kernel_rfl) ?_ _;clear bx;replace F:=hdq (both (dB F.out Z) (Yn (r:=H.heap.size) (g:=g) I (by omega) (by omega)));replace br:=Z.br br (by have:=B.out;omega);replace Y:=Y.trans Z.1;replace Z:=Z.id;replace Q:=F.out _ Z.off;clear I;go_wp2_with fail;refine Oe H.heap.size (by kernel_rfl) Z fun si e Z=> ?_
     replace ht:=ht.later e;replace Q:=F.out _ Z.off;refine B3 [0,1,4,5,6,7,9,10,11,12,13] 7 (by kernel_rfl) Z.off (fun _ _ _ _ _ h=> h) ?_
     iterate 11 (refine tk rfl (by rfl) (by intro w X;have Q:=F.out _ X;go_simp;(try with_reducible rfl)) ?_;try simp only[W2])
     refine H0 2 (by kernel_rfl) rfl rfl (fun K hK=> ?_)
     go_simp
     obtain⟨e,l⟩:=n7 25 ((Z5 _ _ 6 0)) ((Z5 _ _ 6 0)) (Z.news br);replace Z:=Z.up e;replace ht:=ht.later e;replace Q:=F.out _ Z.off;refine hK.out _ _ Z.off (fun _=> ?_);refine H0 3 (by kernel_rfl) rfl rfl (fun K hK=> ?_)
     go_simp
     go_at_call 60
     refine(db 4 (Z.news br) l rfl).mono ?_;rintro e yf ⟨Ap,cp,rfl,p,e⟩;replace Z:=Z.up e;replace ht:=ht.later e;replace Q:=F.out _ Z.off;clear l;refine hK.out _ _ Z.off (fun _=> ?_);refine H0 8 (by kernel_rfl) rfl rfl (fun K hK=> ?_)
     go_simp
     go_at_call 99
     rw[zh.out.2];refine(M.out _ g _ n (G) (J - 2) Z.2 (by omega) (by have:=E.out;omega) (by have:=E.out;omega) (by omega) (by omega)).mono ?_;intro e Mt h;obtain⟨tc,uc,vc,Ac,lc,cc,rfl,Pc,c,o,Z⟩:=h.at Z br;replace ht:=ht.dl o (bb (by have:=B.out;omega));replace p:=p.dl o (bb (by have:=B.out;omega));clear o;replace Q:=F.out _ Z.off;refine hK.out _ _ Z.off (fun _=> ?_);refine H0 14 (by kernel_rfl) rfl rfl (fun K hK=> ?_)
     go_simp
     go_at_call 99
     try rw[W.out.1]
     try rw[W.out.2]
     refine(M.out _ g _ n (G) (J - 1) Z.2 (by omega) (by have:=E.out;omega) (by have:=E.out;omega) (by omega) (by omega)).mono ?_;intro e w16 h;obtain⟨td,ud,vd,Ad,ld,cd,rfl,T,d,o,Z⟩:=h.at Z br;replace ht:=ht.dl o (bb (by have:=B.out;omega));replace p:=p.dl o (bb (by have:=B.out;omega));replace c:=c.dl o (bb (by have:=B.out;omega));clear o;replace Q:=F.out _ Z.off;refine hK.out _ _ Z.off (fun _=> ?_);refine H0 15 (by kernel_rfl) rfl rfl (fun K hK=> ?_)
     go_simp
     obtain⟨e,l⟩:=SA 25 p c ht d (Z.news br);replace Z:=Z.up e;replace Q:=F.out _ Z.off;refine hK.out _ _ Z.off (fun _=> ?_);refine H0 16 (by kernel_rfl) rfl rfl (fun K hK=> ?_)
     go_simp
     go_at_call 60
     refine(db 9 (Z.news br) l rfl).mono ?_;rintro e w17 ⟨Af,cf,rfl,f,e⟩;replace Z:=Z.up e;replace Q:=F.out _ Z.off;clear l;refine hK.out _ _ Z.off (fun _=> ?_);have R:=cbn (Z.br br (by have:=B.out;omega));refine H0 17 (by kernel_rfl) rfl rfl (fun K hK=> ?_)
     go_simp
     refine hK.out _ _ (Z.off.set3 _ _ _) (fun _=> ?_);refine bO (by kernel_rfl) ?_ _;go_wp2_with fail;exact kb (by simp[aS,results99,go_sem,R]) (NQ.elim Pc Ps T) f Y Z B.out (aP _) (by omega) rfl
 have t2:(x==1)=false:=beq_eq_false_iff_ne.2 h1;by_cases h2:x=2
 · subst h2
   go_wp2_with fail;obtain⟨e,l⟩:=n7 25 ((Z5 _ _ 6 0)) ((Z5 _ _ 6 0)) (Z.news br);replace Z:=Z.up e;replace Q:=F.out _ Z.off;refine(db 13 (Z.news br) l rfl).mono ?_;rintro e P ⟨Aa,ca,rfl,a,e⟩;replace Z:=Z.up e;replace Q:=F.out _ Z.off;clear l;go_wp2_with fail;refine(M.out _ g _ n (G) (J - 1) Z.2 (by omega) (by have:=E.out;omega) (by have:=E.out;omega) (by omega) (by omega)).mono ?_;intro e V h;obtain⟨tb,ub,vb,Ab,lb,cb,rfl,Pb,b,o,Z⟩:=h.at Z br;replace a:=a.dl o (bb (by have:=B.out;omega));clear o;replace Q:=F.out _ Z.off;go_wp2_with fail;refine(M.out _ g _ n (G) (J - 2) Z.2 (by omega) (by have:=E.out;omega) (by have:=E.out;omega) (by omega) (by omega)).mono ?_;intro e w9 h;obtain⟨td,ud,vd,Ad,ld,cd,rfl,T,d,o,Z⟩:=h.at Z br;replace a:=a.dl o (bb (by have:=B.out;omega));replace b:=b.dl o (bb (by have:=B.out;omega));clear o;replace Q:=F.out _ Z.off;go_wp2_with fail;obtain⟨e,l⟩:=Zc 25 a b d (Z.news br);replace Z:=Z.up e;replace Q:=F.out _ Z.off;refine(db 14 (Z.news br) l rfl).mono ?_;rintro e S6 ⟨Af,cf,rfl,f,e⟩;replace Z:=Z.up e;replace Q:=F.out _ Z.off;clear l;go_wp2_with fail;generalize O:aO S6 _=Y4;obtain⟨I,e⟩:=nb O;replace F:=hdq (both (dB F.out (Z.up e)) (Yn (r:=H.heap.size) (g:=g) I (by have:=D1 br;have:=Z.1.size;omega) (by have:=D1 br;have:=B.out;have:=Z.1.size;omega)));replace br:=e.blk (Z.br br (by have:=B.out;omega));replace Y:=Y.trans (Z.up e).1;replace Z:=(Z.up e).id;replace f:=f.later e;replace Q:=F.out _ Z.off;clear O I e;refine Oe H.heap.size (by kernel_rfl) Z fun ki e Z=> ?_
   replace f:=f.later e;replace Q:=F.out _ Z.off;refine B3 [0,3] 5 (by kernel_rfl) Z.off (fun _ _ _ _ _ h=> h) ?_
   iterate 2 (refine tk rfl (by rfl) (by intro w X;have Q:=F.out _ X;go_simp;(try with_reducible rfl)) ?_;try simp only[W2])
   refine Cy 1 4 (by kernel_rfl) rfl rfl rfl rfl (fun K hK=> ?_) (fun K hK=> ?_)
   · go_simp
     obtain⟨zu,N⟩:=VK (cs:=#[j0 15,j0 16]) 3 [15,16] rfl Z.2;replace Z:=Z.up zu;replace f:=f.later zu;replace Q:=F.out _ Z.off;refine hK.out _ _ Z.off (fun _=> ?_);generalize aO ki (.cells #[j0 15,j0 16] 3)=si at zu Z Q f N⊢;refine Cy 2 4 (by kernel_rfl) rfl rfl rfl rfl (fun K hK=> ?_) (fun K hK=> ?_)
     · go_simp
       go_at_call 100
       refine(Qw N rfl Z.2 (by omega)).mono ?_;rintro e yf ⟨x,rfl,hx,o,R⟩;replace Z:=Z.tr o R;replace f:=f.dl o (bb (by have:=B.out;omega));clear o R;replace Q:=F.out _ Z.off;refine hK.out _ _ Z.off (fun _=> ?_);refine H0 4 (by kernel_rfl) rfl rfl (fun K hK=> ?_)
       go_simp
       obtain⟨E14,l⟩:=Cd 25 f (Z.news br);replace Z:=Z.up E14;replace Q:=F.out _ Z.off;refine hK.out _ _ Z.off (fun _=> ?_);generalize aO yf (D0 14 0 Af 3 cf)=Mt at E14 Z Q l⊢;refine H0 5 (by kernel_rfl) rfl rfl (fun K hK=> ?_)
       go_simp
       go_at_call 60
       refine(db x (Z.news br) l rfl).mono ?_;rintro e w16 ⟨Aj,cj,rfl,j,e⟩;replace Z:=Z.up e;replace Q:=F.out _ Z.off;clear l;refine hK.out _ _ Z.off (fun _=> ?_);have R:=cbn (Z.br br (by have:=B.out;omega));refine H0 6 (by kernel_rfl) rfl rfl (fun K hK=> ?_)
       go_simp
       refine hK.out _ _ (Z.off.set3 _ _ _) (fun _=> ?_);refine bO (by kernel_rfl) ?_ _;go_wp2_with fail;exact kb (by simp[aS,results99,go_sem,R]) (NQ.part hx Pb T) j Y Z B.out (aP _) (by omega) rfl
     · go_simp
       obtain⟨zt,l⟩:=Cd 25 f (Z.news br);replace Z:=Z.up zt;replace Q:=F.out _ Z.off;refine hK.out _ _ Z.off (fun _=> ?_);replace N:=And.intro (N.1.ext zt) N.2;refine H0 2 (by kernel_rfl) rfl rfl (fun K hK=> ?_)
       go_simp
       go_at_call 100
       refine(Qw N rfl Z.2 (by omega)).mono ?_;rintro e yf ⟨x,rfl,hx,o,R⟩;replace Z:=Z.tr o R;replace l:=l.dl o (bb (by have:=B.out;omega));clear o R;replace Q:=F.out _ Z.off;refine hK.out _ _ Z.off (fun _=> ?_);refine H0 5 (by kernel_rfl) rfl rfl (fun K hK=> ?_)
       go_simp
       go_at_call 60
       refine(db x (Z.news br) l rfl).mono ?_;rintro e Mt ⟨Aj,cj,rfl,j,e⟩;replace Z:=Z.up e;replace Q:=F.out _ Z.off;clear l;refine hK.out _ _ Z.off (fun _=> ?_);have R:=cbn (Z.br br (by have:=B.out;omega));refine H0 6 (by kernel_rfl) rfl rfl (fun K hK=> ?_)
       go_simp
       refine hK.out _ _ (Z.off.set3 _ _ _) (fun _=> ?_);refine bO (by kernel_rfl) ?_ _;go_wp2_with fail;exact kb (by simp[aS,results99,go_sem,R]) (NQ.part hx Pb T) j Y Z B.out (aP _) (by omega) rfl
   · go_simp
     obtain⟨zu,l⟩:=Cd 25 f (Z.news br);replace Z:=Z.up zu;replace Q:=F.out _ Z.off;refine hK.out _ _ Z.off (fun _=> ?_);generalize aO ki (D0 14 0 Af 3 cf)=si at zu Z Q l⊢;refine H0 1 (by kernel_rfl) rfl rfl (fun K hK=> ?_)
     go_simp
     obtain⟨zt,N⟩:=VK (cs:=#[j0 15,j0 16]) 3 [15,16] rfl Z.2;replace Z:=Z.up zt;replace Q:=F.out _ Z.off;refine hK.out _ _ Z.off (fun _=> ?_);generalize aO si (.cells #[j0 15,j0 16] 3)=yf at zt Z Q N⊢;replace l:=l.later zt;refine H0 2 (by kernel_rfl) rfl rfl (fun K hK=> ?_)
     go_simp
     go_at_call 100
     refine(Qw N rfl Z.2 (by omega)).mono ?_;rintro e Mt ⟨x,rfl,hx,o,R⟩;replace Z:=Z.tr o R;replace l:=l.dl o (bb (by have:=B.out;omega));clear o R;replace Q:=F.out _ Z.off;refine hK.out _ _ Z.off (fun _=> ?_);refine H0 5 (by kernel_rfl) rfl rfl (fun K hK=> ?_)
     go_simp
     go_at_call 60
     refine(db x (Z.news br) l rfl).mono ?_;rintro e w16 ⟨Aj,cj,rfl,j,e⟩;replace Z:=Z.up e;replace Q:=F.out _ Z.off;clear l;refine hK.out _ _ Z.off (fun _=> ?_);have R:=cbn (Z.br br (by have:=B.out;omega));refine H0 6 (by kernel_rfl) rfl rfl (fun K hK=> ?_)
     go_simp
     refine hK.out _ _ (Z.off.set3 _ _ _) (fun _=> ?_);refine bO (by kernel_rfl) ?_ _;go_wp2_with fail;exact kb (by simp[aS,results99,go_sem,R]) (NQ.part hx Pb T) j Y Z B.out (aP _) (by omega) rfl
 have t3:(x==2)=false:=beq_eq_false_iff_ne.2 h2;by_cases h3:x=3
 · subst h3
   go_wp2_with fail;obtain⟨e,l⟩:=n7 25 ((Z5 _ _ 6 0)) ((Z5 _ _ 6 0)) (Z.news br);replace Z:=Z.up e;replace Q:=F.out _ Z.off;refine(db 4 (Z.news br) l rfl).mono ?_;rintro e P ⟨Aa,ca,rfl,a,e⟩;replace Z:=Z.up e;replace Q:=F.out _ Z.off;clear l;go_wp2_with fail;refine(M.out _ g _ n (G) (J - 2) Z.2 (by omega) (by have:=E.out;omega) (by have:=E.out;omega) (by omega) (by omega)).mono ?_;intro e V h;obtain⟨tb,ub,vb,Ab,lb,cb,rfl,Pb,b,o,Z⟩:=h.at Z br;replace a:=a.dl o (bb (by have:=B.out;omega));clear o;replace Q:=F.out _ Z.off;go_wp2_with fail;obtain⟨e,l⟩:=Cd 25 b (Z.news br);replace Z:=Z.up e;replace a:=a.later e;replace Q:=F.out _ Z.off;refine(db 11 (Z.news br) l rfl).mono ?_;rintro e w9 ⟨Ad,cd,rfl,d,e⟩;replace Z:=Z.up e;replace a:=a.later e;replace Q:=F.out _ Z.off;clear l;go_wp2_with fail;refine(M.out _ g _ n (G) (J - 1) Z.2 (by omega) (by have:=E.out;omega) (by have:=E.out;omega) (by omega) (by omega)).mono ?_;intro e S6 h;obtain⟨tj,uj,vj,Aj,lj,cj,rfl,Pj,j,o,Z⟩:=h.at Z br;replace a:=a.dl o (bb (by have:=B.out;omega));replace d:=d.dl o (bb (by have:=B.out;omega));clear o;replace Q:=F.out _ Z.off;go_wp2_with fail;obtain⟨e,l⟩:=Zc 25 a d j (Z.news br);replace Z:=Z.up e;replace Q:=F.out _ Z.off;refine(db 12 (Z.news br) l rfl).mono ?_;rintro e Y4 ⟨Af,cf,rfl,f,e⟩;replace Z:=Z.up e;replace Q:=F.out _ Z.off;clear l;have R:=cbn (Z.br br (by have:=B.out;omega));go_wp2_with fail;exact kb (by simp[aS,results99,go_sem,R]) (NQ.move Pb Pj) f Y Z B.out (aP _) (by omega) rfl
 have t4:(x==3)=false:=beq_eq_false_iff_ne.2 h3;by_cases h4:x=4
 · subst h4
   go_wp2_with fail;refine(M.out _ g _ n (G) (0) Z.2 (by omega) (by have:=E.out;omega) (by have:=E.out;omega) (by omega) (by omega)).mono ?_;intro e P h;obtain⟨ta,ua,va,Aa,la,ca,rfl,Pa,a,o,Z⟩:=h.at Z br;clear o;replace Q:=F.out _ Z.off;have R:=cbn (Z.br br (by have:=B.out;omega));go_wp2_with fail;exact kb (by simp[aS,results99,go_sem,R]) (Pa.up) a Y Z B.out (aP _) (by omega) rfl
 have t5:(x==4)=false:=beq_eq_false_iff_ne.2 h4;go_wp2_with fail;refine(M.out _ g _ n (G) (J - 1) Z.2 (by omega) (by have:=E.out;omega) (by have:=E.out;omega) (by omega) (by omega)).mono ?_;intro e P h;obtain⟨ta,ua,va,Aa,la,ca,rfl,Pa,a,o,Z⟩:=h.at Z br;clear o;replace Q:=F.out _ Z.off;go_wp2_with fail;obtain⟨e,l⟩:=Cd 25 a (Z.news br);replace Z:=Z.up e;replace Q:=F.out _ Z.off;refine(db 8 (Z.news br) l rfl).mono ?_;rintro e V ⟨Ab,cb,rfl,b,e⟩;replace Z:=Z.up e;replace Q:=F.out _ Z.off;clear l;have R:=cbn (Z.br br (by have:=B.out;omega));go_wp2_with fail;exact kb (by simp[aS,results99,go_sem,R]) (NQ.succ Pa) b Y Z B.out (aP _) (by omega) rfl
theorem Ts:Dn 4 1023 20 968:=Su 4 255 16 320 fun _=> Su 3 63 12 104 fun _=> Su 2 15 8 32 fun _=> Su 1 3 4 8 fun _=> Su 0 0 0 0 fun h=> absurd h (by decide)
theorem bo:Dn 2 63 12 104:=Su 2 15 8 32 fun _=> Su 1 3 4 8 fun _=> Su 0 0 0 0 fun h=> absurd h (by decide)
end Go.Proofs.YtckhbnmfnpolgaaGreat
namespace Go.Proofs.YtckhbnmfnpolgaaGreat
open Go.RowKit
open M (Hd HR Cv Ty j2 rc a7 O5 dep DG fvb)
open M.Tm
def txts:List (List M.Tm×List M.Tm):= [
 ([], [lam (sort 0) (lam (var 0) (var 0)),lam nat (refl (var 0)),lam nat (lam nat (elim (lam nat nat) (var 1) (lam nat (lam nat (succ (var 0)))) (var 0))),pi nat (sort 0),app (lam (sort 0) (lam (var 0) (var 0))) nat,
  lam (sg nat nat) (pair (sg nat nat) (M.Tm.snd (var 0)) (fst (var 0))),lam nat (pair (sg nat (id nat (var 0) (var 1))) (var 0) (refl (var 0))),lam nat (lam nat (lam (id nat (var 1) (var 0)) (M.Tm.move (lam nat (id nat (var 0) (var 3))) (var 0) (refl (var 2))))),
  elim (lam nat (sort 0)) nat (lam nat (lam (sort 0) (pi nat (var 1)))) (succ (succ zero)),pi (sort 0) (pi (var 0) (var 1)),lam (sort 0) (lam (pi (var 0) (var 1)) (var 0)),sort 2]),
 ([pi (var 1) (var 2),var 0,sort 0], [app (var 0) (var 1),refl (var 1),id (var 2) (var 1) (app (var 0) (var 1)),lam (var 2) (var 1),pair (sg (var 2) (var 3)) (var 1) (app (var 0) (var 1)),lam (id (var 2) (var 1) (app (var 0) (var 1))) (M.Tm.move (lam (var 3) (var 4)) (var 0) (var 2))]),
 ([id nat (var 0) (succ zero),nat], [var 0,M.Tm.move (lam nat (id nat (succ (var 2)) (succ (var 0)))) (var 0) (refl (succ (var 1))),succ (var 1),M.Tm.move (lam nat nat) (var 0) (var 1),elim (lam nat nat) zero (lam nat (lam nat (var 1))) (var 1)]),
 ([pi nat (app (var 1) (var 0)),pi nat (sort 0)], [app (var 0) zero,lam nat (app (var 1) (var 0)),app (var 1) (succ (succ zero)),lam nat (lam (id nat (var 0) zero) (M.Tm.move (var 3) (var 0) (app (var 2) (var 1))))]),
 ([id nat (var 2) (var 1),id nat (var 2) (var 1),nat,nat,nat], [var 0,var 1]),
 ([id (var 2) (var 1) (var 0),var 1,var 0,sort 0], [var 0])]
def DC(G:List M.Tm)(t:M.Tm):Bool:=match Ra 30 (ctxE G) (enc t) with
 |some (_,c)=> c==0
 |none=> false
theorem Vv:(txts.all fun p=> p.2.all kc)=true:=by decide+kernel
theorem Wu:(txts.all fun p=> p.2.all (DC p.1))=true:=by decide+kernel
theorem Qv:(txts.all fun p=> p.1.all fun A=> decide (dep A<=3))=true:=by decide+kernel
end Go.Proofs.YtckhbnmfnpolgaaGreat
namespace Go.Proofs.YtckhbnmfnpolgaaGreat
open Go.RowKit
attribute [local go_sem ↓] Go.wp_at_zero Go.wp_at_succ
def ccRS(f:Nat):List Tr->List Tr->An
 |_, []=> some (D2,0)
 |done,t::ts=> thn (Q0 (O0 f done t) 2) fun _=> ccRS f (done++ [t]) ts
def Ry(f:Nat)(ctx:List Tr):An:=if Qc ctx=true then ccRS f [] ctx else some (D2,3)
theorem tD{a:List Tr}{t:Tr}(ht:t∈a)(hv:valid sigT t=false):Qc a=false:=by
 unfold Qc;rw[Bool.and_eq_false_iff];refine .inr ?_;simp only[Bool.not_eq_false',List.any_eq_true];exact⟨t,ht,by simp[hv]⟩
theorem eE{a:List Tr}(hv: ∀t∈a,valid sigT t=true):Qc a=decide ((a.length:Int)<=8):=by
 unfold Qc;have:a.any (fun t=> !valid sigT t)=false:=by
  simp only[List.any_eq_false];intro t ht;simp[hv t ht]
 simp[this]
 omega
theorem KC{a:List Tr}(h:Qc a=true):a.length<=8/\ ∀t∈a,valid sigT t=true:=by
 by_cases hv: ∀t∈a,valid sigT t=true
 · rw[eE hv,decide_eq_true_eq] at h
   exact⟨by omega,hv⟩
 · exact⟨by unfold Qc at h;simp at h;exact h.1,fun t ht=> by
    cases e:valid sigT t
    · rw[tD ht e] at h;cases h
    · rfl⟩
theorem gC(c:List Tr)(w:aN)(A:Option Addr)(cap:Nat)(hK:V8 w A c)(hl:c.length<=cap)(hc:cap<=aW):
 aY prog 87 #[.slice A c.length cap] w fun e z=> e= .returned (.bool (Qc c))/\Ext w z:=by
 have g:=hc;unfold aW at g;go_enter func87,ntmps87;go_wp2_with fail
 go_loopw [3] (fun i wr=> ∃j:Nat,j<=c.length/\i= j0 j/\Hid (∀t∈c.take j,valid sigT t=true)/\Ext w wr) (fun i _=> c.length -(intOf i).toNat)
 case atStart=> exact⟨0,cO _,rfl,hdq (by simp),xr _⟩
 case round=>
  obtain⟨j,K,rfl,a,hx⟩:=hrel;by_cases d:j < c.length
  · obtain⟨b,o,p,l,N,P,q16,rfl,E,y,s,H,O,m1,L,B,G⟩:=hK.get hx d
    have x:(j:Int) <(c.length:Int):=by omega
    have q:=hdq (rj (.mk p l q16) _ _ B);go_wp2_with fail;refine q.out.mono ?_;rintro e M ⟨rfl,I⟩;have r:=hx.trans I;obtain⟨f,k⟩: ∃f,valid sigT (.mk p l q16)=f:=⟨_,rfl⟩;rw[k];have m:=hdq k;clear k q y s H;cases f with
    |false=>
     go_wp2_with fail;go_ret;exact⟨by rw[tD G m.out];rfl,r⟩
    |true=>
     have J:Hid (∀t∈c.take (j+1),valid sigT t=true):=hdq fun t ht=> by
      rw[iS d,List.mem_append,List.mem_singleton] at ht;rcases ht with ht|rfl
      · exact a.out t ht
      · rw[E.out];exact m.out
     go_wp2_with fail
     go_roundw
     case rel=> exact⟨j+1,by omega,by go_num,J,r⟩
     case measure=> simp[intOf];omega
  · have hv: ∀t∈c,valid sigT t=true:=by
     have:=a.out
     rwa [List.take_of_length_le (by omega)] at this
    have F:=hdq hv;clear hv a;go_wp2_with fail;go_ret;exact⟨by rw[eE F.out];rfl,hx⟩
theorem pH(f:Nat)(a:List Tr)(w:aN)(A:Option Addr)(cap:Nat)(hK:V8 w A a)(hl:a.length<=cap)(hc:cap<=aW)(r:Tr×Int)(h:Ry f a=some r):
 aY prog 88 #[.slice A a.length cap] w fun e w'=> e= .returned (j0 r.2)/\Ext w w':=by
 have y:=hc;unfold aW at y;have Q:=hdq (gC a w A cap hK hl hc);go_enter func88,ntmps88;go_wp2_with fail;refine Q.out.mono ?_;rintro e w1 ⟨rfl,M⟩;obtain⟨z,k⟩: ∃z,Qc a=z:=⟨_,rfl⟩;rw[k];unfold Ry at h;rw[k] at h;clear Q;cases z with
 |false=>
  obtain rfl:r=(D2,3):=by simpa using h.symm
  go_wp2_with fail;go_ret;exact⟨rfl,M⟩
 |true=>
  rw[if_pos rfl] at h;obtain⟨h8,hv⟩:=KC k;have av:=hdq hv;have V:=hdq h;have HK:=hdq hK;clear k hv h;go_wp2_with fail
  go_loopw [3] (fun i wr=> ∃j:Nat,j<=a.length/\i= j0 j/\Hid (ccRS f (a.take j) (a.drop j)=some r)/\Ext w wr) (fun i _=> a.length -(intOf i).toNat)
  case atStart=> exact⟨0,cO _,rfl,V,M⟩
  case round=>
   obtain⟨i,hi,rfl,HR,hx2⟩:=hrel;by_cases g:i < a.length
   · obtain⟨b,o,Y,T,A1,p1,q16,rfl,E7,I,N,L,l1,m1,Z,J,l8⟩:=hK.get hx2 g
     have hi':(i:Int) <(a.length:Int):=by omega
     have W6:(0:Int)<=(i:Int):=by omega
     have U:(i:Int)<=(cap:Int):=by omega
     obtain⟨sA,c,l,E,O⟩:=we (by
      have:=HR.out;rw[cP g,ccRS] at this;exact this)
     rw[E7.out] at l;have B:=hdq l;have s:=hdq E;have q:=hdq O;have R:=hdq J;have p:=hdq (fun(W:aN) (F:Ext wr W)=> Ow (Tp f) W AllN (A:=some ⟨b,o,none⟩) (ca:=cap) (G:=a.take i) ⟨fun _ _=> trivial,by simp;omega,hc,(InK.all (HK.out.ext (hx2.trans F))).take i,by simp;omega,by simp,fun x hm=> av.out x (List.mem_of_mem_take hm)⟩ (.mk Y T q16) _ (InT.all (R.out.ext F)) _ B.out);rw[show(a.take i).length=i from by simp;omega] at p;clear l E O J Z HR;go_wp2_with fail;refine wp_region_held_drew (S:=fun w=> Ext wr w) (by kernel_rfl) (xr wr).drew (fun _=> ?_);refine B3 [0,1,2,3,4,5,6] 6 (by kernel_rfl) (xr wr).drew (fun _ _ _ _ _ h=> h) ?_
     iterate 7 (refine tk rfl (by rfl) (by intro w X;have q0:=X.cell I;have l:=X.cell N;have E:=X.cell L;go_simp;(try with_reducible rfl)) ?_;try simp only[W2])
     refine H0 7 (by kernel_rfl) rfl rfl (fun K hK=> ?_)
     go_simp
     go_at_call 128
     refine(p.out _ (xr wr).drew).mono ?_;rintro e w2 ⟨rfl,e2⟩;have m:=(xr wr).drew.trans e2;refine hK.out _ _ m (fun _=> ?_);clear hK K I N L p;refine B3 [8,9,10,11,12] 0 (by kernel_rfl) m (fun _ _ _ _ _ h=> h) ?_
     iterate 5 (refine tk rfl (by rfl) (by intro w X;go_simp;(try with_reducible rfl)) ?_;try simp only[W2])
     refine bO (by kernel_rfl) ?_ _;have H:=hx2.trans m;by_cases d:c=0
     · subst d
       have P:=hdq (s.out rfl);rw[<-iS g] at P;clear B s q;go_wp2_with fail
       go_roundw
       case rel=> exact⟨i+1,by omega,by go_num,P,H⟩
       case measure=> simp[intOf];omega
     · have t1:(c !=0)=true:=by simp[d]
       have hr:=q.out d;clear B s q d;go_wp2_with fail;go_ret;exact⟨by rw[hr];rfl,H⟩
   · have hr:r=(D2,0):=by
      have:=HR.out;rw[dM (by omega)] at this
      simpa[ccRS] using this.symm
     go_wp2_with fail;go_ret;exact⟨by rw[hr];rfl,hx2⟩
theorem sv(t:Tr)(w:aN)(v:Value)(a:Lies w t v):aY prog 94 #[v] w fun e b=> e= .returned (.bool (!valid sigT t))/\Ext w b:=by
 have d:=hdq (fun W (c:Ext w W)=> Qo t W v (a.ext c));obtain⟨k,n,i⟩:=t;obtain⟨A,cap,rfl,hl,hc,hK⟩:=Lies.mk_iff.1 a;go_enter func94,ntmps94;go_wp2_with fail;refine(d.out _ ((xr w).alloc _)).mono ?_;rintro e g ⟨rfl,f⟩;go_wp2_with fail;go_ret;exact⟨rfl,f.pre⟩
theorem IK(c:List Tr)(w:aN)(A:Option Addr)(cap:Nat)(hl:c.length<=cap)(hc:cap<=aW)(h:V8 w A c):
 aY prog 131 #[.slice A c.length cap,.func (.func 94) #[] #[]] w fun e d=> e= .returned (j0 (Qm (fun t=> !valid sigT t) c 0))/\Ext w d:=by
 obtain⟨p,g⟩: ∃p:Tr->Bool,p=fun t=> !valid sigT t:=⟨_,rfl⟩
 have hf: ∀t∈c,∀d v,Ext w d->Lies d t v->aY prog 94 #[v] d fun e q=> e= .returned (.bool (p t))/\Ext d q:=fun t _ d v _ hv=> by rw[g];exact sv t d v hv
 rw[<-g];clear g;unfold aW at hc;go_enter func131,ntmps131;go_wp2_with fail
 go_loopw [8] (fun i wr=> ∃j:Nat,j<=c.length/\i= j0 j/\Qm p c 0=Qm p (c.drop j) j/\Ext w wr) (fun i _=> c.length -(intOf i).toNat)
 case atStart=> exact⟨0,cO _,rfl,rfl,xr _⟩
 case round=>
  obtain⟨j,H,rfl,x,hx⟩:=hrel;have m:=hdq x;clear x;by_cases f:j < c.length
  · obtain⟨b,o,k,n,L,s,kids,rfl,B,J,G,N,M,K,hK,F,E⟩:=h.get hx f
    have a:Qm p (c.drop j) j=if p (.mk k n kids)=true then(j:Int) else Qm p (c.drop (j+1)) (j+1):=by
     rw[cP f,B.out];conv=> lhs;unfold Qm
    have z:=hdq (hf _ E);clear hf;go_wp2_with fail;refine(z.out wr _ hx F).mono ?_;rintro e I ⟨rfl,y⟩;generalize p (.mk k n kids)=r at a;cases r with
    |true=>
     rw[if_pos rfl] at a;have l:=hdq a;clear a;go_wp2_with fail;go_ret;exact⟨by rw[m.out,l.out];rfl,hx.trans y⟩
    |false=>
     rw[if_neg (by decide)] at a;have l:=hdq a;clear a;go_wp2_with fail
     go_roundw
     case rel=> exact⟨j+1,by omega,by go_num,by rw[m.out,l.out],hx.trans y⟩
     case measure=> simp[intOf];omega
  · go_wp2_with fail
    go_ret;exact⟨by rw[m.out,dM (by omega)];rfl,hx⟩
theorem xI(a:List Tr)(w:aN)(A:Option Addr)(cap:Nat)(hl:a.length<=cap)(hc:cap<=aW)(h:V8 w A a):
 aY prog 93 #[.slice A a.length cap,.func (.func 94) #[] #[]] w fun e c=> e= .returned (.bool (a.any (fun t=> !valid sigT t)))/\Ext w c:=by
 have f:=hdq (IK a w A cap hl hc h);have b:=hdq (ZK (fun t=> !valid sigT t) a 0);go_enter func93,ntmps93;go_wp2_with fail;refine f.out.mono ?_;rintro e g ⟨rfl,d⟩;go_wp2_with fail;go_ret;exact⟨by rw[<-b.out];rfl,d⟩
theorem nE(f:Nat)(a:List Tr)(w:aN)(A:Option Addr)(cap:Nat)(hK:V8 w A a)(hl:a.length<=cap)(hc:cap<=aW)(l:List Tr)(B:Option Addr)(b:Nat)(o:V8 w B l)(d:l.length<=b)(c:b<=aW)(r:Tr×Int)(h:Xa f a l=some r):
 aY prog 48 #[.slice A a.length cap,.slice B l.length b] w fun e p=> e= .returned (j0 r.2)/\Ext w p:=by
 obtain⟨q,j,hr⟩: ∃q,ccV f a=some q/\(if l.all (fun t=> valid sigT t)=true then some q else some (D2,3))=some r:=by
  unfold Xa at h;cases e:ccV f a with
  |none=> rw[e] at h;cases h
  |some q=> rw[e] at h;exact⟨q,rfl,h⟩
 have x:=hdq (FH f a w A cap hK hl hc q j);have g:=hdq (fun W (s:Ext w W)=> xI l W B b d c (o.ext s));have m:(l.any fun t=> !valid sigT t)= !l.all (fun t=> valid sigT t):=by rw[List.not_all_eq_any_not]
 rw[m] at g;generalize l.all (fun t=> valid sigT t)=z at hr g;have HR:=hdq hr;clear hr m hK o h j;go_enter func48,ntmps48;go_wp2_with fail;refine x.out.mono ?_;rintro e y ⟨rfl,i⟩;go_wp2_with fail;refine(g.out _ i).mono ?_;rintro e E ⟨rfl,k⟩;cases z with
 |true=>
  have hr:=HR.out;rw[if_pos rfl] at hr;obtain rfl:q=r:=by simpa using hr
  clear HR hr;go_wp2_with fail;go_ret;exact⟨rfl,i.trans k⟩
 |false=>
  have hr:=HR.out;rw[if_neg (by decide)] at hr;obtain rfl:(D2,(3:Int))=r:=by simpa using hr
  clear HR hr;go_wp2_with fail;go_ret;exact⟨rfl,i.trans k⟩
theorem kJ{W:aN}{A:Option Addr}{ca:Nat}{G:List Tr}{g:Tr->An}(M:kf W A ca G g)(f:aN)(hx:Ext W f)(hG:V8 f A G)(t:Tr)(v:Value)(ht:Lies f t v)(hv:valid sigT t=true)(a:Tr)(N:Value)(y:Lies f a N)(c:Int)(h:Wa (g t) a=some c):aY prog 50 #[.slice A G.length ca,v,N] f fun e w'=> e= .returned (j0 c)/\Ext f w':=by
 obtain⟨k,n,J⟩:=t;obtain⟨At,ct,rfl,hl,l9,hK⟩:=Lies.mk_iff.1 ht;obtain⟨z,q,w⟩:=a;obtain⟨A8,c8,rfl,Y,hc8,Ha⟩:=Lies.mk_iff.1 y;have HT:=hdq ht;have HW:=hdq y;have HI:=hdq M;have HG:=hdq hG;have HV:=hdq hv;obtain⟨s,d,hs,o⟩: ∃s d,g (.mk k n J)=some (s,d)/\c=if d=0 then W3 s (.mk z q w) else d:=by
  rcases rv h with⟨s,hs,rfl⟩ |⟨s,hs,hc⟩
  · exact⟨s,0,hs,by rw[if_pos rfl]⟩
  · exact⟨s,c,hs,by rw[if_neg hc]⟩
 have P:=hdq hs;clear h hs ht y M hG hv hK Ha;obtain⟨w1,p⟩: ∃x,x=((f.alloc (D0 k n At J.length ct)).alloc (D0 z q A8 w.length c8)):=⟨_,rfl⟩;obtain⟨S,U,s1,i⟩:=box2 p;go_enter func50,ntmps50;go_wp2_with fail;rw[<-p];clear p;refine(HI.out w1 AllN (hx.trans i) (fun _ _=> trivial) (InK.all (HG.out.ext i)) _ _ (InT.all (HT.out.ext i)) HV.out _ P.out).mono ?_;rintro e m ⟨u,rfl,hT,l⟩;have s2:=l.size;simp only at hT⊢;obtain⟨X,V,H,I,Q,rfl⟩:=hT.three;have Z:=hdq hT;clear hT P;by_cases hd:d=0
 case neg=>
  rw[if_neg hd] at o;subst o;have t1:(c !=0)=true:=by simp[hd]
  clear hd;have E:=i;have r:=E.trans l;have j:=l;have L:=cb3 (j.blk S);have K:=cb3 (j.blk U);go_wp2_with fail;go_ret;exact⟨rfl,r.alloc _⟩
 subst hd;rw[if_pos rfl] at o;subst o;have j:=l;have L:=cb3 (j.blk S);have K:=cb3 (j.blk U);obtain⟨B,b⟩: ∃x,x=m.alloc (D0 X V H I Q):=⟨_,rfl⟩;have F:Ext m B:=b▸(xr m).alloc _;have R:=heap_alloc_new m (D0 X V H I Q);rw[<-b] at R;have s3:m.heap.size < B.heap.size:=D1 R;go_wp2_with fail;rw[<-b];clear b;clear L K;have E:=i;have r:=E.trans l;have T:=r.trans F;have V2:=F;refine(RE s (.mk z q w) B _ _ (Z.out.lies'.ext V2) (HW.out.ext T)).mono ?_;rintro e w4 ⟨rfl,O⟩;have s4:=O.size;have s9:=T.trans O;go_wp2_with fail;go_ret;exact⟨rfl,s9⟩
