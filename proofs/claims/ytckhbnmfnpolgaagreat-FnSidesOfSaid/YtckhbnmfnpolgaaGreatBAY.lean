/-
  Lemmas towards the law, 25: Head, Conv, MTot.
-/
import Derived.Test.YtckhbnmfnpolgaaGreatBAX
open Go.Value renaming int->eK,ownBlock->fU
open Go renaming heap_alloc_new->aR,bodyPost_ret->aO,results->aQ
open List renaming length_cons->bY
open Nat renaming zero_mul->cT,one_mul->eY,reduceMul->eU,add_zero->cQ,add_assoc->dN,reduceAdd->dO,le_refl->aM
open Go.World renaming ownsRow_lit->fL,ownsRow_nil->fQ
open Go.Proofs.Tryz
set_option linter.unusedVariables false
set_option maxHeartbeats 4000000
set_option maxRecDepth 100000
namespace Go.Proofs.YtckhbnmfnpolgaaGreat
open Go.RowKit
def yJ(t:Tr):Prop:= ∀(w:World) (v:Value) (d:Int),D0 m0 t d=true->Lies w t v->d<=1000->Calls prog 160 #[v] w fun e a=> ∃x,e= .returned (.tuple #[x,.bool (p4 t).2])/\a.ownsRow w.heap.size 3 1 x (p4 t).1.length ((p4 t).1.map (eK .i64))/\Ext w a
theorem JE: ∀t:Tr,yJ t:=Tr.ind fun k n a hk=> by
 intro w v d hsh b8 hd;have HR:=hdq (fun V (hV:Ext w V)=> Sq (.mk k n a) d hsh V v (b8.ext hV));obtain⟨a7,-,-,s⟩:=Qu hsh;have m:(p4 (.mk k n a)).1.length<=1000:=by have:=SB (.mk k n a) d hsh;omega
 obtain⟨A,cap,rfl,hl,hc,hK⟩:=Lies.mk_iff.1 b8;obtain⟨i0,hi,hz0,hz1,Z⟩:=info_parts oC;have hcc:=hc;unfold maxLen at hcc;have c:=(xr w).alloc (.cells #[.int .i64 k,.int .i64 n,.slice A a.length cap] 25);have I:=aR w (.cells #[.int .i64 k,.int .i64 n,.slice A a.length cap] 25);obtain⟨r,hr⟩: ∃r,rdx k a=r:=⟨_,rfl⟩;have Y:=hdq (show∀V,Ext w V->Calls prog 133 #[.agg #[.int .i64 k,.int .i64 n,.slice A a.length cap]] V fun e w'=> e= .returned (.int .i64 r)/\Ext V w' from fun V hV=> by have:=HR.out V hV;rw[show U3 (.mk k n a)=r from hr] at this;exact this);have Q:=hdq hr;clear hr HR;by_cases h0:r=0
 · have hb0:(r !=0)=false:=by rw[h0];rfl
   subst h0;by_cases hm:k=5\/k=15\/k=16\/k=9\/k=12
   · rcases hm with rfl|rfl|rfl|rfl|rfl
     · have l:a.length=2:=by have:(2:Int)=(a.length:Int):=a7;omega
       have hlt:(0:Int) <(a.length:Int):=by omega
       have D:0 < a.length:=by omega
       have u:p4 (.mk 5 n a)=((0:Int)::(p4 (kd a 0)).1,(p4 (kd a 0)).2):=by rw[p4,if_neg (by rw[Q.out];decide)];rw[<-Fk D];rfl
       rw[u] at m⊢;obtain⟨b,o,U,O,A',N,kids,rfl,P,B,y,F,G7,G0,hK',u6,S⟩:=hK.get (j:=0) (xr w) D;have K:kd a 0= .mk U O kids:=Od D P.out;have H:=hdq (fun W (hx:Ext w W)=> hk _ S W _ (d - 1) (s _ S) (u6.ext hx) (by omega));rw[K] at m⊢;generalize p4 (.mk U O kids)=q at m H⊢;obtain⟨p,z⟩:=q;simp only[bY] at m;have hpl:p.length<=1000:=by omega
       simp only[cT,eY,eU,cQ,dN,dO] at B y F;clear b8 Q a7 l u K P m s hk;go_enter func160,ntmps160;go_wp2_with fail;refine(Y.out _ c).mono ?_;rintro e w1 ⟨rfl,i⟩;obtain⟨z0,z1,z2,-,-,-⟩:=own3 (i.blk I);have lz:=O1 (i.blk I);have hx1:=c.trans i;have d0:=hx1.cell B;have d1:=hx1.cell y;have d2:=hx1.cell F;clear I i c Y B y F;go_wp2_with fail;refine(H.out _ hx1).mono ?_;rintro e f ⟨x,rfl,C,h2⟩;have X:=Kw C;obtain⟨Bq,cq,rfl,-,-,-⟩:=Mr C;have hx2:=hx1.trans h2;have hx3:=(xr f).alloc (.cells #[.int .i64 0] 3);have hG:(f.alloc (.cells #[.int .i64 0] 3)).ownsRow f.heap.size 3 1 (.slice (some ⟨f.heap.size,0,none⟩) 1 1) ([(0:Int)]).length (([(0:Int)]).map (eK .i64)):=fL f #[.int .i64 0] 1 (aM _) (by decide) rfl;have T8:=X.ext hx3;clear H X C z0 z1 z2 d0 d1 d2;go_wp2_with (at_builtin;refine mw _ rfl (.tmp 32) (.tmp 33) 93 rfl f.heap.size 3 i0 _ 8 underlying93 hi hz0 hz1 Z (by decide) rfl (ns:= [(0:Int)]) (p:=p) rfl hG (by simp) rfl T8 (by simp;omega) ?_)
       intro va J L T jr;have jg:Ext w J:=hx2.trans (hx3.grown T (by intro g hg;simp[fU] at hg;omega));have E:=hx2.size;have R:J.ownsRow w.heap.size 3 1 va ((0:Int)::p).length ((((0:Int)::p)).map (eK .i64)):=Mw L E;have lw:=hdq R;clear L T jr R;go_wp2_with fail;go_ret2;exact⟨_,rfl,lw.out,jg⟩
     · have l:a.length=1:=by have:(1:Int)=(a.length:Int):=a7;omega
       have hlt:(0:Int) <(a.length:Int):=by omega
       have D:0 < a.length:=by omega
       have u:p4 (.mk 15 n a)=((0:Int)::(p4 (kd a 0)).1,(p4 (kd a 0)).2):=by rw[p4,if_neg (by rw[Q.out];decide)];rw[<-Fk D];rfl
       rw[u] at m⊢;obtain⟨b,o,U,O,A',N,kids,rfl,P,B,y,F,G7,G0,hK',u6,S⟩:=hK.get (j:=0) (xr w) D;have K:kd a 0= .mk U O kids:=Od D P.out;have H:=hdq (fun W (hx:Ext w W)=> hk _ S W _ (d - 1) (s _ S) (u6.ext hx) (by omega));rw[K] at m⊢;generalize p4 (.mk U O kids)=q at m H⊢;obtain⟨p,z⟩:=q;simp only[bY] at m;have hpl:p.length<=1000:=by omega
       simp only[cT,eY,eU,cQ,dN,dO] at B y F;clear b8 Q a7 l u K P m s hk;go_enter func160,ntmps160;go_wp2_with fail;refine(Y.out _ c).mono ?_;rintro e w1 ⟨rfl,i⟩;obtain⟨z0,z1,z2,-,-,-⟩:=own3 (i.blk I);have lz:=O1 (i.blk I);have hx1:=c.trans i;have d0:=hx1.cell B;have d1:=hx1.cell y;have d2:=hx1.cell F;clear I i c Y B y F;go_wp2_with fail;refine(H.out _ hx1).mono ?_;rintro e f ⟨x,rfl,C,h2⟩;have X:=Kw C;obtain⟨Bq,cq,rfl,-,-,-⟩:=Mr C;have hx2:=hx1.trans h2;have hx3:=(xr f).alloc (.cells #[.int .i64 0] 3);have hG:(f.alloc (.cells #[.int .i64 0] 3)).ownsRow f.heap.size 3 1 (.slice (some ⟨f.heap.size,0,none⟩) 1 1) ([(0:Int)]).length (([(0:Int)]).map (eK .i64)):=fL f #[.int .i64 0] 1 (aM _) (by decide) rfl;have T8:=X.ext hx3;clear H X C z0 z1 z2 d0 d1 d2;go_wp2_with (at_builtin;refine mw _ rfl (.tmp 32) (.tmp 33) 93 rfl f.heap.size 3 i0 _ 8 underlying93 hi hz0 hz1 Z (by decide) rfl (ns:= [(0:Int)]) (p:=p) rfl hG (by simp) rfl T8 (by simp;omega) ?_)
       intro va J L T jr;have jg:Ext w J:=hx2.trans (hx3.grown T (by intro g hg;simp[fU] at hg;omega));have E:=hx2.size;have R:J.ownsRow w.heap.size 3 1 va ((0:Int)::p).length ((((0:Int)::p)).map (eK .i64)):=Mw L E;have lw:=hdq R;clear L T jr R;go_wp2_with fail;go_ret2;exact⟨_,rfl,lw.out,jg⟩
     · have l:a.length=1:=by have:(1:Int)=(a.length:Int):=a7;omega
       have hlt:(0:Int) <(a.length:Int):=by omega
       have D:0 < a.length:=by omega
       have u:p4 (.mk 16 n a)=((0:Int)::(p4 (kd a 0)).1,(p4 (kd a 0)).2):=by rw[p4,if_neg (by rw[Q.out];decide)];rw[<-Fk D];rfl
       rw[u] at m⊢;obtain⟨b,o,U,O,A',N,kids,rfl,P,B,y,F,G7,G0,hK',u6,S⟩:=hK.get (j:=0) (xr w) D;have K:kd a 0= .mk U O kids:=Od D P.out;have H:=hdq (fun W (hx:Ext w W)=> hk _ S W _ (d - 1) (s _ S) (u6.ext hx) (by omega));rw[K] at m⊢;generalize p4 (.mk U O kids)=q at m H⊢;obtain⟨p,z⟩:=q;simp only[bY] at m;have hpl:p.length<=1000:=by omega
       simp only[cT,eY,eU,cQ,dN,dO] at B y F;clear b8 Q a7 l u K P m s hk;go_enter func160,ntmps160;go_wp2_with fail;refine(Y.out _ c).mono ?_;rintro e w1 ⟨rfl,i⟩;obtain⟨z0,z1,z2,-,-,-⟩:=own3 (i.blk I);have lz:=O1 (i.blk I);have hx1:=c.trans i;have d0:=hx1.cell B;have d1:=hx1.cell y;have d2:=hx1.cell F;clear I i c Y B y F;go_wp2_with fail;refine(H.out _ hx1).mono ?_;rintro e f ⟨x,rfl,C,h2⟩;have X:=Kw C;obtain⟨Bq,cq,rfl,-,-,-⟩:=Mr C;have hx2:=hx1.trans h2;have hx3:=(xr f).alloc (.cells #[.int .i64 0] 3);have hG:(f.alloc (.cells #[.int .i64 0] 3)).ownsRow f.heap.size 3 1 (.slice (some ⟨f.heap.size,0,none⟩) 1 1) ([(0:Int)]).length (([(0:Int)]).map (eK .i64)):=fL f #[.int .i64 0] 1 (aM _) (by decide) rfl;have T8:=X.ext hx3;clear H X C z0 z1 z2 d0 d1 d2;go_wp2_with (at_builtin;refine mw _ rfl (.tmp 32) (.tmp 33) 93 rfl f.heap.size 3 i0 _ 8 underlying93 hi hz0 hz1 Z (by decide) rfl (ns:= [(0:Int)]) (p:=p) rfl hG (by simp) rfl T8 (by simp;omega) ?_)
       intro va J L T jr;have jg:Ext w J:=hx2.trans (hx3.grown T (by intro g hg;simp[fU] at hg;omega));have E:=hx2.size;have R:J.ownsRow w.heap.size 3 1 va ((0:Int)::p).length ((((0:Int)::p)).map (eK .i64)):=Mw L E;have lw:=hdq R;clear L T jr R;go_wp2_with fail;go_ret2;exact⟨_,rfl,lw.out,jg⟩
     · have l:a.length=4:=by have:(4:Int)=(a.length:Int):=a7;omega
       have hlt:(3:Int) <(a.length:Int):=by omega
       have D:3 < a.length:=by omega
       have u:p4 (.mk 9 n a)=((3:Int)::(p4 (kd a 3)).1,(p4 (kd a 3)).2):=by rw[p4,if_neg (by rw[Q.out];decide)];rw[<-Fk D];rfl
       rw[u] at m⊢;obtain⟨b,o,U,O,A',N,kids,rfl,P,B,y,F,G7,G0,hK',u6,S⟩:=hK.get (j:=3) (xr w) D;have K:kd a 3= .mk U O kids:=Od D P.out;have H:=hdq (fun W (hx:Ext w W)=> hk _ S W _ (d - 1) (s _ S) (u6.ext hx) (by omega));rw[K] at m⊢;generalize p4 (.mk U O kids)=q at m H⊢;obtain⟨p,z⟩:=q;simp only[bY] at m;have hpl:p.length<=1000:=by omega
       simp only[cT,eY,eU,cQ,dN,dO] at B y F;clear b8 Q a7 l u K P m s hk;go_enter func160,ntmps160;go_wp2_with fail;refine(Y.out _ c).mono ?_;rintro e w1 ⟨rfl,i⟩;obtain⟨z0,z1,z2,-,-,-⟩:=own3 (i.blk I);have lz:=O1 (i.blk I);have hx1:=c.trans i;have d0:=hx1.cell B;have d1:=hx1.cell y;have d2:=hx1.cell F;clear I i c Y B y F;go_wp2_with fail;refine(H.out _ hx1).mono ?_;rintro e f ⟨x,rfl,C,h2⟩;have X:=Kw C;obtain⟨Bq,cq,rfl,-,-,-⟩:=Mr C;have hx2:=hx1.trans h2;have hx3:=(xr f).alloc (.cells #[.int .i64 3] 3);have hG:(f.alloc (.cells #[.int .i64 3] 3)).ownsRow f.heap.size 3 1 (.slice (some ⟨f.heap.size,0,none⟩) 1 1) ([(3:Int)]).length (([(3:Int)]).map (eK .i64)):=fL f #[.int .i64 3] 1 (aM _) (by decide) rfl;have T8:=X.ext hx3;clear H X C z0 z1 z2 d0 d1 d2;go_wp2_with (at_builtin;refine mw _ rfl (.tmp 32) (.tmp 33) 93 rfl f.heap.size 3 i0 _ 8 underlying93 hi hz0 hz1 Z (by decide) rfl (ns:= [(3:Int)]) (p:=p) rfl hG (by simp) rfl T8 (by simp;omega) ?_)
       intro va J L T jr;have jg:Ext w J:=hx2.trans (hx3.grown T (by intro g hg;simp[fU] at hg;omega));have E:=hx2.size;have R:J.ownsRow w.heap.size 3 1 va ((3:Int)::p).length ((((3:Int)::p)).map (eK .i64)):=Mw L E;have lw:=hdq R;clear L T jr R;go_wp2_with fail;go_ret2;exact⟨_,rfl,lw.out,jg⟩
     · have l:a.length=3:=by have:(3:Int)=(a.length:Int):=a7;omega
       have hlt:(1:Int) <(a.length:Int):=by omega
       have D:1 < a.length:=by omega
       have u:p4 (.mk 12 n a)=((1:Int)::(p4 (kd a 1)).1,(p4 (kd a 1)).2):=by rw[p4,if_neg (by rw[Q.out];decide)];rw[<-Fk D];rfl
       rw[u] at m⊢;obtain⟨b,o,U,O,A',N,kids,rfl,P,B,y,F,G7,G0,hK',u6,S⟩:=hK.get (j:=1) (xr w) D;have K:kd a 1= .mk U O kids:=Od D P.out;have H:=hdq (fun W (hx:Ext w W)=> hk _ S W _ (d - 1) (s _ S) (u6.ext hx) (by omega));rw[K] at m⊢;generalize p4 (.mk U O kids)=q at m H⊢;obtain⟨p,z⟩:=q;simp only[bY] at m;have hpl:p.length<=1000:=by omega
       simp only[cT,eY,eU,cQ,dN,dO] at B y F;clear b8 Q a7 l u K P m s hk;go_enter func160,ntmps160;go_wp2_with fail;refine(Y.out _ c).mono ?_;rintro e w1 ⟨rfl,i⟩;obtain⟨z0,z1,z2,-,-,-⟩:=own3 (i.blk I);have lz:=O1 (i.blk I);have hx1:=c.trans i;have d0:=hx1.cell B;have d1:=hx1.cell y;have d2:=hx1.cell F;clear I i c Y B y F;go_wp2_with fail;refine(H.out _ hx1).mono ?_;rintro e f ⟨x,rfl,C,h2⟩;have X:=Kw C;obtain⟨Bq,cq,rfl,-,-,-⟩:=Mr C;have hx2:=hx1.trans h2;have hx3:=(xr f).alloc (.cells #[.int .i64 1] 3);have hG:(f.alloc (.cells #[.int .i64 1] 3)).ownsRow f.heap.size 3 1 (.slice (some ⟨f.heap.size,0,none⟩) 1 1) ([(1:Int)]).length (([(1:Int)]).map (eK .i64)):=fL f #[.int .i64 1] 1 (aM _) (by decide) rfl;have T8:=X.ext hx3;clear H X C z0 z1 z2 d0 d1 d2;go_wp2_with (at_builtin;refine mw _ rfl (.tmp 32) (.tmp 33) 93 rfl f.heap.size 3 i0 _ 8 underlying93 hi hz0 hz1 Z (by decide) rfl (ns:= [(1:Int)]) (p:=p) rfl hG (by simp) rfl T8 (by simp;omega) ?_)
       intro va J L T jr;have jg:Ext w J:=hx2.trans (hx3.grown T (by intro g hg;simp[fU] at hg;omega));have E:=hx2.size;have R:J.ownsRow w.heap.size 3 1 va ((1:Int)::p).length ((((1:Int)::p)).map (eK .i64)):=Mw L E;have lw:=hdq R;clear L T jr R;go_wp2_with fail;go_ret2;exact⟨_,rfl,lw.out,jg⟩
   · have u:p4 (.mk k n a)=([],false):=by rw[p4,if_neg (by rw[Q.out];decide),if_neg (by omega),if_neg (by omega),if_neg (by omega)]
     rw[u];have t1:(k==5)=false:=beq_eq_false_iff_ne.2 (by omega);have t2:(k==15)=false:=beq_eq_false_iff_ne.2 (by omega);have t3:(k==16)=false:=beq_eq_false_iff_ne.2 (by omega);have t4:(k==9)=false:=beq_eq_false_iff_ne.2 (by omega);have t5:(k==12)=false:=beq_eq_false_iff_ne.2 (by omega);clear b8 Q a7 u m s hk hm;go_enter func160,ntmps160;go_wp2_with fail;refine(Y.out _ c).mono ?_;rintro e w1 ⟨rfl,i⟩;obtain⟨z0,z1,z2,-,-,-⟩:=own3 (i.blk I);have lz:=O1 (i.blk I);go_wp2_with fail;go_ret2;exact⟨_,rfl,fQ _ _ _ _,c.trans i⟩
 · have hb0:(r !=0)=true:=bne_iff_ne.2 h0
   have u:p4 (.mk k n a)=([],true):=by rw[p4,if_pos (by rw[Q.out];exact h0)]
   rw[u];clear u Q;go_enter func160,ntmps160;go_wp2_with fail;refine(Y.out _ c).mono ?_;rintro e w1 ⟨rfl,i⟩;go_wp2_with fail;go_ret2;exact⟨_,rfl,fQ _ _ _ _,c.trans i⟩
theorem gF(t:Tr)(f:Int)(w:World)(v:Value)(b8:Lies w t v):
 Calls prog 96 #[v,.int .i64 f,.func (.func 160) #[] #[]] w fun e w'=> ∃r s,e= .returned (.tuple #[r,.int .i64 s,.int .i64 (d7 t f).2])/\P0 w w' 25 (d7 t f).1 r/\Ext w w':=by
 have HV:=hdq (fun W (hW:Ext w W)=> kr t W v (b8.ext hW));have E:d7 t f=if(j0 m0 t && kb f 0 200)=true then p9 f.toNat t else(E2,3):=rfl
 rw[E];clear E;obtain⟨z,hz⟩: ∃z,j0 m0 t=z:=⟨_,rfl⟩;obtain⟨y,hy⟩: ∃y,kb f 0 200=y:=⟨_,rfl⟩;rw[hz] at HV⊢;rw[hy];obtain⟨k,n,ks⟩:=t;obtain⟨A,cap,rfl,hl,hc,hK⟩:=Lies.mk_iff.1 b8;have o:=((xr w).alloc (.cells #[.int .i64 k,.int .i64 n,.slice A ks.length cap] 25)).alloc (.cells #[.int .i64 0,.int .i64 0,.slice none 0 0] 25);obtain⟨T,D,hs2⟩:=W3 (xr ((w.alloc (.cells #[.int .i64 k,.int .i64 n,.slice A ks.length cap] 25)).alloc (.cells #[.int .i64 0,.int .i64 0,.slice none 0 0] 25)));obtain⟨wS,U⟩: ∃x,x=(w.alloc (.cells #[.int .i64 k,.int .i64 n,.slice A ks.length cap] 25)).alloc (.cells #[.int .i64 0,.int .i64 0,.slice none 0 0] 25):=⟨_,rfl⟩;rw[<-U] at o T D hs2;cases z with
 |false=>
  rw[if_neg (by simp)];go_enter func96,ntmps96;go_wp2_with fail;rw[<-U];clear U;refine(HV.out _ o).mono ?_;rintro e w1 ⟨rfl,u⟩;obtain⟨K,I,L,f0,f1,f2⟩:=own3 (u.blk D);go_wp2_with fail;refine aO (v:= .tuple #[.agg #[.int .i64 0,.int .i64 0,.slice none 0 0],.int .i64 0,.int .i64 3]) (by simp[aQ,results96,go_sem,K,I,L]) rfl ⟨_,_,rfl,P0.leaf _ _ _ 0 0, ?_⟩;exact((((o.trans u).setCell (by simp) _).setCell (by simp) _).setCell (by simp) _)
 |true=>
  cases y with
  |false=>
   rw[if_neg (by simp)];go_enter func96,ntmps96;go_wp2_with fail;rw[<-U];clear U;refine(HV.out _ o).mono ?_;rintro e w1 ⟨rfl,u⟩;obtain⟨K,I,L,f0,f1,f2⟩:=own3 (u.blk D);go_wp2_with (go_at_call 51;refine(ri _ _ _ _).mono ?_;rw[hy];rintro e H ⟨rfl,rfl⟩)
   refine aO (v:= .tuple #[.agg #[.int .i64 0,.int .i64 0,.slice none 0 0],.int .i64 0,.int .i64 3]) (by simp[aQ,results96,go_sem,K,I,L]) rfl ⟨_,_,rfl,P0.leaf _ _ _ 0 0, ?_⟩;exact((((o.trans u).setCell (by simp) _).setCell (by simp) _).setCell (by simp) _)
  |true=>
   rw[if_pos (by simp)];obtain⟨df,hf2⟩:=Yf.1 hy;obtain⟨F,rfl⟩:=Int.eq_ofNat_of_zero_le df;rw[show((F:Int)).toNat=F from by omega];obtain⟨R,hR⟩: ∃R,p9 F (.mk k n ks)=R:=⟨_,rfl⟩;rw[hR];have HR:=hdq hR;have HY:=hdq hy;have HZ:=hdq hz;have HF:=hdq hf2;clear hy hR hz df hf2;go_enter func96,ntmps96;go_wp2_with fail;rw[<-U];clear U;refine(HV.out _ o).mono ?_;rintro e w1 ⟨rfl,u⟩;have ky:=u.blk T;have o8:=u.blk D;have hx1:=o.trans u;go_wp2_with (go_at_call 51;refine(ri _ _ _ _).mono ?_;rw[HY.out];rintro e H ⟨rfl,rfl⟩)
   clear HV o T D hs2 u b8 HY
   go_loopw [9] (fun i wr=> ∃(j:Nat) (m d:Int) (kids:List Tr) (A':Option Addr) (c':Nat),j<=F/\i= .int .i64 j/\
    Hid (p9 (F - j) (.mk m d kids)=R)/\Hid (j0 m0 (.mk m d kids)=true)/\kids.length<=c'/\c'<=maxLen/\InK wr (fun b=> b < wr.heap.size/\(b < w.heap.size\/w.heap.size+2<=b)) A' kids/\
    wr.heap[w.heap.size]? =some (.cells #[.int .i64 m,.int .i64 d,.slice A' kids.length c'] 25 (0,0))/\wr.heap[w.heap.size+1]? =some (.cells #[.int .i64 0,.int .i64 0,.slice none 0 0] 25 (0,0))/\Ext w wr) (fun i _=> F -(intOf i).toNat)
   case atStart=> exact⟨0,k,n,ks,A,cap,Nat.zero_le _,rfl,hdq HR.out,HZ,hl,hc,InK.mono (fun b l=>⟨Nat.lt_of_lt_of_le l hx1.size,.inl l⟩) (fun b l=> hx1.heap b l) hK,ky,o8,hx1⟩
   case round=>
    obtain⟨j,m,d,kids,A',c',hj,rfl,HN,gf,G7,G0,hT,l,E1,hx⟩:=hrel;have hsz:w.heap.size+1 < wr.heap.size:=O1 E1;have hL:Lies wr (.mk m d kids) (.agg #[.int .i64 m,.int .i64 d,.slice A' kids.length c']):=Lies.mk G7 G0 (InK.mono (fun b l=> l.1) (fun _ _=> rfl) hT);have HO:=JE (.mk m d kids) wr _ 30 (Ug gf.out).2 hL (by decide);have HOW:=hdq (fun W (hW:Ext wr W)=> ti (.mk m d kids) W _ (hL.ext hW) (by have:=(Ug gf.out).1;omega));have uh:=hdq (fun p (hp:hdQ (.mk m d kids)=some p) W (hW:Ext wr W) B c (hP:Qi W B p.length c p)=> OI (.mk m d kids) p gf.out (Mj _ p hp) W _ (hL.ext hW) B p.length c hP (by have:=SB _ 30 (Ug gf.out).2;rw[Uy hp] at this;simp only at this;omega));have Z:=hdq (show∀q,hdQ (.mk m d kids)=q->Calls prog 160 #[.agg #[.int .i64 m,.int .i64 d,.slice A' kids.length c']] wr fun e w'=> ∃x,e= .returned (.tuple #[x,.bool q.isSome])/\(q.isSome=true->w'.ownsRow wr.heap.size 3 1 x (q.getD []).length ((q.getD []).map (eK .i64)))/\Ext wr w' from fun q J=> by
     refine HO.mono ?_;rintro e w' ⟨x,rfl,u,a⟩;cases q with
     |none=> exact⟨x,by rw[Bs J];rfl,(fun h=> by cases h),a⟩
     |some p=> exact⟨x,by rw[Uy J];rfl,(fun _=> by rw[Uy J] at u;exact u),a⟩)
    clear HO hT hK ky o8 hx1;obtain⟨z0,z1,z2,-,-,-⟩:=own3 l;obtain⟨q,J⟩: ∃q,hdQ (.mk m d kids)=q:=⟨_,rfl⟩;have Z:=hdq (Z.out q J);cases q with
    |none=>
     have HE:=hdq (HN.out.symm.trans (ew J (F - j)));clear uh J HN;go_wp2_with fail;refine Z.out.mono ?_;rintro e w2 ⟨x,rfl,-,a⟩;obtain⟨y0,y1,y2,-,-,-⟩:=own3 (a.blk l);clear z0 z1 z2;go_wp2_with fail;refine(HOW.out _ a).mono ?_;rintro e H ⟨r,rfl,Y,h3⟩;obtain⟨b1,b2,b3,b4,b5,rfl⟩:=Y.three';have N:=a.trans h3;obtain⟨K,I,L,f0,f1,f2⟩:=own3 (N.blk E1);have hw4:w.heap.size+2<=w2.heap.size:=by have:=a.size;omega
     clear y0 y1 y2;go_wp2_with fail;rw[HE.out];refine aO (v:= .tuple #[.agg #[.int .i64 b1,.int .i64 b2,.slice b3 b4 b5],.int .i64 j,.int .i64 0]) (by simp[aQ,results96,go_sem,K,I,L]) rfl ⟨_,_,rfl,P0.since (Y.after ((((pa.refl _ _).setCell (p:=⟨w.heap.size+1,0,none⟩) (by show w.heap.size+1 < _;omega) (.int .i64 b1)).setCell (p:=⟨w.heap.size+1,1,none⟩) (by show w.heap.size+1 < _;omega) (.int .i64 b2)).setCell (p:=⟨w.heap.size+1,2,none⟩) (by show w.heap.size+1 < _;omega) (.slice b3 b4 b5))) (by omega), ?_⟩;exact((((hx.trans N).setCell (by simp) _).setCell (by simp) _).setCell (by simp) _)
    |some p=>
     have N8:=hdq (uh.out p J);simp only[Option.isSome_some,Option.getD_some] at Z;have HQ:=hdq J;clear uh J HOW;by_cases hjF:j=F
     · have HE:=hdq (HN.out.symm.trans (show p9 (F - j) (.mk m d kids)=(E2,1) by rw[show F - j=0 by omega];exact pD HQ.out))
       clear N8 HN;subst hjF;go_wp2_with fail;refine Z.out.mono ?_;rintro e w2 ⟨x,rfl,Q,a⟩;have P:=Q trivial;clear Q;obtain⟨B,c,rfl,hP⟩:=Lw P;obtain⟨K,I,L,f0,f1,f2⟩:=own3 (a.blk E1);clear z0 z1 z2 P;go_wp2_with fail;rw[HE.out];refine aO (v:= .tuple #[.agg #[.int .i64 0,.int .i64 0,.slice none 0 0],.int .i64 j,.int .i64 1]) (by simp[aQ,results96,go_sem,K,I,L]) rfl ⟨_,_,rfl,P0.leaf _ _ _ 0 0, ?_⟩;exact((((hx.trans a).setCell (by simp) _).setCell (by simp) _).setCell (by simp) _)
     · have od:((j:Int)==(F:Int))=false:=beq_eq_false_iff_ne.2 (by omega)
       have oy:(j==F)=false:=beq_eq_false_iff_ne.2 hjF;have hlt:j < F:=by omega
       have zu:(j:Int) < 200:=by have:=HF.out;omega
       have hj4:F<=200:=by have:=HF.out;omega
       obtain⟨g,hg⟩: ∃g,F - j=g+1:=⟨F - j - 1,by omega⟩;have hg2:F -(j+1)=g:=by omega
       have C:Qe (.mk m d kids) p=if j0 m0 (conA (.mk m d kids) p)=true then(conA (.mk m d kids) p,true) else(E2,false):=rfl
       have O:=HN.out;rw[hg] at O;by_cases S:j0 m0 (conA (.mk m d kids) p)=true
       · rw[if_pos S] at C
         rw[Yp HQ.out S,<-hg2] at O;rw[C] at N8;clear C HN hg hg2;generalize conA (.mk m d kids) p=X at N8 O S;obtain⟨k2,n2,q17⟩:=X;have rk:=hdq O;have zr:=hdq S;clear O S;go_wp2_with fail;refine Z.out.mono ?_;rintro e w2 ⟨x,rfl,Q,a⟩;have P:=Q trivial;clear Q;obtain⟨B,c,rfl,hP⟩:=Lw P;obtain⟨y0,y1,y2,-,-,-⟩:=own3 (a.blk l);clear z0 z1 z2 P;go_wp2_with fail;refine(N8.out _ a _ _ hP).mono ?_;rintro e H ⟨r,rfl,Y,h3⟩;have zj:=j2.made Y;obtain⟨A2,c2,rfl,hl2,hc2,hK2⟩:=InT.mk_iff.1 zj;have N:=(a.trans h3).trans ((xr H).alloc (.cells #[.int .i64 k2,.int .i64 n2,.slice A2 q17.length c2] 25));obtain⟨K,I,L,f0,f1,f2⟩:=own3 (N.blk l);have Dl:=N.blk l;have qq:=N.blk E1;have Eu:wr.heap.size<=w2.heap.size:=a.size;have Gk:w2.heap.size<=H.heap.size:=h3.size;have KEEP:=hdq (fun(a0 a1 a2:Value) (b:Nat) (l:b < H.heap.size) (V:b≠w.heap.size)=>(show((((H.alloc (.cells #[.int .i64 k2,.int .i64 n2,.slice A2 q17.length c2] 25)).setCell ⟨w.heap.size,0,none⟩ a0).setCell ⟨w.heap.size,1,none⟩ a1).setCell ⟨w.heap.size,2,none⟩ a2).heap[b]? =H.heap[b]?from by
          rw[Below.heap_setCell _ _ _ _ V,Below.heap_setCell _ _ _ _ V,Below.heap_setCell _ _ _ _ V];exact((xr H).alloc _).heap b l))
         clear y0 y1 y2 l E1 Y zj;go_wp2_with fail
         go_roundw
         case rel=> exact⟨j+1,k2,n2,q17,A2,c2,hlt,by go_num,rk,zr,hl2,hc2,InK.mono (fun b l=>⟨by simp;omega,.inr (by omega)⟩) (fun b l=> KEEP.out _ _ _ b l.2 (by omega)) hK2,M6 (M6 (M6 Dl 0 _) 1 _) 2 _,bd (bd (bd qq (by simp) _) (by simp) _) (by simp) _,(((hx.trans N).setCell (by simp) _).setCell (by simp) _).setCell (by simp) _⟩
         case measure=> simp[intOf];omega
       · rw[if_neg S] at C
         rw[Vo HQ.out (Bool.eq_false_iff.2 S)] at O;rw[C] at N8;have HE:=hdq O.symm;clear C HN hg hg2 S O;go_wp2_with fail;refine Z.out.mono ?_;rintro e w2 ⟨x,rfl,Q,a⟩;have P:=Q trivial;clear Q;obtain⟨B,c,rfl,hP⟩:=Lw P;obtain⟨y0,y1,y2,-,-,-⟩:=own3 (a.blk l);clear z0 z1 z2 P;go_wp2_with fail;refine(N8.out _ a _ _ hP).mono ?_;rintro e H ⟨r,rfl,Y,h3⟩;obtain⟨b1,b2,b3,b4,b5,rfl⟩:=Y.three';have N:=(a.trans h3).trans ((xr H).alloc (.cells #[.int .i64 b1,.int .i64 b2,.slice b3 b4 b5] 25));obtain⟨K,I,L,f0,f1,f2⟩:=own3 (N.blk E1);clear y0 y1 y2;go_wp2_with fail;rw[HE.out];refine aO (v:= .tuple #[.agg #[.int .i64 0,.int .i64 0,.slice none 0 0],.int .i64 j,.int .i64 2]) (by simp[aQ,results96,go_sem,K,I,L]) rfl ⟨_,_,rfl,P0.leaf _ _ _ 0 0, ?_⟩;exact((((hx.trans N).setCell (by simp) _).setCell (by simp) _).setCell (by simp) _)
theorem wI(t:Tr)(f:Int)(w:World)(v:Value)(C:Lies w t v):
 Calls prog 125 #[v,.int .i64 f] w fun e D=> ∃r,e= .returned (.tuple #[r,.int .i64 (d7 t f).2])/\P0 w D 25 (d7 t f).1 r/\Ext w D:=by
 have z:=hdq (fun W (I:Ext w W)=> gF t f W v (C.ext I));obtain⟨S,hS⟩: ∃S,d7 t f=S:=⟨_,rfl⟩;rw[hS] at z⊢;obtain⟨k,n,q⟩:=t;obtain⟨A,cap,rfl,hl,hc,hK⟩:=Lies.mk_iff.1 C;clear hS;have a:=((xr w).alloc (.cells #[.int .i64 k,.int .i64 n,.slice A q.length cap] 25)).alloc (.cells #[.int .i64 0,.int .i64 0,.slice none 0 0] 25);obtain⟨l,b,m⟩:=W3 (xr ((w.alloc (.cells #[.int .i64 k,.int .i64 n,.slice A q.length cap] 25)).alloc (.cells #[.int .i64 0,.int .i64 0,.slice none 0 0] 25)));obtain⟨H,o⟩: ∃x,x=(w.alloc (.cells #[.int .i64 k,.int .i64 n,.slice A q.length cap] 25)).alloc (.cells #[.int .i64 0,.int .i64 0,.slice none 0 0] 25):=⟨_,rfl⟩;rw[<-o] at a l b m;go_enter func125,ntmps125;go_wp2_with fail;rw[<-o];clear o;refine(z.out _ a).mono ?_;rintro e B ⟨r,s,rfl,u,L⟩;obtain⟨g,j,c,i,d,rfl⟩:=u.three';have y:=L.trans ((xr B).alloc (.cells #[.int .i64 g,.int .i64 j,.slice c i d] 25));obtain⟨E,F,N,P,O,Q⟩:=own3 (y.blk b);have K:=u.ext ((xr B).alloc (.cells #[.int .i64 g,.int .i64 j,.slice c i d] 25));have J:w.heap.size+2<=H.heap.size:=by omega
 go_wp2_with fail;refine aO (v:= .tuple #[.agg #[.int .i64 g,.int .i64 j,.slice c i d],.int .i64 S.2]) (by simp[aQ,results125,go_sem,E,F,N]) rfl ⟨_,rfl,P0.since (K.after ((((pa.refl _ _).setCell (p:=⟨w.heap.size+1,0,none⟩) (by show w.heap.size+1 < _;omega) (.int .i64 g)).setCell (p:=⟨w.heap.size+1,1,none⟩) (by show w.heap.size+1 < _;omega) (.int .i64 j)).setCell (p:=⟨w.heap.size+1,2,none⟩) (by show w.heap.size+1 < _;omega) (.slice c i d))) (by omega), ?_⟩;exact((((a.trans y).setCell (by simp) _).setCell (by simp) _).setCell (by simp) _)
theorem UC{t:Tr}{f:Int}(h:j0 m0 t=true)(hf:kb f 0 200=true):we t f=T4 f.toNat t:=by
 unfold we;rw[h,hf]
 rfl
theorem gJ(a b:Tr)(f:Int)(w:World)(p D:Value)(ha:Lies w a p)(n:Lies w b D):
 Calls prog 17 #[p,D,.int .i64 f] w fun e w'=> e= .returned (.int .i64 (Sc a b f))/\Ext w w':=by
 have fj:=hdq (fun W (d:Ext w W)=> kr a W p (ha.ext d));have Cq:=hdq (fun W (d:Ext w W)=> kr b W D (n.ext d));have xd:=hdq (fun W (d:Ext w W)=> fJ a f W p (ha.ext d));have xe:=hdq (fun W (d:Ext w W)=> fJ b f W D (n.ext d));have Ah:=hdq (fun W (d:Ext w W)=> ZF a W b p D (ha.ext d) (n.ext d));have E:Sc a b f=if(j0 m0 a &&(j0 m0 b && kb f 0 200))=true then(if a=b then 1 else if(T4 f.toNat a).2=0/\(T4 f.toNat b).2=0 then(if(T4 f.toNat a).1=(T4 f.toNat b).1 then 1 else 2) else 3) else 0:=rfl
 have Dy:=fun(j:j0 m0 a=true) (i:kb f 0 200=true)=> UC j i
 have Dt:=fun(j:j0 m0 b=true) (i:kb f 0 200=true)=> UC j i
 obtain⟨C,hC⟩: ∃C,Sc a b f=C:=⟨_,rfl⟩;rw[hC] at E⊢;clear hC;obtain⟨za,Y0⟩: ∃z,j0 m0 a=z:=⟨_,rfl⟩;obtain⟨zb,V⟩: ∃z,j0 m0 b=z:=⟨_,rfl⟩;obtain⟨y,hy⟩: ∃y,kb f 0 200=y:=⟨_,rfl⟩;obtain⟨q,hq⟩: ∃q,L7 a b=q:=⟨_,rfl⟩;rw[Y0] at fj E Dy;rw[V] at Cq E Dt;rw[hy] at E Dy Dt;rw[hq] at Ah;have zt:(a=b)↔q=true:=by rw[<-hq];exact Xv.symm
 have HY:=hdq hy;have HQ:=hdq zt;have U:=hdq E;have HA:=hdq Dy;have HB:=hdq Dt;clear Y0 V hy hq zt E Dy Dt;obtain⟨k1,n1,qd⟩:=a;obtain⟨Z,n2,Q6⟩:=b;obtain⟨A1,c1,rfl,Q4,hc1,K9⟩:=Lies.mk_iff.1 ha;obtain⟨A2,c2,rfl,hl2,hc2,hK2⟩:=Lies.mk_iff.1 n;have k:=((xr w).alloc (.cells #[.int .i64 k1,.int .i64 n1,.slice A1 qd.length c1] 25)).alloc (.cells #[.int .i64 Z,.int .i64 n2,.slice A2 Q6.length c2] 25);obtain⟨g,c,hs2⟩:=W3 (xr ((w.alloc (.cells #[.int .i64 k1,.int .i64 n1,.slice A1 qd.length c1] 25)).alloc (.cells #[.int .i64 Z,.int .i64 n2,.slice A2 Q6.length c2] 25)));obtain⟨wS,F6⟩: ∃x,x=(w.alloc (.cells #[.int .i64 k1,.int .i64 n1,.slice A1 qd.length c1] 25)).alloc (.cells #[.int .i64 Z,.int .i64 n2,.slice A2 Q6.length c2] 25):=⟨_,rfl⟩;rw[<-F6] at k g c hs2;go_enter func17,ntmps17;go_wp2_with fail;rw[<-F6];clear F6;refine(fj.out _ k).mono ?_;rintro e w1 ⟨rfl,O⟩;have hx1:=k.trans O;cases za with
 |false=>
  have hr:C=0:=by rw[U.out];rfl
  have HR:=hdq hr;clear hr;go_wp2_with fail;go_ret;exact⟨by rw[HR.out];rfl,hx1⟩
 |true=>
  obtain⟨v,u,R,-⟩:=own3 (O.blk c);go_wp2_with fail;refine(Cq.out _ hx1).mono ?_;rintro e w2 ⟨rfl,e2⟩;have hx2:=hx1.trans e2;clear v u R;cases zb with
  |false=>
   have hr:C=0:=by rw[U.out];rfl
   have HR:=hdq hr;clear hr;go_wp2_with fail;go_ret;exact⟨by rw[HR.out];rfl,hx2⟩
  |true=>
   go_wp2_with fail;refine(ri f 0 200 w2).mono ?_;rintro e w3 ⟨rfl,rfl⟩;rw[HY.out];cases y with
   |false=>
    have hr:C=0:=by rw[U.out];rfl
    have HR:=hdq hr;clear hr;go_wp2_with fail;go_ret;exact⟨by rw[HR.out];rfl,hx2⟩
   |true=>
    have P:=HA.out (by simp) (by simp);have F:=HB.out (by simp) (by simp);rw[P] at xd;rw[F] at xe;have B7:=U.out;rw[Bool.and_self,Bool.and_self,if_pos rfl] at B7;have Q:=hdq B7;clear P F B7 U;obtain⟨q0,q1,m,-⟩:=own3 ((O.trans e2).blk g);obtain⟨v,u,R,-⟩:=own3 ((O.trans e2).blk c);go_wp2_with fail;refine(Ah.out _ hx2).mono ?_;rintro e w3 ⟨rfl,e3⟩;have hx3:=hx2.trans e3;clear q0 q1 m v u R;cases q with
    |true=>
     have hr:C=1:=by rw[Q.out,if_pos (HQ.out.2 rfl)]
     have HR:=hdq hr;clear hr;go_wp2_with fail;go_ret;exact⟨by rw[HR.out];rfl,hx3⟩
    |false=>
     have t:=Q.out;rw[if_neg (fun h=> by have:=HQ.out.1 h;cases this)] at t;obtain⟨S1,A⟩: ∃S,T4 f.toNat (.mk k1 n1 qd)=S:=⟨_,rfl⟩;obtain⟨S2,s⟩: ∃S,T4 f.toNat (.mk Z n2 Q6)=S:=⟨_,rfl⟩;rw[A] at xd t;rw[s] at xe t;obtain⟨⟨B,N,Y⟩,s1⟩:=S1;obtain⟨⟨J,X,H⟩,s2⟩:=S2;have ix:=hdq t;clear A s t;have eb:=(O.trans e2).trans e3;obtain⟨q0,q1,m,-⟩:=own3 (eb.blk g);go_wp2_with fail;refine(xd.out _ hx3).mono ?_;rintro e l ⟨r,rfl,xq,e4⟩;have K:=xq.lies;obtain⟨A3,c3,rfl,Y2,hc3,hK3⟩:=Lies.mk_iff.1 K;obtain⟨w5,p6⟩: ∃x,x=l.alloc (.cells #[.int .i64 B,.int .i64 N,.slice A3 Y.length c3] 25):=⟨_,rfl⟩;have e5:Ext l w5:=p6▸(xr l).alloc _;have L6:w5.heap[l.heap.size]? =some (.cells #[.int .i64 B,.int .i64 N,.slice A3 Y.length c3] 25 (0,0)):=p6▸aR l _;obtain⟨v,u,R,-⟩:=own3 (((eb.trans e4).trans e5).blk c);have hs5:l.heap.size < w5.heap.size:=O1 L6;have O5:=(hx3.trans e4).trans e5;have p04:=own3 ((eb.trans e4).blk c);obtain⟨r0,r1,r2,-⟩:=p04;have lz1:=O1 ((eb.trans e4).blk c);clear q0 q1 m xq;go_wp2_with fail;rw[<-p6];clear p6 r0 r1 r2;refine(xe.out _ O5).mono ?_;rintro e I ⟨r,rfl,Bc,e6⟩;have T:=Bc.lies;obtain⟨A4,c4,rfl,hl4,hc4,hK4⟩:=Lies.mk_iff.1 T;obtain⟨w7,o⟩: ∃x,x=I.alloc (.cells #[.int .i64 J,.int .i64 X,.slice A4 H.length c4] 25):=⟨_,rfl⟩;have e7:Ext I w7:=o▸(xr I).alloc _;have Dl:w7.heap[I.heap.size]? =some (.cells #[.int .i64 J,.int .i64 X,.slice A4 H.length c4] 25 (0,0)):=o▸aR I _;have Iy:=(O5.trans e6).trans e7;clear v u R Bc;by_cases j:s1=0
     · subst j
       by_cases i:s2=0
       · subst i
         obtain⟨d0,d1,d2,-⟩:=own3 (e6.blk L6);have lz2:=O1 (e6.blk L6);have L:=hdq (ZF (.mk B N Y) w7 (.mk J X H) _ _ (((K.ext e5).ext e6).ext e7) (T.ext e7));obtain⟨m,En⟩: ∃q,L7 (.mk B N Y) (.mk J X H)=q:=⟨_,rfl⟩;have hr:C=if m=true then 1 else 2:=by
          rw[ix.out,if_pos ⟨rfl,rfl⟩,<-En];by_cases he:Tr.mk B N Y=Tr.mk J X H
          · rw[if_pos he,if_pos (Xv.2 he)]
          · rw[if_neg he,if_neg (fun h=> he (Xv.1 h))]
         rw[En] at L;have HR:=hdq hr;clear hr En;go_wp2_with fail;rw[<-o];clear o;refine L.out.mono ?_;rintro e w8 ⟨rfl,e8⟩;cases m
         all_goals(
          go_wp2_with fail;go_ret;exact⟨by rw[HR.out];rfl,Iy.trans e8⟩)
       · have hr:C=3:=by rw[ix.out,if_neg (fun h=> i h.2)]
         have n:(s2 !=0)=true:=by simpa using i
         have HR:=hdq hr;clear hr;go_wp2_with fail;rw[<-o];go_ret;exact⟨by rw[HR.out];rfl,Iy⟩
     · have hr:C=3:=by rw[ix.out,if_neg (fun h=> j h.1)]
       have n:(s1 !=0)=true:=by simpa using j
       have HR:=hdq hr;clear hr;go_wp2_with fail;rw[<-o];go_ret;exact⟨by rw[HR.out];rfl,Iy⟩
end Go.Proofs.YtckhbnmfnpolgaaGreat
namespace Go.Proofs.YtckhbnmfnpolgaaGreat
open Go.RowKit
open M (Hd HR Cv Ty M2 zc y6 W4 Ye)
def V4(x y:An):Prop:= ∀r,x=some r->y=some r
theorem V4.rfl'(x:An):V4 x x:=fun _ h=> h
theorem V4.thn{x y:An}{f g:Tr->An}(h:V4 x y)(k: ∀s,V4 (f s) (g s)):V4 (thn x f) (thn y g):=by
 intro r e;cases x with
 |none=> cases e
 |some p=>
  rw[h p rfl];obtain⟨s,c⟩:=p;unfold Go.Proofs.YtckhbnmfnpolgaaGreat.thn at e⊢;simp only at e⊢
  split
  · rename_i hc
    rw[if_pos hc] at e;exact k s r e
  · rename_i hc
    rw[if_neg hc] at e;exact e
theorem V4.frm{x y:An}(kind:Int)(h:V4 x y):V4 (V0 x kind) (V0 y kind):=h.thn fun _=> V4.rfl' _
theorem V4.chk{x y u v:An}(w:Tr)(h:V4 x y)(k:V4 u v):V4 (P3 x w u) (P3 y w v):=h.thn fun s=> by
 split
 · exact k
 · exact V4.rfl' _
theorem V4.fam{x y u v:An}(T:Tr)(h:V4 x y)(k:V4 u v):V4 (da x T u) (da y T v):=(h.frm 3).thn fun s=> by
 split
 · exact(V4.rfl' _).thn fun _=> k
 · exact V4.rfl' _
theorem V4.jud{G:List Tr}{d e:Tr->An}{ty b:Nat->An}(h: ∀t,V4 (d t) (e t))(k: ∀i,V4 (ty i) (b i))(c n:Int)(f:List Tr):V4 (Vb G d ty c n f) (Vb G e b c n f):=by
 unfold Vb;by_cases a:c=1
 · rw[if_pos a,if_pos a];exact V4.rfl' _
 rw[if_neg a,if_neg a];by_cases a:c=2
 · rw[if_pos a,if_pos a];exact V4.rfl' _
 rw[if_neg a,if_neg a];by_cases a:c=6
 · rw[if_pos a,if_pos a];exact V4.rfl' _
 rw[if_neg a,if_neg a];by_cases a:c=7
 · rw[if_pos a,if_pos a];exact V4.rfl' _
 rw[if_neg a,if_neg a];by_cases a:c=8
 · rw[if_pos a,if_pos a];exact(k 0).chk _ (V4.rfl' _)
 rw[if_neg a,if_neg a];by_cases a:c=3\/c=13
 · rw[if_pos a,if_pos a];exact((k 0).frm 2).thn fun _=>((k 1).frm 2).thn fun _=> V4.rfl' _
 rw[if_neg a,if_neg a];by_cases a:c=4
 · rw[if_pos a,if_pos a];exact((k 0).frm 2).thn fun _=>(k 1).thn fun _=>(V4.rfl' _).thn fun o=>(h o).thn fun _=> V4.rfl' _
 rw[if_neg a,if_neg a];by_cases a:c=5
 · rw[if_pos a,if_pos a];exact((k 0).frm 3).thn fun _=>(k 1).chk _ (V4.rfl' _)
 rw[if_neg a,if_neg a];by_cases a:c=9
 · rw[if_pos a,if_pos a];exact(k 0).fam _ ((V4.rfl' _).thn fun _=>(k 1).chk _ ((V4.rfl' _).thn fun _=>(k 2).chk _ ((k 3).chk _ (V4.rfl' _))))
 rw[if_neg a,if_neg a];by_cases a:c=10
 · rw[if_pos a,if_pos a];exact((k 0).frm 2).thn fun _=>(k 1).chk _ ((k 2).chk _ (V4.rfl' _))
 rw[if_neg a,if_neg a];by_cases a:c=11
 · rw[if_pos a,if_pos a];exact(k 0).thn fun s=>((h s).frm 2).thn fun _=> V4.rfl' _
 rw[if_neg a,if_neg a];by_cases a:c=12
 · rw[if_pos a,if_pos a];exact((k 1).frm 10).thn fun _=>(k 0).fam _ ((V4.rfl' _).thn fun _=>(k 2).chk _ (V4.rfl' _))
 rw[if_neg a,if_neg a];by_cases a:c=14
 · rw[if_pos a,if_pos a];exact((k 0).frm 2).thn fun _=>(V4.rfl' _).thn fun _=>(k 1).chk _ ((V4.rfl' _).thn fun _=>(k 2).chk _ (V4.rfl' _))
 rw[if_neg a,if_neg a];exact((k 0).frm 13).thn fun _=> V4.rfl' _
theorem Qo: ∀(f:Nat) (G:List Tr) (t:Tr),V4 (N0 f G t) (N0 (f+1) G t)
 |0,G,t=> fun r h=> by cases h
 |f+1,G,.mk k n a=> V4.jud (Qo f G) (fun i=> by
  unfold ga
  split
  · exact Qo f G _
  · split
    · exact V4.rfl' _
    · exact Qo f _ _) k n a
theorem Fi{f a:Nat}(h:f<=a)(G:List Tr)(t:Tr):V4 (N0 f G t) (N0 a G t):=by
 induction h with
 |refl=> exact V4.rfl' _
 |step _ ih=> exact fun r e=> Qo _ G t r (ih r e)
def bc(G:List Tr)(t:Tr):Prop:= ∃f r,N0 f G t=some r
def Is(x:An):Prop:= ∃r,x=some r
theorem Is.mk(r:Tr×Int):Is (some r):=⟨r,rfl⟩
theorem Is.thn{x:An}{f:Tr->An}(h:Is x)(k: ∀s,x=some (s,0)->Is (f s)):Is (thn x f):=by
 obtain⟨⟨s,c⟩,e⟩:=h;subst e;unfold Go.Proofs.YtckhbnmfnpolgaaGreat.thn;simp only
 split
 · rename_i hc
   subst hc;exact k s rfl
 · exact Is.mk _
theorem Is.frm{x:An}(kind:Int)(h:Is x):Is (V0 x kind):=h.thn fun _ _=> Is.mk _
theorem Is.chk{x y:An}(w:Tr)(h:Is x)(k:Is y):Is (P3 x w y):=h.thn fun s _=> by
 split
 · exact k
 · exact Is.mk _
theorem Is.fam{x y:An}(T:Tr)(h:Is x)(k:Is y):Is (da x T y):=(h.frm 3).thn fun s _=> by
 split
 · exact(Is.mk _).thn fun _ _=> k
 · exact Is.mk _
theorem Is.le{x y:An}(h:Is x)(k:V4 x y):Is y:=by
 obtain⟨r,e⟩:=h;exact⟨r,k r e⟩
theorem bc.at{G:List Tr}{t:Tr}(h:bc G t): ∃f,∀a,f<=a->Is (N0 a G t):=by
 obtain⟨f,r,e⟩:=h;exact⟨f,fun a hf=>⟨r,Fi hf G t r e⟩⟩
theorem bc.of{G:List Tr}{t:Tr}{f:Nat}(h:Is (N0 f G t)):bc G t:=by
 obtain⟨r,e⟩:=h;exact⟨f,r,e⟩
section
variable {G : List M.Tm}
theorem ZC{f:Nat}{k:Int}{A t:M.Tm}(hk:E4 k 1=1)(h:G.length < 20->Is (N0 f (ctxE (A::G)) (enc t))):Is (ga (N0 f) (ctxE G) k [enc A,enc t] 1):=by
 rw[tm _ _ hk]
 split
 · exact Is.mk _
 · rename_i a
   rw[y26] at a;rw[show ctxE G++ [kd [enc A,enc t] 0]=ctxE (A::G) from(md A G).symm];exact h (by omega)
theorem ro(hG:X6 G)(j: ∀A,y6 G A->j0 m0 (enc A)=true->G.length < 20-> ∀t,j0 m0 (enc t)=true->bc (ctxE (A::G)) (enc t)){A:M.Tm}(hA:j0 m0 (enc A)=true)(h:bc (ctxE G) (enc A))(t:M.Tm)(ht:j0 m0 (enc t)=true):
 ∃f,∀a,f<=a->Is (N0 a (ctxE G) (enc A))/\ ∀s,V0 (N0 a (ctxE G) (enc A)) 2=some (s,0)->G.length < 20->Is (N0 a (ctxE (A::G)) (enc t)):=by
 obtain⟨c,d⟩:=h.at;by_cases e: ∃s,V0 (N0 c (ctxE G) (enc A)) 2=some (s,0)
 · obtain⟨s,hs⟩:=e
   obtain⟨S,i,-,-,-,-,b,-⟩:=Ld (snd c) hG hA hs;by_cases hl:G.length < 20
   · obtain⟨k,g⟩:=(j A b hA hl t ht).at
     exact⟨max c k,fun a hf=>⟨d a (by omega),fun _ _ _=> g a (by omega)⟩⟩
   · exact⟨c,fun a hf=>⟨d a hf,fun _ _ h=> absurd h hl⟩⟩
 · refine⟨c,fun a hf=>⟨d a hf,fun s hs=> ?_⟩⟩
   exfalso
   obtain⟨r,hr⟩:=d c (aM _);have:=Fi hf (ctxE G) (enc A) r hr;rw[this] at hs;rw[hr] at e;exact e ⟨s,hs⟩
theorem j8{k n:Int}{a:List Tr}{x:Tr}(h:j0 m0 (.mk k n a)=true)(hm:x∈a):j0 m0 x=true:=UA h hm
def Xx(G:List M.Tm)(t:M.Tm):Prop:=j0 m0 (enc t)=true->bc (ctxE G) (enc t)
theorem jA(hG:X6 G)(D: ∀A,y6 G A->j0 m0 (enc A)=true->G.length < 20-> ∀t,j0 m0 (enc t)=true->bc (ctxE (A::G)) (enc t)):Ye G (Xx G) where
 var:=fun n hv=> bc.of (f:=1) ⟨_,rfl⟩
 sort:=fun n hv=> bc.of (f:=1) ⟨(if(n:Int)=3 then(E2,(1:Int)) else(m6 ((n:Int)+1),0)),by simp[enc,N0,Vb]⟩
 nat:=fun hv=> bc.of (f:=1) ⟨_,rfl⟩
 zero:=fun hv=> bc.of (f:=1) ⟨_,rfl⟩
 succ:=fun{a} h hv=> by
  obtain⟨f,c⟩:=(h (j8 hv (by simp))).at;exact bc.of (f:=f+1) ((c f (aM _)).chk i5 (Is.mk _))
 pi:=fun{A} B h hv=> by
  obtain⟨f,c⟩:=ro hG D (j8 hv (by simp)) (h (j8 hv (by simp))) B (j8 hv (by simp));obtain⟨l,m⟩:=c f (aM _);exact bc.of (f:=f+1) ((l.frm 2).thn fun s hs=>((ZC rfl (m s hs)).frm 2).thn fun _ _=> Is.mk _)
 sg:=fun{A} B h hv=> by
  obtain⟨f,c⟩:=ro hG D (j8 hv (by simp)) (h (j8 hv (by simp))) B (j8 hv (by simp));obtain⟨l,m⟩:=c f (aM _);exact bc.of (f:=f+1) ((l.frm 2).thn fun s hs=>((ZC rfl (m s hs)).frm 2).thn fun _ _=> Is.mk _)
 lam:=fun{A} t h hv=> by
  have hA:=j8 hv (show enc A∈ [enc A,enc t] by simp);obtain⟨f,c⟩:=ro hG D hA (h hA) t (j8 hv (by simp));obtain⟨l,m⟩:=c f (aM _);by_cases y: ∃s b,V0 (N0 f (ctxE G) (enc A)) 2=some (s,0)/\ga (N0 f) (ctxE G) 4 [enc A,enc t] 1=some (b,0)/\j0 m0 (.mk 3 0 [enc A,b])=true
  · obtain⟨s,b,E,C,e3⟩:=y
    obtain⟨S,i,-,-,-,-,V,-⟩:=Ld (snd f) hG hA E;have hl:G.length < 20:=by have:=(Yq rfl C).1;rwa [y26] at this
    obtain⟨B,rfl,-,-,vB⟩:=snd f (A::G) t b (hG.cons V hA) (j8 hv (by simp)) (cB rfl C);obtain⟨d,F⟩:=ro hG D hA (h hA) B vB;refine bc.of (f:=max f d+2) ?_;obtain⟨r2,-⟩:=c (max f d+1) (by omega);refine(r2.frm 2).thn fun x Y=>(ZC rfl fun J=>(c (max f d+1) (by omega)).2 x Y J).thn fun Q K=>(Is.mk _).thn fun o I=> ?_
    have N:Q=enc B:=by
     have R:ga (N0 (max f d+1)) (ctxE G) 4 [enc A,enc t] 1=some (enc B,0):=by
      have P:=(Yq rfl C).2;rw[tm _ _ rfl,if_neg (by rw[y26];omega)];exact Fi (by omega) _ _ _ P
     rw[R] at K
     simpa using K.symm
    subst N;obtain⟨v,rfl⟩:=Tf I;refine Is.thn ?_ fun _ _=> Is.mk _
    obtain⟨r3,X⟩:=F (max f d) (by omega);exact(r3.frm 2).thn fun s hs=>((ZC (f:=max f d) rfl (X s hs)).frm 2).thn fun _ _=> Is.mk _
  · refine bc.of (f:=f+1) ?_
    refine(l.frm 2).thn fun s E=>(ZC rfl (m s E)).thn fun b C=>(Is.mk _).thn fun o I=> ?_
    obtain⟨v,-⟩:=Tf I;exact absurd ⟨s,b,E,C,v⟩ y
 app:=fun{g a} h k hv=> by
  obtain⟨j,c⟩:=(h (j8 hv (by simp))).at;obtain⟨d,l⟩:=(k (j8 hv (by simp))).at;exact bc.of (f:=max j d+1) (((c _ (Nat.le_max_left ..)).frm 3).thn fun _ _=>(l _ (Nat.le_max_right ..)).chk _ (Is.mk _))
 elim:=fun{p z s a} c l m F hv=> by
  obtain⟨j,q⟩:=(c (j8 hv (by simp))).at;obtain⟨d,r⟩:=(l (j8 hv (by simp))).at;obtain⟨w,u⟩:=(m (j8 hv (by simp))).at;obtain⟨Z,U⟩:=(F (j8 hv (by simp))).at;exact bc.of (f:=j+d+w+Z+1) ((q _ (by omega)).fam _ ((Is.mk _).thn fun _ _=>(r _ (by omega)).chk _ ((Is.mk _).thn fun _ _=>(u _ (by omega)).chk _ ((U _ (by omega)).chk _ (Is.mk _)))))
 id:=fun{T a b} c l m hv=> by
  obtain⟨j,q⟩:=(c (j8 hv (by simp))).at;obtain⟨d,r⟩:=(l (j8 hv (by simp))).at;obtain⟨w,u⟩:=(m (j8 hv (by simp))).at;exact bc.of (f:=j+d+w+1) (((q _ (by omega)).frm 2).thn fun _ _=>(r _ (by omega)).chk _ ((u _ (by omega)).chk _ (Is.mk _)))
 refl:=fun{a} h k hv=> by
  have L:=j8 hv (show enc a∈ [enc a] by simp);obtain⟨j,q⟩:=(h L).at;by_cases y: ∃s,N0 j (ctxE G) (enc a)=some (s,0)
  · obtain⟨s,e⟩:=y
    obtain⟨A,rfl,W,-,O⟩:=snd j G a s hG L e;obtain⟨d,r⟩:=(k A W O).at;refine bc.of (f:=j+d+1) ((q _ (by omega)).thn fun x H=> ?_);have:x=enc A:=by
     have:=Fi (show j<=j+d by omega) _ _ _ e;rw[show N0 (j+d) (ctxE G) (enc a)=some (x,0) from H] at this
     simpa using this
    subst this;exact((r (j+d) (by omega)).frm 2).thn fun _ _=> Is.mk _
  · refine bc.of (f:=j+1) ((q _ (by omega)).thn fun x H=> ?_)
    exact absurd ⟨x,H⟩ y
 move:=fun{p e a} c l m hv=> by
  obtain⟨j,q⟩:=(c (j8 hv (by simp))).at;obtain⟨d,r⟩:=(l (j8 hv (by simp))).at;obtain⟨w,u⟩:=(m (j8 hv (by simp))).at;exact bc.of (f:=j+d+w+1) (((r _ (by omega)).frm 10).thn fun _ _=>(q _ (by omega)).fam _ ((Is.mk _).thn fun _ _=>(u _ (by omega)).chk _ (Is.mk _)))
 pair:=fun{T a b} c l m hv=> by
  obtain⟨j,q⟩:=(c (j8 hv (by simp))).at;obtain⟨d,r⟩:=(l (j8 hv (by simp))).at;obtain⟨w,u⟩:=(m (j8 hv (by simp))).at;exact bc.of (f:=j+d+w+1) (((q _ (by omega)).frm 2).thn fun _ _=>(Is.mk _).thn fun _ _=>(r _ (by omega)).chk _ ((Is.mk _).thn fun _ _=>(u _ (by omega)).chk _ (Is.mk _)))
 fst:=fun{a} h hv=> by
  obtain⟨f,c⟩:=(h (j8 hv (by simp))).at;exact bc.of (f:=f+1) (((c f (aM _)).frm 13).thn fun _ _=> Is.mk _)
 snd:=fun{a} h hv=> by
  obtain⟨f,c⟩:=(h (j8 hv (by simp))).at;exact bc.of (f:=f+1) (((c f (aM _)).frm 13).thn fun _ _=> Is.mk _)
end
theorem tt: ∀(d:Nat) (G:List M.Tm),20<=G.length+d->X6 G-> ∀t,Xx G t:=by
 intro d
 induction d with
 |zero=>
  intro G hd hG;have a: ∀A,y6 G A->j0 m0 (enc A)=true->G.length < 20-> ∀t,j0 m0 (enc t)=true->bc (ctxE (A::G)) (enc t):=fun A _ _ h=> by omega
  exact fun t=> M.allW (jA hG a) hG.wf.wf t
 |succ d ih=>
  intro G hd hG;have a: ∀A,y6 G A->j0 m0 (enc A)=true->G.length < 20-> ∀t,j0 m0 (enc t)=true->bc (ctxE (A::G)) (enc t):=fun A b v h t=> ih (A::G) (by simp only[bY];omega) (hG.cons b v) t
  exact fun t=> M.allW (jA hG a) hG.wf.wf t
