/-
  Lemmas towards the law, 25: Head, Conv, MTot.
-/
import Derived.Test.YtckhbnmfnpolgaaGreatC00
import Derived.Test.YtckhbnmfnpolgaaGreatCAX
open Go.Value renaming int->eU,ownBlock->fZ
open Go renaming heap_alloc_new->aS,bodyPost_ret->aP,results->aR
open List renaming length_cons->cN
open Nat renaming zero_mul->cW,one_mul->fP,reduceMul->fL,add_zero->cU,add_assoc->dV,reduceAdd->dW,le_refl->aN
open Go.World renaming ownsRow_lit->fR,ownsRow_nil->fW
open Go.Proofs.Tryz
set_option linter.all false
set_option maxHeartbeats 4000000
set_option maxRecDepth 100000
namespace Go.Proofs.YtckhbnmfnpolgaaGreat
open Go.RowKit
def AK(t:Tr):Prop:= ∀(w:World) (v:Value) (d:Int),P0 D0 t d=true->Lies w t v->d<=1000->Calls prog 160 #[v] w fun e a=> ∃x,e= .returned (.tuple #[x,.bool (p4 t).2])/\a.ownsRow w.heap.size 3 1 x (p4 t).1.length ((p4 t).1.map (eU .i64))/\Ext w a
theorem BH: ∀t:Tr,AK t:=Tr.ind fun k n a hk=> by
 intro w v d hsh b8 hd;have HR:=hdq (fun V (hV:Ext w V)=> Lr (.mk k n a) d hsh V v (b8.ext hV));obtain⟨Z,-,-,s⟩:=zw hsh;have m:(p4 (.mk k n a)).1.length<=1000:=by have:=JA (.mk k n a) d hsh;omega
 obtain⟨A,cap,rfl,hl,hc,hK⟩:=Lies.mk_iff.1 b8;obtain⟨i0,hi,hz0,hz1,hz2⟩:=info_parts WC;have hcc:=hc;unfold maxLen at hcc;have c:=(xr w).alloc (.cells #[.int .i64 k,.int .i64 n,.slice A a.length cap] 25);have I:=aS w (.cells #[.int .i64 k,.int .i64 n,.slice A a.length cap] 25);obtain⟨r,hr⟩: ∃r,rdx k a=r:=⟨_,rfl⟩;have Y:=hdq (show∀V,Ext w V->Calls prog 133 #[.agg #[.int .i64 k,.int .i64 n,.slice A a.length cap]] V fun e w'=> e= .returned (.int .i64 r)/\Ext V w' from fun V hV=> by have:=HR.out V hV;rw[show Y3 (.mk k n a)=r from hr] at this;exact this);have O:=hdq hr;clear hr HR;by_cases h0:r=0
 · have hb0:(r !=0)=false:=by rw[h0];rfl
   subst h0;by_cases hm:k=5\/k=15\/k=16\/k=9\/k=12
   · rcases hm with rfl|rfl|rfl|rfl|rfl
     · have l:a.length=2:=by have:(2:Int)=(a.length:Int):=Z;omega
       have hlt:(0:Int) <(a.length:Int):=by omega
       have D:0 < a.length:=by omega
       have u:p4 (.mk 5 n a)=((0:Int)::(p4 (kd a 0)).1,(p4 (kd a 0)).2):=by rw[p4,if_neg (by rw[O.out];decide)];rw[<-ak D];rfl
       rw[u] at m⊢;obtain⟨b,o,Q,P,A',U,kids,rfl,N,y,H,C,I5,I3,hK',x7,T⟩:=hK.get (j:=0) (xr w) D;have R:kd a 0= .mk Q P kids:=be D N.out;have B:=hdq (fun W (hx:Ext w W)=> hk _ T W _ (d - 1) (s _ T) (x7.ext hx) (by omega));rw[R] at m⊢;generalize p4 (.mk Q P kids)=q at m B⊢;obtain⟨p,z⟩:=q;simp only[cN] at m;have hpl:p.length<=1000:=by omega
       simp only[cW,fP,fL,cU,dV,dW] at y H C;clear b8 O Z l u R N m s hk;go_enter func160,ntmps160;go_wp2_with fail;refine(Y.out _ c).mono ?_;rintro e w1 ⟨rfl,i⟩;obtain⟨z0,z1,z2,-,-,-⟩:=own3 (i.blk I);have lz:=O1 (i.blk I);have hx1:=c.trans i;have d0:=hx1.cell y;have d1:=hx1.cell H;have d2:=hx1.cell C;clear I i c Y y H C;go_wp2_with fail;refine(B.out _ hx1).mono ?_;rintro e f ⟨x,rfl,E,h2⟩;have X:=Xx E;obtain⟨Bq,cq,rfl,-,-,-⟩:=mu E;have hx2:=hx1.trans h2;have hx3:=(xr f).alloc (.cells #[.int .i64 0] 3);have hG:(f.alloc (.cells #[.int .i64 0] 3)).ownsRow f.heap.size 3 1 (.slice (some ⟨f.heap.size,0,none⟩) 1 1) ([(0:Int)]).length (([(0:Int)]).map (eU .i64)):=fR f #[.int .i64 0] 1 (aN _) (by decide) rfl;have V2:=X.ext hx3;clear B X E z0 z1 z2 d0 d1 d2;go_wp2_with (at_builtin;refine Yx _ rfl (.tmp 32) (.tmp 33) 93 rfl f.heap.size 3 i0 _ 8 underlying93 hi hz0 hz1 hz2 (by decide) rfl (ns:= [(0:Int)]) (p:=p) rfl hG (by simp) rfl V2 (by simp;omega) ?_)
       intro va K L S mi;have mg:Ext w K:=hx2.trans (hx3.grown S (by intro g hg;simp[fZ] at hg;omega));have F:=hx2.size;have J:K.ownsRow w.heap.size 3 1 va ((0:Int)::p).length ((((0:Int)::p)).map (eU .i64)):=rx L F;have lq:=hdq J;clear L S mi J;go_wp2_with fail;go_ret2;exact⟨_,rfl,lq.out,mg⟩
     · have l:a.length=1:=by have:(1:Int)=(a.length:Int):=Z;omega
       have hlt:(0:Int) <(a.length:Int):=by omega
       have D:0 < a.length:=by omega
       have u:p4 (.mk 15 n a)=((0:Int)::(p4 (kd a 0)).1,(p4 (kd a 0)).2):=by rw[p4,if_neg (by rw[O.out];decide)];rw[<-ak D];rfl
       rw[u] at m⊢;obtain⟨b,o,Q,P,A',U,kids,rfl,N,y,H,C,I5,I3,hK',x7,T⟩:=hK.get (j:=0) (xr w) D;have R:kd a 0= .mk Q P kids:=be D N.out;have B:=hdq (fun W (hx:Ext w W)=> hk _ T W _ (d - 1) (s _ T) (x7.ext hx) (by omega));rw[R] at m⊢;generalize p4 (.mk Q P kids)=q at m B⊢;obtain⟨p,z⟩:=q;simp only[cN] at m;have hpl:p.length<=1000:=by omega
       simp only[cW,fP,fL,cU,dV,dW] at y H C;clear b8 O Z l u R N m s hk;go_enter func160,ntmps160;go_wp2_with fail;refine(Y.out _ c).mono ?_;rintro e w1 ⟨rfl,i⟩;obtain⟨z0,z1,z2,-,-,-⟩:=own3 (i.blk I);have lz:=O1 (i.blk I);have hx1:=c.trans i;have d0:=hx1.cell y;have d1:=hx1.cell H;have d2:=hx1.cell C;clear I i c Y y H C;go_wp2_with fail;refine(B.out _ hx1).mono ?_;rintro e f ⟨x,rfl,E,h2⟩;have X:=Xx E;obtain⟨Bq,cq,rfl,-,-,-⟩:=mu E;have hx2:=hx1.trans h2;have hx3:=(xr f).alloc (.cells #[.int .i64 0] 3);have hG:(f.alloc (.cells #[.int .i64 0] 3)).ownsRow f.heap.size 3 1 (.slice (some ⟨f.heap.size,0,none⟩) 1 1) ([(0:Int)]).length (([(0:Int)]).map (eU .i64)):=fR f #[.int .i64 0] 1 (aN _) (by decide) rfl;have V2:=X.ext hx3;clear B X E z0 z1 z2 d0 d1 d2;go_wp2_with (at_builtin;refine Yx _ rfl (.tmp 32) (.tmp 33) 93 rfl f.heap.size 3 i0 _ 8 underlying93 hi hz0 hz1 hz2 (by decide) rfl (ns:= [(0:Int)]) (p:=p) rfl hG (by simp) rfl V2 (by simp;omega) ?_)
       intro va K L S mi;have mg:Ext w K:=hx2.trans (hx3.grown S (by intro g hg;simp[fZ] at hg;omega));have F:=hx2.size;have J:K.ownsRow w.heap.size 3 1 va ((0:Int)::p).length ((((0:Int)::p)).map (eU .i64)):=rx L F;have lq:=hdq J;clear L S mi J;go_wp2_with fail;go_ret2;exact⟨_,rfl,lq.out,mg⟩
     · have l:a.length=1:=by have:(1:Int)=(a.length:Int):=Z;omega
       have hlt:(0:Int) <(a.length:Int):=by omega
       have D:0 < a.length:=by omega
       have u:p4 (.mk 16 n a)=((0:Int)::(p4 (kd a 0)).1,(p4 (kd a 0)).2):=by rw[p4,if_neg (by rw[O.out];decide)];rw[<-ak D];rfl
       rw[u] at m⊢;obtain⟨b,o,Q,P,A',U,kids,rfl,N,y,H,C,I5,I3,hK',x7,T⟩:=hK.get (j:=0) (xr w) D;have R:kd a 0= .mk Q P kids:=be D N.out;have B:=hdq (fun W (hx:Ext w W)=> hk _ T W _ (d - 1) (s _ T) (x7.ext hx) (by omega));rw[R] at m⊢;generalize p4 (.mk Q P kids)=q at m B⊢;obtain⟨p,z⟩:=q;simp only[cN] at m;have hpl:p.length<=1000:=by omega
       simp only[cW,fP,fL,cU,dV,dW] at y H C;clear b8 O Z l u R N m s hk;go_enter func160,ntmps160;go_wp2_with fail;refine(Y.out _ c).mono ?_;rintro e w1 ⟨rfl,i⟩;obtain⟨z0,z1,z2,-,-,-⟩:=own3 (i.blk I);have lz:=O1 (i.blk I);have hx1:=c.trans i;have d0:=hx1.cell y;have d1:=hx1.cell H;have d2:=hx1.cell C;clear I i c Y y H C;go_wp2_with fail;refine(B.out _ hx1).mono ?_;rintro e f ⟨x,rfl,E,h2⟩;have X:=Xx E;obtain⟨Bq,cq,rfl,-,-,-⟩:=mu E;have hx2:=hx1.trans h2;have hx3:=(xr f).alloc (.cells #[.int .i64 0] 3);have hG:(f.alloc (.cells #[.int .i64 0] 3)).ownsRow f.heap.size 3 1 (.slice (some ⟨f.heap.size,0,none⟩) 1 1) ([(0:Int)]).length (([(0:Int)]).map (eU .i64)):=fR f #[.int .i64 0] 1 (aN _) (by decide) rfl;have V2:=X.ext hx3;clear B X E z0 z1 z2 d0 d1 d2;go_wp2_with (at_builtin;refine Yx _ rfl (.tmp 32) (.tmp 33) 93 rfl f.heap.size 3 i0 _ 8 underlying93 hi hz0 hz1 hz2 (by decide) rfl (ns:= [(0:Int)]) (p:=p) rfl hG (by simp) rfl V2 (by simp;omega) ?_)
       intro va K L S mi;have mg:Ext w K:=hx2.trans (hx3.grown S (by intro g hg;simp[fZ] at hg;omega));have F:=hx2.size;have J:K.ownsRow w.heap.size 3 1 va ((0:Int)::p).length ((((0:Int)::p)).map (eU .i64)):=rx L F;have lq:=hdq J;clear L S mi J;go_wp2_with fail;go_ret2;exact⟨_,rfl,lq.out,mg⟩
     · have l:a.length=4:=by have:(4:Int)=(a.length:Int):=Z;omega
       have hlt:(3:Int) <(a.length:Int):=by omega
       have D:3 < a.length:=by omega
       have u:p4 (.mk 9 n a)=((3:Int)::(p4 (kd a 3)).1,(p4 (kd a 3)).2):=by rw[p4,if_neg (by rw[O.out];decide)];rw[<-ak D];rfl
       rw[u] at m⊢;obtain⟨b,o,Q,P,A',U,kids,rfl,N,y,H,C,I5,I3,hK',x7,T⟩:=hK.get (j:=3) (xr w) D;have R:kd a 3= .mk Q P kids:=be D N.out;have B:=hdq (fun W (hx:Ext w W)=> hk _ T W _ (d - 1) (s _ T) (x7.ext hx) (by omega));rw[R] at m⊢;generalize p4 (.mk Q P kids)=q at m B⊢;obtain⟨p,z⟩:=q;simp only[cN] at m;have hpl:p.length<=1000:=by omega
       simp only[cW,fP,fL,cU,dV,dW] at y H C;clear b8 O Z l u R N m s hk;go_enter func160,ntmps160;go_wp2_with fail;refine(Y.out _ c).mono ?_;rintro e w1 ⟨rfl,i⟩;obtain⟨z0,z1,z2,-,-,-⟩:=own3 (i.blk I);have lz:=O1 (i.blk I);have hx1:=c.trans i;have d0:=hx1.cell y;have d1:=hx1.cell H;have d2:=hx1.cell C;clear I i c Y y H C;go_wp2_with fail;refine(B.out _ hx1).mono ?_;rintro e f ⟨x,rfl,E,h2⟩;have X:=Xx E;obtain⟨Bq,cq,rfl,-,-,-⟩:=mu E;have hx2:=hx1.trans h2;have hx3:=(xr f).alloc (.cells #[.int .i64 3] 3);have hG:(f.alloc (.cells #[.int .i64 3] 3)).ownsRow f.heap.size 3 1 (.slice (some ⟨f.heap.size,0,none⟩) 1 1) ([(3:Int)]).length (([(3:Int)]).map (eU .i64)):=fR f #[.int .i64 3] 1 (aN _) (by decide) rfl;have V2:=X.ext hx3;clear B X E z0 z1 z2 d0 d1 d2;go_wp2_with (at_builtin;refine Yx _ rfl (.tmp 32) (.tmp 33) 93 rfl f.heap.size 3 i0 _ 8 underlying93 hi hz0 hz1 hz2 (by decide) rfl (ns:= [(3:Int)]) (p:=p) rfl hG (by simp) rfl V2 (by simp;omega) ?_)
       intro va K L S mi;have mg:Ext w K:=hx2.trans (hx3.grown S (by intro g hg;simp[fZ] at hg;omega));have F:=hx2.size;have J:K.ownsRow w.heap.size 3 1 va ((3:Int)::p).length ((((3:Int)::p)).map (eU .i64)):=rx L F;have lq:=hdq J;clear L S mi J;go_wp2_with fail;go_ret2;exact⟨_,rfl,lq.out,mg⟩
     · have l:a.length=3:=by have:(3:Int)=(a.length:Int):=Z;omega
       have hlt:(1:Int) <(a.length:Int):=by omega
       have D:1 < a.length:=by omega
       have u:p4 (.mk 12 n a)=((1:Int)::(p4 (kd a 1)).1,(p4 (kd a 1)).2):=by rw[p4,if_neg (by rw[O.out];decide)];rw[<-ak D];rfl
       rw[u] at m⊢;obtain⟨b,o,Q,P,A',U,kids,rfl,N,y,H,C,I5,I3,hK',x7,T⟩:=hK.get (j:=1) (xr w) D;have R:kd a 1= .mk Q P kids:=be D N.out;have B:=hdq (fun W (hx:Ext w W)=> hk _ T W _ (d - 1) (s _ T) (x7.ext hx) (by omega));rw[R] at m⊢;generalize p4 (.mk Q P kids)=q at m B⊢;obtain⟨p,z⟩:=q;simp only[cN] at m;have hpl:p.length<=1000:=by omega
       simp only[cW,fP,fL,cU,dV,dW] at y H C;clear b8 O Z l u R N m s hk;go_enter func160,ntmps160;go_wp2_with fail;refine(Y.out _ c).mono ?_;rintro e w1 ⟨rfl,i⟩;obtain⟨z0,z1,z2,-,-,-⟩:=own3 (i.blk I);have lz:=O1 (i.blk I);have hx1:=c.trans i;have d0:=hx1.cell y;have d1:=hx1.cell H;have d2:=hx1.cell C;clear I i c Y y H C;go_wp2_with fail;refine(B.out _ hx1).mono ?_;rintro e f ⟨x,rfl,E,h2⟩;have X:=Xx E;obtain⟨Bq,cq,rfl,-,-,-⟩:=mu E;have hx2:=hx1.trans h2;have hx3:=(xr f).alloc (.cells #[.int .i64 1] 3);have hG:(f.alloc (.cells #[.int .i64 1] 3)).ownsRow f.heap.size 3 1 (.slice (some ⟨f.heap.size,0,none⟩) 1 1) ([(1:Int)]).length (([(1:Int)]).map (eU .i64)):=fR f #[.int .i64 1] 1 (aN _) (by decide) rfl;have V2:=X.ext hx3;clear B X E z0 z1 z2 d0 d1 d2;go_wp2_with (at_builtin;refine Yx _ rfl (.tmp 32) (.tmp 33) 93 rfl f.heap.size 3 i0 _ 8 underlying93 hi hz0 hz1 hz2 (by decide) rfl (ns:= [(1:Int)]) (p:=p) rfl hG (by simp) rfl V2 (by simp;omega) ?_)
       intro va K L S mi;have mg:Ext w K:=hx2.trans (hx3.grown S (by intro g hg;simp[fZ] at hg;omega));have F:=hx2.size;have J:K.ownsRow w.heap.size 3 1 va ((1:Int)::p).length ((((1:Int)::p)).map (eU .i64)):=rx L F;have lq:=hdq J;clear L S mi J;go_wp2_with fail;go_ret2;exact⟨_,rfl,lq.out,mg⟩
   · have u:p4 (.mk k n a)=([],false):=by rw[p4,if_neg (by rw[O.out];decide),if_neg (by omega),if_neg (by omega),if_neg (by omega)]
     rw[u];have t1:(k==5)=false:=beq_eq_false_iff_ne.2 (by omega);have t2:(k==15)=false:=beq_eq_false_iff_ne.2 (by omega);have t3:(k==16)=false:=beq_eq_false_iff_ne.2 (by omega);have t4:(k==9)=false:=beq_eq_false_iff_ne.2 (by omega);have t5:(k==12)=false:=beq_eq_false_iff_ne.2 (by omega);clear b8 O Z u m s hk hm;go_enter func160,ntmps160;go_wp2_with fail;refine(Y.out _ c).mono ?_;rintro e w1 ⟨rfl,i⟩;obtain⟨z0,z1,z2,-,-,-⟩:=own3 (i.blk I);have lz:=O1 (i.blk I);go_wp2_with fail;go_ret2;exact⟨_,rfl,fW _ _ _ _,c.trans i⟩
 · have hb0:(r !=0)=true:=bne_iff_ne.2 h0
   have u:p4 (.mk k n a)=([],true):=by rw[p4,if_pos (by rw[O.out];exact h0)]
   rw[u];clear u O;go_enter func160,ntmps160;go_wp2_with fail;refine(Y.out _ c).mono ?_;rintro e w1 ⟨rfl,i⟩;go_wp2_with fail;go_ret2;exact⟨_,rfl,fW _ _ _ _,c.trans i⟩
theorem VG(t:Tr)(f:Int)(w:World)(v:Value)(b8:Lies w t v):
 Calls prog 96 #[v,.int .i64 f,.func (.func 160) #[] #[]] w fun e w'=> ∃r s,e= .returned (.tuple #[r,.int .i64 s,.int .i64 (W6 t f).2])/\W0 w w' 25 (W6 t f).1 r/\Ext w w':=by
 have HV:=hdq (fun W (hW:Ext w W)=> ro t W v (b8.ext hW));have E:W6 t f=if(j0 D0 t && db f 0 200)=true then b9 f.toNat t else(j2,3):=rfl
 rw[E];clear E;obtain⟨z,hz⟩: ∃z,j0 D0 t=z:=⟨_,rfl⟩;obtain⟨y,hy⟩: ∃y,db f 0 200=y:=⟨_,rfl⟩;rw[hz] at HV⊢;rw[hy];obtain⟨k,n,ks⟩:=t;obtain⟨A,cap,rfl,hl,hc,hK⟩:=Lies.mk_iff.1 b8;have o:=((xr w).alloc (.cells #[.int .i64 k,.int .i64 n,.slice A ks.length cap] 25)).alloc (.cells #[.int .i64 0,.int .i64 0,.slice none 0 0] 25);obtain⟨hb0,H,hs2⟩:=blk2 (xr ((w.alloc (.cells #[.int .i64 k,.int .i64 n,.slice A ks.length cap] 25)).alloc (.cells #[.int .i64 0,.int .i64 0,.slice none 0 0] 25)));obtain⟨wS,Y⟩: ∃x,x=(w.alloc (.cells #[.int .i64 k,.int .i64 n,.slice A ks.length cap] 25)).alloc (.cells #[.int .i64 0,.int .i64 0,.slice none 0 0] 25):=⟨_,rfl⟩;rw[<-Y] at o hb0 H hs2;cases z with
 |false=>
  rw[if_neg (by simp)];go_enter func96,ntmps96;go_wp2_with fail;rw[<-Y];clear Y;refine(HV.out _ o).mono ?_;rintro e w1 ⟨rfl,C⟩;obtain⟨J,N,I,f0,f1,f2⟩:=own3 (C.blk H);go_wp2_with fail;refine aP (v:= .tuple #[.agg #[.int .i64 0,.int .i64 0,.slice none 0 0],.int .i64 0,.int .i64 3]) (by simp[aR,results96,go_sem,J,N,I]) rfl ⟨_,_,rfl,W0.leaf _ _ _ 0 0, ?_⟩;exact((((o.trans C).setCell (by simp) _).setCell (by simp) _).setCell (by simp) _)
 |true=>
  cases y with
  |false=>
   rw[if_neg (by simp)];go_enter func96,ntmps96;go_wp2_with fail;rw[<-Y];clear Y;refine(HV.out _ o).mono ?_;rintro e w1 ⟨rfl,C⟩;obtain⟨J,N,I,f0,f1,f2⟩:=own3 (C.blk H);go_wp2_with (go_at_call 51;refine(Ci _ _ _ _).mono ?_;rw[hy];rintro e D ⟨rfl,rfl⟩)
   refine aP (v:= .tuple #[.agg #[.int .i64 0,.int .i64 0,.slice none 0 0],.int .i64 0,.int .i64 3]) (by simp[aR,results96,go_sem,J,N,I]) rfl ⟨_,_,rfl,W0.leaf _ _ _ 0 0, ?_⟩;exact((((o.trans C).setCell (by simp) _).setCell (by simp) _).setCell (by simp) _)
  |true=>
   rw[if_pos (by simp)];obtain⟨gi,hf2⟩:=Pg.1 hy;obtain⟨F,rfl⟩:=Int.eq_ofNat_of_zero_le gi;rw[show((F:Int)).toNat=F from by omega];obtain⟨R,hR⟩: ∃R,b9 F (.mk k n ks)=R:=⟨_,rfl⟩;rw[hR];have HR:=hdq hR;have HY:=hdq hy;have HZ:=hdq hz;have HF:=hdq hf2;clear hy hR hz gi hf2;go_enter func96,ntmps96;go_wp2_with fail;rw[<-Y];clear Y;refine(HV.out _ o).mono ?_;rintro e w1 ⟨rfl,C⟩;have oh:=C.blk hb0;have o8:=C.blk H;have hx1:=o.trans C;go_wp2_with (go_at_call 51;refine(Ci _ _ _ _).mono ?_;rw[HY.out];rintro e D ⟨rfl,rfl⟩)
   clear HV o hb0 H hs2 C b8 HY
   go_loopw [9] (fun i wr=> ∃(j:Nat) (l d:Int) (kids:List Tr) (A':Option Addr) (c':Nat),j<=F/\i= .int .i64 j/\
    Hid (b9 (F - j) (.mk l d kids)=R)/\Hid (j0 D0 (.mk l d kids)=true)/\kids.length<=c'/\c'<=maxLen/\InK wr (fun b=> b < wr.heap.size/\(b < w.heap.size\/w.heap.size+2<=b)) A' kids/\
    wr.heap[w.heap.size]? =some (.cells #[.int .i64 l,.int .i64 d,.slice A' kids.length c'] 25 (0,0))/\wr.heap[w.heap.size+1]? =some (.cells #[.int .i64 0,.int .i64 0,.slice none 0 0] 25 (0,0))/\Ext w wr) (fun i _=> F -(intOf i).toNat)
   case atStart=> exact⟨0,k,n,ks,A,cap,Nat.zero_le _,rfl,hdq HR.out,HZ,hl,hc,InK.mono (fun b m=>⟨Nat.lt_of_lt_of_le m hx1.size,.inl m⟩) (fun b m=> hx1.heap b m) hK,oh,o8,hx1⟩
   case round=>
    obtain⟨j,l,d,kids,A',c',hj,rfl,Z,il,I5,I3,hT,m,F3,hx⟩:=hrel;have hsz:w.heap.size+1 < wr.heap.size:=O1 F3;have hL:Lies wr (.mk l d kids) (.agg #[.int .i64 l,.int .i64 d,.slice A' kids.length c']):=Lies.mk I5 I3 (InK.mono (fun b m=> m.1) (fun _ _=> rfl) hT);have HO:=BH (.mk l d kids) wr _ 30 (Ki il.out).2 hL (by decide);have HOW:=hdq (fun W (hW:Ext wr W)=> Qg (.mk l d kids) W _ (hL.ext hW) (by have:=(Ki il.out).1;omega));have vr:=hdq (fun p (hp:hdQ (.mk l d kids)=some p) W (hW:Ext wr W) B c (hP:Oi W B p.length c p)=> ZJ (.mk l d kids) p il.out (Mj _ p hp) W _ (hL.ext hW) B p.length c hP (by have:=JA _ 30 (Ki il.out).2;rw[Rz hp] at this;simp only at this;omega));have V:=hdq (show∀q,hdQ (.mk l d kids)=q->Calls prog 160 #[.agg #[.int .i64 l,.int .i64 d,.slice A' kids.length c']] wr fun e w'=> ∃x,e= .returned (.tuple #[x,.bool q.isSome])/\(q.isSome=true->w'.ownsRow wr.heap.size 3 1 x (q.getD []).length ((q.getD []).map (eU .i64)))/\Ext wr w' from fun q L=> by
     refine HO.mono ?_;rintro e w' ⟨x,rfl,C,a⟩;cases q with
     |none=> exact⟨x,by rw[Tt L];rfl,(fun h=> by cases h),a⟩
     |some p=> exact⟨x,by rw[Rz L];rfl,(fun _=> by rw[Rz L] at C;exact C),a⟩)
    clear HO hT hK oh o8 hx1;obtain⟨z0,z1,z2,-,-,-⟩:=own3 m;obtain⟨q,L⟩: ∃q,hdQ (.mk l d kids)=q:=⟨_,rfl⟩;have V:=hdq (V.out q L);cases q with
    |none=>
     have HE:=hdq (Z.out.symm.trans (zy L (F - j)));clear vr L Z;go_wp2_with fail;refine V.out.mono ?_;rintro e w2 ⟨x,rfl,-,a⟩;obtain⟨y0,y1,y2,-,-,-⟩:=own3 (a.blk m);clear z0 z1 z2;go_wp2_with fail;refine(HOW.out _ a).mono ?_;rintro e D ⟨r,rfl,hM,h3⟩;obtain⟨b1,b2,b3,b4,b5,rfl⟩:=hM.three';have K:=a.trans h3;obtain⟨J,N,I,f0,f1,f2⟩:=own3 (K.blk F3);have hw4:w.heap.size+2<=w2.heap.size:=by have:=a.size;omega
     clear y0 y1 y2;go_wp2_with fail;rw[HE.out];refine aP (v:= .tuple #[.agg #[.int .i64 b1,.int .i64 b2,.slice b3 b4 b5],.int .i64 j,.int .i64 0]) (by simp[aR,results96,go_sem,J,N,I]) rfl ⟨_,_,rfl,W0.since (hM.after ((((ja.refl _ _).setCell (p:=⟨w.heap.size+1,0,none⟩) (by show w.heap.size+1 < _;omega) (.int .i64 b1)).setCell (p:=⟨w.heap.size+1,1,none⟩) (by show w.heap.size+1 < _;omega) (.int .i64 b2)).setCell (p:=⟨w.heap.size+1,2,none⟩) (by show w.heap.size+1 < _;omega) (.slice b3 b4 b5))) (by omega), ?_⟩;exact((((hx.trans K).setCell (by simp) _).setCell (by simp) _).setCell (by simp) _)
    |some p=>
     have P7:=hdq (vr.out p L);simp only[Option.isSome_some,Option.getD_some] at V;have HQ:=hdq L;clear vr L HOW;by_cases hjF:j=F
     · have HE:=hdq (Z.out.symm.trans (show b9 (F - j) (.mk l d kids)=(j2,1) by rw[show F - j=0 by omega];exact xE HQ.out))
       clear P7 Z;subst hjF;go_wp2_with fail;refine V.out.mono ?_;rintro e w2 ⟨x,rfl,Q,a⟩;have O:=Q trivial;clear Q;obtain⟨B,c,rfl,hP⟩:=Bx O;obtain⟨J,N,I,f0,f1,f2⟩:=own3 (a.blk F3);clear z0 z1 z2 O;go_wp2_with fail;rw[HE.out];refine aP (v:= .tuple #[.agg #[.int .i64 0,.int .i64 0,.slice none 0 0],.int .i64 j,.int .i64 1]) (by simp[aR,results96,go_sem,J,N,I]) rfl ⟨_,_,rfl,W0.leaf _ _ _ 0 0, ?_⟩;exact((((hx.trans a).setCell (by simp) _).setCell (by simp) _).setCell (by simp) _)
     · have qi:((j:Int)==(F:Int))=false:=beq_eq_false_iff_ne.2 (by omega)
       have qd:(j==F)=false:=beq_eq_false_iff_ne.2 hjF;have hlt:j < F:=by omega
       have Co:(j:Int) < 200:=by have:=HF.out;omega
       have hj4:F<=200:=by have:=HF.out;omega
       obtain⟨g,hg⟩: ∃g,F - j=g+1:=⟨F - j - 1,by omega⟩;have T:F -(j+1)=g:=by omega
       have u:we (.mk l d kids) p=if j0 D0 (conA (.mk l d kids) p)=true then(conA (.mk l d kids) p,true) else(j2,false):=rfl
       have S:=Z.out;rw[hg] at S;by_cases P:j0 D0 (conA (.mk l d kids) p)=true
       · rw[if_pos P] at u
         rw[Ym HQ.out P,<-T] at S;rw[u] at P7;clear u Z hg T;generalize conA (.mk l d kids) p=X at P7 S P;obtain⟨k2,n2,q17⟩:=X;have xc:=hdq S;have Cp:=hdq P;clear S P;go_wp2_with fail;refine V.out.mono ?_;rintro e w2 ⟨x,rfl,Q,a⟩;have O:=Q trivial;clear Q;obtain⟨B,c,rfl,hP⟩:=Bx O;obtain⟨y0,y1,y2,-,-,-⟩:=own3 (a.blk m);clear z0 z1 z2 O;go_wp2_with fail;refine(P7.out _ a _ _ hP).mono ?_;rintro e D ⟨r,rfl,hM,h3⟩;have Db:=Y1.made hM;obtain⟨A2,c2,rfl,hl2,hc2,hK2⟩:=InT.mk_iff.1 Db;have K:=(a.trans h3).trans ((xr D).alloc (.cells #[.int .i64 k2,.int .i64 n2,.slice A2 q17.length c2] 25));obtain⟨J,N,I,f0,f1,f2⟩:=own3 (K.blk m);have Eh:=K.blk m;have ya:=K.blk F3;have Gf:wr.heap.size<=w2.heap.size:=a.size;have Hm:w2.heap.size<=D.heap.size:=h3.size;have KEEP:=hdq (fun(a0 a1 a2:Value) (b:Nat) (m:b < D.heap.size) (U:b≠w.heap.size)=>(show((((D.alloc (.cells #[.int .i64 k2,.int .i64 n2,.slice A2 q17.length c2] 25)).setCell ⟨w.heap.size,0,none⟩ a0).setCell ⟨w.heap.size,1,none⟩ a1).setCell ⟨w.heap.size,2,none⟩ a2).heap[b]? =D.heap[b]?from by
          rw[Below.heap_setCell _ _ _ _ U,Below.heap_setCell _ _ _ _ U,Below.heap_setCell _ _ _ _ U];exact((xr D).alloc _).heap b m))
         clear y0 y1 y2 m F3 hM Db;go_wp2_with fail
         go_roundw
         case rel=> exact⟨j+1,k2,n2,q17,A2,c2,hlt,by go_num,xc,Cp,hl2,hc2,InK.mono (fun b m=>⟨by simp;omega,.inr (by omega)⟩) (fun b m=> KEEP.out _ _ _ b m.2 (by omega)) hK2,N5 (N5 (N5 Eh 0 _) 1 _) 2 _,Bd (Bd (Bd ya (by simp) _) (by simp) _) (by simp) _,(((hx.trans K).setCell (by simp) _).setCell (by simp) _).setCell (by simp) _⟩
         case measure=> simp[intOf];omega
       · rw[if_neg P] at u
         rw[mp HQ.out (Bool.eq_false_iff.2 P)] at S;rw[u] at P7;have HE:=hdq S.symm;clear u Z hg T P S;go_wp2_with fail;refine V.out.mono ?_;rintro e w2 ⟨x,rfl,Q,a⟩;have O:=Q trivial;clear Q;obtain⟨B,c,rfl,hP⟩:=Bx O;obtain⟨y0,y1,y2,-,-,-⟩:=own3 (a.blk m);clear z0 z1 z2 O;go_wp2_with fail;refine(P7.out _ a _ _ hP).mono ?_;rintro e D ⟨r,rfl,hM,h3⟩;obtain⟨b1,b2,b3,b4,b5,rfl⟩:=hM.three';have K:=(a.trans h3).trans ((xr D).alloc (.cells #[.int .i64 b1,.int .i64 b2,.slice b3 b4 b5] 25));obtain⟨J,N,I,f0,f1,f2⟩:=own3 (K.blk F3);clear y0 y1 y2;go_wp2_with fail;rw[HE.out];refine aP (v:= .tuple #[.agg #[.int .i64 0,.int .i64 0,.slice none 0 0],.int .i64 j,.int .i64 2]) (by simp[aR,results96,go_sem,J,N,I]) rfl ⟨_,_,rfl,W0.leaf _ _ _ 0 0, ?_⟩;exact((((hx.trans K).setCell (by simp) _).setCell (by simp) _).setCell (by simp) _)
theorem rG(t:Tr)(f:Int)(w:World)(v:Value)(C:Lies w t v):
 Calls prog 125 #[v,m0 f] w fun e B=> ∃r,e= .returned (.tuple #[r,m0 (W6 t f).2])/\W0 w B 25 (W6 t f).1 r/\Ext w B:=by
 have y:=hdq (fun W (H:Ext w W)=> VG t f W v (C.ext H));obtain⟨S,hS⟩: ∃S,W6 t f=S:=⟨_,rfl⟩;rw[hS] at y⊢;obtain⟨k,n,o⟩:=t;obtain⟨A,cap,rfl,hl,hc,hK⟩:=Lies.mk_iff.1 C;clear hS;have a:=((xr w).alloc (H0 k n A o.length cap)).alloc (H0 0 0 none 0 0);obtain⟨l,b,m⟩:=blk2 (xr ((w.alloc (H0 k n A o.length cap)).alloc (H0 0 0 none 0 0)));obtain⟨E,q⟩: ∃x,x=(w.alloc (H0 k n A o.length cap)).alloc (H0 0 0 none 0 0):=⟨_,rfl⟩;rw[<-q] at a l b m;go_enter func125,ntmps125;go_wp2_with fail;rw[<-q];clear q;refine(y.out _ a).mono ?_;rintro e u ⟨r,s,rfl,z,F⟩;obtain⟨g,d,j,i,c,rfl⟩:=z.three';have D:=F.trans ((xr u).alloc (H0 g d j i c));obtain⟨K,N,J,Q,P,O⟩:=own3 (D.blk b);have I:=z.ext ((xr u).alloc (H0 g d j i c));have L:w.heap.size+2<=E.heap.size:=by omega
 go_wp2_with fail;refine aP (v:= .tuple #[M0 g d j i c,m0 S.2]) (by simp[aR,results125,go_sem,K,N,J]) rfl ⟨_,rfl,W0.since (I.after ((((ja.refl _ _).setCell (p:=⟨w.heap.size+1,0,none⟩) (by show w.heap.size+1 < _;omega) (m0 g)).setCell (p:=⟨w.heap.size+1,1,none⟩) (by show w.heap.size+1 < _;omega) (m0 d)).setCell (p:=⟨w.heap.size+1,2,none⟩) (by show w.heap.size+1 < _;omega) (.slice j i c))) (by omega), ?_⟩;exact((((a.trans D).setCell (by simp) _).setCell (by simp) _).setCell (by simp) _)
theorem EA{t:Tr}{f:Int}(h:j0 D0 t=true)(hf:db f 0 200=true):Me t f=V4 f.toNat t:=by
 unfold Me;rw[h,hf]
 rfl
theorem LJ(a b:Tr)(f:Int)(w:World)(U v:Value)(ha:Lies w a U)(o:Lies w b v):
 Calls prog 17 #[U,v,m0 f] w fun e w'=> e= .returned (m0 (Yc a b f))/\Ext w w':=by
 have gp:=hdq (fun W (d:Ext w W)=> ro a W U (ha.ext d));have Eg:=hdq (fun W (d:Ext w W)=> ro b W v (o.ext d));have yj:=hdq (fun W (d:Ext w W)=> lK a f W U (ha.ext d));have ym:=hdq (fun W (d:Ext w W)=> lK b f W v (o.ext d));have Ca:=hdq (fun W (d:Ext w W)=> FE a W b U v (ha.ext d) (o.ext d));have E:Yc a b f=if(j0 D0 a &&(j0 D0 b && db f 0 200))=true then(if a=b then 1 else if(V4 f.toNat a).2=0/\(V4 f.toNat b).2=0 then(if(V4 f.toNat a).1=(V4 f.toNat b).1 then 1 else 2) else 3) else 0:=rfl
 have Z:=fun(j:j0 D0 a=true) (g:db f 0 200=true)=> EA j g
 have Ed:=fun(j:j0 D0 b=true) (g:db f 0 200=true)=> EA j g
 obtain⟨C,hC⟩: ∃C,Yc a b f=C:=⟨_,rfl⟩;rw[hC] at E⊢;clear hC;obtain⟨za,af⟩: ∃z,j0 D0 a=z:=⟨_,rfl⟩;obtain⟨zb,R⟩: ∃z,j0 D0 b=z:=⟨_,rfl⟩;obtain⟨y,hy⟩: ∃y,db f 0 200=y:=⟨_,rfl⟩;obtain⟨q,hq⟩: ∃q,Z6 a b=q:=⟨_,rfl⟩;rw[af] at gp E Z;rw[R] at Eg E Ed;rw[hy] at E Z Ed;rw[hq] at Ca;have zx:(a=b)↔q=true:=by rw[<-hq];exact cy.symm
 have HY:=hdq hy;have HQ:=hdq zx;have T:=hdq E;have HA:=hdq Z;have HB:=hdq Ed;clear af R hy hq zx E Z Ed;obtain⟨k1,n1,uf⟩:=a;obtain⟨k2,n2,R8⟩:=b;obtain⟨A1,c1,rfl,S6,hc1,M6⟩:=Lies.mk_iff.1 ha;obtain⟨A2,c2,rfl,hl2,hc2,hK2⟩:=Lies.mk_iff.1 o;have i:=((xr w).alloc (H0 k1 n1 A1 uf.length c1)).alloc (H0 k2 n2 A2 R8.length c2);obtain⟨k,c,hs2⟩:=blk2 (xr ((w.alloc (H0 k1 n1 A1 uf.length c1)).alloc (H0 k2 n2 A2 R8.length c2)));obtain⟨wS,G8⟩: ∃x,x=(w.alloc (H0 k1 n1 A1 uf.length c1)).alloc (H0 k2 n2 A2 R8.length c2):=⟨_,rfl⟩;rw[<-G8] at i k c hs2;go_enter func17,ntmps17;go_wp2_with fail;rw[<-G8];clear G8;refine(gp.out _ i).mono ?_;rintro e w1 ⟨rfl,Y⟩;have hx1:=i.trans Y;cases za with
 |false=>
  have hr:C=0:=by rw[T.out];rfl
  have HR:=hdq hr;clear hr;go_wp2_with fail;go_ret;exact⟨by rw[HR.out];rfl,hx1⟩
 |true=>
  obtain⟨N,I,J,-⟩:=own3 (Y.blk c);go_wp2_with fail;refine(Eg.out _ hx1).mono ?_;rintro e w2 ⟨rfl,e2⟩;have hx2:=hx1.trans e2;clear N I J;cases zb with
  |false=>
   have hr:C=0:=by rw[T.out];rfl
   have HR:=hdq hr;clear hr;go_wp2_with fail;go_ret;exact⟨by rw[HR.out];rfl,hx2⟩
  |true=>
   go_wp2_with fail;refine(Ci f 0 200 w2).mono ?_;rintro e w3 ⟨rfl,rfl⟩;rw[HY.out];cases y with
   |false=>
    have hr:C=0:=by rw[T.out];rfl
    have HR:=hdq hr;clear hr;go_wp2_with fail;go_ret;exact⟨by rw[HR.out];rfl,hx2⟩
   |true=>
    have s:=HA.out (by simp) (by simp);have V:=HB.out (by simp) (by simp);rw[s] at yj;rw[V] at ym;have B8:=T.out;rw[Bool.and_self,Bool.and_self,if_pos rfl] at B8;have u:=hdq B8;clear s V B8 T;obtain⟨q0,q1,l,-⟩:=own3 ((Y.trans e2).blk k);obtain⟨N,I,J,-⟩:=own3 ((Y.trans e2).blk c);go_wp2_with fail;refine(Ca.out _ hx2).mono ?_;rintro e w3 ⟨rfl,e3⟩;have hx3:=hx2.trans e3;clear q0 q1 l N I J;cases q with
    |true=>
     have hr:C=1:=by rw[u.out,if_pos (HQ.out.2 rfl)]
     have HR:=hdq hr;clear hr;go_wp2_with fail;go_ret;exact⟨by rw[HR.out];rfl,hx3⟩
    |false=>
     have X:=u.out;rw[if_neg (fun h=> by have:=HQ.out.1 h;cases this)] at X;obtain⟨S1,t⟩: ∃S,V4 f.toNat (.mk k1 n1 uf)=S:=⟨_,rfl⟩;obtain⟨S2,F⟩: ∃S,V4 f.toNat (.mk k2 n2 R8)=S:=⟨_,rfl⟩;rw[t] at yj X;rw[F] at ym X;obtain⟨⟨A,Q,D⟩,s1⟩:=S1;obtain⟨⟨p,L,B⟩,s2⟩:=S2;have fg:=hdq X;clear t F X;have eb:=(Y.trans e2).trans e3;obtain⟨q0,q1,l,-⟩:=own3 (eb.blk k);go_wp2_with fail;refine(yj.out _ hx3).mono ?_;rintro e n ⟨r,rfl,Ak,e4⟩;have H:=Ak.lies;obtain⟨A3,c3,rfl,Q9,hc3,hK3⟩:=Lies.mk_iff.1 H;obtain⟨w5,p6⟩: ∃x,x=n.alloc (H0 A Q A3 D.length c3):=⟨_,rfl⟩;have e5:Ext n w5:=p6▸(xr n).alloc _;have M4:w5.heap[n.heap.size]? =some (H0 A Q A3 D.length c3):=p6▸aS n _;obtain⟨N,I,J,-⟩:=own3 (((eb.trans e4).trans e5).blk c);have hs5:n.heap.size < w5.heap.size:=O1 M4;have O9:=(hx3.trans e4).trans e5;have p04:=own3 ((eb.trans e4).blk c);obtain⟨r0,r1,r2,-⟩:=p04;have lz1:=O1 ((eb.trans e4).blk c);clear q0 q1 l Ak;go_wp2_with fail;rw[<-p6];clear p6 r0 r1 r2;refine(ym.out _ O9).mono ?_;rintro e O ⟨r,rfl,Cq,e6⟩;have K:=Cq.lies;obtain⟨A4,c4,rfl,hl4,hc4,hK4⟩:=Lies.mk_iff.1 K;obtain⟨w7,m⟩: ∃x,x=O.alloc (H0 p L A4 B.length c4):=⟨_,rfl⟩;have e7:Ext O w7:=m▸(xr O).alloc _;have Eh:w7.heap[O.heap.size]? =some (H0 p L A4 B.length c4):=m▸aS O _;have Im:=(O9.trans e6).trans e7;clear N I J Cq;by_cases j:s1=0
     · subst j
       by_cases g:s2=0
       · subst g
         obtain⟨d0,d1,d2,-⟩:=own3 (e6.blk M4);have lz2:=O1 (e6.blk M4);have P:=hdq (FE (.mk A Q D) w7 (.mk p L B) _ _ (((H.ext e5).ext e6).ext e7) (K.ext e7));obtain⟨l,Gv⟩: ∃q,Z6 (.mk A Q D) (.mk p L B)=q:=⟨_,rfl⟩;have hr:C=if l=true then 1 else 2:=by
          rw[fg.out,if_pos ⟨rfl,rfl⟩,<-Gv];by_cases he:Tr.mk A Q D=Tr.mk p L B
          · rw[if_pos he,if_pos (cy.2 he)]
          · rw[if_neg he,if_neg (fun h=> he (cy.1 h))]
         rw[Gv] at P;have HR:=hdq hr;clear hr Gv;go_wp2_with fail;rw[<-m];clear m;refine P.out.mono ?_;rintro e w8 ⟨rfl,e8⟩;cases l
         all_goals(
          go_wp2_with fail;go_ret;exact⟨by rw[HR.out];rfl,Im.trans e8⟩)
       · have hr:C=3:=by rw[fg.out,if_neg (fun h=> g h.2)]
         have o:(s2 !=0)=true:=by simpa using g
         have HR:=hdq hr;clear hr;go_wp2_with fail;rw[<-m];go_ret;exact⟨by rw[HR.out];rfl,Im⟩
     · have hr:C=3:=by rw[fg.out,if_neg (fun h=> j h.1)]
       have o:(s1 !=0)=true:=by simpa using j
       have HR:=hdq hr;clear hr;go_wp2_with fail;rw[<-m];go_ret;exact⟨by rw[HR.out];rfl,Im⟩
end Go.Proofs.YtckhbnmfnpolgaaGreat
namespace Go.Proofs.YtckhbnmfnpolgaaGreat
open Go.RowKit
open M (Hd HR Cv Ty Lim Wb y6 U4 If)
def S4(x y:An):Prop:= ∀r,x=some r->y=some r
theorem S4.rfl'(x:An):S4 x x:=fun _ h=> h
theorem S4.thn{x y:An}{f g:Tr->An}(h:S4 x y)(k: ∀s,S4 (f s) (g s)):S4 (thn x f) (thn y g):=by
 intro r e;cases x with
 |none=> cases e
 |some p=>
  rw[h p rfl];obtain⟨s,c⟩:=p;unfold Go.Proofs.YtckhbnmfnpolgaaGreat.thn at e⊢;simp only at e⊢
  split
  · rename_i hc
    rw[if_pos hc] at e;exact k s r e
  · rename_i hc
    rw[if_neg hc] at e;exact e
theorem S4.frm{x y:An}(kind:Int)(h:S4 x y):S4 (X0 x kind) (X0 y kind):=h.thn fun _=> S4.rfl' _
theorem S4.chk{x y u v:An}(w:Tr)(h:S4 x y)(k:S4 u v):S4 (W3 x w u) (W3 y w v):=h.thn fun s=> by
 split
 · exact k
 · exact S4.rfl' _
theorem S4.fam{x y u v:An}(T:Tr)(h:S4 x y)(k:S4 u v):S4 (v9 x T u) (v9 y T v):=(h.frm 3).thn fun s=> by
 split
 · exact(S4.rfl' _).thn fun _=> k
 · exact S4.rfl' _
theorem S4.jud{G:List Tr}{b e:Tr->An}{ty d:Nat->An}(h: ∀t,S4 (b t) (e t))(k: ∀i,S4 (ty i) (d i))(c n:Int)(f:List Tr):S4 (Ub G b ty c n f) (Ub G e d c n f):=by
 unfold Ub;by_cases a:c=1
 · rw[if_pos a,if_pos a];exact S4.rfl' _
 rw[if_neg a,if_neg a];by_cases a:c=2
 · rw[if_pos a,if_pos a];exact S4.rfl' _
 rw[if_neg a,if_neg a];by_cases a:c=6
 · rw[if_pos a,if_pos a];exact S4.rfl' _
 rw[if_neg a,if_neg a];by_cases a:c=7
 · rw[if_pos a,if_pos a];exact S4.rfl' _
 rw[if_neg a,if_neg a];by_cases a:c=8
 · rw[if_pos a,if_pos a];exact(k 0).chk _ (S4.rfl' _)
 rw[if_neg a,if_neg a];by_cases a:c=3\/c=13
 · rw[if_pos a,if_pos a];exact((k 0).frm 2).thn fun _=>((k 1).frm 2).thn fun _=> S4.rfl' _
 rw[if_neg a,if_neg a];by_cases a:c=4
 · rw[if_pos a,if_pos a];exact((k 0).frm 2).thn fun _=>(k 1).thn fun _=>(S4.rfl' _).thn fun o=>(h o).thn fun _=> S4.rfl' _
 rw[if_neg a,if_neg a];by_cases a:c=5
 · rw[if_pos a,if_pos a];exact((k 0).frm 3).thn fun _=>(k 1).chk _ (S4.rfl' _)
 rw[if_neg a,if_neg a];by_cases a:c=9
 · rw[if_pos a,if_pos a];exact(k 0).fam _ ((S4.rfl' _).thn fun _=>(k 1).chk _ ((S4.rfl' _).thn fun _=>(k 2).chk _ ((k 3).chk _ (S4.rfl' _))))
 rw[if_neg a,if_neg a];by_cases a:c=10
 · rw[if_pos a,if_pos a];exact((k 0).frm 2).thn fun _=>(k 1).chk _ ((k 2).chk _ (S4.rfl' _))
 rw[if_neg a,if_neg a];by_cases a:c=11
 · rw[if_pos a,if_pos a];exact(k 0).thn fun s=>((h s).frm 2).thn fun _=> S4.rfl' _
 rw[if_neg a,if_neg a];by_cases a:c=12
 · rw[if_pos a,if_pos a];exact((k 1).frm 10).thn fun _=>(k 0).fam _ ((S4.rfl' _).thn fun _=>(k 2).chk _ (S4.rfl' _))
 rw[if_neg a,if_neg a];by_cases a:c=14
 · rw[if_pos a,if_pos a];exact((k 0).frm 2).thn fun _=>(S4.rfl' _).thn fun _=>(k 1).chk _ ((S4.rfl' _).thn fun _=>(k 2).chk _ (S4.rfl' _))
 rw[if_neg a,if_neg a];exact((k 0).frm 13).thn fun _=> S4.rfl' _
theorem Wq: ∀(f:Nat) (G:List Tr) (t:Tr),S4 (S0 f G t) (S0 (f+1) G t)
 |0,G,t=> fun r h=> by cases h
 |f+1,G,.mk k n a=> S4.jud (Wq f G) (fun i=> by
  unfold da
  split
  · exact Wq f G _
  · split
    · exact S4.rfl' _
    · exact Wq f _ _) k n a
theorem Uk{f a:Nat}(h:f<=a)(G:List Tr)(t:Tr):S4 (S0 f G t) (S0 a G t):=by
 induction h with
 |refl=> exact S4.rfl' _
 |step _ ih=> exact fun r e=> Wq _ G t r (ih r e)
def Xb(G:List Tr)(t:Tr):Prop:= ∃f r,S0 f G t=some r
def Is(x:An):Prop:= ∃r,x=some r
theorem Is.mk(r:Tr×Int):Is (some r):=⟨r,rfl⟩
theorem Is.thn{x:An}{f:Tr->An}(h:Is x)(k: ∀s,x=some (s,0)->Is (f s)):Is (thn x f):=by
 obtain⟨⟨s,c⟩,e⟩:=h;subst e;unfold Go.Proofs.YtckhbnmfnpolgaaGreat.thn;simp only
 split
 · rename_i hc
   subst hc;exact k s rfl
 · exact Is.mk _
theorem Is.frm{x:An}(kind:Int)(h:Is x):Is (X0 x kind):=h.thn fun _ _=> Is.mk _
theorem Is.chk{x y:An}(w:Tr)(h:Is x)(k:Is y):Is (W3 x w y):=h.thn fun s _=> by
 split
 · exact k
 · exact Is.mk _
theorem Is.fam{x y:An}(T:Tr)(h:Is x)(k:Is y):Is (v9 x T y):=(h.frm 3).thn fun s _=> by
 split
 · exact(Is.mk _).thn fun _ _=> k
 · exact Is.mk _
theorem Is.le{x y:An}(h:Is x)(k:S4 x y):Is y:=by
 obtain⟨r,e⟩:=h;exact⟨r,k r e⟩
theorem Xb.at{G:List Tr}{t:Tr}(h:Xb G t): ∃f,∀a,f<=a->Is (S0 a G t):=by
 obtain⟨f,r,e⟩:=h;exact⟨f,fun a hf=>⟨r,Uk hf G t r e⟩⟩
theorem Xb.of{G:List Tr}{t:Tr}{f:Nat}(h:Is (S0 f G t)):Xb G t:=by
 obtain⟨r,e⟩:=h;exact⟨f,r,e⟩
section
variable {G : List M.Tm}
theorem xD{f:Nat}{k:Int}{A t:M.Tm}(hk:E4 k 1=1)(h:G.length < 20->Is (S0 f (ctxE (A::G)) (enc t))):Is (da (S0 f) (ctxE G) k [enc A,enc t] 1):=by
 rw[Yn _ _ hk]
 split
 · exact Is.mk _
 · rename_i a
   rw[q28] at a;rw[show ctxE G++ [kd [enc A,enc t] 0]=ctxE (A::G) from(yd A G).symm];exact h (by omega)
theorem ao(hG:O6 G)(k: ∀A,y6 G A->j0 D0 (enc A)=true->G.length < 20-> ∀t,j0 D0 (enc t)=true->Xb (ctxE (A::G)) (enc t)){A:M.Tm}(hA:j0 D0 (enc A)=true)(h:Xb (ctxE G) (enc A))(t:M.Tm)(ht:j0 D0 (enc t)=true):
 ∃f,∀a,f<=a->Is (S0 a (ctxE G) (enc A))/\ ∀s,X0 (S0 a (ctxE G) (enc A)) 2=some (s,0)->G.length < 20->Is (S0 a (ctxE (A::G)) (enc t)):=by
 obtain⟨c,d⟩:=h.at;by_cases e: ∃s,X0 (S0 c (ctxE G) (enc A)) 2=some (s,0)
 · obtain⟨s,hs⟩:=e
   obtain⟨S,i,-,-,-,-,b,-⟩:=Sd (snd c) hG hA hs;by_cases hl:G.length < 20
   · obtain⟨j,g⟩:=(k A b hA hl t ht).at
     exact⟨max c j,fun a hf=>⟨d a (by omega),fun _ _ _=> g a (by omega)⟩⟩
   · exact⟨c,fun a hf=>⟨d a hf,fun _ _ h=> absurd h hl⟩⟩
 · refine⟨c,fun a hf=>⟨d a hf,fun s hs=> ?_⟩⟩
   exfalso
   obtain⟨r,hr⟩:=d c (aN _);have:=Uk hf (ctxE G) (enc A) r hr;rw[this] at hs;rw[hr] at e;exact e ⟨s,hs⟩
theorem L7{k n:Int}{a:List Tr}{x:Tr}(h:j0 D0 (.mk k n a)=true)(hm:x∈a):j0 D0 x=true:=ny h hm
def gC(G:List M.Tm)(t:M.Tm):Prop:=j0 D0 (enc t)=true->Xb (ctxE G) (enc t)
theorem XD(hG:O6 G)(D: ∀A,y6 G A->j0 D0 (enc A)=true->G.length < 20-> ∀t,j0 D0 (enc t)=true->Xb (ctxE (A::G)) (enc t)):If G (gC G) where
 var:=fun n hv=> Xb.of (f:=1) ⟨_,rfl⟩
 sort:=fun n hv=> Xb.of (f:=1) ⟨(if(n:Int)=3 then(j2,(1:Int)) else(m6 ((n:Int)+1),0)),by simp[enc,S0,Ub]⟩
 nat:=fun hv=> Xb.of (f:=1) ⟨_,rfl⟩
 zero:=fun hv=> Xb.of (f:=1) ⟨_,rfl⟩
 succ:=fun{a} h hv=> by
  obtain⟨f,c⟩:=(h (L7 hv (by simp))).at;exact Xb.of (f:=f+1) ((c f (aN _)).chk n5 (Is.mk _))
 pi:=fun{A} B h hv=> by
  obtain⟨f,c⟩:=ao hG D (L7 hv (by simp)) (h (L7 hv (by simp))) B (L7 hv (by simp));obtain⟨l,m⟩:=c f (aN _);exact Xb.of (f:=f+1) ((l.frm 2).thn fun s hs=>((xD rfl (m s hs)).frm 2).thn fun _ _=> Is.mk _)
 sg:=fun{A} B h hv=> by
  obtain⟨f,c⟩:=ao hG D (L7 hv (by simp)) (h (L7 hv (by simp))) B (L7 hv (by simp));obtain⟨l,m⟩:=c f (aN _);exact Xb.of (f:=f+1) ((l.frm 2).thn fun s hs=>((xD rfl (m s hs)).frm 2).thn fun _ _=> Is.mk _)
 lam:=fun{A} t h hv=> by
  have hA:=L7 hv (show enc A∈ [enc A,enc t] by simp);obtain⟨f,c⟩:=ao hG D hA (h hA) t (L7 hv (by simp));obtain⟨l,m⟩:=c f (aN _);by_cases C: ∃s b,X0 (S0 f (ctxE G) (enc A)) 2=some (s,0)/\da (S0 f) (ctxE G) 4 [enc A,enc t] 1=some (b,0)/\j0 D0 (.mk 3 0 [enc A,b])=true
  · obtain⟨s,b,E,y,e3⟩:=C
    obtain⟨S,i,-,-,-,-,R,-⟩:=Sd (snd f) hG hA E;have hl:G.length < 20:=by have:=(Wr rfl y).1;rwa [q28] at this
    obtain⟨B,rfl,-,-,X⟩:=snd f (A::G) t b (hG.cons R hA) (L7 hv (by simp)) (GC rfl y);obtain⟨d,H⟩:=ao hG D hA (h hA) B X;refine Xb.of (f:=max f d+2) ?_;obtain⟨P,-⟩:=c (max f d+1) (by omega);refine(P.frm 2).thn fun x Z=>(xD rfl fun F=>(c (max f d+1) (by omega)).2 x Z F).thn fun Q L=>(Is.mk _).thn fun o J=> ?_
    have Y:Q=enc B:=by
     have V:da (S0 (max f d+1)) (ctxE G) 4 [enc A,enc t] 1=some (enc B,0):=by
      have h8:=(Wr rfl y).2;rw[Yn _ _ rfl,if_neg (by rw[q28];omega)];exact Uk (by omega) _ _ _ h8
     rw[V] at L
     simpa using L.symm
    subst Y;obtain⟨v,rfl⟩:=Xf J;refine Is.thn ?_ fun _ _=> Is.mk _
    obtain⟨N,r4⟩:=H (max f d) (by omega);exact(N.frm 2).thn fun s hs=>((xD (f:=max f d) rfl (r4 s hs)).frm 2).thn fun _ _=> Is.mk _
  · refine Xb.of (f:=f+1) ?_
    refine(l.frm 2).thn fun s E=>(xD rfl (m s E)).thn fun b y=>(Is.mk _).thn fun o J=> ?_
    obtain⟨v,-⟩:=Xf J;exact absurd ⟨s,b,E,y,v⟩ C
 app:=fun{g a} h k hv=> by
  obtain⟨j,c⟩:=(h (L7 hv (by simp))).at;obtain⟨d,l⟩:=(k (L7 hv (by simp))).at;exact Xb.of (f:=max j d+1) (((c _ (Nat.le_max_left ..)).frm 3).thn fun _ _=>(l _ (Nat.le_max_right ..)).chk _ (Is.mk _))
 elim:=fun{p z s a} c l m H hv=> by
  obtain⟨j,q⟩:=(c (L7 hv (by simp))).at;obtain⟨d,r⟩:=(l (L7 hv (by simp))).at;obtain⟨w,u⟩:=(m (L7 hv (by simp))).at;obtain⟨W,U⟩:=(H (L7 hv (by simp))).at;exact Xb.of (f:=j+d+w+W+1) ((q _ (by omega)).fam _ ((Is.mk _).thn fun _ _=>(r _ (by omega)).chk _ ((Is.mk _).thn fun _ _=>(u _ (by omega)).chk _ ((U _ (by omega)).chk _ (Is.mk _)))))
 id:=fun{T a b} c l m hv=> by
  obtain⟨j,q⟩:=(c (L7 hv (by simp))).at;obtain⟨d,r⟩:=(l (L7 hv (by simp))).at;obtain⟨w,u⟩:=(m (L7 hv (by simp))).at;exact Xb.of (f:=j+d+w+1) (((q _ (by omega)).frm 2).thn fun _ _=>(r _ (by omega)).chk _ ((u _ (by omega)).chk _ (Is.mk _)))
 refl:=fun{a} h k hv=> by
  have K:=L7 hv (show enc a∈ [enc a] by simp);obtain⟨j,q⟩:=(h K).at;by_cases C: ∃s,S0 j (ctxE G) (enc a)=some (s,0)
  · obtain⟨s,e⟩:=C
    obtain⟨A,rfl,tA,-,O⟩:=snd j G a s hG K e;obtain⟨d,r⟩:=(k A tA O).at;refine Xb.of (f:=j+d+1) ((q _ (by omega)).thn fun x I=> ?_);have:x=enc A:=by
     have:=Uk (show j<=j+d by omega) _ _ _ e;rw[show S0 (j+d) (ctxE G) (enc a)=some (x,0) from I] at this
     simpa using this
    subst this;exact((r (j+d) (by omega)).frm 2).thn fun _ _=> Is.mk _
  · refine Xb.of (f:=j+1) ((q _ (by omega)).thn fun x I=> ?_)
    exact absurd ⟨x,I⟩ C
 move:=fun{p e a} c l m hv=> by
  obtain⟨j,q⟩:=(c (L7 hv (by simp))).at;obtain⟨d,r⟩:=(l (L7 hv (by simp))).at;obtain⟨w,u⟩:=(m (L7 hv (by simp))).at;exact Xb.of (f:=j+d+w+1) (((r _ (by omega)).frm 10).thn fun _ _=>(q _ (by omega)).fam _ ((Is.mk _).thn fun _ _=>(u _ (by omega)).chk _ (Is.mk _)))
 pair:=fun{T a b} c l m hv=> by
  obtain⟨j,q⟩:=(c (L7 hv (by simp))).at;obtain⟨d,r⟩:=(l (L7 hv (by simp))).at;obtain⟨w,u⟩:=(m (L7 hv (by simp))).at;exact Xb.of (f:=j+d+w+1) (((q _ (by omega)).frm 2).thn fun _ _=>(Is.mk _).thn fun _ _=>(r _ (by omega)).chk _ ((Is.mk _).thn fun _ _=>(u _ (by omega)).chk _ (Is.mk _)))
 fst:=fun{a} h hv=> by
  obtain⟨f,c⟩:=(h (L7 hv (by simp))).at;exact Xb.of (f:=f+1) (((c f (aN _)).frm 13).thn fun _ _=> Is.mk _)
 snd:=fun{a} h hv=> by
  obtain⟨f,c⟩:=(h (L7 hv (by simp))).at;exact Xb.of (f:=f+1) (((c f (aN _)).frm 13).thn fun _ _=> Is.mk _)
end
theorem Zt: ∀(d:Nat) (G:List M.Tm),20<=G.length+d->O6 G-> ∀t,gC G t:=by
 intro d
 induction d with
 |zero=>
  intro G hd hG;have a: ∀A,y6 G A->j0 D0 (enc A)=true->G.length < 20-> ∀t,j0 D0 (enc t)=true->Xb (ctxE (A::G)) (enc t):=fun A _ _ h=> by omega
  exact fun t=> M.allW (XD hG a) hG.wf.wf t
 |succ d ih=>
  intro G hd hG;have a: ∀A,y6 G A->j0 D0 (enc A)=true->G.length < 20-> ∀t,j0 D0 (enc t)=true->Xb (ctxE (A::G)) (enc t):=fun A b v h t=> ih (A::G) (by simp only[cN];omega) (hG.cons b v) t
  exact fun t=> M.allW (XD hG a) hG.wf.wf t
