/- Lemmas towards the law. -/
import Derived.Test.YtckhbnmfnpolgaaGreatTAW
open Go.Value renaming int->fN,ownBlock->gS
open Go renaming heap_alloc_new->aT,bodyPost_ret->aQ,results->aS
open List renaming length_cons->bX
open Nat renaming zero_mul->dN,one_mul->fU,reduceMul->fQ,add_zero->cX,add_assoc->dZ,reduceAdd->eM,le_refl->aP
open Go.World renaming ownsRow_lit->fW,ownsRow_nil->iW
open Go.Proofs.Tryz
set_option linter.all false
set_option maxHeartbeats 4000000
set_option maxRecDepth 100000
namespace Go.Proofs.YtckhbnmfnpolgaaGreat
open Go.RowKit
def vL(t:Tr):Prop:= ∀(w:World) (v:Value) (d:Int),I0 sigT t d=true->Lies w t v->d<=1000->Calls prog 160 #[v] w fun e a=> ∃x,e= .returned (.tuple #[x,.bool (U4 t).2])/\a.ownsRow w.heap.size 3 1 x (U4 t).1.length ((U4 t).1.map (fN .i64))/\Ext w a
theorem CJ: ∀t:Tr,vL t:=Tr.ind fun k n a hk=> by
 intro w v d hsh d6 hd;have HR:=hdq (fun V (hV:Ext w V)=> Nt (.mk k n a) d hsh V v (d6.ext hV));obtain⟨a8,-,-,s⟩:=Iv hsh;have m:(U4 (.mk k n a)).1.length<=1000:=by have:=LB (.mk k n a) d hsh;omega
 obtain⟨A,cap,rfl,hl,hc,hK⟩:=Lies.mk_iff.1 d6;obtain⟨i0,hi,Z,hz1,Y⟩:=info_parts uF;have hcc:=hc;unfold maxLen at hcc;have c:=(xr w).alloc (.cells #[.int .i64 k,.int .i64 n,.slice A a.length cap] 25);have I:=aT w (.cells #[.int .i64 k,.int .i64 n,.slice A a.length cap] 25);obtain⟨r,hr⟩: ∃r,rdx k a=r:=⟨_,rfl⟩;have X:=hdq (show∀V,Ext w V->Calls prog 133 #[.agg #[.int .i64 k,.int .i64 n,.slice A a.length cap]] V fun e w'=> e= .returned (.int .i64 r)/\Ext V w' from fun V hV=> by have:=HR.out V hV;rw[show J4 (.mk k n a)=r from hr] at this;exact this);have Q:=hdq hr;clear hr HR;by_cases h0:r=0
 · have hb0:(r !=0)=false:=by rw[h0];rfl
   subst h0;by_cases hm:k=5\/k=15\/k=16\/k=9\/k=12
   · rcases hm with rfl|rfl|rfl|rfl|rfl
     · have l:a.length=2:=by have:(2:Int)=(a.length:Int):=a8;omega
       have hlt:(0:Int) <(a.length:Int):=by omega
       have B:0 < a.length:=by omega
       have u:U4 (.mk 5 n a)=((0:Int)::(U4 (kd a 0)).1,(U4 (kd a 0)).2):=by rw[U4,if_neg (by rw[Q.out];decide)];rw[<-Pl B];rfl
       rw[u] at m⊢;obtain⟨b,o,L,R,A',J,kids,rfl,T,E,H,F,I7,I6,hK',x9,N⟩:=hK.get (j:=0) (xr w) B;have K:kd a 0= .mk L R kids:=Pe B T.out;have C:=hdq (fun W (hx:Ext w W)=> hk _ N W _ (d - 1) (s _ N) (x9.ext hx) (by omega));rw[K] at m⊢;generalize U4 (.mk L R kids)=q at m C⊢;obtain⟨p,z⟩:=q;simp only[bX] at m;have hpl:p.length<=1000:=by omega
       simp only[dN,fU,fQ,cX,dZ,eM] at E H F;clear d6 Q a8 l u K T m s hk;go_enter func160,ntmps160;go_wp2_with fail;refine(X.out _ c).mono ?_;rintro e w1 ⟨rfl,i⟩;obtain⟨z0,z1,z2,-,-,-⟩:=own3 (i.blk I);have lz:=D1 (i.blk I);have hx1:=c.trans i;have d0:=hx1.cell E;have d1:=hx1.cell H;have d2:=hx1.cell F;clear I i c X E H F;go_wp2_with fail;refine(C.out _ hx1).mono ?_;rintro e f ⟨x,rfl,y,h2⟩;have ce:=Rz y;obtain⟨Bq,cq,rfl,-,-,-⟩:=Nv y;have hx2:=hx1.trans h2;have hx3:=(xr f).alloc (.cells #[.int .i64 0] 3);have hG:(f.alloc (.cells #[.int .i64 0] 3)).ownsRow f.heap.size 3 1 (.slice (some ⟨f.heap.size,0,none⟩) 1 1) ([(0:Int)]).length (([(0:Int)]).map (fN .i64)):=fW f #[.int .i64 0] 1 (aP _) (by decide) rfl;have T7:=ce.ext hx3;clear C ce y z0 z1 z2 d0 d1 d2;go_wp2_with (at_builtin;refine aA _ rfl (.tmp 32) (.tmp 33) 93 rfl f.heap.size 3 i0 _ 8 underlying93 hi Z hz1 Y (by decide) rfl (ns:= [(0:Int)]) (p:=p) rfl hG (by simp) rfl T7 (by simp;omega) ?_)
       intro va P U O oh;have ol:Ext w P:=hx2.trans (hx3.grown O (by intro g hg;simp[gS] at hg;omega));have D:=hx2.size;have S:P.ownsRow w.heap.size 3 1 va ((0:Int)::p).length ((((0:Int)::p)).map (fN .i64)):=Xz U D;have ny:=hdq S;clear U O oh S;go_wp2_with fail;go_ret2;exact⟨_,rfl,ny.out,ol⟩
     · have l:a.length=1:=by have:(1:Int)=(a.length:Int):=a8;omega
       have hlt:(0:Int) <(a.length:Int):=by omega
       have B:0 < a.length:=by omega
       have u:U4 (.mk 15 n a)=((0:Int)::(U4 (kd a 0)).1,(U4 (kd a 0)).2):=by rw[U4,if_neg (by rw[Q.out];decide)];rw[<-Pl B];rfl
       rw[u] at m⊢;obtain⟨b,o,L,R,A',J,kids,rfl,T,E,H,F,I7,I6,hK',x9,N⟩:=hK.get (j:=0) (xr w) B;have K:kd a 0= .mk L R kids:=Pe B T.out;have C:=hdq (fun W (hx:Ext w W)=> hk _ N W _ (d - 1) (s _ N) (x9.ext hx) (by omega));rw[K] at m⊢;generalize U4 (.mk L R kids)=q at m C⊢;obtain⟨p,z⟩:=q;simp only[bX] at m;have hpl:p.length<=1000:=by omega
       simp only[dN,fU,fQ,cX,dZ,eM] at E H F;clear d6 Q a8 l u K T m s hk;go_enter func160,ntmps160;go_wp2_with fail;refine(X.out _ c).mono ?_;rintro e w1 ⟨rfl,i⟩;obtain⟨z0,z1,z2,-,-,-⟩:=own3 (i.blk I);have lz:=D1 (i.blk I);have hx1:=c.trans i;have d0:=hx1.cell E;have d1:=hx1.cell H;have d2:=hx1.cell F;clear I i c X E H F;go_wp2_with fail;refine(C.out _ hx1).mono ?_;rintro e f ⟨x,rfl,y,h2⟩;have ce:=Rz y;obtain⟨Bq,cq,rfl,-,-,-⟩:=Nv y;have hx2:=hx1.trans h2;have hx3:=(xr f).alloc (.cells #[.int .i64 0] 3);have hG:(f.alloc (.cells #[.int .i64 0] 3)).ownsRow f.heap.size 3 1 (.slice (some ⟨f.heap.size,0,none⟩) 1 1) ([(0:Int)]).length (([(0:Int)]).map (fN .i64)):=fW f #[.int .i64 0] 1 (aP _) (by decide) rfl;have T7:=ce.ext hx3;clear C ce y z0 z1 z2 d0 d1 d2;go_wp2_with (at_builtin;refine aA _ rfl (.tmp 32) (.tmp 33) 93 rfl f.heap.size 3 i0 _ 8 underlying93 hi Z hz1 Y (by decide) rfl (ns:= [(0:Int)]) (p:=p) rfl hG (by simp) rfl T7 (by simp;omega) ?_)
       intro va P U O oh;have ol:Ext w P:=hx2.trans (hx3.grown O (by intro g hg;simp[gS] at hg;omega));have D:=hx2.size;have S:P.ownsRow w.heap.size 3 1 va ((0:Int)::p).length ((((0:Int)::p)).map (fN .i64)):=Xz U D;have ny:=hdq S;clear U O oh S;go_wp2_with fail;go_ret2;exact⟨_,rfl,ny.out,ol⟩
     · have l:a.length=1:=by have:(1:Int)=(a.length:Int):=a8;omega
       have hlt:(0:Int) <(a.length:Int):=by omega
       have B:0 < a.length:=by omega
       have u:U4 (.mk 16 n a)=((0:Int)::(U4 (kd a 0)).1,(U4 (kd a 0)).2):=by rw[U4,if_neg (by rw[Q.out];decide)];rw[<-Pl B];rfl
       rw[u] at m⊢;obtain⟨b,o,L,R,A',J,kids,rfl,T,E,H,F,I7,I6,hK',x9,N⟩:=hK.get (j:=0) (xr w) B;have K:kd a 0= .mk L R kids:=Pe B T.out;have C:=hdq (fun W (hx:Ext w W)=> hk _ N W _ (d - 1) (s _ N) (x9.ext hx) (by omega));rw[K] at m⊢;generalize U4 (.mk L R kids)=q at m C⊢;obtain⟨p,z⟩:=q;simp only[bX] at m;have hpl:p.length<=1000:=by omega
       simp only[dN,fU,fQ,cX,dZ,eM] at E H F;clear d6 Q a8 l u K T m s hk;go_enter func160,ntmps160;go_wp2_with fail;refine(X.out _ c).mono ?_;rintro e w1 ⟨rfl,i⟩;obtain⟨z0,z1,z2,-,-,-⟩:=own3 (i.blk I);have lz:=D1 (i.blk I);have hx1:=c.trans i;have d0:=hx1.cell E;have d1:=hx1.cell H;have d2:=hx1.cell F;clear I i c X E H F;go_wp2_with fail;refine(C.out _ hx1).mono ?_;rintro e f ⟨x,rfl,y,h2⟩;have ce:=Rz y;obtain⟨Bq,cq,rfl,-,-,-⟩:=Nv y;have hx2:=hx1.trans h2;have hx3:=(xr f).alloc (.cells #[.int .i64 0] 3);have hG:(f.alloc (.cells #[.int .i64 0] 3)).ownsRow f.heap.size 3 1 (.slice (some ⟨f.heap.size,0,none⟩) 1 1) ([(0:Int)]).length (([(0:Int)]).map (fN .i64)):=fW f #[.int .i64 0] 1 (aP _) (by decide) rfl;have T7:=ce.ext hx3;clear C ce y z0 z1 z2 d0 d1 d2;go_wp2_with (at_builtin;refine aA _ rfl (.tmp 32) (.tmp 33) 93 rfl f.heap.size 3 i0 _ 8 underlying93 hi Z hz1 Y (by decide) rfl (ns:= [(0:Int)]) (p:=p) rfl hG (by simp) rfl T7 (by simp;omega) ?_)
       intro va P U O oh;have ol:Ext w P:=hx2.trans (hx3.grown O (by intro g hg;simp[gS] at hg;omega));have D:=hx2.size;have S:P.ownsRow w.heap.size 3 1 va ((0:Int)::p).length ((((0:Int)::p)).map (fN .i64)):=Xz U D;have ny:=hdq S;clear U O oh S;go_wp2_with fail;go_ret2;exact⟨_,rfl,ny.out,ol⟩
     · have l:a.length=4:=by have:(4:Int)=(a.length:Int):=a8;omega
       have hlt:(3:Int) <(a.length:Int):=by omega
       have B:3 < a.length:=by omega
       have u:U4 (.mk 9 n a)=((3:Int)::(U4 (kd a 3)).1,(U4 (kd a 3)).2):=by rw[U4,if_neg (by rw[Q.out];decide)];rw[<-Pl B];rfl
       rw[u] at m⊢;obtain⟨b,o,L,R,A',J,kids,rfl,T,E,H,F,I7,I6,hK',x9,N⟩:=hK.get (j:=3) (xr w) B;have K:kd a 3= .mk L R kids:=Pe B T.out;have C:=hdq (fun W (hx:Ext w W)=> hk _ N W _ (d - 1) (s _ N) (x9.ext hx) (by omega));rw[K] at m⊢;generalize U4 (.mk L R kids)=q at m C⊢;obtain⟨p,z⟩:=q;simp only[bX] at m;have hpl:p.length<=1000:=by omega
       simp only[dN,fU,fQ,cX,dZ,eM] at E H F;clear d6 Q a8 l u K T m s hk;go_enter func160,ntmps160;go_wp2_with fail;refine(X.out _ c).mono ?_;rintro e w1 ⟨rfl,i⟩;obtain⟨z0,z1,z2,-,-,-⟩:=own3 (i.blk I);have lz:=D1 (i.blk I);have hx1:=c.trans i;have d0:=hx1.cell E;have d1:=hx1.cell H;have d2:=hx1.cell F;clear I i c X E H F;go_wp2_with fail;refine(C.out _ hx1).mono ?_;rintro e f ⟨x,rfl,y,h2⟩;have ce:=Rz y;obtain⟨Bq,cq,rfl,-,-,-⟩:=Nv y;have hx2:=hx1.trans h2;have hx3:=(xr f).alloc (.cells #[.int .i64 3] 3);have hG:(f.alloc (.cells #[.int .i64 3] 3)).ownsRow f.heap.size 3 1 (.slice (some ⟨f.heap.size,0,none⟩) 1 1) ([(3:Int)]).length (([(3:Int)]).map (fN .i64)):=fW f #[.int .i64 3] 1 (aP _) (by decide) rfl;have T7:=ce.ext hx3;clear C ce y z0 z1 z2 d0 d1 d2;go_wp2_with (at_builtin;refine aA _ rfl (.tmp 32) (.tmp 33) 93 rfl f.heap.size 3 i0 _ 8 underlying93 hi Z hz1 Y (by decide) rfl (ns:= [(3:Int)]) (p:=p) rfl hG (by simp) rfl T7 (by simp;omega) ?_)
       intro va P U O oh;have ol:Ext w P:=hx2.trans (hx3.grown O (by intro g hg;simp[gS] at hg;omega));have D:=hx2.size;have S:P.ownsRow w.heap.size 3 1 va ((3:Int)::p).length ((((3:Int)::p)).map (fN .i64)):=Xz U D;have ny:=hdq S;clear U O oh S;go_wp2_with fail;go_ret2;exact⟨_,rfl,ny.out,ol⟩
     · have l:a.length=3:=by have:(3:Int)=(a.length:Int):=a8;omega
       have hlt:(1:Int) <(a.length:Int):=by omega
       have B:1 < a.length:=by omega
       have u:U4 (.mk 12 n a)=((1:Int)::(U4 (kd a 1)).1,(U4 (kd a 1)).2):=by rw[U4,if_neg (by rw[Q.out];decide)];rw[<-Pl B];rfl
       rw[u] at m⊢;obtain⟨b,o,L,R,A',J,kids,rfl,T,E,H,F,I7,I6,hK',x9,N⟩:=hK.get (j:=1) (xr w) B;have K:kd a 1= .mk L R kids:=Pe B T.out;have C:=hdq (fun W (hx:Ext w W)=> hk _ N W _ (d - 1) (s _ N) (x9.ext hx) (by omega));rw[K] at m⊢;generalize U4 (.mk L R kids)=q at m C⊢;obtain⟨p,z⟩:=q;simp only[bX] at m;have hpl:p.length<=1000:=by omega
       simp only[dN,fU,fQ,cX,dZ,eM] at E H F;clear d6 Q a8 l u K T m s hk;go_enter func160,ntmps160;go_wp2_with fail;refine(X.out _ c).mono ?_;rintro e w1 ⟨rfl,i⟩;obtain⟨z0,z1,z2,-,-,-⟩:=own3 (i.blk I);have lz:=D1 (i.blk I);have hx1:=c.trans i;have d0:=hx1.cell E;have d1:=hx1.cell H;have d2:=hx1.cell F;clear I i c X E H F;go_wp2_with fail;refine(C.out _ hx1).mono ?_;rintro e f ⟨x,rfl,y,h2⟩;have ce:=Rz y;obtain⟨Bq,cq,rfl,-,-,-⟩:=Nv y;have hx2:=hx1.trans h2;have hx3:=(xr f).alloc (.cells #[.int .i64 1] 3);have hG:(f.alloc (.cells #[.int .i64 1] 3)).ownsRow f.heap.size 3 1 (.slice (some ⟨f.heap.size,0,none⟩) 1 1) ([(1:Int)]).length (([(1:Int)]).map (fN .i64)):=fW f #[.int .i64 1] 1 (aP _) (by decide) rfl;have T7:=ce.ext hx3;clear C ce y z0 z1 z2 d0 d1 d2;go_wp2_with (at_builtin;refine aA _ rfl (.tmp 32) (.tmp 33) 93 rfl f.heap.size 3 i0 _ 8 underlying93 hi Z hz1 Y (by decide) rfl (ns:= [(1:Int)]) (p:=p) rfl hG (by simp) rfl T7 (by simp;omega) ?_)
       intro va P U O oh;have ol:Ext w P:=hx2.trans (hx3.grown O (by intro g hg;simp[gS] at hg;omega));have D:=hx2.size;have S:P.ownsRow w.heap.size 3 1 va ((1:Int)::p).length ((((1:Int)::p)).map (fN .i64)):=Xz U D;have ny:=hdq S;clear U O oh S;go_wp2_with fail;go_ret2;exact⟨_,rfl,ny.out,ol⟩
   · have u:U4 (.mk k n a)=([],false):=by rw[U4,if_neg (by rw[Q.out];decide),if_neg (by omega),if_neg (by omega),if_neg (by omega)]
     rw[u];have t1:(k==5)=false:=beq_eq_false_iff_ne.2 (by omega);have t2:(k==15)=false:=beq_eq_false_iff_ne.2 (by omega);have t3:(k==16)=false:=beq_eq_false_iff_ne.2 (by omega);have t4:(k==9)=false:=beq_eq_false_iff_ne.2 (by omega);have t5:(k==12)=false:=beq_eq_false_iff_ne.2 (by omega);clear d6 Q a8 u m s hk hm;go_enter func160,ntmps160;go_wp2_with fail;refine(X.out _ c).mono ?_;rintro e w1 ⟨rfl,i⟩;obtain⟨z0,z1,z2,-,-,-⟩:=own3 (i.blk I);have lz:=D1 (i.blk I);go_wp2_with fail;go_ret2;exact⟨_,rfl,iW _ _ _ _,c.trans i⟩
 · have hb0:(r !=0)=true:=bne_iff_ne.2 h0
   have u:U4 (.mk k n a)=([],true):=by rw[U4,if_pos (by rw[Q.out];exact h0)]
   rw[u];clear u Q;go_enter func160,ntmps160;go_wp2_with fail;refine(X.out _ c).mono ?_;rintro e w1 ⟨rfl,i⟩;go_wp2_with fail;go_ret2;exact⟨_,rfl,iW _ _ _ _,c.trans i⟩
theorem JI(t:Tr)(f:Int)(w:World)(v:Value)(d6:Lies w t v):
 Calls prog 96 #[v,j0 f,.func (.func 160) #[] #[]] w fun e w'=> ∃r s,e= .returned (.tuple #[r,j0 s,j0 (b8 t f).2])/\W0 w w' 25 (b8 t f).1 r/\Ext w w':=by
 have HV:=hdq (fun W (hW:Ext w W)=> Qo t W v (d6.ext hW));have E:b8 t f=if(valid sigT t && ac f 0 200)=true then pa f.toNat t else(D2,3):=rfl
 rw[E];clear E;obtain⟨z,hz⟩: ∃z,valid sigT t=z:=⟨_,rfl⟩;obtain⟨y,hy⟩: ∃y,ac f 0 200=y:=⟨_,rfl⟩;rw[hz] at HV⊢;rw[hy];obtain⟨k,n,ks⟩:=t;obtain⟨A,cap,rfl,hl,hc,hK⟩:=Lies.mk_iff.1 d6;have o:=((xr w).alloc (D0 k n A ks.length cap)).alloc M0;obtain⟨T,D,hs2⟩:=blk2 (xr ((w.alloc (D0 k n A ks.length cap)).alloc M0));obtain⟨wS,I2⟩: ∃x,x=(w.alloc (D0 k n A ks.length cap)).alloc M0:=⟨_,rfl⟩;rw[<-I2] at o T D hs2;cases z with
 |false=>
  rw[if_neg (by simp)];go_enter func96,ntmps96;go_wp2_with fail;rw[<-I2];clear I2;refine(HV.out _ o).mono ?_;rintro e w1 ⟨rfl,u⟩;obtain⟨N,L,I,f0,f1,f2⟩:=own3 (u.blk D);go_wp2_with fail;refine aQ (v:= .tuple #[m0 0 0 none 0 0,j0 0,j0 3]) (by simp[aS,results96,go_sem,N,L,I]) rfl ⟨_,_,rfl,W0.leaf _ _ _ 0 0, ?_⟩;exact((((o.trans u).setCell (by simp) _).setCell (by simp) _).setCell (by simp) _)
 |true=>
  cases y with
  |false=>
   rw[if_neg (by simp)];go_enter func96,ntmps96;go_wp2_with fail;rw[<-I2];clear I2;refine(HV.out _ o).mono ?_;rintro e w1 ⟨rfl,u⟩;obtain⟨N,L,I,f0,f1,f2⟩:=own3 (u.blk D);go_wp2_with (go_at_call 51;refine(dj _ _ _ _).mono ?_;rw[hy];rintro e H ⟨rfl,rfl⟩)
   refine aQ (v:= .tuple #[m0 0 0 none 0 0,j0 0,j0 3]) (by simp[aS,results96,go_sem,N,L,I]) rfl ⟨_,_,rfl,W0.leaf _ _ _ 0 0, ?_⟩;exact((((o.trans u).setCell (by simp) _).setCell (by simp) _).setCell (by simp) _)
  |true=>
   rw[if_pos (by simp)];obtain⟨gg,hf2⟩:=ti.1 hy;obtain⟨F,rfl⟩:=Int.eq_ofNat_of_zero_le gg;rw[show((F:Int)).toNat=F from by omega];obtain⟨R,hR⟩: ∃R,pa F (.mk k n ks)=R:=⟨_,rfl⟩;rw[hR];have HR:=hdq hR;have HY:=hdq hy;have HZ:=hdq hz;have HF:=hdq hf2;clear hy hR hz gg hf2;go_enter func96,ntmps96;go_wp2_with fail;rw[<-I2];clear I2;refine(HV.out _ o).mono ?_;rintro e w1 ⟨rfl,u⟩;have mh:=u.blk T;have o9:=u.blk D;have hx1:=o.trans u;go_wp2_with (go_at_call 51;refine(dj _ _ _ _).mono ?_;rw[HY.out];rintro e H ⟨rfl,rfl⟩)
   clear HV o T D hs2 u d6 HY
   go_loopw [9] (fun i wr=> ∃(j:Nat) (a d:Int) (kids:List Tr) (A':Option Addr) (c':Nat),j<=F/\i= j0 j/\
    Hid (pa (F - j) (.mk a d kids)=R)/\Hid (valid sigT (.mk a d kids)=true)/\kids.length<=c'/\c'<=maxLen/\InK wr (fun b=> b < wr.heap.size/\(b < w.heap.size\/w.heap.size+2<=b)) A' kids/\
    wr.heap[w.heap.size]? =some (D0 a d A' kids.length c')/\wr.heap[w.heap.size+1]? =some M0/\Ext w wr) (fun i _=> F -(intOf i).toNat)
   case atStart=> exact⟨0,k,n,ks,A,cap,Nat.zero_le _,rfl,hdq HR.out,HZ,hl,hc,InK.mono (fun b l=>⟨Nat.lt_of_lt_of_le l hx1.size,.inl l⟩) (fun b l=> hx1.heap b l) hK,mh,o9,hx1⟩
   case round=>
    obtain⟨j,a,d,kids,A',c',hj,rfl,U,jk,I7,I6,hT,l,F6,hx⟩:=hrel;have hsz:w.heap.size+1 < wr.heap.size:=D1 F6;have hL:Lies wr (.mk a d kids) (m0 a d A' kids.length c'):=Lies.mk I7 I6 (InK.mono (fun b l=> l.1) (fun _ _=> rfl) hT);have HO:=CJ (.mk a d kids) wr _ 30 (jj jk.out).2 hL (by decide);have HOW:=hdq (fun W (hW:Ext wr W)=> Oi (.mk a d kids) W _ (hL.ext hW) (by have:=(jj jk.out).1;omega));have ux:=hdq (fun p (hp:hdQ (.mk a d kids)=some p) W (hW:Ext wr W) B c (hP:pm W B p.length c p)=> SK (.mk a d kids) p jk.out (pl _ p hp) W _ (hL.ext hW) B p.length c hP (by have:=LB _ 30 (jj jk.out).2;rw[rC hp] at this;simp only at this;omega));have V:=hdq (show∀q,hdQ (.mk a d kids)=q->Calls prog 160 #[m0 a d A' kids.length c'] wr fun e w'=> ∃x,e= .returned (.tuple #[x,.bool q.isSome])/\(q.isSome=true->w'.ownsRow wr.heap.size 3 1 x (q.getD []).length ((q.getD []).map (fN .i64)))/\Ext wr w' from fun q J=> by
     refine HO.mono ?_;rintro e w' ⟨x,rfl,u,m⟩;cases q with
     |none=> exact⟨x,by rw[Yy J];rfl,(fun h=> by cases h),m⟩
     |some p=> exact⟨x,by rw[rC J];rfl,(fun _=> by rw[rC J] at u;exact u),m⟩)
    clear HO hT hK mh o9 hx1;obtain⟨z0,z1,z2,-,-,-⟩:=own3 l;obtain⟨q,J⟩: ∃q,hdQ (.mk a d kids)=q:=⟨_,rfl⟩;have V:=hdq (V.out q J);cases q with
    |none=>
     have HE:=hdq (U.out.symm.trans (uA J (F - j)));clear ux J U;go_wp2_with fail;refine V.out.mono ?_;rintro e w2 ⟨x,rfl,-,m⟩;obtain⟨y0,y1,y2,-,-,-⟩:=own3 (m.blk l);clear z0 z1 z2;go_wp2_with fail;refine(HOW.out _ m).mono ?_;rintro e H ⟨r,rfl,Z,h3⟩;obtain⟨b1,b2,b3,b4,b5,rfl⟩:=Z.three';have K:=m.trans h3;obtain⟨N,L,I,f0,f1,f2⟩:=own3 (K.blk F6);have hw4:w.heap.size+2<=w2.heap.size:=by have:=m.size;omega
     clear y0 y1 y2;go_wp2_with fail;rw[HE.out];refine aQ (v:= .tuple #[m0 b1 b2 b3 b4 b5,j0 j,j0 0]) (by simp[aS,results96,go_sem,N,L,I]) rfl ⟨_,_,rfl,W0.since (Z.after ((((Ua.refl _ _).setCell (p:=⟨w.heap.size+1,0,none⟩) (by show w.heap.size+1 < _;omega) (j0 b1)).setCell (p:=⟨w.heap.size+1,1,none⟩) (by show w.heap.size+1 < _;omega) (j0 b2)).setCell (p:=⟨w.heap.size+1,2,none⟩) (by show w.heap.size+1 < _;omega) (.slice b3 b4 b5))) (by omega), ?_⟩;exact((((hx.trans K).setCell (by simp) _).setCell (by simp) _).setCell (by simp) _)
    |some p=>
     have P7:=hdq (ux.out p J);simp only[Option.isSome_some,Option.getD_some] at V;have HQ:=hdq J;clear ux J HOW;by_cases hjF:j=F
     · have HE:=hdq (U.out.symm.trans (show pa (F - j) (.mk a d kids)=(D2,1) by rw[show F - j=0 by omega];exact DF HQ.out))
       clear P7 U;subst hjF;go_wp2_with fail;refine V.out.mono ?_;rintro e w2 ⟨x,rfl,P,m⟩;have S:=P trivial;clear P;obtain⟨B,c,rfl,hP⟩:=oA S;obtain⟨N,L,I,f0,f1,f2⟩:=own3 (m.blk F6);clear z0 z1 z2 S;go_wp2_with fail;rw[HE.out];refine aQ (v:= .tuple #[m0 0 0 none 0 0,j0 j,j0 1]) (by simp[aS,results96,go_sem,N,L,I]) rfl ⟨_,_,rfl,W0.leaf _ _ _ 0 0, ?_⟩;exact((((hx.trans m).setCell (by simp) _).setCell (by simp) _).setCell (by simp) _)
     · have pz:((j:Int)==(F:Int))=false:=beq_eq_false_iff_ne.2 (by omega)
       have qu:(j==F)=false:=beq_eq_false_iff_ne.2 hjF;have hlt:j < F:=by omega
       have Ak:(j:Int) < 200:=by have:=HF.out;omega
       have hj4:F<=200:=by have:=HF.out;omega
       obtain⟨g,hg⟩: ∃g,F - j=g+1:=⟨F - j - 1,by omega⟩;have Y:F -(j+1)=g:=by omega
       have C:Ue (.mk a d kids) p=if valid sigT (conA (.mk a d kids) p)=true then(conA (.mk a d kids) p,true) else(D2,false):=rfl
       have Q:=U.out;rw[hg] at Q;by_cases O:valid sigT (conA (.mk a d kids) p)=true
       · rw[if_pos O] at C
         rw[pr HQ.out O,<-Y] at Q;rw[C] at P7;clear C U hg Y;generalize conA (.mk a d kids) p=X at P7 Q O;obtain⟨k2,n2,y17⟩:=X;have xd:=hdq Q;have Dq:=hdq O;clear Q O;go_wp2_with fail;refine V.out.mono ?_;rintro e w2 ⟨x,rfl,P,m⟩;have S:=P trivial;clear P;obtain⟨B,c,rfl,hP⟩:=oA S;obtain⟨y0,y1,y2,-,-,-⟩:=own3 (m.blk l);clear z0 z1 z2 S;go_wp2_with fail;refine(P7.out _ m _ _ hP).mono ?_;rintro e H ⟨r,rfl,Z,h3⟩;have Ae:=E2.made Z;obtain⟨A2,c2,rfl,hl2,hc2,hK2⟩:=InT.mk_iff.1 Ae;have K:=(m.trans h3).trans ((xr H).alloc (D0 k2 n2 A2 y17.length c2));obtain⟨N,L,I,f0,f1,f2⟩:=own3 (K.blk l);have Fz:=K.blk l;have xy:=K.blk F6;have Lh:wr.heap.size<=w2.heap.size:=m.size;have Li:w2.heap.size<=H.heap.size:=h3.size;have KEEP:=hdq (fun(a0 a1 a2:Value) (b:Nat) (l:b < H.heap.size) (hne:b≠w.heap.size)=>(show((((H.alloc (D0 k2 n2 A2 y17.length c2)).setCell ⟨w.heap.size,0,none⟩ a0).setCell ⟨w.heap.size,1,none⟩ a1).setCell ⟨w.heap.size,2,none⟩ a2).heap[b]? =H.heap[b]?from by
          rw[Below.heap_setCell _ _ _ _ hne,Below.heap_setCell _ _ _ _ hne,Below.heap_setCell _ _ _ _ hne];exact((xr H).alloc _).heap b l))
         clear y0 y1 y2 l F6 Z Ae;go_wp2_with fail
         go_roundw
         case rel=> exact⟨j+1,k2,n2,y17,A2,c2,hlt,by go_num,xd,Dq,hl2,hc2,InK.mono (fun b l=>⟨by simp;omega,.inr (by omega)⟩) (fun b l=> KEEP.out _ _ _ b l.2 (by omega)) hK2,b6 (b6 (b6 Fz 0 _) 1 _) 2 _,fe (fe (fe xy (by simp) _) (by simp) _) (by simp) _,(((hx.trans K).setCell (by simp) _).setCell (by simp) _).setCell (by simp) _⟩
         case measure=> simp[intOf];omega
       · rw[if_neg O] at C
         rw[Tn HQ.out (Bool.eq_false_iff.2 O)] at Q;rw[C] at P7;have HE:=hdq Q.symm;clear C U hg Y O Q;go_wp2_with fail;refine V.out.mono ?_;rintro e w2 ⟨x,rfl,P,m⟩;have S:=P trivial;clear P;obtain⟨B,c,rfl,hP⟩:=oA S;obtain⟨y0,y1,y2,-,-,-⟩:=own3 (m.blk l);clear z0 z1 z2 S;go_wp2_with fail;refine(P7.out _ m _ _ hP).mono ?_;rintro e H ⟨r,rfl,Z,h3⟩;obtain⟨b1,b2,b3,b4,b5,rfl⟩:=Z.three';have K:=(m.trans h3).trans ((xr H).alloc (D0 b1 b2 b3 b4 b5));obtain⟨N,L,I,f0,f1,f2⟩:=own3 (K.blk F6);clear y0 y1 y2;go_wp2_with fail;rw[HE.out];refine aQ (v:= .tuple #[m0 0 0 none 0 0,j0 j,j0 2]) (by simp[aS,results96,go_sem,N,L,I]) rfl ⟨_,_,rfl,W0.leaf _ _ _ 0 0, ?_⟩;exact((((hx.trans K).setCell (by simp) _).setCell (by simp) _).setCell (by simp) _)
theorem uK(t:Tr)(f:Int)(w:World)(v:Value)(D:Lies w t v):
 Calls prog 125 #[v,j0 f] w fun e u=> ∃r,e= .returned (.tuple #[r,j0 (b8 t f).2])/\W0 w u 25 (b8 t f).1 r/\Ext w u:=by
 have z:=hdq (fun W (K:Ext w W)=> JI t f W v (D.ext K));obtain⟨S,hS⟩: ∃S,b8 t f=S:=⟨_,rfl⟩;rw[hS] at z⊢;obtain⟨k,n,o⟩:=t;obtain⟨A,cap,rfl,hl,hc,hK⟩:=Lies.mk_iff.1 D;clear hS;have a:=((xr w).alloc (D0 k n A o.length cap)).alloc M0;obtain⟨l,b,m⟩:=blk2 (xr ((w.alloc (D0 k n A o.length cap)).alloc M0));obtain⟨I,q⟩: ∃x,x=(w.alloc (D0 k n A o.length cap)).alloc M0:=⟨_,rfl⟩;rw[<-q] at a l b m;go_enter func125,ntmps125;go_wp2_with fail;rw[<-q];clear q;refine(z.out _ a).mono ?_;rintro e B ⟨r,s,rfl,y,F⟩;obtain⟨c,d,i,g,j,rfl⟩:=y.three';have C:=F.trans ((xr B).alloc (D0 c d i g j));obtain⟨N,L,H,Q,O,P⟩:=own3 (C.blk b);have E:=y.ext ((xr B).alloc (D0 c d i g j));have J:w.heap.size+2<=I.heap.size:=by omega
 go_wp2_with fail;refine aQ (v:= .tuple #[m0 c d i g j,j0 S.2]) (by simp[aS,results125,go_sem,N,L,H]) rfl ⟨_,rfl,W0.since (E.after ((((Ua.refl _ _).setCell (p:=⟨w.heap.size+1,0,none⟩) (by show w.heap.size+1 < _;omega) (j0 c)).setCell (p:=⟨w.heap.size+1,1,none⟩) (by show w.heap.size+1 < _;omega) (j0 d)).setCell (p:=⟨w.heap.size+1,2,none⟩) (by show w.heap.size+1 < _;omega) (.slice i g j))) (by omega), ?_⟩;exact((((a.trans C).setCell (by simp) _).setCell (by simp) _).setCell (by simp) _)
theorem GB{t:Tr}{f:Int}(h:valid sigT t=true)(hf:ac f 0 200=true):Ze t f=P5 f.toNat t:=by
 unfold Ze;rw[h,hf]
 rfl
theorem vJ(a b:Tr)(f:Int)(w:World)(Q u:Value)(ha:Lies w a Q)(o:Lies w b u):
 Calls prog 17 #[Q,u,j0 f] w fun e w'=> e= .returned (j0 (ge a b f))/\Ext w w':=by
 have il:=hdq (fun W (d:Ext w W)=> Qo a W Q (ha.ext d));have Fl:=hdq (fun W (d:Ext w W)=> Qo b W u (o.ext d));have zf:=hdq (fun W (d:Ext w W)=> TK a f W Q (ha.ext d));have yx:=hdq (fun W (d:Ext w W)=> TK b f W u (o.ext d));have Ce:=hdq (fun W (d:Ext w W)=> kG a W b Q u (ha.ext d) (o.ext d));have E:ge a b f=if(valid sigT a &&(valid sigT b && ac f 0 200))=true then(if a=b then 1 else if(P5 f.toNat a).2=0/\(P5 f.toNat b).2=0 then(if(P5 f.toNat a).1=(P5 f.toNat b).1 then 1 else 2) else 3) else 0:=rfl
 have Ew:=fun(j:valid sigT a=true) (k:ac f 0 200=true)=> GB j k
 have Fs:=fun(j:valid sigT b=true) (k:ac f 0 200=true)=> GB j k
 obtain⟨C,hC⟩: ∃C,ge a b f=C:=⟨_,rfl⟩;rw[hC] at E⊢;clear hC;obtain⟨za,au⟩: ∃z,valid sigT a=z:=⟨_,rfl⟩;obtain⟨zb,V⟩: ∃z,valid sigT b=z:=⟨_,rfl⟩;obtain⟨y,hy⟩: ∃y,ac f 0 200=y:=⟨_,rfl⟩;obtain⟨q,hq⟩: ∃q,n8 a b=q:=⟨_,rfl⟩;rw[au] at il E Ew;rw[V] at Fl E Fs;rw[hy] at E Ew Fs;rw[hq] at Ce;have Ba:(a=b)↔q=true:=by rw[<-hq];exact Sz.symm
 have HY:=hdq hy;have HQ:=hdq Ba;have O:=hdq E;have HA:=hdq Ew;have HB:=hdq Fs;clear au V hy hq Ba E Ew Fs;obtain⟨k1,Z,tx⟩:=a;obtain⟨k2,n2,R8⟩:=b;obtain⟨A1,c1,rfl,T3,hc1,M6⟩:=Lies.mk_iff.1 ha;obtain⟨A2,c2,rfl,hl2,hc2,hK2⟩:=Lies.mk_iff.1 o;have g:=((xr w).alloc (D0 k1 Z A1 tx.length c1)).alloc (D0 k2 n2 A2 R8.length c2);obtain⟨i,c,hs2⟩:=blk2 (xr ((w.alloc (D0 k1 Z A1 tx.length c1)).alloc (D0 k2 n2 A2 R8.length c2)));obtain⟨wS,I2⟩: ∃x,x=(w.alloc (D0 k1 Z A1 tx.length c1)).alloc (D0 k2 n2 A2 R8.length c2):=⟨_,rfl⟩;rw[<-I2] at g i c hs2;go_enter func17,ntmps17;go_wp2_with fail;rw[<-I2];clear I2;refine(il.out _ g).mono ?_;rintro e w1 ⟨rfl,v⟩;have hx1:=g.trans v;cases za with
 |false=>
  have hr:C=0:=by rw[O.out];rfl
  have HR:=hdq hr;clear hr;go_wp2_with fail;go_ret;exact⟨by rw[HR.out];rfl,hx1⟩
 |true=>
  obtain⟨K,J,D,-⟩:=own3 (v.blk c);go_wp2_with fail;refine(Fl.out _ hx1).mono ?_;rintro e w2 ⟨rfl,e2⟩;have hx2:=hx1.trans e2;clear K J D;cases zb with
  |false=>
   have hr:C=0:=by rw[O.out];rfl
   have HR:=hdq hr;clear hr;go_wp2_with fail;go_ret;exact⟨by rw[HR.out];rfl,hx2⟩
  |true=>
   go_wp2_with fail;refine(dj f 0 200 w2).mono ?_;rintro e w3 ⟨rfl,rfl⟩;rw[HY.out];cases y with
   |false=>
    have hr:C=0:=by rw[O.out];rfl
    have HR:=hdq hr;clear hr;go_wp2_with fail;go_ret;exact⟨by rw[HR.out];rfl,hx2⟩
   |true=>
    have R:=HA.out (by simp) (by simp);have F:=HB.out (by simp) (by simp);rw[R] at zf;rw[F] at yx;have C0:=O.out;rw[Bool.and_self,Bool.and_self,if_pos rfl] at C0;have U:=hdq C0;clear R F C0 O;obtain⟨q0,q1,l,-⟩:=own3 ((v.trans e2).blk i);obtain⟨K,J,D,-⟩:=own3 ((v.trans e2).blk c);go_wp2_with fail;refine(Ce.out _ hx2).mono ?_;rintro e w3 ⟨rfl,e3⟩;have hx3:=hx2.trans e3;clear q0 q1 l K J D;cases q with
    |true=>
     have hr:C=1:=by rw[U.out,if_pos (HQ.out.2 rfl)]
     have HR:=hdq hr;clear hr;go_wp2_with fail;go_ret;exact⟨by rw[HR.out];rfl,hx3⟩
    |false=>
     have X:=U.out;rw[if_neg (fun h=> by have:=HQ.out.1 h;cases this)] at X;obtain⟨S1,A⟩: ∃S,P5 f.toNat (.mk k1 Z tx)=S:=⟨_,rfl⟩;obtain⟨S2,p⟩: ∃S,P5 f.toNat (.mk k2 n2 R8)=S:=⟨_,rfl⟩;rw[A] at zf X;rw[p] at yx X;obtain⟨⟨N,H,B⟩,s1⟩:=S1;obtain⟨⟨Y,I,T⟩,s2⟩:=S2;have ky:=hdq X;clear A p X;have eb:=(v.trans e2).trans e3;obtain⟨q0,q1,l,-⟩:=own3 (eb.blk i);go_wp2_with fail;refine(zf.out _ hx3).mono ?_;rintro e n ⟨r,rfl,Ec,e4⟩;have P:=Ec.lies;obtain⟨A3,c3,rfl,I8,hc3,hK3⟩:=Lies.mk_iff.1 P;obtain⟨w5,p7⟩: ∃x,x=n.alloc (D0 N H A3 B.length c3):=⟨_,rfl⟩;have e5:Ext n w5:=p7▸(xr n).alloc _;have M7:w5.heap[n.heap.size]? =some (D0 N H A3 B.length c3):=p7▸aT n _;obtain⟨K,J,D,-⟩:=own3 (((eb.trans e4).trans e5).blk c);have hs5:n.heap.size < w5.heap.size:=D1 M7;have P8:=(hx3.trans e4).trans e5;have p04:=own3 ((eb.trans e4).blk c);obtain⟨r0,r1,r2,-⟩:=p04;have lz1:=D1 ((eb.trans e4).blk c);clear q0 q1 l Ec;go_wp2_with fail;rw[<-p7];clear p7 r0 r1 r2;refine(yx.out _ P8).mono ?_;rintro e s ⟨r,rfl,Bg,e6⟩;have t:=Bg.lies;obtain⟨A4,c4,rfl,hl4,hc4,hK4⟩:=Lies.mk_iff.1 t;obtain⟨w7,m⟩: ∃x,x=s.alloc (D0 Y I A4 T.length c4):=⟨_,rfl⟩;have e7:Ext s w7:=m▸(xr s).alloc _;have Fz:w7.heap[s.heap.size]? =some (D0 Y I A4 T.length c4):=m▸aT s _;have Kg:=(P8.trans e6).trans e7;clear K J D Bg;by_cases j:s1=0
     · subst j
       by_cases k:s2=0
       · subst k
         obtain⟨d0,d1,d2,-⟩:=own3 (e6.blk M7);have lz2:=D1 (e6.blk M7);have L:=hdq (kG (.mk N H B) w7 (.mk Y I T) _ _ (((P.ext e5).ext e6).ext e7) (t.ext e7));obtain⟨l,Ix⟩: ∃q,n8 (.mk N H B) (.mk Y I T)=q:=⟨_,rfl⟩;have hr:C=if l=true then 1 else 2:=by
          rw[ky.out,if_pos ⟨rfl,rfl⟩,<-Ix];by_cases he:Tr.mk N H B=Tr.mk Y I T
          · rw[if_pos he,if_pos (Sz.2 he)]
          · rw[if_neg he,if_neg (fun h=> he (Sz.1 h))]
         rw[Ix] at L;have HR:=hdq hr;clear hr Ix;go_wp2_with fail;rw[<-m];clear m;refine L.out.mono ?_;rintro e w8 ⟨rfl,e8⟩;cases l
         all_goals(
          go_wp2_with fail;go_ret;exact⟨by rw[HR.out];rfl,Kg.trans e8⟩)
       · have hr:C=3:=by rw[ky.out,if_neg (fun h=> k h.2)]
         have o:(s2 !=0)=true:=by simpa using k
         have HR:=hdq hr;clear hr;go_wp2_with fail;rw[<-m];go_ret;exact⟨by rw[HR.out];rfl,Kg⟩
     · have hr:C=3:=by rw[ky.out,if_neg (fun h=> j h.1)]
       have o:(s1 !=0)=true:=by simpa using j
       have HR:=hdq hr;clear hr;go_wp2_with fail;rw[<-m];go_ret;exact⟨by rw[HR.out];rfl,Kg⟩
end Go.Proofs.YtckhbnmfnpolgaaGreat
namespace Go.Proofs.YtckhbnmfnpolgaaGreat
open Go.RowKit
open M (Hd HR Cv Ty j2 rc a7 O5 wg)
def i5(x y:An):Prop:= ∀r,x=some r->y=some r
theorem i5.rfl'(x:An):i5 x x:=fun _ h=> h
theorem i5.thn{x y:An}{f g:Tr->An}(h:i5 x y)(k: ∀s,i5 (f s) (g s)):i5 (thn x f) (thn y g):=by
 intro r e;cases x with
 |none=> cases e
 |some p=>
  rw[h p rfl];obtain⟨s,c⟩:=p;unfold Go.Proofs.YtckhbnmfnpolgaaGreat.thn at e⊢;simp only at e⊢
  split
  · rename_i hc
    rw[if_pos hc] at e;exact k s r e
  · rename_i hc
    rw[if_neg hc] at e;exact e
theorem i5.frm{x y:An}(kind:Int)(h:i5 x y):i5 (Q0 x kind) (Q0 y kind):=h.thn fun _=> i5.rfl' _
theorem i5.chk{x y u v:An}(w:Tr)(h:i5 x y)(k:i5 u v):i5 (E4 x w u) (E4 y w v):=h.thn fun s=> by
 split
 · exact k
 · exact i5.rfl' _
theorem i5.fam{x y u v:An}(T:Tr)(h:i5 x y)(k:i5 u v):i5 (Ea x T u) (Ea y T v):=(h.frm 3).thn fun s=> by
 split
 · exact(i5.rfl' _).thn fun _=> k
 · exact i5.rfl' _
theorem i5.jud{G:List Tr}{b e:Tr->An}{ty d:Nat->An}(h: ∀t,i5 (b t) (e t))(k: ∀i,i5 (ty i) (d i))(c n:Int)(f:List Tr):i5 (Sc G b ty c n f) (Sc G e d c n f):=by
 unfold Sc;by_cases a:c=1
 · rw[if_pos a,if_pos a];exact i5.rfl' _
 rw[if_neg a,if_neg a];by_cases a:c=2
 · rw[if_pos a,if_pos a];exact i5.rfl' _
 rw[if_neg a,if_neg a];by_cases a:c=6
 · rw[if_pos a,if_pos a];exact i5.rfl' _
 rw[if_neg a,if_neg a];by_cases a:c=7
 · rw[if_pos a,if_pos a];exact i5.rfl' _
 rw[if_neg a,if_neg a];by_cases a:c=8
 · rw[if_pos a,if_pos a];exact(k 0).chk _ (i5.rfl' _)
 rw[if_neg a,if_neg a];by_cases a:c=3\/c=13
 · rw[if_pos a,if_pos a];exact((k 0).frm 2).thn fun _=>((k 1).frm 2).thn fun _=> i5.rfl' _
 rw[if_neg a,if_neg a];by_cases a:c=4
 · rw[if_pos a,if_pos a];exact((k 0).frm 2).thn fun _=>(k 1).thn fun _=>(i5.rfl' _).thn fun o=>(h o).thn fun _=> i5.rfl' _
 rw[if_neg a,if_neg a];by_cases a:c=5
 · rw[if_pos a,if_pos a];exact((k 0).frm 3).thn fun _=>(k 1).chk _ (i5.rfl' _)
 rw[if_neg a,if_neg a];by_cases a:c=9
 · rw[if_pos a,if_pos a];exact(k 0).fam _ ((i5.rfl' _).thn fun _=>(k 1).chk _ ((i5.rfl' _).thn fun _=>(k 2).chk _ ((k 3).chk _ (i5.rfl' _))))
 rw[if_neg a,if_neg a];by_cases a:c=10
 · rw[if_pos a,if_pos a];exact((k 0).frm 2).thn fun _=>(k 1).chk _ ((k 2).chk _ (i5.rfl' _))
 rw[if_neg a,if_neg a];by_cases a:c=11
 · rw[if_pos a,if_pos a];exact(k 0).thn fun s=>((h s).frm 2).thn fun _=> i5.rfl' _
 rw[if_neg a,if_neg a];by_cases a:c=12
 · rw[if_pos a,if_pos a];exact((k 1).frm 10).thn fun _=>(k 0).fam _ ((i5.rfl' _).thn fun _=>(k 2).chk _ (i5.rfl' _))
 rw[if_neg a,if_neg a];by_cases a:c=14
 · rw[if_pos a,if_pos a];exact((k 0).frm 2).thn fun _=>(i5.rfl' _).thn fun _=>(k 1).chk _ ((i5.rfl' _).thn fun _=>(k 2).chk _ (i5.rfl' _))
 rw[if_neg a,if_neg a];exact((k 0).frm 13).thn fun _=> i5.rfl' _
theorem yp: ∀(f:Nat) (G:List Tr) (t:Tr),i5 (P0 f G t) (P0 (f+1) G t)
 |0,G,t=> fun r h=> by cases h
 |f+1,G,.mk k n a=> i5.jud (yp f G) (fun i=> by
  unfold Ma
  split
  · exact yp f G _
  · split
    · exact i5.rfl' _
    · exact yp f _ _) k n a
theorem Qj{f a:Nat}(h:f<=a)(G:List Tr)(t:Tr):i5 (P0 f G t) (P0 a G t):=by
 induction h with
 |refl=> exact i5.rfl' _
 |step _ ih=> exact fun r e=> yp _ G t r (ih r e)
def Wc(G:List Tr)(t:Tr):Prop:= ∃f r,P0 f G t=some r
def Is(x:An):Prop:= ∃r,x=some r
theorem Is.mk(r:Tr×Int):Is (some r):=⟨r,rfl⟩
theorem Is.thn{x:An}{f:Tr->An}(h:Is x)(k: ∀s,x=some (s,0)->Is (f s)):Is (thn x f):=by
 obtain⟨⟨s,c⟩,e⟩:=h;subst e;unfold Go.Proofs.YtckhbnmfnpolgaaGreat.thn;simp only
 split
 · rename_i hc
   subst hc;exact k s rfl
 · exact Is.mk _
theorem Is.frm{x:An}(kind:Int)(h:Is x):Is (Q0 x kind):=h.thn fun _ _=> Is.mk _
theorem Is.chk{x y:An}(w:Tr)(h:Is x)(k:Is y):Is (E4 x w y):=h.thn fun s _=> by
 split
 · exact k
 · exact Is.mk _
theorem Is.fam{x y:An}(T:Tr)(h:Is x)(k:Is y):Is (Ea x T y):=(h.frm 3).thn fun s _=> by
 split
 · exact(Is.mk _).thn fun _ _=> k
 · exact Is.mk _
theorem Is.le{x y:An}(h:Is x)(k:i5 x y):Is y:=by
 obtain⟨r,e⟩:=h;exact⟨r,k r e⟩
theorem Wc.at{G:List Tr}{t:Tr}(h:Wc G t): ∃f,∀a,f<=a->Is (P0 a G t):=by
 obtain⟨f,r,e⟩:=h;exact⟨f,fun a hf=>⟨r,Qj hf G t r e⟩⟩
theorem Wc.of{G:List Tr}{t:Tr}{f:Nat}(h:Is (P0 f G t)):Wc G t:=by
 obtain⟨r,e⟩:=h;exact⟨f,r,e⟩
section
variable {G : List M.Tm}
theorem qB{f:Nat}{k:Int}{A t:M.Tm}(hk:T4 k 1=1)(h:G.length < 20->Is (P0 f (ctxE (A::G)) (enc t))):Is (Ma (P0 f) (ctxE G) k [enc A,enc t] 1):=by
 rw[To _ _ hk]
 split
 · exact Is.mk _
 · rename_i a
   rw[q28] at a;rw[show ctxE G++ [kd [enc A,enc t] 0]=ctxE (A::G) from(de A G).symm];exact h (by omega)
theorem On(hG:y6 G)(k: ∀A,a7 G A->valid sigT (enc A)=true->G.length < 20-> ∀t,valid sigT (enc t)=true->Wc (ctxE (A::G)) (enc t)){A:M.Tm}(hA:valid sigT (enc A)=true)(h:Wc (ctxE G) (enc A))(t:M.Tm)(ht:valid sigT (enc t)=true):
 ∃f,∀a,f<=a->Is (P0 a (ctxE G) (enc A))/\ ∀s,Q0 (P0 a (ctxE G) (enc A)) 2=some (s,0)->G.length < 20->Is (P0 a (ctxE (A::G)) (enc t)):=by
 obtain⟨c,d⟩:=h.at;by_cases e: ∃s,Q0 (P0 c (ctxE G) (enc A)) 2=some (s,0)
 · obtain⟨s,hs⟩:=e
   obtain⟨S,i,-,-,-,-,b,-⟩:=pe (snd c) hG hA hs;by_cases hl:G.length < 20
   · obtain⟨j,g⟩:=(k A b hA hl t ht).at
     exact⟨max c j,fun a hf=>⟨d a (by omega),fun _ _ _=> g a (by omega)⟩⟩
   · exact⟨c,fun a hf=>⟨d a hf,fun _ _ h=> absurd h hl⟩⟩
 · refine⟨c,fun a hf=>⟨d a hf,fun s hs=> ?_⟩⟩
   exfalso
   obtain⟨r,hr⟩:=d c (aP _);have:=Qj hf (ctxE G) (enc A) r hr;rw[this] at hs;rw[hr] at e;exact e ⟨s,hs⟩
theorem g9{k n:Int}{a:List Tr}{x:Tr}(h:valid sigT (.mk k n a)=true)(hm:x∈a):valid sigT x=true:=wA h hm
def cE(G:List M.Tm)(t:M.Tm):Prop:=valid sigT (enc t)=true->Wc (ctxE G) (enc t)
theorem nC(hG:y6 G)(E: ∀A,a7 G A->valid sigT (enc A)=true->G.length < 20-> ∀t,valid sigT (enc t)=true->Wc (ctxE (A::G)) (enc t)):wg G (cE G) where
 var:=fun n hv=> Wc.of (f:=1) ⟨_,rfl⟩
 sort:=fun n hv=> Wc.of (f:=1) ⟨(if(n:Int)=3 then(D2,(1:Int)) else(m7 ((n:Int)+1),0)),by simp[enc,P0,Sc]⟩
 nat:=fun hv=> Wc.of (f:=1) ⟨_,rfl⟩
 zero:=fun hv=> Wc.of (f:=1) ⟨_,rfl⟩
 succ:=fun{a} h hv=> by
  obtain⟨f,c⟩:=(h (g9 hv (by simp))).at;exact Wc.of (f:=f+1) ((c f (aP _)).chk L6 (Is.mk _))
 pi:=fun{A} B h hv=> by
  obtain⟨f,c⟩:=On hG E (g9 hv (by simp)) (h (g9 hv (by simp))) B (g9 hv (by simp));obtain⟨l,m⟩:=c f (aP _);exact Wc.of (f:=f+1) ((l.frm 2).thn fun s hs=>((qB rfl (m s hs)).frm 2).thn fun _ _=> Is.mk _)
 sg:=fun{A} B h hv=> by
  obtain⟨f,c⟩:=On hG E (g9 hv (by simp)) (h (g9 hv (by simp))) B (g9 hv (by simp));obtain⟨l,m⟩:=c f (aP _);exact Wc.of (f:=f+1) ((l.frm 2).thn fun s hs=>((qB rfl (m s hs)).frm 2).thn fun _ _=> Is.mk _)
 lam:=fun{A} t h hv=> by
  have hA:=g9 hv (show enc A∈ [enc A,enc t] by simp);obtain⟨f,c⟩:=On hG E hA (h hA) t (g9 hv (by simp));obtain⟨l,m⟩:=c f (aP _);by_cases y: ∃s b,Q0 (P0 f (ctxE G) (enc A)) 2=some (s,0)/\Ma (P0 f) (ctxE G) 4 [enc A,enc t] 1=some (b,0)/\valid sigT (.mk 3 0 [enc A,b])=true
  · obtain⟨s,b,D,C,e3⟩:=y
    obtain⟨S,i,-,-,-,-,bA,-⟩:=pe (snd f) hG hA D;have hl:G.length < 20:=by have:=(Qu rfl C).1;rwa [q28] at this
    obtain⟨B,rfl,-,-,Z⟩:=snd f (A::G) t b (hG.cons bA hA) (g9 hv (by simp)) (AB rfl C);obtain⟨d,H⟩:=On hG E hA (h hA) B Z;refine Wc.of (f:=max f d+2) ?_;obtain⟨W,-⟩:=c (max f d+1) (by omega);refine(W.frm 2).thn fun x U=>(qB rfl fun F=>(c (max f d+1) (by omega)).2 x U F).thn fun V L=>(Is.mk _).thn fun o I=> ?_
    have Y:V=enc B:=by
     have Q:Ma (P0 (max f d+1)) (ctxE G) 4 [enc A,enc t] 1=some (enc B,0):=by
      have h8:=(Qu rfl C).2;rw[To _ _ rfl,if_neg (by rw[q28];omega)];exact Qj (by omega) _ _ _ h8
     rw[Q] at L
     simpa using L.symm
    subst Y;obtain⟨v,rfl⟩:=ai I;refine Is.thn ?_ fun _ _=> Is.mk _
    obtain⟨X,O⟩:=H (max f d) (by omega);exact(X.frm 2).thn fun s hs=>((qB (f:=max f d) rfl (O s hs)).frm 2).thn fun _ _=> Is.mk _
  · refine Wc.of (f:=f+1) ?_
    refine(l.frm 2).thn fun s D=>(qB rfl (m s D)).thn fun b C=>(Is.mk _).thn fun o I=> ?_
    obtain⟨v,-⟩:=ai I;exact absurd ⟨s,b,D,C,v⟩ y
 app:=fun{g a} h k hv=> by
  obtain⟨j,c⟩:=(h (g9 hv (by simp))).at;obtain⟨d,l⟩:=(k (g9 hv (by simp))).at;exact Wc.of (f:=max j d+1) (((c _ (Nat.le_max_left ..)).frm 3).thn fun _ _=>(l _ (Nat.le_max_right ..)).chk _ (Is.mk _))
 elim:=fun{p z s a} c l m H hv=> by
  obtain⟨j,q⟩:=(c (g9 hv (by simp))).at;obtain⟨d,r⟩:=(l (g9 hv (by simp))).at;obtain⟨u,w⟩:=(m (g9 hv (by simp))).at;obtain⟨R,g4⟩:=(H (g9 hv (by simp))).at;exact Wc.of (f:=j+d+u+R+1) ((q _ (by omega)).fam _ ((Is.mk _).thn fun _ _=>(r _ (by omega)).chk _ ((Is.mk _).thn fun _ _=>(w _ (by omega)).chk _ ((g4 _ (by omega)).chk _ (Is.mk _)))))
 id:=fun{T a b} c l m hv=> by
  obtain⟨j,q⟩:=(c (g9 hv (by simp))).at;obtain⟨d,r⟩:=(l (g9 hv (by simp))).at;obtain⟨u,w⟩:=(m (g9 hv (by simp))).at;exact Wc.of (f:=j+d+u+1) (((q _ (by omega)).frm 2).thn fun _ _=>(r _ (by omega)).chk _ ((w _ (by omega)).chk _ (Is.mk _)))
 refl:=fun{a} h k hv=> by
  have K:=g9 hv (show enc a∈ [enc a] by simp);obtain⟨j,q⟩:=(h K).at;by_cases y: ∃s,P0 j (ctxE G) (enc a)=some (s,0)
  · obtain⟨s,e⟩:=y
    obtain⟨A,rfl,N,-,P⟩:=snd j G a s hG K e;obtain⟨d,r⟩:=(k A N P).at;refine Wc.of (f:=j+d+1) ((q _ (by omega)).thn fun x J=> ?_);have:x=enc A:=by
     have:=Qj (show j<=j+d by omega) _ _ _ e;rw[show P0 (j+d) (ctxE G) (enc a)=some (x,0) from J] at this
     simpa using this
    subst this;exact((r (j+d) (by omega)).frm 2).thn fun _ _=> Is.mk _
  · refine Wc.of (f:=j+1) ((q _ (by omega)).thn fun x J=> ?_)
    exact absurd ⟨x,J⟩ y
 move:=fun{p e a} c l m hv=> by
  obtain⟨j,q⟩:=(c (g9 hv (by simp))).at;obtain⟨d,r⟩:=(l (g9 hv (by simp))).at;obtain⟨u,w⟩:=(m (g9 hv (by simp))).at;exact Wc.of (f:=j+d+u+1) (((r _ (by omega)).frm 10).thn fun _ _=>(q _ (by omega)).fam _ ((Is.mk _).thn fun _ _=>(w _ (by omega)).chk _ (Is.mk _)))
 pair:=fun{T a b} c l m hv=> by
  obtain⟨j,q⟩:=(c (g9 hv (by simp))).at;obtain⟨d,r⟩:=(l (g9 hv (by simp))).at;obtain⟨u,w⟩:=(m (g9 hv (by simp))).at;exact Wc.of (f:=j+d+u+1) (((q _ (by omega)).frm 2).thn fun _ _=>(Is.mk _).thn fun _ _=>(r _ (by omega)).chk _ ((Is.mk _).thn fun _ _=>(w _ (by omega)).chk _ (Is.mk _)))
 fst:=fun{a} h hv=> by
  obtain⟨f,c⟩:=(h (g9 hv (by simp))).at;exact Wc.of (f:=f+1) (((c f (aP _)).frm 13).thn fun _ _=> Is.mk _)
 snd:=fun{a} h hv=> by
  obtain⟨f,c⟩:=(h (g9 hv (by simp))).at;exact Wc.of (f:=f+1) (((c f (aP _)).frm 13).thn fun _ _=> Is.mk _)
end
theorem Tv: ∀(d:Nat) (G:List M.Tm),20<=G.length+d->y6 G-> ∀t,cE G t:=by
 intro d
 induction d with
 |zero=>
  intro G hd hG;have a: ∀A,a7 G A->valid sigT (enc A)=true->G.length < 20-> ∀t,valid sigT (enc t)=true->Wc (ctxE (A::G)) (enc t):=fun A _ _ h=> by omega
  exact fun t=> M.allW (nC hG a) hG.wf.wf t
 |succ d ih=>
  intro G hd hG;have a: ∀A,a7 G A->valid sigT (enc A)=true->G.length < 20-> ∀t,valid sigT (enc t)=true->Wc (ctxE (A::G)) (enc t):=fun A b v h t=> ih (A::G) (by simp only[bX];omega) (hG.cons b v) t
  exact fun t=> M.allW (nC hG a) hG.wf.wf t
