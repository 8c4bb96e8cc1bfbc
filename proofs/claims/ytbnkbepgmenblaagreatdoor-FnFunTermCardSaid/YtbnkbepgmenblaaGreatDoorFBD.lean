/-
  Lemmas towards the law, 30: MNb, Head, Conv.
-/
import Derived.Test.YtbnkbepgmenblaaGreatDoorFBC
set_option linter.unusedVariables false
set_option maxHeartbeats 4000000
set_option maxRecDepth 100000
namespace Go.Proofs.YtbnkbepgmenblaaGreatDoor
open Go.RowKit
open M (Hd HR Cv Ty Lim WfL TyB Lev)
def Nb(x:An):Prop:= ∀s c,x=some (s,c)->c=0\/c=2
theorem Nb.thn{x:An}{f:Tr->An}(h:Nb x)(k: ∀s,x=some (s,0)->Nb (f s)):Nb (thn x f):=by
 intro s c e;rcases y28 e with⟨u,h1,h2⟩ |⟨u,c',h1,h2,h3⟩
 · exact k u h1 s c h2
 · simp only[Prod.mk.injEq] at h3
   obtain⟨-,rfl⟩:=h3;exact h u _ h1
theorem Nb.one{y:Tr×Int}(h:y.2=0\/y.2=2):Nb (some y):=by
 intro s c e;simp only[Option.some.injEq] at e;subst e;exact h
theorem Nb.mk(t:Tr):Nb (some (mkV t)):=Nb.one (by unfold mkV;split <;> simp)
theorem Nb.shp{F c:M.Tm}{kind:Int}(r:HR F c)(hc:M.hk c≠0)(hk:(enc c).kind=kind):Nb (some (shpV (enc F) kind)):=by
 refine Nb.one ?_;unfold shpV
 split
 · simp
 · rename_i h1
   have h2:hnfV (enc F) 200=((hnfV (enc F) 200).1,0):=by
    have h3:(hnfV (enc F) 200).2=0:=by simpa using h1
    rw[<-h3]
   obtain⟨B,e,rB,hs,-⟩:=j52 h2;rw[y147 rB hs r hc] at e;rw[e,if_neg (by rw[hk];simp)];simp
theorem Nb.frm{x:An}{kind:Int}(h:Nb x)(k: ∀s,x=some (s,0)-> ∃F c,s=enc F/\HR F c/\M.hk c≠0/\(enc c).kind=kind):Nb (frmV x kind):=
 h.thn fun s e=> by
  obtain⟨F,c,rfl,r,hc,hk⟩:=k s e;exact Nb.shp r hc hk
theorem Nb.chk{x y:An}{W:M.Tm}(h:Nb x)(k: ∀s,x=some (s,0)-> ∃X,s=enc X/\Cv X W)(hy:Nb y):Nb (chkV x (enc W) y):=
 h.thn fun s e=> by
  obtain⟨X,rfl,cX⟩:=k s e
  split
  · exact hy
  · rename_i h0
    exact Nb.one (.inr ((cvt_nb cX).resolve_left h0))
theorem Nb.fam{x y:An}{T:M.Tm}(h:Nb x)(k: ∀s,x=some (s,0)-> ∃F C D j,s=enc F/\HR F (.pi C D)/\Cv C T/\HR D (.sort j))(hy:Nb y):Nb (famV x (enc T) y):=by
 have h1:Nb (frmV x 3):=h.frm fun s e=> by
  obtain⟨F,C,D,j,rfl,r,-,-⟩:=k s e;exact⟨F,.pi C D,rfl,r,by simp[M.hk],rfl⟩
 refine h1.thn fun s e=> ?_
 obtain⟨u,e1,e2,e3⟩:=y47 e;obtain⟨F,C,D,j,rfl,r,cC,rD⟩:=k u e1;obtain⟨B,rfl,rB,hs,-⟩:=j52 e2;obtain rfl:=y147 rB hs r (by simp[M.hk])
 split
 · exact(Nb.shp (F:=D) rD (by simp[M.hk]) rfl).thn fun _ _=> hy
 · rename_i h0
   exact Nb.one (.inr ((cvt_nb (A:=C) cC).resolve_left h0))
theorem q201{f:Nat}{G:List M.Tm}{k:Int}{A t:M.Tm}{s:Tr}(hk:und k 1=1)(h:tyV (infV f) (ctxE G) k [enc A,enc t] 1=some (s,0)):infV f (ctxE (A::G)) (enc t)=some (s,0):=by
 have:=(uty hk h).2
 rwa [show ctxE G++ [kd [enc A,enc t] 0]=ctxE (A::G) from(q54 A G).symm] at this
end Go.Proofs.YtbnkbepgmenblaaGreatDoor
namespace Go.Proofs.YtbnkbepgmenblaaGreatDoor
open Go.RowKit
def HdC(t:Tr):Prop:= ∀(w:World) (v:Value) (d:Int),shape sigT t d=true->Lies w t v->d<=1000->Calls Tryz.prog 160 #[v] w fun e w'=> ∃x,e= .returned (.tuple #[x,.bool (hdW t).2])/\w'.ownsRow w.heap.size 3 1 x (hdW t).1.length ((hdW t).1.map (Value.int .i64))/\Ext w w'
theorem j201: ∀t:Tr,HdC t:=Tr.ind fun k n ks hk=> by
 intro w v d hsh j8 hd;have HR:=hdq (fun V (hV:Ext w V)=> q31 (.mk k n ks) d hsh V v (j8.ext hV));obtain⟨j7,-,-,hsk⟩:=j29 hsh;have M3:(hdW (.mk k n ks)).1.length<=1000:=by have:=y172 (.mk k n ks) d hsh;omega
 obtain⟨A,cap,rfl,hl,hc,hK⟩:=Lies.mk_iff.1 j8;obtain⟨i0,hi,hz0,hz1,hz2⟩:=info_parts y140;have hcc:=hc;unfold maxLen at hcc;have hx0:=(xr w).alloc (.cells #[.int .i64 k,.int .i64 n,.slice A ks.length cap] 26);have N5:=heap_alloc_new w (.cells #[.int .i64 k,.int .i64 n,.slice A ks.length cap] 26);obtain⟨r,hr⟩: ∃r,rdx k ks=r:=⟨_,rfl⟩;have U9:=hdq (show∀V,Ext w V->Calls Tryz.prog 72 #[.agg #[.int .i64 k,.int .i64 n,.slice A ks.length cap]] V fun e w'=> e= .returned (.int .i64 r)/\Ext V w' from fun V hV=> by have:=HR.out V hV;rw[show rdxT (.mk k n ks)=r from hr] at this;exact this);have N9:=hdq hr;clear hr HR;by_cases h0:r=0
 · have hb0:(r !=0)=false:=by rw[h0];rfl
   subst h0;by_cases hm:k=5\/k=15\/k=16\/k=9\/k=12
   · rcases hm with rfl|rfl|rfl|rfl|rfl
     · have hlen:ks.length=2:=by have:(2:Int)=(ks.length:Int):=j7;omega
       have hlt:(0:Int) <(ks.length:Int):=by omega
       have U7:0 < ks.length:=by omega
       have hW:hdW (.mk 5 n ks)=((0:Int)::(hdW (kd ks 0)).1,(hdW (kd ks 0)).2):=by rw[hdW,if_neg (by rw[N9.out];decide)];rw[<-y57 U7];rfl
       rw[hW] at M3⊢;obtain⟨b,o,k',n',A',cap',kids,rfl,HK,c0,c1,c2,I6,G9,hK',C8,j6⟩:=hK.get (j:=0) (xr w) U7;have E4:kd ks 0= .mk k' n' kids:=j79 U7 HK.out;have HC:=hdq (fun W (hx:Ext w W)=> hk _ j6 W _ (d - 1) (hsk _ j6) (C8.ext hx) (by omega));rw[E4] at M3⊢;generalize hdW (.mk k' n' kids)=q at M3 HC⊢;obtain⟨p,z⟩:=q;simp only[List.length_cons] at M3;have hpl:p.length<=1000:=by omega
       simp only[Nat.zero_mul,Nat.one_mul,Nat.reduceMul,Nat.add_zero,Nat.add_assoc,Nat.reduceAdd] at c0 c1 c2;clear j8 N9 j7 hlen hW E4 HK M3 hsk hk;go_enter Tryz.func160,Tryz.ntmps160;go_wp2_with fail;refine(U9.out _ hx0).mono ?_;rintro e w1 ⟨rfl,h1⟩;obtain⟨z0,z1,z2,-,-,-⟩:=own3 (h1.blk N5);have lz:=j10 (h1.blk N5);have hx1:=hx0.trans h1;have d0:=hx1.cell c0;have d1:=hx1.cell c1;have d2:=hx1.cell c2;clear N5 h1 hx0 U9 c0 c1 c2;go_wp2_with fail;refine(HC.out _ hx1).mono ?_;rintro e w2 ⟨x,rfl,hq,h2⟩;have Y3:=j25 hq;obtain⟨Bq,cq,rfl,-,-,-⟩:=y25 hq;have hx2:=hx1.trans h2;have hx3:=(xr w2).alloc (.cells #[.int .i64 0] 3);have hG:(w2.alloc (.cells #[.int .i64 0] 3)).ownsRow w2.heap.size 3 1 (.slice (some ⟨w2.heap.size,0,none⟩) 1 1) ([(0:Int)]).length (([(0:Int)]).map (Value.int .i64)):=World.ownsRow_lit w2 #[.int .i64 0] 1 (Nat.le_refl _) (by decide) rfl;have Q3:=Y3.ext hx3;clear HC Y3 hq z0 z1 z2 d0 d1 d2;go_wp2_with (at_builtin;refine j19 _ rfl (.tmp 32) (.tmp 33) 49 rfl w2.heap.size 3 i0 _ 8 Tryz.underlying49 hi hz0 hz1 hz2 (by decide) rfl (ns:= [(0:Int)]) (p:=p) rfl hG (by simp) rfl Q3 (by simp;omega) ?_)
       intro va wa ap Z2 kx;have lp:Ext w wa:=hx2.trans (hx3.grown Z2 (by intro g hg;simp[Value.ownBlock] at hg;omega));have hsz:=hx2.size;have W6:wa.ownsRow w.heap.size 3 1 va ((0:Int)::p).length ((((0:Int)::p)).map (Value.int .i64)):=y26 ap hsz;have kh:=hdq W6;clear ap Z2 kx W6;go_wp2_with fail;go_ret2;exact⟨_,rfl,kh.out,lp⟩
     · have hlen:ks.length=1:=by have:(1:Int)=(ks.length:Int):=j7;omega
       have hlt:(0:Int) <(ks.length:Int):=by omega
       have U7:0 < ks.length:=by omega
       have hW:hdW (.mk 15 n ks)=((0:Int)::(hdW (kd ks 0)).1,(hdW (kd ks 0)).2):=by rw[hdW,if_neg (by rw[N9.out];decide)];rw[<-y57 U7];rfl
       rw[hW] at M3⊢;obtain⟨b,o,k',n',A',cap',kids,rfl,HK,c0,c1,c2,I6,G9,hK',C8,j6⟩:=hK.get (j:=0) (xr w) U7;have E4:kd ks 0= .mk k' n' kids:=j79 U7 HK.out;have HC:=hdq (fun W (hx:Ext w W)=> hk _ j6 W _ (d - 1) (hsk _ j6) (C8.ext hx) (by omega));rw[E4] at M3⊢;generalize hdW (.mk k' n' kids)=q at M3 HC⊢;obtain⟨p,z⟩:=q;simp only[List.length_cons] at M3;have hpl:p.length<=1000:=by omega
       simp only[Nat.zero_mul,Nat.one_mul,Nat.reduceMul,Nat.add_zero,Nat.add_assoc,Nat.reduceAdd] at c0 c1 c2;clear j8 N9 j7 hlen hW E4 HK M3 hsk hk;go_enter Tryz.func160,Tryz.ntmps160;go_wp2_with fail;refine(U9.out _ hx0).mono ?_;rintro e w1 ⟨rfl,h1⟩;obtain⟨z0,z1,z2,-,-,-⟩:=own3 (h1.blk N5);have lz:=j10 (h1.blk N5);have hx1:=hx0.trans h1;have d0:=hx1.cell c0;have d1:=hx1.cell c1;have d2:=hx1.cell c2;clear N5 h1 hx0 U9 c0 c1 c2;go_wp2_with fail;refine(HC.out _ hx1).mono ?_;rintro e w2 ⟨x,rfl,hq,h2⟩;have Y3:=j25 hq;obtain⟨Bq,cq,rfl,-,-,-⟩:=y25 hq;have hx2:=hx1.trans h2;have hx3:=(xr w2).alloc (.cells #[.int .i64 0] 3);have hG:(w2.alloc (.cells #[.int .i64 0] 3)).ownsRow w2.heap.size 3 1 (.slice (some ⟨w2.heap.size,0,none⟩) 1 1) ([(0:Int)]).length (([(0:Int)]).map (Value.int .i64)):=World.ownsRow_lit w2 #[.int .i64 0] 1 (Nat.le_refl _) (by decide) rfl;have Q3:=Y3.ext hx3;clear HC Y3 hq z0 z1 z2 d0 d1 d2;go_wp2_with (at_builtin;refine j19 _ rfl (.tmp 32) (.tmp 33) 49 rfl w2.heap.size 3 i0 _ 8 Tryz.underlying49 hi hz0 hz1 hz2 (by decide) rfl (ns:= [(0:Int)]) (p:=p) rfl hG (by simp) rfl Q3 (by simp;omega) ?_)
       intro va wa ap Z2 kx;have lp:Ext w wa:=hx2.trans (hx3.grown Z2 (by intro g hg;simp[Value.ownBlock] at hg;omega));have hsz:=hx2.size;have W6:wa.ownsRow w.heap.size 3 1 va ((0:Int)::p).length ((((0:Int)::p)).map (Value.int .i64)):=y26 ap hsz;have kh:=hdq W6;clear ap Z2 kx W6;go_wp2_with fail;go_ret2;exact⟨_,rfl,kh.out,lp⟩
     · have hlen:ks.length=1:=by have:(1:Int)=(ks.length:Int):=j7;omega
       have hlt:(0:Int) <(ks.length:Int):=by omega
       have U7:0 < ks.length:=by omega
       have hW:hdW (.mk 16 n ks)=((0:Int)::(hdW (kd ks 0)).1,(hdW (kd ks 0)).2):=by rw[hdW,if_neg (by rw[N9.out];decide)];rw[<-y57 U7];rfl
       rw[hW] at M3⊢;obtain⟨b,o,k',n',A',cap',kids,rfl,HK,c0,c1,c2,I6,G9,hK',C8,j6⟩:=hK.get (j:=0) (xr w) U7;have E4:kd ks 0= .mk k' n' kids:=j79 U7 HK.out;have HC:=hdq (fun W (hx:Ext w W)=> hk _ j6 W _ (d - 1) (hsk _ j6) (C8.ext hx) (by omega));rw[E4] at M3⊢;generalize hdW (.mk k' n' kids)=q at M3 HC⊢;obtain⟨p,z⟩:=q;simp only[List.length_cons] at M3;have hpl:p.length<=1000:=by omega
       simp only[Nat.zero_mul,Nat.one_mul,Nat.reduceMul,Nat.add_zero,Nat.add_assoc,Nat.reduceAdd] at c0 c1 c2;clear j8 N9 j7 hlen hW E4 HK M3 hsk hk;go_enter Tryz.func160,Tryz.ntmps160;go_wp2_with fail;refine(U9.out _ hx0).mono ?_;rintro e w1 ⟨rfl,h1⟩;obtain⟨z0,z1,z2,-,-,-⟩:=own3 (h1.blk N5);have lz:=j10 (h1.blk N5);have hx1:=hx0.trans h1;have d0:=hx1.cell c0;have d1:=hx1.cell c1;have d2:=hx1.cell c2;clear N5 h1 hx0 U9 c0 c1 c2;go_wp2_with fail;refine(HC.out _ hx1).mono ?_;rintro e w2 ⟨x,rfl,hq,h2⟩;have Y3:=j25 hq;obtain⟨Bq,cq,rfl,-,-,-⟩:=y25 hq;have hx2:=hx1.trans h2;have hx3:=(xr w2).alloc (.cells #[.int .i64 0] 3);have hG:(w2.alloc (.cells #[.int .i64 0] 3)).ownsRow w2.heap.size 3 1 (.slice (some ⟨w2.heap.size,0,none⟩) 1 1) ([(0:Int)]).length (([(0:Int)]).map (Value.int .i64)):=World.ownsRow_lit w2 #[.int .i64 0] 1 (Nat.le_refl _) (by decide) rfl;have Q3:=Y3.ext hx3;clear HC Y3 hq z0 z1 z2 d0 d1 d2;go_wp2_with (at_builtin;refine j19 _ rfl (.tmp 32) (.tmp 33) 49 rfl w2.heap.size 3 i0 _ 8 Tryz.underlying49 hi hz0 hz1 hz2 (by decide) rfl (ns:= [(0:Int)]) (p:=p) rfl hG (by simp) rfl Q3 (by simp;omega) ?_)
       intro va wa ap Z2 kx;have lp:Ext w wa:=hx2.trans (hx3.grown Z2 (by intro g hg;simp[Value.ownBlock] at hg;omega));have hsz:=hx2.size;have W6:wa.ownsRow w.heap.size 3 1 va ((0:Int)::p).length ((((0:Int)::p)).map (Value.int .i64)):=y26 ap hsz;have kh:=hdq W6;clear ap Z2 kx W6;go_wp2_with fail;go_ret2;exact⟨_,rfl,kh.out,lp⟩
     · have hlen:ks.length=4:=by have:(4:Int)=(ks.length:Int):=j7;omega
       have hlt:(3:Int) <(ks.length:Int):=by omega
       have U7:3 < ks.length:=by omega
       have hW:hdW (.mk 9 n ks)=((3:Int)::(hdW (kd ks 3)).1,(hdW (kd ks 3)).2):=by rw[hdW,if_neg (by rw[N9.out];decide)];rw[<-y57 U7];rfl
       rw[hW] at M3⊢;obtain⟨b,o,k',n',A',cap',kids,rfl,HK,c0,c1,c2,I6,G9,hK',C8,j6⟩:=hK.get (j:=3) (xr w) U7;have E4:kd ks 3= .mk k' n' kids:=j79 U7 HK.out;have HC:=hdq (fun W (hx:Ext w W)=> hk _ j6 W _ (d - 1) (hsk _ j6) (C8.ext hx) (by omega));rw[E4] at M3⊢;generalize hdW (.mk k' n' kids)=q at M3 HC⊢;obtain⟨p,z⟩:=q;simp only[List.length_cons] at M3;have hpl:p.length<=1000:=by omega
       simp only[Nat.zero_mul,Nat.one_mul,Nat.reduceMul,Nat.add_zero,Nat.add_assoc,Nat.reduceAdd] at c0 c1 c2;clear j8 N9 j7 hlen hW E4 HK M3 hsk hk;go_enter Tryz.func160,Tryz.ntmps160;go_wp2_with fail;refine(U9.out _ hx0).mono ?_;rintro e w1 ⟨rfl,h1⟩;obtain⟨z0,z1,z2,-,-,-⟩:=own3 (h1.blk N5);have lz:=j10 (h1.blk N5);have hx1:=hx0.trans h1;have d0:=hx1.cell c0;have d1:=hx1.cell c1;have d2:=hx1.cell c2;clear N5 h1 hx0 U9 c0 c1 c2;go_wp2_with fail;refine(HC.out _ hx1).mono ?_;rintro e w2 ⟨x,rfl,hq,h2⟩;have Y3:=j25 hq;obtain⟨Bq,cq,rfl,-,-,-⟩:=y25 hq;have hx2:=hx1.trans h2;have hx3:=(xr w2).alloc (.cells #[.int .i64 3] 3);have hG:(w2.alloc (.cells #[.int .i64 3] 3)).ownsRow w2.heap.size 3 1 (.slice (some ⟨w2.heap.size,0,none⟩) 1 1) ([(3:Int)]).length (([(3:Int)]).map (Value.int .i64)):=World.ownsRow_lit w2 #[.int .i64 3] 1 (Nat.le_refl _) (by decide) rfl;have Q3:=Y3.ext hx3;clear HC Y3 hq z0 z1 z2 d0 d1 d2;go_wp2_with (at_builtin;refine j19 _ rfl (.tmp 32) (.tmp 33) 49 rfl w2.heap.size 3 i0 _ 8 Tryz.underlying49 hi hz0 hz1 hz2 (by decide) rfl (ns:= [(3:Int)]) (p:=p) rfl hG (by simp) rfl Q3 (by simp;omega) ?_)
       intro va wa ap Z2 kx;have lp:Ext w wa:=hx2.trans (hx3.grown Z2 (by intro g hg;simp[Value.ownBlock] at hg;omega));have hsz:=hx2.size;have W6:wa.ownsRow w.heap.size 3 1 va ((3:Int)::p).length ((((3:Int)::p)).map (Value.int .i64)):=y26 ap hsz;have kh:=hdq W6;clear ap Z2 kx W6;go_wp2_with fail;go_ret2;exact⟨_,rfl,kh.out,lp⟩
     · have hlen:ks.length=3:=by have:(3:Int)=(ks.length:Int):=j7;omega
       have hlt:(1:Int) <(ks.length:Int):=by omega
       have U7:1 < ks.length:=by omega
       have hW:hdW (.mk 12 n ks)=((1:Int)::(hdW (kd ks 1)).1,(hdW (kd ks 1)).2):=by rw[hdW,if_neg (by rw[N9.out];decide)];rw[<-y57 U7];rfl
       rw[hW] at M3⊢;obtain⟨b,o,k',n',A',cap',kids,rfl,HK,c0,c1,c2,I6,G9,hK',C8,j6⟩:=hK.get (j:=1) (xr w) U7;have E4:kd ks 1= .mk k' n' kids:=j79 U7 HK.out;have HC:=hdq (fun W (hx:Ext w W)=> hk _ j6 W _ (d - 1) (hsk _ j6) (C8.ext hx) (by omega));rw[E4] at M3⊢;generalize hdW (.mk k' n' kids)=q at M3 HC⊢;obtain⟨p,z⟩:=q;simp only[List.length_cons] at M3;have hpl:p.length<=1000:=by omega
       simp only[Nat.zero_mul,Nat.one_mul,Nat.reduceMul,Nat.add_zero,Nat.add_assoc,Nat.reduceAdd] at c0 c1 c2;clear j8 N9 j7 hlen hW E4 HK M3 hsk hk;go_enter Tryz.func160,Tryz.ntmps160;go_wp2_with fail;refine(U9.out _ hx0).mono ?_;rintro e w1 ⟨rfl,h1⟩;obtain⟨z0,z1,z2,-,-,-⟩:=own3 (h1.blk N5);have lz:=j10 (h1.blk N5);have hx1:=hx0.trans h1;have d0:=hx1.cell c0;have d1:=hx1.cell c1;have d2:=hx1.cell c2;clear N5 h1 hx0 U9 c0 c1 c2;go_wp2_with fail;refine(HC.out _ hx1).mono ?_;rintro e w2 ⟨x,rfl,hq,h2⟩;have Y3:=j25 hq;obtain⟨Bq,cq,rfl,-,-,-⟩:=y25 hq;have hx2:=hx1.trans h2;have hx3:=(xr w2).alloc (.cells #[.int .i64 1] 3);have hG:(w2.alloc (.cells #[.int .i64 1] 3)).ownsRow w2.heap.size 3 1 (.slice (some ⟨w2.heap.size,0,none⟩) 1 1) ([(1:Int)]).length (([(1:Int)]).map (Value.int .i64)):=World.ownsRow_lit w2 #[.int .i64 1] 1 (Nat.le_refl _) (by decide) rfl;have Q3:=Y3.ext hx3;clear HC Y3 hq z0 z1 z2 d0 d1 d2;go_wp2_with (at_builtin;refine j19 _ rfl (.tmp 32) (.tmp 33) 49 rfl w2.heap.size 3 i0 _ 8 Tryz.underlying49 hi hz0 hz1 hz2 (by decide) rfl (ns:= [(1:Int)]) (p:=p) rfl hG (by simp) rfl Q3 (by simp;omega) ?_)
       intro va wa ap Z2 kx;have lp:Ext w wa:=hx2.trans (hx3.grown Z2 (by intro g hg;simp[Value.ownBlock] at hg;omega));have hsz:=hx2.size;have W6:wa.ownsRow w.heap.size 3 1 va ((1:Int)::p).length ((((1:Int)::p)).map (Value.int .i64)):=y26 ap hsz;have kh:=hdq W6;clear ap Z2 kx W6;go_wp2_with fail;go_ret2;exact⟨_,rfl,kh.out,lp⟩
   · have hW:hdW (.mk k n ks)=([],false):=by rw[hdW,if_neg (by rw[N9.out];decide),if_neg (by omega),if_neg (by omega),if_neg (by omega)]
     rw[hW];have t1:(k==5)=false:=beq_eq_false_iff_ne.2 (by omega);have t2:(k==15)=false:=beq_eq_false_iff_ne.2 (by omega);have t3:(k==16)=false:=beq_eq_false_iff_ne.2 (by omega);have t4:(k==9)=false:=beq_eq_false_iff_ne.2 (by omega);have t5:(k==12)=false:=beq_eq_false_iff_ne.2 (by omega);clear j8 N9 j7 hW M3 hsk hk hm;go_enter Tryz.func160,Tryz.ntmps160;go_wp2_with fail;refine(U9.out _ hx0).mono ?_;rintro e w1 ⟨rfl,h1⟩;obtain⟨z0,z1,z2,-,-,-⟩:=own3 (h1.blk N5);have lz:=j10 (h1.blk N5);go_wp2_with fail;go_ret2;exact⟨_,rfl,World.ownsRow_nil _ _ _ _,hx0.trans h1⟩
 · have hb0:(r !=0)=true:=bne_iff_ne.2 h0
   have hW:hdW (.mk k n ks)=([],true):=by rw[hdW,if_pos (by rw[N9.out];exact h0)]
   rw[hW];clear hW N9;go_enter Tryz.func160,Tryz.ntmps160;go_wp2_with fail;refine(U9.out _ hx0).mono ?_;rintro e w1 ⟨rfl,h1⟩;go_wp2_with fail;go_ret2;exact⟨_,rfl,World.ownsRow_nil _ _ _ _,hx0.trans h1⟩
theorem y132(t:Tr)(f:Int)(w:World)(v:Value)(j8:Lies w t v):
 Calls Tryz.prog 35 #[v,.int .i64 f,.func (.func 160) #[] #[]] w fun e w'=> ∃r s,e= .returned (.tuple #[r,.int .i64 s,.int .i64 (hnfV t f).2])/\Made w w' 26 (hnfV t f).1 r/\Ext w w':=by
 have HV:=hdq (fun W (hW:Ext w W)=> j16 t W v (j8.ext hW));have E:hnfV t f=if(valid sigT t && inR f 0 200)=true then hnfC f.toNat t else(y14,3):=rfl
 rw[E];clear E;obtain⟨z,hz⟩: ∃z,valid sigT t=z:=⟨_,rfl⟩;obtain⟨y,hy⟩: ∃y,inR f 0 200=y:=⟨_,rfl⟩;rw[hz] at HV⊢;rw[hy];obtain⟨k,n,ks⟩:=t;obtain⟨A,cap,rfl,hl,hc,hK⟩:=Lies.mk_iff.1 j8;have hx0:=((xr w).alloc (.cells #[.int .i64 k,.int .i64 n,.slice A ks.length cap] 26)).alloc (.cells #[.int .i64 0,.int .i64 0,.slice none 0 0] 26);obtain⟨hb0,hb1,hs2⟩:=blk2 (xr ((w.alloc (.cells #[.int .i64 k,.int .i64 n,.slice A ks.length cap] 26)).alloc (.cells #[.int .i64 0,.int .i64 0,.slice none 0 0] 26)));obtain⟨wS,I2⟩: ∃x,x=(w.alloc (.cells #[.int .i64 k,.int .i64 n,.slice A ks.length cap] 26)).alloc (.cells #[.int .i64 0,.int .i64 0,.slice none 0 0] 26):=⟨_,rfl⟩;rw[<-I2] at hx0 hb0 hb1 hs2;cases z with
 |false=>
  rw[if_neg (by simp)];go_enter Tryz.func35,Tryz.ntmps35;go_wp2_with fail;rw[<-I2];clear I2;refine(HV.out _ hx0).mono ?_;rintro e w1 ⟨rfl,h1⟩;obtain⟨s0,s1,s2,f0,f1,f2⟩:=own3 (h1.blk hb1);go_wp2_with fail;refine bodyPost_ret (v:= .tuple #[.agg #[.int .i64 0,.int .i64 0,.slice none 0 0],.int .i64 0,.int .i64 3]) (by simp[results,Tryz.results35,go_sem,s0,s1,s2]) rfl ⟨_,_,rfl,Made.leaf _ _ _ 0 0, ?_⟩;exact((((hx0.trans h1).setCell (by simp) _).setCell (by simp) _).setCell (by simp) _)
 |true=>
  cases y with
  |false=>
   rw[if_neg (by simp)];go_enter Tryz.func35,Tryz.ntmps35;go_wp2_with fail;rw[<-I2];clear I2;refine(HV.out _ hx0).mono ?_;rintro e w1 ⟨rfl,h1⟩;obtain⟨s0,s1,s2,f0,f1,f2⟩:=own3 (h1.blk hb1);go_wp2_with (go_at_call 70;refine(j21 _ _ _ _).mono ?_;rw[hy];rintro e w3 ⟨rfl,rfl⟩)
   refine bodyPost_ret (v:= .tuple #[.agg #[.int .i64 0,.int .i64 0,.slice none 0 0],.int .i64 0,.int .i64 3]) (by simp[results,Tryz.results35,go_sem,s0,s1,s2]) rfl ⟨_,_,rfl,Made.leaf _ _ _ 0 0, ?_⟩;exact((((hx0.trans h1).setCell (by simp) _).setCell (by simp) _).setCell (by simp) _)
  |true=>
   rw[if_pos (by simp)];obtain⟨Z1,hf2⟩:=j31.1 hy;obtain⟨F,rfl⟩:=Int.eq_ofNat_of_zero_le Z1;rw[show((F:Int)).toNat=F from by omega];obtain⟨R,hR⟩: ∃R,hnfC F (.mk k n ks)=R:=⟨_,rfl⟩;rw[hR];have HR:=hdq hR;have HY:=hdq hy;have HZ:=hdq hz;have HF:=hdq hf2;clear hy hR hz Z1 hf2;go_enter Tryz.func35,Tryz.ntmps35;go_wp2_with fail;rw[<-I2];clear I2;refine(HV.out _ hx0).mono ?_;rintro e w1 ⟨rfl,h1⟩;have mm:=h1.blk hb0;have z8:=h1.blk hb1;have hx1:=hx0.trans h1;go_wp2_with (go_at_call 70;refine(j21 _ _ _ _).mono ?_;rw[HY.out];rintro e w3 ⟨rfl,rfl⟩)
   clear HV hx0 hb0 hb1 hs2 h1 j8 HY
   go_loopw [9] (fun i wr=> ∃(j:Nat) (k' n':Int) (kids:List Tr) (A':Option Addr) (c':Nat),j<=F/\i= .int .i64 j/\
    Hid (hnfC (F - j) (.mk k' n' kids)=R)/\Hid (valid sigT (.mk k' n' kids)=true)/\kids.length<=c'/\c'<=maxLen/\InK wr (fun b=> b < wr.heap.size/\(b < w.heap.size\/w.heap.size+2<=b)) A' kids/\
    wr.heap[w.heap.size]? =some (.cells #[.int .i64 k',.int .i64 n',.slice A' kids.length c'] 26 (0,0))/\wr.heap[w.heap.size+1]? =some (.cells #[.int .i64 0,.int .i64 0,.slice none 0 0] 26 (0,0))/\Ext w wr) (fun i _=> F -(intOf i).toNat)
   case atStart=> exact⟨0,k,n,ks,A,cap,Nat.zero_le _,rfl,hdq HR.out,HZ,hl,hc,InK.mono (fun b hb=>⟨Nat.lt_of_lt_of_le hb hx1.size,.inl hb⟩) (fun b hb=> hx1.heap b hb) hK,mm,z8,hx1⟩
   case round=>
    obtain⟨j,k',n',kids,A',c',hj,rfl,HN,ot,I6,G9,hT,hb,I8,hx⟩:=hrel;have hsz:w.heap.size+1 < wr.heap.size:=j10 I8;have hL:Lies wr (.mk k' n' kids) (.agg #[.int .i64 k',.int .i64 n',.slice A' kids.length c']):=Lies.mk I6 G9 (InK.mono (fun b hb=> hb.1) (fun _ _=> rfl) hT);have HO:=j201 (.mk k' n' kids) wr _ 30 (j20 ot.out).2 hL (by decide);have HOW:=hdq (fun W (hW:Ext wr W)=> j38 (.mk k' n' kids) W _ (hL.ext hW) (by have:=(j20 ot.out).1;omega));have xo:=hdq (fun p (hp:hdQ (.mk k' n' kids)=some p) W (hW:Ext wr W) B c (hP:PFs W B p.length c p)=> j64 (.mk k' n' kids) p ot.out (hdQ_at _ p hp) W _ (hL.ext hW) B p.length c hP (by have:=y172 _ 30 (j20 ot.out).2;rw[y77 hp] at this;simp only at this;omega));have S8:=hdq (show∀q,hdQ (.mk k' n' kids)=q->Calls Tryz.prog 160 #[.agg #[.int .i64 k',.int .i64 n',.slice A' kids.length c']] wr fun e w'=> ∃x,e= .returned (.tuple #[x,.bool q.isSome])/\(q.isSome=true->w'.ownsRow wr.heap.size 3 1 x (q.getD []).length ((q.getD []).map (Value.int .i64)))/\Ext wr w' from fun q hq=> by
     refine HO.mono ?_;rintro e w' ⟨x,rfl,h1,h2⟩;cases q with
     |none=> exact⟨x,by rw[q110 hq];rfl,(fun h=> by cases h),h2⟩
     |some p=> exact⟨x,by rw[y77 hq];rfl,(fun _=> by rw[y77 hq] at h1;exact h1),h2⟩)
    clear HO hT hK mm z8 hx1;obtain⟨z0,z1,z2,-,-,-⟩:=own3 hb;obtain⟨q,hq⟩: ∃q,hdQ (.mk k' n' kids)=q:=⟨_,rfl⟩;have S8:=hdq (S8.out q hq);cases q with
    |none=>
     have HE:=hdq (HN.out.symm.trans (j56 hq (F - j)));clear xo hq HN;go_wp2_with fail;refine S8.out.mono ?_;rintro e w2 ⟨x,rfl,-,h2⟩;obtain⟨y0,y1,y2,-,-,-⟩:=own3 (h2.blk hb);clear z0 z1 z2;go_wp2_with fail;refine(HOW.out _ h2).mono ?_;rintro e w3 ⟨r,rfl,hM,h3⟩;obtain⟨b1,b2,b3,b4,b5,rfl⟩:=hM.three';have C9:=h2.trans h3;obtain⟨s0,s1,s2,f0,f1,f2⟩:=own3 (C9.blk I8);have hw4:w.heap.size+2<=w2.heap.size:=by have:=h2.size;omega
     clear y0 y1 y2;go_wp2_with fail;rw[HE.out];refine bodyPost_ret (v:= .tuple #[.agg #[.int .i64 b1,.int .i64 b2,.slice b3 b4 b5],.int .i64 j,.int .i64 0]) (by simp[results,Tryz.results35,go_sem,s0,s1,s2]) rfl ⟨_,_,rfl,Made.since (hM.after ((((q23.refl _ _).setCell (p:=⟨w.heap.size+1,0,none⟩) (by show w.heap.size+1 < _;omega) (.int .i64 b1)).setCell (p:=⟨w.heap.size+1,1,none⟩) (by show w.heap.size+1 < _;omega) (.int .i64 b2)).setCell (p:=⟨w.heap.size+1,2,none⟩) (by show w.heap.size+1 < _;omega) (.slice b3 b4 b5))) (by omega), ?_⟩;exact((((hx.trans C9).setCell (by simp) _).setCell (by simp) _).setCell (by simp) _)
    |some p=>
     have M7:=hdq (xo.out p hq);simp only[Option.isSome_some,Option.getD_some] at S8;have HQ:=hdq hq;clear xo hq HOW;by_cases hjF:j=F
     · have HE:=hdq (HN.out.symm.trans (show hnfC (F - j) (.mk k' n' kids)=(y14,1) by rw[show F - j=0 by omega];exact j93 HQ.out))
       clear M7 HN;subst hjF;go_wp2_with fail;refine S8.out.mono ?_;rintro e w2 ⟨x,rfl,Z3,h2⟩;have Y7:=Z3 trivial;clear Z3;obtain⟨B,c,rfl,hP⟩:=j82 Y7;obtain⟨s0,s1,s2,f0,f1,f2⟩:=own3 (h2.blk I8);clear z0 z1 z2 Y7;go_wp2_with fail;rw[HE.out];refine bodyPost_ret (v:= .tuple #[.agg #[.int .i64 0,.int .i64 0,.slice none 0 0],.int .i64 j,.int .i64 1]) (by simp[results,Tryz.results35,go_sem,s0,s1,s2]) rfl ⟨_,_,rfl,Made.leaf _ _ _ 0 0, ?_⟩;exact((((hx.trans h2).setCell (by simp) _).setCell (by simp) _).setCell (by simp) _)
     · have S9:((j:Int)==(F:Int))=false:=beq_eq_false_iff_ne.2 (by omega)
       have ib:(j==F)=false:=beq_eq_false_iff_ne.2 hjF;have hlt:j < F:=by omega
       have hj3:(j:Int) < 200:=by have:=HF.out;omega
       have hj4:F<=200:=by have:=HF.out;omega
       obtain⟨g,hg⟩: ∃g,F - j=g+1:=⟨F - j - 1,by omega⟩;have hg2:F -(j+1)=g:=by omega
       have hcv:conV (.mk k' n' kids) p=if valid sigT (conA (.mk k' n' kids) p)=true then(conA (.mk k' n' kids) p,true) else(y14,false):=rfl
       have X6:=HN.out;rw[hg] at X6;by_cases hcx:valid sigT (conA (.mk k' n' kids) p)=true
       · rw[if_pos hcx] at hcv
         rw[y134 HQ.out hcx,<-hg2] at X6;rw[hcv] at M7;clear hcv HN hg hg2;generalize conA (.mk k' n' kids) p=X at M7 X6 hcx;obtain⟨k2,n2,o8⟩:=X;have Bi:=hdq X6;have zi:=hdq hcx;clear X6 hcx;go_wp2_with fail;refine S8.out.mono ?_;rintro e w2 ⟨x,rfl,Z3,h2⟩;have Y7:=Z3 trivial;clear Z3;obtain⟨B,c,rfl,hP⟩:=j82 Y7;obtain⟨y0,y1,y2,-,-,-⟩:=own3 (h2.blk hb);clear z0 z1 z2 Y7;go_wp2_with fail;refine(M7.out _ h2 _ _ hP).mono ?_;rintro e w3 ⟨r,rfl,hM,h3⟩;have Cn:=From.made hM;obtain⟨A2,c2,rfl,hl2,hc2,hK2⟩:=InT.mk_iff.1 Cn;have C9:=(h2.trans h3).trans ((xr w3).alloc (.cells #[.int .i64 k2,.int .i64 n2,.slice A2 o8.length c2] 26));obtain⟨s0,s1,s2,f0,f1,f2⟩:=own3 (C9.blk hb);have sr:=C9.blk hb;have P3:=C9.blk I8;have Nx:wr.heap.size<=w2.heap.size:=h2.size;have Kz:w2.heap.size<=w3.heap.size:=h3.size;have KEEP:=hdq (fun(a0 a1 a2:Value) (b:Nat) (hb:b < w3.heap.size) (hne:b≠w.heap.size)=>(show((((w3.alloc (.cells #[.int .i64 k2,.int .i64 n2,.slice A2 o8.length c2] 26)).setCell ⟨w.heap.size,0,none⟩ a0).setCell ⟨w.heap.size,1,none⟩ a1).setCell ⟨w.heap.size,2,none⟩ a2).heap[b]? =w3.heap[b]?from by
          rw[Below.heap_setCell _ _ _ _ hne,Below.heap_setCell _ _ _ _ hne,Below.heap_setCell _ _ _ _ hne];exact((xr w3).alloc _).heap b hb))
         clear y0 y1 y2 hb I8 hM Cn;go_wp2_with fail
         go_roundw
         case rel=> exact⟨j+1,k2,n2,o8,A2,c2,hlt,by go_num,Bi,zi,hl2,hc2,InK.mono (fun b hb=>⟨by simp;omega,.inr (by omega)⟩) (fun b hb=> KEEP.out _ _ _ b hb.2 (by omega)) hK2,q11 (q11 (q11 sr 0 _) 1 _) 2 _,q12 (q12 (q12 P3 (by simp) _) (by simp) _) (by simp) _,(((hx.trans C9).setCell (by simp) _).setCell (by simp) _).setCell (by simp) _⟩
         case measure=> simp[intOf];omega
       · rw[if_neg hcx] at hcv
         rw[j137 HQ.out (Bool.eq_false_iff.2 hcx)] at X6;rw[hcv] at M7;have HE:=hdq X6.symm;clear hcv HN hg hg2 hcx X6;go_wp2_with fail;refine S8.out.mono ?_;rintro e w2 ⟨x,rfl,Z3,h2⟩;have Y7:=Z3 trivial;clear Z3;obtain⟨B,c,rfl,hP⟩:=j82 Y7;obtain⟨y0,y1,y2,-,-,-⟩:=own3 (h2.blk hb);clear z0 z1 z2 Y7;go_wp2_with fail;refine(M7.out _ h2 _ _ hP).mono ?_;rintro e w3 ⟨r,rfl,hM,h3⟩;obtain⟨b1,b2,b3,b4,b5,rfl⟩:=hM.three';have C9:=(h2.trans h3).trans ((xr w3).alloc (.cells #[.int .i64 b1,.int .i64 b2,.slice b3 b4 b5] 26));obtain⟨s0,s1,s2,f0,f1,f2⟩:=own3 (C9.blk I8);clear y0 y1 y2;go_wp2_with fail;rw[HE.out];refine bodyPost_ret (v:= .tuple #[.agg #[.int .i64 0,.int .i64 0,.slice none 0 0],.int .i64 j,.int .i64 2]) (by simp[results,Tryz.results35,go_sem,s0,s1,s2]) rfl ⟨_,_,rfl,Made.leaf _ _ _ 0 0, ?_⟩;exact((((hx.trans C9).setCell (by simp) _).setCell (by simp) _).setCell (by simp) _)
theorem y101(t:Tr)(f:Int)(w:World)(v:Value)(j8:Lies w t v):
 Calls Tryz.prog 151 #[v,.int .i64 f] w fun e w'=> ∃r,e= .returned (.tuple #[r,.int .i64 (hnfV t f).2])/\Made w w' 26 (hnfV t f).1 r/\Ext w w':=by
 have HS:=hdq (fun W (hW:Ext w W)=> y132 t f W v (j8.ext hW));obtain⟨S,hS⟩: ∃S,hnfV t f=S:=⟨_,rfl⟩;rw[hS] at HS⊢;obtain⟨k,n,ks⟩:=t;obtain⟨A,cap,rfl,hl,hc,hK⟩:=Lies.mk_iff.1 j8;clear hS;have hx0:=((xr w).alloc (.cells #[.int .i64 k,.int .i64 n,.slice A ks.length cap] 26)).alloc (.cells #[.int .i64 0,.int .i64 0,.slice none 0 0] 26);obtain⟨hb0,hb1,hs2⟩:=blk2 (xr ((w.alloc (.cells #[.int .i64 k,.int .i64 n,.slice A ks.length cap] 26)).alloc (.cells #[.int .i64 0,.int .i64 0,.slice none 0 0] 26)));obtain⟨wS,I2⟩: ∃x,x=(w.alloc (.cells #[.int .i64 k,.int .i64 n,.slice A ks.length cap] 26)).alloc (.cells #[.int .i64 0,.int .i64 0,.slice none 0 0] 26):=⟨_,rfl⟩;rw[<-I2] at hx0 hb0 hb1 hs2;go_enter Tryz.func151,Tryz.ntmps151;go_wp2_with fail;rw[<-I2];clear I2;refine(HS.out _ hx0).mono ?_;rintro e w3 ⟨r,s,rfl,hM,h3⟩;obtain⟨b1,b2,b3,b4,b5,rfl⟩:=hM.three';have C9:=h3.trans ((xr w3).alloc (.cells #[.int .i64 b1,.int .i64 b2,.slice b3 b4 b5] 26));obtain⟨s0,s1,s2,f0,f1,f2⟩:=own3 (C9.blk hb1);have M5:=hM.ext ((xr w3).alloc (.cells #[.int .i64 b1,.int .i64 b2,.slice b3 b4 b5] 26));have hw4:w.heap.size+2<=wS.heap.size:=by omega
 go_wp2_with fail;refine bodyPost_ret (v:= .tuple #[.agg #[.int .i64 b1,.int .i64 b2,.slice b3 b4 b5],.int .i64 S.2]) (by simp[results,Tryz.results151,go_sem,s0,s1,s2]) rfl ⟨_,rfl,Made.since (M5.after ((((q23.refl _ _).setCell (p:=⟨w.heap.size+1,0,none⟩) (by show w.heap.size+1 < _;omega) (.int .i64 b1)).setCell (p:=⟨w.heap.size+1,1,none⟩) (by show w.heap.size+1 < _;omega) (.int .i64 b2)).setCell (p:=⟨w.heap.size+1,2,none⟩) (by show w.heap.size+1 < _;omega) (.slice b3 b4 b5))) (by omega), ?_⟩;exact((((hx0.trans C9).setCell (by simp) _).setCell (by simp) _).setCell (by simp) _)
theorem q144{t:Tr}{f:Int}(h:valid sigT t=true)(hf:inR f 0 200=true):y80 t f=nrmC f.toNat t:=by
 unfold y80;rw[h,hf]
 rfl
theorem q95(a b:Tr)(f:Int)(w:World)(va vb:Value)(ha:Lies w a va)(hb:Lies w b vb):
 Calls Tryz.prog 150 #[va,vb,.int .i64 f] w fun e w'=> e= .returned (.int .i64 (j94 a b f))/\Ext w w':=by
 have Hp:=hdq (fun W (hW:Ext w W)=> j16 a W va (ha.ext hW));have HVB:=hdq (fun W (hW:Ext w W)=> j16 b W vb (hb.ext hW));have Mu:=hdq (fun W (hW:Ext w W)=> y45 a f W va (ha.ext hW));have Ia:=hdq (fun W (hW:Ext w W)=> y45 b f W vb (hb.ext hW));have HSM:=hdq (fun W (hW:Ext w W)=> y38 a W b va vb (ha.ext hW) (hb.ext hW));have E:j94 a b f=if(valid sigT a &&(valid sigT b && inR f 0 200))=true then(if a=b then 1 else if(nrmC f.toNat a).2=0/\(nrmC f.toNat b).2=0 then(if(nrmC f.toNat a).1=(nrmC f.toNat b).1 then 1 else 2) else 3) else 0:=rfl
 have Gu:=fun(h1:valid sigT a=true) (h2:inR f 0 200=true)=> q144 h1 h2
 have Ht:=fun(h1:valid sigT b=true) (h2:inR f 0 200=true)=> q144 h1 h2
 obtain⟨C,hC⟩: ∃C,j94 a b f=C:=⟨_,rfl⟩;rw[hC] at E⊢;clear hC;obtain⟨za,hza⟩: ∃z,valid sigT a=z:=⟨_,rfl⟩;obtain⟨zb,hzb⟩: ∃z,valid sigT b=z:=⟨_,rfl⟩;obtain⟨y,hy⟩: ∃y,inR f 0 200=y:=⟨_,rfl⟩;obtain⟨q,hq⟩: ∃q,eqTr a b=q:=⟨_,rfl⟩;rw[hza] at Hp E Gu;rw[hzb] at HVB E Ht;rw[hy] at E Gu Ht;rw[hq] at HSM;have hqe:(a=b)↔q=true:=by rw[<-hq];exact y88.symm
 have HY:=hdq hy;have HQ:=hdq hqe;have HE:=hdq E;have HA:=hdq Gu;have HB:=hdq Ht;clear hza hzb hy hq hqe E Gu Ht;obtain⟨k1,n1,Hl⟩:=a;obtain⟨k2,n2,U1⟩:=b;obtain⟨A1,c1,rfl,M6,hc1,I9⟩:=Lies.mk_iff.1 ha;obtain⟨A2,c2,rfl,hl2,hc2,hK2⟩:=Lies.mk_iff.1 hb;have hx0:=((xr w).alloc (.cells #[.int .i64 k1,.int .i64 n1,.slice A1 Hl.length c1] 26)).alloc (.cells #[.int .i64 k2,.int .i64 n2,.slice A2 U1.length c2] 26);obtain⟨hb0,hb1,hs2⟩:=blk2 (xr ((w.alloc (.cells #[.int .i64 k1,.int .i64 n1,.slice A1 Hl.length c1] 26)).alloc (.cells #[.int .i64 k2,.int .i64 n2,.slice A2 U1.length c2] 26)));obtain⟨wS,I2⟩: ∃x,x=(w.alloc (.cells #[.int .i64 k1,.int .i64 n1,.slice A1 Hl.length c1] 26)).alloc (.cells #[.int .i64 k2,.int .i64 n2,.slice A2 U1.length c2] 26):=⟨_,rfl⟩;rw[<-I2] at hx0 hb0 hb1 hs2;go_enter Tryz.func150,Tryz.ntmps150;go_wp2_with fail;rw[<-I2];clear I2;refine(Hp.out _ hx0).mono ?_;rintro e w1 ⟨rfl,e1⟩;have hx1:=hx0.trans e1;cases za with
 |false=>
  have hr:C=0:=by rw[HE.out];rfl
  have HR:=hdq hr;clear hr;go_wp2_with fail;go_ret;exact⟨by rw[HR.out];rfl,hx1⟩
 |true=>
  obtain⟨p0,p1,p2,-⟩:=own3 (e1.blk hb1);go_wp2_with fail;refine(HVB.out _ hx1).mono ?_;rintro e w2 ⟨rfl,e2⟩;have hx2:=hx1.trans e2;clear p0 p1 p2;cases zb with
  |false=>
   have hr:C=0:=by rw[HE.out];rfl
   have HR:=hdq hr;clear hr;go_wp2_with fail;go_ret;exact⟨by rw[HR.out];rfl,hx2⟩
  |true=>
   go_wp2_with fail;refine(j21 f 0 200 w2).mono ?_;rintro e w3 ⟨rfl,rfl⟩;rw[HY.out];cases y with
   |false=>
    have hr:C=0:=by rw[HE.out];rfl
    have HR:=hdq hr;clear hr;go_wp2_with fail;go_ret;exact⟨by rw[HR.out];rfl,hx2⟩
   |true=>
    have ha1:=HA.out (by simp) (by simp);have hb2:=HB.out (by simp) (by simp);rw[ha1] at Mu;rw[hb2] at Ia;have C5:=HE.out;rw[Bool.and_self,Bool.and_self,if_pos rfl] at C5;have HE1:=hdq C5;clear ha1 hb2 C5 HE;obtain⟨q0,q1,q2,-⟩:=own3 ((e1.trans e2).blk hb0);obtain⟨p0,p1,p2,-⟩:=own3 ((e1.trans e2).blk hb1);go_wp2_with fail;refine(HSM.out _ hx2).mono ?_;rintro e w3 ⟨rfl,e3⟩;have hx3:=hx2.trans e3;clear q0 q1 q2 p0 p1 p2;cases q with
    |true=>
     have hr:C=1:=by rw[HE1.out,if_pos (HQ.out.2 rfl)]
     have HR:=hdq hr;clear hr;go_wp2_with fail;go_ret;exact⟨by rw[HR.out];rfl,hx3⟩
    |false=>
     have F8:=HE1.out;rw[if_neg (fun h=> by have:=HQ.out.1 h;cases this)] at F8;obtain⟨S1,hS1⟩: ∃S,nrmC f.toNat (.mk k1 n1 Hl)=S:=⟨_,rfl⟩;obtain⟨S2,Eg⟩: ∃S,nrmC f.toNat (.mk k2 n2 U1)=S:=⟨_,rfl⟩;rw[hS1] at Mu F8;rw[Eg] at Ia F8;obtain⟨⟨k3,n3,ek⟩,s1⟩:=S1;obtain⟨⟨k4,n4,Aj⟩,s2⟩:=S2;have Fo:=hdq F8;clear hS1 Eg F8;have eb:=(e1.trans e2).trans e3;obtain⟨q0,q1,q2,-⟩:=own3 (eb.blk hb0);go_wp2_with fail;refine(Mu.out _ hx3).mono ?_;rintro e w4 ⟨r,rfl,hM3,e4⟩;have hL3:=hM3.lies;obtain⟨A3,c3,rfl,sx,hc3,hK3⟩:=Lies.mk_iff.1 hL3;obtain⟨w5,q7⟩: ∃x,x=w4.alloc (.cells #[.int .i64 k3,.int .i64 n3,.slice A3 ek.length c3] 26):=⟨_,rfl⟩;have e5:Ext w4 w5:=q7▸(xr w4).alloc _;have E8:w5.heap[w4.heap.size]? =some (.cells #[.int .i64 k3,.int .i64 n3,.slice A3 ek.length c3] 26 (0,0)):=q7▸heap_alloc_new w4 _;obtain⟨p0,p1,p2,-⟩:=own3 (((eb.trans e4).trans e5).blk hb1);have hs5:w4.heap.size < w5.heap.size:=j10 E8;have pw:=(hx3.trans e4).trans e5;have p04:=own3 ((eb.trans e4).blk hb1);obtain⟨r0,r1,r2,-⟩:=p04;have lz1:=j10 ((eb.trans e4).blk hb1);clear q0 q1 q2 hM3;go_wp2_with fail;rw[<-q7];clear q7 r0 r1 r2;refine(Ia.out _ pw).mono ?_;rintro e w6 ⟨r,rfl,hM4,e6⟩;have hL4:=hM4.lies;obtain⟨A4,c4,rfl,hl4,hc4,hK4⟩:=Lies.mk_iff.1 hL4;obtain⟨w7,D9⟩: ∃x,x=w6.alloc (.cells #[.int .i64 k4,.int .i64 n4,.slice A4 Aj.length c4] 26):=⟨_,rfl⟩;have e7:Ext w6 w7:=D9▸(xr w6).alloc _;have sr:w7.heap[w6.heap.size]? =some (.cells #[.int .i64 k4,.int .i64 n4,.slice A4 Aj.length c4] 26 (0,0)):=D9▸heap_alloc_new w6 _;have di:=(pw.trans e6).trans e7;clear p0 p1 p2 hM4;by_cases h1:s1=0
     · subst h1
       by_cases h2:s2=0
       · subst h2
         obtain⟨d0,d1,d2,-⟩:=own3 (e6.blk E8);have lz2:=j10 (e6.blk E8);have yu:=hdq (y38 (.mk k3 n3 ek) w7 (.mk k4 n4 Aj) _ _ (((hL3.ext e5).ext e6).ext e7) (hL4.ext e7));obtain⟨q2,zt⟩: ∃q,eqTr (.mk k3 n3 ek) (.mk k4 n4 Aj)=q:=⟨_,rfl⟩;have hr:C=if q2=true then 1 else 2:=by
          rw[Fo.out,if_pos ⟨rfl,rfl⟩,<-zt];by_cases he:Tr.mk k3 n3 ek=Tr.mk k4 n4 Aj
          · rw[if_pos he,if_pos (y88.2 he)]
          · rw[if_neg he,if_neg (fun h=> he (y88.1 h))]
         rw[zt] at yu;have HR:=hdq hr;clear hr zt;go_wp2_with fail;rw[<-D9];clear D9;refine yu.out.mono ?_;rintro e w8 ⟨rfl,e8⟩;cases q2
         all_goals(
          go_wp2_with fail;go_ret;exact⟨by rw[HR.out];rfl,di.trans e8⟩)
       · have hr:C=3:=by rw[Fo.out,if_neg (fun h=> h2 h.2)]
         have hb:(s2 !=0)=true:=by simpa using h2
         have HR:=hdq hr;clear hr;go_wp2_with fail;rw[<-D9];go_ret;exact⟨by rw[HR.out];rfl,di⟩
     · have hr:C=3:=by rw[Fo.out,if_neg (fun h=> h1 h.1)]
       have hb:(s1 !=0)=true:=by simpa using h1
       have HR:=hdq hr;clear hr;go_wp2_with fail;rw[<-D9];go_ret;exact⟨by rw[HR.out];rfl,di⟩
end Go.Proofs.YtbnkbepgmenblaaGreatDoor
