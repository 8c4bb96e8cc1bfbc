/-
  Lemmas towards the law, 39: Head, Conv.
-/
import Derived.Test.YtdkamgafpphdjaaGreatTBL
namespace Go.Proofs.YtdkamgafpphdjaaGreat
open Go.RowKit
set_option linter.unusedVariables false
def HdC(t:Tr):Prop:= ∀(w:World) (v:Value) (d:Int),shape sigT t d=true->Lies w t v->d<=1000->Calls Tryz.prog 191 #[v] w fun e w'=> ∃x,e= .returned (.tuple #[x, .bool (hdW t).2])/\w'.ownsRow w.heap.size 3 1 x (hdW t).1.length ((hdW t).1.map (Value.int .i64))/\Ext w w'
set_option maxRecDepth 100000 in
set_option maxHeartbeats 4000000 in
theorem j204: ∀t:Tr,HdC t:=Tr.ind fun k n ks hk=> by
 intro w v d hsh hin hd;have HR:=hdq (fun V (hV:Ext w V)=> q36 (.mk k n ks) d hsh V v (hin.ext hV));obtain⟨hops,-,-,hsk⟩:=y25 hsh;have hlo:(hdW (.mk k n ks)).1.length<=1000:=by have:=q184 (.mk k n ks) d hsh;omega
 obtain⟨A,cap,rfl,hl,hc,hK⟩:=Lies.mk_iff.1 hin;obtain⟨i0,hi,hz0,hz1,hz2⟩:=info_parts y118;have hcc:=hc;unfold maxLen at hcc;have hx0:=(xr w).alloc (.cells #[.int .i64 k, .int .i64 n, .slice A ks.length cap] 25);have hbB:=heap_alloc_new w (.cells #[.int .i64 k, .int .i64 n, .slice A ks.length cap] 25);obtain⟨r,hr⟩: ∃r,rdx k ks=r:=⟨_,rfl⟩;have HR2:=hdq (show∀V,Ext w V->Calls Tryz.prog 56 #[.agg #[.int .i64 k, .int .i64 n, .slice A ks.length cap]] V fun e w'=> e= .returned (.int .i64 r)/\Ext V w' from fun V hV=> by have:=HR.out V hV;rw[show rdxT (.mk k n ks)=r from hr] at this;exact this);have HRR:=hdq hr;clear hr HR;by_cases h0:r=0
 · have hb0:(r !=0)=false:=by rw[h0];rfl
   subst h0;by_cases hm:k=5\/k=15\/k=16\/k=9\/k=12
   · rcases hm with rfl|rfl|rfl|rfl|rfl
     · have hlen:ks.length=2:=by have:(2:Int)=(ks.length:Int):=hops;omega
       have hlt:(0:Int) <(ks.length:Int):=by omega
       have hml:0 < ks.length:=by omega
       have hW:hdW (.mk 5 n ks)=((0:Int)::(hdW (kd ks 0)).1,(hdW (kd ks 0)).2):=by rw[hdW,if_neg (by rw[HRR.out];decide)];rw[<-j60 hml];rfl
       rw[hW] at hlo⊢;obtain⟨b,o,k',n',A',cap',kids,rfl,HK,c0,c1,c2,hkl,hkc,hK',hin',hmem⟩:=hK.get (j:=0) (xr w) hml;have hkd:kd ks 0= .mk k' n' kids:=j37 hml HK.out;have HC:=hdq (fun W (hx:Ext w W)=> hk _ hmem W _ (d - 1) (hsk _ hmem) (hin'.ext hx) (by omega));rw[hkd] at hlo⊢;generalize hdW (.mk k' n' kids)=q at hlo HC⊢;obtain⟨p,z⟩:=q;simp only[List.length_cons] at hlo;have hpl:p.length<=1000:=by omega
       simp only[Nat.zero_mul,Nat.add_zero] at c0 c1 c2;clear hin HRR hops hlen hW hkd HK hlo hsk hk;go_enter Tryz.func191,Tryz.ntmps191;go_wp2_with fail;refine(HR2.out _ hx0).mono ?_;rintro e w1 ⟨rfl,h1⟩;obtain⟨z0,z1,z2,-,-,-⟩:=own3 (h1.blk hbB);have lz:=q10 (h1.blk hbB);have hx1:=hx0.trans h1;have d0:=hx1.cell c0;have d1:=hx1.cell c1;have d2:=hx1.cell c2;clear hbB h1 hx0 HR2 c0 c1 c2;go_wp2_with fail;refine(HC.out _ hx1).mono ?_;rintro e w2 ⟨x,rfl,hq,h2⟩;have hpa:=j30 hq;obtain⟨Bq,cq,rfl,-,-,-⟩:=y24 hq;have hx2:=hx1.trans h2;have hx3:=(xr w2).alloc (.cells #[.int .i64 0] 3);have hG:(w2.alloc (.cells #[.int .i64 0] 3)).ownsRow w2.heap.size 3 1 (.slice (some ⟨w2.heap.size,0,none⟩) 1 1) ([(0:Int)]).length (([(0:Int)]).map (Value.int .i64)):=World.ownsRow_lit w2 #[.int .i64 0] 1 (Nat.le_refl _) (by decide) rfl;have hpa3:=hpa.ext hx3;clear HC hpa hq z0 z1 z2 d0 d1 d2;go_wp2_with (at_builtin;refine q17 _ rfl (.tmp 32) (.tmp 33) 26 rfl w2.heap.size 3 i0 _ 8 Tryz.underlying26 hi hz0 hz1 hz2 (by decide) rfl (ns:= [(0:Int)]) (p:=p) rfl hG (by simp) rfl hpa3 (by simp;omega) ?_)
       intro va wa hva hga hoa;have hEa:Ext w wa:=hx2.trans (hx3.grown hga (by intro g hg;simp[Value.ownBlock] at hg;omega));have hsz:=hx2.size;have hvw:wa.ownsRow w.heap.size 3 1 va ((0:Int)::p).length ((((0:Int)::p)).map (Value.int .i64)):=y31 hva hsz;have HVW:=hdq hvw;clear hva hga hoa hvw;go_wp2_with fail;go_ret2;exact⟨_,rfl,HVW.out,hEa⟩
     · have hlen:ks.length=1:=by have:(1:Int)=(ks.length:Int):=hops;omega
       have hlt:(0:Int) <(ks.length:Int):=by omega
       have hml:0 < ks.length:=by omega
       have hW:hdW (.mk 15 n ks)=((0:Int)::(hdW (kd ks 0)).1,(hdW (kd ks 0)).2):=by rw[hdW,if_neg (by rw[HRR.out];decide)];rw[<-j60 hml];rfl
       rw[hW] at hlo⊢;obtain⟨b,o,k',n',A',cap',kids,rfl,HK,c0,c1,c2,hkl,hkc,hK',hin',hmem⟩:=hK.get (j:=0) (xr w) hml;have hkd:kd ks 0= .mk k' n' kids:=j37 hml HK.out;have HC:=hdq (fun W (hx:Ext w W)=> hk _ hmem W _ (d - 1) (hsk _ hmem) (hin'.ext hx) (by omega));rw[hkd] at hlo⊢;generalize hdW (.mk k' n' kids)=q at hlo HC⊢;obtain⟨p,z⟩:=q;simp only[List.length_cons] at hlo;have hpl:p.length<=1000:=by omega
       simp only[Nat.zero_mul,Nat.add_zero] at c0 c1 c2;clear hin HRR hops hlen hW hkd HK hlo hsk hk;go_enter Tryz.func191,Tryz.ntmps191;go_wp2_with fail;refine(HR2.out _ hx0).mono ?_;rintro e w1 ⟨rfl,h1⟩;obtain⟨z0,z1,z2,-,-,-⟩:=own3 (h1.blk hbB);have lz:=q10 (h1.blk hbB);have hx1:=hx0.trans h1;have d0:=hx1.cell c0;have d1:=hx1.cell c1;have d2:=hx1.cell c2;clear hbB h1 hx0 HR2 c0 c1 c2;go_wp2_with fail;refine(HC.out _ hx1).mono ?_;rintro e w2 ⟨x,rfl,hq,h2⟩;have hpa:=j30 hq;obtain⟨Bq,cq,rfl,-,-,-⟩:=y24 hq;have hx2:=hx1.trans h2;have hx3:=(xr w2).alloc (.cells #[.int .i64 0] 3);have hG:(w2.alloc (.cells #[.int .i64 0] 3)).ownsRow w2.heap.size 3 1 (.slice (some ⟨w2.heap.size,0,none⟩) 1 1) ([(0:Int)]).length (([(0:Int)]).map (Value.int .i64)):=World.ownsRow_lit w2 #[.int .i64 0] 1 (Nat.le_refl _) (by decide) rfl;have hpa3:=hpa.ext hx3;clear HC hpa hq z0 z1 z2 d0 d1 d2;go_wp2_with (at_builtin;refine q17 _ rfl (.tmp 32) (.tmp 33) 26 rfl w2.heap.size 3 i0 _ 8 Tryz.underlying26 hi hz0 hz1 hz2 (by decide) rfl (ns:= [(0:Int)]) (p:=p) rfl hG (by simp) rfl hpa3 (by simp;omega) ?_)
       intro va wa hva hga hoa;have hEa:Ext w wa:=hx2.trans (hx3.grown hga (by intro g hg;simp[Value.ownBlock] at hg;omega));have hsz:=hx2.size;have hvw:wa.ownsRow w.heap.size 3 1 va ((0:Int)::p).length ((((0:Int)::p)).map (Value.int .i64)):=y31 hva hsz;have HVW:=hdq hvw;clear hva hga hoa hvw;go_wp2_with fail;go_ret2;exact⟨_,rfl,HVW.out,hEa⟩
     · have hlen:ks.length=1:=by have:(1:Int)=(ks.length:Int):=hops;omega
       have hlt:(0:Int) <(ks.length:Int):=by omega
       have hml:0 < ks.length:=by omega
       have hW:hdW (.mk 16 n ks)=((0:Int)::(hdW (kd ks 0)).1,(hdW (kd ks 0)).2):=by rw[hdW,if_neg (by rw[HRR.out];decide)];rw[<-j60 hml];rfl
       rw[hW] at hlo⊢;obtain⟨b,o,k',n',A',cap',kids,rfl,HK,c0,c1,c2,hkl,hkc,hK',hin',hmem⟩:=hK.get (j:=0) (xr w) hml;have hkd:kd ks 0= .mk k' n' kids:=j37 hml HK.out;have HC:=hdq (fun W (hx:Ext w W)=> hk _ hmem W _ (d - 1) (hsk _ hmem) (hin'.ext hx) (by omega));rw[hkd] at hlo⊢;generalize hdW (.mk k' n' kids)=q at hlo HC⊢;obtain⟨p,z⟩:=q;simp only[List.length_cons] at hlo;have hpl:p.length<=1000:=by omega
       simp only[Nat.zero_mul,Nat.add_zero] at c0 c1 c2;clear hin HRR hops hlen hW hkd HK hlo hsk hk;go_enter Tryz.func191,Tryz.ntmps191;go_wp2_with fail;refine(HR2.out _ hx0).mono ?_;rintro e w1 ⟨rfl,h1⟩;obtain⟨z0,z1,z2,-,-,-⟩:=own3 (h1.blk hbB);have lz:=q10 (h1.blk hbB);have hx1:=hx0.trans h1;have d0:=hx1.cell c0;have d1:=hx1.cell c1;have d2:=hx1.cell c2;clear hbB h1 hx0 HR2 c0 c1 c2;go_wp2_with fail;refine(HC.out _ hx1).mono ?_;rintro e w2 ⟨x,rfl,hq,h2⟩;have hpa:=j30 hq;obtain⟨Bq,cq,rfl,-,-,-⟩:=y24 hq;have hx2:=hx1.trans h2;have hx3:=(xr w2).alloc (.cells #[.int .i64 0] 3);have hG:(w2.alloc (.cells #[.int .i64 0] 3)).ownsRow w2.heap.size 3 1 (.slice (some ⟨w2.heap.size,0,none⟩) 1 1) ([(0:Int)]).length (([(0:Int)]).map (Value.int .i64)):=World.ownsRow_lit w2 #[.int .i64 0] 1 (Nat.le_refl _) (by decide) rfl;have hpa3:=hpa.ext hx3;clear HC hpa hq z0 z1 z2 d0 d1 d2;go_wp2_with (at_builtin;refine q17 _ rfl (.tmp 32) (.tmp 33) 26 rfl w2.heap.size 3 i0 _ 8 Tryz.underlying26 hi hz0 hz1 hz2 (by decide) rfl (ns:= [(0:Int)]) (p:=p) rfl hG (by simp) rfl hpa3 (by simp;omega) ?_)
       intro va wa hva hga hoa;have hEa:Ext w wa:=hx2.trans (hx3.grown hga (by intro g hg;simp[Value.ownBlock] at hg;omega));have hsz:=hx2.size;have hvw:wa.ownsRow w.heap.size 3 1 va ((0:Int)::p).length ((((0:Int)::p)).map (Value.int .i64)):=y31 hva hsz;have HVW:=hdq hvw;clear hva hga hoa hvw;go_wp2_with fail;go_ret2;exact⟨_,rfl,HVW.out,hEa⟩
     · have hlen:ks.length=4:=by have:(4:Int)=(ks.length:Int):=hops;omega
       have hlt:(3:Int) <(ks.length:Int):=by omega
       have hml:3 < ks.length:=by omega
       have hW:hdW (.mk 9 n ks)=((3:Int)::(hdW (kd ks 3)).1,(hdW (kd ks 3)).2):=by rw[hdW,if_neg (by rw[HRR.out];decide)];rw[<-j60 hml];rfl
       rw[hW] at hlo⊢;obtain⟨b,o,k',n',A',cap',kids,rfl,HK,c0,c1,c2,hkl,hkc,hK',hin',hmem⟩:=hK.get (j:=3) (xr w) hml;have hkd:kd ks 3= .mk k' n' kids:=j37 hml HK.out;have HC:=hdq (fun W (hx:Ext w W)=> hk _ hmem W _ (d - 1) (hsk _ hmem) (hin'.ext hx) (by omega));rw[hkd] at hlo⊢;generalize hdW (.mk k' n' kids)=q at hlo HC⊢;obtain⟨p,z⟩:=q;simp only[List.length_cons] at hlo;have hpl:p.length<=1000:=by omega
       simp only[Nat.reduceMul,Nat.add_assoc,Nat.reduceAdd] at c0 c1 c2;clear hin HRR hops hlen hW hkd HK hlo hsk hk;go_enter Tryz.func191,Tryz.ntmps191;go_wp2_with fail;refine(HR2.out _ hx0).mono ?_;rintro e w1 ⟨rfl,h1⟩;obtain⟨z0,z1,z2,-,-,-⟩:=own3 (h1.blk hbB);have lz:=q10 (h1.blk hbB);have hx1:=hx0.trans h1;have d0:=hx1.cell c0;have d1:=hx1.cell c1;have d2:=hx1.cell c2;clear hbB h1 hx0 HR2 c0 c1 c2;go_wp2_with fail;refine(HC.out _ hx1).mono ?_;rintro e w2 ⟨x,rfl,hq,h2⟩;have hpa:=j30 hq;obtain⟨Bq,cq,rfl,-,-,-⟩:=y24 hq;have hx2:=hx1.trans h2;have hx3:=(xr w2).alloc (.cells #[.int .i64 3] 3);have hG:(w2.alloc (.cells #[.int .i64 3] 3)).ownsRow w2.heap.size 3 1 (.slice (some ⟨w2.heap.size,0,none⟩) 1 1) ([(3:Int)]).length (([(3:Int)]).map (Value.int .i64)):=World.ownsRow_lit w2 #[.int .i64 3] 1 (Nat.le_refl _) (by decide) rfl;have hpa3:=hpa.ext hx3;clear HC hpa hq z0 z1 z2 d0 d1 d2;go_wp2_with (at_builtin;refine q17 _ rfl (.tmp 32) (.tmp 33) 26 rfl w2.heap.size 3 i0 _ 8 Tryz.underlying26 hi hz0 hz1 hz2 (by decide) rfl (ns:= [(3:Int)]) (p:=p) rfl hG (by simp) rfl hpa3 (by simp;omega) ?_)
       intro va wa hva hga hoa;have hEa:Ext w wa:=hx2.trans (hx3.grown hga (by intro g hg;simp[Value.ownBlock] at hg;omega));have hsz:=hx2.size;have hvw:wa.ownsRow w.heap.size 3 1 va ((3:Int)::p).length ((((3:Int)::p)).map (Value.int .i64)):=y31 hva hsz;have HVW:=hdq hvw;clear hva hga hoa hvw;go_wp2_with fail;go_ret2;exact⟨_,rfl,HVW.out,hEa⟩
     · have hlen:ks.length=3:=by have:(3:Int)=(ks.length:Int):=hops;omega
       have hlt:(1:Int) <(ks.length:Int):=by omega
       have hml:1 < ks.length:=by omega
       have hW:hdW (.mk 12 n ks)=((1:Int)::(hdW (kd ks 1)).1,(hdW (kd ks 1)).2):=by rw[hdW,if_neg (by rw[HRR.out];decide)];rw[<-j60 hml];rfl
       rw[hW] at hlo⊢;obtain⟨b,o,k',n',A',cap',kids,rfl,HK,c0,c1,c2,hkl,hkc,hK',hin',hmem⟩:=hK.get (j:=1) (xr w) hml;have hkd:kd ks 1= .mk k' n' kids:=j37 hml HK.out;have HC:=hdq (fun W (hx:Ext w W)=> hk _ hmem W _ (d - 1) (hsk _ hmem) (hin'.ext hx) (by omega));rw[hkd] at hlo⊢;generalize hdW (.mk k' n' kids)=q at hlo HC⊢;obtain⟨p,z⟩:=q;simp only[List.length_cons] at hlo;have hpl:p.length<=1000:=by omega
       simp only[Nat.one_mul,Nat.add_assoc,Nat.reduceAdd] at c0 c1 c2;clear hin HRR hops hlen hW hkd HK hlo hsk hk;go_enter Tryz.func191,Tryz.ntmps191;go_wp2_with fail;refine(HR2.out _ hx0).mono ?_;rintro e w1 ⟨rfl,h1⟩;obtain⟨z0,z1,z2,-,-,-⟩:=own3 (h1.blk hbB);have lz:=q10 (h1.blk hbB);have hx1:=hx0.trans h1;have d0:=hx1.cell c0;have d1:=hx1.cell c1;have d2:=hx1.cell c2;clear hbB h1 hx0 HR2 c0 c1 c2;go_wp2_with fail;refine(HC.out _ hx1).mono ?_;rintro e w2 ⟨x,rfl,hq,h2⟩;have hpa:=j30 hq;obtain⟨Bq,cq,rfl,-,-,-⟩:=y24 hq;have hx2:=hx1.trans h2;have hx3:=(xr w2).alloc (.cells #[.int .i64 1] 3);have hG:(w2.alloc (.cells #[.int .i64 1] 3)).ownsRow w2.heap.size 3 1 (.slice (some ⟨w2.heap.size,0,none⟩) 1 1) ([(1:Int)]).length (([(1:Int)]).map (Value.int .i64)):=World.ownsRow_lit w2 #[.int .i64 1] 1 (Nat.le_refl _) (by decide) rfl;have hpa3:=hpa.ext hx3;clear HC hpa hq z0 z1 z2 d0 d1 d2;go_wp2_with (at_builtin;refine q17 _ rfl (.tmp 32) (.tmp 33) 26 rfl w2.heap.size 3 i0 _ 8 Tryz.underlying26 hi hz0 hz1 hz2 (by decide) rfl (ns:= [(1:Int)]) (p:=p) rfl hG (by simp) rfl hpa3 (by simp;omega) ?_)
       intro va wa hva hga hoa;have hEa:Ext w wa:=hx2.trans (hx3.grown hga (by intro g hg;simp[Value.ownBlock] at hg;omega));have hsz:=hx2.size;have hvw:wa.ownsRow w.heap.size 3 1 va ((1:Int)::p).length ((((1:Int)::p)).map (Value.int .i64)):=y31 hva hsz;have HVW:=hdq hvw;clear hva hga hoa hvw;go_wp2_with fail;go_ret2;exact⟨_,rfl,HVW.out,hEa⟩
   · have hW:hdW (.mk k n ks)=([],false):=by rw[hdW,if_neg (by rw[HRR.out];decide),if_neg (by omega),if_neg (by omega),if_neg (by omega)]
     rw[hW];have t1:(k==5)=false:=beq_eq_false_iff_ne.2 (by omega);have t2:(k==15)=false:=beq_eq_false_iff_ne.2 (by omega);have t3:(k==16)=false:=beq_eq_false_iff_ne.2 (by omega);have t4:(k==9)=false:=beq_eq_false_iff_ne.2 (by omega);have t5:(k==12)=false:=beq_eq_false_iff_ne.2 (by omega);clear hin HRR hops hW hlo hsk hk hm;go_enter Tryz.func191,Tryz.ntmps191;go_wp2_with fail;refine(HR2.out _ hx0).mono ?_;rintro e w1 ⟨rfl,h1⟩;obtain⟨z0,z1,z2,-,-,-⟩:=own3 (h1.blk hbB);have lz:=q10 (h1.blk hbB);go_wp2_with fail;go_ret2;exact⟨_,rfl,World.ownsRow_nil _ _ _ _,hx0.trans h1⟩
 · have hb0:(r !=0)=true:=bne_iff_ne.2 h0
   have hW:hdW (.mk k n ks)=([],true):=by rw[hdW,if_pos (by rw[HRR.out];exact h0)]
   rw[hW];clear hW HRR;go_enter Tryz.func191,Tryz.ntmps191;go_wp2_with fail;refine(HR2.out _ hx0).mono ?_;rintro e w1 ⟨rfl,h1⟩;go_wp2_with fail;go_ret2;exact⟨_,rfl,World.ownsRow_nil _ _ _ _,hx0.trans h1⟩
set_option maxRecDepth 100000 in
set_option maxHeartbeats 4000000 in
theorem y145(t:Tr)(f:Int)(w:World)(v:Value)(hin:Lies w t v):
 Calls Tryz.prog 130 #[v, .int .i64 f, .func (.func 191) #[] #[]] w fun e w'=> ∃r s,e= .returned (.tuple #[r, .int .i64 s, .int .i64 (hnfV t f).2])/\Made w w' 25 (hnfV t f).1 r/\Ext w w':=by
 have HV:=hdq (fun W (hW:Ext w W)=> q18 t W v (hin.ext hW));have E:hnfV t f=if(valid sigT t && inR f 0 200)=true then hnfC f.toNat t else(j14,3):=rfl
 rw[E];clear E;obtain⟨z,hz⟩: ∃z,valid sigT t=z:=⟨_,rfl⟩;obtain⟨y,hy⟩: ∃y,inR f 0 200=y:=⟨_,rfl⟩;rw[hz] at HV⊢;rw[hy];obtain⟨k,n,ks⟩:=t;obtain⟨A,cap,rfl,hl,hc,hK⟩:=Lies.mk_iff.1 hin;have hx0:=((xr w).alloc (.cells #[.int .i64 k, .int .i64 n, .slice A ks.length cap] 25)).alloc (.cells #[.int .i64 0, .int .i64 0, .slice none 0 0] 25);obtain⟨hb0,hb1,hs2⟩:=blk2 (xr ((w.alloc (.cells #[.int .i64 k, .int .i64 n, .slice A ks.length cap] 25)).alloc (.cells #[.int .i64 0, .int .i64 0, .slice none 0 0] 25)));obtain⟨wS,hwS⟩: ∃x,x=(w.alloc (.cells #[.int .i64 k, .int .i64 n, .slice A ks.length cap] 25)).alloc (.cells #[.int .i64 0, .int .i64 0, .slice none 0 0] 25):=⟨_,rfl⟩;rw[<-hwS] at hx0 hb0 hb1 hs2;cases z with
 |false=>
  rw[if_neg (by simp)];go_enter Tryz.func130,Tryz.ntmps130;go_wp2_with fail;rw[<-hwS];clear hwS;refine(HV.out _ hx0).mono ?_;rintro e w1 ⟨rfl,h1⟩;obtain⟨s0,s1,s2,f0,f1,f2⟩:=own3 (h1.blk hb1);go_wp2_with fail;refine bodyPost_ret (v:= .tuple #[.agg #[.int .i64 0, .int .i64 0, .slice none 0 0], .int .i64 0, .int .i64 3]) (by simp[results,Tryz.results130,go_sem,s0,s1,s2]) rfl ⟨_,_,rfl,Made.leaf _ _ _ 0 0, ?_⟩;exact((((hx0.trans h1).setCell (by simp) _).setCell (by simp) _).setCell (by simp) _)
 |true=>
  cases y with
  |false=>
   rw[if_neg (by simp)];go_enter Tryz.func130,Tryz.ntmps130;go_wp2_with fail;rw[<-hwS];clear hwS;refine(HV.out _ hx0).mono ?_;rintro e w1 ⟨rfl,h1⟩;obtain⟨s0,s1,s2,f0,f1,f2⟩:=own3 (h1.blk hb1);go_wp2_with (go_at_call 67;refine(q22 _ _ _ _).mono ?_;rw[hy];rintro e w3 ⟨rfl,rfl⟩)
   refine bodyPost_ret (v:= .tuple #[.agg #[.int .i64 0, .int .i64 0, .slice none 0 0], .int .i64 0, .int .i64 3]) (by simp[results,Tryz.results130,go_sem,s0,s1,s2]) rfl ⟨_,_,rfl,Made.leaf _ _ _ 0 0, ?_⟩;exact((((hx0.trans h1).setCell (by simp) _).setCell (by simp) _).setCell (by simp) _)
  |true=>
   rw[if_pos (by simp)];obtain⟨hf1,hf2⟩:=y37.1 hy;obtain⟨F,rfl⟩:=Int.eq_ofNat_of_zero_le hf1;rw[show((F:Int)).toNat=F from by omega];obtain⟨R,hR⟩: ∃R,hnfC F (.mk k n ks)=R:=⟨_,rfl⟩;rw[hR];have HR:=hdq hR;have HY:=hdq hy;have HZ:=hdq hz;have HF:=hdq hf2;clear hy hR hz hf1 hf2;go_enter Tryz.func130,Tryz.ntmps130;go_wp2_with fail;rw[<-hwS];clear hwS;refine(HV.out _ hx0).mono ?_;rintro e w1 ⟨rfl,h1⟩;have hb10:=h1.blk hb0;have hb11:=h1.blk hb1;have hx1:=hx0.trans h1;go_wp2_with (go_at_call 67;refine(q22 _ _ _ _).mono ?_;rw[HY.out];rintro e w3 ⟨rfl,rfl⟩)
   clear HV hx0 hb0 hb1 hs2 h1 hin HY
   go_loopw [9] (fun i wr=> ∃(j:Nat) (k' n':Int) (kids:List Tr) (A':Option Addr) (c':Nat),j<=F/\i= .int .i64 j/\
    Hid (hnfC (F - j) (.mk k' n' kids)=R)/\Hid (valid sigT (.mk k' n' kids)=true)/\kids.length<=c'/\c'<=maxLen/\InK wr (fun b=> b < wr.heap.size/\(b < w.heap.size\/w.heap.size+2<=b)) A' kids/\
    wr.heap[w.heap.size]? =some (.cells #[.int .i64 k', .int .i64 n', .slice A' kids.length c'] 25 (0,0))/\wr.heap[w.heap.size+1]? =some (.cells #[.int .i64 0, .int .i64 0, .slice none 0 0] 25 (0,0))/\Ext w wr) (fun i _=> F -(intOf i).toNat)
   case atStart=> exact⟨0,k,n,ks,A,cap,Nat.zero_le _,rfl,hdq HR.out,HZ,hl,hc,InK.mono (fun b hb=>⟨Nat.lt_of_lt_of_le hb hx1.size, .inl hb⟩) (fun b hb=> hx1.heap b hb) hK,hb10,hb11,hx1⟩
   case round=>
    obtain⟨j,k',n',kids,A',c',hj,rfl,HN,HVX,hkl,hkc,hT,hb,hbR,hx⟩:=hrel;have hsz:w.heap.size+1 < wr.heap.size:=q10 hbR;have hL:Lies wr (.mk k' n' kids) (.agg #[.int .i64 k', .int .i64 n', .slice A' kids.length c']):=Lies.mk hkl hkc (InK.mono (fun b hb=> hb.1) (fun _ _=> rfl) hT);have HO:=j204 (.mk k' n' kids) wr _ 30 (q14 HVX.out).2 hL (by decide);have HOW:=hdq (fun W (hW:Ext wr W)=> q45 (.mk k' n' kids) W _ (hL.ext hW) (by have:=(q14 HVX.out).1;omega));have HCO:=hdq (fun p (hp:hdQ (.mk k' n' kids)=some p) W (hW:Ext wr W) B c (hP:PFs W B p.length c p)=> j69 (.mk k' n' kids) p HVX.out (hdQ_at _ p hp) W _ (hL.ext hW) B p.length c hP (by have:=q184 _ 30 (q14 HVX.out).2;rw[y82 hp] at this;simp only at this;omega));have HO2:=hdq (show∀q,hdQ (.mk k' n' kids)=q->Calls Tryz.prog 191 #[.agg #[.int .i64 k', .int .i64 n', .slice A' kids.length c']] wr fun e w'=> ∃x,e= .returned (.tuple #[x, .bool q.isSome])/\(q.isSome=true->w'.ownsRow wr.heap.size 3 1 x (q.getD []).length ((q.getD []).map (Value.int .i64)))/\Ext wr w' from fun q hq=> by
     refine HO.mono ?_;rintro e w' ⟨x,rfl,h1,h2⟩;cases q with
     |none=> exact⟨x,by rw[y124 hq];rfl,(fun h=> by cases h),h2⟩
     |some p=> exact⟨x,by rw[y82 hq];rfl,(fun _=> by rw[y82 hq] at h1;exact h1),h2⟩)
    clear HO hT hK hb10 hb11 hx1;obtain⟨z0,z1,z2,-,-,-⟩:=own3 hb;obtain⟨q,hq⟩: ∃q,hdQ (.mk k' n' kids)=q:=⟨_,rfl⟩;have HO2:=hdq (HO2.out q hq);cases q with
    |none=>
     have HE:=hdq (HN.out.symm.trans (q61 hq (F - j)));clear HCO hq HN;go_wp2_with fail;refine HO2.out.mono ?_;rintro e w2 ⟨x,rfl,-,h2⟩;obtain⟨y0,y1,y2,-,-,-⟩:=own3 (h2.blk hb);clear z0 z1 z2;go_wp2_with fail;refine(HOW.out _ h2).mono ?_;rintro e w3 ⟨r,rfl,hM,h3⟩;obtain⟨b1,b2,b3,b4,b5,rfl⟩:=hM.three';have h16:=h2.trans h3;obtain⟨s0,s1,s2,f0,f1,f2⟩:=own3 (h16.blk hbR);have hw4:w.heap.size+2<=w2.heap.size:=by have:=h2.size;omega
     clear y0 y1 y2;go_wp2_with fail;rw[HE.out];refine bodyPost_ret (v:= .tuple #[.agg #[.int .i64 b1, .int .i64 b2, .slice b3 b4 b5], .int .i64 j, .int .i64 0]) (by simp[results,Tryz.results130,go_sem,s0,s1,s2]) rfl ⟨_,_,rfl,Made.since (hM.after ((((y28.refl _ _).setCell (p:=⟨w.heap.size+1,0,none⟩) (by show w.heap.size+1 < _;omega) (.int .i64 b1)).setCell (p:=⟨w.heap.size+1,1,none⟩) (by show w.heap.size+1 < _;omega) (.int .i64 b2)).setCell (p:=⟨w.heap.size+1,2,none⟩) (by show w.heap.size+1 < _;omega) (.slice b3 b4 b5))) (by omega), ?_⟩;exact((((hx.trans h16).setCell (by simp) _).setCell (by simp) _).setCell (by simp) _)
    |some p=>
     have HCO2:=hdq (HCO.out p hq);simp only[Option.isSome_some,Option.getD_some] at HO2;have HQ:=hdq hq;clear HCO hq HOW;by_cases hjF:j=F
     · have HE:=hdq (HN.out.symm.trans (show hnfC (F - j) (.mk k' n' kids)=(j14,1) by rw[show F - j=0 by omega];exact j102 HQ.out))
       clear HCO2 HN;subst hjF;go_wp2_with fail;refine HO2.out.mono ?_;rintro e w2 ⟨x,rfl,hRw0,h2⟩;have hRw:=hRw0 trivial;clear hRw0;obtain⟨B,c,rfl,hP⟩:=j87 hRw;obtain⟨s0,s1,s2,f0,f1,f2⟩:=own3 (h2.blk hbR);clear z0 z1 z2 hRw;go_wp2_with fail;rw[HE.out];refine bodyPost_ret (v:= .tuple #[.agg #[.int .i64 0, .int .i64 0, .slice none 0 0], .int .i64 j, .int .i64 1]) (by simp[results,Tryz.results130,go_sem,s0,s1,s2]) rfl ⟨_,_,rfl,Made.leaf _ _ _ 0 0, ?_⟩;exact((((hx.trans h2).setCell (by simp) _).setCell (by simp) _).setCell (by simp) _)
     · have hj1:((j:Int)==(F:Int))=false:=beq_eq_false_iff_ne.2 (by omega)
       have hj2:(j==F)=false:=beq_eq_false_iff_ne.2 hjF;have hlt:j < F:=by omega
       have hj3:(j:Int) < 200:=by have:=HF.out;omega
       have hj4:F<=200:=by have:=HF.out;omega
       obtain⟨g,hg⟩: ∃g,F - j=g+1:=⟨F - j - 1,by omega⟩;have hg2:F -(j+1)=g:=by omega
       have hcv:conV (.mk k' n' kids) p=if valid sigT (conA (.mk k' n' kids) p)=true then(conA (.mk k' n' kids) p,true) else(j14,false):=rfl
       have HN1:=HN.out;rw[hg] at HN1;by_cases hcx:valid sigT (conA (.mk k' n' kids) p)=true
       · rw[if_pos hcx] at hcv
         rw[j141 HQ.out hcx,<-hg2] at HN1;rw[hcv] at HCO2;clear hcv HN hg hg2;generalize conA (.mk k' n' kids) p=X at HCO2 HN1 hcx;obtain⟨k2,n2,kids2⟩:=X;have HX1:=hdq HN1;have HX2:=hdq hcx;clear HN1 hcx;go_wp2_with fail;refine HO2.out.mono ?_;rintro e w2 ⟨x,rfl,hRw0,h2⟩;have hRw:=hRw0 trivial;clear hRw0;obtain⟨B,c,rfl,hP⟩:=j87 hRw;obtain⟨y0,y1,y2,-,-,-⟩:=own3 (h2.blk hb);clear z0 z1 z2 hRw;go_wp2_with fail;refine(HCO2.out _ h2 _ _ hP).mono ?_;rintro e w3 ⟨r,rfl,hM,h3⟩;have hF3:=From.made hM;obtain⟨A2,c2,rfl,hl2,hc2,hK2⟩:=InT.mk_iff.1 hF3;have h16:=(h2.trans h3).trans ((xr w3).alloc (.cells #[.int .i64 k2, .int .i64 n2, .slice A2 kids2.length c2] 25));obtain⟨s0,s1,s2,f0,f1,f2⟩:=own3 (h16.blk hb);have hb7:=h16.blk hb;have hb8:=h16.blk hbR;have hs23:wr.heap.size<=w2.heap.size:=h2.size;have hs33:w2.heap.size<=w3.heap.size:=h3.size;have KEEP:=hdq (fun(a0 a1 a2:Value) (b:Nat) (hb:b < w3.heap.size) (hne:b≠w.heap.size)=>(show((((w3.alloc (.cells #[.int .i64 k2, .int .i64 n2, .slice A2 kids2.length c2] 25)).setCell ⟨w.heap.size,0,none⟩ a0).setCell ⟨w.heap.size,1,none⟩ a1).setCell ⟨w.heap.size,2,none⟩ a2).heap[b]? =w3.heap[b]?from by
          rw[Below.heap_setCell _ _ _ _ hne,Below.heap_setCell _ _ _ _ hne,Below.heap_setCell _ _ _ _ hne];exact((xr w3).alloc _).heap b hb))
         clear y0 y1 y2 hb hbR hM hF3;go_wp2_with fail
         go_roundw
         case rel=> exact⟨j+1,k2,n2,kids2,A2,c2,hlt,by go_num,HX1,HX2,hl2,hc2,InK.mono (fun b hb=>⟨by simp;omega, .inr (by omega)⟩) (fun b hb=> KEEP.out _ _ _ b hb.2 (by omega)) hK2,q11 (q11 (q11 hb7 0 _) 1 _) 2 _,j11 (j11 (j11 hb8 (by simp) _) (by simp) _) (by simp) _,(((hx.trans h16).setCell (by simp) _).setCell (by simp) _).setCell (by simp) _⟩
         case measure=> simp[intOf];omega
       · rw[if_neg hcx] at hcv
         rw[y142 HQ.out (Bool.eq_false_iff.2 hcx)] at HN1;rw[hcv] at HCO2;have HE:=hdq HN1.symm;clear hcv HN hg hg2 hcx HN1;go_wp2_with fail;refine HO2.out.mono ?_;rintro e w2 ⟨x,rfl,hRw0,h2⟩;have hRw:=hRw0 trivial;clear hRw0;obtain⟨B,c,rfl,hP⟩:=j87 hRw;obtain⟨y0,y1,y2,-,-,-⟩:=own3 (h2.blk hb);clear z0 z1 z2 hRw;go_wp2_with fail;refine(HCO2.out _ h2 _ _ hP).mono ?_;rintro e w3 ⟨r,rfl,hM,h3⟩;obtain⟨b1,b2,b3,b4,b5,rfl⟩:=hM.three';have h16:=(h2.trans h3).trans ((xr w3).alloc (.cells #[.int .i64 b1, .int .i64 b2, .slice b3 b4 b5] 25));obtain⟨s0,s1,s2,f0,f1,f2⟩:=own3 (h16.blk hbR);clear y0 y1 y2;go_wp2_with fail;rw[HE.out];refine bodyPost_ret (v:= .tuple #[.agg #[.int .i64 0, .int .i64 0, .slice none 0 0], .int .i64 j, .int .i64 2]) (by simp[results,Tryz.results130,go_sem,s0,s1,s2]) rfl ⟨_,_,rfl,Made.leaf _ _ _ 0 0, ?_⟩;exact((((hx.trans h16).setCell (by simp) _).setCell (by simp) _).setCell (by simp) _)
set_option maxRecDepth 100000 in
theorem j105(t:Tr)(f:Int)(w:World)(v:Value)(hin:Lies w t v):
 Calls Tryz.prog 157 #[v, .int .i64 f] w fun e w'=> ∃r,e= .returned (.tuple #[r, .int .i64 (hnfV t f).2])/\Made w w' 25 (hnfV t f).1 r/\Ext w w':=by
 have HS:=hdq (fun W (hW:Ext w W)=> y145 t f W v (hin.ext hW));obtain⟨S,hS⟩: ∃S,hnfV t f=S:=⟨_,rfl⟩;rw[hS] at HS⊢;obtain⟨k,n,ks⟩:=t;obtain⟨A,cap,rfl,hl,hc,hK⟩:=Lies.mk_iff.1 hin;clear hS;have hx0:=((xr w).alloc (.cells #[.int .i64 k, .int .i64 n, .slice A ks.length cap] 25)).alloc (.cells #[.int .i64 0, .int .i64 0, .slice none 0 0] 25);obtain⟨hb0,hb1,hs2⟩:=blk2 (xr ((w.alloc (.cells #[.int .i64 k, .int .i64 n, .slice A ks.length cap] 25)).alloc (.cells #[.int .i64 0, .int .i64 0, .slice none 0 0] 25)));obtain⟨wS,hwS⟩: ∃x,x=(w.alloc (.cells #[.int .i64 k, .int .i64 n, .slice A ks.length cap] 25)).alloc (.cells #[.int .i64 0, .int .i64 0, .slice none 0 0] 25):=⟨_,rfl⟩;rw[<-hwS] at hx0 hb0 hb1 hs2;go_enter Tryz.func157,Tryz.ntmps157;go_wp2_with fail;rw[<-hwS];clear hwS;refine(HS.out _ hx0).mono ?_;rintro e w3 ⟨r,s,rfl,hM,h3⟩;obtain⟨b1,b2,b3,b4,b5,rfl⟩:=hM.three';have h16:=h3.trans ((xr w3).alloc (.cells #[.int .i64 b1, .int .i64 b2, .slice b3 b4 b5] 25));obtain⟨s0,s1,s2,f0,f1,f2⟩:=own3 (h16.blk hb1);have hM2:=hM.ext ((xr w3).alloc (.cells #[.int .i64 b1, .int .i64 b2, .slice b3 b4 b5] 25));have hw4:w.heap.size+2<=wS.heap.size:=by omega
 go_wp2_with fail;refine bodyPost_ret (v:= .tuple #[.agg #[.int .i64 b1, .int .i64 b2, .slice b3 b4 b5], .int .i64 S.2]) (by simp[results,Tryz.results157,go_sem,s0,s1,s2]) rfl ⟨_,rfl,Made.since (hM2.after ((((y28.refl _ _).setCell (p:=⟨w.heap.size+1,0,none⟩) (by show w.heap.size+1 < _;omega) (.int .i64 b1)).setCell (p:=⟨w.heap.size+1,1,none⟩) (by show w.heap.size+1 < _;omega) (.int .i64 b2)).setCell (p:=⟨w.heap.size+1,2,none⟩) (by show w.heap.size+1 < _;omega) (.slice b3 b4 b5))) (by omega), ?_⟩;exact((((hx0.trans h16).setCell (by simp) _).setCell (by simp) _).setCell (by simp) _)
end Go.Proofs.YtdkamgafpphdjaaGreat
namespace Go.Proofs.YtdkamgafpphdjaaGreat
open Go.RowKit
set_option linter.unusedVariables false
theorem j153{t:Tr}{f:Int}(h:valid sigT t=true)(hf:inR f 0 200=true):q136 t f=nrmC f.toNat t:=by
 unfold q136;rw[h,hf]
 rfl
set_option maxRecDepth 100000 in
set_option maxHeartbeats 4000000 in
theorem y102(a b:Tr)(f:Int)(w:World)(va vb:Value)(ha:Lies w a va)(hb:Lies w b vb):
 Calls Tryz.prog 18 #[va,vb, .int .i64 f] w fun e w'=> e= .returned (.int .i64 (y96 a b f))/\Ext w w':=by
 have HVA:=hdq (fun W (hW:Ext w W)=> q18 a W va (ha.ext hW));have HVB:=hdq (fun W (hW:Ext w W)=> q18 b W vb (hb.ext hW));have HNA:=hdq (fun W (hW:Ext w W)=> q77 a f W va (ha.ext hW));have HNB:=hdq (fun W (hW:Ext w W)=> q77 b f W vb (hb.ext hW));have HSM:=hdq (fun W (hW:Ext w W)=> j59 a W b va vb (ha.ext hW) (hb.ext hW));have E:y96 a b f=if(valid sigT a &&(valid sigT b && inR f 0 200))=true then(if a=b then 1 else if(nrmC f.toNat a).2=0/\(nrmC f.toNat b).2=0 then(if(nrmC f.toNat a).1=(nrmC f.toNat b).1 then 1 else 2) else 3) else 0:=rfl
 have hna:=fun(h1:valid sigT a=true) (h2:inR f 0 200=true)=> j153 h1 h2
 have hnb:=fun(h1:valid sigT b=true) (h2:inR f 0 200=true)=> j153 h1 h2
 obtain⟨C,hC⟩: ∃C,y96 a b f=C:=⟨_,rfl⟩;rw[hC] at E⊢;clear hC;obtain⟨za,hza⟩: ∃z,valid sigT a=z:=⟨_,rfl⟩;obtain⟨zb,hzb⟩: ∃z,valid sigT b=z:=⟨_,rfl⟩;obtain⟨y,hy⟩: ∃y,inR f 0 200=y:=⟨_,rfl⟩;obtain⟨q,hq⟩: ∃q,eqTr a b=q:=⟨_,rfl⟩;rw[hza] at HVA E hna;rw[hzb] at HVB E hnb;rw[hy] at E hna hnb;rw[hq] at HSM;have hqe:(a=b)↔q=true:=by rw[<-hq];exact j92.symm
 have HY:=hdq hy;have HQ:=hdq hqe;have HE:=hdq E;have HA:=hdq hna;have HB:=hdq hnb;clear hza hzb hy hq hqe E hna hnb;obtain⟨k1,n1,ks1⟩:=a;obtain⟨k2,n2,ks2⟩:=b;obtain⟨A1,c1,rfl,hl1,hc1,hK1⟩:=Lies.mk_iff.1 ha;obtain⟨A2,c2,rfl,hl2,hc2,hK2⟩:=Lies.mk_iff.1 hb;have hx0:=((xr w).alloc (.cells #[.int .i64 k1, .int .i64 n1, .slice A1 ks1.length c1] 25)).alloc (.cells #[.int .i64 k2, .int .i64 n2, .slice A2 ks2.length c2] 25);obtain⟨hb0,hb1,hs2⟩:=blk2 (xr ((w.alloc (.cells #[.int .i64 k1, .int .i64 n1, .slice A1 ks1.length c1] 25)).alloc (.cells #[.int .i64 k2, .int .i64 n2, .slice A2 ks2.length c2] 25)));obtain⟨wS,hwS⟩: ∃x,x=(w.alloc (.cells #[.int .i64 k1, .int .i64 n1, .slice A1 ks1.length c1] 25)).alloc (.cells #[.int .i64 k2, .int .i64 n2, .slice A2 ks2.length c2] 25):=⟨_,rfl⟩;rw[<-hwS] at hx0 hb0 hb1 hs2;go_enter Tryz.func18,Tryz.ntmps18;go_wp2_with fail;rw[<-hwS];clear hwS;refine(HVA.out _ hx0).mono ?_;rintro e w1 ⟨rfl,e1⟩;have hx1:=hx0.trans e1;cases za with
 |false=>
  have hr:C=0:=by rw[HE.out];rfl
  have HR:=hdq hr;clear hr;go_wp2_with fail;go_ret;exact⟨by rw[HR.out];rfl,hx1⟩
 |true=>
  obtain⟨p0,p1,p2,-⟩:=own3 (e1.blk hb1);go_wp2_with fail;refine(HVB.out _ hx1).mono ?_;rintro e w2 ⟨rfl,e2⟩;have hx2:=hx1.trans e2;clear p0 p1 p2;cases zb with
  |false=>
   have hr:C=0:=by rw[HE.out];rfl
   have HR:=hdq hr;clear hr;go_wp2_with fail;go_ret;exact⟨by rw[HR.out];rfl,hx2⟩
  |true=>
   go_wp2_with fail;refine(q22 f 0 200 w2).mono ?_;rintro e w3 ⟨rfl,rfl⟩;rw[HY.out];cases y with
   |false=>
    have hr:C=0:=by rw[HE.out];rfl
    have HR:=hdq hr;clear hr;go_wp2_with fail;go_ret;exact⟨by rw[HR.out];rfl,hx2⟩
   |true=>
    have ha1:=HA.out (by simp) (by simp);have hb2:=HB.out (by simp) (by simp);rw[ha1] at HNA;rw[hb2] at HNB;have hE1:=HE.out;rw[Bool.and_self,Bool.and_self,if_pos rfl] at hE1;have HE1:=hdq hE1;clear ha1 hb2 hE1 HE;obtain⟨q0,q1,q2,-⟩:=own3 ((e1.trans e2).blk hb0);obtain⟨p0,p1,p2,-⟩:=own3 ((e1.trans e2).blk hb1);go_wp2_with fail;refine(HSM.out _ hx2).mono ?_;rintro e w3 ⟨rfl,e3⟩;have hx3:=hx2.trans e3;clear q0 q1 q2 p0 p1 p2;cases q with
    |true=>
     have hr:C=1:=by rw[HE1.out,if_pos (HQ.out.2 rfl)]
     have HR:=hdq hr;clear hr;go_wp2_with fail;go_ret;exact⟨by rw[HR.out];rfl,hx3⟩
    |false=>
     have hE2:=HE1.out;rw[if_neg (fun h=> by have:=HQ.out.1 h;cases this)] at hE2;obtain⟨S1,hS1⟩: ∃S,nrmC f.toNat (.mk k1 n1 ks1)=S:=⟨_,rfl⟩;obtain⟨S2,hS2⟩: ∃S,nrmC f.toNat (.mk k2 n2 ks2)=S:=⟨_,rfl⟩;rw[hS1] at HNA hE2;rw[hS2] at HNB hE2;obtain⟨⟨k3,n3,ks3⟩,s1⟩:=S1;obtain⟨⟨k4,n4,ks4⟩,s2⟩:=S2;have HE2:=hdq hE2;clear hS1 hS2 hE2;have eb:=(e1.trans e2).trans e3;obtain⟨q0,q1,q2,-⟩:=own3 (eb.blk hb0);go_wp2_with fail;refine(HNA.out _ hx3).mono ?_;rintro e w4 ⟨r,rfl,hM3,e4⟩;have hL3:=hM3.lies;obtain⟨A3,c3,rfl,hl3,hc3,hK3⟩:=Lies.mk_iff.1 hL3;obtain⟨w5,hw5⟩: ∃x,x=w4.alloc (.cells #[.int .i64 k3, .int .i64 n3, .slice A3 ks3.length c3] 25):=⟨_,rfl⟩;have e5:Ext w4 w5:=hw5▸(xr w4).alloc _;have hb5:w5.heap[w4.heap.size]? =some (.cells #[.int .i64 k3, .int .i64 n3, .slice A3 ks3.length c3] 25 (0,0)):=hw5▸heap_alloc_new w4 _;obtain⟨p0,p1,p2,-⟩:=own3 (((eb.trans e4).trans e5).blk hb1);have hs5:w4.heap.size < w5.heap.size:=q10 hb5;have hx5:=(hx3.trans e4).trans e5;have p04:=own3 ((eb.trans e4).blk hb1);obtain⟨r0,r1,r2,-⟩:=p04;have lz1:=q10 ((eb.trans e4).blk hb1);clear q0 q1 q2 hM3;go_wp2_with fail;rw[<-hw5];clear hw5 r0 r1 r2;refine(HNB.out _ hx5).mono ?_;rintro e w6 ⟨r,rfl,hM4,e6⟩;have hL4:=hM4.lies;obtain⟨A4,c4,rfl,hl4,hc4,hK4⟩:=Lies.mk_iff.1 hL4;obtain⟨w7,hw7⟩: ∃x,x=w6.alloc (.cells #[.int .i64 k4, .int .i64 n4, .slice A4 ks4.length c4] 25):=⟨_,rfl⟩;have e7:Ext w6 w7:=hw7▸(xr w6).alloc _;have hb7:w7.heap[w6.heap.size]? =some (.cells #[.int .i64 k4, .int .i64 n4, .slice A4 ks4.length c4] 25 (0,0)):=hw7▸heap_alloc_new w6 _;have hx7:=(hx5.trans e6).trans e7;clear p0 p1 p2 hM4;by_cases h1:s1=0
     · subst h1
       by_cases h2:s2=0
       · subst h2
         obtain⟨d0,d1,d2,-⟩:=own3 (e6.blk hb5);have lz2:=q10 (e6.blk hb5);have HS2:=hdq (j59 (.mk k3 n3 ks3) w7 (.mk k4 n4 ks4) _ _ (((hL3.ext e5).ext e6).ext e7) (hL4.ext e7));obtain⟨q2,hq2⟩: ∃q,eqTr (.mk k3 n3 ks3) (.mk k4 n4 ks4)=q:=⟨_,rfl⟩;have hr:C=if q2=true then 1 else 2:=by
          rw[HE2.out,if_pos ⟨rfl,rfl⟩,<-hq2];by_cases he:Tr.mk k3 n3 ks3=Tr.mk k4 n4 ks4
          · rw[if_pos he,if_pos (j92.2 he)]
          · rw[if_neg he,if_neg (fun h=> he (j92.1 h))]
         rw[hq2] at HS2;have HR:=hdq hr;clear hr hq2;go_wp2_with fail;rw[<-hw7];clear hw7;refine HS2.out.mono ?_;rintro e w8 ⟨rfl,e8⟩;cases q2
         all_goals(
          go_wp2_with fail;go_ret;exact⟨by rw[HR.out];rfl,hx7.trans e8⟩)
       · have hr:C=3:=by rw[HE2.out,if_neg (fun h=> h2 h.2)]
         have hb:(s2 !=0)=true:=by simpa using h2
         have HR:=hdq hr;clear hr;go_wp2_with fail;rw[<-hw7];go_ret;exact⟨by rw[HR.out];rfl,hx7⟩
     · have hr:C=3:=by rw[HE2.out,if_neg (fun h=> h1 h.1)]
       have hb:(s1 !=0)=true:=by simpa using h1
       have HR:=hdq hr;clear hr;go_wp2_with fail;rw[<-hw7];go_ret;exact⟨by rw[HR.out];rfl,hx7⟩
end Go.Proofs.YtdkamgafpphdjaaGreat
