/-
  Lemmas towards the law, 30: Read, Path, CtxA.
-/
import Derived.Test.YtdkamgafpphdjaaGreatTAZ
import Derived.Test.YtdkamgafpphdjaaGreatTBA
namespace Go.Proofs.YtdkamgafpphdjaaGreat
open Go.RowKit
set_option linter.unusedVariables false
def y33(xs:List (List UInt8)):List Tr:=xs.filterMap prsV
theorem q162{xs:List (List UInt8)}{j:Nat}(h:j < xs.length):y33 (xs.drop j)=(match prsV xs[j] with|none=> [] |some t=> [t])++y33 (xs.drop (j+1)):=by
 unfold y33;rw[List.drop_eq_getElem_cons h,List.filterMap_cons];cases prsV xs[j] <;> rfl
theorem j51{xs:List (List UInt8)}{t:Tr}(h:t∈y33 xs):valid sigT t=true:=by
 unfold y33 at h;obtain⟨l,-,h2⟩:=List.mem_filterMap.1 h;exact(j166 h2).1
theorem q171:(Tryz.prog.info? 25).map (fun i=>(i.zero,i.size,i.bytes))=some (some (.agg #[.int .i64 0, .int .i64 0, .slice none 0 0]),3,40):=by kernel_rfl
set_option maxRecDepth 100000 in
set_option maxHeartbeats 1000000 in
theorem q66(xs:List (List UInt8))(b o cap:Nat)(w:World)(hb:b < w.heap.size)(hl:xs.length<=cap)(hc:cap<=maxLen)(hn:xs.length<=1000)(hsz: ∀x∈xs,x.length<=1000)
 (hN: ∀j (hj:j < xs.length),w.cell? ⟨b,o+j,none⟩=some (.string (ofL xs[j]))):
 Calls Tryz.prog 113 #[.slice (some ⟨b,o,none⟩) xs.length cap] w fun e w'=> ∃A c,e= .returned (.slice A (y33 xs).length c)/\(y33 xs).length<=c/\c<=maxLen/\y13 w.heap.size w' A (y33 xs)/\Ext w w':=by
 obtain⟨i0,hi,hz0,hz1,hz2⟩:=info_parts q171;have hcc:=hc;unfold maxLen at hcc;have HN:=hdq hN;have HSZ:=hdq hsz;obtain⟨N,hNx⟩: ∃N,xs.length=N:=⟨_,rfl⟩;rw[hNx] at hl hn⊢;have HNX:=hdq hNx;obtain⟨R,hR⟩: ∃R,y33 xs=R:=⟨_,rfl⟩;rw[hR];have HR:=hdq hR;have hx0:=(xr w).alloc (.cells #[] 25);have hb0:=heap_alloc_new w (.cells #[] 25);clear hN hsz hNx hR;go_enter Tryz.func113,Tryz.ntmps113;go_wp2_with fail;generalize hw0:w.alloc _=w0 at hx0 hb0⊢;clear hw0
 go_loopw [3,4] (fun vo i wr=> ∃(v:Value) (j:Nat) (ks:List Tr),v=vo/\j<=N/\i= .int .i64 j/\j16 (fun b=> b < w.heap.size) w wr 25 v ks/\ks.length<=j/\ks++y33 (xs.drop j)=R/\Ext w wr) (fun _ i _=> N -(intOf i).toNat)
 case atStart=> exact⟨_,0, [],rfl,Nat.zero_le _,rfl,j16.lit hb0 (Nat.le_refl _),Nat.le_refl _,by simpa using HR.out,hx0⟩
 case round=>
  obtain⟨v,j,ks,rfl,hj,rfl,hG,hkj,hjl,hx⟩:=hrel;have HJ:=hdq hjl;have hsw:=hx.size;clear hjl;by_cases hlt:j < N
  · have hjz:(j:Int) <(N:Int):=by omega
    have hjx:j < xs.length:=by rw[HNX.out];exact hlt
    have hst:=q162 hjx;have hcx:=hx.cell (HN.out j hjx);obtain⟨x,hxj⟩: ∃x,x=xs[j]:=⟨_,rfl⟩;have hxl:(ofL x).size<=1000000000:=by have:=HSZ.out _ (List.getElem_mem hjx);rw[j121,hxj];omega
    rw[<-hxj] at hst hcx;have HP:=hdq (fun W=> y116 (ofL x) W hxl);rw[q148] at HP;obtain⟨L,hL⟩: ∃L,prsV x=L:=⟨_,rfl⟩;rw[hL] at HP hst;have HST:=hdq hst;clear hst hL hxj hjx;go_wp2_with fail;refine(HP.out _).mono ?_;rintro e w3 ⟨u,rfl,hF,e3⟩;obtain⟨k1,n1,A1,l1,c1,rfl⟩:=hF.three;have e34:=(xr w3).alloc (.cells #[.int .i64 k1, .int .i64 n1, .slice A1 l1 c1] 25);have hb4:=heap_alloc_new w3 (.cells #[.int .i64 k1, .int .i64 n1, .slice A1 l1 c1] 25);have hx4:=(hx.trans e3).trans e34;have hs3:=e3.size;obtain⟨s0,s1,s2,-⟩:=own3 hb4;cases L with
    |none=>
     have hjl2:ks++y33 (xs.drop (j+1))=R:=by
      rw[<-HJ.out,HST.out];simp
     have HJ2:=hdq hjl2;have hG4:=(hG.ext e3).ext e34;clear hjl2 s0 s1 s2;go_wp2_with fail
     go_roundw
     case rel=> exact⟨_,j+1,ks,rfl,by omega,by go_num,hG4,by omega,HJ2.out,hx4⟩
     case measure=> simp[intOf];omega
    |some t=>
     have hjl2:(ks++ [t])++y33 (xs.drop (j+1))=R:=by
      rw[<-HJ.out,HST.out];simp
     have HJ2:=hdq hjl2;have hlt2: ∀r,v.ownBlock=some r->r < wr.heap.size:=by
      obtain⟨ys,q1,-⟩:=hG;exact fun r hr=>(q1.lt r hr).2
     have hT:InT ((w3.alloc (.cells #[.int .i64 k1, .int .i64 n1, .slice A1 l1 c1] 25)).alloc (.cells #[.int .i64 k1, .int .i64 n1, .slice A1 l1 c1] 25)) (fun b=> b <((w3.alloc (.cells #[.int .i64 k1, .int .i64 n1, .slice A1 l1 c1] 25)).alloc (.cells #[.int .i64 k1, .int .i64 n1, .slice A1 l1 c1] 25)).heap.size/\v.ownBlock≠some b/\ ¬b < w.heap.size) t (.agg #[.int .i64 k1, .int .i64 n1, .slice A1 l1 c1]):=
      InT.mono (fun b hb=>⟨by have:=hb.2;simp;omega,fun he=> by have:=hlt2 b he;have:=hb.1;omega,by have:=hb.1;omega⟩) (fun b hb=>(e34.alloc (.cells #[.int .i64 k1, .int .i64 n1, .slice A1 l1 c1] 25)).heap b hb.2) hF
     have hG5:=(hG.ext e3).ext (e34.alloc (.cells #[.int .i64 k1, .int .i64 n1, .slice A1 l1 c1] 25));have hb5:((w3.alloc (.cells #[.int .i64 k1, .int .i64 n1, .slice A1 l1 c1] 25)).alloc (.cells #[.int .i64 k1, .int .i64 n1, .slice A1 l1 c1] 25)).heap[w3.heap.size+1]? =some (.cells #[.int .i64 k1, .int .i64 n1, .slice A1 l1 c1] 25 (0,0)):=by simpa using heap_alloc_new (w3.alloc (.cells #[.int .i64 k1, .int .i64 n1, .slice A1 l1 c1] 25)) (.cells #[.int .i64 k1, .int .i64 n1, .slice A1 l1 c1] 25)
     have hx5:=hx4.alloc (.cells #[.int .i64 k1, .int .i64 n1, .slice A1 l1 c1] 25);have HLT:=hdq hlt2;clear hjl2 hlt2 hF hb4;go_wp2_with (at_builtin;refine y18 _ rfl (.tmp 23) (.tmp 25) 23 rfl 25 i0 _ Tryz.underlying23 hi hz0 hz1 hz2 rfl rfl hG5 (by simp;omega) hT rfl hb5 (by omega) ?_ (fun b hb=> hb))
     intro v' w6 hG6 hB6;have hx6:Ext w w6:=Below.trans hx5 hB6;go_wp2_with fail
     go_roundw
     case rel=> exact⟨_,j+1,ks++ [t],rfl,by omega,by go_num,hG6,by simp;omega,HJ2.out,hx6⟩
     case measure=> simp[intOf];omega
  · have hjl2:ks=R:=by
     rw[<-HJ.out,List.drop_of_length_le (by rw[HNX.out];omega)];simp[y33]
    obtain⟨A,c,rfl,q1,q2,hK,-⟩:=hG.lies (fun b hb=> hb);have hK2:y13 w.heap.size wr A ks:=InK.mono (fun b hb=>⟨by have:=hb.2;omega,hb.1⟩) (fun _ _=> rfl) hK;have HKR:=hdq hjl2;clear hjl2;go_wp2_with fail;go_ret;exact⟨A,c,by rw[<-HKR.out];rfl,by rw[<-HKR.out];exact q1,q2,by rw[<-HKR.out];exact hK2,hx⟩
end Go.Proofs.YtdkamgafpphdjaaGreat
namespace Go.Proofs.YtdkamgafpphdjaaGreat
open Go.RowKit
set_option linter.unusedVariables false
attribute [local go_sem ↓] Go.wp_at_zero Go.wp_at_succ
theorem j103{rd:Bool}{t:Tr}{p:List Int}(h:p∈plV rd t):p.length<=29:=by
 unfold plV at h
 split at h
 · rename_i hv
   obtain⟨r,u,h1,h2,-⟩:=plc_at _ _ _ _ h;rw[List.nil_append] at h1;subst h1;have h3:=j39 (j101 p t u 30 (q14 hv).2 h2);omega
 · cases h
theorem q25.only{W w w':World}{e:TypeId}{v:Value}{ps:List (List Int)}{L:List Nat}(h:q25 W w e v ps)(ho:Only L w w')(hL: ∀b,b∈L->b < W.heap.size):q25 W w' e v ps:=
 h.same ho.size (fun b h1 h2=> ho.block b h2 (fun hm=> by have:=hL b hm;omega))
set_option maxRecDepth 100000 in
set_option maxHeartbeats 4000000 in
theorem j157(t:Tr)(w:World)(g m:Nat)(v:Value)(hin:Lies w t v)(hR:Rd w g m)(hm:m < 900000):Calls Tryz.prog 54 #[.pointer (some ⟨g,0,none⟩),v] w fun e w'=> ∃u p,e= .returned u/\p.length<=29/\q19 w' (fun b=> w.heap.size<=b/\b < w'.heap.size) u p/\Rd w' g (m+4)/\Only [g] w w':=by
 have hgl:=hR.lt;obtain⟨k,n,ks⟩:=t;have hml1:=fun p h=> j103 (rd:=false) (t:= .mk k n ks) (p:=p) h
 have hml2:=fun p h=> j103 (rd:=true) (t:= .mk k n ks) (p:=p) h
 have hll1:=q175 false (.mk k n ks);have hll2:=q175 true (.mk k n ks);have H1:=hdq (fun W (hW:Ext w W)=> y92 (.mk k n ks) W v (hin.ext hW));have H2:=hdq (fun W (hW:Ext w W)=> j72 (.mk k n ks) W v (hin.ext hW));generalize plV false (.mk k n ks)=ps at H1 hml1 hll1;generalize plV true (.mk k n ks)=qs at H2 hml2 hll2;obtain⟨A,cap,rfl,-,-,-⟩:=Lies.mk_iff.1 hin;have hx0:=(xr w).alloc (.cells #[.int .i64 k, .int .i64 n, .slice A ks.length cap] 25);have hbB:=heap_alloc_new w (.cells #[.int .i64 k, .int .i64 n, .slice A ks.length cap] 25);clear hin;go_enter Tryz.func54,Tryz.ntmps54;go_wp2_with fail;refine(H1.out _ hx0).mono ?_;rintro e w1 ⟨x1,rfl,hG1,h1⟩;have hG1:=hG1.since hx0.size;obtain⟨B1,c1,rfl⟩:=hG1.form;have hx1:=hx0.trans h1;obtain⟨z0,z1,z2,-,-,-⟩:=own3 (h1.blk hbB);clear hbB H1;go_wp2_with fail;refine(H2.out _ hx1).mono ?_;rintro e w2 ⟨x2,rfl,hG2,h2⟩;have hG1:=hG1.ext h2;have hG2:=hG2.since hx1.size;obtain⟨B2,c2,rfl⟩:=hG2.form;have hx2:=hx1.trans h2;have hR2:=hR.ext hx2;have hO2:Only [g] w w2:=oE hx2;obtain⟨L1,hL1⟩: ∃L,ps.length=L:=⟨_,rfl⟩;obtain⟨L2,hL2⟩: ∃L,qs.length=L:=⟨_,rfl⟩;rw[hL1] at hG1 hll1⊢;rw[hL2] at hG2 hll2⊢;have HL1:=hdq hL1;have HL2:=hdq hL2;clear hL1 hL2 z0 z1 z2 hx0 h1 hx1 h2 H2 hR;by_cases h2:L2=0
 · subst h2
   by_cases h1:L1=0
   · subst h1
     go_wp2_with fail;refine(j27 _ _ _ (hR2.ext ((xr w2).alloc _)) (by omega) _ 4 [0,1,4,-1] (by simp) (by decide) (by simp) (j22 (heap_alloc_new w2 _) rfl) (by intro b o hb;have:=hR2.lt;simp at hb;omega)).mono ?_;rintro e wn ⟨y1,rfl,-,hRn,hon⟩;go_wp2_with fail;refine(j27 _ _ _ (hRn.ext ((xr wn).alloc _)) (by omega) _ 3 [0,1,9223372036854775807] (by simp) (by decide) (by simp) (j22 (heap_alloc_new wn _) rfl) (by intro b o hb;have:=hRn.lt;simp at hb;omega)).mono ?_;rintro e wk ⟨y2,rfl,-,hRk,hok⟩;have hOk:=(((hO2).trans (oE (L:= [g]) ((xr w2).alloc (.cells #[.int .i64 0, .int .i64 1, .int .i64 4, .int .i64 (-1)] 3)))).trans hon).trans ((oE (L:= [g]) ((xr wn).alloc (.cells #[.int .i64 0, .int .i64 1, .int .i64 9223372036854775807] 3))).trans hok);have hxk:=(xr wk).alloc (.cells #[.int .i64 y1, .int .i64 y2] 3);have hbk:=heap_alloc_new wk (.cells #[.int .i64 y1, .int .i64 y2] 3);have hOf:=hOk.trans (oE (L:= [g]) hxk);have hRf:=(hRk.ext hxk).mono (m':=m+4) (by omega);have hPf:q19 (wk.alloc (.cells #[.int .i64 y1, .int .i64 y2] 3)) (fun b=> w.heap.size<=b/\b <(wk.alloc (.cells #[.int .i64 y1, .int .i64 y2] 3)).heap.size) (.slice (some ⟨wk.heap.size,0,none⟩) 2 2) [y1,y2]:=by
      refine .inr ⟨wk.heap.size,0,2,rfl,by simp,by decide,⟨hOk.size,by simp⟩,fun j hj=> ?_⟩;rw[y10 hbk]
      match j,hj with
      |0,_=> rfl
      |1,_=> rfl
     have HPF:=hdq hPf;clear hbk hPf hxk;go_wp2_with fail;go_ret;exact⟨_,_,rfl,by simp,HPF.out,hRf,hOf⟩
   · have h1p:(0:Int) <(L1:Int):=by omega
     have h1d:decide ((0:Int) <(L1:Int))=true:=decide_eq_true h1p;have h1e:decide (0 < L1)=true:=decide_eq_true (by omega);have h1q:0 < L1:=by omega
     go_wp2_with fail;refine(q23 _ _ _ 10 hR2 (by omega)).mono ?_;rintro e wp ⟨p,rfl,hp0,hp1,hRp,hop⟩;have hOp:=(hO2).trans hop;have hGp:=(hG1).only hop (by intro b hb;rw[List.mem_singleton.1 hb];exact hgl);by_cases hp:0 < p
     · have hpd:decide (0 < p)=true:=decide_eq_true hp
       go_wp2_with fail;refine(q23 _ _ _ (L1:Int) hRp (by omega)).mono ?_;rintro e wz ⟨z,rfl,hz0,hz1,hRz,hoz⟩;obtain⟨zi,rfl⟩:=Int.eq_ofNat_of_zero_le hz0;have hzl:zi < L1:=by omega
       have hzz:(zi:Int) <(L1:Int):=by omega
       have hGz:=(hGp).only hoz (by intro b hb;rw[List.mem_singleton.1 hb];exact hgl);obtain⟨Az,cz,hez,-,-,-,hcz⟩:=hGz.slice;rw[HL1.out] at hez;simp only[Value.slice.injEq,true_and] at hez;obtain⟨rfl,rfl⟩:=hez;have hzL:zi < ps.length:=by rw[HL1.out];exact hzl
       obtain⟨bz,uz,rfl,cellz,hPz⟩:=hcz zi hzL;have hmz:=hml1 _ (List.getElem_mem hzL);have hPz2:q19 wz (fun b=> w.heap.size<=b/\b < wz.heap.size) uz ps[zi]:=hPz.mono (fun b hb=>⟨hb.1,hb.2.1⟩) (fun _ _=> rfl);have HPZ:=hdq hPz2;have hOz:=(hOp).trans hoz;have hRz4:=hRz.mono (m':=m+4) (by omega);clear hGz hcz hPz hPz2 hz1;go_wp2_with fail;go_ret;exact⟨_,_,rfl,hmz,HPZ.out,hRz4,hOz⟩
     · have hpd:decide (0 < p)=false:=decide_eq_false hp
       go_wp2_with fail;refine(j27 _ _ _ (hRp.ext ((xr wp).alloc _)) (by omega) _ 4 [0,1,4,-1] (by simp) (by decide) (by simp) (j22 (heap_alloc_new wp _) rfl) (by intro b o hb;have:=hRp.lt;simp at hb;omega)).mono ?_;rintro e wn ⟨y1,rfl,-,hRn,hon⟩;go_wp2_with fail;refine(j27 _ _ _ (hRn.ext ((xr wn).alloc _)) (by omega) _ 3 [0,1,9223372036854775807] (by simp) (by decide) (by simp) (j22 (heap_alloc_new wn _) rfl) (by intro b o hb;have:=hRn.lt;simp at hb;omega)).mono ?_;rintro e wk ⟨y2,rfl,-,hRk,hok⟩;have hOk:=(((hOp).trans (oE (L:= [g]) ((xr wp).alloc (.cells #[.int .i64 0, .int .i64 1, .int .i64 4, .int .i64 (-1)] 3)))).trans hon).trans ((oE (L:= [g]) ((xr wn).alloc (.cells #[.int .i64 0, .int .i64 1, .int .i64 9223372036854775807] 3))).trans hok);have hxk:=(xr wk).alloc (.cells #[.int .i64 y1, .int .i64 y2] 3);have hbk:=heap_alloc_new wk (.cells #[.int .i64 y1, .int .i64 y2] 3);have hOf:=hOk.trans (oE (L:= [g]) hxk);have hRf:=(hRk.ext hxk).mono (m':=m+4) (by omega);have hPf:q19 (wk.alloc (.cells #[.int .i64 y1, .int .i64 y2] 3)) (fun b=> w.heap.size<=b/\b <(wk.alloc (.cells #[.int .i64 y1, .int .i64 y2] 3)).heap.size) (.slice (some ⟨wk.heap.size,0,none⟩) 2 2) [y1,y2]:=by
        refine .inr ⟨wk.heap.size,0,2,rfl,by simp,by decide,⟨hOk.size,by simp⟩,fun j hj=> ?_⟩;rw[y10 hbk]
        match j,hj with
        |0,_=> rfl
        |1,_=> rfl
       have HPF:=hdq hPf;clear hbk hPf hxk;go_wp2_with fail;go_ret;exact⟨_,_,rfl,by simp,HPF.out,hRf,hOf⟩
 · have h2p:(0:Int) <(L2:Int):=by omega
   have h2d:decide ((0:Int) <(L2:Int))=true:=decide_eq_true h2p;have h2e:decide (0 < L2)=true:=decide_eq_true (by omega);have h2q:0 < L2:=by omega
   go_wp2_with fail;refine(q23 _ _ _ 2 hR2 (by omega)).mono ?_;rintro e w3 ⟨y,rfl,hy0,hy1,hR3,ho3⟩;have hO3:=hO2.trans ho3;have hG13:=hG1.only ho3 (by intro b hb;rw[List.mem_singleton.1 hb];exact hgl);have hG23:=hG2.only ho3 (by intro b hb;rw[List.mem_singleton.1 hb];exact hgl);by_cases hy:y=0
   · subst hy
     go_wp2_with fail;refine(q23 _ _ _ (L2:Int) hR3 (by omega)).mono ?_;rintro e wz ⟨z,rfl,hz0,hz1,hRz,hoz⟩;obtain⟨zi,rfl⟩:=Int.eq_ofNat_of_zero_le hz0;have hzl:zi < L2:=by omega
     have hzz:(zi:Int) <(L2:Int):=by omega
     have hGz:=(hG23).only hoz (by intro b hb;rw[List.mem_singleton.1 hb];exact hgl);obtain⟨Az,cz,hez,-,-,-,hcz⟩:=hGz.slice;rw[HL2.out] at hez;simp only[Value.slice.injEq,true_and] at hez;obtain⟨rfl,rfl⟩:=hez;have hzL:zi < qs.length:=by rw[HL2.out];exact hzl
     obtain⟨bz,uz,rfl,cellz,hPz⟩:=hcz zi hzL;have hmz:=hml2 _ (List.getElem_mem hzL);have hPz2:q19 wz (fun b=> w.heap.size<=b/\b < wz.heap.size) uz qs[zi]:=hPz.mono (fun b hb=>⟨hb.1,hb.2.1⟩) (fun _ _=> rfl);have HPZ:=hdq hPz2;have hOz:=(hO3).trans hoz;have hRz4:=hRz.mono (m':=m+4) (by omega);clear hGz hcz hPz hPz2 hz1;go_wp2_with fail;go_ret;exact⟨_,_,rfl,hmz,HPZ.out,hRz4,hOz⟩
   · have hyd:(y==0)=false:=beq_eq_false_iff_ne.2 hy
     by_cases h1:L1=0
     · subst h1
       go_wp2_with fail;refine(j27 _ _ _ (hR3.ext ((xr w3).alloc _)) (by omega) _ 4 [0,1,4,-1] (by simp) (by decide) (by simp) (j22 (heap_alloc_new w3 _) rfl) (by intro b o hb;have:=hR3.lt;simp at hb;omega)).mono ?_;rintro e wn ⟨y1,rfl,-,hRn,hon⟩;go_wp2_with fail;refine(j27 _ _ _ (hRn.ext ((xr wn).alloc _)) (by omega) _ 3 [0,1,9223372036854775807] (by simp) (by decide) (by simp) (j22 (heap_alloc_new wn _) rfl) (by intro b o hb;have:=hRn.lt;simp at hb;omega)).mono ?_;rintro e wk ⟨y2,rfl,-,hRk,hok⟩;have hOk:=(((hO3).trans (oE (L:= [g]) ((xr w3).alloc (.cells #[.int .i64 0, .int .i64 1, .int .i64 4, .int .i64 (-1)] 3)))).trans hon).trans ((oE (L:= [g]) ((xr wn).alloc (.cells #[.int .i64 0, .int .i64 1, .int .i64 9223372036854775807] 3))).trans hok);have hxk:=(xr wk).alloc (.cells #[.int .i64 y1, .int .i64 y2] 3);have hbk:=heap_alloc_new wk (.cells #[.int .i64 y1, .int .i64 y2] 3);have hOf:=hOk.trans (oE (L:= [g]) hxk);have hRf:=(hRk.ext hxk).mono (m':=m+4) (by omega);have hPf:q19 (wk.alloc (.cells #[.int .i64 y1, .int .i64 y2] 3)) (fun b=> w.heap.size<=b/\b <(wk.alloc (.cells #[.int .i64 y1, .int .i64 y2] 3)).heap.size) (.slice (some ⟨wk.heap.size,0,none⟩) 2 2) [y1,y2]:=by
        refine .inr ⟨wk.heap.size,0,2,rfl,by simp,by decide,⟨hOk.size,by simp⟩,fun j hj=> ?_⟩;rw[y10 hbk]
        match j,hj with
        |0,_=> rfl
        |1,_=> rfl
       have HPF:=hdq hPf;clear hbk hPf hxk;go_wp2_with fail;go_ret;exact⟨_,_,rfl,by simp,HPF.out,hRf,hOf⟩
     · have h1p:(0:Int) <(L1:Int):=by omega
       have h1d:decide ((0:Int) <(L1:Int))=true:=decide_eq_true h1p;have h1e:decide (0 < L1)=true:=decide_eq_true (by omega);have h1q:0 < L1:=by omega
       go_wp2_with fail;refine(q23 _ _ _ 10 hR3 (by omega)).mono ?_;rintro e wp ⟨p,rfl,hp0,hp1,hRp,hop⟩;have hOp:=(hO3).trans hop;have hGp:=(hG13).only hop (by intro b hb;rw[List.mem_singleton.1 hb];exact hgl);by_cases hp:0 < p
       · have hpd:decide (0 < p)=true:=decide_eq_true hp
         go_wp2_with fail;refine(q23 _ _ _ (L1:Int) hRp (by omega)).mono ?_;rintro e wz ⟨z,rfl,hz0,hz1,hRz,hoz⟩;obtain⟨zi,rfl⟩:=Int.eq_ofNat_of_zero_le hz0;have hzl:zi < L1:=by omega
         have hzz:(zi:Int) <(L1:Int):=by omega
         have hGz:=(hGp).only hoz (by intro b hb;rw[List.mem_singleton.1 hb];exact hgl);obtain⟨Az,cz,hez,-,-,-,hcz⟩:=hGz.slice;rw[HL1.out] at hez;simp only[Value.slice.injEq,true_and] at hez;obtain⟨rfl,rfl⟩:=hez;have hzL:zi < ps.length:=by rw[HL1.out];exact hzl
         obtain⟨bz,uz,rfl,cellz,hPz⟩:=hcz zi hzL;have hmz:=hml1 _ (List.getElem_mem hzL);have hPz2:q19 wz (fun b=> w.heap.size<=b/\b < wz.heap.size) uz ps[zi]:=hPz.mono (fun b hb=>⟨hb.1,hb.2.1⟩) (fun _ _=> rfl);have HPZ:=hdq hPz2;have hOz:=(hOp).trans hoz;have hRz4:=hRz.mono (m':=m+4) (by omega);clear hGz hcz hPz hPz2 hz1;go_wp2_with fail;go_ret;exact⟨_,_,rfl,hmz,HPZ.out,hRz4,hOz⟩
       · have hpd:decide (0 < p)=false:=decide_eq_false hp
         go_wp2_with fail;refine(j27 _ _ _ (hRp.ext ((xr wp).alloc _)) (by omega) _ 4 [0,1,4,-1] (by simp) (by decide) (by simp) (j22 (heap_alloc_new wp _) rfl) (by intro b o hb;have:=hRp.lt;simp at hb;omega)).mono ?_;rintro e wn ⟨y1,rfl,-,hRn,hon⟩;go_wp2_with fail;refine(j27 _ _ _ (hRn.ext ((xr wn).alloc _)) (by omega) _ 3 [0,1,9223372036854775807] (by simp) (by decide) (by simp) (j22 (heap_alloc_new wn _) rfl) (by intro b o hb;have:=hRn.lt;simp at hb;omega)).mono ?_;rintro e wk ⟨y2,rfl,-,hRk,hok⟩;have hOk:=(((hOp).trans (oE (L:= [g]) ((xr wp).alloc (.cells #[.int .i64 0, .int .i64 1, .int .i64 4, .int .i64 (-1)] 3)))).trans hon).trans ((oE (L:= [g]) ((xr wn).alloc (.cells #[.int .i64 0, .int .i64 1, .int .i64 9223372036854775807] 3))).trans hok);have hxk:=(xr wk).alloc (.cells #[.int .i64 y1, .int .i64 y2] 3);have hbk:=heap_alloc_new wk (.cells #[.int .i64 y1, .int .i64 y2] 3);have hOf:=hOk.trans (oE (L:= [g]) hxk);have hRf:=(hRk.ext hxk).mono (m':=m+4) (by omega);have hPf:q19 (wk.alloc (.cells #[.int .i64 y1, .int .i64 y2] 3)) (fun b=> w.heap.size<=b/\b <(wk.alloc (.cells #[.int .i64 y1, .int .i64 y2] 3)).heap.size) (.slice (some ⟨wk.heap.size,0,none⟩) 2 2) [y1,y2]:=by
          refine .inr ⟨wk.heap.size,0,2,rfl,by simp,by decide,⟨hOk.size,by simp⟩,fun j hj=> ?_⟩;rw[y10 hbk]
          match j,hj with
          |0,_=> rfl
          |1,_=> rfl
         have HPF:=hdq hPf;clear hbk hPf hxk;go_wp2_with fail;go_ret;exact⟨_,_,rfl,by simp,HPF.out,hRf,hOf⟩
end Go.Proofs.YtdkamgafpphdjaaGreat
namespace Go.Proofs.YtdkamgafpphdjaaGreat
open Go.RowKit
set_option linter.unusedVariables false
attribute [local go_sem ↓] Go.wp_at_zero Go.wp_at_succ
theorem atV_snd(t:Tr)(p:List Int):(atV t p).2=(valid sigT t &&(atT t p).isSome):=by
 unfold atV
 split <;> rename_i h <;> simp[h]
set_option maxRecDepth 100000 in
set_option maxHeartbeats 2000000 in
theorem j116(ctx:List Tr)(t:Tr)(path:List Int)(w:World)(v:Value)(A Ap:Option Addr)(cap pc:Nat)(hin:Lies w t v)(hK:j21 w A ctx)(hl:ctx.length<=cap)(hc:cap<=maxLen)(hP:Nums w Ap path)(hpl:path.length<=pc)(hpc:pc<=maxLen)(hp9:path.length < 1000):
 Calls Tryz.prog 19 #[.slice A ctx.length cap,v, .slice Ap path.length pc] w fun e w'=> ∃B c,e= .returned (.tuple #[.slice B (ctxV ctx t path).1.length c, .bool (ctxV ctx t path).2])/\(ctxV ctx t path).1.length<=c/\c<=maxLen/\j21 w' B (ctxV ctx t path).1/\Ext w w':=by
 obtain⟨i0,hi,hz0,hz1,hz2⟩:=info_parts q134;have HV:=hdq (fun W (hW:Ext w W)=> q18 t W v (hin.ext hW));have HX:=hdq (fun(h:valid sigT t=true) W (hW:Ext w W)=> q86 t 30 (q14 h).2 (by decide) path W v (hin.ext hW) Ap pc hpl hpc (hP.ext hW));have HA:=hdq (fun W (hW:Ext w W)=> q133 ctx W A cap hl hc (hK.ext hW));have hV:ctxV ctx t path=if(y36 ctx &&(valid sigT t &&(atT t path).isSome)&& decide (ctx.length+(bndT t path).length<=8))=true then(ctx++bndT t path,true) else([],false):=by
  rw[<-atV_snd]
  rfl
 have HF:=hdq (fun(h:y36 ctx=true)=> q42 h);have HBL:=hdq (Nat.lt_of_le_of_lt (y125 path t) hp9);have HBC:=hdq (fun(h:valid sigT t=true) x hx=> Nat.le_trans (j118 path t x hx) (q12 h).2);have HO:=hdq (fun W (hW:Ext w W) (h:y36 ctx=true)=> q111 ctx W A cap (hK.ext hW) hl hc (by have:=(q42 h).1;omega) (fun x hx=> by have:=(q12 ((q42 h).2 x hx)).2;omega));obtain⟨bn,hbn⟩: ∃bn,bndT t path=bn:=⟨_,rfl⟩;rw[hbn] at HX HBL HBC hV;obtain⟨q,hq⟩: ∃q,atT t path=q:=⟨_,rfl⟩;rw[hq] at HX hV;obtain⟨z,hz⟩: ∃z,valid sigT t=z:=⟨_,rfl⟩;rw[hz] at HV HX HBC hV;obtain⟨f,hf⟩: ∃f,y36 ctx=f:=⟨_,rfl⟩;rw[hf] at HA HF HO hV;clear hbn hq hz hf hP hp9;obtain⟨k,n,ks⟩:=t;obtain⟨At,ct,rfl,-,-,-⟩:=Lies.mk_iff.1 hin;have hx0:=(xr w).alloc (.cells #[.int .i64 k, .int .i64 n, .slice At ks.length ct] 25);have hb0:=heap_alloc_new w (.cells #[.int .i64 k, .int .i64 n, .slice At ks.length ct] 25);have hcc:=hc;unfold maxLen at hcc;clear hin hK;cases z with
 |false=>
  rw[if_neg (by simp)] at hV;rw[hV];clear hV HX HBC HO HF HA hb0;go_enter Tryz.func19,Tryz.ntmps19;go_wp2_with fail;refine(HV.out _ hx0).mono ?_;rintro e w1 ⟨rfl,h1⟩;go_wp2_with fail;go_ret2;exact⟨none,0,rfl,Nat.le_refl _,Nat.zero_le _, .inl rfl,hx0.trans h1⟩
 |true=>
  cases f with
  |false=>
   rw[if_neg (by simp)] at hV;rw[hV];clear hV HX HBC HO HF hb0;go_enter Tryz.func19,Tryz.ntmps19;go_wp2_with fail;refine(HV.out _ hx0).mono ?_;rintro e w1 ⟨rfl,h1⟩;have h1':=hx0.trans h1;go_wp2_with fail;refine(HA.out _ h1').mono ?_;rintro e w2 ⟨rfl,h2⟩;go_wp2_with fail;go_ret2;exact⟨none,0,rfl,Nat.le_refl _,Nat.zero_le _, .inl rfl,h1'.trans h2⟩
  |true=>
   obtain⟨hc8,-⟩:=HF.out rfl;rw[Bool.true_and,Bool.true_and] at hV;have HX2:=hdq (HX.out rfl);have HO2:=hdq (fun W hW=> HO.out W hW rfl);have HBC2:=hdq (HBC.out rfl);clear HF HX HO HBC;go_enter Tryz.func19,Tryz.ntmps19;go_wp2_with fail;refine(HV.out _ hx0).mono ?_;rintro e w1 ⟨rfl,h1⟩;have h1':=hx0.trans h1;have hb1:=h1.blk hb0;go_wp2_with fail;refine(HA.out _ h1').mono ?_;rintro e w2 ⟨rfl,h2⟩;have h2':=h1'.trans h2;obtain⟨s0,s1,s2,-,-,-⟩:=own3 (h2.blk hb1);clear hb0 hb1 h1 h2 HA HV;go_wp2_with fail;refine(HX2.out _ h2').mono ?_;rintro e w3 ⟨x,ar,rfl,hLx,hG1,hG2,e3⟩;have h3':=h2'.trans e3;generalize q.getD j14=y at hLx;obtain⟨k9,n9,ks9⟩:=y;obtain⟨A9,c9,rfl,-,-,-⟩:=Lies.mk_iff.1 hLx;generalize q.isSome=sm at hG1 hG2 hV⊢;have h4':=h3'.alloc (.cells #[.int .i64 k9, .int .i64 n9, .slice A9 ks9.length c9] 25);cases sm with
   |false=>
    obtain rfl:=hG2 rfl;rw[if_neg (by simp)] at hV;have HVV:=hdq hV;clear hV HX2 HBC2 HO2 s0 s1 s2 hG1 hG2 hLx;go_wp2_with fail;go_ret2;rw[HVV.out];exact⟨none,0,rfl,Nat.le_refl _,Nat.zero_le _, .inl rfl,h4'⟩
   |true=>
    have hG3:=hG1 rfl;obtain⟨Ba,ca,rfl,la,ma,hKa⟩:=hG3.lies e3.size;have hbl:=HBL.out;have hma:=ma;unfold maxLen at hma;rw[Bool.true_and] at hV;by_cases h8:ctx.length+bn.length<=8
    · have d8:decide ((8:Int) <(ctx.length:Int)+(bn.length:Int))=false:=decide_eq_false (by omega)
      rw[if_pos (by simpa using h8)] at hV;have HVV:=hdq hV;have hKa4:j21 (w3.alloc (.cells #[.int .i64 k9, .int .i64 n9, .slice A9 ks9.length c9] 25)) Ba bn:=hKa.ext ((xr w3).alloc _);clear hV HX2 s0 s1 s2 hG1 hG2 hLx hG3 hKa;go_wp2_with fail;generalize World.alloc w3 _=w4 at h4' hKa4⊢;refine(HO2.out _ h4').mono ?_;rintro e w5 ⟨v5,rfl,hG5,e5⟩;have hbc:=HBC2.out;go_wp2_with fail;refine(q111 bn w5 Ba ca (hKa4.ext e5) la ma (by omega) (fun x hx=> by have:=hbc x hx;omega)).mono ?_;rintro e w6 ⟨v6,rfl,hG6,e6⟩;have hGa:=hG5.toS.ext e6;have hs5:=e5.size;have hs6:=e6.size;obtain⟨A6,c6,he6,l6,m6,hK6,-⟩:=hG6.toS.lies (fun b hb=> hb);have hlt5: ∀b,v5.ownBlock=some b->b < w5.heap.size:=fun b hb=> by
       obtain⟨xs,L,q1,-⟩:=hG5;exact(q1.lt b hb).2
      have hG6s:=hG6.toS;rw[he6] at hG6s;have hnil:A6=none->c6=0:=fun h=> by
       subst h;exact hG6s.capz
      clear hG6s;subst he6;have hK7:InK w6 (fun b=> b < w6.heap.size/\v5.ownBlock≠some b/\ ¬b < w4.heap.size) A6 bn:=InK.mono (fun b hb=>⟨hb.1,fun he=> by have:=hlt5 b he;have:=hb.2;omega,by have:=hb.2;omega⟩) (fun _ _=> rfl) hK6;have hW6:w4.heap.size<=w6.heap.size:=by omega
      obtain⟨B5,c5,rfl,-,-,-⟩:=hG5.made;clear hG5 hG6 hK6 hlt5 HBC2 HO2;go_wp2_with (at_builtin;refine q74 _ (by rfl) (.tmp 37) (.tmp 39) _ (by rfl) 25 i0 _ Tryz.underlying23 hi hz0 hz1 hz2 rfl (by rfl) hGa hW6 hnil hK7 (by rfl) (by omega) (by omega) ?_)
      intro v7 w7 hG7 hB7;obtain⟨A7,c7,rfl,l7,m7,hK8,-⟩:=hG7.lies (fun b hb=> hb);go_wp2_with fail;go_ret2;rw[HVV.out];exact⟨A7,c7,rfl,l7,m7,InK.mono (fun b hb=> hb.1) (fun _ _=> rfl) hK8,((h4'.trans e5).trans e6).trans' hB7 h4'.size⟩
    · have d8:decide ((8:Int) <(ctx.length:Int)+(bn.length:Int))=true:=decide_eq_true (by omega)
      rw[if_neg (by simpa using h8)] at hV;have HVV:=hdq hV;clear hV HX2 HBC2 HO2 s0 s1 s2 hG1 hG2 hLx;go_wp2_with fail;go_ret2;rw[HVV.out];exact⟨none,0,rfl,Nat.le_refl _,Nat.zero_le _, .inl rfl,h4'⟩
end Go.Proofs.YtdkamgafpphdjaaGreat
