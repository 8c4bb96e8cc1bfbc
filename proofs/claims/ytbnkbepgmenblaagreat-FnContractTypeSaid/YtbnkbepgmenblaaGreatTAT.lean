/-
  Lemmas towards the law, 20: Read, Path, Contract, CntS, Extd.
-/
import Derived.Test.YtbnkbepgmenblaaGreatTAR
set_option linter.unusedVariables false
set_option maxHeartbeats 4000000
set_option maxRecDepth 100000
namespace Go.Proofs.YtbnkbepgmenblaaGreat
open Go.RowKit
def q36(xs:List (List UInt8)):List Tr:=xs.filterMap prsV
theorem y161{xs:List (List UInt8)}{j:Nat}(h:j < xs.length):q36 (xs.drop j)=(match prsV xs[j] with|none=> [] |some t=> [t])++q36 (xs.drop (j+1)):=by
 unfold q36;rw[List.drop_eq_getElem_cons h,List.filterMap_cons];cases prsV xs[j] <;> rfl
theorem j57{xs:List (List UInt8)}{t:Tr}(h:t∈q36 xs):valid sigT t=true:=by
 unfold q36 at h;obtain⟨l,-,h2⟩:=List.mem_filterMap.1 h;exact(q168 h2).1
theorem j194:(Tryz.prog.info? 25).map (fun i=>(i.zero,i.size,i.bytes))=some (some (.agg #[.int .i64 0,.int .i64 0,.slice none 0 0]),3,40):=by kernel_rfl
theorem q74(xs:List (List UInt8))(b o cap:Nat)(w:World)(hb:b < w.heap.size)(hl:xs.length<=cap)(hc:cap<=maxLen)(hn:xs.length<=1000)(hsz: ∀x∈xs,x.length<=1000)
 (hN: ∀j (hj:j < xs.length),w.cell? ⟨b,o+j,none⟩=some (.string (ofL xs[j]))):
 Calls Tryz.prog 103 #[.slice (some ⟨b,o,none⟩) xs.length cap] w fun e w'=> ∃A c,e= .returned (.slice A (q36 xs).length c)/\(q36 xs).length<=c/\c<=maxLen/\j14 w.heap.size w' A (q36 xs)/\Ext w w':=by
 obtain⟨i0,hi,hz0,hz1,hz2⟩:=info_parts j194;have hcc:=hc;unfold maxLen at hcc;have HN:=hdq hN;have Gz:=hdq hsz;obtain⟨N,hNx⟩: ∃N,xs.length=N:=⟨_,rfl⟩;rw[hNx] at hl hn⊢;have Bl:=hdq hNx;obtain⟨R,hR⟩: ∃R,q36 xs=R:=⟨_,rfl⟩;rw[hR];have HR:=hdq hR;have hx0:=(xr w).alloc (.cells #[] 25);have hb0:=heap_alloc_new w (.cells #[] 25);clear hN hsz hNx hR;go_enter Tryz.func103,Tryz.ntmps103;go_wp2_with fail;generalize hw0:w.alloc _=w0 at hx0 hb0⊢;clear hw0
 go_loopw [3,4] (fun vo i wr=> ∃(v:Value) (j:Nat) (ks:List Tr),v=vo/\j<=N/\i= .int .i64 j/\q19 (fun b=> b < w.heap.size) w wr 25 v ks/\ks.length<=j/\ks++q36 (xs.drop j)=R/\Ext w wr) (fun _ i _=> N -(intOf i).toNat)
 case atStart=> exact⟨_,0, [],rfl,Nat.zero_le _,rfl,q19.lit hb0 (Nat.le_refl _),Nat.le_refl _,by simpa using HR.out,hx0⟩
 case round=>
  obtain⟨v,j,ks,rfl,hj,rfl,hG,hkj,M0,hx⟩:=hrel;have HJ:=hdq M0;have hsw:=hx.size;clear M0;by_cases hlt:j < N
  · have Mx:(j:Int) <(N:Int):=by omega
    have Bw:j < xs.length:=by rw[Bl.out];exact hlt
    have hst:=y161 Bw;have ik:=hx.cell (HN.out j Bw);obtain⟨x,hxj⟩: ∃x,x=xs[j]:=⟨_,rfl⟩;have J3:(ofL x).size<=1000000000:=by have:=Gz.out _ (List.getElem_mem Bw);rw[q118,hxj];omega
    rw[<-hxj] at hst ik;have HP:=hdq (fun W=> j125 (ofL x) W J3);rw[q154] at HP;obtain⟨L,hL⟩: ∃L,prsV x=L:=⟨_,rfl⟩;rw[hL] at HP hst;have HST:=hdq hst;clear hst hL hxj Bw;go_wp2_with fail;refine(HP.out _).mono ?_;rintro e w3 ⟨u,rfl,hF,e3⟩;obtain⟨k1,n1,A1,l1,c1,rfl⟩:=hF.three;have Wv:=(xr w3).alloc (.cells #[.int .i64 k1,.int .i64 n1,.slice A1 l1 c1] 25);have hb4:=heap_alloc_new w3 (.cells #[.int .i64 k1,.int .i64 n1,.slice A1 l1 c1] 25);have Y7:=(hx.trans e3).trans Wv;have hs3:=e3.size;obtain⟨s0,s1,s2,-⟩:=own3 hb4;cases L with
    |none=>
     have kp:ks++q36 (xs.drop (j+1))=R:=by
      rw[<-HJ.out,HST.out];simp
     have HJ2:=hdq kp;have Qn:=(hG.ext e3).ext Wv;clear kp s0 s1 s2;go_wp2_with fail
     go_roundw
     case rel=> exact⟨_,j+1,ks,rfl,by omega,by go_num,Qn,by omega,HJ2.out,Y7⟩
     case measure=> simp[intOf];omega
    |some t=>
     have kp:(ks++ [t])++q36 (xs.drop (j+1))=R:=by
      rw[<-HJ.out,HST.out];simp
     have HJ2:=hdq kp;have I5: ∀r,v.ownBlock=some r->r < wr.heap.size:=by
      obtain⟨ys,q1,-⟩:=hG;exact fun r hr=>(q1.lt r hr).2
     have hT:InT ((w3.alloc (.cells #[.int .i64 k1,.int .i64 n1,.slice A1 l1 c1] 25)).alloc (.cells #[.int .i64 k1,.int .i64 n1,.slice A1 l1 c1] 25)) (fun b=> b <((w3.alloc (.cells #[.int .i64 k1,.int .i64 n1,.slice A1 l1 c1] 25)).alloc (.cells #[.int .i64 k1,.int .i64 n1,.slice A1 l1 c1] 25)).heap.size/\v.ownBlock≠some b/\ ¬b < w.heap.size) t (.agg #[.int .i64 k1,.int .i64 n1,.slice A1 l1 c1]):=
      InT.mono (fun b hb=>⟨by have:=hb.2;simp;omega,fun he=> by have:=I5 b he;have:=hb.1;omega,by have:=hb.1;omega⟩) (fun b hb=>(Wv.alloc (.cells #[.int .i64 k1,.int .i64 n1,.slice A1 l1 c1] 25)).heap b hb.2) hF
     have G7:=(hG.ext e3).ext (Wv.alloc (.cells #[.int .i64 k1,.int .i64 n1,.slice A1 l1 c1] 25));have R6:((w3.alloc (.cells #[.int .i64 k1,.int .i64 n1,.slice A1 l1 c1] 25)).alloc (.cells #[.int .i64 k1,.int .i64 n1,.slice A1 l1 c1] 25)).heap[w3.heap.size+1]? =some (.cells #[.int .i64 k1,.int .i64 n1,.slice A1 l1 c1] 25 (0,0)):=by simpa using heap_alloc_new (w3.alloc (.cells #[.int .i64 k1,.int .i64 n1,.slice A1 l1 c1] 25)) (.cells #[.int .i64 k1,.int .i64 n1,.slice A1 l1 c1] 25)
     have Z5:=Y7.alloc (.cells #[.int .i64 k1,.int .i64 n1,.slice A1 l1 c1] 25);have HLT:=hdq I5;clear kp I5 hF hb4;go_wp2_with (at_builtin;refine j18 _ rfl (.tmp 23) (.tmp 25) 23 rfl 25 i0 _ Tryz.underlying23 hi hz0 hz1 hz2 rfl rfl G7 (by simp;omega) hT rfl R6 (by omega) ?_ (fun b hb=> hb))
     intro v' w6 K4 Q6;have em:Ext w w6:=Below.trans Z5 Q6;go_wp2_with fail
     go_roundw
     case rel=> exact⟨_,j+1,ks++ [t],rfl,by omega,by go_num,K4,by simp;omega,HJ2.out,em⟩
     case measure=> simp[intOf];omega
  · have kp:ks=R:=by
     rw[<-HJ.out,List.drop_of_length_le (by rw[Bl.out];omega)];simp[q36]
    obtain⟨A,c,rfl,q1,q2,hK,-⟩:=hG.lies (fun b hb=> hb);have hK2:j14 w.heap.size wr A ks:=InK.mono (fun b hb=>⟨by have:=hb.2;omega,hb.1⟩) (fun _ _=> rfl) hK;have HKR:=hdq kp;clear kp;go_wp2_with fail;go_ret;exact⟨A,c,by rw[<-HKR.out];rfl,by rw[<-HKR.out];exact q1,q2,by rw[<-HKR.out];exact hK2,hx⟩
end Go.Proofs.YtbnkbepgmenblaaGreat
namespace Go.Proofs.YtbnkbepgmenblaaGreat
open Go.RowKit
attribute [local go_sem ↓] Go.wp_at_zero Go.wp_at_succ
theorem j102{rd:Bool}{t:Tr}{p:List Int}(h:p∈plV rd t):p.length<=29:=by
 unfold plV at h
 split at h
 · rename_i hv
   obtain⟨r,u,h1,h2,-⟩:=plc_at _ _ _ _ h;rw[List.nil_append] at h1;subst h1;have h3:=j41 (y107 p t u 30 (q14 hv).2 h2);omega
 · cases h
theorem y24.only{W w w':World}{e:TypeId}{v:Value}{ps:List (List Int)}{L:List Nat}(h:y24 W w e v ps)(ho:Only L w w')(hL: ∀b,b∈L->b < W.heap.size):y24 W w' e v ps:=
 h.same ho.size (fun b h1 h2=> ho.block b h2 (fun hm=> by have:=hL b hm;omega))
theorem q160(t:Tr)(w:World)(g m:Nat)(v:Value)(j7:Lies w t v)(hR:Rd w g m)(hm:m < 900000):Calls Tryz.prog 49 #[.pointer (some ⟨g,0,none⟩),v] w fun e w'=> ∃u p,e= .returned u/\p.length<=29/\q20 w' (fun b=> w.heap.size<=b/\b < w'.heap.size) u p/\Rd w' g (m+4)/\Only [g] w w':=by
 have G0:=hR.lt;obtain⟨k,n,ks⟩:=t;have Hc:=fun p h=> j102 (rd:=false) (t:= .mk k n ks) (p:=p) h
 have Oo:=fun p h=> j102 (rd:=true) (t:= .mk k n ks) (p:=p) h
 have Ts:=y182 false (.mk k n ks);have My:=y182 true (.mk k n ks);have H1:=hdq (fun W (hW:Ext w W)=> j95 (.mk k n ks) W v (j7.ext hW));have H2:=hdq (fun W (hW:Ext w W)=> q77 (.mk k n ks) W v (j7.ext hW));generalize plV false (.mk k n ks)=ps at H1 Hc Ts;generalize plV true (.mk k n ks)=qs at H2 Oo My;obtain⟨A,cap,rfl,-,-,-⟩:=Lies.mk_iff.1 j7;have hx0:=(xr w).alloc (.cells #[.int .i64 k,.int .i64 n,.slice A ks.length cap] 25);have L5:=heap_alloc_new w (.cells #[.int .i64 k,.int .i64 n,.slice A ks.length cap] 25);clear j7;go_enter Tryz.func49,Tryz.ntmps49;go_wp2_with fail;refine(H1.out _ hx0).mono ?_;rintro e w1 ⟨x1,rfl,uk,h1⟩;have uk:=uk.since hx0.size;obtain⟨B1,c1,rfl⟩:=uk.form;have hx1:=hx0.trans h1;obtain⟨z0,z1,z2,-,-,-⟩:=own3 (h1.blk L5);clear L5 H1;go_wp2_with fail;refine(H2.out _ hx1).mono ?_;rintro e w2 ⟨x2,rfl,N4,h2⟩;have uk:=uk.ext h2;have N4:=N4.since hx1.size;obtain⟨B2,c2,rfl⟩:=N4.form;have hx2:=hx1.trans h2;have M9:=hR.ext hx2;have M4:Only [g] w w2:=oE hx2;obtain⟨L1,hL1⟩: ∃L,ps.length=L:=⟨_,rfl⟩;obtain⟨L2,hL2⟩: ∃L,qs.length=L:=⟨_,rfl⟩;rw[hL1] at uk Ts⊢;rw[hL2] at N4 My⊢;have Ku:=hdq hL1;have ql:=hdq hL2;clear hL1 hL2 z0 z1 z2 hx0 h1 hx1 h2 H2 hR;by_cases h2:L2=0
 · subst h2
   by_cases h1:L1=0
   · subst h1
     go_wp2_with fail;refine(q30 _ _ _ (M9.ext ((xr w2).alloc _)) (by omega) _ 4 [0,1,4,-1] (by simp) (by decide) (by simp) (y23 (heap_alloc_new w2 _) rfl) (by intro b o hb;have:=M9.lt;simp at hb;omega)).mono ?_;rintro e wn ⟨y1,rfl,-,H7,dh⟩;go_wp2_with fail;refine(q30 _ _ _ (H7.ext ((xr wn).alloc _)) (by omega) _ 3 [0,1,9223372036854775807] (by simp) (by decide) (by simp) (y23 (heap_alloc_new wn _) rfl) (by intro b o hb;have:=H7.lt;simp at hb;omega)).mono ?_;rintro e wk ⟨y2,rfl,-,Ik,S6⟩;have zr:=(((M4).trans (oE (L:= [g]) ((xr w2).alloc (.cells #[.int .i64 0,.int .i64 1,.int .i64 4,.int .i64 (-1)] 3)))).trans dh).trans ((oE (L:= [g]) ((xr wn).alloc (.cells #[.int .i64 0,.int .i64 1,.int .i64 9223372036854775807] 3))).trans S6);have ei:=(xr wk).alloc (.cells #[.int .i64 y1,.int .i64 y2] 3);have qp:=heap_alloc_new wk (.cells #[.int .i64 y1,.int .i64 y2] 3);have Hg:=zr.trans (oE (L:= [g]) ei);have pz:=(Ik.ext ei).mono (m':=m+4) (by omega);have yt:q20 (wk.alloc (.cells #[.int .i64 y1,.int .i64 y2] 3)) (fun b=> w.heap.size<=b/\b <(wk.alloc (.cells #[.int .i64 y1,.int .i64 y2] 3)).heap.size) (.slice (some ⟨wk.heap.size,0,none⟩) 2 2) [y1,y2]:=by
      refine .inr ⟨wk.heap.size,0,2,rfl,by simp,by decide,⟨zr.size,by simp⟩,fun j hj=> ?_⟩;rw[q10 qp]
      match j,hj with
      |0,_=> rfl
      |1,_=> rfl
     have Bj:=hdq yt;clear qp yt ei;go_wp2_with fail;go_ret;exact⟨_,_,rfl,by simp,Bj.out,pz,Hg⟩
   · have h1p:(0:Int) <(L1:Int):=by omega
     have h1d:decide ((0:Int) <(L1:Int))=true:=decide_eq_true h1p;have h1e:decide (0 < L1)=true:=decide_eq_true (by omega);have h1q:0 < L1:=by omega
     go_wp2_with fail;refine(j23 _ _ _ 10 M9 (by omega)).mono ?_;rintro e wp ⟨p,rfl,Cj,yb,Jo,hop⟩;have Sa:=(M4).trans hop;have hGp:=(uk).only hop (by intro b hb;rw[List.mem_singleton.1 hb];exact G0);by_cases hp:0 < p
     · have hpd:decide (0 < p)=true:=decide_eq_true hp
       go_wp2_with fail;refine(j23 _ _ _ (L1:Int) Jo (by omega)).mono ?_;rintro e wz ⟨z,rfl,hz0,hz1,Jq,Eg⟩;obtain⟨zi,rfl⟩:=Int.eq_ofNat_of_zero_le hz0;have hzl:zi < L1:=by omega
       have hzz:(zi:Int) <(L1:Int):=by omega
       have Fs:=(hGp).only Eg (by intro b hb;rw[List.mem_singleton.1 hb];exact G0);obtain⟨Az,cz,xx,-,-,-,Ei⟩:=Fs.slice;rw[Ku.out] at xx;simp only[Value.slice.injEq,true_and] at xx;obtain⟨rfl,rfl⟩:=xx;have Fg:zi < ps.length:=by rw[Ku.out];exact hzl
       obtain⟨bz,uz,rfl,cellz,Fl⟩:=Ei zi Fg;have Mh:=Hc _ (List.getElem_mem Fg);have lq:q20 wz (fun b=> w.heap.size<=b/\b < wz.heap.size) uz ps[zi]:=Fl.mono (fun b hb=>⟨hb.1,hb.2.1⟩) (fun _ _=> rfl);have Rf:=hdq lq;have Na:=(Sa).trans Eg;have zg:=Jq.mono (m':=m+4) (by omega);clear Fs Ei Fl lq hz1;go_wp2_with fail;go_ret;exact⟨_,_,rfl,Mh,Rf.out,zg,Na⟩
     · have hpd:decide (0 < p)=false:=decide_eq_false hp
       go_wp2_with fail;refine(q30 _ _ _ (Jo.ext ((xr wp).alloc _)) (by omega) _ 4 [0,1,4,-1] (by simp) (by decide) (by simp) (y23 (heap_alloc_new wp _) rfl) (by intro b o hb;have:=Jo.lt;simp at hb;omega)).mono ?_;rintro e wn ⟨y1,rfl,-,H7,dh⟩;go_wp2_with fail;refine(q30 _ _ _ (H7.ext ((xr wn).alloc _)) (by omega) _ 3 [0,1,9223372036854775807] (by simp) (by decide) (by simp) (y23 (heap_alloc_new wn _) rfl) (by intro b o hb;have:=H7.lt;simp at hb;omega)).mono ?_;rintro e wk ⟨y2,rfl,-,Ik,S6⟩;have zr:=(((Sa).trans (oE (L:= [g]) ((xr wp).alloc (.cells #[.int .i64 0,.int .i64 1,.int .i64 4,.int .i64 (-1)] 3)))).trans dh).trans ((oE (L:= [g]) ((xr wn).alloc (.cells #[.int .i64 0,.int .i64 1,.int .i64 9223372036854775807] 3))).trans S6);have ei:=(xr wk).alloc (.cells #[.int .i64 y1,.int .i64 y2] 3);have qp:=heap_alloc_new wk (.cells #[.int .i64 y1,.int .i64 y2] 3);have Hg:=zr.trans (oE (L:= [g]) ei);have pz:=(Ik.ext ei).mono (m':=m+4) (by omega);have yt:q20 (wk.alloc (.cells #[.int .i64 y1,.int .i64 y2] 3)) (fun b=> w.heap.size<=b/\b <(wk.alloc (.cells #[.int .i64 y1,.int .i64 y2] 3)).heap.size) (.slice (some ⟨wk.heap.size,0,none⟩) 2 2) [y1,y2]:=by
        refine .inr ⟨wk.heap.size,0,2,rfl,by simp,by decide,⟨zr.size,by simp⟩,fun j hj=> ?_⟩;rw[q10 qp]
        match j,hj with
        |0,_=> rfl
        |1,_=> rfl
       have Bj:=hdq yt;clear qp yt ei;go_wp2_with fail;go_ret;exact⟨_,_,rfl,by simp,Bj.out,pz,Hg⟩
 · have h2p:(0:Int) <(L2:Int):=by omega
   have h2d:decide ((0:Int) <(L2:Int))=true:=decide_eq_true h2p;have h2e:decide (0 < L2)=true:=decide_eq_true (by omega);have h2q:0 < L2:=by omega
   go_wp2_with fail;refine(j23 _ _ _ 2 M9 (by omega)).mono ?_;rintro e w3 ⟨y,rfl,hy0,M8,L9,Z7⟩;have ax:=M4.trans Z7;have Zh:=uk.only Z7 (by intro b hb;rw[List.mem_singleton.1 hb];exact G0);have Yd:=N4.only Z7 (by intro b hb;rw[List.mem_singleton.1 hb];exact G0);by_cases hy:y=0
   · subst hy
     go_wp2_with fail;refine(j23 _ _ _ (L2:Int) L9 (by omega)).mono ?_;rintro e wz ⟨z,rfl,hz0,hz1,Jq,Eg⟩;obtain⟨zi,rfl⟩:=Int.eq_ofNat_of_zero_le hz0;have hzl:zi < L2:=by omega
     have hzz:(zi:Int) <(L2:Int):=by omega
     have Fs:=(Yd).only Eg (by intro b hb;rw[List.mem_singleton.1 hb];exact G0);obtain⟨Az,cz,xx,-,-,-,Ei⟩:=Fs.slice;rw[ql.out] at xx;simp only[Value.slice.injEq,true_and] at xx;obtain⟨rfl,rfl⟩:=xx;have Fg:zi < qs.length:=by rw[ql.out];exact hzl
     obtain⟨bz,uz,rfl,cellz,Fl⟩:=Ei zi Fg;have Mh:=Oo _ (List.getElem_mem Fg);have lq:q20 wz (fun b=> w.heap.size<=b/\b < wz.heap.size) uz qs[zi]:=Fl.mono (fun b hb=>⟨hb.1,hb.2.1⟩) (fun _ _=> rfl);have Rf:=hdq lq;have Na:=(ax).trans Eg;have zg:=Jq.mono (m':=m+4) (by omega);clear Fs Ei Fl lq hz1;go_wp2_with fail;go_ret;exact⟨_,_,rfl,Mh,Rf.out,zg,Na⟩
   · have hyd:(y==0)=false:=beq_eq_false_iff_ne.2 hy
     by_cases h1:L1=0
     · subst h1
       go_wp2_with fail;refine(q30 _ _ _ (L9.ext ((xr w3).alloc _)) (by omega) _ 4 [0,1,4,-1] (by simp) (by decide) (by simp) (y23 (heap_alloc_new w3 _) rfl) (by intro b o hb;have:=L9.lt;simp at hb;omega)).mono ?_;rintro e wn ⟨y1,rfl,-,H7,dh⟩;go_wp2_with fail;refine(q30 _ _ _ (H7.ext ((xr wn).alloc _)) (by omega) _ 3 [0,1,9223372036854775807] (by simp) (by decide) (by simp) (y23 (heap_alloc_new wn _) rfl) (by intro b o hb;have:=H7.lt;simp at hb;omega)).mono ?_;rintro e wk ⟨y2,rfl,-,Ik,S6⟩;have zr:=(((ax).trans (oE (L:= [g]) ((xr w3).alloc (.cells #[.int .i64 0,.int .i64 1,.int .i64 4,.int .i64 (-1)] 3)))).trans dh).trans ((oE (L:= [g]) ((xr wn).alloc (.cells #[.int .i64 0,.int .i64 1,.int .i64 9223372036854775807] 3))).trans S6);have ei:=(xr wk).alloc (.cells #[.int .i64 y1,.int .i64 y2] 3);have qp:=heap_alloc_new wk (.cells #[.int .i64 y1,.int .i64 y2] 3);have Hg:=zr.trans (oE (L:= [g]) ei);have pz:=(Ik.ext ei).mono (m':=m+4) (by omega);have yt:q20 (wk.alloc (.cells #[.int .i64 y1,.int .i64 y2] 3)) (fun b=> w.heap.size<=b/\b <(wk.alloc (.cells #[.int .i64 y1,.int .i64 y2] 3)).heap.size) (.slice (some ⟨wk.heap.size,0,none⟩) 2 2) [y1,y2]:=by
        refine .inr ⟨wk.heap.size,0,2,rfl,by simp,by decide,⟨zr.size,by simp⟩,fun j hj=> ?_⟩;rw[q10 qp]
        match j,hj with
        |0,_=> rfl
        |1,_=> rfl
       have Bj:=hdq yt;clear qp yt ei;go_wp2_with fail;go_ret;exact⟨_,_,rfl,by simp,Bj.out,pz,Hg⟩
     · have h1p:(0:Int) <(L1:Int):=by omega
       have h1d:decide ((0:Int) <(L1:Int))=true:=decide_eq_true h1p;have h1e:decide (0 < L1)=true:=decide_eq_true (by omega);have h1q:0 < L1:=by omega
       go_wp2_with fail;refine(j23 _ _ _ 10 L9 (by omega)).mono ?_;rintro e wp ⟨p,rfl,Cj,yb,Jo,hop⟩;have Sa:=(ax).trans hop;have hGp:=(Zh).only hop (by intro b hb;rw[List.mem_singleton.1 hb];exact G0);by_cases hp:0 < p
       · have hpd:decide (0 < p)=true:=decide_eq_true hp
         go_wp2_with fail;refine(j23 _ _ _ (L1:Int) Jo (by omega)).mono ?_;rintro e wz ⟨z,rfl,hz0,hz1,Jq,Eg⟩;obtain⟨zi,rfl⟩:=Int.eq_ofNat_of_zero_le hz0;have hzl:zi < L1:=by omega
         have hzz:(zi:Int) <(L1:Int):=by omega
         have Fs:=(hGp).only Eg (by intro b hb;rw[List.mem_singleton.1 hb];exact G0);obtain⟨Az,cz,xx,-,-,-,Ei⟩:=Fs.slice;rw[Ku.out] at xx;simp only[Value.slice.injEq,true_and] at xx;obtain⟨rfl,rfl⟩:=xx;have Fg:zi < ps.length:=by rw[Ku.out];exact hzl
         obtain⟨bz,uz,rfl,cellz,Fl⟩:=Ei zi Fg;have Mh:=Hc _ (List.getElem_mem Fg);have lq:q20 wz (fun b=> w.heap.size<=b/\b < wz.heap.size) uz ps[zi]:=Fl.mono (fun b hb=>⟨hb.1,hb.2.1⟩) (fun _ _=> rfl);have Rf:=hdq lq;have Na:=(Sa).trans Eg;have zg:=Jq.mono (m':=m+4) (by omega);clear Fs Ei Fl lq hz1;go_wp2_with fail;go_ret;exact⟨_,_,rfl,Mh,Rf.out,zg,Na⟩
       · have hpd:decide (0 < p)=false:=decide_eq_false hp
         go_wp2_with fail;refine(q30 _ _ _ (Jo.ext ((xr wp).alloc _)) (by omega) _ 4 [0,1,4,-1] (by simp) (by decide) (by simp) (y23 (heap_alloc_new wp _) rfl) (by intro b o hb;have:=Jo.lt;simp at hb;omega)).mono ?_;rintro e wn ⟨y1,rfl,-,H7,dh⟩;go_wp2_with fail;refine(q30 _ _ _ (H7.ext ((xr wn).alloc _)) (by omega) _ 3 [0,1,9223372036854775807] (by simp) (by decide) (by simp) (y23 (heap_alloc_new wn _) rfl) (by intro b o hb;have:=H7.lt;simp at hb;omega)).mono ?_;rintro e wk ⟨y2,rfl,-,Ik,S6⟩;have zr:=(((Sa).trans (oE (L:= [g]) ((xr wp).alloc (.cells #[.int .i64 0,.int .i64 1,.int .i64 4,.int .i64 (-1)] 3)))).trans dh).trans ((oE (L:= [g]) ((xr wn).alloc (.cells #[.int .i64 0,.int .i64 1,.int .i64 9223372036854775807] 3))).trans S6);have ei:=(xr wk).alloc (.cells #[.int .i64 y1,.int .i64 y2] 3);have qp:=heap_alloc_new wk (.cells #[.int .i64 y1,.int .i64 y2] 3);have Hg:=zr.trans (oE (L:= [g]) ei);have pz:=(Ik.ext ei).mono (m':=m+4) (by omega);have yt:q20 (wk.alloc (.cells #[.int .i64 y1,.int .i64 y2] 3)) (fun b=> w.heap.size<=b/\b <(wk.alloc (.cells #[.int .i64 y1,.int .i64 y2] 3)).heap.size) (.slice (some ⟨wk.heap.size,0,none⟩) 2 2) [y1,y2]:=by
          refine .inr ⟨wk.heap.size,0,2,rfl,by simp,by decide,⟨zr.size,by simp⟩,fun j hj=> ?_⟩;rw[q10 qp]
          match j,hj with
          |0,_=> rfl
          |1,_=> rfl
         have Bj:=hdq yt;clear qp yt ei;go_wp2_with fail;go_ret;exact⟨_,_,rfl,by simp,Bj.out,pz,Hg⟩
end Go.Proofs.YtbnkbepgmenblaaGreat
namespace Go.Proofs.YtbnkbepgmenblaaGreat
open Go.RowKit
theorem q27{ks:List Tr}{j:Nat}{t:Tr}(h:j < ks.length)(e:ks[j]=t):kd ks j=t:=by
 unfold kd;rw[List.getD_eq_getElem?_getD,List.getElem?_eq_getElem h,e]
 rfl
def ConQ(w:World)(t:Tr)(e:Ending)(w':World):Prop:= ∃r,e= .returned (.tuple #[r,.bool (valid sigT t)])/\Made w w' 25 (okT t) r/\Ext w w'
theorem q41{W w:World}{t:Tr}{u:Value}(h:Made W w 25 t u):Calls Tryz.prog 110 #[u] w fun e w'=> ∃a1 a2 a3 a4 a5,e= .returned (.tuple #[.agg #[.int .i64 a1,.int .i64 a2,.slice a3 a4 a5],.bool (valid sigT t)])/\Made W w' 25 (okT t) (.agg #[.int .i64 a1,.int .i64 a2,.slice a3 a4 a5])/\Ext w w':=by
 obtain⟨k,n,ks⟩:=t;obtain⟨A,cap,rfl,hl,hc,hK⟩:=Made.mk_iff.1 h;refine(j104 k n ks A cap w h.lies).mono ?_;rintro e w' ⟨h1,h2⟩;by_cases hv:valid sigT (.mk k n ks)=true
 · rw[if_pos hv] at h1
   refine⟨_,_,_,_,_,by rw[h1,hv], ?_,h2⟩;unfold okT;rw[if_pos hv];exact h.ext h2
 · rw[if_neg hv] at h1
   refine⟨0,0,none,0,0,by rw[h1,Bool.eq_false_iff.2 hv], ?_,h2⟩;unfold okT;rw[if_neg hv];exact Made.leaf _ _ _ 0 0
theorem j160{t u TT:Tr}(hT:TT=sbsT u t 0 0)(w:World)(v vu:Value)(j7:Lies w t v)(hv:valid sigT t=true)(W7:Lies w u vu)(ng:valid sigT u=true):
 Calls Tryz.prog 141 #[v,.int .i64 0,vu] w fun e w'=> ∃a1 a2 a3 a4 a5,e= .returned (.tuple #[.agg #[.int .i64 a1,.int .i64 a2,.slice a3 a4 a5],.bool (valid sigT TT)])/\Made w w' 25 (okT TT) (.agg #[.int .i64 a1,.int .i64 a2,.slice a3 a4 a5])/\Ext w w':=by
 subst hT;refine(j139 t 0 u w v vu j7 hv W7 ng (by omega) (by omega)).mono ?_;rintro e w' ⟨r,rfl,hM,h⟩;obtain⟨a1,a2,a3,a4,a5,rfl⟩:=hM.three';exact⟨_,_,_,_,_,rfl,hM,h⟩
theorem j162(n:Int)(ks:List Tr)(hv:valid sigT (.mk 9 n ks)=true)(w:World)(A:Option Addr)(cap:Nat)(j7:Lies w (.mk 9 n ks) (.agg #[.int .i64 9,.int .i64 n,.slice A ks.length cap]))(hK:j26 w A ks)(hl:ks.length<=cap)(hc:cap<=maxLen)(hc3:(kd ks 3).kind=7):
 Calls Tryz.prog 108 #[.agg #[.int .i64 9,.int .i64 n,.slice A ks.length cap]] w (ConQ w (ctr 9 ks)):=by
 obtain⟨hsh,I1⟩:=y12 hv;have j8:opsT 9=(ks.length:Int):=(j12 hsh).1;have p9:ks.length=4:=by have h9:(4:Int)=(ks.length:Int):=j8;omega
 have hsk:=(j12 hsh).2.2.2;have T8: ∀t∈ks,valid sigT t=true:=fun t ht=> by
  have h1:=hsk t ht;have h2:=y15 ht;simp only[cnt] at I1;unfold valid;rw[y28 h1 (by decide),Bool.true_and,decide_eq_true_eq];omega
 have hcc:=hc;unfold maxLen at hcc;have G8:=hdq (fun W (hW:Ext w W)=> j35 (.mk 9 n ks) 30 hsh W _ (j7.ext hW));obtain⟨wb,D9⟩: ∃wb,wb=(w.alloc (.cells #[.int .i64 9,.int .i64 n,.slice A ks.length cap] 25)).alloc (.cells #[.int .i64 0,.int .i64 0,.slice none 0 0] 25):=⟨_,rfl⟩;have hX:Ext w wb:=D9▸((xr w).alloc _).alloc _;have hb0:wb.heap[w.heap.size]? =some (.cells #[.int .i64 9,.int .i64 n,.slice A ks.length cap] 25 (0,0)):=by rw[D9];exact(blk2 (xr _)).1
 have hb1:wb.heap[w.heap.size+1]? =some (.cells #[.int .i64 0,.int .i64 0,.slice none 0 0] 25 (0,0)):=by rw[D9];exact(blk2 (xr _)).2.1
 have hs0:w.heap.size+1 < wb.heap.size:=j10 hb1;have J0:1 < ks.length:=by omega
 have ft:(1:Int) <(ks.length:Int):=by omega
 obtain⟨b1,o1,k1,n1,A1,I0,j9,Q7,N0,c10,c11,c12,jk,ir,Q3,D2,u6⟩:=hK.get (xr w) J0;simp only[Nat.one_mul,Nat.add_assoc,Nat.reduceAdd] at c10 c11 c12;have P8:kd ks 1= .mk k1 n1 j9:=q27 J0 N0.out;subst Q7;have p6:ctr 9 ks= .mk k1 n1 j9:=(q47 hc3).trans P8;rw[p6];have N5:rdx 9 ks=2:=by unfold rdx;simp[hc3]
 obtain⟨TT,C9⟩: ∃x,x=Tr.mk k1 n1 j9:=⟨_,rfl⟩;rw[<-C9];have V1:=hdq C9;clear C9;have Ew:cnt (.mk k1 n1 j9)<=400:=(y12 (T8 _ u6)).2;clear p6;have hrt:rdxT (.mk 9 n ks)=2:=N5;rw[hrt] at G8;clear hrt N5 p9 j8
 skip
 go_enter Tryz.func108,Tryz.ntmps108;go_wp2_with fail;rw[<-D9];clear D9;refine(G8.out _ hX).mono ?_;rintro e w1 ⟨rfl,h1⟩;have p8:=hX.trans h1;have D5:=h1.blk hb0;have B7:=h1.blk hb1;have hs1:w.heap.size+1 < w1.heap.size:=j10 B7;obtain⟨z0,z1,z2,-,-,-⟩:=own3 D5;clear hb0 hb1 G8 h1;have d10:=p8.cell c10;have Sj:=p8.cell c11;have d12:=p8.cell c12;have jh:=hdq (D2.ext p8);clear N0 P8 Q3 D2 u6 c10 c11 c12 hK j7;go_wp2_with fail;refine(q57 _ _ _ jh.out (by omega)).mono ?_;rintro e w2 ⟨u,rfl,V7,h2⟩;obtain⟨u1,u2,u3,u4,u5,rfl⟩:=V7.three';go_wp2_with fail;rw[<-V1.out] at V7;refine(q41 V7).mono ?_;rintro e w3 ⟨a1,a2,a3,a4,a5,rfl,hM,h3⟩;have hE:=p8.trans (h2.trans h3);obtain⟨s0,s1,s2,f0,f1,f2⟩:=own3 ((h2.trans h3).blk B7);clear V7 D5 B7 d10 Sj d12 z0 z1 z2;go_wp2_with fail;have hsz:=p8.size;refine bodyPost_ret (v:= .tuple #[.agg #[.int .i64 a1,.int .i64 a2,.slice a3 a4 a5],.bool (valid sigT TT)]) (by simp[results,Tryz.results108,go_sem,s0,s1,s2]) rfl ⟨_,rfl,Made.since (hM.after ((((y25.refl _ _).setCell (p:=⟨w.heap.size+1,0,none⟩) (by show w.heap.size+1 < _;omega) (.int .i64 a1)).setCell (p:=⟨w.heap.size+1,1,none⟩) (by show w.heap.size+1 < _;omega) (.int .i64 a2)).setCell (p:=⟨w.heap.size+1,2,none⟩) (by show w.heap.size+1 < _;omega) (.slice a3 a4 a5))) (by omega),(((hE.setCell (p:=⟨w.heap.size+1,0,none⟩) (by show w.heap.size<=w.heap.size+1;omega) _).setCell (p:=⟨w.heap.size+1,1,none⟩) (by show w.heap.size<=w.heap.size+1;omega) _).setCell (p:=⟨w.heap.size+1,2,none⟩) (by show w.heap.size<=w.heap.size+1;omega) _)⟩
theorem j167(n:Int)(ks:List Tr)(hv:valid sigT (.mk 12 n ks)=true)(w:World)(A:Option Addr)(cap:Nat)(j7:Lies w (.mk 12 n ks) (.agg #[.int .i64 12,.int .i64 n,.slice A ks.length cap]))(hK:j26 w A ks)(hl:ks.length<=cap)(hc:cap<=maxLen)(hc1:(kd ks 1).kind=11):
 Calls Tryz.prog 108 #[.agg #[.int .i64 12,.int .i64 n,.slice A ks.length cap]] w (ConQ w (ctr 12 ks)):=by
 obtain⟨hsh,I1⟩:=y12 hv;have j8:opsT 12=(ks.length:Int):=(j12 hsh).1;have p9:ks.length=3:=by have h9:(3:Int)=(ks.length:Int):=j8;omega
 have hsk:=(j12 hsh).2.2.2;have T8: ∀t∈ks,valid sigT t=true:=fun t ht=> by
  have h1:=hsk t ht;have h2:=y15 ht;simp only[cnt] at I1;unfold valid;rw[y28 h1 (by decide),Bool.true_and,decide_eq_true_eq];omega
 have hcc:=hc;unfold maxLen at hcc;have G8:=hdq (fun W (hW:Ext w W)=> j35 (.mk 12 n ks) 30 hsh W _ (j7.ext hW));obtain⟨wb,D9⟩: ∃wb,wb=(w.alloc (.cells #[.int .i64 12,.int .i64 n,.slice A ks.length cap] 25)).alloc (.cells #[.int .i64 0,.int .i64 0,.slice none 0 0] 25):=⟨_,rfl⟩;have hX:Ext w wb:=D9▸((xr w).alloc _).alloc _;have hb0:wb.heap[w.heap.size]? =some (.cells #[.int .i64 12,.int .i64 n,.slice A ks.length cap] 25 (0,0)):=by rw[D9];exact(blk2 (xr _)).1
 have hb1:wb.heap[w.heap.size+1]? =some (.cells #[.int .i64 0,.int .i64 0,.slice none 0 0] 25 (0,0)):=by rw[D9];exact(blk2 (xr _)).2.1
 have hs0:w.heap.size+1 < wb.heap.size:=j10 hb1;have I5:2 < ks.length:=by omega
 have S7:(2:Int) <(ks.length:Int):=by omega
 obtain⟨b2,o2,k2,n2,A2,M3,l8,ey,rk,c20,c21,pq,Z8,U1,hK2,S0,P7⟩:=hK.get (xr w) I5;simp only[Nat.reduceMul,Nat.add_assoc,Nat.reduceAdd] at c20 c21 pq;have di:kd ks 2= .mk k2 n2 l8:=q27 I5 rk.out;subst ey;have p6:ctr 12 ks= .mk k2 n2 l8:=j72.trans di;rw[p6];have N5:rdx 12 ks=4:=by unfold rdx;simp[hc1]
 obtain⟨TT,C9⟩: ∃x,x=Tr.mk k2 n2 l8:=⟨_,rfl⟩;rw[<-C9];have V1:=hdq C9;clear C9;have Ew:cnt (.mk k2 n2 l8)<=400:=(y12 (T8 _ P7)).2;clear p6;have hrt:rdxT (.mk 12 n ks)=4:=N5;rw[hrt] at G8;clear hrt N5 p9 j8
 skip
 go_enter Tryz.func108,Tryz.ntmps108;go_wp2_with fail;rw[<-D9];clear D9;refine(G8.out _ hX).mono ?_;rintro e w1 ⟨rfl,h1⟩;have p8:=hX.trans h1;have D5:=h1.blk hb0;have B7:=h1.blk hb1;have hs1:w.heap.size+1 < w1.heap.size:=j10 B7;obtain⟨z0,z1,z2,-,-,-⟩:=own3 D5;clear hb0 hb1 G8 h1;have d20:=p8.cell c20;have d21:=p8.cell c21;have d22:=p8.cell pq;have jh:=hdq (S0.ext p8);clear rk di hK2 S0 P7 c20 c21 pq hK j7;go_wp2_with fail;refine(q57 _ _ _ jh.out (by omega)).mono ?_;rintro e w2 ⟨u,rfl,V7,h2⟩;obtain⟨u1,u2,u3,u4,u5,rfl⟩:=V7.three';go_wp2_with fail;rw[<-V1.out] at V7;refine(q41 V7).mono ?_;rintro e w3 ⟨a1,a2,a3,a4,a5,rfl,hM,h3⟩;have hE:=p8.trans (h2.trans h3);obtain⟨s0,s1,s2,f0,f1,f2⟩:=own3 ((h2.trans h3).blk B7);clear V7 D5 B7 d20 d21 d22 z0 z1 z2;go_wp2_with fail;have hsz:=p8.size;refine bodyPost_ret (v:= .tuple #[.agg #[.int .i64 a1,.int .i64 a2,.slice a3 a4 a5],.bool (valid sigT TT)]) (by simp[results,Tryz.results108,go_sem,s0,s1,s2]) rfl ⟨_,rfl,Made.since (hM.after ((((y25.refl _ _).setCell (p:=⟨w.heap.size+1,0,none⟩) (by show w.heap.size+1 < _;omega) (.int .i64 a1)).setCell (p:=⟨w.heap.size+1,1,none⟩) (by show w.heap.size+1 < _;omega) (.int .i64 a2)).setCell (p:=⟨w.heap.size+1,2,none⟩) (by show w.heap.size+1 < _;omega) (.slice a3 a4 a5))) (by omega),(((hE.setCell (p:=⟨w.heap.size+1,0,none⟩) (by show w.heap.size<=w.heap.size+1;omega) _).setCell (p:=⟨w.heap.size+1,1,none⟩) (by show w.heap.size<=w.heap.size+1;omega) _).setCell (p:=⟨w.heap.size+1,2,none⟩) (by show w.heap.size<=w.heap.size+1;omega) _)⟩
theorem y167(n:Int)(ks:List Tr)(hv:valid sigT (.mk 15 n ks)=true)(w:World)(A:Option Addr)(cap:Nat)(j7:Lies w (.mk 15 n ks) (.agg #[.int .i64 15,.int .i64 n,.slice A ks.length cap]))(hK:j26 w A ks)(hl:ks.length<=cap)(hc:cap<=maxLen)(hc0:(kd ks 0).kind=14):
 Calls Tryz.prog 108 #[.agg #[.int .i64 15,.int .i64 n,.slice A ks.length cap]] w (ConQ w (ctr 15 ks)):=by
 obtain⟨hsh,I1⟩:=y12 hv;have j8:opsT 15=(ks.length:Int):=(j12 hsh).1;have p9:ks.length=1:=by have h9:(1:Int)=(ks.length:Int):=j8;omega
 have hsk:=(j12 hsh).2.2.2;have T8: ∀t∈ks,valid sigT t=true:=fun t ht=> by
  have h1:=hsk t ht;have h2:=y15 ht;simp only[cnt] at I1;unfold valid;rw[y28 h1 (by decide),Bool.true_and,decide_eq_true_eq];omega
 have hcc:=hc;unfold maxLen at hcc;have G8:=hdq (fun W (hW:Ext w W)=> j35 (.mk 15 n ks) 30 hsh W _ (j7.ext hW));obtain⟨wb,D9⟩: ∃wb,wb=(w.alloc (.cells #[.int .i64 15,.int .i64 n,.slice A ks.length cap] 25)).alloc (.cells #[.int .i64 0,.int .i64 0,.slice none 0 0] 25):=⟨_,rfl⟩;have hX:Ext w wb:=D9▸((xr w).alloc _).alloc _;have hb0:wb.heap[w.heap.size]? =some (.cells #[.int .i64 15,.int .i64 n,.slice A ks.length cap] 25 (0,0)):=by rw[D9];exact(blk2 (xr _)).1
 have hb1:wb.heap[w.heap.size+1]? =some (.cells #[.int .i64 0,.int .i64 0,.slice none 0 0] 25 (0,0)):=by rw[D9];exact(blk2 (xr _)).2.1
 have hs0:w.heap.size+1 < wb.heap.size:=j10 hb1;have I8:0 < ks.length:=by omega
 have P3:(0:Int) <(ks.length:Int):=by omega
 obtain⟨b0,o0,k0,n0,A0,C7,i6,kx,bm,U0,W9,V0,lp,pj,V5,D3,E4⟩:=hK.get (xr w) I8;simp only[Nat.zero_mul,Nat.add_zero] at U0 W9 V0;have D7:kd ks 0= .mk k0 n0 i6:=q27 I8 bm.out;subst kx;rw[D7] at hc0;have mf:k0=14:=hc0;subst mf;have hv0:=T8 _ E4;have Q5:opsT 14=(i6.length:Int):=(j12 (y12 hv0).1).1;have cg:i6.length=3:=by have h9:(3:Int)=(i6.length:Int):=Q5;omega
 have J6:1 < i6.length:=by omega
 have Ed:(1:Int) <(i6.length:Int):=by omega
 obtain⟨b3,o3,k3,n3,A3,M2,o7,im,aa,U6,c31,U8,py,iv,hK3,J4,D1⟩:=V5.get (xr w) J6;simp only[Nat.one_mul,Nat.add_assoc,Nat.reduceAdd] at U6 c31 U8;have F3:kd i6 1= .mk k3 n3 o7:=q27 J6 aa.out;subst im;have p6:ctr 15 ks= .mk k3 n3 o7:=by rw[q62,D7];exact F3
 rw[p6];have N5:rdx 15 ks=5:=by unfold rdx;rw[D7];simp[Tr.kind]
 obtain⟨TT,C9⟩: ∃x,x=Tr.mk k3 n3 o7:=⟨_,rfl⟩;rw[<-C9];have V1:=hdq C9;clear C9;have Ew:cnt (.mk k3 n3 o7)<=400:=by have h1:=y15 D1;have h2:=(y12 hv0).2;simp only[cnt] at h2;omega
 clear p6;have hrt:rdxT (.mk 15 n ks)=5:=N5;rw[hrt] at G8;clear hrt N5 p9 j8;clear cg;go_enter Tryz.func108,Tryz.ntmps108;go_wp2_with fail;rw[<-D9];clear D9;refine(G8.out _ hX).mono ?_;rintro e w1 ⟨rfl,h1⟩;have p8:=hX.trans h1;have D5:=h1.blk hb0;have B7:=h1.blk hb1;have hs1:w.heap.size+1 < w1.heap.size:=j10 B7;obtain⟨z0,z1,z2,-,-,-⟩:=own3 D5;clear hb0 hb1 G8 h1;have Iw:=p8.cell U0;have Ij:=p8.cell W9;have Io:=p8.cell V0;have Il:=p8.cell U6;have Ix:=p8.cell c31;have Dl:=p8.cell U8;have jh:=hdq (J4.ext p8);clear bm D7 V5 D3 E4 aa F3 hK3 J4 D1 U0 W9 V0 U6 c31 U8 hK j7 Q5;go_wp2_with fail;refine(q57 _ _ _ jh.out (by omega)).mono ?_;rintro e w2 ⟨u,rfl,V7,h2⟩;obtain⟨u1,u2,u3,u4,u5,rfl⟩:=V7.three';go_wp2_with fail;rw[<-V1.out] at V7;refine(q41 V7).mono ?_;rintro e w3 ⟨a1,a2,a3,a4,a5,rfl,hM,h3⟩;have hE:=p8.trans (h2.trans h3);obtain⟨s0,s1,s2,f0,f1,f2⟩:=own3 ((h2.trans h3).blk B7);clear V7 D5 B7 Iw Ij Io Il Ix Dl z0 z1 z2;go_wp2_with fail;have hsz:=p8.size;refine bodyPost_ret (v:= .tuple #[.agg #[.int .i64 a1,.int .i64 a2,.slice a3 a4 a5],.bool (valid sigT TT)]) (by simp[results,Tryz.results108,go_sem,s0,s1,s2]) rfl ⟨_,rfl,Made.since (hM.after ((((y25.refl _ _).setCell (p:=⟨w.heap.size+1,0,none⟩) (by show w.heap.size+1 < _;omega) (.int .i64 a1)).setCell (p:=⟨w.heap.size+1,1,none⟩) (by show w.heap.size+1 < _;omega) (.int .i64 a2)).setCell (p:=⟨w.heap.size+1,2,none⟩) (by show w.heap.size+1 < _;omega) (.slice a3 a4 a5))) (by omega),(((hE.setCell (p:=⟨w.heap.size+1,0,none⟩) (by show w.heap.size<=w.heap.size+1;omega) _).setCell (p:=⟨w.heap.size+1,1,none⟩) (by show w.heap.size<=w.heap.size+1;omega) _).setCell (p:=⟨w.heap.size+1,2,none⟩) (by show w.heap.size<=w.heap.size+1;omega) _)⟩
theorem y163(n:Int)(ks:List Tr)(hv:valid sigT (.mk 16 n ks)=true)(w:World)(A:Option Addr)(cap:Nat)(j7:Lies w (.mk 16 n ks) (.agg #[.int .i64 16,.int .i64 n,.slice A ks.length cap]))(hK:j26 w A ks)(hl:ks.length<=cap)(hc:cap<=maxLen)(hc0:(kd ks 0).kind=14):
 Calls Tryz.prog 108 #[.agg #[.int .i64 16,.int .i64 n,.slice A ks.length cap]] w (ConQ w (ctr 16 ks)):=by
 obtain⟨hsh,I1⟩:=y12 hv;have j8:opsT 16=(ks.length:Int):=(j12 hsh).1;have p9:ks.length=1:=by have h9:(1:Int)=(ks.length:Int):=j8;omega
 have hsk:=(j12 hsh).2.2.2;have T8: ∀t∈ks,valid sigT t=true:=fun t ht=> by
  have h1:=hsk t ht;have h2:=y15 ht;simp only[cnt] at I1;unfold valid;rw[y28 h1 (by decide),Bool.true_and,decide_eq_true_eq];omega
 have hcc:=hc;unfold maxLen at hcc;have G8:=hdq (fun W (hW:Ext w W)=> j35 (.mk 16 n ks) 30 hsh W _ (j7.ext hW));obtain⟨wb,D9⟩: ∃wb,wb=(w.alloc (.cells #[.int .i64 16,.int .i64 n,.slice A ks.length cap] 25)).alloc (.cells #[.int .i64 0,.int .i64 0,.slice none 0 0] 25):=⟨_,rfl⟩;have hX:Ext w wb:=D9▸((xr w).alloc _).alloc _;have hb0:wb.heap[w.heap.size]? =some (.cells #[.int .i64 16,.int .i64 n,.slice A ks.length cap] 25 (0,0)):=by rw[D9];exact(blk2 (xr _)).1
 have hb1:wb.heap[w.heap.size+1]? =some (.cells #[.int .i64 0,.int .i64 0,.slice none 0 0] 25 (0,0)):=by rw[D9];exact(blk2 (xr _)).2.1
 have hs0:w.heap.size+1 < wb.heap.size:=j10 hb1;have I8:0 < ks.length:=by omega
 have P3:(0:Int) <(ks.length:Int):=by omega
 obtain⟨b0,o0,k0,n0,A0,C7,i6,kx,bm,U0,W9,V0,lp,pj,V5,D3,E4⟩:=hK.get (xr w) I8;simp only[Nat.zero_mul,Nat.add_zero] at U0 W9 V0;have D7:kd ks 0= .mk k0 n0 i6:=q27 I8 bm.out;subst kx;rw[D7] at hc0;have mf:k0=14:=hc0;subst mf;have hv0:=T8 _ E4;have Q5:opsT 14=(i6.length:Int):=(j12 (y12 hv0).1).1;have cg:i6.length=3:=by have h9:(3:Int)=(i6.length:Int):=Q5;omega
 have J6:2 < i6.length:=by omega
 have Ed:(2:Int) <(i6.length:Int):=by omega
 obtain⟨b3,o3,k3,n3,A3,M2,o7,im,aa,U6,c31,U8,py,iv,hK3,J4,D1⟩:=V5.get (xr w) J6;simp only[Nat.reduceMul,Nat.add_assoc,Nat.reduceAdd] at U6 c31 U8;have F3:kd i6 2= .mk k3 n3 o7:=q27 J6 aa.out;subst im;have p6:ctr 16 ks= .mk k3 n3 o7:=by rw[q65,D7];exact F3
 rw[p6];have N5:rdx 16 ks=6:=by unfold rdx;rw[D7];simp[Tr.kind]
 obtain⟨TT,C9⟩: ∃x,x=Tr.mk k3 n3 o7:=⟨_,rfl⟩;rw[<-C9];have V1:=hdq C9;clear C9;have Ew:cnt (.mk k3 n3 o7)<=400:=by have h1:=y15 D1;have h2:=(y12 hv0).2;simp only[cnt] at h2;omega
 clear p6;have hrt:rdxT (.mk 16 n ks)=6:=N5;rw[hrt] at G8;clear hrt N5 p9 j8;clear cg;go_enter Tryz.func108,Tryz.ntmps108;go_wp2_with fail;rw[<-D9];clear D9;refine(G8.out _ hX).mono ?_;rintro e w1 ⟨rfl,h1⟩;have p8:=hX.trans h1;have D5:=h1.blk hb0;have B7:=h1.blk hb1;have hs1:w.heap.size+1 < w1.heap.size:=j10 B7;obtain⟨z0,z1,z2,-,-,-⟩:=own3 D5;clear hb0 hb1 G8 h1;have Iw:=p8.cell U0;have Ij:=p8.cell W9;have Io:=p8.cell V0;have Il:=p8.cell U6;have Ix:=p8.cell c31;have Dl:=p8.cell U8;have jh:=hdq (J4.ext p8);clear bm D7 V5 D3 E4 aa F3 hK3 J4 D1 U0 W9 V0 U6 c31 U8 hK j7 Q5;go_wp2_with fail;refine(q57 _ _ _ jh.out (by omega)).mono ?_;rintro e w2 ⟨u,rfl,V7,h2⟩;obtain⟨u1,u2,u3,u4,u5,rfl⟩:=V7.three';go_wp2_with fail;rw[<-V1.out] at V7;refine(q41 V7).mono ?_;rintro e w3 ⟨a1,a2,a3,a4,a5,rfl,hM,h3⟩;have hE:=p8.trans (h2.trans h3);obtain⟨s0,s1,s2,f0,f1,f2⟩:=own3 ((h2.trans h3).blk B7);clear V7 D5 B7 Iw Ij Io Il Ix Dl z0 z1 z2;go_wp2_with fail;have hsz:=p8.size;refine bodyPost_ret (v:= .tuple #[.agg #[.int .i64 a1,.int .i64 a2,.slice a3 a4 a5],.bool (valid sigT TT)]) (by simp[results,Tryz.results108,go_sem,s0,s1,s2]) rfl ⟨_,rfl,Made.since (hM.after ((((y25.refl _ _).setCell (p:=⟨w.heap.size+1,0,none⟩) (by show w.heap.size+1 < _;omega) (.int .i64 a1)).setCell (p:=⟨w.heap.size+1,1,none⟩) (by show w.heap.size+1 < _;omega) (.int .i64 a2)).setCell (p:=⟨w.heap.size+1,2,none⟩) (by show w.heap.size+1 < _;omega) (.slice a3 a4 a5))) (by omega),(((hE.setCell (p:=⟨w.heap.size+1,0,none⟩) (by show w.heap.size<=w.heap.size+1;omega) _).setCell (p:=⟨w.heap.size+1,1,none⟩) (by show w.heap.size<=w.heap.size+1;omega) _).setCell (p:=⟨w.heap.size+1,2,none⟩) (by show w.heap.size<=w.heap.size+1;omega) _)⟩
theorem q166(n:Int)(ks:List Tr)(hv:valid sigT (.mk 5 n ks)=true)(w:World)(A:Option Addr)(cap:Nat)(j7:Lies w (.mk 5 n ks) (.agg #[.int .i64 5,.int .i64 n,.slice A ks.length cap]))(hK:j26 w A ks)(hl:ks.length<=cap)(hc:cap<=maxLen)(hc0:(kd ks 0).kind=4):
 Calls Tryz.prog 108 #[.agg #[.int .i64 5,.int .i64 n,.slice A ks.length cap]] w (ConQ w (ctr 5 ks)):=by
 obtain⟨hsh,I1⟩:=y12 hv;have j8:opsT 5=(ks.length:Int):=(j12 hsh).1;have p9:ks.length=2:=by have h9:(2:Int)=(ks.length:Int):=j8;omega
 have hsk:=(j12 hsh).2.2.2;have T8: ∀t∈ks,valid sigT t=true:=fun t ht=> by
  have h1:=hsk t ht;have h2:=y15 ht;simp only[cnt] at I1;unfold valid;rw[y28 h1 (by decide),Bool.true_and,decide_eq_true_eq];omega
 have hcc:=hc;unfold maxLen at hcc;have G8:=hdq (fun W (hW:Ext w W)=> j35 (.mk 5 n ks) 30 hsh W _ (j7.ext hW));obtain⟨wb,D9⟩: ∃wb,wb=(w.alloc (.cells #[.int .i64 5,.int .i64 n,.slice A ks.length cap] 25)).alloc (.cells #[.int .i64 0,.int .i64 0,.slice none 0 0] 25):=⟨_,rfl⟩;have hX:Ext w wb:=D9▸((xr w).alloc _).alloc _;have hb0:wb.heap[w.heap.size]? =some (.cells #[.int .i64 5,.int .i64 n,.slice A ks.length cap] 25 (0,0)):=by rw[D9];exact(blk2 (xr _)).1
 have hb1:wb.heap[w.heap.size+1]? =some (.cells #[.int .i64 0,.int .i64 0,.slice none 0 0] 25 (0,0)):=by rw[D9];exact(blk2 (xr _)).2.1
 have hs0:w.heap.size+1 < wb.heap.size:=j10 hb1;have I8:0 < ks.length:=by omega
 have P3:(0:Int) <(ks.length:Int):=by omega
 obtain⟨b0,o0,k0,n0,A0,C7,i6,kx,bm,U0,W9,V0,lp,pj,V5,D3,E4⟩:=hK.get (xr w) I8;simp only[Nat.zero_mul,Nat.add_zero] at U0 W9 V0;have D7:kd ks 0= .mk k0 n0 i6:=q27 I8 bm.out;have J0:1 < ks.length:=by omega
 have ft:(1:Int) <(ks.length:Int):=by omega
 obtain⟨b1,o1,k1,n1,A1,I0,j9,Q7,N0,c10,c11,c12,jk,ir,Q3,D2,u6⟩:=hK.get (xr w) J0;simp only[Nat.one_mul,Nat.add_assoc,Nat.reduceAdd] at c10 c11 c12;have P8:kd ks 1= .mk k1 n1 j9:=q27 J0 N0.out;subst kx
 injection Q7 with Q7
 injection Q7 with bw hC1 Vd
 subst bw hC1;rw[D7] at hc0;have hk4:k0=4:=hc0;subst hk4;have hv0:=T8 _ E4;have Q5:opsT 4=(i6.length:Int):=(j12 (y12 hv0).1).1;have cg:i6.length=2:=by have h9:(2:Int)=(i6.length:Int):=Q5;omega
 have J6:1 < i6.length:=by omega
 have Ed:(1:Int) <(i6.length:Int):=by omega
 obtain⟨b3,o3,k3,n3,A3,M2,o7,im,aa,U6,c31,U8,py,iv,hK3,J4,D1⟩:=V5.get (xr w) J6;simp only[Nat.one_mul,Nat.add_assoc,Nat.reduceAdd] at U6 c31 U8;have F3:kd i6 1= .mk k3 n3 o7:=q27 J6 aa.out;subst im;have Z4:=T8 _ u6;have hv3:valid sigT (.mk k3 n3 o7)=true:=by
  have h1:=(j12 (y12 hv0).1).2.2.2 _ D1;have h2:=y15 D1;have h3:=(y12 hv0).2;simp only[cnt] at h3;unfold valid;rw[y28 h1 (by decide),Bool.true_and,decide_eq_true_eq];omega
 have p6:ctr 5 ks=sbsT (.mk k1 n1 j9) (.mk k3 n3 o7) 0 0:=by rw[y59,D7,P8];exact congrArg (fun t=> sbsT (.mk k1 n1 j9) t 0 0) F3
 rw[p6];have N5:rdx 5 ks=1:=by unfold rdx;rw[D7];simp[Tr.kind]
 obtain⟨TT,C9⟩: ∃x,x=sbsT (.mk k1 n1 j9) (.mk k3 n3 o7) 0 0:=⟨_,rfl⟩;rw[<-C9];have V1:=hdq C9;clear C9 p6;have hrt:rdxT (.mk 5 n ks)=1:=N5;rw[hrt] at G8;clear hrt N5 p9 j8;clear cg;go_enter Tryz.func108,Tryz.ntmps108;go_wp2_with fail;rw[<-D9];clear D9;refine(G8.out _ hX).mono ?_;rintro e w1 ⟨rfl,h1⟩;have p8:=hX.trans h1;have D5:=h1.blk hb0;have B7:=h1.blk hb1;have hs1:w.heap.size+1 < w1.heap.size:=j10 B7;obtain⟨z0,z1,z2,-,-,-⟩:=own3 D5;clear hb0 hb1 G8 h1;have qp:b0 < w.heap.size:=World.block_lt_of_cell? _ _ U0;have hbk3:b3 < w.heap.size:=World.block_lt_of_cell? _ _ U6;have HC:=hdq (show∀w':World,(∀y,y < w1.heap.size->y≠w.heap.size+1->w'.heap[y]? =w1.heap[y]?)->w'.cell? ⟨w.heap.size,2,none⟩=some (.slice (some ⟨b0,o0,none⟩) ks.length cap)/\w'.cell? ⟨b0,o0+2,none⟩=some (.slice (some ⟨b3,o3,none⟩) i6.length C7)/\w'.cell? ⟨b3,o3+3,none⟩=some (.int .i64 k3)/\w'.cell? ⟨b3,o3+4,none⟩=some (.int .i64 n3)/\w'.cell? ⟨b3,o3+5,none⟩=some (.slice A3 o7.length M2)/\w'.cell? ⟨b0,o0+3,none⟩=some (.int .i64 k1)/\w'.cell? ⟨b0,o0+4,none⟩=some (.int .i64 n1)/\w'.cell? ⟨b0,o0+5,none⟩=some (.slice A1 j9.length I0) from fun w' h=> by
  have F9: ∀q i v,q < w.heap.size+1->w1.cell? ⟨q,i,none⟩=some v->w'.cell? ⟨q,i,none⟩=some v:=fun q i v hq hv=>(World.cell?_of_block (a:=⟨q,i,none⟩) (h q (by omega) (by omega))).trans hv
  exact⟨F9 _ _ _ (by omega) z2,F9 _ _ _ (by omega) (p8.cell V0),F9 _ _ _ (by omega) (p8.cell U6),F9 _ _ _ (by omega) (p8.cell c31),F9 _ _ _ (by omega) (p8.cell U8),F9 _ _ _ (by omega) (p8.cell c10),F9 _ _ _ (by omega) (p8.cell c11),F9 _ _ _ (by omega) (p8.cell c12)⟩)
 have D8:Ext w1 w1.drew:=(xr w1).drew;have L3:=J4.ext p8;have L1:=D2.ext p8;clear bm N0 aa D7 P8 F3 V5 Q3 hK3 D3 D2 J4 E4 u6 D1 hK j7 Q5 U0 W9 V0 c10 c11 c12 U6 c31 U8 z0 z1 z2 D5;go_wp2_with fail
 go_region_held3 (fun w'=> w'.cell? ⟨w.heap.size,2,none⟩=some (.slice (some ⟨b0,o0,none⟩) ks.length cap)/\w'.cell? ⟨b0,o0+2,none⟩=some (.slice (some ⟨b3,o3,none⟩) i6.length C7)/\w'.cell? ⟨b3,o3+3,none⟩=some (.int .i64 k3)/\w'.cell? ⟨b3,o3+4,none⟩=some (.int .i64 n3)/\w'.cell? ⟨b3,o3+5,none⟩=some (.slice A3 o7.length M2)/\w'.cell? ⟨b0,o0+3,none⟩=some (.int .i64 k1)/\w'.cell? ⟨b0,o0+4,none⟩=some (.int .i64 n1)/\w'.cell? ⟨b0,o0+5,none⟩=some (.slice A1 j9.length I0))
  (first|exact HC.out _ (fun y h1 h2=> by rw[Below.heap_setCell _ _ _ _ h2,Below.heap_setCell _ _ _ _ h2,Below.heap_setCell _ _ _ _ h2];exact(D8.trans ui).heap y h1) |exact HC.out _ (fun y h1 _=>(D8.trans ui).heap y h1) |exact HC.out _ (fun y h1 _=> D8.heap y h1))
  (first|(go_at_call 141;refine(j160 V1.out _ _ _ (L3.ext D8) hv3 (L1.ext D8) Z4).mono ?_;rintro e w2 ⟨a1,a2,a3,a4,a5,rfl,hM,ui⟩;obtain⟨s0,s1,s2,f0,f1,f2⟩:=own3 ((D8.trans ui).blk B7)))
 have hE:=p8.trans (D8.trans ui);have Md:w1.heap.size<=w1.drew.heap.size:=D8.size;clear HC B7;go_wp2_with fail;have hsz:=p8.size;refine bodyPost_ret (v:= .tuple #[.agg #[.int .i64 a1,.int .i64 a2,.slice a3 a4 a5],.bool (valid sigT TT)]) (by simp[results,Tryz.results108,go_sem,s0,s1,s2]) rfl ⟨_,rfl,Made.since (hM.after ((((y25.refl _ _).setCell (p:=⟨w.heap.size+1,0,none⟩) (by show w.heap.size+1 < _;omega) (.int .i64 a1)).setCell (p:=⟨w.heap.size+1,1,none⟩) (by show w.heap.size+1 < _;omega) (.int .i64 a2)).setCell (p:=⟨w.heap.size+1,2,none⟩) (by show w.heap.size+1 < _;omega) (.slice a3 a4 a5))) (by omega),(((hE.setCell (p:=⟨w.heap.size+1,0,none⟩) (by show w.heap.size<=w.heap.size+1;omega) _).setCell (p:=⟨w.heap.size+1,1,none⟩) (by show w.heap.size<=w.heap.size+1;omega) _).setCell (p:=⟨w.heap.size+1,2,none⟩) (by show w.heap.size<=w.heap.size+1;omega) _)⟩
mutual
theorem j191(u:Tr): ∀(t:Tr) (x d:Int),cnt (sbsT u t x d)<=cnt t*cnt u
 | .mk k n ks,x,d=> by
  have hu:=j103 u;rw[sbsT]
  split
  · rw[j120,cnt]
    exact Nat.le_mul_of_pos_left _ (Nat.succ_pos _)
  · rw[cnt,cnt,Nat.add_mul,Nat.one_mul]
    have:=q151 u k ks 0 x d;omega
theorem q151(u:Tr): ∀(k:Int) (ts:List Tr) (i:Nat) (x d:Int),cnts (q21 u k ts i x d)<=cnts ts*cnt u
 |_, [],_,_,_=> by simp[q21,cnts]
 |k,t::ts,i,x,d=> by
  have h1:=j191 u t (x+und k i) (d+und k i);have h2:=q151 u k ts (i+1) x d;rw[q21,cnts,cnts,Nat.add_mul];omega
end
theorem kd_cnt(ks:List Tr)(j:Nat):cnt (kd ks j)<=cnts ks+1:=by
 by_cases h:j < ks.length
 · have:=cnts_kd h;omega
 · unfold kd
   rw[List.getD_eq_getElem?_getD,List.getElem?_eq_none (by omega)];simp[q16,cnt,cnts]
theorem y214(t:Tr):cnts t.kids+1=cnt t:=by cases t;rfl
theorem y205{t:Tr}(h:cnt t<=400):cnt (ctrT t)<=1000000:=by
 obtain⟨k,n,ks⟩:=t;have h0: ∀j,cnt (kd ks j)<=400:=fun j=> by have:=kd_cnt ks j;rw[cnt] at h;omega
 have h1: ∀i j,cnt (kd (kd ks i).kids j)<=400:=fun i j=> by have:=kd_cnt (kd ks i).kids j;have:=y214 (kd ks i);have:=h0 i;omega
 show cnt (ctr k ks)<=1000000
 unfold ctr
 split
 · have h2:=j191 (kd ks 1) (kd (kd ks 0).kids 1) 0 0
   have h3:=Nat.mul_le_mul (h1 0 1) (h0 1);omega
 · split
   · split
     · have:=h0 1;omega
     · have a0:=h0 0;have a1:=h0 1;have a2:=h0 2;have a3:=h1 3 0
       simp only[cnt,cnts];omega
   · split
     · have:=h0 2;omega
     · split
       · have:=h1 0 1;omega
       · have:=h1 0 2;omega
end Go.Proofs.YtbnkbepgmenblaaGreat
namespace Go.Proofs.YtbnkbepgmenblaaGreat
open Go.RowKit
attribute [local go_sem ↓] Go.wp_at_zero Go.wp_at_succ
theorem q140(G:List Tr)(t:Tr)(w0:World)(N:Nat->Prop)(A:Option Addr)(ca:Nat)(v:Value)(ht:InT w0 N t v)(hL:20<=G.length):
 Calls Tryz.prog 154 #[.slice A G.length ca,v] w0 fun e w'=> e= .returned (.tuple #[.slice none 0 0,.int .i64 2])/\Ext w0 w':=by
 obtain⟨k,n,ks⟩:=t;obtain⟨At,ct,rfl,hl,hc,hK⟩:=InT.mk_iff.1 ht;have t1:decide ((20:Int)<=(G.length:Int))=true:=decide_eq_true (by omega);clear ht hK;go_enter Tryz.func154,Tryz.ntmps154;go_wp2_with fail;go_ret2;exact⟨rfl,(xr _).alloc _⟩
theorem y111(G:List Tr)(t:Tr)(w0:World)(N:Nat->Prop)(hN: ∀b,w0.heap.size<=b->N b)(A:Option Addr)(ca:Nat)(v:Value)(hG:InK w0 N A G)(ht:InT w0 N t v)(hL:G.length < 20):
 Calls Tryz.prog 154 #[.slice A G.length ca,v] w0 fun e w'=> ∃A' c',e= .returned (.tuple #[.slice A' (G.length+1) c',.int .i64 0])/\G.length+1<=c'/\c'<=maxLen/\InK w' N A' (G++ [t])/\Ext w0 w':=by
 obtain⟨k,n,ks⟩:=t;obtain⟨At,ct,rfl,hl,hc,hK⟩:=InT.mk_iff.1 ht;have t1:decide ((20:Int)<=(G.length:Int))=false:=decide_eq_false (by omega);obtain⟨i0,hi,hz0,hz1,hz2⟩:=info_parts j117;have HT:=hdq ht;have HG:=hdq hG;have HN:=hdq hN;have X1:=(xr w0).alloc (.cells #[.int .i64 k,.int .i64 n,.slice At ks.length ct] 25);have B1:=heap_alloc_new w0 (.cells #[.int .i64 k,.int .i64 n,.slice At ks.length ct] 25);obtain⟨w1,i7⟩: ∃x,x=w0.alloc (.cells #[.int .i64 k,.int .i64 n,.slice At ks.length ct] 25):=⟨_,rfl⟩;rw[<-i7] at X1 B1;clear ht hK hG hN;go_enter Tryz.func154,Tryz.ntmps154;go_wp2_with fail;rw[<-i7];clear i7;obtain⟨z0,z1,z2,-,-,-⟩:=own3 B1;have E8:=hdq (show∀w',Ext w1 w'->w'.cell? ⟨w0.heap.size,0,none⟩=some (.int .i64 k)/\w'.cell? ⟨w0.heap.size,1,none⟩=some (.int .i64 n)/\w'.cell? ⟨w0.heap.size,2,none⟩=some (.slice At ks.length ct) from fun w' h=>⟨h.cell z0,h.cell z1,h.cell z2⟩);clear z0 z1 z2 B1;have hsz:=X1.size;have XD:Ext w1 w1.drew:=(xr w1).drew;have FIN:=hdq (show∀(wc w2 w3:World) (v2:Value) (xs:List Value) (g:Nat),Ext w1 wc->wc.heap.size<=w2.heap.size->Ext w2 w3->w2.ownsRow wc.heap.size 25 3 v2 G.length xs->RowL w2 (fun b=> N b/\b < wc.heap.size) xs G->q19 (fun b=> b < wc.heap.size/\ ¬N b) wc w3 25 v2 G from fun wc w2 w3 v2 xs g hc h1 h2 h3 h4=> by
  have:=q19.ext (X:=fun b=> b < wc.heap.size/\ ¬N b) (W:=wc) (w:=w2) (e:=25) (v:=v2) (ks:=G) ⟨xs,h3,h4.mono (fun b hb=>⟨by omega,fun e=> by have:=(h3.lt b e).1;omega,fun e=> e.2 hb.1⟩) (fun _ _=> rfl)⟩ h2;exact this)
 have HTB:=hdq HT.out.bound;refine wp_region_held_drew (S:=fun w'=> w'.cell? ⟨w0.heap.size,0,none⟩=some (.int .i64 k)/\w'.cell? ⟨w0.heap.size,1,none⟩=some (.int .i64 n)/\w'.cell? ⟨w0.heap.size,2,none⟩=some (.slice At ks.length ct)) (by kernel_rfl) (E8.out _ XD) (fun _=> ?_);refine wpAnyH_take (i:=0) (v:= ?v0) rfl (by kernel_rfl) (by kernel_rfl) (by kernel_rfl) (fun _ _ _ h=> h) (Or.inl ⟨by rfl, ?hy0⟩) (by assumption) ?rest0
 case hy0=>(intro w hSw;(try dsimp only at hSw);go_simp;(try with_reducible rfl))
 try simp only[Act.put,List.getElem_toArray,List.getElem_cons_succ,List.getElem_cons_zero,List.setIfInBounds_toArray,List.set_cons_zero,List.set_cons_succ]
 refine wpAnyH_take (i:=2) (v:= ?v2) rfl (by kernel_rfl) (by kernel_rfl) (by kernel_rfl) (fun _ _ _ h=> h) (Or.inl ⟨by rfl, ?hy2⟩) (by assumption) ?rest2
 case hy2=>(intro w hSw;(try dsimp only at hSw);go_simp;(try with_reducible rfl))
 try simp only[Act.put,List.getElem_toArray,List.getElem_cons_succ,List.getElem_cons_zero,List.setIfInBounds_toArray,List.set_cons_zero,List.set_cons_succ]
 refine wpAnyH_ready (rs:= [1,3]) (by kernel_rfl) (by simp) ?_;refine AllReadyH.cons rfl (fun K hK=> ?_) (AllReadyH.cons rfl (fun K hK=> ?_) AllReadyH.nil)
 · (go_simp;go_at_call 152;refine(j116 G _ N A ca (HG.out.later (X1.trans XD)) (by omega)).mono ?_;rintro e w2 ⟨v2,xs,rfl,hO,hR,e2⟩;dsimp only)
   refine hK.out _ _ (E8.out _ (XD.trans e2)) (fun hHeld=> ?_);clear hK K
   try simp only[Act.put,List.getElem_toArray,List.getElem_cons_succ,List.getElem_cons_zero,List.setIfInBounds_toArray,List.set_cons_zero,List.set_cons_succ]
   refine wpAnyH_ready (rs:= [3]) (by kernel_rfl) (by simp) ?_;refine AllReadyH.cons rfl (fun K hK=> ?_) AllReadyH.nil
   go_simp
   refine hK.out _ _ (E8.out _ ((XD.trans e2).alloc _)) (fun hHeld=> ?_);clear hK K
   try simp only[Act.put,List.getElem_toArray,List.getElem_cons_succ,List.getElem_cons_zero,List.setIfInBounds_toArray,List.set_cons_zero,List.set_cons_succ]
   have Eb:=FIN.out w1.drew w2 (w2.alloc (.cells #[.int .i64 k,.int .i64 n,.slice At ks.length ct] 25)) _ xs 0 XD e2.size ((xr w2).alloc _) hO hR;have hs3:w0.heap.size<=(w2.alloc (.cells #[.int .i64 k,.int .i64 n,.slice At ks.length ct] 25)).heap.size:=((X1.trans ((XD.trans e2).alloc _))).size;refine wpAnyH_ready (rs:= [4]) (by kernel_rfl) (by simp) ?_;refine AllReadyH.cons rfl (fun K hK=> ?_) AllReadyH.nil;have gm:Ext w0 (w2.alloc (.cells #[.int .i64 k,.int .i64 n,.slice At ks.length ct] 25)):=X1.trans ((XD.trans e2).alloc _);have hwc:w0.heap.size<=(w1.drew).heap.size:=(X1.trans XD).size;refine y35 _ (.tmp 10) (.tmp 12) _ (by rfl) 25 i0 _ Tryz.underlying23 hi hz0 hz1 hz2 rfl (by rfl) Eb (Nat.le_trans e2.size ((xr w2).alloc _).size) (tr:= .mk k n ks) (InT.mono (fun b hb=>⟨Nat.lt_of_lt_of_le hb.2 gm.size,fun e=> by have:=(hO.lt b e).1;omega,fun e=> e.2 hb.1⟩) (fun b hb=> gm.heap b hb.2) HTB.out) (by rfl) (heap_alloc_new _ _) (by omega) ?_ (fun b hb=> hb.1);intro v5 w5 G7 E6;have I4:Ext w1 w5:=Ext.trans' ((XD.trans e2).alloc _) E6 (XD).size;refine hK.out _ _ (E8.out _ I4) (fun hHeld=> ?_);clear hK K;obtain⟨A5,c5,rfl,q1,q2,q3,-⟩:=G7.lies (fun b hb=> hb.1);have yn:InK w5 N A5 (G++ [.mk k n ks]):=InK.mono (fun b hb=> by
    by_cases e:N b
    · exact e
    · exact HN.out b (Nat.le_trans hwc (Nat.not_lt.1 fun h=> hb.2 ⟨h,e⟩))) (fun _ _=> rfl) q3
   rw[List.length_append,List.length_singleton] at q1⊢;have HI5:=hdq yn;clear yn q3 G7 E6 Eb hR hO
   try simp only[Act.put,List.getElem_toArray,List.getElem_cons_succ,List.getElem_cons_zero,List.setIfInBounds_toArray,List.set_cons_zero,List.set_cons_succ]
   refine wpAnyH_take (i:=5) (v:= ?vc5) rfl (by kernel_rfl) (by kernel_rfl) (by kernel_rfl) (fun _ _ _ h=> h) (Or.inl ⟨by rfl, ?hyc5⟩) (by assumption) ?restc5
   case hyc5=>(intro w hSw;(try dsimp only at hSw);go_simp;(try with_reducible rfl))
   try simp only[Act.put,List.getElem_toArray,List.getElem_cons_succ,List.getElem_cons_zero,List.setIfInBounds_toArray,List.set_cons_zero,List.set_cons_succ]
   refine wpAnyH_take (i:=6) (v:= ?vc6) rfl (by kernel_rfl) (by kernel_rfl) (by kernel_rfl) (fun _ _ _ h=> h) (Or.inl ⟨by rfl, ?hyc6⟩) (by assumption) ?restc6
   case hyc6=>(intro w hSw;(try dsimp only at hSw);go_simp;(try with_reducible rfl))
   try simp only[Act.put,List.getElem_toArray,List.getElem_cons_succ,List.getElem_cons_zero,List.setIfInBounds_toArray,List.set_cons_zero,List.set_cons_succ]
   refine wpAnyH_done (by kernel_rfl) ?_ _;go_wp2_with fail;go_ret2;exact⟨A5,c5,rfl,q1,q2,HI5.out,X1.trans I4⟩
 · go_simp
   refine hK.out _ _ (E8.out _ (XD.alloc _)) (fun hHeld=> ?_);clear hK K
   try simp only[Act.put,List.getElem_toArray,List.getElem_cons_succ,List.getElem_cons_zero,List.setIfInBounds_toArray,List.set_cons_zero,List.set_cons_succ]
   refine wpAnyH_ready (rs:= [1]) (by kernel_rfl) (by simp) ?_;refine AllReadyH.cons rfl (fun K hK=> ?_) AllReadyH.nil
   (go_simp;go_at_call 152;refine(j116 G _ N A ca (HG.out.later (X1.trans (XD.alloc _))) (by omega)).mono ?_;rintro e w2 ⟨v2,xs,rfl,hO,hR,e2⟩;dsimp only)
   refine hK.out _ _ (E8.out _ ((XD.alloc _).trans e2)) (fun hHeld=> ?_);clear hK K
   try simp only[Act.put,List.getElem_toArray,List.getElem_cons_succ,List.getElem_cons_zero,List.setIfInBounds_toArray,List.set_cons_zero,List.set_cons_succ]
   have Eb:=FIN.out _ w2 w2 _ xs 0 (XD.alloc _) e2.size (xr _) hO hR;have hs3:w0.heap.size<=(w2).heap.size:=(X1.trans ((XD.alloc _).trans e2)).size;refine wpAnyH_ready (rs:= [4]) (by kernel_rfl) (by simp) ?_;refine AllReadyH.cons rfl (fun K hK=> ?_) AllReadyH.nil;have gm:Ext w0 (w2):=X1.trans ((XD.alloc _).trans e2);have hwc:w0.heap.size<=(w1.drew.alloc (.cells #[.int .i64 k,.int .i64 n,.slice At ks.length ct] 25)).heap.size:=(X1.trans (XD.alloc _)).size;refine y35 _ (.tmp 10) (.tmp 12) _ (by rfl) 25 i0 _ Tryz.underlying23 hi hz0 hz1 hz2 rfl (by rfl) Eb (e2.size) (tr:= .mk k n ks) (InT.mono (fun b hb=>⟨Nat.lt_of_lt_of_le hb.2 gm.size,fun e=> by have:=(hO.lt b e).1;omega,fun e=> e.2 hb.1⟩) (fun b hb=> gm.heap b hb.2) HTB.out) (by rfl) (e2.blk (heap_alloc_new _ _)) (by omega) ?_ (fun b hb=> hb.1);intro v5 w5 G7 E6;have I4:Ext w1 w5:=Ext.trans' ((XD.alloc _).trans e2) E6 ((XD.alloc _)).size;refine hK.out _ _ (E8.out _ I4) (fun hHeld=> ?_);clear hK K;obtain⟨A5,c5,rfl,q1,q2,q3,-⟩:=G7.lies (fun b hb=> hb.1);have yn:InK w5 N A5 (G++ [.mk k n ks]):=InK.mono (fun b hb=> by
    by_cases e:N b
    · exact e
    · exact HN.out b (Nat.le_trans hwc (Nat.not_lt.1 fun h=> hb.2 ⟨h,e⟩))) (fun _ _=> rfl) q3
   rw[List.length_append,List.length_singleton] at q1⊢;have HI5:=hdq yn;clear yn q3 G7 E6 Eb hR hO
   try simp only[Act.put,List.getElem_toArray,List.getElem_cons_succ,List.getElem_cons_zero,List.setIfInBounds_toArray,List.set_cons_zero,List.set_cons_succ]
   refine wpAnyH_take (i:=5) (v:= ?vb5) rfl (by kernel_rfl) (by kernel_rfl) (by kernel_rfl) (fun _ _ _ h=> h) (Or.inl ⟨by rfl, ?hyb5⟩) (by assumption) ?restb5
   case hyb5=>(intro w hSw;(try dsimp only at hSw);go_simp;(try with_reducible rfl))
   try simp only[Act.put,List.getElem_toArray,List.getElem_cons_succ,List.getElem_cons_zero,List.setIfInBounds_toArray,List.set_cons_zero,List.set_cons_succ]
   refine wpAnyH_take (i:=6) (v:= ?vb6) rfl (by kernel_rfl) (by kernel_rfl) (by kernel_rfl) (fun _ _ _ h=> h) (Or.inl ⟨by rfl, ?hyb6⟩) (by assumption) ?restb6
   case hyb6=>(intro w hSw;(try dsimp only at hSw);go_simp;(try with_reducible rfl))
   try simp only[Act.put,List.getElem_toArray,List.getElem_cons_succ,List.getElem_cons_zero,List.setIfInBounds_toArray,List.set_cons_zero,List.set_cons_succ]
   refine wpAnyH_done (by kernel_rfl) ?_ _;go_wp2_with fail;go_ret2;exact⟨A5,c5,rfl,q1,q2,HI5.out,X1.trans I4⟩
end Go.Proofs.YtbnkbepgmenblaaGreat
