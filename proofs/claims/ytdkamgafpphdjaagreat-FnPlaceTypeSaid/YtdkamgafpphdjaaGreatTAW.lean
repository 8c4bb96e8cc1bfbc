/-
  Lemmas towards the law, 23: Places3, Walked2.
-/
import Derived.Test.YtdkamgafpphdjaaGreatTAV
namespace Go.Proofs.YtdkamgafpphdjaaGreat
open Go.RowKit
set_option linter.unusedVariables false
attribute [local go_sem ↓] Go.wp_at_zero Go.wp_at_succ
theorem j176(rd:Bool)(t:Tr):plV rd t=if valid sigT t=true then plc (askP rd) t [] else []:=by
 have e:(if rd=true then q106 else allP)=askP rd:=by
  cases rd
  · funext x;rfl
  · funext x;rfl
 unfold plV;rw[e]
theorem q175(rd:Bool)(t:Tr):(plV rd t).length<=400:=by
 unfold plV
 split
 · rename_i h
   have:=j163 (if rd=true then q106 else allP) t [];have:=(q14 h).1;omega
 · simp
set_option maxRecDepth 100000 in
set_option maxHeartbeats 1000000 in
theorem y92(t:Tr)(w:World)(v:Value)(hin:Lies w t v):Calls Tryz.prog 115 #[v] w fun e w'=> ∃x,e= .returned x/\q25 w w' 26 x (plV false t)/\Ext w w':=by
 have HV:=hdq (fun W (hW:Ext w W)=> y26 t W v (hin.ext hW));have E:=hdq (j176 false t);have HB:=hdq (fun(h:valid sigT t=true)=> q14 h);obtain⟨z,hz⟩: ∃z,valid sigT t=z:=⟨_,rfl⟩;rw[hz] at HV E HB;clear hz;obtain⟨k,n,ks⟩:=t;have hin0:=hin;obtain⟨A,cap,rfl,hl,hc,hK⟩:=Lies.mk_iff.1 hin;have hx0:=(xr w).alloc (.cells #[.int .i64 k, .int .i64 n, .slice A ks.length cap] 25);have hbB:=heap_alloc_new w (.cells #[.int .i64 k, .int .i64 n, .slice A ks.length cap] 25);cases z with
 |false=>
  have E2:=hdq (E.out.trans (if_neg (by decide)));clear E HB;go_enter Tryz.func115,Tryz.ntmps115;go_wp2_with fail;refine(HV.out _ hx0).mono ?_;rintro e w1 ⟨rfl,h1⟩;go_wp2_with fail;go_ret;exact⟨_,rfl,by rw[E2.out];exact q25.lit (heap_alloc_new w1 _) (hx0.trans h1).size,(hx0.trans h1).alloc _⟩
 |true=>
  have E2:=hdq (E.out.trans (if_pos rfl));have hcs:=HB.out rfl;clear E HB;go_enter Tryz.func115,Tryz.ntmps115;go_wp2_with fail;refine(HV.out _ hx0).mono ?_;rintro e w1 ⟨rfl,h1⟩;obtain⟨z0,z1,z2,-,-,-⟩:=own3 (h1.blk hbB);have lz:=q10 (h1.blk hbB);have hx2:=(xr w1).alloc (.cells #[] 26);have hx3:=hx2.alloc (.cells #[] 3);have hG:q25 w ((w1.alloc (.cells #[] 26)).alloc (.cells #[] 3)) 26 (.slice (some ⟨w1.heap.size,0,none⟩) 0 0) []:=(q25.lit (heap_alloc_new w1 _) (hx0.trans h1).size).ext ((xr _).alloc _);have hP:q19 ((w1.alloc (.cells #[] 26)).alloc (.cells #[] 3)) (fun b=> b <((w1.alloc (.cells #[] 26)).alloc (.cells #[] 3)).heap.size/\(Value.slice (some ⟨w1.heap.size,0,none⟩) 0 0).ownBlock≠some b) (.slice (some ⟨w1.heap.size+1,0,none⟩) 0 0) []:= .inr ⟨w1.heap.size+1,0,0,rfl,Nat.le_refl _,Nat.zero_le _,⟨by simp,by simp[Value.ownBlock]⟩,fun j hj=> absurd hj (by simp)⟩;have hon: ∀b,b∈(Value.slice (some ⟨w1.heap.size,0,none⟩) 0 0).ownBlock.toList->w.heap.size<=b:=fun b hb=> by
   simp[Value.ownBlock] at hb
   have:=(hx0.trans h1).size;omega
  have HCALL:=hdq (y91 (.mk k n ks) w _ _ _ _ [] [] 30 false hcs.2 hin0 ((hx0.trans h1).trans hx3) hG hP (by have:=hcs.1;simp;omega) (by have:=hcs.1;simp;omega));clear hbB hG hP hcs hx2;go_wp2_with fail;refine HCALL.out.mono ?_;rintro e w2 ⟨x,rfl,hG2,hO2,-⟩;have hE2:Ext w w2:=hO2.ext ((hx0.trans h1).trans hx3) hon;clear hO2 hon;go_wp2_with fail;go_ret;exact⟨_,rfl,by rw[E2.out];exact hG2,hE2⟩
set_option maxRecDepth 100000 in
set_option maxHeartbeats 1000000 in
theorem j72(t:Tr)(w:World)(v:Value)(hin:Lies w t v):Calls Tryz.prog 116 #[v] w fun e w'=> ∃x,e= .returned x/\q25 w w' 26 x (plV true t)/\Ext w w':=by
 have HV:=hdq (fun W (hW:Ext w W)=> y26 t W v (hin.ext hW));have E:=hdq (j176 true t);have HB:=hdq (fun(h:valid sigT t=true)=> q14 h);obtain⟨z,hz⟩: ∃z,valid sigT t=z:=⟨_,rfl⟩;rw[hz] at HV E HB;clear hz;obtain⟨k,n,ks⟩:=t;have hin0:=hin;obtain⟨A,cap,rfl,hl,hc,hK⟩:=Lies.mk_iff.1 hin;have hx0:=(xr w).alloc (.cells #[.int .i64 k, .int .i64 n, .slice A ks.length cap] 25);have hbB:=heap_alloc_new w (.cells #[.int .i64 k, .int .i64 n, .slice A ks.length cap] 25);cases z with
 |false=>
  have E2:=hdq (E.out.trans (if_neg (by decide)));clear E HB;go_enter Tryz.func116,Tryz.ntmps116;go_wp2_with fail;refine(HV.out _ hx0).mono ?_;rintro e w1 ⟨rfl,h1⟩;go_wp2_with fail;go_ret;exact⟨_,rfl,by rw[E2.out];exact q25.lit (heap_alloc_new w1 _) (hx0.trans h1).size,(hx0.trans h1).alloc _⟩
 |true=>
  have E2:=hdq (E.out.trans (if_pos rfl));have hcs:=HB.out rfl;clear E HB;go_enter Tryz.func116,Tryz.ntmps116;go_wp2_with fail;refine(HV.out _ hx0).mono ?_;rintro e w1 ⟨rfl,h1⟩;obtain⟨z0,z1,z2,-,-,-⟩:=own3 (h1.blk hbB);have lz:=q10 (h1.blk hbB);have hx2:=(xr w1).alloc (.cells #[] 26);have hx3:=hx2.alloc (.cells #[] 3);have hG:q25 w ((w1.alloc (.cells #[] 26)).alloc (.cells #[] 3)) 26 (.slice (some ⟨w1.heap.size,0,none⟩) 0 0) []:=(q25.lit (heap_alloc_new w1 _) (hx0.trans h1).size).ext ((xr _).alloc _);have hP:q19 ((w1.alloc (.cells #[] 26)).alloc (.cells #[] 3)) (fun b=> b <((w1.alloc (.cells #[] 26)).alloc (.cells #[] 3)).heap.size/\(Value.slice (some ⟨w1.heap.size,0,none⟩) 0 0).ownBlock≠some b) (.slice (some ⟨w1.heap.size+1,0,none⟩) 0 0) []:= .inr ⟨w1.heap.size+1,0,0,rfl,Nat.le_refl _,Nat.zero_le _,⟨by simp,by simp[Value.ownBlock]⟩,fun j hj=> absurd hj (by simp)⟩;have hon: ∀b,b∈(Value.slice (some ⟨w1.heap.size,0,none⟩) 0 0).ownBlock.toList->w.heap.size<=b:=fun b hb=> by
   simp[Value.ownBlock] at hb
   have:=(hx0.trans h1).size;omega
  have HCALL:=hdq (y91 (.mk k n ks) w _ _ _ _ [] [] 30 true hcs.2 hin0 ((hx0.trans h1).trans hx3) hG hP (by have:=hcs.1;simp;omega) (by have:=hcs.1;simp;omega));clear hbB hG hP hcs hx2;go_wp2_with fail;refine HCALL.out.mono ?_;rintro e w2 ⟨x,rfl,hG2,hO2,-⟩;have hE2:Ext w w2:=hO2.ext ((hx0.trans h1).trans hx3) hon;clear hO2 hon;go_wp2_with fail;go_ret;exact⟨_,rfl,by rw[E2.out];exact hG2,hE2⟩
def outP(t:Tr):List Int:=(outT t).getD []
def OutC(t:Tr):Prop:= ∀(w:World) (v:Value) (d:Int),shape sigT t d=true->Lies w t v->d<=1000->Calls Tryz.prog 131 #[v] w fun e w'=> ∃x,e= .returned (.tuple #[x, .bool (outT t).isSome])/\w'.ownsRow w.heap.size 3 1 x (outP t).length ((outP t).map (Value.int .i64))/\Ext w w'
set_option maxRecDepth 100000 in
set_option maxHeartbeats 2000000 in
theorem q190: ∀t:Tr,OutC t:=Tr.ind fun k n ks hk=> by
 intro w v d hsh hin hd;have HR:=hdq (fun V (hV:Ext w V)=> q36 (.mk k n ks) d hsh V v (hin.ext hV));have hol:=q120 (.mk k n ks) d hsh;obtain⟨-,-,-,hsk⟩:=y25 hsh;obtain⟨A,cap,rfl,hl,hc,hK⟩:=Lies.mk_iff.1 hin;obtain⟨i0,hi,hz0,hz1,hz2⟩:=info_parts y118;have hcc:=hc;unfold maxLen at hcc;have ho:outT (.mk k n ks)=if rdx k ks=0 then j53 0 ks else some []:=by rw[outT]
 have hx0:=(xr w).alloc (.cells #[.int .i64 k, .int .i64 n, .slice A ks.length cap] 25);have hbB:=heap_alloc_new w (.cells #[.int .i64 k, .int .i64 n, .slice A ks.length cap] 25);obtain⟨r,hr⟩: ∃r,rdx k ks=r:=⟨_,rfl⟩;have HR2:=hdq (show∀V,Ext w V->Calls Tryz.prog 56 #[.agg #[.int .i64 k, .int .i64 n, .slice A ks.length cap]] V fun e w'=> e= .returned (.int .i64 r)/\Ext V w' from fun V hV=> by have:=HR.out V hV;rw[show rdxT (.mk k n ks)=r from hr] at this;exact this);rw[hr] at ho;clear hr HR;by_cases h0:r=0
 · rw[if_pos h0] at ho
   have hb0:(r !=0)=false:=by rw[h0];rfl
   subst h0;have HO:=hdq ho;clear ho hin;go_enter Tryz.func131,Tryz.ntmps131;go_wp2_with fail;refine(HR2.out _ hx0).mono ?_;rintro e w1 ⟨rfl,h1⟩;obtain⟨z0,z1,z2,-,-,-⟩:=own3 (h1.blk hbB);have lz:=q10 (h1.blk hbB);have hx1:=hx0.trans h1;clear hbB h1 hx0 HR2;go_wp2_with fail;clear z0 z1 z2 lz
   go_loopw [14] (fun i wr=> ∃(j:Nat),j<=ks.length/\i= .int .i64 j/\Hid (j53 0 ks=j53 j (ks.drop j))/\Ext w wr) (fun i _=> ks.length -(intOf i).toNat)
   case atStart=> exact⟨0,Nat.zero_le _,rfl,hdq rfl,hx1⟩
   case round=>
    obtain⟨j,hj',rfl,HE,hx⟩:=hrel;by_cases hlt:j < ks.length
    · obtain⟨b,o,k',n',A',cap',kids,rfl,HK,c0,c1,c2,hkl,hkc,hK',hin',hmem⟩:=hK.get hx hlt
      have hst:j53 j (ks.drop j)=match outT (.mk k' n' kids) with|some p=> some ((j:Int)::p) |none=> j53 (j+1) (ks.drop (j+1)):=by
       rw[List.drop_eq_getElem_cons hlt,HK.out];conv=> lhs;unfold j53
       rfl
      have hol2:=q120 (.mk k' n' kids) (d - 1) (hsk _ hmem);have hx5:=(xr wr).alloc (.cells #[.int .i64 k', .int .i64 n', .slice A' kids.length cap'] 25);have HC:=hdq (hk _ hmem _ _ (d - 1) (hsk _ hmem) (hin'.ext hx5) (by omega));have hpe:outP (.mk k' n' kids)=(outT (.mk k' n' kids)).getD []:=rfl;rw[hpe] at HC;clear hpe;generalize outT (.mk k' n' kids)=q at hst hol2 HC;have hj2:(j:Int) <(ks.length:Int):=by omega
      clear hol hin';go_wp2_with fail;refine HC.out.mono ?_;rintro e w2 ⟨x,rfl,hq,h2⟩;have hx2:=(hx.trans hx5).trans h2;cases q with
      |some p=>
       have hpl:=hol2 p rfl;simp only[Option.getD_some] at hq;simp only at hst;have HO2:=hdq ((HO.out.trans HE.out).trans hst);have hpa:=j30 hq;obtain⟨Bq,cq,rfl,-,-,-⟩:=y24 hq;have hx3:=(xr w2).alloc (.cells #[.int .i64 j] 3);have hG:(w2.alloc (.cells #[.int .i64 j] 3)).ownsRow w2.heap.size 3 1 (.slice (some ⟨w2.heap.size,0,none⟩) 1 1) ([(j:Int)]).length (([(j:Int)]).map (Value.int .i64)):=World.ownsRow_lit w2 #[.int .i64 j] 1 (Nat.le_refl _) (by decide) rfl;have hpa3:=hpa.ext hx3;clear hst HC HE HO hpa hq hol2;go_wp2_with (at_builtin;refine q17 _ rfl (.tmp 26) (.tmp 27) 26 rfl w2.heap.size 3 i0 _ 8 Tryz.underlying26 hi hz0 hz1 hz2 (by decide) rfl (ns:= [(j:Int)]) (p:=p) rfl hG (by simp) rfl hpa3 (by simp;omega) ?_)
       intro va wa hva hga hoa;have hEa:Ext w wa:=hx2.trans (hx3.grown hga (by intro g hg;simp[Value.ownBlock] at hg;omega));have hsz:=hx2.size;have hvw:wa.ownsRow w.heap.size 3 1 va ((j:Int)::p).length ((((j:Int)::p)).map (Value.int .i64)):=y31 hva hsz;have HVW:=hdq hvw;clear hva hga hoa hvw;go_wp2_with fail;go_ret2;have hou:outP (.mk k n ks)=(j:Int)::p:=by unfold outP;rw[HO2.out];rfl
       exact⟨_,by rw[HO2.out];rfl,by rw[hou];exact HVW.out,hEa⟩
      |none=>
       simp only at hst;have HE2:=hdq (HE.out.trans hst);clear hst HC hq hol2;go_wp2_with fail
       go_roundw
       case rel=> exact⟨j+1,by omega,by go_num,HE2,hx2⟩
       case measure=> simp[intOf];omega
    · have HO2:=hdq ((HO.out.trans HE.out).trans (show j53 j (ks.drop j)=none by rw[List.drop_of_length_le (by omega),j53]))
      clear HE HO;go_wp2_with fail;go_ret2;have hou:outP (.mk k n ks)= []:=by unfold outP;rw[HO2.out];rfl
      exact⟨_,by rw[HO2.out];rfl,by rw[hou];exact World.ownsRow_nil _ _ _ _,hx⟩
 · rw[if_neg h0] at ho
   have hb0:(r !=0)=true:=bne_iff_ne.2 h0;have HO:=hdq ho;clear ho;go_enter Tryz.func131,Tryz.ntmps131;go_wp2_with fail;refine(HR2.out _ hx0).mono ?_;rintro e w1 ⟨rfl,h1⟩;go_wp2_with fail;go_ret2;have hou:outP (.mk k n ks)= []:=by unfold outP;rw[HO.out];rfl
   exact⟨_,by rw[HO.out];rfl,by rw[hou];exact World.ownsRow_nil _ _ _ _,hx0.trans h1⟩
end Go.Proofs.YtdkamgafpphdjaaGreat
namespace Go.Proofs.YtdkamgafpphdjaaGreat
open Go.RowKit
set_option linter.unusedVariables false
attribute [local go_sem ↓] Go.wp_at_zero Go.wp_at_succ
theorem q125: ∀(a:List Int) (t u:Tr),atT t a=some u->cnt u<=cnt t
 | [],t,u,e=> by
  have e:t=u:=by cases t;simpa[atT] using e
  subst e;exact Nat.le_refl _
 |i::a, .mk k n ks,u,e=> by
  rw[atT] at e
  split at e
  · rename_i hi
    have h1:=q125 a _ u e;have h2:=y15 (y85 (ks:=ks) (i:=i.toNat) (by omega));rw[cnt];omega
  · cases e
def atV(t:Tr)(p:List Int):Tr×Bool:=if valid sigT t=true then((atT t p).getD j14,(atT t p).isSome) else(j14,false)
set_option maxRecDepth 100000 in
set_option maxHeartbeats 4000000 in
theorem q203(t:Tr)(d:Int)(hsh:shape sigT t d=true)(hd:d<=1000)(path:List Int)(w:World)(v:Value)(hin:Lies w t v)(A:Option Addr)(cap:Nat)(hl:path.length<=cap)(hc:cap<=maxLen)(hP:Nums w A path):
 Calls Tryz.prog 122 #[v, .slice A path.length cap] w fun e w'=> ∃x,e= .returned (.tuple #[x, .bool (atT t path).isSome])/\Lies w' ((atT t path).getD j14) x/\Ext w w':=by
 obtain⟨k,n,ks⟩:=t;obtain⟨At,ct,rfl,hlt,hct,hKt⟩:=Lies.mk_iff.1 hin;have hcc:=hc;unfold maxLen at hcc;have hx0:=((xr w).alloc (.cells #[.int .i64 k, .int .i64 n, .slice At ks.length ct] 25)).alloc (.cells #[.int .i64 0, .int .i64 0, .slice none 0 0] 25);obtain⟨hb0,hb1,hs0⟩:=blk2 (xr ((w.alloc (.cells #[.int .i64 k, .int .i64 n, .slice At ks.length ct] 25)).alloc (.cells #[.int .i64 0, .int .i64 0, .slice none 0 0] 25)));clear hin;go_enter Tryz.func122,Tryz.ntmps122;go_wp2_with fail;generalize World.alloc (World.alloc w _) _=wS at hx0 hb0 hb1 hs0⊢
 go_loopw [6] (fun i wr=> ∃(j:Nat) (k' n':Int) (kids:List Tr) (A':Option Addr) (c':Nat) (d':Int),j<=path.length/\i= .int .i64 j/\
  Hid (atT (.mk k n ks) path=atT (.mk k' n' kids) (path.drop j))/\shape sigT (.mk k' n' kids) d'=true/\d'+j<=1000/\kids.length<=c'/\c'<=maxLen/\j21 w A' kids/\
  wr.heap[w.heap.size]? =some (.cells #[.int .i64 k', .int .i64 n', .slice A' kids.length c'] 25 (0,0))/\wr.heap[w.heap.size+1]? =some (.cells #[.int .i64 0, .int .i64 0, .slice none 0 0] 25 (0,0))/\Ext w wr) (fun i _=> path.length -(intOf i).toNat)
 case atStart=> exact⟨0,k,n,ks,At,ct,d,Nat.zero_le _,rfl,hdq rfl,hsh,by simpa using hd,hlt,hct,hKt,hb0,hb1,hx0⟩
 case round=>
  obtain⟨j,k',n',kids,A',c',d',hj,rfl,HA,hsh',hd',hkl,hkc,hK,hb,hbR,hx⟩:=hrel;have hsz:w.heap.size+1 < wr.heap.size:=q10 hbR;have hdp:=j39 hsh';by_cases hlj:j < path.length
  · obtain⟨bp,op,rfl,cp⟩:=hP.get hx hlj
    have hdr:path.drop j=path[j]::path.drop (j+1):=List.drop_eq_getElem_cons hlj;have HA1:=hdq (HA.out.trans (by rw[hdr,q93]));clear HA hdr;generalize path[j]=i at cp HA1;have hj2:(j:Int) <(path.length:Int):=by omega
    have hj0:(0:Int)<=(j:Int):=Int.natCast_nonneg _;obtain⟨hops,-,-,hsk⟩:=y25 hsh';obtain⟨z0,z1,z2,f0,f1,f2⟩:=own3 hb;obtain⟨y0,y1,y2,g0,g1,g2⟩:=own3 hbR;have hkc':=hkc;unfold maxLen at hkc';by_cases hi2:0<=i/\i <(kids.length:Int)
    · rw[if_pos hi2] at HA1
      obtain⟨m,rfl⟩:=Int.eq_ofNat_of_zero_le hi2.1;have hm:m < kids.length:=by omega
      have e0:((m:Int)).toNat=m:=by omega
      have HA2:=hdq (show atT (.mk k n ks) path=atT (kd kids m) (path.drop (j+1)) by have:=HA1.out;rwa [e0] at this);clear HA1 e0;obtain⟨b,o,k2,n2,A2,c2,kids2,rfl,HK,e0,e1,e2,hkl2,hkc2,hK2,hin2,hmem⟩:=hK.get (xr w) hm;have hkd:kd kids m= .mk k2 n2 kids2:=j37 hm HK.out;have hsk2:=hsk _ hmem;rw[hkd] at HA2;have hm2:(m:Int) <(kids.length:Int):=hi2.2;have hm0:(0:Int)<=(m:Int):=hi2.1;have dl1:decide ((m:Int) < 0)=false:=decide_eq_false (by omega);have dl2:decide ((kids.length:Int)<=(m:Int))=false:=decide_eq_false (by omega);have dl3:decide (kids.length<=m)=false:=decide_eq_false (by omega);have d0:=hx.cell e0;have d1:=hx.cell e1;have d2:=hx.cell e2;have hwl:w.heap.size < wr.heap.size:=by omega
      have HBD:=hdq (fun q:Nat=>(show(wr.drewN q).heap[w.heap.size]? =some (.cells #[.int .i64 k', .int .i64 n', .slice (some ⟨b,o,none⟩) kids.length c'] 25 (0,0)) from hb));have HBR:=hdq (fun q:Nat=>(show(wr.drewN q).heap[w.heap.size+1]? =some (.cells #[.int .i64 0, .int .i64 0, .slice none 0 0] 25 (0,0)) from hbR));clear hkd HK hmem hi2 e0 e1 e2;go_wp2_with fail
      go_quiet (fail)
      go_wp2_with fail
      first|(go_region_law (fail)) |fail
      all_goals(
       go_wp2_with fail
       go_roundw
       case rel=> exact⟨j+1,k2,n2,kids2,A2,c2,d' - 1,by omega,by go_num,HA2,hsk2,by omega,hkl2,hkc2,hK2,q11 (q11 (q11 (HBD.out _) 0 _) 1 _) 2 _,j11 (j11 (j11 (HBR.out _) (by simp) _) (by simp) _) (by simp) _,(((hx.drewN _).setCell (by simp) _).setCell (by simp) _).setCell (by simp) _⟩
       case measure=> simp[intOf];omega)
    · rw[if_neg hi2] at HA1
      by_cases hi0:i < 0
      · have dl1:decide (i < 0)=true:=decide_eq_true hi0
        clear hi2;go_wp2_with fail
        go_quiet (fail)
        go_wp2_with fail;refine bodyPost_ret (v:= .tuple #[.agg #[.int .i64 0, .int .i64 0, .slice none 0 0], .bool false]) (by simp[results,Tryz.results122,go_sem,y0,y1,y2]) rfl ⟨_,by rw[HA1.out];rfl, ?_, ?_⟩
        · rw[HA1.out];exact Lies.leaf _ _ _
        · exact(((hx.drewN _).setCell (by simp) _).setCell (by simp) _).setCell (by simp) _
      · have dl1:decide (i < 0)=false:=decide_eq_false hi0
        have dl2:decide ((kids.length:Int)<=i)=true:=decide_eq_true (by omega);have hge:(kids.length:Int)<=i:=by omega
        clear hi2;go_wp2_with fail
        go_quiet (fail)
        go_wp2_with fail;refine bodyPost_ret (v:= .tuple #[.agg #[.int .i64 0, .int .i64 0, .slice none 0 0], .bool false]) (by simp[results,Tryz.results122,go_sem,y0,y1,y2]) rfl ⟨_,by rw[HA1.out];rfl, ?_, ?_⟩
        · rw[HA1.out];exact Lies.leaf _ _ _
        · exact(((hx.drewN _).setCell (by simp) _).setCell (by simp) _).setCell (by simp) _
  · have hd0:path.drop j= []:=List.drop_of_length_le (by omega)
    have HA1:=hdq (show atT (.mk k n ks) path=some (.mk k' n' kids) by rw[HA.out,hd0];rfl);obtain⟨z0,z1,z2,f0,f1,f2⟩:=own3 hb;obtain⟨y0,y1,y2,g0,g1,g2⟩:=own3 hbR;have hwl:w.heap.size < wr.heap.size:=by omega
    clear HA hd0;go_wp2_with fail;refine bodyPost_ret (v:= .tuple #[.agg #[.int .i64 k', .int .i64 n', .slice A' kids.length c'], .bool true]) (by simp[results,Tryz.results122,go_sem,y0,y1,y2]) rfl ⟨_,by rw[HA1.out];rfl, ?_, ?_⟩
    · rw[HA1.out]
      exact Lies.mk hkl hkc (hK.ext (((hx.setCell (by simp) _).setCell (by simp) _).setCell (by simp) _))
    · exact((hx.setCell (by simp) _).setCell (by simp) _).setCell (by simp) _
set_option maxRecDepth 100000 in
set_option maxHeartbeats 1000000 in
theorem j164(t:Tr)(path:List Int)(w:World)(v:Value)(hin:Lies w t v)(A:Option Addr)(cap:Nat)(hl:path.length<=cap)(hc:cap<=maxLen)(hP:Nums w A path):Calls Tryz.prog 22 #[v, .slice A path.length cap] w fun e w'=> ∃u,e= .returned (.tuple #[u, .bool (atV t path).2])/\From w.heap.size w' (atV t path).1 u/\Ext w w':=by
 have HV:=hdq (fun W (hW:Ext w W)=> q18 t W v (hin.ext hW));have HX:=hdq (fun(h:valid sigT t=true) W (hW:Ext w W)=> q86 t 30 (q14 h).2 (by decide) path W v (hin.ext hW) A cap hl hc (hP.ext hW));have hcn:valid sigT t=true-> ∀u,atT t path=some u->cnt u<=400:=fun h u hu=> Nat.le_trans (q125 path t u hu) (q14 h).1
 have hav:atV t path=if valid sigT t=true then((atT t path).getD j14,(atT t path).isSome) else(j14,false):=rfl
 generalize atT t path=q at HX hcn hav;obtain⟨z,hz⟩: ∃z,valid sigT t=z:=⟨_,rfl⟩;rw[hz] at HV hav HX hcn;clear hz;obtain⟨k,n,ks⟩:=t;obtain⟨At,ct,rfl,-,-,-⟩:=Lies.mk_iff.1 hin;have hx0:=((xr w).alloc (.cells #[.int .i64 k, .int .i64 n, .slice At ks.length ct] 25)).alloc (.cells #[.int .i64 0, .int .i64 0, .slice none 0 0] 25);cases z with
 |false=>
  rw[if_neg (by decide)] at hav;have E2:=hdq hav;clear hav HX hcn;go_enter Tryz.func22,Tryz.ntmps22;go_wp2_with fail;refine(HV.out _ hx0).mono ?_;rintro e w1 ⟨rfl,h1⟩;obtain⟨-,hb2,hs2⟩:=blk2 h1;obtain⟨s0,s1,s2,f0,f1,f2⟩:=own3 hb2;clear hb2;go_wp2_with fail;rw[E2.out];refine bodyPost_ret (v:= .tuple #[.agg #[.int .i64 0, .int .i64 0, .slice none 0 0], .bool false]) (by simp[results,Tryz.results22,go_sem,s0,s1,s2]) rfl ⟨_,rfl,From.leaf _ _ _ _, ?_⟩;exact((((h1.pre.pre).setCell (by simp) _).setCell (by simp) _).setCell (by simp) _)
 |true=>
  rw[if_pos rfl] at hav;have HX2:=hdq (HX.out rfl);have HCN:=hdq (hcn rfl);have E2:=hdq hav;clear hav HX hcn;cases q with
  |none=>
   go_enter Tryz.func22,Tryz.ntmps22;go_wp2_with fail;refine(HV.out _ hx0).mono ?_;rintro e w1 ⟨rfl,h1⟩;obtain⟨hb1,hb2,hs2⟩:=blk2 h1;obtain⟨z0,z1,z2,-,-,-⟩:=own3 hb1;go_wp2_with fail;refine(HX2.out _ (hx0.trans h1)).mono ?_;rintro e w2 ⟨x,ar,rfl,hL2,-,har,h2⟩;obtain⟨x1,x2,x3,x4,x5,rfl⟩:=InT.three (t:=j14) hL2;have har2:=har rfl;subst har2;have hx3:=(xr w2).alloc (.cells #[.int .i64 x1, .int .i64 x2, .slice x3 x4 x5] 25);obtain⟨s0,s1,s2,f0,f1,f2⟩:=own3 ((h2.trans hx3).blk hb2);have hxx:=(hx0.trans h1).trans h2;clear z0 z1 z2 hb1 hb2 har hs2 hx3;go_wp2_with fail;rw[E2.out];refine bodyPost_ret (v:= .tuple #[.agg #[.int .i64 0, .int .i64 0, .slice none 0 0], .bool false]) (by simp[results,Tryz.results22,go_sem,s0,s1,s2]) rfl ⟨_,rfl,From.leaf _ _ _ _, ?_⟩;exact((((hxx.alloc _).setCell (by simp) _).setCell (by simp) _).setCell (by simp) _)
  |some u=>
   have hcu:=HCN.out u rfl;go_enter Tryz.func22,Tryz.ntmps22;go_wp2_with fail;refine(HV.out _ hx0).mono ?_;rintro e w1 ⟨rfl,h1⟩;obtain⟨hb1,hb2,hs2⟩:=blk2 h1;obtain⟨z0,z1,z2,-,-,-⟩:=own3 hb1;go_wp2_with fail;refine(HX2.out _ (hx0.trans h1)).mono ?_;rintro e w2 ⟨x,ar,rfl,hL2,har,-,h2⟩;simp only[Option.getD_some] at hL2;obtain⟨x1,x2,x3,x4,x5,rfl⟩:=hL2.three;obtain⟨Ba,ca,rfl⟩:=(har rfl).form;have hx3:=(xr w2).alloc (.cells #[.int .i64 x1, .int .i64 x2, .slice x3 x4 x5] 25);have hs3:w.heap.size+1 < w2.heap.size:=q10 (h2.blk hb2);clear z0 z1 z2 hb1 har;go_wp2_with fail;refine(q45 u _ _ (hL2.ext hx3) (by omega)).mono ?_;rintro e w4 ⟨y,rfl,hM4,h4⟩;obtain⟨y1,y2,y3,y4,y5,rfl⟩:=hM4.three;have hb4:=(h2.trans (hx3.trans h4)).blk hb2;obtain⟨s0,s1,s2,f0,f1,f2⟩:=own3 hb4;have hxx:=((hx0.trans h1).trans h2).trans (hx3.trans h4);clear hb2 hb4;go_wp2_with fail;rw[E2.out];refine bodyPost_ret (v:= .tuple #[.agg #[.int .i64 y1, .int .i64 y2, .slice y3 y4 y5], .bool true]) (by simp[results,Tryz.results22,go_sem,s0,s1,s2]) rfl ⟨_,rfl, ?_, ?_⟩
   · exact(From.made (hM4.after ((((y28.refl _ _).setCell (by simp;omega) _).setCell (by simp;omega) _).setCell (by simp;omega) _))).since (by simp;omega)
   · exact(((hxx.setCell (by simp) _).setCell (by simp) _).setCell (by simp) _)
set_option maxRecDepth 100000 in
set_option maxHeartbeats 1000000 in
theorem q107(t:Tr)(path:List Int)(w:World)(v:Value)(hin:Lies w t v)(A:Option Addr)(cap:Nat)(hl:path.length<=cap)(hc:cap<=maxLen)(hP:Nums w A path):Calls Tryz.prog 58 #[v, .slice A path.length cap] w fun e w'=> ∃u,e= .returned (.tuple #[u, .bool (atV t path).2])/\Lies w' (atV t path).1 u/\Ext w w':=by
 have HV:=hdq (fun W (hW:Ext w W)=> y26 t W v (hin.ext hW));have HX:=hdq (fun(h:valid sigT t=true) W (hW:Ext w W)=> q203 t 30 (q14 h).2 (by decide) path W v (hin.ext hW) A cap hl hc (hP.ext hW));have hcn:valid sigT t=true-> ∀u,atT t path=some u->cnt u<=400:=fun h u hu=> Nat.le_trans (q125 path t u hu) (q14 h).1
 have hav:atV t path=if valid sigT t=true then((atT t path).getD j14,(atT t path).isSome) else(j14,false):=rfl
 generalize atT t path=q at HX hcn hav;obtain⟨z,hz⟩: ∃z,valid sigT t=z:=⟨_,rfl⟩;rw[hz] at HV hav HX hcn;clear hz;obtain⟨k,n,ks⟩:=t;obtain⟨At,ct,rfl,-,-,-⟩:=Lies.mk_iff.1 hin;have hx0:=((xr w).alloc (.cells #[.int .i64 k, .int .i64 n, .slice At ks.length ct] 25)).alloc (.cells #[.int .i64 0, .int .i64 0, .slice none 0 0] 25);cases z with
 |false=>
  rw[if_neg (by decide)] at hav;have E2:=hdq hav;clear hav HX hcn;go_enter Tryz.func58,Tryz.ntmps58;go_wp2_with fail;refine(HV.out _ hx0).mono ?_;rintro e w1 ⟨rfl,h1⟩;obtain⟨-,hb2,hs2⟩:=blk2 h1;obtain⟨s0,s1,s2,f0,f1,f2⟩:=own3 hb2;clear hb2;go_wp2_with fail;rw[E2.out];refine bodyPost_ret (v:= .tuple #[.agg #[.int .i64 0, .int .i64 0, .slice none 0 0], .bool false]) (by simp[results,Tryz.results58,go_sem,s0,s1,s2]) rfl ⟨_,rfl,Lies.leaf _ _ _, ?_⟩;exact((((h1.pre.pre).setCell (by simp) _).setCell (by simp) _).setCell (by simp) _)
 |true=>
  rw[if_pos rfl] at hav;have HX2:=hdq (HX.out rfl);have HCN:=hdq (hcn rfl);have E2:=hdq hav;clear hav HX hcn;cases q with
  |none=>
   go_enter Tryz.func58,Tryz.ntmps58;go_wp2_with fail;refine(HV.out _ hx0).mono ?_;rintro e w1 ⟨rfl,h1⟩;obtain⟨hb1,hb2,hs2⟩:=blk2 h1;obtain⟨z0,z1,z2,-,-,-⟩:=own3 hb1;go_wp2_with fail;refine(HX2.out _ (hx0.trans h1)).mono ?_;rintro e w2 ⟨x,rfl,hL2,h2⟩;obtain⟨x1,x2,x3,x4,x5,rfl⟩:=InT.three (t:=j14) hL2;have hx3:=(xr w2).alloc (.cells #[.int .i64 x1, .int .i64 x2, .slice x3 x4 x5] 25);obtain⟨s0,s1,s2,f0,f1,f2⟩:=own3 ((h2.trans hx3).blk hb2);have hxx:=(hx0.trans h1).trans h2;clear z0 z1 z2 hb1 hb2 hs2 hx3;go_wp2_with fail;rw[E2.out];refine bodyPost_ret (v:= .tuple #[.agg #[.int .i64 0, .int .i64 0, .slice none 0 0], .bool false]) (by simp[results,Tryz.results58,go_sem,s0,s1,s2]) rfl ⟨_,rfl,Lies.leaf _ _ _, ?_⟩;exact((((hxx.alloc _).setCell (by simp) _).setCell (by simp) _).setCell (by simp) _)
  |some u=>
   have hcu:=HCN.out u rfl;go_enter Tryz.func58,Tryz.ntmps58;go_wp2_with fail;refine(HV.out _ hx0).mono ?_;rintro e w1 ⟨rfl,h1⟩;obtain⟨hb1,hb2,hs2⟩:=blk2 h1;obtain⟨z0,z1,z2,-,-,-⟩:=own3 hb1;go_wp2_with fail;refine(HX2.out _ (hx0.trans h1)).mono ?_;rintro e w2 ⟨x,rfl,hL2,h2⟩;simp only[Option.getD_some] at hL2;obtain⟨x1,x2,x3,x4,x5,rfl⟩:=hL2.three;have hx3:=(xr w2).alloc (.cells #[.int .i64 x1, .int .i64 x2, .slice x3 x4 x5] 25);have hs3:w.heap.size+1 < w2.heap.size:=q10 (h2.blk hb2);clear z0 z1 z2 hb1;go_wp2_with fail;refine(q40 u _ _ (hL2.ext hx3) (by omega)).mono ?_;rintro e w4 ⟨y,rfl,hM4,h4⟩;obtain⟨y1,y2,y3,y4,y5,rfl⟩:=hM4.three;have hb4:=(h2.trans (hx3.trans h4)).blk hb2;obtain⟨s0,s1,s2,f0,f1,f2⟩:=own3 hb4;have hxx:=((hx0.trans h1).trans h2).trans (hx3.trans h4);clear hb2 hb4;go_wp2_with fail;rw[E2.out];refine bodyPost_ret (v:= .tuple #[.agg #[.int .i64 y1, .int .i64 y2, .slice y3 y4 y5], .bool true]) (by simp[results,Tryz.results58,go_sem,s0,s1,s2]) rfl ⟨_,rfl, ?_, ?_⟩
   · exact Made.lies (hM4.after ((((y28.refl _ _).setCell (by simp;omega) _).setCell (by simp;omega) _).setCell (by simp;omega) _))
   · exact(((hxx.setCell (by simp) _).setCell (by simp) _).setCell (by simp) _)
def bndV(t:Tr)(p:List Int):Int×Bool:=if(atV t p).2=true then(((bndT t p).length:Int),true) else(0,false)
set_option maxRecDepth 100000 in
set_option maxHeartbeats 1000000 in
theorem q123(t:Tr)(path:List Int)(w:World)(v:Value)(hin:Lies w t v)(A:Option Addr)(cap:Nat)(hl:path.length<=cap)(hc:cap<=maxLen)(hP:Nums w A path):Calls Tryz.prog 23 #[v, .slice A path.length cap] w fun e w'=> e= .returned (.tuple #[.int .i64 (bndV t path).1, .bool (bndV t path).2])/\Ext w w':=by
 have HV:=hdq (fun W (hW:Ext w W)=> q18 t W v (hin.ext hW));have HX:=hdq (fun(h:valid sigT t=true) W (hW:Ext w W)=> q86 t 30 (q14 h).2 (by decide) path W v (hin.ext hW) A cap hl hc (hP.ext hW));have hav:(atV t path).2=if valid sigT t=true then(atT t path).isSome else false:=by unfold atV;split <;> rfl
 have hbv:bndV t path=if(atV t path).2=true then(((bndT t path).length:Int),true) else(0,false):=rfl
 rw[hav] at hbv;generalize bndT t path=bs at HX hbv;generalize atT t path=q at HX hbv;clear hav;obtain⟨z,hz⟩: ∃z,valid sigT t=z:=⟨_,rfl⟩;rw[hz] at HV hbv HX;clear hz;obtain⟨k,n,ks⟩:=t;obtain⟨At,ct,rfl,-,-,-⟩:=Lies.mk_iff.1 hin;have hx0:=(xr w).alloc (.cells #[.int .i64 k, .int .i64 n, .slice At ks.length ct] 25);have hbB:=heap_alloc_new w (.cells #[.int .i64 k, .int .i64 n, .slice At ks.length ct] 25);cases z with
 |false=>
  have E2:=hdq (show bndV (.mk k n ks) path=(0,false) from hbv);clear hbv HX;go_enter Tryz.func23,Tryz.ntmps23;go_wp2_with fail;refine(HV.out _ hx0).mono ?_;rintro e w1 ⟨rfl,h1⟩;go_wp2_with fail;go_ret2;exact⟨by rw[E2.out];rfl,hx0.trans h1⟩
 |true=>
  have HX2:=hdq (HX.out rfl);have E2:=hdq (show bndV (.mk k n ks) path=if q.isSome=true then((bs.length:Int),true) else(0,false) from hbv);clear hbv HX;go_enter Tryz.func23,Tryz.ntmps23;go_wp2_with fail;refine(HV.out _ hx0).mono ?_;rintro e w1 ⟨rfl,h1⟩;obtain⟨z0,z1,z2,-,-,-⟩:=own3 (h1.blk hbB);go_wp2_with fail;refine(HX2.out _ (hx0.trans h1)).mono ?_;rintro e w2 ⟨x,ar,rfl,hL2,har,har2,h2⟩;obtain⟨x1,x2,x3,x4,x5,rfl⟩:=hL2.three;have hxx:=((hx0.trans h1).trans h2).alloc (.cells #[.int .i64 x1, .int .i64 x2, .slice x3 x4 x5] 25);clear z0 z1 z2 hbB;cases q with
  |none=>
   have har3:=har2 rfl;subst har3;have E3:=hdq (show bndV (.mk k n ks) path=(0,false) from E2.out);clear har har2 E2;go_wp2_with fail;go_ret2;exact⟨by rw[E3.out];rfl,hxx⟩
  |some u=>
   obtain⟨Ba,ca,rfl⟩:=(har rfl).form;have E3:=hdq (show bndV (.mk k n ks) path=((bs.length:Int),true) from E2.out);clear har har2 E2;go_wp2_with fail;go_ret2;exact⟨by rw[E3.out];rfl,hxx⟩
end Go.Proofs.YtdkamgafpphdjaaGreat
