/-
  Lemmas towards the law, 31: CtxS, Extd, HeadP.
-/
import Derived.Test.YtdkamgafpphdjaaGreatTBA
import Derived.Test.YtdkamgafpphdjaaGreatTBB
namespace Go.Proofs.YtdkamgafpphdjaaGreat
open Go.RowKit
set_option linter.unusedVariables false
attribute [local go_sem ↓] Go.wp_at_zero Go.wp_at_succ
theorem y210(t:Tr)(p:List Int):(atV t p).2=(valid sigT t &&(atT t p).isSome):=by
 unfold atV
 split <;> rename_i h <;> simp[h]
theorem Grow.litC{W w:World}{e:TypeId}(hW:W.heap.size<=w.heap.size):Grow W (w.alloc (.cells #[] e)) e (.slice (some ⟨w.heap.size,0,none⟩) 0 0) []:=
 ⟨[], [],World.ownsRow_lit (size:=3) w #[] 0 hW (Nat.zero_le _) rfl,OwnL.nil,y57.nil _ _,fun _ _ h=> by cases h⟩
theorem Grow.drewS{W w:World}{e:TypeId}{v:Value}{ks:List Tr}(h:Grow W w e v ks):Grow W w.drew e v ks:=h.same (Nat.le_refl _) (fun _ _ _=> rfl)
set_option maxRecDepth 100000 in
set_option maxHeartbeats 1000000 in
theorem q163(ks:List Tr)(w:World)(A:Option Addr)(cap:Nat)(hl:ks.length<=cap)(hc:cap<=maxLen)(h:j21 w A ks):
 Calls Tryz.prog 71 #[.slice A ks.length cap] w fun e w'=> e= .returned (.bool (y36 ks))/\Ext w w':=by
 have he:y36 ks=(decide (ks.length<=8)&& !ks.any (fun t=> !valid sigT t)):=rfl;have HE:=hdq he;have hcc:=hc;unfold maxLen at hcc;clear he;go_enter Tryz.func71,Tryz.ntmps71;go_wp2_with fail
 go_loopw [3] (fun i wr=> ∃j:Nat,j<=ks.length/\i= .int .i64 j/\Hid (ks.any (fun t=> !valid sigT t)=(ks.drop j).any (fun t=> !valid sigT t))/\Ext w wr) (fun i _=> ks.length -(intOf i).toNat)
 case atStart=> exact⟨0,Nat.zero_le _,rfl,hdq rfl,xr _⟩
 case round=>
  obtain⟨j,hj,rfl,HA,hx⟩:=hrel;by_cases hlt:j < ks.length
  · obtain⟨b,o,k,n,A',cap',kids,rfl,HK,c0,c1,c2,hkl,hkc,hK,hin,hmem⟩:=h.get hx hlt
    have hst:(ks.drop j).any (fun t=> !valid sigT t)=(!valid sigT (.mk k n kids) ||(ks.drop (j+1)).any (fun t=> !valid sigT t)):=by
     rw[List.drop_eq_getElem_cons hlt,HK.out,List.any_cons]
    have HV:=hdq (fun W (hW:Ext wr W)=> y26 (.mk k n kids) W _ (hin.ext hW));have hjz:(j:Int) <(ks.length:Int):=by omega
    go_wp2_with fail;refine(HV.out wr (xr wr)).mono ?_;rintro e w1 ⟨rfl,h1⟩;generalize valid sigT (.mk k n kids)=r at hst;cases r with
    |true=>
     have HA2:=hdq (HA.out.trans (hst.trans (by rfl)));clear hst;go_wp2_with fail
     go_roundw
     case rel=> exact⟨j+1,by omega,by go_num,hdq (by rw[HA2.out];simp),hx.trans h1⟩
     case measure=> simp[intOf];omega
    |false=>
     have HA2:=hdq (show y36 ks=false by rw[HE.out,HA.out,hst];simp);clear hst;go_wp2_with fail;go_ret;exact⟨by rw[HA2.out];rfl,hx.trans h1⟩
  · have HA2:=hdq (show y36 ks=decide (ks.length<=8) by rw[HE.out,HA.out,List.drop_of_length_le (by omega)];simp)
    by_cases h8:ks.length<=8
    · have d:decide ((ks.length:Int)<=8)=true:=decide_eq_true (by omega)
      have HA3:=hdq (HA2.out.trans (decide_eq_true h8));go_wp2_with fail;go_ret;exact⟨by rw[HA3.out];rfl,hx⟩
    · have d:decide ((ks.length:Int)<=8)=false:=decide_eq_false (by omega)
      have HA3:=hdq (HA2.out.trans (decide_eq_false h8));go_wp2_with fail;go_ret;exact⟨by rw[HA3.out];rfl,hx⟩
theorem q159:(Tryz.prog.info? 25).map (fun i=>(i.zero,i.size,i.bytes))=some (some (.agg #[.int .i64 0, .int .i64 0, .slice none 0 0]),3,40):=by kernel_rfl
set_option maxRecDepth 100000 in
set_option maxHeartbeats 4000000 in
theorem q88(ctx:List Tr)(t:Tr)(path:List Int)(w:World)(v:Value)(A Ap:Option Addr)(cap pc:Nat)(hin:Lies w t v)(hK:j21 w A ctx)(hl:ctx.length<=cap)(hc:cap<=maxLen)(hP:Nums w Ap path)(hpl:path.length<=pc)(hpc:pc<=maxLen)(hp9:path.length < 1000):
 Calls Tryz.prog 20 #[.slice A ctx.length cap,v, .slice Ap path.length pc] w fun e w'=> ∃B c,e= .returned (.tuple #[.slice B (ctxV ctx t path).1.length c, .bool (ctxV ctx t path).2])/\(ctxV ctx t path).1.length<=c/\c<=maxLen/\j21 w' B (ctxV ctx t path).1/\Ext w w':=by
 obtain⟨i0,hi,hz0,hz1,hz2⟩:=info_parts q159;have HAT:=hdq (fun W (hW:Ext w W)=> q107 t path W v (hin.ext hW) Ap pc hpl hpc (hP.ext hW));have HF:=hdq (fun W (hW:Ext w W)=> q163 ctx W A cap hl hc (hK.ext hW));have HV2:=hdq (y210 t path);have hV:ctxV ctx t path=if(y36 ctx &&(atV t path).2 && decide (ctx.length+(bndT t path).length<=8))=true then(ctx++bndT t path,true) else([],false):=rfl
 have HFM:=hdq (fun(h:y36 ctx=true)=> q42 h);have HBL:=hdq (Nat.lt_of_le_of_lt (y125 path t) hp9);have HBC:=hdq (fun(h:valid sigT t=true) x hx=> Nat.le_trans (j118 path t x hx) (q12 h).2);have HSH:=hdq (fun(h:valid sigT t=true)=>(q14 h).2);obtain⟨q1,q2,hq⟩: ∃q1 q2,atV t path=(q1,q2):=⟨_,_,rfl⟩;rw[hq] at HAT HV2 hV;obtain⟨f,hf⟩: ∃f,y36 ctx=f:=⟨_,rfl⟩;rw[hf] at HF HFM hV;simp only at HAT HV2 hV;clear hq hf;obtain⟨k,n,ks⟩:=t;obtain⟨At,ct,rfl,hlt0,hct0,hKt0⟩:=Lies.mk_iff.1 hin;have hx0:=(xr w).alloc (.cells #[.int .i64 k, .int .i64 n, .slice At ks.length ct] 25);have hb0:=heap_alloc_new w (.cells #[.int .i64 k, .int .i64 n, .slice At ks.length ct] 25);have hcc:=hc;unfold maxLen at hcc;clear hin;cases q2 with
 |false=>
  rw[if_neg (by simp)] at hV;rw[hV];clear hV HF HFM HBC HBL HSH HV2 hb0;go_enter Tryz.func20,Tryz.ntmps20;go_wp2_with fail;refine(HAT.out _ hx0).mono ?_;rintro e w1 ⟨u,rfl,hL,h1⟩;obtain⟨x1,x2,x3,x4,x5,rfl⟩:=hL.three;have h2:=(hx0.trans h1).alloc (.cells #[.int .i64 x1, .int .i64 x2, .slice x3 x4 x5] 25);go_wp2_with fail;go_ret2;exact⟨_,_,rfl,by simp,by simp[maxLen], .inl rfl,h2.alloc _⟩
 |true=>
  cases f with
  |false=>
   rw[if_neg (by simp)] at hV;rw[hV];clear hV HFM HBC HBL HSH HV2 hb0;go_enter Tryz.func20,Tryz.ntmps20;go_wp2_with fail;refine(HAT.out _ hx0).mono ?_;rintro e w1 ⟨u,rfl,hL,h1⟩;obtain⟨x1,x2,x3,x4,x5,rfl⟩:=hL.three;have h2:=(hx0.trans h1).alloc (.cells #[.int .i64 x1, .int .i64 x2, .slice x3 x4 x5] 25);go_wp2_with fail;refine(HF.out _ h2).mono ?_;rintro e w3 ⟨rfl,h3⟩;go_wp2_with fail;go_ret2;exact⟨_,_,rfl,by simp,by simp[maxLen], .inl rfl,(h2.trans h3).alloc _⟩
  |true=>
   obtain⟨hc8,hmv⟩:=HFM.out rfl;have HMV:=hdq hmv;have hv2:=HV2.out;rw[eq_comm,Bool.and_eq_true] at hv2;obtain⟨hval,hsome⟩:=hv2;have hsh:=HSH.out hval;have HBC2:=hdq (HBC.out hval);have HSM:=hdq hsome;rw[Bool.true_and,Bool.true_and] at hV;have HVV:=hdq hV;clear hV HFM HV2 HSH HBC hval hsome hmv;go_enter Tryz.func20,Tryz.ntmps20;go_wp2_with fail;refine(HAT.out _ hx0).mono ?_;rintro e w1 ⟨u,rfl,hL,h1⟩;obtain⟨x1,x2,x3,x4,x5,rfl⟩:=hL.three;have h2:=(hx0.trans h1).alloc (.cells #[.int .i64 x1, .int .i64 x2, .slice x3 x4 x5] 25);have hb2:=(h1.trans ((xr w1).alloc (.cells #[.int .i64 x1, .int .i64 x2, .slice x3 x4 x5] 25))).blk hb0;go_wp2_with fail;refine(HF.out _ h2).mono ?_;rintro e w3 ⟨rfl,h3⟩;have hx3:=h2.trans h3;have hb3:=h3.blk hb2;have hlt3:w.heap.size < w3.heap.size:=q10 hb3;have hG0:=Grow.litC (e:=25) (Nat.le_refl w3.heap.size);clear hL h1 h2 h3 hb0 hb2 hx0 HAT HF;go_wp2_with fail;have hx4:=hx3.alloc (.cells #[] 25);have hb4:=((xr w3).alloc (.cells #[] 25)).blk hb3;have hB4:Ext w3 (w3.alloc (.cells #[] 25)):=(xr w3).alloc _;generalize World.alloc w3 _=w4 at hx4 hb4 hB4 hG0⊢
   go_loopw [10,11] (fun v i wr=> ∃(j:Nat),j<=ctx.length/\i= .int .i64 j/\Grow w3 wr 25 v (ctx.take j)/\Ext w3 wr) (fun _ i _=> ctx.length -(intOf i).toNat)
   case atStart=> exact⟨0,Nat.zero_le _,rfl,hG0,hB4⟩
   case round=>
    obtain⟨j,hj,rfl,hG,hx⟩:=hrel;by_cases hlt:j < ctx.length
    · obtain⟨b,o,k1,n1,A1,p1,kids1,rfl,HK1,c0,c1,c2,l1,m1,hK1,hin1,hmem1⟩:=hK.get (hx3.trans hx) hlt
      have hj':(j:Int) <(ctx.length:Int):=by omega
      have hl6:w3.heap.size<=wr.heap.size:=hx.size;have htk:=List.take_append_getElem hlt;rw[HK1.out] at htk;have HTK:=hdq htk;have hlen:(ctx.take j).length=j:=by rw[List.length_take];omega
      have HLEN:=hdq hlen;clear htk hlen hG0 hb4 hB4 hx4;go_wp2_with fail;refine(q40 _ _ _ hin1 (by have:=(q12 (HMV.out _ hmem1)).2;omega)).mono ?_;rintro e w2 ⟨u,rfl,hM,e2⟩;obtain⟨a1,a2,a3,a4,a5,rfl⟩:=hM.three';clear c0 c1 c2;go_wp2_with (at_builtin;refine q33 _ (by rfl) (.tmp 34) (.tmp 40) _ (by rfl) 25 i0 _ Tryz.underlying23 hi hz0 hz1 hz2 rfl (by rfl) hG hx.size e2 (hM.since (by omega)) ((xr _).alloc _) (by rfl) (heap_alloc_new _ _) (by rw[HLEN.out];omega) ?_)
      intro v' w5 hG5 hB5;obtain⟨B5,c5,rfl,q1,q2,-⟩:=hG5.made;rw[HTK.out] at hG5;go_wp2_with fail
      go_roundw
      case rel=> exact⟨j+1,by omega,by go_num,by simpa[HTK.out] using hG5,hx.trans' hB5 (Nat.le_refl _)⟩
      case measure=> simp[intOf];omega
    · have hjl:ctx.take j=ctx:=List.take_of_length_le (by omega)
      rw[hjl] at hG;have hbr:=hx.blk hb3;have hxr:=hx3.trans hx;have hsr:=hx.size;clear hG0 hb4 hB4 hx4 hb3 hjl HMV;go_wp2_with fail;generalize hwr:wr=wB at hG hbr hxr hsr⊢;clear hwr
      go_loopw [10,12] (fun v i wr=> ∃(j:Nat) (k' n':Int) (kids:List Tr) (A':Option Addr) (c':Nat) (d':Int) (ds:List Tr),j<=path.length/\i= .int .i64 j/\
       Hid ((atT (.mk k' n' kids) (path.drop j)).isSome=true)/\Hid (bndT (.mk k n ks) path=ds++bndT (.mk k' n' kids) (path.drop j))/\shape sigT (.mk k' n' kids) d'=true/\d'+j<=1000/\kids.length<=c'/\c'<=maxLen/\j21 w A' kids/\
       wr.heap[w.heap.size]? =some (.cells #[.int .i64 k', .int .i64 n', .slice A' kids.length c'] 25 (0,0))/\Grow w3 wr 25 v (ctx++ds)/\ds.length<=j/\Ext w wr/\w3.heap.size<=wr.heap.size) (fun _ i _=> path.length -(intOf i).toNat)
      case atStart=> exact⟨0,k,n,ks,At,ct,30, [],Nat.zero_le _,rfl,hdq (by simpa using HSM.out),hdq (by simp),hsh,by decide,hlt0,hct0,hKt0,hbr,by simpa using hG,Nat.le_refl _,hxr,hsr⟩
      case round=>
       obtain⟨j,k',n',kids,A',c',d',ds,hj,rfl,HA,HB,hsh',hd',hkl,hkc,hK',hb,hG,hdl,hx,hsz⟩:=hrel;have hdp:=j39 hsh';by_cases hlj:j < path.length
       · obtain⟨bp,op,rfl,cw⟩:=hP.get (xr w) hlj
         have hdr:path.drop j=path[j]::path.drop (j+1):=List.drop_eq_getElem_cons hlj;have HA1:=HA.out;rw[hdr,q93] at HA1;have HB1:=HB.out;rw[hdr,j80] at HB1;clear HA HB hdr;generalize path[j]=i at cw HA1 HB1;have cp:=hx.cell cw;have hj2:(j:Int) <(path.length:Int):=by omega
         have hj0:(0:Int)<=(j:Int):=Int.natCast_nonneg _;obtain⟨hops,-,-,hsk⟩:=y25 hsh';obtain⟨z0,z1,z2,f0,f1,f2⟩:=own3 hb;have hkc':=hkc;unfold maxLen at hkc';by_cases hi2:0<=i/\i <(kids.length:Int)
         · rw[if_pos hi2] at HA1 HB1
           obtain⟨m,rfl⟩:=Int.eq_ofNat_of_zero_le hi2.1;have hm:m < kids.length:=by omega
           have e0:((m:Int)).toNat=m:=by omega
           rw[e0] at HA1 HB1;have HA2:=hdq HA1;clear HA1 e0;have hund:=und_eq k' m;have HBI:=hdq (fun W=> j145 k' m W);obtain⟨b,o,k2,n2,A2,c2,kids2,rfl,HK,e0,e1,e2,hkl2,hkc2,hK2,hin2,hmem⟩:=hK'.get (xr w) hm;have hkd:kd kids m= .mk k2 n2 kids2:=j37 hm HK.out;have hsk2:=hsk _ hmem;rw[hkd] at HA2 HB1;have hm2:(m:Int) <(kids.length:Int):=hi2.2;have hm0:(0:Int)<=(m:Int):=hi2.1;have d0:=hx.cell e0;have d1:=hx.cell e1;have d2:=hx.cell e2;have hwl:w.heap.size < wr.heap.size:=by omega
           have HBD:=hdq (fun q:Nat=>(show(wr.drewN q).heap[w.heap.size]? =some (.cells #[.int .i64 k', .int .i64 n', .slice (some ⟨b,o,none⟩) kids.length c'] 25 (0,0)) from hb));have HGD:=hdq (fun q:Nat=>(show Grow w3 (wr.drewN q) 25 _ (ctx++ds) from hG.same (Nat.le_refl _) (fun _ _ _=> rfl)));obtain⟨bd,hbd⟩: ∃bd,((m:Int)==1 && isB k')=bd:=⟨_,rfl⟩;rw[hbd] at HBI hund;clear hkd HK hmem hi2 hG;cases bd with
           |true=>
            rw[if_pos rfl] at hund;rw[hund,if_pos (by decide)] at HB1;have hlen0:0 < kids.length:=by omega
            obtain⟨b',o',k0,n0,A0,c0,kids0,hbo,HK0,g0,g1,g2,hkl0,hkc0,hK0,hin0,hmem0⟩:=hK'.get hx hlen0;cases hbo
            have hkd0:kd kids 0= .mk k0 n0 kids0:=j37 hlen0 HK0.out;have hc0:cnt (.mk k0 n0 kids0)<=400:=HBC2.out _ (by rw[HB1,hkd0];simp);have HB3:=hdq (show bndT (.mk k n ks) path=(ds++ [kd kids 0])++bndT (.mk k2 n2 kids2) (path.drop (j+1)) by rw[HB1];simp);rw[hkd0] at HB3;rw[Nat.zero_mul,Nat.add_zero] at g0 g1 g2;have hlz:(0:Int) <(kids.length:Int):=by omega
            clear HB1 hund hbd hkd0 HK0;go_wp2_with fail
            go_quiet (first|(go_at_call 73;exact Calls.quiet_of_same ((HBI.out _).mono fun e w' h=>⟨h.1,h.2.symm⟩)))
            go_wp2_with fail;refine(q40 _ _ _ (hin0.ext ((xr wr).drewN _)) (by omega)).mono ?_;rintro e w2 ⟨u,rfl,hM,e2'⟩;obtain⟨a1,a2,a3,a4,a5,rfl⟩:=hM.three';clear g0 g1 g2 d0 d1 d2 z0 z1 z2 f0 f1 f2 cp;go_wp2_with (at_builtin;refine q33 _ (by rfl) (.tmp 55) (.tmp 61) _ (by rfl) 25 i0 _ Tryz.underlying23 hi hz0 hz1 hz2 rfl (by rfl) (HGD.out _) hsz e2' hM ((xr _).alloc _) (by rfl) (heap_alloc_new _ _) (by simp;omega) ?_)
            intro v' w5 hG5 hB5;have hwl3:w.heap.size<=w3.heap.size:=by omega
            have hx5:Ext w w5:=(hx.drewN _).trans' hB5 hwl3;have hs5:=hB5.size;have hs5':w3.heap.size<=w5.heap.size:=by simp at hs5;omega
            have hb5:=(hB5.block _ hlt3).trans (HBD.out _);obtain⟨z0,z1,z2,f0,f1,f2⟩:=own3 hb5;have d0:=hx5.cell e0;have d1:=hx5.cell e1;have d2:=hx5.cell e2;have cp:=hx5.cell cw;have HG6:=hdq (show Grow w3 w5 25 v' (ctx++(ds++ [.mk k0 n0 kids0])) from by first|exact hG5|(rw[<-List.append_assoc];exact hG5));obtain⟨B5,c5,rfl,-,-,-⟩:=hG5.made;have HG7:=hdq (show Grow w3 w5 25 (.slice B5 (ctx.length+(ds.length+1)) c5) (ctx++(ds++ [.mk k0 n0 kids0])) from by have:=HG6.out;simpa using this);have HBD5:=hdq hb5;have hwl5:w.heap.size < w5.heap.size:=by omega
            clear hG5 HG6 hB5 HGD HBD hb5 hM e2' hb hx e0 e1 e2 cw;go_wp2_with fail
            first|(go_region_law (fail)) |fail
            all_goals(
             go_wp2_with fail
             go_roundw
             case rel=> exact⟨j+1,k2,n2,kids2,A2,c2,d' - 1,ds++ [.mk k0 n0 kids0],by omega,by go_num,HA2,HB3,hsk2,by omega,hkl2,hkc2,hK2,q11 (q11 (q11 HBD5.out 0 _) 1 _) 2 _,(HG7.out.after ((((y28.refl _ _).setCell (by show w.heap.size < _;omega) _).setCell (by show w.heap.size < _;omega) _).setCell (by show w.heap.size < _;omega) _)).drewS,by simp;omega,(((hx5.setCell (by show w.heap.size<=w.heap.size;omega) _).setCell (by show w.heap.size<=w.heap.size;omega) _).setCell (by show w.heap.size<=w.heap.size;omega) _).drew,by simp;omega⟩
             case measure=> simp[intOf];omega)
           |false=>
            rw[if_neg (by decide)] at hund;rw[hund,if_neg (by decide),List.nil_append] at HB1;have HB3:=hdq HB1;clear HB1 hund hbd e0 e1 e2 cw hb;go_wp2_with fail
            go_quiet (first|(go_at_call 73;exact Calls.quiet_of_same ((HBI.out _).mono fun e w' h=>⟨h.1,h.2.symm⟩)))
            go_wp2_with fail
            first|(go_region_law (fail)) |fail
            all_goals(
             go_wp2_with fail
             go_roundw
             case rel=> exact⟨j+1,k2,n2,kids2,A2,c2,d' - 1,ds,by omega,by go_num,HA2,HB3,hsk2,by omega,hkl2,hkc2,hK2,q11 (q11 (q11 (HBD.out _) 0 _) 1 _) 2 _,(HGD.out _).after ((((y28.refl _ _).setCell (by simp;omega) _).setCell (by simp;omega) _).setCell (by simp;omega) _),by omega,(((hx.drewN _).setCell (by simp) _).setCell (by simp) _).setCell (by simp) _,by simp;omega⟩
             case measure=> simp[intOf];omega)
         · rw[if_neg hi2] at HA1
           cases HA1
       · have hd0:path.drop j= []:=List.drop_of_length_le (by omega)
         have hB2:bndT (.mk k n ks) path=ds:=by
          rw[HB.out,hd0,bndT];simp
         have HVF:=HVV.out;rw[hB2] at HVF;have HVG:=hdq HVF;obtain⟨B5,c5,rfl,q1,q2,hM⟩:=hG.made;have hK5:=hM.lies;rw[List.length_append] at q1;have hq2:=q2;unfold maxLen at hq2;clear HA HB HVF hB2 hG hM hb HVV;by_cases h8:ctx.length+ds.length<=8
         · have d8:decide ((8:Int) <(ctx.length:Int)+(ds.length:Int))=false:=decide_eq_false (by omega)
           have HV3:=hdq (HVG.out.trans (if_pos (by simpa using h8)));go_wp2_with fail;go_ret2;rw[HV3.out];exact⟨_,_,by simp,by simpa using q1,q2,hK5,hx⟩
         · have d8:decide ((8:Int) <(ctx.length:Int)+(ds.length:Int))=true:=decide_eq_true (by omega)
           have HV3:=hdq (HVG.out.trans (if_neg (by simpa using h8)));go_wp2_with fail;go_ret2;rw[HV3.out];exact⟨_,_,rfl,by simp,by simp[maxLen], .inl rfl,hx.alloc _⟩
end Go.Proofs.YtdkamgafpphdjaaGreat
namespace Go.Proofs.YtdkamgafpphdjaaGreat
open Go.RowKit
set_option linter.unusedVariables false
attribute [local go_sem ↓] Go.wp_at_zero Go.wp_at_succ
set_option maxRecDepth 100000 in
set_option maxHeartbeats 4000000 in
theorem y129(G:List Tr)(t:Tr)(w0:World)(N:Nat->Prop)(A:Option Addr)(ca:Nat)(v:Value)(ht:InT w0 N t v)(hL:20<=G.length):
 Calls Tryz.prog 165 #[.slice A G.length ca,v] w0 fun e w'=> e= .returned (.tuple #[.slice none 0 0, .int .i64 2])/\Ext w0 w':=by
 obtain⟨k,n,ks⟩:=t;obtain⟨At,ct,rfl,hl,hc,hK⟩:=InT.mk_iff.1 ht;have t1:decide ((20:Int)<=(G.length:Int))=true:=decide_eq_true (by omega);clear ht hK;go_enter Tryz.func165,Tryz.ntmps165;go_wp2_with fail;go_ret2;exact⟨rfl,(xr _).alloc _⟩
set_option maxRecDepth 100000 in
set_option maxHeartbeats 4000000 in
theorem j107(G:List Tr)(t:Tr)(w0:World)(N:Nat->Prop)(hN: ∀b,w0.heap.size<=b->N b)(A:Option Addr)(ca:Nat)(v:Value)(hG:InK w0 N A G)(ht:InT w0 N t v)(hL:G.length < 20):
 Calls Tryz.prog 165 #[.slice A G.length ca,v] w0 fun e w'=> ∃A' c',e= .returned (.tuple #[.slice A' (G.length+1) c', .int .i64 0])/\G.length+1<=c'/\c'<=maxLen/\InK w' N A' (G++ [t])/\Ext w0 w':=by
 obtain⟨k,n,ks⟩:=t;obtain⟨At,ct,rfl,hl,hc,hK⟩:=InT.mk_iff.1 ht;have t1:decide ((20:Int)<=(G.length:Int))=false:=decide_eq_false (by omega);obtain⟨i0,hi,hz0,hz1,hz2⟩:=info_parts y113;have HT:=hdq ht;have HG:=hdq hG;have HN:=hdq hN;have X1:=(xr w0).alloc (.cells #[.int .i64 k, .int .i64 n, .slice At ks.length ct] 25);have B1:=heap_alloc_new w0 (.cells #[.int .i64 k, .int .i64 n, .slice At ks.length ct] 25);obtain⟨w1,hw1⟩: ∃x,x=w0.alloc (.cells #[.int .i64 k, .int .i64 n, .slice At ks.length ct] 25):=⟨_,rfl⟩;rw[<-hw1] at X1 B1;clear ht hK hG hN;go_enter Tryz.func165,Tryz.ntmps165;go_wp2_with fail;rw[<-hw1];clear hw1;obtain⟨z0,z1,z2,-,-,-⟩:=own3 B1;have HKEEP:=hdq (show∀w',Ext w1 w'->w'.cell? ⟨w0.heap.size,0,none⟩=some (.int .i64 k)/\w'.cell? ⟨w0.heap.size,1,none⟩=some (.int .i64 n)/\w'.cell? ⟨w0.heap.size,2,none⟩=some (.slice At ks.length ct) from fun w' h=>⟨h.cell z0,h.cell z1,h.cell z2⟩);clear z0 z1 z2 B1;have hsz:=X1.size;have XD:Ext w1 w1.drew:=(xr w1).drew;have FIN:=hdq (show∀(wc w2 w3:World) (v2:Value) (xs:List Value) (g:Nat),Ext w1 wc->wc.heap.size<=w2.heap.size->Ext w2 w3->w2.ownsRow wc.heap.size 25 3 v2 G.length xs->RowL w2 (fun b=> N b/\b < wc.heap.size) xs G->j16 (fun b=> b < wc.heap.size/\ ¬N b) wc w3 25 v2 G from fun wc w2 w3 v2 xs g hc h1 h2 h3 h4=> by
  have:=j16.ext (X:=fun b=> b < wc.heap.size/\ ¬N b) (W:=wc) (w:=w2) (e:=25) (v:=v2) (ks:=G) ⟨xs,h3,h4.mono (fun b hb=>⟨by omega,fun e=> by have:=(h3.lt b e).1;omega,fun e=> e.2 hb.1⟩) (fun _ _=> rfl)⟩ h2;exact this)
 have HTB:=hdq HT.out.bound;refine wp_region_held_drew (S:=fun w'=> w'.cell? ⟨w0.heap.size,0,none⟩=some (.int .i64 k)/\w'.cell? ⟨w0.heap.size,1,none⟩=some (.int .i64 n)/\w'.cell? ⟨w0.heap.size,2,none⟩=some (.slice At ks.length ct)) (by kernel_rfl) (HKEEP.out _ XD) (fun _=> ?_);refine wpAnyH_take (i:=0) (v:= ?v0) rfl (by kernel_rfl) (by kernel_rfl) (by kernel_rfl) (fun _ _ _ h=> h) (Or.inl ⟨by rfl, ?hy0⟩) (by assumption) ?rest0
 case hy0=>(intro w hSw;(try dsimp only at hSw);go_simp;(try with_reducible rfl))
 try simp only[Act.put,List.getElem_toArray,List.getElem_cons_zero,List.setIfInBounds_toArray,List.set_cons_zero,List.set_cons_succ]
 refine wpAnyH_take (i:=2) (v:= ?v2) rfl (by kernel_rfl) (by kernel_rfl) (by kernel_rfl) (fun _ _ _ h=> h) (Or.inl ⟨by rfl, ?hy2⟩) (by assumption) ?rest2
 case hy2=>(intro w hSw;(try dsimp only at hSw);go_simp;(try with_reducible rfl))
 try simp only[Act.put,List.getElem_toArray,List.getElem_cons_succ,List.getElem_cons_zero,List.setIfInBounds_toArray,List.set_cons_zero,List.set_cons_succ]
 refine wpAnyH_ready (rs:= [1,3]) (by kernel_rfl) (by simp) ?_;refine AllReadyH.cons rfl (fun K hK=> ?_) (AllReadyH.cons rfl (fun K hK=> ?_) AllReadyH.nil)
 · (go_simp;go_at_call 163;refine(y108 G _ N A ca (HG.out.later (X1.trans XD)) (by omega)).mono ?_;rintro e w2 ⟨v2,xs,rfl,hO,hR,e2⟩;dsimp only)
   refine hK.out _ _ (HKEEP.out _ (XD.trans e2)) (fun hHeld=> ?_);clear hK K
   try simp only[Act.put,List.getElem_toArray,List.getElem_cons_succ,List.getElem_cons_zero,List.setIfInBounds_toArray,List.set_cons_zero,List.set_cons_succ]
   refine wpAnyH_ready (rs:= [3]) (by kernel_rfl) (by simp) ?_;refine AllReadyH.cons rfl (fun K hK=> ?_) AllReadyH.nil
   go_simp
   refine hK.out _ _ (HKEEP.out _ ((XD.trans e2).alloc _)) (fun hHeld=> ?_);clear hK K
   try simp only[Act.put,List.getElem_toArray,List.getElem_cons_succ,List.getElem_cons_zero,List.setIfInBounds_toArray,List.set_cons_zero,List.set_cons_succ]
   have hGS:=FIN.out w1.drew w2 (w2.alloc (.cells #[.int .i64 k, .int .i64 n, .slice At ks.length ct] 25)) _ xs 0 XD e2.size ((xr w2).alloc _) hO hR;have hs3:w0.heap.size<=(w2.alloc (.cells #[.int .i64 k, .int .i64 n, .slice At ks.length ct] 25)).heap.size:=((X1.trans ((XD.trans e2).alloc _))).size;refine wpAnyH_ready (rs:= [4]) (by kernel_rfl) (by simp) ?_;refine AllReadyH.cons rfl (fun K hK=> ?_) AllReadyH.nil;have hX3:Ext w0 (w2.alloc (.cells #[.int .i64 k, .int .i64 n, .slice At ks.length ct] 25)):=X1.trans ((XD.trans e2).alloc _);have hwc:w0.heap.size<=(w1.drew).heap.size:=(X1.trans XD).size;refine j32 _ (.tmp 10) (.tmp 12) _ (by rfl) 25 i0 _ Tryz.underlying23 hi hz0 hz1 hz2 rfl (by rfl) hGS (Nat.le_trans e2.size ((xr w2).alloc _).size) (tr:= .mk k n ks) (InT.mono (fun b hb=>⟨Nat.lt_of_lt_of_le hb.2 hX3.size,fun e=> by have:=(hO.lt b e).1;omega,fun e=> e.2 hb.1⟩) (fun b hb=> hX3.heap b hb.2) HTB.out) (by rfl) (heap_alloc_new _ _) (by omega) ?_ (fun b hb=> hb.1);intro v5 w5 hG5 hB5;have hX5:Ext w1 w5:=Ext.trans' ((XD.trans e2).alloc _) hB5 (XD).size;refine hK.out _ _ (HKEEP.out _ hX5) (fun hHeld=> ?_);clear hK K;obtain⟨A5,c5,rfl,q1,q2,q3,-⟩:=hG5.lies (fun b hb=> hb.1);have hI5:InK w5 N A5 (G++ [.mk k n ks]):=InK.mono (fun b hb=> by
    by_cases e:N b
    · exact e
    · exact HN.out b (Nat.le_trans hwc (Nat.not_lt.1 fun h=> hb.2 ⟨h,e⟩))) (fun _ _=> rfl) q3
   rw[List.length_append,List.length_singleton] at q1⊢;have HI5:=hdq hI5;clear hI5 q3 hG5 hB5 hGS hR hO
   try simp only[Act.put,List.getElem_toArray,List.getElem_cons_succ,List.getElem_cons_zero,List.setIfInBounds_toArray,List.set_cons_zero,List.set_cons_succ]
   refine wpAnyH_take (i:=5) (v:= ?vc5) rfl (by kernel_rfl) (by kernel_rfl) (by kernel_rfl) (fun _ _ _ h=> h) (Or.inl ⟨by rfl, ?hyc5⟩) (by assumption) ?restc5
   case hyc5=>(intro w hSw;(try dsimp only at hSw);go_simp;(try with_reducible rfl))
   try simp only[Act.put,List.getElem_toArray,List.getElem_cons_succ,List.getElem_cons_zero,List.setIfInBounds_toArray,List.set_cons_zero,List.set_cons_succ]
   refine wpAnyH_take (i:=6) (v:= ?vc6) rfl (by kernel_rfl) (by kernel_rfl) (by kernel_rfl) (fun _ _ _ h=> h) (Or.inl ⟨by rfl, ?hyc6⟩) (by assumption) ?restc6
   case hyc6=>(intro w hSw;(try dsimp only at hSw);go_simp;(try with_reducible rfl))
   try simp only[Act.put,List.getElem_toArray,List.getElem_cons_succ,List.getElem_cons_zero,List.setIfInBounds_toArray,List.set_cons_zero,List.set_cons_succ]
   refine wpAnyH_done (by kernel_rfl) ?_ _;go_wp2_with fail;go_ret2;exact⟨A5,c5,rfl,q1,q2,HI5.out,X1.trans hX5⟩
 · go_simp
   refine hK.out _ _ (HKEEP.out _ (XD.alloc _)) (fun hHeld=> ?_);clear hK K
   try simp only[Act.put,List.getElem_toArray,List.getElem_cons_succ,List.getElem_cons_zero,List.setIfInBounds_toArray,List.set_cons_zero,List.set_cons_succ]
   refine wpAnyH_ready (rs:= [1]) (by kernel_rfl) (by simp) ?_;refine AllReadyH.cons rfl (fun K hK=> ?_) AllReadyH.nil
   (go_simp;go_at_call 163;refine(y108 G _ N A ca (HG.out.later (X1.trans (XD.alloc _))) (by omega)).mono ?_;rintro e w2 ⟨v2,xs,rfl,hO,hR,e2⟩;dsimp only)
   refine hK.out _ _ (HKEEP.out _ ((XD.alloc _).trans e2)) (fun hHeld=> ?_);clear hK K
   try simp only[Act.put,List.getElem_toArray,List.getElem_cons_succ,List.getElem_cons_zero,List.setIfInBounds_toArray,List.set_cons_zero,List.set_cons_succ]
   have hGS:=FIN.out _ w2 w2 _ xs 0 (XD.alloc _) e2.size (xr _) hO hR;have hs3:w0.heap.size<=(w2).heap.size:=(X1.trans ((XD.alloc _).trans e2)).size;refine wpAnyH_ready (rs:= [4]) (by kernel_rfl) (by simp) ?_;refine AllReadyH.cons rfl (fun K hK=> ?_) AllReadyH.nil;have hX3:Ext w0 (w2):=X1.trans ((XD.alloc _).trans e2);have hwc:w0.heap.size<=(w1.drew.alloc (.cells #[.int .i64 k, .int .i64 n, .slice At ks.length ct] 25)).heap.size:=(X1.trans (XD.alloc _)).size;refine j32 _ (.tmp 10) (.tmp 12) _ (by rfl) 25 i0 _ Tryz.underlying23 hi hz0 hz1 hz2 rfl (by rfl) hGS (e2.size) (tr:= .mk k n ks) (InT.mono (fun b hb=>⟨Nat.lt_of_lt_of_le hb.2 hX3.size,fun e=> by have:=(hO.lt b e).1;omega,fun e=> e.2 hb.1⟩) (fun b hb=> hX3.heap b hb.2) HTB.out) (by rfl) (e2.blk (heap_alloc_new _ _)) (by omega) ?_ (fun b hb=> hb.1);intro v5 w5 hG5 hB5;have hX5:Ext w1 w5:=Ext.trans' ((XD.alloc _).trans e2) hB5 ((XD.alloc _)).size;refine hK.out _ _ (HKEEP.out _ hX5) (fun hHeld=> ?_);clear hK K;obtain⟨A5,c5,rfl,q1,q2,q3,-⟩:=hG5.lies (fun b hb=> hb.1);have hI5:InK w5 N A5 (G++ [.mk k n ks]):=InK.mono (fun b hb=> by
    by_cases e:N b
    · exact e
    · exact HN.out b (Nat.le_trans hwc (Nat.not_lt.1 fun h=> hb.2 ⟨h,e⟩))) (fun _ _=> rfl) q3
   rw[List.length_append,List.length_singleton] at q1⊢;have HI5:=hdq hI5;clear hI5 q3 hG5 hB5 hGS hR hO
   try simp only[Act.put,List.getElem_toArray,List.getElem_cons_succ,List.getElem_cons_zero,List.setIfInBounds_toArray,List.set_cons_zero,List.set_cons_succ]
   refine wpAnyH_take (i:=5) (v:= ?vb5) rfl (by kernel_rfl) (by kernel_rfl) (by kernel_rfl) (fun _ _ _ h=> h) (Or.inl ⟨by rfl, ?hyb5⟩) (by assumption) ?restb5
   case hyb5=>(intro w hSw;(try dsimp only at hSw);go_simp;(try with_reducible rfl))
   try simp only[Act.put,List.getElem_toArray,List.getElem_cons_succ,List.getElem_cons_zero,List.setIfInBounds_toArray,List.set_cons_zero,List.set_cons_succ]
   refine wpAnyH_take (i:=6) (v:= ?vb6) rfl (by kernel_rfl) (by kernel_rfl) (by kernel_rfl) (fun _ _ _ h=> h) (Or.inl ⟨by rfl, ?hyb6⟩) (by assumption) ?restb6
   case hyb6=>(intro w hSw;(try dsimp only at hSw);go_simp;(try with_reducible rfl))
   try simp only[Act.put,List.getElem_toArray,List.getElem_cons_succ,List.getElem_cons_zero,List.setIfInBounds_toArray,List.set_cons_zero,List.set_cons_succ]
   refine wpAnyH_done (by kernel_rfl) ?_ _;go_wp2_with fail;go_ret2;exact⟨A5,c5,rfl,q1,q2,HI5.out,X1.trans hX5⟩
end Go.Proofs.YtdkamgafpphdjaaGreat
namespace Go.Proofs.YtdkamgafpphdjaaGreat
open Go.RowKit
set_option linter.unusedVariables false
mutual
def hdW:Tr->List Int×Bool
 | .mk k n ks=> if rdx k ks≠0 then([],true)
  else if k=5\/k=15\/k=16 then(0::(hdWs ks 0).1,(hdWs ks 0).2)
  else if k=9 then(3::(hdWs ks 3).1,(hdWs ks 3).2)
  else if k=12 then(1::(hdWs ks 1).1,(hdWs ks 1).2) else([],false)
def hdWs:List Tr->Nat->List Int×Bool
 | [],_=>([],false)
 |t::ts,0=> hdW t
 |t::ts,i+1=> hdWs ts i
end
def hdQ(t:Tr):Option (List Int):=if(hdW t).2=true then some (hdW t).1 else none
theorem y82{t:Tr}{p:List Int}(h:hdQ t=some p):hdW t=(p,true):=by
 unfold hdQ at h
 split at h
 · rename_i h1
   simp only[Option.some.injEq] at h;rw[<-h,<-h1]
 · cases h
theorem y124{t:Tr}(h:hdQ t=none):(hdW t).2=false:=by
 unfold hdQ at h
 split at h
 · cases h
 · rename_i h1
   simpa using h1
theorem j60: ∀{ks:List Tr} {i:Nat},i < ks.length->hdWs ks i=hdW (kd ks i)
 |t::ts,0,_=> by rw[hdWs];rfl
 |t::ts,i+1,h=> by rw[hdWs,q176];exact j60 (by simpa using h)
theorem y193: ∀{ks:List Tr} {i:Nat},ks.length<=i->(hdWs ks i).2=false
 | [],_,_=> by rw[hdWs]
 |t::ts,0,h=> by simp at h
 |t::ts,i+1,h=> by rw[hdWs];exact y193 (by simpa using h)
theorem q184: ∀(t:Tr) (d:Int),shape sigT t d=true->((hdW t).1.length:Int)<=d:=Tr.ind fun k n ks hk=> by
 intro d h;have hd:=j39 h;have key: ∀i,((hdWs ks i).1.length:Int)<=d - 1:=fun i=> by
  by_cases hi:i < ks.length
  · rw[j60 hi]
    exact hk _ (y85 hi) (d - 1) ((y25 h).2.2.2 _ (y85 hi))
  · have: ∀{ks:List Tr} {i:Nat},ks.length<=i->(hdWs ks i).1= []:=by
     intro ks
     induction ks with
     |nil=> intro i _;rw[hdWs]
     |cons t ts ih=>
      intro i h;cases i with
      |zero=> simp at h
      |succ i=> rw[hdWs];exact ih (by simpa using h)
    rw[this (by omega)];simp
    omega
 rw[hdW]
 split
 · simp;omega
 · split
   · have:=key 0;simp only[List.length_cons];omega
   · split
     · have:=key 3;simp only[List.length_cons];omega
     · split
       · have:=key 1;simp only[List.length_cons];omega
       · simp;omega
theorem j196{k n:Int}{ks:List Tr}{i:Nat}{p:List Int}(hi:i < ks.length)(h:rdxA (kd ks i) p=true):rdxA (.mk k n ks) ((i:Int)::p)=true:=by
 unfold rdxA at*;rw[show atT (.mk k n ks) ((i:Int)::p)=atT (kd ks i) p by simp[atT,hi]];exact h
theorem j210(t:Tr):conA t []=ctrT t:=by
 cases t
 simp[conA,atT,putA]
theorem j58{k n:Int}{ks:List Tr}{i:Nat}{p:List Int}(hi:i < ks.length)(h:rdxA (kd ks i) p=true):conA (.mk k n ks) ((i:Int)::p)= .mk k n (ks.set i (conA (kd ks i) p)):=by
 obtain⟨u,h1,h2⟩:=q104 h;unfold conA;rw[show atT (.mk k n ks) ((i:Int)::p)=atT (kd ks i) p by simp[atT,hi],h1];simp[putA]
theorem j112: ∀(t:Tr) (p:List Int),hdW t=(p,true)->rdxA t p=true:=Tr.ind fun k n ks hk=> by
 intro p h;have key: ∀i,(hdWs ks i).2=true->rdxA (.mk k n ks) ((i:Int)::(hdWs ks i).1)=true:=fun i hi=> by
  by_cases hl:i < ks.length
  · rw[j60 hl] at hi⊢
    exact j196 hl (hk _ (y85 hl) _ (by rw[<-hi]))
  · rw[y193 (by omega)] at hi
    cases hi
 rw[hdW] at h
 split at h
 · rename_i h0
   simp only[Prod.mk.injEq,and_true] at h;subst h;unfold rdxA;rw[show atT (.mk k n ks) []=some (.mk k n ks) by simp[atT]];exact j83.2 h0
 · split at h
   · simp only[Prod.mk.injEq] at h
     rw[<-h.1];exact key 0 h.2
   · split at h
     · simp only[Prod.mk.injEq] at h
       rw[<-h.1];exact key 3 h.2
     · split at h
       · simp only[Prod.mk.injEq] at h
         rw[<-h.1];exact key 1 h.2
       · simp at h
theorem hdQ_at(t:Tr)(p:List Int)(h:hdQ t=some p):rdxA t p=true:=j112 t p (y82 h)
def hnfC:Nat->Tr->Tr×Int
 |0,t=> match hdQ t with
  |none=>(t,0)
  |some _=>(j14,1)
 |f+1,t=> match hdQ t with
  |none=>(t,0)
  |some p=> if valid sigT (conA t p)=true then hnfC f (conA t p) else(j14,2)
def hnfV(t:Tr)(f:Int):Tr×Int:=if(valid sigT t && inR f 0 200)=true then hnfC f.toNat t else(j14,3)
theorem q61{x:Tr}(h:hdQ x=none)(f:Nat):hnfC f x=(x,0):=by
 cases f <;>(unfold hnfC;rw[h])
theorem j102{x:Tr}{p:List Int}(h:hdQ x=some p):hnfC 0 x=(j14,1):=by
 unfold hnfC;rw[h]
theorem y142{x:Tr}{p:List Int}(h:hdQ x=some p)(hv:valid sigT (conA x p)=false)(f:Nat):hnfC (f+1) x=(j14,2):=by
 rw[hnfC,h];simp only;rw[if_neg (by rw[hv];decide)]
theorem j141{x:Tr}{p:List Int}(h:hdQ x=some p)(hv:valid sigT (conA x p)=true)(f:Nat):hnfC (f+1) x=hnfC f (conA x p):=by
 rw[hnfC,h];simp only;rw[if_pos hv]
theorem y135: ∀(f:Nat) (t x:Tr),valid sigT t=true->hnfC f t=(x,0)->Reds t x/\hdQ x=none/\valid sigT x=true
 |0,t,x,hv,h=> by
  cases e:hdQ t with
  |none=>
   rw[q61 e] at h;cases h
   exact⟨.refl _,e,hv⟩
  |some p=> rw[j102 e] at h;cases h
 |f+1,t,x,hv,h=> by
  cases e:hdQ t with
  |none=>
   rw[q61 e] at h;cases h
   exact⟨.refl _,e,hv⟩
  |some p=>
   by_cases hc:valid sigT (conA t p)=true
   · rw[j141 e hc] at h
     obtain⟨h1,h2⟩:=y135 f _ x hc h;exact⟨(Reds.one (q181 (hdQ_at t p e))).trans h1,h2⟩
   · rw[y142 e (Bool.eq_false_iff.2 hc)] at h
     cases h
theorem j97{t x:Tr}{f:Int}(h:hnfV t f=(x,0)):valid sigT t=true/\Reds t x/\hdQ x=none/\valid sigT x=true:=by
 unfold hnfV at h
 split at h
 · rename_i hv
   rw[Bool.and_eq_true] at hv;exact⟨hv.1,y135 _ _ _ hv.1 h⟩
 · cases h
end Go.Proofs.YtdkamgafpphdjaaGreat
