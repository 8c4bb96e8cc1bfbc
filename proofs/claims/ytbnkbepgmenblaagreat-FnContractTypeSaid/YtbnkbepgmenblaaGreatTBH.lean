/-
  Lemmas towards the law, 34: InfK, InfL, InfM, InfN.
-/
import Derived.Test.YtbnkbepgmenblaaGreatTBG
set_option linter.unusedVariables false
set_option maxHeartbeats 8000000
set_option maxRecDepth 100000
namespace Go.Proofs.YtbnkbepgmenblaaGreat
open Go.RowKit
attribute [local go_sem ↓] Go.wp_at_zero Go.wp_at_succ
theorem j192{f:Nat}{G:List Tr}{k n:Int}{ks:List Tr}(hv:valid sigT (.mk k n ks)=true){i:Nat}{s:Tr}(hi:i < ks.length)(h:tyV (infV f) G k ks i=some (s,0)):valid sigT s=true:=by
 have hk:valid sigT (kd ks i)=true:=y48 (t:= .mk k n ks) hv hi;unfold tyV at h
 split at h
 · exact q91 hk h
 · split at h
   · simp at h
   · exact q91 hk h
def OpQ(w0:World)(N:Nat->Prop)(G:List Tr)(k:Int)(ks:List Tr)(i:Nat)(e:Ending)(w':World):Prop:=
 ∃A' c' H c,e= .returned (.tuple #[.slice A' (H:List Tr).length c',.int .i64 c])/\Ext w0 w'/\((c=2/\H= []/\und k i≠0/\20<=G.length)\/(c=0/\H.length<=c'/\c'<=maxLen/\InK w' N A' H/\((und k i=0/\H=G)\/(und k i≠0/\G.length < 20/\H=G++ [kd ks 0]))))
theorem q170(G:List Tr)(k n:Int)(ks:List Tr)(w0:World)(N:Nat->Prop)(hN: ∀b,w0.heap.size<=b->N b)(A At:Option Addr)(ca ct:Nat)(hG:InK w0 N A G)(hK:InK w0 N At ks)(hlt:ks.length<=ct)(p6:ct<=maxLen)(ee:G.length<=ca)(hcm:ca<=maxLen)(i:Nat)(hi:i < ks.length):
 Calls Tryz.prog 118 #[.slice A G.length ca,.agg #[.int .i64 k,.int .i64 n,.slice At ks.length ct],.int .i64 i] w0 (OpQ w0 N G k ks i):=by
 have X1:=(xr w0).alloc (.cells #[.int .i64 k,.int .i64 n,.slice At ks.length ct] 25);have B1:=heap_alloc_new w0 (.cells #[.int .i64 k,.int .i64 n,.slice At ks.length ct] 25);obtain⟨w1,i7⟩: ∃x,x=w0.alloc (.cells #[.int .i64 k,.int .i64 n,.slice At ks.length ct] 25):=⟨_,rfl⟩;rw[<-i7] at X1 B1;obtain⟨b,o,rfl,C5⟩:=InK.kid hK (by omega);obtain⟨k1,k2,k3,k4,k5,h0,h1,h2,hT⟩:=C5 0 (by omega);simp only[Nat.mul_zero,Nat.add_zero] at h0 h1 h2;have HT:=hdq hT;have HG:=hdq hG;have HN:=hdq hN;have HU:=hdq (fun W=> j82 k i W);unfold OpQ;have Cj:(0:Int) <(ks.length:Int):=by omega
 have uq:0 < ks.length:=by omega
 clear C5 hT hG hK hN;have h0':=X1.cell h0;have Ff:=X1.cell h1;have ui:=X1.cell h2;clear h0 h1 h2;obtain⟨z0,z1,z2,-,-,-⟩:=own3 B1;obtain⟨u,hu⟩: ∃u,u=und k i:=⟨_,rfl⟩;rw[<-hu] at HU⊢;clear hu;by_cases h:u=0
 · have t1:(u==0)=true:=by simp[h]
   go_enter Tryz.func118,Tryz.ntmps118;go_wp2_with fail;rw[<-i7];clear i7;refine(HU.out w1).mono ?_;rintro e w2 ⟨rfl,rfl⟩;go_wp2_with fail;go_ret2;exact⟨A,ca,G,0,rfl,X1,.inr ⟨rfl,ee,hcm,HG.out.later X1,.inl ⟨h,rfl⟩⟩⟩
 · have t1:(u==0)=false:=by simp[h]
   by_cases hL:20<=G.length
   · go_enter Tryz.func118,Tryz.ntmps118
     go_wp2_with fail;rw[<-i7];clear i7;refine(HU.out w1).mono ?_;rintro e w2 ⟨rfl,rfl⟩;go_wp2_with fail;refine(q140 G (kd ks 0) w1 N A ca _ (HT.out.later X1) hL).mono ?_;rintro e w2 ⟨rfl,e2⟩;go_wp2_with fail;go_ret2;exact⟨none,0, [],2,rfl,X1.trans e2,.inl ⟨rfl,rfl,h,hL⟩⟩
   · go_enter Tryz.func118,Tryz.ntmps118
     go_wp2_with fail;rw[<-i7];clear i7;refine(HU.out w1).mono ?_;rintro e w2 ⟨rfl,rfl⟩;go_wp2_with fail;refine(y111 G (kd ks 0) w1 N (fun b hb=> HN.out b (by have:=X1.size;omega)) A ca _ (HG.out.later X1) (HT.out.later X1) (by omega)).mono ?_;rintro e w2 ⟨A',c',rfl,hc1,hc2,hK2,e2⟩;go_wp2_with fail;go_ret2;exact⟨A',c',G++ [kd ks 0],0,by simp,X1.trans e2,.inr ⟨rfl,by simpa using hc1,hc2,hK2,.inr ⟨h,by omega,rfl⟩⟩⟩
def InfAll(f:Nat):Prop:= ∀(w0:World) (N:Nat->Prop) (A:Option Addr) (ca:Nat) (G:List Tr) (t:Tr) (v:Value) (r:Tr×Int),(∀b,w0.heap.size<=b->N b)->G.length<=ca->ca<=maxLen->InK w0 N A G->(∀x∈G,valid sigT x=true)->G.length<=20->InT w0 N t v->valid sigT t=true->infV f G t=some r->
 Calls Tryz.prog 59 #[.slice A G.length ca,v] w0 (AnQ N w0 r)
theorem q159(f:Nat)(IH:InfAll f)(wC:World)(p1 p2:Nat)(A At:Option Addr)(ca ct:Nat)(G:List Tr)(k n:Int)(ks:List Tr)(bw:wC.heap[p1]? =some (.cells #[.slice A G.length ca] 23 (0,0)))(si:wC.heap[p2]? =some (.cells #[.int .i64 k,.int .i64 n,.slice At ks.length ct] 25 (0,0)))(hlt:ks.length<=ct)(p6:ct<=maxLen)(ee:G.length<=ca)(hcm:ca<=maxLen)(ul: ∀x∈G,valid sigT x=true)(hL:G.length<=20)(nj:valid sigT (.mk k n ks)=true):TyF wC p1 p2 A G At ks (tyV (infV f) G k ks):=by
 intro w0 N hx hN hG hK i hi r hr;have Fa: ∀x∈ks,valid sigT x=true:=fun x hm=> y63 nj hm
 have Nn:=hdq Fa;have Kl:=hdq ul;have Um:=hdq IH;have HN:=hdq hN;have HG:=hdq hG;have HK:=hdq hK;have HR:=hdq hr;obtain⟨b,o,rfl,C5⟩:=InK.kid hK (by omega);obtain⟨k1,k2,k3,k4,k5,h0,h1,h2,hT⟩:=C5 i hi;rw[Nat.mul_comm 3 i] at h0 h1 h2;have HT:=hdq hT;have zv:=hx.blk bw;have qi:=hx.blk si;have hpi:(i:Int) <(ks.length:Int):=by omega
 clear C5 hT hG hK hN IH Fa ul hr nj bw si hx;obtain⟨w1,i7⟩: ∃x,x=(w0.alloc (.cells #[.int .i64 0,.int .i64 0,.slice none 0 0] 25)):=⟨_,rfl⟩;obtain⟨a8,s1,e1⟩:=box1 i7;obtain⟨M,hM⟩: ∃M,M=(fun b=> N b/\b≠w0.heap.size):=⟨_,rfl⟩;have tv:=hdq (show∀b,w1.heap.size<=b->M b from hM▸newN HN.out e1.size (by omega));have Qu:=hdq (show InK w1 M A G from hM▸HG.out.keep e1 (Nat.le_refl _));have HKM:=hdq (show InK w1 M _ ks from hM▸HK.out.keep e1 (Nat.le_refl _));have um:=hdq (show InT w1 M (kd ks i) _ from hM▸HT.out.keep e1 (Nat.le_refl _));have HM:=hdq hM;clear hM;have zA:w0.cell? ⟨p1,0,none⟩=some (.slice A G.length ca):=q10 zv 0;have zB0:w0.cell? ⟨p2,0,none⟩=some (.int .i64 k):=q10 qi 0;have zB1:w0.cell? ⟨p2,1,none⟩=some (.int .i64 n):=q10 qi 1;have zB2:w0.cell? ⟨p2,2,none⟩=some (.slice (some ⟨b,o,none⟩) ks.length ct):=q10 qi 2;have lA:=j10 zv;have lB:=j10 qi;go_enter Tryz.func117,Tryz.ntmps117;go_wp2_with fail;rw[<-i7];clear i7;clear zA zB0 zB1 zB2 lA lB;refine(q170 G k n ks w1 M tv.out A _ ca ct Qu.out HKM.out hlt p6 ee hcm i hi).mono ?_;rintro e w2 ⟨A',c',H,c,rfl,e2,hO⟩;have s2:=e2.size;rcases hO with⟨rfl,rfl,hu,Kq⟩ |⟨rfl,hc1,hc2,hK2,hH⟩
 · obtain rfl:r=(q16,2):=by
    have:=HR.out;unfold tyV at this;rw[if_neg hu,if_pos Kq] at this
    simpa using this.symm
   clear h0 h1 h2;have a6:=e2;have Zr:=cbr (a6.blk a8);have j4:=e1;have d6:=j4.trans e2;have ZA:=cb1 (d6.blk zv);have ZB:=cb3 (d6.blk qi);go_wp2_with fail;refine bodyPost_ret (v:= .tuple #[.agg #[.int .i64 0,.int .i64 0,.slice none 0 0],.int .i64 2]) (by simp[results,Tryz.results117,go_sem,Zr]) rfl ⟨_,rfl,j22 _ _ 0 0,(d6.set3 (by omega) _ _ _)⟩
 · have HF:Hid (infV f H (kd ks i)=some r/\(∀x∈H,valid sigT x=true)/\H.length<=20):=hdq (by
    have:=HR.out;unfold tyV at this;rcases hH with⟨hu,rfl⟩ |⟨hu,Kq,rfl⟩
    · rw[if_pos hu] at this
      exact⟨this,Kl.out,hL⟩
    · rw[if_neg hu,if_neg (by omega)] at this
      refine⟨this,fun x hx=> ?_,by simp;omega⟩;rcases List.mem_append.1 hx with hx|hx
      · exact Kl.out x hx
      · rw[List.mem_singleton.1 hx]
        exact Nn.out _ (j68 (by omega)))
   have rk:=hdq hK2;clear hH hK2 HR;have j4:=e1;have d6:=j4.trans e2;have h0':=d6.cell h0;have Ff:=d6.cell h1;have ui:=d6.cell h2;clear h0 h1 h2;have a6:=e2;have Zr:=cbr (a6.blk a8);have ZA:=cb1 (d6.blk zv);have ZB:=cb3 (d6.blk qi);go_wp2_with fail;clear Zr ZA ZB;refine(Um.out w2 M A' c' H (kd ks i) _ r (fun b hb=> tv.out b (by have:=a6.size;omega)) hc1 hc2 rk.out HF.out.2.1 HF.out.2.2 (um.out.later a6) (Nn.out _ (j68 hi)) HF.out.1).mono ?_;rintro e w3 ⟨u,rfl,hT,e3⟩;have s3:=e3.size;obtain⟨⟨q1,q2,q3⟩,d⟩:=r;simp only at hT⊢;obtain⟨a2,b2,A2,l2,c2,rfl⟩:=hT.three;have T2:=hdq hT;clear hT HF h0' Ff ui;have o6:=a6.trans e3;have Zr:=cbr (o6.blk a8);have p7:=d6.trans e3;have ZA:=cb1 (p7.blk zv);have ZB:=cb3 (p7.blk qi);go_wp2_with fail;refine bodyPost_ret (v:= .tuple #[.agg #[.int .i64 a2,.int .i64 b2,.slice A2 l2 c2],.int .i64 d]) (by simp[results,Tryz.results117,go_sem,Zr]) rfl ⟨_,rfl,InT.ret (HM.out▸T2.out) _ _ _,(p7.set3 (by omega) _ _ _)⟩
theorem y133: ∀f,InfAll f
 |0=> fun w0 N A ca G t v r hN ee hcm hG ul hL ht hv hr=> by cases hr
 |f+1=> fun w0 N A ca G t v r hN ee hcm hG ul hL ht hv hr=> by
  obtain⟨k,n,ks⟩:=t;have HJV:=hdq (show judV G (infV f G) (tyV (infV f) G k ks) k n ks=some r from hr);obtain⟨At,ct,rfl,hlt,p6,hK⟩:=InT.mk_iff.1 ht;have Um:=hdq (y133 f);have HN:=hdq hN;have HG:=hdq hG;have HK:=hdq hK;have HV:=hdq hv;have Kl:=hdq ul;clear hN hG hK hv ul ht hr;obtain⟨w1,i7⟩: ∃x,x=(((w0.alloc (.cells #[.slice A G.length ca] 23)).alloc (.cells #[.int .i64 k,.int .i64 n,.slice At ks.length ct] 25)).alloc (.cells #[.int .i64 0,.int .i64 0,.slice none 0 0] 25)):=⟨_,rfl⟩;obtain⟨Jf,Ic,a8,s1,e1⟩:=box3 i7;obtain⟨M,hM⟩: ∃M,M=(fun b=> N b/\b≠w0.heap.size+1+1):=⟨_,rfl⟩;have tv:=hdq (show∀b,w1.heap.size<=b->M b from hM▸newN HN.out e1.size (by omega));have Qu:=hdq (show InK w1 M A G from hM▸HG.out.keep e1 (by omega));have HKM:=hdq (show InK w1 M At ks from hM▸HK.out.keep e1 (by omega));have HM:=hdq hM;clear hM;have HTF:=hdq (q159 f Um.out w1 _ _ A At ca ct G k n ks Jf Ic hlt p6 ee hcm Kl.out hL HV.out);have HJ:Hid (JOk w1 w1 M (w0.heap.size) (w0.heap.size+1) A G At ks (tyV (infV f) G k ks)):=hdq ⟨HTF.out,xr _,tv.out,Qu.out,HKM.out⟩;have HI:Hid (InfF w1 A ca G (infV f G)):=hdq (fun W N' hx hN' K5 t' v' ht' hv' r' Ge=> Um.out W N' A ca G t' v' r' hN' ee hcm K5 Kl.out hL ht' hv' Ge);have Uc:Hid (∀i s,i < ks.length->tyV (infV f) G k ks i=some (s,0)->valid sigT s=true):=hdq (fun i s hi hs=> j192 HV.out hi hs);go_enter Tryz.func59,Tryz.ntmps59;go_wp2_with fail;rw[<-i7];clear i7;have ZA:=cb1 Jf;have ZB:=cb3 Ic;have Zr:=cbr a8;go_wp2_with fail;clear ZA ZB Zr;refine(y164 k n ca ct hlt p6 w1 M HJ.out (infV f G) HI.out HV.out Kl.out ee hcm Uc.out r HJV.out).mono ?_;rintro e w2 ⟨u,rfl,hT,e2⟩;have s2:=e2.size;obtain⟨⟨q1,q2,q3⟩,d⟩:=r;simp only at hT⊢;obtain⟨a2,b2,A2,l2,c2,rfl⟩:=hT.three;have T2:=hdq hT;clear hT HJV;have a6:=e2;have ZA:=cb1 (a6.blk Jf);have ZB:=cb3 (a6.blk Ic);have Zr:=cbr (a6.blk a8);have j4:=e1;have d6:=j4.trans e2;go_wp2_with fail;refine bodyPost_ret (v:= .tuple #[.agg #[.int .i64 a2,.int .i64 b2,.slice A2 l2 c2],.int .i64 d]) (by simp[results,Tryz.results59,go_sem,Zr]) rfl ⟨_,rfl,InT.ret (HM.out▸T2.out) _ _ _,(d6.set3 (by omega) _ _ _)⟩
abbrev AllN:Nat->Prop:=fun _=> True
theorem InK.all{w:World}{A:Option Addr}{ks:List Tr}(h:j26 w A ks):InK w AllN A ks:=InK.mono (fun _ _=> trivial) (fun _ _=> rfl) h
theorem InT.all{w:World}{t:Tr}{v:Value}(h:Lies w t v):InT w AllN t v:=InT.mono (fun _ _=> trivial) (fun _ _=> rfl) h
theorem y197{f:Nat}{w:World}{A:Option Addr}{ca:Nat}{G:List Tr}(ee:G.length<=ca)(hcm:ca<=maxLen)(hv: ∀x∈G,valid sigT x=true)(hL:G.length<=20):InfF w A ca G (infV f G):=
 fun W N hx hN hG t v ht htv r hr=> y133 f W N A ca G t v r hN ee hcm hG hv hL ht htv hr
theorem q136(f:Nat)(ks:List Tr)(w:World)(A:Option Addr)(cap:Nat)(hK:j26 w A ks)(hl:ks.length<=cap)(hc:cap<=maxLen)(r:Tr×Int)(h:ccV f ks=some r):
 Calls Tryz.prog 114 #[.slice A ks.length cap] w fun e w'=> e= .returned (.int .i64 r.2)/\Ext w w':=by
 have hcc:=hc;unfold maxLen at hcc;by_cases h8:ks.length<=8
 · have d8:decide ((8:Int) <(ks.length:Int))=false:=decide_eq_false (by omega)
   have H3:Hid (∀t∈ks,valid sigT t=false->r.2=3):=hdq fun t ht hv=> by
    have:q96 ks=false:=by
     unfold q96;rw[Bool.and_eq_false_iff];refine .inr ?_;simp only[Bool.not_eq_false',List.any_eq_true];exact⟨t,ht,by simp[hv]⟩
    unfold ccV at h;rw[if_neg (by simp[this])] at h;have e:(q16,(3:Int))=r:=by simpa using h
    rw[<-e]
   have HG:Hid ((∀t∈ks,valid sigT t=true)->ccR f [] ks=some r):=hdq fun hv=> by
    have:q96 ks=true:=by
     unfold q96;rw[Bool.and_eq_true,decide_eq_true_eq];refine⟨h8, ?_⟩;simp only[Bool.not_eq_true',List.any_eq_false];intro t ht;simp[hv t ht]
    unfold ccV at h
    rwa [if_pos this] at h
   clear h;have HK:=hdq hK;go_enter Tryz.func114,Tryz.ntmps114;go_wp2_with fail
   go_loopw [14] (fun i wr=> ∃j:Nat,j<=ks.length/\i= .int .i64 j/\Hid (∀t∈ks.take j,valid sigT t=true)/\Ext w wr) (fun i _=> ks.length -(intOf i).toNat)
   case atStart=> exact⟨0,Nat.zero_le _,rfl,hdq (by simp),xr _⟩
   case round=>
    obtain⟨j,hj,rfl,hval,hx⟩:=hrel;by_cases hlt:j < ks.length
    · obtain⟨b,o,k1,n1,A1,p1,j9,rfl,N0,c0,c1,c2,l1,m1,Q3,D2,u6⟩:=hK.get hx hlt
      have hj':(j:Int) <(ks.length:Int):=by omega
      have hE:=hx.alloc (.cells #[.int .i64 k1,.int .i64 n1,.slice A1 j9.length p1] 25);have C6:=(xr wr).alloc (.cells #[.int .i64 k1,.int .i64 n1,.slice A1 j9.length p1] 25);have HV:=hdq (y20 (.mk k1 n1 j9) _ _ (D2.ext C6));go_wp2_with fail;refine HV.out.mono ?_;rintro e w1 ⟨rfl,h1⟩;have hX:=hE.trans h1;obtain⟨vv,Yb⟩: ∃vv,valid sigT (.mk k1 n1 j9)=vv:=⟨_,rfl⟩;rw[Yb];have HVV:=hdq Yb;clear Yb HV c0 c1 c2;cases vv with
      |false=>
       go_wp2_with fail;go_ret;exact⟨by rw[H3.out _ u6 HVV.out];rfl,hX⟩
      |true=>
       have HVL:Hid (∀t∈ks.take (j+1),valid sigT t=true):=hdq fun t ht=> by
        rw[List.take_succ_eq_append_getElem hlt,List.mem_append,List.mem_singleton] at ht;rcases ht with ht|rfl
        · exact hval.out t ht
        · rw[N0.out];exact HVV.out
       go_wp2_with fail
       go_roundw
       case rel=> exact⟨j+1,by omega,by go_num,HVL,hX⟩
       case measure=> simp[intOf];omega
    · have hv: ∀t∈ks,valid sigT t=true:=by
       have:=hval.out
       rwa [List.take_of_length_le (by omega)] at this
      have HVD:=hdq hv;have HGG:=hdq (HG.out hv);clear hv hval HG H3;go_wp2_with fail
      go_loopw [24] (fun i wr=> ∃j:Nat,j<=ks.length/\i= .int .i64 j/\Hid (ccR f (ks.take j) (ks.drop j)=some r)/\Ext w wr) (fun i _=> ks.length -(intOf i).toNat)
      case atStart=> exact⟨0,Nat.zero_le _,rfl,HGG,hx⟩
      case round=>
       obtain⟨i,hi,rfl,HR,hx2⟩:=hrel;by_cases hlt:i < ks.length
       · obtain⟨b,o,k1,n1,A1,p1,j9,rfl,N0,c0,c1,c2,l1,m1,Q3,D2,u6⟩:=hK.get hx2 hlt
         have hi':(i:Int) <(ks.length:Int):=by omega
         have P3:(0:Int)<=(i:Int):=by omega
         have hic:(i:Int)<=(cap:Int):=by omega
         have C6:=(xr wr).alloc (.cells #[.int .i64 k1,.int .i64 n1,.slice A1 j9.length p1] 25);have bw:=heap_alloc_new wr (.cells #[.int .i64 k1,.int .i64 n1,.slice A1 j9.length p1] 25);obtain⟨sA,c,h1,h2,h3⟩:=j28 (by
          have:=HR.out;rw[List.drop_eq_getElem_cons hlt,ccR] at this;exact this)
         rw[N0.out] at h1;have H1:=hdq h1;have H2:=hdq h2;have H3:=hdq h3;have jh:=hdq D2;have Gb:=hdq (fun(W:World) (hW:Ext wr W)=> y140 (wC:=wr) (y197 (f:=f) (w:=wr) (A:=some ⟨b,o,none⟩) (ca:=cap) (G:=ks.take i) (by simp;omega) hc (fun x hm=> HVD.out x (List.mem_of_mem_take hm)) (by simp;omega)) W AllN hW (fun _ _=> trivial) ((InK.all (HK.out.ext (hx2.trans hW))).take i) (.mk k1 n1 j9) _ (InT.all (jh.out.ext hW)) (HVD.out _ u6) _ H1.out);rw[show(ks.take i).length=i from by simp;omega] at Gb;clear h1 h2 h3 D2 Q3 HR;go_wp2_with fail;obtain⟨z0,z1,z2,-,-,-⟩:=own3 bw;have E8:=hdq (show∀w',Ext (wr.alloc (.cells #[.int .i64 k1,.int .i64 n1,.slice A1 j9.length p1] 25)) w'->w'.cell? ⟨wr.heap.size,0,none⟩=some (.int .i64 k1)/\w'.cell? ⟨wr.heap.size,1,none⟩=some (.int .i64 n1)/\w'.cell? ⟨wr.heap.size,2,none⟩=some (.slice A1 j9.length p1) from fun w' h=>⟨h.cell z0,h.cell z1,h.cell z2⟩);obtain⟨q,hq⟩: ∃q,wr.alloc (.cells #[.int .i64 k1,.int .i64 n1,.slice A1 j9.length p1] 25)=q:=⟨_,rfl⟩;rw[hq] at E8 C6 z0 z1 z2;rw[hq];obtain⟨g,hg⟩: ∃g,wr.heap.size=g:=⟨_,rfl⟩;rw[hg] at E8 z0 z1 z2⊢;clear hq hg bw c0 c1 c2
         go_region_held3 (fun w'=> w'.cell? ⟨g,0,none⟩=some (.int .i64 k1)/\w'.cell? ⟨g,1,none⟩=some (.int .i64 n1)/\w'.cell? ⟨g,2,none⟩=some (.slice A1 j9.length p1))
          (first|exact E8.out _ ((xr _).drew) |exact E8.out _ ((xr _).drew.trans e2))
          (first|(go_at_call 68;refine(Gb.out _ (C6.trans (xr _).drew)).mono ?_;rintro e w2 ⟨rfl,e2⟩))
         have hX:=(hx2.trans C6).trans ((xr _).drew.trans e2);clear E8 z0 z1 z2 Gb;by_cases hc0:c=0
         · subst hc0
           have ie:=hdq (H2.out rfl);rw[<-List.take_succ_eq_append_getElem hlt] at ie;clear H1 H2 H3;go_wp2_with fail
           go_roundw
           case rel=> exact⟨i+1,by omega,by go_num,ie,hX⟩
           case measure=> simp[intOf];omega
         · have t1:(c !=0)=true:=by simp[hc0]
           have hr:=H3.out hc0;clear H1 H2 H3 hc0;go_wp2_with fail;go_ret;exact⟨by rw[hr];rfl,hX⟩
       · have hr:r=(q16,0):=by
          have:=HR.out;rw[List.drop_of_length_le (by omega)] at this
          simpa[ccR] using this.symm
         go_wp2_with fail;go_ret;exact⟨by rw[hr];rfl,hx2⟩
 · have d8:decide ((8:Int) <(ks.length:Int))=true:=decide_eq_true (by omega)
   have hr:r.2=3:=by
    unfold ccV q96 at h;rw[decide_eq_false h8,Bool.false_and,if_neg (by simp)] at h;have e:(q16,(3:Int))=r:=by simpa using h
    rw[<-e]
   go_enter Tryz.func114,Tryz.ntmps114;go_wp2_with fail;go_ret;exact⟨by rw[hr];rfl,xr _⟩
theorem ready1(t:Tr)(w:World)(v:Value)(j7:Lies w t v):Calls Tryz.prog 116 #[v] w fun e w'=> e= .returned (.bool (!valid sigT t))/\Ext w w':=by
 have HV:=hdq (fun W (hW:Ext w W)=> y20 t W v (j7.ext hW));obtain⟨k,n,ks⟩:=t;obtain⟨A,cap,rfl,hl,hc,hK⟩:=Lies.mk_iff.1 j7;go_enter Tryz.func116,Tryz.ntmps116;go_wp2_with fail;refine(HV.out _ ((xr w).alloc _)).mono ?_;rintro e w1 ⟨rfl,h1⟩;go_wp2_with fail;go_ret;exact⟨rfl,h1.pre⟩
theorem j208(ks:List Tr)(w:World)(A:Option Addr)(cap:Nat)(hl:ks.length<=cap)(hc:cap<=maxLen)(h:j26 w A ks):
 Calls Tryz.prog 153 #[.slice A ks.length cap,.func (.func 116) #[] #[]] w fun e w'=> e= .returned (.int .i64 (j50 (fun t=> !valid sigT t) ks 0))/\Ext w w':=by
 obtain⟨p,hp⟩: ∃p:Tr->Bool,p=fun t=> !valid sigT t:=⟨_,rfl⟩
 have hf: ∀t∈ks,∀w' v,Ext w w'->Lies w' t v->Calls Tryz.prog 116 #[v] w' fun e w''=> e= .returned (.bool (p t))/\Ext w' w'':=fun t _ w' v _ hv=> by rw[hp];exact ready1 t w' v hv
 rw[<-hp];clear hp;unfold maxLen at hc;go_enter Tryz.func153,Tryz.ntmps153;go_wp2_with fail
 go_loopw [8] (fun i wr=> ∃j:Nat,j<=ks.length/\i= .int .i64 j/\j50 p ks 0=j50 p (ks.drop j) j/\Ext w wr) (fun i _=> ks.length -(intOf i).toNat)
 case atStart=> exact⟨0,Nat.zero_le _,rfl,rfl,xr _⟩
 case round=>
  obtain⟨j,hj,rfl,dv,hx⟩:=hrel;have HE:=hdq dv;clear dv;by_cases hlt:j < ks.length
  · obtain⟨b,o,k,n,A',cap',kids,rfl,HK,c0,c1,c2,K8,L6,hK,j7,j5⟩:=h.get hx hlt
    have hst:j50 p (ks.drop j) j=if p (.mk k n kids)=true then(j:Int) else j50 p (ks.drop (j+1)) (j+1):=by
     rw[List.drop_eq_getElem_cons hlt,HK.out];conv=> lhs;unfold j50
    have HF:=hdq (hf _ j5);clear hf;go_wp2_with fail;refine(HF.out wr _ hx j7).mono ?_;rintro e w1 ⟨rfl,h1⟩;generalize p (.mk k n kids)=r at hst;cases r with
    |true=>
     rw[if_pos rfl] at hst;have HT:=hdq hst;clear hst;go_wp2_with fail;go_ret;exact⟨by rw[HE.out,HT.out];rfl,hx.trans h1⟩
    |false=>
     rw[if_neg (by decide)] at hst;have HT:=hdq hst;clear hst;go_wp2_with fail
     go_roundw
     case rel=> exact⟨j+1,by omega,by go_num,by rw[HE.out,HT.out],hx.trans h1⟩
     case measure=> simp[intOf];omega
  · go_wp2_with fail
    go_ret;exact⟨by rw[HE.out,List.drop_of_length_le (by omega)];rfl,hx⟩
theorem y145(ks:List Tr)(w:World)(A:Option Addr)(cap:Nat)(hl:ks.length<=cap)(hc:cap<=maxLen)(h:j26 w A ks):
 Calls Tryz.prog 115 #[.slice A ks.length cap,.func (.func 116) #[] #[]] w fun e w'=> e= .returned (.bool (ks.any (fun t=> !valid sigT t)))/\Ext w w':=by
 have HI:=hdq (j208 ks w A cap hl hc h);have HB:=hdq (q94 (fun t=> !valid sigT t) ks 0);go_enter Tryz.func115,Tryz.ntmps115;go_wp2_with fail;refine HI.out.mono ?_;rintro e w1 ⟨rfl,h1⟩;go_wp2_with fail;go_ret;exact⟨by rw[<-HB.out];rfl,h1⟩
theorem q190(f:Nat)(ks:List Tr)(w:World)(A:Option Addr)(cap:Nat)(hK:j26 w A ks)(hl:ks.length<=cap)(hc:cap<=maxLen)(l:List Tr)(B:Option Addr)(lc:Nat)(hL:j26 w B l)(hll:l.length<=lc)(hlc:lc<=maxLen)(r:Tr×Int)(h:rdyV f ks l=some r):
 Calls Tryz.prog 58 #[.slice A ks.length cap,.slice B l.length lc] w fun e w'=> e= .returned (.int .i64 r.2)/\Ext w w':=by
 obtain⟨q,hq,hr⟩: ∃q,ccV f ks=some q/\(if l.all (fun t=> valid sigT t)=true then some q else some (q16,3))=some r:=by
  unfold rdyV at h;cases e:ccV f ks with
  |none=> rw[e] at h;cases h
  |some q=> rw[e] at h;exact⟨q,rfl,h⟩
 have HC:=hdq (q136 f ks w A cap hK hl hc q hq);have HD:=hdq (fun W (hW:Ext w W)=> y145 l W B lc hll hlc (hL.ext hW));have Mw:(l.any fun t=> !valid sigT t)= !l.all (fun t=> valid sigT t):=by rw[List.not_all_eq_any_not]
 rw[Mw] at HD;generalize l.all (fun t=> valid sigT t)=z at hr HD;have HR:=hdq hr;clear hr Mw hK hL h hq;go_enter Tryz.func58,Tryz.ntmps58;go_wp2_with fail;refine HC.out.mono ?_;rintro e w1 ⟨rfl,h1⟩;go_wp2_with fail;refine(HD.out _ h1).mono ?_;rintro e w2 ⟨rfl,h2⟩;cases z with
 |true=>
  have hr:=HR.out;rw[if_pos rfl] at hr;obtain rfl:q=r:=by simpa using hr
  clear HR hr;go_wp2_with fail;go_ret;exact⟨rfl,h1.trans h2⟩
 |false=>
  have hr:=HR.out;rw[if_neg (by decide)] at hr;obtain rfl:(q16,(3:Int))=r:=by simpa using hr
  clear HR hr;go_wp2_with fail;go_ret;exact⟨rfl,h1.trans h2⟩
theorem q191{w:World}{g:Nat}{e:TypeId}{t:Tr}{v0 v1 v2:Value}(hb:w.heap[g]? =some (.cells #[v0,v1,v2] e (0,0)))(h:Lies w t (.agg #[v0,v1,v2])):j26 w (some ⟨g,0,none⟩) [t]:=
 .inr ⟨g,0,rfl,j10 hb,⟨⟨v0,v1,v2,q10 hb 0,q10 hb 1,q10 hb 2,h⟩,trivial⟩⟩
theorem y186{f:Nat}{ctx l:List Tr}{u:Tr}(h:rdyV f ctx l=some (u,0)):q96 ctx=true:=by
 have:=(j101 h).1;unfold ccV at this
 split at this
 · assumption
 · simp at this
theorem j81(f:Nat)(ctx:List Tr)(A:Option Addr)(ca:Nat)(w0:World)(hG:j26 w0 A ctx)(ee:ctx.length<=ca)(hcm:ca<=maxLen)(t:Tr)(v:Value)(ht:Lies w0 t v)(N:Nat->Prop)(hN: ∀b,w0.heap.size<=b->N b)(r:Tr×Int)(h:itV f ctx t=some r):Calls Tryz.prog 16 #[.slice A ctx.length ca,v] w0 (AnQ N w0 r):=by
 have HN:=hdq hN;clear hN;obtain⟨q1,c,h1,h2,h3⟩:=j28 h;obtain⟨k,n,ks⟩:=t;obtain⟨At,ct,rfl,hl,p6,hK⟩:=Lies.mk_iff.1 ht;have HT:=hdq ht;have HG:=hdq hG;have H1:=hdq h1;have H2:=hdq h2;have H3:=hdq h3;have HCA:=hdq ee;have HCM:=hdq hcm;clear h h1 h2 h3 ht hK hG ee hcm;obtain⟨w1,i7⟩: ∃x,x=(((w0.alloc (.cells #[.int .i64 k,.int .i64 n,.slice At ks.length ct] 25)).alloc (.cells #[.int .i64 0,.int .i64 0,.slice none 0 0] 25)).alloc (.cells #[.int .i64 k,.int .i64 n,.slice At ks.length ct] 25)):=⟨_,rfl⟩;obtain⟨o9,a8,rz,s1,e1⟩:=box3 i7;obtain⟨M,hM⟩: ∃M,M=(fun b=> N b/\b≠w0.heap.size+1):=⟨_,rfl⟩;have tv:=hdq (show∀b,w1.heap.size<=b->M b from hM▸newN HN.out e1.size (by omega));have HM:=hdq hM;clear hM;go_enter Tryz.func16,Tryz.ntmps16;go_wp2_with fail;rw[<-i7];clear i7;refine(q190 f ctx w1 A ca (HG.out.ext e1) HCA.out HCM.out [.mk k n ks] _ 1 (q191 rz (HT.out.ext e1)) (Nat.le_refl _) (by decide) _ H1.out).mono ?_;rintro e w2 ⟨rfl,e2⟩;have s2:=e2.size;simp only;by_cases hc0:c=0
 case neg=>
  obtain rfl:=H3.out hc0;have t1:(c !=0)=true:=by simp[hc0]
  clear hc0 H1 H2 H3;have a6:=e2;have Zt:=cb3 (a6.blk o9);have Zr:=cbr (a6.blk a8);have Zq:=cb3 (a6.blk rz);have j4:=e1;have d6:=j4.trans e2;go_wp2_with fail;refine bodyPost_ret (v:= .tuple #[.agg #[.int .i64 0,.int .i64 0,.slice none 0 0],.int .i64 c]) (by simp[results,Tryz.results16,go_sem,Zr]) rfl ⟨_,rfl,j22 _ _ 0 0,(d6.set3 (by omega) _ _ _)⟩
 subst hc0;obtain⟨s,d,h4,h5,h6⟩:=j28 (H2.out rfl);have H4:=hdq h4;have H5:=hdq h5;have H6:=hdq h6;clear h4 h5 h6;have HF:=hdq (j105 (y186 H1.out));have HV:=hdq ((j101 H1.out).2 (.mk k n ks) (by simp));have zm:=hdq (y197 (f:=f) (w:=w1) (A:=A) HCA.out HCM.out HF.out.2 (by have:=HF.out.1;omega));clear H1 H2 H3;have a6:=e2;have Zt:=cb3 (a6.blk o9);have Zr:=cbr (a6.blk a8);have Zq:=cb3 (a6.blk rz);go_wp2_with fail;clear Zt Zr Zq;have j4:=e1;have d6:=j4.trans e2;refine(zm.out w2 AllN a6 (fun _ _=> trivial) (InK.all (HG.out.ext d6)) _ _ (InT.all (HT.out.ext d6)) HV.out _ H4.out).mono ?_;rintro e w3 ⟨u,rfl,hT,e3⟩;have s3:=e3.size;simp only at hT⊢;obtain⟨a1,b1,A1,l1,c1,rfl⟩:=hT.three;have T1:=hdq hT.lies';clear hT;by_cases mq:d=0
 case neg=>
  obtain rfl:=H6.out mq;have t1:(d !=0)=true:=by simp[mq]
  clear mq H4 H5 H6;have o6:=a6.trans e3;have Zt:=cb3 (o6.blk o9);have Zr:=cbn (o6.blk a8);have Zq:=cb3 (o6.blk rz);have Ps:Ext w3 (w3.alloc (.cells #[.int .i64 a1,.int .i64 b1,.slice A1 l1 c1] 25)):=(xr w3).alloc _;have p7:=d6.trans e3;have Pr:=cbn (Ps.blk (o6.blk a8));go_wp2_with fail;refine bodyPost_ret (v:= .tuple #[.agg #[.int .i64 0,.int .i64 0,.slice none 0 0],.int .i64 d]) (by simp[results,Tryz.results16,go_sem,Zr,Pr]) rfl ⟨_,rfl,j22 _ _ 0 0,((p7.trans Ps).set3 (by omega) _ _ _)⟩
 subst mq;obtain rfl:(s,(0:Int))=r:=by simpa using H5.out rfl
 have HSV:=hdq (q91 HV.out H4.out);clear H4 H5 H6;have o6:=a6.trans e3;have Zt:=cb3 (o6.blk o9);have Zr:=cbr (o6.blk a8);have Zq:=cb3 (o6.blk rz);obtain⟨w4,hw4⟩: ∃x,x=w3.alloc (.cells #[.int .i64 a1,.int .i64 b1,.slice A1 l1 c1] 25):=⟨_,rfl⟩;have e4:Ext w3 w4:=hw4▸(xr w3).alloc _;have Jp:=heap_alloc_new w3 (.cells #[.int .i64 a1,.int .i64 b1,.slice A1 l1 c1] 25);rw[<-hw4] at Jp;have s4:w3.heap.size < w4.heap.size:=j10 Jp;go_wp2_with fail;rw[<-hw4];clear hw4;clear Zt Zr Zq;have C4:=e4;refine(q57 s w4 _ (T1.out.ext C4) (by have:=(y12 HSV.out).2;omega)).mono ?_;rintro e w5 ⟨u,rfl,V7,e5⟩;have s5:=e5.size;have o8:=o6.trans e4;obtain⟨a2,b2,A2,l2,c2,rfl⟩:=V7.three;have T2:=hdq (V7.at' (N:=M) (fun b hb=> tv.out b (by have:=o8.size;omega)));clear V7;have B9:=o8.trans e5;have Zt:=cb3 (B9.blk o9);have Zr:=cbr (B9.blk a8);have Zq:=cb3 (B9.blk rz);have R5:=e5;have Zx:=cb3 (R5.blk Jp);have p7:=d6.trans e3;have x8:=p7.trans e4;have I9:=x8.trans e5;go_wp2_with fail;refine bodyPost_ret (v:= .tuple #[.agg #[.int .i64 a2,.int .i64 b2,.slice A2 l2 c2],.int .i64 0]) (by simp[results,Tryz.results16,go_sem,Zr]) rfl ⟨_,rfl,InT.ret (HM.out▸T2.out) _ _ _,(I9.set3 (by omega) _ _ _)⟩
end Go.Proofs.YtbnkbepgmenblaaGreat
