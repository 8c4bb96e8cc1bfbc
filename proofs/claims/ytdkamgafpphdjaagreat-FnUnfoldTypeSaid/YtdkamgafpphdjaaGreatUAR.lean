/-
  Lemmas towards the law, 18: Chg.
-/
import Derived.Test.YtdkamgafpphdjaaGreatUAQ
set_option maxHeartbeats 4000000
set_option maxRecDepth 100000
namespace Go.Proofs.YtdkamgafpphdjaaGreat
open Go.RowKit
set_option linter.unusedVariables false
attribute [local go_sem ↓] Go.wp_at_zero Go.wp_at_succ
attribute [local go_sem] ldO
theorem q73(g:Int->Int->Tr): ∀(k:Int) (ts:List Tr) (i:Nat) (b:Int),(q84 g k ts i b).length=ts.length
 |_, [],_,_=> rfl
 |k,t::ts,i,b=> by simp[q84,q73 g k ts (i+1) b]
theorem j92(g:Int->Int->Tr): ∀{k:Int} {ts:List Tr} {i j:Nat} {b:Int} (h:j < ts.length),(q84 g k ts i b)[j]'(by rw[q73];exact h)=chgT g ts[j] (b+und k (i+j))
 |k,t::ts,i,0,b,h=> by simp[q84]
 |k,t::ts,i,j+1,b,h=> by
  simp only[q84,List.getElem_cons_succ];rw[j92 g (j:=j) (by simpa using h),show i+1+j=i+(j+1) by omega]
def Chg_sh(a:World)(p1 p2 p3:Nat)(L:List Nat)(Inv:World->Bool->Prop)(g:Int->Int->Tr)(h:Int->Int->Bool):Prop:=
 ∀(w:World) (s:Bool) (n b:Int),Ext a w->Inv w s->0<=n->n<=20->0<=b->b<=1000->Calls Tryz.prog 188 #[.int .i64 n,.int .i64 b,.pointer (some ⟨p1,0,none⟩),.pointer (some ⟨p2,0,none⟩),.pointer (some ⟨p3,0,none⟩)] w fun e w'=> ∃u,e= .returned u/\Made w w' 25 (g n b) u/\Only L w w'/\Inv w' (s && h n b)
def ChgC_sh(t:Tr):Prop:= ∀(a w:World) (v:Value) (b d:Int) (p1 p2 p3:Nat) (L:List Nat) (B:Nat) (Inv:World->Bool->Prop) (g:Int->Int->Tr) (h:Int->Int->Bool) (s:Bool),
 shape sigT t d=true->Lies a t v->Ext a w->(∀x,x∈L->a.heap.size<=x/\x < w.heap.size)->0<=b->b+cnt t<=1000->
 Chg_sh a p1 p2 p3 L Inv g h->(∀w1 w2 s,Inv w1 s->Ext w1 w2->Inv w2 s)->B<=w.heap.size->(∀w1 w2 s,Inv w1 s->(∀x,x < B->w2.heap[x]? =w1.heap[x]?)->w1.heap.size<=w2.heap.size->Inv w2 s)->Inv w s->
 Calls Tryz.prog 181 #[v,.int .i64 b,.func (.func 188) #[] #[.pointer (some ⟨p1,0,none⟩),.pointer (some ⟨p2,0,none⟩),.pointer (some ⟨p3,0,none⟩)]] w fun e w'=> ∃u,e= .returned u/\Made w w' 25 (chgT g t b) u/\Only L w w'/\Inv w' (s && allT h t b)
theorem q104: ∀t:Tr,ChgC_sh t:=Tr.ind fun k n ks hk=> by
 intro a w v b d p1 p2 p3 L B Inv g h s hsh hin ha hL hb0 hb1 hT hst hB hst2 hI;obtain⟨A,cap,rfl,hl,hc,hK⟩:=Lies.mk_iff.1 hin;obtain⟨-,hn0,hn1,hsk⟩:=y12 hsh;obtain⟨i0,hi,hz0,hz1,hz2⟩:=info_parts j206;have hlc:=j16 ks;have hcc:=hc;unfold maxLen at hcc;simp only[cnt] at hb1;have hmost:=q68 k;obtain⟨b1,d1⟩: ∃b1,(k==1)=b1:=⟨_,rfl⟩;have hwl: ∀x,x∈L->x < w.heap.size:=fun x hx=>(hL x hx).2
 have hE1:Ext w ((w.alloc (.cells #[.int .i64 k,.int .i64 n,.slice A ks.length cap] 25)).alloc (.cells #[.int .i64 0,.int .i64 0,.slice none 0 0] 25)):=((xr w).alloc _).alloc _;obtain⟨hbT,hbR,hs1⟩:=blk2 (xr ((w.alloc (.cells #[.int .i64 k,.int .i64 n,.slice A ks.length cap] 25)).alloc (.cells #[.int .i64 0,.int .i64 0,.slice none 0 0] 25)));have hs1':((w.alloc (.cells #[.int .i64 k,.int .i64 n,.slice A ks.length cap] 25)).alloc (.cells #[.int .i64 0,.int .i64 0,.slice none 0 0] 25)).heap.size=w.heap.size+2:=by simp
 cases b1 with
 |true=>
  obtain rfl:k=1:=by simpa using d1
  have e1:chgT g (.mk 1 n ks) b=g n b:=by unfold chgT;rw[if_pos rfl]
  have e2:allT h (.mk 1 n ks) b=h n b:=by unfold allT;rw[if_pos rfl]
  rw[e1,e2];have HTL:=hdq (hT _ s n b (ha.trans hE1) (hst _ _ _ hI hE1) hn0 (by omega) hb0 (by omega));clear e1 e2 hT hst hI;go_enter Tryz.func181,Tryz.ntmps181;go_wp2_with fail;refine HTL.out.mono ?_;rintro e w1 ⟨u,rfl,hM,ho,hI⟩;obtain⟨a1,a2,a3,a4,a5,rfl⟩:=hM.three';have hb2:=(ho.block _ (by omega) (fun hm=> by have:=hwl _ hm;omega)).trans hbR;obtain⟨s0,s1,s2,f0,f1,f2⟩:=own3 hb2;have hso:=ho.size;clear HTL hbT hbR hb2;go_wp2_with fail;refine bodyPost_ret (v:= .agg #[.int .i64 a1,.int .i64 a2,.slice a3 a4 a5]) (by simp[results,Tryz.results181,go_sem,s0,s1,s2]) rfl ⟨_,rfl, ?_, ?_, ?_⟩
  · exact Made.since (hM.after ((((q23.refl _ _).setCell (by simp) _).setCell (by simp) _).setCell (by simp) _)) (by simp;omega)
  · have h0:=(oE (L:=L) hE1).trans ho
    refine⟨h0.os,h0.tape,h0.output,by simpa using h0.size,fun x hx hn=> ?_⟩;rw[Below.heap_setCell _ _ _ _ (by simp;omega),Below.heap_setCell _ _ _ _ (by simp;omega),Below.heap_setCell _ _ _ _ (by simp;omega)];exact h0.block x hx hn
  · refine hst2 _ _ _ hI (fun x hx=> ?_) (by simp)
    rw[Below.heap_setCell _ _ _ _ (by simp;omega),Below.heap_setCell _ _ _ _ (by simp;omega),Below.heap_setCell _ _ _ _ (by simp;omega)]
 |false=>
  have hk1:k≠1:=by simpa using d1
  obtain⟨rs,hrs⟩: ∃rs,rs=q84 g k ks 0 b:=⟨_,rfl⟩;have hres:chgT g (.mk k n ks) b= .mk k n rs:=by
   rw[hrs]
   conv=> lhs;unfold chgT
   rw[if_neg hk1]
  have hall:allT h (.mk k n ks) b=j36 h k ks 0 b:=by
   conv=> lhs;unfold allT
   rw[if_neg hk1]
  have hrl:rs.length=ks.length:=by rw[hrs,q73]
  have hget: ∀j (hj:j < ks.length),rs[j]'(by omega)=chgT g ks[j] (b+und k j):=fun j hj=> by
   subst hrs;rw[j92 g hj,Nat.zero_add]
  rw[hres,hall];have HGET:=hdq hget;have HST:=hdq hst;have HST2:=hdq hst2;have HTT:=hdq hT;have HWL:=hdq hwl;have HL0:=hdq hL;have HSK:=hdq hsk;have hIa:=hst _ _ _ hI hE1;clear hres hrs hget hall hst hst2 hT hwl hL hsk;go_enter Tryz.func181,Tryz.ntmps181;go_wp2_with fail;generalize hw1:(w.alloc (.cells #[.int .i64 k,.int .i64 n,.slice A ks.length cap] 25)).alloc (.cells #[.int .i64 0,.int .i64 0,.slice none 0 0] 25)=w1 at*;clear hw1;obtain⟨W,hW⟩: ∃W,W=w1.alloc (.cells #[.int .i64 k,.int .i64 n,.slice none 0 0] 25):=⟨_,rfl⟩;have hsW:W.heap.size=w.heap.size+3:=by rw[hW];simp;omega
  have hEW:Ext w1 W:=hW▸(xr w1).alloc _;have hbO:W.heap[w.heap.size+1+1]? =some (.cells #[.int .i64 k,.int .i64 n,.slice none 0 0] 25 (0,0)):=by
   have:=heap_alloc_new w1 (.cells #[.int .i64 k,.int .i64 n,.slice none 0 0] 25);rw[hs1'] at this;rw[hW];exact this
  rw[<-hW];have hIW:=HST.out _ _ _ hIa hEW;clear hW hIa hI
  go_loopw [26] (fun i wr=> ∃(j:Nat) (v:Value) (s2:Bool),j<=ks.length/\i= .int .i64 j/\wr.heap[w.heap.size+1+1]? =some (.cells #[.int .i64 k,.int .i64 n,v] 25 (0,0))/\Grow W wr 25 v (rs.take j)/\Only L w1 wr/\W.heap.size<=wr.heap.size/\Inv wr s2/\(s && j36 h k ks 0 b)=(s2 && j36 h k (ks.drop j) j b)) (fun i _=> ks.length -(intOf i).toNat)
  case atStart=> exact⟨0,_,s,Nat.zero_le _,rfl,hbO,Grow.nil _ _ _,oE hEW,Nat.le_refl _,hIW,rfl⟩
  case round=>
   obtain⟨j,v,s2,hj,rfl,hbv,hG,ho,hle,hI2,heq⟩:=hrel;have HE:=hdq heq;have har:Ext a wr:=ho.ext (ha.trans hE1) (fun x hx=>(HL0.out x hx).1);have hbTr:=(ho.block _ (by omega) (fun hm=> by have:=HWL.out _ hm;omega)).trans hbT;obtain⟨x0,x1,x2,-,-,-⟩:=own3 hbTr;clear heq;by_cases hlt:j < ks.length
   · obtain⟨b',o,k',n',A',cap',kids,rfl,HK,c0,c1,c2,hkl,hkc,hK',hin',hmem⟩:=hK.get har hlt
     have hinA:Lies a (.mk k' n' kids) (.agg #[.int .i64 k',.int .i64 n',.slice A' kids.length cap']):=by
      obtain⟨b2,o2,k2,n2,A2,cap2,kids2,h1,h2,q0,q1,q2,h6,h7,h8,h9,h10⟩:=hK.get (xr a) hlt;obtain⟨rfl,rfl⟩:b'=b2/\o=o2:=by cases h1;exact⟨rfl,rfl⟩
      have e3:=(har.cell q0).symm.trans c0;have e4:=(har.cell q1).symm.trans c1;have e5:=(har.cell q2).symm.trans c2;have e6:=h2.out.symm.trans HK.out;cases e3;cases e4;cases e6;cases e5
      exact h9
     have htk:=y75 (l:=rs) (j:=j) (by omega) (HGET.out j hlt);rw[HK.out] at htk;have hstp:j36 h k (ks.drop j) j b=(allT h (.mk k' n' kids) (b+und k j)&& j36 h k (ks.drop (j+1)) (j+1) b):=by
      rw[List.drop_eq_getElem_cons hlt,HK.out]
      conv=> lhs;unfold j36
     have hub:=j44 k j;obtain⟨uu,hu⟩: ∃u,u=und k j:=⟨_,rfl⟩;have HU:=hdq (fun W=> j51 k j W);rw[<-hu] at HU hub htk hstp;have HTK:=hdq htk;have HSTP:=hdq hstp;have hcm:=y14 hmem;have hskj:=HSK.out _ hmem;have hj2:(j:Int) <(ks.length:Int):=by omega
     have HWR:=hdq (IntWalk.i64_in (b+uu) ⟨by omega,by omega⟩);have HR:=hdq (hk _ hmem a);clear hu htk hstp;have hlen:(rs.take j).length < 1099511627776:=by rw[List.length_take];omega
     have hlj:(rs.take j).length=j:=by rw[List.length_take];omega
     have HL:=hdq hlj;go_wp2_with fail;have hx:=(xr wr).alloc (.cells #[.int .i64 k',.int .i64 n',.slice A' kids.length cap'] 25);have hb5:=heap_alloc_new wr (.cells #[.int .i64 k',.int .i64 n',.slice A' kids.length cap'] 25);obtain⟨wd,hwd⟩: ∃wd,wd=wr.alloc (.cells #[.int .i64 k',.int .i64 n',.slice A' kids.length cap'] 25):=⟨_,rfl⟩;rw[<-hwd] at hx hb5⊢;clear hwd;have hsr:W.heap.size<=wr.heap.size:=hle;have hsd:wr.heap.size < wd.heap.size:=q10 hb5;have HGR:=hdq hG;have hbvd:=hx.blk hbv;have hbTd:=hx.blk hbTr;have hv:=y10 hbvd 2;have hI5:=HST.out _ _ _ hI2 hx;have hId:=HST.out _ _ _ hI5 (xr wd).drew;have hxd:=hx.trans (xr wd).drew;have HF:=hdq (HR.out wd.drew _ (b+uu) (d - 1) p1 p2 p3 L B Inv g h s2 hskj hinA (har.trans hxd) (fun x hx=>⟨(HL0.out x hx).1,by have:=HWL.out x hx;show x < wd.heap.size;omega⟩) (by omega) (by omega) HTT.out HST.out (by show B<=wd.heap.size;omega) HST2.out hId);have HS:=hdq (show∀w':World,w'.heap[w.heap.size]? =wd.heap[w.heap.size]? ->w'.heap[wr.heap.size]? =wd.heap[wr.heap.size]? ->w'.cell? ⟨w.heap.size,0,none⟩=some (.int .i64 k)/\w'.cell? ⟨wr.heap.size,0,none⟩=some (.int .i64 k')/\w'.cell? ⟨wr.heap.size,1,none⟩=some (.int .i64 n')/\w'.cell? ⟨wr.heap.size,2,none⟩=some (.slice A' kids.length cap') from fun w' h1 h2=> by
      have q1:=h1.trans hbTd;have q2:=h2.trans hb5;exact⟨y10 q1 0,y10 q2 0,y10 q2 1,y10 q2 2⟩)
     have HV:=hdq (show∀w':World,w'.heap[w.heap.size+1+1]? =wd.heap[w.heap.size+1+1]? ->w'.heap[w.heap.size+1+1]? =some (.cells #[.int .i64 k,.int .i64 n,v] 25 (0,0)) from fun w' h1=> h1.trans hbvd);have hoX:Only L w1 wd:=ho.trans (oE hx);clear hlj hbv hG hle hcc x0 x1 x2 c0 c1 c2 hbTr hb5 hbTd har hinA HR hskj hI2 hI5 hId hin' hK';rw[show Op.load 23 (Operand.tmp 31)=ldO 23 31 from rfl]
     go_region_held_law (fun w'=> w'.cell? ⟨w.heap.size,0,none⟩=some (.int .i64 k)/\w'.cell? ⟨wr.heap.size,0,none⟩=some (.int .i64 k')/\w'.cell? ⟨wr.heap.size,1,none⟩=some (.int .i64 n')/\w'.cell? ⟨wr.heap.size,2,none⟩=some (.slice A' kids.length cap'))
      (first|exact HS.out _ ((Below.heap_setCell _ _ _ _ (by show w.heap.size≠w.heap.size+1+1;omega)).trans k5a) ((Below.heap_setCell _ _ _ _ (by show wr.heap.size≠w.heap.size+1+1;omega)).trans k5b) |exact HS.out _ k5a k5b|exact HS.out _ ((Below.heap_alloc _ _ _ (by omega)).trans k4a) ((Below.heap_alloc _ _ _ (by omega)).trans k4b) |exact HS.out _ k4a k4b|exact HS.out _ rfl rfl)
      (first|(go_simp;go_at_call 117;refine(HU.out _).mono ?_;rintro e wu ⟨rfl,rfl⟩) |(go_simp;go_at_call 181;(try rw[HWR.out]);refine HF.out.mono ?_;rintro e w4 ⟨u,rfl,hM,ho4,hI4⟩;obtain⟨a1,a2,a3,a4,a5,rfl⟩:=hM.three';have hs4:wd.heap.size<=w4.heap.size:=ho4.size;have k4a:w4.heap[w.heap.size]? =wd.heap[w.heap.size]? :=ho4.block _ (by show w.heap.size < wd.heap.size;omega) (fun hm=> by have:=HWL.out _ hm;omega);have k4b:w4.heap[wr.heap.size]? =wd.heap[wr.heap.size]? :=ho4.block _ hsd (fun hm=> by have:=HWL.out _ hm;omega);have k4c:w4.heap[w.heap.size+1+1]? =wd.heap[w.heap.size+1+1]? :=ho4.block _ (by show w.heap.size+1+1 < wd.heap.size;omega) (fun hm=> by have:=HWL.out _ hm;omega);have hv4:=y10 (HV.out _ k4c) 2;have hs4b:=World.block_lt_of_cell? _ _ hv4) |(refine q42 _ (by rfl) (.tmp 32) (.tmp 42) _ (by rfl) 25 i0 _ Tryz.underlying23 hi hz0 hz1 hz2 rfl (by rfl) HGR.out (by omega) (by omega) (fun x h1 h2=>(ho4.block x (by show x < wd.heap.size;omega) (fun hm=> by have:=HWL.out _ hm;omega)).trans (hx.heap x h2)) (hM.since (by show wr.heap.size<=wd.heap.size;omega)) ((xr _).alloc _) (by rfl) (heap_alloc_new _ _) hlen ?_;intro v' w5 hG5 hB5 hK5;obtain⟨B5,c5,rfl,q1,q2,-⟩:=hG5.made;have k5a:w5.heap[w.heap.size]? =wd.heap[w.heap.size]? :=(hB5.block _ (by omega)).trans k4a;have k5b:w5.heap[wr.heap.size]? =wd.heap[wr.heap.size]? :=(hK5 _ (by show wr.heap.size<=_;omega) (by omega)).trans k4b;have k5c:=HV.out _ ((hB5.block _ (by omega)).trans k4c);have hv5:=y10 k5c 2;have hf5:=q12 k5c 2))
     all_goals(
      have hO5:Only L w1 w5:=(hoX.trans ((oE (xr wd).drew).trans ho4)).below hB5 (by omega);have hs5:=hB5.size;rw[List.length_append,List.length_singleton,HL.out,HTK.out] at hG5;have hGs:=fun u=> hG5.after ((q23.refl W.heap.size w5).setCell (p:=⟨w.heap.size+1+1,2,none⟩) (by show w.heap.size+1+1 < W.heap.size;omega) u)
      have hIs:=fun u=> HST2.out w4 (w5.setCell ⟨w.heap.size+1+1,2,none⟩ u) _ hI4 (fun x hx=>(Below.heap_setCell _ _ _ _ (by show x≠w.heap.size+1+1;omega)).trans (hB5.block x (by omega))) (by simp;omega)
      have hOs:=fun u=>(show Only L w1 (w5.setCell ⟨w.heap.size+1+1,2,none⟩ u) from⟨hO5.os,hO5.tape,hO5.output,by simpa using hO5.size,fun x hx hn=>(Below.heap_setCell _ _ _ _ (by show x≠w.heap.size+1+1;omega)).trans (hO5.block x hx hn)⟩)
      clear hv4 hv hM ho4;go_wp2_with fail
      go_roundw
      case rel=> exact⟨j+1,_,_,by omega,by go_num,q11 k5c 2 _,hGs _,hOs _,by simp;omega,hIs _,by rw[HE.out,HSTP.out,Bool.and_assoc]⟩
      case measure=> simp[intOf];omega)
   · obtain⟨B5,c5,rfl,q1,q2,hMK⟩:=hG.made
     have hrj:rs.take j=rs:=List.take_of_length_le (by omega);obtain⟨r0,r1,r2,-,-,-⟩:=own3 hbv;have hbR':=(ho.block _ hs1 (fun hm=> by have:=HWL.out _ hm;omega)).trans hbR;obtain⟨s0,s1,s2',f0,f1,f2⟩:=own3 hbR';rw[hrj] at q1 r2 hMK;rw[List.drop_of_length_le (by omega)] at HE;clear hbv;go_wp2_with fail;refine bodyPost_ret (v:= .agg #[.int .i64 k,.int .i64 n,.slice B5 rs.length c5]) (by simp[results,Tryz.results181,go_sem,s0,s1,s2',hrl]) rfl ⟨_,rfl, ?_, ?_, ?_⟩
     · exact Made.since (Made.after (Made.mk q1 q2 hMK) ((((q23.refl _ _).setCell (by show w.heap.size+1 < _;omega) _).setCell (by show w.heap.size+1 < _;omega) _).setCell (by show w.heap.size+1 < _;omega) _)) (by omega)
     · have h0:=(oE (L:=L) hE1).trans ho
       refine⟨h0.os,h0.tape,h0.output,by simpa using h0.size,fun x hx hn=> ?_⟩;rw[Below.heap_setCell _ _ _ _ (by show x≠w.heap.size+1;omega),Below.heap_setCell _ _ _ _ (by show x≠w.heap.size+1;omega),Below.heap_setCell _ _ _ _ (by show x≠w.heap.size+1;omega)];exact h0.block x hx hn
     · have hE:=HE.out
       simp only[j36,Bool.and_true] at hE;rw[hE];refine HST2.out _ _ _ hI2 (fun x hx=> ?_) (by simp);rw[Below.heap_setCell _ _ _ _ (by show x≠w.heap.size+1;omega),Below.heap_setCell _ _ _ _ (by show x≠w.heap.size+1;omega),Below.heap_setCell _ _ _ _ (by show x≠w.heap.size+1;omega)]
def Chg_sb(a:World)(p1 p2 p3:Nat)(L:List Nat)(Inv:World->Bool->Prop)(g:Int->Int->Tr)(h:Int->Int->Bool):Prop:=
 ∀(w:World) (s:Bool) (n b:Int),Ext a w->Inv w s->0<=n->n<=20->0<=b->b<=1000->Calls Tryz.prog 182 #[.int .i64 n,.int .i64 b,.pointer (some ⟨p1,0,none⟩),.pointer (some ⟨p2,0,none⟩),.pointer (some ⟨p3,0,none⟩)] w fun e w'=> ∃u,e= .returned u/\Made w w' 25 (g n b) u/\Only L w w'/\Inv w' (s && h n b)
def ChgC_sb(t:Tr):Prop:= ∀(a w:World) (v:Value) (b d:Int) (p1 p2 p3:Nat) (L:List Nat) (B:Nat) (Inv:World->Bool->Prop) (g:Int->Int->Tr) (h:Int->Int->Bool) (s:Bool),
 shape sigT t d=true->Lies a t v->Ext a w->(∀x,x∈L->a.heap.size<=x/\x < w.heap.size)->0<=b->b+cnt t<=1000->
 Chg_sb a p1 p2 p3 L Inv g h->(∀w1 w2 s,Inv w1 s->Ext w1 w2->Inv w2 s)->B<=w.heap.size->(∀w1 w2 s,Inv w1 s->(∀x,x < B->w2.heap[x]? =w1.heap[x]?)->w1.heap.size<=w2.heap.size->Inv w2 s)->Inv w s->
 Calls Tryz.prog 181 #[v,.int .i64 b,.func (.func 182) #[] #[.pointer (some ⟨p1,0,none⟩),.pointer (some ⟨p2,0,none⟩),.pointer (some ⟨p3,0,none⟩)]] w fun e w'=> ∃u,e= .returned u/\Made w w' 25 (chgT g t b) u/\Only L w w'/\Inv w' (s && allT h t b)
theorem q102: ∀t:Tr,ChgC_sb t:=Tr.ind fun k n ks hk=> by
 intro a w v b d p1 p2 p3 L B Inv g h s hsh hin ha hL hb0 hb1 hT hst hB hst2 hI;obtain⟨A,cap,rfl,hl,hc,hK⟩:=Lies.mk_iff.1 hin;obtain⟨-,hn0,hn1,hsk⟩:=y12 hsh;obtain⟨i0,hi,hz0,hz1,hz2⟩:=info_parts j206;have hlc:=j16 ks;have hcc:=hc;unfold maxLen at hcc;simp only[cnt] at hb1;have hmost:=q68 k;obtain⟨b1,d1⟩: ∃b1,(k==1)=b1:=⟨_,rfl⟩;have hwl: ∀x,x∈L->x < w.heap.size:=fun x hx=>(hL x hx).2
 have hE1:Ext w ((w.alloc (.cells #[.int .i64 k,.int .i64 n,.slice A ks.length cap] 25)).alloc (.cells #[.int .i64 0,.int .i64 0,.slice none 0 0] 25)):=((xr w).alloc _).alloc _;obtain⟨hbT,hbR,hs1⟩:=blk2 (xr ((w.alloc (.cells #[.int .i64 k,.int .i64 n,.slice A ks.length cap] 25)).alloc (.cells #[.int .i64 0,.int .i64 0,.slice none 0 0] 25)));have hs1':((w.alloc (.cells #[.int .i64 k,.int .i64 n,.slice A ks.length cap] 25)).alloc (.cells #[.int .i64 0,.int .i64 0,.slice none 0 0] 25)).heap.size=w.heap.size+2:=by simp
 cases b1 with
 |true=>
  obtain rfl:k=1:=by simpa using d1
  have e1:chgT g (.mk 1 n ks) b=g n b:=by unfold chgT;rw[if_pos rfl]
  have e2:allT h (.mk 1 n ks) b=h n b:=by unfold allT;rw[if_pos rfl]
  rw[e1,e2];have HTL:=hdq (hT _ s n b (ha.trans hE1) (hst _ _ _ hI hE1) hn0 (by omega) hb0 (by omega));clear e1 e2 hT hst hI;go_enter Tryz.func181,Tryz.ntmps181;go_wp2_with fail;refine HTL.out.mono ?_;rintro e w1 ⟨u,rfl,hM,ho,hI⟩;obtain⟨a1,a2,a3,a4,a5,rfl⟩:=hM.three';have hb2:=(ho.block _ (by omega) (fun hm=> by have:=hwl _ hm;omega)).trans hbR;obtain⟨s0,s1,s2,f0,f1,f2⟩:=own3 hb2;have hso:=ho.size;clear HTL hbT hbR hb2;go_wp2_with fail;refine bodyPost_ret (v:= .agg #[.int .i64 a1,.int .i64 a2,.slice a3 a4 a5]) (by simp[results,Tryz.results181,go_sem,s0,s1,s2]) rfl ⟨_,rfl, ?_, ?_, ?_⟩
  · exact Made.since (hM.after ((((q23.refl _ _).setCell (by simp) _).setCell (by simp) _).setCell (by simp) _)) (by simp;omega)
  · have h0:=(oE (L:=L) hE1).trans ho
    refine⟨h0.os,h0.tape,h0.output,by simpa using h0.size,fun x hx hn=> ?_⟩;rw[Below.heap_setCell _ _ _ _ (by simp;omega),Below.heap_setCell _ _ _ _ (by simp;omega),Below.heap_setCell _ _ _ _ (by simp;omega)];exact h0.block x hx hn
  · refine hst2 _ _ _ hI (fun x hx=> ?_) (by simp)
    rw[Below.heap_setCell _ _ _ _ (by simp;omega),Below.heap_setCell _ _ _ _ (by simp;omega),Below.heap_setCell _ _ _ _ (by simp;omega)]
 |false=>
  have hk1:k≠1:=by simpa using d1
  obtain⟨rs,hrs⟩: ∃rs,rs=q84 g k ks 0 b:=⟨_,rfl⟩;have hres:chgT g (.mk k n ks) b= .mk k n rs:=by
   rw[hrs]
   conv=> lhs;unfold chgT
   rw[if_neg hk1]
  have hall:allT h (.mk k n ks) b=j36 h k ks 0 b:=by
   conv=> lhs;unfold allT
   rw[if_neg hk1]
  have hrl:rs.length=ks.length:=by rw[hrs,q73]
  have hget: ∀j (hj:j < ks.length),rs[j]'(by omega)=chgT g ks[j] (b+und k j):=fun j hj=> by
   subst hrs;rw[j92 g hj,Nat.zero_add]
  rw[hres,hall];have HGET:=hdq hget;have HST:=hdq hst;have HST2:=hdq hst2;have HTT:=hdq hT;have HWL:=hdq hwl;have HL0:=hdq hL;have HSK:=hdq hsk;have hIa:=hst _ _ _ hI hE1;clear hres hrs hget hall hst hst2 hT hwl hL hsk;go_enter Tryz.func181,Tryz.ntmps181;go_wp2_with fail;generalize hw1:(w.alloc (.cells #[.int .i64 k,.int .i64 n,.slice A ks.length cap] 25)).alloc (.cells #[.int .i64 0,.int .i64 0,.slice none 0 0] 25)=w1 at*;clear hw1;obtain⟨W,hW⟩: ∃W,W=w1.alloc (.cells #[.int .i64 k,.int .i64 n,.slice none 0 0] 25):=⟨_,rfl⟩;have hsW:W.heap.size=w.heap.size+3:=by rw[hW];simp;omega
  have hEW:Ext w1 W:=hW▸(xr w1).alloc _;have hbO:W.heap[w.heap.size+1+1]? =some (.cells #[.int .i64 k,.int .i64 n,.slice none 0 0] 25 (0,0)):=by
   have:=heap_alloc_new w1 (.cells #[.int .i64 k,.int .i64 n,.slice none 0 0] 25);rw[hs1'] at this;rw[hW];exact this
  rw[<-hW];have hIW:=HST.out _ _ _ hIa hEW;clear hW hIa hI
  go_loopw [26] (fun i wr=> ∃(j:Nat) (v:Value) (s2:Bool),j<=ks.length/\i= .int .i64 j/\wr.heap[w.heap.size+1+1]? =some (.cells #[.int .i64 k,.int .i64 n,v] 25 (0,0))/\Grow W wr 25 v (rs.take j)/\Only L w1 wr/\W.heap.size<=wr.heap.size/\Inv wr s2/\(s && j36 h k ks 0 b)=(s2 && j36 h k (ks.drop j) j b)) (fun i _=> ks.length -(intOf i).toNat)
  case atStart=> exact⟨0,_,s,Nat.zero_le _,rfl,hbO,Grow.nil _ _ _,oE hEW,Nat.le_refl _,hIW,rfl⟩
  case round=>
   obtain⟨j,v,s2,hj,rfl,hbv,hG,ho,hle,hI2,heq⟩:=hrel;have HE:=hdq heq;have har:Ext a wr:=ho.ext (ha.trans hE1) (fun x hx=>(HL0.out x hx).1);have hbTr:=(ho.block _ (by omega) (fun hm=> by have:=HWL.out _ hm;omega)).trans hbT;obtain⟨x0,x1,x2,-,-,-⟩:=own3 hbTr;clear heq;by_cases hlt:j < ks.length
   · obtain⟨b',o,k',n',A',cap',kids,rfl,HK,c0,c1,c2,hkl,hkc,hK',hin',hmem⟩:=hK.get har hlt
     have hinA:Lies a (.mk k' n' kids) (.agg #[.int .i64 k',.int .i64 n',.slice A' kids.length cap']):=by
      obtain⟨b2,o2,k2,n2,A2,cap2,kids2,h1,h2,q0,q1,q2,h6,h7,h8,h9,h10⟩:=hK.get (xr a) hlt;obtain⟨rfl,rfl⟩:b'=b2/\o=o2:=by cases h1;exact⟨rfl,rfl⟩
      have e3:=(har.cell q0).symm.trans c0;have e4:=(har.cell q1).symm.trans c1;have e5:=(har.cell q2).symm.trans c2;have e6:=h2.out.symm.trans HK.out;cases e3;cases e4;cases e6;cases e5
      exact h9
     have htk:=y75 (l:=rs) (j:=j) (by omega) (HGET.out j hlt);rw[HK.out] at htk;have hstp:j36 h k (ks.drop j) j b=(allT h (.mk k' n' kids) (b+und k j)&& j36 h k (ks.drop (j+1)) (j+1) b):=by
      rw[List.drop_eq_getElem_cons hlt,HK.out]
      conv=> lhs;unfold j36
     have hub:=j44 k j;obtain⟨uu,hu⟩: ∃u,u=und k j:=⟨_,rfl⟩;have HU:=hdq (fun W=> j51 k j W);rw[<-hu] at HU hub htk hstp;have HTK:=hdq htk;have HSTP:=hdq hstp;have hcm:=y14 hmem;have hskj:=HSK.out _ hmem;have hj2:(j:Int) <(ks.length:Int):=by omega
     have HWR:=hdq (IntWalk.i64_in (b+uu) ⟨by omega,by omega⟩);have HR:=hdq (hk _ hmem a);clear hu htk hstp;have hlen:(rs.take j).length < 1099511627776:=by rw[List.length_take];omega
     have hlj:(rs.take j).length=j:=by rw[List.length_take];omega
     have HL:=hdq hlj;go_wp2_with fail;have hx:=(xr wr).alloc (.cells #[.int .i64 k',.int .i64 n',.slice A' kids.length cap'] 25);have hb5:=heap_alloc_new wr (.cells #[.int .i64 k',.int .i64 n',.slice A' kids.length cap'] 25);obtain⟨wd,hwd⟩: ∃wd,wd=wr.alloc (.cells #[.int .i64 k',.int .i64 n',.slice A' kids.length cap'] 25):=⟨_,rfl⟩;rw[<-hwd] at hx hb5⊢;clear hwd;have hsr:W.heap.size<=wr.heap.size:=hle;have hsd:wr.heap.size < wd.heap.size:=q10 hb5;have HGR:=hdq hG;have hbvd:=hx.blk hbv;have hbTd:=hx.blk hbTr;have hv:=y10 hbvd 2;have hI5:=HST.out _ _ _ hI2 hx;have hId:=HST.out _ _ _ hI5 (xr wd).drew;have hxd:=hx.trans (xr wd).drew;have HF:=hdq (HR.out wd.drew _ (b+uu) (d - 1) p1 p2 p3 L B Inv g h s2 hskj hinA (har.trans hxd) (fun x hx=>⟨(HL0.out x hx).1,by have:=HWL.out x hx;show x < wd.heap.size;omega⟩) (by omega) (by omega) HTT.out HST.out (by show B<=wd.heap.size;omega) HST2.out hId);have HS:=hdq (show∀w':World,w'.heap[w.heap.size]? =wd.heap[w.heap.size]? ->w'.heap[wr.heap.size]? =wd.heap[wr.heap.size]? ->w'.cell? ⟨w.heap.size,0,none⟩=some (.int .i64 k)/\w'.cell? ⟨wr.heap.size,0,none⟩=some (.int .i64 k')/\w'.cell? ⟨wr.heap.size,1,none⟩=some (.int .i64 n')/\w'.cell? ⟨wr.heap.size,2,none⟩=some (.slice A' kids.length cap') from fun w' h1 h2=> by
      have q1:=h1.trans hbTd;have q2:=h2.trans hb5;exact⟨y10 q1 0,y10 q2 0,y10 q2 1,y10 q2 2⟩)
     have HV:=hdq (show∀w':World,w'.heap[w.heap.size+1+1]? =wd.heap[w.heap.size+1+1]? ->w'.heap[w.heap.size+1+1]? =some (.cells #[.int .i64 k,.int .i64 n,v] 25 (0,0)) from fun w' h1=> h1.trans hbvd);have hoX:Only L w1 wd:=ho.trans (oE hx);clear hlj hbv hG hle hcc x0 x1 x2 c0 c1 c2 hbTr hb5 hbTd har hinA HR hskj hI2 hI5 hId hin' hK';rw[show Op.load 23 (Operand.tmp 31)=ldO 23 31 from rfl]
     go_region_held_law (fun w'=> w'.cell? ⟨w.heap.size,0,none⟩=some (.int .i64 k)/\w'.cell? ⟨wr.heap.size,0,none⟩=some (.int .i64 k')/\w'.cell? ⟨wr.heap.size,1,none⟩=some (.int .i64 n')/\w'.cell? ⟨wr.heap.size,2,none⟩=some (.slice A' kids.length cap'))
      (first|exact HS.out _ ((Below.heap_setCell _ _ _ _ (by show w.heap.size≠w.heap.size+1+1;omega)).trans k5a) ((Below.heap_setCell _ _ _ _ (by show wr.heap.size≠w.heap.size+1+1;omega)).trans k5b) |exact HS.out _ k5a k5b|exact HS.out _ ((Below.heap_alloc _ _ _ (by omega)).trans k4a) ((Below.heap_alloc _ _ _ (by omega)).trans k4b) |exact HS.out _ k4a k4b|exact HS.out _ rfl rfl)
      (first|(go_simp;go_at_call 117;refine(HU.out _).mono ?_;rintro e wu ⟨rfl,rfl⟩) |(go_simp;go_at_call 181;(try rw[HWR.out]);refine HF.out.mono ?_;rintro e w4 ⟨u,rfl,hM,ho4,hI4⟩;obtain⟨a1,a2,a3,a4,a5,rfl⟩:=hM.three';have hs4:wd.heap.size<=w4.heap.size:=ho4.size;have k4a:w4.heap[w.heap.size]? =wd.heap[w.heap.size]? :=ho4.block _ (by show w.heap.size < wd.heap.size;omega) (fun hm=> by have:=HWL.out _ hm;omega);have k4b:w4.heap[wr.heap.size]? =wd.heap[wr.heap.size]? :=ho4.block _ hsd (fun hm=> by have:=HWL.out _ hm;omega);have k4c:w4.heap[w.heap.size+1+1]? =wd.heap[w.heap.size+1+1]? :=ho4.block _ (by show w.heap.size+1+1 < wd.heap.size;omega) (fun hm=> by have:=HWL.out _ hm;omega);have hv4:=y10 (HV.out _ k4c) 2;have hs4b:=World.block_lt_of_cell? _ _ hv4) |(refine q42 _ (by rfl) (.tmp 32) (.tmp 42) _ (by rfl) 25 i0 _ Tryz.underlying23 hi hz0 hz1 hz2 rfl (by rfl) HGR.out (by omega) (by omega) (fun x h1 h2=>(ho4.block x (by show x < wd.heap.size;omega) (fun hm=> by have:=HWL.out _ hm;omega)).trans (hx.heap x h2)) (hM.since (by show wr.heap.size<=wd.heap.size;omega)) ((xr _).alloc _) (by rfl) (heap_alloc_new _ _) hlen ?_;intro v' w5 hG5 hB5 hK5;obtain⟨B5,c5,rfl,q1,q2,-⟩:=hG5.made;have k5a:w5.heap[w.heap.size]? =wd.heap[w.heap.size]? :=(hB5.block _ (by omega)).trans k4a;have k5b:w5.heap[wr.heap.size]? =wd.heap[wr.heap.size]? :=(hK5 _ (by show wr.heap.size<=_;omega) (by omega)).trans k4b;have k5c:=HV.out _ ((hB5.block _ (by omega)).trans k4c);have hv5:=y10 k5c 2;have hf5:=q12 k5c 2))
     all_goals(
      have hO5:Only L w1 w5:=(hoX.trans ((oE (xr wd).drew).trans ho4)).below hB5 (by omega);have hs5:=hB5.size;rw[List.length_append,List.length_singleton,HL.out,HTK.out] at hG5;have hGs:=fun u=> hG5.after ((q23.refl W.heap.size w5).setCell (p:=⟨w.heap.size+1+1,2,none⟩) (by show w.heap.size+1+1 < W.heap.size;omega) u)
      have hIs:=fun u=> HST2.out w4 (w5.setCell ⟨w.heap.size+1+1,2,none⟩ u) _ hI4 (fun x hx=>(Below.heap_setCell _ _ _ _ (by show x≠w.heap.size+1+1;omega)).trans (hB5.block x (by omega))) (by simp;omega)
      have hOs:=fun u=>(show Only L w1 (w5.setCell ⟨w.heap.size+1+1,2,none⟩ u) from⟨hO5.os,hO5.tape,hO5.output,by simpa using hO5.size,fun x hx hn=>(Below.heap_setCell _ _ _ _ (by show x≠w.heap.size+1+1;omega)).trans (hO5.block x hx hn)⟩)
      clear hv4 hv hM ho4;go_wp2_with fail
      go_roundw
      case rel=> exact⟨j+1,_,_,by omega,by go_num,q11 k5c 2 _,hGs _,hOs _,by simp;omega,hIs _,by rw[HE.out,HSTP.out,Bool.and_assoc]⟩
      case measure=> simp[intOf];omega)
   · obtain⟨B5,c5,rfl,q1,q2,hMK⟩:=hG.made
     have hrj:rs.take j=rs:=List.take_of_length_le (by omega);obtain⟨r0,r1,r2,-,-,-⟩:=own3 hbv;have hbR':=(ho.block _ hs1 (fun hm=> by have:=HWL.out _ hm;omega)).trans hbR;obtain⟨s0,s1,s2',f0,f1,f2⟩:=own3 hbR';rw[hrj] at q1 r2 hMK;rw[List.drop_of_length_le (by omega)] at HE;clear hbv;go_wp2_with fail;refine bodyPost_ret (v:= .agg #[.int .i64 k,.int .i64 n,.slice B5 rs.length c5]) (by simp[results,Tryz.results181,go_sem,s0,s1,s2',hrl]) rfl ⟨_,rfl, ?_, ?_, ?_⟩
     · exact Made.since (Made.after (Made.mk q1 q2 hMK) ((((q23.refl _ _).setCell (by show w.heap.size+1 < _;omega) _).setCell (by show w.heap.size+1 < _;omega) _).setCell (by show w.heap.size+1 < _;omega) _)) (by omega)
     · have h0:=(oE (L:=L) hE1).trans ho
       refine⟨h0.os,h0.tape,h0.output,by simpa using h0.size,fun x hx hn=> ?_⟩;rw[Below.heap_setCell _ _ _ _ (by show x≠w.heap.size+1;omega),Below.heap_setCell _ _ _ _ (by show x≠w.heap.size+1;omega),Below.heap_setCell _ _ _ _ (by show x≠w.heap.size+1;omega)];exact h0.block x hx hn
     · have hE:=HE.out
       simp only[j36,Bool.and_true] at hE;rw[hE];refine HST2.out _ _ _ hI2 (fun x hx=> ?_) (by simp);rw[Below.heap_setCell _ _ _ _ (by show x≠w.heap.size+1;omega),Below.heap_setCell _ _ _ _ (by show x≠w.heap.size+1;omega),Below.heap_setCell _ _ _ _ (by show x≠w.heap.size+1;omega)]
end Go.Proofs.YtdkamgafpphdjaaGreat
