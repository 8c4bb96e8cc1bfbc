/-
  Lemmas towards the law, 18: Chg, FunP.
-/
import Derived.Test.YtbnkbepgmenblaaGreatDoorFAQ
import Derived.Lib.Replace
set_option linter.unusedVariables false
set_option maxHeartbeats 4000000
set_option maxRecDepth 100000
namespace Go.Proofs.YtbnkbepgmenblaaGreatDoor
open Go.RowKit
attribute [local go_sem ↓] Go.wp_at_zero Go.wp_at_succ
attribute [local go_sem] ldO
theorem q78(g:Int->Int->Tr): ∀(k:Int) (ts:List Tr) (i:Nat) (b:Int),(j81 g k ts i b).length=ts.length
 |_, [],_,_=> rfl
 |k,t::ts,i,b=> by simp[j81,q78 g k ts (i+1) b]
theorem y90(g:Int->Int->Tr): ∀{k:Int} {ts:List Tr} {i j:Nat} {b:Int} (h:j < ts.length),(j81 g k ts i b)[j]'(by rw[q78];exact h)=chgT g ts[j] (b+und k (i+j))
 |k,t::ts,i,0,b,h=> by simp[j81]
 |k,t::ts,i,j+1,b,h=> by
  simp only[j81,List.getElem_cons_succ];rw[y90 g (j:=j) (by simpa using h),show i+1+j=i+(j+1) by omega]
def Chg_sh(a:World)(p1 p2 p3:Nat)(L:List Nat)(Inv:World->Bool->Prop)(g:Int->Int->Tr)(h:Int->Int->Bool):Prop:=
 ∀(w:World) (s:Bool) (n b:Int),Ext a w->Inv w s->0<=n->n<=20->0<=b->b<=1000->Calls Tryz.prog 131 #[.int .i64 n,.int .i64 b,.pointer (some ⟨p1,0,none⟩),.pointer (some ⟨p2,0,none⟩),.pointer (some ⟨p3,0,none⟩)] w fun e w'=> ∃u,e= .returned u/\Made w w' 26 (g n b) u/\Only L w w'/\Inv w' (s && h n b)
def ChgC_sh(t:Tr):Prop:= ∀(a w:World) (v:Value) (b d:Int) (p1 p2 p3:Nat) (L:List Nat) (B:Nat) (Inv:World->Bool->Prop) (g:Int->Int->Tr) (h:Int->Int->Bool) (s:Bool),
 shape sigT t d=true->Lies a t v->Ext a w->(∀x,x∈L->a.heap.size<=x/\x < w.heap.size)->0<=b->b+cnt t<=1000->
 Chg_sh a p1 p2 p3 L Inv g h->(∀w1 w2 s,Inv w1 s->Ext w1 w2->Inv w2 s)->B<=w.heap.size->(∀w1 w2 s,Inv w1 s->(∀x,x < B->w2.heap[x]? =w1.heap[x]?)->w1.heap.size<=w2.heap.size->Inv w2 s)->Inv w s->
 Calls Tryz.prog 130 #[v,.int .i64 b,.func (.func 131) #[] #[.pointer (some ⟨p1,0,none⟩),.pointer (some ⟨p2,0,none⟩),.pointer (some ⟨p3,0,none⟩)]] w fun e w'=> ∃u,e= .returned u/\Made w w' 26 (chgT g t b) u/\Only L w w'/\Inv w' (s && allT h t b)
theorem j98: ∀t:Tr,ChgC_sh t:=Tr.ind fun k n ks hk=> by
 intro a w v b d p1 p2 p3 L B Inv g h s hsh j8 ha hL hb0 hb1 hT hst hB bz hI;obtain⟨A,cap,rfl,hl,hc,hK⟩:=Lies.mk_iff.1 j8;obtain⟨-,H7,I0,hsk⟩:=j11 hsh;obtain⟨i0,hi,hz0,hz1,hz2⟩:=info_parts infoS;have hlc:=j23 ks;have hcc:=hc;unfold maxLen at hcc;simp only[cnt] at hb1;have L6:=j91 k;obtain⟨b1,d1⟩: ∃b1,(k==1)=b1:=⟨_,rfl⟩;have nc: ∀x,x∈L->x < w.heap.size:=fun x hx=>(hL x hx).2
 have C5:Ext w ((w.alloc (.cells #[.int .i64 k,.int .i64 n,.slice A ks.length cap] 26)).alloc (.cells #[.int .i64 0,.int .i64 0,.slice none 0 0] 26)):=((xr w).alloc _).alloc _;obtain⟨ng,I8,hs1⟩:=blk2 (xr ((w.alloc (.cells #[.int .i64 k,.int .i64 n,.slice A ks.length cap] 26)).alloc (.cells #[.int .i64 0,.int .i64 0,.slice none 0 0] 26)));have vx:((w.alloc (.cells #[.int .i64 k,.int .i64 n,.slice A ks.length cap] 26)).alloc (.cells #[.int .i64 0,.int .i64 0,.slice none 0 0] 26)).heap.size=w.heap.size+2:=by simp
 cases b1 with
 |true=>
  obtain rfl:k=1:=by simpa using d1
  have e1:chgT g (.mk 1 n ks) b=g n b:=by unfold chgT;rw[if_pos rfl]
  have e2:allT h (.mk 1 n ks) b=h n b:=by unfold allT;rw[if_pos rfl]
  rw[e1,e2];have dr:=hdq (hT _ s n b (ha.trans C5) (hst _ _ _ hI C5) H7 (by omega) hb0 (by omega));clear e1 e2 hT hst hI;go_enter Tryz.func130,Tryz.ntmps130;go_wp2_with fail;refine dr.out.mono ?_;rintro e w1 ⟨u,rfl,hM,ho,hI⟩;obtain⟨a1,a2,a3,a4,a5,rfl⟩:=hM.three';have hb2:=(ho.block _ (by omega) (fun hm=> by have:=nc _ hm;omega)).trans I8;obtain⟨s0,s1,s2,f0,f1,f2⟩:=own3 hb2;have Lr:=ho.size;clear dr ng I8 hb2;go_wp2_with fail;refine bodyPost_ret (v:= .agg #[.int .i64 a1,.int .i64 a2,.slice a3 a4 a5]) (by simp[results,Tryz.results130,go_sem,s0,s1,s2]) rfl ⟨_,rfl, ?_, ?_, ?_⟩
  · exact Made.since (hM.after ((((q23.refl _ _).setCell (by simp) _).setCell (by simp) _).setCell (by simp) _)) (by simp;omega)
  · have h0:=(oE (L:=L) C5).trans ho
    refine⟨h0.os,h0.tape,h0.output,by simpa using h0.size,fun x hx hn=> ?_⟩;rw[Below.heap_setCell _ _ _ _ (by simp;omega),Below.heap_setCell _ _ _ _ (by simp;omega),Below.heap_setCell _ _ _ _ (by simp;omega)];exact h0.block x hx hn
  · refine bz _ _ _ hI (fun x hx=> ?_) (by simp)
    rw[Below.heap_setCell _ _ _ _ (by simp;omega),Below.heap_setCell _ _ _ _ (by simp;omega),Below.heap_setCell _ _ _ _ (by simp;omega)]
 |false=>
  have gi:k≠1:=by simpa using d1
  obtain⟨rs,qg⟩: ∃rs,rs=j81 g k ks 0 b:=⟨_,rfl⟩;have hres:chgT g (.mk k n ks) b= .mk k n rs:=by
   rw[qg]
   conv=> lhs;unfold chgT
   rw[if_neg gi]
  have hall:allT h (.mk k n ks) b=y33 h k ks 0 b:=by
   conv=> lhs;unfold allT
   rw[if_neg gi]
  have Po:rs.length=ks.length:=by rw[qg,q78]
  have ju: ∀j (hj:j < ks.length),rs[j]'(by omega)=chgT g ks[j] (b+und k j):=fun j hj=> by
   subst qg;rw[y90 g hj,Nat.zero_add]
  rw[hres,hall];have vz:=hdq ju;have HST:=hdq hst;have V0:=hdq bz;have N0:=hdq hT;have ba:=hdq nc;have pj:=hdq hL;have xn:=hdq hsk;have nh:=hst _ _ _ hI C5;clear hres qg ju hall hst bz hT nc hL hsk;go_enter Tryz.func130,Tryz.ntmps130;go_wp2_with fail;generalize i6:(w.alloc (.cells #[.int .i64 k,.int .i64 n,.slice A ks.length cap] 26)).alloc (.cells #[.int .i64 0,.int .i64 0,.slice none 0 0] 26)=w1 at*;clear i6;obtain⟨W,hW⟩: ∃W,W=w1.alloc (.cells #[.int .i64 k,.int .i64 n,.slice none 0 0] 26):=⟨_,rfl⟩;have hsW:W.heap.size=w.heap.size+3:=by rw[hW];simp;omega
  have vn:Ext w1 W:=hW▸(xr w1).alloc _;have Fj:W.heap[w.heap.size+1+1]? =some (.cells #[.int .i64 k,.int .i64 n,.slice none 0 0] 26 (0,0)):=by
   have:=heap_alloc_new w1 (.cells #[.int .i64 k,.int .i64 n,.slice none 0 0] 26);rw[vx] at this;rw[hW];exact this
  rw[<-hW];have Mj:=HST.out _ _ _ nh vn;clear hW nh hI
  go_loopw [26] (fun i wr=> ∃(j:Nat) (v:Value) (s2:Bool),j<=ks.length/\i= .int .i64 j/\wr.heap[w.heap.size+1+1]? =some (.cells #[.int .i64 k,.int .i64 n,v] 26 (0,0))/\Grow W wr 26 v (rs.take j)/\Only L w1 wr/\W.heap.size<=wr.heap.size/\Inv wr s2/\(s && y33 h k ks 0 b)=(s2 && y33 h k (ks.drop j) j b)) (fun i _=> ks.length -(intOf i).toNat)
  case atStart=> exact⟨0,_,s,Nat.zero_le _,rfl,Fj,Grow.nil _ _ _,oE vn,Nat.le_refl _,Mj,rfl⟩
  case round=>
   obtain⟨j,v,s2,hj,rfl,dp,hG,ho,hle,cf,F4⟩:=hrel;have HE:=hdq F4;have M9:Ext a wr:=ho.ext (ha.trans C5) (fun x hx=>(pj.out x hx).1);have cz:=(ho.block _ (by omega) (fun hm=> by have:=ba.out _ hm;omega)).trans ng;obtain⟨x0,x1,x2,-,-,-⟩:=own3 cz;clear F4;by_cases hlt:j < ks.length
   · obtain⟨b',o,k',n',A',cap',kids,rfl,HK,c0,c1,c2,I6,G9,hK',C8,j6⟩:=hK.get M9 hlt
     have P5:Lies a (.mk k' n' kids) (.agg #[.int .i64 k',.int .i64 n',.slice A' kids.length cap']):=by
      obtain⟨b2,o2,k2,n2,A2,I7,o8,h1,h2,q0,q1,q2,h6,h7,h8,h9,h10⟩:=hK.get (xr a) hlt;obtain⟨rfl,rfl⟩:b'=b2/\o=o2:=by cases h1;exact⟨rfl,rfl⟩
      have e3:=(M9.cell q0).symm.trans c0;have e4:=(M9.cell q1).symm.trans c1;have e5:=(M9.cell q2).symm.trans c2;have e6:=h2.out.symm.trans HK.out;cases e3;cases e4;cases e6;cases e5
      exact h9
     have eh:=q130 (l:=rs) (j:=j) (by omega) (vz.out j hlt);rw[HK.out] at eh;have cr:y33 h k (ks.drop j) j b=(allT h (.mk k' n' kids) (b+und k j)&& y33 h k (ks.drop (j+1)) (j+1) b):=by
      rw[List.drop_eq_getElem_cons hlt,HK.out]
      conv=> lhs;unfold y33
     have ut:=y64 k j;obtain⟨uu,hu⟩: ∃u,u=und k j:=⟨_,rfl⟩;have HU:=hdq (fun W=> j50 k j W);rw[<-hu] at HU ut eh cr;have Pl:=hdq eh;have xt:=hdq cr;have hcm:=q16 j6;have ml:=xn.out _ j6;have ib:(j:Int) <(ks.length:Int):=by omega
     have wn:=hdq (IntWalk.i64_in (b+uu) ⟨by omega,by omega⟩);have HR:=hdq (hk _ j6 a);clear hu eh cr;have hlen:(rs.take j).length < 1099511627776:=by rw[List.length_take];omega
     have mi:(rs.take j).length=j:=by rw[List.length_take];omega
     have HL:=hdq mi;go_wp2_with fail;have hx:=(xr wr).alloc (.cells #[.int .i64 k',.int .i64 n',.slice A' kids.length cap'] 26);have E8:=heap_alloc_new wr (.cells #[.int .i64 k',.int .i64 n',.slice A' kids.length cap'] 26);obtain⟨wd,hwd⟩: ∃wd,wd=wr.alloc (.cells #[.int .i64 k',.int .i64 n',.slice A' kids.length cap'] 26):=⟨_,rfl⟩;rw[<-hwd] at hx E8⊢;clear hwd;have Lq:W.heap.size<=wr.heap.size:=hle;have Ho:wr.heap.size < wd.heap.size:=j10 E8;have qu:=hdq hG;have kn:=hx.blk dp;have jm:=hx.blk cz;have hv:=q10 kn 2;have Z7:=HST.out _ _ _ cf hx;have Bb:=HST.out _ _ _ Z7 (xr wd).drew;have gv:=hx.trans (xr wd).drew;have HF:=hdq (HR.out wd.drew _ (b+uu) (d - 1) p1 p2 p3 L B Inv g h s2 ml P5 (M9.trans gv) (fun x hx=>⟨(pj.out x hx).1,by have:=ba.out x hx;show x < wd.heap.size;omega⟩) (by omega) (by omega) N0.out HST.out (by show B<=wd.heap.size;omega) V0.out Bb);have HS:=hdq (show∀w':World,w'.heap[w.heap.size]? =wd.heap[w.heap.size]? ->w'.heap[wr.heap.size]? =wd.heap[wr.heap.size]? ->w'.cell? ⟨w.heap.size,0,none⟩=some (.int .i64 k)/\w'.cell? ⟨wr.heap.size,0,none⟩=some (.int .i64 k')/\w'.cell? ⟨wr.heap.size,1,none⟩=some (.int .i64 n')/\w'.cell? ⟨wr.heap.size,2,none⟩=some (.slice A' kids.length cap') from fun w' h1 h2=> by
      have q1:=h1.trans jm;have q2:=h2.trans E8;exact⟨q10 q1 0,q10 q2 0,q10 q2 1,q10 q2 2⟩)
     have HV:=hdq (show∀w':World,w'.heap[w.heap.size+1+1]? =wd.heap[w.heap.size+1+1]? ->w'.heap[w.heap.size+1+1]? =some (.cells #[.int .i64 k,.int .i64 n,v] 26 (0,0)) from fun w' h1=> h1.trans kn);have Pn:Only L w1 wd:=ho.trans (oE hx);clear mi dp hG hle hcc x0 x1 x2 c0 c1 c2 cz E8 jm M9 P5 HR ml cf Z7 Bb C8 hK';rw[show Op.load 24 (Operand.tmp 31)=ldO 24 31 from rfl]
     go_region_held_law (fun w'=> w'.cell? ⟨w.heap.size,0,none⟩=some (.int .i64 k)/\w'.cell? ⟨wr.heap.size,0,none⟩=some (.int .i64 k')/\w'.cell? ⟨wr.heap.size,1,none⟩=some (.int .i64 n')/\w'.cell? ⟨wr.heap.size,2,none⟩=some (.slice A' kids.length cap'))
      (first|exact HS.out _ ((Below.heap_setCell _ _ _ _ (by show w.heap.size≠w.heap.size+1+1;omega)).trans Ev) ((Below.heap_setCell _ _ _ _ (by show wr.heap.size≠w.heap.size+1+1;omega)).trans Bd) |exact HS.out _ Ev Bd|exact HS.out _ ((Below.heap_alloc _ _ _ (by omega)).trans ud) ((Below.heap_alloc _ _ _ (by omega)).trans ub) |exact HS.out _ ud ub|exact HS.out _ rfl rfl)
      (first|(go_simp;go_at_call 76;refine(HU.out _).mono ?_;rintro e wu ⟨rfl,rfl⟩) |(go_simp;go_at_call 130;(try rw[wn.out]);refine HF.out.mono ?_;rintro e w4 ⟨u,rfl,hM,ce,yi⟩;obtain⟨a1,a2,a3,a4,a5,rfl⟩:=hM.three';have Jn:wd.heap.size<=w4.heap.size:=ce.size;have ud:w4.heap[w.heap.size]? =wd.heap[w.heap.size]? :=ce.block _ (by show w.heap.size < wd.heap.size;omega) (fun hm=> by have:=ba.out _ hm;omega);have ub:w4.heap[wr.heap.size]? =wd.heap[wr.heap.size]? :=ce.block _ Ho (fun hm=> by have:=ba.out _ hm;omega);have Ek:w4.heap[w.heap.size+1+1]? =wd.heap[w.heap.size+1+1]? :=ce.block _ (by show w.heap.size+1+1 < wd.heap.size;omega) (fun hm=> by have:=ba.out _ hm;omega);have hv4:=q10 (HV.out _ Ek) 2;have Kd:=World.block_lt_of_cell? _ _ hv4) |(refine q41 _ (by rfl) (.tmp 32) (.tmp 42) _ (by rfl) 26 i0 _ Tryz.underlying24 hi hz0 hz1 hz2 rfl (by rfl) qu.out (by omega) (by omega) (fun x h1 h2=>(ce.block x (by show x < wd.heap.size;omega) (fun hm=> by have:=ba.out _ hm;omega)).trans (hx.heap x h2)) (hM.since (by show wr.heap.size<=wd.heap.size;omega)) ((xr _).alloc _) (by rfl) (heap_alloc_new _ _) hlen ?_;intro v' w5 S6 I3 Ox;obtain⟨B5,c5,rfl,q1,q2,-⟩:=S6.made;have Ev:w5.heap[w.heap.size]? =wd.heap[w.heap.size]? :=(I3.block _ (by omega)).trans ud;have Bd:w5.heap[wr.heap.size]? =wd.heap[wr.heap.size]? :=(Ox _ (by show wr.heap.size<=_;omega) (by omega)).trans ub;have ul:=HV.out _ ((I3.block _ (by omega)).trans Ek);have hv5:=q10 ul 2;have hf5:=q14 ul 2))
     all_goals(
      have bo:Only L w1 w5:=(Pn.trans ((oE (xr wd).drew).trans ce)).below I3 (by omega);have hs5:=I3.size;rw[List.length_append,List.length_singleton,HL.out,Pl.out] at S6;have zn:=fun u=> S6.after ((q23.refl W.heap.size w5).setCell (p:=⟨w.heap.size+1+1,2,none⟩) (by show w.heap.size+1+1 < W.heap.size;omega) u)
      have Ih:=fun u=> V0.out w4 (w5.setCell ⟨w.heap.size+1+1,2,none⟩ u) _ yi (fun x hx=>(Below.heap_setCell _ _ _ _ (by show x≠w.heap.size+1+1;omega)).trans (I3.block x (by omega))) (by simp;omega)
      have Ir:=fun u=>(show Only L w1 (w5.setCell ⟨w.heap.size+1+1,2,none⟩ u) from⟨bo.os,bo.tape,bo.output,by simpa using bo.size,fun x hx hn=>(Below.heap_setCell _ _ _ _ (by show x≠w.heap.size+1+1;omega)).trans (bo.block x hx hn)⟩)
      clear hv4 hv hM ce;go_wp2_with fail
      go_roundw
      case rel=> exact⟨j+1,_,_,by omega,by go_num,q11 ul 2 _,zn _,Ir _,by simp;omega,Ih _,by rw[HE.out,xt.out,Bool.and_assoc]⟩
      case measure=> simp[intOf];omega)
   · obtain⟨B5,c5,rfl,q1,q2,od⟩:=hG.made
     have Na:rs.take j=rs:=List.take_of_length_le (by omega);obtain⟨r0,r1,r2,-,-,-⟩:=own3 dp;have mg:=(ho.block _ hs1 (fun hm=> by have:=ba.out _ hm;omega)).trans I8;obtain⟨s0,s1,Oi,f0,f1,f2⟩:=own3 mg;rw[Na] at q1 r2 od;rw[List.drop_of_length_le (by omega)] at HE;clear dp;go_wp2_with fail;refine bodyPost_ret (v:= .agg #[.int .i64 k,.int .i64 n,.slice B5 rs.length c5]) (by simp[results,Tryz.results130,go_sem,s0,s1,Oi,Po]) rfl ⟨_,rfl, ?_, ?_, ?_⟩
     · exact Made.since (Made.after (Made.mk q1 q2 od) ((((q23.refl _ _).setCell (by show w.heap.size+1 < _;omega) _).setCell (by show w.heap.size+1 < _;omega) _).setCell (by show w.heap.size+1 < _;omega) _)) (by omega)
     · have h0:=(oE (L:=L) C5).trans ho
       refine⟨h0.os,h0.tape,h0.output,by simpa using h0.size,fun x hx hn=> ?_⟩;rw[Below.heap_setCell _ _ _ _ (by show x≠w.heap.size+1;omega),Below.heap_setCell _ _ _ _ (by show x≠w.heap.size+1;omega),Below.heap_setCell _ _ _ _ (by show x≠w.heap.size+1;omega)];exact h0.block x hx hn
     · have hE:=HE.out
       simp only[y33,Bool.and_true] at hE;rw[hE];refine V0.out _ _ _ cf (fun x hx=> ?_) (by simp);rw[Below.heap_setCell _ _ _ _ (by show x≠w.heap.size+1;omega),Below.heap_setCell _ _ _ _ (by show x≠w.heap.size+1;omega),Below.heap_setCell _ _ _ _ (by show x≠w.heap.size+1;omega)]
def Chg_sb(a:World)(p1 p2 p3:Nat)(L:List Nat)(Inv:World->Bool->Prop)(g:Int->Int->Tr)(h:Int->Int->Bool):Prop:=
 ∀(w:World) (s:Bool) (n b:Int),Ext a w->Inv w s->0<=n->n<=20->0<=b->b<=1000->Calls Tryz.prog 136 #[.int .i64 n,.int .i64 b,.pointer (some ⟨p1,0,none⟩),.pointer (some ⟨p2,0,none⟩),.pointer (some ⟨p3,0,none⟩)] w fun e w'=> ∃u,e= .returned u/\Made w w' 26 (g n b) u/\Only L w w'/\Inv w' (s && h n b)
def ChgC_sb(t:Tr):Prop:= ∀(a w:World) (v:Value) (b d:Int) (p1 p2 p3:Nat) (L:List Nat) (B:Nat) (Inv:World->Bool->Prop) (g:Int->Int->Tr) (h:Int->Int->Bool) (s:Bool),
 shape sigT t d=true->Lies a t v->Ext a w->(∀x,x∈L->a.heap.size<=x/\x < w.heap.size)->0<=b->b+cnt t<=1000->
 Chg_sb a p1 p2 p3 L Inv g h->(∀w1 w2 s,Inv w1 s->Ext w1 w2->Inv w2 s)->B<=w.heap.size->(∀w1 w2 s,Inv w1 s->(∀x,x < B->w2.heap[x]? =w1.heap[x]?)->w1.heap.size<=w2.heap.size->Inv w2 s)->Inv w s->
 Calls Tryz.prog 130 #[v,.int .i64 b,.func (.func 136) #[] #[.pointer (some ⟨p1,0,none⟩),.pointer (some ⟨p2,0,none⟩),.pointer (some ⟨p3,0,none⟩)]] w fun e w'=> ∃u,e= .returned u/\Made w w' 26 (chgT g t b) u/\Only L w w'/\Inv w' (s && allT h t b)
theorem y100: ∀t:Tr,ChgC_sb t:=Tr.ind fun k n ks hk=> by
 intro a w v b d p1 p2 p3 L B Inv g h s hsh j8 ha hL hb0 hb1 hT hst hB bz hI;obtain⟨A,cap,rfl,hl,hc,hK⟩:=Lies.mk_iff.1 j8;obtain⟨-,H7,I0,hsk⟩:=j11 hsh;obtain⟨i0,hi,hz0,hz1,hz2⟩:=info_parts infoS;have hlc:=j23 ks;have hcc:=hc;unfold maxLen at hcc;simp only[cnt] at hb1;have L6:=j91 k;obtain⟨b1,d1⟩: ∃b1,(k==1)=b1:=⟨_,rfl⟩;have nc: ∀x,x∈L->x < w.heap.size:=fun x hx=>(hL x hx).2
 have C5:Ext w ((w.alloc (.cells #[.int .i64 k,.int .i64 n,.slice A ks.length cap] 26)).alloc (.cells #[.int .i64 0,.int .i64 0,.slice none 0 0] 26)):=((xr w).alloc _).alloc _;obtain⟨ng,I8,hs1⟩:=blk2 (xr ((w.alloc (.cells #[.int .i64 k,.int .i64 n,.slice A ks.length cap] 26)).alloc (.cells #[.int .i64 0,.int .i64 0,.slice none 0 0] 26)));have vx:((w.alloc (.cells #[.int .i64 k,.int .i64 n,.slice A ks.length cap] 26)).alloc (.cells #[.int .i64 0,.int .i64 0,.slice none 0 0] 26)).heap.size=w.heap.size+2:=by simp
 cases b1 with
 |true=>
  obtain rfl:k=1:=by simpa using d1
  have e1:chgT g (.mk 1 n ks) b=g n b:=by unfold chgT;rw[if_pos rfl]
  have e2:allT h (.mk 1 n ks) b=h n b:=by unfold allT;rw[if_pos rfl]
  rw[e1,e2];have dr:=hdq (hT _ s n b (ha.trans C5) (hst _ _ _ hI C5) H7 (by omega) hb0 (by omega));clear e1 e2 hT hst hI;go_enter Tryz.func130,Tryz.ntmps130;go_wp2_with fail;refine dr.out.mono ?_;rintro e w1 ⟨u,rfl,hM,ho,hI⟩;obtain⟨a1,a2,a3,a4,a5,rfl⟩:=hM.three';have hb2:=(ho.block _ (by omega) (fun hm=> by have:=nc _ hm;omega)).trans I8;obtain⟨s0,s1,s2,f0,f1,f2⟩:=own3 hb2;have Lr:=ho.size;clear dr ng I8 hb2;go_wp2_with fail;refine bodyPost_ret (v:= .agg #[.int .i64 a1,.int .i64 a2,.slice a3 a4 a5]) (by simp[results,Tryz.results130,go_sem,s0,s1,s2]) rfl ⟨_,rfl, ?_, ?_, ?_⟩
  · exact Made.since (hM.after ((((q23.refl _ _).setCell (by simp) _).setCell (by simp) _).setCell (by simp) _)) (by simp;omega)
  · have h0:=(oE (L:=L) C5).trans ho
    refine⟨h0.os,h0.tape,h0.output,by simpa using h0.size,fun x hx hn=> ?_⟩;rw[Below.heap_setCell _ _ _ _ (by simp;omega),Below.heap_setCell _ _ _ _ (by simp;omega),Below.heap_setCell _ _ _ _ (by simp;omega)];exact h0.block x hx hn
  · refine bz _ _ _ hI (fun x hx=> ?_) (by simp)
    rw[Below.heap_setCell _ _ _ _ (by simp;omega),Below.heap_setCell _ _ _ _ (by simp;omega),Below.heap_setCell _ _ _ _ (by simp;omega)]
 |false=>
  have gi:k≠1:=by simpa using d1
  obtain⟨rs,qg⟩: ∃rs,rs=j81 g k ks 0 b:=⟨_,rfl⟩;have hres:chgT g (.mk k n ks) b= .mk k n rs:=by
   rw[qg]
   conv=> lhs;unfold chgT
   rw[if_neg gi]
  have hall:allT h (.mk k n ks) b=y33 h k ks 0 b:=by
   conv=> lhs;unfold allT
   rw[if_neg gi]
  have Po:rs.length=ks.length:=by rw[qg,q78]
  have ju: ∀j (hj:j < ks.length),rs[j]'(by omega)=chgT g ks[j] (b+und k j):=fun j hj=> by
   subst qg;rw[y90 g hj,Nat.zero_add]
  rw[hres,hall];have vz:=hdq ju;have HST:=hdq hst;have V0:=hdq bz;have N0:=hdq hT;have ba:=hdq nc;have pj:=hdq hL;have xn:=hdq hsk;have nh:=hst _ _ _ hI C5;clear hres qg ju hall hst bz hT nc hL hsk;go_enter Tryz.func130,Tryz.ntmps130;go_wp2_with fail;generalize i6:(w.alloc (.cells #[.int .i64 k,.int .i64 n,.slice A ks.length cap] 26)).alloc (.cells #[.int .i64 0,.int .i64 0,.slice none 0 0] 26)=w1 at*;clear i6;obtain⟨W,hW⟩: ∃W,W=w1.alloc (.cells #[.int .i64 k,.int .i64 n,.slice none 0 0] 26):=⟨_,rfl⟩;have hsW:W.heap.size=w.heap.size+3:=by rw[hW];simp;omega
  have vn:Ext w1 W:=hW▸(xr w1).alloc _;have Fj:W.heap[w.heap.size+1+1]? =some (.cells #[.int .i64 k,.int .i64 n,.slice none 0 0] 26 (0,0)):=by
   have:=heap_alloc_new w1 (.cells #[.int .i64 k,.int .i64 n,.slice none 0 0] 26);rw[vx] at this;rw[hW];exact this
  rw[<-hW];have Mj:=HST.out _ _ _ nh vn;clear hW nh hI
  go_loopw [26] (fun i wr=> ∃(j:Nat) (v:Value) (s2:Bool),j<=ks.length/\i= .int .i64 j/\wr.heap[w.heap.size+1+1]? =some (.cells #[.int .i64 k,.int .i64 n,v] 26 (0,0))/\Grow W wr 26 v (rs.take j)/\Only L w1 wr/\W.heap.size<=wr.heap.size/\Inv wr s2/\(s && y33 h k ks 0 b)=(s2 && y33 h k (ks.drop j) j b)) (fun i _=> ks.length -(intOf i).toNat)
  case atStart=> exact⟨0,_,s,Nat.zero_le _,rfl,Fj,Grow.nil _ _ _,oE vn,Nat.le_refl _,Mj,rfl⟩
  case round=>
   obtain⟨j,v,s2,hj,rfl,dp,hG,ho,hle,cf,F4⟩:=hrel;have HE:=hdq F4;have M9:Ext a wr:=ho.ext (ha.trans C5) (fun x hx=>(pj.out x hx).1);have cz:=(ho.block _ (by omega) (fun hm=> by have:=ba.out _ hm;omega)).trans ng;obtain⟨x0,x1,x2,-,-,-⟩:=own3 cz;clear F4;by_cases hlt:j < ks.length
   · obtain⟨b',o,k',n',A',cap',kids,rfl,HK,c0,c1,c2,I6,G9,hK',C8,j6⟩:=hK.get M9 hlt
     have P5:Lies a (.mk k' n' kids) (.agg #[.int .i64 k',.int .i64 n',.slice A' kids.length cap']):=by
      obtain⟨b2,o2,k2,n2,A2,I7,o8,h1,h2,q0,q1,q2,h6,h7,h8,h9,h10⟩:=hK.get (xr a) hlt;obtain⟨rfl,rfl⟩:b'=b2/\o=o2:=by cases h1;exact⟨rfl,rfl⟩
      have e3:=(M9.cell q0).symm.trans c0;have e4:=(M9.cell q1).symm.trans c1;have e5:=(M9.cell q2).symm.trans c2;have e6:=h2.out.symm.trans HK.out;cases e3;cases e4;cases e6;cases e5
      exact h9
     have eh:=q130 (l:=rs) (j:=j) (by omega) (vz.out j hlt);rw[HK.out] at eh;have cr:y33 h k (ks.drop j) j b=(allT h (.mk k' n' kids) (b+und k j)&& y33 h k (ks.drop (j+1)) (j+1) b):=by
      rw[List.drop_eq_getElem_cons hlt,HK.out]
      conv=> lhs;unfold y33
     have ut:=y64 k j;obtain⟨uu,hu⟩: ∃u,u=und k j:=⟨_,rfl⟩;have HU:=hdq (fun W=> j50 k j W);rw[<-hu] at HU ut eh cr;have Pl:=hdq eh;have xt:=hdq cr;have hcm:=q16 j6;have ml:=xn.out _ j6;have ib:(j:Int) <(ks.length:Int):=by omega
     have wn:=hdq (IntWalk.i64_in (b+uu) ⟨by omega,by omega⟩);have HR:=hdq (hk _ j6 a);clear hu eh cr;have hlen:(rs.take j).length < 1099511627776:=by rw[List.length_take];omega
     have mi:(rs.take j).length=j:=by rw[List.length_take];omega
     have HL:=hdq mi;go_wp2_with fail;have hx:=(xr wr).alloc (.cells #[.int .i64 k',.int .i64 n',.slice A' kids.length cap'] 26);have E8:=heap_alloc_new wr (.cells #[.int .i64 k',.int .i64 n',.slice A' kids.length cap'] 26);obtain⟨wd,hwd⟩: ∃wd,wd=wr.alloc (.cells #[.int .i64 k',.int .i64 n',.slice A' kids.length cap'] 26):=⟨_,rfl⟩;rw[<-hwd] at hx E8⊢;clear hwd;have Lq:W.heap.size<=wr.heap.size:=hle;have Ho:wr.heap.size < wd.heap.size:=j10 E8;have qu:=hdq hG;have kn:=hx.blk dp;have jm:=hx.blk cz;have hv:=q10 kn 2;have Z7:=HST.out _ _ _ cf hx;have Bb:=HST.out _ _ _ Z7 (xr wd).drew;have gv:=hx.trans (xr wd).drew;have HF:=hdq (HR.out wd.drew _ (b+uu) (d - 1) p1 p2 p3 L B Inv g h s2 ml P5 (M9.trans gv) (fun x hx=>⟨(pj.out x hx).1,by have:=ba.out x hx;show x < wd.heap.size;omega⟩) (by omega) (by omega) N0.out HST.out (by show B<=wd.heap.size;omega) V0.out Bb);have HS:=hdq (show∀w':World,w'.heap[w.heap.size]? =wd.heap[w.heap.size]? ->w'.heap[wr.heap.size]? =wd.heap[wr.heap.size]? ->w'.cell? ⟨w.heap.size,0,none⟩=some (.int .i64 k)/\w'.cell? ⟨wr.heap.size,0,none⟩=some (.int .i64 k')/\w'.cell? ⟨wr.heap.size,1,none⟩=some (.int .i64 n')/\w'.cell? ⟨wr.heap.size,2,none⟩=some (.slice A' kids.length cap') from fun w' h1 h2=> by
      have q1:=h1.trans jm;have q2:=h2.trans E8;exact⟨q10 q1 0,q10 q2 0,q10 q2 1,q10 q2 2⟩)
     have HV:=hdq (show∀w':World,w'.heap[w.heap.size+1+1]? =wd.heap[w.heap.size+1+1]? ->w'.heap[w.heap.size+1+1]? =some (.cells #[.int .i64 k,.int .i64 n,v] 26 (0,0)) from fun w' h1=> h1.trans kn);have Pn:Only L w1 wd:=ho.trans (oE hx);clear mi dp hG hle hcc x0 x1 x2 c0 c1 c2 cz E8 jm M9 P5 HR ml cf Z7 Bb C8 hK';rw[show Op.load 24 (Operand.tmp 31)=ldO 24 31 from rfl]
     go_region_held_law (fun w'=> w'.cell? ⟨w.heap.size,0,none⟩=some (.int .i64 k)/\w'.cell? ⟨wr.heap.size,0,none⟩=some (.int .i64 k')/\w'.cell? ⟨wr.heap.size,1,none⟩=some (.int .i64 n')/\w'.cell? ⟨wr.heap.size,2,none⟩=some (.slice A' kids.length cap'))
      (first|exact HS.out _ ((Below.heap_setCell _ _ _ _ (by show w.heap.size≠w.heap.size+1+1;omega)).trans Ev) ((Below.heap_setCell _ _ _ _ (by show wr.heap.size≠w.heap.size+1+1;omega)).trans Bd) |exact HS.out _ Ev Bd|exact HS.out _ ((Below.heap_alloc _ _ _ (by omega)).trans ud) ((Below.heap_alloc _ _ _ (by omega)).trans ub) |exact HS.out _ ud ub|exact HS.out _ rfl rfl)
      (first|(go_simp;go_at_call 76;refine(HU.out _).mono ?_;rintro e wu ⟨rfl,rfl⟩) |(go_simp;go_at_call 130;(try rw[wn.out]);refine HF.out.mono ?_;rintro e w4 ⟨u,rfl,hM,ce,yi⟩;obtain⟨a1,a2,a3,a4,a5,rfl⟩:=hM.three';have Jn:wd.heap.size<=w4.heap.size:=ce.size;have ud:w4.heap[w.heap.size]? =wd.heap[w.heap.size]? :=ce.block _ (by show w.heap.size < wd.heap.size;omega) (fun hm=> by have:=ba.out _ hm;omega);have ub:w4.heap[wr.heap.size]? =wd.heap[wr.heap.size]? :=ce.block _ Ho (fun hm=> by have:=ba.out _ hm;omega);have Ek:w4.heap[w.heap.size+1+1]? =wd.heap[w.heap.size+1+1]? :=ce.block _ (by show w.heap.size+1+1 < wd.heap.size;omega) (fun hm=> by have:=ba.out _ hm;omega);have hv4:=q10 (HV.out _ Ek) 2;have Kd:=World.block_lt_of_cell? _ _ hv4) |(refine q41 _ (by rfl) (.tmp 32) (.tmp 42) _ (by rfl) 26 i0 _ Tryz.underlying24 hi hz0 hz1 hz2 rfl (by rfl) qu.out (by omega) (by omega) (fun x h1 h2=>(ce.block x (by show x < wd.heap.size;omega) (fun hm=> by have:=ba.out _ hm;omega)).trans (hx.heap x h2)) (hM.since (by show wr.heap.size<=wd.heap.size;omega)) ((xr _).alloc _) (by rfl) (heap_alloc_new _ _) hlen ?_;intro v' w5 S6 I3 Ox;obtain⟨B5,c5,rfl,q1,q2,-⟩:=S6.made;have Ev:w5.heap[w.heap.size]? =wd.heap[w.heap.size]? :=(I3.block _ (by omega)).trans ud;have Bd:w5.heap[wr.heap.size]? =wd.heap[wr.heap.size]? :=(Ox _ (by show wr.heap.size<=_;omega) (by omega)).trans ub;have ul:=HV.out _ ((I3.block _ (by omega)).trans Ek);have hv5:=q10 ul 2;have hf5:=q14 ul 2))
     all_goals(
      have bo:Only L w1 w5:=(Pn.trans ((oE (xr wd).drew).trans ce)).below I3 (by omega);have hs5:=I3.size;rw[List.length_append,List.length_singleton,HL.out,Pl.out] at S6;have zn:=fun u=> S6.after ((q23.refl W.heap.size w5).setCell (p:=⟨w.heap.size+1+1,2,none⟩) (by show w.heap.size+1+1 < W.heap.size;omega) u)
      have Ih:=fun u=> V0.out w4 (w5.setCell ⟨w.heap.size+1+1,2,none⟩ u) _ yi (fun x hx=>(Below.heap_setCell _ _ _ _ (by show x≠w.heap.size+1+1;omega)).trans (I3.block x (by omega))) (by simp;omega)
      have Ir:=fun u=>(show Only L w1 (w5.setCell ⟨w.heap.size+1+1,2,none⟩ u) from⟨bo.os,bo.tape,bo.output,by simpa using bo.size,fun x hx hn=>(Below.heap_setCell _ _ _ _ (by show x≠w.heap.size+1+1;omega)).trans (bo.block x hx hn)⟩)
      clear hv4 hv hM ce;go_wp2_with fail
      go_roundw
      case rel=> exact⟨j+1,_,_,by omega,by go_num,q11 ul 2 _,zn _,Ir _,by simp;omega,Ih _,by rw[HE.out,xt.out,Bool.and_assoc]⟩
      case measure=> simp[intOf];omega)
   · obtain⟨B5,c5,rfl,q1,q2,od⟩:=hG.made
     have Na:rs.take j=rs:=List.take_of_length_le (by omega);obtain⟨r0,r1,r2,-,-,-⟩:=own3 dp;have mg:=(ho.block _ hs1 (fun hm=> by have:=ba.out _ hm;omega)).trans I8;obtain⟨s0,s1,Oi,f0,f1,f2⟩:=own3 mg;rw[Na] at q1 r2 od;rw[List.drop_of_length_le (by omega)] at HE;clear dp;go_wp2_with fail;refine bodyPost_ret (v:= .agg #[.int .i64 k,.int .i64 n,.slice B5 rs.length c5]) (by simp[results,Tryz.results130,go_sem,s0,s1,Oi,Po]) rfl ⟨_,rfl, ?_, ?_, ?_⟩
     · exact Made.since (Made.after (Made.mk q1 q2 od) ((((q23.refl _ _).setCell (by show w.heap.size+1 < _;omega) _).setCell (by show w.heap.size+1 < _;omega) _).setCell (by show w.heap.size+1 < _;omega) _)) (by omega)
     · have h0:=(oE (L:=L) C5).trans ho
       refine⟨h0.os,h0.tape,h0.output,by simpa using h0.size,fun x hx hn=> ?_⟩;rw[Below.heap_setCell _ _ _ _ (by show x≠w.heap.size+1;omega),Below.heap_setCell _ _ _ _ (by show x≠w.heap.size+1;omega),Below.heap_setCell _ _ _ _ (by show x≠w.heap.size+1;omega)];exact h0.block x hx hn
     · have hE:=HE.out
       simp only[y33,Bool.and_true] at hE;rw[hE];refine V0.out _ _ _ cf (fun x hx=> ?_) (by simp);rw[Below.heap_setCell _ _ _ _ (by show x≠w.heap.size+1;omega),Below.heap_setCell _ _ _ _ (by show x≠w.heap.size+1;omega),Below.heap_setCell _ _ _ _ (by show x≠w.heap.size+1;omega)]
end Go.Proofs.YtbnkbepgmenblaaGreatDoor
namespace Go.Proofs.YtbnkbepgmenblaaGreatDoor
def plusT:M.Tm:= .lam .nat (.lam .nat (.elim (.lam .nat .nat) (.var 1) (.lam .nat (.lam .nat (.succ (.var 0)))) (.var 0)))
def predT:M.Tm:= .lam .nat (.elim (.lam .nat .nat) .zero (.lam .nat (.lam .nat (.var 1))) (.var 0))
def timesT:M.Tm:= .lam .nat (.lam .nat (.elim (.lam .nat .nat) .zero (.lam .nat (.lam .nat (.app (.app plusT (.var 2)) (.var 0)))) (.var 1)))
def minusT:M.Tm:= .lam .nat (.lam .nat (.elim (.lam .nat .nat) (.var 1) (.lam .nat (.lam .nat (.app predT (.var 0)))) (.var 0)))
def isZeroT:M.Tm:= .lam .nat (.elim (.lam .nat .nat) (.succ .zero) (.lam .nat (.lam .nat .zero)) (.var 0))
def doubleT:M.Tm:= .lam .nat (.elim (.lam .nat .nat) .zero (.lam .nat (.lam .nat (.succ (.succ (.var 0))))) (.var 0))
def twiceT:M.Tm:= .lam (.pi .nat .nat) (.lam .nat (.app (.var 1) (.app (.var 1) (.var 0))))
def fnT(k:Int):Option M.Tm:=if k=1 then some plusT else if k=2 then some timesT else if k=3 then some predT else if k=4 then some minusT else if k=5 then some isZeroT else if k=6 then some doubleT else if k=7 then some twiceT else none
def ftx(k:Int):List UInt8:=if k=1 then [91,78,93,91,78,93,60,91,78,93,78,44,35,49,44,91,78,93,91,78,93,43,35,48,44,35,48,62]
 else if k=2 then [91,78,93,91,78,93,60,91,78,93,78,44,48,44,91,78,93,91,78,93,40,40,80,32,35,50,41,32,35,48,41,44,35,49,62]
 else if k=3 then [91,78,93,60,91,78,93,78,44,48,44,91,78,93,91,78,93,35,49,44,35,48,62]
 else if k=4 then [91,78,93,91,78,93,60,91,78,93,78,44,35,49,44,91,78,93,91,78,93,40,81,32,35,48,41,44,35,48,62]
 else if k=5 then [91,78,93,60,91,78,93,78,44,43,48,44,91,78,93,91,78,93,48,44,35,48,62]
 else if k=6 then [91,78,93,60,91,78,93,78,44,48,44,91,78,93,91,78,93,43,43,35,48,44,35,48,62]
 else if k=7 then [91,40,78,62,78,41,93,91,78,93,40,35,49,32,40,35,49,32,35,48,41,41] else []
def gtx(k:Int):List UInt8:=match fnT k with
 |some t=> fmtL (enc t)
 |none=> []
theorem rep_all: ∀k:Fin 8,Lib.replaceAll (ftx k.val) [80] (ftx 1)=(if k.val=2 then gtx 2 else ftx k.val)/\Lib.replaceAll (if k.val=2 then gtx 2 else ftx k.val) [81] (ftx 3)=gtx k.val:=by decide+kernel
end Go.Proofs.YtbnkbepgmenblaaGreatDoor
