/-
  Lemmas towards the law, 14: Places2, Parse6, OrdS.
-/
import Derived.Test.YtbnkbepgmenblaaGreatTAM
set_option linter.unusedVariables false
set_option maxHeartbeats 2000000
set_option maxRecDepth 100000
namespace Go.Proofs.YtbnkbepgmenblaaGreat
open Go.RowKit
attribute [local go_sem ↓] Go.wp_at_zero Go.wp_at_succ
def askP(rd:Bool)(t:Tr):Bool:= !rd||j55 t
def plV(rd:Bool)(t:Tr):List (List Int):=if valid sigT t=true then plc (if rd=true then j55 else allP) t [] else []
theorem q14{t:Tr}(h:valid sigT t=true):cnt t<=400/\shape sigT t 30=true:=by
 unfold valid at h;rw[Bool.and_eq_true] at h;exact⟨of_decide_eq_true h.2,h.1⟩
theorem j90(w:World)(o o':Obj):((w.alloc o).alloc o').heap[w.heap.size+1]? =some o':=by
 have:=heap_alloc_new (w.alloc o) o'
 simpa using this
theorem q82{w:World}{base g:Nat}{e:TypeId}(h:w.heap[g]? =some (.cells #[] e (0,0)))(hb:base<=g):w.ownsRow base e 1 (.slice (some ⟨g,0,none⟩) 0 0) ([]:List Int).length (([]:List Int).map (Value.int .i64)):=⟨rfl,.inr ⟨g,0,#[],rfl,hb,h,Nat.le_refl _,Nat.zero_le _,rfl,rfl⟩⟩
def y173(t:Tr):Prop:= ∀(W w:World) (vo vt vp:Value) (ps:List (List Int)) (path:List Int) (d:Int) (rd:Bool),shape sigT t d=true->Lies W t vt->Ext W w->y24 W w 26 vo ps->q20 w (fun b=> b < w.heap.size/\vo.ownBlock≠some b) vp path->path.length+cnt t<=1000->ps.length+cnt t<=1000->
 Calls Tryz.prog 150 #[vo,vt,vp,.bool rd] w fun e w'=> ∃x,e= .returned x/\y24 W w' 26 x (ps++plc (askP rd) t path)/\Only vo.ownBlock.toList w w'/\(∀g,x.ownBlock=some g->vo.ownBlock=some g\/w.heap.size<=g)
theorem Only.ofOwn{W w w':World}{e:TypeId}{v:Value}{ps:List (List Int)}(ho:Only v.ownBlock.toList w w')(hG:y24 W w e v ps)(hE:Ext W w):Ext W w':=ho.ext hE (fun b hb=> by
 rw[Option.mem_toList] at hb;exact(hG.lt hb).1)
theorem q95: ∀t:Tr,y173 t:=Tr.ind fun k n ks hk=> by
 intro W w vo vt vp ps path d rd hsh j7 Ca hG hP I1 Kz;have HR:=hdq (fun V (hV:Ext W V)=> q31 (.mk k n ks) d hsh V vt (j7.ext hV));obtain⟨-,-,-,hsk⟩:=q25 hsh;obtain⟨A,cap,rfl,hl,hc,hK⟩:=Lies.mk_iff.1 j7;obtain⟨i0,hi,hz0,hz1,hz2⟩:=info_parts y124;obtain⟨i1,hj,hy0,M8,hy2⟩:=info_parts q188;have hcc:=hc;unfold maxLen at hcc;simp only[cnt] at I1 Kz;have hlc:=y19 ks;have hpl:plc (askP rd) (.mk k n ks) path=(if askP rd (.mk k n ks)=true then [path] else [])++plcs (askP rd) 0 ks path:=by rw[plc]
 obtain⟨r,hr⟩: ∃r,askP rd (.mk k n ks)=r:=⟨_,rfl⟩;rw[hr] at hpl;rw[hpl,<-List.append_assoc];clear hpl j7;have hx0:=(xr w).alloc (.cells #[.int .i64 k,.int .i64 n,.slice A ks.length cap] 25);have L5:=heap_alloc_new w (.cells #[.int .i64 k,.int .i64 n,.slice A ks.length cap] 25);obtain⟨wB,Fe⟩: ∃x,x=w.alloc (.cells #[.int .i64 k,.int .i64 n,.slice A ks.length cap] 25):=⟨_,rfl⟩;rw[<-Fe] at hx0 L5;have hsB:w.heap.size < wB.heap.size:=j10 L5;obtain⟨Bo,lo,co,rfl⟩:=hG.form3;have hus: ∃B c,vp= .slice B path.length c:=by
  rcases hP with⟨rfl,rfl⟩ |⟨b,o,c,rfl,_⟩
  · exact⟨none,0,rfl⟩
  · exact⟨_,c,rfl⟩
 obtain⟨Bu,cu,rfl⟩:=hus;have Yh:=hdq (show∀s0:List (List Int),s0++plcs (askP rd) 0 (ks.take 0) path=s0 from fun s0=> by simp[plcs]);have Bf:=fun g hg=> hG.lt (g:=g) hg
 have hGB:=hG.ext hx0;have hPB:q20 wB (fun b=> b < wB.heap.size/\b≠w.heap.size/\(Value.slice Bo lo co).ownBlock≠some b) (.slice Bu path.length cu) path:=hP.mono (fun b hb=>⟨by omega,by omega,hb.2⟩) (fun b hb=> hx0.heap b hb.1);have hOB:Only (Value.slice Bo lo co).ownBlock.toList w wB:=Only.ofExt hx0;clear hGB hPB hOB;cases rd with
 |false=>
  have hr1:r=true:=hr.symm;subst hr1;rw[if_pos rfl];obtain⟨s0,hs0⟩: ∃s,s=ps++ [path]:=⟨_,rfl⟩;rw[<-hs0];obtain⟨w1,i7⟩: ∃x,x=wB:=⟨_,rfl⟩;have C6:Ext w w1:=i7▸hx0;have W5:Ext wB w1:=i7▸xr wB;have Qj:q20 w1 (fun b=> b < w.heap.size/\(Value.slice Bo lo co).ownBlock≠some b) (.slice Bu path.length cu) path:=hP.mono (fun _ h=> h) (fun b hb=> C6.heap b hb.1);have Zn:w.alloc (.cells #[.int .i64 k,.int .i64 n,.slice A ks.length cap] 25)=w1:=(i7.trans Fe).symm;have hsz:w.heap.size+1=w1.heap.size:=by rw[<-Zn];simp
  have HWW:=hdq Zn;have Gz:=hdq hsz;clear i7 Fe Zn hsz;go_enter Tryz.func150,Tryz.ntmps150;go_wp2_with (at_builtin;rw[HWW.out,Gz.out];refine y17 _ rfl (.tmp 18) (.tmp 19) 26 rfl w1.heap.size 3 i0 _ 8 Tryz.underlying26 hi hz0 hz1 hz2 (by decide) rfl (ns:= []) (p:=path) rfl (q82 (heap_alloc_new _ _) (Nat.le_refl _)) (by simp) rfl (Qj.mono (fun _ h=> h) (fun x hx=> Below.heap_alloc w1 _ x (by have:=C6.size;omega))) (by simp;omega) ?_)
  intro va wa V9 O8 fw;have K9:wa.ownsRow w1.heap.size 3 1 va path.length (path.map (Value.int .i64)):=by simpa using V9
  obtain⟨Bv,cv,rfl,-,-,-⟩:=q26 K9;have F6:Ext w1 wa:=Ext.grown ((xr w1).alloc _) O8 (fun g hg=> by simp[Value.ownBlock] at hg;omega);have Q4:=(xr wa).alloc (.cells #[.slice Bv path.length cv] 26);have Mg:q20 (wa.alloc (.cells #[.slice Bv path.length cv] 26)) (fun b=> W.heap.size<=b/\b <(wa.alloc (.cells #[.slice Bv path.length cv] 26)).heap.size/\(Value.slice Bo lo co).ownBlock≠some b) (.slice Bv path.length cv) path:=(j34 K9).mono (fun b hb=>⟨by have:=Ca.size;have:=C6.size;omega,by simp;omega,fun he=> by have:=(Bf b he).2;have:=C6.size;omega⟩) (fun b hb=> Q4.heap b hb.2.1);have Oc:y24 W (wa.alloc (.cells #[.slice Bv path.length cv] 26)) 26 (.slice Bo lo co) ps:=((hG.ext C6).ext F6).ext Q4;go_wp2_with (at_builtin;refine j47 _ rfl (.tmp 17) (.tmp 21) 98 rfl 26 26 i1 _ 24 Tryz.underlying98 hj hy0 M8 hy2 (by decide) rfl (W:=W) (p:=path) rfl Oc (((Ca.trans C6).trans F6).trans Q4).size Mg rfl (heap_alloc_new _ _) (by omega) ?_)
  intro x0 w2 fo hg0 ux;have T5:(ps++ [path]).length+cnts ks<=1000:=by rw[List.length_append,List.length_singleton];omega
  rw[<-hs0] at fo T5;have M5:=(C6.trans F6).trans Q4;have jg:Only (Value.slice Bo lo co).ownBlock.toList w w2:=Only.grown' (Only.ofExt M5) hg0 (fun g hg=> .inl (by rw[Option.mem_toList];exact hg));have ki: ∀g,x0.ownBlock=some g->(Value.slice Bo lo co).ownBlock=some g\/w.heap.size < g:=fun g hg=>(ux g hg).imp id (fun h=> by have:=(W5.trans F6).size;have:=Q4.size;omega)
  have hb0:w2.heap[w.heap.size]? =some (.cells #[.int .i64 k,.int .i64 n,.slice A ks.length cap] 25 (0,0)):=(hg0.block _ (by have:=(W5.trans (F6.trans Q4)).size;omega) (fun he=> by have:=(Bf _ he.symm).2;omega)).trans ((W5.trans (F6.trans Q4)).blk L5);obtain⟨Bx,lx,cx,rfl⟩:=fo.form3;clear V9 O8 fw K9 F6 Q4 Mg Oc hg0 ux M5 C6 W5 Qj L5;have Qv:=hdq fo;have Nl:=hdq hb0;have Tx:=hdq jg;have Ng:=hdq ki;clear fo hb0 jg ki HR hr;go_wp2_with fail
  go_loopw [0,9] (fun x i wr=> ∃(j:Nat) (B:Option Addr) (l c:Nat),j<=ks.length/\i= .int .i64 j/\x= .slice B l c/\y24 W wr 26 (.slice B l c) (s0++plcs (askP false) 0 (ks.take j) path)/\wr.heap[w.heap.size]? =some (.cells #[.int .i64 k,.int .i64 n,.slice A ks.length cap] 25 (0,0))/\Only (Value.slice Bo lo co).ownBlock.toList w wr/\(∀g,(Value.slice B l c).ownBlock=some g->(Value.slice Bo lo co).ownBlock=some g\/w.heap.size < g)) (fun _ i _=> ks.length -(intOf i).toNat)
  case atStart=> exact⟨0,Bx,lx,cx,Nat.zero_le _,rfl,rfl,by rw[Yh.out s0];exact Qv.out,Nl.out,Tx.out,Ng.out⟩
  case round=>
   obtain⟨j,By,ly,cy,hj',rfl,rfl,hG,hb,hO,eh⟩:=hrel;have I3:Ext W wr:=hO.ext Ca (fun x hx=> by rw[Option.mem_toList] at hx;exact(Bf x hx).1);obtain⟨z0,z1,z2,-,-,-⟩:=own3 hb;by_cases hlt:j < ks.length
   · obtain⟨b,o,k',n',A',cap',kids,rfl,HK,c0,c1,c2,K8,L6,hK',D6,j5⟩:=hK.get (xr W) hlt
     have hcm:=y15 j5;have ym:=y76 (askP false) (ks.take j) 0 path;have xh:cnts (ks.take j)+cnt (.mk k' n' kids)<=cnts ks:=by
      conv=> rhs;rw[<-List.take_append_drop j ks,List.drop_eq_getElem_cons hlt,HK.out]
      rw[j44,cnts];omega
     have I5:(s0++plcs (askP false) 0 (ks.take j) path).length+cnt (.mk k' n' kids)<=1000:=by rw[List.length_append];omega
     have ni:(s0++plcs (askP false) 0 (ks.take j) path)++plc (askP false) (.mk k' n' kids) (path++ [(j:Int)])=s0++plcs (askP false) 0 (ks.take (j+1)) path:=by
      rw[List.append_assoc,<-List.take_append_getElem hlt,HK.out,q85,List.length_take,show min j ks.length=j by omega,Nat.zero_add]
     have Ri:=hdq ni;have ql:=hdq I5;clear ni I5 ym xh;have my:(j:Int) <(ks.length:Int):=by omega
     have hsw:w.heap.size < wr.heap.size:=j10 hb;have ag: ∀g,(Value.slice By ly cy).ownBlock=some g->W.heap.size<=g/\g < wr.heap.size:=fun g hg=> hG.lt hg
     have Fb:=hdq (show∀V,Ext wr V->q20 V (fun b=> b < w.heap.size/\(Value.slice Bo lo co).ownBlock≠some b) (.slice Bu path.length cu) path from fun V hV=> hP.mono (fun _ hb=> hb) (fun x hx=>(hV.heap x (by omega)).trans (hO.block x hx.1 (fun hm=> hx.2 (by rw[Option.mem_toList] at hm;exact hm)))));have HS:=hdq (show∀w':World,w'.heap[w.heap.size]? =some (.cells #[.int .i64 k,.int .i64 n,.slice (some ⟨b,o,none⟩) ks.length cap] 25 (0,0))->Ext W w'->w'.cell? ⟨w.heap.size,2,none⟩=some (.slice (some ⟨b,o,none⟩) ks.length cap)/\w'.cell? ⟨b,o+j*3,none⟩=some (.int .i64 k')/\w'.cell? ⟨b,o+j*3+1,none⟩=some (.int .i64 n')/\w'.cell? ⟨b,o+j*3+2,none⟩=some (.slice A' kids.length cap') from fun w' h1 h2=>⟨by rw[q10 h1];rfl,h2.cell c0,h2.cell c1,h2.cell c2⟩);have I4:Ext wr wr.drew:=(xr wr).drew;go_wp2_with fail;clear z0 z1 z2 c0 c1 c2
     go_region_held_law (fun w'=> w'.cell? ⟨w.heap.size,2,none⟩=some (.slice (some ⟨b,o,none⟩) ks.length cap)/\w'.cell? ⟨b,o+j*3,none⟩=some (.int .i64 k')/\w'.cell? ⟨b,o+j*3+1,none⟩=some (.int .i64 n')/\w'.cell? ⟨b,o+j*3+2,none⟩=some (.slice A' kids.length cap'))
      (first|exact HS.out _ G5 Fv|exact HS.out _ (O7.blk hb) (I3.trans O7) |exact HS.out _ ((F6.alloc _).blk hb) (I3.trans (F6.alloc _)) |exact HS.out _ (F6.blk hb) (I3.trans F6) |exact HS.out _ (Ext.blk (I4) hb) (I3.trans (I4)) |exact HS.out _ (Ext.blk (I4.alloc _) hb) (I3.trans (I4.alloc _)) |exact HS.out _ (Ext.blk ((I4.alloc _).alloc _) hb) (I3.trans ((I4.alloc _).alloc _)) |exact HS.out _ (Ext.blk (((xr wr).alloc _).drew) hb) (I3.trans (((xr wr).alloc _).drew)) |exact HS.out _ (Ext.blk ((((xr wr).alloc _).drew).alloc _) hb) (I3.trans ((((xr wr).alloc _).drew).alloc _)) |exact HS.out _ (Ext.blk (((((xr wr).alloc _).alloc _).drew)) hb) (I3.trans (((((xr wr).alloc _).alloc _).drew))))
      (first
       |(refine j39 _ (by rfl) (.tmp 36) (.tmp 37) _ (by rfl) wr.heap.size 3 i0 _ 8 Tryz.underlying26 hi hz0 hz1 hz2 (by decide) rfl (ns:= []) (p:=path) (by rfl) (q82 (by first|exact heap_alloc_new _ _|exact((xr _).alloc _).blk (heap_alloc_new _ _) |exact j90 wr (.cells #[.int .i64 j] 3) (.cells #[] 3)) (by simp)) (Ext.size (by first|exact I4|exact I4.alloc _|exact(I4.alloc _).alloc _|exact((xr wr).alloc _).drew|exact(((xr wr).alloc _).drew).alloc _|exact((((xr wr).alloc _).alloc _).drew))) (by rfl) (Fb.out _ (by first|exact I4|exact I4.alloc _|exact(I4.alloc _).alloc _|exact((xr wr).alloc _).drew|exact(((xr wr).alloc _).drew).alloc _|exact((((xr wr).alloc _).alloc _).drew))) (by simp;omega) ?_;intro va wa V9 O8 fw;have K9:wa.ownsRow wr.heap.size 3 1 va path.length (path.map (Value.int .i64)):=(by simpa using V9);have F6:Ext wr wa:=Ext.grown (by first|exact I4|exact I4.alloc _|exact(I4.alloc _).alloc _|exact((xr wr).alloc _).drew|exact(((xr wr).alloc _).drew).alloc _|exact((((xr wr).alloc _).alloc _).drew)) O8 (fun g hg=> by simp[Value.ownBlock] at hg;omega);(first|(have bf:wa.heap[wr.heap.size]? =some (.cells #[.int .i64 j] 3 (0,0)):=(O8.block _ (by simp;omega) (by simp[Value.ownBlock])).trans (((xr _).alloc _).blk (heap_alloc_new wr (.cells #[.int .i64 j] 3)))) |(have bf:wa.heap[wr.heap.size+1]? =some (.cells #[.int .i64 j] 3 (0,0)):=(O8.block _ (by simp) (by simp[Value.ownBlock])).trans (j90 wr (.cells #[] 3) (.cells #[.int .i64 j] 3))) |(have bf:=trivial)))
       |(refine y45 _ (by rfl) (.tmp 38) (.tmp 40) _ (by rfl) wr.heap.size 3 3 i0 _ 8 Tryz.underlying26 hi hz0 hz1 hz2 (by decide) rfl (y:= .int .i64 j) rfl (by rfl) (by first|exact K9|exact((xr _).alloc _).ownsRow K9) (by rfl) (by first|exact heap_alloc_new _ _|exact bf) (by omega) (by first|exact F6.size|exact(F6.alloc _).size) ?_;intro vb wb gf hgb Nf;have hq:wb.ownsRow wr.heap.size 3 1 vb (path++ [(j:Int)]).length ((path++ [(j:Int)]).map (Value.int .i64)):=(by simpa using gf);have O7:Ext wr wb:=(by first|exact F6.grown hgb (fun k hk=>(K9.lt k hk).1) |exact(F6.alloc _).grown hgb (fun k hk=>(K9.lt k hk).1)))
       |(go_simp;go_at_call 150;refine(hk _ j5 W _ _ _ _ (s0++plcs (askP false) 0 (ks.take j) path) (path++ [(j:Int)]) (d - 1) false (hsk _ j5) D6 (I3.trans O7) (hG.ext O7) ((j34 hq).mono (fun x hx=>⟨hx.2.1,fun he=> by have:=(ag x he).2;have:=hx.1;omega⟩) (fun _ _=> rfl)) (by simp;omega) ql.out).mono ?_;rintro e w6 ⟨x6,rfl,K4,K0,ln⟩;have Fv:Ext W w6:=K0.ofOwn (hG.ext O7) (I3.trans O7);have G5:w6.heap[w.heap.size]? =some (.cells #[.int .i64 k,.int .i64 n,.slice (some ⟨b,o,none⟩) ks.length cap] 25 (0,0)):=(K0.block _ (by have:=O7.size;omega) (fun hm=> by rw[Option.mem_toList] at hm;rcases eh _ hm with h|h;(have:=(Bf _ h).2;omega);omega)).trans (O7.blk hb);(try dsimp only)))
     all_goals(
      have ap:Only (Value.slice Bo lo co).ownBlock.toList w w6:=(hO.trans (Only.ofExt O7)).widen K0 (fun x hx=> by rw[Option.mem_toList] at hx;rcases eh x hx with h|h;exact .inl (by rw[Option.mem_toList];exact h);exact .inr (by omega));have xl: ∀g,x6.ownBlock=some g->(Value.slice Bo lo co).ownBlock=some g\/w.heap.size < g:=fun g hg=> by
       rcases ln g hg with h|h
       · exact eh g h
       · exact .inr (by have:=O7.size;omega)
      rw[Ri.out] at K4;obtain⟨B6,l6,c6,rfl⟩:=K4.form3;clear hgb Nf gf hq K9 V9 O8 fw F6 bf O7 K0 ln Fv HS I4 Fb ag hsw hb hG hO eh I3;go_wp2_with fail
      go_roundw
      case rel=> exact⟨j+1,B6,l6,c6,by omega,by go_num,rfl,K4,G5,ap,xl⟩
      case measure=> simp[intOf];omega)
   · rw[show j=ks.length from by omega,List.take_length] at hG
     have xp: ∀g,(Value.slice By ly cy).ownBlock=some g->(Value.slice Bo lo co).ownBlock=some g\/w.heap.size<=g:=fun g hg=>(eh g hg).imp id (fun h=> by omega)
     go_wp2_with fail;go_ret;exact⟨_,rfl,hG,hO,xp⟩
 |true=>
  cases r with
  |true=>
   rw[if_pos rfl];obtain⟨s0,hs0⟩: ∃s,s=ps++ [path]:=⟨_,rfl⟩;rw[<-hs0];have hrr:(rdxT (.mk k n ks) !=0)=true:=hr;go_enter Tryz.func150,Tryz.ntmps150;go_wp2_with fail;rw[<-Fe];refine(HR.out _ (Ca.trans hx0)).mono ?_;rintro e w1 ⟨rfl,W5⟩;have C6:Ext w w1:=hx0.trans W5;have Qj:q20 w1 (fun b=> b < w.heap.size/\(Value.slice Bo lo co).ownBlock≠some b) (.slice Bu path.length cu) path:=hP.mono (fun _ h=> h) (fun b hb=> C6.heap b hb.1);clear Fe;go_wp2_with (at_builtin;refine y17 _ rfl (.tmp 18) (.tmp 19) 26 rfl w1.heap.size 3 i0 _ 8 Tryz.underlying26 hi hz0 hz1 hz2 (by decide) rfl (ns:= []) (p:=path) rfl (q82 (heap_alloc_new _ _) (Nat.le_refl _)) (by simp) rfl (Qj.mono (fun _ h=> h) (fun x hx=> Below.heap_alloc w1 _ x (by have:=C6.size;omega))) (by simp;omega) ?_)
   intro va wa V9 O8 fw;have K9:wa.ownsRow w1.heap.size 3 1 va path.length (path.map (Value.int .i64)):=by simpa using V9
   obtain⟨Bv,cv,rfl,-,-,-⟩:=q26 K9;have F6:Ext w1 wa:=Ext.grown ((xr w1).alloc _) O8 (fun g hg=> by simp[Value.ownBlock] at hg;omega);have Q4:=(xr wa).alloc (.cells #[.slice Bv path.length cv] 26);have Mg:q20 (wa.alloc (.cells #[.slice Bv path.length cv] 26)) (fun b=> W.heap.size<=b/\b <(wa.alloc (.cells #[.slice Bv path.length cv] 26)).heap.size/\(Value.slice Bo lo co).ownBlock≠some b) (.slice Bv path.length cv) path:=(j34 K9).mono (fun b hb=>⟨by have:=Ca.size;have:=C6.size;omega,by simp;omega,fun he=> by have:=(Bf b he).2;have:=C6.size;omega⟩) (fun b hb=> Q4.heap b hb.2.1);have Oc:y24 W (wa.alloc (.cells #[.slice Bv path.length cv] 26)) 26 (.slice Bo lo co) ps:=((hG.ext C6).ext F6).ext Q4;go_wp2_with (at_builtin;refine j47 _ rfl (.tmp 17) (.tmp 21) 98 rfl 26 26 i1 _ 24 Tryz.underlying98 hj hy0 M8 hy2 (by decide) rfl (W:=W) (p:=path) rfl Oc (((Ca.trans C6).trans F6).trans Q4).size Mg rfl (heap_alloc_new _ _) (by omega) ?_)
   intro x0 w2 fo hg0 ux;have T5:(ps++ [path]).length+cnts ks<=1000:=by rw[List.length_append,List.length_singleton];omega
   rw[<-hs0] at fo T5;have M5:=(C6.trans F6).trans Q4;have jg:Only (Value.slice Bo lo co).ownBlock.toList w w2:=Only.grown' (Only.ofExt M5) hg0 (fun g hg=> .inl (by rw[Option.mem_toList];exact hg));have ki: ∀g,x0.ownBlock=some g->(Value.slice Bo lo co).ownBlock=some g\/w.heap.size < g:=fun g hg=>(ux g hg).imp id (fun h=> by have:=(W5.trans F6).size;have:=Q4.size;omega)
   have hb0:w2.heap[w.heap.size]? =some (.cells #[.int .i64 k,.int .i64 n,.slice A ks.length cap] 25 (0,0)):=(hg0.block _ (by have:=(W5.trans (F6.trans Q4)).size;omega) (fun he=> by have:=(Bf _ he.symm).2;omega)).trans ((W5.trans (F6.trans Q4)).blk L5);obtain⟨Bx,lx,cx,rfl⟩:=fo.form3;clear V9 O8 fw K9 F6 Q4 Mg Oc hg0 ux M5 C6 W5 Qj L5;have Qv:=hdq fo;have Nl:=hdq hb0;have Tx:=hdq jg;have Ng:=hdq ki;clear fo hb0 jg ki HR hr;go_wp2_with fail
   go_loopw [0,9] (fun x i wr=> ∃(j:Nat) (B:Option Addr) (l c:Nat),j<=ks.length/\i= .int .i64 j/\x= .slice B l c/\y24 W wr 26 (.slice B l c) (s0++plcs (askP true) 0 (ks.take j) path)/\wr.heap[w.heap.size]? =some (.cells #[.int .i64 k,.int .i64 n,.slice A ks.length cap] 25 (0,0))/\Only (Value.slice Bo lo co).ownBlock.toList w wr/\(∀g,(Value.slice B l c).ownBlock=some g->(Value.slice Bo lo co).ownBlock=some g\/w.heap.size < g)) (fun _ i _=> ks.length -(intOf i).toNat)
   case atStart=> exact⟨0,Bx,lx,cx,Nat.zero_le _,rfl,rfl,by rw[Yh.out s0];exact Qv.out,Nl.out,Tx.out,Ng.out⟩
   case round=>
    obtain⟨j,By,ly,cy,hj',rfl,rfl,hG,hb,hO,eh⟩:=hrel;have I3:Ext W wr:=hO.ext Ca (fun x hx=> by rw[Option.mem_toList] at hx;exact(Bf x hx).1);obtain⟨z0,z1,z2,-,-,-⟩:=own3 hb;by_cases hlt:j < ks.length
    · obtain⟨b,o,k',n',A',cap',kids,rfl,HK,c0,c1,c2,K8,L6,hK',D6,j5⟩:=hK.get (xr W) hlt
      have hcm:=y15 j5;have ym:=y76 (askP true) (ks.take j) 0 path;have xh:cnts (ks.take j)+cnt (.mk k' n' kids)<=cnts ks:=by
       conv=> rhs;rw[<-List.take_append_drop j ks,List.drop_eq_getElem_cons hlt,HK.out]
       rw[j44,cnts];omega
      have I5:(s0++plcs (askP true) 0 (ks.take j) path).length+cnt (.mk k' n' kids)<=1000:=by rw[List.length_append];omega
      have ni:(s0++plcs (askP true) 0 (ks.take j) path)++plc (askP true) (.mk k' n' kids) (path++ [(j:Int)])=s0++plcs (askP true) 0 (ks.take (j+1)) path:=by
       rw[List.append_assoc,<-List.take_append_getElem hlt,HK.out,q85,List.length_take,show min j ks.length=j by omega,Nat.zero_add]
      have Ri:=hdq ni;have ql:=hdq I5;clear ni I5 ym xh;have my:(j:Int) <(ks.length:Int):=by omega
      have hsw:w.heap.size < wr.heap.size:=j10 hb;have ag: ∀g,(Value.slice By ly cy).ownBlock=some g->W.heap.size<=g/\g < wr.heap.size:=fun g hg=> hG.lt hg
      have Fb:=hdq (show∀V,Ext wr V->q20 V (fun b=> b < w.heap.size/\(Value.slice Bo lo co).ownBlock≠some b) (.slice Bu path.length cu) path from fun V hV=> hP.mono (fun _ hb=> hb) (fun x hx=>(hV.heap x (by omega)).trans (hO.block x hx.1 (fun hm=> hx.2 (by rw[Option.mem_toList] at hm;exact hm)))));have HS:=hdq (show∀w':World,w'.heap[w.heap.size]? =some (.cells #[.int .i64 k,.int .i64 n,.slice (some ⟨b,o,none⟩) ks.length cap] 25 (0,0))->Ext W w'->w'.cell? ⟨w.heap.size,2,none⟩=some (.slice (some ⟨b,o,none⟩) ks.length cap)/\w'.cell? ⟨b,o+j*3,none⟩=some (.int .i64 k')/\w'.cell? ⟨b,o+j*3+1,none⟩=some (.int .i64 n')/\w'.cell? ⟨b,o+j*3+2,none⟩=some (.slice A' kids.length cap') from fun w' h1 h2=>⟨by rw[q10 h1];rfl,h2.cell c0,h2.cell c1,h2.cell c2⟩);have I4:Ext wr wr.drew:=(xr wr).drew;go_wp2_with fail;clear z0 z1 z2 c0 c1 c2
      go_region_held_law (fun w'=> w'.cell? ⟨w.heap.size,2,none⟩=some (.slice (some ⟨b,o,none⟩) ks.length cap)/\w'.cell? ⟨b,o+j*3,none⟩=some (.int .i64 k')/\w'.cell? ⟨b,o+j*3+1,none⟩=some (.int .i64 n')/\w'.cell? ⟨b,o+j*3+2,none⟩=some (.slice A' kids.length cap'))
       (first|exact HS.out _ G5 Fv|exact HS.out _ (O7.blk hb) (I3.trans O7) |exact HS.out _ ((F6.alloc _).blk hb) (I3.trans (F6.alloc _)) |exact HS.out _ (F6.blk hb) (I3.trans F6) |exact HS.out _ (Ext.blk (I4) hb) (I3.trans (I4)) |exact HS.out _ (Ext.blk (I4.alloc _) hb) (I3.trans (I4.alloc _)) |exact HS.out _ (Ext.blk ((I4.alloc _).alloc _) hb) (I3.trans ((I4.alloc _).alloc _)) |exact HS.out _ (Ext.blk (((xr wr).alloc _).drew) hb) (I3.trans (((xr wr).alloc _).drew)) |exact HS.out _ (Ext.blk ((((xr wr).alloc _).drew).alloc _) hb) (I3.trans ((((xr wr).alloc _).drew).alloc _)) |exact HS.out _ (Ext.blk (((((xr wr).alloc _).alloc _).drew)) hb) (I3.trans (((((xr wr).alloc _).alloc _).drew))))
       (first
        |(refine j39 _ (by rfl) (.tmp 36) (.tmp 37) _ (by rfl) wr.heap.size 3 i0 _ 8 Tryz.underlying26 hi hz0 hz1 hz2 (by decide) rfl (ns:= []) (p:=path) (by rfl) (q82 (by first|exact heap_alloc_new _ _|exact((xr _).alloc _).blk (heap_alloc_new _ _) |exact j90 wr (.cells #[.int .i64 j] 3) (.cells #[] 3)) (by simp)) (Ext.size (by first|exact I4|exact I4.alloc _|exact(I4.alloc _).alloc _|exact((xr wr).alloc _).drew|exact(((xr wr).alloc _).drew).alloc _|exact((((xr wr).alloc _).alloc _).drew))) (by rfl) (Fb.out _ (by first|exact I4|exact I4.alloc _|exact(I4.alloc _).alloc _|exact((xr wr).alloc _).drew|exact(((xr wr).alloc _).drew).alloc _|exact((((xr wr).alloc _).alloc _).drew))) (by simp;omega) ?_;intro va wa V9 O8 fw;have K9:wa.ownsRow wr.heap.size 3 1 va path.length (path.map (Value.int .i64)):=(by simpa using V9);have F6:Ext wr wa:=Ext.grown (by first|exact I4|exact I4.alloc _|exact(I4.alloc _).alloc _|exact((xr wr).alloc _).drew|exact(((xr wr).alloc _).drew).alloc _|exact((((xr wr).alloc _).alloc _).drew)) O8 (fun g hg=> by simp[Value.ownBlock] at hg;omega);(first|(have bf:wa.heap[wr.heap.size]? =some (.cells #[.int .i64 j] 3 (0,0)):=(O8.block _ (by simp;omega) (by simp[Value.ownBlock])).trans (((xr _).alloc _).blk (heap_alloc_new wr (.cells #[.int .i64 j] 3)))) |(have bf:wa.heap[wr.heap.size+1]? =some (.cells #[.int .i64 j] 3 (0,0)):=(O8.block _ (by simp) (by simp[Value.ownBlock])).trans (j90 wr (.cells #[] 3) (.cells #[.int .i64 j] 3))) |(have bf:=trivial)))
        |(refine y45 _ (by rfl) (.tmp 38) (.tmp 40) _ (by rfl) wr.heap.size 3 3 i0 _ 8 Tryz.underlying26 hi hz0 hz1 hz2 (by decide) rfl (y:= .int .i64 j) rfl (by rfl) (by first|exact K9|exact((xr _).alloc _).ownsRow K9) (by rfl) (by first|exact heap_alloc_new _ _|exact bf) (by omega) (by first|exact F6.size|exact(F6.alloc _).size) ?_;intro vb wb gf hgb Nf;have hq:wb.ownsRow wr.heap.size 3 1 vb (path++ [(j:Int)]).length ((path++ [(j:Int)]).map (Value.int .i64)):=(by simpa using gf);have O7:Ext wr wb:=(by first|exact F6.grown hgb (fun k hk=>(K9.lt k hk).1) |exact(F6.alloc _).grown hgb (fun k hk=>(K9.lt k hk).1)))
        |(go_simp;go_at_call 150;refine(hk _ j5 W _ _ _ _ (s0++plcs (askP true) 0 (ks.take j) path) (path++ [(j:Int)]) (d - 1) true (hsk _ j5) D6 (I3.trans O7) (hG.ext O7) ((j34 hq).mono (fun x hx=>⟨hx.2.1,fun he=> by have:=(ag x he).2;have:=hx.1;omega⟩) (fun _ _=> rfl)) (by simp;omega) ql.out).mono ?_;rintro e w6 ⟨x6,rfl,K4,K0,ln⟩;have Fv:Ext W w6:=K0.ofOwn (hG.ext O7) (I3.trans O7);have G5:w6.heap[w.heap.size]? =some (.cells #[.int .i64 k,.int .i64 n,.slice (some ⟨b,o,none⟩) ks.length cap] 25 (0,0)):=(K0.block _ (by have:=O7.size;omega) (fun hm=> by rw[Option.mem_toList] at hm;rcases eh _ hm with h|h;(have:=(Bf _ h).2;omega);omega)).trans (O7.blk hb);(try dsimp only)))
      all_goals(
       have ap:Only (Value.slice Bo lo co).ownBlock.toList w w6:=(hO.trans (Only.ofExt O7)).widen K0 (fun x hx=> by rw[Option.mem_toList] at hx;rcases eh x hx with h|h;exact .inl (by rw[Option.mem_toList];exact h);exact .inr (by omega));have xl: ∀g,x6.ownBlock=some g->(Value.slice Bo lo co).ownBlock=some g\/w.heap.size < g:=fun g hg=> by
        rcases ln g hg with h|h
        · exact eh g h
        · exact .inr (by have:=O7.size;omega)
       rw[Ri.out] at K4;obtain⟨B6,l6,c6,rfl⟩:=K4.form3;clear hgb Nf gf hq K9 V9 O8 fw F6 bf O7 K0 ln Fv HS I4 Fb ag hsw hb hG hO eh I3;go_wp2_with fail
       go_roundw
       case rel=> exact⟨j+1,B6,l6,c6,by omega,by go_num,rfl,K4,G5,ap,xl⟩
       case measure=> simp[intOf];omega)
    · rw[show j=ks.length from by omega,List.take_length] at hG
      have xp: ∀g,(Value.slice By ly cy).ownBlock=some g->(Value.slice Bo lo co).ownBlock=some g\/w.heap.size<=g:=fun g hg=>(eh g hg).imp id (fun h=> by omega)
      go_wp2_with fail;go_ret;exact⟨_,rfl,hG,hO,xp⟩
  |false=>
   rw[if_neg (by decide)];obtain⟨s0,hs0⟩: ∃s,s=ps++ []:=⟨_,rfl⟩;rw[<-hs0];have hrr:(rdxT (.mk k n ks) !=0)=false:=hr;go_enter Tryz.func150,Tryz.ntmps150;go_wp2_with fail;rw[<-Fe];refine(HR.out _ (Ca.trans hx0)).mono ?_;rintro e w1 ⟨rfl,W5⟩;have C6:Ext w w1:=hx0.trans W5;clear Fe;rw[List.append_nil] at hs0;have fo:y24 W w1 26 (.slice Bo lo co) s0:=by rw[hs0];exact hG.ext C6
   have T5:s0.length+cnts ks<=1000:=by rw[hs0];omega
   have jg:Only (Value.slice Bo lo co).ownBlock.toList w w1:=Only.ofExt C6;have ki: ∀g,(Value.slice Bo lo co).ownBlock=some g->(Value.slice Bo lo co).ownBlock=some g\/w.heap.size < g:=fun g hg=> .inl hg
   have hb0:w1.heap[w.heap.size]? =some (.cells #[.int .i64 k,.int .i64 n,.slice A ks.length cap] 25 (0,0)):=W5.blk L5;clear C6 W5 L5;have Qv:=hdq fo;have Nl:=hdq hb0;have Tx:=hdq jg;have Ng:=hdq ki;clear fo hb0 jg ki HR hr;go_wp2_with fail
   go_loopw [0,9] (fun x i wr=> ∃(j:Nat) (B:Option Addr) (l c:Nat),j<=ks.length/\i= .int .i64 j/\x= .slice B l c/\y24 W wr 26 (.slice B l c) (s0++plcs (askP true) 0 (ks.take j) path)/\wr.heap[w.heap.size]? =some (.cells #[.int .i64 k,.int .i64 n,.slice A ks.length cap] 25 (0,0))/\Only (Value.slice Bo lo co).ownBlock.toList w wr/\(∀g,(Value.slice B l c).ownBlock=some g->(Value.slice Bo lo co).ownBlock=some g\/w.heap.size < g)) (fun _ i _=> ks.length -(intOf i).toNat)
   case atStart=> exact⟨0,Bo,lo,co,Nat.zero_le _,rfl,rfl,by rw[Yh.out s0];exact Qv.out,Nl.out,Tx.out,Ng.out⟩
   case round=>
    obtain⟨j,By,ly,cy,hj',rfl,rfl,hG,hb,hO,eh⟩:=hrel;have I3:Ext W wr:=hO.ext Ca (fun x hx=> by rw[Option.mem_toList] at hx;exact(Bf x hx).1);obtain⟨z0,z1,z2,-,-,-⟩:=own3 hb;by_cases hlt:j < ks.length
    · obtain⟨b,o,k',n',A',cap',kids,rfl,HK,c0,c1,c2,K8,L6,hK',D6,j5⟩:=hK.get (xr W) hlt
      have hcm:=y15 j5;have ym:=y76 (askP true) (ks.take j) 0 path;have xh:cnts (ks.take j)+cnt (.mk k' n' kids)<=cnts ks:=by
       conv=> rhs;rw[<-List.take_append_drop j ks,List.drop_eq_getElem_cons hlt,HK.out]
       rw[j44,cnts];omega
      have I5:(s0++plcs (askP true) 0 (ks.take j) path).length+cnt (.mk k' n' kids)<=1000:=by rw[List.length_append];omega
      have ni:(s0++plcs (askP true) 0 (ks.take j) path)++plc (askP true) (.mk k' n' kids) (path++ [(j:Int)])=s0++plcs (askP true) 0 (ks.take (j+1)) path:=by
       rw[List.append_assoc,<-List.take_append_getElem hlt,HK.out,q85,List.length_take,show min j ks.length=j by omega,Nat.zero_add]
      have Ri:=hdq ni;have ql:=hdq I5;clear ni I5 ym xh;have my:(j:Int) <(ks.length:Int):=by omega
      have hsw:w.heap.size < wr.heap.size:=j10 hb;have ag: ∀g,(Value.slice By ly cy).ownBlock=some g->W.heap.size<=g/\g < wr.heap.size:=fun g hg=> hG.lt hg
      have Fb:=hdq (show∀V,Ext wr V->q20 V (fun b=> b < w.heap.size/\(Value.slice Bo lo co).ownBlock≠some b) (.slice Bu path.length cu) path from fun V hV=> hP.mono (fun _ hb=> hb) (fun x hx=>(hV.heap x (by omega)).trans (hO.block x hx.1 (fun hm=> hx.2 (by rw[Option.mem_toList] at hm;exact hm)))));have HS:=hdq (show∀w':World,w'.heap[w.heap.size]? =some (.cells #[.int .i64 k,.int .i64 n,.slice (some ⟨b,o,none⟩) ks.length cap] 25 (0,0))->Ext W w'->w'.cell? ⟨w.heap.size,2,none⟩=some (.slice (some ⟨b,o,none⟩) ks.length cap)/\w'.cell? ⟨b,o+j*3,none⟩=some (.int .i64 k')/\w'.cell? ⟨b,o+j*3+1,none⟩=some (.int .i64 n')/\w'.cell? ⟨b,o+j*3+2,none⟩=some (.slice A' kids.length cap') from fun w' h1 h2=>⟨by rw[q10 h1];rfl,h2.cell c0,h2.cell c1,h2.cell c2⟩);have I4:Ext wr wr.drew:=(xr wr).drew;go_wp2_with fail;clear z0 z1 z2 c0 c1 c2
      go_region_held_law (fun w'=> w'.cell? ⟨w.heap.size,2,none⟩=some (.slice (some ⟨b,o,none⟩) ks.length cap)/\w'.cell? ⟨b,o+j*3,none⟩=some (.int .i64 k')/\w'.cell? ⟨b,o+j*3+1,none⟩=some (.int .i64 n')/\w'.cell? ⟨b,o+j*3+2,none⟩=some (.slice A' kids.length cap'))
       (first|exact HS.out _ G5 Fv|exact HS.out _ (O7.blk hb) (I3.trans O7) |exact HS.out _ ((F6.alloc _).blk hb) (I3.trans (F6.alloc _)) |exact HS.out _ (F6.blk hb) (I3.trans F6) |exact HS.out _ (Ext.blk (I4) hb) (I3.trans (I4)) |exact HS.out _ (Ext.blk (I4.alloc _) hb) (I3.trans (I4.alloc _)) |exact HS.out _ (Ext.blk ((I4.alloc _).alloc _) hb) (I3.trans ((I4.alloc _).alloc _)) |exact HS.out _ (Ext.blk (((xr wr).alloc _).drew) hb) (I3.trans (((xr wr).alloc _).drew)) |exact HS.out _ (Ext.blk ((((xr wr).alloc _).drew).alloc _) hb) (I3.trans ((((xr wr).alloc _).drew).alloc _)) |exact HS.out _ (Ext.blk (((((xr wr).alloc _).alloc _).drew)) hb) (I3.trans (((((xr wr).alloc _).alloc _).drew))))
       (first
        |(refine j39 _ (by rfl) (.tmp 36) (.tmp 37) _ (by rfl) wr.heap.size 3 i0 _ 8 Tryz.underlying26 hi hz0 hz1 hz2 (by decide) rfl (ns:= []) (p:=path) (by rfl) (q82 (by first|exact heap_alloc_new _ _|exact((xr _).alloc _).blk (heap_alloc_new _ _) |exact j90 wr (.cells #[.int .i64 j] 3) (.cells #[] 3)) (by simp)) (Ext.size (by first|exact I4|exact I4.alloc _|exact(I4.alloc _).alloc _|exact((xr wr).alloc _).drew|exact(((xr wr).alloc _).drew).alloc _|exact((((xr wr).alloc _).alloc _).drew))) (by rfl) (Fb.out _ (by first|exact I4|exact I4.alloc _|exact(I4.alloc _).alloc _|exact((xr wr).alloc _).drew|exact(((xr wr).alloc _).drew).alloc _|exact((((xr wr).alloc _).alloc _).drew))) (by simp;omega) ?_;intro va wa V9 O8 fw;have K9:wa.ownsRow wr.heap.size 3 1 va path.length (path.map (Value.int .i64)):=(by simpa using V9);have F6:Ext wr wa:=Ext.grown (by first|exact I4|exact I4.alloc _|exact(I4.alloc _).alloc _|exact((xr wr).alloc _).drew|exact(((xr wr).alloc _).drew).alloc _|exact((((xr wr).alloc _).alloc _).drew)) O8 (fun g hg=> by simp[Value.ownBlock] at hg;omega);(first|(have bf:wa.heap[wr.heap.size]? =some (.cells #[.int .i64 j] 3 (0,0)):=(O8.block _ (by simp;omega) (by simp[Value.ownBlock])).trans (((xr _).alloc _).blk (heap_alloc_new wr (.cells #[.int .i64 j] 3)))) |(have bf:wa.heap[wr.heap.size+1]? =some (.cells #[.int .i64 j] 3 (0,0)):=(O8.block _ (by simp) (by simp[Value.ownBlock])).trans (j90 wr (.cells #[] 3) (.cells #[.int .i64 j] 3))) |(have bf:=trivial)))
        |(refine y45 _ (by rfl) (.tmp 38) (.tmp 40) _ (by rfl) wr.heap.size 3 3 i0 _ 8 Tryz.underlying26 hi hz0 hz1 hz2 (by decide) rfl (y:= .int .i64 j) rfl (by rfl) (by first|exact K9|exact((xr _).alloc _).ownsRow K9) (by rfl) (by first|exact heap_alloc_new _ _|exact bf) (by omega) (by first|exact F6.size|exact(F6.alloc _).size) ?_;intro vb wb gf hgb Nf;have hq:wb.ownsRow wr.heap.size 3 1 vb (path++ [(j:Int)]).length ((path++ [(j:Int)]).map (Value.int .i64)):=(by simpa using gf);have O7:Ext wr wb:=(by first|exact F6.grown hgb (fun k hk=>(K9.lt k hk).1) |exact(F6.alloc _).grown hgb (fun k hk=>(K9.lt k hk).1)))
        |(go_simp;go_at_call 150;refine(hk _ j5 W _ _ _ _ (s0++plcs (askP true) 0 (ks.take j) path) (path++ [(j:Int)]) (d - 1) true (hsk _ j5) D6 (I3.trans O7) (hG.ext O7) ((j34 hq).mono (fun x hx=>⟨hx.2.1,fun he=> by have:=(ag x he).2;have:=hx.1;omega⟩) (fun _ _=> rfl)) (by simp;omega) ql.out).mono ?_;rintro e w6 ⟨x6,rfl,K4,K0,ln⟩;have Fv:Ext W w6:=K0.ofOwn (hG.ext O7) (I3.trans O7);have G5:w6.heap[w.heap.size]? =some (.cells #[.int .i64 k,.int .i64 n,.slice (some ⟨b,o,none⟩) ks.length cap] 25 (0,0)):=(K0.block _ (by have:=O7.size;omega) (fun hm=> by rw[Option.mem_toList] at hm;rcases eh _ hm with h|h;(have:=(Bf _ h).2;omega);omega)).trans (O7.blk hb);(try dsimp only)))
      all_goals(
       have ap:Only (Value.slice Bo lo co).ownBlock.toList w w6:=(hO.trans (Only.ofExt O7)).widen K0 (fun x hx=> by rw[Option.mem_toList] at hx;rcases eh x hx with h|h;exact .inl (by rw[Option.mem_toList];exact h);exact .inr (by omega));have xl: ∀g,x6.ownBlock=some g->(Value.slice Bo lo co).ownBlock=some g\/w.heap.size < g:=fun g hg=> by
        rcases ln g hg with h|h
        · exact eh g h
        · exact .inr (by have:=O7.size;omega)
       rw[Ri.out] at K4;obtain⟨B6,l6,c6,rfl⟩:=K4.form3;clear hgb Nf gf hq K9 V9 O8 fw F6 bf O7 K0 ln Fv HS I4 Fb ag hsw hb hG hO eh I3;go_wp2_with fail
       go_roundw
       case rel=> exact⟨j+1,B6,l6,c6,by omega,by go_num,rfl,K4,G5,ap,xl⟩
       case measure=> simp[intOf];omega)
    · rw[show j=ks.length from by omega,List.take_length] at hG
      have xp: ∀g,(Value.slice By ly cy).ownBlock=some g->(Value.slice Bo lo co).ownBlock=some g\/w.heap.size<=g:=fun g hg=>(eh g hg).imp id (fun h=> by omega)
      go_wp2_with fail;go_ret;exact⟨_,rfl,hG,hO,xp⟩
end Go.Proofs.YtbnkbepgmenblaaGreat
namespace Go.Proofs.YtbnkbepgmenblaaGreat
open Go.RowKit
theorem j221(d:Nat)(hd:d<=30)(ih:j30 d)(s:ByteArray)(a:Nat)(w:World)(hs:s.size<=1000000000)(ha:a < s.size)(hc:s[a]=91):
 Calls Tryz.prog 182 #[.string s,.int .i64 a,.int .i64 ((d:Int)+1)] w (j21 w.heap.size w s.size (prs (d+1) s.data.toList a)):=by
 have hR0:prs (d+1) s.data.toList a=sqr (prs d s.data.toList) s.data.toList (a+1):=by rw[y43 (j52 ha hc)];rfl
 rw[hR0];clear hR0;have HI:=hdq (fun(a:Nat) (A:Int) (hA:A=a) W (ha:a<=s.size+2)=>(show Calls Tryz.prog 182 #[.string s,.int .i64 A,.int .i64 d] W (j21 W.heap.size W s.size (prs d s.data.toList a)) from by subst hA;exact ih s a W hs ha));obtain⟨F,hF⟩: ∃F,F=prs d s.data.toList:=⟨_,rfl⟩;rw[<-hF] at HI⊢;have qc:sqr F s.data.toList (a+1)=match F (a+1) with
  |none=> none
  |some (x,b)=> if s.data.toList[b]? =some 93 then(match F (b+1) with|none=> none|some (y,c)=> some (.mk 4 0 [x,y],c)) else none:=rfl
 obtain⟨R,hR⟩: ∃R,R=sqr F s.data.toList (a+1):=⟨_,rfl⟩;rw[<-hR] at qc⊢;have HD:=hdq qc;clear hR ih hF qc;go_enter Tryz.func182,Tryz.ntmps182;go_wp2_with fail;refine(HI.out (a+1) _ (by omega) _ (by omega)).mono ?_;rintro e w1 ⟨t,u,nx,rfl,hF,e1,q1,q2⟩;obtain⟨k0,n0,A0,l0,c0,rfl⟩:=hF.three;have hb:=e1.newBlk;have hsz:=e1.size_alloc;have hx0:=((xr w).alloc (.cells #[.int .i64 0,.int .i64 0,.slice none 0 0] 25)).trans e1;have hx1:=hx0.trans ((xr w1).alloc (.cells #[.int .i64 k0,.int .i64 n0,.slice A0 l0 c0] 25));have ek:=hF.ext ((xr w1).alloc (.cells #[.int .i64 k0,.int .i64 n0,.slice A0 l0 c0] 25));simp only[World.size_alloc] at ek;have hb':=((xr w1).alloc (.cells #[.int .i64 k0,.int .i64 n0,.slice A0 l0 c0] 25)).blk hb;have hbA:=heap_alloc_new w1 (.cells #[.int .i64 k0,.int .i64 n0,.slice A0 l0 c0] 25);cases J5:F (a+1) with
 |none=>
  obtain rfl:=q2 J5;have H7:=HD.out;rw[J5] at H7;have HR:=hdq H7;obtain⟨s0,s1,s2,f0,f1,f2⟩:=own3 hb';clear q1 q2 H7 J5 hsz;go_wp2_with fail;exact bodyPost_ret (v:= .tuple #[.agg #[.int .i64 0,.int .i64 0,.slice none 0 0],.int .i64 (-1)]) (by simp[results,Tryz.results182,go_sem,s0,s1,s2]) rfl (q61 _ _ _ _ _ HR.out (((hx1.setCell (by simp) _).setCell (by simp) _).setCell (by simp) _))
 |some y=>
  obtain⟨x,b⟩:=y;obtain⟨h1,h2,h3⟩:=q1 _ J5;simp only at h1 h2 h3;have J1:=HD.out;rw[J5] at J1;simp only at J1;subst h1 h2;clear q1 q2 J5;have t0:decide ((b:Int) < 0)=false:=decide_eq_false (by omega);by_cases hlt:b < s.size
  · obtain⟨c,hcc⟩: ∃c,s[b]=c:=⟨_,rfl⟩
    rw[j52 hlt hcc] at J1;have Ub:(b:Int) <(s.size:Int):=by omega
    have t1:decide ((s.size:Int)<=(b:Int))=false:=decide_eq_false (by omega);obtain⟨m,hm⟩: ∃m,c.toNat=m:=⟨_,rfl⟩;by_cases h93:c=93
    · have Zg:m=93:=by rw[<-hm,h93];rfl
      rw[if_pos (by rw[h93])] at J1;subst Zg;have Qh:=hdq J1;clear J1 h93;go_wp2_with fail;refine(HI.out (b+1) _ (by omega) _ (by omega)).mono ?_;rintro e w2 ⟨t',u',nx',rfl,hF',e2,q1,q2⟩;obtain⟨k1,n1,A1,l1,c1,rfl⟩:=hF'.three;have hs2:=e2.size_alloc;have F6:=e2.trans ((xr w2).alloc (.cells #[.int .i64 k1,.int .i64 n1,.slice A1 l1 c1] 25));have hb2:=F6.blk hb';have Ho:=F6.blk hbA;have L5:=heap_alloc_new w2 (.cells #[.int .i64 k1,.int .i64 n1,.slice A1 l1 c1] 25);obtain⟨x0,x1,x2,-,-,-⟩:=own3 Ho;have hx2:=hx1.trans F6;have hF2:=ek.ext F6;have Ia:=(hF'.ext ((xr w2).alloc (.cells #[.int .i64 k1,.int .i64 n1,.slice A1 l1 c1] 25))).since (show w.heap.size+1<=_ by simp;omega);have jy:=hdq q1;have kt:=hdq q2;clear q1 q2 hs2;go_wp2_with fail;refine(y16 (w.heap.size+1) _ 4 _ 2 [t,t'] (by intro h;cases h) (j14.two (g:=w2.heap.size+1) (e:=25) hF2 Ia (by have:=e2.size_alloc;simp;omega) (by simp)) (by have:=e2.size_alloc;simp;omega) (by simp)).mono ?_;rintro e w3 ⟨v,rfl,hN,e3⟩;obtain⟨k3,n3,A3,l3,c3,rfl⟩:=hN.three;obtain⟨z0,z1,z2,g0,g1,g2⟩:=own3 (e3.blk (((xr _).alloc _).blk hb2));have hx3:=hx2.trans (((xr _).alloc _).trans e3);clear x0 x1 x2;go_wp2_with fail;refine bodyPost_ret (v:= .tuple #[.agg #[.int .i64 k3,.int .i64 n3,.slice A3 l3 c3],.int .i64 nx']) (by simp[results,Tryz.results182,go_sem,z0,z1,z2]) rfl ⟨_,_,_,rfl,(((hN.set (by simp) _).set (by simp) _).set (by simp) _).since (by omega),((hx3.setCell (by simp) _).setCell (by simp) _).setCell (by simp) _, ?_, ?_⟩
      · intro x hx
        rw[Qh.out] at hx;cases V4:F (b+1) with
        |none=> rw[V4] at hx;cases hx
        |some y2=>
         rw[V4] at hx;cases hx
         obtain⟨g1,g2,g3⟩:=jy.out _ V4;exact⟨by rw[g1],g2,g3⟩
      · intro hx
        rw[Qh.out] at hx;cases V4:F (b+1) with
        |none=> exact kt.out V4
        |some y2=> rw[V4] at hx;cases hx
    · rw[if_neg (by intro h;cases h;exact h93 rfl)] at J1
      have HR:=hdq J1;have t7:((m:Int) !=93)=true:=by rw[bne_iff_ne];intro h;exact h93 (UInt8.toNat_inj.1 (by rw[hm];simp;omega))
      obtain⟨s0,s1,s2,f0,f1,f2⟩:=own3 hb';clear J1 h93 hsz;go_wp2_with fail;exact bodyPost_ret (v:= .tuple #[.agg #[.int .i64 0,.int .i64 0,.slice none 0 0],.int .i64 (-1)]) (by simp[results,Tryz.results182,go_sem,s0,s1,s2]) rfl (q61 _ _ _ _ _ HR.out (((hx1.setCell (by simp) _).setCell (by simp) _).setCell (by simp) _))
  · rw[q54 s (by omega),if_neg (by simp)] at J1
    have HR:=hdq J1;have t1:decide ((s.size:Int)<=(b:Int))=true:=decide_eq_true (by omega);obtain⟨s0,s1,s2,f0,f1,f2⟩:=own3 hb';clear J1 hsz;go_wp2_with fail;exact bodyPost_ret (v:= .tuple #[.agg #[.int .i64 0,.int .i64 0,.slice none 0 0],.int .i64 (-1)]) (by simp[results,Tryz.results182,go_sem,s0,s1,s2]) rfl (q61 _ _ _ _ _ HR.out (((hx1.setCell (by simp) _).setCell (by simp) _).setCell (by simp) _))
theorem y49{c:UInt8}{p:Nat}{v:UInt8}(hp:c.toNat=p)(h:c≠v):((p:Int)==(v.toNat:Int))=false:=by
 rw[beq_eq_false_iff_ne];intro e;exact h (UInt8.toNat_inj.1 (by rw[hp];omega))
theorem q208(d:Nat)(hd:d<=30)(s:ByteArray)(a:Nat)(w:World)(hs:s.size<=1000000000)(ha:a < s.size)(c:UInt8)(hc:s[a]=c)
 (h1:c≠35) (h2:c≠42) (h3:c≠78) (h4:c≠48) (h5:c≠43) (h6:c≠33) (h7:c≠94) (h8:c≠95) (h9:c≠40) (h10:c≠91) (hk:blkK c=0):
 Calls Tryz.prog 182 #[.string s,.int .i64 a,.int .i64 ((d:Int)+1)] w (j21 w.heap.size w s.size (prs (d+1) s.data.toList a)):=by
 have HI:=hdq (fun W=> y210 d hd s a W hs ha c hc hk);have hR:=y43 (d:=d) (j52 ha hc);rw[if_neg h1,if_neg h2,if_neg h3,if_neg h4,if_neg h5,if_neg h6,if_neg h7,if_neg h8,if_neg h9,if_neg h10] at hR;rw[hR];obtain⟨p,hp⟩: ∃p,c.toNat=p:=⟨_,rfl⟩;have t1:((p:Int)==35)=false:=y49 hp h1;have t2:((p:Int)==42)=false:=y49 hp h2;have t3:((p:Int)==78)=false:=y49 hp h3;have t4:((p:Int)==48)=false:=y49 hp h4;have t5:((p:Int)==43)=false:=y49 hp h5;have t6:((p:Int)==33)=false:=y49 hp h6;have t7:((p:Int)==94)=false:=y49 hp h7;have t8:((p:Int)==95)=false:=y49 hp h8;have t9:((p:Int)==40)=false:=y49 hp h9;have Mu:((p:Int)==91)=false:=y49 hp h10;clear hR h1 h2 h3 h4 h5 h6 h7 h8 h9 h10 hk;go_enter Tryz.func182,Tryz.ntmps182;go_wp2_with fail;refine(HI.out _).mono ?_;intro e w1 hq;obtain⟨t,k1,n1,A1,l1,c1,nx,rfl,hF,e1,HQ⟩:=hq.on;obtain⟨s0,s1,s2,f0,f1,f2⟩:=own3 e1.newBlk;have hsz:=e1.size_alloc;have hE:=((xr w).alloc (.cells #[.int .i64 0,.int .i64 0,.slice none 0 0] 25)).trans e1;have hF':From (w.heap.size+1) w1 t (.agg #[.int .i64 k1,.int .i64 n1,.slice A1 l1 c1]):=by simpa using hF
 clear hq hF;go_wp2_with fail;exact bodyPost_ret (v:= .tuple #[.agg #[.int .i64 k1,.int .i64 n1,.slice A1 l1 c1],.int .i64 nx]) (by simp[results,Tryz.results182,go_sem,s0,s1,s2]) rfl ⟨t,_,nx,rfl,(((hF'.set (by simp) _).set (by simp) _).set (by simp) _).since (by omega),((hE.setCell (by simp) _).setCell (by simp) _).setCell (by simp) _,HQ.out.1,HQ.out.2⟩
theorem j166(s:ByteArray)(a:Nat)(w:World):Calls Tryz.prog 182 #[.string s,.int .i64 a,.int .i64 0] w (j21 w.heap.size w s.size none):=by
 go_enter Tryz.func182,Tryz.ntmps182;go_wp2_with fail;exact bodyPost_ret (v:= .tuple #[.agg #[.int .i64 0,.int .i64 0,.slice none 0 0],.int .i64 (-1)]) (by simp[results,Tryz.results182,go_sem]) rfl (q61 _ _ _ _ _ rfl ((xr w).alloc _))
theorem q185(d:Nat)(hd:d<=30)(s:ByteArray)(a:Nat)(w:World)(hs:s.size<=1000000000)(ha:s.size<=a):Calls Tryz.prog 182 #[.string s,.int .i64 a,.int .i64 ((d:Int)+1)] w (j21 w.heap.size w s.size none):=by
 have t0:decide ((a:Int) < 0)=false:=decide_eq_false (by omega);have t1:decide ((s.size:Int)<=(a:Int))=true:=decide_eq_true (by omega);go_enter Tryz.func182,Tryz.ntmps182;go_wp2_with fail;exact bodyPost_ret (v:= .tuple #[.agg #[.int .i64 0,.int .i64 0,.slice none 0 0],.int .i64 (-1)]) (by simp[results,Tryz.results182,go_sem]) rfl (q61 _ _ _ _ _ rfl ((xr w).alloc _))
theorem q138: ∀d:Nat,d<=30->j30 d
 |0,_=> fun s a w hs ha=> j166 s a w
 |d+1,hd=> by
  have ih:=q138 d (by omega);intro s a w hs ha;rw[show((d+1:Nat):Int)=(d:Int)+1 by omega];have R3:d<=30:=by omega
  rcases Nat.lt_or_ge a s.size with hlt|Cr
  · obtain⟨c,hc⟩: ∃c,s[a]=c:=⟨_,rfl⟩
    by_cases Lc:c=35
    · exact j209 d R3 s a w hs hlt (by rw[hc,Lc])
    by_cases Wy:c=42
    · exact j212 d R3 s a w hs hlt (by rw[hc,Wy])
    by_cases h78:c=78
    · exact y213 d R3 s a w hs hlt (by rw[hc,h78])
    by_cases sw:c=48
    · exact y218 d R3 s a w hs hlt (by rw[hc,sw])
    by_cases Re:c=43
    · exact q204 d R3 ih s a w hs hlt (by rw[hc,Re])
    by_cases h33:c=33
    · exact q218 d R3 ih s a w hs hlt (by rw[hc,h33])
    by_cases Kh:c=94
    · exact y222 d R3 ih s a w hs hlt (by rw[hc,Kh])
    by_cases h95:c=95
    · exact j215 d R3 ih s a w hs hlt (by rw[hc,h95])
    by_cases Td:c=40
    · exact q213 d R3 ih s a w hs hlt (by rw[hc,Td])
    by_cases h91:c=91
    · exact j221 d R3 ih s a w hs hlt (by rw[hc,h91])
    by_cases ue:c=60
    · exact q205 d R3 ih s a w hs hlt (by rw[hc,ue])
    by_cases h123:c=123
    · exact y196 d R3 ih s a w hs hlt (by rw[hc,h123])
    by_cases h124:c=124
    · exact j173 d R3 ih s a w hs hlt (by rw[hc,h124])
    by_cases h64:c=64
    · exact q220 d R3 ih s a w hs hlt (by rw[hc,h64])
    exact q208 d R3 s a w hs hlt c hc Lc Wy h78 sw Re h33 Kh h95 Td h91 (by unfold blkK;rw[if_neg ue,if_neg h123,if_neg h124,if_neg h64])
  · rw[q157 (q54 s Cr)]
    exact q185 d R3 s a w hs Cr
theorem ordX{P:Program}{ops:Array Oper}{Q:Exit->Act->World->Prop}{l0:Array Bool}{a0:Act}{fuel:Nat}{ox:Oper}(W:World)(m N x:Nat)(lT lX:Array Bool)(fT:Nat)(l:List Sp)(sy:OrdX.okX ops l0 m N x=true)(hN:a0.tmps.size=N)(hf:fuel=Ord.opnO l0 ops.size)(Ci:Ord.doneO l0 m=lT)(Cp:Ord.opnO lT ops.size=fT)
 (eh:ops[x]? =some ox) (wj:x < m) (J3:Ord.isOn l0 x=false) (hlX:lT.setIfInBounds x false=lX) (Cg:Region.noSelect ops=true) (hfr:Region.free .any ops lX x=true) (N5:(Region.ready .any ops lX).contains x=true)
 (hQ: ∀v c a w,Q (.panic c) (a.put ox.dst v) w->Q (.panic c) a w)
 (hX: ∀a w z,EG (W.drew, []) (w,z)->(∀t,Ord.isDst ops l0 m t=false->a.eval (.tmp t)=a0.eval (.tmp t))->(∀j d,Ord.depO ops l0 x j d=true->spGG l j (a.eval (.tmp d)) (w,z))-> ∃u,YieldsIf P ops (fun _=> True) ox u a/\spGG l x u (w,z))
 (steps:OrdG.StepsO P ops Q l0 m EG (spGG l) a0 (W.drew, []) 0 (ops.toList.take m))
 (fin: ∀(v:Nat->Value) w z,EG (W.drew, []) (w,z)->(∀j,j < m->Ord.isOn l0 j=false->spGG l j (v j) (w,z))->wpAnyH P .any ops Q (fun _=> True) fT lT (Ord.putN ops v (fun j=> !Ord.isOn l0 j) a0 m) w):
 wpAnyH P .any ops Q (fun _=> True) fuel l0 a0 W.drew:=
 OrdX.wpAnyH_orderX (w0:=(W.drew, [])) sy hN hf Ci Cp eh wj J3 hlX Cg hfr N5 hQ hX (EG.start _) (fun _ _ _ h h'=> h.trans h') (j154 _) (fun _ _ _=> trivial) steps fin
end Go.Proofs.YtbnkbepgmenblaaGreat
