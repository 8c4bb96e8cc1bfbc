/-
  Lemmas towards the law, 18: Put2, Sub1, RedP, Clone, Put3.
-/
import Derived.Test.YtbnkbepgmenblaaGreatTAQ
set_option linter.unusedVariables false
set_option maxHeartbeats 4000000
set_option maxRecDepth 100000
namespace Go.Proofs.YtbnkbepgmenblaaGreat
open Go.RowKit
attribute [local go_sem ↓] Go.wp_at_zero Go.wp_at_succ
theorem validR_any(t:Tr)(a0 a1:Int)(a2:Option Addr)(a3 a4:Nat)(w:World)(j7:Lies w t (.agg #[.int .i64 a0,.int .i64 a1,.slice a2 a3 a4])):
 Calls Tryz.prog 110 #[.agg #[.int .i64 a0,.int .i64 a1,.slice a2 a3 a4]] w fun e w'=>(if valid sigT t=true then e= .returned (.tuple #[.agg #[.int .i64 a0,.int .i64 a1,.slice a2 a3 a4],.bool true]) else e= .returned (.tuple #[.agg #[.int .i64 0,.int .i64 0,.slice none 0 0],.bool false]))/\Ext w w'/\ ∀b,b < w.heap.size->w'.heap[b]? =w.heap[b]? :=by
 have HV:=hdq (fun W (hW:Ext w W)=> y20 _ W _ (j7.ext hW));generalize valid sigT t=s at HV⊢;have hE:=((xr w).alloc (.cells #[.int .i64 a0,.int .i64 a1,.slice a2 a3 a4] 25)).alloc (.cells #[.int .i64 0,.int .i64 0,.slice none 0 0] 25);obtain⟨T7,F2,hs1⟩:=blk2 (xr ((w.alloc (.cells #[.int .i64 a0,.int .i64 a1,.slice a2 a3 a4] 25)).alloc (.cells #[.int .i64 0,.int .i64 0,.slice none 0 0] 25)));have fin: ∀w',Ext w w'->Ext w w'/\ ∀b,b < w.heap.size->w'.heap[b]? =w.heap[b]? :=fun w' h=>⟨h,fun b hb=> h.heap b hb⟩
 cases s with
 |true=>
  simp only[if_true];go_enter Tryz.func110,Tryz.ntmps110;go_wp2_with fail;refine(HV.out _ hE).mono ?_;rintro e w1 ⟨rfl,e1⟩;obtain⟨x0,x1,x2,-,-,-⟩:=own3 (e1.blk T7);obtain⟨s0,s1,s2,f0,f1,f2⟩:=own3 (e1.blk F2);go_wp2_with fail;exact bodyPost_ret (v:= .tuple #[.agg #[.int .i64 a0,.int .i64 a1,.slice a2 a3 a4],.bool true]) (by simp[results,Tryz.results110,go_sem,s0,s1,s2]) rfl ⟨rfl,fin _ ((((hE.trans e1).setCell (by simp) _).setCell (by simp) _).setCell (by simp) _)⟩
 |false=>
  simp only[Bool.false_eq_true,if_false];go_enter Tryz.func110,Tryz.ntmps110;go_wp2_with fail;refine(HV.out _ hE).mono ?_;rintro e w1 ⟨rfl,e1⟩;obtain⟨s0,s1,s2,f0,f1,f2⟩:=own3 (e1.blk F2);go_wp2_with fail;exact bodyPost_ret (v:= .tuple #[.agg #[.int .i64 0,.int .i64 0,.slice none 0 0],.bool false]) (by simp[results,Tryz.results110,go_sem,s0,s1,s2]) rfl ⟨rfl,fin _ ((((hE.trans e1).setCell (by simp) _).setCell (by simp) _).setCell (by simp) _)⟩
theorem q161(t:Tr)(a0 a1:Int)(a2:Option Addr)(a3 a4:Nat)(w:World)(j7:Lies w t (.agg #[.int .i64 a0,.int .i64 a1,.slice a2 a3 a4])):
 Calls Tryz.prog 55 #[.agg #[.int .i64 a0,.int .i64 a1,.slice a2 a3 a4]] w fun e w'=>(if valid sigT t=true then e= .returned (.tuple #[.agg #[.int .i64 a0,.int .i64 a1,.slice a2 a3 a4],.bool true]) else e= .returned (.tuple #[.agg #[.int .i64 0,.int .i64 0,.slice none 0 0],.bool false]))/\Ext w w'/\ ∀b,b < w.heap.size->w'.heap[b]? =w.heap[b]? :=by
 have HV:=hdq (fun W (hW:Ext w W)=> q28 _ W _ (j7.ext hW));generalize valid sigT t=s at HV⊢;have hE:=((xr w).alloc (.cells #[.int .i64 a0,.int .i64 a1,.slice a2 a3 a4] 25)).alloc (.cells #[.int .i64 0,.int .i64 0,.slice none 0 0] 25);obtain⟨T7,F2,hs1⟩:=blk2 (xr ((w.alloc (.cells #[.int .i64 a0,.int .i64 a1,.slice a2 a3 a4] 25)).alloc (.cells #[.int .i64 0,.int .i64 0,.slice none 0 0] 25)));have fin: ∀w',Ext w w'->Ext w w'/\ ∀b,b < w.heap.size->w'.heap[b]? =w.heap[b]? :=fun w' h=>⟨h,fun b hb=> h.heap b hb⟩
 cases s with
 |true=>
  simp only[if_true];go_enter Tryz.func55,Tryz.ntmps55;go_wp2_with fail;refine(HV.out _ hE).mono ?_;rintro e w1 ⟨rfl,e1⟩;obtain⟨x0,x1,x2,-,-,-⟩:=own3 (e1.blk T7);obtain⟨s0,s1,s2,f0,f1,f2⟩:=own3 (e1.blk F2);go_wp2_with fail;exact bodyPost_ret (v:= .tuple #[.agg #[.int .i64 a0,.int .i64 a1,.slice a2 a3 a4],.bool true]) (by simp[results,Tryz.results55,go_sem,s0,s1,s2]) rfl ⟨rfl,fin _ ((((hE.trans e1).setCell (by simp) _).setCell (by simp) _).setCell (by simp) _)⟩
 |false=>
  simp only[Bool.false_eq_true,if_false];go_enter Tryz.func55,Tryz.ntmps55;go_wp2_with fail;refine(HV.out _ hE).mono ?_;rintro e w1 ⟨rfl,e1⟩;obtain⟨s0,s1,s2,f0,f1,f2⟩:=own3 (e1.blk F2);go_wp2_with fail;exact bodyPost_ret (v:= .tuple #[.agg #[.int .i64 0,.int .i64 0,.slice none 0 0],.bool false]) (by simp[results,Tryz.results55,go_sem,s0,s1,s2]) rfl ⟨rfl,fin _ ((((hE.trans e1).setCell (by simp) _).setCell (by simp) _).setCell (by simp) _)⟩
end Go.Proofs.YtbnkbepgmenblaaGreat
namespace Go.Proofs.YtbnkbepgmenblaaGreat
open Go.RowKit
def SbI(p1 p2 p3 B:Nat)(x ku nu:Int)(Au:Option Addr)(lu cu:Nat)(w:World)(s:Bool):Prop:=(p1 < B/\p2 < B/\p3 < B)/\w.heap[p1]? =some (.cells #[.int .i64 x] 3 (0,0))/\w.heap[p2]? =some (.cells #[.int .i64 ku,.int .i64 nu,.slice Au lu cu] 25 (0,0))/\w.heap[p3]? =some (.cells #[.bool s] 4 (0,0))
theorem subst1(a:World)(p1 p2 p3 B:Nat)(x ku nu:Int)(Au:Option Addr)(kus:List Tr)(cu:Nat)(W7:Lies a (.mk ku nu kus) (.agg #[.int .i64 ku,.int .i64 nu,.slice Au kus.length cu]))(ng:valid sigT (.mk ku nu kus)=true)(S9:p1≠p3)(qz:p2≠p3)(hx0:0<=x)(hx1:x<=1000):
 Chg_sb a p1 p2 p3 [p3] (SbI p1 p2 p3 B x ku nu Au kus.length cu) (gsb (.mk ku nu kus) x) (hsb (.mk ku nu kus) x):=by
 intro w s n b ha hI ah az hb0 hb1;obtain⟨Lf,i1,i2,i3⟩:=hI;have c1:=q10 i1 0;obtain⟨y0,y1,y2,-,-,-⟩:=own3 i2;have c3:=q10 i3 0;have l1:=j10 i1;have l2:=j10 i2;have l3:=j10 i3;have H1:=hdq i1;have H2:=hdq i2;have H3:=hdq i3;have HV:=hdq (fun m W=> q49 m W);have HS:=hdq (fun W (hW:Ext w W)=> j78 (.mk ku nu kus) b 0 W _ (W7.ext (ha.trans hW)) ng hb0 hb1 (by omega) (by omega));have hg:gsb (.mk ku nu kus) x n b=if n - b=x then okT (shfT b (.mk ku nu kus) 0) else .mk 1 (if x < n - b then n - 1 else n) []:=rfl
 have hh:hsb (.mk ku nu kus) x n b=if n - b=x then valid sigT (shfT b (.mk ku nu kus) 0) else true:=rfl
 rw[hg,hh];clear hg hh;by_cases h:n - b=x
 · rw[if_pos h,if_pos h]
   have d1:(n - b==x)=true:=beq_iff_eq.2 h;clear h HV;generalize valid sigT (shfT b (.mk ku nu kus) 0)=vb at HS⊢;generalize okT (shfT b (.mk ku nu kus) 0)=rt at HS⊢;clear i1 i2 i3;have hx:=(xr w).alloc (.cells #[.int .i64 0,.int .i64 0,.slice none 0 0] 25);have F2:=heap_alloc_new w (.cells #[.int .i64 0,.int .i64 0,.slice none 0 0] 25);go_enter Tryz.func178,Tryz.ntmps178;go_wp2_with fail;refine(HS.out _ hx).mono ?_;rintro e w1 ⟨u,rfl,hM,e1⟩;obtain⟨a1,a2,a3,a4,a5,rfl⟩:=hM.three';have q3:=(hx.trans e1).blk H3.out;have g3:=q10 q3 0;have f3:=y13 q3 0;have g4:=j10 q3;have qR:=e1.blk F2;obtain⟨s0,s1,s2,f0,f1,f2⟩:=own3 qR;have gR:=j10 qR;clear c1 c3 y0 y1 y2 HS;cases s <;> cases vb
   all_goals go_wp2_with fail
   all_goals(
    have o2:=fun r=>(((((oE (L:= [p3]) (hx.trans e1)).setCell (p:=⟨p3,0,none⟩) (by simp) r).setNew (p:=⟨w.heap.size,0,none⟩) (Nat.le_refl _) (.int .i64 a1)).setNew (p:=⟨w.heap.size,1,none⟩) (Nat.le_refl _) (.int .i64 a2)).setNew (p:=⟨w.heap.size,2,none⟩) (Nat.le_refl _) (.slice a3 a4 a5)).alloc (.cells #[.int .i64 a1,.int .i64 a2,.slice a3 a4 a5] 25)
    have hz:(w.alloc (.cells #[.int .i64 0,.int .i64 0,.slice none 0 0] 25)).heap.size=w.heap.size+1:=by simp
    refine bodyPost_ret (v:= .agg #[.int .i64 a1,.int .i64 a2,.slice a3 a4 a5]) (by simp[results,Tryz.results178,go_sem,s0,s1,s2,gR]) rfl ⟨_,rfl, ?_,o2 _,Lf,(o2 _).blk H1.out (by simpa using S9),(o2 _).blk H2.out (by simpa using qz), ?_⟩
    · exact((hM.after ((((y25.refl _ _).setCell (p:=⟨p3,0,none⟩) (by show p3 < _;omega) _).setCell (p:=⟨w.heap.size,0,none⟩) (by show w.heap.size < _;omega) _).setCell (p:=⟨w.heap.size,1,none⟩) (by show w.heap.size < _;omega) _|>.setCell (p:=⟨w.heap.size,2,none⟩) (by show w.heap.size < _;omega) _)).ext ((xr _).alloc _)).since (by omega)
    · rw[Below.heap_alloc _ _ _ (by simp;omega),Below.heap_setCell _ _ _ _ (by show p3≠w.heap.size;omega),Below.heap_setCell _ _ _ _ (by show p3≠w.heap.size;omega),Below.heap_setCell _ _ _ _ (by show p3≠w.heap.size;omega),j11 q3 0 _]
      rfl)
 · rw[if_neg h,if_neg h,Bool.and_true]
   have d1:(n - b==x)=false:=beq_eq_false_iff_ne.2 h;clear HS h i1 i2 i3;by_cases h2:x < n - b
   · rw[if_pos h2]
     have d2:decide (x < n - b)=true:=decide_eq_true h2;clear h2;go_enter Tryz.func178,Tryz.ntmps178;go_wp2_with fail;refine(HV.out _ _).mono ?_;rintro e w1 ⟨rfl,e1⟩;have hb:=e1.newBlk;obtain⟨s0,s1,s2,f0,f1,f2⟩:=own3 hb;have o2:=((Only.refl [p3] w).alloc (.cells #[.int .i64 0,.int .i64 0,.slice none 0 0] 25)).trans (oE e1);have q4:=(Ext.blk e1.pre H3.out);clear hb;go_wp2_with fail;refine bodyPost_ret (v:= .agg #[.int .i64 1,.int .i64 (n - 1),.slice none 0 0]) (by simp[results,Tryz.results178,go_sem,s0,s1,s2]) rfl ⟨_,rfl,Made.leaf _ _ _ _ _, ?_,Lf, ?_, ?_, ?_⟩
     · exact(((o2.setNew (by simp) _).setNew (by simp) _).setNew (by simp) _)
     · exact(((o2.setNew (by simp) _).setNew (by simp) _).setNew (by simp) _).blk H1.out (by simpa using S9)
     · exact(((o2.setNew (by simp) _).setNew (by simp) _).setNew (by simp) _).blk H2.out (by simpa using qz)
     · rw[Below.heap_setCell _ _ _ _ (by show p3≠w.heap.size;omega),Below.heap_setCell _ _ _ _ (by show p3≠w.heap.size;omega),Below.heap_setCell _ _ _ _ (by show p3≠w.heap.size;omega),q4]
   · rw[if_neg h2]
     have d2:decide (x < n - b)=false:=decide_eq_false h2;clear h2;go_enter Tryz.func178,Tryz.ntmps178;go_wp2_with fail;refine(HV.out _ _).mono ?_;rintro e w1 ⟨rfl,e1⟩;have hb:=e1.newBlk;obtain⟨s0,s1,s2,f0,f1,f2⟩:=own3 hb;have o2:=((Only.refl [p3] w).alloc (.cells #[.int .i64 0,.int .i64 0,.slice none 0 0] 25)).trans (oE e1);have q4:=(Ext.blk e1.pre H3.out);clear hb;go_wp2_with fail;refine bodyPost_ret (v:= .agg #[.int .i64 1,.int .i64 n,.slice none 0 0]) (by simp[results,Tryz.results178,go_sem,s0,s1,s2]) rfl ⟨_,rfl,Made.leaf _ _ _ _ _, ?_,Lf, ?_, ?_, ?_⟩
     · exact(((o2.setNew (by simp) _).setNew (by simp) _).setNew (by simp) _)
     · exact(((o2.setNew (by simp) _).setNew (by simp) _).setNew (by simp) _).blk H1.out (by simpa using S9)
     · exact(((o2.setNew (by simp) _).setNew (by simp) _).setNew (by simp) _).blk H2.out (by simpa using qz)
     · rw[Below.heap_setCell _ _ _ _ (by show p3≠w.heap.size;omega),Below.heap_setCell _ _ _ _ (by show p3≠w.heap.size;omega),Below.heap_setCell _ _ _ _ (by show p3≠w.heap.size;omega),q4]
theorem j139(t:Tr)(x:Int)(u:Tr)(w:World)(v vu:Value)(j7:Lies w t v)(hv:valid sigT t=true)(W7:Lies w u vu)(ng:valid sigT u=true)(hx0:0<=x)(hx1:x<=1000):
 Calls Tryz.prog 141 #[v,.int .i64 x,vu] w fun e w'=> ∃r,e= .returned (.tuple #[r,.bool (valid sigT (sbsT u t x 0))])/\Made w w' 25 (okT (sbsT u t x 0)) r/\Ext w w':=by
 obtain⟨hs,I1⟩:=y12 hv;obtain⟨i7,hw2⟩:=q179 (x:=x) (y12 ng).2 hv;obtain⟨vb,gf⟩: ∃vb,vb=valid sigT (sbsT u t x 0):=⟨_,rfl⟩;obtain⟨rt,hrt⟩: ∃rt,rt=okT (sbsT u t x 0):=⟨_,rfl⟩;rw[<-gf,<-hrt];have yy:allT (hsb u x) t 0=true->rt=okT (chgT (gsb u x) t 0):=fun h=> by rw[hw2 h];exact hrt
 have Hu:vb=false->rt=q16:=fun h=> by rw[hrt];unfold okT;rw[<-gf,h];rfl
 have Ex:=(y12 ng).2;obtain⟨ku,nu,kus⟩:=u;obtain⟨Au,cu,rfl,hlu,hcu',-⟩:=Lies.mk_iff.1 W7;have Ir:=fun W (hW:Ext w W) p1 p2 p3 (hp:w.heap.size<=p3) (S9:p1≠p3) (qz:p2≠p3) (h1:W.heap[p1]? =some (.cells #[.int .i64 x] 3 (0,0))) (h2:W.heap[p2]? =some (.cells #[.int .i64 ku,.int .i64 nu,.slice Au kus.length cu] 25 (0,0))) (h3:W.heap[p3]? =some (.cells #[.bool true] 4 (0,0)))=>
  j110 t w W v 0 30 p1 p2 p3 [p3] W.heap.size (SbI p1 p2 p3 W.heap.size x ku nu Au kus.length cu) (gsb (.mk ku nu kus) x) (hsb (.mk ku nu kus) x) true hs j7 hW (fun x hx=> by rw[List.mem_singleton.1 hx];exact⟨hp,j10 h3⟩) (by omega) (by omega)
   (subst1 w p1 p2 p3 _ x ku nu Au kus cu W7 ng S9 qz hx0 hx1) (fun w1 w2 s h he=>⟨h.1,he.blk h.2.1,he.blk h.2.2.1,he.blk h.2.2.2⟩) (Nat.le_refl _) (fun w1 w2 s h he hl=>⟨h.1,(he p1 h.1.1).trans h.2.1,(he p2 h.1.2.1).trans h.2.2.1,(he p3 h.1.2.2).trans h.2.2.2⟩) ⟨⟨j10 h1,j10 h2,j10 h3⟩,h1,h2,h3⟩
 simp only[Bool.true_and] at Ir;rw[<-gf] at i7;have Cn:=hdq Ir;clear Ir hw2 hs hrt gf;generalize chgT (gsb (.mk ku nu kus) x) t 0=r at i7 Cn yy;generalize allT (hsb (.mk ku nu kus) x) t 0=f at i7 Cn yy;obtain⟨k,n,ks⟩:=t;obtain⟨A,cap,rfl,hl,hc,hK⟩:=Lies.mk_iff.1 j7;have hE:=((((xr w).alloc (.cells #[.int .i64 k,.int .i64 n,.slice A ks.length cap] 25)).alloc (.cells #[.int .i64 x] 3)).alloc (.cells #[.int .i64 ku,.int .i64 nu,.slice Au kus.length cu] 25)).alloc (.cells #[.int .i64 0,.int .i64 0,.slice none 0 0] 25);have Rv:=blk4 ((xr ((((w.alloc (.cells #[.int .i64 k,.int .i64 n,.slice A ks.length cap] 25)).alloc (.cells #[.int .i64 x] 3)).alloc (.cells #[.int .i64 ku,.int .i64 nu,.slice Au kus.length cu] 25)).alloc (.cells #[.int .i64 0,.int .i64 0,.slice none 0 0] 25))).alloc (.cells #[.bool true] 4));have R6:=heap_alloc_new ((((w.alloc (.cells #[.int .i64 k,.int .i64 n,.slice A ks.length cap] 25)).alloc (.cells #[.int .i64 x] 3)).alloc (.cells #[.int .i64 ku,.int .i64 nu,.slice Au kus.length cu] 25)).alloc (.cells #[.int .i64 0,.int .i64 0,.slice none 0 0] 25)) (.cells #[.bool true] 4);have fh:=hE.alloc (.cells #[.bool true] 4);have hsz:(((((w.alloc (.cells #[.int .i64 k,.int .i64 n,.slice A ks.length cap] 25)).alloc (.cells #[.int .i64 x] 3)).alloc (.cells #[.int .i64 ku,.int .i64 nu,.slice Au kus.length cu] 25)).alloc (.cells #[.int .i64 0,.int .i64 0,.slice none 0 0] 25)).alloc (.cells #[.bool true] 4)).heap.size=w.heap.size+1+1+1+1+1:=by simp
 obtain⟨hb1,hb2,hb3,hb4,-⟩:=Rv;simp only[World.size_alloc] at R6;go_enter Tryz.func141,Tryz.ntmps141;go_wp2_with fail;generalize World.alloc _ _=wa at fh hb1 hb2 hb3 hb4 R6 hsz;clear hE;refine(Cn.out wa fh _ _ _ (by omega) (by omega) (by omega) hb2 hb3 R6).mono ?_;rintro e w1 ⟨u,rfl,hM,ho,hI⟩;obtain⟨k2,n2,et⟩:=r;obtain⟨A2,c2,rfl,hl2,hc2,Xm⟩:=Made.mk_iff.1 hM;have io:=ho.blk hb4 (by simp);have i3:=hI.2.2.2;have Lb:=q10 i3 0;have hlt5:=j10 i3;have ii:=j10 io;have hso:=ho.size;have Ha:Ext w w1:=ho.ext fh (fun x hx=> by rw[List.mem_singleton.1 hx];omega);obtain⟨s0,s1,s2,f0,f1,f2⟩:=own3 io;clear Cn hb1 hb2 hb3 hb4 R6 hI i3;have hx:=(xr w1).alloc (.cells #[.int .i64 k2,.int .i64 n2,.slice A2 et.length c2] 25);cases f with
 |false=>
  rw[Bool.false_and] at i7;have H1:=hdq i7.symm;have H2:=hdq (Hu i7.symm);clear i7 yy Hu;go_wp2_with fail;refine bodyPost_ret (v:= .tuple #[.agg #[.int .i64 0,.int .i64 0,.slice none 0 0],.bool false]) (by simp[results,Tryz.results141,go_sem,s0,s1,s2,ii]) rfl ⟨.agg #[.int .i64 0,.int .i64 0,.slice none 0 0],by rw[H1.out],by rw[H2.out];exact Made.leaf _ _ _ _ _, ?_⟩;exact(((Ha.setCell (by simp;omega) _).setCell (by simp;omega) _).setCell (by simp;omega) _).alloc _
 |true=>
  rw[Bool.true_and] at i7;have HV:=hdq (fun W (hW:Ext w1 W)=> j104 k2 n2 et A2 c2 W (hM.lies.ext hW));generalize S6:valid sigT (.mk k2 n2 et)=b at HV;have hO:rt=if b=true then .mk k2 n2 et else q16:=by rw[yy rfl];unfold okT;rw[S6]
  rw[S6] at i7;have H1:=hdq i7.symm;have H2:=hdq hO;clear hO i7 S6 yy Hu;go_wp2_with fail;refine(HV.out _ hx).mono ?_;cases b with
  |true=>
   simp only[if_true];rintro e w2 ⟨rfl,e2⟩;obtain⟨q0,q1,q2,g0,g1,g2⟩:=own3 ((hx.trans e2).blk io);go_wp2_with fail;refine bodyPost_ret (v:= .tuple #[.agg #[.int .i64 k2,.int .i64 n2,.slice A2 et.length c2],.bool true]) (by simp[results,Tryz.results141,go_sem,q0,q1,q2]) rfl ⟨.agg #[.int .i64 k2,.int .i64 n2,.slice A2 et.length c2],by rw[H1.out], ?_, ?_⟩
   · rw[H2.out]
     simp only[if_true];exact Made.since (((hM.ext (hx.trans e2)).after ((((y25.refl _ _).setCell (by simp;omega) _).setCell (by simp;omega) _).setCell (by simp;omega) _))) (by omega)
   · exact(((((Ha.trans hx).trans e2).setCell (by simp;omega) _).setCell (by simp;omega) _).setCell (by simp;omega) _)
  |false=>
   simp only[Bool.false_eq_true,if_false];rintro e w2 ⟨rfl,e2⟩;obtain⟨q0,q1,q2,g0,g1,g2⟩:=own3 ((hx.trans e2).blk io);go_wp2_with fail;refine bodyPost_ret (v:= .tuple #[.agg #[.int .i64 0,.int .i64 0,.slice none 0 0],.bool false]) (by simp[results,Tryz.results141,go_sem,q0,q1,q2]) rfl ⟨.agg #[.int .i64 0,.int .i64 0,.slice none 0 0],by rw[H1.out],by rw[H2.out];exact Made.leaf _ _ _ _ _, ?_⟩;exact(((((Ha.trans hx).trans e2).setCell (by simp;omega) _).setCell (by simp;omega) _).setCell (by simp;omega) _)
def conA(t:Tr)(p:List Int):Tr:=match atT t p with
 |some u=> putA t p (ctrT u)
 |none=> q16
def rdxA(t:Tr)(p:List Int):Bool:=match atT t p with
 |some u=> j55 u
 |none=> false
def conV(t:Tr)(p:List Int):Tr×Bool:=if valid sigT (conA t p)=true then(conA t p,true) else(q16,false)
def conP(t:Tr)(p:List Int):Tr×Bool:=if(valid sigT t && rdxA t p)=true then conV t p else(q16,false)
def stepO(t:Tr):Tr×Int:=match outT t with
 |none=>(t,0)
 |some p=> if valid sigT (conA t p)=true then(conA t p,1) else(q16,2)
def nrmC:Nat->Tr->Tr×Int
 |0,t=> match outT t with
  |none=>(t,0)
  |some _=>(q16,1)
 |f+1,t=> match outT t with
  |none=>(t,0)
  |some p=> if valid sigT (conA t p)=true then nrmC f (conA t p) else(q16,2)
def j138(t:Tr)(f:Int):Tr×Int:=if(valid sigT t && inR f 0 200)=true then nrmC f.toNat t else(q16,3)
def q84(a b:Tr)(f:Int):Int:=if(valid sigT a &&(valid sigT b && inR f 0 200))=true then(if a=b then 1 else if(nrmC f.toNat a).2=0/\(nrmC f.toNat b).2=0 then(if(nrmC f.toNat a).1=(nrmC f.toNat b).1 then 1 else 2) else 3) else 0
theorem j85{t:Tr}{p:List Int}(h:rdxA t p=true): ∃u,atT t p=some u/\j55 u=true:=by
 unfold rdxA at h;cases e:atT t p with
 |none=> rw[e] at h;cases h
 |some u=> rw[e] at h;exact⟨u,rfl,h⟩
theorem y65{k n:Int}{ks:List Tr}:j55 (.mk k n ks)=true↔rdx k ks≠0:=by simp[j55,rdxT]
theorem y220{ks:List Tr}: ∀{i:Nat} {x:Tr},Par (kd ks i) x->Pars ks (ks.set i x):=by
 induction ks with
 |nil=> intro i x _;exact .nil
 |cons t ts ih=>
  intro i x h;cases i with
  |zero=> exact .cons h (Pars.refl ts)
  |succ i=> exact .cons (Par.refl t) (ih h)
theorem q186: ∀(p:List Int) (t u u':Tr),atT t p=some u->Par u u'->Par t (putA t p u')
 | [],t,u,u',h,hp=> by
  have e:t=u:=by cases t;simpa[atT] using h
  subst e;rw[q71];exact hp
 |i::r,.mk k n ks,u,u',h,hp=> by
  rw[atT] at h
  split at h
  · rw[putA]
    exact .node (y220 (q186 r _ u u' h hp))
  · cases h
theorem par_ctr{u:Tr}(h:j55 u=true):Par u (ctrT u):=by
 obtain⟨k,n,ks⟩:=u;exact .red (y65.1 h) (Pars.refl ks)
theorem q146{t:Tr}{p:List Int}(h:rdxA t p=true):Par t (conA t p):=by
 obtain⟨u,h1,h2⟩:=j85 h;unfold conA;rw[h1];exact q186 p t u _ h1 (par_ctr h2)
mutual
theorem q145: ∀(t:Tr) (p:List Int),outT t=some p->rdxA t p=true
 | .mk k n ks,p,h=> by
  rw[outT] at h
  split at h
  · obtain⟨j,r,rfl,h1,h2⟩:=q155 ks 0 p h
    unfold rdxA at h2⊢;rw[atT,if_pos ⟨by omega,by omega⟩];rw[show(((0+j:Nat):Int)).toNat=j by omega];exact h2
  · rename_i h0
    cases h
    unfold rdxA;rw[show atT (.mk k n ks) []=some (.mk k n ks) from rfl];exact y65.2 h0
theorem q155: ∀(ks:List Tr) (i:Nat) (p:List Int),j53 i ks=some p-> ∃(j:Nat) (r:List Int),p=((i+j:Nat):Int)::r/\j < ks.length/\rdxA (kd ks j) r=true
 | [],i,p,h=> by rw[j53] at h;cases h
 |t::ts,i,p,h=> by
  rw[j53] at h;cases e:outT t with
  |some q=>
   rw[e] at h;cases h
   exact⟨0,q,rfl,by simp,q145 t q e⟩
  |none=>
   rw[e] at h;obtain⟨j,r,rfl,h1,h2⟩:=q155 ts (i+1) p h;exact⟨j+1,r,by rw[show i+1+j=i+(j+1) by omega],by simpa using h1,h2⟩
end
theorem j66: ∀(f:Nat) (t x:Tr),valid sigT t=true->nrmC f t=(x,0)->Reds t x/\nrm x=true/\valid sigT x=true
 |0,t,x,hv,h=> by
  unfold nrmC at h;cases e:outT t with
  |none=>
   rw[e] at h;cases h
   have:=q121 t;rw[e] at this;exact⟨.refl _,by simpa using this.symm,hv⟩
  |some p=> rw[e] at h;cases h
 |f+1,t,x,hv,h=> by
  unfold nrmC at h;cases e:outT t with
  |none=>
   rw[e] at h;cases h
   have:=q121 t;rw[e] at this;exact⟨.refl _,by simpa using this.symm,hv⟩
  |some p=>
   rw[e] at h;simp only at h
   split at h
   · rename_i hc
     obtain⟨h1,h2⟩:=j66 f _ x hc h;exact⟨(Reds.one (q146 (q145 t p e))).trans h1,h2⟩
   · cases h
theorem cnts_kd{ks:List Tr}{i:Nat}(h:i < ks.length):cnt (kd ks i)<=cnts ks:=y15 (j68 h)
theorem y69{t u:Tr}{p:List Int}(h:valid sigT t=true)(e:atT t p=some u):valid sigT u=true:=by
 obtain⟨h1,h2⟩:=y12 h;have h3:=y148 p t u e;have h4:=y107 p t u 30 h1 e;unfold valid;rw[q69 h4 (by omega),Bool.true_and,decide_eq_true_eq];omega
theorem q178{t:Tr}{p:List Int}{u:Tr}(h:atT t p=some u)(hv:valid sigT (conA t p)=true):valid sigT (ctrT u)=true:=by
 unfold conA at hv;rw[h] at hv;exact y69 hv (y155 p t (ctrT u) u h).1
end Go.Proofs.YtbnkbepgmenblaaGreat
namespace Go.Proofs.YtbnkbepgmenblaaGreat
open Go.RowKit
attribute [local go_sem ↓] Go.wp_at_zero Go.wp_at_succ
theorem j117:(Tryz.prog.info? 25).map (fun i=>(i.zero,i.size,i.bytes))=some (some (.agg #[.int .i64 0,.int .i64 0,.slice none 0 0]),3,40):=by kernel_rfl
theorem y83{P:Program}(w:World){ops:Array Oper}{rest:List Oper}{o:Oper}{a:Act}{Q:Exit->Act->World->Prop}(hgd:o.guard=none)(s x:Operand)(t:TypeId)
 (ho:o.op= .call {callee:= .builtin .append,args:=#[s,x],argTypes:=#[t,t]})
 (base:Nat) (e:TypeId) (i:TypeInfo) (z:Value) (ht:P.underlying t=some (.slice e)) (hi:P.info? e=some i) (hz:i.zero=some z) (hsize:i.size=3) (hby:i.bytes=40) (hzs:z.cells.size=3)
 {v:Value} {ad:Addr} {m cap:Nat} {xs:List Value} (hs:a.eval s=v) (hown:w.ownsRow base e 3 v 0 []) (hbase:base<=w.heap.size) (hx:a.eval x= .slice (some ad) m cap)
 (hl:xs.length=m*3) (hnews: ∀j u,xs[j]? =some u->w.cell? (ad.add j)=some u) (h1: ∀u∈xs,u.oneCell'=true) (hm:m<=1048576)
 (h: ∀v' w',w'.ownsRow base e 3 v' m xs->w.grownBy w' v.ownBlock->(∀g,v'.ownBlock=some g->v.ownBlock=some g\/w.heap.size<=g)->wpList P ops Q rest (a.put o.dst v') w'):wpList P ops Q (o::rest) a w:=by
 refine wpList_plain hgd fun K hK'=> ?_
 obtain⟨v',w',hr,r1,r2,r3⟩:=y18 (P:=P) w base t o.type e i z 3 40 ht hi hz hsize hby hzs (by decide) v 0 [] hown ad m cap xs hl hnews h1 (by unfold maxLen;omega) (by omega) hbase;rw[Nat.zero_add,List.nil_append] at r1;unfold Oper.wp execOp;simp only[ho,resolve,invoke,builtin,Sem.run_bind,Sem.run_pure,Result.andThen_ok,List.map_toArray,List.map_cons,List.map_nil,hs,hx,hr];exact hK' _ _ (h v' w' r1 r2 r3)
def ClnQ(w:World)(N:Nat->Prop)(ks:List Tr)(e:Ending)(w':World):Prop:= ∃v xs,e= .returned v/\w'.ownsRow w.heap.size 25 3 v ks.length xs/\RowL w' (fun b=> N b/\b < w.heap.size) xs ks/\Ext w w'
theorem j116(ks:List Tr)(w:World)(N:Nat->Prop)(A:Option Addr)(cap:Nat)(hK:InK w N A ks)(hn:ks.length<=1048576):Calls Tryz.prog 152 #[.slice A ks.length cap] w (ClnQ w N ks):=by
 obtain⟨i0,hi,hz0,hz1,hz2⟩:=info_parts j117;have hnil: ∀W,(binOp .eql 23 (.slice A ks.length cap) (.slice none 0 0)).run Tryz.prog W= .ok (.bool A.isNone) W:=fun W=> Lib.run_eql_slice_nil W 23 _ A ks.length cap 0 0 Tryz.underlying23
 cases A with
 |none=>
  have h0:ks= []:=by
   rcases hK with h|⟨b,o,h,-⟩
   · exact h
   · cases h
  subst h0;simp only[List.length_nil,Option.isNone_none] at hnil⊢;go_enter Tryz.func152,Tryz.ntmps152;go_wp2_with fail;go_ret;exact⟨_, [],rfl,World.ownsRow_nil _ _ _ _,RowL.nil,xr _⟩
 |some ad=>
  have hx:=(xr w).alloc (.cells #[] 25);have hG:(w.alloc (.cells #[] 25)).ownsRow w.heap.size 25 3 (.slice (some ⟨w.heap.size,0,none⟩) 0 0) 0 []:=World.ownsRow_lit w #[] 0 (Nat.le_refl _) (Nat.zero_le _) rfl;obtain⟨xs,n1,n2,n3,n4⟩: ∃xs:List Value,xs.length=ks.length*3/\(∀j u,xs[j]? =some u->(w.alloc (.cells #[] 25)).cell? (ad.add j)=some u)/\(∀u∈xs,u.oneCell'=true)/\RowL w (fun b=> N b/\b < w.heap.size) xs ks:=by
   rcases hK.bound with rfl|⟨b,o,h,hb,hL⟩
   · exact⟨[],rfl,fun j u h=> by simp at h,fun u h=> by simp at h,RowL.nil⟩
   · obtain⟨xs,n1,n2,n3,n4⟩:=hL.rowL
     simp only[Option.some.injEq] at h;subst h;exact⟨xs,n1,fun j u hu=> by rw[Addr.add_lit];exact hx.cell (n2 j u hu),n3,n4⟩
  have HN:=hdq n2;have H4:=hdq n4;simp only[Option.isNone_some] at hnil;clear hK n2 n4;go_enter Tryz.func152,Tryz.ntmps152;go_wp2_with (at_builtin;go_loud (refine y83 _ rfl (.tmp 5) (.tmp 6) 23 rfl w.heap.size 25 i0 _ Tryz.underlying23 hi hz0 hz1 hz2 rfl (v:= .slice (some ⟨w.heap.size,0,none⟩) 0 0) rfl hG (by simp) rfl n1 HN.out n3 hn ?_))
  intro v' w' r1 r2 r3;have hE:Ext w w':=hx.grown r2 (by intro k hk;simp[Value.ownBlock] at hk;omega);go_wp2_with fail;go_ret;exact⟨v',xs,rfl,r1,H4.out.mono (fun b hb=> hb) (fun b hb=> hE.heap b hb.2),hE⟩
theorem j199:(Tryz.prog.info? 25).map (fun i=>(i.zero,i.size,i.bytes))=some (some (.agg #[.int .i64 0,.int .i64 0,.slice none 0 0]),3,40):=by kernel_rfl
theorem j147{ks:List Tr}{j m:Nat}(x:Tr)(h:j < ks.length)(hne:j≠m):(ks.set m x).take (j+1)=(ks.set m x).take j++ [ks[j]]:=by
 have h':j <(ks.set m x).length:=by rw[List.length_set];exact h
 rw[<-List.take_append_getElem h',List.getElem_set_ne (by omega)]
theorem j142{ks:List Tr}{m:Nat}(x:Tr)(h:m < ks.length):(ks.set m x).take (m+1)=(ks.set m x).take m++ [x]:=by
 have h':m <(ks.set m x).length:=by rw[List.length_set];exact h
 rw[<-List.take_append_getElem h',List.getElem_set_self]
theorem y144(k n:Int)(ks:List Tr)(kid:Tr)(m:Nat)(Sk:Nat->Prop)(w:World)(v vk:Value)(j7:Lies w (.mk k n ks) v)(Yy: ∀b,Sk b->b < w.heap.size)(C5:InT w Sk kid vk)(hm:m < ks.length)(U7:cnt (.mk k n ks)<=1000000):
 Calls Tryz.prog 104 #[v,.int .i64 m,vk] w fun e w'=> ∃x,e= .returned x/\InT w' (fun b=> Sk b\/w.heap.size+4<=b/\b < w'.heap.size) (.mk k n (ks.set m kid)) x/\Ext w w':=by
 obtain⟨A,cap,rfl,hl,hc,hK⟩:=Lies.mk_iff.1 j7;obtain⟨d1,d2,d3,d4,d5,rfl⟩:=Lies.three (InT.mono Yy (fun _ _=> rfl) C5);obtain⟨i0,hi,hz0,hz1,hz2⟩:=info_parts j199;have hcc:=hc;unfold maxLen at hcc;simp only[cnt] at U7;have hlc:=y19 ks;go_enter Tryz.func104,Tryz.ntmps104;go_wp2_with fail;obtain⟨w1,i7⟩: ∃w1,w1=((w.alloc (.cells #[.int .i64 k,.int .i64 n,.slice A ks.length cap] 25)).alloc (.cells #[.int .i64 d1,.int .i64 d2,.slice d3 d4 d5] 25)).alloc (.cells #[.int .i64 0,.int .i64 0,.slice none 0 0] 25):=⟨_,rfl⟩;obtain⟨W,hW⟩: ∃W,W=w1.alloc (.cells #[.int .i64 k,.int .i64 n,.slice none 0 0] 25):=⟨_,rfl⟩;have hs1:w1.heap.size=w.heap.size+3:=by rw[i7];simp
 have Eu:W.heap.size=w.heap.size+4:=by rw[hW];simp;omega
 have C6:Ext w w1:=i7▸(((xr w).alloc _).alloc _).alloc _;have I3:Ext w1 W:=hW▸(xr w1).alloc _;obtain⟨T7,hbU,F2,-⟩:w1.heap[w.heap.size]? =some (.cells #[.int .i64 k,.int .i64 n,.slice A ks.length cap] 25 (0,0))/\w1.heap[w.heap.size+1]? =some (.cells #[.int .i64 d1,.int .i64 d2,.slice d3 d4 d5] 25 (0,0))/\w1.heap[w.heap.size+1+1]? =some (.cells #[.int .i64 0,.int .i64 0,.slice none 0 0] 25 (0,0))/\True:=by
  rw[i7];exact⟨(blk3 (xr _)).1,(blk3 (xr _)).2.1,(blk3 (xr _)).2.2.1,trivial⟩
 have ot:W.heap[w.heap.size+1+1+1]? =some (.cells #[.int .i64 k,.int .i64 n,.slice none 0 0] 25 (0,0)):=by
  have:=heap_alloc_new w1 (.cells #[.int .i64 k,.int .i64 n,.slice none 0 0] 25);rw[hs1] at this;rw[hW];exact this
 rw[<-i7,<-hW];have hsWa:w.heap.size+4<=W.heap.size:=by omega
 have hsWb:W.heap.size<=w.heap.size+4:=by omega
 have hs1a:w.heap.size+3<=w1.heap.size:=by omega
 have hs1b:w1.heap.size<=w.heap.size+3:=by omega
 clear hW i7 Eu hs1;have vx: ∀b,((b < w.heap.size/\ ¬Sk b)\/w.heap.size<=b/\b < W.heap.size)->b < W.heap.size:=fun b hb=> by rcases hb with hb|hb <;> omega
 go_loopw [8] (fun i wr=> ∃(j:Nat) (v:Value),j<=ks.length/\i= .int .i64 j/\wr.heap[w.heap.size+1+1+1]? =some (.cells #[.int .i64 k,.int .i64 n,v] 25 (0,0))/\q19 (fun b=>(b < w.heap.size/\ ¬Sk b)\/w.heap.size<=b/\b < W.heap.size) W wr 25 v ((ks.set m kid).take j)/\Ext w1 wr/\W.heap.size<=wr.heap.size) (fun i _=> ks.length -(intOf i).toNat)
 case atStart=> exact⟨0,_,Nat.zero_le _,rfl,ot,q19.nil _ _ _ _,I3,Nat.le_refl _⟩
 case round=>
  obtain⟨j,v,hj,rfl,J9,hG,he,hle⟩:=hrel;by_cases hlt:j < ks.length
  · have hlen:((ks.set m kid).take j).length < 1099511627776:=by rw[List.length_take];omega
    obtain⟨-,-,t2,-,-,-⟩:=own3 (he.blk T7);obtain⟨u0,u1,u2,-,-,-⟩:=own3 (he.blk hbU);have hj':(j:Int) <(ks.length:Int):=by omega
    have hv:=q10 J9 2;have Kd:=y13 J9 2;have hown: ∀q,v.ownBlock=some q->W.heap.size<=q/\q < wr.heap.size:=by
     obtain⟨xs,g1,-⟩:=hG;exact fun q hq=> g1.lt q hq
    have aj:=hdq hown;have hwrb:w.heap.size+1+1+1 < wr.heap.size:=j10 J9;have J0:w.heap.size+1 < wr.heap.size:=by omega
    by_cases Ni:j=m
    · subst Ni
      have hjb:((j:Int)==(j:Int))=true:=by simp
      have L8:=j142 kid hlt;have qw:=hdq L8;have ei:=(xr wr).alloc (.cells #[.int .i64 d1,.int .i64 d2,.slice d3 d4 d5] 25);have hGk:=hG.ext ei;have hTk:InT (wr.alloc (.cells #[.int .i64 d1,.int .i64 d2,.slice d3 d4 d5] 25)) (fun b=> b <(wr.alloc (.cells #[.int .i64 d1,.int .i64 d2,.slice d3 d4 d5] 25)).heap.size/\v.ownBlock≠some b/\ ¬((b < w.heap.size/\ ¬Sk b)\/w.heap.size<=b/\b < W.heap.size)) kid (.agg #[.int .i64 d1,.int .i64 d2,.slice d3 d4 d5]):=InT.mono (fun y hy=> by
       have h2:y < w.heap.size:=Yy y hy;exact⟨by simp;omega,fun hh=> by have:=(aj.out y hh).1;omega,fun hx=> by rcases hx with hx|hx;exact hx.2 hy;omega⟩) (fun y hy=>((C6.trans he).trans ei).heap y (Yy y hy)) C5
      have HBV:=hdq (ei.blk J9);have HG:=hdq hGk;have HT:=hdq hTk;clear hown hG hGk hTk L8 J9;go_wp2_with (at_builtin;refine j18 _ rfl (.tmp 25) (.tmp 27) _ (by rfl) 25 i0 _ Tryz.underlying23 hi hz0 hz1 hz2 rfl (by rfl) (W:=W) HG.out (by have:=ei.size;omega) HT.out (by rfl) (heap_alloc_new _ _) hlen ?_ vx)
      intro v' w5 G7 E6;have fh:Ext w1 w5:=(he.trans ei).trans' E6 (by omega);have hs5:=E6.size;have G5:=(E6.block (w.heap.size+1+1+1) (by omega)).trans HBV.out;rw[<-qw.out] at G7;obtain⟨B5,c5,rfl,-,-,-,-⟩:=G7.lies vx;obtain⟨l5,Ld⟩: ∃l,((ks.set j kid).take (j+1)).length=l:=⟨_,rfl⟩;rw[Ld] at G7⊢;clear Ld;have hsz5:W.heap.size<=w5.heap.size:=by have:=ei.size;omega
      have gi:=q10 G5 2;have Er:=y13 G5 2;have Nh:=hdq G7;clear hv Kd t2 u0 u1 u2 G7 hlen;go_wp2_with fail
      go_roundw
      case rel=> exact⟨j+1,_,by omega,by go_num,j11 G5 2 _,Nh.out.only (Only.one w5 (w.heap.size+1+1+1) 2 _) (by intro b hb;rw[List.mem_singleton.1 hb];exact .inr ⟨by omega,by omega⟩) vx,fh.setCell (by show _<=w.heap.size+1+1+1;omega) _,by simpa using hsz5⟩
      case measure=> simp[intOf];omega
    · have hjb:((j:Int)==(m:Int))=false:=beq_eq_false_iff_ne.2 (by omega)
      obtain⟨b,o,k',n',A',cap',kids,rfl,HK,c0,c1,c2,K8,L6,hK',D6,j5⟩:=hK.get (C6.trans he) hlt;have L8:=j147 kid hlt Ni;rw[HK.out] at L8;have qw:=hdq L8;have hcm:=y15 j5;have D8:Ext wr wr.drew:=(xr wr).drew;have dr:=D6.ext D8;have C8: ∀w',Below W.heap.size wr w'->w'.heap[w.heap.size+1+1+1]? =some (.cells #[.int .i64 k,.int .i64 n,v] 25 (0,0)):=fun w' hB=>(hB.block (w.heap.size+1+1+1) (by omega)).trans J9
      have p5:=hdq C8;have HG:=hdq hG;go_wp2_with fail;clear C8 J9 hG hown L8 hcc u0 u1 u2
      go_region_law (first|(go_simp;go_at_call 67;refine(j29 _ _ _ dr (by omega)).mono ?_;rintro e w4 ⟨u,rfl,hM,h4⟩;obtain⟨a1,a2,a3,a4,a5,rfl⟩:=hM.three';have hv4:=q10 (p5.out _ ((D8.trans h4).below hle)) 2;have jq:=World.block_lt_of_cell? _ _ hv4) |(refine y27 _ (by rfl) (.tmp 31) (.tmp 38) _ (by rfl) 25 i0 _ Tryz.underlying23 hi hz0 hz1 hz2 rfl (by rfl) (X:=fun b=>(b < w.heap.size/\ ¬Sk b)\/w.heap.size<=b/\b < W.heap.size) (W:=W) (tr:= .mk k' n' kids) (HG.out.ext ((D8.trans h4).trans ((xr w4).alloc _))) (by have:=(D8.trans h4).size;simp;omega) (InT.mono (fun y hy=>⟨by have h9:=hy.2;simp;omega,fun hh=> by have h9:wr.heap.size<=y:=hy.1;have:=(aj.out y hh).2;omega,by have h9:wr.heap.size<=y:=hy.1;omega⟩) (fun y hy=>((xr w4).alloc _).heap y hy.2) (From.made hM)) (by rfl) (heap_alloc_new _ _) hlen ?_ vx;intro v' w5 G7 E6;obtain⟨B5,c5,rfl,-,-,-,-⟩:=G7.lies vx;obtain⟨l5,Ld⟩: ∃l,((ks.set m kid).take j++ [Tr.mk k' n' kids]).length=l:=⟨_,rfl⟩;rw[Ld] at G7⊢;clear Ld;have sk:Below W.heap.size wr w5:=(((D8.trans h4).trans ((xr w4).alloc _)).below hle).trans E6;have gi:=q10 (p5.out _ sk) 2;have Er:=y13 (p5.out _ sk) 2))
      all_goals(
       have fh:Ext w1 w5:=he.trans' sk (by omega);have hs5:=sk.size;have G5:=p5.out _ sk;rw[<-qw.out] at G7;have Nh:=hdq G7;clear hv4 jq hv p5 hM h4 c0 c1 c2 t2 G7 E6 sk Kd;go_wp2_with fail
       go_roundw
       case rel=> exact⟨j+1,_,by omega,by go_num,j11 G5 2 _,Nh.out.only (Only.one w5 (w.heap.size+1+1+1) 2 _) (by intro b hb;rw[List.mem_singleton.1 hb];exact .inr ⟨by omega,by omega⟩) vx,fh.setCell (by show _<=w.heap.size+1+1+1;omega) _,by simp;omega⟩
       case measure=> simp[intOf];omega)
  · have nk:(ks.set m kid).take j=ks.set m kid:=List.take_of_length_le (by rw[List.length_set];omega)
    rw[nk] at hG;obtain⟨r0,r1,r2,-,-,-⟩:=own3 J9;obtain⟨-,-,t2,-,-,-⟩:=own3 (he.blk T7);obtain⟨s0,s1,s2,f0,f1,f2⟩:=own3 (he.blk F2);have hGr:=fun(x0 x1 x2:Value)=>((hG.only (Only.one _ (w.heap.size+1+1) 0 x0) (by intro b hb;rw[List.mem_singleton.1 hb];exact .inr ⟨by omega,by omega⟩) vx).only (Only.one _ (w.heap.size+1+1) 1 x1) (by intro b hb;rw[List.mem_singleton.1 hb];exact .inr ⟨by omega,by omega⟩) vx).only (Only.one _ (w.heap.size+1+1) 2 x2) (by intro b hb;rw[List.mem_singleton.1 hb];exact .inr ⟨by omega,by omega⟩) vx
    obtain⟨Bv,cv,rfl,q1,q2,-,-⟩:=hG.lies vx;have Rz:=hdq hGr;have Lq:=C6.trans he;clear hGr hG nk J9;go_wp2_with fail;refine bodyPost_ret (v:= .agg #[.int .i64 k,.int .i64 n,.slice Bv ks.length cv]) (by simp[results,Tryz.results104,go_sem,s0,s1,s2]) rfl ⟨_,rfl, ?_, ?_⟩
    · obtain⟨Bv',cv',qm,q1',q2',hKK,-⟩:=(Rz.out (.int .i64 k) (.int .i64 n) (.slice Bv ks.length cv)).lies vx
      simp only[Value.slice.injEq,true_and] at qm;obtain⟨rfl,rfl⟩:=qm;have hKS:=InK.mono (S':=fun b=> Sk b\/w.heap.size+4<=b/\b <(((wr.setCell ⟨w.heap.size+1+1,0,none⟩ (.int .i64 k)).setCell ⟨w.heap.size+1+1,1,none⟩ (.int .i64 n)).setCell ⟨w.heap.size+1+1,2,none⟩ (.slice Bv ks.length cv)).heap.size) (fun y hy=> by
       have h8:=hy.1;have h9: ¬((y < w.heap.size/\ ¬Sk y)\/w.heap.size<=y/\y < W.heap.size):=hy.2;by_cases hys:Sk y
       · exact .inl hys
       · refine .inr ⟨?_,h8⟩
         by_cases h7:y < w.heap.size
         · exact absurd (.inl ⟨h7,hys⟩) h9
         · have: ¬(w.heap.size<=y/\y < W.heap.size):=fun h=> h9 (.inr h)
           omega) (fun _ _=> rfl) hKK
      exact InT.mk_iff.2 ⟨_,_,by rw[List.length_set],by rw[List.length_set];simpa using q1,q2,hKS⟩
    · exact((Lq.setCell (by show _<=w.heap.size+1+1;omega) _).setCell (by show _<=w.heap.size+1+1;omega) _).setCell (by show _<=w.heap.size+1+1;omega) _
theorem q114(k n:Int)(ks:List Tr)(kid:Tr)(m B:Nat)(w:World)(v vk:Value)(j7:Lies w (.mk k n ks) v)(C5:From B w kid vk)(hB:B<=w.heap.size)(hm:m < ks.length)(U7:cnt (.mk k n ks)<=1000000):
 Calls Tryz.prog 104 #[v,.int .i64 m,vk] w fun e w'=> ∃x,e= .returned x/\From B w' (.mk k n (ks.set m kid)) x/\Ext w w':=
 (y144 k n ks kid m (fun b=> B<=b/\b < w.heap.size) w v vk j7 (fun b hb=> hb.2) C5 hm U7).mono fun e w' ⟨x,h1,h2,h3⟩=>⟨x,h1,InT.mono (fun b hb=> by
  have:=h3.size;rcases hb with hb|hb
  · exact⟨hb.1,by have:=hb.2;omega⟩
  · exact⟨by have:=hb.1;omega,hb.2⟩) (fun _ _=> rfl) h2,h3⟩
end Go.Proofs.YtbnkbepgmenblaaGreat
