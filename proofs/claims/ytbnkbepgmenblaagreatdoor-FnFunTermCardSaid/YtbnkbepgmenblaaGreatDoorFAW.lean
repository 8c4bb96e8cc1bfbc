/-
  Lemmas towards the law, 23: StrS, Apply, Extd, HeadP.
-/
import Derived.Test.YtbnkbepgmenblaaGreatDoorFAV
import Derived.Test.YtbnkbepgmenblaaGreatDoorDSH
set_option linter.unusedVariables false
set_option maxHeartbeats 4000000
set_option maxRecDepth 100000
namespace Go.Proofs.YtbnkbepgmenblaaGreatDoor
open Go.RowKit
attribute [local go_sem ↓] Go.wp_at_zero Go.wp_at_succ
def EnvM(w:World):Prop:= ∃m,w.cell? ⟨0,0,none⟩=some (.int .i64 m)
theorem EnvM.ext{w w':World}(h:EnvM w)(he:Ext w w'):EnvM w':=by
 obtain⟨m,h1⟩:=h;exact⟨m,he.cell h1⟩
theorem envM_of{w:World}(h:w.ShapedOpen Tryz.prog):EnvM w:=Tryz.laysM146.s1_3 w h
theorem map_ofL{xs:List ByteArray}{ys:List (List UInt8)}(h:xs.map (·.data.toList)=ys):xs.map Value.string=strs ys:=by
 subst h;unfold strs;rw[List.map_map]
 apply List.map_congr_left
 intro a _
 show Value.string a=Value.string (ofL a.data.toList)
 rw[ofL_of]
theorem y114{xs:List (List UInt8)}{j:Nat}(h:j < xs.length):(strs xs).toArray[j]? =some (.string (ofL xs[j])):=by
 unfold strs;simp[h]
theorem j125(l:List UInt8)(c:UInt8)(w:World)(hw:EnvM w)(hl:l.length<=1000000000):Calls Tryz.prog 52 #[.string (ofL l),.string (ofL [c])] w fun e w'=> e= .returned (.slice (some ⟨w.heap.size,0,none⟩) (cutL c l).length (cutL c l).length)/\w'=w.alloc (.cells (strs (cutL c l)).toArray 9):=by
 obtain⟨m,hm⟩:=hw;have h1:1<=(ofL [c]).size:=by rw[j17];exact Nat.le_refl 1
 have h:=Tryz.strings_Split (ofL l) (ofL [c]) m w (by rw[j17];omega) hm h1;have hd:=Lib.splitB_data (ofL [c]) 0 (Lib.countB (ofL l) (ofL [c])) (ofL l);have hc:Lib.countB (ofL l) (ofL [c])=Lib.count l [c]:=by
  show Lib.count (ofL l).data.toList (ofL [c]).data.toList=_
  rw[y22,y22]
 rw[hc,y22,y22,q129 c l.length l (Nat.le_refl _)] at hd;have hlen:=Lib.splitB_all (ofL [c]) h1 0 (Lib.countB (ofL l) (ofL [c])) (ofL l) rfl;rw[hc] at h hlen;have hn:(cutL c l).length=Lib.count l [c]+1:=by rw[<-hd,List.length_map,hlen]
 rw[map_ofL hd] at h;rw[hn];exact h
theorem j204(l:List UInt8)(c:UInt8)(xs:List (List UInt8))(Ib:cutL c l=xs)(w:World)(hw:EnvM w)(hl:l.length<=1000000000):Calls Tryz.prog 52 #[.string (ofL l),.string (ofL [c])] w fun e w'=> ∃b,e= .returned (.slice (some ⟨b,0,none⟩) xs.length xs.length)/\(∀j (hj:j < xs.length),w'.cell? ⟨b,j,none⟩=some (.string (ofL xs[j])))/\w.heap.size<=b/\b < w'.heap.size/\Ext w w':=by
 subst Ib;refine(j125 l c w hw hl).mono ?_;rintro e w' ⟨rfl,rfl⟩;refine⟨_,rfl,fun j hj=> ?_,Nat.le_refl _,by simp,(xr w).alloc _⟩;rw[q10 (heap_alloc_new w _)];exact y114 hj
theorem j99{n:Nat}(h:n < 100):Lib.decDigits n=decL n:=by
 by_cases h9:n<=9
 · rw[Lib.decDigits,dif_pos (by omega)]
   unfold decL;rw[if_pos (by omega)];simp
 · rw[Lib.decDigits,dif_neg (by omega),Lib.decDigits,dif_pos (by omega)]
   unfold decL;rw[if_neg (by omega)];simp
theorem j145(n:Nat)(hn:n < 100)(w:World):Calls Tryz.prog 55 #[.int .i64 n] w fun e w'=> e= .returned (.string (ofL (decL n)))/\w'=w:=by
 have h:=Tryz.strconv_Itoa_small n hn w;rw[j99 hn] at h;exact h
def shpL:List (List UInt8):= [[35], [42], [40,46,62,46,41], [91,46,93,46], [40,46,32,46,41], [78], [48], [43,46], [60,46,44,46,44,46,44,46,62], [123,46,44,46,44,46,125], [33,46], [64,60,46,44,46,44,46,62], [40,46,42,46,41], [124,46,44,46,44,46,124], [94,46], [95,46]]
theorem q42: ∀j,j < 16->cutL 46 (shpL.getD j [])=prt ((j:Int)+1)/\(shpL.getD j []).length<=9:=by decide
theorem j40(w:World):Calls Tryz.prog 53 #[] w fun e w'=> ∃b,e= .returned (.slice (some ⟨b,0,none⟩) 16 16)/\(∀j,j < 16->w'.cell? ⟨b,j,none⟩=some (.string (ofL (shpL.getD j []))))/\Ext w w':=by
 have HO:=hdq (show∀j,j < 16->(w.alloc (.cells (strs shpL).toArray 9)).cell? ⟨w.heap.size,j,none⟩=some (.string (ofL (shpL.getD j []))) from fun j hj=> by
  rw[q10 (heap_alloc_new w _)];have h2:j < shpL.length:=hj;rw[y114 h2,List.getD_eq_getElem?_getD,List.getElem?_eq_getElem h2]
  rfl)
 go_enter Tryz.func53,Tryz.ntmps53;go_wp2_with fail;go_ret;exact⟨_,rfl,HO.out,(xr w).alloc _⟩
theorem y136{ts:List Tr}(h:j63 ts=true):ts.length<=8/\ ∀t∈ts,valid sigT t=true:=by
 unfold j63 at h;simp only[Bool.and_eq_true,decide_eq_true_eq,Bool.not_eq_true',List.any_eq_false] at h;exact⟨h.1,fun t ht=> by simpa using h.2 t ht⟩
def Off3(w0:World)(g:Nat)(b:Nat):Prop:=b≠w0.heap.size/\b≠w0.heap.size+1/\b≠g
theorem y127(G:List Tr)(t:Tr)(w0:World)(N:Nat->Prop)(A:Option Addr)(ca:Nat)(v:Value)(ht:InT w0 N t v)(hL:20<=G.length):
 Calls Tryz.prog 96 #[.slice A G.length ca,v] w0 fun e w'=> e= .returned (.tuple #[.slice none 0 0,.int .i64 2])/\Ext w0 w':=by
 obtain⟨k,n,ks⟩:=t;obtain⟨At,ct,rfl,hl,hc,hK⟩:=InT.mk_iff.1 ht;have t1:decide ((20:Int)<=(G.length:Int))=true:=decide_eq_true (by omega);clear ht hK;go_enter Tryz.func96,Tryz.ntmps96;go_wp2_with fail;go_ret2;exact⟨rfl,(xr _).alloc _⟩
theorem q100(G:List Tr)(t:Tr)(w0:World)(N:Nat->Prop)(hN: ∀b,w0.heap.size<=b->N b)(A:Option Addr)(ca:Nat)(v:Value)(hG:InK w0 N A G)(ht:InT w0 N t v)(hL:G.length < 20):
 Calls Tryz.prog 96 #[.slice A G.length ca,v] w0 fun e w'=> ∃A' c',e= .returned (.tuple #[.slice A' (G.length+1) c',.int .i64 0])/\G.length+1<=c'/\c'<=maxLen/\InK w' N A' (G++ [t])/\Ext w0 w':=by
 obtain⟨k,n,ks⟩:=t;obtain⟨At,ct,rfl,hl,hc,hK⟩:=InT.mk_iff.1 ht;have t1:decide ((20:Int)<=(G.length:Int))=false:=decide_eq_false (by omega);obtain⟨i0,hi,hz0,hz1,hz2⟩:=info_parts j106;have HT:=hdq ht;have HG:=hdq hG;have HN:=hdq hN;have X1:=(xr w0).alloc (.cells #[.int .i64 k,.int .i64 n,.slice At ks.length ct] 26);have B1:=heap_alloc_new w0 (.cells #[.int .i64 k,.int .i64 n,.slice At ks.length ct] 26);obtain⟨w1,i6⟩: ∃x,x=w0.alloc (.cells #[.int .i64 k,.int .i64 n,.slice At ks.length ct] 26):=⟨_,rfl⟩;rw[<-i6] at X1 B1;clear ht hK hG hN;go_enter Tryz.func96,Tryz.ntmps96;go_wp2_with fail;rw[<-i6];clear i6;obtain⟨z0,z1,z2,-,-,-⟩:=own3 B1;have x9:=hdq (show∀w',Ext w1 w'->w'.cell? ⟨w0.heap.size,0,none⟩=some (.int .i64 k)/\w'.cell? ⟨w0.heap.size,1,none⟩=some (.int .i64 n)/\w'.cell? ⟨w0.heap.size,2,none⟩=some (.slice At ks.length ct) from fun w' h=>⟨h.cell z0,h.cell z1,h.cell z2⟩);clear z0 z1 z2 B1;have hsz:=X1.size;have XD:Ext w1 w1.drew:=(xr w1).drew;have FIN:=hdq (show∀(wc w2 w3:World) (v2:Value) (xs:List Value) (g:Nat),Ext w1 wc->wc.heap.size<=w2.heap.size->Ext w2 w3->w2.ownsRow wc.heap.size 26 3 v2 G.length xs->RowL w2 (fun b=> N b/\b < wc.heap.size) xs G->y32 (fun b=> b < wc.heap.size/\ ¬N b) wc w3 26 v2 G from fun wc w2 w3 v2 xs g hc h1 h2 h3 h4=> by
  have:=y32.ext (X:=fun b=> b < wc.heap.size/\ ¬N b) (W:=wc) (w:=w2) (e:=26) (v:=v2) (ks:=G) ⟨xs,h3,h4.mono (fun b hb=>⟨by omega,fun e=> by have:=(h3.lt b e).1;omega,fun e=> e.2 hb.1⟩) (fun _ _=> rfl)⟩ h2;exact this)
 have HTB:=hdq HT.out.bound;refine wp_region_held_drew (S:=fun w'=> w'.cell? ⟨w0.heap.size,0,none⟩=some (.int .i64 k)/\w'.cell? ⟨w0.heap.size,1,none⟩=some (.int .i64 n)/\w'.cell? ⟨w0.heap.size,2,none⟩=some (.slice At ks.length ct)) (by kernel_rfl) (x9.out _ XD) (fun _=> ?_);refine wpAnyH_take (i:=0) (v:= ?v0) rfl (by kernel_rfl) (by kernel_rfl) (by kernel_rfl) (fun _ _ _ h=> h) (Or.inl ⟨by rfl, ?hy0⟩) (by assumption) ?rest0
 case hy0=>(intro w hSw;(try dsimp only at hSw);go_simp;(try with_reducible rfl))
 try simp only[Act.put,List.getElem_toArray,List.getElem_cons_succ,List.getElem_cons_zero,List.setIfInBounds_toArray,List.set_cons_zero,List.set_cons_succ]
 refine wpAnyH_take (i:=2) (v:= ?v2) rfl (by kernel_rfl) (by kernel_rfl) (by kernel_rfl) (fun _ _ _ h=> h) (Or.inl ⟨by rfl, ?hy2⟩) (by assumption) ?rest2
 case hy2=>(intro w hSw;(try dsimp only at hSw);go_simp;(try with_reducible rfl))
 try simp only[Act.put,List.getElem_toArray,List.getElem_cons_succ,List.getElem_cons_zero,List.setIfInBounds_toArray,List.set_cons_zero,List.set_cons_succ]
 refine wpAnyH_ready (rs:= [1,3]) (by kernel_rfl) (by simp) ?_;refine AllReadyH.cons rfl (fun K hK=> ?_) (AllReadyH.cons rfl (fun K hK=> ?_) AllReadyH.nil)
 · (go_simp;go_at_call 129;refine(y104 G _ N A ca (HG.out.later (X1.trans XD)) (by omega)).mono ?_;rintro e w2 ⟨v2,xs,rfl,hO,hR,e2⟩;dsimp only)
   refine hK.out _ _ (x9.out _ (XD.trans e2)) (fun hHeld=> ?_);clear hK K
   try simp only[Act.put,List.getElem_toArray,List.getElem_cons_succ,List.getElem_cons_zero,List.setIfInBounds_toArray,List.set_cons_zero,List.set_cons_succ]
   refine wpAnyH_ready (rs:= [3]) (by kernel_rfl) (by simp) ?_;refine AllReadyH.cons rfl (fun K hK=> ?_) AllReadyH.nil
   go_simp
   refine hK.out _ _ (x9.out _ ((XD.trans e2).alloc _)) (fun hHeld=> ?_);clear hK K
   try simp only[Act.put,List.getElem_toArray,List.getElem_cons_succ,List.getElem_cons_zero,List.setIfInBounds_toArray,List.set_cons_zero,List.set_cons_succ]
   have Bj:=FIN.out w1.drew w2 (w2.alloc (.cells #[.int .i64 k,.int .i64 n,.slice At ks.length ct] 26)) _ xs 0 XD e2.size ((xr w2).alloc _) hO hR;have hs3:w0.heap.size<=(w2.alloc (.cells #[.int .i64 k,.int .i64 n,.slice At ks.length ct] 26)).heap.size:=((X1.trans ((XD.trans e2).alloc _))).size;refine wpAnyH_ready (rs:= [4]) (by kernel_rfl) (by simp) ?_;refine AllReadyH.cons rfl (fun K hK=> ?_) AllReadyH.nil;have De:Ext w0 (w2.alloc (.cells #[.int .i64 k,.int .i64 n,.slice At ks.length ct] 26)):=X1.trans ((XD.trans e2).alloc _);have hwc:w0.heap.size<=(w1.drew).heap.size:=(X1.trans XD).size;refine y35 _ (.tmp 10) (.tmp 12) _ (by rfl) 26 i0 _ Tryz.underlying24 hi hz0 hz1 hz2 rfl (by rfl) Bj (Nat.le_trans e2.size ((xr w2).alloc _).size) (tr:= .mk k n ks) (InT.mono (fun b hb=>⟨Nat.lt_of_lt_of_le hb.2 De.size,fun e=> by have:=(hO.lt b e).1;omega,fun e=> e.2 hb.1⟩) (fun b hb=> De.heap b hb.2) HTB.out) (by rfl) (heap_alloc_new _ _) (by omega) ?_ (fun b hb=> hb.1);intro v5 w5 S6 I3;have Dj:Ext w1 w5:=Ext.trans' ((XD.trans e2).alloc _) I3 (XD).size;refine hK.out _ _ (x9.out _ Dj) (fun hHeld=> ?_);clear hK K;obtain⟨A5,c5,rfl,q1,q2,q3,-⟩:=S6.lies (fun b hb=> hb.1);have Z7:InK w5 N A5 (G++ [.mk k n ks]):=InK.mono (fun b hb=> by
    by_cases e:N b
    · exact e
    · exact HN.out b (Nat.le_trans hwc (Nat.not_lt.1 fun h=> hb.2 ⟨h,e⟩))) (fun _ _=> rfl) q3
   rw[List.length_append,List.length_singleton] at q1⊢;have Kc:=hdq Z7;clear Z7 q3 S6 I3 Bj hR hO
   try simp only[Act.put,List.getElem_toArray,List.getElem_cons_succ,List.getElem_cons_zero,List.setIfInBounds_toArray,List.set_cons_zero,List.set_cons_succ]
   refine wpAnyH_take (i:=5) (v:= ?vc5) rfl (by kernel_rfl) (by kernel_rfl) (by kernel_rfl) (fun _ _ _ h=> h) (Or.inl ⟨by rfl, ?hyc5⟩) (by assumption) ?restc5
   case hyc5=>(intro w hSw;(try dsimp only at hSw);go_simp;(try with_reducible rfl))
   try simp only[Act.put,List.getElem_toArray,List.getElem_cons_succ,List.getElem_cons_zero,List.setIfInBounds_toArray,List.set_cons_zero,List.set_cons_succ]
   refine wpAnyH_take (i:=6) (v:= ?vc6) rfl (by kernel_rfl) (by kernel_rfl) (by kernel_rfl) (fun _ _ _ h=> h) (Or.inl ⟨by rfl, ?hyc6⟩) (by assumption) ?restc6
   case hyc6=>(intro w hSw;(try dsimp only at hSw);go_simp;(try with_reducible rfl))
   try simp only[Act.put,List.getElem_toArray,List.getElem_cons_succ,List.getElem_cons_zero,List.setIfInBounds_toArray,List.set_cons_zero,List.set_cons_succ]
   refine wpAnyH_done (by kernel_rfl) ?_ _;go_wp2_with fail;go_ret2;exact⟨A5,c5,rfl,q1,q2,Kc.out,X1.trans Dj⟩
 · go_simp
   refine hK.out _ _ (x9.out _ (XD.alloc _)) (fun hHeld=> ?_);clear hK K
   try simp only[Act.put,List.getElem_toArray,List.getElem_cons_succ,List.getElem_cons_zero,List.setIfInBounds_toArray,List.set_cons_zero,List.set_cons_succ]
   refine wpAnyH_ready (rs:= [1]) (by kernel_rfl) (by simp) ?_;refine AllReadyH.cons rfl (fun K hK=> ?_) AllReadyH.nil
   (go_simp;go_at_call 129;refine(y104 G _ N A ca (HG.out.later (X1.trans (XD.alloc _))) (by omega)).mono ?_;rintro e w2 ⟨v2,xs,rfl,hO,hR,e2⟩;dsimp only)
   refine hK.out _ _ (x9.out _ ((XD.alloc _).trans e2)) (fun hHeld=> ?_);clear hK K
   try simp only[Act.put,List.getElem_toArray,List.getElem_cons_succ,List.getElem_cons_zero,List.setIfInBounds_toArray,List.set_cons_zero,List.set_cons_succ]
   have Bj:=FIN.out _ w2 w2 _ xs 0 (XD.alloc _) e2.size (xr _) hO hR;have hs3:w0.heap.size<=(w2).heap.size:=(X1.trans ((XD.alloc _).trans e2)).size;refine wpAnyH_ready (rs:= [4]) (by kernel_rfl) (by simp) ?_;refine AllReadyH.cons rfl (fun K hK=> ?_) AllReadyH.nil;have De:Ext w0 (w2):=X1.trans ((XD.alloc _).trans e2);have hwc:w0.heap.size<=(w1.drew.alloc (.cells #[.int .i64 k,.int .i64 n,.slice At ks.length ct] 26)).heap.size:=(X1.trans (XD.alloc _)).size;refine y35 _ (.tmp 10) (.tmp 12) _ (by rfl) 26 i0 _ Tryz.underlying24 hi hz0 hz1 hz2 rfl (by rfl) Bj (e2.size) (tr:= .mk k n ks) (InT.mono (fun b hb=>⟨Nat.lt_of_lt_of_le hb.2 De.size,fun e=> by have:=(hO.lt b e).1;omega,fun e=> e.2 hb.1⟩) (fun b hb=> De.heap b hb.2) HTB.out) (by rfl) (e2.blk (heap_alloc_new _ _)) (by omega) ?_ (fun b hb=> hb.1);intro v5 w5 S6 I3;have Dj:Ext w1 w5:=Ext.trans' ((XD.alloc _).trans e2) I3 ((XD.alloc _)).size;refine hK.out _ _ (x9.out _ Dj) (fun hHeld=> ?_);clear hK K;obtain⟨A5,c5,rfl,q1,q2,q3,-⟩:=S6.lies (fun b hb=> hb.1);have Z7:InK w5 N A5 (G++ [.mk k n ks]):=InK.mono (fun b hb=> by
    by_cases e:N b
    · exact e
    · exact HN.out b (Nat.le_trans hwc (Nat.not_lt.1 fun h=> hb.2 ⟨h,e⟩))) (fun _ _=> rfl) q3
   rw[List.length_append,List.length_singleton] at q1⊢;have Kc:=hdq Z7;clear Z7 q3 S6 I3 Bj hR hO
   try simp only[Act.put,List.getElem_toArray,List.getElem_cons_succ,List.getElem_cons_zero,List.setIfInBounds_toArray,List.set_cons_zero,List.set_cons_succ]
   refine wpAnyH_take (i:=5) (v:= ?vb5) rfl (by kernel_rfl) (by kernel_rfl) (by kernel_rfl) (fun _ _ _ h=> h) (Or.inl ⟨by rfl, ?hyb5⟩) (by assumption) ?restb5
   case hyb5=>(intro w hSw;(try dsimp only at hSw);go_simp;(try with_reducible rfl))
   try simp only[Act.put,List.getElem_toArray,List.getElem_cons_succ,List.getElem_cons_zero,List.setIfInBounds_toArray,List.set_cons_zero,List.set_cons_succ]
   refine wpAnyH_take (i:=6) (v:= ?vb6) rfl (by kernel_rfl) (by kernel_rfl) (by kernel_rfl) (fun _ _ _ h=> h) (Or.inl ⟨by rfl, ?hyb6⟩) (by assumption) ?restb6
   case hyb6=>(intro w hSw;(try dsimp only at hSw);go_simp;(try with_reducible rfl))
   try simp only[Act.put,List.getElem_toArray,List.getElem_cons_succ,List.getElem_cons_zero,List.setIfInBounds_toArray,List.set_cons_zero,List.set_cons_succ]
   refine wpAnyH_done (by kernel_rfl) ?_ _;go_wp2_with fail;go_ret2;exact⟨A5,c5,rfl,q1,q2,Kc.out,X1.trans Dj⟩
end Go.Proofs.YtbnkbepgmenblaaGreatDoor
namespace Go.Proofs.YtbnkbepgmenblaaGreatDoor
open Go.RowKit
mutual
def hdW:Tr->List Int×Bool
 | .mk k n ks=> if rdx k ks≠0 then([],true)
  else if k=5\/k=15\/k=16 then(0::(hdWs ks 0).1,(hdWs ks 0).2)
  else if k=9 then(3::(hdWs ks 3).1,(hdWs ks 3).2)
  else if k=12 then(1::(hdWs ks 1).1,(hdWs ks 1).2) else([],false)
def hdWs:List Tr->Nat->List Int×Bool
 | [],_=>([],false)
 |t::ts,0=> hdW t
 |t::ts,i+1=> hdWs ts i
end
def hdQ(t:Tr):Option (List Int):=if(hdW t).2=true then some (hdW t).1 else none
theorem y77{t:Tr}{p:List Int}(h:hdQ t=some p):hdW t=(p,true):=by
 unfold hdQ at h
 split at h
 · rename_i h1
   simp only[Option.some.injEq] at h;rw[<-h,<-h1]
 · cases h
theorem q110{t:Tr}(h:hdQ t=none):(hdW t).2=false:=by
 unfold hdQ at h
 split at h
 · cases h
 · rename_i h1
   simpa using h1
theorem y57: ∀{ks:List Tr} {i:Nat},i < ks.length->hdWs ks i=hdW (kd ks i)
 |t::ts,0,_=> by rw[hdWs];rfl
 |t::ts,i+1,h=> by rw[hdWs,j163];exact y57 (by simpa using h)
theorem q190: ∀{ks:List Tr} {i:Nat},ks.length<=i->(hdWs ks i).2=false
 | [],_,_=> by rw[hdWs]
 |t::ts,0,h=> by simp at h
 |t::ts,i+1,h=> by rw[hdWs];exact q190 (by simpa using h)
theorem y172: ∀(t:Tr) (d:Int),shape sigT t d=true->((hdW t).1.length:Int)<=d:=Tr.ind fun k n ks hk=> by
 intro d h;have hd:=j103 h;have key: ∀i,((hdWs ks i).1.length:Int)<=d - 1:=fun i=> by
  by_cases hi:i < ks.length
  · rw[y57 hi]
    exact hk _ (q77 hi) (d - 1) ((j29 h).2.2.2 _ (q77 hi))
  · have: ∀{ks:List Tr} {i:Nat},ks.length<=i->(hdWs ks i).1= []:=by
     intro ks
     induction ks with
     |nil=> intro i _;rw[hdWs]
     |cons t ts ih=>
      intro i h;cases i with
      |zero=> simp at h
      |succ i=> rw[hdWs];exact ih (by simpa using h)
    rw[this (by omega)];simp
    omega
 rw[hdW]
 split
 · simp;omega
 · split
   · have:=key 0;simp only[List.length_cons];omega
   · split
     · have:=key 3;simp only[List.length_cons];omega
     · split
       · have:=key 1;simp only[List.length_cons];omega
       · simp;omega
theorem q161{k n:Int}{ks:List Tr}{i:Nat}{p:List Int}(hi:i < ks.length)(h:rdxA (kd ks i) p=true):rdxA (.mk k n ks) ((i:Int)::p)=true:=by
 unfold rdxA at*;rw[show atT (.mk k n ks) ((i:Int)::p)=atT (kd ks i) p by simp[atT,hi]];exact h
theorem q202(t:Tr):conA t []=ctrT t:=by
 cases t
 simp[conA,atT,putA]
theorem j57{k n:Int}{ks:List Tr}{i:Nat}{p:List Int}(hi:i < ks.length)(h:rdxA (kd ks i) p=true):conA (.mk k n ks) ((i:Int)::p)= .mk k n (ks.set i (conA (kd ks i) p)):=by
 obtain⟨u,h1,h2⟩:=j96 h;unfold conA;rw[show atT (.mk k n ks) ((i:Int)::p)=atT (kd ks i) p by simp[atT,hi],h1];simp[putA]
theorem y106: ∀(t:Tr) (p:List Int),hdW t=(p,true)->rdxA t p=true:=Tr.ind fun k n ks hk=> by
 intro p h;have key: ∀i,(hdWs ks i).2=true->rdxA (.mk k n ks) ((i:Int)::(hdWs ks i).1)=true:=fun i hi=> by
  by_cases hl:i < ks.length
  · rw[y57 hl] at hi⊢
    exact q161 hl (hk _ (q77 hl) _ (by rw[<-hi]))
  · rw[q190 (by omega)] at hi
    cases hi
 rw[hdW] at h
 split at h
 · rename_i h0
   simp only[Prod.mk.injEq,and_true] at h;subst h;unfold rdxA;rw[show atT (.mk k n ks) []=some (.mk k n ks) by simp[atT]];exact q75.2 h0
 · split at h
   · simp only[Prod.mk.injEq] at h
     rw[<-h.1];exact key 0 h.2
   · split at h
     · simp only[Prod.mk.injEq] at h
       rw[<-h.1];exact key 3 h.2
     · split at h
       · simp only[Prod.mk.injEq] at h
         rw[<-h.1];exact key 1 h.2
       · simp at h
theorem hdQ_at(t:Tr)(p:List Int)(h:hdQ t=some p):rdxA t p=true:=y106 t p (y77 h)
def hnfC:Nat->Tr->Tr×Int
 |0,t=> match hdQ t with
  |none=>(t,0)
  |some _=>(y14,1)
 |f+1,t=> match hdQ t with
  |none=>(t,0)
  |some p=> if valid sigT (conA t p)=true then hnfC f (conA t p) else(y14,2)
def hnfV(t:Tr)(f:Int):Tr×Int:=if(valid sigT t && inR f 0 200)=true then hnfC f.toNat t else(y14,3)
theorem j56{x:Tr}(h:hdQ x=none)(f:Nat):hnfC f x=(x,0):=by
 cases f <;>(unfold hnfC;rw[h])
theorem j93{x:Tr}{p:List Int}(h:hdQ x=some p):hnfC 0 x=(y14,1):=by
 unfold hnfC;rw[h]
theorem j137{x:Tr}{p:List Int}(h:hdQ x=some p)(hv:valid sigT (conA x p)=false)(f:Nat):hnfC (f+1) x=(y14,2):=by
 rw[hnfC,h];simp only;rw[if_neg (by rw[hv];decide)]
theorem y134{x:Tr}{p:List Int}(h:hdQ x=some p)(hv:valid sigT (conA x p)=true)(f:Nat):hnfC (f+1) x=hnfC f (conA x p):=by
 rw[hnfC,h];simp only;rw[if_pos hv]
theorem y121: ∀(f:Nat) (t x:Tr),valid sigT t=true->hnfC f t=(x,0)->Reds t x/\hdQ x=none/\valid sigT x=true
 |0,t,x,hv,h=> by
  cases e:hdQ t with
  |none=>
   rw[j56 e] at h;cases h
   exact⟨.refl _,e,hv⟩
  |some p=> rw[j93 e] at h;cases h
 |f+1,t,x,hv,h=> by
  cases e:hdQ t with
  |none=>
   rw[j56 e] at h;cases h
   exact⟨.refl _,e,hv⟩
  |some p=>
   by_cases hc:valid sigT (conA t p)=true
   · rw[y134 e hc] at h
     obtain⟨h1,h2⟩:=y121 f _ x hc h;exact⟨(Reds.one (j169 (hdQ_at t p e))).trans h1,h2⟩
   · rw[j137 e (Bool.eq_false_iff.2 hc)] at h
     cases h
theorem q90{t x:Tr}{f:Int}(h:hnfV t f=(x,0)):valid sigT t=true/\Reds t x/\hdQ x=none/\valid sigT x=true:=by
 unfold hnfV at h
 split at h
 · rename_i hv
   rw[Bool.and_eq_true] at hv;exact⟨hv.1,y121 _ _ _ hv.1 h⟩
 · cases h
end Go.Proofs.YtbnkbepgmenblaaGreatDoor
