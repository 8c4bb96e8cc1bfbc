/-
  Lemmas towards the law, 40: MTot, InfA, MCk.
-/
import Derived.Test.YtdkamgafpphdjaaGreatTBM
namespace Go.Proofs.YtdkamgafpphdjaaGreat
open Go.RowKit
set_option linter.unusedVariables false
open M (Hd HR Cv Ty Lim WfL TyB Lev WOk)
def LeA(x y:An):Prop:= ∀r,x=some r->y=some r
theorem LeA.rfl'(x:An):LeA x x:=fun _ h=> h
theorem LeA.thn{x y:An}{f g:Tr->An}(h:LeA x y)(k: ∀s,LeA (f s) (g s)):LeA (thn x f) (thn y g):=by
 intro r e;cases x with
 |none=> cases e
 |some p=>
  rw[h p rfl];obtain⟨s,c⟩:=p;unfold Go.Proofs.YtdkamgafpphdjaaGreat.thn at e⊢;simp only at e⊢
  split
  · rename_i hc
    rw[if_pos hc] at e;exact k s r e
  · rename_i hc
    rw[if_neg hc] at e;exact e
theorem LeA.frm{x y:An}(kind:Int)(h:LeA x y):LeA (frmV x kind) (frmV y kind):=h.thn fun _=> LeA.rfl' _
theorem LeA.chk{x y u v:An}(w:Tr)(h:LeA x y)(k:LeA u v):LeA (chkV x w u) (chkV y w v):=h.thn fun s=> by
 split
 · exact k
 · exact LeA.rfl' _
theorem LeA.fam{x y u v:An}(T:Tr)(h:LeA x y)(k:LeA u v):LeA (famV x T u) (famV y T v):=(h.frm 3).thn fun s=> by
 split
 · exact(LeA.rfl' _).thn fun _=> k
 · exact LeA.rfl' _
theorem LeA.jud{G:List Tr}{inf inf':Tr->An}{ty ty':Nat->An}(h: ∀t,LeA (inf t) (inf' t))(k: ∀i,LeA (ty i) (ty' i))(c n:Int)(ks:List Tr):LeA (judV G inf ty c n ks) (judV G inf' ty' c n ks):=by
 unfold judV;by_cases h1:c=1
 · rw[if_pos h1,if_pos h1];exact LeA.rfl' _
 rw[if_neg h1,if_neg h1];by_cases h1:c=2
 · rw[if_pos h1,if_pos h1];exact LeA.rfl' _
 rw[if_neg h1,if_neg h1];by_cases h1:c=6
 · rw[if_pos h1,if_pos h1];exact LeA.rfl' _
 rw[if_neg h1,if_neg h1];by_cases h1:c=7
 · rw[if_pos h1,if_pos h1];exact LeA.rfl' _
 rw[if_neg h1,if_neg h1];by_cases h1:c=8
 · rw[if_pos h1,if_pos h1];exact(k 0).chk _ (LeA.rfl' _)
 rw[if_neg h1,if_neg h1];by_cases h1:c=3\/c=13
 · rw[if_pos h1,if_pos h1];exact((k 0).frm 2).thn fun _=>((k 1).frm 2).thn fun _=> LeA.rfl' _
 rw[if_neg h1,if_neg h1];by_cases h1:c=4
 · rw[if_pos h1,if_pos h1];exact((k 0).frm 2).thn fun _=>(k 1).thn fun _=>(LeA.rfl' _).thn fun o=>(h o).thn fun _=> LeA.rfl' _
 rw[if_neg h1,if_neg h1];by_cases h1:c=5
 · rw[if_pos h1,if_pos h1];exact((k 0).frm 3).thn fun _=>(k 1).chk _ (LeA.rfl' _)
 rw[if_neg h1,if_neg h1];by_cases h1:c=9
 · rw[if_pos h1,if_pos h1];exact(k 0).fam _ ((LeA.rfl' _).thn fun _=>(k 1).chk _ ((LeA.rfl' _).thn fun _=>(k 2).chk _ ((k 3).chk _ (LeA.rfl' _))))
 rw[if_neg h1,if_neg h1];by_cases h1:c=10
 · rw[if_pos h1,if_pos h1];exact((k 0).frm 2).thn fun _=>(k 1).chk _ ((k 2).chk _ (LeA.rfl' _))
 rw[if_neg h1,if_neg h1];by_cases h1:c=11
 · rw[if_pos h1,if_pos h1];exact(k 0).thn fun s=>((h s).frm 2).thn fun _=> LeA.rfl' _
 rw[if_neg h1,if_neg h1];by_cases h1:c=12
 · rw[if_pos h1,if_pos h1];exact((k 1).frm 10).thn fun _=>(k 0).fam _ ((LeA.rfl' _).thn fun _=>(k 2).chk _ (LeA.rfl' _))
 rw[if_neg h1,if_neg h1];by_cases h1:c=14
 · rw[if_pos h1,if_pos h1];exact((k 0).frm 2).thn fun _=>(LeA.rfl' _).thn fun _=>(k 1).chk _ ((LeA.rfl' _).thn fun _=>(k 2).chk _ (LeA.rfl' _))
 rw[if_neg h1,if_neg h1];exact((k 0).frm 13).thn fun _=> LeA.rfl' _
theorem q154: ∀(f:Nat) (G:List Tr) (t:Tr),LeA (infV f G t) (infV (f+1) G t)
 |0,G,t=> fun r h=> by cases h
 |f+1,G, .mk k n ks=> LeA.jud (q154 f G) (fun i=> by
  unfold tyV
  split
  · exact q154 f G _
  · split
    · exact LeA.rfl' _
    · exact q154 f _ _) k n ks
theorem q129{f f':Nat}(h:f<=f')(G:List Tr)(t:Tr):LeA (infV f G t) (infV f' G t):=by
 induction h with
 |refl=> exact LeA.rfl' _
 |step _ ih=> exact fun r e=> q154 _ G t r (ih r e)
def End(G:List Tr)(t:Tr):Prop:= ∃f r,infV f G t=some r
def Is(x:An):Prop:= ∃r,x=some r
theorem Is.mk(r:Tr×Int):Is (some r):=⟨r,rfl⟩
theorem Is.thn{x:An}{f:Tr->An}(h:Is x)(k: ∀s,x=some (s,0)->Is (f s)):Is (thn x f):=by
 obtain⟨⟨s,c⟩,e⟩:=h;subst e;unfold Go.Proofs.YtdkamgafpphdjaaGreat.thn;simp only
 split
 · rename_i hc
   subst hc;exact k s rfl
 · exact Is.mk _
theorem Is.frm{x:An}(kind:Int)(h:Is x):Is (frmV x kind):=h.thn fun _ _=> Is.mk _
theorem Is.chk{x y:An}(w:Tr)(h:Is x)(k:Is y):Is (chkV x w y):=h.thn fun s _=> by
 split
 · exact k
 · exact Is.mk _
theorem Is.fam{x y:An}(T:Tr)(h:Is x)(k:Is y):Is (famV x T y):=(h.frm 3).thn fun s _=> by
 split
 · exact(Is.mk _).thn fun _ _=> k
 · exact Is.mk _
theorem Is.le{x y:An}(h:Is x)(k:LeA x y):Is y:=by
 obtain⟨r,e⟩:=h;exact⟨r,k r e⟩
theorem End.at{G:List Tr}{t:Tr}(h:End G t): ∃f,∀f',f<=f'->Is (infV f' G t):=by
 obtain⟨f,r,e⟩:=h;exact⟨f,fun f' hf=>⟨r,q129 hf G t r e⟩⟩
theorem End.of{G:List Tr}{t:Tr}{f:Nat}(h:Is (infV f G t)):End G t:=by
 obtain⟨r,e⟩:=h;exact⟨f,r,e⟩
section
variable {G : List M.Tm}
theorem y64{f:Nat}{k:Int}{A t:M.Tm}(hk:und k 1=1)(h:G.length < 20->Is (infV f (ctxE (A::G)) (enc t))):Is (tyV (infV f) (ctxE G) k [enc A,enc t] 1):=by
 rw[y93 _ _ hk]
 split
 · exact Is.mk _
 · rename_i h0
   rw[q39] at h0;rw[show ctxE G++ [kd [enc A,enc t] 0]=ctxE (A::G) from(y29 A G).symm];exact h (by omega)
theorem q124(hG:q27 G)(hL: ∀A,TyB G A->valid sigT (enc A)=true->G.length < 20-> ∀t,valid sigT (enc t)=true->End (ctxE (A::G)) (enc t)){A:M.Tm}(hA:valid sigT (enc A)=true)(h:End (ctxE G) (enc A))(t:M.Tm)(ht:valid sigT (enc t)=true):
 ∃f,∀f',f<=f'->Is (infV f' (ctxE G) (enc A))/\ ∀s,frmV (infV f' (ctxE G) (enc A)) 2=some (s,0)->G.length < 20->Is (infV f' (ctxE (A::G)) (enc t)):=by
 obtain⟨f1,h1⟩:=h.at;by_cases hb: ∃s,frmV (infV f1 (ctxE G) (enc A)) 2=some (s,0)
 · obtain⟨s,hs⟩:=hb
   obtain⟨S,i,-,-,-,-,b,-⟩:=q37 (snd f1) hG hA hs;by_cases hl:G.length < 20
   · obtain⟨f2,h2⟩:=(hL A b hA hl t ht).at
     exact⟨max f1 f2,fun f' hf=>⟨h1 f' (by omega),fun _ _ _=> h2 f' (by omega)⟩⟩
   · exact⟨f1,fun f' hf=>⟨h1 f' hf,fun _ _ h=> absurd h hl⟩⟩
 · refine⟨f1,fun f' hf=>⟨h1 f' hf,fun s hs=> ?_⟩⟩
   exfalso
   obtain⟨r,hr⟩:=h1 f1 (Nat.le_refl _);have:=q129 hf (ctxE G) (enc A) r hr;rw[this] at hs;rw[hr] at hb;exact hb ⟨s,hs⟩
theorem q13{k n:Int}{ks:List Tr}{x:Tr}(h:valid sigT (.mk k n ks)=true)(hm:x∈ks):valid sigT x=true:=q62 h hm
def EndW(G:List M.Tm)(t:M.Tm):Prop:=valid sigT (enc t)=true->End (ctxE G) (enc t)
theorem endW(hG:q27 G)(hL: ∀A,TyB G A->valid sigT (enc A)=true->G.length < 20-> ∀t,valid sigT (enc t)=true->End (ctxE (A::G)) (enc t)):WOk G (EndW G) where
 var:=fun n hv=> End.of (f:=1) ⟨_,rfl⟩
 sort:=fun n hv=> End.of (f:=1) ⟨(if(n:Int)=3 then(j14,(1:Int)) else(srtT ((n:Int)+1),0)),by simp[enc,infV,judV]⟩
 nat:=fun hv=> End.of (f:=1) ⟨_,rfl⟩
 zero:=fun hv=> End.of (f:=1) ⟨_,rfl⟩
 succ:=fun{a} h hv=> by
  obtain⟨f,h1⟩:=(h (q13 hv (by simp))).at;exact End.of (f:=f+1) ((h1 f (Nat.le_refl _)).chk natT (Is.mk _))
 pi:=fun{A} B h hv=> by
  obtain⟨f,h1⟩:=q124 hG hL (q13 hv (by simp)) (h (q13 hv (by simp))) B (q13 hv (by simp));obtain⟨h2,h3⟩:=h1 f (Nat.le_refl _);exact End.of (f:=f+1) ((h2.frm 2).thn fun s hs=>((y64 rfl (h3 s hs)).frm 2).thn fun _ _=> Is.mk _)
 sg:=fun{A} B h hv=> by
  obtain⟨f,h1⟩:=q124 hG hL (q13 hv (by simp)) (h (q13 hv (by simp))) B (q13 hv (by simp));obtain⟨h2,h3⟩:=h1 f (Nat.le_refl _);exact End.of (f:=f+1) ((h2.frm 2).thn fun s hs=>((y64 rfl (h3 s hs)).frm 2).thn fun _ _=> Is.mk _)
 lam:=fun{A} t h hv=> by
  have hA:=q13 hv (show enc A∈ [enc A,enc t] by simp);obtain⟨f,h1⟩:=q124 hG hL hA (h hA) t (q13 hv (by simp));obtain⟨h2,h3⟩:=h1 f (Nat.le_refl _);by_cases hb: ∃s b,frmV (infV f (ctxE G) (enc A)) 2=some (s,0)/\tyV (infV f) (ctxE G) 4 [enc A,enc t] 1=some (b,0)/\valid sigT (.mk 3 0 [enc A,b])=true
  · obtain⟨s,b,e1,e2,e3⟩:=hb
    obtain⟨S,i,-,-,-,-,bA,-⟩:=q37 (snd f) hG hA e1;have hl:G.length < 20:=by have:=(uty rfl e2).1;rwa [q39] at this
    obtain⟨B,rfl,-,-,vB⟩:=snd f (A::G) t b (hG.cons bA hA) (q13 hv (by simp)) (y94 rfl e2);obtain⟨f2,h4⟩:=q124 hG hL hA (h hA) B vB;refine End.of (f:=max f f2+2) ?_;obtain⟨r2,-⟩:=h1 (max f f2+1) (by omega);refine(r2.frm 2).thn fun s' e4=>(y64 rfl fun hl'=>(h1 (max f f2+1) (by omega)).2 s' e4 hl').thn fun b' e5=>(Is.mk _).thn fun o eo=> ?_
    have e6:b'=enc B:=by
     have h7:tyV (infV (max f f2+1)) (ctxE G) 4 [enc A,enc t] 1=some (enc B,0):=by
      have h8:=(uty rfl e2).2;rw[y93 _ _ rfl,if_neg (by rw[q39];omega)];exact q129 (by omega) _ _ _ h8
     rw[h7] at e5
     simpa using e5.symm
    subst e6;obtain⟨v,rfl⟩:=j29 eo;refine Is.thn ?_ fun _ _=> Is.mk _
    obtain⟨r3,r4⟩:=h4 (max f f2) (by omega);exact(r3.frm 2).thn fun s hs=>((y64 (f:=max f f2) rfl (r4 s hs)).frm 2).thn fun _ _=> Is.mk _
  · refine End.of (f:=f+1) ?_
    refine(h2.frm 2).thn fun s e1=>(y64 rfl (h3 s e1)).thn fun b e2=>(Is.mk _).thn fun o eo=> ?_
    obtain⟨v,-⟩:=j29 eo;exact absurd ⟨s,b,e1,e2,v⟩ hb
 app:=fun{g a} h k hv=> by
  obtain⟨f1,h1⟩:=(h (q13 hv (by simp))).at;obtain⟨f2,h2⟩:=(k (q13 hv (by simp))).at;exact End.of (f:=max f1 f2+1) (((h1 _ (Nat.le_max_left ..)).frm 3).thn fun _ _=>(h2 _ (Nat.le_max_right ..)).chk _ (Is.mk _))
 elim:=fun{p z s a} h1 h2 h3 h4 hv=> by
  obtain⟨f1,g1⟩:=(h1 (q13 hv (by simp))).at;obtain⟨f2,g2⟩:=(h2 (q13 hv (by simp))).at;obtain⟨f3,g3⟩:=(h3 (q13 hv (by simp))).at;obtain⟨f4,g4⟩:=(h4 (q13 hv (by simp))).at;exact End.of (f:=f1+f2+f3+f4+1) ((g1 _ (by omega)).fam _ ((Is.mk _).thn fun _ _=>(g2 _ (by omega)).chk _ ((Is.mk _).thn fun _ _=>(g3 _ (by omega)).chk _ ((g4 _ (by omega)).chk _ (Is.mk _)))))
 id:=fun{T a b} h1 h2 h3 hv=> by
  obtain⟨f1,g1⟩:=(h1 (q13 hv (by simp))).at;obtain⟨f2,g2⟩:=(h2 (q13 hv (by simp))).at;obtain⟨f3,g3⟩:=(h3 (q13 hv (by simp))).at;exact End.of (f:=f1+f2+f3+1) (((g1 _ (by omega)).frm 2).thn fun _ _=>(g2 _ (by omega)).chk _ ((g3 _ (by omega)).chk _ (Is.mk _)))
 refl:=fun{a} h k hv=> by
  have ha:=q13 hv (show enc a∈ [enc a] by simp);obtain⟨f1,g1⟩:=(h ha).at;by_cases hb: ∃s,infV f1 (ctxE G) (enc a)=some (s,0)
  · obtain⟨s,e⟩:=hb
    obtain⟨A,rfl,tA,-,vA⟩:=snd f1 G a s hG ha e;obtain⟨f2,g2⟩:=(k A tA vA).at;refine End.of (f:=f1+f2+1) ((g1 _ (by omega)).thn fun s' e'=> ?_);have:s'=enc A:=by
     have:=q129 (show f1<=f1+f2 by omega) _ _ _ e;rw[show infV (f1+f2) (ctxE G) (enc a)=some (s',0) from e'] at this
     simpa using this
    subst this;exact((g2 (f1+f2) (by omega)).frm 2).thn fun _ _=> Is.mk _
  · refine End.of (f:=f1+1) ((g1 _ (by omega)).thn fun s' e'=> ?_)
    exact absurd ⟨s',e'⟩ hb
 move:=fun{p e a} h1 h2 h3 hv=> by
  obtain⟨f1,g1⟩:=(h1 (q13 hv (by simp))).at;obtain⟨f2,g2⟩:=(h2 (q13 hv (by simp))).at;obtain⟨f3,g3⟩:=(h3 (q13 hv (by simp))).at;exact End.of (f:=f1+f2+f3+1) (((g2 _ (by omega)).frm 10).thn fun _ _=>(g1 _ (by omega)).fam _ ((Is.mk _).thn fun _ _=>(g3 _ (by omega)).chk _ (Is.mk _)))
 pair:=fun{T a b} h1 h2 h3 hv=> by
  obtain⟨f1,g1⟩:=(h1 (q13 hv (by simp))).at;obtain⟨f2,g2⟩:=(h2 (q13 hv (by simp))).at;obtain⟨f3,g3⟩:=(h3 (q13 hv (by simp))).at;exact End.of (f:=f1+f2+f3+1) (((g1 _ (by omega)).frm 2).thn fun _ _=>(Is.mk _).thn fun _ _=>(g2 _ (by omega)).chk _ ((Is.mk _).thn fun _ _=>(g3 _ (by omega)).chk _ (Is.mk _)))
 fst:=fun{a} h hv=> by
  obtain⟨f,h1⟩:=(h (q13 hv (by simp))).at;exact End.of (f:=f+1) (((h1 f (Nat.le_refl _)).frm 13).thn fun _ _=> Is.mk _)
 snd:=fun{a} h hv=> by
  obtain⟨f,h1⟩:=(h (q13 hv (by simp))).at;exact End.of (f:=f+1) (((h1 f (Nat.le_refl _)).frm 13).thn fun _ _=> Is.mk _)
end
theorem q153: ∀(d:Nat) (G:List M.Tm),20<=G.length+d->q27 G-> ∀t,EndW G t:=by
 intro d
 induction d with
 |zero=>
  intro G hd hG;have hL: ∀A,TyB G A->valid sigT (enc A)=true->G.length < 20-> ∀t,valid sigT (enc t)=true->End (ctxE (A::G)) (enc t):=fun A _ _ h=> by omega
  exact fun t=> M.allW (endW hG hL) hG.wf.wf t
 |succ d ih=>
  intro G hd hG;have hL: ∀A,TyB G A->valid sigT (enc A)=true->G.length < 20-> ∀t,valid sigT (enc t)=true->End (ctxE (A::G)) (enc t):=fun A b v h t=> ih (A::G) (by simp only[List.length_cons];omega) (hG.cons b v) t
  exact fun t=> M.allW (endW hG hL) hG.wf.wf t
end Go.Proofs.YtdkamgafpphdjaaGreat
namespace Go.Proofs.YtdkamgafpphdjaaGreat
open Go.RowKit
set_option linter.unusedVariables false
theorem mkV_yes{t:Tr}(h:valid sigT t=true):mkV t=(t,0):=if_pos h
theorem mkV_not{t:Tr}(h:valid sigT t=false):mkV t=(j14,2):=if_neg (by rw[h];decide)
set_option maxRecDepth 100000 in
set_option maxHeartbeats 1000000 in
theorem j114(t:Tr)(ok:Bool)(w0:World)(N:Nat->Prop)(v:Value)(hin:InT w0 N t v):Calls Tryz.prog 146 #[v, .bool ok] w0 (AnQ N w0 (if ok=true then mkV t else(j14,2))):=by
 have HV:=hdq (fun W (hW:Ext w0 W)=> q18 t W v (hin.lies'.ext hW));have HIN:=hdq hin;obtain⟨z,hz⟩: ∃z,valid sigT t=z:=⟨_,rfl⟩;rw[hz] at HV;obtain⟨k,n,ks⟩:=t;obtain⟨A,cap,rfl,hl,hc,hK⟩:=InT.mk_iff.1 hin;clear hin;cases ok with
 |false=>
  rw[if_neg (by simp)];clear hz;go_enter Tryz.func146,Tryz.ntmps146;go_wp2_with fail;exact bodyPost_ret (v:= .tuple #[.agg #[.int .i64 0, .int .i64 0, .slice none 0 0], .int .i64 2]) (by simp[results,Tryz.results146,go_sem]) rfl ⟨_,rfl,y21 _ _ 0 0,(((xr _).alloc _).alloc _)⟩
 |true=>
  rw[if_pos rfl];obtain⟨w1,hw1⟩: ∃x,x=((w0.alloc (.cells #[.int .i64 k, .int .i64 n, .slice A ks.length cap] 25)).alloc (.cells #[.int .i64 0, .int .i64 0, .slice none 0 0] 25)):=⟨_,rfl⟩;obtain⟨bt_1,br_1,s1,e1⟩:=box2 hw1;cases z with
  |false=>
   rw[mkV_not hz];clear hz;go_enter Tryz.func146,Tryz.ntmps146;go_wp2_with fail;rw[<-hw1];clear hw1;refine(HV.out _ e1).mono ?_;rintro e w2 ⟨rfl,e2⟩;have s2:=e2.size;have bt_2:=e2.blk bt_1;obtain⟨zt0,zt1,zt2,-⟩:=own3 bt_2;have lt:=q10 bt_2;have br_2:=e2.blk br_1;obtain⟨zr0,zr1,zr2,yr0,yr1,yr2⟩:=own3 br_2;have lr:=q10 br_2;have X0_1:=e1;have X0_2:=X0_1.trans e2;go_wp2_with fail;refine bodyPost_ret (v:= .tuple #[.agg #[.int .i64 0, .int .i64 0, .slice none 0 0], .int .i64 2]) (by simp[results,Tryz.results146,go_sem,zr0,zr1,zr2]) rfl ⟨_,rfl,y21 _ _ 0 0,(X0_2.set3 (by omega) _ _ _)⟩
  |true=>
   rw[mkV_yes hz];clear hz;go_enter Tryz.func146,Tryz.ntmps146;go_wp2_with fail;rw[<-hw1];clear hw1;refine(HV.out _ e1).mono ?_;rintro e w2 ⟨rfl,e2⟩;have s2:=e2.size;have X0_1:=e1;have X0_2:=X0_1.trans e2;have bt_2:=e2.blk bt_1;obtain⟨zt0,zt1,zt2,-⟩:=own3 bt_2;have lt:=q10 bt_2;have br_2:=e2.blk br_1;obtain⟨zr0,zr1,zr2,yr0,yr1,yr2⟩:=own3 br_2;have lr:=q10 br_2;go_wp2_with fail;refine bodyPost_ret (v:= .tuple #[.agg #[.int .i64 k, .int .i64 n, .slice A ks.length cap], .int .i64 0]) (by simp[results,Tryz.results146,go_sem,zr0,zr1,zr2]) rfl ⟨_,rfl,InT.ret (InT.keep HIN.out X0_2 (show w0.heap.size<=w0.heap.size+1 from Nat.le_succ _)) _ _ _,(X0_2.set3 (by omega) _ _ _)⟩
set_option maxRecDepth 100000 in
set_option maxHeartbeats 1000000 in
theorem q91(a b:Tr)(w0:World)(va vb:Value)(ha:Lies w0 a va)(hb:Lies w0 b vb):Calls Tryz.prog 104 #[va,vb] w0 fun e w'=> e= .returned (.int .i64 (cvtV a b))/\Ext w0 w':=by
 have HC:=hdq (fun W (hW:Ext w0 W)=> y102 a b 200 W va vb (ha.ext hW) (hb.ext hW));obtain⟨c,hcc⟩: ∃c,y96 a b 200=c:=⟨_,rfl⟩;rw[hcc] at HC;have h1:c=1->cvtV a b=0:=fun h=> by unfold cvtV;rw[hcc,if_pos h]
 have h2: ¬c=1->c=2->cvtV a b=1:=fun h h'=> by unfold cvtV;rw[hcc,if_neg h,if_pos h']
 have h3: ¬c=1-> ¬c=2->cvtV a b=2:=fun h h'=> by unfold cvtV;rw[hcc,if_neg h,if_neg h']
 generalize cvtV a b=R at h1 h2 h3⊢;clear hcc;obtain⟨k,n,ks⟩:=a;obtain⟨A,cap,rfl,hl,hc,hK⟩:=Lies.mk_iff.1 ha;obtain⟨k2,n2,ks2⟩:=b;obtain⟨A2,cap2,rfl,hl2,hc2,hK2⟩:=Lies.mk_iff.1 hb;clear ha hb;obtain⟨w1,hw1⟩: ∃x,x=((w0.alloc (.cells #[.int .i64 k, .int .i64 n, .slice A ks.length cap] 25)).alloc (.cells #[.int .i64 k2, .int .i64 n2, .slice A2 ks2.length cap2] 25)):=⟨_,rfl⟩;obtain⟨ba_1,bb_1,s1,e1⟩:=box2 hw1;by_cases hc1:c=1
 · obtain rfl:=h1 hc1
   clear h1 h2 h3;subst hc1;go_enter Tryz.func104,Tryz.ntmps104;go_wp2_with fail;rw[<-hw1];clear hw1;refine(HC.out _ e1).mono ?_;rintro e w2 ⟨rfl,e2⟩;go_wp2_with fail;go_ret;exact⟨rfl,(e1.trans e2)⟩
 have t1:(c==1)=false:=beq_eq_false_iff_ne.2 hc1;by_cases hc2:c=2
 · obtain rfl:=h2 hc1 hc2
   clear h1 h2 h3 t1 hc1;subst hc2;go_enter Tryz.func104,Tryz.ntmps104;go_wp2_with fail;rw[<-hw1];clear hw1;refine(HC.out _ e1).mono ?_;rintro e w2 ⟨rfl,e2⟩;go_wp2_with fail;go_ret;exact⟨rfl,(e1.trans e2)⟩
 have t2:(c==2)=false:=beq_eq_false_iff_ne.2 hc2;obtain rfl:=h3 hc1 hc2;clear h1 h2 h3 hc1 hc2;go_enter Tryz.func104,Tryz.ntmps104;go_wp2_with fail;rw[<-hw1];clear hw1;refine(HC.out _ e1).mono ?_;rintro e w2 ⟨rfl,e2⟩;go_wp2_with fail;go_ret;exact⟨rfl,(e1.trans e2)⟩
set_option maxRecDepth 100000 in
set_option maxHeartbeats 1000000 in
theorem j66(t:Tr)(kind:Int)(w0:World)(N:Nat->Prop)(hN: ∀b,w0.heap.size<=b->N b)(v:Value)(hin:Lies w0 t v):Calls Tryz.prog 107 #[v, .int .i64 kind] w0 (AnQ N w0 (shpV t kind)):=by
 have HC:=hdq (fun W (hW:Ext w0 W)=> j105 t 200 W v (hin.ext hW));have HN:=hdq hN;obtain⟨⟨⟨k3,n3,ks3⟩,c⟩,hq⟩: ∃q,hnfV t 200=q:=⟨_,rfl⟩;rw[hq] at HC;have h1: ¬c=0->shpV t kind=(j14,2):=fun h=> by unfold shpV;rw[hq,if_pos h]
 have h2:c=0-> ¬k3=kind->shpV t kind=(j14,1):=fun h h'=> by unfold shpV;rw[hq,if_neg (by simpa using h)];exact if_pos h'
 have h3:c=0->k3=kind->shpV t kind=(.mk k3 n3 ks3,0):=fun h h'=> by unfold shpV;rw[hq,if_neg (by simpa using h)];exact if_neg (fun hne=> hne h')
 generalize shpV t kind=R at h1 h2 h3⊢;clear hN hq;obtain⟨k,n,ks⟩:=t;obtain⟨A,cap,rfl,hl,hc,hK⟩:=Lies.mk_iff.1 hin;clear hin;obtain⟨w1,hw1⟩: ∃x,x=((w0.alloc (.cells #[.int .i64 k, .int .i64 n, .slice A ks.length cap] 25)).alloc (.cells #[.int .i64 0, .int .i64 0, .slice none 0 0] 25)):=⟨_,rfl⟩;obtain⟨bt_1,br_1,s1,e1⟩:=box2 hw1;by_cases hc0:c=0
 · by_cases hk:k3=kind
   · obtain rfl:=h3 hc0 hk
     subst hc0;subst hk;clear h1 h2 h3;have t1:(k3 !=k3)=false:=by simp
     go_enter Tryz.func107,Tryz.ntmps107;go_wp2_with fail;rw[<-hw1];clear hw1;refine(HC.out _ e1).mono ?_;rintro e w2 ⟨r,rfl,hM,e2⟩;have s2:=e2.size;have HT:InT w2 (fun b=> N b/\b≠w0.heap.size+1) (.mk k3 n3 ks3) r:=hM.at' (newN HN.out e1.size (by omega));obtain⟨A3,cap3,rfl,hl3,hc3,hK3⟩:=InT.mk_iff.1 HT;have HTT:=hdq HT;clear HT hM hK3;have bt_2:=e2.blk bt_1;obtain⟨zt0,zt1,zt2,-⟩:=own3 bt_2;have lt:=q10 bt_2;have br_2:=e2.blk br_1;obtain⟨zr0,zr1,zr2,yr0,yr1,yr2⟩:=own3 br_2;have lr:=q10 br_2;clear lr;have eq2:Ext w2 (w2.alloc (.cells #[.int .i64 k3, .int .i64 n3, .slice A3 ks3.length cap3] 25)):=(xr w2).alloc _;have X0_1:=e1;have X0_2:=X0_1.trans e2;obtain⟨pr0,pr1,pr2,or0,or1,or2⟩:=own3 (eq2.blk br_2);go_wp2_with fail;refine bodyPost_ret (v:= .tuple #[.agg #[.int .i64 k3, .int .i64 n3, .slice A3 ks3.length cap3], .int .i64 0]) (by simp[results,Tryz.results107,go_sem,pr0,pr1,pr2]) rfl ⟨_,rfl,InT.ret (InT.later HTT.out ((xr _).alloc _)) _ _ _,((((X0_2.trans eq2).setCell (by simp;try omega) _).setCell (by simp;try omega) _).setCell (by simp;try omega) _)⟩
   · obtain rfl:=h2 hc0 hk
     subst hc0;clear h1 h2 h3;have t1:(k3 !=kind)=true:=by simp[hk]
     clear hk;go_enter Tryz.func107,Tryz.ntmps107;go_wp2_with fail;rw[<-hw1];clear hw1;refine(HC.out _ e1).mono ?_;rintro e w2 ⟨r,rfl,hM,e2⟩;have s2:=e2.size;have HT:InT w2 (fun b=> N b/\b≠w0.heap.size+1) (.mk k3 n3 ks3) r:=hM.at' (newN HN.out e1.size (by omega));obtain⟨A3,cap3,rfl,hl3,hc3,hK3⟩:=InT.mk_iff.1 HT;have HTT:=hdq HT;clear HT hM hK3;have bt_2:=e2.blk bt_1;obtain⟨zt0,zt1,zt2,-⟩:=own3 bt_2;have lt:=q10 bt_2;have br_2:=e2.blk br_1;obtain⟨zr0,zr1,zr2,yr0,yr1,yr2⟩:=own3 br_2;have lr:=q10 br_2;clear lr;have eq2:Ext w2 (w2.alloc (.cells #[.int .i64 k3, .int .i64 n3, .slice A3 ks3.length cap3] 25)):=(xr w2).alloc _;have X0_1:=e1;have X0_2:=X0_1.trans e2;obtain⟨pr0,pr1,pr2,or0,or1,or2⟩:=own3 (eq2.blk br_2);go_wp2_with fail;refine bodyPost_ret (v:= .tuple #[.agg #[.int .i64 0, .int .i64 0, .slice none 0 0], .int .i64 1]) (by simp[results,Tryz.results107,go_sem,pr0,pr1,pr2]) rfl ⟨_,rfl,y21 _ _ 0 0,((((X0_2.trans eq2).setCell (by simp;try omega) _).setCell (by simp;try omega) _).setCell (by simp;try omega) _)⟩
 · obtain rfl:=h1 hc0
   clear h1 h2 h3;have t1:(c !=0)=true:=by simp[hc0]
   clear hc0;go_enter Tryz.func107,Tryz.ntmps107;go_wp2_with fail;rw[<-hw1];clear hw1;refine(HC.out _ e1).mono ?_;rintro e w2 ⟨r,rfl,hM,e2⟩;have s2:=e2.size;have HT:InT w2 (fun b=> N b/\b≠w0.heap.size+1) (.mk k3 n3 ks3) r:=hM.at' (newN HN.out e1.size (by omega));obtain⟨A3,cap3,rfl,hl3,hc3,hK3⟩:=InT.mk_iff.1 HT;have HTT:=hdq HT;clear HT hM hK3;have bt_2:=e2.blk bt_1;obtain⟨zt0,zt1,zt2,-⟩:=own3 bt_2;have lt:=q10 bt_2;have br_2:=e2.blk br_1;obtain⟨zr0,zr1,zr2,yr0,yr1,yr2⟩:=own3 br_2;have lr:=q10 br_2;clear lr;have eq2:Ext w2 (w2.alloc (.cells #[.int .i64 k3, .int .i64 n3, .slice A3 ks3.length cap3] 25)):=(xr w2).alloc _;have X0_1:=e1;have X0_2:=X0_1.trans e2;obtain⟨pr0,pr1,pr2,or0,or1,or2⟩:=own3 (eq2.blk br_2);go_wp2_with fail;refine bodyPost_ret (v:= .tuple #[.agg #[.int .i64 0, .int .i64 0, .slice none 0 0], .int .i64 2]) (by simp[results,Tryz.results107,go_sem,pr0,pr1,pr2]) rfl ⟨_,rfl,y21 _ _ 0 0,((((X0_2.trans eq2).setCell (by simp;try omega) _).setCell (by simp;try omega) _).setCell (by simp;try omega) _)⟩
set_option maxRecDepth 100000 in
set_option maxHeartbeats 1000000 in
theorem y75(n:Int)(w:World):Calls Tryz.prog 166 #[.int .i64 n] w fun e w'=> e= .returned (.agg #[.int .i64 2, .int .i64 n, .slice none 0 0])/\Ext w w':=by
 go_enter Tryz.func166,Tryz.ntmps166;go_wp2_with fail;exact bodyPost_ret (v:= .agg #[.int .i64 2, .int .i64 n, .slice none 0 0]) (by simp[results,Tryz.results166,go_sem]) rfl ⟨rfl,(xr w).alloc _⟩
set_option maxRecDepth 100000 in
set_option maxHeartbeats 1000000 in
theorem j110(t:Tr)(w0:World)(N:Nat->Prop)(v:Value)(hin:InT w0 N t v):Calls Tryz.prog 172 #[v] w0 fun e w'=> ∃u,e= .returned u/\InT w' N (kd t.kids 0) u/\Ext w0 w':=by
 obtain⟨k,n,ks⟩:=t;obtain⟨A,cap,rfl,hl,hc,hK⟩:=InT.mk_iff.1 hin;have hcc:=hc;unfold maxLen at hcc;have hkids:(Tr.mk k n ks).kids=ks:=rfl;rw[hkids];clear hin hkids;by_cases hz:ks.length=0
 · have h0:kd ks 0=j14:=y134 (by omega)
   rw[h0];generalize ks.length=len at hz hl;subst hz;go_enter Tryz.func172,Tryz.ntmps172;go_wp2_with fail;exact bodyPost_ret (v:= .agg #[.int .i64 0, .int .i64 0, .slice none 0 0]) (by simp[results,Tryz.results172,go_sem]) rfl ⟨_,rfl,y21 _ _ 0 0,(((xr _).alloc _).alloc _)⟩
 · have hx:=((xr w0).alloc (.cells #[.int .i64 k, .int .i64 n, .slice A ks.length cap] 25)).alloc (.cells #[.int .i64 0, .int .i64 0, .slice none 0 0] 25)
   obtain⟨b,o,k1,n1,A1,p1,kids1,rfl,HK1,c0,c1,c2,l1,m1,hK1,hin1,hmem1,hSb⟩:=hK.get (fun b _=> rfl) (j:=0) (by omega);simp only[Nat.zero_mul,Nat.add_zero] at c0 c1 c2;have d0:=hx.cell c0;have d1:=hx.cell c1;have d2:=hx.cell c2;have hkd:kd ks 0= .mk k1 n1 kids1:=j37 (by omega) HK1.out;rw[hkd];have hpos:(0:Int) <(ks.length:Int):=by omega
   have hpos2:0 < ks.length:=by omega
   have hne:(((ks.length:Int))==0)=false:=beq_eq_false_iff_ne.2 (by omega);have HI:=hdq hin1;clear hkd HK1 hK hK1 hin1 hmem1 hz c0 c1 c2;go_enter Tryz.func172,Tryz.ntmps172;go_wp2_with fail;refine bodyPost_ret (v:= .agg #[.int .i64 k1, .int .i64 n1, .slice A1 kids1.length p1]) (by simp[results,Tryz.results172,go_sem]) rfl ⟨_,rfl,InT.later HI.out ?_, ?_⟩
   all_goals exact(((xr _).alloc _).alloc _)
end Go.Proofs.YtdkamgafpphdjaaGreat
namespace Go.Proofs.YtdkamgafpphdjaaGreat
open Go.RowKit
set_option linter.unusedVariables false
open M (Hd HR Cv Ty Lim WfL TyB Lev)
theorem j124{t:Tr}(h:valid sigT t=true): ∃m,t=enc m:=by
 obtain⟨m,e⟩:=enc_of _ _ (q12 h).1;exact⟨m,e.symm⟩
def ccR(f:Nat):List Tr->List Tr->An
 |_, []=> some (j14,0)
 |done,t::ts=> thn (frmV (infV f done t) 2) fun _=> ccR f (done++ [t]) ts
def ccV(f:Nat)(ctx:List Tr):An:=if y36 ctx=true then ccR f [] ctx else some (j14,3)
def rdyV(f:Nat)(ctx l:List Tr):An:=match ccV f ctx with
 |none=> none
 |some r=> if l.all (fun t=> valid sigT t)=true then some r else some (j14,3)
def itV(f:Nat)(ctx:List Tr)(t:Tr):An:=thn (rdyV f ctx [t]) fun _=> thn (infV f ctx t) fun s=> some (s,0)
theorem LeA.ccR{f f':Nat}(h:f<=f'): ∀ts done:List Tr,LeA (ccR f done ts) (ccR f' done ts)
 | [],done=> LeA.rfl' _
 |t::ts,done=>((q129 h done t).frm 2).thn fun _=> LeA.ccR h ts _
theorem q170{f:Nat}: ∀(ts:List Tr) (G:List M.Tm) (u:Tr),q27 G->(∀t∈ts,valid sigT t=true)->ccR f (ctxE G) ts=some (u,0)-> ∃D,ctxE D=ctxE G++ts/\q27 D
 | [],G,u,hG,hv,h=>⟨G,by simp,hG⟩
 |t::ts,G,u,hG,hv,h=> by
  obtain⟨s,h1,h2⟩:=j17 h;obtain⟨A,rfl⟩:=j124 (hv t (by simp));obtain⟨S,i,-,-,-,-,b,-⟩:=q37 (snd f) hG (hv _ (by simp)) h1;rw[<-y29] at h2;obtain⟨D,h3,h4⟩:=q170 ts (A::G) u (hG.cons b (hv _ (by simp))) (fun x hx=> hv x (by simp[hx])) h2;exact⟨D,by rw[h3,y29];simp,h4⟩
theorem y184{f:Nat}{ctx:List Tr}{u:Tr}(h:ccV f ctx=some (u,0)): ∃G,ctx=ctxE G/\q27 G/\G.length<=8:=by
 unfold ccV at h
 split at h
 · rename_i hf
   obtain⟨h1,h2⟩:=q42 hf;obtain⟨D,h3,h4⟩:=q170 ctx [] u q27.nil h2 h;have e:ctx=ctxE D:=by rw[h3];simp[ctxE]
   exact⟨D,e,h4,by rw[<-q39,<-e];exact h1⟩
 · simp at h
theorem j95{f:Nat}{ctx l:List Tr}{u:Tr}(h:rdyV f ctx l=some (u,0)):ccV f ctx=some (u,0)/\ ∀t∈l,valid sigT t=true:=by
 unfold rdyV at h;cases e:ccV f ctx with
 |none=> rw[e] at h;cases h
 |some r=>
  rw[e] at h;simp only at h
  split at h
  · rename_i hv
    exact⟨h,by simpa using hv⟩
  · simp at h
theorem itV_snd{f:Nat}{ctx:List Tr}{t s:Tr}(h:itV f ctx t=some (s,0)): ∃G a A,ctx=ctxE G/\q27 G/\G.length<=8/\t=enc a/\valid sigT t=true/\s=enc A/\Ty G a A/\Lim G a/\valid sigT s=true/\infV f ctx t=some (s,0):=by
 obtain⟨u,h1,h2⟩:=j17 h;obtain⟨h3,h4⟩:=j95 h1;obtain⟨G,rfl,hG,h8⟩:=y184 h3;have hv:=h4 t (by simp);obtain⟨a,rfl⟩:=j124 hv;obtain⟨s',h5,h6⟩:=j17 h2;obtain rfl:s'=s:=by simpa using h6
 obtain⟨A,rfl,tA,lA,vA⟩:=snd f G a _ hG hv h5;exact⟨G,a,A,rfl,hG,h8,rfl,hv,rfl,tA,lA,vA,h5⟩
theorem q27.tail{A:M.Tm}{G:List M.Tm}(h:q27 (A::G)):q27 G/\TyB G A/\valid sigT (enc A)=true:=
 ⟨⟨fun n B hB=> by simpa using h.wf (n+1) B (by simpa using hB),fun B hB=> h.vd B (by simp[hB])⟩,by simpa using h.wf 0 A rfl,h.vd A (by simp)⟩
theorem lev_nb{f:Nat}{G:List M.Tm}{A:M.Tm}(hG:q27 G)(hA:TyB G A)(hv:valid sigT (enc A)=true):Nb (frmV (infV f (ctxE G) (enc A)) 2):=by
 obtain⟨lA,k,hk,S,tA,r⟩:=hA;refine(j151 f G A S hG hv tA lA).frm fun s e=> ?_
 obtain⟨rfl,-⟩:=q56 hG hv tA e;exact⟨S, .sort k,rfl,r,by simp[M.hk],rfl⟩
theorem q188(f:Nat): ∀(xs done ys:List Tr),ccR f done (xs++ys)=thn (ccR f done xs) fun _=> ccR f (done++xs) ys
 | [],done,ys=> by simp[ccR,thn]
 |x::xs,done,ys=> by
  rw[List.cons_append,ccR,ccR];have:=fun s:Tr=> q188 f xs (done++ [x]) ys
  simp only[List.append_assoc,List.singleton_append] at this;unfold thn;cases frmV (infV f done x) 2 with
  |none=> rfl
  |some y=>
   obtain⟨s,c⟩:=y;simp only
   split
   · rw[this s]
     rfl
   · rename_i hc
     simp only;rw[if_neg hc]
theorem ccR_nb{f:Nat}: ∀G:List M.Tm,q27 G->Nb (ccR f [] (ctxE G))
 | [],h=> Nb.ok _
 |A::G,h=> by
  obtain⟨h1,h2,h3⟩:=h.tail;rw[y29,q188];refine(ccR_nb G h1).thn fun _ _=> ?_
  rw[List.nil_append,ccR];exact(lev_nb h1 h2 h3).thn fun _ _=> Nb.ok _
theorem y192{G:List M.Tm}(h:q27 G)(h8:G.length<=8):y36 (ctxE G)=true:=by
 unfold y36;rw[Bool.and_eq_true,decide_eq_true_eq,q39];refine⟨h8, ?_⟩;simp only[Bool.not_eq_true',List.any_eq_false];intro t ht;unfold ctxE at ht;rw[List.mem_reverse,List.mem_map] at ht;obtain⟨A,hA,rfl⟩:=ht;simp[h.vd A hA]
theorem rdyV_nb{f:Nat}{G:List M.Tm}(h:q27 G)(h8:G.length<=8){l:List Tr}(hl: ∀t∈l,valid sigT t=true):Nb (rdyV f (ctxE G) l):=by
 have h1:=ccR_nb (f:=f) G h;unfold rdyV ccV;rw[if_pos (y192 h h8)];cases e:ccR f [] (ctxE G) with
 |none=> intro s c hh;cases hh
 |some r=>
  rw[e] at h1;simp only;rw[if_pos (by simpa using hl)];exact h1
theorem itV_nb{f:Nat}{G:List M.Tm}(h:q27 G)(h8:G.length<=8){t A:M.Tm}(hv:valid sigT (enc t)=true)(tA:Ty G t A)(lA:Lim G t):Nb (itV f (ctxE G) (enc t)):=
 (rdyV_nb h h8 (by simpa using hv)).thn fun _ _=>(j151 f G t A h hv tA lA).thn fun s _=> Nb.ok _
theorem j154: ∀(ts:List Tr) (G:List M.Tm),q27 G->(∀t∈ts,valid sigT t=true)-> ∃f,Is (ccR f (ctxE G) ts)
 | [],G,hG,hv=>⟨0,Is.mk _⟩
 |t::ts,G,hG,hv=> by
  have v:=hv t (by simp);obtain⟨A,rfl⟩:=j124 v;obtain⟨f1,h1⟩:=(q153 20 G (by omega) hG A v).at;by_cases hb: ∃f s,frmV (infV f (ctxE G) (enc A)) 2=some (s,0)
  · obtain⟨f0,s0,hs⟩:=hb
    obtain⟨S,i,-,-,-,-,b,-⟩:=q37 (snd f0) hG v hs;obtain⟨f2,h2⟩:=j154 ts (A::G) (hG.cons b v) (fun x hx=> hv x (by simp[hx]));refine⟨f1+f2,((h1 _ (by omega)).frm 2).thn fun s _=> ?_⟩;rw[<-y29];exact h2.le (LeA.ccR (by omega) _ _)
  · exact⟨f1,((h1 _ (Nat.le_refl _)).frm 2).thn fun s e=> absurd ⟨f1,s,e⟩ hb⟩
theorem j209(ctx:List Tr): ∃f,∀f',f<=f'->Is (ccV f' ctx):=by
 by_cases h:y36 ctx=true
 · obtain⟨f,h1⟩:=j154 ctx [] q27.nil (q42 h).2
   refine⟨f,fun f' hf=> ?_⟩;unfold ccV;rw[if_pos h];exact h1.le (LeA.ccR hf _ _)
 · refine⟨0,fun f' _=> ?_⟩
   unfold ccV;rw[if_neg h];exact Is.mk _
theorem j188(ctx l:List Tr): ∃f,∀f',f<=f'->Is (rdyV f' ctx l):=by
 obtain⟨f,h⟩:=j209 ctx;refine⟨f,fun f' hf=> ?_⟩;obtain⟨r,e⟩:=h f' hf;unfold rdyV;rw[e];simp only
 split <;> exact Is.mk _
theorem rd_ends{ctx l:List Tr}{t:Tr}(ht:valid sigT t=true): ∃f,∀f',f<=f'->(∃g u,rdyV g ctx l=some (u,0))->Is (infV f' ctx t):=by
 by_cases h: ∃g u,rdyV g ctx l=some (u,0)
 · obtain⟨g,u,h1⟩:=h
   obtain⟨G,rfl,hG,-⟩:=y184 (j95 h1).1;obtain⟨a,rfl⟩:=j124 ht;obtain⟨f,h2⟩:=(q153 20 G (by omega) hG a ht).at;exact⟨f,fun f' hf _=> h2 f' hf⟩
 · exact⟨0,fun _ _ k=> absurd k h⟩
theorem y149(ctx:List Tr)(t:Tr): ∃f,∀f',f<=f'->Is (itV f' ctx t):=by
 obtain⟨f1,h1⟩:=j188 ctx [t];by_cases hv:valid sigT t=true
 · obtain⟨f2,h2⟩:=rd_ends (ctx:=ctx) (l:= [t]) hv
   exact⟨f1+f2,fun f' hf=>(h1 f' (by omega)).thn fun s e=>(h2 f' (by omega) ⟨f',s,e⟩).thn fun _ _=> Is.mk _⟩
 · exact⟨f1,fun f' hf=>(h1 f' (by omega)).thn fun s e=> absurd ((j95 e).2 t (by simp)) hv⟩
end Go.Proofs.YtdkamgafpphdjaaGreat
