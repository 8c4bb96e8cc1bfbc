/-
  Lemmas towards the law, 31: MTot, InfA, MCk, InfB.
-/
import Derived.Test.YtbnkbepgmenblaaGreatDoorFBD
set_option linter.unusedVariables false
set_option maxHeartbeats 1000000
set_option maxRecDepth 100000
namespace Go.Proofs.YtbnkbepgmenblaaGreatDoor
open Go.RowKit
open M (Hd HR Cv Ty Lim WfL TyB Lev WOk)
def LeA(x y:An):Prop:= ∀r,x=some r->y=some r
theorem LeA.rfl'(x:An):LeA x x:=fun _ h=> h
theorem LeA.thn{x y:An}{f g:Tr->An}(h:LeA x y)(k: ∀s,LeA (f s) (g s)):LeA (thn x f) (thn y g):=by
 intro r e;cases x with
 |none=> cases e
 |some p=>
  rw[h p rfl];obtain⟨s,c⟩:=p;unfold Go.Proofs.YtbnkbepgmenblaaGreatDoor.thn at e⊢;simp only at e⊢
  split
  · rename_i hc
    rw[if_pos hc] at e;exact k s r e
  · rename_i hc
    rw[if_neg hc] at e;exact e
theorem LeA.frm{x y:An}(kind:Int)(h:LeA x y):LeA (frmV x kind) (frmV y kind):=h.thn fun _=> LeA.rfl' _
theorem LeA.chk{x y u v:An}(w:Tr)(h:LeA x y)(k:LeA u v):LeA (chkV x w u) (chkV y w v):=h.thn fun s=> by
 split
 · exact k
 · exact LeA.rfl' _
theorem LeA.fam{x y u v:An}(T:Tr)(h:LeA x y)(k:LeA u v):LeA (famV x T u) (famV y T v):=(h.frm 3).thn fun s=> by
 split
 · exact(LeA.rfl' _).thn fun _=> k
 · exact LeA.rfl' _
theorem LeA.jud{G:List Tr}{inf Cu:Tr->An}{ty ty':Nat->An}(h: ∀t,LeA (inf t) (Cu t))(k: ∀i,LeA (ty i) (ty' i))(c n:Int)(ks:List Tr):LeA (judV G inf ty c n ks) (judV G Cu ty' c n ks):=by
 unfold judV;by_cases h1:c=1
 · rw[if_pos h1,if_pos h1];exact LeA.rfl' _
 rw[if_neg h1,if_neg h1];by_cases h1:c=2
 · rw[if_pos h1,if_pos h1];exact LeA.rfl' _
 rw[if_neg h1,if_neg h1];by_cases h1:c=6
 · rw[if_pos h1,if_pos h1];exact LeA.rfl' _
 rw[if_neg h1,if_neg h1];by_cases h1:c=7
 · rw[if_pos h1,if_pos h1];exact LeA.rfl' _
 rw[if_neg h1,if_neg h1];by_cases h1:c=8
 · rw[if_pos h1,if_pos h1];exact(k 0).chk _ (LeA.rfl' _)
 rw[if_neg h1,if_neg h1];by_cases h1:c=3\/c=13
 · rw[if_pos h1,if_pos h1];exact((k 0).frm 2).thn fun _=>((k 1).frm 2).thn fun _=> LeA.rfl' _
 rw[if_neg h1,if_neg h1];by_cases h1:c=4
 · rw[if_pos h1,if_pos h1];exact((k 0).frm 2).thn fun _=>(k 1).thn fun _=>(LeA.rfl' _).thn fun o=>(h o).thn fun _=> LeA.rfl' _
 rw[if_neg h1,if_neg h1];by_cases h1:c=5
 · rw[if_pos h1,if_pos h1];exact((k 0).frm 3).thn fun _=>(k 1).chk _ (LeA.rfl' _)
 rw[if_neg h1,if_neg h1];by_cases h1:c=9
 · rw[if_pos h1,if_pos h1];exact(k 0).fam _ ((LeA.rfl' _).thn fun _=>(k 1).chk _ ((LeA.rfl' _).thn fun _=>(k 2).chk _ ((k 3).chk _ (LeA.rfl' _))))
 rw[if_neg h1,if_neg h1];by_cases h1:c=10
 · rw[if_pos h1,if_pos h1];exact((k 0).frm 2).thn fun _=>(k 1).chk _ ((k 2).chk _ (LeA.rfl' _))
 rw[if_neg h1,if_neg h1];by_cases h1:c=11
 · rw[if_pos h1,if_pos h1];exact(k 0).thn fun s=>((h s).frm 2).thn fun _=> LeA.rfl' _
 rw[if_neg h1,if_neg h1];by_cases h1:c=12
 · rw[if_pos h1,if_pos h1];exact((k 1).frm 10).thn fun _=>(k 0).fam _ ((LeA.rfl' _).thn fun _=>(k 2).chk _ (LeA.rfl' _))
 rw[if_neg h1,if_neg h1];by_cases h1:c=14
 · rw[if_pos h1,if_pos h1];exact((k 0).frm 2).thn fun _=>(LeA.rfl' _).thn fun _=>(k 1).chk _ ((LeA.rfl' _).thn fun _=>(k 2).chk _ (LeA.rfl' _))
 rw[if_neg h1,if_neg h1];exact((k 0).frm 13).thn fun _=> LeA.rfl' _
theorem q149: ∀(f:Nat) (G:List Tr) (t:Tr),LeA (infV f G t) (infV (f+1) G t)
 |0,G,t=> fun r h=> by cases h
 |f+1,G,.mk k n ks=> LeA.jud (q149 f G) (fun i=> by
  unfold tyV
  split
  · exact q149 f G _
  · split
    · exact LeA.rfl' _
    · exact q149 f _ _) k n ks
theorem y125{f f':Nat}(h:f<=f')(G:List Tr)(t:Tr):LeA (infV f G t) (infV f' G t):=by
 induction h with
 |refl=> exact LeA.rfl' _
 |step _ ih=> exact fun r e=> q149 _ G t r (ih r e)
def End(G:List Tr)(t:Tr):Prop:= ∃f r,infV f G t=some r
def Is(x:An):Prop:= ∃r,x=some r
theorem Is.mk(r:Tr×Int):Is (some r):=⟨r,rfl⟩
theorem Is.thn{x:An}{f:Tr->An}(h:Is x)(k: ∀s,x=some (s,0)->Is (f s)):Is (thn x f):=by
 obtain⟨⟨s,c⟩,e⟩:=h;subst e;unfold Go.Proofs.YtbnkbepgmenblaaGreatDoor.thn;simp only
 split
 · rename_i hc
   subst hc;exact k s rfl
 · exact Is.mk _
theorem Is.frm{x:An}(kind:Int)(h:Is x):Is (frmV x kind):=h.thn fun _ _=> Is.mk _
theorem Is.chk{x y:An}(w:Tr)(h:Is x)(k:Is y):Is (chkV x w y):=h.thn fun s _=> by
 split
 · exact k
 · exact Is.mk _
theorem Is.fam{x y:An}(T:Tr)(h:Is x)(k:Is y):Is (famV x T y):=(h.frm 3).thn fun s _=> by
 split
 · exact(Is.mk _).thn fun _ _=> k
 · exact Is.mk _
theorem Is.le{x y:An}(h:Is x)(k:LeA x y):Is y:=by
 obtain⟨r,e⟩:=h;exact⟨r,k r e⟩
theorem End.at{G:List Tr}{t:Tr}(h:End G t): ∃f,∀f',f<=f'->Is (infV f' G t):=by
 obtain⟨f,r,e⟩:=h;exact⟨f,fun f' hf=>⟨r,y125 hf G t r e⟩⟩
theorem End.of{G:List Tr}{t:Tr}{f:Nat}(h:Is (infV f G t)):End G t:=by
 obtain⟨r,e⟩:=h;exact⟨f,r,e⟩
section
variable {G : List M.Tm}
theorem q49{f:Nat}{k:Int}{A t:M.Tm}(hk:und k 1=1)(h:G.length < 20->Is (infV f (ctxE (A::G)) (enc t))):Is (tyV (infV f) (ctxE G) k [enc A,enc t] 1):=by
 rw[j111 _ _ hk]
 split
 · exact Is.mk _
 · rename_i h0
   rw[q63] at h0;rw[show ctxE G++ [kd [enc A,enc t] 0]=ctxE (A::G) from(q54 A G).symm];exact h (by omega)
theorem j109(hG:y48 G)(hL: ∀A,TyB G A->valid sigT (enc A)=true->G.length < 20-> ∀t,valid sigT (enc t)=true->End (ctxE (A::G)) (enc t)){A:M.Tm}(hA:valid sigT (enc A)=true)(h:End (ctxE G) (enc A))(t:M.Tm)(ht:valid sigT (enc t)=true):
 ∃f,∀f',f<=f'->Is (infV f' (ctxE G) (enc A))/\ ∀s,frmV (infV f' (ctxE G) (enc A)) 2=some (s,0)->G.length < 20->Is (infV f' (ctxE (A::G)) (enc t)):=by
 obtain⟨f1,h1⟩:=h.at;by_cases hb: ∃s,frmV (infV f1 (ctxE G) (enc A)) 2=some (s,0)
 · obtain⟨s,hs⟩:=hb
   obtain⟨S,i,-,-,-,-,b,-⟩:=y39 (snd f1) hG hA hs;by_cases hl:G.length < 20
   · obtain⟨f2,h2⟩:=(hL A b hA hl t ht).at
     exact⟨max f1 f2,fun f' hf=>⟨h1 f' (by omega),fun _ _ _=> h2 f' (by omega)⟩⟩
   · exact⟨f1,fun f' hf=>⟨h1 f' hf,fun _ _ h=> absurd h hl⟩⟩
 · refine⟨f1,fun f' hf=>⟨h1 f' hf,fun s hs=> ?_⟩⟩
   exfalso
   obtain⟨r,hr⟩:=h1 f1 (Nat.le_refl _);have:=y125 hf (ctxE G) (enc A) r hr;rw[this] at hs;rw[hr] at hb;exact hb ⟨s,hs⟩
theorem y12{k n:Int}{ks:List Tr}{x:Tr}(h:valid sigT (.mk k n ks)=true)(hm:x∈ks):valid sigT x=true:=j55 h hm
def EndW(G:List M.Tm)(t:M.Tm):Prop:=valid sigT (enc t)=true->End (ctxE G) (enc t)
theorem endW(hG:y48 G)(hL: ∀A,TyB G A->valid sigT (enc A)=true->G.length < 20-> ∀t,valid sigT (enc t)=true->End (ctxE (A::G)) (enc t)):WOk G (EndW G) where
 var:=fun n hv=> End.of (f:=1) ⟨_,rfl⟩
 sort:=fun n hv=> End.of (f:=1) ⟨(if(n:Int)=3 then(y14,(1:Int)) else(srtT ((n:Int)+1),0)),by simp[enc,infV,judV]⟩
 nat:=fun hv=> End.of (f:=1) ⟨_,rfl⟩
 zero:=fun hv=> End.of (f:=1) ⟨_,rfl⟩
 succ:=fun{a} h hv=> by
  obtain⟨f,h1⟩:=(h (y12 hv (by simp))).at;exact End.of (f:=f+1) ((h1 f (Nat.le_refl _)).chk natT (Is.mk _))
 pi:=fun{A} B h hv=> by
  obtain⟨f,h1⟩:=j109 hG hL (y12 hv (by simp)) (h (y12 hv (by simp))) B (y12 hv (by simp));obtain⟨h2,h3⟩:=h1 f (Nat.le_refl _);exact End.of (f:=f+1) ((h2.frm 2).thn fun s hs=>((q49 rfl (h3 s hs)).frm 2).thn fun _ _=> Is.mk _)
 sg:=fun{A} B h hv=> by
  obtain⟨f,h1⟩:=j109 hG hL (y12 hv (by simp)) (h (y12 hv (by simp))) B (y12 hv (by simp));obtain⟨h2,h3⟩:=h1 f (Nat.le_refl _);exact End.of (f:=f+1) ((h2.frm 2).thn fun s hs=>((q49 rfl (h3 s hs)).frm 2).thn fun _ _=> Is.mk _)
 lam:=fun{A} t h hv=> by
  have hA:=y12 hv (show enc A∈ [enc A,enc t] by simp);obtain⟨f,h1⟩:=j109 hG hL hA (h hA) t (y12 hv (by simp));obtain⟨h2,h3⟩:=h1 f (Nat.le_refl _);by_cases hb: ∃s b,frmV (infV f (ctxE G) (enc A)) 2=some (s,0)/\tyV (infV f) (ctxE G) 4 [enc A,enc t] 1=some (b,0)/\valid sigT (.mk 3 0 [enc A,b])=true
  · obtain⟨s,b,e1,e2,e3⟩:=hb
    obtain⟨S,i,-,-,-,-,bA,-⟩:=y39 (snd f) hG hA e1;have hl:G.length < 20:=by have:=(uty rfl e2).1;rwa [q63] at this
    obtain⟨B,rfl,-,-,vB⟩:=snd f (A::G) t b (hG.cons bA hA) (y12 hv (by simp)) (q201 rfl e2);obtain⟨f2,h4⟩:=j109 hG hL hA (h hA) B vB;refine End.of (f:=max f f2+2) ?_;obtain⟨r2,-⟩:=h1 (max f f2+1) (by omega);refine(r2.frm 2).thn fun s' e4=>(q49 rfl fun hl'=>(h1 (max f f2+1) (by omega)).2 s' e4 hl').thn fun b' e5=>(Is.mk _).thn fun o eo=> ?_
    have e6:b'=enc B:=by
     have h7:tyV (infV (max f f2+1)) (ctxE G) 4 [enc A,enc t] 1=some (enc B,0):=by
      have h8:=(uty rfl e2).2;rw[j111 _ _ rfl,if_neg (by rw[q63];omega)];exact y125 (by omega) _ _ _ h8
     rw[h7] at e5
     simpa using e5.symm
    subst e6;obtain⟨v,rfl⟩:=y37 eo;refine Is.thn ?_ fun _ _=> Is.mk _
    obtain⟨r3,r4⟩:=h4 (max f f2) (by omega);exact(r3.frm 2).thn fun s hs=>((q49 (f:=max f f2) rfl (r4 s hs)).frm 2).thn fun _ _=> Is.mk _
  · refine End.of (f:=f+1) ?_
    refine(h2.frm 2).thn fun s e1=>(q49 rfl (h3 s e1)).thn fun b e2=>(Is.mk _).thn fun o eo=> ?_
    obtain⟨v,-⟩:=y37 eo;exact absurd ⟨s,b,e1,e2,v⟩ hb
 app:=fun{g a} h k hv=> by
  obtain⟨f1,h1⟩:=(h (y12 hv (by simp))).at;obtain⟨f2,h2⟩:=(k (y12 hv (by simp))).at;exact End.of (f:=max f1 f2+1) (((h1 _ (Nat.le_max_left ..)).frm 3).thn fun _ _=>(h2 _ (Nat.le_max_right ..)).chk _ (Is.mk _))
 elim:=fun{p z s a} h1 h2 h3 h4 hv=> by
  obtain⟨f1,g1⟩:=(h1 (y12 hv (by simp))).at;obtain⟨f2,g2⟩:=(h2 (y12 hv (by simp))).at;obtain⟨f3,g3⟩:=(h3 (y12 hv (by simp))).at;obtain⟨f4,g4⟩:=(h4 (y12 hv (by simp))).at;exact End.of (f:=f1+f2+f3+f4+1) ((g1 _ (by omega)).fam _ ((Is.mk _).thn fun _ _=>(g2 _ (by omega)).chk _ ((Is.mk _).thn fun _ _=>(g3 _ (by omega)).chk _ ((g4 _ (by omega)).chk _ (Is.mk _)))))
 id:=fun{T a b} h1 h2 h3 hv=> by
  obtain⟨f1,g1⟩:=(h1 (y12 hv (by simp))).at;obtain⟨f2,g2⟩:=(h2 (y12 hv (by simp))).at;obtain⟨f3,g3⟩:=(h3 (y12 hv (by simp))).at;exact End.of (f:=f1+f2+f3+1) (((g1 _ (by omega)).frm 2).thn fun _ _=>(g2 _ (by omega)).chk _ ((g3 _ (by omega)).chk _ (Is.mk _)))
 refl:=fun{a} h k hv=> by
  have ha:=y12 hv (show enc a∈ [enc a] by simp);obtain⟨f1,g1⟩:=(h ha).at;by_cases hb: ∃s,infV f1 (ctxE G) (enc a)=some (s,0)
  · obtain⟨s,e⟩:=hb
    obtain⟨A,rfl,tA,-,vA⟩:=snd f1 G a s hG ha e;obtain⟨f2,g2⟩:=(k A tA vA).at;refine End.of (f:=f1+f2+1) ((g1 _ (by omega)).thn fun s' e'=> ?_);have:s'=enc A:=by
     have:=y125 (show f1<=f1+f2 by omega) _ _ _ e;rw[show infV (f1+f2) (ctxE G) (enc a)=some (s',0) from e'] at this
     simpa using this
    subst this;exact((g2 (f1+f2) (by omega)).frm 2).thn fun _ _=> Is.mk _
  · refine End.of (f:=f1+1) ((g1 _ (by omega)).thn fun s' e'=> ?_)
    exact absurd ⟨s',e'⟩ hb
 move:=fun{p e a} h1 h2 h3 hv=> by
  obtain⟨f1,g1⟩:=(h1 (y12 hv (by simp))).at;obtain⟨f2,g2⟩:=(h2 (y12 hv (by simp))).at;obtain⟨f3,g3⟩:=(h3 (y12 hv (by simp))).at;exact End.of (f:=f1+f2+f3+1) (((g2 _ (by omega)).frm 10).thn fun _ _=>(g1 _ (by omega)).fam _ ((Is.mk _).thn fun _ _=>(g3 _ (by omega)).chk _ (Is.mk _)))
 pair:=fun{T a b} h1 h2 h3 hv=> by
  obtain⟨f1,g1⟩:=(h1 (y12 hv (by simp))).at;obtain⟨f2,g2⟩:=(h2 (y12 hv (by simp))).at;obtain⟨f3,g3⟩:=(h3 (y12 hv (by simp))).at;exact End.of (f:=f1+f2+f3+1) (((g1 _ (by omega)).frm 2).thn fun _ _=>(Is.mk _).thn fun _ _=>(g2 _ (by omega)).chk _ ((Is.mk _).thn fun _ _=>(g3 _ (by omega)).chk _ (Is.mk _)))
 fst:=fun{a} h hv=> by
  obtain⟨f,h1⟩:=(h (y12 hv (by simp))).at;exact End.of (f:=f+1) (((h1 f (Nat.le_refl _)).frm 13).thn fun _ _=> Is.mk _)
 snd:=fun{a} h hv=> by
  obtain⟨f,h1⟩:=(h (y12 hv (by simp))).at;exact End.of (f:=f+1) (((h1 f (Nat.le_refl _)).frm 13).thn fun _ _=> Is.mk _)
end
theorem inf_ends: ∀(d:Nat) (G:List M.Tm),20<=G.length+d->y48 G-> ∀t,EndW G t:=by
 intro d
 induction d with
 |zero=>
  intro G hd hG;have hL: ∀A,TyB G A->valid sigT (enc A)=true->G.length < 20-> ∀t,valid sigT (enc t)=true->End (ctxE (A::G)) (enc t):=fun A _ _ h=> by omega
  exact fun t=> M.allW (endW hG hL) hG.wf.wf t
 |succ d ih=>
  intro G hd hG;have hL: ∀A,TyB G A->valid sigT (enc A)=true->G.length < 20-> ∀t,valid sigT (enc t)=true->End (ctxE (A::G)) (enc t):=fun A b v h t=> ih (A::G) (by simp only[List.length_cons];omega) (hG.cons b v) t
  exact fun t=> M.allW (endW hG hL) hG.wf.wf t
end Go.Proofs.YtbnkbepgmenblaaGreatDoor
namespace Go.Proofs.YtbnkbepgmenblaaGreatDoor
open Go.RowKit
theorem mkV_yes{t:Tr}(h:valid sigT t=true):mkV t=(t,0):=if_pos h
theorem mkV_not{t:Tr}(h:valid sigT t=false):mkV t=(y14,2):=if_neg (by rw[h];decide)
theorem q114(t:Tr)(ok:Bool)(w0:World)(N:Nat->Prop)(v:Value)(j8:InT w0 N t v):Calls Tryz.prog 97 #[v,.bool ok] w0 (AnQ N w0 (if ok=true then mkV t else(y14,2))):=by
 have HV:=hdq (fun W (hW:Ext w0 W)=> j16 t W v (j8.lies'.ext hW));have ej:=hdq j8;obtain⟨z,hz⟩: ∃z,valid sigT t=z:=⟨_,rfl⟩;rw[hz] at HV;obtain⟨k,n,ks⟩:=t;obtain⟨A,cap,rfl,hl,hc,hK⟩:=InT.mk_iff.1 j8;clear j8;cases ok with
 |false=>
  rw[if_neg (by simp)];clear hz;go_enter Tryz.func97,Tryz.ntmps97;go_wp2_with fail;exact bodyPost_ret (v:= .tuple #[.agg #[.int .i64 0,.int .i64 0,.slice none 0 0],.int .i64 2]) (by simp[results,Tryz.results97,go_sem]) rfl ⟨_,rfl,q19 _ _ 0 0,(((xr _).alloc _).alloc _)⟩
 |true=>
  rw[if_pos rfl];obtain⟨w1,i6⟩: ∃x,x=((w0.alloc (.cells #[.int .i64 k,.int .i64 n,.slice A ks.length cap] 26)).alloc (.cells #[.int .i64 0,.int .i64 0,.slice none 0 0] 26)):=⟨_,rfl⟩;obtain⟨o6,a8,s1,e1⟩:=box2 i6;cases z with
  |false=>
   rw[mkV_not hz];clear hz;go_enter Tryz.func97,Tryz.ntmps97;go_wp2_with fail;rw[<-i6];clear i6;refine(HV.out _ e1).mono ?_;rintro e w2 ⟨rfl,e2⟩;have s2:=e2.size;have a6:=e2;have Zt:=cb3 (a6.blk o6);have Zr:=cbr (a6.blk a8);have b7:=e1;have b6:=b7.trans e2;go_wp2_with fail;refine bodyPost_ret (v:= .tuple #[.agg #[.int .i64 0,.int .i64 0,.slice none 0 0],.int .i64 2]) (by simp[results,Tryz.results97,go_sem,Zr]) rfl ⟨_,rfl,q19 _ _ 0 0,(b6.set3 (by omega) _ _ _)⟩
  |true=>
   rw[mkV_yes hz];clear hz;go_enter Tryz.func97,Tryz.ntmps97;go_wp2_with fail;rw[<-i6];clear i6;refine(HV.out _ e1).mono ?_;rintro e w2 ⟨rfl,e2⟩;have s2:=e2.size;have b7:=e1;have b6:=b7.trans e2;have a6:=e2;have Zt:=cb3 (a6.blk o6);have Zr:=cbr (a6.blk a8);go_wp2_with fail;refine bodyPost_ret (v:= .tuple #[.agg #[.int .i64 k,.int .i64 n,.slice A ks.length cap],.int .i64 0]) (by simp[results,Tryz.results97,go_sem,Zr]) rfl ⟨_,rfl,InT.ret (InT.keep ej.out b6 (show w0.heap.size<=w0.heap.size+1 from Nat.le_succ _)) _ _ _,(b6.set3 (by omega) _ _ _)⟩
theorem q85(a b:Tr)(w0:World)(va vb:Value)(ha:Lies w0 a va)(hb:Lies w0 b vb):Calls Tryz.prog 133 #[va,vb] w0 fun e w'=> e= .returned (.int .i64 (cvtV a b))/\Ext w0 w':=by
 have HC:=hdq (fun W (hW:Ext w0 W)=> q95 a b 200 W va vb (ha.ext hW) (hb.ext hW));obtain⟨c,hcc⟩: ∃c,j94 a b 200=c:=⟨_,rfl⟩;rw[hcc] at HC;have h1:c=1->cvtV a b=0:=fun h=> by unfold cvtV;rw[hcc,if_pos h]
 have h2: ¬c=1->c=2->cvtV a b=1:=fun h h'=> by unfold cvtV;rw[hcc,if_neg h,if_pos h']
 have h3: ¬c=1-> ¬c=2->cvtV a b=2:=fun h h'=> by unfold cvtV;rw[hcc,if_neg h,if_neg h']
 generalize cvtV a b=R at h1 h2 h3⊢;clear hcc;obtain⟨k,n,ks⟩:=a;obtain⟨A,cap,rfl,hl,hc,hK⟩:=Lies.mk_iff.1 ha;obtain⟨k2,n2,U1⟩:=b;obtain⟨A2,I7,rfl,hl2,hc2,hK2⟩:=Lies.mk_iff.1 hb;clear ha hb;obtain⟨w1,i6⟩: ∃x,x=((w0.alloc (.cells #[.int .i64 k,.int .i64 n,.slice A ks.length cap] 26)).alloc (.cells #[.int .i64 k2,.int .i64 n2,.slice A2 U1.length I7] 26)):=⟨_,rfl⟩;obtain⟨ba_1,bb_1,s1,e1⟩:=box2 i6;by_cases hc1:c=1
 · obtain rfl:=h1 hc1
   clear h1 h2 h3;subst hc1;go_enter Tryz.func133,Tryz.ntmps133;go_wp2_with fail;rw[<-i6];clear i6;refine(HC.out _ e1).mono ?_;rintro e w2 ⟨rfl,e2⟩;go_wp2_with fail;go_ret;exact⟨rfl,(e1.trans e2)⟩
 have t1:(c==1)=false:=beq_eq_false_iff_ne.2 hc1;by_cases hc2:c=2
 · obtain rfl:=h2 hc1 hc2
   clear h1 h2 h3 t1 hc1;subst hc2;go_enter Tryz.func133,Tryz.ntmps133;go_wp2_with fail;rw[<-i6];clear i6;refine(HC.out _ e1).mono ?_;rintro e w2 ⟨rfl,e2⟩;go_wp2_with fail;go_ret;exact⟨rfl,(e1.trans e2)⟩
 have t2:(c==2)=false:=beq_eq_false_iff_ne.2 hc2;obtain rfl:=h3 hc1 hc2;clear h1 h2 h3 hc1 hc2;go_enter Tryz.func133,Tryz.ntmps133;go_wp2_with fail;rw[<-i6];clear i6;refine(HC.out _ e1).mono ?_;rintro e w2 ⟨rfl,e2⟩;go_wp2_with fail;go_ret;exact⟨rfl,(e1.trans e2)⟩
theorem j59(t:Tr)(kind:Int)(w0:World)(N:Nat->Prop)(hN: ∀b,w0.heap.size<=b->N b)(v:Value)(j8:Lies w0 t v):Calls Tryz.prog 135 #[v,.int .i64 kind] w0 (AnQ N w0 (shpV t kind)):=by
 have HC:=hdq (fun W (hW:Ext w0 W)=> y101 t 200 W v (j8.ext hW));have HN:=hdq hN;obtain⟨⟨⟨k3,n3,ek⟩,c⟩,hq⟩: ∃q,hnfV t 200=q:=⟨_,rfl⟩;rw[hq] at HC;have h1: ¬c=0->shpV t kind=(y14,2):=fun h=> by unfold shpV;rw[hq,if_pos h]
 have h2:c=0-> ¬k3=kind->shpV t kind=(y14,1):=fun h h'=> by unfold shpV;rw[hq,if_neg (by simpa using h)];exact if_pos h'
 have h3:c=0->k3=kind->shpV t kind=(.mk k3 n3 ek,0):=fun h h'=> by unfold shpV;rw[hq,if_neg (by simpa using h)];exact if_neg (fun hne=> hne h')
 generalize shpV t kind=R at h1 h2 h3⊢;clear hN hq;obtain⟨k,n,ks⟩:=t;obtain⟨A,cap,rfl,hl,hc,hK⟩:=Lies.mk_iff.1 j8;clear j8;obtain⟨w1,i6⟩: ∃x,x=((w0.alloc (.cells #[.int .i64 k,.int .i64 n,.slice A ks.length cap] 26)).alloc (.cells #[.int .i64 0,.int .i64 0,.slice none 0 0] 26)):=⟨_,rfl⟩;obtain⟨o6,a8,s1,e1⟩:=box2 i6;by_cases hc0:c=0
 · by_cases hk:k3=kind
   · obtain rfl:=h3 hc0 hk
     subst hc0;subst hk;clear h1 h2 h3;have t1:(k3 !=k3)=false:=by simp
     go_enter Tryz.func135,Tryz.ntmps135;go_wp2_with fail;rw[<-i6];clear i6;refine(HC.out _ e1).mono ?_;rintro e w2 ⟨r,rfl,hM,e2⟩;have s2:=e2.size;have HT:InT w2 (fun b=> N b/\b≠w0.heap.size+1) (.mk k3 n3 ek) r:=hM.at' (newN HN.out e1.size (by omega));obtain⟨A3,L5,rfl,sx,hc3,hK3⟩:=InT.mk_iff.1 HT;have N0:=hdq HT;clear HT hM hK3;have a6:=e2;have Zt:=cb3 (a6.blk o6);have Zr:=cbn (a6.blk a8);have K4:Ext w2 (w2.alloc (.cells #[.int .i64 k3,.int .i64 n3,.slice A3 ek.length L5] 26)):=(xr w2).alloc _;have b7:=e1;have b6:=b7.trans e2;have Pr:=cbn (K4.blk (a6.blk a8));go_wp2_with fail;refine bodyPost_ret (v:= .tuple #[.agg #[.int .i64 k3,.int .i64 n3,.slice A3 ek.length L5],.int .i64 0]) (by simp[results,Tryz.results135,go_sem,Zr,Pr]) rfl ⟨_,rfl,InT.ret (InT.later N0.out ((xr _).alloc _)) _ _ _,((((b6.trans K4).setCell (by simp;try omega) _).setCell (by simp;try omega) _).setCell (by simp;try omega) _)⟩
   · obtain rfl:=h2 hc0 hk
     subst hc0;clear h1 h2 h3;have t1:(k3 !=kind)=true:=by simp[hk]
     clear hk;go_enter Tryz.func135,Tryz.ntmps135;go_wp2_with fail;rw[<-i6];clear i6;refine(HC.out _ e1).mono ?_;rintro e w2 ⟨r,rfl,hM,e2⟩;have s2:=e2.size;have HT:InT w2 (fun b=> N b/\b≠w0.heap.size+1) (.mk k3 n3 ek) r:=hM.at' (newN HN.out e1.size (by omega));obtain⟨A3,L5,rfl,sx,hc3,hK3⟩:=InT.mk_iff.1 HT;have N0:=hdq HT;clear HT hM hK3;have a6:=e2;have Zt:=cb3 (a6.blk o6);have Zr:=cbn (a6.blk a8);have K4:Ext w2 (w2.alloc (.cells #[.int .i64 k3,.int .i64 n3,.slice A3 ek.length L5] 26)):=(xr w2).alloc _;have b7:=e1;have b6:=b7.trans e2;have Pr:=cbn (K4.blk (a6.blk a8));go_wp2_with fail;refine bodyPost_ret (v:= .tuple #[.agg #[.int .i64 0,.int .i64 0,.slice none 0 0],.int .i64 1]) (by simp[results,Tryz.results135,go_sem,Zr,Pr]) rfl ⟨_,rfl,q19 _ _ 0 0,((((b6.trans K4).setCell (by simp;try omega) _).setCell (by simp;try omega) _).setCell (by simp;try omega) _)⟩
 · obtain rfl:=h1 hc0
   clear h1 h2 h3;have t1:(c !=0)=true:=by simp[hc0]
   clear hc0;go_enter Tryz.func135,Tryz.ntmps135;go_wp2_with fail;rw[<-i6];clear i6;refine(HC.out _ e1).mono ?_;rintro e w2 ⟨r,rfl,hM,e2⟩;have s2:=e2.size;have HT:InT w2 (fun b=> N b/\b≠w0.heap.size+1) (.mk k3 n3 ek) r:=hM.at' (newN HN.out e1.size (by omega));obtain⟨A3,L5,rfl,sx,hc3,hK3⟩:=InT.mk_iff.1 HT;have N0:=hdq HT;clear HT hM hK3;have a6:=e2;have Zt:=cb3 (a6.blk o6);have Zr:=cbn (a6.blk a8);have K4:Ext w2 (w2.alloc (.cells #[.int .i64 k3,.int .i64 n3,.slice A3 ek.length L5] 26)):=(xr w2).alloc _;have b7:=e1;have b6:=b7.trans e2;have Pr:=cbn (K4.blk (a6.blk a8));go_wp2_with fail;refine bodyPost_ret (v:= .tuple #[.agg #[.int .i64 0,.int .i64 0,.slice none 0 0],.int .i64 2]) (by simp[results,Tryz.results135,go_sem,Zr,Pr]) rfl ⟨_,rfl,q19 _ _ 0 0,((((b6.trans K4).setCell (by simp;try omega) _).setCell (by simp;try omega) _).setCell (by simp;try omega) _)⟩
theorem j87(n:Int)(w:World):Calls Tryz.prog 99 #[.int .i64 n] w fun e w'=> e= .returned (.agg #[.int .i64 2,.int .i64 n,.slice none 0 0])/\Ext w w':=by
 go_enter Tryz.func99,Tryz.ntmps99;go_wp2_with fail;exact bodyPost_ret (v:= .agg #[.int .i64 2,.int .i64 n,.slice none 0 0]) (by simp[results,Tryz.results99,go_sem]) rfl ⟨rfl,(xr w).alloc _⟩
theorem q105(t:Tr)(w0:World)(N:Nat->Prop)(v:Value)(j8:InT w0 N t v):Calls Tryz.prog 105 #[v] w0 fun e w'=> ∃u,e= .returned u/\InT w' N (kd t.kids 0) u/\Ext w0 w':=by
 obtain⟨k,n,ks⟩:=t;obtain⟨A,cap,rfl,hl,hc,hK⟩:=InT.mk_iff.1 j8;have hcc:=hc;unfold maxLen at hcc;have sj:(Tr.mk k n ks).kids=ks:=rfl;rw[sj];clear j8 sj;by_cases hz:ks.length=0
 · have h0:kd ks 0=y14:=q123 (by omega)
   rw[h0];generalize ks.length=len at hz hl;subst hz;go_enter Tryz.func105,Tryz.ntmps105;go_wp2_with fail;exact bodyPost_ret (v:= .agg #[.int .i64 0,.int .i64 0,.slice none 0 0]) (by simp[results,Tryz.results105,go_sem]) rfl ⟨_,rfl,q19 _ _ 0 0,(((xr _).alloc _).alloc _)⟩
 · have hx:=((xr w0).alloc (.cells #[.int .i64 k,.int .i64 n,.slice A ks.length cap] 26)).alloc (.cells #[.int .i64 0,.int .i64 0,.slice none 0 0] 26)
   obtain⟨b,o,k1,n1,A1,p1,i7,rfl,G4,c0,c1,c2,l1,m1,I9,y8,q9,ye⟩:=hK.get (fun b _=> rfl) (j:=0) (by omega);simp only[Nat.zero_mul,Nat.add_zero] at c0 c1 c2;have d0:=hx.cell c0;have d1:=hx.cell c1;have d2:=hx.cell c2;have E4:kd ks 0= .mk k1 n1 i7:=j79 (by omega) G4.out;rw[E4];have hpos:(0:Int) <(ks.length:Int):=by omega
   have hpos2:0 < ks.length:=by omega
   have hne:(((ks.length:Int))==0)=false:=beq_eq_false_iff_ne.2 (by omega);have HI:=hdq y8;clear E4 G4 hK I9 y8 q9 hz c0 c1 c2;go_enter Tryz.func105,Tryz.ntmps105;go_wp2_with fail;refine bodyPost_ret (v:= .agg #[.int .i64 k1,.int .i64 n1,.slice A1 i7.length p1]) (by simp[results,Tryz.results105,go_sem]) rfl ⟨_,rfl,InT.later HI.out ?_, ?_⟩
   all_goals exact(((xr _).alloc _).alloc _)
end Go.Proofs.YtbnkbepgmenblaaGreatDoor
namespace Go.Proofs.YtbnkbepgmenblaaGreatDoor
open Go.RowKit
open M (Hd HR Cv Ty Lim WfL TyB Lev)
def ccR(f:Nat):List Tr->List Tr->An
 |_, []=> some (y14,0)
 |done,t::ts=> thn (frmV (infV f done t) 2) fun _=> ccR f (done++ [t]) ts
def ccV(f:Nat)(ctx:List Tr):An:=if j63 ctx=true then ccR f [] ctx else some (y14,3)
def rdyV(f:Nat)(ctx l:List Tr):An:=match ccV f ctx with
 |none=> none
 |some r=> if l.all (fun t=> valid sigT t)=true then some r else some (y14,3)
def itV(f:Nat)(ctx:List Tr)(t:Tr):An:=thn (rdyV f ctx [t]) fun _=> thn (infV f ctx t) fun s=> some (s,0)
theorem q188{f:Nat}{ctx l:List Tr}{u:Tr}(h:rdyV f ctx l=some (u,0)):ccV f ctx=some (u,0)/\ ∀t∈l,valid sigT t=true:=by
 unfold rdyV at h;cases e:ccV f ctx with
 |none=> rw[e] at h;cases h
 |some r=>
  rw[e] at h;simp only at h
  split at h
  · rename_i hv
    exact⟨h,by simpa using hv⟩
  · simp at h
theorem y48.tail{A:M.Tm}{G:List M.Tm}(h:y48 (A::G)):y48 G/\TyB G A/\valid sigT (enc A)=true:=
 ⟨⟨fun n B hB=> by simpa using h.wf (n+1) B (by simpa using hB),fun B hB=> h.vd B (by simp[hB])⟩,by simpa using h.wf 0 A rfl,h.vd A (by simp)⟩
theorem Is.up{f f':Nat}{G:List Tr}{t:Tr}(h:Is (infV f G t))(k:f<=f'):Is (infV f' G t):=h.le (y125 k G t)
end Go.Proofs.YtbnkbepgmenblaaGreatDoor
namespace Go.Proofs.YtbnkbepgmenblaaGreatDoor
open Go.RowKit
attribute [local go_sem ↓] Go.wp_at_zero Go.wp_at_succ
def TyF(wC:World)(p1 p2:Nat)(A:Option Addr)(G:List Tr)(At:Option Addr)(ks:List Tr)(ty:Nat->An):Prop:=
 ∀(W:World) (N:Nat->Prop),Ext wC W->(∀b,W.heap.size<=b->N b)->InK W N A G->InK W N At ks-> ∀i:Nat,i < ks.length-> ∀r,ty i=some r->
  Calls Tryz.prog 67 #[.int .i64 i,.pointer (some ⟨p1,0,none⟩),.pointer (some ⟨p2,0,none⟩)] W (AnQ N W r)
structure JOk (wC w:World) (N:Nat->Prop) (p1 p2:Nat) (A:Option Addr) (G:List Tr) (At:Option Addr) (ks:List Tr) (ty:Nat->An):Prop where
 hT:TyF wC p1 p2 A G At ks ty
 hx:Ext wC w
 hN: ∀b,w.heap.size<=b->N b
 hG:InK w N A G
 hK:InK w N At ks
theorem JOk.ext{wC w w':World}{N:Nat->Prop}{p1 p2:Nat}{A:Option Addr}{G:List Tr}{At:Option Addr}{ks:List Tr}{ty:Nat->An}(h:JOk wC w N p1 p2 A G At ks ty)(e:Ext w w'):JOk wC w' N p1 p2 A G At ks ty:=
 ⟨h.hT,h.hx.trans e,fun b hb=> h.hN b (Nat.le_trans e.size hb),h.hG.later e,h.hK.later e⟩
theorem JOk.keep{wC w w':World}{N:Nat->Prop}{p1 p2:Nat}{A:Option Addr}{G:List Tr}{At:Option Addr}{ks:List Tr}{ty:Nat->An}(h:JOk wC w N p1 p2 A G At ks ty)(e:Ext w w'){g:Nat}(hg:w.heap.size<=g)(hg2:g < w'.heap.size):JOk wC w' (fun b=> N b/\b≠g) p1 p2 A G At ks ty:=
 ⟨h.hT,h.hx.trans e,newN h.hN e.size hg2,h.hG.keep e hg,h.hK.keep e hg⟩
theorem y197{x:An}{kind:Int}{r:Tr×Int}(h:frmV x kind=some r):(∃s,x=some (s,0)/\r=shpV s kind)\/ ∃s c,x=some (s,c)/\c≠0/\r=(y14,c):=by
 rcases y28 h with⟨s,h1,h2⟩ |h1
 · exact .inl ⟨s,h1,by simpa using h2.symm⟩
 · exact .inr h1
def chkI(x:An)(want:Tr):Option Int:=match x with
 |none=> none
 |some (s,c)=> if c=0 then some (cvtV s want) else some c
theorem j44{x y:An}{want:Tr}{r:Tr×Int}(h:chkV x want y=some r): ∃c,chkI x want=some c/\(c=0->y=some r)/\(c≠0->r=(y14,c)):=by
 rcases y28 h with⟨s,rfl,h2⟩ |⟨s,c,rfl,h2,h3⟩
 · refine⟨cvtV s want,(show(if(0:Int)=0 then some (cvtV s want) else some 0)=_ from if_pos rfl),fun h=> ?_,fun h=> ?_⟩
   · rw[if_pos h] at h2;exact h2
   · rw[if_neg h] at h2;simpa using h2.symm
 · exact⟨c,(show(if c=0 then some (cvtV s want) else some c)=_ from if_neg h2),fun h=> absurd h h2,fun _=> h3⟩
theorem q172{x:An}{want:Tr}{c:Int}(h:chkI x want=some c):(∃s,x=some (s,0)/\c=cvtV s want)\/ ∃s,x=some (s,c)/\c≠0:=by
 unfold chkI at h;cases x with
 |none=> cases h
 |some p=>
  obtain⟨s,c'⟩:=p;simp only at h
  split at h
  · rename_i h0
    subst h0;exact .inl ⟨s,rfl,by simpa using h.symm⟩
  · rename_i h0
    simp only[Option.some.injEq] at h;subst h;exact .inr ⟨s,rfl,h0⟩
def famI(x:An)(T:Tr):Option Int:=match frmV x 3 with
 |none=> none
 |some (s,c)=> if c=0 then(if cvtV (kd s.kids 0) T=0 then some (shpV (kd s.kids 1) 2).2 else some (cvtV (kd s.kids 0) T)) else some c
theorem q140{x y:An}{T:Tr}{r:Tr×Int}(h:famV x T y=some r): ∃c,famI x T=some c/\(c=0->y=some r)/\(c≠0->r=(y14,c)):=by
 unfold famI;rcases y28 h with⟨s,h1,h2⟩ |⟨s,c,h1,h2,h3⟩
 · rw[h1]
   simp only[if_true]
   split at h2
   · rename_i h0
     rw[if_pos h0];rcases y28 h2 with⟨s2,h3,h4⟩ |⟨s2,c2,h3,h4,h5⟩
     · have e:shpV (kd s.kids 1) 2=(s2,0):=by simpa using h3
       exact⟨0,by rw[e],fun _=> h4,fun h=> absurd rfl h⟩
     · have e:shpV (kd s.kids 1) 2=(s2,c2):=by simpa using h3
       exact⟨c2,by rw[e],fun h=> absurd h h4,fun _=> h5⟩
   · rename_i h0
     rw[if_neg h0];exact⟨_,rfl,fun h=> absurd h h0,fun _=> by simpa using h2.symm⟩
 · rw[h1]
   simp only;rw[if_neg h2];exact⟨c,rfl,fun h=> absurd h h2,fun _=> h3⟩
theorem q43{wC:World}{p1 p2:Nat}{A:Option Addr}{G:List Tr}{At:Option Addr}{ks:List Tr}{ty:Nat->An}(k n:Int)(ca ct:Nat)(hlt:ks.length<=ct)(p9:ct<=maxLen)(w0:World)(N:Nat->Prop)(hJ:JOk wC w0 N p1 p2 A G At ks ty)(i:Nat)(hi:i < ks.length)(kind:Int)(r:Tr×Int)(h:frmV (ty i) kind=some r):Calls Tryz.prog 103 #[.agg #[.slice A G.length ca,.int .i64 k,.int .i64 n,.slice At ks.length ct,.func (.func 67) #[] #[.pointer (some ⟨p1,0,none⟩),.pointer (some ⟨p2,0,none⟩)]],.int .i64 i,.int .i64 kind] w0 (AnQ N w0 r):=by
 have HI:=hdq hi;clear hi;rcases y197 h with⟨s,hs,rfl⟩ |⟨s,c,hs,hc,rfl⟩
 · have HS:=hdq hs
   clear hs h;have ee:=hdq (fun W (M:Nat->Prop) (hM: ∀b,W.heap.size<=b->M b) v (hv:Lies W s v)=> j59 s kind W M hM v hv);generalize shpV s kind=q at ee⊢;obtain⟨q,c⟩:=q;obtain⟨w1,i6⟩: ∃x,x=((w0.alloc (.cells #[.slice A G.length ca,.int .i64 k,.int .i64 n,.slice At ks.length ct,.func (.func 67) #[] #[.pointer (some ⟨p1,0,none⟩),.pointer (some ⟨p2,0,none⟩)]] 95)).alloc (.cells #[.int .i64 0,.int .i64 0,.slice none 0 0] 26)):=⟨_,rfl⟩;obtain⟨d9,a8,s1,e1⟩:=box2 i6;have HJ:=hdq (hJ.keep e1 (g:=w0.heap.size+1) (Nat.le_succ _) (by omega));obtain⟨M,hM⟩: ∃M,M=(fun b=> N b/\b≠w0.heap.size+1):=⟨_,rfl⟩;rw[<-hM] at HJ;have HM:=hdq hM;clear hM hJ;go_enter Tryz.func103,Tryz.ntmps103;go_wp2_with fail;rw[<-i6];clear i6;refine((HJ.out.ext (xr w1)).hT w1 _ (HJ.out.ext (xr w1)).hx (HJ.out.ext (xr w1)).hN (HJ.out.ext (xr w1)).hG (HJ.out.ext (xr w1)).hK i HI.out _ HS.out).mono ?_;rintro e w2 ⟨u,rfl,hT,e2⟩;have s2:=e2.size;obtain⟨a1,b1,A1,l1,c1,rfl⟩:=hT.three;have T1:=hdq hT;clear hT;have a6:=e2;have Zj:=cb5 (a6.blk d9);have Zr:=cbr (a6.blk a8);obtain⟨w3,hw3⟩: ∃x,x=w2.alloc (.cells #[.int .i64 a1,.int .i64 b1,.slice A1 l1 c1] 26):=⟨_,rfl⟩;have e3:Ext w2 w3:=hw3▸(xr w2).alloc _;have E1:=heap_alloc_new w2 (.cells #[.int .i64 a1,.int .i64 b1,.slice A1 l1 c1] 26);rw[<-hw3] at E1;have s3:w2.heap.size < w3.heap.size:=j10 E1;go_wp2_with fail;rw[<-hw3];clear hw3;clear Zj Zr;have j4:=a6.trans e3;have r8:=e3;refine(ee.out w3 M (HJ.out.ext j4).hN _ (T1.out.later r8).lies').mono ?_;rintro e w4 ⟨u,rfl,hT,e4⟩;have s4:=e4.size;obtain⟨a2,b2,A2,l2,c2,rfl⟩:=hT.three;have T2:=hdq hT;clear hT;have j5:=j4.trans e4;have Zj:=cb5 (j5.blk d9);have Zr:=cbr (j5.blk a8);have q8:=e4;have gj:=cb3 (q8.blk E1);have b7:=e1;have b6:=b7.trans e2;have o7:=b6.trans e3;have o9:=o7.trans e4;go_wp2_with fail;refine bodyPost_ret (v:= .tuple #[.agg #[.int .i64 a2,.int .i64 b2,.slice A2 l2 c2],.int .i64 c]) (by simp[results,Tryz.results103,go_sem,Zr]) rfl ⟨_,rfl,InT.ret (HM.out▸(T2.out.later (xr w4))) _ _ _,(o9.set3 (by omega) _ _ _)⟩
 · have HS:=hdq hs
   clear hs h;have t1:(c !=0)=true:=by simp[hc]
   clear hc;obtain⟨w1,i6⟩: ∃x,x=((w0.alloc (.cells #[.slice A G.length ca,.int .i64 k,.int .i64 n,.slice At ks.length ct,.func (.func 67) #[] #[.pointer (some ⟨p1,0,none⟩),.pointer (some ⟨p2,0,none⟩)]] 95)).alloc (.cells #[.int .i64 0,.int .i64 0,.slice none 0 0] 26)):=⟨_,rfl⟩;obtain⟨d9,a8,s1,e1⟩:=box2 i6;have HJ:=hdq (hJ.keep e1 (g:=w0.heap.size+1) (Nat.le_succ _) (by omega));obtain⟨M,hM⟩: ∃M,M=(fun b=> N b/\b≠w0.heap.size+1):=⟨_,rfl⟩;rw[<-hM] at HJ;have HM:=hdq hM;clear hM hJ;go_enter Tryz.func103,Tryz.ntmps103;go_wp2_with fail;rw[<-i6];clear i6;refine((HJ.out.ext (xr w1)).hT w1 _ (HJ.out.ext (xr w1)).hx (HJ.out.ext (xr w1)).hN (HJ.out.ext (xr w1)).hG (HJ.out.ext (xr w1)).hK i HI.out _ HS.out).mono ?_;rintro e w2 ⟨u,rfl,hT,e2⟩;have s2:=e2.size;obtain⟨a1,b1,A1,l1,c1,rfl⟩:=hT.three;have T1:=hdq hT;clear hT;have a6:=e2;have Zj:=cb5 (a6.blk d9);have Zr:=cbn (a6.blk a8);have K4:Ext w2 (w2.alloc (.cells #[.int .i64 a1,.int .i64 b1,.slice A1 l1 c1] 26)):=(xr w2).alloc _;have b7:=e1;have b6:=b7.trans e2;have Pr:=cbn (K4.blk (a6.blk a8));go_wp2_with fail;refine bodyPost_ret (v:= .tuple #[.agg #[.int .i64 0,.int .i64 0,.slice none 0 0],.int .i64 c]) (by simp[results,Tryz.results103,go_sem,Zr,Pr]) rfl ⟨_,rfl,q19 _ _ 0 0,((b6.trans K4).set3 (by omega) _ _ _)⟩
theorem y27{wC:World}{p1 p2:Nat}{A:Option Addr}{G:List Tr}{At:Option Addr}{ks:List Tr}{ty:Nat->An}(k n:Int)(ca ct:Nat)(hlt:ks.length<=ct)(p9:ct<=maxLen)(w0:World)(N:Nat->Prop)(hJ:JOk wC w0 N p1 p2 A G At ks ty)(i:Nat)(hi:i < ks.length)(r:Tr×Int)(h:frmV (ty i) 2=some r):Calls Tryz.prog 134 #[.agg #[.slice A G.length ca,.int .i64 k,.int .i64 n,.slice At ks.length ct,.func (.func 67) #[] #[.pointer (some ⟨p1,0,none⟩),.pointer (some ⟨p2,0,none⟩)]],.int .i64 i] w0 fun e w'=> e= .returned (.tuple #[.int .i64 r.1.num,.int .i64 r.2])/\Ext w0 w':=by
 have HH:=hdq h;have HI:=hdq hi;clear h hi;obtain⟨⟨k7,n7,ks7⟩,c⟩:=r;obtain⟨w1,i6⟩: ∃x,x=(w0.alloc (.cells #[.slice A G.length ca,.int .i64 k,.int .i64 n,.slice At ks.length ct,.func (.func 67) #[] #[.pointer (some ⟨p1,0,none⟩),.pointer (some ⟨p2,0,none⟩)]] 95)):=⟨_,rfl⟩;obtain⟨d9,s1,e1⟩:=box1 i6;have HJ:=hdq (hJ.ext e1);obtain⟨M,hM⟩: ∃M,M=N:=⟨_,rfl⟩;rw[<-hM] at HJ;have HM:=hdq hM;clear hM hJ;go_enter Tryz.func134,Tryz.ntmps134;go_wp2_with fail;rw[<-i6];clear i6;refine(q43 k n ca ct hlt p9 w1 M HJ.out i HI.out 2 _ HH.out).mono ?_;rintro e w2 ⟨u,rfl,hT,e2⟩;have s2:=e2.size;obtain⟨A1,c1,rfl,M6,hc1,I9⟩:=InT.mk_iff.1 hT;clear hT I9;have b7:=e1;have b6:=b7.trans e2;go_wp2_with fail;go_ret2;exact⟨rfl,b6.alloc _⟩
theorem j61{wC:World}{p1 p2:Nat}{A:Option Addr}{G:List Tr}{At:Option Addr}{ks:List Tr}{ty:Nat->An}(k n:Int)(ca ct:Nat)(hlt:ks.length<=ct)(p9:ct<=maxLen)(w0:World)(N:Nat->Prop)(hJ:JOk wC w0 N p1 p2 A G At ks ty)(i:Nat)(hi:i < ks.length)(want:Tr)(vw:Value)(hw:InT w0 N want vw)(c:Int)(h:chkI (ty i) want=some c):Calls Tryz.prog 100 #[.agg #[.slice A G.length ca,.int .i64 k,.int .i64 n,.slice At ks.length ct,.func (.func 67) #[] #[.pointer (some ⟨p1,0,none⟩),.pointer (some ⟨p2,0,none⟩)]],.int .i64 i,vw] w0 fun e w'=> e= .returned (.int .i64 c)/\Ext w0 w':=by
 have HI:=hdq hi;clear hi;obtain⟨k8,n8,ft⟩:=want;obtain⟨A8,c8,rfl,hl8,rp,Mx⟩:=InT.mk_iff.1 hw;have HW:=hdq hw;clear hw;rcases q172 h with⟨s,hs,rfl⟩ |⟨s,hs,hc⟩
 · have HS:=hdq hs
   clear hs h;obtain⟨w1,i6⟩: ∃x,x=((w0.alloc (.cells #[.slice A G.length ca,.int .i64 k,.int .i64 n,.slice At ks.length ct,.func (.func 67) #[] #[.pointer (some ⟨p1,0,none⟩),.pointer (some ⟨p2,0,none⟩)]] 95)).alloc (.cells #[.int .i64 k8,.int .i64 n8,.slice A8 ft.length c8] 26)):=⟨_,rfl⟩;obtain⟨d9,O3,s1,e1⟩:=box2 i6;have HJ:=hdq (hJ.ext e1);obtain⟨M,hM⟩: ∃M,M=N:=⟨_,rfl⟩;rw[<-hM] at HJ;have HM:=hdq hM;clear hM hJ;go_enter Tryz.func100,Tryz.ntmps100;go_wp2_with fail;rw[<-i6];clear i6;refine((HJ.out.ext (xr w1)).hT w1 _ (HJ.out.ext (xr w1)).hx (HJ.out.ext (xr w1)).hN (HJ.out.ext (xr w1)).hG (HJ.out.ext (xr w1)).hK i HI.out _ HS.out).mono ?_;rintro e w2 ⟨u,rfl,hT,e2⟩;have s2:=e2.size;obtain⟨a1,b1,A1,l1,c1,rfl⟩:=hT.three;have T1:=hdq hT;clear hT;have a6:=e2;have Zj:=cb5 (a6.blk d9);have Zw:=cb3 (a6.blk O3);obtain⟨w3,hw3⟩: ∃x,x=w2.alloc (.cells #[.int .i64 a1,.int .i64 b1,.slice A1 l1 c1] 26):=⟨_,rfl⟩;have e3:Ext w2 w3:=hw3▸(xr w2).alloc _;have E1:=heap_alloc_new w2 (.cells #[.int .i64 a1,.int .i64 b1,.slice A1 l1 c1] 26);rw[<-hw3] at E1;have s3:w2.heap.size < w3.heap.size:=j10 E1;go_wp2_with fail;rw[<-hw3];clear hw3;clear Zj Zw;have b7:=e1;have b6:=b7.trans e2;have o7:=b6.trans e3;have r8:=e3;refine(q85 s (.mk k8 n8 ft) w3 _ _ (T1.out.later r8).lies' (HW.out.lies'.ext o7)).mono ?_;rintro e w4 ⟨rfl,e4⟩;have s4:=e4.size;have o9:=o7.trans e4;go_wp2_with fail;go_ret;exact⟨rfl,o9⟩
 · have HS:=hdq hs
   clear hs h;have t1:(c !=0)=true:=by simp[hc]
   clear hc;obtain⟨w1,i6⟩: ∃x,x=((w0.alloc (.cells #[.slice A G.length ca,.int .i64 k,.int .i64 n,.slice At ks.length ct,.func (.func 67) #[] #[.pointer (some ⟨p1,0,none⟩),.pointer (some ⟨p2,0,none⟩)]] 95)).alloc (.cells #[.int .i64 k8,.int .i64 n8,.slice A8 ft.length c8] 26)):=⟨_,rfl⟩;obtain⟨d9,O3,s1,e1⟩:=box2 i6;have HJ:=hdq (hJ.ext e1);obtain⟨M,hM⟩: ∃M,M=N:=⟨_,rfl⟩;rw[<-hM] at HJ;have HM:=hdq hM;clear hM hJ;go_enter Tryz.func100,Tryz.ntmps100;go_wp2_with fail;rw[<-i6];clear i6;refine((HJ.out.ext (xr w1)).hT w1 _ (HJ.out.ext (xr w1)).hx (HJ.out.ext (xr w1)).hN (HJ.out.ext (xr w1)).hG (HJ.out.ext (xr w1)).hK i HI.out _ HS.out).mono ?_;rintro e w2 ⟨u,rfl,hT,e2⟩;have s2:=e2.size;obtain⟨a1,b1,A1,l1,c1,rfl⟩:=hT.three;have T1:=hdq hT;clear hT;have a6:=e2;have Zj:=cb5 (a6.blk d9);have Zw:=cb3 (a6.blk O3);have b7:=e1;have b6:=b7.trans e2;go_wp2_with fail;go_ret;exact⟨rfl,b6.alloc _⟩
theorem q61{wC:World}{p1 p2:Nat}{A:Option Addr}{G:List Tr}{At:Option Addr}{ks:List Tr}{ty:Nat->An}(k n:Int)(ca ct:Nat)(hlt:ks.length<=ct)(p9:ct<=maxLen)(w0:World)(N:Nat->Prop)(hJ:JOk wC w0 N p1 p2 A G At ks ty)(i:Nat)(hi:i < ks.length)(want:Tr)(vw:Value)(hw:InT w0 N want vw)(c d:Int)(h:c=0->chkI (ty i) want=some d)(h':c≠0->d=c):Calls Tryz.prog 104 #[.agg #[.slice A G.length ca,.int .i64 k,.int .i64 n,.slice At ks.length ct,.func (.func 67) #[] #[.pointer (some ⟨p1,0,none⟩),.pointer (some ⟨p2,0,none⟩)]],.int .i64 i,vw,.int .i64 c] w0 fun e w'=> e= .returned (.int .i64 d)/\Ext w0 w':=by
 have HI:=hdq hi;clear hi;obtain⟨k8,n8,ft⟩:=want;obtain⟨A8,c8,rfl,hl8,rp,Mx⟩:=InT.mk_iff.1 hw;have HW:=hdq hw;clear hw;by_cases hc:c=0
 · have HS:=hdq (h hc)
   clear h h';subst hc;obtain⟨w1,i6⟩: ∃x,x=((w0.alloc (.cells #[.slice A G.length ca,.int .i64 k,.int .i64 n,.slice At ks.length ct,.func (.func 67) #[] #[.pointer (some ⟨p1,0,none⟩),.pointer (some ⟨p2,0,none⟩)]] 95)).alloc (.cells #[.int .i64 k8,.int .i64 n8,.slice A8 ft.length c8] 26)):=⟨_,rfl⟩;obtain⟨d9,O3,s1,e1⟩:=box2 i6;have HJ:=hdq (hJ.ext e1);obtain⟨M,hM⟩: ∃M,M=N:=⟨_,rfl⟩;rw[<-hM] at HJ;have HM:=hdq hM;clear hM hJ;go_enter Tryz.func104,Tryz.ntmps104;go_wp2_with fail;rw[<-i6];clear i6;have b7:=e1;refine(j61 k n ca ct hlt p9 w1 M (HJ.out.ext (xr w1)) i HI.out (.mk k8 n8 ft) _ (HM.out▸HW.out.later b7) d HS.out).mono ?_;rintro e w2 ⟨rfl,e2⟩;have s2:=e2.size;have b6:=b7.trans e2;go_wp2_with fail;go_ret;exact⟨rfl,b6⟩
 · obtain rfl:=h' hc
   have t1:(d !=0)=true:=by simp[hc]
   clear h h' hc;go_enter Tryz.func104,Tryz.ntmps104;go_wp2_with fail;go_ret;exact⟨rfl,((xr _).alloc _).alloc _⟩
end Go.Proofs.YtbnkbepgmenblaaGreatDoor
