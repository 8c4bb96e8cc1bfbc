/-
  Lemmas towards the law, 36: Conv, MTot, InfA.
-/
import Derived.Test.YtdkamgafpphdjaaGreatUBI
set_option maxHeartbeats 4000000
set_option maxRecDepth 100000
namespace Go.Proofs.YtdkamgafpphdjaaGreat
open Go.RowKit
set_option linter.unusedVariables false
theorem q153{t:Tr}{f:Int}(h:valid sigT t=true)(hf:inR f 0 200=true):q133 t f=nrmC f.toNat t:=by
 unfold q133;rw[h,hf]
 rfl
theorem y55(a b:Tr)(f:Int)(w:World)(va vb:Value)(ha:Lies w a va)(hb:Lies w b vb):
 Calls Tryz.prog 18 #[va,vb,.int .i64 f] w fun e w'=> e= .returned (.int .i64 (y66 a b f))/\Ext w w':=by
 have HVA:=hdq (fun W (hW:Ext w W)=> q17 a W va (ha.ext hW));have HVB:=hdq (fun W (hW:Ext w W)=> q17 b W vb (hb.ext hW));have HNA:=hdq (fun W (hW:Ext w W)=> q72 a f W va (ha.ext hW));have HNB:=hdq (fun W (hW:Ext w W)=> q72 b f W vb (hb.ext hW));have HSM:=hdq (fun W (hW:Ext w W)=> j54 a W b va vb (ha.ext hW) (hb.ext hW));have E:y66 a b f=if(valid sigT a &&(valid sigT b && inR f 0 200))=true then(if a=b then 1 else if(nrmC f.toNat a).2=0/\(nrmC f.toNat b).2=0 then(if(nrmC f.toNat a).1=(nrmC f.toNat b).1 then 1 else 2) else 3) else 0:=rfl
 have hna:=fun(h1:valid sigT a=true) (h2:inR f 0 200=true)=> q153 h1 h2
 have hnb:=fun(h1:valid sigT b=true) (h2:inR f 0 200=true)=> q153 h1 h2
 obtain⟨C,hC⟩: ∃C,y66 a b f=C:=⟨_,rfl⟩;rw[hC] at E⊢;clear hC;obtain⟨za,hza⟩: ∃z,valid sigT a=z:=⟨_,rfl⟩;obtain⟨zb,hzb⟩: ∃z,valid sigT b=z:=⟨_,rfl⟩;obtain⟨y,hy⟩: ∃y,inR f 0 200=y:=⟨_,rfl⟩;obtain⟨q,hq⟩: ∃q,eqTr a b=q:=⟨_,rfl⟩;rw[hza] at HVA E hna;rw[hzb] at HVB E hnb;rw[hy] at E hna hnb;rw[hq] at HSM;have hqe:(a=b)↔q=true:=by rw[<-hq];exact q89.symm
 have HY:=hdq hy;have HQ:=hdq hqe;have HE:=hdq E;have HA:=hdq hna;have HB:=hdq hnb;clear hza hzb hy hq hqe E hna hnb;obtain⟨k1,n1,ks1⟩:=a;obtain⟨k2,n2,ks2⟩:=b;obtain⟨A1,c1,rfl,hl1,hc1,hK1⟩:=Lies.mk_iff.1 ha;obtain⟨A2,c2,rfl,hl2,hc2,hK2⟩:=Lies.mk_iff.1 hb;have hx0:=((xr w).alloc (.cells #[.int .i64 k1,.int .i64 n1,.slice A1 ks1.length c1] 25)).alloc (.cells #[.int .i64 k2,.int .i64 n2,.slice A2 ks2.length c2] 25);obtain⟨hb0,hb1,hs2⟩:=blk2 (xr ((w.alloc (.cells #[.int .i64 k1,.int .i64 n1,.slice A1 ks1.length c1] 25)).alloc (.cells #[.int .i64 k2,.int .i64 n2,.slice A2 ks2.length c2] 25)));obtain⟨wS,hwS⟩: ∃x,x=(w.alloc (.cells #[.int .i64 k1,.int .i64 n1,.slice A1 ks1.length c1] 25)).alloc (.cells #[.int .i64 k2,.int .i64 n2,.slice A2 ks2.length c2] 25):=⟨_,rfl⟩;rw[<-hwS] at hx0 hb0 hb1 hs2;go_enter Tryz.func18,Tryz.ntmps18;go_wp2_with fail;rw[<-hwS];clear hwS;refine(HVA.out _ hx0).mono ?_;rintro e w1 ⟨rfl,e1⟩;have hx1:=hx0.trans e1;cases za with
 |false=>
  have hr:C=0:=by rw[HE.out];rfl
  have HR:=hdq hr;clear hr;go_wp2_with fail;go_ret;exact⟨by rw[HR.out];rfl,hx1⟩
 |true=>
  obtain⟨p0,p1,p2,-⟩:=own3 (e1.blk hb1);go_wp2_with fail;refine(HVB.out _ hx1).mono ?_;rintro e w2 ⟨rfl,e2⟩;have hx2:=hx1.trans e2;clear p0 p1 p2;cases zb with
  |false=>
   have hr:C=0:=by rw[HE.out];rfl
   have HR:=hdq hr;clear hr;go_wp2_with fail;go_ret;exact⟨by rw[HR.out];rfl,hx2⟩
  |true=>
   go_wp2_with fail;refine(q22 f 0 200 w2).mono ?_;rintro e w3 ⟨rfl,rfl⟩;rw[HY.out];cases y with
   |false=>
    have hr:C=0:=by rw[HE.out];rfl
    have HR:=hdq hr;clear hr;go_wp2_with fail;go_ret;exact⟨by rw[HR.out];rfl,hx2⟩
   |true=>
    have ha1:=HA.out (by simp) (by simp);have hb2:=HB.out (by simp) (by simp);rw[ha1] at HNA;rw[hb2] at HNB;have hE1:=HE.out;rw[Bool.and_self,Bool.and_self,if_pos rfl] at hE1;have HE1:=hdq hE1;clear ha1 hb2 hE1 HE;obtain⟨q0,q1,q2,-⟩:=own3 ((e1.trans e2).blk hb0);obtain⟨p0,p1,p2,-⟩:=own3 ((e1.trans e2).blk hb1);go_wp2_with fail;refine(HSM.out _ hx2).mono ?_;rintro e w3 ⟨rfl,e3⟩;have hx3:=hx2.trans e3;clear q0 q1 q2 p0 p1 p2;cases q with
    |true=>
     have hr:C=1:=by rw[HE1.out,if_pos (HQ.out.2 rfl)]
     have HR:=hdq hr;clear hr;go_wp2_with fail;go_ret;exact⟨by rw[HR.out];rfl,hx3⟩
    |false=>
     have hE2:=HE1.out;rw[if_neg (fun h=> by have:=HQ.out.1 h;cases this)] at hE2;obtain⟨S1,hS1⟩: ∃S,nrmC f.toNat (.mk k1 n1 ks1)=S:=⟨_,rfl⟩;obtain⟨S2,hS2⟩: ∃S,nrmC f.toNat (.mk k2 n2 ks2)=S:=⟨_,rfl⟩;rw[hS1] at HNA hE2;rw[hS2] at HNB hE2;obtain⟨⟨k3,n3,ks3⟩,s1⟩:=S1;obtain⟨⟨k4,n4,ks4⟩,s2⟩:=S2;have HE2:=hdq hE2;clear hS1 hS2 hE2;have eb:=(e1.trans e2).trans e3;obtain⟨q0,q1,q2,-⟩:=own3 (eb.blk hb0);go_wp2_with fail;refine(HNA.out _ hx3).mono ?_;rintro e w4 ⟨r,rfl,hM3,e4⟩;have hL3:=hM3.lies;obtain⟨A3,c3,rfl,hl3,hc3,hK3⟩:=Lies.mk_iff.1 hL3;obtain⟨w5,hw5⟩: ∃x,x=w4.alloc (.cells #[.int .i64 k3,.int .i64 n3,.slice A3 ks3.length c3] 25):=⟨_,rfl⟩;have e5:Ext w4 w5:=hw5▸(xr w4).alloc _;have hb5:w5.heap[w4.heap.size]? =some (.cells #[.int .i64 k3,.int .i64 n3,.slice A3 ks3.length c3] 25 (0,0)):=hw5▸heap_alloc_new w4 _;obtain⟨p0,p1,p2,-⟩:=own3 (((eb.trans e4).trans e5).blk hb1);have hs5:w4.heap.size < w5.heap.size:=q10 hb5;have hx5:=(hx3.trans e4).trans e5;have p04:=own3 ((eb.trans e4).blk hb1);obtain⟨r0,r1,r2,-⟩:=p04;have lz1:=q10 ((eb.trans e4).blk hb1);clear q0 q1 q2 hM3;go_wp2_with fail;rw[<-hw5];clear hw5 r0 r1 r2;refine(HNB.out _ hx5).mono ?_;rintro e w6 ⟨r,rfl,hM4,e6⟩;have hL4:=hM4.lies;obtain⟨A4,c4,rfl,hl4,hc4,hK4⟩:=Lies.mk_iff.1 hL4;obtain⟨w7,hw7⟩: ∃x,x=w6.alloc (.cells #[.int .i64 k4,.int .i64 n4,.slice A4 ks4.length c4] 25):=⟨_,rfl⟩;have e7:Ext w6 w7:=hw7▸(xr w6).alloc _;have hb7:w7.heap[w6.heap.size]? =some (.cells #[.int .i64 k4,.int .i64 n4,.slice A4 ks4.length c4] 25 (0,0)):=hw7▸heap_alloc_new w6 _;have hx7:=(hx5.trans e6).trans e7;clear p0 p1 p2 hM4;by_cases h1:s1=0
     · subst h1
       by_cases h2:s2=0
       · subst h2
         obtain⟨d0,d1,d2,-⟩:=own3 (e6.blk hb5);have lz2:=q10 (e6.blk hb5);have HS2:=hdq (j54 (.mk k3 n3 ks3) w7 (.mk k4 n4 ks4) _ _ (((hL3.ext e5).ext e6).ext e7) (hL4.ext e7));obtain⟨q2,hq2⟩: ∃q,eqTr (.mk k3 n3 ks3) (.mk k4 n4 ks4)=q:=⟨_,rfl⟩;have hr:C=if q2=true then 1 else 2:=by
          rw[HE2.out,if_pos ⟨rfl,rfl⟩,<-hq2];by_cases he:Tr.mk k3 n3 ks3=Tr.mk k4 n4 ks4
          · rw[if_pos he,if_pos (q89.2 he)]
          · rw[if_neg he,if_neg (fun h=> he (q89.1 h))]
         rw[hq2] at HS2;have HR:=hdq hr;clear hr hq2;go_wp2_with fail;rw[<-hw7];clear hw7;refine HS2.out.mono ?_;rintro e w8 ⟨rfl,e8⟩;cases q2
         all_goals(
          go_wp2_with fail;go_ret;exact⟨by rw[HR.out];rfl,hx7.trans e8⟩)
       · have hr:C=3:=by rw[HE2.out,if_neg (fun h=> h2 h.2)]
         have hb:(s2 !=0)=true:=by simpa using h2
         have HR:=hdq hr;clear hr;go_wp2_with fail;rw[<-hw7];go_ret;exact⟨by rw[HR.out];rfl,hx7⟩
     · have hr:C=3:=by rw[HE2.out,if_neg (fun h=> h1 h.1)]
       have hb:(s1 !=0)=true:=by simpa using h1
       have HR:=hdq hr;clear hr;go_wp2_with fail;rw[<-hw7];go_ret;exact⟨by rw[HR.out];rfl,hx7⟩
end Go.Proofs.YtdkamgafpphdjaaGreat
namespace Go.Proofs.YtdkamgafpphdjaaGreat
open Go.RowKit
set_option linter.unusedVariables false
open M (Hd HR Cv Ty Lim WfL TyB Lev WOk)
def LeA(x y:An):Prop:= ∀r,x=some r->y=some r
theorem LeA.rfl'(x:An):LeA x x:=fun _ h=> h
theorem LeA.thn{x y:An}{f g:Tr->An}(h:LeA x y)(k: ∀s,LeA (f s) (g s)):LeA (thn x f) (thn y g):=by
 intro r e;cases x with
 |none=> cases e
 |some p=>
  rw[h p rfl];obtain⟨s,c⟩:=p;unfold Go.Proofs.YtdkamgafpphdjaaGreat.thn at e⊢;simp only at e⊢
  split
  · rename_i hc
    rw[if_pos hc] at e;exact k s r e
  · rename_i hc
    rw[if_neg hc] at e;exact e
theorem LeA.frm{x y:An}(kind:Int)(h:LeA x y):LeA (frmV x kind) (frmV y kind):=h.thn fun _=> LeA.rfl' _
theorem LeA.chk{x y u v:An}(w:Tr)(h:LeA x y)(k:LeA u v):LeA (chkV x w u) (chkV y w v):=h.thn fun s=> by
 split
 · exact k
 · exact LeA.rfl' _
theorem LeA.fam{x y u v:An}(T:Tr)(h:LeA x y)(k:LeA u v):LeA (famV x T u) (famV y T v):=(h.frm 3).thn fun s=> by
 split
 · exact(LeA.rfl' _).thn fun _=> k
 · exact LeA.rfl' _
theorem LeA.jud{G:List Tr}{inf inf':Tr->An}{ty ty':Nat->An}(h: ∀t,LeA (inf t) (inf' t))(k: ∀i,LeA (ty i) (ty' i))(c n:Int)(ks:List Tr):LeA (judV G inf ty c n ks) (judV G inf' ty' c n ks):=by
 unfold judV;by_cases h1:c=1
 · rw[if_pos h1,if_pos h1];exact LeA.rfl' _
 rw[if_neg h1,if_neg h1];by_cases h1:c=2
 · rw[if_pos h1,if_pos h1];exact LeA.rfl' _
 rw[if_neg h1,if_neg h1];by_cases h1:c=6
 · rw[if_pos h1,if_pos h1];exact LeA.rfl' _
 rw[if_neg h1,if_neg h1];by_cases h1:c=7
 · rw[if_pos h1,if_pos h1];exact LeA.rfl' _
 rw[if_neg h1,if_neg h1];by_cases h1:c=8
 · rw[if_pos h1,if_pos h1];exact(k 0).chk _ (LeA.rfl' _)
 rw[if_neg h1,if_neg h1];by_cases h1:c=3\/c=13
 · rw[if_pos h1,if_pos h1];exact((k 0).frm 2).thn fun _=>((k 1).frm 2).thn fun _=> LeA.rfl' _
 rw[if_neg h1,if_neg h1];by_cases h1:c=4
 · rw[if_pos h1,if_pos h1];exact((k 0).frm 2).thn fun _=>(k 1).thn fun _=>(LeA.rfl' _).thn fun o=>(h o).thn fun _=> LeA.rfl' _
 rw[if_neg h1,if_neg h1];by_cases h1:c=5
 · rw[if_pos h1,if_pos h1];exact((k 0).frm 3).thn fun _=>(k 1).chk _ (LeA.rfl' _)
 rw[if_neg h1,if_neg h1];by_cases h1:c=9
 · rw[if_pos h1,if_pos h1];exact(k 0).fam _ ((LeA.rfl' _).thn fun _=>(k 1).chk _ ((LeA.rfl' _).thn fun _=>(k 2).chk _ ((k 3).chk _ (LeA.rfl' _))))
 rw[if_neg h1,if_neg h1];by_cases h1:c=10
 · rw[if_pos h1,if_pos h1];exact((k 0).frm 2).thn fun _=>(k 1).chk _ ((k 2).chk _ (LeA.rfl' _))
 rw[if_neg h1,if_neg h1];by_cases h1:c=11
 · rw[if_pos h1,if_pos h1];exact(k 0).thn fun s=>((h s).frm 2).thn fun _=> LeA.rfl' _
 rw[if_neg h1,if_neg h1];by_cases h1:c=12
 · rw[if_pos h1,if_pos h1];exact((k 1).frm 10).thn fun _=>(k 0).fam _ ((LeA.rfl' _).thn fun _=>(k 2).chk _ (LeA.rfl' _))
 rw[if_neg h1,if_neg h1];by_cases h1:c=14
 · rw[if_pos h1,if_pos h1];exact((k 0).frm 2).thn fun _=>(LeA.rfl' _).thn fun _=>(k 1).chk _ ((LeA.rfl' _).thn fun _=>(k 2).chk _ (LeA.rfl' _))
 rw[if_neg h1,if_neg h1];exact((k 0).frm 13).thn fun _=> LeA.rfl' _
theorem y150: ∀(f:Nat) (G:List Tr) (t:Tr),LeA (infV f G t) (infV (f+1) G t)
 |0,G,t=> fun r h=> by cases h
 |f+1,G,.mk k n ks=> LeA.jud (y150 f G) (fun i=> by
  unfold tyV
  split
  · exact y150 f G _
  · split
    · exact LeA.rfl' _
    · exact y150 f _ _) k n ks
theorem y121{f f':Nat}(h:f<=f')(G:List Tr)(t:Tr):LeA (infV f G t) (infV f' G t):=by
 induction h with
 |refl=> exact LeA.rfl' _
 |step _ ih=> exact fun r e=> y150 _ G t r (ih r e)
def End(G:List Tr)(t:Tr):Prop:= ∃f r,infV f G t=some r
def Is(x:An):Prop:= ∃r,x=some r
theorem Is.mk(r:Tr×Int):Is (some r):=⟨r,rfl⟩
theorem Is.thn{x:An}{f:Tr->An}(h:Is x)(k: ∀s,x=some (s,0)->Is (f s)):Is (thn x f):=by
 obtain⟨⟨s,c⟩,e⟩:=h;subst e;unfold Go.Proofs.YtdkamgafpphdjaaGreat.thn;simp only
 split
 · rename_i hc
   subst hc;exact k s rfl
 · exact Is.mk _
theorem Is.frm{x:An}(kind:Int)(h:Is x):Is (frmV x kind):=h.thn fun _ _=> Is.mk _
theorem Is.chk{x y:An}(w:Tr)(h:Is x)(k:Is y):Is (chkV x w y):=h.thn fun s _=> by
 split
 · exact k
 · exact Is.mk _
theorem Is.fam{x y:An}(T:Tr)(h:Is x)(k:Is y):Is (famV x T y):=(h.frm 3).thn fun s _=> by
 split
 · exact(Is.mk _).thn fun _ _=> k
 · exact Is.mk _
theorem Is.le{x y:An}(h:Is x)(k:LeA x y):Is y:=by
 obtain⟨r,e⟩:=h;exact⟨r,k r e⟩
theorem End.at{G:List Tr}{t:Tr}(h:End G t): ∃f,∀f',f<=f'->Is (infV f' G t):=by
 obtain⟨f,r,e⟩:=h;exact⟨f,fun f' hf=>⟨r,y121 hf G t r e⟩⟩
theorem End.of{G:List Tr}{t:Tr}{f:Nat}(h:Is (infV f G t)):End G t:=by
 obtain⟨r,e⟩:=h;exact⟨f,r,e⟩
section
variable {G : List M.Tm}
theorem q55{f:Nat}{k:Int}{A t:M.Tm}(hk:und k 1=1)(h:G.length < 20->Is (infV f (ctxE (A::G)) (enc t))):Is (tyV (infV f) (ctxE G) k [enc A,enc t] 1):=by
 rw[j90 _ _ hk]
 split
 · exact Is.mk _
 · rename_i h0
   rw[q39] at h0;rw[show ctxE G++ [kd [enc A,enc t] 0]=ctxE (A::G) from(q26 A G).symm];exact h (by omega)
theorem j119(hG:y26 G)(hL: ∀A,TyB G A->valid sigT (enc A)=true->G.length < 20-> ∀t,valid sigT (enc t)=true->End (ctxE (A::G)) (enc t)){A:M.Tm}(hA:valid sigT (enc A)=true)(h:End (ctxE G) (enc A))(t:M.Tm)(ht:valid sigT (enc t)=true):
 ∃f,∀f',f<=f'->Is (infV f' (ctxE G) (enc A))/\ ∀s,frmV (infV f' (ctxE G) (enc A)) 2=some (s,0)->G.length < 20->Is (infV f' (ctxE (A::G)) (enc t)):=by
 obtain⟨f1,h1⟩:=h.at;by_cases hb: ∃s,frmV (infV f1 (ctxE G) (enc A)) 2=some (s,0)
 · obtain⟨s,hs⟩:=hb
   obtain⟨S,i,-,-,-,-,b,-⟩:=y33 (snd f1) hG hA hs;by_cases hl:G.length < 20
   · obtain⟨f2,h2⟩:=(hL A b hA hl t ht).at
     exact⟨max f1 f2,fun f' hf=>⟨h1 f' (by omega),fun _ _ _=> h2 f' (by omega)⟩⟩
   · exact⟨f1,fun f' hf=>⟨h1 f' hf,fun _ _ h=> absurd h hl⟩⟩
 · refine⟨f1,fun f' hf=>⟨h1 f' hf,fun s hs=> ?_⟩⟩
   exfalso
   obtain⟨r,hr⟩:=h1 f1 (Nat.le_refl _);have:=y121 hf (ctxE G) (enc A) r hr;rw[this] at hs;rw[hr] at hb;exact hb ⟨s,hs⟩
theorem q13{k n:Int}{ks:List Tr}{x:Tr}(h:valid sigT (.mk k n ks)=true)(hm:x∈ks):valid sigT x=true:=q56 h hm
def EndW(G:List M.Tm)(t:M.Tm):Prop:=valid sigT (enc t)=true->End (ctxE G) (enc t)
theorem endW(hG:y26 G)(hL: ∀A,TyB G A->valid sigT (enc A)=true->G.length < 20-> ∀t,valid sigT (enc t)=true->End (ctxE (A::G)) (enc t)):WOk G (EndW G) where
 var:=fun n hv=> End.of (f:=1) ⟨_,rfl⟩
 sort:=fun n hv=> End.of (f:=1) ⟨(if(n:Int)=3 then(y13,(1:Int)) else(srtT ((n:Int)+1),0)),by simp[enc,infV,judV]⟩
 nat:=fun hv=> End.of (f:=1) ⟨_,rfl⟩
 zero:=fun hv=> End.of (f:=1) ⟨_,rfl⟩
 succ:=fun{a} h hv=> by
  obtain⟨f,h1⟩:=(h (q13 hv (by simp))).at;exact End.of (f:=f+1) ((h1 f (Nat.le_refl _)).chk natT (Is.mk _))
 pi:=fun{A} B h hv=> by
  obtain⟨f,h1⟩:=j119 hG hL (q13 hv (by simp)) (h (q13 hv (by simp))) B (q13 hv (by simp));obtain⟨h2,h3⟩:=h1 f (Nat.le_refl _);exact End.of (f:=f+1) ((h2.frm 2).thn fun s hs=>((q55 rfl (h3 s hs)).frm 2).thn fun _ _=> Is.mk _)
 sg:=fun{A} B h hv=> by
  obtain⟨f,h1⟩:=j119 hG hL (q13 hv (by simp)) (h (q13 hv (by simp))) B (q13 hv (by simp));obtain⟨h2,h3⟩:=h1 f (Nat.le_refl _);exact End.of (f:=f+1) ((h2.frm 2).thn fun s hs=>((q55 rfl (h3 s hs)).frm 2).thn fun _ _=> Is.mk _)
 lam:=fun{A} t h hv=> by
  have hA:=q13 hv (show enc A∈ [enc A,enc t] by simp);obtain⟨f,h1⟩:=j119 hG hL hA (h hA) t (q13 hv (by simp));obtain⟨h2,h3⟩:=h1 f (Nat.le_refl _);by_cases hb: ∃s b,frmV (infV f (ctxE G) (enc A)) 2=some (s,0)/\tyV (infV f) (ctxE G) 4 [enc A,enc t] 1=some (b,0)/\valid sigT (.mk 3 0 [enc A,b])=true
  · obtain⟨s,b,e1,e2,e3⟩:=hb
    obtain⟨S,i,-,-,-,-,bA,-⟩:=y33 (snd f) hG hA e1;have hl:G.length < 20:=by have:=(uty rfl e2).1;rwa [q39] at this
    obtain⟨B,rfl,-,-,vB⟩:=snd f (A::G) t b (hG.cons bA hA) (q13 hv (by simp)) (q90 rfl e2);obtain⟨f2,h4⟩:=j119 hG hL hA (h hA) B vB;refine End.of (f:=max f f2+2) ?_;obtain⟨r2,-⟩:=h1 (max f f2+1) (by omega);refine(r2.frm 2).thn fun s' e4=>(q55 rfl fun hl'=>(h1 (max f f2+1) (by omega)).2 s' e4 hl').thn fun b' e5=>(Is.mk _).thn fun o eo=> ?_
    have e6:b'=enc B:=by
     have h7:tyV (infV (max f f2+1)) (ctxE G) 4 [enc A,enc t] 1=some (enc B,0):=by
      have h8:=(uty rfl e2).2;rw[j90 _ _ rfl,if_neg (by rw[q39];omega)];exact y121 (by omega) _ _ _ h8
     rw[h7] at e5
     simpa using e5.symm
    subst e6;obtain⟨v,rfl⟩:=j27 eo;refine Is.thn ?_ fun _ _=> Is.mk _
    obtain⟨r3,r4⟩:=h4 (max f f2) (by omega);exact(r3.frm 2).thn fun s hs=>((q55 (f:=max f f2) rfl (r4 s hs)).frm 2).thn fun _ _=> Is.mk _
  · refine End.of (f:=f+1) ?_
    refine(h2.frm 2).thn fun s e1=>(q55 rfl (h3 s e1)).thn fun b e2=>(Is.mk _).thn fun o eo=> ?_
    obtain⟨v,-⟩:=j27 eo;exact absurd ⟨s,b,e1,e2,v⟩ hb
 app:=fun{g a} h k hv=> by
  obtain⟨f1,h1⟩:=(h (q13 hv (by simp))).at;obtain⟨f2,h2⟩:=(k (q13 hv (by simp))).at;exact End.of (f:=max f1 f2+1) (((h1 _ (Nat.le_max_left ..)).frm 3).thn fun _ _=>(h2 _ (Nat.le_max_right ..)).chk _ (Is.mk _))
 elim:=fun{p z s a} h1 h2 h3 h4 hv=> by
  obtain⟨f1,g1⟩:=(h1 (q13 hv (by simp))).at;obtain⟨f2,g2⟩:=(h2 (q13 hv (by simp))).at;obtain⟨f3,g3⟩:=(h3 (q13 hv (by simp))).at;obtain⟨f4,g4⟩:=(h4 (q13 hv (by simp))).at;exact End.of (f:=f1+f2+f3+f4+1) ((g1 _ (by omega)).fam _ ((Is.mk _).thn fun _ _=>(g2 _ (by omega)).chk _ ((Is.mk _).thn fun _ _=>(g3 _ (by omega)).chk _ ((g4 _ (by omega)).chk _ (Is.mk _)))))
 id:=fun{T a b} h1 h2 h3 hv=> by
  obtain⟨f1,g1⟩:=(h1 (q13 hv (by simp))).at;obtain⟨f2,g2⟩:=(h2 (q13 hv (by simp))).at;obtain⟨f3,g3⟩:=(h3 (q13 hv (by simp))).at;exact End.of (f:=f1+f2+f3+1) (((g1 _ (by omega)).frm 2).thn fun _ _=>(g2 _ (by omega)).chk _ ((g3 _ (by omega)).chk _ (Is.mk _)))
 refl:=fun{a} h k hv=> by
  have ha:=q13 hv (show enc a∈ [enc a] by simp);obtain⟨f1,g1⟩:=(h ha).at;by_cases hb: ∃s,infV f1 (ctxE G) (enc a)=some (s,0)
  · obtain⟨s,e⟩:=hb
    obtain⟨A,rfl,tA,-,vA⟩:=snd f1 G a s hG ha e;obtain⟨f2,g2⟩:=(k A tA vA).at;refine End.of (f:=f1+f2+1) ((g1 _ (by omega)).thn fun s' e'=> ?_);have:s'=enc A:=by
     have:=y121 (show f1<=f1+f2 by omega) _ _ _ e;rw[show infV (f1+f2) (ctxE G) (enc a)=some (s',0) from e'] at this
     simpa using this
    subst this;exact((g2 (f1+f2) (by omega)).frm 2).thn fun _ _=> Is.mk _
  · refine End.of (f:=f1+1) ((g1 _ (by omega)).thn fun s' e'=> ?_)
    exact absurd ⟨s',e'⟩ hb
 move:=fun{p e a} h1 h2 h3 hv=> by
  obtain⟨f1,g1⟩:=(h1 (q13 hv (by simp))).at;obtain⟨f2,g2⟩:=(h2 (q13 hv (by simp))).at;obtain⟨f3,g3⟩:=(h3 (q13 hv (by simp))).at;exact End.of (f:=f1+f2+f3+1) (((g2 _ (by omega)).frm 10).thn fun _ _=>(g1 _ (by omega)).fam _ ((Is.mk _).thn fun _ _=>(g3 _ (by omega)).chk _ (Is.mk _)))
 pair:=fun{T a b} h1 h2 h3 hv=> by
  obtain⟨f1,g1⟩:=(h1 (q13 hv (by simp))).at;obtain⟨f2,g2⟩:=(h2 (q13 hv (by simp))).at;obtain⟨f3,g3⟩:=(h3 (q13 hv (by simp))).at;exact End.of (f:=f1+f2+f3+1) (((g1 _ (by omega)).frm 2).thn fun _ _=>(Is.mk _).thn fun _ _=>(g2 _ (by omega)).chk _ ((Is.mk _).thn fun _ _=>(g3 _ (by omega)).chk _ (Is.mk _)))
 fst:=fun{a} h hv=> by
  obtain⟨f,h1⟩:=(h (q13 hv (by simp))).at;exact End.of (f:=f+1) (((h1 f (Nat.le_refl _)).frm 13).thn fun _ _=> Is.mk _)
 snd:=fun{a} h hv=> by
  obtain⟨f,h1⟩:=(h (q13 hv (by simp))).at;exact End.of (f:=f+1) (((h1 f (Nat.le_refl _)).frm 13).thn fun _ _=> Is.mk _)
end
theorem q147: ∀(d:Nat) (G:List M.Tm),20<=G.length+d->y26 G-> ∀t,EndW G t:=by
 intro d
 induction d with
 |zero=>
  intro G hd hG;have hL: ∀A,TyB G A->valid sigT (enc A)=true->G.length < 20-> ∀t,valid sigT (enc t)=true->End (ctxE (A::G)) (enc t):=fun A _ _ h=> by omega
  exact fun t=> M.allW (endW hG hL) hG.wf.wf t
 |succ d ih=>
  intro G hd hG;have hL: ∀A,TyB G A->valid sigT (enc A)=true->G.length < 20-> ∀t,valid sigT (enc t)=true->End (ctxE (A::G)) (enc t):=fun A b v h t=> ih (A::G) (by simp only[List.length_cons];omega) (hG.cons b v) t
  exact fun t=> M.allW (endW hG hL) hG.wf.wf t
end Go.Proofs.YtdkamgafpphdjaaGreat
namespace Go.Proofs.YtdkamgafpphdjaaGreat
open Go.RowKit
set_option linter.unusedVariables false
theorem mkV_yes{t:Tr}(h:valid sigT t=true):mkV t=(t,0):=if_pos h
theorem mkV_not{t:Tr}(h:valid sigT t=false):mkV t=(y13,2):=if_neg (by rw[h];decide)
theorem j117(t:Tr)(ok:Bool)(w0:World)(N:Nat->Prop)(v:Value)(hin:InT w0 N t v):Calls Tryz.prog 146 #[v,.bool ok] w0 (AnQ N w0 (if ok=true then mkV t else(y13,2))):=by
 have HV:=hdq (fun W (hW:Ext w0 W)=> q17 t W v (hin.lies'.ext hW));have HIN:=hdq hin;obtain⟨z,hz⟩: ∃z,valid sigT t=z:=⟨_,rfl⟩;rw[hz] at HV;obtain⟨k,n,ks⟩:=t;obtain⟨A,cap,rfl,hl,hc,hK⟩:=InT.mk_iff.1 hin;clear hin;cases ok with
 |false=>
  rw[if_neg (by simp)];clear hz;go_enter Tryz.func146,Tryz.ntmps146;go_wp2_with fail;exact bodyPost_ret (v:= .tuple #[.agg #[.int .i64 0,.int .i64 0,.slice none 0 0],.int .i64 2]) (by simp[results,Tryz.results146,go_sem]) rfl ⟨_,rfl,j19 _ _ 0 0,(((xr _).alloc _).alloc _)⟩
 |true=>
  rw[if_pos rfl];obtain⟨w1,hw1⟩: ∃x,x=((w0.alloc (.cells #[.int .i64 k,.int .i64 n,.slice A ks.length cap] 25)).alloc (.cells #[.int .i64 0,.int .i64 0,.slice none 0 0] 25)):=⟨_,rfl⟩;obtain⟨bt_1,br_1,s1,e1⟩:=box2 hw1;cases z with
  |false=>
   rw[mkV_not hz];clear hz;go_enter Tryz.func146,Tryz.ntmps146;go_wp2_with fail;rw[<-hw1];clear hw1;refine(HV.out _ e1).mono ?_;rintro e w2 ⟨rfl,e2⟩;have s2:=e2.size;have bt_2:=e2.blk bt_1;obtain⟨zt0,zt1,zt2,-⟩:=own3 bt_2;have lt:=q10 bt_2;have br_2:=e2.blk br_1;obtain⟨zr0,zr1,zr2,yr0,yr1,yr2⟩:=own3 br_2;have lr:=q10 br_2;have X0_1:=e1;have X0_2:=X0_1.trans e2;go_wp2_with fail;refine bodyPost_ret (v:= .tuple #[.agg #[.int .i64 0,.int .i64 0,.slice none 0 0],.int .i64 2]) (by simp[results,Tryz.results146,go_sem,zr0,zr1,zr2]) rfl ⟨_,rfl,j19 _ _ 0 0,(X0_2.set3 (by omega) _ _ _)⟩
  |true=>
   rw[mkV_yes hz];clear hz;go_enter Tryz.func146,Tryz.ntmps146;go_wp2_with fail;rw[<-hw1];clear hw1;refine(HV.out _ e1).mono ?_;rintro e w2 ⟨rfl,e2⟩;have s2:=e2.size;have X0_1:=e1;have X0_2:=X0_1.trans e2;have bt_2:=e2.blk bt_1;obtain⟨zt0,zt1,zt2,-⟩:=own3 bt_2;have lt:=q10 bt_2;have br_2:=e2.blk br_1;obtain⟨zr0,zr1,zr2,yr0,yr1,yr2⟩:=own3 br_2;have lr:=q10 br_2;go_wp2_with fail;refine bodyPost_ret (v:= .tuple #[.agg #[.int .i64 k,.int .i64 n,.slice A ks.length cap],.int .i64 0]) (by simp[results,Tryz.results146,go_sem,zr0,zr1,zr2]) rfl ⟨_,rfl,InT.ret (InT.keep HIN.out X0_2 (show w0.heap.size<=w0.heap.size+1 from Nat.le_succ _)) _ _ _,(X0_2.set3 (by omega) _ _ _)⟩
theorem q57(a b:Tr)(w0:World)(va vb:Value)(ha:Lies w0 a va)(hb:Lies w0 b vb):Calls Tryz.prog 104 #[va,vb] w0 fun e w'=> e= .returned (.int .i64 (cvtV a b))/\Ext w0 w':=by
 have HC:=hdq (fun W (hW:Ext w0 W)=> y55 a b 200 W va vb (ha.ext hW) (hb.ext hW));obtain⟨c,hcc⟩: ∃c,y66 a b 200=c:=⟨_,rfl⟩;rw[hcc] at HC;have h1:c=1->cvtV a b=0:=fun h=> by unfold cvtV;rw[hcc,if_pos h]
 have h2: ¬c=1->c=2->cvtV a b=1:=fun h h'=> by unfold cvtV;rw[hcc,if_neg h,if_pos h']
 have h3: ¬c=1-> ¬c=2->cvtV a b=2:=fun h h'=> by unfold cvtV;rw[hcc,if_neg h,if_neg h']
 generalize cvtV a b=R at h1 h2 h3⊢;clear hcc;obtain⟨k,n,ks⟩:=a;obtain⟨A,cap,rfl,hl,hc,hK⟩:=Lies.mk_iff.1 ha;obtain⟨k2,n2,ks2⟩:=b;obtain⟨A2,cap2,rfl,hl2,hc2,hK2⟩:=Lies.mk_iff.1 hb;clear ha hb;obtain⟨w1,hw1⟩: ∃x,x=((w0.alloc (.cells #[.int .i64 k,.int .i64 n,.slice A ks.length cap] 25)).alloc (.cells #[.int .i64 k2,.int .i64 n2,.slice A2 ks2.length cap2] 25)):=⟨_,rfl⟩;obtain⟨ba_1,bb_1,s1,e1⟩:=box2 hw1;by_cases hc1:c=1
 · obtain rfl:=h1 hc1
   clear h1 h2 h3;subst hc1;go_enter Tryz.func104,Tryz.ntmps104;go_wp2_with fail;rw[<-hw1];clear hw1;refine(HC.out _ e1).mono ?_;rintro e w2 ⟨rfl,e2⟩;go_wp2_with fail;go_ret;exact⟨rfl,(e1.trans e2)⟩
 have t1:(c==1)=false:=beq_eq_false_iff_ne.2 hc1;by_cases hc2:c=2
 · obtain rfl:=h2 hc1 hc2
   clear h1 h2 h3 t1 hc1;subst hc2;go_enter Tryz.func104,Tryz.ntmps104;go_wp2_with fail;rw[<-hw1];clear hw1;refine(HC.out _ e1).mono ?_;rintro e w2 ⟨rfl,e2⟩;go_wp2_with fail;go_ret;exact⟨rfl,(e1.trans e2)⟩
 have t2:(c==2)=false:=beq_eq_false_iff_ne.2 hc2;obtain rfl:=h3 hc1 hc2;clear h1 h2 h3 hc1 hc2;go_enter Tryz.func104,Tryz.ntmps104;go_wp2_with fail;rw[<-hw1];clear hw1;refine(HC.out _ e1).mono ?_;rintro e w2 ⟨rfl,e2⟩;go_wp2_with fail;go_ret;exact⟨rfl,(e1.trans e2)⟩
theorem q62(t:Tr)(kind:Int)(w0:World)(N:Nat->Prop)(hN: ∀b,w0.heap.size<=b->N b)(v:Value)(hin:Lies w0 t v):Calls Tryz.prog 107 #[v,.int .i64 kind] w0 (AnQ N w0 (shpV t kind)):=by
 have HC:=hdq (fun W (hW:Ext w0 W)=> j102 t 200 W v (hin.ext hW));have HN:=hdq hN;obtain⟨⟨⟨k3,n3,ks3⟩,c⟩,hq⟩: ∃q,hnfV t 200=q:=⟨_,rfl⟩;rw[hq] at HC;have h1: ¬c=0->shpV t kind=(y13,2):=fun h=> by unfold shpV;rw[hq,if_pos h]
 have h2:c=0-> ¬k3=kind->shpV t kind=(y13,1):=fun h h'=> by unfold shpV;rw[hq,if_neg (by simpa using h)];exact if_pos h'
 have h3:c=0->k3=kind->shpV t kind=(.mk k3 n3 ks3,0):=fun h h'=> by unfold shpV;rw[hq,if_neg (by simpa using h)];exact if_neg (fun hne=> hne h')
 generalize shpV t kind=R at h1 h2 h3⊢;clear hN hq;obtain⟨k,n,ks⟩:=t;obtain⟨A,cap,rfl,hl,hc,hK⟩:=Lies.mk_iff.1 hin;clear hin;obtain⟨w1,hw1⟩: ∃x,x=((w0.alloc (.cells #[.int .i64 k,.int .i64 n,.slice A ks.length cap] 25)).alloc (.cells #[.int .i64 0,.int .i64 0,.slice none 0 0] 25)):=⟨_,rfl⟩;obtain⟨bt_1,br_1,s1,e1⟩:=box2 hw1;by_cases hc0:c=0
 · by_cases hk:k3=kind
   · obtain rfl:=h3 hc0 hk
     subst hc0;subst hk;clear h1 h2 h3;have t1:(k3 !=k3)=false:=by simp
     go_enter Tryz.func107,Tryz.ntmps107;go_wp2_with fail;rw[<-hw1];clear hw1;refine(HC.out _ e1).mono ?_;rintro e w2 ⟨r,rfl,hM,e2⟩;have s2:=e2.size;have HT:InT w2 (fun b=> N b/\b≠w0.heap.size+1) (.mk k3 n3 ks3) r:=hM.at' (newN HN.out e1.size (by omega));obtain⟨A3,cap3,rfl,hl3,hc3,hK3⟩:=InT.mk_iff.1 HT;have HTT:=hdq HT;clear HT hM hK3;have bt_2:=e2.blk bt_1;obtain⟨zt0,zt1,zt2,-⟩:=own3 bt_2;have lt:=q10 bt_2;have br_2:=e2.blk br_1;obtain⟨zr0,zr1,zr2,yr0,yr1,yr2⟩:=own3 br_2;have lr:=q10 br_2;clear lr;have eq2:Ext w2 (w2.alloc (.cells #[.int .i64 k3,.int .i64 n3,.slice A3 ks3.length cap3] 25)):=(xr w2).alloc _;have X0_1:=e1;have X0_2:=X0_1.trans e2;obtain⟨pr0,pr1,pr2,or0,or1,or2⟩:=own3 (eq2.blk br_2);go_wp2_with fail;refine bodyPost_ret (v:= .tuple #[.agg #[.int .i64 k3,.int .i64 n3,.slice A3 ks3.length cap3],.int .i64 0]) (by simp[results,Tryz.results107,go_sem,pr0,pr1,pr2]) rfl ⟨_,rfl,InT.ret (InT.later HTT.out ((xr _).alloc _)) _ _ _,((((X0_2.trans eq2).setCell (by simp;try omega) _).setCell (by simp;try omega) _).setCell (by simp;try omega) _)⟩
   · obtain rfl:=h2 hc0 hk
     subst hc0;clear h1 h2 h3;have t1:(k3 !=kind)=true:=by simp[hk]
     clear hk;go_enter Tryz.func107,Tryz.ntmps107;go_wp2_with fail;rw[<-hw1];clear hw1;refine(HC.out _ e1).mono ?_;rintro e w2 ⟨r,rfl,hM,e2⟩;have s2:=e2.size;have HT:InT w2 (fun b=> N b/\b≠w0.heap.size+1) (.mk k3 n3 ks3) r:=hM.at' (newN HN.out e1.size (by omega));obtain⟨A3,cap3,rfl,hl3,hc3,hK3⟩:=InT.mk_iff.1 HT;have HTT:=hdq HT;clear HT hM hK3;have bt_2:=e2.blk bt_1;obtain⟨zt0,zt1,zt2,-⟩:=own3 bt_2;have lt:=q10 bt_2;have br_2:=e2.blk br_1;obtain⟨zr0,zr1,zr2,yr0,yr1,yr2⟩:=own3 br_2;have lr:=q10 br_2;clear lr;have eq2:Ext w2 (w2.alloc (.cells #[.int .i64 k3,.int .i64 n3,.slice A3 ks3.length cap3] 25)):=(xr w2).alloc _;have X0_1:=e1;have X0_2:=X0_1.trans e2;obtain⟨pr0,pr1,pr2,or0,or1,or2⟩:=own3 (eq2.blk br_2);go_wp2_with fail;refine bodyPost_ret (v:= .tuple #[.agg #[.int .i64 0,.int .i64 0,.slice none 0 0],.int .i64 1]) (by simp[results,Tryz.results107,go_sem,pr0,pr1,pr2]) rfl ⟨_,rfl,j19 _ _ 0 0,((((X0_2.trans eq2).setCell (by simp;try omega) _).setCell (by simp;try omega) _).setCell (by simp;try omega) _)⟩
 · obtain rfl:=h1 hc0
   clear h1 h2 h3;have t1:(c !=0)=true:=by simp[hc0]
   clear hc0;go_enter Tryz.func107,Tryz.ntmps107;go_wp2_with fail;rw[<-hw1];clear hw1;refine(HC.out _ e1).mono ?_;rintro e w2 ⟨r,rfl,hM,e2⟩;have s2:=e2.size;have HT:InT w2 (fun b=> N b/\b≠w0.heap.size+1) (.mk k3 n3 ks3) r:=hM.at' (newN HN.out e1.size (by omega));obtain⟨A3,cap3,rfl,hl3,hc3,hK3⟩:=InT.mk_iff.1 HT;have HTT:=hdq HT;clear HT hM hK3;have bt_2:=e2.blk bt_1;obtain⟨zt0,zt1,zt2,-⟩:=own3 bt_2;have lt:=q10 bt_2;have br_2:=e2.blk br_1;obtain⟨zr0,zr1,zr2,yr0,yr1,yr2⟩:=own3 br_2;have lr:=q10 br_2;clear lr;have eq2:Ext w2 (w2.alloc (.cells #[.int .i64 k3,.int .i64 n3,.slice A3 ks3.length cap3] 25)):=(xr w2).alloc _;have X0_1:=e1;have X0_2:=X0_1.trans e2;obtain⟨pr0,pr1,pr2,or0,or1,or2⟩:=own3 (eq2.blk br_2);go_wp2_with fail;refine bodyPost_ret (v:= .tuple #[.agg #[.int .i64 0,.int .i64 0,.slice none 0 0],.int .i64 2]) (by simp[results,Tryz.results107,go_sem,pr0,pr1,pr2]) rfl ⟨_,rfl,j19 _ _ 0 0,((((X0_2.trans eq2).setCell (by simp;try omega) _).setCell (by simp;try omega) _).setCell (by simp;try omega) _)⟩
theorem j81(n:Int)(w:World):Calls Tryz.prog 166 #[.int .i64 n] w fun e w'=> e= .returned (.agg #[.int .i64 2,.int .i64 n,.slice none 0 0])/\Ext w w':=by
 go_enter Tryz.func166,Tryz.ntmps166;go_wp2_with fail;exact bodyPost_ret (v:= .agg #[.int .i64 2,.int .i64 n,.slice none 0 0]) (by simp[results,Tryz.results166,go_sem]) rfl ⟨rfl,(xr w).alloc _⟩
theorem y106(t:Tr)(w0:World)(N:Nat->Prop)(v:Value)(hin:InT w0 N t v):Calls Tryz.prog 172 #[v] w0 fun e w'=> ∃u,e= .returned u/\InT w' N (kd t.kids 0) u/\Ext w0 w':=by
 obtain⟨k,n,ks⟩:=t;obtain⟨A,cap,rfl,hl,hc,hK⟩:=InT.mk_iff.1 hin;have hcc:=hc;unfold maxLen at hcc;have hkids:(Tr.mk k n ks).kids=ks:=rfl;rw[hkids];clear hin hkids;by_cases hz:ks.length=0
 · have h0:kd ks 0=y13:=y120 (by omega)
   rw[h0];generalize ks.length=len at hz hl;subst hz;go_enter Tryz.func172,Tryz.ntmps172;go_wp2_with fail;exact bodyPost_ret (v:= .agg #[.int .i64 0,.int .i64 0,.slice none 0 0]) (by simp[results,Tryz.results172,go_sem]) rfl ⟨_,rfl,j19 _ _ 0 0,(((xr _).alloc _).alloc _)⟩
 · have hx:=((xr w0).alloc (.cells #[.int .i64 k,.int .i64 n,.slice A ks.length cap] 25)).alloc (.cells #[.int .i64 0,.int .i64 0,.slice none 0 0] 25)
   obtain⟨b,o,k1,n1,A1,p1,kids1,rfl,HK1,c0,c1,c2,l1,m1,hK1,hin1,hmem1,hSb⟩:=hK.get (fun b _=> rfl) (j:=0) (by omega);simp only[Nat.zero_mul,Nat.add_zero] at c0 c1 c2;have d0:=hx.cell c0;have d1:=hx.cell c1;have d2:=hx.cell c2;have hkd:kd ks 0= .mk k1 n1 kids1:=j71 (by omega) HK1.out;rw[hkd];have hpos:(0:Int) <(ks.length:Int):=by omega
   have hpos2:0 < ks.length:=by omega
   have hne:(((ks.length:Int))==0)=false:=beq_eq_false_iff_ne.2 (by omega);have HI:=hdq hin1;clear hkd HK1 hK hK1 hin1 hmem1 hz c0 c1 c2;go_enter Tryz.func172,Tryz.ntmps172;go_wp2_with fail;refine bodyPost_ret (v:= .agg #[.int .i64 k1,.int .i64 n1,.slice A1 kids1.length p1]) (by simp[results,Tryz.results172,go_sem]) rfl ⟨_,rfl,InT.later HI.out ?_, ?_⟩
   all_goals exact(((xr _).alloc _).alloc _)
end Go.Proofs.YtdkamgafpphdjaaGreat
