/-
  Lemmas towards the law, 38: Norm, MNb.
-/
import Derived.Test.YtdkamgafpphdjaaGreatTBK
namespace Go.Proofs.YtdkamgafpphdjaaGreat
open Go.RowKit
set_option linter.unusedVariables false
theorem j175{x:Tr}(h:outT x=none)(f:Nat):nrmC f x=(x,0):=by
 cases f <;>(unfold nrmC;rw[h])
theorem y188{x:Tr}{p:List Int}(h:outT x=some p):nrmC 0 x=(j14,1):=by
 unfold nrmC;rw[h]
theorem nrmC_no{x:Tr}{p:List Int}(h:outT x=some p)(hv:valid sigT (conA x p)=false)(f:Nat):nrmC (f+1) x=(j14,2):=by
 rw[nrmC,h];simp only;rw[if_neg (by rw[hv];decide)]
theorem nrmC_go{x:Tr}{p:List Int}(h:outT x=some p)(hv:valid sigT (conA x p)=true)(f:Nat):nrmC (f+1) x=nrmC f (conA x p):=by
 rw[nrmC,h];simp only;rw[if_pos hv]
set_option maxRecDepth 100000 in
set_option maxHeartbeats 4000000 in
theorem y166(t:Tr)(f:Int)(w:World)(v:Value)(hin:Lies w t v):
 Calls Tryz.prog 130 #[v, .int .i64 f, .func (.func 131) #[] #[]] w fun e w'=> ∃r s,e= .returned (.tuple #[r, .int .i64 s, .int .i64 (q136 t f).2])/\Made w w' 25 (q136 t f).1 r/\Ext w w':=by
 have HV:=hdq (fun W (hW:Ext w W)=> q18 t W v (hin.ext hW));have E:q136 t f=if(valid sigT t && inR f 0 200)=true then nrmC f.toNat t else(j14,3):=rfl
 rw[E];clear E;obtain⟨z,hz⟩: ∃z,valid sigT t=z:=⟨_,rfl⟩;obtain⟨y,hy⟩: ∃y,inR f 0 200=y:=⟨_,rfl⟩;rw[hz] at HV⊢;rw[hy];obtain⟨k,n,ks⟩:=t;obtain⟨A,cap,rfl,hl,hc,hK⟩:=Lies.mk_iff.1 hin;have hx0:=((xr w).alloc (.cells #[.int .i64 k, .int .i64 n, .slice A ks.length cap] 25)).alloc (.cells #[.int .i64 0, .int .i64 0, .slice none 0 0] 25);obtain⟨hb0,hb1,hs2⟩:=blk2 (xr ((w.alloc (.cells #[.int .i64 k, .int .i64 n, .slice A ks.length cap] 25)).alloc (.cells #[.int .i64 0, .int .i64 0, .slice none 0 0] 25)));obtain⟨wS,hwS⟩: ∃x,x=(w.alloc (.cells #[.int .i64 k, .int .i64 n, .slice A ks.length cap] 25)).alloc (.cells #[.int .i64 0, .int .i64 0, .slice none 0 0] 25):=⟨_,rfl⟩;rw[<-hwS] at hx0 hb0 hb1 hs2;cases z with
 |false=>
  rw[if_neg (by simp)];go_enter Tryz.func130,Tryz.ntmps130;go_wp2_with fail;rw[<-hwS];clear hwS;refine(HV.out _ hx0).mono ?_;rintro e w1 ⟨rfl,h1⟩;obtain⟨s0,s1,s2,f0,f1,f2⟩:=own3 (h1.blk hb1);go_wp2_with fail;refine bodyPost_ret (v:= .tuple #[.agg #[.int .i64 0, .int .i64 0, .slice none 0 0], .int .i64 0, .int .i64 3]) (by simp[results,Tryz.results130,go_sem,s0,s1,s2]) rfl ⟨_,_,rfl,Made.leaf _ _ _ 0 0, ?_⟩;exact((((hx0.trans h1).setCell (by simp) _).setCell (by simp) _).setCell (by simp) _)
 |true=>
  cases y with
  |false=>
   rw[if_neg (by simp)];go_enter Tryz.func130,Tryz.ntmps130;go_wp2_with fail;rw[<-hwS];clear hwS;refine(HV.out _ hx0).mono ?_;rintro e w1 ⟨rfl,h1⟩;obtain⟨s0,s1,s2,f0,f1,f2⟩:=own3 (h1.blk hb1);go_wp2_with (go_at_call 67;refine(q22 _ _ _ _).mono ?_;rw[hy];rintro e w3 ⟨rfl,rfl⟩)
   refine bodyPost_ret (v:= .tuple #[.agg #[.int .i64 0, .int .i64 0, .slice none 0 0], .int .i64 0, .int .i64 3]) (by simp[results,Tryz.results130,go_sem,s0,s1,s2]) rfl ⟨_,_,rfl,Made.leaf _ _ _ 0 0, ?_⟩;exact((((hx0.trans h1).setCell (by simp) _).setCell (by simp) _).setCell (by simp) _)
  |true=>
   rw[if_pos (by simp)];obtain⟨hf1,hf2⟩:=y37.1 hy;obtain⟨F,rfl⟩:=Int.eq_ofNat_of_zero_le hf1;rw[show((F:Int)).toNat=F from by omega];obtain⟨R,hR⟩: ∃R,nrmC F (.mk k n ks)=R:=⟨_,rfl⟩;rw[hR];have HR:=hdq hR;have HY:=hdq hy;have HZ:=hdq hz;have HF:=hdq hf2;clear hy hR hz hf1 hf2;go_enter Tryz.func130,Tryz.ntmps130;go_wp2_with fail;rw[<-hwS];clear hwS;refine(HV.out _ hx0).mono ?_;rintro e w1 ⟨rfl,h1⟩;have hb10:=h1.blk hb0;have hb11:=h1.blk hb1;have hx1:=hx0.trans h1;go_wp2_with (go_at_call 67;refine(q22 _ _ _ _).mono ?_;rw[HY.out];rintro e w3 ⟨rfl,rfl⟩)
   clear HV hx0 hb0 hb1 hs2 h1 hin HY
   go_loopw [9] (fun i wr=> ∃(j:Nat) (k' n':Int) (kids:List Tr) (A':Option Addr) (c':Nat),j<=F/\i= .int .i64 j/\
    Hid (nrmC (F - j) (.mk k' n' kids)=R)/\Hid (valid sigT (.mk k' n' kids)=true)/\kids.length<=c'/\c'<=maxLen/\InK wr (fun b=> b < wr.heap.size/\(b < w.heap.size\/w.heap.size+2<=b)) A' kids/\
    wr.heap[w.heap.size]? =some (.cells #[.int .i64 k', .int .i64 n', .slice A' kids.length c'] 25 (0,0))/\wr.heap[w.heap.size+1]? =some (.cells #[.int .i64 0, .int .i64 0, .slice none 0 0] 25 (0,0))/\Ext w wr) (fun i _=> F -(intOf i).toNat)
   case atStart=> exact⟨0,k,n,ks,A,cap,Nat.zero_le _,rfl,hdq HR.out,HZ,hl,hc,InK.mono (fun b hb=>⟨Nat.lt_of_lt_of_le hb hx1.size, .inl hb⟩) (fun b hb=> hx1.heap b hb) hK,hb10,hb11,hx1⟩
   case round=>
    obtain⟨j,k',n',kids,A',c',hj,rfl,HN,HVX,hkl,hkc,hT,hb,hbR,hx⟩:=hrel;have hsz:w.heap.size+1 < wr.heap.size:=q10 hbR;have hL:Lies wr (.mk k' n' kids) (.agg #[.int .i64 k', .int .i64 n', .slice A' kids.length c']):=Lies.mk hkl hkc (InK.mono (fun b hb=> hb.1) (fun _ _=> rfl) hT);have HO:=q190 (.mk k' n' kids) wr _ 30 (q14 HVX.out).2 hL (by decide);have HOW:=hdq (fun W (hW:Ext wr W)=> q45 (.mk k' n' kids) W _ (hL.ext hW) (by have:=(q14 HVX.out).1;omega));have HCO:=hdq (fun p (hp:outT (.mk k' n' kids)=some p) W (hW:Ext wr W) B c (hP:PFs W B p.length c p)=> j69 (.mk k' n' kids) p HVX.out (y143 _ p hp) W _ (hL.ext hW) B p.length c hP (by have:=q120 _ 30 (q14 HVX.out).2 p hp;omega));rw[show outP (.mk k' n' kids)=(outT (.mk k' n' kids)).getD [] from rfl] at HO;have HO2:=hdq HO;clear HO hT hK hb10 hb11 hx1;obtain⟨z0,z1,z2,-,-,-⟩:=own3 hb;obtain⟨q,hq⟩: ∃q,outT (.mk k' n' kids)=q:=⟨_,rfl⟩;rw[hq] at HO2;cases q with
    |none=>
     have HE:=hdq (HN.out.symm.trans (j175 hq (F - j)));clear HCO hq HN;go_wp2_with fail;refine HO2.out.mono ?_;rintro e w2 ⟨x,rfl,-,h2⟩;obtain⟨y0,y1,y2,-,-,-⟩:=own3 (h2.blk hb);clear z0 z1 z2;go_wp2_with fail;refine(HOW.out _ h2).mono ?_;rintro e w3 ⟨r,rfl,hM,h3⟩;obtain⟨b1,b2,b3,b4,b5,rfl⟩:=hM.three';have h16:=h2.trans h3;obtain⟨s0,s1,s2,f0,f1,f2⟩:=own3 (h16.blk hbR);have hw4:w.heap.size+2<=w2.heap.size:=by have:=h2.size;omega
     clear y0 y1 y2;go_wp2_with fail;rw[HE.out];refine bodyPost_ret (v:= .tuple #[.agg #[.int .i64 b1, .int .i64 b2, .slice b3 b4 b5], .int .i64 j, .int .i64 0]) (by simp[results,Tryz.results130,go_sem,s0,s1,s2]) rfl ⟨_,_,rfl,Made.since (hM.after ((((y28.refl _ _).setCell (p:=⟨w.heap.size+1,0,none⟩) (by show w.heap.size+1 < _;omega) (.int .i64 b1)).setCell (p:=⟨w.heap.size+1,1,none⟩) (by show w.heap.size+1 < _;omega) (.int .i64 b2)).setCell (p:=⟨w.heap.size+1,2,none⟩) (by show w.heap.size+1 < _;omega) (.slice b3 b4 b5))) (by omega), ?_⟩;exact((((hx.trans h16).setCell (by simp) _).setCell (by simp) _).setCell (by simp) _)
    |some p=>
     have HCO2:=hdq (HCO.out p hq);simp only[Option.isSome_some,Option.getD_some] at HO2;have HQ:=hdq hq;clear HCO hq HOW;by_cases hjF:j=F
     · have HE:=hdq (HN.out.symm.trans (show nrmC (F - j) (.mk k' n' kids)=(j14,1) by rw[show F - j=0 by omega];exact y188 HQ.out))
       clear HCO2 HN;subst hjF;go_wp2_with fail;refine HO2.out.mono ?_;rintro e w2 ⟨x,rfl,hRw,h2⟩;obtain⟨B,c,rfl,hP⟩:=j87 hRw;obtain⟨s0,s1,s2,f0,f1,f2⟩:=own3 (h2.blk hbR);clear z0 z1 z2 hRw;go_wp2_with fail;rw[HE.out];refine bodyPost_ret (v:= .tuple #[.agg #[.int .i64 0, .int .i64 0, .slice none 0 0], .int .i64 j, .int .i64 1]) (by simp[results,Tryz.results130,go_sem,s0,s1,s2]) rfl ⟨_,_,rfl,Made.leaf _ _ _ 0 0, ?_⟩;exact((((hx.trans h2).setCell (by simp) _).setCell (by simp) _).setCell (by simp) _)
     · have hj1:((j:Int)==(F:Int))=false:=beq_eq_false_iff_ne.2 (by omega)
       have hj2:(j==F)=false:=beq_eq_false_iff_ne.2 hjF;have hlt:j < F:=by omega
       have hj3:(j:Int) < 200:=by have:=HF.out;omega
       have hj4:F<=200:=by have:=HF.out;omega
       obtain⟨g,hg⟩: ∃g,F - j=g+1:=⟨F - j - 1,by omega⟩;have hg2:F -(j+1)=g:=by omega
       have hcv:conV (.mk k' n' kids) p=if valid sigT (conA (.mk k' n' kids) p)=true then(conA (.mk k' n' kids) p,true) else(j14,false):=rfl
       have HN1:=HN.out;rw[hg] at HN1;by_cases hcx:valid sigT (conA (.mk k' n' kids) p)=true
       · rw[if_pos hcx] at hcv
         rw[nrmC_go HQ.out hcx,<-hg2] at HN1;rw[hcv] at HCO2;clear hcv HN hg hg2;generalize conA (.mk k' n' kids) p=X at HCO2 HN1 hcx;obtain⟨k2,n2,kids2⟩:=X;have HX1:=hdq HN1;have HX2:=hdq hcx;clear HN1 hcx;go_wp2_with fail;refine HO2.out.mono ?_;rintro e w2 ⟨x,rfl,hRw,h2⟩;obtain⟨B,c,rfl,hP⟩:=j87 hRw;obtain⟨y0,y1,y2,-,-,-⟩:=own3 (h2.blk hb);clear z0 z1 z2 hRw;go_wp2_with fail;refine(HCO2.out _ h2 _ _ hP).mono ?_;rintro e w3 ⟨r,rfl,hM,h3⟩;have hF3:=From.made hM;obtain⟨A2,c2,rfl,hl2,hc2,hK2⟩:=InT.mk_iff.1 hF3;have h16:=(h2.trans h3).trans ((xr w3).alloc (.cells #[.int .i64 k2, .int .i64 n2, .slice A2 kids2.length c2] 25));obtain⟨s0,s1,s2,f0,f1,f2⟩:=own3 (h16.blk hb);have hb7:=h16.blk hb;have hb8:=h16.blk hbR;have hs23:wr.heap.size<=w2.heap.size:=h2.size;have hs33:w2.heap.size<=w3.heap.size:=h3.size;have KEEP:=hdq (fun(a0 a1 a2:Value) (b:Nat) (hb:b < w3.heap.size) (hne:b≠w.heap.size)=>(show((((w3.alloc (.cells #[.int .i64 k2, .int .i64 n2, .slice A2 kids2.length c2] 25)).setCell ⟨w.heap.size,0,none⟩ a0).setCell ⟨w.heap.size,1,none⟩ a1).setCell ⟨w.heap.size,2,none⟩ a2).heap[b]? =w3.heap[b]?from by
          rw[Below.heap_setCell _ _ _ _ hne,Below.heap_setCell _ _ _ _ hne,Below.heap_setCell _ _ _ _ hne];exact((xr w3).alloc _).heap b hb))
         clear y0 y1 y2 hb hbR hM hF3;go_wp2_with fail
         go_roundw
         case rel=> exact⟨j+1,k2,n2,kids2,A2,c2,hlt,by go_num,HX1,HX2,hl2,hc2,InK.mono (fun b hb=>⟨by simp;omega, .inr (by omega)⟩) (fun b hb=> KEEP.out _ _ _ b hb.2 (by omega)) hK2,q11 (q11 (q11 hb7 0 _) 1 _) 2 _,j11 (j11 (j11 hb8 (by simp) _) (by simp) _) (by simp) _,(((hx.trans h16).setCell (by simp) _).setCell (by simp) _).setCell (by simp) _⟩
         case measure=> simp[intOf];omega
       · rw[if_neg hcx] at hcv
         rw[nrmC_no HQ.out (Bool.eq_false_iff.2 hcx)] at HN1;rw[hcv] at HCO2;have HE:=hdq HN1.symm;clear hcv HN hg hg2 hcx HN1;go_wp2_with fail;refine HO2.out.mono ?_;rintro e w2 ⟨x,rfl,hRw,h2⟩;obtain⟨B,c,rfl,hP⟩:=j87 hRw;obtain⟨y0,y1,y2,-,-,-⟩:=own3 (h2.blk hb);clear z0 z1 z2 hRw;go_wp2_with fail;refine(HCO2.out _ h2 _ _ hP).mono ?_;rintro e w3 ⟨r,rfl,hM,h3⟩;obtain⟨b1,b2,b3,b4,b5,rfl⟩:=hM.three';have h16:=(h2.trans h3).trans ((xr w3).alloc (.cells #[.int .i64 b1, .int .i64 b2, .slice b3 b4 b5] 25));obtain⟨s0,s1,s2,f0,f1,f2⟩:=own3 (h16.blk hbR);clear y0 y1 y2;go_wp2_with fail;rw[HE.out];refine bodyPost_ret (v:= .tuple #[.agg #[.int .i64 0, .int .i64 0, .slice none 0 0], .int .i64 j, .int .i64 2]) (by simp[results,Tryz.results130,go_sem,s0,s1,s2]) rfl ⟨_,_,rfl,Made.leaf _ _ _ 0 0, ?_⟩;exact((((hx.trans h16).setCell (by simp) _).setCell (by simp) _).setCell (by simp) _)
set_option maxRecDepth 100000 in
theorem q77(t:Tr)(f:Int)(w:World)(v:Value)(hin:Lies w t v):
 Calls Tryz.prog 68 #[v, .int .i64 f] w fun e w'=> ∃r,e= .returned (.tuple #[r, .int .i64 (q136 t f).2])/\Made w w' 25 (q136 t f).1 r/\Ext w w':=by
 have HS:=hdq (fun W (hW:Ext w W)=> y166 t f W v (hin.ext hW));obtain⟨S,hS⟩: ∃S,q136 t f=S:=⟨_,rfl⟩;rw[hS] at HS⊢;obtain⟨k,n,ks⟩:=t;obtain⟨A,cap,rfl,hl,hc,hK⟩:=Lies.mk_iff.1 hin;clear hS;have hx0:=((xr w).alloc (.cells #[.int .i64 k, .int .i64 n, .slice A ks.length cap] 25)).alloc (.cells #[.int .i64 0, .int .i64 0, .slice none 0 0] 25);obtain⟨hb0,hb1,hs2⟩:=blk2 (xr ((w.alloc (.cells #[.int .i64 k, .int .i64 n, .slice A ks.length cap] 25)).alloc (.cells #[.int .i64 0, .int .i64 0, .slice none 0 0] 25)));obtain⟨wS,hwS⟩: ∃x,x=(w.alloc (.cells #[.int .i64 k, .int .i64 n, .slice A ks.length cap] 25)).alloc (.cells #[.int .i64 0, .int .i64 0, .slice none 0 0] 25):=⟨_,rfl⟩;rw[<-hwS] at hx0 hb0 hb1 hs2;go_enter Tryz.func68,Tryz.ntmps68;go_wp2_with fail;rw[<-hwS];clear hwS;refine(HS.out _ hx0).mono ?_;rintro e w3 ⟨r,s,rfl,hM,h3⟩;obtain⟨b1,b2,b3,b4,b5,rfl⟩:=hM.three';have h16:=h3.trans ((xr w3).alloc (.cells #[.int .i64 b1, .int .i64 b2, .slice b3 b4 b5] 25));obtain⟨s0,s1,s2,f0,f1,f2⟩:=own3 (h16.blk hb1);have hM2:=hM.ext ((xr w3).alloc (.cells #[.int .i64 b1, .int .i64 b2, .slice b3 b4 b5] 25));have hw4:w.heap.size+2<=wS.heap.size:=by omega
 go_wp2_with fail;refine bodyPost_ret (v:= .tuple #[.agg #[.int .i64 b1, .int .i64 b2, .slice b3 b4 b5], .int .i64 S.2]) (by simp[results,Tryz.results68,go_sem,s0,s1,s2]) rfl ⟨_,rfl,Made.since (hM2.after ((((y28.refl _ _).setCell (p:=⟨w.heap.size+1,0,none⟩) (by show w.heap.size+1 < _;omega) (.int .i64 b1)).setCell (p:=⟨w.heap.size+1,1,none⟩) (by show w.heap.size+1 < _;omega) (.int .i64 b2)).setCell (p:=⟨w.heap.size+1,2,none⟩) (by show w.heap.size+1 < _;omega) (.slice b3 b4 b5))) (by omega), ?_⟩;exact((((hx0.trans h16).setCell (by simp) _).setCell (by simp) _).setCell (by simp) _)
end Go.Proofs.YtdkamgafpphdjaaGreat
namespace Go.Proofs.YtdkamgafpphdjaaGreat
open Go.RowKit
set_option linter.unusedVariables false
open M (Hd HR Cv Ty Lim WfL TyB Lev)
def Nb(x:An):Prop:= ∀s c,x=some (s,c)->c=0\/c=2
theorem Nb.thn{x:An}{f:Tr->An}(h:Nb x)(k: ∀s,x=some (s,0)->Nb (f s)):Nb (thn x f):=by
 intro s c e;rcases j33 e with⟨u,h1,h2⟩ |⟨u,c',h1,h2,h3⟩
 · exact k u h1 s c h2
 · simp only[Prod.mk.injEq] at h3
   obtain⟨-,rfl⟩:=h3;exact h u _ h1
theorem Nb.one{y:Tr×Int}(h:y.2=0\/y.2=2):Nb (some y):=by
 intro s c e;simp only[Option.some.injEq] at e;subst e;exact h
theorem Nb.ok(u:Tr):Nb (some (u,0)):=Nb.one (.inl rfl)
theorem Nb.mk(t:Tr):Nb (some (mkV t)):=Nb.one (by unfold mkV;split <;> simp)
theorem Nb.shp{F c:M.Tm}{kind:Int}(r:HR F c)(hc:M.hk c≠0)(hk:(enc c).kind=kind):Nb (some (shpV (enc F) kind)):=by
 refine Nb.one ?_;unfold shpV
 split
 · simp
 · rename_i h1
   have h2:hnfV (enc F) 200=((hnfV (enc F) 200).1,0):=by
    have h3:(hnfV (enc F) 200).2=0:=by simpa using h1
    rw[<-h3]
   obtain⟨B,e,rB,hs,-⟩:=j55 h2;rw[q116 rB hs r hc] at e;rw[e,if_neg (by rw[hk];simp)];simp
theorem Nb.frm{x:An}{kind:Int}(h:Nb x)(k: ∀s,x=some (s,0)-> ∃F c,s=enc F/\HR F c/\M.hk c≠0/\(enc c).kind=kind):Nb (frmV x kind):=
 h.thn fun s e=> by
  obtain⟨F,c,rfl,r,hc,hk⟩:=k s e;exact Nb.shp r hc hk
theorem Nb.chk{x y:An}{W:M.Tm}(h:Nb x)(k: ∀s,x=some (s,0)-> ∃X,s=enc X/\Cv X W)(hy:Nb y):Nb (chkV x (enc W) y):=
 h.thn fun s e=> by
  obtain⟨X,rfl,cX⟩:=k s e
  split
  · exact hy
  · rename_i h0
    exact Nb.one (.inr ((cvt_nb cX).resolve_left h0))
theorem Nb.fam{x y:An}{T:M.Tm}(h:Nb x)(k: ∀s,x=some (s,0)-> ∃F C D j,s=enc F/\HR F (.pi C D)/\Cv C T/\HR D (.sort j))(hy:Nb y):Nb (famV x (enc T) y):=by
 have h1:Nb (frmV x 3):=h.frm fun s e=> by
  obtain⟨F,C,D,j,rfl,r,-,-⟩:=k s e;exact⟨F, .pi C D,rfl,r,by simp[M.hk],rfl⟩
 refine h1.thn fun s e=> ?_
 obtain⟨u,e1,e2,e3⟩:=j52 e;obtain⟨F,C,D,j,rfl,r,cC,rD⟩:=k u e1;obtain⟨B,rfl,rB,hs,-⟩:=j55 e2;obtain rfl:=q116 rB hs r (by simp[M.hk])
 split
 · exact(Nb.shp (F:=D) rD (by simp[M.hk]) rfl).thn fun _ _=> hy
 · rename_i h0
   exact Nb.one (.inr ((cvt_nb (A:=C) cC).resolve_left h0))
theorem q56{f:Nat}{G:List M.Tm}{t A:M.Tm}{s:Tr}(hG:q27 G)(hv:valid sigT (enc t)=true)(h:Ty G t A)(e:infV f (ctxE G) (enc t)=some (s,0)):s=enc A/\valid sigT (enc A)=true:=by
 obtain⟨B,rfl,tB,-,v⟩:=snd f G t s hG hv e;obtain rfl:=tB.det h;exact⟨rfl,v⟩
theorem q122{f:Nat}{G:List M.Tm}{k:Int}{A t:M.Tm}(hk:und k 1=1)(h:Nb (infV f (ctxE (A::G)) (enc t))):Nb (tyV (infV f) (ctxE G) k [enc A,enc t] 1):=by
 rw[y93 _ _ hk]
 split
 · exact Nb.one (.inr rfl)
 · rw[show ctxE G++ [kd [enc A,enc t] 0]=ctxE (A::G) from(y29 A G).symm]
   exact h
theorem y94{f:Nat}{G:List M.Tm}{k:Int}{A t:M.Tm}{s:Tr}(hk:und k 1=1)(h:tyV (infV f) (ctxE G) k [enc A,enc t] 1=some (s,0)):infV f (ctxE (A::G)) (enc t)=some (s,0):=by
 have:=(uty hk h).2
 rwa [show ctxE G++ [kd [enc A,enc t] 0]=ctxE (A::G) from(y29 A G).symm] at this
theorem j151: ∀(f:Nat) (G:List M.Tm) (t A:M.Tm),q27 G->valid sigT (enc t)=true->Ty G t A->Lim G t->Nb (infV f (ctxE G) (enc t))
 |0,G,t,A,hG,hv,h,hl=> by intro s c e;cases e
 |f+1,G,t,A,hG,hv,h,hl=> by
  have ih:=j151 f G;have ihs:=j151 f;have tyB: ∀{X S:M.Tm} {i:Nat},Ty G X S->HR S (.sort i)->Lim G X->TyB G X:=fun{X S i} h1 h2 h3=>⟨h3,i,M.lev_le (Lim.type h1 hG.wf h3) h2,S,h1,h2⟩
  have lev: ∀{X S:M.Tm} {i:Nat},valid sigT (enc X)=true->Ty G X S->HR S (.sort i)->Lim G X->Nb (frmV (infV f (ctxE G) (enc X)) 2):=fun{X S i} v h1 h2 h3=>
   (ih X S hG v h1 h3).frm fun s e=>⟨S, .sort i,(q56 hG v h1 e).1,h2,by simp[M.hk],rfl⟩
  have chk: ∀{X S W:M.Tm} {y:An},valid sigT (enc X)=true->Ty G X S->Cv S W->Lim G X->Nb y->Nb (chkV (infV f (ctxE G) (enc X)) (enc W) y):=fun{X S W y} v h1 h2 h3 hy=>
   (ih X S hG v h1 h3).chk (fun s e=>⟨S,(q56 hG v h1 e).1,h2⟩) hy
  have fam: ∀{X F C D T:M.Tm} {j:Nat} {y:An},valid sigT (enc X)=true->Ty G X F->HR F (.pi C D)->Cv C T->HR D (.sort j)->Lim G X->Nb y->Nb (famV (infV f (ctxE G) (enc X)) (enc T) y):=fun{X F C D T j y} v h1 h2 h3 h4 h5 hy=>
   (ih X F hG v h1 h5).fam (fun s e=>⟨F,C,D,j,(q56 hG v h1 e).1,h2,h3,h4⟩) hy
  cases h with
  | @var _ n A h=>
   have hn:=M.lk_lt h
   show Nb (some (lkV (ctxE G) (n:Int)))
   rw[j187 hn];exact Nb.mk _
  | @sort _ n=>
   have hn:n < 3:=hl;have e:infV (f+1) (ctxE G) (enc (.sort n))=some (if(n:Int)=3 then(j14,(1:Int)) else(srtT ((n:Int)+1),0)):=by simp[enc,infV,judV]
   rw[e,if_neg (by omega)];exact Nb.ok _
  |nat=> exact Nb.ok (srtT 0)
  |zero=> exact Nb.ok natT
  | @succ _ a X h1 h2=> exact chk (W:= .nat) (y11 hv (by simp)) h1 h2 hl (Nb.ok natT)
  | @pi _ A B S S' i k h1 h2 h3 h4=>
   have hG':=hG.cons (tyB h1 h2 hl.1) (y11 hv (by simp));exact(lev (y11 hv (by simp)) h1 h2 hl.1).thn fun s _=>((q122 rfl (ihs _ B S' hG' (y11 hv (by simp)) h3 hl.2)).frm fun s e=>⟨S', .sort k,(q56 hG' (y11 hv (by simp)) h3 (y94 rfl e)).1,h4,by simp[M.hk],rfl⟩).thn fun _ _=> Nb.ok _
  | @sg _ A B S S' i k h1 h2 h3 h4=>
   have hG':=hG.cons (tyB h1 h2 hl.1) (y11 hv (by simp));exact(lev (y11 hv (by simp)) h1 h2 hl.1).thn fun s _=>((q122 rfl (ihs _ B S' hG' (y11 hv (by simp)) h3 hl.2)).frm fun s e=>⟨S', .sort k,(q56 hG' (y11 hv (by simp)) h3 (y94 rfl e)).1,h4,by simp[M.hk],rfl⟩).thn fun _ _=> Nb.ok _
  | @lam _ A t B S i h1 h2 h3=>
   have bA:=tyB h1 h2 hl.1;have hG':=hG.cons bA (y11 hv (by simp));refine(lev (y11 hv (by simp)) h1 h2 hl.1).thn fun s _=>(q122 rfl (ihs _ t B hG' (y11 hv (by simp)) h3 hl.2.1)).thn fun b e=> ?_
   obtain⟨rfl,vB⟩:=q56 hG' (y11 hv (by simp)) h3 (y94 rfl e);refine(Nb.mk (.mk 3 0 [enc A,enc B])).thn fun o eo=> ?_
   obtain⟨v,rfl⟩:=j29 eo;obtain⟨k,lk⟩:=h3.corr hG'.wf.wf;have hk:=hl.2.2 B k h3 lk;have lB:Lim (A::G) B:=by
    rcases Lim.type h3 hG'.wf hl.2.1 with rfl|b
    · have:=lk.det (Lev.sort _ 3)
      omega
    · exact b.1
   obtain⟨S',k1,k2⟩:=lk;exact(ih (.pi A B) _ hG v (.pi h1 h2 k1 k2) ⟨hl.1,lB⟩).thn fun _ _=> Nb.ok _
  | @app _ g a F X C R h1 h2 h3 h4=>
   refine((ih g F hG (y11 hv (by simp)) h1 hl.1).frm fun s e=>⟨F, .pi C R,(q56 hG (y11 hv (by simp)) h1 e).1,h2,by simp[M.hk],rfl⟩).thn fun s e=> ?_
   obtain⟨F',C',R',rfl,tF,rF,-,-,-⟩:=j170 (snd f) hG (y11 hv (by simp)) e;obtain rfl:=tF.det h1;obtain⟨rfl,rfl⟩:=rF.pi_det h2;exact chk (W:=C') (y11 hv (by simp)) h3 h4 hl.2 (Nb.mk _)
  | @elim _ p z s a F Z S X C D k h1 h2 h3 h4 h5 h6 h7 h8 h9 h10=>
   refine fam (T:= .nat) (y11 hv (by simp)) h1 h2 h3 h4 hl.1 ((Nb.mk (.mk 5 0 [enc p, .mk 7 0 []])).thn fun w ew=> ?_);obtain⟨v,rfl⟩:=j29 ew;refine chk (W:= .app p .zero) (y11 hv (by simp)) h5 h6 hl.2.1 ((Nb.mk (stpT (enc p))).thn fun w ew=> ?_);obtain⟨v,rfl⟩:=j29 ew;rw[y147];exact chk (y11 hv (by simp)) h7 h8 hl.2.2.1 (chk (W:= .nat) (y11 hv (by simp)) h9 h10 hl.2.2.2 (Nb.mk _))
  | @id _ T a b S X Y i h1 h2 h3 h4 h5 h6=>
   exact(lev (y11 hv (by simp)) h1 h2 hl.1).thn fun s _=> chk (y11 hv (by simp)) h3 h4 hl.2.1 (chk (y11 hv (by simp)) h5 h6 hl.2.2 (Nb.ok _))
  | @refl _ a X h1=>
   refine(ih a X hG (y11 hv (by simp)) h1 hl.1).thn fun s e=> ?_
   obtain⟨rfl,vX⟩:=q56 hG (y11 hv (by simp)) h1 e;obtain⟨k,lk⟩:=h1.corr hG.wf.wf;have hk:=hl.2 X k h1 lk;have lX:Lim G X:=by
    rcases Lim.type h1 hG.wf hl.1 with rfl|b
    · have:=lk.det (Lev.sort _ 3)
      omega
    · exact b.1
   obtain⟨S',k1,k2⟩:=lk;exact(lev vX k1 k2 lX).thn fun _ _=> Nb.mk _
  | @move _ p e a E T b c F T' D k X h1 h2 h3 h4 h5 h6 h7 h8=>
   refine((ih e E hG (y11 hv (by simp)) h1 hl.2.1).frm fun s e'=>⟨E, .id T b c,(q56 hG (y11 hv (by simp)) h1 e').1,h2,by simp[M.hk],rfl⟩).thn fun s e'=> ?_
   obtain⟨E',U,b',c',rfl,tE,rE,-,-,-,-⟩:=snd_id (snd f) hG (y11 hv (by simp)) e';obtain rfl:=tE.det h1;obtain⟨rfl,rfl,rfl⟩:=rE.id_det h2;refine fam (T:=U) (y11 hv (by simp)) h3 h4 h5 h6 hl.1 ((Nb.mk (.mk 5 0 [enc p,enc b'])).thn fun w ew=> ?_);obtain⟨v,rfl⟩:=j29 ew;exact chk (W:= .app p b') (y11 hv (by simp)) h7 h8 hl.2.2 (Nb.mk _)
  | @pair _ T a b S i C D X Y h1 h2 h3 h4 h5 h6 h7=>
   refine(lev (y11 hv (by simp)) h1 h2 hl.1).thn fun s _=>(Nb.shp (F:=A) h3 (by simp[M.hk]) rfl).thn fun s e=> ?_
   have e1:shpV (enc A) 13=(s,0):=Option.some.inj e;obtain⟨e2,e3⟩:=q97 (t:=enc A) (kind:=13) (by rw[e1]);rw[e1] at e2 e3;obtain⟨B,rfl,rB,hs,-⟩:=j55 e2;obtain rfl:=q116 rB hs h3 (by simp[M.hk]);refine chk (W:=C) (y11 hv (by simp)) h4 h5 hl.2.1 ((Nb.mk _).thn fun w ew=> ?_);obtain⟨v,rfl⟩:=j29 ew;rw[show sbsT (kd [enc A,enc a,enc b] 1) (kd (enc (.sg C D)).kids 1) 0 0=enc (D.inst a) from y55 D a];exact chk (y11 hv (by simp)) h6 h7 hl.2.2 (Nb.ok _)
  | @fst _ a X C D h1 h2=> exact((ih a X hG (y11 hv (by simp)) h1 hl).frm fun s e=>⟨X, .sg A D,(q56 hG (y11 hv (by simp)) h1 e).1,h2,by simp[M.hk],rfl⟩).thn fun _ _=> Nb.ok _
  | @snd _ a X C D h1 h2=> exact((ih a X hG (y11 hv (by simp)) h1 hl).frm fun s e=>⟨X, .sg C D,(q56 hG (y11 hv (by simp)) h1 e).1,h2,by simp[M.hk],rfl⟩).thn fun _ _=> Nb.mk _
end Go.Proofs.YtdkamgafpphdjaaGreat
