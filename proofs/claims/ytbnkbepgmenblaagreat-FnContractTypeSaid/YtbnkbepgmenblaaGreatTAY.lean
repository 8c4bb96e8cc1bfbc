/-
  Lemmas towards the law, 25: DrawZ, StepT, MInf, SConAt, Norm.
-/
import Derived.Test.YtbnkbepgmenblaaGreatTAW
import Derived.Test.YtbnkbepgmenblaaGreatTAX
set_option linter.unusedVariables false
set_option maxHeartbeats 4000000
set_option maxRecDepth 100000
namespace Go.Proofs.YtbnkbepgmenblaaGreat
open Go.RowKit
attribute [local go_sem ↓] Go.wp_at_zero Go.wp_at_succ
theorem q90(w:World)(A:Option Addr)(cap:Nat)(bs:List Int)(hl:bs.length<=cap)(hc:cap<=maxLen)(hB:q59 w w.heap.size A bs):Calls Tryz.prog 13 #[.slice A bs.length cap] w fun e w'=>
 ∃B n c ks t u x p,e= .returned (.tuple #[.slice B n c,u,x])/\ks.length=n/\n<=c/\c<=maxLen/\n<=9/\p.length<=29/\j26 w' B ks/\Lies w' t u/\q20 w' (fun b=> b < w'.heap.size) x p/\Ext w w':=by
 have hx0:=(xr w).alloc (.cells #[.int .i64 0,.int .i64 0,.slice none 0 0] 25);have hb0:=heap_alloc_new w (.cells #[.int .i64 0,.int .i64 0,.slice none 0 0] 25);go_enter Tryz.func13,Tryz.ntmps13;go_wp2_with fail;refine(q142 _ A cap bs hl hc ((hB.ext hx0).mono hx0.size)).mono ?_;rintro e w1 ⟨rfl,hR,h1⟩;generalize hg:(w.alloc (.cells #[.int .i64 0,.int .i64 0,.slice none 0 0] 25)).heap.size=g at hR⊢;have Bg:w.heap.size < g:=by rw[<-hg];simp
 have hb1:=h1.blk hb0;have hg1:g < w1.heap.size:=hR.lt;clear hg hb0;go_wp2_with fail;refine(j168 w1 g 0 hR (by omega)).mono ?_;rintro e w2 ⟨A2,n2,c2,et,t2,u2,rfl,hk2,hl2,hc2,Kw,U1,htc2,hK2,hF2,M9,ho⟩;obtain⟨a1,a2,a3,a4,a5,rfl⟩:=hF2.three;subst hk2;have wj:=(xr w2).alloc (.cells #[.int .i64 a1,.int .i64 a2,.slice a3 a4 a5] 25);have Vg:=wj.blk (ho.keepBlk hb1 (by simp;omega));have hom:=ho.trans (oE (L:= [g]) wj);have Xj:=hK2.ext wj;have hFm:=hF2.ext wj;have hRm:=M9.ext wj;clear hb1 hK2 hF2 M9 wj;go_wp2_with fail;have hs12:=ho.size;clear ho;generalize hwm:w2.alloc (.cells #[.int .i64 a1,.int .i64 a2,.slice a3 a4 a5] 25)=wm at Vg hom Xj hFm hRm⊢;have hsm:w2.heap.size < wm.heap.size:=by rw[<-hwm];simp
 clear hwm;refine(q134 et t2 wm g _ _ A2 c2 w1.heap.size hFm hg1 (InK.mono (fun b hb=> hb.2) (fun _ _=> rfl) Xj) hl2 hc2 (by omega) (fun x hx=> by have:=U1 x hx;omega) (by omega) hRm (by omega)).mono ?_;rintro e w3 ⟨B,n,c,ks,t',u',rfl,hkn,ji,hcm,hn9,hK3,ep,L9,Z7⟩;obtain⟨b1,b2,b3,b4,b5,rfl⟩:=ep.three;have Y7:=(xr w3).alloc (.cells #[.int .i64 b1,.int .i64 b2,.slice b3 b4 b5] 25);have hb4:=heap_alloc_new w3 (.cells #[.int .i64 b1,.int .i64 b2,.slice b3 b4 b5] 25);have fz:=Y7.blk (Z7.keepBlk Vg (by simp;omega));have hO:=((hom.trans Z7).trans (oE (L:= [g]) Y7));have zn:=ep.ext Y7;have hK4:=hK3.ext Y7;have P5:=L9.ext Y7;have hg3:=L9.lt;have hsm3:=Z7.size;have hwm2:w.heap.size < wm.heap.size:=j10 Vg;clear hK3 ep L9 Xj hFm hRm Vg;go_wp2_with fail;generalize hw4:w3.alloc _=w4 at Y7 hb4 fz hO zn P5 hK4⊢;clear hw4;have lz:=j10 hb4;have HS:=hdq (show∀w',Only [g] w4 w'->w'.cell? ⟨w3.heap.size,0,none⟩=some (.int .i64 b1)/\w'.cell? ⟨w3.heap.size,1,none⟩=some (.int .i64 b2)/\w'.cell? ⟨w3.heap.size,2,none⟩=some (.slice b3 b4 b5) from fun w' hw=> by
  obtain⟨y0,y1,y2,-,-,-⟩:=own3 (hw.keepBlk hb4 (by simp;omega));exact⟨y0,y1,y2⟩)
 have F2: ∀w',Only [g] w4 w'->w'.heap[w.heap.size]? =some (.cells #[.int .i64 0,.int .i64 0,.slice none 0 0] 25 (0,0)):=fun w' hw=> hw.keepBlk fz (by simp;omega)
 have HBR:=hdq F2;have G6:w.heap.size < w4.heap.size:=j10 fz;have hs3w:w.heap.size < w3.heap.size:=by omega
 have HO4:=hdq hO;have Zl:=hdq (show∀w',Only [g] w4 w'-> ∀v0 v1 v2,(((w'.setCell ⟨w.heap.size,0,none⟩ v0).setCell ⟨w.heap.size,1,none⟩ v1).setCell ⟨w.heap.size,2,none⟩ v2).cell? ⟨w3.heap.size,0,none⟩=some (.int .i64 b1)/\(((w'.setCell ⟨w.heap.size,0,none⟩ v0).setCell ⟨w.heap.size,1,none⟩ v1).setCell ⟨w.heap.size,2,none⟩ v2).cell? ⟨w3.heap.size,1,none⟩=some (.int .i64 b2)/\(((w'.setCell ⟨w.heap.size,0,none⟩ v0).setCell ⟨w.heap.size,1,none⟩ v1).setCell ⟨w.heap.size,2,none⟩ v2).cell? ⟨w3.heap.size,2,none⟩=some (.slice b3 b4 b5) from fun w' hw v0 v1 v2=> by
  obtain⟨y0,y1,y2,-,-,-⟩:=own3 (q13 (q13 (q13 (hw.keepBlk hb4 (by simp;omega)) (p:=⟨w.heap.size,0,none⟩) (by show w3.heap.size≠w.heap.size;omega) v0) (p:=⟨w.heap.size,1,none⟩) (by show w3.heap.size≠w.heap.size;omega) v1) (p:=⟨w.heap.size,2,none⟩) (by show w3.heap.size≠w.heap.size;omega) v2);exact⟨y0,y1,y2⟩)
 clear fz F2 hb4 hO;have hD:Only [g] w4 w4.drew:=oE (xr w4).drew;have hx34:w3.heap.size < w4.heap.size:=lz;clear Y7
 go_region_held3 (fun w'=> w'.cell? ⟨w3.heap.size,0,none⟩=some (.int .i64 b1)/\w'.cell? ⟨w3.heap.size,1,none⟩=some (.int .i64 b2)/\w'.cell? ⟨w3.heap.size,2,none⟩=some (.slice b3 b4 b5))
  (first|exact Zl.out _ (hD.trans U2) _ _ _|exact HS.out _ (hD.trans U2) |exact HS.out _ hD)
  (first|(go_at_call 49;refine(q160 t' _ g _ _ (zn.lies.ext (xr w4).drew) (P5.ext (xr w4).drew) (by omega)).mono ?_;rintro e w5 ⟨x,p,rfl,hpl,Vp,Y1,U2⟩;obtain⟨q0,q1,q2,r0,r1,r2⟩:=own3 (HBR.out _ (hD.trans U2))))
 have hwS5:w.heap.size < w5.heap.size:=by have:=(hD.trans U2).size;omega
 have hE:=(HO4.out.trans (hD.trans U2)).ext (hx0.trans h1) (by intro b hb;simp at hb;omega);have bl:=zn.only (hD.trans U2) (by intro b hb;rw[List.mem_singleton.1 hb];omega);have uw:=hK4.only (hD.trans U2) (by intro b hb;rw[List.mem_singleton.1 hb];omega);go_wp2_with fail;refine bodyPost_ret (v:= .tuple #[.slice B n c,.agg #[.int .i64 b1,.int .i64 b2,.slice b3 b4 b5],x]) (by simp[results,Tryz.results13,go_sem,q0,q1,q2]) rfl ⟨B,n,c,ks,t',_,x,p,rfl,hkn,ji,hcm,hn9,hpl, ?_, ?_, ?_, ?_⟩
 · refine InK.mono (fun b hb=> by simpa using hb.2) (fun b hb=> ?_) uw
   have hb1:wm.heap.size<=b:=hb.1;rw[Below.heap_setCell _ _ _ _ (by show b≠w.heap.size;omega),Below.heap_setCell _ _ _ _ (by show b≠w.heap.size;omega),Below.heap_setCell _ _ _ _ (by show b≠w.heap.size;omega)]
 · exact(((bl.set (by show w.heap.size < wm.heap.size;omega) _).set (by show w.heap.size < wm.heap.size;omega) _).set (by show w.heap.size < wm.heap.size;omega) _).lies
 · refine Vp.mono (fun b hb=> by simpa using hb.2) (fun b hb=> ?_)
   have hb1:w4.heap.size<=b:=hb.1;rw[Below.heap_setCell _ _ _ _ (by show b≠w.heap.size;omega),Below.heap_setCell _ _ _ _ (by show b≠w.heap.size;omega),Below.heap_setCell _ _ _ _ (by show b≠w.heap.size;omega)]
 · exact((hE.setCell (by simp) _).setCell (by simp) _).setCell (by simp) _
end Go.Proofs.YtbnkbepgmenblaaGreat
namespace Go.Proofs.YtbnkbepgmenblaaGreat
open Go.RowKit
theorem q143: ∀(p:List Int) (t u:Tr) (d:Int),shape sigT t d=true->atT t p=some u->(p.length:Int) < d
 | [],t,u,d,h,_=> by have:=j41 h;simp;omega
 |i::r,.mk k n ks,u,d,h,e=> by
  rw[j98] at e
  split at e
  · rename_i hi
    obtain⟨-,-,-,hsk⟩:=q25 h;have:=q143 r _ u (d - 1) (hsk _ (j68 (i:=i.toNat) (by omega))) e;simp only[List.length_cons];omega
  · cases e
theorem j92{w:World}{base:Nat}{v:Value}{p:List Int}(h:w.ownsRow base 3 1 v p.length (p.map (Value.int .i64))): ∃B c,v= .slice B p.length c/\PFs w B p.length c p:=by
 obtain⟨B,c,rfl,h1,h2,h3⟩:=q26 h;exact⟨B,c,rfl,rfl,h1,h2,h3⟩
theorem q112(t:Tr)(p:List Int)(w:World)(v:Value)(j7:Lies w t v)(A:Option Addr)(n cap:Nat)(hp:PFs w A n cap p):
 Calls Tryz.prog 14 #[v,.slice A n cap] w fun e w'=> ∃r,e= .returned (.tuple #[r,.bool (conP t p).2])/\Made w w' 25 (conP t p).1 r/\Ext w w':=by
 have HV:=hdq (fun W (hW:Ext w W)=> y20 t W v (j7.ext hW));have HX:=hdq (fun(h:valid sigT t=true) W (hW:Ext w W)=> by
  have:=q167 t 30 (q14 h).2 (by decide) p W v (j7.ext hW) A cap (by rw[hp.hn];exact hp.hl) hp.hc (hp.hP.ext hW);rw[hp.hn] at this;exact this)
 have G8:=hdq (fun(h:valid sigT t=true) u (hu:atT t p=some u) W x (hx:Lies W u x)=> j35 u 30 (q14 (y69 h hu)).2 W x hx);have qq:=hdq (fun(h:valid sigT t=true) (hr:rdxA t p=true) W (hW:Ext w W)=> j49 t p h hr W v (j7.ext hW) A n cap (hp.ext hW) (by
  obtain⟨u,hu,-⟩:=j85 hr;have h1:=q143 p t u 30 (q14 h).2 hu;have h2:=hp.hn;omega))
 have E:conP t p=if(valid sigT t && rdxA t p)=true then conV t p else(q16,false):=rfl
 have ER:rdxA t p=match atT t p with|some u=> j55 u|none=> false:=rfl
 rw[E];clear E;generalize rdxA t p=rr at ER qq⊢;generalize atT t p=q at ER HX G8;generalize conV t p=Y at qq⊢;obtain⟨z,hz⟩: ∃z,valid sigT t=z:=⟨_,rfl⟩;rw[hz] at HV HX qq G8⊢;clear hz;obtain⟨k,nn,ks⟩:=t;obtain⟨At,ct,rfl,-,-,-⟩:=Lies.mk_iff.1 j7;have hx0:=((xr w).alloc (.cells #[.int .i64 k,.int .i64 nn,.slice At ks.length ct] 25)).alloc (.cells #[.int .i64 0,.int .i64 0,.slice none 0 0] 25);obtain⟨hb0,hb1,hs2⟩:=blk2 (xr ((w.alloc (.cells #[.int .i64 k,.int .i64 nn,.slice At ks.length ct] 25)).alloc (.cells #[.int .i64 0,.int .i64 0,.slice none 0 0] 25)));obtain⟨wS,G6⟩: ∃x,x=(w.alloc (.cells #[.int .i64 k,.int .i64 nn,.slice At ks.length ct] 25)).alloc (.cells #[.int .i64 0,.int .i64 0,.slice none 0 0] 25):=⟨_,rfl⟩;rw[<-G6] at hx0 hb0 hb1 hs2;cases z with
 |false=>
  rw[if_neg (by simp)];clear ER HX G8 qq;go_enter Tryz.func14,Tryz.ntmps14;go_wp2_with fail;rw[<-G6];clear G6;refine(HV.out _ hx0).mono ?_;rintro e w1 ⟨rfl,h1⟩;obtain⟨s0,s1,s2,f0,f1,f2⟩:=own3 (h1.blk hb1);go_wp2_with fail;refine bodyPost_ret (v:= .tuple #[.agg #[.int .i64 0,.int .i64 0,.slice none 0 0],.bool false]) (by simp[results,Tryz.results14,go_sem,s0,s1,s2]) rfl ⟨_,rfl,Made.leaf _ _ _ 0 0, ?_⟩;exact((((hx0.trans h1).setCell (by simp) _).setCell (by simp) _).setCell (by simp) _)
 |true=>
  have uf:=hdq (HX.out rfl);have sr:=hdq (G8.out rfl);have P4:=hdq (qq.out rfl);clear HX G8 qq;cases q with
  |none=>
   simp only at ER;subst ER;rw[if_neg (by simp)];clear sr P4;simp only[Option.isSome_none,Option.getD_none] at uf;go_enter Tryz.func14,Tryz.ntmps14;go_wp2_with fail;rw[<-G6];clear G6;refine(HV.out _ hx0).mono ?_;rintro e w1 ⟨rfl,h1⟩;obtain⟨z0,z1,z2,-,-,-⟩:=own3 (h1.blk hb0);go_wp2_with fail;refine(uf.out _ (hx0.trans h1)).mono ?_;rintro e w2 ⟨x,ar,rfl,hL,-,-,h2⟩;obtain⟨b1,b2,b3,b4,b5,rfl⟩:=InT.three hL;have F8:=(h1.trans h2).trans ((xr w2).alloc (.cells #[.int .i64 b1,.int .i64 b2,.slice b3 b4 b5] 25));obtain⟨s0,s1,s2,f0,f1,f2⟩:=own3 (F8.blk hb1);clear z0 z1 z2;go_wp2_with fail;refine bodyPost_ret (v:= .tuple #[.agg #[.int .i64 0,.int .i64 0,.slice none 0 0],.bool false]) (by simp[results,Tryz.results14,go_sem,s0,s1,s2]) rfl ⟨_,rfl,Made.leaf _ _ _ 0 0, ?_⟩;exact((((hx0.trans F8).setCell (by simp) _).setCell (by simp) _).setCell (by simp) _)
  |some u=>
   simp only at ER;simp only[Option.isSome_some,Option.getD_some] at uf;obtain⟨r,hr⟩: ∃r,rdxT u=r:=⟨_,rfl⟩;have tj:=hdq (show∀W x,Lies W u x->Calls Tryz.prog 51 #[x] W fun e w'=> e= .returned (.int .i64 r)/\Ext W w' from fun W x hx=> hr▸sr.out u rfl W x hx);have Uy:rr=(r !=0):=by rw[ER];unfold j55;rw[hr]
   clear ER hr sr;by_cases h0:r=0
   · subst h0
     have Ie:rr=false:=Uy;subst Ie;rw[if_neg (by simp)];clear Uy P4;go_enter Tryz.func14,Tryz.ntmps14;go_wp2_with fail;rw[<-G6];clear G6;refine(HV.out _ hx0).mono ?_;rintro e w1 ⟨rfl,h1⟩;obtain⟨z0,z1,z2,-,-,-⟩:=own3 (h1.blk hb0);go_wp2_with fail;refine(uf.out _ (hx0.trans h1)).mono ?_;rintro e w2 ⟨x,ar,rfl,hL,-,-,h2⟩;obtain⟨b1,b2,b3,b4,b5,rfl⟩:=InT.three hL;have h3:=(xr w2).alloc (.cells #[.int .i64 b1,.int .i64 b2,.slice b3 b4 b5] 25);have hL2:=Lies.ext hL h3;clear z0 z1 z2;go_wp2_with fail;refine(tj.out _ _ hL2).mono ?_;rintro e w4 ⟨rfl,h4⟩;have F8:=((h1.trans h2).trans h3).trans h4;obtain⟨s0,s1,s2,f0,f1,f2⟩:=own3 (F8.blk hb1);go_wp2_with fail;refine bodyPost_ret (v:= .tuple #[.agg #[.int .i64 0,.int .i64 0,.slice none 0 0],.bool false]) (by simp[results,Tryz.results14,go_sem,s0,s1,s2]) rfl ⟨_,rfl,Made.leaf _ _ _ 0 0, ?_⟩;exact((((hx0.trans F8).setCell (by simp) _).setCell (by simp) _).setCell (by simp) _)
   · have Ie:rr=true:=Uy.trans (bne_iff_ne.2 h0)
     have hb0r:(r==0)=false:=beq_eq_false_iff_ne.2 h0;subst Ie;rw[if_pos (by rfl)];have Xs:=hdq (P4.out rfl);clear Uy P4;go_enter Tryz.func14,Tryz.ntmps14;go_wp2_with fail;rw[<-G6];clear G6;refine(HV.out _ hx0).mono ?_;rintro e w1 ⟨rfl,h1⟩;obtain⟨z0,z1,z2,-,-,-⟩:=own3 (h1.blk hb0);go_wp2_with fail;refine(uf.out _ (hx0.trans h1)).mono ?_;rintro e w2 ⟨x,ar,rfl,hL,-,-,h2⟩;obtain⟨b1,b2,b3,b4,b5,rfl⟩:=InT.three hL;have h3:=(xr w2).alloc (.cells #[.int .i64 b1,.int .i64 b2,.slice b3 b4 b5] 25);have hL2:=Lies.ext hL h3;clear z0 z1 z2;go_wp2_with fail;refine(tj.out _ _ hL2).mono ?_;rintro e w4 ⟨rfl,h4⟩;have er:=((h1.trans h2).trans h3).trans h4;obtain⟨z0,z1,z2,-,-,-⟩:=own3 (er.blk hb0);go_wp2_with fail;refine(Xs.out _ (hx0.trans er)).mono ?_;rintro e w5 ⟨y,rfl,hM,h5⟩;obtain⟨c1,c2,c3,c4,c5,rfl⟩:=hM.three';have F8:=er.trans h5;obtain⟨s0,s1,s2,f0,f1,f2⟩:=own3 (F8.blk hb1);have hw4:w.heap.size+2<=w4.heap.size:=by have:=hx0.size;have:=er.size;omega
     clear z0 z1 z2;go_wp2_with fail;refine bodyPost_ret (v:= .tuple #[.agg #[.int .i64 c1,.int .i64 c2,.slice c3 c4 c5],.bool Y.2]) (by simp[results,Tryz.results14,go_sem,s0,s1,s2]) rfl ⟨_,rfl,Made.since (hM.after ((((y25.refl _ _).setCell (p:=⟨w.heap.size+1,0,none⟩) (by show w.heap.size+1 < _;omega) (.int .i64 c1)).setCell (p:=⟨w.heap.size+1,1,none⟩) (by show w.heap.size+1 < _;omega) (.int .i64 c2)).setCell (p:=⟨w.heap.size+1,2,none⟩) (by show w.heap.size+1 < _;omega) (.slice c3 c4 c5))) (by omega), ?_⟩;exact((((hx0.trans F8).setCell (by simp) _).setCell (by simp) _).setCell (by simp) _)
end Go.Proofs.YtbnkbepgmenblaaGreat
namespace Go.Proofs.YtbnkbepgmenblaaGreat
open Go.RowKit
open M (Hd HR Cv Ty Lim WfL TyB Lev)
def ctxE(G:List M.Tm):List Tr:=(G.map enc).reverse
theorem j48(G:List M.Tm):(ctxE G).length=G.length:=by simp[ctxE]
theorem y34(A:M.Tm)(G:List M.Tm):ctxE (A::G)=ctxE G++ [enc A]:=by simp[ctxE]
theorem j204{G:List M.Tm}{n:Nat}(h:n < G.length):kd (ctxE G) (G.length - 1 - n)=enc G[n]:=by
 unfold kd ctxE;rw[List.getD_eq_getElem?_getD,List.getElem?_reverse (by simp;omega)];simp only[List.length_map,List.getElem?_map];rw[show G.length - 1 -(G.length - 1 - n)=n by omega,List.getElem?_eq_getElem h]
 rfl
theorem y151(p:M.Tm):stpT (enc p)=enc (M.stepTy p):=by
 have h1:=y129 1 p 0;have h2:=y129 2 p 0;rw[q126] at h1 h2;unfold stpT M.stepTy;simp only[enc,natT,varT];rw[show shfT 1 (enc p) 0=enc (p.ren fun i=> i+1) from h1,show shfT 2 (enc p) 0=enc (p.ren fun i=> i+2) from h2]
 rfl
theorem j184{G:List M.Tm}{n:Nat}(h:n < G.length):lkV (ctxE G) (n:Int)=mkV (enc (G[n].ren fun i=> i+(n+1))):=by
 unfold lkV;rw[if_neg (by rw[j48];omega),j48,show(n:Int).toNat=n by omega,j204 h];have:=y129 (n+1) G[n] 0;rw[q126] at this;rw[<-this]
 rfl
theorem lk_get{G:List M.Tm}{n:Nat}(h:n < G.length):M.lk G n=some (G[n].ren fun i=> i+(n+1)):=by
 unfold M.lk;rw[List.getElem?_eq_getElem h]
 rfl
section
variable (f : Nat) (G : List Tr)
theorem q209{k:Int}{ks:List Tr}{i:Nat}(h:und k i=0):tyV (infV f) G k ks i=infV f G (kd ks i):=by unfold tyV;rw[if_pos h]
theorem y96{k:Int}{ks:List Tr}(h:und k 1=1):tyV (infV f) G k ks 1=if 20<=G.length then some (q16,2) else infV f (G++ [kd ks 0]) (kd ks 1):=by unfold tyV;rw[if_neg (by rw[h];decide)]
end
theorem pty{f:Nat}{G:List Tr}{k:Int}{ks:List Tr}{i:Nat}{r:Tr×Int}(h:und k i=0)(e:tyV (infV f) G k ks i=some r):infV f G (kd ks i)=some r:=by rwa [q209 f G h] at e
theorem uty{f:Nat}{G:List Tr}{k:Int}{ks:List Tr}{s:Tr}(h:und k 1=1)(e:tyV (infV f) G k ks 1=some (s,0)):G.length < 20/\infV f (G++ [kd ks 0]) (kd ks 1)=some (s,0):=by
 rw[y96 f G h] at e
 split at e
 · simp at e
 · exact⟨by omega,e⟩
theorem q12{k n:Int}{ks:List Tr}{x:Tr}(h:valid sigT (.mk k n ks)=true)(hm:x∈ks):valid sigT x=true:=y63 h hm
structure j33 (G:List M.Tm):Prop where
 wf:WfL G
 vd: ∀A∈G,valid sigT (enc A)=true
theorem j33.nil:j33 []:=⟨WfL.nil,fun _ h=> by simp at h⟩
theorem j33.cons{G:List M.Tm}{A:M.Tm}(h:j33 G)(b:TyB G A)(v:valid sigT (enc A)=true):j33 (A::G):=
 ⟨h.wf.cons b,fun B hB=> by
  rcases List.mem_cons.1 hB with rfl|hB
  · exact v
  · exact h.vd B hB⟩
def Snd(f:Nat):Prop:= ∀(G:List M.Tm) (t:M.Tm) (x:Tr),j33 G->valid sigT (enc t)=true->infV f (ctxE G) (enc t)=some (x,0)-> ∃A,x=enc A/\Ty G t A/\Lim G t/\valid sigT (enc A)=true
theorem q39{f:Nat}(ih:Snd f){G:List M.Tm}{A:M.Tm}{s:Tr}(hG:j33 G)(hv:valid sigT (enc A)=true)(h:frmV (infV f (ctxE G) (enc A)) 2=some (s,0)): ∃S i,s=enc (.sort i)/\Ty G A S/\HR S (.sort i)/\Lim G A/\TyB G A/\i<=3:=by
 obtain⟨u,h1,h2,h3⟩:=y56 h;obtain⟨S,rfl,tA,lA,vS⟩:=ih G A u hG hv h1;obtain⟨B,rfl,r,-,-⟩:=y55 h2;obtain⟨i,rfl⟩:=kind2 h3;have hi:=M.lev_le (Lim.type tA hG.wf lA) r;exact⟨S,i,rfl,tA,r,lA,⟨lA,i,hi,S,tA,r⟩,hi⟩
theorem j172{f:Nat}(ih:Snd f){G:List M.Tm}{t:M.Tm}{s:Tr}(hG:j33 G)(hv:valid sigT (enc t)=true)(h:frmV (infV f (ctxE G) (enc t)) 3=some (s,0)): ∃F C R,s=enc (.pi C R)/\Ty G t F/\HR F (.pi C R)/\Lim G t/\valid sigT (enc C)=true/\valid sigT (enc R)=true:=by
 obtain⟨u,h1,h2,h3⟩:=y56 h;obtain⟨F,rfl,tA,lA,vS⟩:=ih G t u hG hv h1;obtain⟨B,rfl,r,-,vB⟩:=y55 h2;obtain⟨C,R,rfl⟩:=kind3 h3;exact⟨F,C,R,rfl,tA,r,lA,q12 vB (by simp),q12 vB (by simp)⟩
theorem snd_sg{f:Nat}(ih:Snd f){G:List M.Tm}{t:M.Tm}{s:Tr}(hG:j33 G)(hv:valid sigT (enc t)=true)(h:frmV (infV f (ctxE G) (enc t)) 13=some (s,0)): ∃F C R,s=enc (.sg C R)/\Ty G t F/\HR F (.sg C R)/\Lim G t/\valid sigT (enc C)=true/\valid sigT (enc R)=true:=by
 obtain⟨u,h1,h2,h3⟩:=y56 h;obtain⟨F,rfl,tA,lA,vS⟩:=ih G t u hG hv h1;obtain⟨B,rfl,r,-,vB⟩:=y55 h2;obtain⟨C,R,rfl⟩:=kind13 h3;exact⟨F,C,R,rfl,tA,r,lA,q12 vB (by simp),q12 vB (by simp)⟩
theorem snd_id{f:Nat}(ih:Snd f){G:List M.Tm}{t:M.Tm}{s:Tr}(hG:j33 G)(hv:valid sigT (enc t)=true)(h:frmV (infV f (ctxE G) (enc t)) 10=some (s,0)): ∃F T a b,s=enc (.id T a b)/\Ty G t F/\HR F (.id T a b)/\Lim G t/\valid sigT (enc T)=true/\valid sigT (enc a)=true/\valid sigT (enc b)=true:=by
 obtain⟨u,h1,h2,h3⟩:=y56 h;obtain⟨F,rfl,tA,lA,vS⟩:=ih G t u hG hv h1;obtain⟨B,rfl,r,-,vB⟩:=y55 h2;obtain⟨T,a,b,rfl⟩:=kind10 h3;exact⟨F,T,a,b,rfl,tA,r,lA,q12 vB (by simp),q12 vB (by simp),q12 vB (by simp)⟩
theorem q50{f:Nat}(ih:Snd f){G:List M.Tm}{t W:M.Tm}{y:An}{u:Tr}(hG:j33 G)(hv:valid sigT (enc t)=true)(h:chkV (infV f (ctxE G) (enc t)) (enc W) y=some (u,0)): ∃X,Ty G t X/\Cv X W/\Lim G t/\y=some (u,0):=by
 obtain⟨s,h1,h2,h3⟩:=q42 h;obtain⟨X,rfl,tX,lX,-⟩:=ih G t s hG hv h1;exact⟨X,tX,j170 h2,lX,h3⟩
theorem j197{f:Nat}(ih:Snd f){G:List M.Tm}{p T:M.Tm}{y:An}{u:Tr}(hG:j33 G)(hv:valid sigT (enc p)=true)(h:famV (infV f (ctxE G) (enc p)) (enc T) y=some (u,0)): ∃F C D k,Ty G p F/\HR F (.pi C D)/\Cv C T/\HR D (.sort k)/\Lim G p/\y=some (u,0):=by
 obtain⟨F0,s,c,h1,h2,h3,h4,h5,h6,h7⟩:=j143 h;obtain⟨F,C,D,rfl,tF,rF,lF,-,-⟩:=j172 ih hG hv (s:=s) (by
  unfold frmV thn;rw[h1];simp only[if_true];unfold shpV;rw[if_neg (by rw[h2];simp),if_neg (by rw[h2];simpa using h3),h2])
 obtain⟨B,rfl,r,-,-⟩:=y55 (show hnfV (enc D) 200=(c,0) from h5);obtain⟨k,rfl⟩:=kind2 h6;exact⟨F,C,D,k,tF,rF,j170 h4,r,lF,h7⟩
theorem snd: ∀f,Snd f
 |0=> fun G t x hG hv h=> by cases h
 |f+1=> fun G t x hG hv h=> by
  have ih:=snd f;cases t with
  |var n=>
   have h1:some (lkV (ctxE G) (n:Int))=some (x,0):=h;by_cases hn:n < G.length
   · rw[j184 hn] at h1
     obtain⟨v,rfl⟩:=y32 h1;exact⟨_,rfl,.var (lk_get hn),trivial,v⟩
   · unfold lkV at h1
     rw[if_pos (by rw[j48];omega)] at h1;simp at h1
  |sort n=>
   have h1:some (if(n:Int)=3 then(q16,(1:Int)) else(srtT ((n:Int)+1),0))=some (x,0):=by
    rw[<-h];simp[enc,infV,judV]
   split at h1
   · simp at h1
   · rename_i hn
     simp only[Option.some.injEq,Prod.mk.injEq,and_true] at h1;have hle:(n:Int)<=3:=(j12 (y12 hv).1).2.2.1;refine⟨.sort (n+1),by rw[<-h1];rfl,.sort,by show n < 3;omega, ?_⟩;have: ∀m:Fin 4,valid sigT (enc (.sort m.val))=true:=by decide+kernel
     exact this ⟨n+1,by omega⟩
  |nat=>
   have h1:some (srtT 0,(0:Int))=some (x,0):=h;simp only[Option.some.injEq,Prod.mk.injEq,and_true] at h1;exact⟨.sort 0,by rw[<-h1];rfl,.nat,trivial,by decide+kernel⟩
  |zero=>
   have h1:some (natT,(0:Int))=some (x,0):=h;simp only[Option.some.injEq,Prod.mk.injEq,and_true] at h1;exact⟨.nat,by rw[<-h1];rfl,.zero,trivial,by decide+kernel⟩
  |succ a=>
   have h1:chkV (infV f (ctxE G) (enc a)) (enc .nat) (some (natT,0))=some (x,0):=h;obtain⟨X,tX,cX,lX,h2⟩:=q50 ih hG (q12 hv (by simp)) h1;simp only[Option.some.injEq,Prod.mk.injEq,and_true] at h2;exact⟨.nat,by rw[<-h2];rfl,.succ tX cX,lX,by decide+kernel⟩
  |pi A B=>
   have h1:thn (frmV (infV f (ctxE G) (enc A)) 2) (fun a=> thn (frmV (tyV (infV f) (ctxE G) 3 [enc A,enc B] 1) 2) fun b=> some (srtT (max a.num b.num),0))=some (x,0):=h;obtain⟨s,h2,h3⟩:=q18 h1;obtain⟨S,i,rfl,tA,rA,lA,bA,hi⟩:=q39 ih hG (q12 hv (by simp)) h2;obtain⟨s2,h4,h5⟩:=q18 h3;obtain⟨u,h6,h7,h8⟩:=y56 h4;obtain⟨h9,h10⟩:=uty rfl h6;have K5:=hG.cons bA (q12 hv (by simp));rw[show ctxE G++ [kd [enc A,enc B] 0]=ctxE (A::G) from(y34 A G).symm] at h10;obtain⟨S',j,rfl,tB,rB,lB,bB,hj⟩:=q39 ih K5 (q12 hv (by simp)) (A:=B) (s:=s2) (by
    unfold frmV thn;rw[show infV f (ctxE (A::G)) (enc B)=some (u,0) from h10];simp only[if_true];unfold shpV;rw[if_neg (by rw[h7];simp),if_neg (by rw[h7];simpa using h8),h7])
   simp only[Option.some.injEq,Prod.mk.injEq,and_true] at h5;refine⟨.sort (max i j),by rw[<-h5];simp only[enc,Tr.num,srtT];congr 1;omega,.pi tA rA tB rB,⟨lA,lB⟩, ?_⟩;have: ∀m:Fin 4,valid sigT (enc (.sort m.val))=true:=by decide+kernel
   exact this ⟨max i j,by omega⟩
  |sg A B=>
   have h1:thn (frmV (infV f (ctxE G) (enc A)) 2) (fun a=> thn (frmV (tyV (infV f) (ctxE G) 13 [enc A,enc B] 1) 2) fun b=> some (srtT (max a.num b.num),0))=some (x,0):=h;obtain⟨s,h2,h3⟩:=q18 h1;obtain⟨S,i,rfl,tA,rA,lA,bA,hi⟩:=q39 ih hG (q12 hv (by simp)) h2;obtain⟨s2,h4,h5⟩:=q18 h3;obtain⟨u,h6,h7,h8⟩:=y56 h4;obtain⟨h9,h10⟩:=uty rfl h6;have K5:=hG.cons bA (q12 hv (by simp));rw[show ctxE G++ [kd [enc A,enc B] 0]=ctxE (A::G) from(y34 A G).symm] at h10;obtain⟨S',j,rfl,tB,rB,lB,bB,hj⟩:=q39 ih K5 (q12 hv (by simp)) (A:=B) (s:=s2) (by
    unfold frmV thn;rw[show infV f (ctxE (A::G)) (enc B)=some (u,0) from h10];simp only[if_true];unfold shpV;rw[if_neg (by rw[h7];simp),if_neg (by rw[h7];simpa using h8),h7])
   simp only[Option.some.injEq,Prod.mk.injEq,and_true] at h5;refine⟨.sort (max i j),by rw[<-h5];simp only[enc,Tr.num,srtT];congr 1;omega,.sg tA rA tB rB,⟨lA,lB⟩, ?_⟩;have: ∀m:Fin 4,valid sigT (enc (.sort m.val))=true:=by decide+kernel
   exact this ⟨max i j,by omega⟩
  |lam A t=>
   have h1:thn (frmV (infV f (ctxE G) (enc A)) 2) (fun _=> thn (tyV (infV f) (ctxE G) 4 [enc A,enc t] 1) fun b=> thn (some (mkV (.mk 3 0 [enc A,b]))) fun out=> thn (infV f (ctxE G) out) fun _=> some (out,0))=some (x,0):=h;obtain⟨s,h2,h3⟩:=q18 h1;obtain⟨S,i,rfl,tA,rA,lA,bA,hi⟩:=q39 ih hG (q12 hv (by simp)) h2;obtain⟨b,h4,h5⟩:=q18 h3;obtain⟨h6,h7⟩:=uty rfl h4;have K5:=hG.cons bA (q12 hv (by simp));rw[show ctxE G++ [kd [enc A,enc t] 0]=ctxE (A::G) from(y34 A G).symm] at h7;obtain⟨B,rfl,tB,lB,vB⟩:=ih (A::G) t b K5 (q12 hv (by simp)) h7;obtain⟨h8,h9⟩:=j75 h5;obtain⟨v,e⟩:=q93 h8;rw[e] at h9;obtain⟨s3,h10,h11⟩:=q18 h9;obtain⟨P,rfl,tP,lP,-⟩:=ih G (.pi A B) s3 hG v h10;simp only[Option.some.injEq,Prod.mk.injEq,and_true] at h11;refine⟨.pi A B,h11.symm,.lam tA rA tB,⟨lA,lB,fun B' k' hB hk=> ?_⟩,v⟩;obtain rfl:=tB.det hB;cases tP with
   |pi k1 k2 k3 k4=>
    have:=M.lev_le (Lim.type (.pi k1 k2 k3 k4) hG.wf lP) (.refl _);have e2:=hk.det ⟨_,k3,k4⟩;omega
  |app g a=>
   have h1:thn (frmV (infV f (ctxE G) (enc g)) 3) (fun s=> chkV (infV f (ctxE G) (enc a)) (kd s.kids 0) (some (mkV (sbsT (enc a) (kd s.kids 1) 0 0))))=some (x,0):=h;obtain⟨s,h2,h3⟩:=q18 h1;obtain⟨F,C,R,rfl,tF,rF,lF,vC,vR⟩:=j172 ih hG (q12 hv (by simp)) h2;obtain⟨X,tX,cX,lX,h4⟩:=q50 ih hG (q12 hv (by simp)) (W:=C) h3;obtain⟨v,rfl⟩:=y32 h4;have e:sbsT (enc a) (kd (enc (.pi C R)).kids 1) 0 0=enc (R.inst a):=y53 R a;rw[e] at v⊢;exact⟨_,rfl,.app tF rF tX cX,⟨lF,lX⟩,v⟩
  |elim p z s a=>
   have h1:famV (infV f (ctxE G) (enc p)) (enc .nat) (thn (some (mkV (.mk 5 0 [enc p,.mk 7 0 []]))) fun w=> chkV (infV f (ctxE G) (enc z)) w (thn (some (mkV (stpT (enc p)))) fun w2=> chkV (infV f (ctxE G) (enc s)) w2 (chkV (infV f (ctxE G) (enc a)) (enc .nat) (some (mkV (.mk 5 0 [enc p,enc a]))))))=some (x,0):=h;obtain⟨F,C,D,k,tF,rF,cC,rD,lF,h2⟩:=j197 ih hG (q12 hv (by simp)) h1;obtain⟨h3,h4⟩:=j75 h2;obtain⟨v1,e1⟩:=q93 h3;rw[e1] at h4;obtain⟨Z,tZ,cZ,lZ,h5⟩:=q50 ih hG (q12 hv (by simp)) (W:= .app p .zero) h4;obtain⟨h6,h7⟩:=j75 h5;obtain⟨v2,e2⟩:=q93 h6;rw[e2,y151] at h7;obtain⟨S,tS,cS,lS,h8⟩:=q50 ih hG (q12 hv (by simp)) h7;obtain⟨X,tX,cX,lX,h9⟩:=q50 ih hG (q12 hv (by simp)) h8;obtain⟨v3,rfl⟩:=y32 h9;exact⟨.app p a,rfl,.elim tF rF cC rD tZ cZ tS cS tX cX,⟨lF,lZ,lS,lX⟩,v3⟩
  |id T a b=>
   have h1:thn (frmV (infV f (ctxE G) (enc T)) 2) (fun s=> chkV (infV f (ctxE G) (enc a)) (enc T) (chkV (infV f (ctxE G) (enc b)) (enc T) (some (srtT s.num,0))))=some (x,0):=h;obtain⟨s,h2,h3⟩:=q18 h1;obtain⟨S,i,rfl,tA,rA,lA,bA,hi⟩:=q39 ih hG (q12 hv (by simp)) h2;obtain⟨X,tX,cX,lX,h4⟩:=q50 ih hG (q12 hv (by simp)) h3;obtain⟨Y,tY,cY,lY,h5⟩:=q50 ih hG (q12 hv (by simp)) h4;simp only[Option.some.injEq,Prod.mk.injEq,and_true] at h5;refine⟨.sort i,by rw[<-h5];rfl,.id tA rA tX cX tY cY,⟨lA,lX,lY⟩, ?_⟩;have: ∀m:Fin 4,valid sigT (enc (.sort m.val))=true:=by decide+kernel
   exact this ⟨i,by omega⟩
  |refl a=>
   have h1:thn (infV f (ctxE G) (enc a)) (fun s=> thn (frmV (infV f (ctxE G) s) 2) fun _=> some (mkV (.mk 10 0 [s,enc a,enc a])))=some (x,0):=h;obtain⟨s,h2,h3⟩:=q18 h1;obtain⟨A,rfl,tA,lA,vA⟩:=ih G a s hG (q12 hv (by simp)) h2;obtain⟨s2,h4,h5⟩:=q18 h3;obtain⟨S,i,rfl,tS,rS,lS,bS,hi⟩:=q39 ih hG vA h4;obtain⟨v,rfl⟩:=y32 h5;refine⟨.id A a a,rfl,.refl tA,⟨lA,fun B' k' hB hk=> ?_⟩,v⟩;obtain rfl:=tA.det hB;have:=hk.det ⟨S,tS,rS⟩;omega
  |move p e a=>
   have h1:thn (frmV (infV f (ctxE G) (enc e)) 10) (fun s=> famV (infV f (ctxE G) (enc p)) (kd s.kids 0) (thn (some (mkV (.mk 5 0 [enc p,kd s.kids 1]))) fun w=> chkV (infV f (ctxE G) (enc a)) w (some (mkV (.mk 5 0 [enc p,kd s.kids 2])))))=some (x,0):=h;obtain⟨s,h2,h3⟩:=q18 h1;obtain⟨E,T,b,c,rfl,tE,rE,lE,vT,vb,vc⟩:=snd_id ih hG (q12 hv (by simp)) h2;obtain⟨F,C,D,k,tF,rF,cC,rD,lF,h4⟩:=j197 ih hG (q12 hv (by simp)) (T:=T) h3;obtain⟨h5,h6⟩:=j75 h4;obtain⟨v1,e1⟩:=q93 h5;rw[e1] at h6;obtain⟨X,tX,cX,lX,h7⟩:=q50 ih hG (q12 hv (by simp)) (W:= .app p b) h6;obtain⟨v2,rfl⟩:=y32 h7;exact⟨.app p c,rfl,.move tE rE tF rF cC rD tX cX,⟨lF,lE,lX⟩,v2⟩
  |pair T a b=>
   have h1:thn (frmV (infV f (ctxE G) (enc T)) 2) (fun _=> thn (some (shpV (enc T) 13)) fun s=> chkV (infV f (ctxE G) (enc a)) (kd s.kids 0) (thn (some (mkV (sbsT (enc a) (kd s.kids 1) 0 0))) fun w=> chkV (infV f (ctxE G) (enc b)) w (some (enc T,0))))=some (x,0):=h;obtain⟨s,h2,h3⟩:=q18 h1;obtain⟨S,i,rfl,tA,rA,lA,bA,hi⟩:=q39 ih hG (q12 hv (by simp)) h2;obtain⟨h4,h5⟩:=j75 h3;obtain⟨h6,h7⟩:=y104 h4;generalize (shpV (enc T) 13).1=q at h5 h6 h7;obtain⟨B,rfl,r,-,vB⟩:=y55 h6;obtain⟨C,R,rfl⟩:=kind13 h7;obtain⟨X,tX,cX,lX,h8⟩:=q50 ih hG (q12 hv (by simp)) (W:=C) h5;obtain⟨h9,h10⟩:=j75 h8;obtain⟨v1,e1⟩:=q93 h9;have e:sbsT (enc a) (kd (enc (.sg C R)).kids 1) 0 0=enc (R.inst a):=y53 R a;rw[e1,e] at h10;obtain⟨Y,tY,cY,lY,h11⟩:=q50 ih hG (q12 hv (by simp)) h10;simp only[Option.some.injEq,Prod.mk.injEq,and_true] at h11;exact⟨T,h11.symm,.pair tA rA r tX cX tY cY,⟨lA,lX,lY⟩,q12 hv (by simp)⟩
  |fst a=>
   have h1:thn (frmV (infV f (ctxE G) (enc a)) 13) (fun s=> some (kd s.kids 0,0))=some (x,0):=h;obtain⟨s,h2,h3⟩:=q18 h1;obtain⟨F,C,R,rfl,tF,rF,lF,vC,vR⟩:=snd_sg ih hG (q12 hv (by simp)) h2;simp only[Option.some.injEq,Prod.mk.injEq,and_true] at h3;exact⟨C,h3.symm,.fst tF rF,lF,vC⟩
  |snd a=>
   have h1:thn (frmV (infV f (ctxE G) (enc a)) 13) (fun s=> some (mkV (sbsT (.mk 15 0 [enc a]) (kd s.kids 1) 0 0)))=some (x,0):=h;obtain⟨s,h2,h3⟩:=q18 h1;obtain⟨F,C,R,rfl,tF,rF,lF,vC,vR⟩:=snd_sg ih hG (q12 hv (by simp)) h2;obtain⟨v,rfl⟩:=y32 h3;have e:sbsT (.mk 15 0 [enc a]) (kd (enc (.sg C R)).kids 1) 0 0=enc (R.inst (.fst a)):=y53 R (.fst a);rw[e] at v⊢;exact⟨_,rfl,.snd tF rF,lF,v⟩
end Go.Proofs.YtbnkbepgmenblaaGreat
namespace Go.Proofs.YtbnkbepgmenblaaGreat
open Go.RowKit
theorem y78(t:Tr)(p:List Int)(w:World)(v:Value)(j7:Lies w t v)(A:Option Addr)(n cap:Nat)(hp:PFs w A n cap p):
 Calls Tryz.prog 15 #[v,.slice A n cap] w fun e w'=> ∃r,e= .returned (.tuple #[r,.bool (conP t p).2])/\Lies w' (conP t p).1 r/\Ext w w':=by
 have HX:=hdq (fun W (hW:Ext w W)=> by
  have:=y109 t p W v (j7.ext hW) A cap (by rw[hp.hn];exact hp.hl) hp.hc (hp.hP.ext hW);rw[hp.hn] at this;exact this)
 have tz: ∀u,atV t p=(u,true)->valid sigT t=true/\atT t p=some u:=fun u h=> by
  unfold atV at h
  split at h
  · rename_i hv
    cases e:atT t p with
    |none=> rw[e] at h;simp at h
    |some x=> rw[e] at h;simp at h;subst h;exact⟨hv,rfl⟩
  · simp at h
 have hno:(atV t p).2=false->conP t p=(q16,false):=fun h=> by
  unfold conP rdxA;unfold atV at h
  split at h
  · rename_i hv
    cases e:atT t p with
    |none=> simp
    |some x=> rw[e] at h;simp at h
  · rename_i hv
    rw[if_neg (by simp[hv])]
 have G8:=hdq (fun u (hu:atV t p=(u,true)) W x (hx:Lies W u x)=> q31 u 30 (q14 (y69 (tz u hu).1 (tz u hu).2)).2 W x hx);have Be:=hdq (fun u (hu:atV t p=(u,true)) (hr:j55 u=true) W x (hx:Lies W u x)=> q109 u (y69 (tz u hu).1 (tz u hu).2) hr W x hx);have Dp:=hdq (fun u (hu:atV t p=(u,true)) W (hW:Ext w W) x (hx:Lies W (ctrT u) x)=> j185 p t (ctrT u) 30 (q14 (tz u hu).1).2 (by rw[(tz u hu).2];rfl) W v x (j7.ext hW) hx A n cap (hp.ext hW) (by
  have h1:=q143 p t u 30 (q14 (tz u hu).1).2 (tz u hu).2;have h2:=hp.hn;omega) (by have:=(q14 (tz u hu).1).1;omega) (y205 (q14 (y69 (tz u hu).1 (tz u hu).2)).1))
 have Kz: ∀u,atV t p=(u,true)->conP t p=if j55 u=true then(if valid sigT (putA t p (ctrT u))=true then(putA t p (ctrT u),true) else(q16,false)) else(q16,false):=fun u hu=> by
  obtain⟨h1,h2⟩:=tz u hu;unfold conP conV rdxA conA;rw[h1,h2];simp
 clear tz;obtain⟨⟨u,z⟩,ha⟩: ∃a,atV t p=a:=⟨_,rfl⟩;rw[ha] at HX G8 Be Dp hno Kz;obtain⟨k,nn,ks⟩:=t;obtain⟨At,ct,rfl,-,-,-⟩:=Lies.mk_iff.1 j7;have hx0:=((xr w).alloc (.cells #[.int .i64 k,.int .i64 nn,.slice At ks.length ct] 25)).alloc (.cells #[.int .i64 0,.int .i64 0,.slice none 0 0] 25);obtain⟨hb0,hb1,hs2⟩:=blk2 (xr ((w.alloc (.cells #[.int .i64 k,.int .i64 nn,.slice At ks.length ct] 25)).alloc (.cells #[.int .i64 0,.int .i64 0,.slice none 0 0] 25)));obtain⟨wS,G6⟩: ∃x,x=(w.alloc (.cells #[.int .i64 k,.int .i64 nn,.slice At ks.length ct] 25)).alloc (.cells #[.int .i64 0,.int .i64 0,.slice none 0 0] 25):=⟨_,rfl⟩;rw[<-G6] at hx0 hb0 hb1 hs2;cases z with
 |false=>
  rw[hno rfl];clear G8 Be Dp hno Kz;go_enter Tryz.func15,Tryz.ntmps15;go_wp2_with fail;rw[<-G6];clear G6;refine(HX.out _ hx0).mono ?_;rintro e w1 ⟨x,rfl,hL,h1⟩;obtain⟨b1,b2,b3,b4,b5,rfl⟩:=InT.three hL;have F8:=h1.trans ((xr w1).alloc (.cells #[.int .i64 b1,.int .i64 b2,.slice b3 b4 b5] 25));obtain⟨s0,s1,s2,f0,f1,f2⟩:=own3 (F8.blk hb1);go_wp2_with fail;refine bodyPost_ret (v:= .tuple #[.agg #[.int .i64 0,.int .i64 0,.slice none 0 0],.bool false]) (by simp[results,Tryz.results15,go_sem,s0,s1,s2]) rfl ⟨_,rfl,Lies.leaf _ _ _, ?_⟩;exact((((hx0.trans F8).setCell (by simp) _).setCell (by simp) _).setCell (by simp) _)
 |true=>
  have sr:=hdq (G8.out u rfl);have iu:=hdq (Be.out u rfl);have Ay:=hdq (Dp.out u rfl);have HCP:=Kz u rfl;clear G8 Be Dp hno Kz;rw[HCP];clear HCP;obtain⟨r,hr⟩: ∃r,rdxT u=r:=⟨_,rfl⟩;have tj:=hdq (show∀W x,Lies W u x->Calls Tryz.prog 54 #[x] W fun e w'=> e= .returned (.int .i64 r)/\Ext W w' from fun W x hx=> hr▸sr.out W x hx);have ER:j55 u=(r !=0):=by unfold j55;rw[hr]
  clear hr sr;generalize putA (.mk k nn ks) p (ctrT u)=X at Ay⊢;generalize ctrT u=C at iu Ay;generalize j55 u=rr at ER iu⊢;have Nu:True:=trivial;by_cases h0:r=0
  · subst h0
    have Ie:rr=false:=ER;subst Ie;rw[if_neg (by decide)];clear ER iu Ay;go_enter Tryz.func15,Tryz.ntmps15;go_wp2_with fail;rw[<-G6];clear G6;refine(HX.out _ hx0).mono ?_;rintro e w1 ⟨x,rfl,hL,h1⟩;obtain⟨b1,b2,b3,b4,b5,rfl⟩:=InT.three hL;have h3:=(xr w1).alloc (.cells #[.int .i64 b1,.int .i64 b2,.slice b3 b4 b5] 25);have hL2:=Lies.ext hL h3;go_wp2_with fail;refine(tj.out _ _ hL2).mono ?_;rintro e w4 ⟨rfl,h4⟩;have F8:=(h1.trans h3).trans h4;obtain⟨s0,s1,s2,f0,f1,f2⟩:=own3 (F8.blk hb1);go_wp2_with fail;refine bodyPost_ret (v:= .tuple #[.agg #[.int .i64 0,.int .i64 0,.slice none 0 0],.bool false]) (by simp[results,Tryz.results15,go_sem,s0,s1,s2]) rfl ⟨_,rfl,Lies.leaf _ _ _, ?_⟩;exact((((hx0.trans F8).setCell (by simp) _).setCell (by simp) _).setCell (by simp) _)
  · have Ie:rr=true:=ER.trans (bne_iff_ne.2 h0)
    have hb0r:(r==0)=false:=beq_eq_false_iff_ne.2 h0;subst Ie;rw[if_pos rfl];have Nv:=hdq (iu.out rfl);have oa:=hdq (fun a0 a1 a2 a3 a4 W h=> q161 X a0 a1 a2 a3 a4 W h);obtain⟨b,J9⟩: ∃b,valid sigT X=b:=⟨_,rfl⟩;rw[J9] at oa⊢;clear ER iu J9 Nu;cases b with
    |false=>
     simp only[Bool.false_eq_true,if_false] at oa;rw[if_neg (by decide)];go_enter Tryz.func15,Tryz.ntmps15;go_wp2_with fail;rw[<-G6];clear G6;refine(HX.out _ hx0).mono ?_;rintro e w1 ⟨x,rfl,hL,h1⟩;obtain⟨b1,b2,b3,b4,b5,rfl⟩:=InT.three hL;have h3:=(xr w1).alloc (.cells #[.int .i64 b1,.int .i64 b2,.slice b3 b4 b5] 25);have G5:=heap_alloc_new w1 (.cells #[.int .i64 b1,.int .i64 b2,.slice b3 b4 b5] 25);have hL2:=Lies.ext hL h3;go_wp2_with fail;refine(tj.out _ _ hL2).mono ?_;rintro e w4 ⟨rfl,h4⟩;have er:=(h1.trans h3).trans h4;have Y7:=hx0.trans er;have hL4:=Lies.ext hL2 h4;have fz:=er.blk hb1;have hs1:w.heap.size+1 < w1.heap.size:=j10 (h1.blk hb1);have jq:w1.heap.size < w4.heap.size:=j10 (h4.blk G5);have HS:=hdq (show∀w':World,(∀y,y < w4.heap.size->y≠w.heap.size+1->w'.heap[y]? =w4.heap[y]?)->w'.cell? ⟨w.heap.size,0,none⟩=some (.int .i64 k)/\w'.cell? ⟨w.heap.size,1,none⟩=some (.int .i64 nn)/\w'.cell? ⟨w.heap.size,2,none⟩=some (.slice At ks.length ct)/\w'.cell? ⟨w1.heap.size,0,none⟩=some (.int .i64 b1)/\w'.cell? ⟨w1.heap.size,1,none⟩=some (.int .i64 b2)/\w'.cell? ⟨w1.heap.size,2,none⟩=some (.slice b3 b4 b5) from fun w' hw=> by
      have f: ∀(y j:Nat) (x:Value),y < w4.heap.size->y≠w.heap.size+1->w4.cell? ⟨y,j,none⟩=some x->w'.cell? ⟨y,j,none⟩=some x:=fun y j x h1 h2 h3=>(World.cell?_of_block (a:=⟨y,j,none⟩) (hw y h1 h2)).trans h3
      exact⟨f _ _ _ (by omega) (by omega) (q10 (er.blk hb0) 0),f _ _ _ (by omega) (by omega) (q10 (er.blk hb0) 1),f _ _ _ (by omega) (by omega) (q10 (er.blk hb0) 2),f _ _ _ (by omega) (by omega) (q10 (h4.blk G5) 0),f _ _ _ (by omega) (by omega) (q10 (h4.blk G5) 1),f _ _ _ (by omega) (by omega) (q10 (h4.blk G5) 2)⟩)
     have X0:Ext w4 w4.drew:=(xr w4).drew;clear hb0 hb1 G5 hL hL2;go_wp2_with fail
     go_region_held3 (fun w'=> w'.cell? ⟨w.heap.size,0,none⟩=some (.int .i64 k)/\w'.cell? ⟨w.heap.size,1,none⟩=some (.int .i64 nn)/\w'.cell? ⟨w.heap.size,2,none⟩=some (.slice At ks.length ct)/\w'.cell? ⟨w1.heap.size,0,none⟩=some (.int .i64 b1)/\w'.cell? ⟨w1.heap.size,1,none⟩=some (.int .i64 b2)/\w'.cell? ⟨w1.heap.size,2,none⟩=some (.slice b3 b4 b5))
      (first|exact HS.out _ (fun y h1 h2=> by rw[Below.heap_setCell _ _ _ _ h2,Below.heap_setCell _ _ _ _ h2,Below.heap_setCell _ _ _ _ h2];exact Xc.heap y h1) |exact HS.out _ (fun y h1 _=> by with_reducible exact Ext.heap Xc y h1) |exact HS.out _ (fun y h1 _=> by with_reducible exact Ext.heap Xb y h1) |exact HS.out _ (fun y h1 _=> by with_reducible exact Ext.heap Xa y h1) |exact HS.out _ (fun y h1 _=> by with_reducible exact Ext.heap X0 y h1))
      (first|(go_at_call 55;refine(oa.out _ _ _ _ _ _ hY.lies).mono ?_;rintro e wc ⟨rfl,ec,-⟩;have Xc:Ext w4 wc:=Xb.trans ec;obtain⟨s0,s1,s2,f0,f1,f2⟩:=own3 (Xc.blk fz)) |(go_at_call 56;refine(Ay.out _ (Y7.trans Xa) _ hR).mono ?_;rintro e wb ⟨y,rfl,hY,eb⟩;obtain⟨o1,o2,o3,o4,o5,rfl⟩:=hY.three;have Xb:Ext w4 wb:=Xa.trans eb) |(go_at_call 57;refine(Nv.out _ _ (Lies.ext hL4 X0)).mono ?_;rintro e wa ⟨rc,rfl,hR,ea⟩;obtain⟨a1,a2,a3,a4,a5,rfl⟩:=InT.three hR;have Xa:Ext w4 wa:=X0.trans ea))
     have hend:=Y7.trans Xc;have Ui:w.heap.size+2<=wa.heap.size:=by have:=Xa.size;omega
     have HYc:=hdq (hY.ext ec);clear HS X0 fz hR hY;go_wp2_with fail;refine bodyPost_ret (v:= .tuple #[.agg #[.int .i64 0,.int .i64 0,.slice none 0 0],.bool false]) (by simp[results,Tryz.results15,go_sem,s0,s1,s2]) rfl ⟨_,rfl, ?_, ?_⟩
     · exact Lies.leaf _ _ _
     · exact(((hend.setCell (by simp) _).setCell (by simp) _).setCell (by simp) _)
    |true=>
     simp only[if_true] at oa;rw[if_pos rfl];go_enter Tryz.func15,Tryz.ntmps15;go_wp2_with fail;rw[<-G6];clear G6;refine(HX.out _ hx0).mono ?_;rintro e w1 ⟨x,rfl,hL,h1⟩;obtain⟨b1,b2,b3,b4,b5,rfl⟩:=InT.three hL;have h3:=(xr w1).alloc (.cells #[.int .i64 b1,.int .i64 b2,.slice b3 b4 b5] 25);have G5:=heap_alloc_new w1 (.cells #[.int .i64 b1,.int .i64 b2,.slice b3 b4 b5] 25);have hL2:=Lies.ext hL h3;go_wp2_with fail;refine(tj.out _ _ hL2).mono ?_;rintro e w4 ⟨rfl,h4⟩;have er:=(h1.trans h3).trans h4;have Y7:=hx0.trans er;have hL4:=Lies.ext hL2 h4;have fz:=er.blk hb1;have hs1:w.heap.size+1 < w1.heap.size:=j10 (h1.blk hb1);have jq:w1.heap.size < w4.heap.size:=j10 (h4.blk G5);have HS:=hdq (show∀w':World,(∀y,y < w4.heap.size->y≠w.heap.size+1->w'.heap[y]? =w4.heap[y]?)->w'.cell? ⟨w.heap.size,0,none⟩=some (.int .i64 k)/\w'.cell? ⟨w.heap.size,1,none⟩=some (.int .i64 nn)/\w'.cell? ⟨w.heap.size,2,none⟩=some (.slice At ks.length ct)/\w'.cell? ⟨w1.heap.size,0,none⟩=some (.int .i64 b1)/\w'.cell? ⟨w1.heap.size,1,none⟩=some (.int .i64 b2)/\w'.cell? ⟨w1.heap.size,2,none⟩=some (.slice b3 b4 b5) from fun w' hw=> by
      have f: ∀(y j:Nat) (x:Value),y < w4.heap.size->y≠w.heap.size+1->w4.cell? ⟨y,j,none⟩=some x->w'.cell? ⟨y,j,none⟩=some x:=fun y j x h1 h2 h3=>(World.cell?_of_block (a:=⟨y,j,none⟩) (hw y h1 h2)).trans h3
      exact⟨f _ _ _ (by omega) (by omega) (q10 (er.blk hb0) 0),f _ _ _ (by omega) (by omega) (q10 (er.blk hb0) 1),f _ _ _ (by omega) (by omega) (q10 (er.blk hb0) 2),f _ _ _ (by omega) (by omega) (q10 (h4.blk G5) 0),f _ _ _ (by omega) (by omega) (q10 (h4.blk G5) 1),f _ _ _ (by omega) (by omega) (q10 (h4.blk G5) 2)⟩)
     have X0:Ext w4 w4.drew:=(xr w4).drew;clear hb0 hb1 G5 hL hL2;go_wp2_with fail
     go_region_held3 (fun w'=> w'.cell? ⟨w.heap.size,0,none⟩=some (.int .i64 k)/\w'.cell? ⟨w.heap.size,1,none⟩=some (.int .i64 nn)/\w'.cell? ⟨w.heap.size,2,none⟩=some (.slice At ks.length ct)/\w'.cell? ⟨w1.heap.size,0,none⟩=some (.int .i64 b1)/\w'.cell? ⟨w1.heap.size,1,none⟩=some (.int .i64 b2)/\w'.cell? ⟨w1.heap.size,2,none⟩=some (.slice b3 b4 b5))
      (first|exact HS.out _ (fun y h1 h2=> by rw[Below.heap_setCell _ _ _ _ h2,Below.heap_setCell _ _ _ _ h2,Below.heap_setCell _ _ _ _ h2];exact Xc.heap y h1) |exact HS.out _ (fun y h1 _=> by with_reducible exact Ext.heap Xc y h1) |exact HS.out _ (fun y h1 _=> by with_reducible exact Ext.heap Xb y h1) |exact HS.out _ (fun y h1 _=> by with_reducible exact Ext.heap Xa y h1) |exact HS.out _ (fun y h1 _=> by with_reducible exact Ext.heap X0 y h1))
      (first|(go_at_call 55;refine(oa.out _ _ _ _ _ _ hY.lies).mono ?_;rintro e wc ⟨rfl,ec,-⟩;have Xc:Ext w4 wc:=Xb.trans ec;obtain⟨s0,s1,s2,f0,f1,f2⟩:=own3 (Xc.blk fz)) |(go_at_call 56;refine(Ay.out _ (Y7.trans Xa) _ hR).mono ?_;rintro e wb ⟨y,rfl,hY,eb⟩;obtain⟨o1,o2,o3,o4,o5,rfl⟩:=hY.three;have Xb:Ext w4 wb:=Xa.trans eb) |(go_at_call 57;refine(Nv.out _ _ (Lies.ext hL4 X0)).mono ?_;rintro e wa ⟨rc,rfl,hR,ea⟩;obtain⟨a1,a2,a3,a4,a5,rfl⟩:=InT.three hR;have Xa:Ext w4 wa:=X0.trans ea))
     have hend:=Y7.trans Xc;have Ui:w.heap.size+2<=wa.heap.size:=by have:=Xa.size;omega
     have HYc:=hdq (hY.ext ec);clear HS X0 fz hR hY;go_wp2_with fail;refine bodyPost_ret (v:= .tuple #[.agg #[.int .i64 o1,.int .i64 o2,.slice o3 o4 o5],.bool true]) (by simp[results,Tryz.results15,go_sem,s0,s1,s2]) rfl ⟨_,rfl, ?_, ?_⟩
     · exact(((HYc.out.set (by show w.heap.size+1 < _;omega) _).set (by show w.heap.size+1 < _;omega) _).set (by show w.heap.size+1 < _;omega) _).lies
     · exact(((hend.setCell (by simp) _).setCell (by simp) _).setCell (by simp) _)
theorem j179{x:Tr}(h:outT x=none)(f:Nat):nrmC f x=(x,0):=by
 cases f <;>(unfold nrmC;rw[h])
theorem y174{x:Tr}{p:List Int}(h:outT x=some p):nrmC 0 x=(q16,1):=by
 unfold nrmC;rw[h]
theorem nrmC_no{x:Tr}{p:List Int}(h:outT x=some p)(hv:valid sigT (conA x p)=false)(f:Nat):nrmC (f+1) x=(q16,2):=by
 rw[nrmC,h];simp only;rw[if_neg (by rw[hv];decide)]
theorem nrmC_go{x:Tr}{p:List Int}(h:outT x=some p)(hv:valid sigT (conA x p)=true)(f:Nat):nrmC (f+1) x=nrmC f (conA x p):=by
 rw[nrmC,h];simp only;rw[if_pos hv]
theorem y159(t:Tr)(f:Int)(w:World)(v:Value)(j7:Lies w t v):
 Calls Tryz.prog 120 #[v,.int .i64 f,.func (.func 121) #[] #[]] w fun e w'=> ∃r s,e= .returned (.tuple #[r,.int .i64 s,.int .i64 (j138 t f).2])/\Made w w' 25 (j138 t f).1 r/\Ext w w':=by
 have HV:=hdq (fun W (hW:Ext w W)=> y20 t W v (j7.ext hW));have E:j138 t f=if(valid sigT t && inR f 0 200)=true then nrmC f.toNat t else(q16,3):=rfl
 rw[E];clear E;obtain⟨z,hz⟩: ∃z,valid sigT t=z:=⟨_,rfl⟩;obtain⟨y,hy⟩: ∃y,inR f 0 200=y:=⟨_,rfl⟩;rw[hz] at HV⊢;rw[hy];obtain⟨k,n,ks⟩:=t;obtain⟨A,cap,rfl,hl,hc,hK⟩:=Lies.mk_iff.1 j7;have hx0:=((xr w).alloc (.cells #[.int .i64 k,.int .i64 n,.slice A ks.length cap] 25)).alloc (.cells #[.int .i64 0,.int .i64 0,.slice none 0 0] 25);obtain⟨hb0,hb1,hs2⟩:=blk2 (xr ((w.alloc (.cells #[.int .i64 k,.int .i64 n,.slice A ks.length cap] 25)).alloc (.cells #[.int .i64 0,.int .i64 0,.slice none 0 0] 25)));obtain⟨wS,G6⟩: ∃x,x=(w.alloc (.cells #[.int .i64 k,.int .i64 n,.slice A ks.length cap] 25)).alloc (.cells #[.int .i64 0,.int .i64 0,.slice none 0 0] 25):=⟨_,rfl⟩;rw[<-G6] at hx0 hb0 hb1 hs2;cases z with
 |false=>
  rw[if_neg (by simp)];go_enter Tryz.func120,Tryz.ntmps120;go_wp2_with fail;rw[<-G6];clear G6;refine(HV.out _ hx0).mono ?_;rintro e w1 ⟨rfl,h1⟩;obtain⟨s0,s1,s2,f0,f1,f2⟩:=own3 (h1.blk hb1);go_wp2_with fail;refine bodyPost_ret (v:= .tuple #[.agg #[.int .i64 0,.int .i64 0,.slice none 0 0],.int .i64 0,.int .i64 3]) (by simp[results,Tryz.results120,go_sem,s0,s1,s2]) rfl ⟨_,_,rfl,Made.leaf _ _ _ 0 0, ?_⟩;exact((((hx0.trans h1).setCell (by simp) _).setCell (by simp) _).setCell (by simp) _)
 |true=>
  cases y with
  |false=>
   rw[if_neg (by simp)];go_enter Tryz.func120,Tryz.ntmps120;go_wp2_with fail;rw[<-G6];clear G6;refine(HV.out _ hx0).mono ?_;rintro e w1 ⟨rfl,h1⟩;obtain⟨s0,s1,s2,f0,f1,f2⟩:=own3 (h1.blk hb1);go_wp2_with (go_at_call 62;refine(q23 _ _ _ _).mono ?_;rw[hy];rintro e w3 ⟨rfl,rfl⟩)
   refine bodyPost_ret (v:= .tuple #[.agg #[.int .i64 0,.int .i64 0,.slice none 0 0],.int .i64 0,.int .i64 3]) (by simp[results,Tryz.results120,go_sem,s0,s1,s2]) rfl ⟨_,_,rfl,Made.leaf _ _ _ 0 0, ?_⟩;exact((((hx0.trans h1).setCell (by simp) _).setCell (by simp) _).setCell (by simp) _)
  |true=>
   rw[if_pos (by simp)];obtain⟨pp,hf2⟩:=y39.1 hy;obtain⟨F,rfl⟩:=Int.eq_ofNat_of_zero_le pp;rw[show((F:Int)).toNat=F from by omega];obtain⟨R,hR⟩: ∃R,nrmC F (.mk k n ks)=R:=⟨_,rfl⟩;rw[hR];have HR:=hdq hR;have HY:=hdq hy;have HZ:=hdq hz;have HF:=hdq hf2;clear hy hR hz pp hf2;go_enter Tryz.func120,Tryz.ntmps120;go_wp2_with fail;rw[<-G6];clear G6;refine(HV.out _ hx0).mono ?_;rintro e w1 ⟨rfl,h1⟩;have yq:=h1.blk hb0;have B7:=h1.blk hb1;have hx1:=hx0.trans h1;go_wp2_with (go_at_call 62;refine(q23 _ _ _ _).mono ?_;rw[HY.out];rintro e w3 ⟨rfl,rfl⟩)
   clear HV hx0 hb0 hb1 hs2 h1 j7 HY
   go_loopw [9] (fun i wr=> ∃(j:Nat) (k' n':Int) (kids:List Tr) (A':Option Addr) (c':Nat),j<=F/\i= .int .i64 j/\
    Hid (nrmC (F - j) (.mk k' n' kids)=R)/\Hid (valid sigT (.mk k' n' kids)=true)/\kids.length<=c'/\c'<=maxLen/\InK wr (fun b=> b < wr.heap.size/\(b < w.heap.size\/w.heap.size+2<=b)) A' kids/\
    wr.heap[w.heap.size]? =some (.cells #[.int .i64 k',.int .i64 n',.slice A' kids.length c'] 25 (0,0))/\wr.heap[w.heap.size+1]? =some (.cells #[.int .i64 0,.int .i64 0,.slice none 0 0] 25 (0,0))/\Ext w wr) (fun i _=> F -(intOf i).toNat)
   case atStart=> exact⟨0,k,n,ks,A,cap,Nat.zero_le _,rfl,hdq HR.out,HZ,hl,hc,InK.mono (fun b hb=>⟨Nat.lt_of_lt_of_le hb hx1.size,.inl hb⟩) (fun b hb=> hx1.heap b hb) hK,yq,B7,hx1⟩
   case round=>
    obtain⟨j,k',n',kids,A',c',hj,rfl,HN,oa,K8,L6,hT,hb,F2,hx⟩:=hrel;have hsz:w.heap.size+1 < wr.heap.size:=j10 F2;have hL:Lies wr (.mk k' n' kids) (.agg #[.int .i64 k',.int .i64 n',.slice A' kids.length c']):=Lies.mk K8 L6 (InK.mono (fun b hb=> hb.1) (fun _ _=> rfl) hT);have HO:=y171 (.mk k' n' kids) wr _ 30 (q14 oa.out).2 hL (by decide);have HOW:=hdq (fun W (hW:Ext wr W)=> q57 (.mk k' n' kids) W _ (hL.ext hW) (by have:=(q14 oa.out).1;omega));have qq:=hdq (fun p (hp:outT (.mk k' n' kids)=some p) W (hW:Ext wr W) B c (hP:PFs W B p.length c p)=> j49 (.mk k' n' kids) p oa.out (q145 _ p hp) W _ (hL.ext hW) B p.length c hP (by have:=q127 _ 30 (q14 oa.out).2 p hp;omega));rw[show outP (.mk k' n' kids)=(outT (.mk k' n' kids)).getD [] from rfl] at HO;have gu:=hdq HO;clear HO hT hK yq B7 hx1;obtain⟨z0,z1,z2,-,-,-⟩:=own3 hb;obtain⟨q,hq⟩: ∃q,outT (.mk k' n' kids)=q:=⟨_,rfl⟩;rw[hq] at gu;cases q with
    |none=>
     have HE:=hdq (HN.out.symm.trans (j179 hq (F - j)));clear qq hq HN;go_wp2_with fail;refine gu.out.mono ?_;rintro e w2 ⟨x,rfl,-,h2⟩;obtain⟨y0,y1,y2,-,-,-⟩:=own3 (h2.blk hb);clear z0 z1 z2;go_wp2_with fail;refine(HOW.out _ h2).mono ?_;rintro e w3 ⟨r,rfl,hM,h3⟩;obtain⟨b1,b2,b3,b4,b5,rfl⟩:=hM.three';have F8:=h2.trans h3;obtain⟨s0,s1,s2,f0,f1,f2⟩:=own3 (F8.blk F2);have hw4:w.heap.size+2<=w2.heap.size:=by have:=h2.size;omega
     clear y0 y1 y2;go_wp2_with fail;rw[HE.out];refine bodyPost_ret (v:= .tuple #[.agg #[.int .i64 b1,.int .i64 b2,.slice b3 b4 b5],.int .i64 j,.int .i64 0]) (by simp[results,Tryz.results120,go_sem,s0,s1,s2]) rfl ⟨_,_,rfl,Made.since (hM.after ((((y25.refl _ _).setCell (p:=⟨w.heap.size+1,0,none⟩) (by show w.heap.size+1 < _;omega) (.int .i64 b1)).setCell (p:=⟨w.heap.size+1,1,none⟩) (by show w.heap.size+1 < _;omega) (.int .i64 b2)).setCell (p:=⟨w.heap.size+1,2,none⟩) (by show w.heap.size+1 < _;omega) (.slice b3 b4 b5))) (by omega), ?_⟩;exact((((hx.trans F8).setCell (by simp) _).setCell (by simp) _).setCell (by simp) _)
    |some p=>
     have P4:=hdq (qq.out p hq);simp only[Option.isSome_some,Option.getD_some] at gu;have HQ:=hdq hq;clear qq hq HOW;by_cases hjF:j=F
     · have HE:=hdq (HN.out.symm.trans (show nrmC (F - j) (.mk k' n' kids)=(q16,1) by rw[show F - j=0 by omega];exact y174 HQ.out))
       clear P4 HN;subst hjF;go_wp2_with fail;refine gu.out.mono ?_;rintro e w2 ⟨x,rfl,km,h2⟩;obtain⟨B,c,rfl,hP⟩:=j92 km;obtain⟨s0,s1,s2,f0,f1,f2⟩:=own3 (h2.blk F2);clear z0 z1 z2 km;go_wp2_with fail;rw[HE.out];refine bodyPost_ret (v:= .tuple #[.agg #[.int .i64 0,.int .i64 0,.slice none 0 0],.int .i64 j,.int .i64 1]) (by simp[results,Tryz.results120,go_sem,s0,s1,s2]) rfl ⟨_,_,rfl,Made.leaf _ _ _ 0 0, ?_⟩;exact((((hx.trans h2).setCell (by simp) _).setCell (by simp) _).setCell (by simp) _)
     · have mi:((j:Int)==(F:Int))=false:=beq_eq_false_iff_ne.2 (by omega)
       have my:(j==F)=false:=beq_eq_false_iff_ne.2 hjF;have hlt:j < F:=by omega
       have sq:(j:Int) < 200:=by have:=HF.out;omega
       have hj4:F<=200:=by have:=HF.out;omega
       obtain⟨g,hg⟩: ∃g,F - j=g+1:=⟨F - j - 1,by omega⟩;have hg2:F -(j+1)=g:=by omega
       have hcv:conV (.mk k' n' kids) p=if valid sigT (conA (.mk k' n' kids) p)=true then(conA (.mk k' n' kids) p,true) else(q16,false):=rfl
       have mh:=HN.out;rw[hg] at mh;by_cases ik:valid sigT (conA (.mk k' n' kids) p)=true
       · rw[if_pos ik] at hcv
         rw[nrmC_go HQ.out ik,<-hg2] at mh;rw[hcv] at P4;clear hcv HN hg hg2;generalize conA (.mk k' n' kids) p=X at P4 mh ik;obtain⟨k2,n2,l8⟩:=X;have Tl:=hdq mh;have uf:=hdq ik;clear mh ik;go_wp2_with fail;refine gu.out.mono ?_;rintro e w2 ⟨x,rfl,km,h2⟩;obtain⟨B,c,rfl,hP⟩:=j92 km;obtain⟨y0,y1,y2,-,-,-⟩:=own3 (h2.blk hb);clear z0 z1 z2 km;go_wp2_with fail;refine(P4.out _ h2 _ _ hP).mono ?_;rintro e w3 ⟨r,rfl,hM,h3⟩;have ep:=From.made hM;obtain⟨A2,c2,rfl,hl2,hc2,hK2⟩:=InT.mk_iff.1 ep;have F8:=(h2.trans h3).trans ((xr w3).alloc (.cells #[.int .i64 k2,.int .i64 n2,.slice A2 l8.length c2] 25));obtain⟨s0,s1,s2,f0,f1,f2⟩:=own3 (F8.blk hb);have Vk:=F8.blk hb;have kr:=F8.blk F2;have hs23:wr.heap.size<=w2.heap.size:=h2.size;have Hh:w2.heap.size<=w3.heap.size:=h3.size;have KEEP:=hdq (fun(a0 a1 a2:Value) (b:Nat) (hb:b < w3.heap.size) (hne:b≠w.heap.size)=>(show((((w3.alloc (.cells #[.int .i64 k2,.int .i64 n2,.slice A2 l8.length c2] 25)).setCell ⟨w.heap.size,0,none⟩ a0).setCell ⟨w.heap.size,1,none⟩ a1).setCell ⟨w.heap.size,2,none⟩ a2).heap[b]? =w3.heap[b]?from by
          rw[Below.heap_setCell _ _ _ _ hne,Below.heap_setCell _ _ _ _ hne,Below.heap_setCell _ _ _ _ hne];exact((xr w3).alloc _).heap b hb))
         clear y0 y1 y2 hb F2 hM ep;go_wp2_with fail
         go_roundw
         case rel=> exact⟨j+1,k2,n2,l8,A2,c2,hlt,by go_num,Tl,uf,hl2,hc2,InK.mono (fun b hb=>⟨by simp;omega,.inr (by omega)⟩) (fun b hb=> KEEP.out _ _ _ b hb.2 (by omega)) hK2,j11 (j11 (j11 Vk 0 _) 1 _) 2 _,q13 (q13 (q13 kr (by simp) _) (by simp) _) (by simp) _,(((hx.trans F8).setCell (by simp) _).setCell (by simp) _).setCell (by simp) _⟩
         case measure=> simp[intOf];omega
       · rw[if_neg ik] at hcv
         rw[nrmC_no HQ.out (Bool.eq_false_iff.2 ik)] at mh;rw[hcv] at P4;have HE:=hdq mh.symm;clear hcv HN hg hg2 ik mh;go_wp2_with fail;refine gu.out.mono ?_;rintro e w2 ⟨x,rfl,km,h2⟩;obtain⟨B,c,rfl,hP⟩:=j92 km;obtain⟨y0,y1,y2,-,-,-⟩:=own3 (h2.blk hb);clear z0 z1 z2 km;go_wp2_with fail;refine(P4.out _ h2 _ _ hP).mono ?_;rintro e w3 ⟨r,rfl,hM,h3⟩;obtain⟨b1,b2,b3,b4,b5,rfl⟩:=hM.three';have F8:=(h2.trans h3).trans ((xr w3).alloc (.cells #[.int .i64 b1,.int .i64 b2,.slice b3 b4 b5] 25));obtain⟨s0,s1,s2,f0,f1,f2⟩:=own3 (F8.blk F2);clear y0 y1 y2;go_wp2_with fail;rw[HE.out];refine bodyPost_ret (v:= .tuple #[.agg #[.int .i64 0,.int .i64 0,.slice none 0 0],.int .i64 j,.int .i64 2]) (by simp[results,Tryz.results120,go_sem,s0,s1,s2]) rfl ⟨_,_,rfl,Made.leaf _ _ _ 0 0, ?_⟩;exact((((hx.trans F8).setCell (by simp) _).setCell (by simp) _).setCell (by simp) _)
theorem y87(t:Tr)(f:Int)(w:World)(v:Value)(j7:Lies w t v):
 Calls Tryz.prog 63 #[v,.int .i64 f] w fun e w'=> ∃r,e= .returned (.tuple #[r,.int .i64 (j138 t f).2])/\Made w w' 25 (j138 t f).1 r/\Ext w w':=by
 have HS:=hdq (fun W (hW:Ext w W)=> y159 t f W v (j7.ext hW));obtain⟨S,hS⟩: ∃S,j138 t f=S:=⟨_,rfl⟩;rw[hS] at HS⊢;obtain⟨k,n,ks⟩:=t;obtain⟨A,cap,rfl,hl,hc,hK⟩:=Lies.mk_iff.1 j7;clear hS;have hx0:=((xr w).alloc (.cells #[.int .i64 k,.int .i64 n,.slice A ks.length cap] 25)).alloc (.cells #[.int .i64 0,.int .i64 0,.slice none 0 0] 25);obtain⟨hb0,hb1,hs2⟩:=blk2 (xr ((w.alloc (.cells #[.int .i64 k,.int .i64 n,.slice A ks.length cap] 25)).alloc (.cells #[.int .i64 0,.int .i64 0,.slice none 0 0] 25)));obtain⟨wS,G6⟩: ∃x,x=(w.alloc (.cells #[.int .i64 k,.int .i64 n,.slice A ks.length cap] 25)).alloc (.cells #[.int .i64 0,.int .i64 0,.slice none 0 0] 25):=⟨_,rfl⟩;rw[<-G6] at hx0 hb0 hb1 hs2;go_enter Tryz.func63,Tryz.ntmps63;go_wp2_with fail;rw[<-G6];clear G6;refine(HS.out _ hx0).mono ?_;rintro e w3 ⟨r,s,rfl,hM,h3⟩;obtain⟨b1,b2,b3,b4,b5,rfl⟩:=hM.three';have F8:=h3.trans ((xr w3).alloc (.cells #[.int .i64 b1,.int .i64 b2,.slice b3 b4 b5] 25));obtain⟨s0,s1,s2,f0,f1,f2⟩:=own3 (F8.blk hb1);have V7:=hM.ext ((xr w3).alloc (.cells #[.int .i64 b1,.int .i64 b2,.slice b3 b4 b5] 25));have hw4:w.heap.size+2<=wS.heap.size:=by omega
 go_wp2_with fail;refine bodyPost_ret (v:= .tuple #[.agg #[.int .i64 b1,.int .i64 b2,.slice b3 b4 b5],.int .i64 S.2]) (by simp[results,Tryz.results63,go_sem,s0,s1,s2]) rfl ⟨_,rfl,Made.since (V7.after ((((y25.refl _ _).setCell (p:=⟨w.heap.size+1,0,none⟩) (by show w.heap.size+1 < _;omega) (.int .i64 b1)).setCell (p:=⟨w.heap.size+1,1,none⟩) (by show w.heap.size+1 < _;omega) (.int .i64 b2)).setCell (p:=⟨w.heap.size+1,2,none⟩) (by show w.heap.size+1 < _;omega) (.slice b3 b4 b5))) (by omega), ?_⟩;exact((((hx0.trans F8).setCell (by simp) _).setCell (by simp) _).setCell (by simp) _)
end Go.Proofs.YtbnkbepgmenblaaGreat
