/-
  Lemmas towards the law, 37: MCk, InfB, MUnf.
-/
import Derived.Test.YtdkamgafpphdjaaGreatUBJ
set_option maxHeartbeats 1000000
set_option maxRecDepth 100000
namespace Go.Proofs.YtdkamgafpphdjaaGreat
open Go.RowKit
set_option linter.unusedVariables false
open M (Hd HR Cv Ty Lim WfL TyB Lev)
theorem y82{t:Tr}(h:valid sigT t=true): ∃m,t=enc m:=by
 obtain⟨m,e⟩:=enc_of _ _ (j11 h).1;exact⟨m,e.symm⟩
def ccR(f:Nat):List Tr->List Tr->An
 |_, []=> some (y13,0)
 |done,t::ts=> thn (frmV (infV f done t) 2) fun _=> ccR f (done++ [t]) ts
def ccV(f:Nat)(ctx:List Tr):An:=if y88 ctx=true then ccR f [] ctx else some (y13,3)
def rdyV(f:Nat)(ctx l:List Tr):An:=match ccV f ctx with
 |none=> none
 |some r=> if l.all (fun t=> valid sigT t)=true then some r else some (y13,3)
def itV(f:Nat)(ctx:List Tr)(t:Tr):An:=thn (rdyV f ctx [t]) fun _=> thn (infV f ctx t) fun s=> some (s,0)
def ctV(f:Nat)(ctx:List Tr)(t want:Tr):An:=thn (rdyV f ctx [t,want]) fun _=> thn (frmV (infV f ctx want) 2) fun _=> chkV (infV f ctx t) want (some (y13,0))
theorem LeA.ccR{f f':Nat}(h:f<=f'): ∀ts done:List Tr,LeA (ccR f done ts) (ccR f' done ts)
 | [],done=> LeA.rfl' _
 |t::ts,done=>((y121 h done t).frm 2).thn fun _=> LeA.ccR h ts _
theorem y187{f:Nat}: ∀(ts:List Tr) (G:List M.Tm) (u:Tr),y26 G->(∀t∈ts,valid sigT t=true)->ccR f (ctxE G) ts=some (u,0)-> ∃D,ctxE D=ctxE G++ts/\y26 D
 | [],G,u,hG,hv,h=>⟨G,by simp,hG⟩
 |t::ts,G,u,hG,hv,h=> by
  obtain⟨s,h1,h2⟩:=j15 h;obtain⟨A,rfl⟩:=y82 (hv t (by simp));obtain⟨S,i,-,-,-,-,b,-⟩:=y33 (snd f) hG (hv _ (by simp)) h1;rw[<-q26] at h2;obtain⟨D,h3,h4⟩:=y187 ts (A::G) u (hG.cons b (hv _ (by simp))) (fun x hx=> hv x (by simp[hx])) h2;exact⟨D,by rw[h3,q26];simp,h4⟩
theorem j188{f:Nat}{ctx:List Tr}{u:Tr}(h:ccV f ctx=some (u,0)): ∃G,ctx=ctxE G/\y26 G/\G.length<=8:=by
 unfold ccV at h
 split at h
 · rename_i hf
   obtain⟨h1,h2⟩:=j79 hf;obtain⟨D,h3,h4⟩:=y187 ctx [] u y26.nil h2 h;have e:ctx=ctxE D:=by rw[h3];simp[ctxE]
   exact⟨D,e,h4,by rw[<-q39,<-e];exact h1⟩
 · simp at h
theorem q41{f:Nat}{ctx l:List Tr}{u:Tr}(h:rdyV f ctx l=some (u,0)):ccV f ctx=some (u,0)/\ ∀t∈l,valid sigT t=true:=by
 unfold rdyV at h;cases e:ccV f ctx with
 |none=> rw[e] at h;cases h
 |some r=>
  rw[e] at h;simp only at h
  split at h
  · rename_i hv
    exact⟨h,by simpa using hv⟩
  · simp at h
theorem q194{f:Nat}{ctx:List Tr}{t s:Tr}(h:itV f ctx t=some (s,0)): ∃G a A,ctx=ctxE G/\y26 G/\G.length<=8/\t=enc a/\valid sigT t=true/\s=enc A/\Ty G a A/\Lim G a/\valid sigT s=true/\infV f ctx t=some (s,0):=by
 obtain⟨u,h1,h2⟩:=j15 h;obtain⟨h3,h4⟩:=q41 h1;obtain⟨G,rfl,hG,h8⟩:=j188 h3;have hv:=h4 t (by simp);obtain⟨a,rfl⟩:=y82 hv;obtain⟨s',h5,h6⟩:=j15 h2;obtain rfl:s'=s:=by simpa using h6
 obtain⟨A,rfl,tA,lA,vA⟩:=snd f G a _ hG hv h5;exact⟨G,a,A,rfl,hG,h8,rfl,hv,rfl,tA,lA,vA,h5⟩
theorem y26.tail{A:M.Tm}{G:List M.Tm}(h:y26 (A::G)):y26 G/\TyB G A/\valid sigT (enc A)=true:=
 ⟨⟨fun n B hB=> by simpa using h.wf (n+1) B (by simpa using hB),fun B hB=> h.vd B (by simp[hB])⟩,by simpa using h.wf 0 A rfl,h.vd A (by simp)⟩
theorem lev_nb{f:Nat}{G:List M.Tm}{A:M.Tm}(hG:y26 G)(hA:TyB G A)(hv:valid sigT (enc A)=true):Nb (frmV (infV f (ctxE G) (enc A)) 2):=by
 obtain⟨lA,k,hk,S,tA,r⟩:=hA;refine(q150 f G A S hG hv tA lA).frm fun s e=> ?_
 obtain⟨rfl,-⟩:=j43 hG hv tA e;exact⟨S,.sort k,rfl,r,by simp[M.hk],rfl⟩
theorem y185(f:Nat): ∀(xs done ys:List Tr),ccR f done (xs++ys)=thn (ccR f done xs) fun _=> ccR f (done++xs) ys
 | [],done,ys=> by simp[ccR,thn]
 |x::xs,done,ys=> by
  rw[List.cons_append,ccR,ccR];have:=fun s:Tr=> y185 f xs (done++ [x]) ys
  simp only[List.append_assoc,List.singleton_append] at this;unfold thn;cases frmV (infV f done x) 2 with
  |none=> rfl
  |some y=>
   obtain⟨s,c⟩:=y;simp only
   split
   · rw[this s]
     rfl
   · rename_i hc
     simp only;rw[if_neg hc]
theorem ccR_nb{f:Nat}: ∀G:List M.Tm,y26 G->Nb (ccR f [] (ctxE G))
 | [],h=> Nb.ok _
 |A::G,h=> by
  obtain⟨h1,h2,h3⟩:=h.tail;rw[q26,y185];refine(ccR_nb G h1).thn fun _ _=> ?_
  rw[List.nil_append,ccR];exact(lev_nb h1 h2 h3).thn fun _ _=> Nb.ok _
theorem j168{G:List M.Tm}(h:y26 G)(h8:G.length<=8):y88 (ctxE G)=true:=by
 unfold y88;rw[Bool.and_eq_true,decide_eq_true_eq,q39];refine⟨h8, ?_⟩;simp only[Bool.not_eq_true',List.any_eq_false];intro t ht;unfold ctxE at ht;rw[List.mem_reverse,List.mem_map] at ht;obtain⟨A,hA,rfl⟩:=ht;simp[h.vd A hA]
theorem rdyV_nb{f:Nat}{G:List M.Tm}(h:y26 G)(h8:G.length<=8){l:List Tr}(hl: ∀t∈l,valid sigT t=true):Nb (rdyV f (ctxE G) l):=by
 have h1:=ccR_nb (f:=f) G h;unfold rdyV ccV;rw[if_pos (j168 h h8)];cases e:ccR f [] (ctxE G) with
 |none=> intro s c hh;cases hh
 |some r=>
  rw[e] at h1;simp only;rw[if_pos (by simpa using hl)];exact h1
theorem itV_nb{f:Nat}{G:List M.Tm}(h:y26 G)(h8:G.length<=8){t A:M.Tm}(hv:valid sigT (enc t)=true)(tA:Ty G t A)(lA:Lim G t):Nb (itV f (ctxE G) (enc t)):=
 (rdyV_nb h h8 (by simpa using hv)).thn fun _ _=>(q150 f G t A h hv tA lA).thn fun s _=> Nb.ok _
theorem y143: ∀(ts:List Tr) (G:List M.Tm),y26 G->(∀t∈ts,valid sigT t=true)-> ∃f,Is (ccR f (ctxE G) ts)
 | [],G,hG,hv=>⟨0,Is.mk _⟩
 |t::ts,G,hG,hv=> by
  have v:=hv t (by simp);obtain⟨A,rfl⟩:=y82 v;obtain⟨f1,h1⟩:=(q147 20 G (by omega) hG A v).at;by_cases hb: ∃f s,frmV (infV f (ctxE G) (enc A)) 2=some (s,0)
  · obtain⟨f0,s0,hs⟩:=hb
    obtain⟨S,i,-,-,-,-,b,-⟩:=y33 (snd f0) hG v hs;obtain⟨f2,h2⟩:=y143 ts (A::G) (hG.cons b v) (fun x hx=> hv x (by simp[hx]));refine⟨f1+f2,((h1 _ (by omega)).frm 2).thn fun s _=> ?_⟩;rw[<-q26];exact h2.le (LeA.ccR (by omega) _ _)
  · exact⟨f1,((h1 _ (Nat.le_refl _)).frm 2).thn fun s e=> absurd ⟨f1,s,e⟩ hb⟩
theorem y209(ctx:List Tr): ∃f,∀f',f<=f'->Is (ccV f' ctx):=by
 by_cases h:y88 ctx=true
 · obtain⟨f,h1⟩:=y143 ctx [] y26.nil (j79 h).2
   refine⟨f,fun f' hf=> ?_⟩;unfold ccV;rw[if_pos h];exact h1.le (LeA.ccR hf _ _)
 · refine⟨0,fun f' _=> ?_⟩
   unfold ccV;rw[if_neg h];exact Is.mk _
theorem j125(ctx l:List Tr): ∃f,∀f',f<=f'->Is (rdyV f' ctx l):=by
 obtain⟨f,h⟩:=y209 ctx;refine⟨f,fun f' hf=> ?_⟩;obtain⟨r,e⟩:=h f' hf;unfold rdyV;rw[e];simp only
 split <;> exact Is.mk _
theorem y141{ctx l:List Tr}{t:Tr}(ht:valid sigT t=true): ∃f,∀f',f<=f'->(∃g u,rdyV g ctx l=some (u,0))->Is (infV f' ctx t):=by
 by_cases h: ∃g u,rdyV g ctx l=some (u,0)
 · obtain⟨g,u,h1⟩:=h
   obtain⟨G,rfl,hG,-⟩:=j188 (q41 h1).1;obtain⟨a,rfl⟩:=y82 ht;obtain⟨f,h2⟩:=(q147 20 G (by omega) hG a ht).at;exact⟨f,fun f' hf _=> h2 f' hf⟩
 · exact⟨0,fun _ _ k=> absurd k h⟩
theorem j153(ctx:List Tr)(t:Tr): ∃f,∀f',f<=f'->Is (itV f' ctx t):=by
 obtain⟨f1,h1⟩:=j125 ctx [t];by_cases hv:valid sigT t=true
 · obtain⟨f2,h2⟩:=y141 (ctx:=ctx) (l:= [t]) hv
   exact⟨f1+f2,fun f' hf=>(h1 f' (by omega)).thn fun s e=>(h2 f' (by omega) ⟨f',s,e⟩).thn fun _ _=> Is.mk _⟩
 · exact⟨f1,fun f' hf=>(h1 f' (by omega)).thn fun s e=> absurd ((q41 e).2 t (by simp)) hv⟩
theorem j205(ctx:List Tr)(t want:Tr): ∃f,∀f',f<=f'->Is (ctV f' ctx t want):=by
 obtain⟨f1,h1⟩:=j125 ctx [t,want];by_cases hv:valid sigT t=true
 · by_cases hw:valid sigT want=true
   · obtain⟨f2,h2⟩:=y141 (ctx:=ctx) (l:= [t,want]) hv
     obtain⟨f3,h3⟩:=y141 (ctx:=ctx) (l:= [t,want]) hw;exact⟨f1+f2+f3,fun f' hf=>(h1 f' (by omega)).thn fun s e=>((h3 f' (by omega) ⟨f',s,e⟩).frm 2).thn fun _ _=>(h2 f' (by omega) ⟨f',s,e⟩).chk _ (Is.mk _)⟩
   · exact⟨f1,fun f' hf=>(h1 f' (by omega)).thn fun s e=> absurd ((q41 e).2 want (by simp)) hw⟩
 · exact⟨f1,fun f' hf=>(h1 f' (by omega)).thn fun s e=> absurd ((q41 e).2 t (by simp)) hv⟩
end Go.Proofs.YtdkamgafpphdjaaGreat
namespace Go.Proofs.YtdkamgafpphdjaaGreat
open Go.RowKit
set_option linter.unusedVariables false
attribute [local go_sem ↓] Go.wp_at_zero Go.wp_at_succ
def TyF(wC:World)(p1 p2:Nat)(A:Option Addr)(G:List Tr)(At:Option Addr)(ks:List Tr)(ty:Nat->An):Prop:=
 ∀(W:World) (N:Nat->Prop),Ext wC W->(∀b,W.heap.size<=b->N b)->InK W N A G->InK W N At ks-> ∀i:Nat,i < ks.length-> ∀r,ty i=some r->
  Calls Tryz.prog 127 #[.int .i64 i,.pointer (some ⟨p1,0,none⟩),.pointer (some ⟨p2,0,none⟩)] W (AnQ N W r)
structure JOk (wC w:World) (N:Nat->Prop) (p1 p2:Nat) (A:Option Addr) (G:List Tr) (At:Option Addr) (ks:List Tr) (ty:Nat->An):Prop where
 hT:TyF wC p1 p2 A G At ks ty
 hx:Ext wC w
 hN: ∀b,w.heap.size<=b->N b
 hG:InK w N A G
 hK:InK w N At ks
theorem JOk.ext{wC w w':World}{N:Nat->Prop}{p1 p2:Nat}{A:Option Addr}{G:List Tr}{At:Option Addr}{ks:List Tr}{ty:Nat->An}(h:JOk wC w N p1 p2 A G At ks ty)(e:Ext w w'):JOk wC w' N p1 p2 A G At ks ty:=
 ⟨h.hT,h.hx.trans e,fun b hb=> h.hN b (Nat.le_trans e.size hb),h.hG.later e,h.hK.later e⟩
theorem JOk.keep{wC w w':World}{N:Nat->Prop}{p1 p2:Nat}{A:Option Addr}{G:List Tr}{At:Option Addr}{ks:List Tr}{ty:Nat->An}(h:JOk wC w N p1 p2 A G At ks ty)(e:Ext w w'){g:Nat}(hg:w.heap.size<=g)(hg2:g < w'.heap.size):JOk wC w' (fun b=> N b/\b≠g) p1 p2 A G At ks ty:=
 ⟨h.hT,h.hx.trans e,newN h.hN e.size hg2,h.hG.keep e hg,h.hK.keep e hg⟩
theorem j209{x:An}{kind:Int}{r:Tr×Int}(h:frmV x kind=some r):(∃s,x=some (s,0)/\r=shpV s kind)\/ ∃s c,x=some (s,c)/\c≠0/\r=(y13,c):=by
 rcases y29 h with⟨s,h1,h2⟩ |h1
 · exact .inl ⟨s,h1,by simpa using h2.symm⟩
 · exact .inr h1
def chkI(x:An)(want:Tr):Option Int:=match x with
 |none=> none
 |some (s,c)=> if c=0 then some (cvtV s want) else some c
theorem y39{x y:An}{want:Tr}{r:Tr×Int}(h:chkV x want y=some r): ∃c,chkI x want=some c/\(c=0->y=some r)/\(c≠0->r=(y13,c)):=by
 rcases y29 h with⟨s,rfl,h2⟩ |⟨s,c,rfl,h2,h3⟩
 · refine⟨cvtV s want,(show(if(0:Int)=0 then some (cvtV s want) else some 0)=_ from if_pos rfl),fun h=> ?_,fun h=> ?_⟩
   · rw[if_pos h] at h2;exact h2
   · rw[if_neg h] at h2;simpa using h2.symm
 · exact⟨c,(show(if c=0 then some (cvtV s want) else some c)=_ from if_neg h2),fun h=> absurd h h2,fun _=> h3⟩
theorem j131{x:An}{want:Tr}{c:Int}(h:chkI x want=some c):(∃s,x=some (s,0)/\c=cvtV s want)\/ ∃s,x=some (s,c)/\c≠0:=by
 unfold chkI at h;cases x with
 |none=> cases h
 |some p=>
  obtain⟨s,c'⟩:=p;simp only at h
  split at h
  · rename_i h0
    subst h0;exact .inl ⟨s,rfl,by simpa using h.symm⟩
  · rename_i h0
    simp only[Option.some.injEq] at h;subst h;exact .inr ⟨s,rfl,h0⟩
def famI(x:An)(T:Tr):Option Int:=match frmV x 3 with
 |none=> none
 |some (s,c)=> if c=0 then(if cvtV (kd s.kids 0) T=0 then some (shpV (kd s.kids 1) 2).2 else some (cvtV (kd s.kids 0) T)) else some c
theorem q146{x y:An}{T:Tr}{r:Tr×Int}(h:famV x T y=some r): ∃c,famI x T=some c/\(c=0->y=some r)/\(c≠0->r=(y13,c)):=by
 unfold famI;rcases y29 h with⟨s,h1,h2⟩ |⟨s,c,h1,h2,h3⟩
 · rw[h1]
   simp only[if_true]
   split at h2
   · rename_i h0
     rw[if_pos h0];rcases y29 h2 with⟨s2,h3,h4⟩ |⟨s2,c2,h3,h4,h5⟩
     · have e:shpV (kd s.kids 1) 2=(s2,0):=by simpa using h3
       exact⟨0,by rw[e],fun _=> h4,fun h=> absurd rfl h⟩
     · have e:shpV (kd s.kids 1) 2=(s2,c2):=by simpa using h3
       exact⟨c2,by rw[e],fun h=> absurd h h4,fun _=> h5⟩
   · rename_i h0
     rw[if_neg h0];exact⟨_,rfl,fun h=> absurd h h0,fun _=> by simpa using h2.symm⟩
 · rw[h1]
   simp only;rw[if_neg h2];exact⟨c,rfl,fun h=> absurd h h2,fun _=> h3⟩
theorem y48{wC:World}{p1 p2:Nat}{A:Option Addr}{G:List Tr}{At:Option Addr}{ks:List Tr}{ty:Nat->An}(k n:Int)(ca ct:Nat)(hlt:ks.length<=ct)(hct:ct<=maxLen)(w0:World)(N:Nat->Prop)(hJ:JOk wC w0 N p1 p2 A G At ks ty)(i:Nat)(hi:i < ks.length)(kind:Int)(r:Tr×Int)(h:frmV (ty i) kind=some r):Calls Tryz.prog 170 #[.agg #[.slice A G.length ca,.int .i64 k,.int .i64 n,.slice At ks.length ct,.func (.func 127) #[] #[.pointer (some ⟨p1,0,none⟩),.pointer (some ⟨p2,0,none⟩)]],.int .i64 i,.int .i64 kind] w0 (AnQ N w0 r):=by
 have HI:=hdq hi;clear hi;rcases j209 h with⟨s,hs,rfl⟩ |⟨s,c,hs,hc,rfl⟩
 · have HS:=hdq hs
   clear hs h;have HSH:=hdq (fun W (M:Nat->Prop) (hM: ∀b,W.heap.size<=b->M b) v (hv:Lies W s v)=> q62 s kind W M hM v hv);generalize shpV s kind=q at HSH⊢;obtain⟨q,c⟩:=q;obtain⟨w1,hw1⟩: ∃x,x=((w0.alloc (.cells #[.slice A G.length ca,.int .i64 k,.int .i64 n,.slice At ks.length ct,.func (.func 127) #[] #[.pointer (some ⟨p1,0,none⟩),.pointer (some ⟨p2,0,none⟩)]] 119)).alloc (.cells #[.int .i64 0,.int .i64 0,.slice none 0 0] 25)):=⟨_,rfl⟩;obtain⟨bj_1,br_1,s1,e1⟩:=box2 hw1;have HJ:=hdq (hJ.keep e1 (g:=w0.heap.size+1) (Nat.le_succ _) (by omega));obtain⟨M,hM⟩: ∃M,M=(fun b=> N b/\b≠w0.heap.size+1):=⟨_,rfl⟩;rw[<-hM] at HJ;have HM:=hdq hM;clear hM hJ;go_enter Tryz.func170,Tryz.ntmps170;go_wp2_with fail;rw[<-hw1];clear hw1;refine((HJ.out.ext (xr w1)).hT w1 _ (HJ.out.ext (xr w1)).hx (HJ.out.ext (xr w1)).hN (HJ.out.ext (xr w1)).hG (HJ.out.ext (xr w1)).hK i HI.out _ HS.out).mono ?_;rintro e w2 ⟨u,rfl,hT,e2⟩;have s2:=e2.size;obtain⟨a1,b1,A1,l1,c1,rfl⟩:=hT.three;have T1:=hdq hT;clear hT;have bj_2:=e2.blk bj_1;obtain⟨zj0,zj1,zj2,zj3,zj4⟩:=own5 bj_2;have lj:=q10 bj_2;have br_2:=e2.blk br_1;obtain⟨zr0,zr1,zr2,yr0,yr1,yr2⟩:=own3 br_2;have lr:=q10 br_2;obtain⟨w3,hw3⟩: ∃x,x=w2.alloc (.cells #[.int .i64 a1,.int .i64 b1,.slice A1 l1 c1] 25):=⟨_,rfl⟩;have e3:Ext w2 w3:=hw3▸(xr w2).alloc _;have bx1_3:=heap_alloc_new w2 (.cells #[.int .i64 a1,.int .i64 b1,.slice A1 l1 c1] 25);rw[<-hw3] at bx1_3;have s3:w2.heap.size < w3.heap.size:=q10 bx1_3;go_wp2_with fail;rw[<-hw3];clear hw3;clear zj0 zj1 zj2 zj3 zj4 lj zr0 zr1 zr2 yr0 yr1 yr2 lr;have X1_2:=e2;have X1_3:=X1_2.trans e3;have X2_3:=e3;refine(HSH.out w3 M (HJ.out.ext X1_3).hN _ (T1.out.later X2_3).lies').mono ?_;rintro e w4 ⟨u,rfl,hT,e4⟩;have s4:=e4.size;obtain⟨a2,b2,A2,l2,c2,rfl⟩:=hT.three;have T2:=hdq hT;clear hT;have bj_3:=e3.blk bj_2;have bj_4:=e4.blk bj_3;obtain⟨zj0,zj1,zj2,zj3,zj4⟩:=own5 bj_4;have lj:=q10 bj_4;have br_3:=e3.blk br_2;have br_4:=e4.blk br_3;obtain⟨zr0,zr1,zr2,yr0,yr1,yr2⟩:=own3 br_4;have lr:=q10 br_4;have bx1_4:=e4.blk bx1_3;obtain⟨zx10,zx11,zx12,-⟩:=own3 bx1_4;have lx1:=q10 bx1_4;have X0_1:=e1;have X0_2:=X0_1.trans e2;have X0_3:=X0_2.trans e3;have X0_4:=X0_3.trans e4;go_wp2_with fail;refine bodyPost_ret (v:= .tuple #[.agg #[.int .i64 a2,.int .i64 b2,.slice A2 l2 c2],.int .i64 c]) (by simp[results,Tryz.results170,go_sem,zr0,zr1,zr2]) rfl ⟨_,rfl,InT.ret (HM.out▸(T2.out.later (xr w4))) _ _ _,(X0_4.set3 (by omega) _ _ _)⟩
 · have HS:=hdq hs
   clear hs h;have t1:(c !=0)=true:=by simp[hc]
   clear hc;obtain⟨w1,hw1⟩: ∃x,x=((w0.alloc (.cells #[.slice A G.length ca,.int .i64 k,.int .i64 n,.slice At ks.length ct,.func (.func 127) #[] #[.pointer (some ⟨p1,0,none⟩),.pointer (some ⟨p2,0,none⟩)]] 119)).alloc (.cells #[.int .i64 0,.int .i64 0,.slice none 0 0] 25)):=⟨_,rfl⟩;obtain⟨bj_1,br_1,s1,e1⟩:=box2 hw1;have HJ:=hdq (hJ.keep e1 (g:=w0.heap.size+1) (Nat.le_succ _) (by omega));obtain⟨M,hM⟩: ∃M,M=(fun b=> N b/\b≠w0.heap.size+1):=⟨_,rfl⟩;rw[<-hM] at HJ;have HM:=hdq hM;clear hM hJ;go_enter Tryz.func170,Tryz.ntmps170;go_wp2_with fail;rw[<-hw1];clear hw1;refine((HJ.out.ext (xr w1)).hT w1 _ (HJ.out.ext (xr w1)).hx (HJ.out.ext (xr w1)).hN (HJ.out.ext (xr w1)).hG (HJ.out.ext (xr w1)).hK i HI.out _ HS.out).mono ?_;rintro e w2 ⟨u,rfl,hT,e2⟩;have s2:=e2.size;obtain⟨a1,b1,A1,l1,c1,rfl⟩:=hT.three;have T1:=hdq hT;clear hT;have bj_2:=e2.blk bj_1;obtain⟨zj0,zj1,zj2,zj3,zj4⟩:=own5 bj_2;have lj:=q10 bj_2;have br_2:=e2.blk br_1;obtain⟨zr0,zr1,zr2,yr0,yr1,yr2⟩:=own3 br_2;have lr:=q10 br_2;clear lr;have eq2:Ext w2 (w2.alloc (.cells #[.int .i64 a1,.int .i64 b1,.slice A1 l1 c1] 25)):=(xr w2).alloc _;have X0_1:=e1;have X0_2:=X0_1.trans e2;obtain⟨pr0,pr1,pr2,or0,or1,or2⟩:=own3 (eq2.blk br_2);go_wp2_with fail;refine bodyPost_ret (v:= .tuple #[.agg #[.int .i64 0,.int .i64 0,.slice none 0 0],.int .i64 c]) (by simp[results,Tryz.results170,go_sem,pr0,pr1,pr2]) rfl ⟨_,rfl,j19 _ _ 0 0,((X0_2.trans eq2).set3 (by omega) _ _ _)⟩
theorem q29{wC:World}{p1 p2:Nat}{A:Option Addr}{G:List Tr}{At:Option Addr}{ks:List Tr}{ty:Nat->An}(k n:Int)(ca ct:Nat)(hlt:ks.length<=ct)(hct:ct<=maxLen)(w0:World)(N:Nat->Prop)(hJ:JOk wC w0 N p1 p2 A G At ks ty)(i:Nat)(hi:i < ks.length)(r:Tr×Int)(h:frmV (ty i) 2=some r):Calls Tryz.prog 194 #[.agg #[.slice A G.length ca,.int .i64 k,.int .i64 n,.slice At ks.length ct,.func (.func 127) #[] #[.pointer (some ⟨p1,0,none⟩),.pointer (some ⟨p2,0,none⟩)]],.int .i64 i] w0 fun e w'=> e= .returned (.tuple #[.int .i64 r.1.num,.int .i64 r.2])/\Ext w0 w':=by
 have HH:=hdq h;have HI:=hdq hi;clear h hi;obtain⟨⟨k7,n7,ks7⟩,c⟩:=r;obtain⟨w1,hw1⟩: ∃x,x=(w0.alloc (.cells #[.slice A G.length ca,.int .i64 k,.int .i64 n,.slice At ks.length ct,.func (.func 127) #[] #[.pointer (some ⟨p1,0,none⟩),.pointer (some ⟨p2,0,none⟩)]] 119)):=⟨_,rfl⟩;obtain⟨bj_1,s1,e1⟩:=box1 hw1;have HJ:=hdq (hJ.ext e1);obtain⟨M,hM⟩: ∃M,M=N:=⟨_,rfl⟩;rw[<-hM] at HJ;have HM:=hdq hM;clear hM hJ;go_enter Tryz.func194,Tryz.ntmps194;go_wp2_with fail;rw[<-hw1];clear hw1;refine(y48 k n ca ct hlt hct w1 M HJ.out i HI.out 2 _ HH.out).mono ?_;rintro e w2 ⟨u,rfl,hT,e2⟩;have s2:=e2.size;obtain⟨A1,c1,rfl,hl1,hc1,hK1⟩:=InT.mk_iff.1 hT;clear hT hK1;have X0_1:=e1;have X0_2:=X0_1.trans e2;go_wp2_with fail;go_ret2;exact⟨rfl,X0_2.alloc _⟩
theorem j62{wC:World}{p1 p2:Nat}{A:Option Addr}{G:List Tr}{At:Option Addr}{ks:List Tr}{ty:Nat->An}(k n:Int)(ca ct:Nat)(hlt:ks.length<=ct)(hct:ct<=maxLen)(w0:World)(N:Nat->Prop)(hJ:JOk wC w0 N p1 p2 A G At ks ty)(i:Nat)(hi:i < ks.length)(want:Tr)(vw:Value)(hw:InT w0 N want vw)(c:Int)(h:chkI (ty i) want=some c):Calls Tryz.prog 167 #[.agg #[.slice A G.length ca,.int .i64 k,.int .i64 n,.slice At ks.length ct,.func (.func 127) #[] #[.pointer (some ⟨p1,0,none⟩),.pointer (some ⟨p2,0,none⟩)]],.int .i64 i,vw] w0 fun e w'=> e= .returned (.int .i64 c)/\Ext w0 w':=by
 have HI:=hdq hi;clear hi;obtain⟨k8,n8,ks8⟩:=want;obtain⟨A8,c8,rfl,hl8,hc8,hK8⟩:=InT.mk_iff.1 hw;have HW:=hdq hw;clear hw;rcases j131 h with⟨s,hs,rfl⟩ |⟨s,hs,hc⟩
 · have HS:=hdq hs
   clear hs h;obtain⟨w1,hw1⟩: ∃x,x=((w0.alloc (.cells #[.slice A G.length ca,.int .i64 k,.int .i64 n,.slice At ks.length ct,.func (.func 127) #[] #[.pointer (some ⟨p1,0,none⟩),.pointer (some ⟨p2,0,none⟩)]] 119)).alloc (.cells #[.int .i64 k8,.int .i64 n8,.slice A8 ks8.length c8] 25)):=⟨_,rfl⟩;obtain⟨bj_1,bw_1,s1,e1⟩:=box2 hw1;have HJ:=hdq (hJ.ext e1);obtain⟨M,hM⟩: ∃M,M=N:=⟨_,rfl⟩;rw[<-hM] at HJ;have HM:=hdq hM;clear hM hJ;go_enter Tryz.func167,Tryz.ntmps167;go_wp2_with fail;rw[<-hw1];clear hw1;refine((HJ.out.ext (xr w1)).hT w1 _ (HJ.out.ext (xr w1)).hx (HJ.out.ext (xr w1)).hN (HJ.out.ext (xr w1)).hG (HJ.out.ext (xr w1)).hK i HI.out _ HS.out).mono ?_;rintro e w2 ⟨u,rfl,hT,e2⟩;have s2:=e2.size;obtain⟨a1,b1,A1,l1,c1,rfl⟩:=hT.three;have T1:=hdq hT;clear hT;have bj_2:=e2.blk bj_1;obtain⟨zj0,zj1,zj2,zj3,zj4⟩:=own5 bj_2;have lj:=q10 bj_2;have bw_2:=e2.blk bw_1;obtain⟨zw0,zw1,zw2,-⟩:=own3 bw_2;have lw:=q10 bw_2;obtain⟨w3,hw3⟩: ∃x,x=w2.alloc (.cells #[.int .i64 a1,.int .i64 b1,.slice A1 l1 c1] 25):=⟨_,rfl⟩;have e3:Ext w2 w3:=hw3▸(xr w2).alloc _;have bx1_3:=heap_alloc_new w2 (.cells #[.int .i64 a1,.int .i64 b1,.slice A1 l1 c1] 25);rw[<-hw3] at bx1_3;have s3:w2.heap.size < w3.heap.size:=q10 bx1_3;go_wp2_with fail;rw[<-hw3];clear hw3;clear zj0 zj1 zj2 zj3 zj4 lj zw0 zw1 zw2 lw;have X0_1:=e1;have X0_2:=X0_1.trans e2;have X0_3:=X0_2.trans e3;have X2_3:=e3;refine(q57 s (.mk k8 n8 ks8) w3 _ _ (T1.out.later X2_3).lies' (HW.out.lies'.ext X0_3)).mono ?_;rintro e w4 ⟨rfl,e4⟩;have s4:=e4.size;have X0_4:=X0_3.trans e4;go_wp2_with fail;go_ret;exact⟨rfl,X0_4⟩
 · have HS:=hdq hs
   clear hs h;have t1:(c !=0)=true:=by simp[hc]
   clear hc;obtain⟨w1,hw1⟩: ∃x,x=((w0.alloc (.cells #[.slice A G.length ca,.int .i64 k,.int .i64 n,.slice At ks.length ct,.func (.func 127) #[] #[.pointer (some ⟨p1,0,none⟩),.pointer (some ⟨p2,0,none⟩)]] 119)).alloc (.cells #[.int .i64 k8,.int .i64 n8,.slice A8 ks8.length c8] 25)):=⟨_,rfl⟩;obtain⟨bj_1,bw_1,s1,e1⟩:=box2 hw1;have HJ:=hdq (hJ.ext e1);obtain⟨M,hM⟩: ∃M,M=N:=⟨_,rfl⟩;rw[<-hM] at HJ;have HM:=hdq hM;clear hM hJ;go_enter Tryz.func167,Tryz.ntmps167;go_wp2_with fail;rw[<-hw1];clear hw1;refine((HJ.out.ext (xr w1)).hT w1 _ (HJ.out.ext (xr w1)).hx (HJ.out.ext (xr w1)).hN (HJ.out.ext (xr w1)).hG (HJ.out.ext (xr w1)).hK i HI.out _ HS.out).mono ?_;rintro e w2 ⟨u,rfl,hT,e2⟩;have s2:=e2.size;obtain⟨a1,b1,A1,l1,c1,rfl⟩:=hT.three;have T1:=hdq hT;clear hT;have bj_2:=e2.blk bj_1;obtain⟨zj0,zj1,zj2,zj3,zj4⟩:=own5 bj_2;have lj:=q10 bj_2;have bw_2:=e2.blk bw_1;obtain⟨zw0,zw1,zw2,-⟩:=own3 bw_2;have lw:=q10 bw_2;have X0_1:=e1;have X0_2:=X0_1.trans e2;go_wp2_with fail;go_ret;exact⟨rfl,X0_2.alloc _⟩
theorem j61{wC:World}{p1 p2:Nat}{A:Option Addr}{G:List Tr}{At:Option Addr}{ks:List Tr}{ty:Nat->An}(k n:Int)(ca ct:Nat)(hlt:ks.length<=ct)(hct:ct<=maxLen)(w0:World)(N:Nat->Prop)(hJ:JOk wC w0 N p1 p2 A G At ks ty)(i:Nat)(hi:i < ks.length)(want:Tr)(vw:Value)(hw:InT w0 N want vw)(c d:Int)(h:c=0->chkI (ty i) want=some d)(h':c≠0->d=c):Calls Tryz.prog 171 #[.agg #[.slice A G.length ca,.int .i64 k,.int .i64 n,.slice At ks.length ct,.func (.func 127) #[] #[.pointer (some ⟨p1,0,none⟩),.pointer (some ⟨p2,0,none⟩)]],.int .i64 i,vw,.int .i64 c] w0 fun e w'=> e= .returned (.int .i64 d)/\Ext w0 w':=by
 have HI:=hdq hi;clear hi;obtain⟨k8,n8,ks8⟩:=want;obtain⟨A8,c8,rfl,hl8,hc8,hK8⟩:=InT.mk_iff.1 hw;have HW:=hdq hw;clear hw;by_cases hc:c=0
 · have HS:=hdq (h hc)
   clear h h';subst hc;obtain⟨w1,hw1⟩: ∃x,x=((w0.alloc (.cells #[.slice A G.length ca,.int .i64 k,.int .i64 n,.slice At ks.length ct,.func (.func 127) #[] #[.pointer (some ⟨p1,0,none⟩),.pointer (some ⟨p2,0,none⟩)]] 119)).alloc (.cells #[.int .i64 k8,.int .i64 n8,.slice A8 ks8.length c8] 25)):=⟨_,rfl⟩;obtain⟨bj_1,bw_1,s1,e1⟩:=box2 hw1;have HJ:=hdq (hJ.ext e1);obtain⟨M,hM⟩: ∃M,M=N:=⟨_,rfl⟩;rw[<-hM] at HJ;have HM:=hdq hM;clear hM hJ;go_enter Tryz.func171,Tryz.ntmps171;go_wp2_with fail;rw[<-hw1];clear hw1;have X0_1:=e1;refine(j62 k n ca ct hlt hct w1 M (HJ.out.ext (xr w1)) i HI.out (.mk k8 n8 ks8) _ (HM.out▸HW.out.later X0_1) d HS.out).mono ?_;rintro e w2 ⟨rfl,e2⟩;have s2:=e2.size;have X0_2:=X0_1.trans e2;go_wp2_with fail;go_ret;exact⟨rfl,X0_2⟩
 · obtain rfl:=h' hc
   have t1:(d !=0)=true:=by simp[hc]
   clear h h' hc;go_enter Tryz.func171,Tryz.ntmps171;go_wp2_with fail;go_ret;exact⟨rfl,((xr _).alloc _).alloc _⟩
end Go.Proofs.YtdkamgafpphdjaaGreat
namespace Go.Proofs.YtdkamgafpphdjaaGreat
open Go.RowKit
set_option linter.unusedVariables false
open M (Hd HR Cv Ty Lim WfL TyB Lev q24)
def cdR(f:Nat)(ks:List Tr):Nat->Nat->An
 |0,_=> some (y13,0)
 |m+1,j=> if(unfD ks j (ks.getD (j*2) y13)).2=true then(if(unfD ks j (ks.getD (j*2+1) y13)).2=true then thn (ctV f [] (unfD ks j (ks.getD (j*2+1) y13)).1 (unfD ks j (ks.getD (j*2) y13)).1) fun _=> cdR f ks m (j+1) else some (y13,2)) else some (y13,2)
def cdV(f:Nat)(ks:List Tr)(n:Nat):An:=if dfV ks n=true then cdR f ks n 0 else some (y13,3)
def idV(f:Nat)(ks:List Tr)(n:Nat)(t:Tr):An:=if(dfV ks n &&(valid sigT t && decide (mxf t 0<=(n:Int))))=true then(if(unfD ks n t).2=true then itV f [] (unfD ks n t).1 else some (y13,2)) else some (y13,3)
theorem q143(ks:List Tr): ∀m j,∃f,∀f',f<=f'->Is (cdR f' ks m j)
 |0,j=>⟨0,fun _ _=> Is.mk _⟩
 |m+1,j=> by
  obtain⟨f1,h1⟩:=j205 [] (unfD ks j (ks.getD (j*2+1) y13)).1 (unfD ks j (ks.getD (j*2) y13)).1;obtain⟨f2,h2⟩:=q143 ks m (j+1);refine⟨f1+f2,fun f' hf=> ?_⟩;unfold cdR
  split
  · split
    · exact(h1 f' (by omega)).thn fun _ _=> h2 f' (by omega)
    · exact Is.mk _
  · exact Is.mk _
theorem j219(ks:List Tr)(n:Nat): ∃f,∀f',f<=f'->Is (cdV f' ks n):=by
 obtain⟨f,h⟩:=q143 ks n 0;refine⟨f,fun f' hf=> ?_⟩;unfold cdV
 split
 · exact h f' hf
 · exact Is.mk _
theorem y216(ks:List Tr)(n:Nat)(t:Tr): ∃f,∀f',f<=f'->Is (idV f' ks n t):=by
 obtain⟨f,h⟩:=j153 [] (unfD ks n t).1;refine⟨f,fun f' hf=> ?_⟩;unfold idV
 split
 · split
   · exact h f' hf
   · exact Is.mk _
 · exact Is.mk _
def sgD(bd:Nat->M.Tm):Nat->Nat->M.Tm
 |0=> M.Tm.var
 |j+1=> M.Tm.cns ((bd j).sub (sgD bd j)) (sgD bd j)
theorem y201(t u:M.Tm)(s:Nat->M.Tm):(t.inst u).sub s=t.sub (M.Tm.cns (u.sub s) s):=by
 rw[M.Tm.inst_sub,M.Tm.sub_ups_inst]
theorem y98{ks:List Tr}{bd:Nat->M.Tm}: ∀(j:Nat) (a:M.Tm) (x:Tr),(∀i,i < j->ks.getD (i*2+1) y13=enc (bd i))->unfD ks j (enc a)=(x,true)->x=enc (a.sub (sgD bd j))
 |0,a,x,hb,h=> by
  unfold unfD at h;obtain rfl:enc a=x:=by simpa using h
  show _=enc (a.sub M.Tm.var)
  rw[M.Tm.sub_var]
 |j+1,a,x,hb,h=> by
  unfold unfD at h;rw[hb j (by omega),j38] at h
  split at h
  · have:=y98 j _ x (fun i hi=> hb i (by omega)) h
    rw[this,y201]
    rfl
  · simp at h
def tyL(ty:Nat->M.Tm):Nat->List M.Tm
 |0=> []
 |j+1=> ty j::tyL ty j
theorem cdR_ok{f:Nat}{ks:List Tr}{bd ty:Nat->M.Tm}: ∀(m j:Nat) (u:Tr),(∀i,i < j+m->ks.getD (i*2+1) y13=enc (bd i)/\ks.getD (i*2) y13=enc (ty i))->q24 (tyL ty j) [] (sgD bd j)->(∀n A,M.lk (tyL ty j) n=some A->Lim [] (sgD bd j n))->cdR f ks m j=some (u,0)->
 q24 (tyL ty (j+m)) [] (sgD bd (j+m))/\ ∀n A,M.lk (tyL ty (j+m)) n=some A->Lim [] (sgD bd (j+m) n)
 |0,j,u,hb,h1,h2,h=>⟨h1,h2⟩
 |m+1,j,u,hb,h1,h2,h=> by
  unfold cdR at h
  split at h
  · rename_i p1
    split at h
    · rename_i p2
      obtain⟨s,e1,e2⟩:=j15 h;obtain⟨b1,b2⟩:=hb j (by omega);rw[b2] at p1 e1;rw[b1] at p2 e1;obtain⟨T,hT⟩: ∃T,unfD ks j (enc (ty j))=(T,true):=⟨_,by rw[<-p1]⟩;obtain⟨B,hB⟩: ∃B,unfD ks j (enc (bd j))=(B,true):=⟨_,by rw[<-p2]⟩;have q1:=y98 (bd:=bd) j _ T (fun i hi=>(hb i (by omega)).1) hT;have q2:=y98 (bd:=bd) j _ B (fun i hi=>(hb i (by omega)).1) hB;rw[hT,hB] at e1;simp only at e1;subst q1 q2;obtain⟨s1,r1,r2⟩:=j15 e1;obtain⟨s2,r3,r4⟩:=j15 r2;obtain⟨X,tX,cX,lX,-⟩:=j35 (snd f) (G:= []) y26.nil ((q41 r1).2 _ (by simp)) r4;have n1:q24 (tyL ty (j+1)) [] (sgD bd (j+1)):=h1.cns tX cX;have n2: ∀n A,M.lk (tyL ty (j+1)) n=some A->Lim [] (sgD bd (j+1) n):=fun n A hA=> by
       cases n with
       |zero=> exact lX
       |succ n=>
        obtain⟨A',hA',-⟩: ∃A',M.lk (tyL ty j) n=some A'/\True:=by
         have:M.lk (ty j::tyL ty j) (n+1)=some A:=hA;rw[M.lk_succ] at this;obtain⟨A',h,-⟩:=Option.map_eq_some_iff.1 this;exact⟨A',h,trivial⟩
        exact h2 n A' hA'
      have:=cdR_ok m (j+1) u (fun i hi=> hb i (by omega)) n1 n2 e2
      rwa [show j+(m+1)=j+1+m by omega]
    · simp at h
  · simp at h
end Go.Proofs.YtdkamgafpphdjaaGreat
