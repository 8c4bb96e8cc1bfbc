/-
  Lemmas towards the law, 27: RedP, Sub1, PsD.
-/
import Derived.Test.YtdkamgafpphdjaaGreatUAZ
set_option maxHeartbeats 2000000
set_option maxRecDepth 100000
namespace Go.Proofs.YtdkamgafpphdjaaGreat
open Go.RowKit
set_option linter.unusedVariables false
def conA(t:Tr)(p:List Int):Tr:=match atT t p with
 |some u=> putA t p (ctrT u)
 |none=> y13
def rdxA(t:Tr)(p:List Int):Bool:=match atT t p with
 |some u=> j158 u
 |none=> false
def conV(t:Tr)(p:List Int):Tr×Bool:=if valid sigT (conA t p)=true then(conA t p,true) else(y13,false)
def stepO(t:Tr):Tr×Int:=match outT t with
 |none=>(t,0)
 |some p=> if valid sigT (conA t p)=true then(conA t p,1) else(y13,2)
def nrmC:Nat->Tr->Tr×Int
 |0,t=> match outT t with
  |none=>(t,0)
  |some _=>(y13,1)
 |f+1,t=> match outT t with
  |none=>(t,0)
  |some p=> if valid sigT (conA t p)=true then nrmC f (conA t p) else(y13,2)
def q133(t:Tr)(f:Int):Tr×Int:=if(valid sigT t && inR f 0 200)=true then nrmC f.toNat t else(y13,3)
def y66(a b:Tr)(f:Int):Int:=if(valid sigT a &&(valid sigT b && inR f 0 200))=true then(if a=b then 1 else if(nrmC f.toNat a).2=0/\(nrmC f.toNat b).2=0 then(if(nrmC f.toNat a).1=(nrmC f.toNat b).1 then 1 else 2) else 3) else 0
theorem y97{t:Tr}{p:List Int}(h:rdxA t p=true): ∃u,atT t p=some u/\j158 u=true:=by
 unfold rdxA at h;cases e:atT t p with
 |none=> rw[e] at h;cases h
 |some u=> rw[e] at h;exact⟨u,rfl,h⟩
theorem y73{k n:Int}{ks:List Tr}:j158 (.mk k n ks)=true↔rdx k ks≠0:=by simp[j158,rdxT]
theorem q206{ks:List Tr}: ∀{i:Nat} {x:Tr},Par (kd ks i) x->Pars ks (ks.set i x):=by
 induction ks with
 |nil=> intro i x _;exact .nil
 |cons t ts ih=>
  intro i x h;cases i with
  |zero=> exact .cons h (Pars.refl ts)
  |succ i=> exact .cons (Par.refl t) (ih h)
theorem q178: ∀(p:List Int) (t u u':Tr),atT t p=some u->Par u u'->Par t (putA t p u')
 | [],t,u,u',h,hp=> by
  have e:t=u:=by cases t;simpa[atT] using h
  subst e;rw[q70];exact hp
 |i::r,.mk k n ks,u,u',h,hp=> by
  rw[atT] at h
  split at h
  · rw[putA]
    exact .node (q206 (q178 r _ u u' h hp))
  · cases h
theorem par_ctr{u:Tr}(h:j158 u=true):Par u (ctrT u):=by
 obtain⟨k,n,ks⟩:=u;exact .red (y73.1 h) (Pars.refl ks)
theorem j177{t:Tr}{p:List Int}(h:rdxA t p=true):Par t (conA t p):=by
 obtain⟨u,h1,h2⟩:=y97 h;unfold conA;rw[h1];exact q178 p t u _ h1 (par_ctr h2)
mutual
theorem j138: ∀(t:Tr) (p:List Int),outT t=some p->rdxA t p=true
 | .mk k n ks,p,h=> by
  rw[outT] at h
  split at h
  · obtain⟨j,r,rfl,h1,h2⟩:=y146 ks 0 p h
    unfold rdxA at h2⊢;rw[atT,if_pos ⟨by omega,by omega⟩];rw[show(((0+j:Nat):Int)).toNat=j by omega];exact h2
  · rename_i h0
    cases h
    unfold rdxA;rw[show atT (.mk k n ks) []=some (.mk k n ks) from rfl];exact y73.2 h0
theorem y146: ∀(ks:List Tr) (i:Nat) (p:List Int),j47 i ks=some p-> ∃(j:Nat) (r:List Int),p=((i+j:Nat):Int)::r/\j < ks.length/\rdxA (kd ks j) r=true
 | [],i,p,h=> by rw[j47] at h;cases h
 |t::ts,i,p,h=> by
  rw[j47] at h;cases e:outT t with
  |some q=>
   rw[e] at h;cases h
   exact⟨0,q,rfl,by simp,j138 t q e⟩
  |none=>
   rw[e] at h;obtain⟨j,r,rfl,h1,h2⟩:=y146 ts (i+1) p h;exact⟨j+1,r,by rw[show i+1+j=i+(j+1) by omega],by simpa using h1,h2⟩
end
theorem y58: ∀(f:Nat) (t x:Tr),valid sigT t=true->nrmC f t=(x,0)->Reds t x/\nrm x=true/\valid sigT x=true
 |0,t,x,hv,h=> by
  unfold nrmC at h;cases e:outT t with
  |none=>
   rw[e] at h;cases h
   have:=j116 t;rw[e] at this;exact⟨.refl _,by simpa using this.symm,hv⟩
  |some p=> rw[e] at h;cases h
 |f+1,t,x,hv,h=> by
  unfold nrmC at h;cases e:outT t with
  |none=>
   rw[e] at h;cases h
   have:=j116 t;rw[e] at this;exact⟨.refl _,by simpa using this.symm,hv⟩
  |some p=>
   rw[e] at h;simp only at h
   split at h
   · rename_i hc
     obtain⟨h1,h2⟩:=y58 f _ x hc h;exact⟨(Reds.one (j177 (j138 t p e))).trans h1,h2⟩
   · cases h
theorem y149{t u:Tr}{p:List Int}(h:valid sigT t=true)(e:atT t p=some u):valid sigT u=true:=by
 obtain⟨h1,h2⟩:=j11 h;have h3:=y189 p t u e;have h4:=j121 p t u 30 h1 e;unfold valid;rw[q61 h4 (by omega),Bool.true_and,decide_eq_true_eq];omega
theorem j179{t:Tr}{p:List Int}{u:Tr}(h:atT t p=some u)(hv:valid sigT (conA t p)=true):valid sigT (ctrT u)=true:=by
 unfold conA at hv;rw[h] at hv;exact y149 hv (j150 p t (ctrT u) u h).1
def SbI(p1 p2 p3 B:Nat)(x ku nu:Int)(Au:Option Addr)(lu cu:Nat)(w:World)(s:Bool):Prop:=(p1 < B/\p2 < B/\p3 < B)/\w.heap[p1]? =some (.cells #[.int .i64 x] 3 (0,0))/\w.heap[p2]? =some (.cells #[.int .i64 ku,.int .i64 nu,.slice Au lu cu] 25 (0,0))/\w.heap[p3]? =some (.cells #[.bool s] 4 (0,0))
theorem subst1(a:World)(p1 p2 p3 B:Nat)(x ku nu:Int)(Au:Option Addr)(kus:List Tr)(cu:Nat)(hinu:Lies a (.mk ku nu kus) (.agg #[.int .i64 ku,.int .i64 nu,.slice Au kus.length cu]))(hvu:valid sigT (.mk ku nu kus)=true)(h13:p1≠p3)(h23:p2≠p3)(hx0:0<=x)(hx1:x<=1000):
 Chg_sb a p1 p2 p3 [p3] (SbI p1 p2 p3 B x ku nu Au kus.length cu) (gsb (.mk ku nu kus) x) (hsb (.mk ku nu kus) x):=by
 intro w s n b ha hI hn0 hn1 hb0 hb1;obtain⟨hpB,i1,i2,i3⟩:=hI;have c1:=y10 i1 0;obtain⟨y0,y1,y2,-,-,-⟩:=own3 i2;have c3:=y10 i3 0;have l1:=q10 i1;have l2:=q10 i2;have l3:=q10 i3;have H1:=hdq i1;have H2:=hdq i2;have H3:=hdq i3;have HV:=hdq (fun m W=> j39 m W);have HS:=hdq (fun W (hW:Ext w W)=> q71 (.mk ku nu kus) b 0 W _ (hinu.ext (ha.trans hW)) hvu hb0 hb1 (by omega) (by omega));have hg:gsb (.mk ku nu kus) x n b=if n - b=x then okT (shfT b (.mk ku nu kus) 0) else .mk 1 (if x < n - b then n - 1 else n) []:=rfl
 have hh:hsb (.mk ku nu kus) x n b=if n - b=x then valid sigT (shfT b (.mk ku nu kus) 0) else true:=rfl
 rw[hg,hh];clear hg hh;by_cases h:n - b=x
 · rw[if_pos h,if_pos h]
   have d1:(n - b==x)=true:=beq_iff_eq.2 h;clear h HV;generalize valid sigT (shfT b (.mk ku nu kus) 0)=vb at HS⊢;generalize okT (shfT b (.mk ku nu kus) 0)=rt at HS⊢;clear i1 i2 i3;have hx:=(xr w).alloc (.cells #[.int .i64 0,.int .i64 0,.slice none 0 0] 25);have hbR:=heap_alloc_new w (.cells #[.int .i64 0,.int .i64 0,.slice none 0 0] 25);go_enter Tryz.func182,Tryz.ntmps182;go_wp2_with fail;refine(HS.out _ hx).mono ?_;rintro e w1 ⟨u,rfl,hM,e1⟩;obtain⟨a1,a2,a3,a4,a5,rfl⟩:=hM.three';have q3:=(hx.trans e1).blk H3.out;have g3:=y10 q3 0;have f3:=q12 q3 0;have g4:=q10 q3;have qR:=e1.blk hbR;obtain⟨s0,s1,s2,f0,f1,f2⟩:=own3 qR;have gR:=q10 qR;clear c1 c3 y0 y1 y2 HS;cases s <;> cases vb
   all_goals go_wp2_with fail
   all_goals(
    have o2:=fun r=>(((((oE (L:= [p3]) (hx.trans e1)).setCell (p:=⟨p3,0,none⟩) (by simp) r).setNew (p:=⟨w.heap.size,0,none⟩) (Nat.le_refl _) (.int .i64 a1)).setNew (p:=⟨w.heap.size,1,none⟩) (Nat.le_refl _) (.int .i64 a2)).setNew (p:=⟨w.heap.size,2,none⟩) (Nat.le_refl _) (.slice a3 a4 a5)).alloc (.cells #[.int .i64 a1,.int .i64 a2,.slice a3 a4 a5] 25)
    have hz:(w.alloc (.cells #[.int .i64 0,.int .i64 0,.slice none 0 0] 25)).heap.size=w.heap.size+1:=by simp
    refine bodyPost_ret (v:= .agg #[.int .i64 a1,.int .i64 a2,.slice a3 a4 a5]) (by simp[results,Tryz.results182,go_sem,s0,s1,s2,gR]) rfl ⟨_,rfl, ?_,o2 _,hpB,(o2 _).blk H1.out (by simpa using h13),(o2 _).blk H2.out (by simpa using h23), ?_⟩
    · exact((hM.after ((((q23.refl _ _).setCell (p:=⟨p3,0,none⟩) (by show p3 < _;omega) _).setCell (p:=⟨w.heap.size,0,none⟩) (by show w.heap.size < _;omega) _).setCell (p:=⟨w.heap.size,1,none⟩) (by show w.heap.size < _;omega) _|>.setCell (p:=⟨w.heap.size,2,none⟩) (by show w.heap.size < _;omega) _)).ext ((xr _).alloc _)).since (by omega)
    · rw[Below.heap_alloc _ _ _ (by simp;omega),Below.heap_setCell _ _ _ _ (by show p3≠w.heap.size;omega),Below.heap_setCell _ _ _ _ (by show p3≠w.heap.size;omega),Below.heap_setCell _ _ _ _ (by show p3≠w.heap.size;omega),q11 q3 0 _]
      rfl)
 · rw[if_neg h,if_neg h,Bool.and_true]
   have d1:(n - b==x)=false:=beq_eq_false_iff_ne.2 h;clear HS h i1 i2 i3;by_cases h2:x < n - b
   · rw[if_pos h2]
     have d2:decide (x < n - b)=true:=decide_eq_true h2;clear h2;go_enter Tryz.func182,Tryz.ntmps182;go_wp2_with fail;refine(HV.out _ _).mono ?_;rintro e w1 ⟨rfl,e1⟩;have hb:=e1.newBlk;obtain⟨s0,s1,s2,f0,f1,f2⟩:=own3 hb;have o2:=((Only.refl [p3] w).alloc (.cells #[.int .i64 0,.int .i64 0,.slice none 0 0] 25)).trans (oE e1);have q4:=(Ext.blk e1.pre H3.out);clear hb;go_wp2_with fail;refine bodyPost_ret (v:= .agg #[.int .i64 1,.int .i64 (n - 1),.slice none 0 0]) (by simp[results,Tryz.results182,go_sem,s0,s1,s2]) rfl ⟨_,rfl,Made.leaf _ _ _ _ _, ?_,hpB, ?_, ?_, ?_⟩
     · exact(((o2.setNew (by simp) _).setNew (by simp) _).setNew (by simp) _)
     · exact(((o2.setNew (by simp) _).setNew (by simp) _).setNew (by simp) _).blk H1.out (by simpa using h13)
     · exact(((o2.setNew (by simp) _).setNew (by simp) _).setNew (by simp) _).blk H2.out (by simpa using h23)
     · rw[Below.heap_setCell _ _ _ _ (by show p3≠w.heap.size;omega),Below.heap_setCell _ _ _ _ (by show p3≠w.heap.size;omega),Below.heap_setCell _ _ _ _ (by show p3≠w.heap.size;omega),q4]
   · rw[if_neg h2]
     have d2:decide (x < n - b)=false:=decide_eq_false h2;clear h2;go_enter Tryz.func182,Tryz.ntmps182;go_wp2_with fail;refine(HV.out _ _).mono ?_;rintro e w1 ⟨rfl,e1⟩;have hb:=e1.newBlk;obtain⟨s0,s1,s2,f0,f1,f2⟩:=own3 hb;have o2:=((Only.refl [p3] w).alloc (.cells #[.int .i64 0,.int .i64 0,.slice none 0 0] 25)).trans (oE e1);have q4:=(Ext.blk e1.pre H3.out);clear hb;go_wp2_with fail;refine bodyPost_ret (v:= .agg #[.int .i64 1,.int .i64 n,.slice none 0 0]) (by simp[results,Tryz.results182,go_sem,s0,s1,s2]) rfl ⟨_,rfl,Made.leaf _ _ _ _ _, ?_,hpB, ?_, ?_, ?_⟩
     · exact(((o2.setNew (by simp) _).setNew (by simp) _).setNew (by simp) _)
     · exact(((o2.setNew (by simp) _).setNew (by simp) _).setNew (by simp) _).blk H1.out (by simpa using h13)
     · exact(((o2.setNew (by simp) _).setNew (by simp) _).setNew (by simp) _).blk H2.out (by simpa using h23)
     · rw[Below.heap_setCell _ _ _ _ (by show p3≠w.heap.size;omega),Below.heap_setCell _ _ _ _ (by show p3≠w.heap.size;omega),Below.heap_setCell _ _ _ _ (by show p3≠w.heap.size;omega),q4]
theorem q97(t:Tr)(x:Int)(u:Tr)(w:World)(v vu:Value)(hin:Lies w t v)(hv:valid sigT t=true)(hinu:Lies w u vu)(hvu:valid sigT u=true)(hx0:0<=x)(hx1:x<=1000):
 Calls Tryz.prog 136 #[v,.int .i64 x,vu] w fun e w'=> ∃r,e= .returned (.tuple #[r,.bool (valid sigT (sbsT u t x 0))])/\Made w w' 25 (okT (sbsT u t x 0)) r/\Ext w w':=by
 obtain⟨hs,hcn⟩:=j11 hv;obtain⟨hw1,hw2⟩:=y180 (x:=x) (j11 hvu).2 hv;obtain⟨vb,hvb⟩: ∃vb,vb=valid sigT (sbsT u t x 0):=⟨_,rfl⟩;obtain⟨rt,hrt⟩: ∃rt,rt=okT (sbsT u t x 0):=⟨_,rfl⟩;rw[<-hvb,<-hrt];have hrt2:allT (hsb u x) t 0=true->rt=okT (chgT (gsb u x) t 0):=fun h=> by rw[hw2 h];exact hrt
 have hrt3:vb=false->rt=y13:=fun h=> by rw[hrt];unfold okT;rw[<-hvb,h];rfl
 have hcu:=(j11 hvu).2;obtain⟨ku,nu,kus⟩:=u;obtain⟨Au,cu,rfl,hlu,hcu',-⟩:=Lies.mk_iff.1 hinu;have hCH:=fun W (hW:Ext w W) p1 p2 p3 (hp:w.heap.size<=p3) (h13:p1≠p3) (h23:p2≠p3) (h1:W.heap[p1]? =some (.cells #[.int .i64 x] 3 (0,0))) (h2:W.heap[p2]? =some (.cells #[.int .i64 ku,.int .i64 nu,.slice Au kus.length cu] 25 (0,0))) (h3:W.heap[p3]? =some (.cells #[.bool true] 4 (0,0)))=>
  q102 t w W v 0 30 p1 p2 p3 [p3] W.heap.size (SbI p1 p2 p3 W.heap.size x ku nu Au kus.length cu) (gsb (.mk ku nu kus) x) (hsb (.mk ku nu kus) x) true hs hin hW (fun x hx=> by rw[List.mem_singleton.1 hx];exact⟨hp,q10 h3⟩) (by omega) (by omega)
   (subst1 w p1 p2 p3 _ x ku nu Au kus cu hinu hvu h13 h23 hx0 hx1) (fun w1 w2 s h he=>⟨h.1,he.blk h.2.1,he.blk h.2.2.1,he.blk h.2.2.2⟩) (Nat.le_refl _) (fun w1 w2 s h he hl=>⟨h.1,(he p1 h.1.1).trans h.2.1,(he p2 h.1.2.1).trans h.2.2.1,(he p3 h.1.2.2).trans h.2.2.2⟩) ⟨⟨q10 h1,q10 h2,q10 h3⟩,h1,h2,h3⟩
 simp only[Bool.true_and] at hCH;rw[<-hvb] at hw1;have HCH:=hdq hCH;clear hCH hw2 hs hrt hvb;generalize chgT (gsb (.mk ku nu kus) x) t 0=r at hw1 HCH hrt2;generalize allT (hsb (.mk ku nu kus) x) t 0=f at hw1 HCH hrt2;obtain⟨k,n,ks⟩:=t;obtain⟨A,cap,rfl,hl,hc,hK⟩:=Lies.mk_iff.1 hin;have hE:=((((xr w).alloc (.cells #[.int .i64 k,.int .i64 n,.slice A ks.length cap] 25)).alloc (.cells #[.int .i64 x] 3)).alloc (.cells #[.int .i64 ku,.int .i64 nu,.slice Au kus.length cu] 25)).alloc (.cells #[.int .i64 0,.int .i64 0,.slice none 0 0] 25);have hbb:=blk4 ((xr ((((w.alloc (.cells #[.int .i64 k,.int .i64 n,.slice A ks.length cap] 25)).alloc (.cells #[.int .i64 x] 3)).alloc (.cells #[.int .i64 ku,.int .i64 nu,.slice Au kus.length cu] 25)).alloc (.cells #[.int .i64 0,.int .i64 0,.slice none 0 0] 25))).alloc (.cells #[.bool true] 4));have hb5:=heap_alloc_new ((((w.alloc (.cells #[.int .i64 k,.int .i64 n,.slice A ks.length cap] 25)).alloc (.cells #[.int .i64 x] 3)).alloc (.cells #[.int .i64 ku,.int .i64 nu,.slice Au kus.length cu] 25)).alloc (.cells #[.int .i64 0,.int .i64 0,.slice none 0 0] 25)) (.cells #[.bool true] 4);have hE5:=hE.alloc (.cells #[.bool true] 4);have hsz:(((((w.alloc (.cells #[.int .i64 k,.int .i64 n,.slice A ks.length cap] 25)).alloc (.cells #[.int .i64 x] 3)).alloc (.cells #[.int .i64 ku,.int .i64 nu,.slice Au kus.length cu] 25)).alloc (.cells #[.int .i64 0,.int .i64 0,.slice none 0 0] 25)).alloc (.cells #[.bool true] 4)).heap.size=w.heap.size+1+1+1+1+1:=by simp
 obtain⟨hb1,hb2,hb3,hb4,-⟩:=hbb;simp only[World.size_alloc] at hb5;go_enter Tryz.func136,Tryz.ntmps136;go_wp2_with fail;generalize World.alloc _ _=wa at hE5 hb1 hb2 hb3 hb4 hb5 hsz;clear hE;refine(HCH.out wa hE5 _ _ _ (by omega) (by omega) (by omega) hb2 hb3 hb5).mono ?_;rintro e w1 ⟨u,rfl,hM,ho,hI⟩;obtain⟨k2,n2,ks2⟩:=r;obtain⟨A2,c2,rfl,hl2,hc2,hMK2⟩:=Made.mk_iff.1 hM;have hb4':=ho.blk hb4 (by simp);have i3:=hI.2.2.2;have hc5:=y10 i3 0;have hlt5:=q10 i3;have hlt4:=q10 hb4';have hso:=ho.size;have hEw:Ext w w1:=ho.ext hE5 (fun x hx=> by rw[List.mem_singleton.1 hx];omega);obtain⟨s0,s1,s2,f0,f1,f2⟩:=own3 hb4';clear HCH hb1 hb2 hb3 hb4 hb5 hI i3;have hx:=(xr w1).alloc (.cells #[.int .i64 k2,.int .i64 n2,.slice A2 ks2.length c2] 25);cases f with
 |false=>
  rw[Bool.false_and] at hw1;have H1:=hdq hw1.symm;have H2:=hdq (hrt3 hw1.symm);clear hw1 hrt2 hrt3;go_wp2_with fail;refine bodyPost_ret (v:= .tuple #[.agg #[.int .i64 0,.int .i64 0,.slice none 0 0],.bool false]) (by simp[results,Tryz.results136,go_sem,s0,s1,s2,hlt4]) rfl ⟨.agg #[.int .i64 0,.int .i64 0,.slice none 0 0],by rw[H1.out],by rw[H2.out];exact Made.leaf _ _ _ _ _, ?_⟩;exact(((hEw.setCell (by simp;omega) _).setCell (by simp;omega) _).setCell (by simp;omega) _).alloc _
 |true=>
  rw[Bool.true_and] at hw1;have HV:=hdq (fun W (hW:Ext w1 W)=> j91 k2 n2 ks2 A2 c2 W (hM.lies.ext hW));generalize hok:valid sigT (.mk k2 n2 ks2)=b at HV;have hO:rt=if b=true then .mk k2 n2 ks2 else y13:=by rw[hrt2 rfl];unfold okT;rw[hok]
  rw[hok] at hw1;have H1:=hdq hw1.symm;have H2:=hdq hO;clear hO hw1 hok hrt2 hrt3;go_wp2_with fail;refine(HV.out _ hx).mono ?_;cases b with
  |true=>
   simp only[if_true];rintro e w2 ⟨rfl,e2⟩;obtain⟨q0,q1,q2,g0,g1,g2⟩:=own3 ((hx.trans e2).blk hb4');go_wp2_with fail;refine bodyPost_ret (v:= .tuple #[.agg #[.int .i64 k2,.int .i64 n2,.slice A2 ks2.length c2],.bool true]) (by simp[results,Tryz.results136,go_sem,q0,q1,q2]) rfl ⟨.agg #[.int .i64 k2,.int .i64 n2,.slice A2 ks2.length c2],by rw[H1.out], ?_, ?_⟩
   · rw[H2.out]
     simp only[if_true];exact Made.since (((hM.ext (hx.trans e2)).after ((((q23.refl _ _).setCell (by simp;omega) _).setCell (by simp;omega) _).setCell (by simp;omega) _))) (by omega)
   · exact(((((hEw.trans hx).trans e2).setCell (by simp;omega) _).setCell (by simp;omega) _).setCell (by simp;omega) _)
  |false=>
   simp only[Bool.false_eq_true,if_false];rintro e w2 ⟨rfl,e2⟩;obtain⟨q0,q1,q2,g0,g1,g2⟩:=own3 ((hx.trans e2).blk hb4');go_wp2_with fail;refine bodyPost_ret (v:= .tuple #[.agg #[.int .i64 0,.int .i64 0,.slice none 0 0],.bool false]) (by simp[results,Tryz.results136,go_sem,q0,q1,q2]) rfl ⟨.agg #[.int .i64 0,.int .i64 0,.slice none 0 0],by rw[H1.out],by rw[H2.out];exact Made.leaf _ _ _ _ _, ?_⟩;exact(((((hEw.trans hx).trans e2).setCell (by simp;omega) _).setCell (by simp;omega) _).setCell (by simp;omega) _)
def y44:List (List UInt8)->Option (List Tr)
 | []=> some []
 | [_]=> some []
 |x::y::r=> match j85 x with
  |none=> none
  |some (t,b)=>(y44 (y::r)).map fun ds=> t::b::ds
def psO(l:List UInt8):Option (List Tr)->Option (List Tr)
 |none=> none
 |some ks=> if q137 ks (ks.length / 2)=l/\dfV ks (ks.length / 2)=true then some ks else none
def psD(l:List UInt8):Option (List Tr):=if 9 <(cutL 10 l).length then none else psO l (y44 (cutL 10 l))
theorem q193(c:UInt8): ∀(r pre:List UInt8),cutS c pre r≠ []
 | [],pre=> by simp[cutS]
 |x::r,pre=> by
  unfold cutS
  split
  · simp
  · exact q193 c r _
theorem j141{xs:List (List UInt8)}{j:Nat}(h:j+1 < xs.length):y44 (xs.drop j)=match j85 (xs[j]'(by omega)) with
 |none=> none
 |some (t,b)=>(y44 (xs.drop (j+1))).map fun ds=> t::b::ds:=by
 rw[List.drop_eq_getElem_cons (i:=j) (by omega),List.drop_eq_getElem_cons (i:=j+1) h]
 rfl
theorem q135{xs:List (List UInt8)}{j:Nat}(h:j+1=xs.length):y44 (xs.drop j)=some []:=by
 rw[List.drop_eq_getElem_cons (i:=j) (by omega),List.drop_of_length_le (by omega)]
 rfl
theorem j159{w:World}{base:Nat}{e:TypeId}{v:Value}{xs:List (List UInt8)}(h:w.ownsRow base e 1 v xs.length (strs xs)): ∃A cap,v= .slice A xs.length cap/\xs.length<=cap/\cap<=maxLen/\ ∀j (hj:j < xs.length),∃g,A=some ⟨g,0,none⟩/\base<=g/\g < w.heap.size/\w.cell? ⟨g,j,none⟩=some (.string (ofL xs[j])):=by
 have hcl:=fun g hg=> h.cells (g:=g) hg
 rcases h.2 with⟨rfl,h0⟩ |⟨g,c,cur,rfl,hb,hg,hn,hm,hcs,ht⟩
 · exact⟨none,0,by rw[h0],by omega,Nat.zero_le _,fun j hj=> by omega⟩
 · refine⟨_,c,rfl,hn,hm,fun j hj=>⟨g,rfl,hb,q10 hg, ?_⟩⟩
   have h3:=hcl g rfl j (.string (ofL xs[j])) (by unfold strs;rw[List.getElem?_map,List.getElem?_eq_getElem hj];rfl)
   rwa [Addr.add_lit,Nat.zero_add] at h3
theorem y214:(Tryz.prog.info? 83).map (fun i=>(i.zero,i.size,i.bytes))=some (some (.agg #[.int .i64 0,.int .i64 0,.slice none 0 0,.int .i64 0,.int .i64 0,.slice none 0 0]),6,80):=by kernel_rfl
theorem q85(s:ByteArray)(w:World)(hs:s.size<=1000000000):Calls Tryz.prog 134 #[.string s] w fun e w'=> ∃A n cap,e= .returned (.tuple #[.slice A n cap,.bool (psD s.data.toList).isSome])/\n<=cap/\cap<=maxLen/\((psD s.data.toList).getD []).length=n*2/\j18 w.heap.size w' A ((psD s.data.toList).getD [])/\Ext w w':=by
 obtain⟨i0,hi,hz0,hz1,hz2⟩:=info_parts y214;have hln:s.data.toList.length=s.size:=by rw[Array.length_toList];rfl
 have htl:=ByteArray.toList_eq s;have HCUT:=hdq (q166 s 10 10 rfl w hs);have hsz: ∀x∈cutL 10 s.data.toList,x.length<=1000000000:=fun x hx=> by
  have:=j98 10 s.data.toList [] x hx;simp only[List.length_nil] at this;omega
 obtain⟨l,hl⟩: ∃l,s.data.toList=l:=⟨_,rfl⟩;rw[hl] at HCUT hsz hln htl⊢;obtain⟨P,hP⟩: ∃P,psD l=P:=⟨_,rfl⟩;rw[hP];obtain⟨xs,hxs⟩: ∃xs,cutL 10 l=xs:=⟨_,rfl⟩;have hne:xs≠ []:=hxs▸q193 10 l [];have hpos:0 < xs.length:=List.length_pos_iff.2 hne;have hps:P=if 9 < xs.length then none else psO l (y44 xs):=by rw[<-hP,<-hxs];rfl
 rw[hxs] at HCUT hsz;have HPS:=hdq hps;have HSZ:=hdq hsz;have HTL:=hdq htl;clear hl hP hxs hps hsz hne htl hln;go_enter Tryz.func134,Tryz.ntmps134;go_wp2_with fail;refine HCUT.out.mono ?_;rintro e w1 ⟨v,rfl,hO,e1⟩;obtain⟨A1,c1,rfl,hl1,hc1,hcell⟩:=j159 hO;obtain⟨g,rfl,hgw,hgl,-⟩:=hcell 0 hpos;have hcell2: ∀w',Ext w1 w'-> ∀j (hj:j < xs.length),w'.cell? ⟨g,j,none⟩=some (.string (ofL xs[j])):=fun w' hw j hj=> by
  obtain⟨g',hg',-,-,h4⟩:=hcell j hj;simp only[Option.some.injEq,Addr.mk.injEq,and_true] at hg';subst hg';exact hw.cell h4
 have HC:=hdq hcell2;obtain⟨N,hN⟩: ∃N,xs.length=N:=⟨_,rfl⟩;have HN:=hdq hN;rw[hN] at hpos hl1⊢;have HRET:=hdq (show∀w' B c,P=none->c<=maxLen->Ext w w'-> ∃A n cap,Ending.returned (.tuple #[.slice (some B) 0 c,.bool false])= .returned (.tuple #[.slice A n cap,.bool P.isSome])/\n<=cap/\cap<=maxLen/\(P.getD []).length=n*2/\j18 w.heap.size w' A (P.getD [])/\Ext w w' from fun w' B c hp hc hx=> by subst hp;exact⟨_,0,c,rfl,Nat.zero_le _,hc,rfl,.inl rfl,hx⟩);clear hcell hcell2 hN hO;by_cases hn9:9 < N
 · have hp0:P=none:=by rw[HPS.out,HN.out,if_pos hn9]
   have d9:decide ((9:Int) <(N:Int))=true:=decide_eq_true (by omega);have HP0:=hdq hp0;clear hp0;go_wp2_with fail;go_ret2;exact HRET.out _ _ _ HP0.out (Nat.zero_le _) (e1.alloc _)
 · have d9:decide ((9:Int) <(N:Int))=false:=decide_eq_false (by omega)
   have hp1:P=psO l (y44 xs):=by rw[HPS.out,HN.out,if_neg hn9]
   have HP1:=hdq hp1;have hx2:=e1.alloc (.cells #[] 83);have hx12:=(xr w1).alloc (.cells #[] 83);have hb2:=heap_alloc_new w1 (.cells #[] 83);have hs1:=e1.size;clear hp1 HPS;go_wp2_with fail;generalize hw2:w1.alloc _=w2 at hx2 hb2 hx12⊢;clear hw2
   go_loopw [5,6] (fun o i wr=> ∃(j:Nat) (ks:List Tr),j+1<=N/\i= .int .i64 j/\q25 w1 wr 83 o ks j/\(y44 (xs.drop j)).map (ks++ ·)=y44 xs/\Ext w1 wr) (fun _ i _=> N -(intOf i).toNat)
   case atStart=> exact⟨0, [],by omega,rfl,q25.lit hb2 (Nat.le_refl _),by simp,hx12⟩
   case round=>
    obtain⟨j,ks,hj,rfl,hG,hjl,hxw1⟩:=hrel;have hx:=e1.trans hxw1;have HJ:=hdq hjl;clear hjl;have hsz:=hxw1.size;have hj9:j<=8:=by omega
    by_cases hlt:j+1 < N
    · have hjz:decide ((j:Int)+1 <(N:Int))=true:=decide_eq_true (by omega)
      have hjz2:(j:Int)+1 <(N:Int):=by omega
      have hjz3:(j:Int) <(N:Int):=by omega
      have hjx:j+1 < xs.length:=by rw[HN.out];exact hlt
      have hst:=j141 hjx;obtain⟨x,hxj⟩: ∃x,x=xs[j]'(by omega):=⟨_,rfl⟩;have hcx:=HC.out wr hxw1 j (by omega);have hxl:(ofL x).size<=1000000000:=by rw[y89];rw[hxj];exact HSZ.out _ (List.getElem_mem (by omega))
      rw[<-hxj] at hst hcx;have HLN:=hdq (fun W=> j163 (ofL x) W hxl);rw[q111] at HLN;obtain⟨L,hL⟩: ∃L,j85 x=L:=⟨_,rfl⟩;rw[hL] at HLN hst;have HST:=hdq hst;clear hst hL hxj hjx;go_wp2_with fail;refine(HLN.out _).mono ?_;rintro e w3 ⟨k1,n1,k2,n2,B1,B2,l1,p1,l2,p2,rfl,hFF,e3⟩;have e34:=(xr w3).alloc (.cells #[.int .i64 k1,.int .i64 n1,.slice B1 l1 p1,.int .i64 k2,.int .i64 n2,.slice B2 l2 p2] 83);have hb4:=heap_alloc_new w3 (.cells #[.int .i64 k1,.int .i64 n1,.slice B1 l1 p1,.int .i64 k2,.int .i64 n2,.slice B2 l2 p2] 83);have hx4:=(hx.trans e3).trans e34;have hx14:=(hxw1.trans e3).trans e34;have hs3:=e3.size;obtain⟨⟨s0,s1,s2,s3,s4,s5⟩,-⟩:=own6 hb4;cases L with
      |none=>
       have hpn:P=none:=by
        rw[HP1.out,<-HJ.out,HST.out]
        rfl
       have HPN:=hdq hpn;have hx5:=hx4.alloc (.cells #[] 83);clear hpn;go_wp2_with fail;go_ret2;exact HRET.out _ _ _ HPN.out (Nat.zero_le _) hx5
      |some y=>
       obtain⟨t,b⟩:=y;obtain⟨hT,hB⟩:=hFF _ rfl
       dsimp only at hT hB
       have hG3:=(hG.ext e3).ext e34;have hO1:=InT.mono (S':=fun b=> w1.heap.size<=b/\b <(w3.alloc (.cells #[.int .i64 k1,.int .i64 n1,.slice B1 l1 p1,.int .i64 k2,.int .i64 n2,.slice B2 l2 p2] 83)).heap.size/\_≠some b) (w':=w3.alloc (.cells #[.int .i64 k1,.int .i64 n1,.slice B1 l1 p1,.int .i64 k2,.int .i64 n2,.slice B2 l2 p2] 83)) (fun b hb=>⟨hb.1,by have:=hb.2.1;simp;omega,hb.2.2⟩) (fun b hb=> e34.heap b hb.2.1) (hG.off hsz hT);have hO2:=InT.mono (S':=fun b=> w1.heap.size<=b/\b <(w3.alloc (.cells #[.int .i64 k1,.int .i64 n1,.slice B1 l1 p1,.int .i64 k2,.int .i64 n2,.slice B2 l2 p2] 83)).heap.size/\_≠some b) (w':=w3.alloc (.cells #[.int .i64 k1,.int .i64 n1,.slice B1 l1 p1,.int .i64 k2,.int .i64 n2,.slice B2 l2 p2] 83)) (fun b hb=>⟨hb.1,by have:=hb.2.1;simp;omega,hb.2.2⟩) (fun b hb=> e34.heap b hb.2.1) (hG.off hsz hB);have e45:=(xr (w3.alloc (.cells #[.int .i64 k1,.int .i64 n1,.slice B1 l1 p1,.int .i64 k2,.int .i64 n2,.slice B2 l2 p2] 83))).alloc (.cells #[.int .i64 k1,.int .i64 n1,.slice B1 l1 p1,.int .i64 k2,.int .i64 n2,.slice B2 l2 p2] 83);have hG5:=hG3.ext e45;have hb5:((w3.alloc (.cells #[.int .i64 k1,.int .i64 n1,.slice B1 l1 p1,.int .i64 k2,.int .i64 n2,.slice B2 l2 p2] 83)).alloc (.cells #[.int .i64 k1,.int .i64 n1,.slice B1 l1 p1,.int .i64 k2,.int .i64 n2,.slice B2 l2 p2] 83)).heap[w3.heap.size+1]? =some (.cells #[.int .i64 k1,.int .i64 n1,.slice B1 l1 p1,.int .i64 k2,.int .i64 n2,.slice B2 l2 p2] 83 (0,0)):=by simpa using heap_alloc_new (w3.alloc (.cells #[.int .i64 k1,.int .i64 n1,.slice B1 l1 p1,.int .i64 k2,.int .i64 n2,.slice B2 l2 p2] 83)) (.cells #[.int .i64 k1,.int .i64 n1,.slice B1 l1 p1,.int .i64 k2,.int .i64 n2,.slice B2 l2 p2] 83)
       have hO15:=InT.mono (S':=fun b=> w1.heap.size<=b/\b <((w3.alloc (.cells #[.int .i64 k1,.int .i64 n1,.slice B1 l1 p1,.int .i64 k2,.int .i64 n2,.slice B2 l2 p2] 83)).alloc (.cells #[.int .i64 k1,.int .i64 n1,.slice B1 l1 p1,.int .i64 k2,.int .i64 n2,.slice B2 l2 p2] 83)).heap.size/\_≠some b) (w':=(w3.alloc (.cells #[.int .i64 k1,.int .i64 n1,.slice B1 l1 p1,.int .i64 k2,.int .i64 n2,.slice B2 l2 p2] 83)).alloc (.cells #[.int .i64 k1,.int .i64 n1,.slice B1 l1 p1,.int .i64 k2,.int .i64 n2,.slice B2 l2 p2] 83)) (fun b hb=>⟨hb.1,Nat.lt_of_lt_of_le hb.2.1 e45.size,hb.2.2⟩) (fun b hb=> e45.heap b hb.2.1) hO1;have hO25:=InT.mono (S':=fun b=> w1.heap.size<=b/\b <((w3.alloc (.cells #[.int .i64 k1,.int .i64 n1,.slice B1 l1 p1,.int .i64 k2,.int .i64 n2,.slice B2 l2 p2] 83)).alloc (.cells #[.int .i64 k1,.int .i64 n1,.slice B1 l1 p1,.int .i64 k2,.int .i64 n2,.slice B2 l2 p2] 83)).heap.size/\_≠some b) (w':=(w3.alloc (.cells #[.int .i64 k1,.int .i64 n1,.slice B1 l1 p1,.int .i64 k2,.int .i64 n2,.slice B2 l2 p2] 83)).alloc (.cells #[.int .i64 k1,.int .i64 n1,.slice B1 l1 p1,.int .i64 k2,.int .i64 n2,.slice B2 l2 p2] 83)) (fun b hb=>⟨hb.1,Nat.lt_of_lt_of_le hb.2.1 e45.size,hb.2.2⟩) (fun b hb=> e45.heap b hb.2.1) hO2;have hjl2:(y44 (xs.drop (j+1))).map ((ks++ [t,b])++ ·)=y44 xs:=by
        rw[<-HJ.out,HST.out];cases y44 (xs.drop (j+1)) <;> simp
       have HJ2:=hdq hjl2;have hx45:=hx4.trans e45;have hx145:=hx14.trans e45;clear hO1 hO2 hT hB hFF hjl2 hb4;go_wp2_with (at_builtin;refine y43 _ rfl (.tmp 34) (.tmp 36) 41 rfl 83 i0 _ Tryz.underlying41 hi hz0 hz1 hz2 rfl rfl hG5 (by simp;omega) hO15 hO25 rfl hb5 (by omega) ?_)
       intro v' w6 hG6 hB6 hgr6 hL6;have hx6:Ext w1 w6:=Below.trans hx145 hB6;go_wp2_with fail
       go_roundw
       case rel=> exact⟨j+1,ks++ [t,b],by omega,by go_num,hG6,HJ2.out,hx6⟩
       case measure=> simp[intOf];omega
    · have hjN:j+1=N:=by omega
      have hjz:decide ((j:Int)+1 <(N:Int))=false:=decide_eq_false (by omega);have hjz2: ¬((j:Int)+1 <(N:Int)):=by omega
      have hlp:y44 xs=some ks:=by
       rw[<-HJ.out,q135 (by rw[HN.out];exact hjN)];simp
      obtain⟨A,cap,rfl,q1,q2,hK⟩:=hG.slice;have hkl:ks.length=j*2:=hG.1;have hKL:y16 wr A ks:=InK.mono (fun b hb=> hb.2) (fun _ _=> rfl) hK;have hp2:P=if q137 ks j=l/\dfV ks j=true then some ks else none:=by
       rw[HP1.out,hlp];simp only[psO];rw[show ks.length / 2=j by omega]
      have HFD:=hdq (j77 ks j cap wr A hKL hkl q1 q2);have HDV:=hdq (fun W (hW:Ext wr W)=> q31 ks j cap W A (hKL.ext hW) hkl q1 q2);obtain⟨fv,hfv⟩: ∃fv,q137 ks j=fv:=⟨_,rfl⟩;obtain⟨dv,hdv⟩: ∃dv,dfV ks j=dv:=⟨_,rfl⟩;obtain⟨bq,hbq⟩: ∃bq,((ofL fv).toList==s.toList)=bq:=⟨_,rfl⟩;have hpb:P=if(bq && dv)=true then some ks else none:=by
       rw[hp2,hfv,hdv,<-hbq,ofL_tl,HTL.out];by_cases hq:fv=l
       · simp[hq]
       · simp[hq]
      rw[hfv] at HFD;rw[hdv] at HDV;have HPB:=hdq hpb;clear hp2 hpb hfv hdv hlp;go_wp2_with fail;refine HFD.out.mono ?_;rintro e w3 ⟨rfl,e3⟩;cases bq with
      |false=>
       have hpn:P=none:=by rw[HPB.out];rfl
       have HPN:=hdq hpn;clear hpn;go_wp2_with fail;go_ret2;exact HRET.out _ _ _ HPN.out (Nat.zero_le _) ((hx.trans e3).alloc _)
      |true=>
       go_wp2_with fail;refine(HDV.out _ e3).mono ?_;rintro e w4 ⟨rfl,e4⟩;cases dv with
       |false=>
        have hpn:P=none:=by rw[HPB.out];rfl
        have HPN:=hdq hpn;clear hpn;go_wp2_with fail;go_ret2;exact HRET.out _ _ _ HPN.out (Nat.zero_le _) (((hx.trans e3).trans e4).alloc _)
       |true=>
        have hpn:P=some ks:=by rw[HPB.out];rfl
        have HPN:=hdq hpn;clear hpn;go_wp2_with fail;go_ret2;exact⟨A,j,cap,by rw[HPN.out];rfl,q1,q2,by rw[HPN.out];exact hkl,by rw[HPN.out];exact InK.mono (fun b hb=>⟨Nat.le_trans hs1 hb.1,Nat.lt_of_lt_of_le hb.2 (e3.trans e4).size⟩) (fun b hb=>(e3.trans e4).heap b hb.2) hK,(hx.trans e3).trans e4⟩
end Go.Proofs.YtdkamgafpphdjaaGreat
