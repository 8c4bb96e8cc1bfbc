/-
  Lemmas towards the law, 28: RedP, Sub1.
-/
import Derived.Test.YtdkamgafpphdjaaGreatTAZ
namespace Go.Proofs.YtdkamgafpphdjaaGreat
open Go.RowKit
set_option linter.unusedVariables false
def conA(t:Tr)(p:List Int):Tr:=match atT t p with
 |some u=> putA t p (ctrT u)
 |none=> j14
def rdxA(t:Tr)(p:List Int):Bool:=match atT t p with
 |some u=> q106 u
 |none=> false
def conV(t:Tr)(p:List Int):Tr×Bool:=if valid sigT (conA t p)=true then(conA t p,true) else(j14,false)
def stepO(t:Tr):Tr×Int:=match outT t with
 |none=>(t,0)
 |some p=> if valid sigT (conA t p)=true then(conA t p,1) else(j14,2)
def nrmC:Nat->Tr->Tr×Int
 |0,t=> match outT t with
  |none=>(t,0)
  |some _=>(j14,1)
 |f+1,t=> match outT t with
  |none=>(t,0)
  |some p=> if valid sigT (conA t p)=true then nrmC f (conA t p) else(j14,2)
def q136(t:Tr)(f:Int):Tr×Int:=if(valid sigT t && inR f 0 200)=true then nrmC f.toNat t else(j14,3)
def y96(a b:Tr)(f:Int):Int:=if(valid sigT a &&(valid sigT b && inR f 0 200))=true then(if a=b then 1 else if(nrmC f.toNat a).2=0/\(nrmC f.toNat b).2=0 then(if(nrmC f.toNat a).1=(nrmC f.toNat b).1 then 1 else 2) else 3) else 0
theorem q104{t:Tr}{p:List Int}(h:rdxA t p=true): ∃u,atT t p=some u/\q106 u=true:=by
 unfold rdxA at h;cases e:atT t p with
 |none=> rw[e] at h;cases h
 |some u=> rw[e] at h;exact⟨u,rfl,h⟩
theorem j83{k n:Int}{ks:List Tr}:q106 (.mk k n ks)=true↔rdx k ks≠0:=by simp[q106,rdxT]
theorem y201{ks:List Tr}: ∀{i:Nat} {x:Tr},Par (kd ks i) x->Pars ks (ks.set i x):=by
 induction ks with
 |nil=> intro i x _;exact .nil
 |cons t ts ih=>
  intro i x h;cases i with
  |zero=> exact .cons h (Pars.refl ts)
  |succ i=> exact .cons (Par.refl t) (ih h)
theorem q187: ∀(p:List Int) (t u u':Tr),atT t p=some u->Par u u'->Par t (putA t p u')
 | [],t,u,u',h,hp=> by
  have e:t=u:=by cases t;simpa[atT] using h
  subst e;rw[y83];exact hp
 |i::r, .mk k n ks,u,u',h,hp=> by
  rw[atT] at h
  split at h
  · rw[putA]
    exact .node (y201 (q187 r _ u u' h hp))
  · cases h
theorem par_ctr{u:Tr}(h:q106 u=true):Par u (ctrT u):=by
 obtain⟨k,n,ks⟩:=u;exact .red (j83.1 h) (Pars.refl ks)
theorem q181{t:Tr}{p:List Int}(h:rdxA t p=true):Par t (conA t p):=by
 obtain⟨u,h1,h2⟩:=q104 h;unfold conA;rw[h1];exact q187 p t u _ h1 (par_ctr h2)
mutual
theorem y143: ∀(t:Tr) (p:List Int),outT t=some p->rdxA t p=true
 | .mk k n ks,p,h=> by
  rw[outT] at h
  split at h
  · obtain⟨j,r,rfl,h1,h2⟩:=q149 ks 0 p h
    unfold rdxA at h2⊢;rw[atT,if_pos ⟨by omega,by omega⟩];rw[show(((0+j:Nat):Int)).toNat=j by omega];exact h2
  · rename_i h0
    cases h
    unfold rdxA;rw[show atT (.mk k n ks) []=some (.mk k n ks) from rfl];exact j83.2 h0
theorem q149: ∀(ks:List Tr) (i:Nat) (p:List Int),j53 i ks=some p-> ∃(j:Nat) (r:List Int),p=((i+j:Nat):Int)::r/\j < ks.length/\rdxA (kd ks j) r=true
 | [],i,p,h=> by rw[j53] at h;cases h
 |t::ts,i,p,h=> by
  rw[j53] at h;cases e:outT t with
  |some q=>
   rw[e] at h;cases h
   exact⟨0,q,rfl,by simp,y143 t q e⟩
  |none=>
   rw[e] at h;obtain⟨j,r,rfl,h1,h2⟩:=q149 ts (i+1) p h;exact⟨j+1,r,by rw[show i+1+j=i+(j+1) by omega],by simpa using h1,h2⟩
end
theorem j57: ∀(f:Nat) (t x:Tr),valid sigT t=true->nrmC f t=(x,0)->Reds t x/\nrm x=true/\valid sigT x=true
 |0,t,x,hv,h=> by
  unfold nrmC at h;cases e:outT t with
  |none=>
   rw[e] at h;cases h
   have:=j115 t;rw[e] at this;exact⟨.refl _,by simpa using this.symm,hv⟩
  |some p=> rw[e] at h;cases h
 |f+1,t,x,hv,h=> by
  unfold nrmC at h;cases e:outT t with
  |none=>
   rw[e] at h;cases h
   have:=j115 t;rw[e] at this;exact⟨.refl _,by simpa using this.symm,hv⟩
  |some p=>
   rw[e] at h;simp only at h
   split at h
   · rename_i hc
     obtain⟨h1,h2⟩:=j57 f _ x hc h;exact⟨(Reds.one (q181 (y143 t p e))).trans h1,h2⟩
   · cases h
theorem j149{t u:Tr}{p:List Int}(h:valid sigT t=true)(e:atT t p=some u):valid sigT u=true:=by
 obtain⟨h1,h2⟩:=q12 h;have h3:=q125 p t u e;have h4:=j101 p t u 30 h1 e;unfold valid;rw[y65 h4 (by omega),Bool.true_and,decide_eq_true_eq];omega
theorem y178{t:Tr}{p:List Int}{u:Tr}(h:atT t p=some u)(hv:valid sigT (conA t p)=true):valid sigT (ctrT u)=true:=by
 unfold conA at hv;rw[h] at hv;exact j149 hv (q156 p t (ctrT u) u h).1
end Go.Proofs.YtdkamgafpphdjaaGreat
namespace Go.Proofs.YtdkamgafpphdjaaGreat
open Go.RowKit
set_option linter.unusedVariables false
def SbI(p1 p2 p3 B:Nat)(x ku nu:Int)(Au:Option Addr)(lu cu:Nat)(w:World)(s:Bool):Prop:=(p1 < B/\p2 < B/\p3 < B)/\w.heap[p1]? =some (.cells #[.int .i64 x] 3 (0,0))/\w.heap[p2]? =some (.cells #[.int .i64 ku, .int .i64 nu, .slice Au lu cu] 25 (0,0))/\w.heap[p3]? =some (.cells #[.bool s] 4 (0,0))
set_option maxRecDepth 100000 in
theorem subst1(a:World)(p1 p2 p3 B:Nat)(x ku nu:Int)(Au:Option Addr)(kus:List Tr)(cu:Nat)(hinu:Lies a (.mk ku nu kus) (.agg #[.int .i64 ku, .int .i64 nu, .slice Au kus.length cu]))(hvu:valid sigT (.mk ku nu kus)=true)(h13:p1≠p3)(h23:p2≠p3)(hx0:0<=x)(hx1:x<=1000):
 Chg_sb a p1 p2 p3 [p3] (SbI p1 p2 p3 B x ku nu Au kus.length cu) (gsb (.mk ku nu kus) x) (hsb (.mk ku nu kus) x):=by
 intro w s n b ha hI hn0 hn1 hb0 hb1;obtain⟨hpB,i1,i2,i3⟩:=hI;have c1:=y10 i1 0;obtain⟨y0,y1,y2,-,-,-⟩:=own3 i2;have c3:=y10 i3 0;have l1:=q10 i1;have l2:=q10 i2;have l3:=q10 i3;have H1:=hdq i1;have H2:=hdq i2;have H3:=hdq i3;have HV:=hdq (fun m W=> j46 m W);have HS:=hdq (fun W (hW:Ext w W)=> j82 (.mk ku nu kus) b 0 W _ (hinu.ext (ha.trans hW)) hvu hb0 hb1 (by omega) (by omega));have hg:gsb (.mk ku nu kus) x n b=if n - b=x then okT (shfT b (.mk ku nu kus) 0) else .mk 1 (if x < n - b then n - 1 else n) []:=rfl
 have hh:hsb (.mk ku nu kus) x n b=if n - b=x then valid sigT (shfT b (.mk ku nu kus) 0) else true:=rfl
 rw[hg,hh];clear hg hh;by_cases h:n - b=x
 · rw[if_pos h,if_pos h]
   have d1:(n - b==x)=true:=beq_iff_eq.2 h;clear h HV;generalize valid sigT (shfT b (.mk ku nu kus) 0)=vb at HS⊢;generalize okT (shfT b (.mk ku nu kus) 0)=rt at HS⊢;clear i1 i2 i3;have hx:=(xr w).alloc (.cells #[.int .i64 0, .int .i64 0, .slice none 0 0] 25);have hbR:=heap_alloc_new w (.cells #[.int .i64 0, .int .i64 0, .slice none 0 0] 25);go_enter Tryz.func182,Tryz.ntmps182;go_wp2_with fail;refine(HS.out _ hx).mono ?_;rintro e w1 ⟨u,rfl,hM,e1⟩;obtain⟨a1,a2,a3,a4,a5,rfl⟩:=hM.three';have q3:=(hx.trans e1).blk H3.out;have g3:=y10 q3 0;have f3:=y12 q3 0;have g4:=q10 q3;have qR:=e1.blk hbR;obtain⟨s0,s1,s2,f0,f1,f2⟩:=own3 qR;have gR:=q10 qR;clear c1 c3 y0 y1 y2 HS;cases s <;> cases vb
   all_goals go_wp2_with fail
   all_goals(
    have o2:=fun r=>(((((oE (L:= [p3]) (hx.trans e1)).setCell (p:=⟨p3,0,none⟩) (by simp) r).setNew (p:=⟨w.heap.size,0,none⟩) (Nat.le_refl _) (.int .i64 a1)).setNew (p:=⟨w.heap.size,1,none⟩) (Nat.le_refl _) (.int .i64 a2)).setNew (p:=⟨w.heap.size,2,none⟩) (Nat.le_refl _) (.slice a3 a4 a5)).alloc (.cells #[.int .i64 a1, .int .i64 a2, .slice a3 a4 a5] 25)
    have hz:(w.alloc (.cells #[.int .i64 0, .int .i64 0, .slice none 0 0] 25)).heap.size=w.heap.size+1:=by simp
    refine bodyPost_ret (v:= .agg #[.int .i64 a1, .int .i64 a2, .slice a3 a4 a5]) (by simp[results,Tryz.results182,go_sem,s0,s1,s2,gR]) rfl ⟨_,rfl, ?_,o2 _,hpB,(o2 _).blk H1.out (by simpa using h13),(o2 _).blk H2.out (by simpa using h23), ?_⟩
    · exact((hM.after ((((y28.refl _ _).setCell (p:=⟨p3,0,none⟩) (by show p3 < _;omega) _).setCell (p:=⟨w.heap.size,0,none⟩) (by show w.heap.size < _;omega) _).setCell (p:=⟨w.heap.size,1,none⟩) (by show w.heap.size < _;omega) _|>.setCell (p:=⟨w.heap.size,2,none⟩) (by show w.heap.size < _;omega) _)).ext ((xr _).alloc _)).since (by omega)
    · rw[Below.heap_alloc _ _ _ (by simp;omega),Below.heap_setCell _ _ _ _ (by show p3≠w.heap.size;omega),Below.heap_setCell _ _ _ _ (by show p3≠w.heap.size;omega),Below.heap_setCell _ _ _ _ (by show p3≠w.heap.size;omega),q11 q3 0 _]
      rfl)
 · rw[if_neg h,if_neg h,Bool.and_true]
   have d1:(n - b==x)=false:=beq_eq_false_iff_ne.2 h;clear HS h i1 i2 i3;by_cases h2:x < n - b
   · rw[if_pos h2]
     have d2:decide (x < n - b)=true:=decide_eq_true h2;clear h2;go_enter Tryz.func182,Tryz.ntmps182;go_wp2_with fail;refine(HV.out _ _).mono ?_;rintro e w1 ⟨rfl,e1⟩;have hb:=e1.newBlk;obtain⟨s0,s1,s2,f0,f1,f2⟩:=own3 hb;have o2:=((Only.refl [p3] w).alloc (.cells #[.int .i64 0, .int .i64 0, .slice none 0 0] 25)).trans (oE e1);have q4:=(Ext.blk e1.pre H3.out);clear hb;go_wp2_with fail;refine bodyPost_ret (v:= .agg #[.int .i64 1, .int .i64 (n - 1), .slice none 0 0]) (by simp[results,Tryz.results182,go_sem,s0,s1,s2]) rfl ⟨_,rfl,Made.leaf _ _ _ _ _, ?_,hpB, ?_, ?_, ?_⟩
     · exact(((o2.setNew (by simp) _).setNew (by simp) _).setNew (by simp) _)
     · exact(((o2.setNew (by simp) _).setNew (by simp) _).setNew (by simp) _).blk H1.out (by simpa using h13)
     · exact(((o2.setNew (by simp) _).setNew (by simp) _).setNew (by simp) _).blk H2.out (by simpa using h23)
     · rw[Below.heap_setCell _ _ _ _ (by show p3≠w.heap.size;omega),Below.heap_setCell _ _ _ _ (by show p3≠w.heap.size;omega),Below.heap_setCell _ _ _ _ (by show p3≠w.heap.size;omega),q4]
   · rw[if_neg h2]
     have d2:decide (x < n - b)=false:=decide_eq_false h2;clear h2;go_enter Tryz.func182,Tryz.ntmps182;go_wp2_with fail;refine(HV.out _ _).mono ?_;rintro e w1 ⟨rfl,e1⟩;have hb:=e1.newBlk;obtain⟨s0,s1,s2,f0,f1,f2⟩:=own3 hb;have o2:=((Only.refl [p3] w).alloc (.cells #[.int .i64 0, .int .i64 0, .slice none 0 0] 25)).trans (oE e1);have q4:=(Ext.blk e1.pre H3.out);clear hb;go_wp2_with fail;refine bodyPost_ret (v:= .agg #[.int .i64 1, .int .i64 n, .slice none 0 0]) (by simp[results,Tryz.results182,go_sem,s0,s1,s2]) rfl ⟨_,rfl,Made.leaf _ _ _ _ _, ?_,hpB, ?_, ?_, ?_⟩
     · exact(((o2.setNew (by simp) _).setNew (by simp) _).setNew (by simp) _)
     · exact(((o2.setNew (by simp) _).setNew (by simp) _).setNew (by simp) _).blk H1.out (by simpa using h13)
     · exact(((o2.setNew (by simp) _).setNew (by simp) _).setNew (by simp) _).blk H2.out (by simpa using h23)
     · rw[Below.heap_setCell _ _ _ _ (by show p3≠w.heap.size;omega),Below.heap_setCell _ _ _ _ (by show p3≠w.heap.size;omega),Below.heap_setCell _ _ _ _ (by show p3≠w.heap.size;omega),q4]
set_option maxRecDepth 100000 in
theorem y132(t:Tr)(x:Int)(u:Tr)(w:World)(v vu:Value)(hin:Lies w t v)(hv:valid sigT t=true)(hinu:Lies w u vu)(hvu:valid sigT u=true)(hx0:0<=x)(hx1:x<=1000):
 Calls Tryz.prog 136 #[v, .int .i64 x,vu] w fun e w'=> ∃r,e= .returned (.tuple #[r, .bool (valid sigT (sbsT u t x 0))])/\Made w w' 25 (okT (sbsT u t x 0)) r/\Ext w w':=by
 obtain⟨hs,hcn⟩:=q12 hv;obtain⟨hw1,hw2⟩:=q189 (x:=x) (q12 hvu).2 hv;obtain⟨vb,hvb⟩: ∃vb,vb=valid sigT (sbsT u t x 0):=⟨_,rfl⟩;obtain⟨rt,hrt⟩: ∃rt,rt=okT (sbsT u t x 0):=⟨_,rfl⟩;rw[<-hvb,<-hrt];have hrt2:allT (hsb u x) t 0=true->rt=okT (chgT (gsb u x) t 0):=fun h=> by rw[hw2 h];exact hrt
 have hrt3:vb=false->rt=j14:=fun h=> by rw[hrt];unfold okT;rw[<-hvb,h];rfl
 have hcu:=(q12 hvu).2;obtain⟨ku,nu,kus⟩:=u;obtain⟨Au,cu,rfl,hlu,hcu',-⟩:=Lies.mk_iff.1 hinu;have hCH:=fun W (hW:Ext w W) p1 p2 p3 (hp:w.heap.size<=p3) (h13:p1≠p3) (h23:p2≠p3) (h1:W.heap[p1]? =some (.cells #[.int .i64 x] 3 (0,0))) (h2:W.heap[p2]? =some (.cells #[.int .i64 ku, .int .i64 nu, .slice Au kus.length cu] 25 (0,0))) (h3:W.heap[p3]? =some (.cells #[.bool true] 4 (0,0)))=>
  y105 t w W v 0 30 p1 p2 p3 [p3] W.heap.size (SbI p1 p2 p3 W.heap.size x ku nu Au kus.length cu) (gsb (.mk ku nu kus) x) (hsb (.mk ku nu kus) x) true hs hin hW (fun x hx=> by rw[List.mem_singleton.1 hx];exact⟨hp,q10 h3⟩) (by omega) (by omega)
   (subst1 w p1 p2 p3 _ x ku nu Au kus cu hinu hvu h13 h23 hx0 hx1) (fun w1 w2 s h he=>⟨h.1,he.blk h.2.1,he.blk h.2.2.1,he.blk h.2.2.2⟩) (Nat.le_refl _) (fun w1 w2 s h he hl=>⟨h.1,(he p1 h.1.1).trans h.2.1,(he p2 h.1.2.1).trans h.2.2.1,(he p3 h.1.2.2).trans h.2.2.2⟩) ⟨⟨q10 h1,q10 h2,q10 h3⟩,h1,h2,h3⟩
 simp only[Bool.true_and] at hCH;rw[<-hvb] at hw1;have HCH:=hdq hCH;clear hCH hw2 hs hrt hvb;generalize chgT (gsb (.mk ku nu kus) x) t 0=r at hw1 HCH hrt2;generalize allT (hsb (.mk ku nu kus) x) t 0=f at hw1 HCH hrt2;obtain⟨k,n,ks⟩:=t;obtain⟨A,cap,rfl,hl,hc,hK⟩:=Lies.mk_iff.1 hin;have hE:=((((xr w).alloc (.cells #[.int .i64 k, .int .i64 n, .slice A ks.length cap] 25)).alloc (.cells #[.int .i64 x] 3)).alloc (.cells #[.int .i64 ku, .int .i64 nu, .slice Au kus.length cu] 25)).alloc (.cells #[.int .i64 0, .int .i64 0, .slice none 0 0] 25);have hbb:=blk4 ((xr ((((w.alloc (.cells #[.int .i64 k, .int .i64 n, .slice A ks.length cap] 25)).alloc (.cells #[.int .i64 x] 3)).alloc (.cells #[.int .i64 ku, .int .i64 nu, .slice Au kus.length cu] 25)).alloc (.cells #[.int .i64 0, .int .i64 0, .slice none 0 0] 25))).alloc (.cells #[.bool true] 4));have hb5:=heap_alloc_new ((((w.alloc (.cells #[.int .i64 k, .int .i64 n, .slice A ks.length cap] 25)).alloc (.cells #[.int .i64 x] 3)).alloc (.cells #[.int .i64 ku, .int .i64 nu, .slice Au kus.length cu] 25)).alloc (.cells #[.int .i64 0, .int .i64 0, .slice none 0 0] 25)) (.cells #[.bool true] 4);have hE5:=hE.alloc (.cells #[.bool true] 4);have hsz:(((((w.alloc (.cells #[.int .i64 k, .int .i64 n, .slice A ks.length cap] 25)).alloc (.cells #[.int .i64 x] 3)).alloc (.cells #[.int .i64 ku, .int .i64 nu, .slice Au kus.length cu] 25)).alloc (.cells #[.int .i64 0, .int .i64 0, .slice none 0 0] 25)).alloc (.cells #[.bool true] 4)).heap.size=w.heap.size+1+1+1+1+1:=by simp
 obtain⟨hb1,hb2,hb3,hb4,-⟩:=hbb;simp only[World.size_alloc] at hb5;go_enter Tryz.func136,Tryz.ntmps136;go_wp2_with fail;generalize World.alloc _ _=wa at hE5 hb1 hb2 hb3 hb4 hb5 hsz;clear hE;refine(HCH.out wa hE5 _ _ _ (by omega) (by omega) (by omega) hb2 hb3 hb5).mono ?_;rintro e w1 ⟨u,rfl,hM,ho,hI⟩;obtain⟨k2,n2,ks2⟩:=r;obtain⟨A2,c2,rfl,hl2,hc2,hMK2⟩:=Made.mk_iff.1 hM;have hb4':=ho.blk hb4 (by simp);have i3:=hI.2.2.2;have hc5:=y10 i3 0;have hlt5:=q10 i3;have hlt4:=q10 hb4';have hso:=ho.size;have hEw:Ext w w1:=ho.ext hE5 (fun x hx=> by rw[List.mem_singleton.1 hx];omega);obtain⟨s0,s1,s2,f0,f1,f2⟩:=own3 hb4';clear HCH hb1 hb2 hb3 hb4 hb5 hI i3;have hx:=(xr w1).alloc (.cells #[.int .i64 k2, .int .i64 n2, .slice A2 ks2.length c2] 25);cases f with
 |false=>
  rw[Bool.false_and] at hw1;have H1:=hdq hw1.symm;have H2:=hdq (hrt3 hw1.symm);clear hw1 hrt2 hrt3;go_wp2_with fail;refine bodyPost_ret (v:= .tuple #[.agg #[.int .i64 0, .int .i64 0, .slice none 0 0], .bool false]) (by simp[results,Tryz.results136,go_sem,s0,s1,s2,hlt4]) rfl ⟨.agg #[.int .i64 0, .int .i64 0, .slice none 0 0],by rw[H1.out],by rw[H2.out];exact Made.leaf _ _ _ _ _, ?_⟩;exact(((hEw.setCell (by simp;omega) _).setCell (by simp;omega) _).setCell (by simp;omega) _).alloc _
 |true=>
  rw[Bool.true_and] at hw1;have HV:=hdq (fun W (hW:Ext w1 W)=> q100 k2 n2 ks2 A2 c2 W (hM.lies.ext hW));generalize hok:valid sigT (.mk k2 n2 ks2)=b at HV;have hO:rt=if b=true then .mk k2 n2 ks2 else j14:=by rw[hrt2 rfl];unfold okT;rw[hok]
  rw[hok] at hw1;have H1:=hdq hw1.symm;have H2:=hdq hO;clear hO hw1 hok hrt2 hrt3;go_wp2_with fail;refine(HV.out _ hx).mono ?_;cases b with
  |true=>
   simp only[if_true];rintro e w2 ⟨rfl,e2⟩;obtain⟨q0,q1,q2,g0,g1,g2⟩:=own3 ((hx.trans e2).blk hb4');go_wp2_with fail;refine bodyPost_ret (v:= .tuple #[.agg #[.int .i64 k2, .int .i64 n2, .slice A2 ks2.length c2], .bool true]) (by simp[results,Tryz.results136,go_sem,q0,q1,q2]) rfl ⟨.agg #[.int .i64 k2, .int .i64 n2, .slice A2 ks2.length c2],by rw[H1.out], ?_, ?_⟩
   · rw[H2.out]
     simp only[if_true];exact Made.since (((hM.ext (hx.trans e2)).after ((((y28.refl _ _).setCell (by simp;omega) _).setCell (by simp;omega) _).setCell (by simp;omega) _))) (by omega)
   · exact(((((hEw.trans hx).trans e2).setCell (by simp;omega) _).setCell (by simp;omega) _).setCell (by simp;omega) _)
  |false=>
   simp only[Bool.false_eq_true,if_false];rintro e w2 ⟨rfl,e2⟩;obtain⟨q0,q1,q2,g0,g1,g2⟩:=own3 ((hx.trans e2).blk hb4');go_wp2_with fail;refine bodyPost_ret (v:= .tuple #[.agg #[.int .i64 0, .int .i64 0, .slice none 0 0], .bool false]) (by simp[results,Tryz.results136,go_sem,q0,q1,q2]) rfl ⟨.agg #[.int .i64 0, .int .i64 0, .slice none 0 0],by rw[H1.out],by rw[H2.out];exact Made.leaf _ _ _ _ _, ?_⟩;exact(((((hEw.trans hx).trans e2).setCell (by simp;omega) _).setCell (by simp;omega) _).setCell (by simp;omega) _)
end Go.Proofs.YtdkamgafpphdjaaGreat
