/-
  Lemmas towards the law, 12: Plc, Chg, Subst2.
-/
import Derived.Test.YtckhbnmfnpolgaaGreatCAK
open Nat renaming le_refl->aN,zero_add->fN,zero_le->bV
open List renaming length_cons->cN,getElem_cons_succ->bR,drop_eq_getElem_cons->cL,length_take->dM,length_append->cR,length_singleton->cT,take_of_length_le->fU,drop_of_length_le->cV
open Go renaming World->aL,Value->aT,bodyPost_ret->aP,results->aR,heap_alloc_new->aS
open Go.RowKit.Below renaming heap_setCell->aM,heap_alloc->gM
open Go.IntWalk renaming i64_in->eL
open Go.World renaming block_lt_of_cell?->bU
open Go.Proofs.Tryz
set_option linter.all false
set_option maxHeartbeats 20000000
set_option maxRecDepth 100000
namespace Go.Proofs.YtckhbnmfnpolgaaGreat
mutual
def Tw(p:Tr->Bool):Tr->Nat
 | .mk k n a=>(if p (.mk k n a)=true then 1 else 0)+Oj p a
def Oj(p:Tr->Bool):List Tr->Nat
 | []=> 0
 |t::ts=> Tw p t+Oj p ts
end
mutual
theorem Lo(p:Tr->Bool): ∀t:Tr,Tw p t<=cnt t
 | .mk k n a=> by
  rw[Tw,cnt];have:=Qy p a
  split <;> omega
theorem Qy(p:Tr->Bool): ∀a:List Tr,Oj p a<=W1 a
 | []=> by rw[Oj,W1];exact aN _
 |t::ts=> by
  rw[Oj,W1];have:=Lo p t;have:=Qy p ts;omega
end
def Hf(t:Tr):Bool:=Y3 t !=0
def aa:Tr->List Int->Option Tr
 |t, []=> some t
 | .mk _ _ a,i::r=> if 0<=i/\i < a.length then aa (kd a i.toNat) r else none
theorem VC(t:Tr)(ts:List Tr)(i:Nat):kd (t::ts) (i+1)=kd ts i:=rfl
theorem Xi{ks:List Tr}{i:Nat}(h:i < ks.length):kd ks i∈ks:=by
 unfold kd;rw[List.getD_eq_getElem?_getD,List.getElem?_eq_getElem h];exact List.getElem_mem h
theorem oB{g:Wc}: ∀(a:List Int) (t u:Tr) (d:Int),P0 g t d=true->aa t a=some u->P0 g u (d - a.length)=true
 | [],t,u,d,h,e=> by
  have e:t=u:=by cases t;simpa[aa] using e
  subst e
  simpa using h
 |i::a,.mk k n c,u,d,h,e=> by
  rw[aa] at e
  split at e
  · rename_i hi
    have b:=(zw h).2.2.2 (kd c i.toNat) (Xi (by omega));have:=oB a _ u (d - 1) b e;rw[cN,show d -((a.length+1:Nat):Int)=d - 1 - a.length by omega];exact this
  · cases e
theorem FA{g:Wc}{t:Tr}{d:Int}(h:P0 g t d=true):1<=d:=by
 obtain⟨k,n,a⟩:=t;simp only[P0,Bool.and_eq_true,decide_eq_true_eq] at h;exact h.1
mutual
def outT:Tr->Option (List Int)
 | .mk k n a=> if rdx k a=0 then Mc 0 a else some []
def Mc:Nat->List Tr->Option (List Int)
 |_, []=> none
 |i,t::ts=> match outT t with
  |some p=> some ((i:Int)::p)
  |none=> Mc (i+1) ts
end
mutual
theorem Wv: ∀t:Tr,(outT t).isSome= !Ul t
 | .mk k n a=> by
  rw[outT,Ul];by_cases h:rdx k a=0
  · rw[if_pos h,Sz a 0]
    simp[h]
  · rw[if_neg h]
    simp[h]
theorem Sz: ∀(a:List Tr) (i:Nat),(Mc i a).isSome= !ff a
 | [],i=> by rw[Mc,ff];rfl
 |t::ts,i=> by
  have h:=Wv t;rw[Mc,ff];cases e:outT t with
  |some p=> rw[e] at h;simp at h;simp[h]
  |none=> rw[e] at h;simp at h;simp[h,Sz ts (i+1)]
end
theorem ew: ∀(t:Tr) (d:Int),P0 D0 t d=true-> ∀p,outT t=some p->(p.length:Int)<=d:=Tr.ind fun k n c hk=> by
 intro d h p e;have hd:=FA h;rw[outT] at e
 split at e
 · have key: ∀(i:Nat) (ts:List Tr),(∀t∈ts,t∈c)->Mc i ts=some p->(p.length:Int)<=d:=by
    intro i ts
    induction ts generalizing i with
    |nil=> intro _ h;rw[Mc] at h;cases h
    |cons t ts ih=>
     intro hm a;rw[Mc] at a;cases b:outT t with
     |some q=>
      rw[b] at a;simp only[Option.some.injEq] at a;subst a;have:=hk t (hm t (by simp)) (d - 1) ((zw h).2.2.2 t (hm t (by simp))) q b;simp only[cN];omega
     |none=>
      rw[b] at a;exact ih (i+1) (fun t ht=> hm t (by simp[ht])) a
   exact key 0 c (fun _ h=> h) e
 · simp only[Option.some.injEq] at e
   subst e;simp
   omega
end Go.Proofs.YtckhbnmfnpolgaaGreat
namespace Go.Proofs.YtckhbnmfnpolgaaGreat
open Go.RowKit
attribute [local go_sem ↓] Go.wp_at_zero Go.wp_at_succ
attribute [local go_sem] Ux
theorem AE(g:Int->Int->Tr): ∀(k:Int) (ts:List Tr) (i:Nat) (b:Int),(Og g k ts i b).length=ts.length
 |_, [],_,_=> rfl
 |k,t::ts,i,b=> by simp[Og,AE g k ts (i+1) b]
theorem Qs(g:Int->Int->Tr): ∀{k:Int} {ts:List Tr} {i j:Nat} {b:Int} (h:j < ts.length),(Og g k ts i b)[j]'(by rw[AE];exact h)=P8 g ts[j] (b+E4 k (i+j))
 |k,t::ts,i,0,b,h=> by simp[Og]
 |k,t::ts,i,j+1,b,h=> by
  simp only[Og,bR];rw[Qs g (j:=j) (by simpa using h),show i+1+j=i+(j+1) by omega]
def Gk(a:aL)(d i f:Nat)(L:List Nat)(Inv:aL->Bool->Prop)(g:Int->Int->Tr)(h:Int->Int->Bool):Prop:=
 ∀(w:aL) (s:Bool) (n b:Int),Ext a w->Inv w s->0<=n->n<=20->0<=b->b<=1000->Calls prog 136 #[.int .i64 n,.int .i64 b,.pointer (some ⟨d,0,none⟩),.pointer (some ⟨i,0,none⟩),.pointer (some ⟨f,0,none⟩)] w fun e c=> ∃u,e= .returned u/\W0 w c 25 (g n b) u/\D1 L w c/\Inv c (s && h n b)
def Gq(t:Tr):Prop:= ∀(a w:aL) (v:aT) (b d:Int) (k l j:Nat) (L:List Nat) (B:Nat) (Inv:aL->Bool->Prop) (g:Int->Int->Tr) (h:Int->Int->Bool) (s:Bool),
 P0 D0 t d=true->Lies a t v->Ext a w->(∀x,x∈L->a.heap.size<=x/\x < w.heap.size)->0<=b->b+cnt t<=1000->
 Gk a k l j L Inv g h->(∀f c s,Inv f s->Ext f c->Inv c s)->B<=w.heap.size->(∀f c s,Inv f s->(∀x,x < B->c.heap[x]? =f.heap[x]?)->f.heap.size<=c.heap.size->Inv c s)->Inv w s->
 Calls prog 135 #[v,.int .i64 b,.func (.func 136) #[] #[.pointer (some ⟨k,0,none⟩),.pointer (some ⟨l,0,none⟩),.pointer (some ⟨j,0,none⟩)]] w fun e i=> ∃u,e= .returned u/\W0 w i 25 (P8 g t b) u/\D1 L w i/\Inv i (s && g8 h t b)
theorem BJ: ∀t:Tr,Gq t:=Tr.ind fun k n f hk=> by
 intro a w v b d p1 p2 p3 L B Inv g h s hsh b8 ha hL hb0 hb1 hT y hB fx U;obtain⟨A,cap,rfl,hl,hc,hK⟩:=Lies.mk_iff.1 b8;obtain⟨-,N7,Q8,hsk⟩:=Z4 hsh;obtain⟨i0,hi,hz0,hz1,hz2⟩:=info_parts Pq;have hlc:=Lf f;have hcc:=hc;unfold maxLen at hcc;simp only[cnt] at hb1;have Y0:=Zi k;obtain⟨b1,d1⟩: ∃b1,(k==1)=b1:=⟨_,rfl⟩;have um: ∀x,x∈L->x < w.heap.size:=fun x hx=>(hL x hx).2
 have R:Ext w ((w.alloc (.cells #[.int .i64 k,.int .i64 n,.slice A f.length cap] 25)).alloc (.cells #[.int .i64 0,.int .i64 0,.slice none 0 0] 25)):=((xr w).alloc _).alloc _;obtain⟨S8,F3,hs1⟩:=blk2 (xr ((w.alloc (.cells #[.int .i64 k,.int .i64 n,.slice A f.length cap] 25)).alloc (.cells #[.int .i64 0,.int .i64 0,.slice none 0 0] 25)));have wl:((w.alloc (.cells #[.int .i64 k,.int .i64 n,.slice A f.length cap] 25)).alloc (.cells #[.int .i64 0,.int .i64 0,.slice none 0 0] 25)).heap.size=w.heap.size+2:=by simp
 cases b1 with
 |true=>
  obtain rfl:k=1:=by simpa using d1
  have e1:P8 g (.mk 1 n f) b=g n b:=by unfold P8;rw[if_pos rfl]
  have e2:g8 h (.mk 1 n f) b=h n b:=by unfold g8;rw[if_pos rfl]
  rw[e1,e2];have ig:=hdq (hT _ s n b (ha.trans R) (y _ _ _ U R) N7 (by omega) hb0 (by omega));clear e1 e2 hT y U;go_enter func135,ntmps135;go_wp2_with fail;refine ig.out.mono ?_;rintro e F ⟨u,rfl,T,D,U⟩;obtain⟨a1,a2,a3,a4,a5,rfl⟩:=T.three';have hb2:=(D.block _ (by omega) (fun hm=> by have:=um _ hm;omega)).trans F3;obtain⟨s0,s1,Q,f0,f1,f2⟩:=own3 hb2;have Lm:=D.size;clear ig S8 F3 hb2;go_wp2_with fail;refine aP (v:= .agg #[.int .i64 a1,.int .i64 a2,.slice a3 a4 a5]) (by simp[aR,results135,go_sem,s0,s1,Q]) rfl ⟨_,rfl, ?_, ?_, ?_⟩
  · exact W0.since (T.after ((((ja.refl _ _).setCell (by simp) _).setCell (by simp) _).setCell (by simp) _)) (by simp;omega)
  · have z:=(oE (L:=L) R).trans D
    refine⟨z.os,z.tape,z.output,by simpa using z.size,fun x hx hn=> ?_⟩;rw[aM _ _ _ _ (by simp;omega),aM _ _ _ _ (by simp;omega),aM _ _ _ _ (by simp;omega)];exact z.block x hx hn
  · refine fx _ _ _ U (fun x hx=> ?_) (by simp)
    rw[aM _ _ _ _ (by simp;omega),aM _ _ _ _ (by simp;omega),aM _ _ _ _ (by simp;omega)]
 |false=>
  have tv:k≠1:=by simpa using d1
  obtain⟨r,Y8⟩: ∃r,r=Og g k f 0 b:=⟨_,rfl⟩;have K:P8 g (.mk k n f) b= .mk k n r:=by
   rw[Y8]
   conv=> lhs;unfold P8
   rw[if_neg tv]
  have J:g8 h (.mk k n f) b=rd h k f 0 b:=by
   conv=> lhs;unfold g8
   rw[if_neg tv]
  have qf:r.length=f.length:=by rw[Y8,AE]
  have T5: ∀j (hj:j < f.length),r[j]'(by omega)=P8 g f[j] (b+E4 k j):=fun j hj=> by
   subst Y8;rw[Qs g hj,fN]
  rw[K,J];have W7:=hdq T5;have C:=hdq y;have Y9:=hdq fx;have M7:=hdq hT;have M:=hdq um;have uv:=hdq hL;have Kf:=hdq hsk;have Ax:=y _ _ _ U R;clear K Y8 T5 J y fx hT um hL hsk;go_enter func135,ntmps135;go_wp2_with fail;generalize d9:(w.alloc (.cells #[.int .i64 k,.int .i64 n,.slice A f.length cap] 25)).alloc (.cells #[.int .i64 0,.int .i64 0,.slice none 0 0] 25)=F at*;clear d9;obtain⟨W,hW⟩: ∃W,W=F.alloc (.cells #[.int .i64 k,.int .i64 n,.slice none 0 0] 25):=⟨_,rfl⟩;have mb:W.heap.size=w.heap.size+3:=by rw[hW];simp;omega
  have cn:Ext F W:=hW▸(xr F).alloc _;have ei:W.heap[w.heap.size+1+1]? =some (.cells #[.int .i64 k,.int .i64 n,.slice none 0 0] 25 (0,0)):=by
   have:=aS F (.cells #[.int .i64 k,.int .i64 n,.slice none 0 0] 25);rw[wl] at this;rw[hW];exact this
  rw[<-hW];have Ku:=C.out _ _ _ Ax cn;clear hW Ax U
  go_loopw [26] (fun i wr=> ∃(j:Nat) (v:aT) (Q:Bool),j<=f.length/\i= .int .i64 j/\wr.heap[w.heap.size+1+1]? =some (.cells #[.int .i64 k,.int .i64 n,v] 25 (0,0))/\N4 W wr 25 v (r.take j)/\D1 L F wr/\W.heap.size<=wr.heap.size/\Inv wr Q/\(s && rd h k f 0 b)=(Q && rd h k (f.drop j) j b)) (fun i _=> f.length -(intOf i).toNat)
  case atStart=> exact⟨0,_,s,bV _,rfl,ei,N4.nil _ _ _,oE cn,aN _,Ku,rfl⟩
  case round=>
   obtain⟨j,v,Q,hj,rfl,E8,hG,D,hle,xa,V6⟩:=hrel;have HE:=hdq V6;have X:Ext a wr:=D.ext (ha.trans R) (fun x hx=>(uv.out x hx).1);have fq:=(D.block _ (by omega) (fun hm=> by have:=M.out _ hm;omega)).trans S8;obtain⟨x0,x1,x2,-,-,-⟩:=own3 fq;clear V6;by_cases E:j < f.length
   · obtain⟨b',o,I,H,V,m,kids,rfl,HK,c0,c1,c2,I5,I3,hK',x7,e9⟩:=hK.get X E
     have mo:Lies a (.mk I H kids) (.agg #[.int .i64 I,.int .i64 H,.slice V kids.length m]):=by
      obtain⟨b2,o2,k2,n2,A2,F7,q17,S,h2,q0,O,G,h6,h7,h8,h9,h10⟩:=hK.get (xr a) E;obtain⟨rfl,rfl⟩:b'=b2/\o=o2:=by cases S;exact⟨rfl,rfl⟩
      have e3:=(X.cell q0).symm.trans c0;have e4:=(X.cell O).symm.trans c1;have e5:=(X.cell G).symm.trans c2;have e6:=h2.out.symm.trans HK.out;cases e3;cases e4;cases e6;cases e5
      exact h9
     have I0:=CE (l:=r) (j:=j) (by omega) (W7.out j E);rw[HK.out] at I0;have fz:rd h k (f.drop j) j b=(g8 h (.mk I H kids) (b+E4 k j)&& rd h k (f.drop (j+1)) (j+1) b):=by
      rw[cL E,HK.out]
      conv=> lhs;unfold rd
     have vn:=Vq k j;obtain⟨uu,hu⟩: ∃u,u=E4 k j:=⟨_,rfl⟩;have HU:=hdq (fun W=> nv k j W);rw[<-hu] at HU vn I0 fz;have jg:=hdq I0;have ux:=hdq fz;have hcm:=k9 e9;have ce:=Kf.out _ e9;have qd:(j:Int) <(f.length:Int):=by omega
     have px:=hdq (eL (b+uu) ⟨by omega,by omega⟩);have HR:=hdq (hk _ e9 a);clear hu I0 fz;have hlen:(r.take j).length < 1099511627776:=by rw[dM];omega
     have U9:(r.take j).length=j:=by rw[dM];omega
     have HL:=hdq U9;go_wp2_with fail;have hx:=(xr wr).alloc (.cells #[.int .i64 I,.int .i64 H,.slice V kids.length m] 25);have M4:=aS wr (.cells #[.int .i64 I,.int .i64 H,.slice V kids.length m] 25);obtain⟨c,hwd⟩: ∃c,c=wr.alloc (.cells #[.int .i64 I,.int .i64 H,.slice V kids.length m] 25):=⟨_,rfl⟩;rw[<-hwd] at hx M4⊢;clear hwd;have hsr:W.heap.size<=wr.heap.size:=hle;have yh:wr.heap.size < c.heap.size:=O1 M4;have zn:=hdq hG;have nt:=hx.blk E8;have ng:=hx.blk fq;have hv:=U1 nt 2;have U5:=C.out _ _ _ xa hx;have Bt:=C.out _ _ _ U5 (xr c).drew;have ki:=hx.trans (xr c).drew;have HF:=hdq (HR.out c.drew _ (b+uu) (d - 1) p1 p2 p3 L B Inv g h Q ce mo (X.trans ki) (fun x hx=>⟨(uv.out x hx).1,by have:=M.out x hx;show x < c.heap.size;omega⟩) (by omega) (by omega) M7.out C.out (by show B<=c.heap.size;omega) Y9.out Bt);have HS:=hdq (show∀q:aL,q.heap[w.heap.size]? =c.heap[w.heap.size]? ->q.heap[wr.heap.size]? =c.heap[wr.heap.size]? ->q.cell? ⟨w.heap.size,0,none⟩=some (.int .i64 k)/\q.cell? ⟨wr.heap.size,0,none⟩=some (.int .i64 I)/\q.cell? ⟨wr.heap.size,1,none⟩=some (.int .i64 H)/\q.cell? ⟨wr.heap.size,2,none⟩=some (.slice V kids.length m) from fun q S h2=> by
      have O:=S.trans ng;have G:=h2.trans M4;exact⟨U1 O 0,U1 G 0,U1 G 1,U1 G 2⟩)
     have HV:=hdq (show∀q:aL,q.heap[w.heap.size+1+1]? =c.heap[w.heap.size+1+1]? ->q.heap[w.heap.size+1+1]? =some (.cells #[.int .i64 k,.int .i64 n,v] 25 (0,0)) from fun q S=> S.trans nt);have Lb:D1 L F c:=D.trans (oE hx);clear U9 E8 hG hle hcc x0 x1 x2 c0 c1 c2 fq M4 ng X mo HR ce xa U5 Bt x7 hK';rw[show Op.load 23 (Operand.tmp 31)=Ux 23 31 from rfl]
     go_region_held_law (fun q=> q.cell? ⟨w.heap.size,0,none⟩=some (.int .i64 k)/\q.cell? ⟨wr.heap.size,0,none⟩=some (.int .i64 I)/\q.cell? ⟨wr.heap.size,1,none⟩=some (.int .i64 H)/\q.cell? ⟨wr.heap.size,2,none⟩=some (.slice V kids.length m))
      (first|exact HS.out _ ((aM _ _ _ _ (by show w.heap.size≠w.heap.size+1+1;omega)).trans Cz) ((aM _ _ _ _ (by show wr.heap.size≠w.heap.size+1+1;omega)).trans Df) |exact HS.out _ Cz Df|exact HS.out _ ((gM _ _ _ (by omega)).trans ul) ((gM _ _ _ (by omega)).trans wh) |exact HS.out _ ul wh|exact HS.out _ rfl rfl)
      (first|(go_simp;go_at_call 138;refine(HU.out _).mono ?_;rintro e wu ⟨rfl,rfl⟩) |(go_simp;go_at_call 135;(try rw[px.out]);refine HF.out.mono ?_;rintro e w4 ⟨u,rfl,T,N,Jy⟩;obtain⟨a1,a2,a3,a4,a5,rfl⟩:=T.three';have iz:c.heap.size<=w4.heap.size:=N.size;have ul:w4.heap[w.heap.size]? =c.heap[w.heap.size]? :=N.block _ (by show w.heap.size < c.heap.size;omega) (fun hm=> by have:=M.out _ hm;omega);have wh:w4.heap[wr.heap.size]? =c.heap[wr.heap.size]? :=N.block _ yh (fun hm=> by have:=M.out _ hm;omega);have Ai:w4.heap[w.heap.size+1+1]? =c.heap[w.heap.size+1+1]? :=N.block _ (by show w.heap.size+1+1 < c.heap.size;omega) (fun hm=> by have:=M.out _ hm;omega);have hv4:=U1 (HV.out _ Ai) 2;have Lj:=bU _ _ hv4) |(refine MJ _ (by rfl) (.tmp 32) (.tmp 42) _ (by rfl) 25 i0 _ underlying23 hi hz0 hz1 hz2 rfl (by rfl) zn.out (by omega) (by omega) (fun x S h2=>(N.block x (by show x < c.heap.size;omega) (fun hm=> by have:=M.out _ hm;omega)).trans (hx.heap x h2)) (T.since (by show wr.heap.size<=c.heap.size;omega)) ((xr _).alloc _) (by rfl) (aS _ _) hlen ?_;intro v' P C3 Z Js;obtain⟨B5,c5,rfl,O,G,-⟩:=C3.made;have Cz:P.heap[w.heap.size]? =c.heap[w.heap.size]? :=(Z.block _ (by omega)).trans ul;have Df:P.heap[wr.heap.size]? =c.heap[wr.heap.size]? :=(Js _ (by show wr.heap.size<=_;omega) (by omega)).trans wh;have ww:=HV.out _ ((Z.block _ (by omega)).trans Ai);have kr:=U1 ww 2;have ui:=ib ww 2))
     all_goals(
      have Y:D1 L F P:=(Lb.trans ((oE (xr c).drew).trans N)).below Z (by omega);have hs5:=Z.size;rw[cR,cT,HL.out,jg.out] at C3;have jh:=fun u=> C3.after ((ja.refl W.heap.size P).setCell (p:=⟨w.heap.size+1+1,2,none⟩) (by show w.heap.size+1+1 < W.heap.size;omega) u)
      have Ir:=fun u=> Y9.out w4 (P.setCell ⟨w.heap.size+1+1,2,none⟩ u) _ Jy (fun x hx=>(aM _ _ _ _ (by show x≠w.heap.size+1+1;omega)).trans (Z.block x (by omega))) (by simp;omega)
      have Gr:=fun u=>(show D1 L F (P.setCell ⟨w.heap.size+1+1,2,none⟩ u) from⟨Y.os,Y.tape,Y.output,by simpa using Y.size,fun x hx hn=>(aM _ _ _ _ (by show x≠w.heap.size+1+1;omega)).trans (Y.block x hx hn)⟩)
      clear hv4 hv T N;go_wp2_with fail
      go_roundw
      case rel=> exact⟨j+1,_,_,by omega,by go_num,N5 ww 2 _,jh _,Gr _,by simp;omega,Ir _,by rw[HE.out,ux.out,Bool.and_assoc]⟩
      case measure=> simp[intOf];omega)
   · obtain⟨B5,c5,rfl,O,G,Y5⟩:=hG.made
     have xe:r.take j=r:=fU (by omega);obtain⟨r0,r1,r2,-,-,-⟩:=own3 E8;have P3:=(D.block _ hs1 (fun hm=> by have:=M.out _ hm;omega)).trans F3;obtain⟨s0,s1,Gn,f0,f1,f2⟩:=own3 P3;rw[xe] at O r2 Y5;rw[cV (by omega)] at HE;clear E8;go_wp2_with fail;refine aP (v:= .agg #[.int .i64 k,.int .i64 n,.slice B5 r.length c5]) (by simp[aR,results135,go_sem,s0,s1,Gn,qf]) rfl ⟨_,rfl, ?_, ?_, ?_⟩
     · exact W0.since (W0.after (W0.mk O G Y5) ((((ja.refl _ _).setCell (by show w.heap.size+1 < _;omega) _).setCell (by show w.heap.size+1 < _;omega) _).setCell (by show w.heap.size+1 < _;omega) _)) (by omega)
     · have z:=(oE (L:=L) R).trans D
       refine⟨z.os,z.tape,z.output,by simpa using z.size,fun x hx hn=> ?_⟩;rw[aM _ _ _ _ (by show x≠w.heap.size+1;omega),aM _ _ _ _ (by show x≠w.heap.size+1;omega),aM _ _ _ _ (by show x≠w.heap.size+1;omega)];exact z.block x hx hn
     · have hE:=HE.out
       simp only[rd,Bool.and_true] at hE;rw[hE];refine Y9.out _ _ _ xa (fun x hx=> ?_) (by simp);rw[aM _ _ _ _ (by show x≠w.heap.size+1;omega),aM _ _ _ _ (by show x≠w.heap.size+1;omega),aM _ _ _ _ (by show x≠w.heap.size+1;omega)]
def Vk(a:aL)(d i f:Nat)(L:List Nat)(Inv:aL->Bool->Prop)(g:Int->Int->Tr)(h:Int->Int->Bool):Prop:=
 ∀(w:aL) (s:Bool) (n b:Int),Ext a w->Inv w s->0<=n->n<=20->0<=b->b<=1000->Calls prog 158 #[.int .i64 n,.int .i64 b,.pointer (some ⟨d,0,none⟩),.pointer (some ⟨i,0,none⟩),.pointer (some ⟨f,0,none⟩)] w fun e c=> ∃u,e= .returned u/\W0 w c 25 (g n b) u/\D1 L w c/\Inv c (s && h n b)
def Vp(t:Tr):Prop:= ∀(a w:aL) (v:aT) (b d:Int) (k l j:Nat) (L:List Nat) (B:Nat) (Inv:aL->Bool->Prop) (g:Int->Int->Tr) (h:Int->Int->Bool) (s:Bool),
 P0 D0 t d=true->Lies a t v->Ext a w->(∀x,x∈L->a.heap.size<=x/\x < w.heap.size)->0<=b->b+cnt t<=1000->
 Vk a k l j L Inv g h->(∀f c s,Inv f s->Ext f c->Inv c s)->B<=w.heap.size->(∀f c s,Inv f s->(∀x,x < B->c.heap[x]? =f.heap[x]?)->f.heap.size<=c.heap.size->Inv c s)->Inv w s->
 Calls prog 135 #[v,.int .i64 b,.func (.func 158) #[] #[.pointer (some ⟨k,0,none⟩),.pointer (some ⟨l,0,none⟩),.pointer (some ⟨j,0,none⟩)]] w fun e i=> ∃u,e= .returned u/\W0 w i 25 (P8 g t b) u/\D1 L w i/\Inv i (s && g8 h t b)
theorem ZH: ∀t:Tr,Vp t:=Tr.ind fun k n f hk=> by
 intro a w v b d p1 p2 p3 L B Inv g h s hsh b8 ha hL hb0 hb1 hT y hB fx U;obtain⟨A,cap,rfl,hl,hc,hK⟩:=Lies.mk_iff.1 b8;obtain⟨-,N7,Q8,hsk⟩:=Z4 hsh;obtain⟨i0,hi,hz0,hz1,hz2⟩:=info_parts Pq;have hlc:=Lf f;have hcc:=hc;unfold maxLen at hcc;simp only[cnt] at hb1;have Y0:=Zi k;obtain⟨b1,d1⟩: ∃b1,(k==1)=b1:=⟨_,rfl⟩;have um: ∀x,x∈L->x < w.heap.size:=fun x hx=>(hL x hx).2
 have R:Ext w ((w.alloc (.cells #[.int .i64 k,.int .i64 n,.slice A f.length cap] 25)).alloc (.cells #[.int .i64 0,.int .i64 0,.slice none 0 0] 25)):=((xr w).alloc _).alloc _;obtain⟨S8,F3,hs1⟩:=blk2 (xr ((w.alloc (.cells #[.int .i64 k,.int .i64 n,.slice A f.length cap] 25)).alloc (.cells #[.int .i64 0,.int .i64 0,.slice none 0 0] 25)));have wl:((w.alloc (.cells #[.int .i64 k,.int .i64 n,.slice A f.length cap] 25)).alloc (.cells #[.int .i64 0,.int .i64 0,.slice none 0 0] 25)).heap.size=w.heap.size+2:=by simp
 cases b1 with
 |true=>
  obtain rfl:k=1:=by simpa using d1
  have e1:P8 g (.mk 1 n f) b=g n b:=by unfold P8;rw[if_pos rfl]
  have e2:g8 h (.mk 1 n f) b=h n b:=by unfold g8;rw[if_pos rfl]
  rw[e1,e2];have ig:=hdq (hT _ s n b (ha.trans R) (y _ _ _ U R) N7 (by omega) hb0 (by omega));clear e1 e2 hT y U;go_enter func135,ntmps135;go_wp2_with fail;refine ig.out.mono ?_;rintro e F ⟨u,rfl,T,D,U⟩;obtain⟨a1,a2,a3,a4,a5,rfl⟩:=T.three';have hb2:=(D.block _ (by omega) (fun hm=> by have:=um _ hm;omega)).trans F3;obtain⟨s0,s1,Q,f0,f1,f2⟩:=own3 hb2;have Lm:=D.size;clear ig S8 F3 hb2;go_wp2_with fail;refine aP (v:= .agg #[.int .i64 a1,.int .i64 a2,.slice a3 a4 a5]) (by simp[aR,results135,go_sem,s0,s1,Q]) rfl ⟨_,rfl, ?_, ?_, ?_⟩
  · exact W0.since (T.after ((((ja.refl _ _).setCell (by simp) _).setCell (by simp) _).setCell (by simp) _)) (by simp;omega)
  · have z:=(oE (L:=L) R).trans D
    refine⟨z.os,z.tape,z.output,by simpa using z.size,fun x hx hn=> ?_⟩;rw[aM _ _ _ _ (by simp;omega),aM _ _ _ _ (by simp;omega),aM _ _ _ _ (by simp;omega)];exact z.block x hx hn
  · refine fx _ _ _ U (fun x hx=> ?_) (by simp)
    rw[aM _ _ _ _ (by simp;omega),aM _ _ _ _ (by simp;omega),aM _ _ _ _ (by simp;omega)]
 |false=>
  have tv:k≠1:=by simpa using d1
  obtain⟨r,Y8⟩: ∃r,r=Og g k f 0 b:=⟨_,rfl⟩;have K:P8 g (.mk k n f) b= .mk k n r:=by
   rw[Y8]
   conv=> lhs;unfold P8
   rw[if_neg tv]
  have J:g8 h (.mk k n f) b=rd h k f 0 b:=by
   conv=> lhs;unfold g8
   rw[if_neg tv]
  have qf:r.length=f.length:=by rw[Y8,AE]
  have T5: ∀j (hj:j < f.length),r[j]'(by omega)=P8 g f[j] (b+E4 k j):=fun j hj=> by
   subst Y8;rw[Qs g hj,fN]
  rw[K,J];have W7:=hdq T5;have C:=hdq y;have Y9:=hdq fx;have M7:=hdq hT;have M:=hdq um;have uv:=hdq hL;have Kf:=hdq hsk;have Ax:=y _ _ _ U R;clear K Y8 T5 J y fx hT um hL hsk;go_enter func135,ntmps135;go_wp2_with fail;generalize d9:(w.alloc (.cells #[.int .i64 k,.int .i64 n,.slice A f.length cap] 25)).alloc (.cells #[.int .i64 0,.int .i64 0,.slice none 0 0] 25)=F at*;clear d9;obtain⟨W,hW⟩: ∃W,W=F.alloc (.cells #[.int .i64 k,.int .i64 n,.slice none 0 0] 25):=⟨_,rfl⟩;have mb:W.heap.size=w.heap.size+3:=by rw[hW];simp;omega
  have cn:Ext F W:=hW▸(xr F).alloc _;have ei:W.heap[w.heap.size+1+1]? =some (.cells #[.int .i64 k,.int .i64 n,.slice none 0 0] 25 (0,0)):=by
   have:=aS F (.cells #[.int .i64 k,.int .i64 n,.slice none 0 0] 25);rw[wl] at this;rw[hW];exact this
  rw[<-hW];have Ku:=C.out _ _ _ Ax cn;clear hW Ax U
  go_loopw [26] (fun i wr=> ∃(j:Nat) (v:aT) (Q:Bool),j<=f.length/\i= .int .i64 j/\wr.heap[w.heap.size+1+1]? =some (.cells #[.int .i64 k,.int .i64 n,v] 25 (0,0))/\N4 W wr 25 v (r.take j)/\D1 L F wr/\W.heap.size<=wr.heap.size/\Inv wr Q/\(s && rd h k f 0 b)=(Q && rd h k (f.drop j) j b)) (fun i _=> f.length -(intOf i).toNat)
  case atStart=> exact⟨0,_,s,bV _,rfl,ei,N4.nil _ _ _,oE cn,aN _,Ku,rfl⟩
  case round=>
   obtain⟨j,v,Q,hj,rfl,E8,hG,D,hle,xa,V6⟩:=hrel;have HE:=hdq V6;have X:Ext a wr:=D.ext (ha.trans R) (fun x hx=>(uv.out x hx).1);have fq:=(D.block _ (by omega) (fun hm=> by have:=M.out _ hm;omega)).trans S8;obtain⟨x0,x1,x2,-,-,-⟩:=own3 fq;clear V6;by_cases E:j < f.length
   · obtain⟨b',o,I,H,V,m,kids,rfl,HK,c0,c1,c2,I5,I3,hK',x7,e9⟩:=hK.get X E
     have mo:Lies a (.mk I H kids) (.agg #[.int .i64 I,.int .i64 H,.slice V kids.length m]):=by
      obtain⟨b2,o2,k2,n2,A2,F7,q17,S,h2,q0,O,G,h6,h7,h8,h9,h10⟩:=hK.get (xr a) E;obtain⟨rfl,rfl⟩:b'=b2/\o=o2:=by cases S;exact⟨rfl,rfl⟩
      have e3:=(X.cell q0).symm.trans c0;have e4:=(X.cell O).symm.trans c1;have e5:=(X.cell G).symm.trans c2;have e6:=h2.out.symm.trans HK.out;cases e3;cases e4;cases e6;cases e5
      exact h9
     have I0:=CE (l:=r) (j:=j) (by omega) (W7.out j E);rw[HK.out] at I0;have fz:rd h k (f.drop j) j b=(g8 h (.mk I H kids) (b+E4 k j)&& rd h k (f.drop (j+1)) (j+1) b):=by
      rw[cL E,HK.out]
      conv=> lhs;unfold rd
     have vn:=Vq k j;obtain⟨uu,hu⟩: ∃u,u=E4 k j:=⟨_,rfl⟩;have HU:=hdq (fun W=> nv k j W);rw[<-hu] at HU vn I0 fz;have jg:=hdq I0;have ux:=hdq fz;have hcm:=k9 e9;have ce:=Kf.out _ e9;have qd:(j:Int) <(f.length:Int):=by omega
     have px:=hdq (eL (b+uu) ⟨by omega,by omega⟩);have HR:=hdq (hk _ e9 a);clear hu I0 fz;have hlen:(r.take j).length < 1099511627776:=by rw[dM];omega
     have U9:(r.take j).length=j:=by rw[dM];omega
     have HL:=hdq U9;go_wp2_with fail;have hx:=(xr wr).alloc (.cells #[.int .i64 I,.int .i64 H,.slice V kids.length m] 25);have M4:=aS wr (.cells #[.int .i64 I,.int .i64 H,.slice V kids.length m] 25);obtain⟨c,hwd⟩: ∃c,c=wr.alloc (.cells #[.int .i64 I,.int .i64 H,.slice V kids.length m] 25):=⟨_,rfl⟩;rw[<-hwd] at hx M4⊢;clear hwd;have hsr:W.heap.size<=wr.heap.size:=hle;have yh:wr.heap.size < c.heap.size:=O1 M4;have zn:=hdq hG;have nt:=hx.blk E8;have ng:=hx.blk fq;have hv:=U1 nt 2;have U5:=C.out _ _ _ xa hx;have Bt:=C.out _ _ _ U5 (xr c).drew;have ki:=hx.trans (xr c).drew;have HF:=hdq (HR.out c.drew _ (b+uu) (d - 1) p1 p2 p3 L B Inv g h Q ce mo (X.trans ki) (fun x hx=>⟨(uv.out x hx).1,by have:=M.out x hx;show x < c.heap.size;omega⟩) (by omega) (by omega) M7.out C.out (by show B<=c.heap.size;omega) Y9.out Bt);have HS:=hdq (show∀q:aL,q.heap[w.heap.size]? =c.heap[w.heap.size]? ->q.heap[wr.heap.size]? =c.heap[wr.heap.size]? ->q.cell? ⟨w.heap.size,0,none⟩=some (.int .i64 k)/\q.cell? ⟨wr.heap.size,0,none⟩=some (.int .i64 I)/\q.cell? ⟨wr.heap.size,1,none⟩=some (.int .i64 H)/\q.cell? ⟨wr.heap.size,2,none⟩=some (.slice V kids.length m) from fun q S h2=> by
      have O:=S.trans ng;have G:=h2.trans M4;exact⟨U1 O 0,U1 G 0,U1 G 1,U1 G 2⟩)
     have HV:=hdq (show∀q:aL,q.heap[w.heap.size+1+1]? =c.heap[w.heap.size+1+1]? ->q.heap[w.heap.size+1+1]? =some (.cells #[.int .i64 k,.int .i64 n,v] 25 (0,0)) from fun q S=> S.trans nt);have Lb:D1 L F c:=D.trans (oE hx);clear U9 E8 hG hle hcc x0 x1 x2 c0 c1 c2 fq M4 ng X mo HR ce xa U5 Bt x7 hK';rw[show Op.load 23 (Operand.tmp 31)=Ux 23 31 from rfl]
     go_region_held_law (fun q=> q.cell? ⟨w.heap.size,0,none⟩=some (.int .i64 k)/\q.cell? ⟨wr.heap.size,0,none⟩=some (.int .i64 I)/\q.cell? ⟨wr.heap.size,1,none⟩=some (.int .i64 H)/\q.cell? ⟨wr.heap.size,2,none⟩=some (.slice V kids.length m))
      (first|exact HS.out _ ((aM _ _ _ _ (by show w.heap.size≠w.heap.size+1+1;omega)).trans Cz) ((aM _ _ _ _ (by show wr.heap.size≠w.heap.size+1+1;omega)).trans Df) |exact HS.out _ Cz Df|exact HS.out _ ((gM _ _ _ (by omega)).trans ul) ((gM _ _ _ (by omega)).trans wh) |exact HS.out _ ul wh|exact HS.out _ rfl rfl)
      (first|(go_simp;go_at_call 138;refine(HU.out _).mono ?_;rintro e wu ⟨rfl,rfl⟩) |(go_simp;go_at_call 135;(try rw[px.out]);refine HF.out.mono ?_;rintro e w4 ⟨u,rfl,T,N,Jy⟩;obtain⟨a1,a2,a3,a4,a5,rfl⟩:=T.three';have iz:c.heap.size<=w4.heap.size:=N.size;have ul:w4.heap[w.heap.size]? =c.heap[w.heap.size]? :=N.block _ (by show w.heap.size < c.heap.size;omega) (fun hm=> by have:=M.out _ hm;omega);have wh:w4.heap[wr.heap.size]? =c.heap[wr.heap.size]? :=N.block _ yh (fun hm=> by have:=M.out _ hm;omega);have Ai:w4.heap[w.heap.size+1+1]? =c.heap[w.heap.size+1+1]? :=N.block _ (by show w.heap.size+1+1 < c.heap.size;omega) (fun hm=> by have:=M.out _ hm;omega);have hv4:=U1 (HV.out _ Ai) 2;have Lj:=bU _ _ hv4) |(refine MJ _ (by rfl) (.tmp 32) (.tmp 42) _ (by rfl) 25 i0 _ underlying23 hi hz0 hz1 hz2 rfl (by rfl) zn.out (by omega) (by omega) (fun x S h2=>(N.block x (by show x < c.heap.size;omega) (fun hm=> by have:=M.out _ hm;omega)).trans (hx.heap x h2)) (T.since (by show wr.heap.size<=c.heap.size;omega)) ((xr _).alloc _) (by rfl) (aS _ _) hlen ?_;intro v' P C3 Z Js;obtain⟨B5,c5,rfl,O,G,-⟩:=C3.made;have Cz:P.heap[w.heap.size]? =c.heap[w.heap.size]? :=(Z.block _ (by omega)).trans ul;have Df:P.heap[wr.heap.size]? =c.heap[wr.heap.size]? :=(Js _ (by show wr.heap.size<=_;omega) (by omega)).trans wh;have ww:=HV.out _ ((Z.block _ (by omega)).trans Ai);have kr:=U1 ww 2;have ui:=ib ww 2))
     all_goals(
      have Y:D1 L F P:=(Lb.trans ((oE (xr c).drew).trans N)).below Z (by omega);have hs5:=Z.size;rw[cR,cT,HL.out,jg.out] at C3;have jh:=fun u=> C3.after ((ja.refl W.heap.size P).setCell (p:=⟨w.heap.size+1+1,2,none⟩) (by show w.heap.size+1+1 < W.heap.size;omega) u)
      have Ir:=fun u=> Y9.out w4 (P.setCell ⟨w.heap.size+1+1,2,none⟩ u) _ Jy (fun x hx=>(aM _ _ _ _ (by show x≠w.heap.size+1+1;omega)).trans (Z.block x (by omega))) (by simp;omega)
      have Gr:=fun u=>(show D1 L F (P.setCell ⟨w.heap.size+1+1,2,none⟩ u) from⟨Y.os,Y.tape,Y.output,by simpa using Y.size,fun x hx hn=>(aM _ _ _ _ (by show x≠w.heap.size+1+1;omega)).trans (Y.block x hx hn)⟩)
      clear hv4 hv T N;go_wp2_with fail
      go_roundw
      case rel=> exact⟨j+1,_,_,by omega,by go_num,N5 ww 2 _,jh _,Gr _,by simp;omega,Ir _,by rw[HE.out,ux.out,Bool.and_assoc]⟩
      case measure=> simp[intOf];omega)
   · obtain⟨B5,c5,rfl,O,G,Y5⟩:=hG.made
     have xe:r.take j=r:=fU (by omega);obtain⟨r0,r1,r2,-,-,-⟩:=own3 E8;have P3:=(D.block _ hs1 (fun hm=> by have:=M.out _ hm;omega)).trans F3;obtain⟨s0,s1,Gn,f0,f1,f2⟩:=own3 P3;rw[xe] at O r2 Y5;rw[cV (by omega)] at HE;clear E8;go_wp2_with fail;refine aP (v:= .agg #[.int .i64 k,.int .i64 n,.slice B5 r.length c5]) (by simp[aR,results135,go_sem,s0,s1,Gn,qf]) rfl ⟨_,rfl, ?_, ?_, ?_⟩
     · exact W0.since (W0.after (W0.mk O G Y5) ((((ja.refl _ _).setCell (by show w.heap.size+1 < _;omega) _).setCell (by show w.heap.size+1 < _;omega) _).setCell (by show w.heap.size+1 < _;omega) _)) (by omega)
     · have z:=(oE (L:=L) R).trans D
       refine⟨z.os,z.tape,z.output,by simpa using z.size,fun x hx hn=> ?_⟩;rw[aM _ _ _ _ (by show x≠w.heap.size+1;omega),aM _ _ _ _ (by show x≠w.heap.size+1;omega),aM _ _ _ _ (by show x≠w.heap.size+1;omega)];exact z.block x hx hn
     · have hE:=HE.out
       simp only[rd,Bool.and_true] at hE;rw[hE];refine Y9.out _ _ _ xa (fun x hx=> ?_) (by simp);rw[aM _ _ _ _ (by show x≠w.heap.size+1;omega),aM _ _ _ _ (by show x≠w.heap.size+1;omega),aM _ _ _ _ (by show x≠w.heap.size+1;omega)]
theorem SB(u:Tr): ∀{k:Int} {ts:List Tr} {i j:Nat} {x d:Int} (h:j < ts.length),(n8 u k ts i x d)[j]'(by rw[uE];exact h)=Z0 u ts[j] (x+E4 k (i+j)) (d+E4 k (i+j))
 |k,t::ts,i,0,x,d,h=> by simp[n8]
 |k,t::ts,i,j+1,x,d,h=> by
  simp only[n8,bR];rw[SB u (j:=j) (by simpa using h),show i+1+j=i+(j+1) by omega]
def pI(t:Tr):Prop:= ∀(w:aL) (v:aT) (x:Int) (u:Tr) (c:aT) (a d:Int),P0 D0 t d=true->Lies w t v->cnt t<=1000->P0 D0 u 30=true->cnt u<=1000->Lies w u c->0<=x->x+cnt t<=1000000->0<=a->a+cnt t<=1000000->
 Calls prog 121 #[v,.int .i64 x,c,.int .i64 a] w fun e b=> ∃r,e= .returned r/\W0 w b 25 (Z0 u t x a) r/\Ext w b
theorem Xy: ∀t:Tr,pI t:=Tr.ind fun k n g hk=> by
 intro w v x u vu F d hsh b8 P6 Cg nh Q hx0 hx1 fu kj;obtain⟨-,N7,Q8,X⟩:=Z4 hsh;have Y0:=Zi k;obtain⟨A,cap,rfl,hl,hc,hK⟩:=Lies.mk_iff.1 b8;have Ef:=hdq (fun W (C:Ext w W)=> ID u W vu F 0 30 Cg (Q.ext C) nh fu (by omega) (by omega) (by omega));have Fv:=hdq (fun t ht W kv x' d' y J h3 K h5 h6 (C:Ext w W)=> hk t ht W kv x' u vu d' (d - 1) (X t ht) y J Cg nh (Q.ext C) h3 K h5 h6);have hinu2:=Q;obtain⟨z,B,f⟩:=u;obtain⟨M,N,rfl,Kk,vq,-⟩:=Lies.mk_iff.1 Q;obtain⟨i0,hi,hz0,hz1,hz2⟩:=info_parts Pq;have T:=hc;unfold maxLen at T;simp only[cnt] at P6 hx1 kj;have hlc:=Lf g;obtain⟨b1,d1⟩: ∃b1,(k==1)=b1:=⟨_,rfl⟩;obtain⟨s,Y8⟩: ∃s,s=n8 (.mk z B f) k g 0 x F:=⟨_,rfl⟩;have qf:s.length=g.length:=by rw[Y8,uE]
 have T5: ∀j (h:j < g.length),s[j]'(by omega)=Z0 (.mk z B f) g[j] (x+E4 k j) (F+E4 k j):=fun j h=> by
  subst Y8;rw[SB _ h,fN]
 have a:Z0 (.mk z B f) (.mk k n g) x F=if k=1/\n=x then shfT F (.mk z B f) 0 else .mk k (if k=1/\x < n then n - 1 else n) s:=by
  rw[Y8]
  conv=> lhs;unfold Z0
 have W7:=hdq T5;clear Y8 T5 Q;cases b1 with
 |true=>
  obtain rfl:k=1:=by simpa using d1
  obtain⟨rfl,-,-⟩:=wD hsh;obtain rfl:s= []:=List.eq_nil_of_length_eq_zero (by simpa using qf);by_cases y:n=x
  · rw[a,if_pos ⟨rfl,y⟩]
    have d2:(n==x)=true:=beq_iff_eq.2 y;clear a y Fv W7;go_enter func121,ntmps121;go_wp2_with fail;have L:=(((xr w).alloc (.cells #[.int .i64 1,.int .i64 n,.slice A 0 cap] 25)).alloc (.cells #[.int .i64 z,.int .i64 B,.slice M f.length N] 25)).alloc (.cells #[.int .i64 0,.int .i64 0,.slice none 0 0] 25);obtain⟨-,-,F3,hsz⟩:=zc (xr (((w.alloc (.cells #[.int .i64 1,.int .i64 n,.slice A 0 cap] 25)).alloc (.cells #[.int .i64 z,.int .i64 B,.slice M f.length N] 25)).alloc (.cells #[.int .i64 0,.int .i64 0,.slice none 0 0] 25)));refine(Ef.out _ L).mono ?_;rintro e q ⟨r,rfl,O,e1⟩;obtain⟨a1,a2,a3,a4,a5,rfl⟩:=O.three';obtain⟨s0,s1,s2,f0,f1,f2⟩:=own3 (e1.blk F3);go_wp2_with fail;refine aP (v:= .agg #[.int .i64 a1,.int .i64 a2,.slice a3 a4 a5]) (by simp[aR,results121,go_sem,s0,s1,s2]) rfl ⟨_,rfl, ?_, ?_⟩
    · exact W0.since (O.after ((((ja.refl _ _).setCell (by simp) _).setCell (by simp) _).setCell (by simp) _)) (by simp;omega)
    · exact((((L.trans e1).setCell (by simp;omega) _).setCell (by simp;omega) _).setCell (by simp;omega) _)
  · have d2:(n==x)=false:=beq_eq_false_iff_ne.2 y
    by_cases J:x < n
    · have d3:decide (x < n)=true:=decide_eq_true J
      rw[a,if_neg (fun h=> y h.2),if_pos ⟨rfl,J⟩];clear a y Fv W7 Ef;go_enter func121,ntmps121;go_wp2_with fail;refine wp_loop_rounds 1 ?_;rw[rounds_succ];go_wp2_with fail;exact aP (v:= .agg #[.int .i64 1,.int .i64 (n - 1),.slice none 0 0]) (by simp[aR,results121,go_sem]) rfl ⟨_,rfl,W0.leaf _ _ _ _ _,((((xr w).alloc _).alloc _).alloc _).alloc _⟩
    · have d3:decide (x < n)=false:=decide_eq_false J
      rw[a,if_neg (fun h=> y h.2),if_neg (fun h=> J h.2)];clear a y Fv W7 Ef;go_enter func121,ntmps121;go_wp2_with fail;refine wp_loop_rounds 1 ?_;rw[rounds_succ];go_wp2_with fail;exact aP (v:= .agg #[.int .i64 1,.int .i64 n,.slice none 0 0]) (by simp[aR,results121,go_sem]) rfl ⟨_,rfl,W0.leaf _ _ _ _ _,((((xr w).alloc _).alloc _).alloc _).alloc _⟩
 |false=>
  have tv:k≠1:=by simpa using d1
  rw[a,if_neg (fun h=> tv h.1),if_neg (fun h=> tv h.1)];clear a Ef;go_enter func121,ntmps121;go_wp2_with fail;obtain⟨q,G⟩: ∃q,q=((w.alloc (.cells #[.int .i64 k,.int .i64 n,.slice A g.length cap] 25)).alloc (.cells #[.int .i64 z,.int .i64 B,.slice M f.length N] 25)).alloc (.cells #[.int .i64 0,.int .i64 0,.slice none 0 0] 25):=⟨_,rfl⟩;obtain⟨W,C⟩: ∃W,W=q.alloc (.cells #[.int .i64 k,.int .i64 n,.slice none 0 0] 25):=⟨_,rfl⟩;have hs1:q.heap.size=w.heap.size+1+1+1:=by rw[G];simp
  have mb:W.heap.size=w.heap.size+4:=by rw[C];simp;omega
  have L:Ext w q:=G▸(((xr w).alloc _).alloc _).alloc _;have cn:Ext q W:=C▸(xr q).alloc _;have F3:q.heap[w.heap.size+1+1]? =some (.cells #[.int .i64 0,.int .i64 0,.slice none 0 0] 25 (0,0)):=by
   rw[G];exact(zc (xr _)).2.2.1
  have ei:W.heap[w.heap.size+1+1+1]? =some (.cells #[.int .i64 k,.int .i64 n,.slice none 0 0] 25 (0,0)):=by
   have:=aS q (.cells #[.int .i64 k,.int .i64 n,.slice none 0 0] 25);rw[hs1] at this;rw[C];exact this
  have S8:q.heap[w.heap.size]? =some (.cells #[.int .i64 k,.int .i64 n,.slice A g.length cap] 25 (0,0)):=by
   rw[G];exact(zc (xr _)).1
  have Iq:q.heap[w.heap.size+1]? =some (.cells #[.int .i64 z,.int .i64 B,.slice M f.length N] 25 (0,0)):=by
   rw[G];exact(zc (xr _)).2.1
  rw[<-G,<-C];clear C G
  go_loopw [10,11] (fun i _ wr=> ∃(j:Nat) (v:aT),j<=g.length/\i= .int .i64 j/\wr.heap[w.heap.size+1+1+1]? =some (.cells #[.int .i64 k,.int .i64 n,v] 25 (0,0))/\N4 W wr 25 v (s.take j)/\Ext q wr/\W.heap.size<=wr.heap.size) (fun i _ _=> g.length -(intOf i).toNat)
  case atStart=> exact⟨0,_,bV _,rfl,ei,N4.nil _ _ _,cn,aN _⟩
  case round=>
   obtain⟨j,v,hj,rfl,Z,hG,E,S⟩:=hrel;by_cases H:j < g.length
   · obtain⟨b,o,k',n',A',D,kids,rfl,HK,c0,c1,c2,I5,I3,hK',x7,e9⟩:=hK.get (L.trans E) H
     have I0:=CE (l:=s) (j:=j) (by omega) (W7.out j H);rw[HK.out] at I0;have vn:=Vq k j;have ce:=X _ e9;have qd:(j:Int) <(g.length:Int):=by omega
     obtain⟨uu,hu⟩: ∃u,u=E4 k j:=⟨_,rfl⟩;have HU:=hdq (fun W=> ZC k j W);rw[<-hu] at HU vn I0;have jg:=hdq I0;have px:=hdq (eL (x+uu) ⟨by omega,by omega⟩);have HWS:=hdq (eL (F+uu) ⟨by omega,by omega⟩);clear hu I0;have hcm:=k9 e9;have R:(s.take j).length < 1099511627776:=by rw[dM];omega
     have U9:(s.take j).length=j:=by rw[dM];omega
     have HL:=hdq U9;have L6:=E.blk S8;obtain⟨t0,-,t2,-,-,-⟩:=own3 L6;obtain⟨u0,u1,u2,-,-,-⟩:=own3 (E.blk Iq);have hj':(j:Int) <(g.length:Int):=by omega
     go_wp2_with fail;refine(HU.out _).mono ?_;rintro e wu ⟨rfl,rfl⟩;go_wp2_with fail;have J5:=S;have I2:=hG;have N3:=Z;have hv:=U1 N3 2;have p8: ∀c,Below W.heap.size wr c->c.heap[w.heap.size+1+1+1]? =some (.cells #[.int .i64 k,.int .i64 n,v] 25 (0,0)):=fun c hB=>(hB.block (w.heap.size+1+1+1) (by omega)).trans N3
     have V:=hdq p8;have Y:Ext wr wr.drew:=(xr wr).drew;have U3:=x7.ext Y;have dz:=E;have Ej:=hK.lt H;have U:=hdq (show∀c,Below (w.heap.size+1+1) wr c->c.cell? ⟨w.heap.size,2,none⟩=some (.slice (some ⟨b,o,none⟩) g.length cap)/\c.cell? ⟨w.heap.size+1,0,none⟩=some (.int .i64 z)/\c.cell? ⟨w.heap.size+1,1,none⟩=some (.int .i64 B)/\c.cell? ⟨w.heap.size+1,2,none⟩=some (.slice M f.length N)/\c.cell? ⟨b,o+j*3,none⟩=some (.int .i64 k')/\c.cell? ⟨b,o+j*3+1,none⟩=some (.int .i64 n')/\c.cell? ⟨b,o+j*3+2,none⟩=some (.slice A' kids.length D) from fun c m=>
      ⟨(m.cell (p:=⟨w.heap.size,2,none⟩) (by show w.heap.size < _;omega)).trans t2,(m.cell (p:=⟨w.heap.size+1,0,none⟩) (by show w.heap.size+1 < _;omega)).trans u0,(m.cell (p:=⟨w.heap.size+1,1,none⟩) (by show w.heap.size+1 < _;omega)).trans u1,(m.cell (p:=⟨w.heap.size+1,2,none⟩) (by show w.heap.size+1 < _;omega)).trans u2,(m.cell (p:=⟨b,o+j*3,none⟩) (by show b < _;omega)).trans c0,(m.cell (p:=⟨b,o+j*3+1,none⟩) (by show b < _;omega)).trans c1,(m.cell (p:=⟨b,o+j*3+2,none⟩) (by show b < _;omega)).trans c2⟩)
     have Lp:Below (w.heap.size+1+1) wr wr.drew:=(Below.refl _ _).drew;clear p8 U9 Z hG E S T;rw[show Op.load 23 (Operand.tmp 53)=Ux 23 53 from rfl]
     go_region_held_law (fun c=> c.cell? ⟨w.heap.size,2,none⟩=some (.slice (some ⟨b,o,none⟩) g.length cap)/\c.cell? ⟨w.heap.size+1,0,none⟩=some (.int .i64 z)/\c.cell? ⟨w.heap.size+1,1,none⟩=some (.int .i64 B)/\c.cell? ⟨w.heap.size+1,2,none⟩=some (.slice M f.length N)/\c.cell? ⟨b,o+j*3,none⟩=some (.int .i64 k')/\c.cell? ⟨b,o+j*3+1,none⟩=some (.int .i64 n')/\c.cell? ⟨b,o+j*3+2,none⟩=some (.slice A' kids.length D))
      (first|exact U.out _ ((Ay.setCell (by show _<=w.heap.size+1+1+1;omega) _)) |exact U.out _ Ay|exact U.out _ (wn.alloc (by omega) _) |exact U.out _ wn|exact U.out _ Lp)
      (first|(go_simp;go_at_call 121;(try rw[px.out]);(try rw[HWS.out]);refine(Fv.out _ e9 _ _ (x+uu) (F+uu) U3 (by omega) (by omega) (by omega) (by omega) (by omega) ((L.trans dz).trans Y)).mono ?_;rintro e w4 ⟨u,rfl,O,K⟩;obtain⟨a1,a2,a3,a4,a5,rfl⟩:=O.three';have P:=U1 (V.out _ ((Y.trans K).below J5)) 2;have iz:=bU _ _ P;have wn:Below (w.heap.size+1+1) wr w4:=((Y.trans K).below J5).mono (by omega)) |(refine qE _ (by rfl) (.tmp 54) (.tmp 68) _ (by rfl) 25 i0 _ underlying23 hi hz0 hz1 hz2 rfl (by rfl) I2 J5 (Y.trans K) (O.since (aN _)) ((xr _).alloc _) (by rfl) (aS _ _) R ?_;intro v' w5 C3 I;obtain⟨B5,c5,rfl,q1,q2,-⟩:=C3.made;have kr:=U1 (V.out _ I) 2;have ui:=ib (V.out _ I) 2;have Ay:Below (w.heap.size+1+1) wr w5:=I.mono (by omega)))
     all_goals(
      have W8:Ext q w5:=dz.trans' I (by omega);have hs5:=I.size;have ba:=V.out _ I;rw[cR,cT,HL.out,jg.out] at C3;have jh:=fun u=> C3.after ((ja.refl W.heap.size w5).setCell (p:=⟨w.heap.size+1+1+1,2,none⟩) (by show w.heap.size+1+1+1 < W.heap.size;omega) u)
      clear P iz hv V O K c0 c1 c2 t2 t0 u0 u1 u2;go_wp2_with fail
      go_roundw
      case rel=> exact⟨j+1,_,by omega,by go_num,N5 ba 2 _,jh _,W8.setCell (by show _<=w.heap.size+1+1+1;omega) _,by simp;omega⟩
      case measure=> simp[intOf];omega)
   · obtain⟨B5,c5,rfl,q1,q2,Y5⟩:=hG.made
     have T9:j=g.length:=by omega
     have xe:s.take j=s:=fU (by omega);obtain⟨r0,r1,r2,-,-,-⟩:=own3 Z;have L6:=E.blk S8;obtain⟨-,-,t2,-,-,-⟩:=own3 L6;have P3:=E.blk F3;obtain⟨s0,s1,s2,f0,f1,f2⟩:=own3 P3;rw[xe] at q1 r2 Y5;clear Z;go_wp2_with fail;refine aP (v:= .agg #[.int .i64 k,.int .i64 n,.slice B5 s.length c5]) (by simp[aR,results121,go_sem,s0,s1,s2,qf]) rfl ⟨_,rfl, ?_, ?_⟩
     · exact W0.since (W0.after (W0.mk q1 q2 Y5) ((((ja.refl _ _).setCell (by show w.heap.size+1+1 < _;omega) _).setCell (by show w.heap.size+1+1 < _;omega) _).setCell (by show w.heap.size+1+1 < _;omega) _)) (by omega)
     · exact((((L.trans E).setCell (by simp <;> omega) _).setCell (by simp <;> omega) _).setCell (by simp <;> omega) _)
