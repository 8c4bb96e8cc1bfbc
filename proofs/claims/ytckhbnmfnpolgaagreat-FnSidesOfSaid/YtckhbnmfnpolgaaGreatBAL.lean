/-
  Lemmas towards the law, 12: Plc, Chg, Subst2.
-/
import Derived.Test.YtckhbnmfnpolgaaGreatBAK
open Nat renaming le_refl->aM,zero_add->eV,zero_le->bT
open List renaming length_cons->bY,getElem_cons_succ->bO,drop_eq_getElem_cons->bX,length_take->cU,length_append->cL,length_singleton->cO,take_of_length_le->fN,drop_of_length_le->cR
open Go renaming World->aK,Value->aS,bodyPost_ret->aO,results->aQ,heap_alloc_new->aR
open Go.RowKit.Below renaming heap_setCell->aL,heap_alloc->fV
open Go.IntWalk renaming i64_in->dR
open Go.World renaming block_lt_of_cell?->bR
open Go.Proofs.Tryz
set_option linter.unusedVariables false
set_option maxHeartbeats 20000000
set_option maxRecDepth 100000
namespace Go.Proofs.YtckhbnmfnpolgaaGreat
mutual
def Nu(p:Tr->Bool):Tr->Nat
 | .mk k n a=>(if p (.mk k n a)=true then 1 else 0)+Zi p a
def Zi(p:Tr->Bool):List Tr->Nat
 | []=> 0
 |t::ts=> Nu p t+Zi p ts
end
mutual
theorem Ln(p:Tr->Bool): ∀t:Tr,Nu p t<=cnt t
 | .mk k n a=> by
  rw[Nu,cnt];have:=mB p a
  split <;> omega
theorem mB(p:Tr->Bool): ∀a:List Tr,Zi p a<=W1 a
 | []=> by rw[Zi,W1];exact aM _
 |t::ts=> by
  rw[Zi,W1];have:=Ln p t;have:=mB p ts;omega
end
def ef(t:Tr):Bool:=U3 t !=0
def ea:Tr->List Int->Option Tr
 |t, []=> some t
 | .mk _ _ a,i::r=> if 0<=i/\i < a.length then ea (kd a i.toNat) r else none
theorem MA(t:Tr)(ts:List Tr)(i:Nat):kd (t::ts) (i+1)=kd ts i:=rfl
theorem Li{ks:List Tr}{i:Nat}(h:i < ks.length):kd ks i∈ks:=by
 unfold kd;rw[List.getD_eq_getElem?_getD,List.getElem?_eq_getElem h];exact List.getElem_mem h
theorem dD{g:Oc}: ∀(a:List Int) (t u:Tr) (d:Int),D0 g t d=true->ea t a=some u->D0 g u (d - a.length)=true
 | [],t,u,d,h,e=> by
  have e:t=u:=by cases t;simpa[ea] using e
  subst e
  simpa using h
 |i::a,.mk k n c,u,d,h,e=> by
  rw[ea] at e
  split at e
  · rename_i hi
    have b:=(Qu h).2.2.2 (kd c i.toNat) (Li (by omega));have:=dD a _ u (d - 1) b e;rw[bY,show d -((a.length+1:Nat):Int)=d - 1 - a.length by omega];exact this
  · cases e
theorem DB{g:Oc}{t:Tr}{d:Int}(h:D0 g t d=true):1<=d:=by
 obtain⟨k,n,a⟩:=t;simp only[D0,Bool.and_eq_true,decide_eq_true_eq] at h;exact h.1
mutual
def outT:Tr->Option (List Int)
 | .mk k n a=> if rdx k a=0 then pc 0 a else some []
def pc:Nat->List Tr->Option (List Int)
 |_, []=> none
 |i,t::ts=> match outT t with
  |some p=> some ((i:Int)::p)
  |none=> pc (i+1) ts
end
mutual
theorem ys: ∀t:Tr,(outT t).isSome= !Wk t
 | .mk k n a=> by
  rw[outT,Wk];by_cases h:rdx k a=0
  · rw[if_pos h,bz a 0]
    simp[h]
  · rw[if_neg h]
    simp[h]
theorem bz: ∀(a:List Tr) (i:Nat),(pc i a).isSome= !ff a
 | [],i=> by rw[pc,ff];rfl
 |t::ts,i=> by
  have h:=ys t;rw[pc,ff];cases e:outT t with
  |some p=> rw[e] at h;simp at h;simp[h]
  |none=> rw[e] at h;simp at h;simp[h,bz ts (i+1)]
end
theorem Tu: ∀(t:Tr) (d:Int),D0 m0 t d=true-> ∀p,outT t=some p->(p.length:Int)<=d:=Tr.ind fun k n c hk=> by
 intro d h p e;have hd:=DB h;rw[outT] at e
 split at e
 · have key: ∀(i:Nat) (ts:List Tr),(∀t∈ts,t∈c)->pc i ts=some p->(p.length:Int)<=d:=by
    intro i ts
    induction ts generalizing i with
    |nil=> intro _ h;rw[pc] at h;cases h
    |cons t ts ih=>
     intro hm a;rw[pc] at a;cases b:outT t with
     |some q=>
      rw[b] at a;simp only[Option.some.injEq] at a;subst a;have:=hk t (hm t (by simp)) (d - 1) ((Qu h).2.2.2 t (hm t (by simp))) q b;simp only[bY];omega
     |none=>
      rw[b] at a;exact ih (i+1) (fun t ht=> hm t (by simp[ht])) a
   exact key 0 c (fun _ h=> h) e
 · simp only[Option.some.injEq] at e
   subst e;simp
   omega
end Go.Proofs.YtckhbnmfnpolgaaGreat
namespace Go.Proofs.YtckhbnmfnpolgaaGreat
open Go.RowKit
attribute [local go_sem ↓] Go.wp_at_zero Go.wp_at_succ
attribute [local go_sem] Vw
theorem tD(g:Int->Int->Tr): ∀(k:Int) (ts:List Tr) (i:Nat) (b:Int),(gg g k ts i b).length=ts.length
 |_, [],_,_=> rfl
 |k,t::ts,i,b=> by simp[gg,tD g k ts (i+1) b]
theorem Xs(g:Int->Int->Tr): ∀{k:Int} {ts:List Tr} {i j:Nat} {b:Int} (h:j < ts.length),(gg g k ts i b)[j]'(by rw[tD];exact h)=a9 g ts[j] (b+E4 k (i+j))
 |k,t::ts,i,0,b,h=> by simp[gg]
 |k,t::ts,i,j+1,b,h=> by
  simp only[gg,bO];rw[Xs g (j:=j) (by simpa using h),show i+1+j=i+(j+1) by omega]
def Nj(a:aK)(f i d:Nat)(L:List Nat)(Inv:aK->Bool->Prop)(g:Int->Int->Tr)(h:Int->Int->Bool):Prop:=
 ∀(w:aK) (s:Bool) (n b:Int),Ext a w->Inv w s->0<=n->n<=20->0<=b->b<=1000->Calls prog 136 #[.int .i64 n,.int .i64 b,.pointer (some ⟨f,0,none⟩),.pointer (some ⟨i,0,none⟩),.pointer (some ⟨d,0,none⟩)] w fun e c=> ∃u,e= .returned u/\P0 w c 25 (g n b) u/\X0 L w c/\Inv c (s && h n b)
def sn(t:Tr):Prop:= ∀(a w:aK) (v:aS) (b d:Int) (l j k:Nat) (L:List Nat) (B:Nat) (Inv:aK->Bool->Prop) (g:Int->Int->Tr) (h:Int->Int->Bool) (s:Bool),
 D0 m0 t d=true->Lies a t v->Ext a w->(∀x,x∈L->a.heap.size<=x/\x < w.heap.size)->0<=b->b+cnt t<=1000->
 Nj a l j k L Inv g h->(∀f c s,Inv f s->Ext f c->Inv c s)->B<=w.heap.size->(∀f c s,Inv f s->(∀x,x < B->c.heap[x]? =f.heap[x]?)->f.heap.size<=c.heap.size->Inv c s)->Inv w s->
 Calls prog 135 #[v,.int .i64 b,.func (.func 136) #[] #[.pointer (some ⟨l,0,none⟩),.pointer (some ⟨j,0,none⟩),.pointer (some ⟨k,0,none⟩)]] w fun e i=> ∃u,e= .returned u/\P0 w i 25 (a9 g t b) u/\X0 L w i/\Inv i (s && C8 h t b)
theorem eF: ∀t:Tr,sn t:=Tr.ind fun k n f hk=> by
 intro a w v b d p1 p2 p3 L B Inv g h s hsh b8 ha hL hb0 hb1 hT y hB ep T;obtain⟨A,cap,rfl,hl,hc,hK⟩:=Lies.mk_iff.1 b8;obtain⟨-,M4,P4,hsk⟩:=Z4 hsh;obtain⟨i0,hi,hz0,hz1,hz2⟩:=info_parts Bo;have hlc:=kf f;have hcc:=hc;unfold maxLen at hcc;simp only[cnt] at hb1;have U7:=Bk k;obtain⟨b1,d1⟩: ∃b1,(k==1)=b1:=⟨_,rfl⟩;have rp: ∀x,x∈L->x < w.heap.size:=fun x hx=>(hL x hx).2
 have Q:Ext w ((w.alloc (.cells #[.int .i64 k,.int .i64 n,.slice A f.length cap] 25)).alloc (.cells #[.int .i64 0,.int .i64 0,.slice none 0 0] 25)):=((xr w).alloc _).alloc _;obtain⟨P9,E1,hs1⟩:=W3 (xr ((w.alloc (.cells #[.int .i64 k,.int .i64 n,.slice A f.length cap] 25)).alloc (.cells #[.int .i64 0,.int .i64 0,.slice none 0 0] 25)));have rc:((w.alloc (.cells #[.int .i64 k,.int .i64 n,.slice A f.length cap] 25)).alloc (.cells #[.int .i64 0,.int .i64 0,.slice none 0 0] 25)).heap.size=w.heap.size+2:=by simp
 cases b1 with
 |true=>
  obtain rfl:k=1:=by simpa using d1
  have e1:a9 g (.mk 1 n f) b=g n b:=by unfold a9;rw[if_pos rfl]
  have e2:C8 h (.mk 1 n f) b=h n b:=by unfold C8;rw[if_pos rfl]
  rw[e1,e2];have fx:=hdq (hT _ s n b (ha.trans Q) (y _ _ _ T Q) M4 (by omega) hb0 (by omega));clear e1 e2 hT y T;go_enter func135,ntmps135;go_wp2_with fail;refine fx.out.mono ?_;rintro e F ⟨u,rfl,P,E,T⟩;obtain⟨a1,a2,a3,a4,a5,rfl⟩:=P.three';have hb2:=(E.block _ (by omega) (fun hm=> by have:=rp _ hm;omega)).trans E1;obtain⟨s0,s1,U,f0,f1,f2⟩:=own3 hb2;have Iz:=E.size;clear fx P9 E1 hb2;go_wp2_with fail;refine aO (v:= .agg #[.int .i64 a1,.int .i64 a2,.slice a3 a4 a5]) (by simp[aQ,results135,go_sem,s0,s1,U]) rfl ⟨_,rfl, ?_, ?_, ?_⟩
  · exact P0.since (P.after ((((pa.refl _ _).setCell (by simp) _).setCell (by simp) _).setCell (by simp) _)) (by simp;omega)
  · have z:=(oE (L:=L) Q).trans E
    refine⟨z.os,z.tape,z.output,by simpa using z.size,fun x hx hn=> ?_⟩;rw[aL _ _ _ _ (by simp;omega),aL _ _ _ _ (by simp;omega),aL _ _ _ _ (by simp;omega)];exact z.block x hx hn
  · refine ep _ _ _ T (fun x hx=> ?_) (by simp)
    rw[aL _ _ _ _ (by simp;omega),aL _ _ _ _ (by simp;omega),aL _ _ _ _ (by simp;omega)]
 |false=>
  have qh:k≠1:=by simpa using d1
  obtain⟨r,V2⟩: ∃r,r=gg g k f 0 b:=⟨_,rfl⟩;have J:a9 g (.mk k n f) b= .mk k n r:=by
   rw[V2]
   conv=> lhs;unfold a9
   rw[if_neg qh]
  have I:C8 h (.mk k n f) b=Uc h k f 0 b:=by
   conv=> lhs;unfold C8
   rw[if_neg qh]
  have nk:r.length=f.length:=by rw[V2,tD]
  have R7: ∀j (hj:j < f.length),r[j]'(by omega)=a9 g f[j] (b+E4 k j):=fun j hj=> by
   subst V2;rw[Xs g hj,eV]
  rw[J,I];have U5:=hdq R7;have C:=hdq y;have V9:=hdq ep;have L8:=hdq hT;have O:=hdq rp;have vn:=hdq hL;have Fq:=hdq hsk;have yq:=y _ _ _ T Q;clear J V2 R7 I y ep hT rp hL hsk;go_enter func135,ntmps135;go_wp2_with fail;generalize d9:(w.alloc (.cells #[.int .i64 k,.int .i64 n,.slice A f.length cap] 25)).alloc (.cells #[.int .i64 0,.int .i64 0,.slice none 0 0] 25)=F at*;clear d9;obtain⟨W,hW⟩: ∃W,W=F.alloc (.cells #[.int .i64 k,.int .i64 n,.slice none 0 0] 25):=⟨_,rfl⟩;have ju:W.heap.size=w.heap.size+3:=by rw[hW];simp;omega
  have Z8:Ext F W:=hW▸(xr F).alloc _;have cg:W.heap[w.heap.size+1+1]? =some (.cells #[.int .i64 k,.int .i64 n,.slice none 0 0] 25 (0,0)):=by
   have:=aR F (.cells #[.int .i64 k,.int .i64 n,.slice none 0 0] 25);rw[rc] at this;rw[hW];exact this
  rw[<-hW];have Jj:=C.out _ _ _ yq Z8;clear hW yq T
  go_loopw [26] (fun i wr=> ∃(j:Nat) (v:aS) (U:Bool),j<=f.length/\i= .int .i64 j/\wr.heap[w.heap.size+1+1]? =some (.cells #[.int .i64 k,.int .i64 n,v] 25 (0,0))/\N4 W wr 25 v (r.take j)/\X0 L F wr/\W.heap.size<=wr.heap.size/\Inv wr U/\(s && Uc h k f 0 b)=(U && Uc h k (f.drop j) j b)) (fun i _=> f.length -(intOf i).toNat)
  case atStart=> exact⟨0,_,s,bT _,rfl,cg,N4.nil _ _ _,oE Z8,aM _,Jj,rfl⟩
  case round=>
   obtain⟨j,v,U,hj,rfl,E6,hG,E,hle,sr,S0⟩:=hrel;have HE:=hdq S0;have S:Ext a wr:=E.ext (ha.trans Q) (fun x hx=>(vn.out x hx).1);have ei:=(E.block _ (by omega) (fun hm=> by have:=O.out _ hm;omega)).trans P9;obtain⟨x0,x1,x2,-,-,-⟩:=own3 ei;clear S0;by_cases D:j < f.length
   · obtain⟨b',o,K,G,R,m,kids,rfl,HK,c0,c1,c2,G7,G0,hK',u6,d6⟩:=hK.get S D
     have jl:Lies a (.mk K G kids) (.agg #[.int .i64 K,.int .i64 G,.slice R kids.length m]):=by
      obtain⟨b2,o2,k2,n2,A2,F4,q17,V,Z,q0,N,H,h6,h7,h8,h9,h10⟩:=hK.get (xr a) D;obtain⟨rfl,rfl⟩:b'=b2/\o=o2:=by cases V;exact⟨rfl,rfl⟩
      have e3:=(S.cell q0).symm.trans c0;have e4:=(S.cell N).symm.trans c1;have e5:=(S.cell H).symm.trans c2;have e6:=Z.out.symm.trans HK.out;cases e3;cases e4;cases e6;cases e5
      exact h9
     have F7:=vD (l:=r) (j:=j) (by omega) (U5.out j D);rw[HK.out] at F7;have ck:Uc h k (f.drop j) j b=(C8 h (.mk K G kids) (b+E4 k j)&& Uc h k (f.drop (j+1)) (j+1) b):=by
      rw[bX D,HK.out]
      conv=> lhs;unfold Uc
     have wj:=Xp k j;obtain⟨uu,hu⟩: ∃u,u=E4 k j:=⟨_,rfl⟩;have HU:=hdq (fun W=> ws k j W);rw[<-hu] at HU wj F7 ck;have gj:=hdq F7;have ug:=hdq ck;have hcm:=L9 d6;have ap:=Fq.out _ d6;have oy:(j:Int) <(f.length:Int):=by omega
     have pk:=hdq (dR (b+uu) ⟨by omega,by omega⟩);have HR:=hdq (hk _ d6 a);clear hu F7 ck;have hlen:(r.take j).length < 1099511627776:=by rw[cU];omega
     have R8:(r.take j).length=j:=by rw[cU];omega
     have HL:=hdq R8;go_wp2_with fail;have hx:=(xr wr).alloc (.cells #[.int .i64 K,.int .i64 G,.slice R kids.length m] 25);have L6:=aR wr (.cells #[.int .i64 K,.int .i64 G,.slice R kids.length m] 25);obtain⟨c,hwd⟩: ∃c,c=wr.alloc (.cells #[.int .i64 K,.int .i64 G,.slice R kids.length m] 25):=⟨_,rfl⟩;rw[<-hwd] at hx L6⊢;clear hwd;have hsr:W.heap.size<=wr.heap.size:=hle;have tz:wr.heap.size < c.heap.size:=O1 L6;have Az:=hdq hG;have lp:=hx.blk E6;have kj:=hx.blk ei;have hv:=i1 lp 2;have T3:=C.out _ _ _ sr hx;have yh:=C.out _ _ _ T3 (xr c).drew;have ij:=hx.trans (xr c).drew;have HF:=hdq (HR.out c.drew _ (b+uu) (d - 1) p1 p2 p3 L B Inv g h U ap jl (S.trans ij) (fun x hx=>⟨(vn.out x hx).1,by have:=O.out x hx;show x < c.heap.size;omega⟩) (by omega) (by omega) L8.out C.out (by show B<=c.heap.size;omega) V9.out yh);have HS:=hdq (show∀q:aK,q.heap[w.heap.size]? =c.heap[w.heap.size]? ->q.heap[wr.heap.size]? =c.heap[wr.heap.size]? ->q.cell? ⟨w.heap.size,0,none⟩=some (.int .i64 k)/\q.cell? ⟨wr.heap.size,0,none⟩=some (.int .i64 K)/\q.cell? ⟨wr.heap.size,1,none⟩=some (.int .i64 G)/\q.cell? ⟨wr.heap.size,2,none⟩=some (.slice R kids.length m) from fun q V Z=> by
      have N:=V.trans kj;have H:=Z.trans L6;exact⟨i1 N 0,i1 H 0,i1 H 1,i1 H 2⟩)
     have HV:=hdq (show∀q:aK,q.heap[w.heap.size+1+1]? =c.heap[w.heap.size+1+1]? ->q.heap[w.heap.size+1+1]? =some (.cells #[.int .i64 k,.int .i64 n,v] 25 (0,0)) from fun q V=> V.trans lp);have Eo:X0 L F c:=E.trans (oE hx);clear R8 E6 hG hle hcc x0 x1 x2 c0 c1 c2 ei L6 kj S jl HR ap sr T3 yh u6 hK';rw[show Op.load 23 (Operand.tmp 31)=Vw 23 31 from rfl]
     go_region_held_law (fun q=> q.cell? ⟨w.heap.size,0,none⟩=some (.int .i64 k)/\q.cell? ⟨wr.heap.size,0,none⟩=some (.int .i64 K)/\q.cell? ⟨wr.heap.size,1,none⟩=some (.int .i64 G)/\q.cell? ⟨wr.heap.size,2,none⟩=some (.slice R kids.length m))
      (first|exact HS.out _ ((aL _ _ _ _ (by show w.heap.size≠w.heap.size+1+1;omega)).trans yj) ((aL _ _ _ _ (by show wr.heap.size≠w.heap.size+1+1;omega)).trans yb) |exact HS.out _ yj yb|exact HS.out _ ((fV _ _ _ (by omega)).trans vg) ((fV _ _ _ (by omega)).trans sf) |exact HS.out _ vg sf|exact HS.out _ rfl rfl)
      (first|(go_simp;go_at_call 138;refine(HU.out _).mono ?_;rintro e wu ⟨rfl,rfl⟩) |(go_simp;go_at_call 135;(try rw[pk.out]);refine HF.out.mono ?_;rintro e w4 ⟨u,rfl,P,M,Fg⟩;obtain⟨a1,a2,a3,a4,a5,rfl⟩:=P.three';have ie:c.heap.size<=w4.heap.size:=M.size;have vg:w4.heap[w.heap.size]? =c.heap[w.heap.size]? :=M.block _ (by show w.heap.size < c.heap.size;omega) (fun hm=> by have:=O.out _ hm;omega);have sf:w4.heap[wr.heap.size]? =c.heap[wr.heap.size]? :=M.block _ tz (fun hm=> by have:=O.out _ hm;omega);have Bg:w4.heap[w.heap.size+1+1]? =c.heap[w.heap.size+1+1]? :=M.block _ (by show w.heap.size+1+1 < c.heap.size;omega) (fun hm=> by have:=O.out _ hm;omega);have Y:=i1 (HV.out _ Bg) 2;have Fl:=bR _ _ Y) |(refine iJ _ (by rfl) (.tmp 32) (.tmp 42) _ (by rfl) 25 i0 _ underlying23 hi hz0 hz1 hz2 rfl (by rfl) Az.out (by omega) (by omega) (fun x V Z=>(M.block x (by show x < c.heap.size;omega) (fun hm=> by have:=O.out _ hm;omega)).trans (hx.heap x Z)) (P.since (by show wr.heap.size<=c.heap.size;omega)) ((xr _).alloc _) (by rfl) (aR _ _) hlen ?_;intro v' X B9 x7 Jf;obtain⟨B5,c5,rfl,N,H,-⟩:=B9.made;have yj:X.heap[w.heap.size]? =c.heap[w.heap.size]? :=(x7.block _ (by omega)).trans vg;have yb:X.heap[wr.heap.size]? =c.heap[wr.heap.size]? :=(Jf _ (by show wr.heap.size<=_;omega) (by omega)).trans sf;have sj:=HV.out _ ((x7.block _ (by omega)).trans Bg);have ig:=i1 sj 2;have qp:=Ob sj 2))
     all_goals(
      have jy:X0 L F X:=(Eo.trans ((oE (xr c).drew).trans M)).below x7 (by omega);have hs5:=x7.size;rw[cL,cO,HL.out,gj.out] at B9;have ib:=fun u=> B9.after ((pa.refl W.heap.size X).setCell (p:=⟨w.heap.size+1+1,2,none⟩) (by show w.heap.size+1+1 < W.heap.size;omega) u)
      have Gp:=fun u=> V9.out w4 (X.setCell ⟨w.heap.size+1+1,2,none⟩ u) _ Fg (fun x hx=>(aL _ _ _ _ (by show x≠w.heap.size+1+1;omega)).trans (x7.block x (by omega))) (by simp;omega)
      have Ep:=fun u=>(show X0 L F (X.setCell ⟨w.heap.size+1+1,2,none⟩ u) from⟨jy.os,jy.tape,jy.output,by simpa using jy.size,fun x hx hn=>(aL _ _ _ _ (by show x≠w.heap.size+1+1;omega)).trans (jy.block x hx hn)⟩)
      clear Y hv P M;go_wp2_with fail
      go_roundw
      case rel=> exact⟨j+1,_,_,by omega,by go_num,M6 sj 2 _,ib _,Ep _,by simp;omega,Gp _,by rw[HE.out,ug.out,Bool.and_assoc]⟩
      case measure=> simp[intOf];omega)
   · obtain⟨B5,c5,rfl,N,H,W5⟩:=hG.made
     have tv:r.take j=r:=fN (by omega);obtain⟨r0,r1,r2,-,-,-⟩:=own3 E6;have N7:=(E.block _ hs1 (fun hm=> by have:=O.out _ hm;omega)).trans E1;obtain⟨s0,s1,Eg,f0,f1,f2⟩:=own3 N7;rw[tv] at N r2 W5;rw[cR (by omega)] at HE;clear E6;go_wp2_with fail;refine aO (v:= .agg #[.int .i64 k,.int .i64 n,.slice B5 r.length c5]) (by simp[aQ,results135,go_sem,s0,s1,Eg,nk]) rfl ⟨_,rfl, ?_, ?_, ?_⟩
     · exact P0.since (P0.after (P0.mk N H W5) ((((pa.refl _ _).setCell (by show w.heap.size+1 < _;omega) _).setCell (by show w.heap.size+1 < _;omega) _).setCell (by show w.heap.size+1 < _;omega) _)) (by omega)
     · have z:=(oE (L:=L) Q).trans E
       refine⟨z.os,z.tape,z.output,by simpa using z.size,fun x hx hn=> ?_⟩;rw[aL _ _ _ _ (by show x≠w.heap.size+1;omega),aL _ _ _ _ (by show x≠w.heap.size+1;omega),aL _ _ _ _ (by show x≠w.heap.size+1;omega)];exact z.block x hx hn
     · have hE:=HE.out
       simp only[Uc,Bool.and_true] at hE;rw[hE];refine V9.out _ _ _ sr (fun x hx=> ?_) (by simp);rw[aL _ _ _ _ (by show x≠w.heap.size+1;omega),aL _ _ _ _ (by show x≠w.heap.size+1;omega),aL _ _ _ _ (by show x≠w.heap.size+1;omega)]
def Lj(a:aK)(f i d:Nat)(L:List Nat)(Inv:aK->Bool->Prop)(g:Int->Int->Tr)(h:Int->Int->Bool):Prop:=
 ∀(w:aK) (s:Bool) (n b:Int),Ext a w->Inv w s->0<=n->n<=20->0<=b->b<=1000->Calls prog 158 #[.int .i64 n,.int .i64 b,.pointer (some ⟨f,0,none⟩),.pointer (some ⟨i,0,none⟩),.pointer (some ⟨d,0,none⟩)] w fun e c=> ∃u,e= .returned u/\P0 w c 25 (g n b) u/\X0 L w c/\Inv c (s && h n b)
def Tp(t:Tr):Prop:= ∀(a w:aK) (v:aS) (b d:Int) (l j k:Nat) (L:List Nat) (B:Nat) (Inv:aK->Bool->Prop) (g:Int->Int->Tr) (h:Int->Int->Bool) (s:Bool),
 D0 m0 t d=true->Lies a t v->Ext a w->(∀x,x∈L->a.heap.size<=x/\x < w.heap.size)->0<=b->b+cnt t<=1000->
 Lj a l j k L Inv g h->(∀f c s,Inv f s->Ext f c->Inv c s)->B<=w.heap.size->(∀f c s,Inv f s->(∀x,x < B->c.heap[x]? =f.heap[x]?)->f.heap.size<=c.heap.size->Inv c s)->Inv w s->
 Calls prog 135 #[v,.int .i64 b,.func (.func 158) #[] #[.pointer (some ⟨l,0,none⟩),.pointer (some ⟨j,0,none⟩),.pointer (some ⟨k,0,none⟩)]] w fun e i=> ∃u,e= .returned u/\P0 w i 25 (a9 g t b) u/\X0 L w i/\Inv i (s && C8 h t b)
theorem iG: ∀t:Tr,Tp t:=Tr.ind fun k n f hk=> by
 intro a w v b d p1 p2 p3 L B Inv g h s hsh b8 ha hL hb0 hb1 hT y hB ep T;obtain⟨A,cap,rfl,hl,hc,hK⟩:=Lies.mk_iff.1 b8;obtain⟨-,M4,P4,hsk⟩:=Z4 hsh;obtain⟨i0,hi,hz0,hz1,hz2⟩:=info_parts Bo;have hlc:=kf f;have hcc:=hc;unfold maxLen at hcc;simp only[cnt] at hb1;have U7:=Bk k;obtain⟨b1,d1⟩: ∃b1,(k==1)=b1:=⟨_,rfl⟩;have rp: ∀x,x∈L->x < w.heap.size:=fun x hx=>(hL x hx).2
 have Q:Ext w ((w.alloc (.cells #[.int .i64 k,.int .i64 n,.slice A f.length cap] 25)).alloc (.cells #[.int .i64 0,.int .i64 0,.slice none 0 0] 25)):=((xr w).alloc _).alloc _;obtain⟨P9,E1,hs1⟩:=W3 (xr ((w.alloc (.cells #[.int .i64 k,.int .i64 n,.slice A f.length cap] 25)).alloc (.cells #[.int .i64 0,.int .i64 0,.slice none 0 0] 25)));have rc:((w.alloc (.cells #[.int .i64 k,.int .i64 n,.slice A f.length cap] 25)).alloc (.cells #[.int .i64 0,.int .i64 0,.slice none 0 0] 25)).heap.size=w.heap.size+2:=by simp
 cases b1 with
 |true=>
  obtain rfl:k=1:=by simpa using d1
  have e1:a9 g (.mk 1 n f) b=g n b:=by unfold a9;rw[if_pos rfl]
  have e2:C8 h (.mk 1 n f) b=h n b:=by unfold C8;rw[if_pos rfl]
  rw[e1,e2];have fx:=hdq (hT _ s n b (ha.trans Q) (y _ _ _ T Q) M4 (by omega) hb0 (by omega));clear e1 e2 hT y T;go_enter func135,ntmps135;go_wp2_with fail;refine fx.out.mono ?_;rintro e F ⟨u,rfl,P,E,T⟩;obtain⟨a1,a2,a3,a4,a5,rfl⟩:=P.three';have hb2:=(E.block _ (by omega) (fun hm=> by have:=rp _ hm;omega)).trans E1;obtain⟨s0,s1,U,f0,f1,f2⟩:=own3 hb2;have Iz:=E.size;clear fx P9 E1 hb2;go_wp2_with fail;refine aO (v:= .agg #[.int .i64 a1,.int .i64 a2,.slice a3 a4 a5]) (by simp[aQ,results135,go_sem,s0,s1,U]) rfl ⟨_,rfl, ?_, ?_, ?_⟩
  · exact P0.since (P.after ((((pa.refl _ _).setCell (by simp) _).setCell (by simp) _).setCell (by simp) _)) (by simp;omega)
  · have z:=(oE (L:=L) Q).trans E
    refine⟨z.os,z.tape,z.output,by simpa using z.size,fun x hx hn=> ?_⟩;rw[aL _ _ _ _ (by simp;omega),aL _ _ _ _ (by simp;omega),aL _ _ _ _ (by simp;omega)];exact z.block x hx hn
  · refine ep _ _ _ T (fun x hx=> ?_) (by simp)
    rw[aL _ _ _ _ (by simp;omega),aL _ _ _ _ (by simp;omega),aL _ _ _ _ (by simp;omega)]
 |false=>
  have qh:k≠1:=by simpa using d1
  obtain⟨r,V2⟩: ∃r,r=gg g k f 0 b:=⟨_,rfl⟩;have J:a9 g (.mk k n f) b= .mk k n r:=by
   rw[V2]
   conv=> lhs;unfold a9
   rw[if_neg qh]
  have I:C8 h (.mk k n f) b=Uc h k f 0 b:=by
   conv=> lhs;unfold C8
   rw[if_neg qh]
  have nk:r.length=f.length:=by rw[V2,tD]
  have R7: ∀j (hj:j < f.length),r[j]'(by omega)=a9 g f[j] (b+E4 k j):=fun j hj=> by
   subst V2;rw[Xs g hj,eV]
  rw[J,I];have U5:=hdq R7;have C:=hdq y;have V9:=hdq ep;have L8:=hdq hT;have O:=hdq rp;have vn:=hdq hL;have Fq:=hdq hsk;have yq:=y _ _ _ T Q;clear J V2 R7 I y ep hT rp hL hsk;go_enter func135,ntmps135;go_wp2_with fail;generalize d9:(w.alloc (.cells #[.int .i64 k,.int .i64 n,.slice A f.length cap] 25)).alloc (.cells #[.int .i64 0,.int .i64 0,.slice none 0 0] 25)=F at*;clear d9;obtain⟨W,hW⟩: ∃W,W=F.alloc (.cells #[.int .i64 k,.int .i64 n,.slice none 0 0] 25):=⟨_,rfl⟩;have ju:W.heap.size=w.heap.size+3:=by rw[hW];simp;omega
  have Z8:Ext F W:=hW▸(xr F).alloc _;have cg:W.heap[w.heap.size+1+1]? =some (.cells #[.int .i64 k,.int .i64 n,.slice none 0 0] 25 (0,0)):=by
   have:=aR F (.cells #[.int .i64 k,.int .i64 n,.slice none 0 0] 25);rw[rc] at this;rw[hW];exact this
  rw[<-hW];have Jj:=C.out _ _ _ yq Z8;clear hW yq T
  go_loopw [26] (fun i wr=> ∃(j:Nat) (v:aS) (U:Bool),j<=f.length/\i= .int .i64 j/\wr.heap[w.heap.size+1+1]? =some (.cells #[.int .i64 k,.int .i64 n,v] 25 (0,0))/\N4 W wr 25 v (r.take j)/\X0 L F wr/\W.heap.size<=wr.heap.size/\Inv wr U/\(s && Uc h k f 0 b)=(U && Uc h k (f.drop j) j b)) (fun i _=> f.length -(intOf i).toNat)
  case atStart=> exact⟨0,_,s,bT _,rfl,cg,N4.nil _ _ _,oE Z8,aM _,Jj,rfl⟩
  case round=>
   obtain⟨j,v,U,hj,rfl,E6,hG,E,hle,sr,S0⟩:=hrel;have HE:=hdq S0;have S:Ext a wr:=E.ext (ha.trans Q) (fun x hx=>(vn.out x hx).1);have ei:=(E.block _ (by omega) (fun hm=> by have:=O.out _ hm;omega)).trans P9;obtain⟨x0,x1,x2,-,-,-⟩:=own3 ei;clear S0;by_cases D:j < f.length
   · obtain⟨b',o,K,G,R,m,kids,rfl,HK,c0,c1,c2,G7,G0,hK',u6,d6⟩:=hK.get S D
     have jl:Lies a (.mk K G kids) (.agg #[.int .i64 K,.int .i64 G,.slice R kids.length m]):=by
      obtain⟨b2,o2,k2,n2,A2,F4,q17,V,Z,q0,N,H,h6,h7,h8,h9,h10⟩:=hK.get (xr a) D;obtain⟨rfl,rfl⟩:b'=b2/\o=o2:=by cases V;exact⟨rfl,rfl⟩
      have e3:=(S.cell q0).symm.trans c0;have e4:=(S.cell N).symm.trans c1;have e5:=(S.cell H).symm.trans c2;have e6:=Z.out.symm.trans HK.out;cases e3;cases e4;cases e6;cases e5
      exact h9
     have F7:=vD (l:=r) (j:=j) (by omega) (U5.out j D);rw[HK.out] at F7;have ck:Uc h k (f.drop j) j b=(C8 h (.mk K G kids) (b+E4 k j)&& Uc h k (f.drop (j+1)) (j+1) b):=by
      rw[bX D,HK.out]
      conv=> lhs;unfold Uc
     have wj:=Xp k j;obtain⟨uu,hu⟩: ∃u,u=E4 k j:=⟨_,rfl⟩;have HU:=hdq (fun W=> ws k j W);rw[<-hu] at HU wj F7 ck;have gj:=hdq F7;have ug:=hdq ck;have hcm:=L9 d6;have ap:=Fq.out _ d6;have oy:(j:Int) <(f.length:Int):=by omega
     have pk:=hdq (dR (b+uu) ⟨by omega,by omega⟩);have HR:=hdq (hk _ d6 a);clear hu F7 ck;have hlen:(r.take j).length < 1099511627776:=by rw[cU];omega
     have R8:(r.take j).length=j:=by rw[cU];omega
     have HL:=hdq R8;go_wp2_with fail;have hx:=(xr wr).alloc (.cells #[.int .i64 K,.int .i64 G,.slice R kids.length m] 25);have L6:=aR wr (.cells #[.int .i64 K,.int .i64 G,.slice R kids.length m] 25);obtain⟨c,hwd⟩: ∃c,c=wr.alloc (.cells #[.int .i64 K,.int .i64 G,.slice R kids.length m] 25):=⟨_,rfl⟩;rw[<-hwd] at hx L6⊢;clear hwd;have hsr:W.heap.size<=wr.heap.size:=hle;have tz:wr.heap.size < c.heap.size:=O1 L6;have Az:=hdq hG;have lp:=hx.blk E6;have kj:=hx.blk ei;have hv:=i1 lp 2;have T3:=C.out _ _ _ sr hx;have yh:=C.out _ _ _ T3 (xr c).drew;have ij:=hx.trans (xr c).drew;have HF:=hdq (HR.out c.drew _ (b+uu) (d - 1) p1 p2 p3 L B Inv g h U ap jl (S.trans ij) (fun x hx=>⟨(vn.out x hx).1,by have:=O.out x hx;show x < c.heap.size;omega⟩) (by omega) (by omega) L8.out C.out (by show B<=c.heap.size;omega) V9.out yh);have HS:=hdq (show∀q:aK,q.heap[w.heap.size]? =c.heap[w.heap.size]? ->q.heap[wr.heap.size]? =c.heap[wr.heap.size]? ->q.cell? ⟨w.heap.size,0,none⟩=some (.int .i64 k)/\q.cell? ⟨wr.heap.size,0,none⟩=some (.int .i64 K)/\q.cell? ⟨wr.heap.size,1,none⟩=some (.int .i64 G)/\q.cell? ⟨wr.heap.size,2,none⟩=some (.slice R kids.length m) from fun q V Z=> by
      have N:=V.trans kj;have H:=Z.trans L6;exact⟨i1 N 0,i1 H 0,i1 H 1,i1 H 2⟩)
     have HV:=hdq (show∀q:aK,q.heap[w.heap.size+1+1]? =c.heap[w.heap.size+1+1]? ->q.heap[w.heap.size+1+1]? =some (.cells #[.int .i64 k,.int .i64 n,v] 25 (0,0)) from fun q V=> V.trans lp);have Eo:X0 L F c:=E.trans (oE hx);clear R8 E6 hG hle hcc x0 x1 x2 c0 c1 c2 ei L6 kj S jl HR ap sr T3 yh u6 hK';rw[show Op.load 23 (Operand.tmp 31)=Vw 23 31 from rfl]
     go_region_held_law (fun q=> q.cell? ⟨w.heap.size,0,none⟩=some (.int .i64 k)/\q.cell? ⟨wr.heap.size,0,none⟩=some (.int .i64 K)/\q.cell? ⟨wr.heap.size,1,none⟩=some (.int .i64 G)/\q.cell? ⟨wr.heap.size,2,none⟩=some (.slice R kids.length m))
      (first|exact HS.out _ ((aL _ _ _ _ (by show w.heap.size≠w.heap.size+1+1;omega)).trans yj) ((aL _ _ _ _ (by show wr.heap.size≠w.heap.size+1+1;omega)).trans yb) |exact HS.out _ yj yb|exact HS.out _ ((fV _ _ _ (by omega)).trans vg) ((fV _ _ _ (by omega)).trans sf) |exact HS.out _ vg sf|exact HS.out _ rfl rfl)
      (first|(go_simp;go_at_call 138;refine(HU.out _).mono ?_;rintro e wu ⟨rfl,rfl⟩) |(go_simp;go_at_call 135;(try rw[pk.out]);refine HF.out.mono ?_;rintro e w4 ⟨u,rfl,P,M,Fg⟩;obtain⟨a1,a2,a3,a4,a5,rfl⟩:=P.three';have ie:c.heap.size<=w4.heap.size:=M.size;have vg:w4.heap[w.heap.size]? =c.heap[w.heap.size]? :=M.block _ (by show w.heap.size < c.heap.size;omega) (fun hm=> by have:=O.out _ hm;omega);have sf:w4.heap[wr.heap.size]? =c.heap[wr.heap.size]? :=M.block _ tz (fun hm=> by have:=O.out _ hm;omega);have Bg:w4.heap[w.heap.size+1+1]? =c.heap[w.heap.size+1+1]? :=M.block _ (by show w.heap.size+1+1 < c.heap.size;omega) (fun hm=> by have:=O.out _ hm;omega);have Y:=i1 (HV.out _ Bg) 2;have Fl:=bR _ _ Y) |(refine iJ _ (by rfl) (.tmp 32) (.tmp 42) _ (by rfl) 25 i0 _ underlying23 hi hz0 hz1 hz2 rfl (by rfl) Az.out (by omega) (by omega) (fun x V Z=>(M.block x (by show x < c.heap.size;omega) (fun hm=> by have:=O.out _ hm;omega)).trans (hx.heap x Z)) (P.since (by show wr.heap.size<=c.heap.size;omega)) ((xr _).alloc _) (by rfl) (aR _ _) hlen ?_;intro v' X B9 x7 Jf;obtain⟨B5,c5,rfl,N,H,-⟩:=B9.made;have yj:X.heap[w.heap.size]? =c.heap[w.heap.size]? :=(x7.block _ (by omega)).trans vg;have yb:X.heap[wr.heap.size]? =c.heap[wr.heap.size]? :=(Jf _ (by show wr.heap.size<=_;omega) (by omega)).trans sf;have sj:=HV.out _ ((x7.block _ (by omega)).trans Bg);have ig:=i1 sj 2;have qp:=Ob sj 2))
     all_goals(
      have jy:X0 L F X:=(Eo.trans ((oE (xr c).drew).trans M)).below x7 (by omega);have hs5:=x7.size;rw[cL,cO,HL.out,gj.out] at B9;have ib:=fun u=> B9.after ((pa.refl W.heap.size X).setCell (p:=⟨w.heap.size+1+1,2,none⟩) (by show w.heap.size+1+1 < W.heap.size;omega) u)
      have Gp:=fun u=> V9.out w4 (X.setCell ⟨w.heap.size+1+1,2,none⟩ u) _ Fg (fun x hx=>(aL _ _ _ _ (by show x≠w.heap.size+1+1;omega)).trans (x7.block x (by omega))) (by simp;omega)
      have Ep:=fun u=>(show X0 L F (X.setCell ⟨w.heap.size+1+1,2,none⟩ u) from⟨jy.os,jy.tape,jy.output,by simpa using jy.size,fun x hx hn=>(aL _ _ _ _ (by show x≠w.heap.size+1+1;omega)).trans (jy.block x hx hn)⟩)
      clear Y hv P M;go_wp2_with fail
      go_roundw
      case rel=> exact⟨j+1,_,_,by omega,by go_num,M6 sj 2 _,ib _,Ep _,by simp;omega,Gp _,by rw[HE.out,ug.out,Bool.and_assoc]⟩
      case measure=> simp[intOf];omega)
   · obtain⟨B5,c5,rfl,N,H,W5⟩:=hG.made
     have tv:r.take j=r:=fN (by omega);obtain⟨r0,r1,r2,-,-,-⟩:=own3 E6;have N7:=(E.block _ hs1 (fun hm=> by have:=O.out _ hm;omega)).trans E1;obtain⟨s0,s1,Eg,f0,f1,f2⟩:=own3 N7;rw[tv] at N r2 W5;rw[cR (by omega)] at HE;clear E6;go_wp2_with fail;refine aO (v:= .agg #[.int .i64 k,.int .i64 n,.slice B5 r.length c5]) (by simp[aQ,results135,go_sem,s0,s1,Eg,nk]) rfl ⟨_,rfl, ?_, ?_, ?_⟩
     · exact P0.since (P0.after (P0.mk N H W5) ((((pa.refl _ _).setCell (by show w.heap.size+1 < _;omega) _).setCell (by show w.heap.size+1 < _;omega) _).setCell (by show w.heap.size+1 < _;omega) _)) (by omega)
     · have z:=(oE (L:=L) Q).trans E
       refine⟨z.os,z.tape,z.output,by simpa using z.size,fun x hx hn=> ?_⟩;rw[aL _ _ _ _ (by show x≠w.heap.size+1;omega),aL _ _ _ _ (by show x≠w.heap.size+1;omega),aL _ _ _ _ (by show x≠w.heap.size+1;omega)];exact z.block x hx hn
     · have hE:=HE.out
       simp only[Uc,Bool.and_true] at hE;rw[hE];refine V9.out _ _ _ sr (fun x hx=> ?_) (by simp);rw[aL _ _ _ _ (by show x≠w.heap.size+1;omega),aL _ _ _ _ (by show x≠w.heap.size+1;omega),aL _ _ _ _ (by show x≠w.heap.size+1;omega)]
theorem YC(u:Tr): ∀{k:Int} {ts:List Tr} {i j:Nat} {x d:Int} (h:j < ts.length),(K8 u k ts i x d)[j]'(by rw[GD];exact h)=Q0 u ts[j] (x+E4 k (i+j)) (d+E4 k (i+j))
 |k,t::ts,i,0,x,d,h=> by simp[K8]
 |k,t::ts,i,j+1,x,d,h=> by
  simp only[K8,bO];rw[YC u (j:=j) (by simpa using h),show i+1+j=i+(j+1) by omega]
def MG(t:Tr):Prop:= ∀(w:aK) (v:aS) (x:Int) (u:Tr) (b:aS) (a d:Int),D0 m0 t d=true->Lies w t v->cnt t<=1000->D0 m0 u 30=true->cnt u<=1000->Lies w u b->0<=x->x+cnt t<=1000000->0<=a->a+cnt t<=1000000->
 Calls prog 121 #[v,.int .i64 x,b,.int .i64 a] w fun e c=> ∃r,e= .returned r/\P0 w c 25 (Q0 u t x a) r/\Ext w c
theorem Sz: ∀t:Tr,MG t:=Tr.ind fun k n g hk=> by
 intro w v x u vu F d hsh b8 O8 Cb lr P hx0 hx1 ej iw;obtain⟨-,M4,P4,X⟩:=Z4 hsh;have U7:=Bk k;obtain⟨A,cap,rfl,hl,hc,hK⟩:=Lies.mk_iff.1 b8;have Dd:=hdq (fun W (C:Ext w W)=> kC u W vu F 0 30 Cb (P.ext C) lr ej (by omega) (by omega) (by omega));have Cn:=hdq (fun t ht W kv x' d' z I h3 N h5 h6 (C:Ext w W)=> hk t ht W kv x' u vu d' (d - 1) (X t ht) z I Cb lr (P.ext C) h3 N h5 h6);have hinu2:=P;obtain⟨y,B,f⟩:=u;obtain⟨O,L,rfl,Et,wn,-⟩:=Lies.mk_iff.1 P;obtain⟨i0,hi,hz0,hz1,hz2⟩:=info_parts Bo;have S:=hc;unfold maxLen at S;simp only[cnt] at O8 hx1 iw;have hlc:=kf g;obtain⟨b1,d1⟩: ∃b1,(k==1)=b1:=⟨_,rfl⟩;obtain⟨s,V2⟩: ∃s,s=K8 (.mk y B f) k g 0 x F:=⟨_,rfl⟩;have nk:s.length=g.length:=by rw[V2,GD]
 have R7: ∀j (h:j < g.length),s[j]'(by omega)=Q0 (.mk y B f) g[j] (x+E4 k j) (F+E4 k j):=fun j h=> by
  subst V2;rw[YC _ h,eV]
 have a:Q0 (.mk y B f) (.mk k n g) x F=if k=1/\n=x then shfT F (.mk y B f) 0 else .mk k (if k=1/\x < n then n - 1 else n) s:=by
  rw[V2]
  conv=> lhs;unfold Q0
 have U5:=hdq R7;clear V2 R7 P;cases b1 with
 |true=>
  obtain rfl:k=1:=by simpa using d1
  obtain⟨rfl,-,-⟩:=RB hsh;obtain rfl:s= []:=List.eq_nil_of_length_eq_zero (by simpa using nk);by_cases z:n=x
  · rw[a,if_pos ⟨rfl,z⟩]
    have d2:(n==x)=true:=beq_iff_eq.2 z;clear a z Cn U5;go_enter func121,ntmps121;go_wp2_with fail;have M:=(((xr w).alloc (.cells #[.int .i64 1,.int .i64 n,.slice A 0 cap] 25)).alloc (.cells #[.int .i64 y,.int .i64 B,.slice O f.length L] 25)).alloc (.cells #[.int .i64 0,.int .i64 0,.slice none 0 0] 25);obtain⟨-,-,E1,hsz⟩:=mc (xr (((w.alloc (.cells #[.int .i64 1,.int .i64 n,.slice A 0 cap] 25)).alloc (.cells #[.int .i64 y,.int .i64 B,.slice O f.length L] 25)).alloc (.cells #[.int .i64 0,.int .i64 0,.slice none 0 0] 25)));refine(Dd.out _ M).mono ?_;rintro e q ⟨r,rfl,J,e1⟩;obtain⟨a1,a2,a3,a4,a5,rfl⟩:=J.three';obtain⟨s0,s1,s2,f0,f1,f2⟩:=own3 (e1.blk E1);go_wp2_with fail;refine aO (v:= .agg #[.int .i64 a1,.int .i64 a2,.slice a3 a4 a5]) (by simp[aQ,results121,go_sem,s0,s1,s2]) rfl ⟨_,rfl, ?_, ?_⟩
    · exact P0.since (J.after ((((pa.refl _ _).setCell (by simp) _).setCell (by simp) _).setCell (by simp) _)) (by simp;omega)
    · exact((((M.trans e1).setCell (by simp;omega) _).setCell (by simp;omega) _).setCell (by simp;omega) _)
  · have d2:(n==x)=false:=beq_eq_false_iff_ne.2 z
    by_cases I:x < n
    · have d3:decide (x < n)=true:=decide_eq_true I
      rw[a,if_neg (fun h=> z h.2),if_pos ⟨rfl,I⟩];clear a z Cn U5 Dd;go_enter func121,ntmps121;go_wp2_with fail;refine wp_loop_rounds 1 ?_;rw[rounds_succ];go_wp2_with fail;exact aO (v:= .agg #[.int .i64 1,.int .i64 (n - 1),.slice none 0 0]) (by simp[aQ,results121,go_sem]) rfl ⟨_,rfl,P0.leaf _ _ _ _ _,((((xr w).alloc _).alloc _).alloc _).alloc _⟩
    · have d3:decide (x < n)=false:=decide_eq_false I
      rw[a,if_neg (fun h=> z h.2),if_neg (fun h=> I h.2)];clear a z Cn U5 Dd;go_enter func121,ntmps121;go_wp2_with fail;refine wp_loop_rounds 1 ?_;rw[rounds_succ];go_wp2_with fail;exact aO (v:= .agg #[.int .i64 1,.int .i64 n,.slice none 0 0]) (by simp[aQ,results121,go_sem]) rfl ⟨_,rfl,P0.leaf _ _ _ _ _,((((xr w).alloc _).alloc _).alloc _).alloc _⟩
 |false=>
  have qh:k≠1:=by simpa using d1
  rw[a,if_neg (fun h=> qh h.1),if_neg (fun h=> qh h.1)];clear a Dd;go_enter func121,ntmps121;go_wp2_with fail;obtain⟨q,H⟩: ∃q,q=((w.alloc (.cells #[.int .i64 k,.int .i64 n,.slice A g.length cap] 25)).alloc (.cells #[.int .i64 y,.int .i64 B,.slice O f.length L] 25)).alloc (.cells #[.int .i64 0,.int .i64 0,.slice none 0 0] 25):=⟨_,rfl⟩;obtain⟨W,C⟩: ∃W,W=q.alloc (.cells #[.int .i64 k,.int .i64 n,.slice none 0 0] 25):=⟨_,rfl⟩;have hs1:q.heap.size=w.heap.size+1+1+1:=by rw[H];simp
  have ju:W.heap.size=w.heap.size+4:=by rw[C];simp;omega
  have M:Ext w q:=H▸(((xr w).alloc _).alloc _).alloc _;have Z8:Ext q W:=C▸(xr q).alloc _;have E1:q.heap[w.heap.size+1+1]? =some (.cells #[.int .i64 0,.int .i64 0,.slice none 0 0] 25 (0,0)):=by
   rw[H];exact(mc (xr _)).2.2.1
  have cg:W.heap[w.heap.size+1+1+1]? =some (.cells #[.int .i64 k,.int .i64 n,.slice none 0 0] 25 (0,0)):=by
   have:=aR q (.cells #[.int .i64 k,.int .i64 n,.slice none 0 0] 25);rw[hs1] at this;rw[C];exact this
  have P9:q.heap[w.heap.size]? =some (.cells #[.int .i64 k,.int .i64 n,.slice A g.length cap] 25 (0,0)):=by
   rw[H];exact(mc (xr _)).1
  have Jo:q.heap[w.heap.size+1]? =some (.cells #[.int .i64 y,.int .i64 B,.slice O f.length L] 25 (0,0)):=by
   rw[H];exact(mc (xr _)).2.1
  rw[<-H,<-C];clear C H
  go_loopw [10,11] (fun i _ wr=> ∃(j:Nat) (v:aS),j<=g.length/\i= .int .i64 j/\wr.heap[w.heap.size+1+1+1]? =some (.cells #[.int .i64 k,.int .i64 n,v] 25 (0,0))/\N4 W wr 25 v (s.take j)/\Ext q wr/\W.heap.size<=wr.heap.size) (fun i _ _=> g.length -(intOf i).toNat)
  case atStart=> exact⟨0,_,bT _,rfl,cg,N4.nil _ _ _,Z8,aM _⟩
  case round=>
   obtain⟨j,v,hj,rfl,E6,hG,E,T⟩:=hrel;by_cases G:j < g.length
   · obtain⟨b,o,k',n',A',D,kids,rfl,HK,c0,c1,c2,G7,G0,hK',u6,d6⟩:=hK.get (M.trans E) G
     have F7:=vD (l:=s) (j:=j) (by omega) (U5.out j G);rw[HK.out] at F7;have wj:=Xp k j;have ap:=X _ d6;have oy:(j:Int) <(g.length:Int):=by omega
     obtain⟨Z,hu⟩: ∃u,u=E4 k j:=⟨_,rfl⟩;have HU:=hdq (fun W=> Fz k j W);rw[<-hu] at HU wj F7;have gj:=hdq F7;have pk:=hdq (dR (x+Z) ⟨by omega,by omega⟩);have HWS:=hdq (dR (F+Z) ⟨by omega,by omega⟩);clear hu F7;have hcm:=L9 d6;have U:(s.take j).length < 1099511627776:=by rw[cU];omega
     have R8:(s.take j).length=j:=by rw[cU];omega
     have HL:=hdq R8;have J9:=E.blk P9;obtain⟨t0,-,t2,-,-,-⟩:=own3 J9;obtain⟨u0,u1,u2,-,-,-⟩:=own3 (E.blk Jo);have hj':(j:Int) <(g.length:Int):=by omega
     go_wp2_with fail;refine(HU.out _).mono ?_;rintro e wu ⟨rfl,rfl⟩;go_wp2_with fail;have I6:=T;have G5:=hG;have M7:=E6;have hv:=i1 M7 2;have p8: ∀c,Below W.heap.size wr c->c.heap[w.heap.size+1+1+1]? =some (.cells #[.int .i64 k,.int .i64 n,v] 25 (0,0)):=fun c hB=>(hB.block (w.heap.size+1+1+1) (by omega)).trans M7
     have R:=hdq p8;have Y:Ext wr wr.drew:=(xr wr).drew;have R6:=u6.ext Y;have bm:=E;have Cy:=hK.lt G;have V:=hdq (show∀c,Below (w.heap.size+1+1) wr c->c.cell? ⟨w.heap.size,2,none⟩=some (.slice (some ⟨b,o,none⟩) g.length cap)/\c.cell? ⟨w.heap.size+1,0,none⟩=some (.int .i64 y)/\c.cell? ⟨w.heap.size+1,1,none⟩=some (.int .i64 B)/\c.cell? ⟨w.heap.size+1,2,none⟩=some (.slice O f.length L)/\c.cell? ⟨b,o+j*3,none⟩=some (.int .i64 k')/\c.cell? ⟨b,o+j*3+1,none⟩=some (.int .i64 n')/\c.cell? ⟨b,o+j*3+2,none⟩=some (.slice A' kids.length D) from fun c m=>
      ⟨(m.cell (p:=⟨w.heap.size,2,none⟩) (by show w.heap.size < _;omega)).trans t2,(m.cell (p:=⟨w.heap.size+1,0,none⟩) (by show w.heap.size+1 < _;omega)).trans u0,(m.cell (p:=⟨w.heap.size+1,1,none⟩) (by show w.heap.size+1 < _;omega)).trans u1,(m.cell (p:=⟨w.heap.size+1,2,none⟩) (by show w.heap.size+1 < _;omega)).trans u2,(m.cell (p:=⟨b,o+j*3,none⟩) (by show b < _;omega)).trans c0,(m.cell (p:=⟨b,o+j*3+1,none⟩) (by show b < _;omega)).trans c1,(m.cell (p:=⟨b,o+j*3+2,none⟩) (by show b < _;omega)).trans c2⟩)
     have Hv:Below (w.heap.size+1+1) wr wr.drew:=(Below.refl _ _).drew;clear p8 R8 E6 hG E T S;rw[show Op.load 23 (Operand.tmp 53)=Vw 23 53 from rfl]
     go_region_held_law (fun c=> c.cell? ⟨w.heap.size,2,none⟩=some (.slice (some ⟨b,o,none⟩) g.length cap)/\c.cell? ⟨w.heap.size+1,0,none⟩=some (.int .i64 y)/\c.cell? ⟨w.heap.size+1,1,none⟩=some (.int .i64 B)/\c.cell? ⟨w.heap.size+1,2,none⟩=some (.slice O f.length L)/\c.cell? ⟨b,o+j*3,none⟩=some (.int .i64 k')/\c.cell? ⟨b,o+j*3+1,none⟩=some (.int .i64 n')/\c.cell? ⟨b,o+j*3+2,none⟩=some (.slice A' kids.length D))
      (first|exact V.out _ ((yu.setCell (by show _<=w.heap.size+1+1+1;omega) _)) |exact V.out _ yu|exact V.out _ (uf.alloc (by omega) _) |exact V.out _ uf|exact V.out _ Hv)
      (first|(go_simp;go_at_call 121;(try rw[pk.out]);(try rw[HWS.out]);refine(Cn.out _ d6 _ _ (x+Z) (F+Z) R6 (by omega) (by omega) (by omega) (by omega) (by omega) ((M.trans bm).trans Y)).mono ?_;rintro e w4 ⟨u,rfl,J,N⟩;obtain⟨a1,a2,a3,a4,a5,rfl⟩:=J.three';have Q:=i1 (R.out _ ((Y.trans N).below I6)) 2;have ie:=bR _ _ Q;have uf:Below (w.heap.size+1+1) wr w4:=((Y.trans N).below I6).mono (by omega)) |(refine Rx _ (by rfl) (.tmp 54) (.tmp 68) _ (by rfl) 25 i0 _ underlying23 hi hz0 hz1 hz2 rfl (by rfl) G5 I6 (Y.trans N) (J.since (aM _)) ((xr _).alloc _) (by rfl) (aR _ _) U ?_;intro v' w5 B9 K;obtain⟨B5,c5,rfl,q1,q2,-⟩:=B9.made;have ig:=i1 (R.out _ K) 2;have qp:=Ob (R.out _ K) 2;have yu:Below (w.heap.size+1+1) wr w5:=K.mono (by omega)))
     all_goals(
      have U4:Ext q w5:=bm.trans' K (by omega);have hs5:=K.size;have ae:=R.out _ K;rw[cL,cO,HL.out,gj.out] at B9;have ib:=fun u=> B9.after ((pa.refl W.heap.size w5).setCell (p:=⟨w.heap.size+1+1+1,2,none⟩) (by show w.heap.size+1+1+1 < W.heap.size;omega) u)
      clear Q ie hv R J N c0 c1 c2 t2 t0 u0 u1 u2;go_wp2_with fail
      go_roundw
      case rel=> exact⟨j+1,_,by omega,by go_num,M6 ae 2 _,ib _,U4.setCell (by show _<=w.heap.size+1+1+1;omega) _,by simp;omega⟩
      case measure=> simp[intOf];omega)
   · obtain⟨B5,c5,rfl,q1,q2,W5⟩:=hG.made
     have R9:j=g.length:=by omega
     have tv:s.take j=s:=fN (by omega);obtain⟨r0,r1,r2,-,-,-⟩:=own3 E6;have J9:=E.blk P9;obtain⟨-,-,t2,-,-,-⟩:=own3 J9;have N7:=E.blk E1;obtain⟨s0,s1,s2,f0,f1,f2⟩:=own3 N7;rw[tv] at q1 r2 W5;clear E6;go_wp2_with fail;refine aO (v:= .agg #[.int .i64 k,.int .i64 n,.slice B5 s.length c5]) (by simp[aQ,results121,go_sem,s0,s1,s2,nk]) rfl ⟨_,rfl, ?_, ?_⟩
     · exact P0.since (P0.after (P0.mk q1 q2 W5) ((((pa.refl _ _).setCell (by show w.heap.size+1+1 < _;omega) _).setCell (by show w.heap.size+1+1 < _;omega) _).setCell (by show w.heap.size+1+1 < _;omega) _)) (by omega)
     · exact((((M.trans E).setCell (by simp <;> omega) _).setCell (by simp <;> omega) _).setCell (by simp <;> omega) _)
