/- Lemmas towards the law. -/
import Derived.Test.YtckhbnmfnpolgaaGreatTAK
open List renaming getElem_cons_succ->bR,drop_eq_getElem_cons->cP,length_take->dQ,length_append->cV,length_singleton->cW,take_of_length_le->fY,drop_of_length_le->dM
open Go renaming World->aN,Value->aU,info_parts->fX,bodyPost_ret->aQ,results->aS,heap_alloc_new->aT
open Go.RowKit.Below renaming heap_setCell->aM,heap_alloc->gV
open Nat renaming zero_add->fV,zero_le->cO,le_refl->aP
open Go.IntWalk renaming i64_in->eO
open Go.World renaming block_lt_of_cell?->bY
open Go.Proofs.Tryz
set_option linter.all false
set_option maxHeartbeats 20000000
set_option maxRecDepth 100000
namespace Go.Proofs.YtckhbnmfnpolgaaGreat
open Go.RowKit
attribute [local go_sem ↓] Go.wp_at_zero Go.wp_at_succ
attribute [local go_sem] AA
theorem EF(g:Int->Int->Tr): ∀(k:Int) (ts:List Tr) (i:Nat) (b:Int),(Ii g k ts i b).length=ts.length
 |_, [],_,_=> rfl
 |k,t::ts,i,b=> by simp[Ii,EF g k ts (i+1) b]
theorem Yw(g:Int->Int->Tr): ∀{k:Int} {ts:List Tr} {i j:Nat} {b:Int} (h:j < ts.length),(Ii g k ts i b)[j]'(by rw[EF];exact h)=Y9 g ts[j] (b+T4 k (i+j))
 |k,t::ts,i,0,b,h=> by simp[Ii]
 |k,t::ts,i,j+1,b,h=> by
  simp only[Ii,bR];rw[Yw g (j:=j) (by simpa using h),show i+1+j=i+(j+1) by omega]
def Rk(a:aN)(f i d:Nat)(L:List Nat)(Inv:aN->Bool->Prop)(g:Int->Int->Tr)(h:Int->Int->Bool):Prop:=
 ∀(w:aN) (s:Bool) (n b:Int),Ext a w->Inv w s->0<=n->n<=20->0<=b->b<=1000->Calls prog 136 #[.int .i64 n,.int .i64 b,.pointer (some ⟨f,0,none⟩),.pointer (some ⟨i,0,none⟩),.pointer (some ⟨d,0,none⟩)] w fun e c=> ∃u,e= .returned u/\W0 w c 25 (g n b) u/\i1 L w c/\Inv c (s && h n b)
def jn(t:Tr):Prop:= ∀(a w:aN) (v:aU) (b d:Int) (k l j:Nat) (L:List Nat) (B:Nat) (Inv:aN->Bool->Prop) (g:Int->Int->Tr) (h:Int->Int->Bool) (s:Bool),
 I0 sigT t d=true->Lies a t v->Ext a w->(∀x,x∈L->a.heap.size<=x/\x < w.heap.size)->0<=b->b+cnt t<=1000->
 Rk a k l j L Inv g h->(∀c f s,Inv c s->Ext c f->Inv f s)->B<=w.heap.size->(∀c f s,Inv c s->(∀x,x < B->f.heap[x]? =c.heap[x]?)->c.heap.size<=f.heap.size->Inv f s)->Inv w s->
 Calls prog 135 #[v,.int .i64 b,.func (.func 136) #[] #[.pointer (some ⟨k,0,none⟩),.pointer (some ⟨l,0,none⟩),.pointer (some ⟨j,0,none⟩)]] w fun e i=> ∃u,e= .returned u/\W0 w i 25 (Y9 g t b) u/\i1 L w i/\Inv i (s && k9 h t b)
theorem gI: ∀t:Tr,jn t:=Tr.ind fun k n f hk=> by
 intro a w v b d p1 p2 p3 L B Inv g h s hsh d6 ha hL hb0 hb1 hT z hB gu R;obtain⟨A,cap,rfl,hl,hc,hK⟩:=Lies.mk_iff.1 d6;obtain⟨-,O8,R7,hsk⟩:=m6 hsh;obtain⟨i0,hi,hz0,hz1,hz2⟩:=fX gs;have hlc:=Tg f;have hcc:=hc;unfold maxLen at hcc;simp only[cnt] at hb1;have Y7:=Tj k;obtain⟨b1,d1⟩: ∃b1,(k==1)=b1:=⟨_,rfl⟩;have yu: ∀x,x∈L->x < w.heap.size:=fun x hx=>(hL x hx).2
 have X:Ext w ((w.alloc (D0 k n A f.length cap)).alloc M0):=((xr w).alloc _).alloc _;obtain⟨S5,F6,hs1⟩:=blk2 (xr ((w.alloc (D0 k n A f.length cap)).alloc M0));have xb:((w.alloc (D0 k n A f.length cap)).alloc (.cells #[j0 0,j0 0,.slice none 0 0] 25)).heap.size=w.heap.size+2:=by simp
 cases b1 with
 |true=>
  obtain rfl:k=1:=by simpa using d1
  have e1:Y9 g (.mk 1 n f) b=g n b:=by unfold Y9;rw[if_pos rfl]
  have e2:k9 h (.mk 1 n f) b=h n b:=by unfold k9;rw[if_pos rfl]
  rw[e1,e2];have iq:=hdq (hT _ s n b (ha.trans X) (z _ _ _ R X) O8 (by omega) hb0 (by omega));clear e1 e2 hT z R;go_enter func135,ntmps135;go_wp2_with fail;refine iq.out.mono ?_;rintro e D ⟨u,rfl,S,C,R⟩;obtain⟨a1,a2,a3,a4,a5,rfl⟩:=S.three';have hb2:=(C.block _ (by omega) (fun hm=> by have:=yu _ hm;omega)).trans F6;obtain⟨s0,s1,P,f0,f1,f2⟩:=own3 hb2;have Lq:=C.size;clear iq S5 F6 hb2;go_wp2_with fail;refine aQ (v:= m0 a1 a2 a3 a4 a5) (by simp[aS,results135,go_sem,s0,s1,P]) rfl ⟨_,rfl, ?_, ?_, ?_⟩
  · exact W0.since (S.after ((((Ua.refl _ _).setCell (by simp) _).setCell (by simp) _).setCell (by simp) _)) (by simp;omega)
  · have y:=(oE (L:=L) X).trans C
    refine⟨y.os,y.tape,y.output,by simpa using y.size,fun x hx hn=> ?_⟩;rw[aM _ _ _ _ (by simp;omega),aM _ _ _ _ (by simp;omega),aM _ _ _ _ (by simp;omega)];exact y.block x hx hn
  · refine gu _ _ _ R (fun x hx=> ?_) (by simp)
    rw[aM _ _ _ _ (by simp;omega),aM _ _ _ _ (by simp;omega),aM _ _ _ _ (by simp;omega)]
 |false=>
  have ue:k≠1:=by simpa using d1
  obtain⟨r,Z7⟩: ∃r,r=Ii g k f 0 b:=⟨_,rfl⟩;have H:Y9 g (.mk k n f) b= .mk k n r:=by
   rw[Z7]
   conv=> lhs;unfold Y9
   rw[if_neg ue]
  have K:k9 h (.mk k n f) b=Zd h k f 0 b:=by
   conv=> lhs;unfold k9
   rw[if_neg ue]
  have rp:r.length=f.length:=by rw[Z7,EF]
  have V4: ∀j (hj:j < f.length),r[j]'(by omega)=Y9 g f[j] (b+T4 k j):=fun j hj=> by
   subst Z7;rw[Yw g hj,fV]
  rw[H,K];have Y3:=hdq V4;have E:=hdq z;have Z9:=hdq gu;have N8:=hdq hT;have M:=hdq yu;have xe:=hdq hL;have Kb:=hdq hsk;have Ct:=z _ _ _ R X;clear H Z7 V4 K z gu hT yu hL hsk;go_enter func135,ntmps135;go_wp2_with fail;generalize e9:(w.alloc (D0 k n A f.length cap)).alloc M0=D at*;clear e9;obtain⟨W,Z⟩: ∃W,W=D.alloc (D0 k n none 0 0):=⟨_,rfl⟩;have om:W.heap.size=w.heap.size+3:=by rw[Z];simp;omega
  have dy:Ext D W:=Z▸(xr D).alloc _;have gp:W.heap[w.heap.size+1+1]? =some (D0 k n none 0 0):=by
   have:=aT D (D0 k n none 0 0);rw[xb] at this;rw[Z];exact this
  rw[<-Z];have Jr:=E.out _ _ _ Ct dy;clear Z Ct R
  go_loopw [26] (fun i wr=> ∃(j:Nat) (v:aU) (P:Bool),j<=f.length/\i= j0 j/\wr.heap[w.heap.size+1+1]? =some (.cells #[j0 k,j0 n,v] 25 (0,0))/\Y5 W wr 25 v (r.take j)/\i1 L D wr/\W.heap.size<=wr.heap.size/\Inv wr P/\(s && Zd h k f 0 b)=(P && Zd h k (f.drop j) j b)) (fun i _=> f.length -(intOf i).toNat)
  case atStart=> exact⟨0,_,s,cO _,rfl,gp,Y5.nil _ _ _,oE dy,aP _,Jr,rfl⟩
  case round=>
   obtain⟨j,v,P,hj,rfl,F4,hG,C,hle,xi,U9⟩:=hrel;have HE:=hdq U9;have T:Ext a wr:=C.ext (ha.trans X) (fun x hx=>(xe.out x hx).1);have gh:=(C.block _ (by omega) (fun hm=> by have:=M.out _ hm;omega)).trans S5;obtain⟨x0,x1,x2,-,-,-⟩:=own3 gh;clear U9;by_cases F:j < f.length
   · obtain⟨b',o,G,I,V,m,kids,rfl,HK,c0,c1,c2,I7,I6,hK',x9,i7⟩:=hK.get T F
     have oc:Lies a (.mk G I kids) (m0 G I V kids.length m):=by
      obtain⟨b2,o2,k2,n2,A2,G5,y17,U,h2,q0,N,J,h6,h7,h8,h9,h10⟩:=hK.get (xr a) F;obtain⟨rfl,rfl⟩:b'=b2/\o=o2:=by cases U;exact⟨rfl,rfl⟩
      have e3:=(T.cell q0).symm.trans c0;have e4:=(T.cell N).symm.trans c1;have e5:=(T.cell J).symm.trans c2;have e6:=h2.out.symm.trans HK.out;cases e3;cases e4;cases e6;cases e5
      exact h9
     have I1:=AF (l:=r) (j:=j) (by omega) (Y3.out j F);rw[HK.out] at I1;have fx:Zd h k (f.drop j) j b=(k9 h (.mk G I kids) (b+T4 k j)&& Zd h k (f.drop (j+1)) (j+1) b):=by
      rw[cP F,HK.out]
      conv=> lhs;unfold Zd
     have xm:=Rq k j;obtain⟨uu,hu⟩: ∃u,u=T4 k j:=⟨_,rfl⟩;have HU:=hdq (fun W=> Kx k j W);rw[<-hu] at HU xm I1 fx;have jc:=hdq I1;have wl:=hdq fx;have hcm:=ya i7;have dh:=Kb.out _ i7;have qu:(j:Int) <(f.length:Int):=by omega
     have sf:=hdq (eO (b+uu) ⟨by omega,by omega⟩);have HR:=hdq (hk _ i7 a);clear hu I1 fx;have hlen:(r.take j).length < 1099511627776:=by rw[dQ];omega
     have W4:(r.take j).length=j:=by rw[dQ];omega
     have HL:=hdq W4;go_wp2_with fail;have hx:=(xr wr).alloc (D0 G I V kids.length m);have M7:=aT wr (D0 G I V kids.length m);obtain⟨c,hwd⟩: ∃c,c=wr.alloc (D0 G I V kids.length m):=⟨_,rfl⟩;rw[<-hwd] at hx M7⊢;clear hwd;have hsr:W.heap.size<=wr.heap.size:=hle;have vn:wr.heap.size < c.heap.size:=D1 M7;have Cc:=hdq hG;have nv:=hx.blk F4;have mq:=hx.blk gh;have hv:=E1 nv 2;have V3:=E.out _ _ _ xi hx;have Co:=E.out _ _ _ V3 (xr c).drew;have kz:=hx.trans (xr c).drew;have HF:=hdq (HR.out c.drew _ (b+uu) (d - 1) p1 p2 p3 L B Inv g h P dh oc (T.trans kz) (fun x hx=>⟨(xe.out x hx).1,by have:=M.out x hx;show x < c.heap.size;omega⟩) (by omega) (by omega) N8.out E.out (by show B<=c.heap.size;omega) Z9.out Co);have HS:=hdq (show∀q:aN,q.heap[w.heap.size]? =c.heap[w.heap.size]? ->q.heap[wr.heap.size]? =c.heap[wr.heap.size]? ->q.cell? ⟨w.heap.size,0,none⟩=some (j0 k)/\q.cell? ⟨wr.heap.size,0,none⟩=some (j0 G)/\q.cell? ⟨wr.heap.size,1,none⟩=some (j0 I)/\q.cell? ⟨wr.heap.size,2,none⟩=some (.slice V kids.length m) from fun q U h2=> by
      have N:=U.trans mq;have J:=h2.trans M7;exact⟨E1 N 0,E1 J 0,E1 J 1,E1 J 2⟩)
     have HV:=hdq (show∀q:aN,q.heap[w.heap.size+1+1]? =c.heap[w.heap.size+1+1]? ->q.heap[w.heap.size+1+1]? =some (.cells #[j0 k,j0 n,v] 25 (0,0)) from fun q U=> U.trans nv);have Lt:i1 L D c:=C.trans (oE hx);clear W4 F4 hG hle hcc x0 x1 x2 c0 c1 c2 gh M7 mq T oc HR dh xi V3 Co x9 hK';rw[show Op.load 23 (Operand.tmp 31)=AA 23 31 from rfl]
     go_region_held_law (fun q=> q.cell? ⟨w.heap.size,0,none⟩=some (j0 k)/\q.cell? ⟨wr.heap.size,0,none⟩=some (j0 G)/\q.cell? ⟨wr.heap.size,1,none⟩=some (j0 I)/\q.cell? ⟨wr.heap.size,2,none⟩=some (.slice V kids.length m))
      (first|exact HS.out _ ((aM _ _ _ _ (by show w.heap.size≠w.heap.size+1+1;omega)).trans Cp) ((aM _ _ _ _ (by show wr.heap.size≠w.heap.size+1+1;omega)).trans Br) |exact HS.out _ Cp Br|exact HS.out _ ((gV _ _ _ (by omega)).trans ym) ((gV _ _ _ (by omega)).trans xf) |exact HS.out _ ym xf|exact HS.out _ rfl rfl)
      (first|(go_simp;go_at_call 138;refine(HU.out _).mono ?_;rintro e wu ⟨rfl,rfl⟩) |(go_simp;go_at_call 135;(try rw[sf.out]);refine HF.out.mono ?_;rintro e w4 ⟨u,rfl,S,O,Hf⟩;obtain⟨a1,a2,a3,a4,a5,rfl⟩:=S.three';have kh:c.heap.size<=w4.heap.size:=O.size;have ym:w4.heap[w.heap.size]? =c.heap[w.heap.size]? :=O.block _ (by show w.heap.size < c.heap.size;omega) (fun hm=> by have:=M.out _ hm;omega);have xf:w4.heap[wr.heap.size]? =c.heap[wr.heap.size]? :=O.block _ vn (fun hm=> by have:=M.out _ hm;omega);have Bh:w4.heap[w.heap.size+1+1]? =c.heap[w.heap.size+1+1]? :=O.block _ (by show w.heap.size+1+1 < c.heap.size;omega) (fun hm=> by have:=M.out _ hm;omega);have Y:=E1 (HV.out _ Bh) 2;have Mr:=bY _ _ Y) |(refine iL _ (by rfl) (.tmp 32) (.tmp 42) _ (by rfl) 25 i0 _ underlying23 hi hz0 hz1 hz2 rfl (by rfl) Cc.out (by omega) (by omega) (fun x U h2=>(O.block x (by show x < c.heap.size;omega) (fun hm=> by have:=M.out _ hm;omega)).trans (hx.heap x h2)) (S.since (by show wr.heap.size<=c.heap.size;omega)) ((xr _).alloc _) (by rfl) (aT _ _) hlen ?_;intro v' Q C6 z6 Lf;obtain⟨B5,c5,rfl,N,J,-⟩:=C6.made;have Cp:Q.heap[w.heap.size]? =c.heap[w.heap.size]? :=(z6.block _ (by omega)).trans ym;have Br:Q.heap[wr.heap.size]? =c.heap[wr.heap.size]? :=(Lf _ (by show wr.heap.size<=_;omega) (by omega)).trans xf;have xu:=HV.out _ ((z6.block _ (by omega)).trans Bh);have ln:=E1 xu 2;have un:=mc xu 2))
     all_goals(
      have mb:i1 L D Q:=(Lt.trans ((oE (xr c).drew).trans O)).below z6 (by omega);have hs5:=z6.size;rw[cV,cW,HL.out,jc.out] at C6;have jq:=fun u=> C6.after ((Ua.refl W.heap.size Q).setCell (p:=⟨w.heap.size+1+1,2,none⟩) (by show w.heap.size+1+1 < W.heap.size;omega) u)
      have Hn:=fun u=> Z9.out w4 (Q.setCell ⟨w.heap.size+1+1,2,none⟩ u) _ Hf (fun x hx=>(aM _ _ _ _ (by show x≠w.heap.size+1+1;omega)).trans (z6.block x (by omega))) (by simp;omega)
      have Ik:=fun u=>(show i1 L D (Q.setCell ⟨w.heap.size+1+1,2,none⟩ u) from⟨mb.os,mb.tape,mb.output,by simpa using mb.size,fun x hx hn=>(aM _ _ _ _ (by show x≠w.heap.size+1+1;omega)).trans (mb.block x hx hn)⟩)
      clear Y hv S O;go_wp2_with fail
      go_roundw
      case rel=> exact⟨j+1,_,_,by omega,by go_num,b6 xu 2 _,jq _,Ik _,by simp;omega,Hn _,by rw[HE.out,wl.out,Bool.and_assoc]⟩
      case measure=> simp[intOf];omega)
   · obtain⟨B5,c5,rfl,N,J,ap⟩:=hG.made
     have xq:r.take j=r:=fY (by omega);obtain⟨r0,r1,r2,-,-,-⟩:=own3 F4;have P4:=(C.block _ hs1 (fun hm=> by have:=M.out _ hm;omega)).trans F6;obtain⟨s0,s1,Jg,f0,f1,f2⟩:=own3 P4;rw[xq] at N r2 ap;rw[dM (by omega)] at HE;clear F4;go_wp2_with fail;refine aQ (v:= m0 k n B5 r.length c5) (by simp[aS,results135,go_sem,s0,s1,Jg,rp]) rfl ⟨_,rfl, ?_, ?_, ?_⟩
     · exact W0.since (W0.after (W0.mk N J ap) ((((Ua.refl _ _).setCell (by show w.heap.size+1 < _;omega) _).setCell (by show w.heap.size+1 < _;omega) _).setCell (by show w.heap.size+1 < _;omega) _)) (by omega)
     · have y:=(oE (L:=L) X).trans C
       refine⟨y.os,y.tape,y.output,by simpa using y.size,fun x hx hn=> ?_⟩;rw[aM _ _ _ _ (by show x≠w.heap.size+1;omega),aM _ _ _ _ (by show x≠w.heap.size+1;omega),aM _ _ _ _ (by show x≠w.heap.size+1;omega)];exact y.block x hx hn
     · have hE:=HE.out
       simp only[Zd,Bool.and_true] at hE;rw[hE];refine Z9.out _ _ _ xi (fun x hx=> ?_) (by simp);rw[aM _ _ _ _ (by show x≠w.heap.size+1;omega),aM _ _ _ _ (by show x≠w.heap.size+1;omega),aM _ _ _ _ (by show x≠w.heap.size+1;omega)]
def zk(a:aN)(f i d:Nat)(L:List Nat)(Inv:aN->Bool->Prop)(g:Int->Int->Tr)(h:Int->Int->Bool):Prop:=
 ∀(w:aN) (s:Bool) (n b:Int),Ext a w->Inv w s->0<=n->n<=20->0<=b->b<=1000->Calls prog 158 #[.int .i64 n,.int .i64 b,.pointer (some ⟨f,0,none⟩),.pointer (some ⟨i,0,none⟩),.pointer (some ⟨d,0,none⟩)] w fun e c=> ∃u,e= .returned u/\W0 w c 25 (g n b) u/\i1 L w c/\Inv c (s && h n b)
def Po(t:Tr):Prop:= ∀(a w:aN) (v:aU) (b d:Int) (k l j:Nat) (L:List Nat) (B:Nat) (Inv:aN->Bool->Prop) (g:Int->Int->Tr) (h:Int->Int->Bool) (s:Bool),
 I0 sigT t d=true->Lies a t v->Ext a w->(∀x,x∈L->a.heap.size<=x/\x < w.heap.size)->0<=b->b+cnt t<=1000->
 zk a k l j L Inv g h->(∀c f s,Inv c s->Ext c f->Inv f s)->B<=w.heap.size->(∀c f s,Inv c s->(∀x,x < B->f.heap[x]? =c.heap[x]?)->c.heap.size<=f.heap.size->Inv f s)->Inv w s->
 Calls prog 135 #[v,.int .i64 b,.func (.func 158) #[] #[.pointer (some ⟨k,0,none⟩),.pointer (some ⟨l,0,none⟩),.pointer (some ⟨j,0,none⟩)]] w fun e i=> ∃u,e= .returned u/\W0 w i 25 (Y9 g t b) u/\i1 L w i/\Inv i (s && k9 h t b)
theorem cG: ∀t:Tr,Po t:=Tr.ind fun k n f hk=> by
 intro a w v b d p1 p2 p3 L B Inv g h s hsh d6 ha hL hb0 hb1 hT z hB gu R;obtain⟨A,cap,rfl,hl,hc,hK⟩:=Lies.mk_iff.1 d6;obtain⟨-,O8,R7,hsk⟩:=m6 hsh;obtain⟨i0,hi,hz0,hz1,hz2⟩:=fX gs;have hlc:=Tg f;have hcc:=hc;unfold maxLen at hcc;simp only[cnt] at hb1;have Y7:=Tj k;obtain⟨b1,d1⟩: ∃b1,(k==1)=b1:=⟨_,rfl⟩;have yu: ∀x,x∈L->x < w.heap.size:=fun x hx=>(hL x hx).2
 have X:Ext w ((w.alloc (D0 k n A f.length cap)).alloc M0):=((xr w).alloc _).alloc _;obtain⟨S5,F6,hs1⟩:=blk2 (xr ((w.alloc (D0 k n A f.length cap)).alloc M0));have xb:((w.alloc (D0 k n A f.length cap)).alloc (.cells #[j0 0,j0 0,.slice none 0 0] 25)).heap.size=w.heap.size+2:=by simp
 cases b1 with
 |true=>
  obtain rfl:k=1:=by simpa using d1
  have e1:Y9 g (.mk 1 n f) b=g n b:=by unfold Y9;rw[if_pos rfl]
  have e2:k9 h (.mk 1 n f) b=h n b:=by unfold k9;rw[if_pos rfl]
  rw[e1,e2];have iq:=hdq (hT _ s n b (ha.trans X) (z _ _ _ R X) O8 (by omega) hb0 (by omega));clear e1 e2 hT z R;go_enter func135,ntmps135;go_wp2_with fail;refine iq.out.mono ?_;rintro e D ⟨u,rfl,S,C,R⟩;obtain⟨a1,a2,a3,a4,a5,rfl⟩:=S.three';have hb2:=(C.block _ (by omega) (fun hm=> by have:=yu _ hm;omega)).trans F6;obtain⟨s0,s1,P,f0,f1,f2⟩:=own3 hb2;have Lq:=C.size;clear iq S5 F6 hb2;go_wp2_with fail;refine aQ (v:= m0 a1 a2 a3 a4 a5) (by simp[aS,results135,go_sem,s0,s1,P]) rfl ⟨_,rfl, ?_, ?_, ?_⟩
  · exact W0.since (S.after ((((Ua.refl _ _).setCell (by simp) _).setCell (by simp) _).setCell (by simp) _)) (by simp;omega)
  · have y:=(oE (L:=L) X).trans C
    refine⟨y.os,y.tape,y.output,by simpa using y.size,fun x hx hn=> ?_⟩;rw[aM _ _ _ _ (by simp;omega),aM _ _ _ _ (by simp;omega),aM _ _ _ _ (by simp;omega)];exact y.block x hx hn
  · refine gu _ _ _ R (fun x hx=> ?_) (by simp)
    rw[aM _ _ _ _ (by simp;omega),aM _ _ _ _ (by simp;omega),aM _ _ _ _ (by simp;omega)]
 |false=>
  have ue:k≠1:=by simpa using d1
  obtain⟨r,Z7⟩: ∃r,r=Ii g k f 0 b:=⟨_,rfl⟩;have H:Y9 g (.mk k n f) b= .mk k n r:=by
   rw[Z7]
   conv=> lhs;unfold Y9
   rw[if_neg ue]
  have K:k9 h (.mk k n f) b=Zd h k f 0 b:=by
   conv=> lhs;unfold k9
   rw[if_neg ue]
  have rp:r.length=f.length:=by rw[Z7,EF]
  have V4: ∀j (hj:j < f.length),r[j]'(by omega)=Y9 g f[j] (b+T4 k j):=fun j hj=> by
   subst Z7;rw[Yw g hj,fV]
  rw[H,K];have Y3:=hdq V4;have E:=hdq z;have Z9:=hdq gu;have N8:=hdq hT;have M:=hdq yu;have xe:=hdq hL;have Kb:=hdq hsk;have Ct:=z _ _ _ R X;clear H Z7 V4 K z gu hT yu hL hsk;go_enter func135,ntmps135;go_wp2_with fail;generalize e9:(w.alloc (D0 k n A f.length cap)).alloc M0=D at*;clear e9;obtain⟨W,Z⟩: ∃W,W=D.alloc (D0 k n none 0 0):=⟨_,rfl⟩;have om:W.heap.size=w.heap.size+3:=by rw[Z];simp;omega
  have dy:Ext D W:=Z▸(xr D).alloc _;have gp:W.heap[w.heap.size+1+1]? =some (D0 k n none 0 0):=by
   have:=aT D (D0 k n none 0 0);rw[xb] at this;rw[Z];exact this
  rw[<-Z];have Jr:=E.out _ _ _ Ct dy;clear Z Ct R
  go_loopw [26] (fun i wr=> ∃(j:Nat) (v:aU) (P:Bool),j<=f.length/\i= j0 j/\wr.heap[w.heap.size+1+1]? =some (.cells #[j0 k,j0 n,v] 25 (0,0))/\Y5 W wr 25 v (r.take j)/\i1 L D wr/\W.heap.size<=wr.heap.size/\Inv wr P/\(s && Zd h k f 0 b)=(P && Zd h k (f.drop j) j b)) (fun i _=> f.length -(intOf i).toNat)
  case atStart=> exact⟨0,_,s,cO _,rfl,gp,Y5.nil _ _ _,oE dy,aP _,Jr,rfl⟩
  case round=>
   obtain⟨j,v,P,hj,rfl,F4,hG,C,hle,xi,U9⟩:=hrel;have HE:=hdq U9;have T:Ext a wr:=C.ext (ha.trans X) (fun x hx=>(xe.out x hx).1);have gh:=(C.block _ (by omega) (fun hm=> by have:=M.out _ hm;omega)).trans S5;obtain⟨x0,x1,x2,-,-,-⟩:=own3 gh;clear U9;by_cases F:j < f.length
   · obtain⟨b',o,G,I,V,m,kids,rfl,HK,c0,c1,c2,I7,I6,hK',x9,i7⟩:=hK.get T F
     have oc:Lies a (.mk G I kids) (m0 G I V kids.length m):=by
      obtain⟨b2,o2,k2,n2,A2,G5,y17,U,h2,q0,N,J,h6,h7,h8,h9,h10⟩:=hK.get (xr a) F;obtain⟨rfl,rfl⟩:b'=b2/\o=o2:=by cases U;exact⟨rfl,rfl⟩
      have e3:=(T.cell q0).symm.trans c0;have e4:=(T.cell N).symm.trans c1;have e5:=(T.cell J).symm.trans c2;have e6:=h2.out.symm.trans HK.out;cases e3;cases e4;cases e6;cases e5
      exact h9
     have I1:=AF (l:=r) (j:=j) (by omega) (Y3.out j F);rw[HK.out] at I1;have fx:Zd h k (f.drop j) j b=(k9 h (.mk G I kids) (b+T4 k j)&& Zd h k (f.drop (j+1)) (j+1) b):=by
      rw[cP F,HK.out]
      conv=> lhs;unfold Zd
     have xm:=Rq k j;obtain⟨uu,hu⟩: ∃u,u=T4 k j:=⟨_,rfl⟩;have HU:=hdq (fun W=> Kx k j W);rw[<-hu] at HU xm I1 fx;have jc:=hdq I1;have wl:=hdq fx;have hcm:=ya i7;have dh:=Kb.out _ i7;have qu:(j:Int) <(f.length:Int):=by omega
     have sf:=hdq (eO (b+uu) ⟨by omega,by omega⟩);have HR:=hdq (hk _ i7 a);clear hu I1 fx;have hlen:(r.take j).length < 1099511627776:=by rw[dQ];omega
     have W4:(r.take j).length=j:=by rw[dQ];omega
     have HL:=hdq W4;go_wp2_with fail;have hx:=(xr wr).alloc (D0 G I V kids.length m);have M7:=aT wr (D0 G I V kids.length m);obtain⟨c,hwd⟩: ∃c,c=wr.alloc (D0 G I V kids.length m):=⟨_,rfl⟩;rw[<-hwd] at hx M7⊢;clear hwd;have hsr:W.heap.size<=wr.heap.size:=hle;have vn:wr.heap.size < c.heap.size:=D1 M7;have Cc:=hdq hG;have nv:=hx.blk F4;have mq:=hx.blk gh;have hv:=E1 nv 2;have V3:=E.out _ _ _ xi hx;have Co:=E.out _ _ _ V3 (xr c).drew;have kz:=hx.trans (xr c).drew;have HF:=hdq (HR.out c.drew _ (b+uu) (d - 1) p1 p2 p3 L B Inv g h P dh oc (T.trans kz) (fun x hx=>⟨(xe.out x hx).1,by have:=M.out x hx;show x < c.heap.size;omega⟩) (by omega) (by omega) N8.out E.out (by show B<=c.heap.size;omega) Z9.out Co);have HS:=hdq (show∀q:aN,q.heap[w.heap.size]? =c.heap[w.heap.size]? ->q.heap[wr.heap.size]? =c.heap[wr.heap.size]? ->q.cell? ⟨w.heap.size,0,none⟩=some (j0 k)/\q.cell? ⟨wr.heap.size,0,none⟩=some (j0 G)/\q.cell? ⟨wr.heap.size,1,none⟩=some (j0 I)/\q.cell? ⟨wr.heap.size,2,none⟩=some (.slice V kids.length m) from fun q U h2=> by
      have N:=U.trans mq;have J:=h2.trans M7;exact⟨E1 N 0,E1 J 0,E1 J 1,E1 J 2⟩)
     have HV:=hdq (show∀q:aN,q.heap[w.heap.size+1+1]? =c.heap[w.heap.size+1+1]? ->q.heap[w.heap.size+1+1]? =some (.cells #[j0 k,j0 n,v] 25 (0,0)) from fun q U=> U.trans nv);have Lt:i1 L D c:=C.trans (oE hx);clear W4 F4 hG hle hcc x0 x1 x2 c0 c1 c2 gh M7 mq T oc HR dh xi V3 Co x9 hK';rw[show Op.load 23 (Operand.tmp 31)=AA 23 31 from rfl]
     go_region_held_law (fun q=> q.cell? ⟨w.heap.size,0,none⟩=some (j0 k)/\q.cell? ⟨wr.heap.size,0,none⟩=some (j0 G)/\q.cell? ⟨wr.heap.size,1,none⟩=some (j0 I)/\q.cell? ⟨wr.heap.size,2,none⟩=some (.slice V kids.length m))
      (first|exact HS.out _ ((aM _ _ _ _ (by show w.heap.size≠w.heap.size+1+1;omega)).trans Cp) ((aM _ _ _ _ (by show wr.heap.size≠w.heap.size+1+1;omega)).trans Br) |exact HS.out _ Cp Br|exact HS.out _ ((gV _ _ _ (by omega)).trans ym) ((gV _ _ _ (by omega)).trans xf) |exact HS.out _ ym xf|exact HS.out _ rfl rfl)
      (first|(go_simp;go_at_call 138;refine(HU.out _).mono ?_;rintro e wu ⟨rfl,rfl⟩) |(go_simp;go_at_call 135;(try rw[sf.out]);refine HF.out.mono ?_;rintro e w4 ⟨u,rfl,S,O,Hf⟩;obtain⟨a1,a2,a3,a4,a5,rfl⟩:=S.three';have kh:c.heap.size<=w4.heap.size:=O.size;have ym:w4.heap[w.heap.size]? =c.heap[w.heap.size]? :=O.block _ (by show w.heap.size < c.heap.size;omega) (fun hm=> by have:=M.out _ hm;omega);have xf:w4.heap[wr.heap.size]? =c.heap[wr.heap.size]? :=O.block _ vn (fun hm=> by have:=M.out _ hm;omega);have Bh:w4.heap[w.heap.size+1+1]? =c.heap[w.heap.size+1+1]? :=O.block _ (by show w.heap.size+1+1 < c.heap.size;omega) (fun hm=> by have:=M.out _ hm;omega);have Y:=E1 (HV.out _ Bh) 2;have Mr:=bY _ _ Y) |(refine iL _ (by rfl) (.tmp 32) (.tmp 42) _ (by rfl) 25 i0 _ underlying23 hi hz0 hz1 hz2 rfl (by rfl) Cc.out (by omega) (by omega) (fun x U h2=>(O.block x (by show x < c.heap.size;omega) (fun hm=> by have:=M.out _ hm;omega)).trans (hx.heap x h2)) (S.since (by show wr.heap.size<=c.heap.size;omega)) ((xr _).alloc _) (by rfl) (aT _ _) hlen ?_;intro v' Q C6 z6 Lf;obtain⟨B5,c5,rfl,N,J,-⟩:=C6.made;have Cp:Q.heap[w.heap.size]? =c.heap[w.heap.size]? :=(z6.block _ (by omega)).trans ym;have Br:Q.heap[wr.heap.size]? =c.heap[wr.heap.size]? :=(Lf _ (by show wr.heap.size<=_;omega) (by omega)).trans xf;have xu:=HV.out _ ((z6.block _ (by omega)).trans Bh);have ln:=E1 xu 2;have un:=mc xu 2))
     all_goals(
      have mb:i1 L D Q:=(Lt.trans ((oE (xr c).drew).trans O)).below z6 (by omega);have hs5:=z6.size;rw[cV,cW,HL.out,jc.out] at C6;have jq:=fun u=> C6.after ((Ua.refl W.heap.size Q).setCell (p:=⟨w.heap.size+1+1,2,none⟩) (by show w.heap.size+1+1 < W.heap.size;omega) u)
      have Hn:=fun u=> Z9.out w4 (Q.setCell ⟨w.heap.size+1+1,2,none⟩ u) _ Hf (fun x hx=>(aM _ _ _ _ (by show x≠w.heap.size+1+1;omega)).trans (z6.block x (by omega))) (by simp;omega)
      have Ik:=fun u=>(show i1 L D (Q.setCell ⟨w.heap.size+1+1,2,none⟩ u) from⟨mb.os,mb.tape,mb.output,by simpa using mb.size,fun x hx hn=>(aM _ _ _ _ (by show x≠w.heap.size+1+1;omega)).trans (mb.block x hx hn)⟩)
      clear Y hv S O;go_wp2_with fail
      go_roundw
      case rel=> exact⟨j+1,_,_,by omega,by go_num,b6 xu 2 _,jq _,Ik _,by simp;omega,Hn _,by rw[HE.out,wl.out,Bool.and_assoc]⟩
      case measure=> simp[intOf];omega)
   · obtain⟨B5,c5,rfl,N,J,ap⟩:=hG.made
     have xq:r.take j=r:=fY (by omega);obtain⟨r0,r1,r2,-,-,-⟩:=own3 F4;have P4:=(C.block _ hs1 (fun hm=> by have:=M.out _ hm;omega)).trans F6;obtain⟨s0,s1,Jg,f0,f1,f2⟩:=own3 P4;rw[xq] at N r2 ap;rw[dM (by omega)] at HE;clear F4;go_wp2_with fail;refine aQ (v:= m0 k n B5 r.length c5) (by simp[aS,results135,go_sem,s0,s1,Jg,rp]) rfl ⟨_,rfl, ?_, ?_, ?_⟩
     · exact W0.since (W0.after (W0.mk N J ap) ((((Ua.refl _ _).setCell (by show w.heap.size+1 < _;omega) _).setCell (by show w.heap.size+1 < _;omega) _).setCell (by show w.heap.size+1 < _;omega) _)) (by omega)
     · have y:=(oE (L:=L) X).trans C
       refine⟨y.os,y.tape,y.output,by simpa using y.size,fun x hx hn=> ?_⟩;rw[aM _ _ _ _ (by show x≠w.heap.size+1;omega),aM _ _ _ _ (by show x≠w.heap.size+1;omega),aM _ _ _ _ (by show x≠w.heap.size+1;omega)];exact y.block x hx hn
     · have hE:=HE.out
       simp only[Zd,Bool.and_true] at hE;rw[hE];refine Z9.out _ _ _ xi (fun x hx=> ?_) (by simp);rw[aM _ _ _ _ (by show x≠w.heap.size+1;omega),aM _ _ _ _ (by show x≠w.heap.size+1;omega),aM _ _ _ _ (by show x≠w.heap.size+1;omega)]
theorem jB(u:Tr): ∀{k:Int} {ts:List Tr} {i j:Nat} {x d:Int} (h:j < ts.length),(R9 u k ts i x d)[j]'(by rw[NF];exact h)=X0 u ts[j] (x+T4 k (i+j)) (d+T4 k (i+j))
 |k,t::ts,i,0,x,d,h=> by simp[R9]
 |k,t::ts,i,j+1,x,d,h=> by
  simp only[R9,bR];rw[jB u (j:=j) (by simpa using h),show i+1+j=i+(j+1) by omega]
def VG(t:Tr):Prop:= ∀(w:aN) (v:aU) (x:Int) (u:Tr) (b:aU) (a d:Int),I0 sigT t d=true->Lies w t v->cnt t<=1000->I0 sigT u 30=true->cnt u<=1000->Lies w u b->0<=x->x+cnt t<=1000000->0<=a->a+cnt t<=1000000->
 Calls prog 121 #[v,.int .i64 x,b,.int .i64 a] w fun e c=> ∃r,e= .returned r/\W0 w c 25 (X0 u t x a) r/\Ext w c
theorem oB: ∀t:Tr,VG t:=Tr.ind fun k n g hk=> by
 intro w v x u vu H d hsh d6 P9 Ar mg Y hx0 hx1 fo lp;obtain⟨-,O8,R7,X⟩:=m6 hsh;have Y7:=Tj k;obtain⟨A,cap,rfl,hl,hc,hK⟩:=Lies.mk_iff.1 d6;have Eo:=hdq (fun W (C:Ext w W)=> LA u W vu H 0 30 Ar (Y.ext C) mg fo (by omega) (by omega) (by omega));have Gk:=hdq (fun t ht W kv x' d' z M h3 I h5 h6 (C:Ext w W)=> hk t ht W kv x' u vu d' (d - 1) (X t ht) z M Ar mg (Y.ext C) h3 I h5 h6);have hinu2:=Y;obtain⟨B,y,f⟩:=u;obtain⟨O,L,rfl,Ku,yg,-⟩:=Lies.mk_iff.1 Y;obtain⟨i0,hi,hz0,hz1,hz2⟩:=fX gs;have S:=hc;unfold maxLen at S;simp only[cnt] at P9 hx1 lp;have hlc:=Tg g;obtain⟨b1,d1⟩: ∃b1,(k==1)=b1:=⟨_,rfl⟩;obtain⟨s,Z7⟩: ∃s,s=R9 (.mk B y f) k g 0 x H:=⟨_,rfl⟩;have rp:s.length=g.length:=by rw[Z7,NF]
 have V4: ∀j (h:j < g.length),s[j]'(by omega)=X0 (.mk B y f) g[j] (x+T4 k j) (H+T4 k j):=fun j h=> by
  subst Z7;rw[jB _ h,fV]
 have a:X0 (.mk B y f) (.mk k n g) x H=if k=1/\n=x then shfT H (.mk B y f) 0 else .mk k (if k=1/\x < n then n - 1 else n) s:=by
  rw[Z7]
  conv=> lhs;unfold X0
 have Z:=hdq V4;clear Z7 V4 Y;cases b1 with
 |true=>
  obtain rfl:k=1:=by simpa using d1
  obtain⟨rfl,-,-⟩:=qC hsh;obtain rfl:s= []:=List.eq_nil_of_length_eq_zero (by simpa using rp);by_cases z:n=x
  · rw[a,if_pos ⟨rfl,z⟩]
    have d2:(n==x)=true:=beq_iff_eq.2 z;clear a z Gk Z;go_enter func121,ntmps121;go_wp2_with fail;have N:=(((xr w).alloc (D0 1 n A 0 cap)).alloc (D0 B y O f.length L)).alloc M0;obtain⟨-,-,F6,hsz⟩:=ad (xr (((w.alloc (D0 1 n A 0 cap)).alloc (D0 B y O f.length L)).alloc M0));refine(Eo.out _ N).mono ?_;rintro e q ⟨r,rfl,J,e1⟩;obtain⟨a1,a2,a3,a4,a5,rfl⟩:=J.three';obtain⟨s0,s1,s2,f0,f1,f2⟩:=own3 (e1.blk F6);go_wp2_with fail;refine aQ (v:= m0 a1 a2 a3 a4 a5) (by simp[aS,results121,go_sem,s0,s1,s2]) rfl ⟨_,rfl, ?_, ?_⟩
    · exact W0.since (J.after ((((Ua.refl _ _).setCell (by simp) _).setCell (by simp) _).setCell (by simp) _)) (by simp;omega)
    · exact((((N.trans e1).setCell (by simp;omega) _).setCell (by simp;omega) _).setCell (by simp;omega) _)
  · have d2:(n==x)=false:=beq_eq_false_iff_ne.2 z
    by_cases M:x < n
    · have d3:decide (x < n)=true:=decide_eq_true M
      rw[a,if_neg (fun h=> z h.2),if_pos ⟨rfl,M⟩];clear a z Gk Z Eo;go_enter func121,ntmps121;go_wp2_with fail;refine wp_loop_rounds 1 ?_;rw[rounds_succ];go_wp2_with fail;exact aQ (v:= m0 1 (n - 1) none 0 0) (by simp[aS,results121,go_sem]) rfl ⟨_,rfl,W0.leaf _ _ _ _ _,((((xr w).alloc _).alloc _).alloc _).alloc _⟩
    · have d3:decide (x < n)=false:=decide_eq_false M
      rw[a,if_neg (fun h=> z h.2),if_neg (fun h=> M h.2)];clear a z Gk Z Eo;go_enter func121,ntmps121;go_wp2_with fail;refine wp_loop_rounds 1 ?_;rw[rounds_succ];go_wp2_with fail;exact aQ (v:= m0 1 n none 0 0) (by simp[aS,results121,go_sem]) rfl ⟨_,rfl,W0.leaf _ _ _ _ _,((((xr w).alloc _).alloc _).alloc _).alloc _⟩
 |false=>
  have ue:k≠1:=by simpa using d1
  rw[a,if_neg (fun h=> ue h.1),if_neg (fun h=> ue h.1)];clear a Eo;go_enter func121,ntmps121;go_wp2_with fail;obtain⟨q,F⟩: ∃q,q=((w.alloc (D0 k n A g.length cap)).alloc (D0 B y O f.length L)).alloc M0:=⟨_,rfl⟩;obtain⟨W,C⟩: ∃W,W=q.alloc (D0 k n none 0 0):=⟨_,rfl⟩;have hs1:q.heap.size=w.heap.size+1+1+1:=by rw[F];simp
  have om:W.heap.size=w.heap.size+4:=by rw[C];simp;omega
  have N:Ext w q:=F▸(((xr w).alloc _).alloc _).alloc _;have dy:Ext q W:=C▸(xr q).alloc _;have F6:q.heap[w.heap.size+1+1]? =some M0:=by
   rw[F];exact(ad (xr _)).2.2.1
  have gp:W.heap[w.heap.size+1+1+1]? =some (D0 k n none 0 0):=by
   have:=aT q (D0 k n none 0 0);rw[hs1] at this;rw[C];exact this
  have S5:q.heap[w.heap.size]? =some (D0 k n A g.length cap):=by
   rw[F];exact(ad (xr _)).1
  have Mj:q.heap[w.heap.size+1]? =some (D0 B y O f.length L):=by
   rw[F];exact(ad (xr _)).2.1
  rw[<-F,<-C];clear C F
  go_loopw [10,11] (fun i _ wr=> ∃(j:Nat) (v:aU),j<=g.length/\i= j0 j/\wr.heap[w.heap.size+1+1+1]? =some (.cells #[j0 k,j0 n,v] 25 (0,0))/\Y5 W wr 25 v (s.take j)/\Ext q wr/\W.heap.size<=wr.heap.size) (fun i _ _=> g.length -(intOf i).toNat)
  case atStart=> exact⟨0,_,cO _,rfl,gp,Y5.nil _ _ _,dy,aP _⟩
  case round=>
   obtain⟨j,v,hj,rfl,F4,hG,D,R⟩:=hrel;by_cases G:j < g.length
   · obtain⟨b,o,k',n',A',E,kids,rfl,HK,c0,c1,c2,I7,I6,hK',x9,i7⟩:=hK.get (N.trans D) G
     have I1:=AF (l:=s) (j:=j) (by omega) (Z.out j G);rw[HK.out] at I1;have xm:=Rq k j;have dh:=X _ i7;have qu:(j:Int) <(g.length:Int):=by omega
     obtain⟨uu,hu⟩: ∃u,u=T4 k j:=⟨_,rfl⟩;have HU:=hdq (fun W=> IA k j W);rw[<-hu] at HU xm I1;have jc:=hdq I1;have sf:=hdq (eO (x+uu) ⟨by omega,by omega⟩);have HWS:=hdq (eO (H+uu) ⟨by omega,by omega⟩);clear hu I1;have hcm:=ya i7;have V:(s.take j).length < 1099511627776:=by rw[dQ];omega
     have W4:(s.take j).length=j:=by rw[dQ];omega
     have HL:=hdq W4;have M3:=D.blk S5;obtain⟨t0,-,t2,-,-,-⟩:=own3 M3;obtain⟨u0,u1,u2,-,-,-⟩:=own3 (D.blk Mj);have hj':(j:Int) <(g.length:Int):=by omega
     go_wp2_with fail;refine(HU.out _).mono ?_;rintro e wu ⟨rfl,rfl⟩;go_wp2_with fail;have J6:=R;have I5:=hG;have N2:=F4;have hv:=E1 N2 2;have p9: ∀c,Below W.heap.size wr c->c.heap[w.heap.size+1+1+1]? =some (.cells #[j0 k,j0 n,v] 25 (0,0)):=fun c hB=>(hB.block (w.heap.size+1+1+1) (by omega)).trans N2
     have U:=hdq p9;have Q:Ext wr wr.drew:=(xr wr).drew;have T9:=x9.ext Q;have eu:=D;have Gc:=hK.lt G;have T:=hdq (show∀c,Below (w.heap.size+1+1) wr c->c.cell? ⟨w.heap.size,2,none⟩=some (.slice (some ⟨b,o,none⟩) g.length cap)/\c.cell? ⟨w.heap.size+1,0,none⟩=some (j0 B)/\c.cell? ⟨w.heap.size+1,1,none⟩=some (j0 y)/\c.cell? ⟨w.heap.size+1,2,none⟩=some (.slice O f.length L)/\c.cell? ⟨b,o+j*3,none⟩=some (j0 k')/\c.cell? ⟨b,o+j*3+1,none⟩=some (j0 n')/\c.cell? ⟨b,o+j*3+2,none⟩=some (.slice A' kids.length E) from fun c m=>
      ⟨(m.cell (p:=⟨w.heap.size,2,none⟩) (by show w.heap.size < _;omega)).trans t2,(m.cell (p:=⟨w.heap.size+1,0,none⟩) (by show w.heap.size+1 < _;omega)).trans u0,(m.cell (p:=⟨w.heap.size+1,1,none⟩) (by show w.heap.size+1 < _;omega)).trans u1,(m.cell (p:=⟨w.heap.size+1,2,none⟩) (by show w.heap.size+1 < _;omega)).trans u2,(m.cell (p:=⟨b,o+j*3,none⟩) (by show b < _;omega)).trans c0,(m.cell (p:=⟨b,o+j*3+1,none⟩) (by show b < _;omega)).trans c1,(m.cell (p:=⟨b,o+j*3+2,none⟩) (by show b < _;omega)).trans c2⟩)
     have Kv:Below (w.heap.size+1+1) wr wr.drew:=(Below.refl _ _).drew;clear p9 W4 F4 hG D R S;rw[show Op.load 23 (Operand.tmp 53)=AA 23 53 from rfl]
     go_region_held_law (fun c=> c.cell? ⟨w.heap.size,2,none⟩=some (.slice (some ⟨b,o,none⟩) g.length cap)/\c.cell? ⟨w.heap.size+1,0,none⟩=some (j0 B)/\c.cell? ⟨w.heap.size+1,1,none⟩=some (j0 y)/\c.cell? ⟨w.heap.size+1,2,none⟩=some (.slice O f.length L)/\c.cell? ⟨b,o+j*3,none⟩=some (j0 k')/\c.cell? ⟨b,o+j*3+1,none⟩=some (j0 n')/\c.cell? ⟨b,o+j*3+2,none⟩=some (.slice A' kids.length E))
      (first|exact T.out _ ((Dj.setCell (by show _<=w.heap.size+1+1+1;omega) _)) |exact T.out _ Dj|exact T.out _ (xj.alloc (by omega) _) |exact T.out _ xj|exact T.out _ Kv)
      (first|(go_simp;go_at_call 121;(try rw[sf.out]);(try rw[HWS.out]);refine(Gk.out _ i7 _ _ (x+uu) (H+uu) T9 (by omega) (by omega) (by omega) (by omega) (by omega) ((N.trans eu).trans Q)).mono ?_;rintro e w4 ⟨u,rfl,J,I⟩;obtain⟨a1,a2,a3,a4,a5,rfl⟩:=J.three';have P:=E1 (U.out _ ((Q.trans I).below J6)) 2;have kh:=bY _ _ P;have xj:Below (w.heap.size+1+1) wr w4:=((Q.trans I).below J6).mono (by omega)) |(refine ED _ (by rfl) (.tmp 54) (.tmp 68) _ (by rfl) 25 i0 _ underlying23 hi hz0 hz1 hz2 rfl (by rfl) I5 J6 (Q.trans I) (J.since (aP _)) ((xr _).alloc _) (by rfl) (aT _ _) V ?_;intro v' w5 C6 K;obtain⟨B5,c5,rfl,q1,q2,-⟩:=C6.made;have ln:=E1 (U.out _ K) 2;have un:=mc (U.out _ K) 2;have Dj:Below (w.heap.size+1+1) wr w5:=K.mono (by omega)))
     all_goals(
      have X6:Ext q w5:=eu.trans' K (by omega);have hs5:=K.size;have cn:=U.out _ K;rw[cV,cW,HL.out,jc.out] at C6;have jq:=fun u=> C6.after ((Ua.refl W.heap.size w5).setCell (p:=⟨w.heap.size+1+1+1,2,none⟩) (by show w.heap.size+1+1+1 < W.heap.size;omega) u)
      clear P kh hv U J I c0 c1 c2 t2 t0 u0 u1 u2;go_wp2_with fail
      go_roundw
      case rel=> exact⟨j+1,_,by omega,by go_num,b6 cn 2 _,jq _,X6.setCell (by show _<=w.heap.size+1+1+1;omega) _,by simp;omega⟩
      case measure=> simp[intOf];omega)
   · obtain⟨B5,c5,rfl,q1,q2,ap⟩:=hG.made
     have V7:j=g.length:=by omega
     have xq:s.take j=s:=fY (by omega);obtain⟨r0,r1,r2,-,-,-⟩:=own3 F4;have M3:=D.blk S5;obtain⟨-,-,t2,-,-,-⟩:=own3 M3;have P4:=D.blk F6;obtain⟨s0,s1,s2,f0,f1,f2⟩:=own3 P4;rw[xq] at q1 r2 ap;clear F4;go_wp2_with fail;refine aQ (v:= m0 k n B5 s.length c5) (by simp[aS,results121,go_sem,s0,s1,s2,rp]) rfl ⟨_,rfl, ?_, ?_⟩
     · exact W0.since (W0.after (W0.mk q1 q2 ap) ((((Ua.refl _ _).setCell (by show w.heap.size+1+1 < _;omega) _).setCell (by show w.heap.size+1+1 < _;omega) _).setCell (by show w.heap.size+1+1 < _;omega) _)) (by omega)
     · exact((((N.trans D).setCell (by simp <;> omega) _).setCell (by simp <;> omega) _).setCell (by simp <;> omega) _)
end Go.Proofs.YtckhbnmfnpolgaaGreat
namespace Go.Proofs.YtckhbnmfnpolgaaGreat
open Go.RowKit
def yE(B:Nat)(w:aN)(size:Nat)(o:Option (List Tr×Nat))(e:Ending)(b:aN):Prop:=
 ∃(ts:List Tr) (A:Option Addr) (cap:Nat) (a:Int),e= .returned (.tuple #[.slice A ts.length cap,.int .i64 a])/\ts.length<=cap/\cap<=maxLen/\Tc B b A ts/\Ext w b/\(∀x,o=some x->ts=x.1/\a=x.2/\x.2<=size)/\(o=none->a= -1)
theorem cJ:(prog.info? 25).map (fun i=>(i.zero,i.size,i.bytes))=some (some (m0 0 0 none 0 0),3,40):=by kernel_rfl
theorem fH{p:Nat->Option (Tr×Nat)}{l:List UInt8}{last:UInt8}{m a b:Nat}{t:Tr}(h:p a=some (t,b)):Xe p l last (m+1) a=if l[b]? =some (if m=0 then last else 44) then(Xe p l last m (b+1)).map (fun x=>(t::x.1,x.2)) else none:=by
 conv=> lhs;unfold Xe
 rw[h]
theorem OG{p:Nat->Option (Tr×Nat)}{l:List UInt8}{last:UInt8}{m a:Nat}(h:p a=none):Xe p l last (m+1) a=none:=by
 conv=> lhs;unfold Xe
 rw[h]
theorem rG(d:Nat)(ih:Yd d)(s:ByteArray)(a many:Nat)(last:UInt8)(w:aN)(hs:s.size<=1000000000)(ha:a<=s.size+2)(hm:many<=4)(Gx:1<=many):
 Calls prog 198 #[.string s,.int .i64 a,.int .i64 d,.int .i64 many,.int .u8 (last.toNat:Int)] w (yE w.heap.size w s.size (Xe (b7 d s.data.toList) s.data.toList last many a)):=by
 have HI:=hdq (fun a W (ha:a<=s.size+2)=> ih s a W hs ha);obtain⟨F,hF⟩: ∃F,F=b7 d s.data.toList:=⟨_,rfl⟩;rw[<-hF] at HI⊢;obtain⟨R,hR⟩: ∃R,R=Xe F s.data.toList last many a:=⟨_,rfl⟩;rw[<-hR];have HR:=hdq hR;obtain⟨i0,hi,hz0,hz1,hz2⟩:=fX cJ;obtain⟨q,hq⟩: ∃q,last.toNat=q:=⟨_,rfl⟩;rw[hq];have Q:=hdq hq;clear hR ih hF hq;go_enter func198,ntmps198;go_wp2_with fail;have H:=(xr w).alloc (.cells #[] 25);have J:=aT w (.cells #[] 25);have T:w.heap.size <(w.alloc (.cells #[] 25)).heap.size:=by simp
 generalize World.alloc w _=w1 at H J T
 go_loopw [1,12,13] (fun at_ o i wr=> ∃(j C:Nat) (ts:List Tr),j<=many/\at_= .int .i64 C/\i= .int .i64 j/\C<=s.size+2/\ja (· < w.heap.size) w wr 25 o ts/\ts.length=j/\Ext w wr/\w.heap.size < wr.heap.size/\R=(Xe F s.data.toList last (many - j) C).map (fun x=>(ts++x.1,x.2))/\(j=many->C<=s.size)) (fun _ _ i _=> many -(intOf i).toNat)
 case atStart=> exact⟨0,a, [],cO _,rfl,rfl,ha,ja.lit J (aP _),rfl,H,T,by rw[HR.out];simp,by omega⟩
 case round=>
  obtain⟨j,C,ts,hj,rfl,rfl,ha',hG,gf,hx,hsz,U9,l⟩:=hrel;have HE:=hdq U9;have iq:=hdq gf;have htl4:ts.length<=4:=by omega
  clear gf;obtain⟨U,co,rfl,T3,hl2,S,-⟩:=hG.lies (fun b B=> B);clear U9;by_cases hlt:j < many
  · have vx:(j:Int) <(many:Int):=by omega
    have HND:=hdq l;clear l;go_wp2_with fail;refine(HI.out C wr ha').mono ?_;rintro e G ⟨t,u,nx,rfl,hF,e2,q1,q2⟩;obtain⟨r,n0,v,z,n,rfl⟩:=hF.three;have hs2:=e2.size;have M:=e2.trans ((xr G).alloc (.cells #[.int .i64 r,.int .i64 n0,.slice v z n] 25));cases m:F C with
    |none=>
     obtain rfl:=q2 m;have K7:R=none:=by
      rw[HE.out,show many - j=(many - j - 1)+1 by omega,OG m]
      rfl
     have O:=hdq K7;clear q1 q2 K7 m;go_wp2_with fail;go_ret2;exact⟨[],none,0,-1,rfl,aP _,cO _,.inl rfl,hx.trans M,(fun x hx=> by rw[O.out] at hx;cases hx),fun _=> rfl⟩
    |some y=>
     obtain⟨t',b⟩:=y;obtain⟨h1,h2,h3⟩:=q1 _ m;simp only at h1 h2 h3;subst h1 h2;have f:=HE.out;rw[show many - j=(many -(j+1))+1 by omega,fH m] at f;clear q1 q2 m;have t0:decide ((b:Int) < 0)=false:=decide_eq_false (by omega);by_cases Z:b < s.size
     · obtain⟨c,hc⟩: ∃c,s[b]=c:=⟨_,rfl⟩
       rw[oe Z hc] at f;have hbz:(b:Int) <(s.size:Int):=by omega
       have t1:decide ((s.size:Int)<=(b:Int))=false:=decide_eq_false (by omega);obtain⟨p,V⟩: ∃p,c.toNat=p:=⟨_,rfl⟩;obtain⟨A,E⟩: ∃A:UInt8,A=if many -(j+1)=0 then last else 44:=⟨_,rfl⟩
       rw[<-E] at f;by_cases k:c=A
       · rw[if_pos (by rw[k])] at f
         have HST:=hdq f;have I5:=hG.ext M;have Du: ∀o',ja (· < w.heap.size) w (G.alloc (.cells #[.int .i64 r,.int .i64 n0,.slice v z n] 25)) 25 o' ts->True:=fun _ _=> trivial
         have D: ∀g,(Value.slice U ts.length co).ownBlock=some g->g < wr.heap.size:=by
          obtain⟨xs,L,-⟩:=hG;exact fun g hg=>(L.lt g hg).2
         have ql:=hdq D;have P:=(hF.ext ((xr G).alloc (.cells #[.int .i64 r,.int .i64 n0,.slice v z n] 25))).ext ((xr _).alloc (.cells #[.int .i64 r,.int .i64 n0,.slice v z n] 25));have I:=I5.ext ((xr _).alloc (.cells #[.int .i64 r,.int .i64 n0,.slice v z n] 25));have xn:=aT (G.alloc (.cells #[.int .i64 r,.int .i64 n0,.slice v z n] 25)) (.cells #[.int .i64 r,.int .i64 n0,.slice v z n] 25);simp only[World.size_alloc] at xn;have hT:InT ((G.alloc (.cells #[.int .i64 r,.int .i64 n0,.slice v z n] 25)).alloc (.cells #[.int .i64 r,.int .i64 n0,.slice v z n] 25)) (fun b=> b <((G.alloc (.cells #[.int .i64 r,.int .i64 n0,.slice v z n] 25)).alloc (.cells #[.int .i64 r,.int .i64 n0,.slice v z n] 25)).heap.size/\(Value.slice U ts.length co).ownBlock≠some b/\ ¬(b < w.heap.size)) t (.agg #[.int .i64 r,.int .i64 n0,.slice v z n]):=P.mono (fun b B=>⟨B.2,fun h=> by have:=ql.out b h;omega,by omega⟩) (fun _ _=> rfl);have HT:=hdq hT;have Y:=hdq I;have HW:=hdq E;clear f E hG I5 hT P hF D I Du S;have S8:(j+1 < many/\p=44/\((j:Int)+1==(many:Int))=false)\/(many<=j+1/\p=q/\((j:Int)+1==(many:Int))=true):=by
          rcases Nat.lt_or_ge (j+1) many with g|g
          · refine .inl ⟨g, ?_,by rw[beq_eq_false_iff_ne];omega⟩
            have:=k;rw[HW.out,if_neg (by omega)] at this;rw[<-V,this];rfl
          · refine .inr ⟨g, ?_,by rw[beq_iff_eq];omega⟩
            have:=k;rw[HW.out,if_pos (by omega)] at this;rw[<-V,this,Q.out]
         clear k;rcases S8 with⟨L,rfl,g3⟩ |⟨L,rfl,g3⟩
         all_goals(
          have gz:(j:Int)+1 <(many:Int)\/(many:Int)<=(j:Int)+1:=by omega
          have gd:decide ((j:Int)+1 <(many:Int))=decide (j+1 < many):=decide_eq_decide.2 (by omega);clear gz)
         all_goals(
          have h44:((44:Int) !=44)=false:=by decide
          go_wp2_with (at_builtin;refine JF _ rfl (.tmp 62) (.tmp 64) _ (by rfl) 25 i0 _ underlying23 hi hz0 hz1 hz2 rfl (by rfl) (X:=(· < w.heap.size)) (W:=w) (tr:=t) Y.out (by simp;omega) HT.out (by rfl) xn (by omega) ?_ (fun b B=> B))
          intro v' w5 C6 z6;obtain⟨B5,c5,rfl,r1,r2,-,-⟩:=C6.lies (fun b B=> B);have P8:Ext w w5:=Below.trans (hx.trans (M.trans ((xr _).alloc (.cells #[.int .i64 r,.int .i64 n0,.slice v z n] 25)))) z6;have K:=z6.size;have Dx:=hdq C6;have Lx:w.heap.size < w5.heap.size:=by simp at K;omega
          clear C6 z6 K xn;go_wp2_with fail
          go_roundw
          case rel=> exact⟨j+1,b+1,ts++ [t],by omega,by go_num,by go_num,by omega,Dx.out,by rw[cV,iq.out];rfl,P8,Lx,by rw[HST.out,Option.map_map];congr 1;funext x;simp,by omega⟩
          case measure=> simp[intOf];omega)
       · rw[if_neg (by intro h;cases h;exact k rfl)] at f
         have O:=hdq (show R=none from by rw[f];rfl);have S8:(j+1 < many/\((p:Int) !=44)=true)\/(many<=j+1/\((p:Int) !=(q:Int))=true/\((j:Int)+1==(many:Int))=true):=by
          rcases Nat.lt_or_ge (j+1) many with g|g
          · refine .inl ⟨g, ?_⟩
            rw[bne_iff_ne];intro h;rw[E,if_neg (by omega)] at k;exact k (UInt8.toNat_inj.1 (by rw[V];simp;omega))
          · refine .inr ⟨g, ?_,by rw[beq_iff_eq];omega⟩
            rw[bne_iff_ne];intro h;rw[E,if_pos (by omega)] at k;exact k (UInt8.toNat_inj.1 (by rw[V,Q.out];omega))
         clear f E k hG S;rcases S8 with⟨L,g2⟩ |⟨L,g2,g3⟩
         all_goals(
          go_wp2_with fail;go_ret2;exact⟨[],none,0,-1,rfl,aP _,cO _,.inl rfl,hx.trans M,(fun x hx=> by rw[O.out] at hx;cases hx),fun _=> rfl⟩)
     · rw[Vp s (by omega),if_neg (by simp)] at f
       have O:=hdq (show R=none from by rw[f];rfl);have t1:decide ((s.size:Int)<=(b:Int))=true:=decide_eq_true (by omega);clear f hG S;go_wp2_with fail;go_ret2;exact⟨[],none,0,-1,rfl,aP _,cO _,.inl rfl,hx.trans M,(fun x hx=> by rw[O.out] at hx;cases hx),fun _=> rfl⟩
  · have El:j=many:=by omega
    have D8:R=some (ts,C):=by
     rw[HE.out,El,Nat.sub_self];simp[Xe]
    have N:=hdq D8;have hK2:Tc w.heap.size wr U ts:=S.mono (fun b B=>⟨by omega,B.1⟩) (fun _ _=> rfl);have M2:=l El;clear D8 l S hG;go_wp2_with fail;go_ret2;refine⟨ts,U,co,(C:Int), ?_,T3,hl2,hK2,hx, ?_, ?_⟩
    · rfl
    · intro x hx
      rw[N.out] at hx;cases hx
      exact⟨rfl,rfl,M2⟩
    · intro hx
      rw[N.out] at hx;cases hx
