/-
  Lemmas towards the law, 7: Scan, Row, Nums, Any, SpecValid, Extract.
-/
import Derived.Test.YtckhbnmfnpolgaaGreatBAF
import Derived.Deep.DrawnRows
import Derived.Deep.RegionLaw
open Go renaming World->aK,Value->aS,Calls->aV,maxLen->aU,wpQuiet_nil->iS,TypeId->aY
open Nat renaming zero_le->bT,le_refl->aM,lt_of_lt_of_le->aX
open List renaming drop_eq_getElem_cons->bX,drop_of_length_le->cR,getElem?_append_right->eR,eq_nil_of_length_eq_zero->aZ
open List.cons renaming injEq->eN
open Bool renaming and_eq_true->aW
open Go.Proofs.Tryz
set_option linter.unusedVariables false
set_option maxHeartbeats 1600000
set_option maxRecDepth 100000
namespace Go.Proofs.YtckhbnmfnpolgaaGreat
open Go.RowKit
def VH(t:Tr):Prop:= ∀(w:aK) (B g:Nat) (v:aS) (deep c:Int),InT w (fun b=> b < B) t v->B<=g->w.heap[g]? =some (.cells #[.int .i64 c] 3 (0,0))->0<=c->c<=400->0<=deep->deep<=40->
 aV prog 65 #[v,.int .i64 deep,.pointer (some ⟨g,0,none⟩)] w fun e a=> e= .returned (.bool (Lc m0 t deep c).1)/\a.heap[g]? =some (.cells #[.int .i64 (Lc m0 t deep c).2] 3 (0,0))/\Below B w a
theorem CH: ∀t:Tr,VH t:=Tr.ind fun k n m hk=> by
 intro w B g v deep c b8 Q a hc0 hc1 ej iw;obtain⟨A,cap,rfl,hl,hc,h⟩:=InT.mk_iff.1 b8;clear b8;have hc':=hc;unfold aU at hc';have hgs:=O1 a;have V:w.cell? ⟨g,0,none⟩=some (.int .i64 c):=i1 a 0;have Y:=Ob a 0;have e:Lc m0 (.mk k n m) deep c=if 400 < c+1 then(false,c+1) else if 30 < deep then(false,c+1) else if O0 k=(m.length:Int) then(if kb n 0 (Ja k)=true then ge m0 m (deep+1) (c+1) else(false,c+1)) else(false,c+1):=by
  unfold Lc;rfl
 have E:=hdq e;have HB:=hdq a;have hW: ∀W,W=(w.setCell ⟨g,0,none⟩ (.int .i64 (c+1))).alloc (.cells #[.int .i64 k,.int .i64 n,.slice A m.length cap] 25)->W.heap[g]? =some (.cells #[.int .i64 (c+1)] 3 (0,0))/\W.heap[w.heap.size]? =some (.cells #[.int .i64 k,.int .i64 n,.slice A m.length cap] 25 (0,0))/\Below B w W/\w.heap.size < W.heap.size:=by
  rintro W rfl;have e0:=heap_alloc_new (w.setCell ⟨g,0,none⟩ (.int .i64 (c+1))) (.cells #[.int .i64 k,.int .i64 n,.slice A m.length cap] 25);rw[World.size_setCell] at e0;exact⟨kF (M6 HB.out 0 _) _,e0,((Below.refl B w).setCell Q _).alloc (by simp;omega) _,by simp⟩
 have T:=hdq hW;clear hW e;by_cases a1:400 < c+1
 · rw[if_pos a1] at E
   have d1:decide (400 < c+1)=true:=decide_eq_true a1;go_enter func65,ntmps65;go_wp2_with fail;have u:=T.out _ rfl;generalize (w.setCell _ _).alloc _=W at u;obtain⟨f,l,G,b4⟩:=u;obtain⟨K,J,D⟩:=q32.own3 l;have F: ∀y:q32 W,y.world.cell? ⟨g,0,none⟩=some (.int .i64 (c+1)):=fun y=> q32.cell (i1 f 0) y
   have I:=hdq f;have U:=hdq l;clear l f V Y a;refine ll (by kernel_rfl) (by kernel_rfl) ?_
   repeat (go_big_quiet_step (first|(go_at_call 108;exact Px (eC _ _)) |(go_at_call 51;exact zd (ri _ _ _ _)) |(go_at_call 109;exact zd (bC _ _))))
   refine iS ?_;intro w3 d;obtain⟨⟨_,s⟩,rfl⟩:=d;clear K J D F;go_wp2_with fail;go_ret;exact⟨by rw[E.out];rfl,by rw[E.out];exact s.blk I.out,G.trans (s.mono (by omega))⟩
 rw[if_neg a1] at E;have d1:decide (400 < c+1)=false:=decide_eq_false a1;by_cases a2:30 < deep
 · rw[if_pos a2] at E
   have d2:decide (30 < deep)=true:=decide_eq_true a2;go_enter func65,ntmps65;go_wp2_with fail;have u:=T.out _ rfl;generalize (w.setCell _ _).alloc _=W at u;obtain⟨f,l,G,b4⟩:=u;obtain⟨K,J,D⟩:=q32.own3 l;have F: ∀y:q32 W,y.world.cell? ⟨g,0,none⟩=some (.int .i64 (c+1)):=fun y=> q32.cell (i1 f 0) y
   have I:=hdq f;have U:=hdq l;clear l f V Y a;refine ll (by kernel_rfl) (by kernel_rfl) ?_
   repeat (go_big_quiet_step (first|(go_at_call 108;exact Px (eC _ _)) |(go_at_call 51;exact zd (ri _ _ _ _)) |(go_at_call 109;exact zd (bC _ _))))
   refine iS ?_;intro w3 d;obtain⟨⟨_,s⟩,rfl⟩:=d;clear K J D F;go_wp2_with fail;go_ret;exact⟨by rw[E.out];rfl,by rw[E.out];exact s.blk I.out,G.trans (s.mono (by omega))⟩
 rw[if_neg a2] at E;have d2:decide (30 < deep)=false:=decide_eq_false a2;by_cases N:O0 k=(m.length:Int)
 · rw[if_pos N] at E
   have d3:(O0 k !=(m.length:Int))=false:=by rw[N];simp
   clear N;obtain⟨z,hz⟩: ∃z,kb n 0 (Ja k)=z:=⟨_,rfl⟩;cases z with
   |false=>
    rw[hz,if_neg (by decide)] at E;go_enter func65,ntmps65;go_wp2_with fail;have u:=T.out _ rfl;generalize (w.setCell _ _).alloc _=W at u;obtain⟨f,l,G,b4⟩:=u;obtain⟨K,J,D⟩:=q32.own3 l;have F: ∀y:q32 W,y.world.cell? ⟨g,0,none⟩=some (.int .i64 (c+1)):=fun y=> q32.cell (i1 f 0) y
    have I:=hdq f;have U:=hdq l;clear l f V Y a;refine ll (by kernel_rfl) (by kernel_rfl) ?_
    repeat (go_big_quiet_step (first|(go_at_call 108;exact Px (eC _ _)) |(go_at_call 51;exact zd (ri _ _ _ _)) |(go_at_call 109;exact zd (bC _ _))))
    refine iS ?_;intro w3 d;obtain⟨⟨_,s⟩,rfl⟩:=d;clear K J D F;go_wp2_with fail;go_ret;exact⟨by rw[E.out];rfl,by rw[E.out];exact s.blk I.out,G.trans (s.mono (by omega))⟩
   |true=>
    rw[hz,if_pos rfl] at E;go_enter func65,ntmps65;go_wp2_with fail;have u:=T.out _ rfl;generalize (w.setCell _ _).alloc _=W at u;obtain⟨f,l,G,b4⟩:=u;obtain⟨K,J,D⟩:=q32.own3 l;have F: ∀y:q32 W,y.world.cell? ⟨g,0,none⟩=some (.int .i64 (c+1)):=fun y=> q32.cell (i1 f 0) y
    have I:=hdq f;have U:=hdq l;clear l f V Y a;refine ll (by kernel_rfl) (by kernel_rfl) ?_
    repeat (go_big_quiet_step (first|(go_at_call 108;exact Px (eC _ _)) |(go_at_call 51;exact zd (ri _ _ _ _)) |(go_at_call 109;exact zd (bC _ _))))
    refine iS ?_;intro w3 d;obtain⟨⟨_,s⟩,rfl⟩:=d;clear K J D F;clear hz;obtain⟨z0,z1,z2,-,-,-⟩:=own3 (s.blk U.out);have S:=s.blk I.out;have Bn:Below B w w3:=G.trans (s.mono (by omega));have B4:=hdq S;clear S;go_wp2_with fail;clear z0 z1 z2
    go_loopw [43] (fun i wr=> ∃(j:Nat) (q:Int),j<=m.length/\i= .int .i64 j/\wr.heap[g]? =some (.cells #[.int .i64 q] 3 (0,0))/\0<=q/\q<=400/\Below B w wr/\ge m0 m (deep+1) (c+1)=ge m0 (m.drop j) (deep+1) q) (fun i _=> m.length -(intOf i).toNat)
    case atStart=> exact⟨0,c+1,bT _,rfl,B4.out,by omega,by omega,Bn,rfl⟩
    case round=>
     obtain⟨j,q,hj,rfl,a,kp,px,wm,S0⟩:=hrel;have Z:=hdq S0;clear S0;by_cases X:j < m.length
     · obtain⟨b,o,L,M,A2,F4,kids,rfl,HK,c0,c1,c2,G7,G0,hK,b8,d6,qm⟩:=h.get (fun x hx=> wm.block x hx) X
       have j4:=bX X;rw[HK.out] at j4;have p:ge m0 (m.drop j) (deep+1) q=if(Lc m0 (.mk L M kids) (deep+1) q).1=true then ge m0 (m.drop (j+1)) (deep+1) (Lc m0 (.mk L M kids) (deep+1) q).2 else(false,(Lc m0 (.mk L M kids) (deep+1) q).2):=by rw[j4];conv=> lhs;unfold ge
       have C:=BG m0 (.mk L M kids) (deep+1) q kp px;have qy:=hdq a;have hgwr:=O1 a;clear a j4;go_wp2_with fail;have B7:=(xr wr).alloc (.cells #[.int .i64 L,.int .i64 M,.slice A2 kids.length F4] 25);have Cy:B<=wr.heap.size:=by omega
       refine(hk _ d6 _ B g _ (deep+1) q (b8.mono (fun _ h=> h) (fun x hx=> B7.heap x (by omega))) Q (B7.blk qy.out) kp px (by omega) (by omega)).mono ?_;rintro e w4 ⟨rfl,O,h5⟩;have py:Below B w w4:=wm.trans ((Below.mono B7 Cy).trans h5);generalize Lc m0 (.mk L M kids) (deep+1) q=r at p C O;obtain⟨r1,r2⟩:=r
       dsimp only at p C O
       cases r1 with
       |false=>
        rw[if_neg (by decide)] at p;have HT:=hdq p;have H4:=hdq O;clear p O C;go_wp2_with fail;go_ret;exact⟨by rw[E.out,Z.out,HT.out];rfl,by rw[E.out,Z.out,HT.out];exact H4.out,py⟩
       |true=>
        rw[if_pos rfl] at p;have HT:=hdq p;have H4:=hdq O;have hr2:=C.2.2.2.2 rfl;have hr3:=C.2.2.1;clear p O C;go_wp2_with fail
        go_roundw
        case rel=> exact⟨j+1,r2,by omega,by go_num,H4.out,by omega,hr2,py,by rw[Z.out,HT.out]⟩
        case measure=> simp[intOf];omega
     · have qy:=hdq a
       clear a;go_wp2_with fail;go_ret;have R:m.drop j= []:=cR (by omega);exact⟨by rw[E.out,Z.out,R];rfl,by rw[E.out,Z.out,R];exact qy.out,wm⟩
 · rw[if_neg N] at E
   have d3:(O0 k !=(m.length:Int))=true:=by rw[bne_iff_ne];exact N
   clear N;go_enter func65,ntmps65;go_wp2_with fail;have u:=T.out _ rfl;generalize (w.setCell _ _).alloc _=W at u;obtain⟨f,l,G,b4⟩:=u;obtain⟨K,J,D⟩:=q32.own3 l;have F: ∀y:q32 W,y.world.cell? ⟨g,0,none⟩=some (.int .i64 (c+1)):=fun y=> q32.cell (i1 f 0) y
   have I:=hdq f;have U:=hdq l;clear l f V Y a;refine ll (by kernel_rfl) (by kernel_rfl) ?_
   repeat (go_big_quiet_step (first|(go_at_call 108;exact Px (eC _ _)) |(go_at_call 51;exact zd (ri _ _ _ _)) |(go_at_call 109;exact zd (bC _ _))))
   refine iS ?_;intro w3 d;obtain⟨⟨_,s⟩,rfl⟩:=d;clear K J D F;go_wp2_with fail;go_ret;exact⟨by rw[E.out];rfl,by rw[E.out];exact s.blk I.out,G.trans (s.mono (by omega))⟩
def W0(w:aK)(S:Nat->Prop):List aS->List Tr->Prop
 |_, []=> True
 |xs,t::ts=> ∃v0 v1 v2 rest,xs=v0::v1::v2::rest/\InT w S t (.agg #[v0,v1,v2])/\W0 w S rest ts
theorem W0.cons_iff{w:aK}{S:Nat->Prop}{a:List aS}{t:Tr}{ts:List Tr}:W0 w S a (t::ts)↔ ∃v0 v1 v2 rest,a=v0::v1::v2::rest/\InT w S t (.agg #[v0,v1,v2])/\W0 w S rest ts:=by
 conv=> lhs;unfold W0
theorem W0.nil{w:aK}{S:Nat->Prop}{a:List aS}:W0 w S a []:=by unfold W0;trivial
theorem W0.mono{w w':aK}{S S':Nat->Prop}(hS: ∀b,S b->S' b)(c: ∀b,S b->w'.heap[b]? =w.heap[b]?): ∀{a:List aS} {d:List Tr},W0 w S a d->W0 w' S' a d
 |_, [],_=> W0.nil
 |a,t::ts,h=> by
  obtain⟨v0,v1,v2,rest,rfl,e,f⟩:=W0.cons_iff.1 h;exact W0.cons_iff.2 ⟨v0,v1,v2,rest,rfl,e.mono hS c,W0.mono hS c f⟩
theorem W0.inL{w:aK}{S:Nat->Prop}{b:Nat}{cs:Array aS}{e:aY}(c:w.heap[b]? =some (.cells cs e (0,0))): ∀{xs pre:List aS} {d:List Tr},W0 w S xs d->cs.toList=pre++xs->O4 w S b pre.length d
 |_,_, [],_,_=> by unfold O4;trivial
 |xs,pre,t::ts,h,a=> by
  obtain⟨v0,v1,v2,rest,rfl,f,g⟩:=W0.cons_iff.1 h;unfold O4;have hc: ∀i,w.cell? ⟨b,i,none⟩=cs.toList[i]? :=fun i=> by rw[i1 c];simp
  refine⟨⟨v0,v1,v2, ?_, ?_, ?_,f⟩, ?_⟩
  · rw[hc,a,eR (aM _)];simp
  · rw[hc,a,eR (by omega)];simp
  · rw[hc,a,eR (by omega)];simp
  · have:=W0.inL c (pre:=pre++ [v0,v1,v2]) g (by simp[a])
    simpa using this
theorem O4.rowL{w:aK}{S:Nat->Prop}{b:Nat}: ∀{o:Nat} {d:List Tr},O4 w S b o d-> ∃c:List aS,c.length=d.length*3/\(∀j u,c[j]? =some u->w.cell? ⟨b,o+j,none⟩=some u)/\(∀u∈c,u.oneCell'=true)/\W0 w S c d
 |o, [],_=>⟨[],rfl,(fun j u h=> by simp at h),(fun u h=> by simp at h),W0.nil⟩
 |o,t::ts,h=> by
  unfold O4 at h;obtain⟨⟨v0,v1,v2,i,e,q,ht⟩,m⟩:=h;obtain⟨c,f,g,p,l⟩:=O4.rowL m;refine⟨v0::v1::v2::c,by simp[f];omega,fun j u a=> ?_,fun u a=> ?_,W0.cons_iff.2 ⟨v0,v1,v2,c,rfl,ht,l⟩⟩
  · match j,a with
    |0,a=> simpa using(by simpa using a:v0=u)▸i
    |1,a=> simpa using(by simpa using a:v1=u)▸e
    |2,a=> simpa using(by simpa using a:v2=u)▸q
    |j+3,a=>
     have:=g j u (by simpa using a)
     rwa [show o+3+j=o+(j+3) by omega] at this
  · obtain⟨k,n,kids⟩:=t
    obtain⟨A,cap,hv,_⟩:=InT.mk_iff.1 ht;simp only[Value.agg.injEq,Array.mk.injEq,eN,and_true] at hv;obtain⟨rfl,rfl,rfl⟩:=hv;simp only[List.mem_cons] at a;rcases a with rfl|rfl|rfl|a
    · rfl
    · rfl
    · rfl
    · exact p u a
theorem W0.snoc{w:aK}{S:Nat->Prop}{t:Tr}{v0 v1 v2:aS}(ht:InT w S t (.agg #[v0,v1,v2]))(tail:List aS): ∀{a:List aS} {b:List Tr},a.length=b.length*3->W0 w S a b->W0 w S (a++v0::v1::v2::tail) (b++ [t])
 |a, [],hx,h=> by
  have c:a= []:=aZ (by simpa using hx);subst c;exact W0.cons_iff.2 ⟨v0,v1,v2,tail,rfl,ht,W0.nil⟩
 |a,x::b,hx,h=> by
  obtain⟨i,d,f,rest,rfl,e,g⟩:=W0.cons_iff.1 h;exact W0.cons_iff.2 ⟨i,d,f,_,rfl,e,W0.snoc ht tail (by simp only[List.length_cons] at hx;omega) g⟩
theorem W0.tail{w:aK}{S:Nat->Prop}(tail:List aS): ∀{a:List aS} {b:List Tr},W0 w S a b->W0 w S (a++tail) b
 |a, [],h=> W0.nil
 |a,x::b,h=> by
  obtain⟨g,d,c,rest,rfl,e,f⟩:=W0.cons_iff.1 h;exact W0.cons_iff.2 ⟨g,d,c,_,rfl,e,W0.tail tail f⟩
theorem W0.set{w:aK}{S:Nat->Prop}{t:Tr}{v0 v1 v2:aS}(ht:InT w S t (.agg #[v0,v1,v2])): ∀{a:List aS} {b:List Tr} (i:Nat),W0 w S a b->W0 w S (((a.set (i*3) v0).set (i*3+1) v1).set (i*3+2) v2) (b.set i t)
 |a, [],i,h=> by simpa using W0.nil
 |a,x::b,0,h=> by
  obtain⟨g,d,f,rest,rfl,e,c⟩:=W0.cons_iff.1 h;exact W0.cons_iff.2 ⟨v0,v1,v2,rest,by simp,ht,c⟩
 |a,x::b,i+1,h=> by
  obtain⟨g,d,f,rest,rfl,e,c⟩:=W0.cons_iff.1 h;refine W0.cons_iff.2 ⟨g,d,f,_, ?_,e,W0.set ht i c⟩;rw[show(i+1)*3=i*3+1+1+1 by omega,show i*3+1+1+1+1=i*3+1+1+1+1 from rfl,show i*3+1+1+1+2=i*3+2+1+1+1 by omega];simp
def i9(X:Nat->Prop)(W w:aK)(e:aY)(v:aS)(ks:List Tr):Prop:=
 ∃a,w.ownsRow W.heap.size e 3 v ks.length a/\W0 w (fun b=> b < w.heap.size/\v.ownBlock≠some b/\ ¬X b) a ks
theorem i9.nil(X:Nat->Prop)(W w:aK)(e:aY):i9 X W w e (.slice none 0 0) []:=⟨[],World.ownsRow_nil _ _ _ _,W0.nil⟩
theorem i9.lit{X:Nat->Prop}{W w:aK}{e:aY}{g:Nat}(a:w.heap[g]? =some (.cells #[] e (0,0)))(b:W.heap.size<=g):i9 X W w e (.slice (some ⟨g,0,none⟩) 0 0) []:=
 ⟨[],⟨rfl,.inr ⟨g,0,#[],rfl,b,a,aM _,bT _,rfl,rfl⟩⟩,W0.nil⟩
theorem i9.only{X:Nat->Prop}{W w j:aK}{e:aY}{v:aS}{k:List Tr}{L:List Nat}(h:i9 X W w e v k)(d:X0 L w j)(i: ∀b,b∈L->X b)(n: ∀b,X b->b < W.heap.size):i9 X W j e v k:=by
 obtain⟨l,c,m⟩:=h;refine⟨l,Yv c (fun g f=> d.block g (c.lt g f).2 (fun hm=> by have:=n g (i g hm);have:=(c.lt g f).1;omega)),m.mono (fun b a=>⟨aX a.1 d.size,a.2.1,a.2.2⟩) (fun b a=> d.block b a.1 (fun hm=> a.2.2 (i b hm)))⟩
theorem i9.ext{X:Nat->Prop}{W w f:aK}{e:aY}{v:aS}{ks:List Tr}(h:i9 X W w e v ks)(c:Ext w f):i9 X W f e v ks:=by
 obtain⟨j,d,k⟩:=h;exact⟨j,Yv d (fun g i=> c.heap g (d.lt g i).2),k.mono (fun b a=>⟨aX a.1 c.size,a.2.1,a.2.2⟩) (fun b a=> c.heap b a.1)⟩
theorem i9.lies{X:Nat->Prop}{W w:aK}{e:aY}{v:aS}{a:List Tr}(h:i9 X W w e v a)(p: ∀b,X b->b < W.heap.size): ∃A cap,v= .slice A a.length cap/\a.length<=cap/\cap<=aU/\InK w (fun b=> b < w.heap.size/\ ¬X b) A a/\(a= []\/ ∃g,A=some ⟨g,0,none⟩/\W.heap.size<=g):=by
 obtain⟨q,l,o⟩:=h;rcases l.2 with⟨rfl,k⟩ |⟨g,cap,d,rfl,c,i,m,f,n,ht⟩
 · have:a= []:=aZ k
   subst this;exact⟨none,0,rfl,aM _,bT _,.inl rfl,.inl rfl⟩
 · refine⟨_,cap,rfl,m,f,.inr ⟨g,0,rfl,⟨O1 i,fun hm=> by have:=p g hm;omega⟩, ?_⟩,.inr ⟨g,rfl,c⟩⟩
   have j:=W0.tail (d.toList.drop (a.length*3)) (o.mono (S':=fun b=> b < w.heap.size/\ ¬X b) (fun b c=>⟨c.1,c.2.2⟩) (fun _ _=> rfl));rw[<-ht,List.take_append_drop] at j;exact W0.inL i (pre:= []) j (by simp)
theorem aD{w:aK}{S:Nat->Prop}{t:Tr}{v0 v1 v2:aS}(h:InT w S t (.agg #[v0,v1,v2])): ∀u∈ [v0,v1,v2],u.oneCell'=true:=by
 obtain⟨k,n,b⟩:=t;obtain⟨A,cap,hv,_⟩:=InT.mk_iff.1 h;simp only[Value.agg.injEq,Array.mk.injEq,eN,and_true] at hv;obtain⟨rfl,rfl,rfl⟩:=hv;intro u a;simp only[List.mem_cons,List.not_mem_nil,or_false] at a;rcases a with rfl|rfl|rfl <;> rfl
theorem Uu{P:Program}(w:aK){o:Oper}{a:Act}{K:Act->aK->Prop}{Q:Exit->Act->aK->Prop}(s x:Operand)(t:aY)
 (D:o.op= .call {callee:= .builtin .append,args:=#[s,x],argTypes:=#[t,t]})
 (e:aY) (i:TypeInfo) (z:aS) (ht:P.underlying t=some (.slice e)) (hi:P.info? e=some i) (A:i.zero=some z) (d:i.size=3) (p:i.bytes=40) (n:z.cells.size=3)
 {X:Nat->Prop} {W:aK} {v:aS} {l:List Tr} {tr:Tr} {v0 v1 v2:aS} {q:Nat} (hs:a.eval s=v) (hG:i9 X W w e v l) (E:W.heap.size<=w.heap.size)
 (hT:InT w (fun b=> b < w.heap.size/\v.ownBlock≠some b/\ ¬X b) tr (.agg #[v0,v1,v2]))
 (hx:a.eval x= .slice (some ⟨q,0,none⟩) 1 1) (r:w.heap[q]? =some (.cells #[v0,v1,v2] e (0,0))) (hn:l.length < 1099511627776)
 (h: ∀j c,i9 X W c e j (l++ [tr])->Below W.heap.size w c->K (a.put o.dst j) c) (L: ∀b,X b->b < W.heap.size):o.wp P a w K Q:=by
 obtain⟨B,m,I⟩:=hG;obtain⟨j,c,hr,C,g,J⟩:=Mn (P:=P) w W.heap.size t o.type e i z 3 40 ht hi A d p n (by decide) v l.length B m ⟨q,0,none⟩ 1 1 [v0,v1,v2] rfl (wD r) (aD hT) (by unfold aU;omega) (by omega) E;have G:Below W.heap.size w c:=⟨g.os,g.tape,g.output,g.size,fun b f=> g.block b (by omega) (fun k=> by have:=(m.lt b k.symm).1;omega)⟩;have hS: ∀b,b < w.heap.size/\v.ownBlock≠some b/\ ¬X b->b < c.heap.size/\j.ownBlock≠some b/\ ¬X b:=fun b f=> by
  refine⟨aX f.1 g.size,fun k=> ?_,f.2.2⟩;rcases J b k with u|u
  · exact f.2.1 u
  · omega
 have y: ∀b,b < w.heap.size/\v.ownBlock≠some b/\ ¬X b->c.heap[b]? =w.heap[b]? :=fun b f=> g.block b f.1 (fun k=> f.2.1 k.symm)
 have F:i9 X W c e j (l++ [tr]):=⟨_,by simpa using C,W0.snoc (hT.mono hS y) [] m.1 (I.mono hS y)⟩;unfold Oper.wp execOp;simp only[D,resolve,invoke,builtin,Sem.run_bind,Sem.run_pure,Result.andThen_ok,List.map_toArray,List.map_cons,List.map_nil,hs,hx,hr];exact h j c F G
theorem BD{P:Program}(w:aK){ops:Array Oper}{rest:List Oper}{o:Oper}{a:Act}{Q:Exit->Act->aK->Prop}(g:o.guard=none)(s x:Operand)(t:aY)
 (r:o.op= .call {callee:= .builtin .append,args:=#[s,x],argTypes:=#[t,t]})
 (e:aY) (i:TypeInfo) (z:aS) (ht:P.underlying t=some (.slice e)) (hi:P.info? e=some i) (p:i.zero=some z) (c:i.size=3) (k:i.bytes=40) (j:z.cells.size=3)
 {X:Nat->Prop} {W:aK} {v:aS} {m:List Tr} {tr:Tr} {v0 v1 v2:aS} {n:Nat} (hs:a.eval s=v) (hG:i9 X W w e v m) (u:W.heap.size<=w.heap.size)
 (hT:InT w (fun b=> b < w.heap.size/\v.ownBlock≠some b/\ ¬X b) tr (.agg #[v0,v1,v2]))
 (hx:a.eval x= .slice (some ⟨n,0,none⟩) 1 1) (l:w.heap[n]? =some (.cells #[v0,v1,v2] e (0,0))) (hn:m.length < 1099511627776)
 (h: ∀f d,i9 X W d e f (m++ [tr])->Below W.heap.size w d->wpList P ops Q rest (a.put o.dst f) d) (A: ∀b,X b->b < W.heap.size):wpList P ops Q (o::rest) a w:=
 wpList_plain g fun K hK=> Uu w s x t r e i z ht hi p c k j hs hG u hT hx l hn (fun f d q y=> hK _ _ (h f d q y)) A
theorem cJ{P:Program}(w:aK){ops:Array Oper}{o:Oper}{a:Act}{K:Act->aK->Prop}{Q:Exit->Act->aK->Prop}{E:Prop}(d:o.guard=none)(s x:Operand)(t:aY)
 (q:o.op= .call {callee:= .builtin .append,args:=#[s,x],argTypes:=#[t,t]})
 (e:aY) (i:TypeInfo) (z:aS) (ht:P.underlying t=some (.slice e)) (hi:P.info? e=some i) (p:i.zero=some z) (c:i.size=3) (g:i.bytes=40) (f:z.cells.size=3)
 {X:Nat->Prop} {W:aK} {v:aS} {l:List Tr} {tr:Tr} {v0 v1 v2:aS} {n:Nat} (hs:a.eval s=v) (hG:i9 X W w e v l) (r:W.heap.size<=w.heap.size)
 (hT:InT w (fun b=> b < w.heap.size/\v.ownBlock≠some b/\ ¬X b) tr (.agg #[v0,v1,v2]))
 (hx:a.eval x= .slice (some ⟨n,0,none⟩) 1 1) (j:w.heap[n]? =some (.cells #[v0,v1,v2] e (0,0))) (hn:l.length < 1099511627776)
 (h: ∀m k,i9 X W k e m (l++ [tr])->Below W.heap.size w k->K (a.put o.dst m) k) (u: ∀b,X b->b < W.heap.size):
 if Region.wanted o (yielded ops a.tmps)=true then Oper.wp P o a w K Q else E:=by
 have y:Region.wanted o (yielded ops a.tmps)=true:=by simp[Region.wanted,d]
 rw[if_pos y];exact Uu w s x t q e i z ht hi p c g f hs hG r hT hx j hn h u
theorem P0.inT{w a:aK}{e:aY}{t:Tr}{v:aS}(h:P0 w a e t v):InT a (fun b=> w.heap.size<=b/\b < a.heap.size) t v:=by
 obtain⟨L,h,hf⟩:=h;exact InT.mono (fun b c=> hf.2 b c) (fun _ _=> rfl) h.inT
end Go.Proofs.YtckhbnmfnpolgaaGreat
namespace Go.Proofs.YtckhbnmfnpolgaaGreat
open Go.RowKit Go.ChangeShapes Go.WideShapes Go.Deep
def Qa(w:aK)(A:Option Addr)(ns:List Int):Prop:=ns= []\/ ∃b o,A=some ⟨b,o,none⟩/\b < w.heap.size/\ ∀j (h:j < ns.length),w.cell? ⟨b,o+j,none⟩=some (.int .i64 ns[j])
theorem Qa.ext{w a:aK}{A:Option Addr}{ns:List Int}(h:Qa w A ns)(c:Ext w a):Qa a A ns:=by
 rcases h with h|⟨b,o,rfl,e,hc⟩
 · exact .inl h
 · exact .inr ⟨b,o,rfl,aX e c.size,fun j d=> c.cell (hc j d)⟩
theorem Qa.get{w c:aK}{A:Option Addr}{ns:List Int}(h:Qa w A ns)(d:Ext w c){j:Nat}(a:j < ns.length): ∃b o,A=some ⟨b,o,none⟩/\c.cell? ⟨b,o+j,none⟩=some (.int .i64 ns[j]):=by
 rcases h with rfl|⟨b,o,rfl,e,hc⟩
 · exact absurd a (by simp)
 · exact⟨b,o,rfl,d.cell (hc j a)⟩
theorem At.nums{w:aK}{A:Option Addr}{ns:List Int}(h:Qa w A ns):At w (fun a=> Qa a A ns):=fun _ hx=> h.ext hx
section
variable {H : Type} {enc : aY × aS → H} {P : Program} {w : aK} {spare : Nat → Bool} {held : Bool}
theorem Rw{s i:aY}(hs:P.underlying s=some (.slice i))(hi:P.underlying i=some (.int .i64))(ci:P.cellsOf i=1){r:Reach}{I:Nat}{v:aS}{d:DataW H}{p:List MemPlace}(hv:Value.okWide P w r I s v)(h:DataW.Trod enc P w 0 spare held s v d p):
 ∃(A:Option Addr) (cap:Nat) (ns:List Int),v= .slice A ns.length cap/\ns.length<=cap/\cap<=aU/\Qa w A ns:=by
 obtain⟨J,K,L,rfl⟩:=okWide_slice hs hv;obtain⟨fuel,hf⟩:=h;rcases DataW.trod_slice hs hf with⟨e,_⟩ |⟨a,len,cap,t,rest,n,rfl,e,_,_,hl,hm,z,F,_,_⟩
 · simp only[Value.cells,eN,and_true] at e
   exact⟨none,0, [],e,aM _,bT _,.inl rfl⟩
 · have C: ∀j,j < len-> ∃x:Int,w.cell? (a.add j)=some (.int .i64 x):=by
    intro j q;have l:=F j q;rw[List.getElem?_eq_getElem (by omega)] at l;obtain⟨D,B,G⟩:=Option.bind_eq_some_iff.1 l;obtain⟨x,rfl,_,_⟩:=DataW.trod_int hi G;obtain⟨_,_,f⟩:=World.cells?_some B;rw[ci] at f;have g:=f 0 (by omega);rw[Nat.mul_one] at g;have m: ∀y:Addr,y.add 0=y:=fun y=> by simp[Addr.add]
    rw[m] at g;exact⟨x,g⟩
   obtain⟨ns,E,u⟩:=uD len C;subst E;simp only[Value.cells,eN,and_true] at e;refine⟨some a,cap,ns,e,hl,hm, ?_⟩;cases ns with
   |nil=> exact .inl rfl
   |cons t0 ts=>
    obtain⟨b,o,c⟩:=a;have k:b < w.heap.size/\c=none:=by
     have g:=u 0 (by simp);have m:(⟨b,o,c⟩:Addr).add 0=⟨b,o,c⟩:=by simp[Addr.add]
     rw[m] at g;exact⟨World.block_lt_of_cell? _ _ g,by simpa using World.cell?_spot g⟩
    obtain⟨k,rfl⟩:=k;refine .inr ⟨b,o,rfl,k,fun j q=> ?_⟩;have g:=u j q;rw[CD] at g;exact g
end
def Xq(f:Int):Int:=if f=1\/f=2\/f=4 then 2 else if f=3\/f=5\/f=6 then 1 else -1
def Wt(f:Int)(ns:List Int):Bool:=decide (Xq f=(ns.length:Int))&& ns.all (fun n=> kb n 0 20)
def iF(f:Int)(ns:List Int):Int×Bool:=
 if Wt f ns=true then
  match ns with
  | [a]=>(if f=3 then(if a=0 then 0 else a - 1) else if f=6 then 2*a else if a=0 then 1 else 0,true)
  | [a,b]=>(if f=1 then a+b else if f=2 then a*b else if a < b then 0 else a - b,true)
  |_=>(0,false)
 else(0,false)
theorem fw{f:Int}{ns:List Int}(h:Wt f ns=true):(∃a b,ns= [a,b]/\0<=a/\a<=20/\0<=b/\b<=20/\(f=1\/f=2\/f=4))\/(∃a,ns= [a]/\0<=a/\a<=20/\(f=3\/f=5\/f=6)):=by
 unfold Wt at h;rw[aW] at h;have d:=of_decide_eq_true h.1;have g:=h.2;rw[List.all_eq_true] at g;unfold Xq at d;by_cases i:f=1\/f=2\/f=4
 · rw[if_pos i] at d
   match ns,d with
   | [a,b],_=>
    have e:=Yf.1 (g a (by simp));have k:=Yf.1 (g b (by simp));exact .inl ⟨a,b,rfl,e.1,e.2,k.1,k.2,i⟩
   | [],d=> simp at d
   | [a],d=> simp at d
   |a::b::c::ts,d=> simp at d;omega
 · rw[if_neg i] at d
   by_cases j:f=3\/f=5\/f=6
   · rw[if_pos j] at d
     match ns,d with
     | [a],_=>
      have e:=Yf.1 (g a (by simp));exact .inr ⟨a,rfl,e.1,e.2,j⟩
     | [],d=> simp at d
     |a::b::ts,d=> simp at d;omega
   · rw[if_neg j] at d
     omega
end Go.Proofs.YtckhbnmfnpolgaaGreat
namespace Go.Proofs.YtckhbnmfnpolgaaGreat
open Go.RowKit
def pl(p:Tr->Bool):List Tr->Nat->Int
 | [],_=> -1
 |t::ts,j=> if p t=true then(j:Int) else pl p ts (j+1)
theorem NI(p:Tr->Bool): ∀(ts:List Tr) (j:Nat),decide (0<=pl p ts j)=ts.any p
 | [],j=> by simp[pl]
 |t::ts,j=> by
  unfold pl;cases h:p t
  · simp[h,NI p ts (j+1)]
  · simp[h]
theorem Qf(k:Int)(w:aK):aV prog 154 #[.int .i64 k] w fun e i=> e= .returned (.int .i64 (O0 k))/\w=i:=by
 by_cases h:1<=k/\k<=16
 · rcases(by omega:k=1\/k=2\/k=3\/k=4\/k=5\/k=6\/k=7\/k=8\/k=9\/k=10\/k=11\/k=12\/k=13\/k=14\/k=15\/k=16) with rfl|rfl|rfl|rfl|rfl|rfl|rfl|rfl|rfl|rfl|rfl|rfl|rfl|rfl|rfl|rfl
   all_goals
    go_enter func154,ntmps154;go_wp2_with fail;go_ret;exact⟨rfl,rfl⟩
 · have e:O0 k= -1:=by
    unfold O0
    repeat rw[if_neg (by omega)]
   have n:(k==1)=false:=by simp;omega
   have t:(k==2)=false:=by simp;omega
   have p:(k==3)=false:=by simp;omega
   have q:(k==4)=false:=by simp;omega
   have l:(k==5)=false:=by simp;omega
   have o:(k==6)=false:=by simp;omega
   have m:(k==7)=false:=by simp;omega
   have r:(k==8)=false:=by simp;omega
   have s:(k==9)=false:=by simp;omega
   have g:(k==10)=false:=by simp;omega
   have d:(k==11)=false:=by simp;omega
   have j:(k==12)=false:=by simp;omega
   have f:(k==13)=false:=by simp;omega
   have a:(k==14)=false:=by simp;omega
   have c:(k==15)=false:=by simp;omega
   have b:(k==16)=false:=by simp;omega
   have E:=hdq e;clear e h;go_enter func154,ntmps154;go_wp2_with fail;go_ret;exact⟨by rw[E.out];rfl,rfl⟩
theorem Pu(k:Int)(w:aK):aV prog 153 #[.int .i64 k] w fun e a=> e= .returned (.int .i64 (Ja k))/\w=a:=by
 by_cases h:1<=k/\k<=2
 · rcases(by omega:k=1\/k=2) with rfl|rfl
   all_goals
    go_enter func153,ntmps153;go_wp2_with fail;go_ret;exact⟨rfl,rfl⟩
 · have e:Ja k=0:=by
    unfold Ja
    repeat rw[if_neg (by omega)]
   have b:(k==1)=false:=by simp;omega
   have c:(k==2)=false:=by simp;omega
   have E:=hdq e;clear e h;go_enter func153,ntmps153;go_wp2_with fail;go_ret;exact⟨by rw[E.out];rfl,rfl⟩
def xH(t:Tr):Prop:= ∀(w:aK) (v:aS) (a:Int),Lies w t v-> -1<=a->a<=40->
 aV prog 113 #[v,.int .i64 a] w fun e b=> e= .returned (.bool (D0 m0 t a))/\Ext w b
theorem kG: ∀t:Tr,xH t:=Tr.ind fun k n c hk=> by
 intro w v a C ej iw;obtain⟨A,cap,rfl,hl,hc,h⟩:=Lies.mk_iff.1 C;clear C;have J:=hc;unfold aU at J;have e:D0 m0 (.mk k n c) a=(decide (1<=a)&&(decide (O0 k=(c.length:Int))&& kb n 0 (Ja k)&& m9 m0 c (a - 1))):=by
  unfold D0 li;rfl
 have E:=hdq e;clear e;by_cases S:a < 1
 · have g:D0 m0 (.mk k n c) a=false:=by
    rw[E.out];rw[decide_eq_false (by omega: ¬1<=a)];rfl
   replace E:=hdq g;clear g;have X:decide (a < 1)=true:=decide_eq_true S;go_enter func113,ntmps113;go_wp2_with fail;have l:=(xr w).alloc (.cells #[.int .i64 k,.int .i64 n,.slice A c.length cap] 25);have d:=(Td (xr (w.alloc (.cells #[.int .i64 k,.int .i64 n,.slice A c.length cap] 25)))).1;generalize w.alloc _=W at l d;obtain⟨u,s,q⟩:=q32.own3 d;have y:=hdq d;clear d;refine ll (by kernel_rfl) (by kernel_rfl) ?_
   repeat (go_big_quiet_step (first|(go_at_call 154;exact zd (Qf _ _)) |(go_at_call 153;exact zd (Pu _ _))))
   refine iS ?_;intro B f;obtain⟨⟨_,m⟩,rfl⟩:=f;clear u s q;have p:=l.trans m;go_wp2_with fail;go_ret;exact⟨by rw[E.out];rfl,p⟩
 have X:decide (a < 1)=false:=decide_eq_false S;by_cases F: ¬O0 k=(c.length:Int)
 · have g:D0 m0 (.mk k n c) a=false:=by
    rw[E.out];rw[decide_eq_false F];simp
   replace E:=hdq g;clear g;have d2:(O0 k !=(c.length:Int))=true:=by rw[bne_iff_ne];exact F
   go_enter func113,ntmps113;go_wp2_with fail;have l:=(xr w).alloc (.cells #[.int .i64 k,.int .i64 n,.slice A c.length cap] 25);have d:=(Td (xr (w.alloc (.cells #[.int .i64 k,.int .i64 n,.slice A c.length cap] 25)))).1;generalize w.alloc _=W at l d;obtain⟨u,s,q⟩:=q32.own3 d;have y:=hdq d;clear d;refine ll (by kernel_rfl) (by kernel_rfl) ?_
   repeat (go_big_quiet_step (first|(go_at_call 154;exact zd (Qf _ _)) |(go_at_call 153;exact zd (Pu _ _))))
   refine iS ?_;intro B f;obtain⟨⟨_,m⟩,rfl⟩:=f;clear u s q;have p:=l.trans m;go_wp2_with fail;go_ret;exact⟨by rw[E.out];rfl,p⟩
 have d2:(O0 k !=(c.length:Int))=false:=by simpa using F
 by_cases G:n < 0
 · have g:D0 m0 (.mk k n c) a=false:=by
    rw[E.out];rw[Qx.2 (.inl G)];simp
   replace E:=hdq g;clear g;have d3:decide (n < 0)=true:=decide_eq_true G;go_enter func113,ntmps113;go_wp2_with fail;have l:=(xr w).alloc (.cells #[.int .i64 k,.int .i64 n,.slice A c.length cap] 25);have d:=(Td (xr (w.alloc (.cells #[.int .i64 k,.int .i64 n,.slice A c.length cap] 25)))).1;generalize w.alloc _=W at l d;obtain⟨u,s,q⟩:=q32.own3 d;have y:=hdq d;clear d;refine ll (by kernel_rfl) (by kernel_rfl) ?_
   repeat (go_big_quiet_step (first|(go_at_call 154;exact zd (Qf _ _)) |(go_at_call 153;exact zd (Pu _ _))))
   refine iS ?_;intro B f;obtain⟨⟨_,m⟩,rfl⟩:=f;clear u s q;have p:=l.trans m;go_wp2_with fail;go_ret;exact⟨by rw[E.out];rfl,p⟩
 have d3:decide (n < 0)=false:=decide_eq_false G;by_cases K:Ja k < n
 · have g:D0 m0 (.mk k n c) a=false:=by
    rw[E.out];rw[Qx.2 (.inr K)];simp
   replace E:=hdq g;clear g;have Y:decide (Ja k < n)=true:=decide_eq_true K;go_enter func113,ntmps113;go_wp2_with fail;have l:=(xr w).alloc (.cells #[.int .i64 k,.int .i64 n,.slice A c.length cap] 25);have d:=(Td (xr (w.alloc (.cells #[.int .i64 k,.int .i64 n,.slice A c.length cap] 25)))).1;generalize w.alloc _=W at l d;obtain⟨u,s,q⟩:=q32.own3 d;have y:=hdq d;clear d;refine ll (by kernel_rfl) (by kernel_rfl) ?_
   repeat (go_big_quiet_step (first|(go_at_call 154;exact zd (Qf _ _)) |(go_at_call 153;exact zd (Pu _ _))))
   refine iS ?_;intro B f;obtain⟨⟨_,m⟩,rfl⟩:=f;clear u s q;have p:=l.trans m;go_wp2_with fail;go_ret;exact⟨by rw[E.out];rfl,p⟩
 have Y:decide (Ja k < n)=false:=decide_eq_false K;have hn:kb n 0 (Ja k)=true:=Yf.2 ⟨by omega,by omega⟩;have g:D0 m0 (.mk k n c) a=m9 m0 c (a - 1):=by
  rw[E.out,decide_eq_true (by omega:1<=a),decide_eq_true (by omega:O0 k=(c.length:Int)),hn];rfl
 replace E:=hdq g;clear g hn;go_enter func113,ntmps113;go_wp2_with fail;have l:=(xr w).alloc (.cells #[.int .i64 k,.int .i64 n,.slice A c.length cap] 25);have d:=(Td (xr (w.alloc (.cells #[.int .i64 k,.int .i64 n,.slice A c.length cap] 25)))).1;generalize w.alloc _=W at l d;obtain⟨u,s,q⟩:=q32.own3 d;have y:=hdq d;clear d;refine ll (by kernel_rfl) (by kernel_rfl) ?_
 repeat (go_big_quiet_step (first|(go_at_call 154;exact zd (Qf _ _)) |(go_at_call 153;exact zd (Pu _ _))))
 refine iS ?_;intro B f;obtain⟨⟨_,m⟩,rfl⟩:=f;clear u s q;have p:=l.trans m;obtain⟨V,R,N,-,-,-⟩:=own3 (m.blk y.out);have B3:=hdq (m.blk y.out);go_wp2_with fail;clear V R N
 go_loopw [5] (fun i wr=> ∃j:Nat,j<=c.length/\i= .int .i64 j/\m9 m0 c (a - 1)=m9 m0 (c.drop j) (a - 1)/\Ext B wr) (fun i _=> c.length -(intOf i).toNat)
 case atStart=> exact⟨0,bT _,rfl,rfl,xr _⟩
 case round=>
  obtain⟨j,hj,rfl,Q,hx⟩:=hrel;have L:=hdq Q;obtain⟨V,R,N,-,-,-⟩:=own3 (hx.blk B3.out);clear Q;by_cases z:j < c.length
  · obtain⟨b,o,M,O,A2,F4,kids,rfl,Z,c0,c1,c2,G7,G0,hK,C,d6⟩:=h.get (p.trans hx) z
    have I:=bX z;rw[Z.out] at I;have x:m9 m0 (c.drop j) (a - 1)=(D0 m0 (.mk M O kids) (a - 1)&& m9 m0 (c.drop (j+1)) (a - 1)):=by rw[I];conv=> lhs;unfold m9
    clear I;go_wp2_with fail;refine(hk _ d6 wr _ (a - 1) C (by omega) (by omega)).mono ?_;rintro e w4 ⟨rfl,U⟩;generalize D0 m0 (.mk M O kids) (a - 1)=r at x;have T:=hdq x;clear x;cases r with
    |false=>
     go_wp2_with fail;go_ret;exact⟨by rw[E.out,L.out,T.out];rfl,p.trans (hx.trans U)⟩
    |true=>
     go_wp2_with fail
     go_roundw
     case rel=> exact⟨j+1,by omega,by go_num,by rw[L.out,T.out];rfl,hx.trans U⟩
     case measure=> simp[intOf];omega
  · go_wp2_with fail
    go_ret;have D:c.drop j= []:=cR (by omega);exact⟨by rw[E.out,L.out,D];simp only[m9];rfl,p.trans hx⟩
def iH(t:Tr):Prop:= ∀(w:aK) (v:aS) (most:Int),Lies w t v->0<=most->most<=1000000->
 aV prog 114 #[v,.int .i64 most] w fun e a=> e= .returned (.int .i64 (Sb t most))/\Ext w a
theorem RE: ∀t:Tr,iH t:=Tr.ind fun k n a hk=> by
 intro w v most p M Z;obtain⟨A,cap,rfl,hl,hc,h⟩:=Lies.mk_iff.1 p;clear p;have s:=hc;unfold aU at s;have e:Sb (.mk k n a) most=We a most 1:=by unfold Sb;rfl
 have E:=hdq e;clear e;go_enter func114,ntmps114;go_wp2_with fail;have l:=(xr w).alloc (.cells #[.int .i64 k,.int .i64 n,.slice A a.length cap] 25);have D:=(Td (xr (w.alloc (.cells #[.int .i64 k,.int .i64 n,.slice A a.length cap] 25)))).1;generalize w.alloc _=W at l D;have K:=hdq D;clear D
 go_loopw [5,6] (fun q i wr=> ∃(j:Nat) (m:Int),j<=a.length/\i= .int .i64 j/\q= .int .i64 m/\1<=m/\m<=most+1/\We a most 1=We (a.drop j) most m/\Ext W wr) (fun _ i _=> a.length -(intOf i).toNat)
 case atStart=> exact⟨0,1,bT _,rfl,rfl,by omega,by omega,rfl,xr _⟩
 case round=>
  obtain⟨j,m,N,rfl,rfl,V,px,F,hx⟩:=hrel;have u:=hdq F;obtain⟨Y,z1,T,-,-,-⟩:=own3 (hx.blk K.out);clear F;by_cases f:j < a.length
  · have dl:decide ((j:Int) <(a.length:Int))=true:=decide_eq_true (by omega)
    obtain⟨b,o,x,z,Q,F4,kids,rfl,I,X,R,c2,O,S,hK,p,J⟩:=h.get (l.trans hx) f;have C:=bX f;rw[I.out] at C;have c:We (a.drop j) most m=if m<=most then We (a.drop (j+1)) most (m+Sb (.mk x z kids) (most - m)) else m:=by rw[C];conv=> lhs;unfold We
    clear C;by_cases d:m<=most
    · rw[if_pos d] at c
      have g:=hdq c;have L:decide (m<=most)=true:=decide_eq_true d;have y:=Ql (.mk x z kids) (most - m) (by omega);clear c;go_wp2_with fail;refine(hk _ J wr _ (most - m) p (by omega) (by omega)).mono ?_;rintro e U ⟨rfl,G⟩;generalize Sb (.mk x z kids) (most - m)=r at y g;go_wp2_with fail
      go_roundw
      case rel=> exact⟨j+1,m+r,by omega,by go_num,rfl,by omega,by omega,by rw[u.out,g.out],hx.trans G⟩
      case measure=> simp[intOf];omega
    · rw[if_neg d] at c
      have g:=hdq c;have L:decide (m<=most)=false:=decide_eq_false d;clear c;go_wp2_with fail;go_ret;exact⟨by rw[E.out,u.out,g.out];rfl,l.trans hx⟩
  · have dl:decide ((j:Int) <(a.length:Int))=false:=decide_eq_false (by omega)
    go_wp2_with fail;go_ret;have B:a.drop j= []:=cR (by omega);exact⟨by rw[E.out,u.out,B];simp only[We];rfl,l.trans hx⟩
theorem kr(t:Tr)(w:aK)(v:aS)(f:Lies w t v):aV prog 22 #[v] w fun e l=> e= .returned (.bool (j0 m0 t))/\Ext w l:=by
 obtain⟨k,n,a⟩:=t;obtain⟨A,cap,rfl,hl,hc,h⟩:=Lies.mk_iff.1 f;have hs:=(SF m0 (.mk k n a)).1;have i:=hdq hs;clear hs;go_enter func22,ntmps22;go_wp2_with fail;have d:=((xr w).alloc (.cells #[.int .i64 k,.int .i64 n,.slice A a.length cap] 25)).alloc (.cells #[.int .i64 0] 3);have c:=(W3 (xr ((w.alloc (.cells #[.int .i64 k,.int .i64 n,.slice A a.length cap] 25)).alloc (.cells #[.int .i64 0] 3)))).2.1;refine(CH (.mk k n a) _ w.heap.size _ _ 1 0 (InT.mono (fun _ h=> h) (fun b c=> d.heap b c) f) (by omega) c (by omega) (by omega) (by omega) (by omega)).mono ?_;rintro e j ⟨rfl,-,g⟩;have hx:Ext w j:=Below.trans d g;rw[i.out];go_wp2_with fail;go_ret;exact⟨rfl,hx⟩
theorem oi(t:Tr)(w:aK)(v:aS)(c:Lies w t v):aV prog 71 #[v] w fun e m=> e= .returned (.bool (j0 m0 t))/\Ext w m:=by
 have hv:=TE (g:=m0) (t:=t);have hm:=Ql t 400 (by omega);have hS:=fun W (b:Ext w W)=> kG t W v 30 (c.ext b) (by omega) (by omega)
 have f:=fun W (b:Ext w W)=> RE t W v 400 (c.ext b) (by omega) (by omega)
 have i:=hdq hS;have j:=hdq f;clear hS f;obtain⟨k,n,o⟩:=t;obtain⟨A,cap,rfl,hl,hc,h⟩:=Lies.mk_iff.1 c;go_enter func71,ntmps71;go_wp2_with fail;refine(i.out _ ((xr w).alloc _)).mono ?_;rintro e r ⟨rfl,a⟩;obtain⟨p,u,x,-,-,-⟩:=own3 a.newBlk;generalize D0 m0 (.mk k n o) 30=s at hv;cases s with
 |false=>
  have d:=hdq hv;clear hv hm;go_wp2_with fail;go_ret;exact⟨by rw[d.out];rfl,a.pre⟩
 |true=>
  have d:=hdq hv;clear hv hm;go_wp2_with fail;refine(j.out _ a.pre).mono ?_;rintro e q ⟨rfl,l⟩;go_wp2_with fail
  all_goals go_ret
  all_goals exact⟨by rw[d.out];simp[*],a.pre.trans l⟩
theorem Zw{g:Oc}: ∀{a:List Tr} {d:Int} {t:Tr},m9 g a d=true->t∈a->D0 g t d=true
 |x::a,d,t,h,hm=> by
  simp only[m9,aW] at h;rcases List.mem_cons.1 hm with rfl|hm
  · exact h.1
  · exact Zw h.2 hm
theorem Qu{g:Oc}{k n:Int}{a:List Tr}{d:Int}(h:D0 g (.mk k n a) d=true):g.ops k=(a.length:Int)/\0<=n/\n<=g.most k/\ ∀t∈a,D0 g t (d - 1)=true:=by
 simp only[D0,li,aW] at h;have c:=of_decide_eq_true h.2.1.1;have b:=Yf.1 h.2.1.2;exact⟨c,b.1,b.2,fun t ht=> Zw h.2.2 ht⟩
theorem Ext.below{W a w:aK}(h:Ext a w)(d:W.heap.size<=a.heap.size):Below W.heap.size a w:=⟨h.os,h.tape,h.output,h.size,fun b c=> h.heap b (aX c d)⟩
theorem Ext.trans'{W a b c:aK}(h:Ext a b)(k:Below W.heap.size b c)(d:a.heap.size<=W.heap.size):Ext a c:=Below.trans h (Below.mono k d)
theorem P0.three'{w a:aK}{e:aY}{t:Tr}{u:aS}(h:P0 w a e t u): ∃k n A l c,u= .agg #[.int .i64 k,.int .i64 n,.slice A l c]:=by
 obtain⟨k,n,b⟩:=t;obtain⟨A,cap,rfl,_⟩:=P0.mk_iff.1 h;exact⟨k,n,A,_,cap,rfl⟩
attribute [local go_sem ↓] Go.wp_at_zero Go.wp_at_succ
