/- Lemmas towards the law. -/
import Derived.Test.YtckhbnmfnpolgaaGreatTAF
import Derived.Deep.DrawnRows
import Derived.Deep.RegionLaw
open Go renaming World->aN,Value->aU,Calls->aY,maxLen->aW,wpQuiet_nil->jW,TypeId->bU
open Nat renaming zero_le->cO,le_refl->aP,lt_of_lt_of_le->aZ
open List renaming drop_eq_getElem_cons->cP,drop_of_length_le->dM,getElem?_append_right->gQ,eq_nil_of_length_eq_zero->bW
open List.cons renaming injEq->eY
open Bool renaming and_eq_true->aX
open Go.Proofs.Tryz
set_option linter.all false
set_option maxHeartbeats 1600000
set_option maxRecDepth 100000
namespace Go.Proofs.YtckhbnmfnpolgaaGreat
open Go.RowKit
def WG(t:Tr):Prop:= ∀(w:aN) (B g:Nat) (v:aU) (deep c:Int),InT w (fun b=> b < B) t v->B<=g->w.heap[g]? =some (.cells #[.int .i64 c] 3 (0,0))->0<=c->c<=400->0<=deep->deep<=40->
 aY prog 65 #[v,.int .i64 deep,.pointer (some ⟨g,0,none⟩)] w fun e a=> e= .returned (.bool (Td sigT t deep c).1)/\a.heap[g]? =some (.cells #[.int .i64 (Td sigT t deep c).2] 3 (0,0))/\Below B w a
theorem y145: ∀t:Tr,WG t:=Tr.ind fun k n m hk=> by
 intro w B g v deep c d6 Z a hc0 hc1 fo lp;obtain⟨A,cap,rfl,hl,hc,h⟩:=InT.mk_iff.1 d6;clear d6;have hc':=hc;unfold aW at hc';have hgs:=D1 a;have Q:w.cell? ⟨g,0,none⟩=some (j0 c):=E1 a 0;have T:=mc a 0;have e:Td sigT (.mk k n m) deep c=if 400 < c+1 then(false,c+1) else if 30 < deep then(false,c+1) else if S0 k=(m.length:Int) then(if ac n 0 (Za k)=true then rf sigT m (deep+1) (c+1) else(false,c+1)) else(false,c+1):=by
  unfold Td;rfl
 have E:=hdq e;have HB:=hdq a;have hW: ∀W,W=(w.setCell ⟨g,0,none⟩ (j0 (c+1))).alloc (D0 k n A m.length cap)->W.heap[g]? =some (.cells #[j0 (c+1)] 3 (0,0))/\W.heap[w.heap.size]? =some (D0 k n A m.length cap)/\Below B w W/\w.heap.size < W.heap.size:=by
  rintro W rfl;have e0:=heap_alloc_new (w.setCell ⟨g,0,none⟩ (j0 (c+1))) (D0 k n A m.length cap);rw[World.size_setCell] at e0;exact⟨bI (b6 HB.out 0 _) _,e0,((Below.refl B w).setCell Z _).alloc (by simp;omega) _,by simp⟩
 have Y:=hdq hW;clear hW e;by_cases a1:400 < c+1
 · rw[if_pos a1] at E
   have d1:decide (400 < c+1)=true:=decide_eq_true a1;go_enter func65,ntmps65;go_wp2_with fail;have u:=Y.out _ rfl;generalize (w.setCell _ _).alloc _=W at u;obtain⟨l,f,F,b4⟩:=u;obtain⟨K,G,D⟩:=q33.own3 f;have I: ∀y:q33 W,y.world.cell? ⟨g,0,none⟩=some (j0 (c+1)):=fun y=> q33.cell (E1 l 0) y
   have J:=hdq l;have V:=hdq f;clear f l Q T a;refine Hm (by kernel_rfl) (by kernel_rfl) ?_
   repeat (go_big_quiet_step (first|(go_at_call 108;exact TE (fB _ _)) |(go_at_call 51;exact Be (dj _ _ _ _)) |(go_at_call 109;exact Be (ND _ _))))
   refine jW ?_;intro X d;obtain⟨⟨_,s⟩,rfl⟩:=d;clear K G D I;go_wp2_with fail;go_ret;exact⟨by rw[E.out];rfl,by rw[E.out];exact s.blk J.out,F.trans (s.mono (by omega))⟩
 rw[if_neg a1] at E;have d1:decide (400 < c+1)=false:=decide_eq_false a1;by_cases a2:30 < deep
 · rw[if_pos a2] at E
   have d2:decide (30 < deep)=true:=decide_eq_true a2;go_enter func65,ntmps65;go_wp2_with fail;have u:=Y.out _ rfl;generalize (w.setCell _ _).alloc _=W at u;obtain⟨l,f,F,b4⟩:=u;obtain⟨K,G,D⟩:=q33.own3 f;have I: ∀y:q33 W,y.world.cell? ⟨g,0,none⟩=some (j0 (c+1)):=fun y=> q33.cell (E1 l 0) y
   have J:=hdq l;have V:=hdq f;clear f l Q T a;refine Hm (by kernel_rfl) (by kernel_rfl) ?_
   repeat (go_big_quiet_step (first|(go_at_call 108;exact TE (fB _ _)) |(go_at_call 51;exact Be (dj _ _ _ _)) |(go_at_call 109;exact Be (ND _ _))))
   refine jW ?_;intro X d;obtain⟨⟨_,s⟩,rfl⟩:=d;clear K G D I;go_wp2_with fail;go_ret;exact⟨by rw[E.out];rfl,by rw[E.out];exact s.blk J.out,F.trans (s.mono (by omega))⟩
 rw[if_neg a2] at E;have d2:decide (30 < deep)=false:=decide_eq_false a2;by_cases M:S0 k=(m.length:Int)
 · rw[if_pos M] at E
   have d3:(S0 k !=(m.length:Int))=false:=by rw[M];simp
   clear M;obtain⟨z,hz⟩: ∃z,ac n 0 (Za k)=z:=⟨_,rfl⟩;cases z with
   |false=>
    rw[hz,if_neg (by decide)] at E;go_enter func65,ntmps65;go_wp2_with fail;have u:=Y.out _ rfl;generalize (w.setCell _ _).alloc _=W at u;obtain⟨l,f,F,b4⟩:=u;obtain⟨K,G,D⟩:=q33.own3 f;have I: ∀y:q33 W,y.world.cell? ⟨g,0,none⟩=some (j0 (c+1)):=fun y=> q33.cell (E1 l 0) y
    have J:=hdq l;have V:=hdq f;clear f l Q T a;refine Hm (by kernel_rfl) (by kernel_rfl) ?_
    repeat (go_big_quiet_step (first|(go_at_call 108;exact TE (fB _ _)) |(go_at_call 51;exact Be (dj _ _ _ _)) |(go_at_call 109;exact Be (ND _ _))))
    refine jW ?_;intro X d;obtain⟨⟨_,s⟩,rfl⟩:=d;clear K G D I;go_wp2_with fail;go_ret;exact⟨by rw[E.out];rfl,by rw[E.out];exact s.blk J.out,F.trans (s.mono (by omega))⟩
   |true=>
    rw[hz,if_pos rfl] at E;go_enter func65,ntmps65;go_wp2_with fail;have u:=Y.out _ rfl;generalize (w.setCell _ _).alloc _=W at u;obtain⟨l,f,F,b4⟩:=u;obtain⟨K,G,D⟩:=q33.own3 f;have I: ∀y:q33 W,y.world.cell? ⟨g,0,none⟩=some (j0 (c+1)):=fun y=> q33.cell (E1 l 0) y
    have J:=hdq l;have V:=hdq f;clear f l Q T a;refine Hm (by kernel_rfl) (by kernel_rfl) ?_
    repeat (go_big_quiet_step (first|(go_at_call 108;exact TE (fB _ _)) |(go_at_call 51;exact Be (dj _ _ _ _)) |(go_at_call 109;exact Be (ND _ _))))
    refine jW ?_;intro X d;obtain⟨⟨_,s⟩,rfl⟩:=d;clear K G D I;clear hz;obtain⟨z0,z1,z2,-,-,-⟩:=own3 (s.blk V.out);have R:=s.blk J.out;have Cb:Below B w X:=F.trans (s.mono (by omega));have B4:=hdq R;clear R;go_wp2_with fail;clear z0 z1 z2
    go_loopw [43] (fun i wr=> ∃(j:Nat) (q:Int),j<=m.length/\i= j0 j/\wr.heap[g]? =some (.cells #[j0 q] 3 (0,0))/\0<=q/\q<=400/\Below B w wr/\rf sigT m (deep+1) (c+1)=rf sigT (m.drop j) (deep+1) q) (fun i _=> m.length -(intOf i).toNat)
    case atStart=> exact⟨0,c+1,cO _,rfl,B4.out,by omega,by omega,Cb,rfl⟩
    case round=>
     obtain⟨j,q,hj,rfl,a,np,uh,yv,U9⟩:=hrel;have U:=hdq U9;clear U9;by_cases S:j < m.length
     · obtain⟨b,o,N,O,A2,G5,kids,rfl,HK,c0,c1,c2,I7,I6,hK,d6,i7,sr⟩:=h.get (fun x hx=> yv.block x hx) S
       have j7:=cP S;rw[HK.out] at j7;have p:rf sigT (m.drop j) (deep+1) q=if(Td sigT (.mk N O kids) (deep+1) q).1=true then rf sigT (m.drop (j+1)) (deep+1) (Td sigT (.mk N O kids) (deep+1) q).2 else(false,(Td sigT (.mk N O kids) (deep+1) q).2):=by rw[j7];conv=> lhs;unfold rf
       have C:=aG sigT (.mk N O kids) (deep+1) q np uh;have yi:=hdq a;have hgwr:=D1 a;clear a j7;go_wp2_with fail;have C0:=(xr wr).alloc (D0 N O A2 kids.length G5);have Gc:B<=wr.heap.size:=by omega
       refine(hk _ i7 _ B g _ (deep+1) q (d6.mono (fun _ h=> h) (fun x hx=> C0.heap x (by omega))) Z (C0.blk yi.out) np uh (by omega) (by omega)).mono ?_;rintro e w4 ⟨rfl,L,h5⟩;have sw:Below B w w4:=yv.trans ((Below.mono C0 Gc).trans h5);generalize Td sigT (.mk N O kids) (deep+1) q=r at p C L;obtain⟨r1,r2⟩:=r
       dsimp only at p C L
       cases r1 with
       |false=>
        rw[if_neg (by decide)] at p;have HT:=hdq p;have H4:=hdq L;clear p L C;go_wp2_with fail;go_ret;exact⟨by rw[E.out,U.out,HT.out];rfl,by rw[E.out,U.out,HT.out];exact H4.out,sw⟩
       |true=>
        rw[if_pos rfl] at p;have HT:=hdq p;have H4:=hdq L;have hr2:=C.2.2.2.2 rfl;have hr3:=C.2.2.1;clear p L C;go_wp2_with fail
        go_roundw
        case rel=> exact⟨j+1,r2,by omega,by go_num,H4.out,by omega,hr2,sw,by rw[U.out,HT.out]⟩
        case measure=> simp[intOf];omega
     · have yi:=hdq a
       clear a;go_wp2_with fail;go_ret;have hjk:m.drop j= []:=dM (by omega);exact⟨by rw[E.out,U.out,hjk];rfl,by rw[E.out,U.out,hjk];exact yi.out,yv⟩
 · rw[if_neg M] at E
   have d3:(S0 k !=(m.length:Int))=true:=by rw[bne_iff_ne];exact M
   clear M;go_enter func65,ntmps65;go_wp2_with fail;have u:=Y.out _ rfl;generalize (w.setCell _ _).alloc _=W at u;obtain⟨l,f,F,b4⟩:=u;obtain⟨K,G,D⟩:=q33.own3 f;have I: ∀y:q33 W,y.world.cell? ⟨g,0,none⟩=some (j0 (c+1)):=fun y=> q33.cell (E1 l 0) y
   have J:=hdq l;have V:=hdq f;clear f l Q T a;refine Hm (by kernel_rfl) (by kernel_rfl) ?_
   repeat (go_big_quiet_step (first|(go_at_call 108;exact TE (fB _ _)) |(go_at_call 51;exact Be (dj _ _ _ _)) |(go_at_call 109;exact Be (ND _ _))))
   refine jW ?_;intro X d;obtain⟨⟨_,s⟩,rfl⟩:=d;clear K G D I;go_wp2_with fail;go_ret;exact⟨by rw[E.out];rfl,by rw[E.out];exact s.blk J.out,F.trans (s.mono (by omega))⟩
def W1(w:aN)(S:Nat->Prop):List aU->List Tr->Prop
 |_, []=> True
 |xs,t::ts=> ∃v0 v1 v2 rest,xs=v0::v1::v2::rest/\InT w S t (.agg #[v0,v1,v2])/\W1 w S rest ts
theorem W1.cons_iff{w:aN}{S:Nat->Prop}{a:List aU}{t:Tr}{ts:List Tr}:W1 w S a (t::ts)↔ ∃v0 v1 v2 rest,a=v0::v1::v2::rest/\InT w S t (.agg #[v0,v1,v2])/\W1 w S rest ts:=by
 conv=> lhs;unfold W1
theorem W1.nil{w:aN}{S:Nat->Prop}{a:List aU}:W1 w S a []:=by unfold W1;trivial
theorem W1.mono{w w':aN}{S S':Nat->Prop}(hS: ∀b,S b->S' b)(c: ∀b,S b->w'.heap[b]? =w.heap[b]?): ∀{a:List aU} {d:List Tr},W1 w S a d->W1 w' S' a d
 |_, [],_=> W1.nil
 |a,t::ts,h=> by
  obtain⟨v0,v1,v2,rest,rfl,f,e⟩:=W1.cons_iff.1 h;exact W1.cons_iff.2 ⟨v0,v1,v2,rest,rfl,f.mono hS c,W1.mono hS c e⟩
theorem W1.inL{w:aN}{S:Nat->Prop}{b:Nat}{cs:Array aU}{e:bU}(c:w.heap[b]? =some (.cells cs e (0,0))): ∀{xs pre:List aU} {d:List Tr},W1 w S xs d->cs.toList=pre++xs->d5 w S b pre.length d
 |_,_, [],_,_=> by unfold d5;trivial
 |xs,pre,t::ts,h,a=> by
  obtain⟨v0,v1,v2,rest,rfl,g,f⟩:=W1.cons_iff.1 h;unfold d5;have hc: ∀i,w.cell? ⟨b,i,none⟩=cs.toList[i]? :=fun i=> by rw[E1 c];simp
  refine⟨⟨v0,v1,v2, ?_, ?_, ?_,g⟩, ?_⟩
  · rw[hc,a,gQ (aP _)];simp
  · rw[hc,a,gQ (by omega)];simp
  · rw[hc,a,gQ (by omega)];simp
  · have:=W1.inL c (pre:=pre++ [v0,v1,v2]) f (by simp[a])
    simpa using this
theorem d5.rowL{w:aN}{S:Nat->Prop}{b:Nat}: ∀{o:Nat} {d:List Tr},d5 w S b o d-> ∃c:List aU,c.length=d.length*3/\(∀j u,c[j]? =some u->w.cell? ⟨b,o+j,none⟩=some u)/\(∀u∈c,u.oneCell'=true)/\W1 w S c d
 |o, [],_=>⟨[],rfl,(fun j u h=> by simp at h),(fun u h=> by simp at h),W1.nil⟩
 |o,t::ts,h=> by
  unfold d5 at h;obtain⟨⟨v0,v1,v2,l,e,q,ht⟩,i⟩:=h;obtain⟨c,g,f,p,m⟩:=d5.rowL i;refine⟨v0::v1::v2::c,by simp[g];omega,fun j u a=> ?_,fun u a=> ?_,W1.cons_iff.2 ⟨v0,v1,v2,c,rfl,ht,m⟩⟩
  · match j,a with
    |0,a=> simpa using(by simpa using a:v0=u)▸l
    |1,a=> simpa using(by simpa using a:v1=u)▸e
    |2,a=> simpa using(by simpa using a:v2=u)▸q
    |j+3,a=>
     have:=f j u (by simpa using a)
     rwa [show o+3+j=o+(j+3) by omega] at this
  · obtain⟨k,n,kids⟩:=t
    obtain⟨A,cap,hv,_⟩:=InT.mk_iff.1 ht;simp only[Value.agg.injEq,Array.mk.injEq,eY,and_true] at hv;obtain⟨rfl,rfl,rfl⟩:=hv;simp only[List.mem_cons] at a;rcases a with rfl|rfl|rfl|a
    · rfl
    · rfl
    · rfl
    · exact p u a
theorem W1.snoc{w:aN}{S:Nat->Prop}{t:Tr}{v0 v1 v2:aU}(ht:InT w S t (.agg #[v0,v1,v2]))(tail:List aU): ∀{a:List aU} {b:List Tr},a.length=b.length*3->W1 w S a b->W1 w S (a++v0::v1::v2::tail) (b++ [t])
 |a, [],hx,h=> by
  have c:a= []:=bW (by simpa using hx);subst c;exact W1.cons_iff.2 ⟨v0,v1,v2,tail,rfl,ht,W1.nil⟩
 |a,x::b,hx,h=> by
  obtain⟨g,d,f,rest,rfl,i,e⟩:=W1.cons_iff.1 h;exact W1.cons_iff.2 ⟨g,d,f,_,rfl,i,W1.snoc ht tail (by simp only[List.length_cons] at hx;omega) e⟩
theorem W1.tail{w:aN}{S:Nat->Prop}(tail:List aU): ∀{a:List aU} {b:List Tr},W1 w S a b->W1 w S (a++tail) b
 |a, [],h=> W1.nil
 |a,x::b,h=> by
  obtain⟨e,g,d,rest,rfl,f,c⟩:=W1.cons_iff.1 h;exact W1.cons_iff.2 ⟨e,g,d,_,rfl,f,W1.tail tail c⟩
theorem W1.set{w:aN}{S:Nat->Prop}{t:Tr}{v0 v1 v2:aU}(ht:InT w S t (.agg #[v0,v1,v2])): ∀{a:List aU} {b:List Tr} (i:Nat),W1 w S a b->W1 w S (((a.set (i*3) v0).set (i*3+1) v1).set (i*3+2) v2) (b.set i t)
 |a, [],i,h=> by simpa using W1.nil
 |a,x::b,0,h=> by
  obtain⟨f,d,e,rest,rfl,g,c⟩:=W1.cons_iff.1 h;exact W1.cons_iff.2 ⟨v0,v1,v2,rest,by simp,ht,c⟩
 |a,x::b,i+1,h=> by
  obtain⟨f,d,e,rest,rfl,g,c⟩:=W1.cons_iff.1 h;refine W1.cons_iff.2 ⟨f,d,e,_, ?_,g,W1.set ht i c⟩;rw[show(i+1)*3=i*3+1+1+1 by omega,show i*3+1+1+1+1=i*3+1+1+1+1 from rfl,show i*3+1+1+1+2=i*3+2+1+1+1 by omega];simp
def ja(X:Nat->Prop)(W w:aN)(e:bU)(v:aU)(ks:List Tr):Prop:=
 ∃a,w.ownsRow W.heap.size e 3 v ks.length a/\W1 w (fun b=> b < w.heap.size/\v.ownBlock≠some b/\ ¬X b) a ks
theorem ja.nil(X:Nat->Prop)(W w:aN)(e:bU):ja X W w e (.slice none 0 0) []:=⟨[],World.ownsRow_nil _ _ _ _,W1.nil⟩
theorem ja.lit{X:Nat->Prop}{W w:aN}{e:bU}{g:Nat}(b:w.heap[g]? =some (.cells #[] e (0,0)))(a:W.heap.size<=g):ja X W w e (.slice (some ⟨g,0,none⟩) 0 0) []:=
 ⟨[],⟨rfl,.inr ⟨g,0,#[],rfl,a,b,aP _,cO _,rfl,rfl⟩⟩,W1.nil⟩
theorem ja.only{X:Nat->Prop}{W w f:aN}{e:bU}{v:aU}{j:List Tr}{L:List Nat}(h:ja X W w e v j)(c:i1 L w f)(k: ∀b,b∈L->X b)(n: ∀b,X b->b < W.heap.size):ja X W f e v j:=by
 obtain⟨l,d,m⟩:=h;refine⟨l,xA d (fun g i=> c.block g (d.lt g i).2 (fun hm=> by have:=n g (k g hm);have:=(d.lt g i).1;omega)),m.mono (fun b a=>⟨aZ a.1 c.size,a.2.1,a.2.2⟩) (fun b a=> c.block b a.1 (fun hm=> a.2.2 (k b hm)))⟩
theorem ja.ext{X:Nat->Prop}{W w d:aN}{e:bU}{v:aU}{ks:List Tr}(h:ja X W w e v ks)(c:Ext w d):ja X W d e v ks:=by
 obtain⟨i,f,j⟩:=h;exact⟨i,xA f (fun g k=> c.heap g (f.lt g k).2),j.mono (fun b a=>⟨aZ a.1 c.size,a.2.1,a.2.2⟩) (fun b a=> c.heap b a.1)⟩
theorem ja.lies{X:Nat->Prop}{W w:aN}{e:bU}{v:aU}{a:List Tr}(h:ja X W w e v a)(o: ∀b,X b->b < W.heap.size): ∃A cap,v= .slice A a.length cap/\a.length<=cap/\cap<=aW/\InK w (fun b=> b < w.heap.size/\ ¬X b) A a/\(a= []\/ ∃g,A=some ⟨g,0,none⟩/\W.heap.size<=g):=by
 obtain⟨q,p,l⟩:=h;rcases p.2 with⟨rfl,n⟩ |⟨g,cap,d,rfl,c,j,k,f,m,ht⟩
 · have:a= []:=bW n
   subst this;exact⟨none,0,rfl,aP _,cO _,.inl rfl,.inl rfl⟩
 · refine⟨_,cap,rfl,k,f,.inr ⟨g,0,rfl,⟨D1 j,fun hm=> by have:=o g hm;omega⟩, ?_⟩,.inr ⟨g,rfl,c⟩⟩
   have i:=W1.tail (d.toList.drop (a.length*3)) (l.mono (S':=fun b=> b < w.heap.size/\ ¬X b) (fun b c=>⟨c.1,c.2.2⟩) (fun _ _=> rfl));rw[<-ht,List.take_append_drop] at i;exact W1.inL j (pre:= []) i (by simp)
theorem kC{w:aN}{S:Nat->Prop}{t:Tr}{v0 v1 v2:aU}(h:InT w S t (.agg #[v0,v1,v2])): ∀u∈ [v0,v1,v2],u.oneCell'=true:=by
 obtain⟨k,n,b⟩:=t;obtain⟨A,cap,hv,_⟩:=InT.mk_iff.1 h;simp only[Value.agg.injEq,Array.mk.injEq,eY,and_true] at hv;obtain⟨rfl,rfl,rfl⟩:=hv;intro u a;simp only[List.mem_cons,List.not_mem_nil,or_false] at a;rcases a with rfl|rfl|rfl <;> rfl
theorem By{P:Program}(w:aN){o:Oper}{a:Act}{K:Act->aN->Prop}{Q:Exit->Act->aN->Prop}(s x:Operand)(t:bU)
 (C:o.op= .call {callee:= .builtin .append,args:=#[s,x],argTypes:=#[t,t]})
 (e:bU) (i:TypeInfo) (z:aU) (ht:P.underlying t=some (.slice e)) (hi:P.info? e=some i) (A:i.zero=some z) (g:i.size=3) (r:i.bytes=40) (p:z.cells.size=3)
 {X:Nat->Prop} {W:aN} {v:aU} {l:List Tr} {tr:Tr} {v0 v1 v2:aU} {n:Nat} (hs:a.eval s=v) (hG:ja X W w e v l) (G:W.heap.size<=w.heap.size)
 (hT:InT w (fun b=> b < w.heap.size/\v.ownBlock≠some b/\ ¬X b) tr (.agg #[v0,v1,v2]))
 (hx:a.eval x= .slice (some ⟨n,0,none⟩) 1 1) (m:w.heap[n]? =some (.cells #[v0,v1,v2] e (0,0))) (hn:l.length < 1099511627776)
 (h: ∀j c,ja X W c e j (l++ [tr])->Below W.heap.size w c->K (a.put o.dst j) c) (L: ∀b,X b->b < W.heap.size):o.wp P a w K Q:=by
 obtain⟨D,q,F⟩:=hG;obtain⟨j,c,hr,E,f,I⟩:=Oo (P:=P) w W.heap.size t o.type e i z 3 40 ht hi A g r p (by decide) v l.length D q ⟨n,0,none⟩ 1 1 [v0,v1,v2] rfl (SF m) (kC hT) (by unfold aW;omega) (by omega) G;have J:Below W.heap.size w c:=⟨f.os,f.tape,f.output,f.size,fun b d=> f.block b (by omega) (fun k=> by have:=(q.lt b k.symm).1;omega)⟩;have hS: ∀b,b < w.heap.size/\v.ownBlock≠some b/\ ¬X b->b < c.heap.size/\j.ownBlock≠some b/\ ¬X b:=fun b d=> by
  refine⟨aZ d.1 f.size,fun k=> ?_,d.2.2⟩;rcases I b k with y|y
  · exact d.2.1 y
  · omega
 have u: ∀b,b < w.heap.size/\v.ownBlock≠some b/\ ¬X b->c.heap[b]? =w.heap[b]? :=fun b d=> f.block b d.1 (fun k=> d.2.1 k.symm)
 have B:ja X W c e j (l++ [tr]):=⟨_,by simpa using E,W1.snoc (hT.mono hS u) [] q.1 (F.mono hS u)⟩;unfold Oper.wp execOp;simp only[C,resolve,invoke,builtin,Sem.run_bind,Sem.run_pure,Result.andThen_ok,List.map_toArray,List.map_cons,List.map_nil,hs,hx,hr];exact h j c B J
theorem JF{P:Program}(w:aN){ops:Array Oper}{rest:List Oper}{o:Oper}{a:Act}{Q:Exit->Act->aN->Prop}(l:o.guard=none)(s x:Operand)(t:bU)
 (q:o.op= .call {callee:= .builtin .append,args:=#[s,x],argTypes:=#[t,t]})
 (e:bU) (i:TypeInfo) (z:aU) (ht:P.underlying t=some (.slice e)) (hi:P.info? e=some i) (p:i.zero=some z) (c:i.size=3) (m:i.bytes=40) (k:z.cells.size=3)
 {X:Nat->Prop} {W:aN} {v:aU} {j:List Tr} {tr:Tr} {v0 v1 v2:aU} {n:Nat} (hs:a.eval s=v) (hG:ja X W w e v j) (u:W.heap.size<=w.heap.size)
 (hT:InT w (fun b=> b < w.heap.size/\v.ownBlock≠some b/\ ¬X b) tr (.agg #[v0,v1,v2]))
 (hx:a.eval x= .slice (some ⟨n,0,none⟩) 1 1) (g:w.heap[n]? =some (.cells #[v0,v1,v2] e (0,0))) (hn:j.length < 1099511627776)
 (h: ∀f d,ja X W d e f (j++ [tr])->Below W.heap.size w d->wpList P ops Q rest (a.put o.dst f) d) (A: ∀b,X b->b < W.heap.size):wpList P ops Q (o::rest) a w:=
 wpList_plain l fun K hK=> By w s x t q e i z ht hi p c m k hs hG u hT hx g hn (fun f d y r=> hK _ _ (h f d y r)) A
theorem XK{P:Program}(w:aN){ops:Array Oper}{o:Oper}{a:Act}{K:Act->aN->Prop}{Q:Exit->Act->aN->Prop}{E:Prop}(k:o.guard=none)(s x:Operand)(t:bU)
 (r:o.op= .call {callee:= .builtin .append,args:=#[s,x],argTypes:=#[t,t]})
 (e:bU) (i:TypeInfo) (z:aU) (ht:P.underlying t=some (.slice e)) (hi:P.info? e=some i) (p:i.zero=some z) (c:i.size=3) (l:i.bytes=40) (j:z.cells.size=3)
 {X:Nat->Prop} {W:aN} {v:aU} {g:List Tr} {tr:Tr} {v0 v1 v2:aU} {m:Nat} (hs:a.eval s=v) (hG:ja X W w e v g) (u:W.heap.size<=w.heap.size)
 (hT:InT w (fun b=> b < w.heap.size/\v.ownBlock≠some b/\ ¬X b) tr (.agg #[v0,v1,v2]))
 (hx:a.eval x= .slice (some ⟨m,0,none⟩) 1 1) (d:w.heap[m]? =some (.cells #[v0,v1,v2] e (0,0))) (hn:g.length < 1099511627776)
 (h: ∀n f,ja X W f e n (g++ [tr])->Below W.heap.size w f->K (a.put o.dst n) f) (y: ∀b,X b->b < W.heap.size):
 if Region.wanted o (yielded ops a.tmps)=true then Oper.wp P o a w K Q else E:=by
 have q:Region.wanted o (yielded ops a.tmps)=true:=by simp[Region.wanted,k]
 rw[if_pos q];exact By w s x t r e i z ht hi p c l j hs hG u hT hx d hn h y
theorem W0.inT{w a:aN}{e:bU}{t:Tr}{v:aU}(h:W0 w a e t v):InT a (fun b=> w.heap.size<=b/\b < a.heap.size) t v:=by
 obtain⟨L,h,hf⟩:=h;exact InT.mono (fun b c=> hf.2 b c) (fun _ _=> rfl) h.inT
end Go.Proofs.YtckhbnmfnpolgaaGreat
namespace Go.Proofs.YtckhbnmfnpolgaaGreat
open Go.RowKit Go.ChangeShapes Go.WideShapes Go.Deep
def Xb(w:aN)(A:Option Addr)(ns:List Int):Prop:=ns= []\/ ∃b o,A=some ⟨b,o,none⟩/\b < w.heap.size/\ ∀j (h:j < ns.length),w.cell? ⟨b,o+j,none⟩=some (.int .i64 ns[j])
theorem Xb.ext{w a:aN}{A:Option Addr}{ns:List Int}(h:Xb w A ns)(c:Ext w a):Xb a A ns:=by
 rcases h with h|⟨b,o,rfl,e,hc⟩
 · exact .inl h
 · exact .inr ⟨b,o,rfl,aZ e c.size,fun j d=> c.cell (hc j d)⟩
theorem Xb.get{w c:aN}{A:Option Addr}{ns:List Int}(h:Xb w A ns)(d:Ext w c){j:Nat}(a:j < ns.length): ∃b o,A=some ⟨b,o,none⟩/\c.cell? ⟨b,o+j,none⟩=some (j0 ns[j]):=by
 rcases h with rfl|⟨b,o,rfl,e,hc⟩
 · exact absurd a (by simp)
 · exact⟨b,o,rfl,d.cell (hc j a)⟩
theorem At.nums{w:aN}{A:Option Addr}{ns:List Int}(h:Xb w A ns):At w (fun a=> Xb a A ns):=fun _ hx=> h.ext hx
section
variable {H : Type} {enc : bU × aU → H} {P : Program} {w : aN} {spare : Nat → Bool} {held : Bool}
theorem dA{s i:bU}(hs:P.underlying s=some (.slice i))(hi:P.underlying i=some (.int .i64))(ci:P.cellsOf i=1){r:Reach}{F:Nat}{v:aU}{d:DataW H}{p:List MemPlace}(hv:Value.okWide P w r F s v)(h:DataW.Trod enc P w 0 spare held s v d p):
 ∃(A:Option Addr) (cap:Nat) (ns:List Int),v= .slice A ns.length cap/\ns.length<=cap/\cap<=aW/\Xb w A ns:=by
 obtain⟨K,J,L,rfl⟩:=okWide_slice hs hv;obtain⟨fuel,hf⟩:=h;rcases DataW.trod_slice hs hf with⟨e,_⟩ |⟨a,len,cap,t,rest,n,rfl,e,_,_,hl,hm,u,C,_,_⟩
 · simp only[Value.cells,eY,and_true] at e
   exact⟨none,0, [],e,aP _,cO _,.inl rfl⟩
 · have I: ∀j,j < len-> ∃x:Int,w.cell? (a.add j)=some (j0 x):=by
    intro j m;have l:=C j m;rw[List.getElem?_eq_getElem (by omega)] at l;obtain⟨E,G,D⟩:=Option.bind_eq_some_iff.1 l;obtain⟨x,rfl,_,_⟩:=DataW.trod_int hi D;obtain⟨_,_,c⟩:=World.cells?_some G;rw[ci] at c;have g:=c 0 (by omega);rw[Nat.mul_one] at g;have q: ∀y:Addr,y.add 0=y:=fun y=> by simp[Addr.add]
    rw[q] at g;exact⟨x,g⟩
   obtain⟨ns,B,z⟩:=LF len I;subst B;simp only[Value.cells,eY,and_true] at e;refine⟨some a,cap,ns,e,hl,hm, ?_⟩;cases ns with
   |nil=> exact .inl rfl
   |cons t0 ts=>
    obtain⟨b,o,f⟩:=a;have k:b < w.heap.size/\f=none:=by
     have g:=z 0 (by simp);have q:(⟨b,o,f⟩:Addr).add 0=⟨b,o,f⟩:=by simp[Addr.add]
     rw[q] at g;exact⟨World.block_lt_of_cell? _ _ g,by simpa using World.cell?_spot g⟩
    obtain⟨k,rfl⟩:=k;refine .inr ⟨b,o,rfl,k,fun j m=> ?_⟩;have g:=z j m;rw[FF] at g;exact g
end
def pt(f:Int):Int:=if f=1\/f=2\/f=4 then 2 else if f=3\/f=5\/f=6 then 1 else -1
def iy(f:Int)(ns:List Int):Bool:=decide (pt f=(ns.length:Int))&& ns.all (fun n=> ac n 0 20)
def JG(f:Int)(ns:List Int):Int×Bool:=
 if iy f ns=true then
  match ns with
  | [a]=>(if f=3 then(if a=0 then 0 else a - 1) else if f=6 then 2*a else if a=0 then 1 else 0,true)
  | [a,b]=>(if f=1 then a+b else if f=2 then a*b else if a < b then 0 else a - b,true)
  |_=>(0,false)
 else(0,false)
theorem nA{f:Int}{ns:List Int}(h:iy f ns=true):(∃a b,ns= [a,b]/\0<=a/\a<=20/\0<=b/\b<=20/\(f=1\/f=2\/f=4))\/(∃a,ns= [a]/\0<=a/\a<=20/\(f=3\/f=5\/f=6)):=by
 unfold iy at h;rw[aX] at h;have d:=of_decide_eq_true h.1;have g:=h.2;rw[List.all_eq_true] at g;unfold pt at d;by_cases i:f=1\/f=2\/f=4
 · rw[if_pos i] at d
   match ns,d with
   | [a,b],_=>
    have e:=ti.1 (g a (by simp));have k:=ti.1 (g b (by simp));exact .inl ⟨a,b,rfl,e.1,e.2,k.1,k.2,i⟩
   | [],d=> simp at d
   | [a],d=> simp at d
   |a::b::c::ts,d=> simp at d;omega
 · rw[if_neg i] at d
   by_cases j:f=3\/f=5\/f=6
   · rw[if_pos j] at d
     match ns,d with
     | [a],_=>
      have e:=ti.1 (g a (by simp));exact .inr ⟨a,rfl,e.1,e.2,j⟩
     | [],d=> simp at d
     |a::b::ts,d=> simp at d;omega
   · rw[if_neg j] at d
     omega
end Go.Proofs.YtckhbnmfnpolgaaGreat
namespace Go.Proofs.YtckhbnmfnpolgaaGreat
open Go.RowKit
def Qm(p:Tr->Bool):List Tr->Nat->Int
 | [],_=> -1
 |t::ts,j=> if p t=true then(j:Int) else Qm p ts (j+1)
theorem ZK(p:Tr->Bool): ∀(ts:List Tr) (j:Nat),decide (0<=Qm p ts j)=ts.any p
 | [],j=> by simp[Qm]
 |t::ts,j=> by
  unfold Qm;cases h:p t
  · simp[h,ZK p ts (j+1)]
  · simp[h]
theorem di(k:Int)(w:aN):aY prog 154 #[j0 k] w fun e c=> e= .returned (j0 (S0 k))/\w=c:=by
 by_cases h:1<=k/\k<=16
 · rcases(by omega:k=1\/k=2\/k=3\/k=4\/k=5\/k=6\/k=7\/k=8\/k=9\/k=10\/k=11\/k=12\/k=13\/k=14\/k=15\/k=16) with rfl|rfl|rfl|rfl|rfl|rfl|rfl|rfl|rfl|rfl|rfl|rfl|rfl|rfl|rfl|rfl
   all_goals
    go_enter func154,ntmps154;go_wp2_with fail;go_ret;exact⟨rfl,rfl⟩
 · have e:S0 k= -1:=by
    unfold S0
    repeat rw[if_neg (by omega)]
   have n:(k==1)=false:=by simp;omega
   have r:(k==2)=false:=by simp;omega
   have m:(k==3)=false:=by simp;omega
   have o:(k==4)=false:=by simp;omega
   have l:(k==5)=false:=by simp;omega
   have q:(k==6)=false:=by simp;omega
   have t:(k==7)=false:=by simp;omega
   have s:(k==8)=false:=by simp;omega
   have p:(k==9)=false:=by simp;omega
   have b:(k==10)=false:=by simp;omega
   have f:(k==11)=false:=by simp;omega
   have d:(k==12)=false:=by simp;omega
   have i:(k==13)=false:=by simp;omega
   have j:(k==14)=false:=by simp;omega
   have a:(k==15)=false:=by simp;omega
   have g:(k==16)=false:=by simp;omega
   have E:=hdq e;clear e h;go_enter func154,ntmps154;go_wp2_with fail;go_ret;exact⟨by rw[E.out];rfl,rfl⟩
theorem gx(k:Int)(w:aN):aY prog 153 #[j0 k] w fun e a=> e= .returned (j0 (Za k))/\w=a:=by
 by_cases h:1<=k/\k<=2
 · rcases(by omega:k=1\/k=2) with rfl|rfl
   all_goals
    go_enter func153,ntmps153;go_wp2_with fail;go_ret;exact⟨rfl,rfl⟩
 · have e:Za k=0:=by
    unfold Za
    repeat rw[if_neg (by omega)]
   have c:(k==1)=false:=by simp;omega
   have b:(k==2)=false:=by simp;omega
   have E:=hdq e;clear e h;go_enter func153,ntmps153;go_wp2_with fail;go_ret;exact⟨by rw[E.out];rfl,rfl⟩
def UG(t:Tr):Prop:= ∀(w:aN) (v:aU) (a:Int),Lies w t v-> -1<=a->a<=40->
 aY prog 113 #[v,.int .i64 a] w fun e b=> e= .returned (.bool (I0 sigT t a))/\Ext w b
theorem oK: ∀t:Tr,UG t:=Tr.ind fun k n c hk=> by
 intro w v a B fo lp;obtain⟨A,cap,rfl,hl,hc,h⟩:=Lies.mk_iff.1 B;clear B;have J:=hc;unfold aW at J;have e:I0 sigT (.mk k n c) a=(decide (1<=a)&&(decide (S0 k=(c.length:Int))&& ac n 0 (Za k)&& ma sigT c (a - 1))):=by
  unfold I0 Nj;rfl
 have E:=hdq e;clear e;by_cases U:a < 1
 · have g:I0 sigT (.mk k n c) a=false:=by
    rw[E.out];rw[decide_eq_false (by omega: ¬1<=a)];rfl
   replace E:=hdq g;clear g;have d1:decide (a < 1)=true:=decide_eq_true U;go_enter func113,ntmps113;go_wp2_with fail;have hE:=(xr w).alloc (D0 k n A c.length cap);have d:=(Ke (xr (w.alloc (D0 k n A c.length cap)))).1;generalize w.alloc _=W at hE d;obtain⟨s,q,p⟩:=q33.own3 d;have x:=hdq d;clear d;refine Hm (by kernel_rfl) (by kernel_rfl) ?_
   repeat (go_big_quiet_step (first|(go_at_call 154;exact Be (di _ _)) |(go_at_call 153;exact Be (gx _ _))))
   refine jW ?_;intro z f;obtain⟨⟨_,l⟩,rfl⟩:=f;clear s q p;have m:=hE.trans l;go_wp2_with fail;go_ret;exact⟨by rw[E.out];rfl,m⟩
 have d1:decide (a < 1)=false:=decide_eq_false U;by_cases D: ¬S0 k=(c.length:Int)
 · have g:I0 sigT (.mk k n c) a=false:=by
    rw[E.out];rw[decide_eq_false D];simp
   replace E:=hdq g;clear g;have d2:(S0 k !=(c.length:Int))=true:=by rw[bne_iff_ne];exact D
   go_enter func113,ntmps113;go_wp2_with fail;have hE:=(xr w).alloc (D0 k n A c.length cap);have d:=(Ke (xr (w.alloc (D0 k n A c.length cap)))).1;generalize w.alloc _=W at hE d;obtain⟨s,q,p⟩:=q33.own3 d;have x:=hdq d;clear d;refine Hm (by kernel_rfl) (by kernel_rfl) ?_
   repeat (go_big_quiet_step (first|(go_at_call 154;exact Be (di _ _)) |(go_at_call 153;exact Be (gx _ _))))
   refine jW ?_;intro z f;obtain⟨⟨_,l⟩,rfl⟩:=f;clear s q p;have m:=hE.trans l;go_wp2_with fail;go_ret;exact⟨by rw[E.out];rfl,m⟩
 have d2:(S0 k !=(c.length:Int))=false:=by simpa using D
 by_cases C:n < 0
 · have g:I0 sigT (.mk k n c) a=false:=by
    rw[E.out];rw[aB.2 (.inl C)];simp
   replace E:=hdq g;clear g;have Z:decide (n < 0)=true:=decide_eq_true C;go_enter func113,ntmps113;go_wp2_with fail;have hE:=(xr w).alloc (D0 k n A c.length cap);have d:=(Ke (xr (w.alloc (D0 k n A c.length cap)))).1;generalize w.alloc _=W at hE d;obtain⟨s,q,p⟩:=q33.own3 d;have x:=hdq d;clear d;refine Hm (by kernel_rfl) (by kernel_rfl) ?_
   repeat (go_big_quiet_step (first|(go_at_call 154;exact Be (di _ _)) |(go_at_call 153;exact Be (gx _ _))))
   refine jW ?_;intro z f;obtain⟨⟨_,l⟩,rfl⟩:=f;clear s q p;have m:=hE.trans l;go_wp2_with fail;go_ret;exact⟨by rw[E.out];rfl,m⟩
 have Z:decide (n < 0)=false:=decide_eq_false C;by_cases G:Za k < n
 · have g:I0 sigT (.mk k n c) a=false:=by
    rw[E.out];rw[aB.2 (.inr G)];simp
   replace E:=hdq g;clear g;have d4:decide (Za k < n)=true:=decide_eq_true G;go_enter func113,ntmps113;go_wp2_with fail;have hE:=(xr w).alloc (D0 k n A c.length cap);have d:=(Ke (xr (w.alloc (D0 k n A c.length cap)))).1;generalize w.alloc _=W at hE d;obtain⟨s,q,p⟩:=q33.own3 d;have x:=hdq d;clear d;refine Hm (by kernel_rfl) (by kernel_rfl) ?_
   repeat (go_big_quiet_step (first|(go_at_call 154;exact Be (di _ _)) |(go_at_call 153;exact Be (gx _ _))))
   refine jW ?_;intro z f;obtain⟨⟨_,l⟩,rfl⟩:=f;clear s q p;have m:=hE.trans l;go_wp2_with fail;go_ret;exact⟨by rw[E.out];rfl,m⟩
 have d4:decide (Za k < n)=false:=decide_eq_false G;have hn:ac n 0 (Za k)=true:=ti.2 ⟨by omega,by omega⟩;have g:I0 sigT (.mk k n c) a=ma sigT c (a - 1):=by
  rw[E.out,decide_eq_true (by omega:1<=a),decide_eq_true (by omega:S0 k=(c.length:Int)),hn];rfl
 replace E:=hdq g;clear g hn;go_enter func113,ntmps113;go_wp2_with fail;have hE:=(xr w).alloc (D0 k n A c.length cap);have d:=(Ke (xr (w.alloc (D0 k n A c.length cap)))).1;generalize w.alloc _=W at hE d;obtain⟨s,q,p⟩:=q33.own3 d;have x:=hdq d;clear d;refine Hm (by kernel_rfl) (by kernel_rfl) ?_
 repeat (go_big_quiet_step (first|(go_at_call 154;exact Be (di _ _)) |(go_at_call 153;exact Be (gx _ _))))
 refine jW ?_;intro z f;obtain⟨⟨_,l⟩,rfl⟩:=f;clear s q p;have m:=hE.trans l;obtain⟨R,N,Q,-,-,-⟩:=own3 (l.blk x.out);have Y:=hdq (l.blk x.out);go_wp2_with fail;clear R N Q
 go_loopw [5] (fun i wr=> ∃j:Nat,j<=c.length/\i= j0 j/\ma sigT c (a - 1)=ma sigT (c.drop j) (a - 1)/\Ext z wr) (fun i _=> c.length -(intOf i).toNat)
 case atStart=> exact⟨0,cO _,rfl,rfl,xr _⟩
 case round=>
  obtain⟨j,hj,rfl,M,hx⟩:=hrel;have I:=hdq M;obtain⟨R,N,Q,-,-,-⟩:=own3 (hx.blk Y.out);clear M;by_cases y:j < c.length
  · obtain⟨b,o,O,S,A2,G5,kids,rfl,X,c0,c1,c2,I7,I6,hK,B,V⟩:=h.get (m.trans hx) y
    have F:=cP y;rw[X.out] at F;have u:ma sigT (c.drop j) (a - 1)=(I0 sigT (.mk O S kids) (a - 1)&& ma sigT (c.drop (j+1)) (a - 1)):=by rw[F];conv=> lhs;unfold ma
    clear F;go_wp2_with fail;refine(hk _ V wr _ (a - 1) B (by omega) (by omega)).mono ?_;rintro e w4 ⟨rfl,L⟩;generalize I0 sigT (.mk O S kids) (a - 1)=r at u;have T:=hdq u;clear u;cases r with
    |false=>
     go_wp2_with fail;go_ret;exact⟨by rw[E.out,I.out,T.out];rfl,m.trans (hx.trans L)⟩
    |true=>
     go_wp2_with fail
     go_roundw
     case rel=> exact⟨j+1,by omega,by go_num,by rw[I.out,T.out];rfl,hx.trans L⟩
     case measure=> simp[intOf];omega
  · go_wp2_with fail
    go_ret;have K:c.drop j= []:=dM (by omega);exact⟨by rw[E.out,I.out,K];simp only[ma];rfl,m.trans hx⟩
def CG(t:Tr):Prop:= ∀(w:aN) (v:aU) (most:Int),Lies w t v->0<=most->most<=1000000->
 aY prog 114 #[v,.int .i64 most] w fun e a=> e= .returned (.int .i64 (Nc t most))/\Ext w a
theorem GG: ∀t:Tr,CG t:=Tr.ind fun k n a hk=> by
 intro w v most l J Gx;obtain⟨A,cap,rfl,hl,hc,h⟩:=Lies.mk_iff.1 l;clear l;have p:=hc;unfold aW at p;have e:Nc (.mk k n a) most=Pf a most 1:=by unfold Nc;rfl
 have E:=hdq e;clear e;go_enter func114,ntmps114;go_wp2_with fail;have hE:=(xr w).alloc (D0 k n A a.length cap);have u:=(Ke (xr (w.alloc (D0 k n A a.length cap)))).1;generalize w.alloc _=W at hE u;have K:=hdq u;clear u
 go_loopw [5,6] (fun q i wr=> ∃(j:Nat) (m:Int),j<=a.length/\i= j0 j/\q= j0 m/\1<=m/\m<=most+1/\Pf a most 1=Pf (a.drop j) most m/\Ext W wr) (fun _ i _=> a.length -(intOf i).toNat)
 case atStart=> exact⟨0,1,cO _,rfl,rfl,by omega,by omega,rfl,xr _⟩
 case round=>
  obtain⟨j,m,N,rfl,rfl,Z,uh,D,hx⟩:=hrel;have y:=hdq D;obtain⟨U,X,V,-,-,-⟩:=own3 (hx.blk K.out);clear D;by_cases f:j < a.length
  · have dl:decide ((j:Int) <(a.length:Int))=true:=decide_eq_true (by omega)
    obtain⟨b,o,x,s,Q,O,kids,rfl,I,S,M,c2,Y,T,hK,l,L⟩:=h.get (hE.trans hx) f;have z:=cP f;rw[I.out] at z;have c:Pf (a.drop j) most m=if m<=most then Pf (a.drop (j+1)) most (m+Nc (.mk x s kids) (most - m)) else m:=by rw[z];conv=> lhs;unfold Pf
    clear z;by_cases d:m<=most
    · rw[if_pos d] at c
      have g:=hdq c;have F:decide (m<=most)=true:=decide_eq_true d;have C:=fq (.mk x s kids) (most - m) (by omega);clear c;go_wp2_with fail;refine(hk _ L wr _ (most - m) l (by omega) (by omega)).mono ?_;rintro e R ⟨rfl,G⟩;generalize Nc (.mk x s kids) (most - m)=r at C g;go_wp2_with fail
      go_roundw
      case rel=> exact⟨j+1,m+r,by omega,by go_num,rfl,by omega,by omega,by rw[y.out,g.out],hx.trans G⟩
      case measure=> simp[intOf];omega
    · rw[if_neg d] at c
      have g:=hdq c;have F:decide (m<=most)=false:=decide_eq_false d;clear c;go_wp2_with fail;go_ret;exact⟨by rw[E.out,y.out,g.out];rfl,hE.trans hx⟩
  · have dl:decide ((j:Int) <(a.length:Int))=false:=decide_eq_false (by omega)
    go_wp2_with fail;go_ret;have B:a.drop j= []:=dM (by omega);exact⟨by rw[E.out,y.out,B];simp only[Pf];rfl,hE.trans hx⟩
theorem Qo(t:Tr)(w:aN)(v:aU)(d:Lies w t v):aY prog 22 #[v] w fun e g=> e= .returned (.bool (valid sigT t))/\Ext w g:=by
 obtain⟨k,n,a⟩:=t;obtain⟨A,cap,rfl,hl,hc,h⟩:=Lies.mk_iff.1 d;have hs:=(VF sigT (.mk k n a)).1;have i:=hdq hs;clear hs;go_enter func22,ntmps22;go_wp2_with fail;have hE:=((xr w).alloc (D0 k n A a.length cap)).alloc (.cells #[j0 0] 3);have c:=(blk2 (xr ((w.alloc (D0 k n A a.length cap)).alloc (.cells #[j0 0] 3)))).2.1;refine(y145 (.mk k n a) _ w.heap.size _ _ 1 0 (InT.mono (fun _ h=> h) (fun b c=> hE.heap b c) d) (by omega) c (by omega) (by omega) (by omega) (by omega)).mono ?_;rintro e f ⟨rfl,-,j⟩;have hx:Ext w f:=Below.trans hE j;rw[i.out];go_wp2_with fail;go_ret;exact⟨rfl,hx⟩
theorem rj(t:Tr)(w:aN)(v:aU)(d:Lies w t v):aY prog 71 #[v] w fun e i=> e= .returned (.bool (valid sigT t))/\Ext w i:=by
 have hv:=mH (g:=sigT) (t:=t);have hm:=fq t 400 (by omega);have hS:=fun W (b:Ext w W)=> oK t W v 30 (d.ext b) (by omega) (by omega)
 have f:=fun W (b:Ext w W)=> GG t W v 400 (d.ext b) (by omega) (by omega)
 have l:=hdq hS;have o:=hdq f;clear hS f;obtain⟨k,n,m⟩:=t;obtain⟨A,cap,rfl,hl,hc,h⟩:=Lies.mk_iff.1 d;go_enter func71,ntmps71;go_wp2_with fail;refine(l.out _ ((xr w).alloc _)).mono ?_;rintro e r ⟨rfl,a⟩;obtain⟨u,q,p,-,-,-⟩:=own3 a.newBlk;generalize I0 sigT (.mk k n m) 30=s at hv;cases s with
 |false=>
  have c:=hdq hv;clear hv hm;go_wp2_with fail;go_ret;exact⟨by rw[c.out];rfl,a.pre⟩
 |true=>
  have c:=hdq hv;clear hv hm;go_wp2_with fail;refine(o.out _ a.pre).mono ?_;rintro e x ⟨rfl,j⟩;go_wp2_with fail
  all_goals go_ret
  all_goals exact⟨by rw[c.out];simp[*],a.pre.trans j⟩
theorem xC{g:Ud}: ∀{a:List Tr} {d:Int} {t:Tr},ma g a d=true->t∈a->I0 g t d=true
 |x::a,d,t,h,hm=> by
  simp only[ma,aX] at h;rcases List.mem_cons.1 hm with rfl|hm
  · exact h.1
  · exact xC h.2 hm
theorem Iv{g:Ud}{k n:Int}{a:List Tr}{d:Int}(h:I0 g (.mk k n a) d=true):g.ops k=(a.length:Int)/\0<=n/\n<=g.most k/\ ∀t∈a,I0 g t (d - 1)=true:=by
 simp only[I0,Nj,aX] at h;have c:=of_decide_eq_true h.2.1.1;have b:=ti.1 h.2.1.2;exact⟨c,b.1,b.2,fun t ht=> xC h.2.2 ht⟩
theorem Ext.below{W a w:aN}(h:Ext a w)(c:W.heap.size<=a.heap.size):Below W.heap.size a w:=⟨h.os,h.tape,h.output,h.size,fun b d=> h.heap b (aZ d c)⟩
theorem Ext.trans'{W a b c:aN}(h:Ext a b)(k:Below W.heap.size b c)(d:a.heap.size<=W.heap.size):Ext a c:=Below.trans h (Below.mono k d)
theorem W0.three'{w a:aN}{e:bU}{t:Tr}{u:aU}(h:W0 w a e t u): ∃k n A l c,u= m0 k n A l c:=by
 obtain⟨k,n,b⟩:=t;obtain⟨A,cap,rfl,_⟩:=W0.mk_iff.1 h;exact⟨k,n,A,_,cap,rfl⟩
attribute [local go_sem ↓] Go.wp_at_zero Go.wp_at_succ
