/-
  Lemmas towards the law, 7: Scan, Row, Nums, Any, SpecValid, Extract.
-/
import Derived.Test.YtckhbnmfnpolgaaGreatC00
import Derived.Test.YtckhbnmfnpolgaaGreatCAF
import Derived.Deep.DrawnRows
import Derived.Deep.RegionLaw
open Go renaming World->aL,Value->aT,Calls->aX,maxLen->aV,wpQuiet_nil->jP,TypeId->aZ
open Nat renaming zero_le->bV,le_refl->aN,lt_of_lt_of_le->aY
open List renaming drop_eq_getElem_cons->cL,drop_of_length_le->cV,getElem?_append_right->eY,eq_nil_of_length_eq_zero->bO
open List.cons renaming injEq->eV
open Bool renaming and_eq_true->aW
open Go.Proofs.Tryz
set_option linter.all false
set_option maxHeartbeats 1600000
set_option maxRecDepth 100000
namespace Go.Proofs.YtckhbnmfnpolgaaGreat
open Go.RowKit
def eG(t:Tr):Prop:= ∀(w:aL) (B g:Nat) (v:aT) (deep c:Int),InT w (fun b=> b < B) t v->B<=g->w.heap[g]? =some (.cells #[.int .i64 c] 3 (0,0))->0<=c->c<=400->0<=deep->deep<=40->
 aX prog 65 #[v,.int .i64 deep,.pointer (some ⟨g,0,none⟩)] w fun e a=> e= .returned (.bool (Qc D0 t deep c).1)/\a.heap[g]? =some (.cells #[.int .i64 (Qc D0 t deep c).2] 3 (0,0))/\Below B w a
theorem j145: ∀t:Tr,eG t:=Tr.ind fun k n p hk=> by
 intro w B g v deep c b8 Y a hc0 hc1 fu kj;obtain⟨A,cap,rfl,hl,hc,h⟩:=InT.mk_iff.1 b8;clear b8;have hc':=hc;unfold aV at hc';have hgs:=O1 a;have U:w.cell? ⟨g,0,none⟩=some (.int .i64 c):=U1 a 0;have q1:=ib a 0;have e:Qc D0 (.mk k n p) deep c=if 400 < c+1 then(false,c+1) else if 30 < deep then(false,c+1) else if U0 k=(p.length:Int) then(if db n 0 (Ma k)=true then Qe D0 p (deep+1) (c+1) else(false,c+1)) else(false,c+1):=by
  unfold Qc;rfl
 have E:=hdq e;have HB:=hdq a;have hW: ∀W,W=(w.setCell ⟨g,0,none⟩ (.int .i64 (c+1))).alloc (.cells #[.int .i64 k,.int .i64 n,.slice A p.length cap] 25)->W.heap[g]? =some (.cells #[.int .i64 (c+1)] 3 (0,0))/\W.heap[w.heap.size]? =some (.cells #[.int .i64 k,.int .i64 n,.slice A p.length cap] 25 (0,0))/\Below B w W/\w.heap.size < W.heap.size:=by
  rintro W rfl;have e0:=heap_alloc_new (w.setCell ⟨g,0,none⟩ (.int .i64 (c+1))) (.cells #[.int .i64 k,.int .i64 n,.slice A p.length cap] 25);rw[World.size_setCell] at e0;exact⟨UH (N5 HB.out 0 _) _,e0,((Below.refl B w).setCell Y _).alloc (by simp;omega) _,by simp⟩
 have X:=hdq hW;clear hW e;by_cases a1:400 < c+1
 · rw[if_pos a1] at E
   have d1:decide (400 < c+1)=true:=decide_eq_true a1;go_enter func65,ntmps65;go_wp2_with fail;have u:=X.out _ rfl;generalize (w.setCell _ _).alloc _=W at u;obtain⟨f,l,I,b4⟩:=u;obtain⟨D,J,K⟩:=y32.own3 l;have F: ∀y:y32 W,y.world.cell? ⟨g,0,none⟩=some (.int .i64 (c+1)):=fun y=> y32.cell (U1 f 0) y
   have G:=hdq f;have S:=hdq l;clear l f U q1 a;refine Al (by kernel_rfl) (by kernel_rfl) ?_
   repeat (go_big_quiet_step (first|(go_at_call 108;exact cB (fA _ _)) |(go_at_call 51;exact Vd (Ci _ _ _ _)) |(go_at_call 109;exact Vd (xB _ _))))
   refine jP ?_;intro Q d;obtain⟨⟨_,s⟩,rfl⟩:=d;clear D J K F;go_wp2_with fail;go_ret;exact⟨by rw[E.out];rfl,by rw[E.out];exact s.blk G.out,I.trans (s.mono (by omega))⟩
 rw[if_neg a1] at E;have d1:decide (400 < c+1)=false:=decide_eq_false a1;by_cases a2:30 < deep
 · rw[if_pos a2] at E
   have d2:decide (30 < deep)=true:=decide_eq_true a2;go_enter func65,ntmps65;go_wp2_with fail;have u:=X.out _ rfl;generalize (w.setCell _ _).alloc _=W at u;obtain⟨f,l,I,b4⟩:=u;obtain⟨D,J,K⟩:=y32.own3 l;have F: ∀y:y32 W,y.world.cell? ⟨g,0,none⟩=some (.int .i64 (c+1)):=fun y=> y32.cell (U1 f 0) y
   have G:=hdq f;have S:=hdq l;clear l f U q1 a;refine Al (by kernel_rfl) (by kernel_rfl) ?_
   repeat (go_big_quiet_step (first|(go_at_call 108;exact cB (fA _ _)) |(go_at_call 51;exact Vd (Ci _ _ _ _)) |(go_at_call 109;exact Vd (xB _ _))))
   refine jP ?_;intro Q d;obtain⟨⟨_,s⟩,rfl⟩:=d;clear D J K F;go_wp2_with fail;go_ret;exact⟨by rw[E.out];rfl,by rw[E.out];exact s.blk G.out,I.trans (s.mono (by omega))⟩
 rw[if_neg a2] at E;have d2:decide (30 < deep)=false:=decide_eq_false a2;by_cases O:U0 k=(p.length:Int)
 · rw[if_pos O] at E
   have d3:(U0 k !=(p.length:Int))=false:=by rw[O];simp
   clear O;obtain⟨z,hz⟩: ∃z,db n 0 (Ma k)=z:=⟨_,rfl⟩;cases z with
   |false=>
    rw[hz,if_neg (by decide)] at E;go_enter func65,ntmps65;go_wp2_with fail;have u:=X.out _ rfl;generalize (w.setCell _ _).alloc _=W at u;obtain⟨f,l,I,b4⟩:=u;obtain⟨D,J,K⟩:=y32.own3 l;have F: ∀y:y32 W,y.world.cell? ⟨g,0,none⟩=some (.int .i64 (c+1)):=fun y=> y32.cell (U1 f 0) y
    have G:=hdq f;have S:=hdq l;clear l f U q1 a;refine Al (by kernel_rfl) (by kernel_rfl) ?_
    repeat (go_big_quiet_step (first|(go_at_call 108;exact cB (fA _ _)) |(go_at_call 51;exact Vd (Ci _ _ _ _)) |(go_at_call 109;exact Vd (xB _ _))))
    refine jP ?_;intro Q d;obtain⟨⟨_,s⟩,rfl⟩:=d;clear D J K F;go_wp2_with fail;go_ret;exact⟨by rw[E.out];rfl,by rw[E.out];exact s.blk G.out,I.trans (s.mono (by omega))⟩
   |true=>
    rw[hz,if_pos rfl] at E;go_enter func65,ntmps65;go_wp2_with fail;have u:=X.out _ rfl;generalize (w.setCell _ _).alloc _=W at u;obtain⟨f,l,I,b4⟩:=u;obtain⟨D,J,K⟩:=y32.own3 l;have F: ∀y:y32 W,y.world.cell? ⟨g,0,none⟩=some (.int .i64 (c+1)):=fun y=> y32.cell (U1 f 0) y
    have G:=hdq f;have S:=hdq l;clear l f U q1 a;refine Al (by kernel_rfl) (by kernel_rfl) ?_
    repeat (go_big_quiet_step (first|(go_at_call 108;exact cB (fA _ _)) |(go_at_call 51;exact Vd (Ci _ _ _ _)) |(go_at_call 109;exact Vd (xB _ _))))
    refine jP ?_;intro Q d;obtain⟨⟨_,s⟩,rfl⟩:=d;clear D J K F;clear hz;obtain⟨z0,z1,z2,-,-,-⟩:=own3 (s.blk S.out);have T:=s.blk G.out;have Bl:Below B w Q:=I.trans (s.mono (by omega));have B4:=hdq T;clear T;go_wp2_with fail;clear z0 z1 z2
    go_loopw [43] (fun i wr=> ∃(j:Nat) (q:Int),j<=p.length/\i= .int .i64 j/\wr.heap[g]? =some (.cells #[.int .i64 q] 3 (0,0))/\0<=q/\q<=400/\Below B w wr/\Qe D0 p (deep+1) (c+1)=Qe D0 (p.drop j) (deep+1) q) (fun i _=> p.length -(intOf i).toNat)
    case atStart=> exact⟨0,c+1,bV _,rfl,B4.out,by omega,by omega,Bl,rfl⟩
    case round=>
     obtain⟨j,q,hj,rfl,a,nj,sr,xx,V6⟩:=hrel;have Z:=hdq V6;clear V6;by_cases V:j < p.length
     · obtain⟨b,o,N,L,A2,F7,kids,rfl,HK,c0,c1,c2,I5,I3,hK,b8,e9,ug⟩:=h.get (fun x hx=> xx.block x hx) V
       have j6:=cL V;rw[HK.out] at j6;have m:Qe D0 (p.drop j) (deep+1) q=if(Qc D0 (.mk N L kids) (deep+1) q).1=true then Qe D0 (p.drop (j+1)) (deep+1) (Qc D0 (.mk N L kids) (deep+1) q).2 else(false,(Qc D0 (.mk N L kids) (deep+1) q).2):=by rw[j6];conv=> lhs;unfold Qe
       have C:=PI D0 (.mk N L kids) (deep+1) q nj sr;have vh:=hdq a;have hgwr:=O1 a;clear a j6;go_wp2_with fail;have B8:=(xr wr).alloc (.cells #[.int .i64 N,.int .i64 L,.slice A2 kids.length F7] 25);have Ej:B<=wr.heap.size:=by omega
       refine(hk _ e9 _ B g _ (deep+1) q (b8.mono (fun _ h=> h) (fun x hx=> B8.heap x (by omega))) Y (B8.blk vh.out) nj sr (by omega) (by omega)).mono ?_;rintro e w4 ⟨rfl,M,h5⟩;have tq:Below B w w4:=xx.trans ((Below.mono B8 Ej).trans h5);generalize Qc D0 (.mk N L kids) (deep+1) q=r at m C M;obtain⟨r1,r2⟩:=r
       dsimp only at m C M
       cases r1 with
       |false=>
        rw[if_neg (by decide)] at m;have HT:=hdq m;have H4:=hdq M;clear m M C;go_wp2_with fail;go_ret;exact⟨by rw[E.out,Z.out,HT.out];rfl,by rw[E.out,Z.out,HT.out];exact H4.out,tq⟩
       |true=>
        rw[if_pos rfl] at m;have HT:=hdq m;have H4:=hdq M;have hr2:=C.2.2.2.2 rfl;have hr3:=C.2.2.1;clear m M C;go_wp2_with fail
        go_roundw
        case rel=> exact⟨j+1,r2,by omega,by go_num,H4.out,by omega,hr2,tq,by rw[Z.out,HT.out]⟩
        case measure=> simp[intOf];omega
     · have vh:=hdq a
       clear a;go_wp2_with fail;go_ret;have R:p.drop j= []:=cV (by omega);exact⟨by rw[E.out,Z.out,R];rfl,by rw[E.out,Z.out,R];exact vh.out,xx⟩
 · rw[if_neg O] at E
   have d3:(U0 k !=(p.length:Int))=true:=by rw[bne_iff_ne];exact O
   clear O;go_enter func65,ntmps65;go_wp2_with fail;have u:=X.out _ rfl;generalize (w.setCell _ _).alloc _=W at u;obtain⟨f,l,I,b4⟩:=u;obtain⟨D,J,K⟩:=y32.own3 l;have F: ∀y:y32 W,y.world.cell? ⟨g,0,none⟩=some (.int .i64 (c+1)):=fun y=> y32.cell (U1 f 0) y
   have G:=hdq f;have S:=hdq l;clear l f U q1 a;refine Al (by kernel_rfl) (by kernel_rfl) ?_
   repeat (go_big_quiet_step (first|(go_at_call 108;exact cB (fA _ _)) |(go_at_call 51;exact Vd (Ci _ _ _ _)) |(go_at_call 109;exact Vd (xB _ _))))
   refine jP ?_;intro Q d;obtain⟨⟨_,s⟩,rfl⟩:=d;clear D J K F;go_wp2_with fail;go_ret;exact⟨by rw[E.out];rfl,by rw[E.out];exact s.blk G.out,I.trans (s.mono (by omega))⟩
def I1(w:aL)(S:Nat->Prop):List aT->List Tr->Prop
 |_, []=> True
 |xs,t::ts=> ∃v0 v1 v2 rest,xs=v0::v1::v2::rest/\InT w S t (.agg #[v0,v1,v2])/\I1 w S rest ts
theorem I1.cons_iff{w:aL}{S:Nat->Prop}{a:List aT}{t:Tr}{ts:List Tr}:I1 w S a (t::ts)↔ ∃v0 v1 v2 rest,a=v0::v1::v2::rest/\InT w S t (.agg #[v0,v1,v2])/\I1 w S rest ts:=by
 conv=> lhs;unfold I1
theorem I1.nil{w:aL}{S:Nat->Prop}{a:List aT}:I1 w S a []:=by unfold I1;trivial
theorem I1.mono{w w':aL}{S S':Nat->Prop}(hS: ∀b,S b->S' b)(c: ∀b,S b->w'.heap[b]? =w.heap[b]?): ∀{a:List aT} {d:List Tr},I1 w S a d->I1 w' S' a d
 |_, [],_=> I1.nil
 |a,t::ts,h=> by
  obtain⟨v0,v1,v2,rest,rfl,f,e⟩:=I1.cons_iff.1 h;exact I1.cons_iff.2 ⟨v0,v1,v2,rest,rfl,f.mono hS c,I1.mono hS c e⟩
theorem I1.inL{w:aL}{S:Nat->Prop}{b:Nat}{cs:Array aT}{e:aZ}(d:w.heap[b]? =some (.cells cs e (0,0))): ∀{xs pre:List aT} {c:List Tr},I1 w S xs c->cs.toList=pre++xs->O4 w S b pre.length c
 |_,_, [],_,_=> by unfold O4;trivial
 |xs,pre,t::ts,h,a=> by
  obtain⟨v0,v1,v2,rest,rfl,g,f⟩:=I1.cons_iff.1 h;unfold O4;have hc: ∀i,w.cell? ⟨b,i,none⟩=cs.toList[i]? :=fun i=> by rw[U1 d];simp
  refine⟨⟨v0,v1,v2, ?_, ?_, ?_,g⟩, ?_⟩
  · rw[hc,a,eY (aN _)];simp
  · rw[hc,a,eY (by omega)];simp
  · rw[hc,a,eY (by omega)];simp
  · have:=I1.inL d (pre:=pre++ [v0,v1,v2]) f (by simp[a])
    simpa using this
theorem O4.rowL{w:aL}{S:Nat->Prop}{b:Nat}: ∀{o:Nat} {d:List Tr},O4 w S b o d-> ∃c:List aT,c.length=d.length*3/\(∀j u,c[j]? =some u->w.cell? ⟨b,o+j,none⟩=some u)/\(∀u∈c,u.oneCell'=true)/\I1 w S c d
 |o, [],_=>⟨[],rfl,(fun j u h=> by simp at h),(fun u h=> by simp at h),I1.nil⟩
 |o,t::ts,h=> by
  unfold O4 at h;obtain⟨⟨v0,v1,v2,m,p,e,ht⟩,q⟩:=h;obtain⟨c,g,f,l,i⟩:=O4.rowL q;refine⟨v0::v1::v2::c,by simp[g];omega,fun j u a=> ?_,fun u a=> ?_,I1.cons_iff.2 ⟨v0,v1,v2,c,rfl,ht,i⟩⟩
  · match j,a with
    |0,a=> simpa using(by simpa using a:v0=u)▸m
    |1,a=> simpa using(by simpa using a:v1=u)▸p
    |2,a=> simpa using(by simpa using a:v2=u)▸e
    |j+3,a=>
     have:=f j u (by simpa using a)
     rwa [show o+3+j=o+(j+3) by omega] at this
  · obtain⟨k,n,kids⟩:=t
    obtain⟨A,cap,hv,_⟩:=InT.mk_iff.1 ht;simp only[Value.agg.injEq,Array.mk.injEq,eV,and_true] at hv;obtain⟨rfl,rfl,rfl⟩:=hv;simp only[List.mem_cons] at a;rcases a with rfl|rfl|rfl|a
    · rfl
    · rfl
    · rfl
    · exact l u a
theorem I1.snoc{w:aL}{S:Nat->Prop}{t:Tr}{v0 v1 v2:aT}(ht:InT w S t (.agg #[v0,v1,v2]))(tail:List aT): ∀{a:List aT} {b:List Tr},a.length=b.length*3->I1 w S a b->I1 w S (a++v0::v1::v2::tail) (b++ [t])
 |a, [],hx,h=> by
  have c:a= []:=bO (by simpa using hx);subst c;exact I1.cons_iff.2 ⟨v0,v1,v2,tail,rfl,ht,I1.nil⟩
 |a,x::b,hx,h=> by
  obtain⟨f,g,d,rest,rfl,i,e⟩:=I1.cons_iff.1 h;exact I1.cons_iff.2 ⟨f,g,d,_,rfl,i,I1.snoc ht tail (by simp only[List.length_cons] at hx;omega) e⟩
theorem I1.tail{w:aL}{S:Nat->Prop}(tail:List aT): ∀{a:List aT} {b:List Tr},I1 w S a b->I1 w S (a++tail) b
 |a, [],h=> I1.nil
 |a,x::b,h=> by
  obtain⟨e,f,c,rest,rfl,g,d⟩:=I1.cons_iff.1 h;exact I1.cons_iff.2 ⟨e,f,c,_,rfl,g,I1.tail tail d⟩
theorem I1.set{w:aL}{S:Nat->Prop}{t:Tr}{v0 v1 v2:aT}(ht:InT w S t (.agg #[v0,v1,v2])): ∀{a:List aT} {b:List Tr} (i:Nat),I1 w S a b->I1 w S (((a.set (i*3) v0).set (i*3+1) v1).set (i*3+2) v2) (b.set i t)
 |a, [],i,h=> by simpa using I1.nil
 |a,x::b,0,h=> by
  obtain⟨e,f,d,rest,rfl,g,c⟩:=I1.cons_iff.1 h;exact I1.cons_iff.2 ⟨v0,v1,v2,rest,by simp,ht,c⟩
 |a,x::b,i+1,h=> by
  obtain⟨e,f,d,rest,rfl,g,c⟩:=I1.cons_iff.1 h;refine I1.cons_iff.2 ⟨e,f,d,_, ?_,g,I1.set ht i c⟩;rw[show(i+1)*3=i*3+1+1+1 by omega,show i*3+1+1+1+1=i*3+1+1+1+1 from rfl,show i*3+1+1+1+2=i*3+2+1+1+1 by omega];simp
def T8(X:Nat->Prop)(W w:aL)(e:aZ)(v:aT)(ks:List Tr):Prop:=
 ∃a,w.ownsRow W.heap.size e 3 v ks.length a/\I1 w (fun b=> b < w.heap.size/\v.ownBlock≠some b/\ ¬X b) a ks
theorem T8.nil(X:Nat->Prop)(W w:aL)(e:aZ):T8 X W w e (.slice none 0 0) []:=⟨[],World.ownsRow_nil _ _ _ _,I1.nil⟩
theorem T8.lit{X:Nat->Prop}{W w:aL}{e:aZ}{g:Nat}(a:w.heap[g]? =some (.cells #[] e (0,0)))(b:W.heap.size<=g):T8 X W w e (.slice (some ⟨g,0,none⟩) 0 0) []:=
 ⟨[],⟨rfl,.inr ⟨g,0,#[],rfl,b,a,aN _,bV _,rfl,rfl⟩⟩,I1.nil⟩
theorem T8.only{X:Nat->Prop}{W w j:aL}{e:aZ}{v:aT}{f:List Tr}{L:List Nat}(h:T8 X W w e v f)(c:D1 L w j)(k: ∀b,b∈L->X b)(m: ∀b,X b->b < W.heap.size):T8 X W j e v f:=by
 obtain⟨n,d,l⟩:=h;refine⟨n,Sx d (fun g i=> c.block g (d.lt g i).2 (fun hm=> by have:=m g (k g hm);have:=(d.lt g i).1;omega)),l.mono (fun b a=>⟨aY a.1 c.size,a.2.1,a.2.2⟩) (fun b a=> c.block b a.1 (fun hm=> a.2.2 (k b hm)))⟩
theorem T8.ext{X:Nat->Prop}{W w d:aL}{e:aZ}{v:aT}{ks:List Tr}(h:T8 X W w e v ks)(c:Ext w d):T8 X W d e v ks:=by
 obtain⟨j,f,k⟩:=h;exact⟨j,Sx f (fun g i=> c.heap g (f.lt g i).2),k.mono (fun b a=>⟨aY a.1 c.size,a.2.1,a.2.2⟩) (fun b a=> c.heap b a.1)⟩
theorem T8.lies{X:Nat->Prop}{W w:aL}{e:aZ}{v:aT}{a:List Tr}(h:T8 X W w e v a)(n: ∀b,X b->b < W.heap.size): ∃A cap,v= .slice A a.length cap/\a.length<=cap/\cap<=aV/\InK w (fun b=> b < w.heap.size/\ ¬X b) A a/\(a= []\/ ∃g,A=some ⟨g,0,none⟩/\W.heap.size<=g):=by
 obtain⟨q,p,l⟩:=h;rcases p.2 with⟨rfl,o⟩ |⟨g,cap,d,rfl,c,j,m,f,k,ht⟩
 · have:a= []:=bO o
   subst this;exact⟨none,0,rfl,aN _,bV _,.inl rfl,.inl rfl⟩
 · refine⟨_,cap,rfl,m,f,.inr ⟨g,0,rfl,⟨O1 j,fun hm=> by have:=n g hm;omega⟩, ?_⟩,.inr ⟨g,rfl,c⟩⟩
   have i:=I1.tail (d.toList.drop (a.length*3)) (l.mono (S':=fun b=> b < w.heap.size/\ ¬X b) (fun b c=>⟨c.1,c.2.2⟩) (fun _ _=> rfl));rw[<-ht,List.take_append_drop] at i;exact I1.inL j (pre:= []) i (by simp)
theorem BD{w:aL}{S:Nat->Prop}{t:Tr}{v0 v1 v2:aT}(h:InT w S t (.agg #[v0,v1,v2])): ∀u∈ [v0,v1,v2],u.oneCell'=true:=by
 obtain⟨k,n,b⟩:=t;obtain⟨A,cap,hv,_⟩:=InT.mk_iff.1 h;simp only[Value.agg.injEq,Array.mk.injEq,eV,and_true] at hv;obtain⟨rfl,rfl,rfl⟩:=hv;intro u a;simp only[List.mem_cons,List.not_mem_nil,or_false] at a;rcases a with rfl|rfl|rfl <;> rfl
theorem Hw{P:Program}(w:aL){o:Oper}{a:Act}{K:Act->aL->Prop}{Q:Exit->Act->aL->Prop}(s x:Operand)(t:aZ)
 (F:o.op= .call {callee:= .builtin .append,args:=#[s,x],argTypes:=#[t,t]})
 (e:aZ) (i:TypeInfo) (z:aT) (ht:P.underlying t=some (.slice e)) (hi:P.info? e=some i) (B:i.zero=some z) (d:i.size=3) (n:i.bytes=40) (q:z.cells.size=3)
 {X:Nat->Prop} {W:aL} {v:aT} {k:List Tr} {tr:Tr} {v0 v1 v2:aT} {p:Nat} (hs:a.eval s=v) (hG:T8 X W w e v k) (D:W.heap.size<=w.heap.size)
 (hT:InT w (fun b=> b < w.heap.size/\v.ownBlock≠some b/\ ¬X b) tr (.agg #[v0,v1,v2]))
 (hx:a.eval x= .slice (some ⟨p,0,none⟩) 1 1) (m:w.heap[p]? =some (.cells #[v0,v1,v2] e (0,0))) (hn:k.length < 1099511627776)
 (h: ∀j c,T8 X W c e j (k++ [tr])->Below W.heap.size w c->K (a.put o.dst j) c) (J: ∀b,X b->b < W.heap.size):o.wp P a w K Q:=by
 obtain⟨G,r,E⟩:=hG;obtain⟨j,c,hr,I,f,A⟩:=cr (P:=P) w W.heap.size t o.type e i z 3 40 ht hi B d n q (by decide) v k.length G r ⟨p,0,none⟩ 1 1 [v0,v1,v2] rfl (wE m) (BD hT) (by unfold aV;omega) (by omega) D;have hB:Below W.heap.size w c:=⟨f.os,f.tape,f.output,f.size,fun b g=> f.block b (by omega) (fun l=> by have:=(r.lt b l.symm).1;omega)⟩;have hS: ∀b,b < w.heap.size/\v.ownBlock≠some b/\ ¬X b->b < c.heap.size/\j.ownBlock≠some b/\ ¬X b:=fun b g=> by
  refine⟨aY g.1 f.size,fun l=> ?_,g.2.2⟩;rcases A b l with y|y
  · exact g.2.1 y
  · omega
 have u: ∀b,b < w.heap.size/\v.ownBlock≠some b/\ ¬X b->c.heap[b]? =w.heap[b]? :=fun b g=> f.block b g.1 (fun l=> g.2.1 l.symm)
 have C:T8 X W c e j (k++ [tr]):=⟨_,by simpa using I,I1.snoc (hT.mono hS u) [] r.1 (E.mono hS u)⟩;unfold Oper.wp execOp;simp only[F,resolve,invoke,builtin,Sem.run_bind,Sem.run_pure,Result.andThen_ok,List.map_toArray,List.map_cons,List.map_nil,hs,hx,hr];exact h j c C hB
theorem KE{P:Program}(w:aL){ops:Array Oper}{rest:List Oper}{o:Oper}{a:Act}{Q:Exit->Act->aL->Prop}(l:o.guard=none)(s x:Operand)(t:aZ)
 (u:o.op= .call {callee:= .builtin .append,args:=#[s,x],argTypes:=#[t,t]})
 (e:aZ) (i:TypeInfo) (z:aT) (ht:P.underlying t=some (.slice e)) (hi:P.info? e=some i) (p:i.zero=some z) (c:i.size=3) (k:i.bytes=40) (m:z.cells.size=3)
 {X:Nat->Prop} {W:aL} {v:aT} {g:List Tr} {tr:Tr} {v0 v1 v2:aT} {n:Nat} (hs:a.eval s=v) (hG:T8 X W w e v g) (q:W.heap.size<=w.heap.size)
 (hT:InT w (fun b=> b < w.heap.size/\v.ownBlock≠some b/\ ¬X b) tr (.agg #[v0,v1,v2]))
 (hx:a.eval x= .slice (some ⟨n,0,none⟩) 1 1) (j:w.heap[n]? =some (.cells #[v0,v1,v2] e (0,0))) (hn:g.length < 1099511627776)
 (h: ∀f d,T8 X W d e f (g++ [tr])->Below W.heap.size w d->wpList P ops Q rest (a.put o.dst f) d) (y: ∀b,X b->b < W.heap.size):wpList P ops Q (o::rest) a w:=
 wpList_plain l fun K hK=> Hw w s x t u e i z ht hi p c k m hs hG q hT hx j hn (fun f d A r=> hK _ _ (h f d A r)) y
theorem aK{P:Program}(w:aL){ops:Array Oper}{o:Oper}{a:Act}{K:Act->aL->Prop}{Q:Exit->Act->aL->Prop}{E:Prop}(k:o.guard=none)(s x:Operand)(t:aZ)
 (u:o.op= .call {callee:= .builtin .append,args:=#[s,x],argTypes:=#[t,t]})
 (e:aZ) (i:TypeInfo) (z:aT) (ht:P.underlying t=some (.slice e)) (hi:P.info? e=some i) (q:i.zero=some z) (c:i.size=3) (j:i.bytes=40) (l:z.cells.size=3)
 {X:Nat->Prop} {W:aL} {v:aT} {d:List Tr} {tr:Tr} {v0 v1 v2:aT} {n:Nat} (hs:a.eval s=v) (hG:T8 X W w e v d) (r:W.heap.size<=w.heap.size)
 (hT:InT w (fun b=> b < w.heap.size/\v.ownBlock≠some b/\ ¬X b) tr (.agg #[v0,v1,v2]))
 (hx:a.eval x= .slice (some ⟨n,0,none⟩) 1 1) (f:w.heap[n]? =some (.cells #[v0,v1,v2] e (0,0))) (hn:d.length < 1099511627776)
 (h: ∀m g,T8 X W g e m (d++ [tr])->Below W.heap.size w g->K (a.put o.dst m) g) (y: ∀b,X b->b < W.heap.size):
 if Region.wanted o (yielded ops a.tmps)=true then Oper.wp P o a w K Q else E:=by
 have p:Region.wanted o (yielded ops a.tmps)=true:=by simp[Region.wanted,k]
 rw[if_pos p];exact Hw w s x t u e i z ht hi q c j l hs hG r hT hx f hn h y
theorem W0.inT{w a:aL}{e:aZ}{t:Tr}{v:aT}(h:W0 w a e t v):InT a (fun b=> w.heap.size<=b/\b < a.heap.size) t v:=by
 obtain⟨L,h,hf⟩:=h;exact InT.mono (fun b c=> hf.2 b c) (fun _ _=> rfl) h.inT
end Go.Proofs.YtckhbnmfnpolgaaGreat
namespace Go.Proofs.YtckhbnmfnpolgaaGreat
open Go.RowKit Go.ChangeShapes Go.WideShapes Go.Deep
def Sa(w:aL)(A:Option Addr)(ns:List Int):Prop:=ns= []\/ ∃b o,A=some ⟨b,o,none⟩/\b < w.heap.size/\ ∀j (h:j < ns.length),w.cell? ⟨b,o+j,none⟩=some (.int .i64 ns[j])
theorem Sa.ext{w a:aL}{A:Option Addr}{ns:List Int}(h:Sa w A ns)(c:Ext w a):Sa a A ns:=by
 rcases h with h|⟨b,o,rfl,e,hc⟩
 · exact .inl h
 · exact .inr ⟨b,o,rfl,aY e c.size,fun j d=> c.cell (hc j d)⟩
theorem Sa.get{w c:aL}{A:Option Addr}{ns:List Int}(h:Sa w A ns)(d:Ext w c){j:Nat}(a:j < ns.length): ∃b o,A=some ⟨b,o,none⟩/\c.cell? ⟨b,o+j,none⟩=some (m0 ns[j]):=by
 rcases h with rfl|⟨b,o,rfl,e,hc⟩
 · exact absurd a (by simp)
 · exact⟨b,o,rfl,d.cell (hc j a)⟩
theorem At.nums{w:aL}{A:Option Addr}{ns:List Int}(h:Sa w A ns):At w (fun a=> Sa a A ns):=fun _ hx=> h.ext hx
section
variable {H : Type} {enc : aZ × aT → H} {P : Program} {w : aL} {spare : Nat → Bool} {held : Bool}
theorem By{s i:aZ}(hs:P.underlying s=some (.slice i))(hi:P.underlying i=some (.int .i64))(ci:P.cellsOf i=1){r:Reach}{B:Nat}{v:aT}{d:DataW H}{p:List MemPlace}(hv:Value.okWide P w r B s v)(h:DataW.Trod enc P w 0 spare held s v d p):
 ∃(A:Option Addr) (cap:Nat) (ns:List Int),v= .slice A ns.length cap/\ns.length<=cap/\cap<=aV/\Sa w A ns:=by
 obtain⟨L,J,K,rfl⟩:=okWide_slice hs hv;obtain⟨fuel,hf⟩:=h;rcases DataW.trod_slice hs hf with⟨c,_⟩ |⟨a,len,cap,q,rest,n,rfl,c,_,_,hl,hm,u,F,_,_⟩
 · simp only[Value.cells,eV,and_true] at c
   exact⟨none,0, [],c,aN _,bV _,.inl rfl⟩
 · have D: ∀j,j < len-> ∃x:Int,w.cell? (a.add j)=some (m0 x):=by
    intro j t;have l:=F j t;rw[List.getElem?_eq_getElem (by omega)] at l;obtain⟨E,I,C⟩:=Option.bind_eq_some_iff.1 l;obtain⟨x,rfl,_,_⟩:=DataW.trod_int hi C;obtain⟨_,_,e⟩:=World.cells?_some I;rw[ci] at e;have g:=e 0 (by omega);rw[Nat.mul_one] at g;have m: ∀y:Addr,y.add 0=y:=fun y=> by simp[Addr.add]
    rw[m] at g;exact⟨x,g⟩
   obtain⟨ns,G,z⟩:=DE len D;subst G;simp only[Value.cells,eV,and_true] at c;refine⟨some a,cap,ns,c,hl,hm, ?_⟩;cases ns with
   |nil=> exact .inl rfl
   |cons t0 ts=>
    obtain⟨b,o,f⟩:=a;have k:b < w.heap.size/\f=none:=by
     have g:=z 0 (by simp);have m:(⟨b,o,f⟩:Addr).add 0=⟨b,o,f⟩:=by simp[Addr.add]
     rw[m] at g;exact⟨World.block_lt_of_cell? _ _ g,by simpa using World.cell?_spot g⟩
    obtain⟨k,rfl⟩:=k;refine .inr ⟨b,o,rfl,k,fun j t=> ?_⟩;have g:=z j t;rw[EE] at g;exact g
end
def Ms(f:Int):Int:=if f=1\/f=2\/f=4 then 2 else if f=3\/f=5\/f=6 then 1 else -1
def Ut(f:Int)(ns:List Int):Bool:=decide (Ms f=(ns.length:Int))&& ns.all (fun n=> db n 0 20)
def oG(f:Int)(ns:List Int):Int×Bool:=
 if Ut f ns=true then
  match ns with
  | [a]=>(if f=3 then(if a=0 then 0 else a - 1) else if f=6 then 2*a else if a=0 then 1 else 0,true)
  | [a,b]=>(if f=1 then a+b else if f=2 then a*b else if a < b then 0 else a - b,true)
  |_=>(0,false)
 else(0,false)
theorem fy{f:Int}{ns:List Int}(h:Ut f ns=true):(∃a b,ns= [a,b]/\0<=a/\a<=20/\0<=b/\b<=20/\(f=1\/f=2\/f=4))\/(∃a,ns= [a]/\0<=a/\a<=20/\(f=3\/f=5\/f=6)):=by
 unfold Ut at h;rw[aW] at h;have d:=of_decide_eq_true h.1;have g:=h.2;rw[List.all_eq_true] at g;unfold Ms at d;by_cases i:f=1\/f=2\/f=4
 · rw[if_pos i] at d
   match ns,d with
   | [a,b],_=>
    have e:=Pg.1 (g a (by simp));have k:=Pg.1 (g b (by simp));exact .inl ⟨a,b,rfl,e.1,e.2,k.1,k.2,i⟩
   | [],d=> simp at d
   | [a],d=> simp at d
   |a::b::c::ts,d=> simp at d;omega
 · rw[if_neg i] at d
   by_cases j:f=3\/f=5\/f=6
   · rw[if_pos j] at d
     match ns,d with
     | [a],_=>
      have e:=Pg.1 (g a (by simp));exact .inr ⟨a,rfl,e.1,e.2,j⟩
     | [],d=> simp at d
     |a::b::ts,d=> simp at d;omega
   · rw[if_neg j] at d
     omega
end Go.Proofs.YtckhbnmfnpolgaaGreat
namespace Go.Proofs.YtckhbnmfnpolgaaGreat
open Go.RowKit
def vl(p:Tr->Bool):List Tr->Nat->Int
 | [],_=> -1
 |t::ts,j=> if p t=true then(j:Int) else vl p ts (j+1)
theorem XC(p:Tr->Bool): ∀(ts:List Tr) (j:Nat),decide (0<=vl p ts j)=ts.any p
 | [],j=> by simp[vl]
 |t::ts,j=> by
  unfold vl;cases h:p t
  · simp[h,XC p ts (j+1)]
  · simp[h]
theorem Tf(k:Int)(w:aL):aX prog 154 #[m0 k] w fun e b=> e= .returned (m0 (U0 k))/\w=b:=by
 by_cases h:1<=k/\k<=16
 · rcases(by omega:k=1\/k=2\/k=3\/k=4\/k=5\/k=6\/k=7\/k=8\/k=9\/k=10\/k=11\/k=12\/k=13\/k=14\/k=15\/k=16) with rfl|rfl|rfl|rfl|rfl|rfl|rfl|rfl|rfl|rfl|rfl|rfl|rfl|rfl|rfl|rfl
   all_goals
    go_enter func154,ntmps154;go_wp2_with fail;go_ret;exact⟨rfl,rfl⟩
 · have e:U0 k= -1:=by
    unfold U0
    repeat rw[if_neg (by omega)]
   have q:(k==1)=false:=by simp;omega
   have p:(k==2)=false:=by simp;omega
   have o:(k==3)=false:=by simp;omega
   have r:(k==4)=false:=by simp;omega
   have l:(k==5)=false:=by simp;omega
   have n:(k==6)=false:=by simp;omega
   have s:(k==7)=false:=by simp;omega
   have m:(k==8)=false:=by simp;omega
   have t:(k==9)=false:=by simp;omega
   have c:(k==10)=false:=by simp;omega
   have a:(k==11)=false:=by simp;omega
   have d:(k==12)=false:=by simp;omega
   have f:(k==13)=false:=by simp;omega
   have i:(k==14)=false:=by simp;omega
   have j:(k==15)=false:=by simp;omega
   have g:(k==16)=false:=by simp;omega
   have E:=hdq e;clear e h;go_enter func154,ntmps154;go_wp2_with fail;go_ret;exact⟨by rw[E.out];rfl,rfl⟩
theorem It(k:Int)(w:aL):aX prog 153 #[m0 k] w fun e a=> e= .returned (m0 (Ma k))/\w=a:=by
 by_cases h:1<=k/\k<=2
 · rcases(by omega:k=1\/k=2) with rfl|rfl
   all_goals
    go_enter func153,ntmps153;go_wp2_with fail;go_ret;exact⟨rfl,rfl⟩
 · have e:Ma k=0:=by
    unfold Ma
    repeat rw[if_neg (by omega)]
   have c:(k==1)=false:=by simp;omega
   have b:(k==2)=false:=by simp;omega
   have E:=hdq e;clear e h;go_enter func153,ntmps153;go_wp2_with fail;go_ret;exact⟨by rw[E.out];rfl,rfl⟩
def yI(t:Tr):Prop:= ∀(w:aL) (v:aT) (a:Int),Lies w t v-> -1<=a->a<=40->
 aX prog 113 #[v,.int .i64 a] w fun e b=> e= .returned (.bool (P0 D0 t a))/\Ext w b
theorem gG: ∀t:Tr,yI t:=Tr.ind fun k n c hk=> by
 intro w v a B fu kj;obtain⟨A,cap,rfl,hl,hc,h⟩:=Lies.mk_iff.1 B;clear B;have D:=hc;unfold aV at D;have e:P0 D0 (.mk k n c) a=(decide (1<=a)&&(decide (U0 k=(c.length:Int))&& db n 0 (Ma k)&& Z8 D0 c (a - 1))):=by
  unfold P0 ni;rfl
 have E:=hdq e;clear e;by_cases U:a < 1
 · have g:P0 D0 (.mk k n c) a=false:=by
    rw[E.out];rw[decide_eq_false (by omega: ¬1<=a)];rfl
   replace E:=hdq g;clear g;have Y:decide (a < 1)=true:=decide_eq_true U;go_enter func113,ntmps113;go_wp2_with fail;have hE:=(xr w).alloc (.cells #[.int .i64 k,.int .i64 n,.slice A c.length cap] 25);have d:=(Xd (xr (w.alloc (.cells #[.int .i64 k,.int .i64 n,.slice A c.length cap] 25)))).1;generalize w.alloc _=W at hE d;obtain⟨p,q,s⟩:=y32.own3 d;have x:=hdq d;clear d;refine Al (by kernel_rfl) (by kernel_rfl) ?_
   repeat (go_big_quiet_step (first|(go_at_call 154;exact Vd (Tf _ _)) |(go_at_call 153;exact Vd (It _ _))))
   refine jP ?_;intro y f;obtain⟨⟨_,m⟩,rfl⟩:=f;clear p q s;have l:=hE.trans m;go_wp2_with fail;go_ret;exact⟨by rw[E.out];rfl,l⟩
 have Y:decide (a < 1)=false:=decide_eq_false U;by_cases C: ¬U0 k=(c.length:Int)
 · have g:P0 D0 (.mk k n c) a=false:=by
    rw[E.out];rw[decide_eq_false C];simp
   replace E:=hdq g;clear g;have d2:(U0 k !=(c.length:Int))=true:=by rw[bne_iff_ne];exact C
   go_enter func113,ntmps113;go_wp2_with fail;have hE:=(xr w).alloc (.cells #[.int .i64 k,.int .i64 n,.slice A c.length cap] 25);have d:=(Xd (xr (w.alloc (.cells #[.int .i64 k,.int .i64 n,.slice A c.length cap] 25)))).1;generalize w.alloc _=W at hE d;obtain⟨p,q,s⟩:=y32.own3 d;have x:=hdq d;clear d;refine Al (by kernel_rfl) (by kernel_rfl) ?_
   repeat (go_big_quiet_step (first|(go_at_call 154;exact Vd (Tf _ _)) |(go_at_call 153;exact Vd (It _ _))))
   refine jP ?_;intro y f;obtain⟨⟨_,m⟩,rfl⟩:=f;clear p q s;have l:=hE.trans m;go_wp2_with fail;go_ret;exact⟨by rw[E.out];rfl,l⟩
 have d2:(U0 k !=(c.length:Int))=false:=by simpa using C
 by_cases I:n < 0
 · have g:P0 D0 (.mk k n c) a=false:=by
    rw[E.out];rw[fD.2 (.inl I)];simp
   replace E:=hdq g;clear g;have Z:decide (n < 0)=true:=decide_eq_true I;go_enter func113,ntmps113;go_wp2_with fail;have hE:=(xr w).alloc (.cells #[.int .i64 k,.int .i64 n,.slice A c.length cap] 25);have d:=(Xd (xr (w.alloc (.cells #[.int .i64 k,.int .i64 n,.slice A c.length cap] 25)))).1;generalize w.alloc _=W at hE d;obtain⟨p,q,s⟩:=y32.own3 d;have x:=hdq d;clear d;refine Al (by kernel_rfl) (by kernel_rfl) ?_
   repeat (go_big_quiet_step (first|(go_at_call 154;exact Vd (Tf _ _)) |(go_at_call 153;exact Vd (It _ _))))
   refine jP ?_;intro y f;obtain⟨⟨_,m⟩,rfl⟩:=f;clear p q s;have l:=hE.trans m;go_wp2_with fail;go_ret;exact⟨by rw[E.out];rfl,l⟩
 have Z:decide (n < 0)=false:=decide_eq_false I;by_cases J:Ma k < n
 · have g:P0 D0 (.mk k n c) a=false:=by
    rw[E.out];rw[fD.2 (.inr J)];simp
   replace E:=hdq g;clear g;have X:decide (Ma k < n)=true:=decide_eq_true J;go_enter func113,ntmps113;go_wp2_with fail;have hE:=(xr w).alloc (.cells #[.int .i64 k,.int .i64 n,.slice A c.length cap] 25);have d:=(Xd (xr (w.alloc (.cells #[.int .i64 k,.int .i64 n,.slice A c.length cap] 25)))).1;generalize w.alloc _=W at hE d;obtain⟨p,q,s⟩:=y32.own3 d;have x:=hdq d;clear d;refine Al (by kernel_rfl) (by kernel_rfl) ?_
   repeat (go_big_quiet_step (first|(go_at_call 154;exact Vd (Tf _ _)) |(go_at_call 153;exact Vd (It _ _))))
   refine jP ?_;intro y f;obtain⟨⟨_,m⟩,rfl⟩:=f;clear p q s;have l:=hE.trans m;go_wp2_with fail;go_ret;exact⟨by rw[E.out];rfl,l⟩
 have X:decide (Ma k < n)=false:=decide_eq_false J;have hn:db n 0 (Ma k)=true:=Pg.2 ⟨by omega,by omega⟩;have g:P0 D0 (.mk k n c) a=Z8 D0 c (a - 1):=by
  rw[E.out,decide_eq_true (by omega:1<=a),decide_eq_true (by omega:U0 k=(c.length:Int)),hn];rfl
 replace E:=hdq g;clear g hn;go_enter func113,ntmps113;go_wp2_with fail;have hE:=(xr w).alloc (.cells #[.int .i64 k,.int .i64 n,.slice A c.length cap] 25);have d:=(Xd (xr (w.alloc (.cells #[.int .i64 k,.int .i64 n,.slice A c.length cap] 25)))).1;generalize w.alloc _=W at hE d;obtain⟨p,q,s⟩:=y32.own3 d;have x:=hdq d;clear d;refine Al (by kernel_rfl) (by kernel_rfl) ?_
 repeat (go_big_quiet_step (first|(go_at_call 154;exact Vd (Tf _ _)) |(go_at_call 153;exact Vd (It _ _))))
 refine jP ?_;intro y f;obtain⟨⟨_,m⟩,rfl⟩:=f;clear p q s;have l:=hE.trans m;obtain⟨L,R,S,-,-,-⟩:=own3 (m.blk x.out);have B3:=hdq (m.blk x.out);go_wp2_with fail;clear L R S
 go_loopw [5] (fun i wr=> ∃j:Nat,j<=c.length/\i= .int .i64 j/\Z8 D0 c (a - 1)=Z8 D0 (c.drop j) (a - 1)/\Ext y wr) (fun i _=> c.length -(intOf i).toNat)
 case atStart=> exact⟨0,bV _,rfl,rfl,xr _⟩
 case round=>
  obtain⟨j,hj,rfl,T,hx⟩:=hrel;have K:=hdq T;obtain⟨L,R,S,-,-,-⟩:=own3 (hx.blk B3.out);clear T;by_cases z:j < c.length
  · obtain⟨b,o,O,M,A2,F7,kids,rfl,V,c0,c1,c2,I5,I3,hK,B,e9⟩:=h.get (l.trans hx) z
    have F:=cL z;rw[V.out] at F;have u:Z8 D0 (c.drop j) (a - 1)=(P0 D0 (.mk O M kids) (a - 1)&& Z8 D0 (c.drop (j+1)) (a - 1)):=by rw[F];conv=> lhs;unfold Z8
    clear F;go_wp2_with fail;refine(hk _ e9 wr _ (a - 1) B (by omega) (by omega)).mono ?_;rintro e w4 ⟨rfl,N⟩;generalize P0 D0 (.mk O M kids) (a - 1)=r at u;have Q:=hdq u;clear u;cases r with
    |false=>
     go_wp2_with fail;go_ret;exact⟨by rw[E.out,K.out,Q.out];rfl,l.trans (hx.trans N)⟩
    |true=>
     go_wp2_with fail
     go_roundw
     case rel=> exact⟨j+1,by omega,by go_num,by rw[K.out,Q.out];rfl,hx.trans N⟩
     case measure=> simp[intOf];omega
  · go_wp2_with fail
    go_ret;have G:c.drop j= []:=cV (by omega);exact⟨by rw[E.out,K.out,G];simp only[Z8];rfl,l.trans hx⟩
def DI(t:Tr):Prop:= ∀(w:aL) (v:aT) (most:Int),Lies w t v->0<=most->most<=1000000->
 aX prog 114 #[v,.int .i64 most] w fun e a=> e= .returned (.int .i64 (Hb t most))/\Ext w a
theorem xI: ∀t:Tr,DI t:=Tr.ind fun k n a hk=> by
 intro w v most l F Em;obtain⟨A,cap,rfl,hl,hc,h⟩:=Lies.mk_iff.1 l;clear l;have p:=hc;unfold aV at p;have e:Hb (.mk k n a) most=Ve a most 1:=by unfold Hb;rfl
 have E:=hdq e;clear e;go_enter func114,ntmps114;go_wp2_with fail;have hE:=(xr w).alloc (.cells #[.int .i64 k,.int .i64 n,.slice A a.length cap] 25);have C:=(Xd (xr (w.alloc (.cells #[.int .i64 k,.int .i64 n,.slice A a.length cap] 25)))).1;generalize w.alloc _=W at hE C;have J:=hdq C;clear C
 go_loopw [5,6] (fun q i wr=> ∃(j:Nat) (m:Int),j<=a.length/\i= .int .i64 j/\q= .int .i64 m/\1<=m/\m<=most+1/\Ve a most 1=Ve (a.drop j) most m/\Ext W wr) (fun _ i _=> a.length -(intOf i).toNat)
 case atStart=> exact⟨0,1,bV _,rfl,rfl,by omega,by omega,rfl,xr _⟩
 case round=>
  obtain⟨j,m,Y,rfl,rfl,Z,Q,D,hx⟩:=hrel;have B:=hdq D;obtain⟨M,O,R,-,-,-⟩:=own3 (hx.blk J.out);clear D;by_cases f:j < a.length
  · have dl:decide ((j:Int) <(a.length:Int))=true:=decide_eq_true (by omega)
    obtain⟨b,o,z,u,S,V,kids,rfl,G,X,c1,N,T,U,hK,l,K⟩:=h.get (hE.trans hx) f;have s:=cL f;rw[G.out] at s;have c:Ve (a.drop j) most m=if m<=most then Ve (a.drop (j+1)) most (m+Hb (.mk z u kids) (most - m)) else m:=by rw[s];conv=> lhs;unfold Ve
    clear s;by_cases d:m<=most
    · rw[if_pos d] at c
      have g:=hdq c;have L:decide (m<=most)=true:=decide_eq_true d;have y:=go (.mk z u kids) (most - m) (by omega);clear c;go_wp2_with fail;refine(hk _ K wr _ (most - m) l (by omega) (by omega)).mono ?_;rintro e w4 ⟨rfl,I⟩;generalize Hb (.mk z u kids) (most - m)=r at y g;go_wp2_with fail
      go_roundw
      case rel=> exact⟨j+1,m+r,by omega,by go_num,rfl,by omega,by omega,by rw[B.out,g.out],hx.trans I⟩
      case measure=> simp[intOf];omega
    · rw[if_neg d] at c
      have g:=hdq c;have L:decide (m<=most)=false:=decide_eq_false d;clear c;go_wp2_with fail;go_ret;exact⟨by rw[E.out,B.out,g.out];rfl,hE.trans hx⟩
  · have dl:decide ((j:Int) <(a.length:Int))=false:=decide_eq_false (by omega)
    go_wp2_with fail;go_ret;have x:a.drop j= []:=cV (by omega);exact⟨by rw[E.out,B.out,x];simp only[Ve];rfl,hE.trans hx⟩
theorem ro(t:Tr)(w:aL)(v:aT)(d:Lies w t v):aX prog 22 #[v] w fun e g=> e= .returned (.bool (j0 D0 t))/\Ext w g:=by
 obtain⟨k,n,a⟩:=t;obtain⟨A,cap,rfl,hl,hc,h⟩:=Lies.mk_iff.1 d;have hs:=(kI D0 (.mk k n a)).1;have f:=hdq hs;clear hs;go_enter func22,ntmps22;go_wp2_with fail;have hE:=((xr w).alloc (H0 k n A a.length cap)).alloc (.cells #[m0 0] 3);have c:=(blk2 (xr ((w.alloc (H0 k n A a.length cap)).alloc (.cells #[m0 0] 3)))).2.1;refine(j145 (.mk k n a) _ w.heap.size _ _ 1 0 (InT.mono (fun _ h=> h) (fun b c=> hE.heap b c) d) (by omega) c (by omega) (by omega) (by omega) (by omega)).mono ?_;rintro e i ⟨rfl,-,j⟩;have hx:Ext w i:=Below.trans hE j;rw[f.out];go_wp2_with fail;go_ret;exact⟨rfl,hx⟩
theorem li(t:Tr)(w:aL)(v:aT)(c:Lies w t v):aX prog 71 #[v] w fun e j=> e= .returned (.bool (j0 D0 t))/\Ext w j:=by
 have hv:=XE (g:=D0) (t:=t);have hm:=go t 400 (by omega);have hS:=fun W (b:Ext w W)=> gG t W v 30 (c.ext b) (by omega) (by omega)
 have hC:=fun W (b:Ext w W)=> xI t W v 400 (c.ext b) (by omega) (by omega)
 have i:=hdq hS;have m:=hdq hC;clear hS hC;obtain⟨k,n,f⟩:=t;obtain⟨A,cap,rfl,hl,hc,h⟩:=Lies.mk_iff.1 c;go_enter func71,ntmps71;go_wp2_with fail;refine(i.out _ ((xr w).alloc _)).mono ?_;rintro e r ⟨rfl,a⟩;obtain⟨p,u,o,-,-,-⟩:=own3 a.newBlk;generalize P0 D0 (.mk k n f) 30=s at hv;cases s with
 |false=>
  have d:=hdq hv;clear hv hm;go_wp2_with fail;go_ret;exact⟨by rw[d.out];rfl,a.pre⟩
 |true=>
  have d:=hdq hv;clear hv hm;go_wp2_with fail;refine(m.out _ a.pre).mono ?_;rintro e q ⟨rfl,l⟩;go_wp2_with fail
  all_goals go_ret
  all_goals exact⟨by rw[d.out];simp[*],a.pre.trans l⟩
theorem yB{g:Wc}: ∀{a:List Tr} {d:Int} {t:Tr},Z8 g a d=true->t∈a->P0 g t d=true
 |x::a,d,t,h,hm=> by
  simp only[Z8,aW] at h;rcases List.mem_cons.1 hm with rfl|hm
  · exact h.1
  · exact yB h.2 hm
theorem zw{g:Wc}{k n:Int}{a:List Tr}{d:Int}(h:P0 g (.mk k n a) d=true):g.ops k=(a.length:Int)/\0<=n/\n<=g.most k/\ ∀t∈a,P0 g t (d - 1)=true:=by
 simp only[P0,ni,aW] at h;have c:=of_decide_eq_true h.2.1.1;have b:=Pg.1 h.2.1.2;exact⟨c,b.1,b.2,fun t ht=> yB h.2.2 ht⟩
theorem Ext.below{W a w:aL}(h:Ext a w)(c:W.heap.size<=a.heap.size):Below W.heap.size a w:=⟨h.os,h.tape,h.output,h.size,fun b d=> h.heap b (aY d c)⟩
theorem Ext.trans'{W a b c:aL}(h:Ext a b)(k:Below W.heap.size b c)(d:a.heap.size<=W.heap.size):Ext a c:=Below.trans h (Below.mono k d)
theorem W0.three'{w a:aL}{e:aZ}{t:Tr}{u:aT}(h:W0 w a e t u): ∃k n A l c,u= M0 k n A l c:=by
 obtain⟨k,n,b⟩:=t;obtain⟨A,cap,rfl,_⟩:=W0.mk_iff.1 h;exact⟨k,n,A,_,cap,rfl⟩
attribute [local go_sem ↓] Go.wp_at_zero Go.wp_at_succ
