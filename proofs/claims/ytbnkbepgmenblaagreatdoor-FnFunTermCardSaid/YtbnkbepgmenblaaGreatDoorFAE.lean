/-
  Lemmas towards the law, 5: Base, Ord.
-/
import Derived.Deep.Draws
import Derived.Lib.Hide
import Derived.OrdersHeld
import Derived.ProofKit
import Derived.WalkKit
set_option linter.unusedVariables false
namespace Go.Proofs.YtbnkbepgmenblaaGreatDoor
theorem hdq{p:Prop}(h:p):Go.RowKit.Hid p:=h
open Go.RowKit
inductive Tr where
 |mk (k n:Int) (ks:List Tr)
def Tr.kind:Tr->Int| .mk k _ _=> k
def Tr.num:Tr->Int| .mk _ n _=> n
def Tr.kids:Tr->List Tr| .mk _ _ ks=> ks
theorem Tr.ind{P:Tr->Prop}(h: ∀k n ks,(∀t∈ks,P t)->P (.mk k n ks)): ∀t,P t:=fun t=>
 Tr.rec (motive_1:=P) (motive_2:=fun ks=> ∀t∈ks,P t) (fun k n ks ih=> h k n ks ih) (fun _ hm=> by cases hm)
  (fun t ts ht qo x hx=> by
   rcases List.mem_cons.1 hx with rfl|hx
   · exact ht
   · exact qo x hx) t
mutual
def cnt:Tr->Nat
 | .mk _ _ ks=> cnts ks+1
def cnts:List Tr->Nat
 | []=> 0
 |t::ts=> cnt t+cnts ts
end
theorem j133(t:Tr):0 < cnt t:=by
 cases t
 unfold cnt;omega
theorem j23: ∀ks:List Tr,ks.length<=cnts ks
 | []=> by simp
 |t::ts=> by
  have:=j23 ts;have:=j133 t;simp only[List.length_cons,cnts];omega
theorem q16: ∀{ks:List Tr} {t:Tr},t∈ks->cnt t<=cnts ks
 |x::ts,t,h=> by
  rcases List.mem_cons.1 h with rfl|h
  · simp only[cnts];omega
  · have:=q16 h
    simp only[cnts];omega
mutual
def eqTr:Tr->Tr->Bool
 | .mk k n ks,.mk k' n' ks'=> k==k' &&(n==n' && eqTs ks ks')
def eqTs:List Tr->List Tr->Bool
 | [], []=> true
 |t::ts,t'::ax=> eqTr t t' && eqTs ts ax
 |_,_=> false
end
theorem y144: ∀{a b:List Tr},eqTs a b=true->a.length=b.length
 | [], [],_=> rfl
 |x::a,y::b,h=> by
  unfold eqTs at h;simp only[Bool.and_eq_true] at h;simp[y144 h.2]
 | [],y::b,h=> by unfold eqTs at h;cases h
 |x::a, [],h=> by unfold eqTs at h;cases h
mutual
theorem j191: ∀{a b:Tr},eqTr a b=true->a=b
 | .mk k n ks,.mk k' n' ks',h=> by
  unfold eqTr at h;simp only[Bool.and_eq_true,beq_iff_eq] at h;obtain⟨rfl,rfl,h⟩:=h;rw[y171 h]
theorem y171: ∀{a b:List Tr},eqTs a b=true->a=b
 | [], [],_=> rfl
 |x::a,y::b,h=> by
  unfold eqTs at h;simp only[Bool.and_eq_true] at h;rw[j191 h.1,y171 h.2]
 | [],y::b,h=> by unfold eqTs at h;cases h
 |x::a, [],h=> by unfold eqTs at h;cases h
end
mutual
theorem q92: ∀a:Tr,eqTr a a=true
 | .mk k n ks=> by
  unfold eqTr;simp[q124 ks]
theorem q124: ∀a:List Tr,eqTs a a=true
 | []=> by unfold eqTs;rfl
 |x::a=> by
  unfold eqTs;simp[q92 x,q124 a]
end
theorem y88{a b:Tr}:eqTr a b=true↔a=b:=⟨j191,fun h=> h▸q92 a⟩
instance:DecidableEq Tr:=fun a b=> decidable_of_iff _ y88
def Ext(w w':World):Prop:=Below w.heap.size w w'
theorem xr(w:World):Ext w w:=Below.refl _ _
theorem Ext.size{w w':World}(h:Ext w w'):w.heap.size<=w'.heap.size:=Below.size h
theorem Ext.trans{a b c:World}(h:Ext a b)(k:Ext b c):Ext a c:=Below.trans h (Below.mono k h.size)
theorem Ext.drew{a b:World}(h:Ext a b):Ext a b.drew:=Below.drew h
theorem Ext.drewN{a b:World}(h:Ext a b)(n:Nat):Ext a (b.drewN n):=⟨h.os,h.tape,h.output,h.size,h.block⟩
theorem Ext.alloc{a b:World}(h:Ext a b)(o:Obj):Ext a (b.alloc o):=Below.alloc h h.size o
theorem Ext.setCell{a b:World}(h:Ext a b){p:Addr}(hp:a.heap.size<=p.block)(u:Value):Ext a (b.setCell p u):=Below.setCell h hp u
theorem Ext.grown{a b c:World}(h:Ext a b){row:Option Nat}(hg:b.grownBy c row)(hr: ∀k,row=some k->a.heap.size<=k):Ext a c:=Below.grown h hg h.size hr
theorem Ext.heap{w w':World}(h:Ext w w')(b:Nat)(hb:b < w.heap.size):w'.heap[b]? =w.heap[b]? :=Below.block h b hb
theorem Ext.cell{w w':World}(h:Ext w w'){b o:Nat}{v:Value}(hb:w.cell? ⟨b,o,none⟩=some v):w'.cell? ⟨b,o,none⟩=some v:=
 (Below.cell (p:=⟨b,o,none⟩) h (World.block_lt_of_cell? _ _ hb)).trans hb
theorem Ext.blk{w w':World}(h:Ext w w'){b:Nat}{x:Obj}(hb:w.heap[b]? =some x):w'.heap[b]? =some x:=
 (h.heap b (Array.getElem?_eq_some_iff.1 hb).1).trans hb
theorem Ext.size_alloc{w w':World}{o:Obj}(h:Ext (w.alloc o) w'):w.heap.size < w'.heap.size:=by
 have:=h.size;simp at this
 omega
theorem Ext.pre{w w':World}{o:Obj}(h:Ext (w.alloc o) w'):Ext w w':=((xr w).alloc o).trans h
theorem Ext.newBlk{w w':World}{o:Obj}(h:Ext (w.alloc o) w'):w'.heap[w.heap.size]? =some o:=h.blk (heap_alloc_new w o)
theorem q14{w:World}{b:Nat}{cs:Array Value}{e:TypeId}(h:w.heap[b]? =some (.cells cs e (0,0)))(i:Nat):w.frozen? ⟨b,i,none⟩=false:=by simp[World.frozen?,h]
theorem q10{w:World}{b:Nat}{cs:Array Value}{e:TypeId}(h:w.heap[b]? =some (.cells cs e (0,0)))(i:Nat):w.cell? ⟨b,i,none⟩=cs[i]? :=cell_of_row w b i cs e (0,0) h
theorem j10{w:World}{b:Nat}{x:Obj}(h:w.heap[b]? =some x):b < w.heap.size:=(Array.getElem?_eq_some_iff.1 h).1
theorem q11{w:World}{b:Nat}{cs:Array Value}{e:TypeId}(h:w.heap[b]? =some (.cells cs e (0,0)))(i:Nat)(u:Value):(w.setCell ⟨b,i,none⟩ u).heap[b]? =some (.cells (cs.setIfInBounds i u) e (0,0)):=by
 simp[World.setCell,Array.getElem?_modify,h]
theorem q12{w:World}{b:Nat}{x:Obj}(h:w.heap[b]? =some x){p:Addr}(hp:b≠p.block)(u:Value):(w.setCell p u).heap[b]? =some x:=(Below.heap_setCell w p u b hp).trans h
theorem q176{w:World}{b:Nat}{x:Obj}(h:w.heap[b]? =some x)(o:Obj):(w.alloc o).heap[b]? =some x:=(Below.heap_alloc w o b (j10 h)).trans h
mutual
def InT(w:World)(S:Nat->Prop):Tr->Value->Prop
 | .mk k n ks,v=> ∃A cap,v= .agg #[.int .i64 k,.int .i64 n,.slice A ks.length cap]/\ks.length<=cap/\cap<=maxLen/\(ks= []\/ ∃b o,A=some ⟨b,o,none⟩/\S b/\InL w S b o ks)
def InL(w:World)(S:Nat->Prop)(b:Nat):Nat->List Tr->Prop
 |_, []=> True
 |o,t::ts=>(∃v0 v1 v2,w.cell? ⟨b,o,none⟩=some v0/\w.cell? ⟨b,o+1,none⟩=some v1/\w.cell? ⟨b,o+2,none⟩=some v2/\InT w S t (.agg #[v0,v1,v2]))/\InL w S b (o+3) ts
end
def InK(w:World)(S:Nat->Prop)(A:Option Addr)(ks:List Tr):Prop:=ks= []\/ ∃b o,A=some ⟨b,o,none⟩/\S b/\InL w S b o ks
theorem InT.mk_iff{w:World}{S:Nat->Prop}{k n:Int}{ks:List Tr}{v:Value}:
 InT w S (.mk k n ks) v↔ ∃A cap,v= .agg #[.int .i64 k,.int .i64 n,.slice A ks.length cap]/\ks.length<=cap/\cap<=maxLen/\InK w S A ks:=by
 unfold InT InK;exact Iff.rfl
mutual
theorem InT.mono{w w':World}{S S':Nat->Prop}(hS: ∀b,S b->S' b)(hw: ∀b,S b->w'.heap[b]? =w.heap[b]?): ∀{t:Tr} {v:Value},InT w S t v->InT w' S' t v
 | .mk k n ks,v,h=> by
  unfold InT at h⊢;obtain⟨A,cap,rfl,h1,h2,h3⟩:=h;refine⟨A,cap,rfl,h1,h2, ?_⟩;rcases h3 with h3|⟨b,o,rfl,hb,hl⟩
  · exact .inl h3
  · exact .inr ⟨b,o,rfl,hS b hb,InL.mono hS hw hb hl⟩
theorem InL.mono{w w':World}{S S':Nat->Prop}(hS: ∀b,S b->S' b)(hw: ∀b,S b->w'.heap[b]? =w.heap[b]?){b:Nat}(hb:S b): ∀{o:Nat} {ks:List Tr},InL w S b o ks->InL w' S' b o ks
 |_, [],_=> by unfold InL;trivial
 |o,t::ts,h=> by
  unfold InL at h⊢;obtain⟨⟨v0,v1,v2,h0,h1,h2,ht⟩,qo⟩:=h;have hc: ∀i,w'.cell? ⟨b,i,none⟩=w.cell? ⟨b,i,none⟩:=fun i=> World.cell?_of_block (w:=w) (a:=⟨b,i,none⟩) (hw b hb)
  exact⟨⟨v0,v1,v2,(hc _).trans h0,(hc _).trans h1,(hc _).trans h2,InT.mono hS hw ht⟩,InL.mono hS hw hb qo⟩
end
theorem InK.mono{w w':World}{S S':Nat->Prop}(hS: ∀b,S b->S' b)(hw: ∀b,S b->w'.heap[b]? =w.heap[b]?){A:Option Addr}{ks:List Tr}(h:InK w S A ks):InK w' S' A ks:=by
 rcases h with h|⟨b,o,rfl,hb,hl⟩
 · exact .inl h
 · exact .inr ⟨b,o,rfl,hS b hb,InL.mono hS hw hb hl⟩
theorem InL.at_{w:World}{S:Nat->Prop}{b:Nat}: ∀{o:Nat} {ks:List Tr} {j:Nat},InL w S b o ks->(hj:j < ks.length)->
 ∃k n A cap kids,ks[j]= .mk k n kids/\w.cell? ⟨b,o+j*3,none⟩=some (.int .i64 k)/\w.cell? ⟨b,o+j*3+1,none⟩=some (.int .i64 n)/\w.cell? ⟨b,o+j*3+2,none⟩=some (.slice A kids.length cap)/\
  kids.length<=cap/\cap<=maxLen/\InK w S A kids
 |o, [],j,_,hj=> absurd hj (by simp)
 |o,t::ts,0,h,_=> by
  unfold InL at h;obtain⟨⟨v0,v1,v2,h0,h1,h2,ht⟩,_⟩:=h;obtain⟨k,n,kids⟩:=t;obtain⟨A,cap,hv,hl,hc,hk⟩:=InT.mk_iff.1 ht;simp only[Value.agg.injEq,Array.mk.injEq,List.cons.injEq,and_true] at hv;obtain⟨rfl,rfl,rfl⟩:=hv;exact⟨k,n,A,cap,kids,rfl,by simpa using h0,by simpa using h1,by simpa using h2,hl,hc,hk⟩
 |o,t::ts,j+1,h,hj=> by
  unfold InL at h;obtain⟨k,n,A,cap,kids,e,r⟩:=InL.at_ (j:=j) h.2 (by simpa using hj);have ea:o+3+j*3=o+(j+1)*3:=by omega
  rw[ea] at r;exact⟨k,n,A,cap,kids,by simpa using e,r⟩
theorem InK.at_{w:World}{S:Nat->Prop}{A:Option Addr}{ks:List Tr}{j:Nat}(h:InK w S A ks)(hj:j < ks.length):
 ∃b o k n A' cap kids,A=some ⟨b,o,none⟩/\S b/\ks[j]= .mk k n kids/\w.cell? ⟨b,o+j*3,none⟩=some (.int .i64 k)/\w.cell? ⟨b,o+j*3+1,none⟩=some (.int .i64 n)/\w.cell? ⟨b,o+j*3+2,none⟩=some (.slice A' kids.length cap)/\
  kids.length<=cap/\cap<=maxLen/\InK w S A' kids:=by
 rcases h with rfl|⟨b,o,rfl,hb,hl⟩
 · exact absurd hj (by simp)
 · obtain⟨k,n,A',cap,kids,r⟩:=hl.at_ hj
   exact⟨b,o,k,n,A',cap,kids,rfl,hb,r⟩
theorem InK.get{w w':World}{S:Nat->Prop}{A:Option Addr}{ks:List Tr}{j:Nat}(h:InK w S A ks)(he: ∀b,S b->w'.heap[b]? =w.heap[b]?)(hj:j < ks.length):
 ∃b o k n A' cap kids,A=some ⟨b,o,none⟩/\Hid (ks[j]= .mk k n kids)/\w'.cell? ⟨b,o+j*3,none⟩=some (.int .i64 k)/\w'.cell? ⟨b,o+j*3+1,none⟩=some (.int .i64 n)/\w'.cell? ⟨b,o+j*3+2,none⟩=some (.slice A' kids.length cap)/\
  kids.length<=cap/\cap<=maxLen/\InK w' S A' kids/\InT w' S (.mk k n kids) (.agg #[.int .i64 k,.int .i64 n,.slice A' kids.length cap])/\Tr.mk k n kids∈ks/\S b:=by
 obtain⟨b,o,k,n,A',cap,kids,e,hb,hk,c0,c1,c2,hl,hc,hK⟩:=InK.at_ h hj;have hcell: ∀i v,w.cell? ⟨b,i,none⟩=some v->w'.cell? ⟨b,i,none⟩=some v:=fun i v hv=>(World.cell?_of_block (w:=w) (a:=⟨b,i,none⟩) (he b hb)).trans hv
 have hK':=hK.mono (fun _ h=> h) he;exact⟨b,o,k,n,A',cap,kids,e,hdq hk,hcell _ _ c0,hcell _ _ c1,hcell _ _ c2,hl,hc,hK',InT.mk_iff.2 ⟨A',cap,rfl,hl,hc,hK'⟩,hk▸List.getElem_mem hj,hb⟩
theorem InL.drop{w:World}{S:Nat->Prop}{b:Nat}: ∀{o:Nat} {ks:List Tr} (j:Nat),InL w S b o ks->InL w S b (o+j*3) (ks.drop j)
 |o,ks,0,h=> by simpa using h
 |o, [],j+1,h=> by simp[InL]
 |o,t::ts,j+1,h=> by
  unfold InL at h;have:=InL.drop j h.2;have ea:o+3+j*3=o+(j+1)*3:=by omega
  rw[ea] at this
  simpa using this
theorem InL.take{w:World}{S:Nat->Prop}{b:Nat}: ∀{o:Nat} {ks:List Tr} (j:Nat),InL w S b o ks->InL w S b o (ks.take j)
 |o,ks,0,h=> by simp[InL]
 |o, [],j+1,h=> by simp[InL]
 |o,t::ts,j+1,h=> by
  unfold InL at h;simp only[List.take_succ_cons];unfold InL;exact⟨h.1,InL.take j h.2⟩
theorem InK.take{w:World}{S:Nat->Prop}{A:Option Addr}{ks:List Tr}(j:Nat)(h:InK w S A ks):InK w S A (ks.take j):=by
 rcases h with rfl|⟨b,o,rfl,hb,hl⟩
 · exact .inl (by simp)
 · exact .inr ⟨b,o,rfl,hb,hl.take j⟩
def Lies(w:World)(t:Tr)(v:Value):Prop:=InT w (fun b=> b < w.heap.size) t v
def y23(w:World)(A:Option Addr)(ks:List Tr):Prop:=InK w (fun b=> b < w.heap.size) A ks
theorem Lies.ext{w w':World}{t:Tr}{v:Value}(h:Lies w t v)(he:Ext w w'):Lies w' t v:=InT.mono (fun _ hb=> Nat.lt_of_lt_of_le hb he.size) (fun b hb=> he.heap b hb) h
theorem y23.ext{w w':World}{A:Option Addr}{ks:List Tr}(h:y23 w A ks)(he:Ext w w'):y23 w' A ks:=InK.mono (fun _ hb=> Nat.lt_of_lt_of_le hb he.size) (fun b hb=> he.heap b hb) h
theorem Lies.mk_iff{w:World}{k n:Int}{ks:List Tr}{v:Value}:
 Lies w (.mk k n ks) v↔ ∃A cap,v= .agg #[.int .i64 k,.int .i64 n,.slice A ks.length cap]/\ks.length<=cap/\cap<=maxLen/\y23 w A ks:=InT.mk_iff
theorem Lies.mk{w:World}{k n:Int}{ks:List Tr}{A:Option Addr}{cap:Nat}(hl:ks.length<=cap)(hc:cap<=maxLen)(h:y23 w A ks):Lies w (.mk k n ks) (.agg #[.int .i64 k,.int .i64 n,.slice A ks.length cap]):=
 Lies.mk_iff.2 ⟨A,cap,rfl,hl,hc,h⟩
theorem Lies.leaf(w:World)(k n:Int):Lies w (.mk k n []) (.agg #[.int .i64 k,.int .i64 n,.slice none 0 0]):=
 Lies.mk_iff.2 ⟨none,0,rfl,Nat.le_refl _,Nat.zero_le _,.inl rfl⟩
theorem y23.get{w w':World}{A:Option Addr}{ks:List Tr}{j:Nat}(h:y23 w A ks)(he:Ext w w')(hj:j < ks.length):
 ∃b o k n A' cap kids,A=some ⟨b,o,none⟩/\Hid (ks[j]= .mk k n kids)/\w'.cell? ⟨b,o+j*3,none⟩=some (.int .i64 k)/\w'.cell? ⟨b,o+j*3+1,none⟩=some (.int .i64 n)/\w'.cell? ⟨b,o+j*3+2,none⟩=some (.slice A' kids.length cap)/\
  kids.length<=cap/\cap<=maxLen/\y23 w' A' kids/\Lies w' (.mk k n kids) (.agg #[.int .i64 k,.int .i64 n,.slice A' kids.length cap])/\Tr.mk k n kids∈ks:=by
 obtain⟨b,o,k,n,A',cap,kids,e,_,hk,c0,c1,c2,hl,hc,hK⟩:=InK.at_ h hj;exact⟨b,o,k,n,A',cap,kids,e,hdq hk,he.cell c0,he.cell c1,he.cell c2,hl,hc,y23.ext hK he,Lies.mk hl hc (y23.ext hK he),hk▸List.getElem_mem hj⟩
mutual
def OwnT(w:World)(e:TypeId):Tr->Value->List Nat->Prop
 | .mk k n ks,v,L=> ∃A cap,v= .agg #[.int .i64 k,.int .i64 n,.slice A ks.length cap]/\ks.length<=cap/\cap<=maxLen/\
  ((ks= []/\L= [])\/ ∃b cs L',A=some ⟨b,0,none⟩/\w.heap[b]? =some (.cells cs e (0,0))/\L=b::L'/\OwnL w e cs.toList ks L')
def OwnL(w:World)(e:TypeId):List Value->List Tr->List Nat->Prop
 |_, [],L=> L= []
 |xs,t::ts,L=> ∃v0 v1 v2 rest L1 L2,xs=v0::v1::v2::rest/\OwnT w e t (.agg #[v0,v1,v2]) L1/\OwnL w e rest ts L2/\L=L1++L2
end
theorem OwnT.mk_iff{w:World}{e:TypeId}{k n:Int}{ks:List Tr}{v:Value}{L:List Nat}:OwnT w e (.mk k n ks) v L↔ ∃A cap,v= .agg #[.int .i64 k,.int .i64 n,.slice A ks.length cap]/\ks.length<=cap/\cap<=maxLen/\
 ((ks= []/\L= [])\/ ∃b cs L',A=some ⟨b,0,none⟩/\w.heap[b]? =some (.cells cs e (0,0))/\L=b::L'/\OwnL w e cs.toList ks L'):=by
 conv=> lhs;unfold OwnT
theorem OwnL.cons_iff{w:World}{e:TypeId}{xs:List Value}{t:Tr}{ts:List Tr}{L:List Nat}:OwnL w e xs (t::ts) L↔ ∃v0 v1 v2 rest L1 L2,xs=v0::v1::v2::rest/\OwnT w e t (.agg #[v0,v1,v2]) L1/\OwnL w e rest ts L2/\L=L1++L2:=by
 conv=> lhs;unfold OwnL
theorem OwnL.nil{w:World}{e:TypeId}{xs:List Value}:OwnL w e xs [] []:=by unfold OwnL;rfl
mutual
theorem OwnT.mono{w w':World}{e:TypeId}: ∀{t:Tr} {v:Value} {L:List Nat},OwnT w e t v L->(∀b,b∈L->w'.heap[b]? =w.heap[b]?)->OwnT w' e t v L
 | .mk k n ks,v,L,h,hw=> by
  unfold OwnT at h⊢;obtain⟨A,cap,rfl,h1,h2,h3⟩:=h;refine⟨A,cap,rfl,h1,h2, ?_⟩;rcases h3 with h3|⟨b,cs,L',rfl,hb,rfl,hl⟩
  · exact .inl h3
  · exact .inr ⟨b,cs,L',rfl,(hw b (by simp)).trans hb,rfl,OwnL.mono hl (fun x hx=> hw x (by simp[hx]))⟩
theorem OwnL.mono{w w':World}{e:TypeId}: ∀{xs:List Value} {ks:List Tr} {L:List Nat},OwnL w e xs ks L->(∀b,b∈L->w'.heap[b]? =w.heap[b]?)->OwnL w' e xs ks L
 |_, [],_,h,_=> by unfold OwnL at h⊢;exact h
 |xs,t::ts,L,h,hw=> by
  unfold OwnL at h⊢;obtain⟨v0,v1,v2,rest,L1,L2,rfl,h1,h2,rfl⟩:=h;exact⟨v0,v1,v2,rest,L1,L2,rfl,OwnT.mono h1 (fun x hx=> hw x (by simp[hx])),OwnL.mono h2 (fun x hx=> hw x (by simp[hx])),rfl⟩
end
theorem OwnL.snoc{w:World}{e:TypeId}{t:Tr}{v0 v1 v2:Value}{L':List Nat}(ht:OwnT w e t (.agg #[v0,v1,v2]) L')(tail:List Value): ∀{xs:List Value} {ks:List Tr} {L:List Nat},xs.length=ks.length*3->OwnL w e xs ks L->OwnL w e (xs++v0::v1::v2::tail) (ks++ [t]) (L++L')
 |xs, [],L,hx,h=> by
  have hx0:xs= []:=List.eq_nil_of_length_eq_zero (by simpa using hx);subst hx0;unfold OwnL at h;subst h;exact OwnL.cons_iff.2 ⟨v0,v1,v2,tail,L', [],rfl,ht,OwnL.nil,by simp⟩
 |xs,x::ks,L,hx,h=> by
  obtain⟨u0,u1,u2,rest,L1,L2,rfl,h1,h2,rfl⟩:=OwnL.cons_iff.1 h;exact OwnL.cons_iff.2 ⟨u0,u1,u2,_,L1,L2++L',rfl,h1,OwnL.snoc ht tail (by simp only[List.length_cons] at hx;omega) h2,by simp⟩
theorem OwnL.tail{w:World}{e:TypeId}(tail:List Value): ∀{xs:List Value} {ks:List Tr} {L:List Nat},OwnL w e xs ks L->OwnL w e (xs++tail) ks L
 |xs, [],L,h=> by unfold OwnL at h⊢;exact h
 |xs,x::ks,L,h=> by
  obtain⟨u0,u1,u2,rest,L1,L2,rfl,h1,h2,rfl⟩:=OwnL.cons_iff.1 h;exact OwnL.cons_iff.2 ⟨u0,u1,u2,_,L1,L2,rfl,h1,OwnL.tail tail h2,rfl⟩
mutual
theorem OwnT.inT{w:World}{e:TypeId}: ∀{t:Tr} {v:Value} {L:List Nat},OwnT w e t v L->InT w (fun b=> b∈L) t v
 | .mk k n ks,v,L,h=> by
  obtain⟨A,cap,rfl,h1,h2,h3⟩:=OwnT.mk_iff.1 h;refine InT.mk_iff.2 ⟨A,cap,rfl,h1,h2, ?_⟩;rcases h3 with⟨h3,_⟩ |⟨b,cs,L',rfl,hb,rfl,hl⟩
  · exact .inl h3
  · exact .inr ⟨b,0,rfl,by simp,OwnL.inL hb (pre:= []) hl (by simp) (fun x hx=> by simp[hx])⟩
theorem OwnL.inL{w:World}{e:TypeId}{b:Nat}{cs:Array Value}{S:Nat->Prop}(hb:w.heap[b]? =some (.cells cs e (0,0))): ∀{xs pre:List Value} {ks:List Tr} {L:List Nat},OwnL w e xs ks L->cs.toList=pre++xs->(∀x,x∈L->S x)->InL w S b pre.length ks
 |_,_, [],_,_,_,_=> by unfold InL;trivial
 |xs,pre,t::ts,L,h,he,hS=> by
  obtain⟨v0,v1,v2,rest,L1,L2,rfl,h1,h2,rfl⟩:=OwnL.cons_iff.1 h;unfold InL;have hc: ∀i,w.cell? ⟨b,i,none⟩=cs.toList[i]? :=fun i=> by rw[q10 hb];simp
  refine⟨⟨v0,v1,v2, ?_, ?_, ?_,InT.mono (fun x hx=> hS x (by simp[hx])) (fun _ _=> rfl) (OwnT.inT h1)⟩, ?_⟩
  · rw[hc,he,List.getElem?_append_right (Nat.le_refl _)];simp
  · rw[hc,he,List.getElem?_append_right (by omega)];simp
  · rw[hc,he,List.getElem?_append_right (by omega)];simp
  · have:=OwnL.inL hb (pre:=pre++ [v0,v1,v2]) h2 (by simp[he]) (fun x hx=> hS x (by simp[hx]))
    simpa using this
end
def q33(w w':World)(L:List Nat):Prop:=L.Nodup/\ ∀b,b∈L->w.heap.size<=b/\b < w'.heap.size
theorem q33.nil(w w':World):q33 w w' []:=⟨List.nodup_nil,fun _ h=> by cases h⟩
theorem q33.mono{a b c d:World}{L:List Nat}(h:q33 b c L)(h1:a.heap.size<=b.heap.size)(h2:c.heap.size<=d.heap.size):q33 a d L:=⟨h.1,fun x hx=> by have:=h.2 x hx;omega⟩
theorem q33.append{a b c d:World}{L M:List Nat}(h:q33 a b L)(k:q33 c d M)(Lj:b.heap.size<=c.heap.size)(hab:a.heap.size<=b.heap.size)(iw:c.heap.size<=d.heap.size):q33 a d (L++M):=by
 refine⟨List.nodup_append.2 ⟨h.1,k.1,fun x hx y hy e=> ?_⟩,fun x hx=> ?_⟩
 · have:=h.2 x hx
   have:=k.2 y hy;omega
 · rcases List.mem_append.1 hx with hx|hx
   · have:=h.2 x hx
     omega
   · have:=k.2 x hx
     omega
def Made(w w':World)(e:TypeId)(t:Tr)(v:Value):Prop:= ∃L,OwnT w' e t v L/\q33 w w' L
theorem Made.lies{w w':World}{e:TypeId}{t:Tr}{v:Value}(h:Made w w' e t v):Lies w' t v:=by
 obtain⟨L,h,hf⟩:=h;exact InT.mono (fun b hb=>(hf.2 b hb).2) (fun _ _=> rfl) h.inT
theorem Made.ext{w w' w2:World}{e:TypeId}{t:Tr}{v:Value}(h:Made w w' e t v)(he:Ext w' w2):Made w w2 e t v:=by
 obtain⟨L,h,hf⟩:=h;exact⟨L,h.mono fun b hb=> he.heap b (hf.2 b hb).2,hf.mono (Nat.le_refl _) he.size⟩
theorem Made.since{a w w':World}{e:TypeId}{t:Tr}{v:Value}(h:Made w w' e t v)(ha:a.heap.size<=w.heap.size):Made a w' e t v:=by
 obtain⟨L,h,hf⟩:=h;exact⟨L,h,hf.mono ha (Nat.le_refl _)⟩
theorem Made.leaf(w w':World)(e:TypeId)(k n:Int):Made w w' e (.mk k n []) (.agg #[.int .i64 k,.int .i64 n,.slice none 0 0]):=
 ⟨[],OwnT.mk_iff.2 ⟨none,0,rfl,Nat.le_refl _,Nat.zero_le _,.inl ⟨rfl,rfl⟩⟩,q33.nil _ _⟩
def OwnK(w:World)(e:TypeId)(A:Option Addr)(ks:List Tr)(L:List Nat):Prop:=
 (ks= []/\L= [])\/ ∃b cs L',A=some ⟨b,0,none⟩/\w.heap[b]? =some (.cells cs e (0,0))/\L=b::L'/\OwnL w e cs.toList ks L'
def y63(w w':World)(e:TypeId)(A:Option Addr)(ks:List Tr):Prop:= ∃L,OwnK w' e A ks L/\q33 w w' L
theorem OwnK.mono{w w':World}{e:TypeId}{A:Option Addr}{ks:List Tr}{L:List Nat}(h:OwnK w e A ks L)(hw: ∀b,b∈L->w'.heap[b]? =w.heap[b]?):OwnK w' e A ks L:=by
 rcases h with h|⟨b,cs,L',rfl,hb,rfl,hl⟩
 · exact .inl h
 · exact .inr ⟨b,cs,L',rfl,(hw b (by simp)).trans hb,rfl,hl.mono (fun x hx=> hw x (by simp[hx]))⟩
theorem Made.mk_iff{w w':World}{e:TypeId}{k n:Int}{ks:List Tr}{v:Value}:Made w w' e (.mk k n ks) v↔ ∃A cap,v= .agg #[.int .i64 k,.int .i64 n,.slice A ks.length cap]/\ks.length<=cap/\cap<=maxLen/\y63 w w' e A ks:=by
 constructor
 · rintro⟨L,h,hf⟩
   obtain⟨A,cap,rfl,h1,h2,h3⟩:=OwnT.mk_iff.1 h;exact⟨A,cap,rfl,h1,h2,L,h3,hf⟩
 · rintro⟨A,cap,rfl,h1,h2,L,h3,hf⟩
   exact⟨L,OwnT.mk_iff.2 ⟨A,cap,rfl,h1,h2,h3⟩,hf⟩
theorem Made.mk{w w':World}{e:TypeId}{k n:Int}{ks:List Tr}{A:Option Addr}{cap:Nat}(hl:ks.length<=cap)(hc:cap<=maxLen)(h:y63 w w' e A ks):Made w w' e (.mk k n ks) (.agg #[.int .i64 k,.int .i64 n,.slice A ks.length cap]):=
 Made.mk_iff.2 ⟨A,cap,rfl,hl,hc,h⟩
theorem y63.since{a w w':World}{e:TypeId}{A:Option Addr}{ks:List Tr}(h:y63 w w' e A ks)(ha:a.heap.size<=w.heap.size):y63 a w' e A ks:=by
 obtain⟨L,h,hf⟩:=h;exact⟨L,h,hf.mono ha (Nat.le_refl _)⟩
theorem y63.nil(w w':World)(e:TypeId)(A:Option Addr):y63 w w' e A []:=⟨[],.inl ⟨rfl,rfl⟩,q33.nil _ _⟩
theorem y63.row{w w1 w':World}{e:TypeId}{g:Nat}{cs:Array Value}{ks:List Tr}{L:List Nat}(hb:w'.heap[g]? =some (.cells cs e (0,0)))(hl:OwnL w' e cs.toList ks L)(hf:q33 w1 w' L)(hg:w.heap.size<=g)(hg1:g < w1.heap.size):y63 w w' e (some ⟨g,0,none⟩) ks:=by
 refine⟨g::L,.inr ⟨g,cs,L,rfl,hb,rfl,hl⟩,List.nodup_cons.2 ⟨fun hm=> ?_,hf.1⟩,fun b hm=> ?_⟩
 · have:=hf.2 g hm
   omega
 · rcases List.mem_cons.1 hm with rfl|hm
   · exact⟨hg,j10 hb⟩
   · have:=hf.2 b hm
     omega
end Go.Proofs.YtbnkbepgmenblaaGreatDoor
namespace Go.Proofs.YtbnkbepgmenblaaGreatDoor.Ord
open Go
def dstOf(ops:Array Oper)(i:Nat):Option Tmp:=(ops[i]?).bind (·.dst)
def q36(ops:Array Oper)(i:Nat):List Nat:=((ops[i]?).map fun o=>(o.after.toList.filter (Region.binds .any)).map (·.on)).getD []
def j95(ops:Array Oper):Nat->Nat->Nat->Bool
 |0,_,_=> false
 |f+1,i,j=>(q36 ops i).any fun k=> k==j||j95 ops f k j
def isOn(l:Array Bool)(i:Nat):Bool:=l.getD i false
def okO(ops:Array Oper)(l:Array Bool)(m N:Nat):Bool:=
 ((List.range m).all fun i=> isOn l i||match dstOf ops i with
  |some d=> decide (d < N)&&(List.range i).all fun j=> isOn l j||dstOf ops j !=some d
  |none=> false)&&
 (List.range (ops.size - m)).all (fun i=> isOn l (m+i) ||(List.range m).all fun j=> isOn l j||j95 ops ops.size (m+i) j)&&
 (List.range ops.size).all (fun i=>(q36 ops i).all fun k=> decide (k < i)&&(!isOn l i||isOn l k))&& decide (m<=ops.size)&& decide (l.size=ops.size)
def isDst(ops:Array Oper)(l:Array Bool)(m:Nat)(t:Nat):Bool:=(List.range m).any fun j=> !isOn l j && dstOf ops j==some t
def putN(ops:Array Oper)(v:Nat->Value)(s:Nat->Bool)(a:Act):Nat->Act
 |0=> a
 |n+1=> if s n=true then(putN ops v s a n).put (dstOf ops n) (v n) else putN ops v s a n
def depO(ops:Array Oper)(l:Array Bool)(i j d:Nat):Bool:=(q36 ops i).contains j && dstOf ops j==some d && !isOn l j
def opnO(l:Array Bool):Nat->Nat
 |0=> 0
 |n+1=> opnO l n+if isOn l n=true then 0 else 1
def doneO(l:Array Bool)(m:Nat):Array Bool:=(Array.range l.size).map fun i=> decide (i < m) ||isOn l i
section
variable (P : Program) (ops : Array Oper) (Q : Exit → Act → World → Prop) (l0 : Array Bool) (m : Nat) (E : World → World → Prop) (G : Nat → Value → World → Prop) (a0 : Act) (w0 : World)
def q191(i:Nat)(o:Oper):Prop:=
 ∀a w,E w0 w->(∀t,isDst ops l0 m t=false->a.eval (.tmp t)=a0.eval (.tmp t))->(∀j d,depO ops l0 i j d=true->G j (a.eval (.tmp d)) w)->
  wpOp P ops Q i (fun a' w'=> ∃u,a'=a.put o.dst u/\E w w'/\G i u w') a w
def StepsO:Nat->List Oper->Prop
 |_, []=> True
 |i,o::os=>(isOn l0 i=true\/q191 P ops Q l0 m E G a0 w0 i o)/\StepsO (i+1) os
end
section
variable {P : Program} {ops : Array Oper} {Q : Exit → Act → World → Prop} {l0 : Array Bool} {m : Nat} {E : World → World → Prop} {G : Nat → Value → World → Prop} {a0 : Act} {w0 : World}
theorem step_of{i:Nat}{o:Oper}{a:Act}{w:World}{R:Act->World->Prop}(ho:ops[i]? =some o)(hg:o.guard=none)(h: ∀K:Act->World->Prop,(∀a' w',R a' w'->K a' w')->o.wp P a w K Q):wpOp P ops Q i R a w:=by
 unfold wpOp;rw[ho];simp only;rw[if_pos]
 · exact .inl (h R fun _ _ h=> h)
 · unfold Region.wanted
   rw[hg]
theorem StepsO.get{l:List Oper}: ∀{i j:Nat} {o:Oper},StepsO P ops Q l0 m E G a0 w0 i l->l[j]? =some o->isOn l0 (i+j)=true\/q191 P ops Q l0 m E G a0 w0 (i+j) o:=by
 induction l with
 |nil=> intro i j o h hj;simp at hj
 |cons x l ih=>
  intro i j o h hj;cases j with
  |zero=>
   simp only[List.getElem?_cons_zero,Option.some.injEq] at hj;subst hj;exact h.1
  |succ j=>
   have:=ih (j:=j) h.2 (by simpa using hj)
   rwa [show i+1+j=i+(j+1) by omega] at this
theorem y24{v v':Nat->Value}{s s':Nat->Bool}(a:Act): ∀{n:Nat},(∀j,j < n->s j=s' j/\(s j=true->v j=v' j))->putN ops v s a n=putN ops v' s' a n
 |0,_=> rfl
 |n+1,h=> by
  have ih:=y24 a (n:=n) fun j hj=> h j (by omega)
  obtain⟨h1,h2⟩:=h n (by omega);unfold putN;rw[ih,<-h1]
  split
  · rename_i hs
    rw[h2 hs]
  · rfl
theorem j92{N:Nat}(h:okO ops l0 m N=true){i:Nat}(hi:i < m)(hl:isOn l0 i=false): ∃d,dstOf ops i=some d/\d < N/\ ∀j,j < i->isOn l0 j=false->dstOf ops j≠some d:=by
 unfold okO at h;simp only[Bool.and_eq_true,List.all_eq_true,List.mem_range] at h;have:=h.1.1.1.1 i hi;rw[hl,Bool.false_or] at this
 split at this
 · rename_i d hd
   simp only[Bool.and_eq_true,decide_eq_true_eq,List.all_eq_true,List.mem_range,bne_iff_ne,Bool.or_eq_true] at this;refine⟨d,hd,this.1,fun j hj N4=>(this.2 j hj).resolve_left (by rw[N4];decide)⟩
 · cases this
theorem y193{N:Nat}(h:okO ops l0 m N=true){i j:Nat}(hi:i < m)(hj:j < m)(li:isOn l0 i=false)(lj:isOn l0 j=false)(hne:i≠j){d:Tmp}(hd:dstOf ops i=some d):dstOf ops j≠some d:=by
 rcases Nat.lt_or_gt_of_ne hne with hlt|hlt
 · intro e
   obtain⟨d',h1,-,h2⟩:=j92 h hj lj;rw[e] at h1;simp only[Option.some.injEq] at h1;subst h1;exact h2 i hlt li hd
 · obtain⟨d',h1,-,h2⟩:=j92 h hi li
   rw[hd] at h1;simp only[Option.some.injEq] at h1;subst h1;exact h2 j hlt lj
theorem q45{N:Nat}(h:okO ops l0 m N=true){v:Nat->Value}{s:Nat->Bool}(a:Act)(D2: ∀j,s j=true->isOn l0 j=false){i:Nat}(hs:s i=false)(K5:isOn l0 i=false)(u:Value): ∀{n:Nat},i < n->n<=m->
 putN ops (fun j=> if j=i then u else v j) (fun j=> if j=i then true else s j) a n=(putN ops v s a n).put (dstOf ops i) u
 |0,hi,_=> by omega
 |n+1,hi,hn=> by
  by_cases e:n=i
  · subst e
    have e1:(if n=n then true else s n)=true:=if_pos rfl;have e2: ¬s n=true:=by rw[hs];decide
    have e3:(if n=n then u else v n)=u:=if_pos rfl;unfold putN;rw[if_pos e1,if_neg e2,e3];rw[y24 a (v:=fun j=> if j=n then u else v j) (s:=fun j=> if j=n then true else s j) (v':=v) (s':=s) (fun j hj=>⟨by rw[if_neg (by omega)],fun _=> by rw[if_neg (by omega)]⟩)]
  · have ih:=q45 h (v:=v) a D2 hs K5 u (n:=n) (by omega) (by omega)
    unfold putN;rw[if_neg e,if_neg e,ih]
    split
    · rename_i wo
      rw[Act.put_comm];intro d hd;exact y193 h (by omega) (by omega) K5 (D2 n wo) (Ne.symm e) hd
    · rfl
theorem y205(a:Act)(x:Option Tmp)(v:Value):(a.put x v).tmps.size=a.tmps.size:=by
 cases x <;> simp[Act.put]
theorem j71(v:Nat->Value)(s:Nat->Bool)(a:Act): ∀n,(putN ops v s a n).tmps.size=a.tmps.size
 |0=> rfl
 |n+1=> by
  unfold putN
  split
  · rw[y205,j71]
  · exact j71 v s a n
theorem q76(a:Act)(d:Tmp)(v:Value)(t:Tmp):(a.put (some d) v).eval (.tmp t)=if d=t then(if t < a.tmps.size then v else undef) else a.eval (.tmp t):=by
 show(a.tmps.setIfInBounds d v).getD t undef=_
 rw[Array.getD_eq_getD_getElem?,Array.getElem?_setIfInBounds]
 split
 · rename_i h
   subst h
   split <;> rfl
 · rw[show a.eval (.tmp t)=a.tmps.getD t undef from rfl,Array.getD_eq_getD_getElem?]
theorem q58(v:Nat->Value)(s:Nat->Bool)(a:Act)(t:Tmp): ∀{n:Nat},(∀j,j < n->s j=true->dstOf ops j≠some t)->(putN ops v s a n).eval (.tmp t)=a.eval (.tmp t)
 |0,_=> rfl
 |n+1,h=> by
  have ih:=q58 v s a t (n:=n) fun j hj=> h j (by omega)
  unfold putN
  split
  · rename_i hs
    cases hd:dstOf ops n with
    |none=> exact ih
    |some d=>
     rw[q76,if_neg,ih];intro e;exact h n (by omega) hs (by rw[hd,e])
  · exact ih
theorem y46{N:Nat}(h:okO ops l0 m N=true)(v:Nat->Value)(s:Nat->Bool)(D2: ∀j,s j=true->isOn l0 j=false)(a:Act)(hN:a.tmps.size=N){k:Nat}{d:Tmp}(hd:dstOf ops k=some d)(hk:s k=true): ∀{n:Nat},k < n->n<=m->(putN ops v s a n).eval (.tmp d)=v k
 |0,hi,_=> by omega
 |n+1,hi,hn=> by
  by_cases e:n=k
  · subst e
    unfold putN;rw[if_pos hk,hd,q76,if_pos rfl,if_pos];rw[j71,hN];obtain⟨d',h1,h2,-⟩:=j92 h (i:=n) (by omega) (D2 _ hk);rw[hd] at h1;simp only[Option.some.injEq] at h1;subst h1;exact h2
  · have ih:=y46 h v s D2 a hN hd hk (n:=n) (by omega) (by omega)
    unfold putN
    split
    · rename_i wo
      cases J8:dstOf ops n with
      |none=> exact ih
      |some d'=>
       rw[q76,if_neg,ih];intro e';subst e';exact y193 h (by omega) (by omega) (D2 _ hk) (D2 _ wo) (Ne.symm e) hd J8
    · exact ih
theorem j36{l:Nat->Bool}(hd: ∀i,l i=true-> ∀k∈q36 ops i,l k=true): ∀(f i j:Nat),(∀k∈q36 ops i,l k=true)->j95 ops f i j=true->l j=true
 |0,_,_,_,h=> by cases h
 |f+1,i,j,hi,h=> by
  unfold j95 at h;simp only[List.any_eq_true,Bool.or_eq_true,beq_iff_eq] at h;obtain⟨k,hk,h⟩:=h;rcases h with rfl|h
  · exact hi k hk
  · exact j36 hd f k j (hd k (hi k hk)) h
theorem q68{listed:Array Bool}{i:Nat}(h:i∈Region.ready .any ops listed):listed.getD i true=false/\(∃o,ops[i]? =some o)/\ ∀k∈q36 ops i,isOn listed k=true:=by
 obtain⟨h1,o,h2,h3⟩:=mem_ready.1 h;refine⟨h1,⟨o,h2⟩,fun k hk=> ?_⟩;unfold q36 at hk;rw[h2] at hk;simp only[Option.map_some,Option.getD_some,List.mem_map,List.mem_filter] at hk;obtain⟨e,⟨Cq,vy⟩,rfl⟩:=hk;exact h3 e (by simpa using Cq) vy
theorem y109{listed:Array Bool}{i:Nat}(hi:i < ops.size)(h:listed.getD i true=false)(he: ∀k∈q36 ops i,isOn listed k=true):i∈Region.ready .any ops listed:=by
 refine mem_ready.2 ⟨h,ops[i],by simp[hi],fun e h1 h2=> he e.on ?_⟩;unfold q36;rw[show ops[i]? =some ops[i] by simp[hi]];simp only[Option.map_some,Option.getD_some,List.mem_map,List.mem_filter];exact⟨e,⟨by simpa using h1,h2⟩,rfl⟩
theorem opn_le{l l':Array Bool}(h: ∀j,isOn l j=true->isOn l' j=true): ∀n,opnO l' n<=opnO l n
 |0=> Nat.le_refl _
 |n+1=> by
  have ih:=opn_le h n;unfold opnO
  split
  · omega
  · rename_i h1
    rw[if_neg (fun h2=> h1 (h n h2))];omega
theorem y95{l l':Array Bool}{i:Nat}(h0:isOn l i=false)(h1:isOn l' i=true)(h: ∀j,j≠i->isOn l' j=isOn l j): ∀{n:Nat},opnO l n=opnO l' n+if i < n then 1 else 0
 |0=> by simp[opnO]
 |n+1=> by
  have ih:=y95 h0 h1 h (n:=n);unfold opnO;by_cases e:n=i
  · subst e
    rw[ih,h0,h1];simp
  · rw[ih,h n e]
    by_cases hlt:i < n
    · rw[if_pos hlt,if_pos (by omega:i < n+1)]
      omega
    · have bh: ¬i < n+1:=by omega
      rw[if_neg hlt,if_neg bh];omega
theorem j209{p:Nat->Bool}: ∀{n:Nat},(∃j,j < n/\p j=false)-> ∃j,j < n/\p j=false/\ ∀k,k < j->p k=true
 |0,h=> by obtain⟨j,hj,-⟩:=h;omega
 |n+1,h=> by
  by_cases hq: ∃j,j < n/\p j=false
  · obtain⟨j,h1,h2⟩:=j209 hq
    exact⟨j,by omega,h2⟩
  · obtain⟨j,h1,h2⟩:=h
    have:j=n:=by
     apply Classical.byContradiction
     intro e;exact hq ⟨j,by omega,h2⟩
    subst this;refine⟨j,h1,h2,fun k hk=> ?_⟩;cases hp:p k with
    |true=> rfl
    |false=> exact absurd ⟨k,hk,hp⟩ hq
theorem wpAnyH_order{S:World->Prop}{N fuel fT:Nat}{lT:Array Bool}(F5:okO ops l0 m N=true)(hN:a0.tmps.size=N)(hf:fuel=opnO l0 ops.size)(nv:doneO l0 m=lT)(qi:opnO lT ops.size=fT)
 (V8:E w0 w0) (hE: ∀u v w,E u v->E v w->E u w) (hG: ∀i v w w',G i v w->E w w'->G i v w') (hS: ∀w,E w0 w->S w)
 (steps:StepsO P ops Q l0 m E G a0 w0 0 (ops.toList.take m))
 (fin: ∀(v:Nat->Value) w,E w0 w->(∀j,j < m->isOn l0 j=false->G j (v j) w)->wpAnyH P .any ops Q S fT lT (putN ops v (fun j=> !isOn l0 j) a0 m) w):
 wpAnyH P .any ops Q S fuel l0 a0 w0:=by
 subst nv;subst qi;have Q6:=F5;unfold okO at Q6;simp only[Bool.and_eq_true,decide_eq_true_eq,List.all_eq_true,List.mem_range,Bool.or_eq_true,Bool.not_eq_true'] at Q6;obtain⟨⟨⟨⟨-,iy⟩,hlowb⟩,hm⟩,hlsz⟩:=Q6;have U8: ∀i,i < ops.size-> ∀k∈q36 ops i,k < i:=fun i hi k hk=>(hlowb i hi k hk).1
 have jd: ∀i,isOn l0 i=true-> ∀k∈q36 ops i,isOn l0 k=true:=fun i hl k hk=> by
  by_cases hi:i < ops.size
  · exact(hlowb i hi k hk).2.resolve_left (by rw[hl];decide)
  · unfold q36 at hk
    rw[show ops[i]? =none from Array.getElem?_eq_none (by omega)] at hk;simp at hk
 have Am: ∀i,m<=i->i < ops.size->isOn l0 i=false-> ∀j,j < m->isOn l0 j=false->j95 ops ops.size i j=true:=fun i h1 h2 hi j hj hl=> by
  have:=iy (i - m) (by omega);rw[show m+(i - m)=i by omega] at this;have:=this.resolve_left (by rw[hi];decide) j hj;exact this.resolve_left (by rw[hl];decide)
 have D2: ∀listed:Array Bool,∀j,(isOn listed j && !isOn l0 j)=true->isOn l0 j=false:=fun listed j h=> by
  simp only[Bool.and_eq_true,Bool.not_eq_true'] at h;exact h.2
 have main: ∀(fuel:Nat) (listed:Array Bool) (a:Act) (w:World) (v:Nat->Value),listed.size=ops.size->(∀i,m<=i->isOn listed i=isOn l0 i)->(∀i,isOn l0 i=true->isOn listed i=true)->
  (∀i,isOn listed i=true-> ∀k∈q36 ops i,isOn listed k=true)->a=putN ops v (fun j=> isOn listed j && !isOn l0 j) a0 m->(∀j,j < m->isOn listed j=true->isOn l0 j=false->G j (v j) w)->E w0 w->
  fuel=opnO listed ops.size->wpAnyH P .any ops Q S fuel listed a w:=by
  intro fuel;have done: ∀(fuel:Nat) (listed:Array Bool) (a:Act) (w:World) (v:Nat->Value),listed.size=ops.size->(∀i,m<=i->isOn listed i=isOn l0 i)->a=putN ops v (fun j=> isOn listed j && !isOn l0 j) a0 m->(∀j,j < m->isOn listed j=true->isOn l0 j=false->G j (v j) w)->E w0 w->
   fuel=opnO listed ops.size->(∀j,j < m->isOn listed j=true)->wpAnyH P .any ops Q S fuel listed a w:=by
   intro fuel listed a w v hsz h1 ha hg he hf hall;have hl:listed=doneO l0 m:=by
    apply Array.ext
    · simp[doneO,hsz,hlsz]
    · intro i W4 dv
      have e1:isOn listed i=listed[i]:=by simp[isOn,Array.getD_eq_getD_getElem?,W4]
      have e2:(doneO l0 m)[i]=(decide (i < m) ||isOn l0 i):=by simp[doneO]
      rw[<-e1,e2];by_cases hi:i < m
      · rw[hall i hi];simp[hi]
      · rw[h1 i (by omega)];simp[hi]
   subst hl;subst ha;subst hf;rw[y24 (v':=v) (s':=fun j=> !isOn l0 j) a0 (fun j hj=>⟨by rw[hall j hj,Bool.true_and],fun _=> rfl⟩)];exact fin v w he (fun j hj hl=> hg j hj (hall j hj) hl)
  induction fuel with
  |zero=>
   intro listed a w v hsz h1 dt h2 ha hg he hf;refine done 0 listed a w v hsz h1 ha hg he hf fun j hj=> ?_
   have: ∀n,opnO listed n=0-> ∀j,j < n->isOn listed j=true:=by
    intro n
    induction n with
    |zero=> intro _ j hj;omega
    |succ n ih=>
     intro h j hj;unfold opnO at h;by_cases e:j=n
     · subst e
       split at h
       · assumption
       · omega
     · exact ih (by omega) j (by omega)
   exact this ops.size hf.symm j (by omega)
  |succ fuel ih=>
   intro listed a w v hsz h1 dt h2 ha hg he hf;by_cases hall: ∀j,j < m->isOn listed j=true
   · exact done _ listed a w v hsz h1 ha hg he hf hall
   · obtain⟨j0,nj,S9,ib⟩:=j209 (p:=isOn listed) (n:=m) (by
      apply Classical.byContradiction
      intro h;exact hall fun j hj=> by
       cases hp:isOn listed j with
       |true=> rfl
       |false=> exact absurd ⟨j,hj,hp⟩ h)
     have gt: ∀i,i < ops.size->listed.getD i true=isOn listed i:=fun i hi=> by
      simp[isOn,Array.getD_eq_getD_getElem?,show i < listed.size by omega]
     refine⟨fun h0=> ?_,fun i hi=> ?_⟩
     · have hr:j0∈Region.ready .any ops listed:=y109 (by omega) (by rw[gt _ (by omega)];exact S9) (fun k hk=> ib k (U8 j0 (by omega) k hk))
       rw[h0] at hr;cases hr
     · obtain⟨r1,⟨o,ho⟩,r3⟩:=q68 hi
       have j8:i < ops.size:=(Array.getElem?_eq_some_iff.1 ho).1;have K5:isOn listed i=false:=by rw[<-gt i j8];exact r1
       have ei:isOn l0 i=false:=by
        cases hp:isOn l0 i with
        |false=> rfl
        |true=> rw[dt i hp] at K5;cases K5
       have ki:isOn l0 j0=false:=by
        cases hp:isOn l0 j0 with
        |false=> rfl
        |true=> rw[dt j0 hp] at S9;cases S9
       have rq:i < m:=by
        apply Classical.byContradiction
        intro rk;have:=j36 (l:=isOn listed) h2 ops.size i j0 r3 (Am i (by omega) j8 ei j0 nj ki);rw[S9] at this;cases this
       have hst:=StepsO.get (j:=i) steps (by rw[List.getElem?_take,if_pos rq];simpa using ho);rw[Nat.zero_add] at hst;have hst:=hst.resolve_left (by rw[ei];decide);have hd:(dstOf ops i)=o.dst:=by unfold dstOf;rw[ho];rfl
       have Bn:(isOn listed i && !isOn l0 i)=false:=by rw[K5];rfl
       refine wpOp_mono ?_ (hst a w he ?_ ?_)
       · rintro a' w' ⟨u,rfl,kp,qz⟩
         have C0: ∀j,isOn (listed.setIfInBounds i true) j=if j=i then true else isOn listed j:=fun j=> by
          unfold isOn;by_cases e:j=i
          · subst e
            rw[if_pos rfl];simp[Array.getD_eq_getD_getElem?,show j < listed.size by omega]
          · rw[if_neg e]
            simp[Array.getD_eq_getD_getElem?,Array.getElem?_setIfInBounds_ne (Ne.symm e)]
         refine⟨hS _ (hE _ _ _ he kp),ih (listed.setIfInBounds i true) _ w' (fun j=> if j=i then u else v j) (by simpa using hsz) ?_ ?_ ?_ ?_ ?_ (hE _ _ _ he kp) ?_⟩
         · intro j hj
           rw[C0,if_neg (by omega)];exact h1 j hj
         · intro j hj
           rw[C0]
           split
           · rfl
           · exact dt j hj
         · intro j hj k hk
           rw[C0] at hj⊢;by_cases e:k=i
           · rw[if_pos e]
           · rw[if_neg e]
             by_cases e2:j=i
             · subst e2;exact r3 k hk
             · rw[if_neg e2] at hj
               exact h2 j hj k hk
         · rw[ha,<-hd,<-q45 F5 (s:=fun j=> isOn listed j && !isOn l0 j) a0 (D2 listed) Bn ei u rq (Nat.le_refl _)]
           refine y24 a0 (fun j hj=>⟨?_,fun _=> rfl⟩);simp only[C0];by_cases e:j=i
           · rw[if_pos e,if_pos e,e,ei];rfl
           · rw[if_neg e,if_neg e]
         · intro j hj hl N4
           by_cases e:j=i
           · simp only[if_pos e];rw[e];exact qz
           · simp only[if_neg e]
             rw[C0,if_neg e] at hl;exact hG _ _ _ _ (hg j hj hl N4) kp
         · have:=y95 (l:=listed) (l':=listed.setIfInBounds i true) (i:=i) K5 (by rw[C0,if_pos rfl]) (fun j hj=> by rw[C0,if_neg hj]) (n:=ops.size)
           rw[if_pos j8] at this;omega
       · intro t ht
         rw[ha,q58];intro j hj hs e;unfold isDst at ht;rw[List.any_eq_false] at ht;refine ht j (List.mem_range.2 hj) ?_;rw[D2 listed j hs,e];simp
       · intro j d J9
         unfold depO at J9;simp only[Bool.and_eq_true,beq_iff_eq,List.contains_iff_mem,Bool.not_eq_true'] at J9;have N4:=r3 j J9.1.1;have Kp:=U8 i j8 j J9.1.1;rw[ha,y46 F5 v _ (D2 listed) a0 hN J9.1.2 (by rw[N4,J9.2];rfl) (by omega) (Nat.le_refl _)];exact hg j (by omega) N4 J9.2
 refine main fuel l0 a0 w0 (fun _=> undef) hlsz (fun _ _=> rfl) (fun _ h=> h) jd ?_ ?_ V8 hf
 · have: ∀n,putN ops (fun _=> undef) (fun j=> isOn l0 j && !isOn l0 j) a0 n=a0:=fun n=> by
    induction n with
    |zero=> rfl
    |succ n ih=>
     unfold putN;rw[if_neg,ih];simp
   exact(this m).symm
 · intro j hj hl hl2
   rw[hl] at hl2;cases hl2
def putO(ops:Array Oper)(v:Nat->Value)(a:Act):Nat->Act
 |0=> a
 |n+1=>(putO ops v a n).put (dstOf ops n) (v n)
theorem putN_all(v:Nat->Value)(a:Act)(k:Nat): ∀n,putN ops v (fun j=> !isOn (Array.replicate k false) j) a n=putO ops v a n
 |0=> rfl
 |n+1=> by
  unfold putN putO;rw[putN_all v a k n,if_pos];unfold isOn;rw[Array.getD_eq_getD_getElem?,Array.getElem?_replicate]
  split <;> rfl
end
end Go.Proofs.YtbnkbepgmenblaaGreatDoor.Ord
