/-
  Lemmas towards the law, 4: Base, Ord, Lift, Mem.
-/
import Derived.Carry
import Derived.Deep.Draws
import Derived.Deep.Slices
import Derived.Deep.Strs
import Derived.Laws.MakeOwn
import Derived.Laws.OwnMore
import Derived.Lib.Hide
import Derived.OpenShut
import Derived.OrdersHeld
import Derived.ProofKit
import Derived.WalkKit
set_option linter.unusedVariables false
namespace Go.Proofs.YtbnkbepgmenblaaGreat
theorem hdq{p:Prop}(h:p):Go.RowKit.Hid p:=h
open Go.RowKit
inductive Tr where
 |mk (k n:Int) (ks:List Tr)
def Tr.kind:Tr->Int| .mk k _ _=> k
def Tr.num:Tr->Int| .mk _ n _=> n
def Tr.kids:Tr->List Tr| .mk _ _ ks=> ks
theorem Tr.ind{P:Tr->Prop}(h: ∀k n ks,(∀t∈ks,P t)->P (.mk k n ks)): ∀t,P t:=fun t=>
 Tr.rec (motive_1:=P) (motive_2:=fun ks=> ∀t∈ks,P t) (fun k n ks ih=> h k n ks ih) (fun _ hm=> by cases hm)
  (fun t ts ht Ct x hx=> by
   rcases List.mem_cons.1 hx with rfl|hx
   · exact ht
   · exact Ct x hx) t
mutual
def cnt:Tr->Nat
 | .mk _ _ ks=> cnts ks+1
def cnts:List Tr->Nat
 | []=> 0
 |t::ts=> cnt t+cnts ts
end
theorem j44: ∀a b:List Tr,cnts (a++b)=cnts a+cnts b
 | [],b=> by simp[cnts]
 |t::a,b=> by simp[cnts,j44 a b];omega
theorem j103(t:Tr):0 < cnt t:=by
 cases t
 unfold cnt;omega
theorem y19: ∀ks:List Tr,ks.length<=cnts ks
 | []=> by simp
 |t::ts=> by
  have:=y19 ts;have:=j103 t;simp only[List.length_cons,cnts];omega
theorem y15: ∀{ks:List Tr} {t:Tr},t∈ks->cnt t<=cnts ks
 |x::ts,t,h=> by
  rcases List.mem_cons.1 h with rfl|h
  · simp only[cnts];omega
  · have:=y15 h
    simp only[cnts];omega
mutual
def eqTr:Tr->Tr->Bool
 | .mk k n ks,.mk k' n' ks'=> k==k' &&(n==n' && eqTs ks ks')
def eqTs:List Tr->List Tr->Bool
 | [], []=> true
 |t::ts,t'::nl=> eqTr t t' && eqTs ts nl
 |_,_=> false
end
theorem y150: ∀{a b:List Tr},eqTs a b=true->a.length=b.length
 | [], [],_=> rfl
 |x::a,y::b,h=> by
  unfold eqTs at h;simp only[Bool.and_eq_true] at h;simp[y150 h.2]
 | [],y::b,h=> by unfold eqTs at h;cases h
 |x::a, [],h=> by unfold eqTs at h;cases h
mutual
theorem q172: ∀{a b:Tr},eqTr a b=true->a=b
 | .mk k n ks,.mk k' n' ks',h=> by
  unfold eqTr at h;simp only[Bool.and_eq_true,beq_iff_eq] at h;obtain⟨rfl,rfl,h⟩:=h;rw[y192 h]
theorem y192: ∀{a b:List Tr},eqTs a b=true->a=b
 | [], [],_=> rfl
 |x::a,y::b,h=> by
  unfold eqTs at h;simp only[Bool.and_eq_true] at h;rw[q172 h.1,y192 h.2]
 | [],y::b,h=> by unfold eqTs at h;cases h
 |x::a, [],h=> by unfold eqTs at h;cases h
end
mutual
theorem j107: ∀a:Tr,eqTr a a=true
 | .mk k n ks=> by
  unfold eqTr;simp[y134 ks]
theorem y134: ∀a:List Tr,eqTs a a=true
 | []=> by unfold eqTs;rfl
 |x::a=> by
  unfold eqTs;simp[j107 x,y134 a]
end
theorem q97{a b:Tr}:eqTr a b=true↔a=b:=⟨q172,fun h=> h▸j107 a⟩
instance:DecidableEq Tr:=fun a b=> decidable_of_iff _ q97
def Ext(w w':World):Prop:=Below w.heap.size w w'
theorem xr(w:World):Ext w w:=Below.refl _ _
theorem Ext.size{w w':World}(h:Ext w w'):w.heap.size<=w'.heap.size:=Below.size h
theorem Ext.trans{a b c:World}(h:Ext a b)(k:Ext b c):Ext a c:=Below.trans h (Below.mono k h.size)
theorem Ext.drew{a b:World}(h:Ext a b):Ext a b.drew:=Below.drew h
theorem Ext.drewN{a b:World}(h:Ext a b)(n:Nat):Ext a (b.drewN n):=⟨h.os,h.tape,h.output,h.size,h.block⟩
theorem Ext.alloc{a b:World}(h:Ext a b)(o:Obj):Ext a (b.alloc o):=Below.alloc h h.size o
theorem Ext.setCell{a b:World}(h:Ext a b){p:Addr}(hp:a.heap.size<=p.block)(u:Value):Ext a (b.setCell p u):=Below.setCell h hp u
theorem Ext.grown{a b c:World}(h:Ext a b){row:Option Nat}(hg:b.grownBy c row)(hr: ∀k,row=some k->a.heap.size<=k):Ext a c:=Below.grown h hg h.size hr
theorem Ext.heap{w w':World}(h:Ext w w')(b:Nat)(hb:b < w.heap.size):w'.heap[b]? =w.heap[b]? :=Below.block h b hb
theorem Ext.cell{w w':World}(h:Ext w w'){b o:Nat}{v:Value}(hb:w.cell? ⟨b,o,none⟩=some v):w'.cell? ⟨b,o,none⟩=some v:=
 (Below.cell (p:=⟨b,o,none⟩) h (World.block_lt_of_cell? _ _ hb)).trans hb
theorem Ext.blk{w w':World}(h:Ext w w'){b:Nat}{x:Obj}(hb:w.heap[b]? =some x):w'.heap[b]? =some x:=
 (h.heap b (Array.getElem?_eq_some_iff.1 hb).1).trans hb
theorem Ext.size_alloc{w w':World}{o:Obj}(h:Ext (w.alloc o) w'):w.heap.size < w'.heap.size:=by
 have:=h.size;simp at this
 omega
theorem Ext.pre{w w':World}{o:Obj}(h:Ext (w.alloc o) w'):Ext w w':=((xr w).alloc o).trans h
theorem Ext.newBlk{w w':World}{o:Obj}(h:Ext (w.alloc o) w'):w'.heap[w.heap.size]? =some o:=h.blk (heap_alloc_new w o)
theorem y13{w:World}{b:Nat}{cs:Array Value}{e:TypeId}(h:w.heap[b]? =some (.cells cs e (0,0)))(i:Nat):w.frozen? ⟨b,i,none⟩=false:=by simp[World.frozen?,h]
theorem q10{w:World}{b:Nat}{cs:Array Value}{e:TypeId}(h:w.heap[b]? =some (.cells cs e (0,0)))(i:Nat):w.cell? ⟨b,i,none⟩=cs[i]? :=cell_of_row w b i cs e (0,0) h
theorem j10{w:World}{b:Nat}{x:Obj}(h:w.heap[b]? =some x):b < w.heap.size:=(Array.getElem?_eq_some_iff.1 h).1
theorem j11{w:World}{b:Nat}{cs:Array Value}{e:TypeId}(h:w.heap[b]? =some (.cells cs e (0,0)))(i:Nat)(u:Value):(w.setCell ⟨b,i,none⟩ u).heap[b]? =some (.cells (cs.setIfInBounds i u) e (0,0)):=by
 simp[World.setCell,Array.getElem?_modify,h]
theorem q13{w:World}{b:Nat}{x:Obj}(h:w.heap[b]? =some x){p:Addr}(hp:b≠p.block)(u:Value):(w.setCell p u).heap[b]? =some x:=(Below.heap_setCell w p u b hp).trans h
theorem q196{w:World}{b:Nat}{x:Obj}(h:w.heap[b]? =some x)(o:Obj):(w.alloc o).heap[b]? =some x:=(Below.heap_alloc w o b (j10 h)).trans h
mutual
def InT(w:World)(S:Nat->Prop):Tr->Value->Prop
 | .mk k n ks,v=> ∃A cap,v= .agg #[.int .i64 k,.int .i64 n,.slice A ks.length cap]/\ks.length<=cap/\cap<=maxLen/\(ks= []\/ ∃b o,A=some ⟨b,o,none⟩/\S b/\InL w S b o ks)
def InL(w:World)(S:Nat->Prop)(b:Nat):Nat->List Tr->Prop
 |_, []=> True
 |o,t::ts=>(∃v0 v1 v2,w.cell? ⟨b,o,none⟩=some v0/\w.cell? ⟨b,o+1,none⟩=some v1/\w.cell? ⟨b,o+2,none⟩=some v2/\InT w S t (.agg #[v0,v1,v2]))/\InL w S b (o+3) ts
end
def InK(w:World)(S:Nat->Prop)(A:Option Addr)(ks:List Tr):Prop:=ks= []\/ ∃b o,A=some ⟨b,o,none⟩/\S b/\InL w S b o ks
theorem InT.mk_iff{w:World}{S:Nat->Prop}{k n:Int}{ks:List Tr}{v:Value}:
 InT w S (.mk k n ks) v↔ ∃A cap,v= .agg #[.int .i64 k,.int .i64 n,.slice A ks.length cap]/\ks.length<=cap/\cap<=maxLen/\InK w S A ks:=by
 unfold InT InK;exact Iff.rfl
mutual
theorem InT.mono{w w':World}{S S':Nat->Prop}(hS: ∀b,S b->S' b)(hw: ∀b,S b->w'.heap[b]? =w.heap[b]?): ∀{t:Tr} {v:Value},InT w S t v->InT w' S' t v
 | .mk k n ks,v,h=> by
  unfold InT at h⊢;obtain⟨A,cap,rfl,h1,h2,h3⟩:=h;refine⟨A,cap,rfl,h1,h2, ?_⟩;rcases h3 with h3|⟨b,o,rfl,hb,hl⟩
  · exact .inl h3
  · exact .inr ⟨b,o,rfl,hS b hb,InL.mono hS hw hb hl⟩
theorem InL.mono{w w':World}{S S':Nat->Prop}(hS: ∀b,S b->S' b)(hw: ∀b,S b->w'.heap[b]? =w.heap[b]?){b:Nat}(hb:S b): ∀{o:Nat} {ks:List Tr},InL w S b o ks->InL w' S' b o ks
 |_, [],_=> by unfold InL;trivial
 |o,t::ts,h=> by
  unfold InL at h⊢;obtain⟨⟨v0,v1,v2,h0,h1,h2,ht⟩,Ct⟩:=h;have hc: ∀i,w'.cell? ⟨b,i,none⟩=w.cell? ⟨b,i,none⟩:=fun i=> World.cell?_of_block (w:=w) (a:=⟨b,i,none⟩) (hw b hb)
  exact⟨⟨v0,v1,v2,(hc _).trans h0,(hc _).trans h1,(hc _).trans h2,InT.mono hS hw ht⟩,InL.mono hS hw hb Ct⟩
end
theorem InK.mono{w w':World}{S S':Nat->Prop}(hS: ∀b,S b->S' b)(hw: ∀b,S b->w'.heap[b]? =w.heap[b]?){A:Option Addr}{ks:List Tr}(h:InK w S A ks):InK w' S' A ks:=by
 rcases h with h|⟨b,o,rfl,hb,hl⟩
 · exact .inl h
 · exact .inr ⟨b,o,rfl,hS b hb,InL.mono hS hw hb hl⟩
theorem InL.at_{w:World}{S:Nat->Prop}{b:Nat}: ∀{o:Nat} {ks:List Tr} {j:Nat},InL w S b o ks->(hj:j < ks.length)->
 ∃k n A cap kids,ks[j]= .mk k n kids/\w.cell? ⟨b,o+j*3,none⟩=some (.int .i64 k)/\w.cell? ⟨b,o+j*3+1,none⟩=some (.int .i64 n)/\w.cell? ⟨b,o+j*3+2,none⟩=some (.slice A kids.length cap)/\
  kids.length<=cap/\cap<=maxLen/\InK w S A kids
 |o, [],j,_,hj=> absurd hj (by simp)
 |o,t::ts,0,h,_=> by
  unfold InL at h;obtain⟨⟨v0,v1,v2,h0,h1,h2,ht⟩,_⟩:=h;obtain⟨k,n,kids⟩:=t;obtain⟨A,cap,hv,hl,hc,hk⟩:=InT.mk_iff.1 ht;simp only[Value.agg.injEq,Array.mk.injEq,List.cons.injEq,and_true] at hv;obtain⟨rfl,rfl,rfl⟩:=hv;exact⟨k,n,A,cap,kids,rfl,by simpa using h0,by simpa using h1,by simpa using h2,hl,hc,hk⟩
 |o,t::ts,j+1,h,hj=> by
  unfold InL at h;obtain⟨k,n,A,cap,kids,e,r⟩:=InL.at_ (j:=j) h.2 (by simpa using hj);have ea:o+3+j*3=o+(j+1)*3:=by omega
  rw[ea] at r;exact⟨k,n,A,cap,kids,by simpa using e,r⟩
theorem InK.at_{w:World}{S:Nat->Prop}{A:Option Addr}{ks:List Tr}{j:Nat}(h:InK w S A ks)(hj:j < ks.length):
 ∃b o k n A' cap kids,A=some ⟨b,o,none⟩/\S b/\ks[j]= .mk k n kids/\w.cell? ⟨b,o+j*3,none⟩=some (.int .i64 k)/\w.cell? ⟨b,o+j*3+1,none⟩=some (.int .i64 n)/\w.cell? ⟨b,o+j*3+2,none⟩=some (.slice A' kids.length cap)/\
  kids.length<=cap/\cap<=maxLen/\InK w S A' kids:=by
 rcases h with rfl|⟨b,o,rfl,hb,hl⟩
 · exact absurd hj (by simp)
 · obtain⟨k,n,A',cap,kids,r⟩:=hl.at_ hj
   exact⟨b,o,k,n,A',cap,kids,rfl,hb,r⟩
theorem InK.get{w w':World}{S:Nat->Prop}{A:Option Addr}{ks:List Tr}{j:Nat}(h:InK w S A ks)(he: ∀b,S b->w'.heap[b]? =w.heap[b]?)(hj:j < ks.length):
 ∃b o k n A' cap kids,A=some ⟨b,o,none⟩/\Hid (ks[j]= .mk k n kids)/\w'.cell? ⟨b,o+j*3,none⟩=some (.int .i64 k)/\w'.cell? ⟨b,o+j*3+1,none⟩=some (.int .i64 n)/\w'.cell? ⟨b,o+j*3+2,none⟩=some (.slice A' kids.length cap)/\
  kids.length<=cap/\cap<=maxLen/\InK w' S A' kids/\InT w' S (.mk k n kids) (.agg #[.int .i64 k,.int .i64 n,.slice A' kids.length cap])/\Tr.mk k n kids∈ks/\S b:=by
 obtain⟨b,o,k,n,A',cap,kids,e,hb,hk,c0,c1,c2,hl,hc,hK⟩:=InK.at_ h hj;have hcell: ∀i v,w.cell? ⟨b,i,none⟩=some v->w'.cell? ⟨b,i,none⟩=some v:=fun i v hv=>(World.cell?_of_block (w:=w) (a:=⟨b,i,none⟩) (he b hb)).trans hv
 have hK':=hK.mono (fun _ h=> h) he;exact⟨b,o,k,n,A',cap,kids,e,hdq hk,hcell _ _ c0,hcell _ _ c1,hcell _ _ c2,hl,hc,hK',InT.mk_iff.2 ⟨A',cap,rfl,hl,hc,hK'⟩,hk▸List.getElem_mem hj,hb⟩
theorem InL.drop{w:World}{S:Nat->Prop}{b:Nat}: ∀{o:Nat} {ks:List Tr} (j:Nat),InL w S b o ks->InL w S b (o+j*3) (ks.drop j)
 |o,ks,0,h=> by simpa using h
 |o, [],j+1,h=> by simp[InL]
 |o,t::ts,j+1,h=> by
  unfold InL at h;have:=InL.drop j h.2;have ea:o+3+j*3=o+(j+1)*3:=by omega
  rw[ea] at this
  simpa using this
theorem InL.take{w:World}{S:Nat->Prop}{b:Nat}: ∀{o:Nat} {ks:List Tr} (j:Nat),InL w S b o ks->InL w S b o (ks.take j)
 |o,ks,0,h=> by simp[InL]
 |o, [],j+1,h=> by simp[InL]
 |o,t::ts,j+1,h=> by
  unfold InL at h;simp only[List.take_succ_cons];unfold InL;exact⟨h.1,InL.take j h.2⟩
theorem InK.take{w:World}{S:Nat->Prop}{A:Option Addr}{ks:List Tr}(j:Nat)(h:InK w S A ks):InK w S A (ks.take j):=by
 rcases h with rfl|⟨b,o,rfl,hb,hl⟩
 · exact .inl (by simp)
 · exact .inr ⟨b,o,rfl,hb,hl.take j⟩
def Lies(w:World)(t:Tr)(v:Value):Prop:=InT w (fun b=> b < w.heap.size) t v
def j26(w:World)(A:Option Addr)(ks:List Tr):Prop:=InK w (fun b=> b < w.heap.size) A ks
theorem Lies.ext{w w':World}{t:Tr}{v:Value}(h:Lies w t v)(he:Ext w w'):Lies w' t v:=InT.mono (fun _ hb=> Nat.lt_of_lt_of_le hb he.size) (fun b hb=> he.heap b hb) h
theorem j26.ext{w w':World}{A:Option Addr}{ks:List Tr}(h:j26 w A ks)(he:Ext w w'):j26 w' A ks:=InK.mono (fun _ hb=> Nat.lt_of_lt_of_le hb he.size) (fun b hb=> he.heap b hb) h
theorem Lies.mk_iff{w:World}{k n:Int}{ks:List Tr}{v:Value}:
 Lies w (.mk k n ks) v↔ ∃A cap,v= .agg #[.int .i64 k,.int .i64 n,.slice A ks.length cap]/\ks.length<=cap/\cap<=maxLen/\j26 w A ks:=InT.mk_iff
theorem Lies.mk{w:World}{k n:Int}{ks:List Tr}{A:Option Addr}{cap:Nat}(hl:ks.length<=cap)(hc:cap<=maxLen)(h:j26 w A ks):Lies w (.mk k n ks) (.agg #[.int .i64 k,.int .i64 n,.slice A ks.length cap]):=
 Lies.mk_iff.2 ⟨A,cap,rfl,hl,hc,h⟩
theorem Lies.leaf(w:World)(k n:Int):Lies w (.mk k n []) (.agg #[.int .i64 k,.int .i64 n,.slice none 0 0]):=
 Lies.mk_iff.2 ⟨none,0,rfl,Nat.le_refl _,Nat.zero_le _,.inl rfl⟩
theorem j26.get{w w':World}{A:Option Addr}{ks:List Tr}{j:Nat}(h:j26 w A ks)(he:Ext w w')(hj:j < ks.length):
 ∃b o k n A' cap kids,A=some ⟨b,o,none⟩/\Hid (ks[j]= .mk k n kids)/\w'.cell? ⟨b,o+j*3,none⟩=some (.int .i64 k)/\w'.cell? ⟨b,o+j*3+1,none⟩=some (.int .i64 n)/\w'.cell? ⟨b,o+j*3+2,none⟩=some (.slice A' kids.length cap)/\
  kids.length<=cap/\cap<=maxLen/\j26 w' A' kids/\Lies w' (.mk k n kids) (.agg #[.int .i64 k,.int .i64 n,.slice A' kids.length cap])/\Tr.mk k n kids∈ks:=by
 obtain⟨b,o,k,n,A',cap,kids,e,_,hk,c0,c1,c2,hl,hc,hK⟩:=InK.at_ h hj;exact⟨b,o,k,n,A',cap,kids,e,hdq hk,he.cell c0,he.cell c1,he.cell c2,hl,hc,j26.ext hK he,Lies.mk hl hc (j26.ext hK he),hk▸List.getElem_mem hj⟩
mutual
def OwnT(w:World)(e:TypeId):Tr->Value->List Nat->Prop
 | .mk k n ks,v,L=> ∃A cap,v= .agg #[.int .i64 k,.int .i64 n,.slice A ks.length cap]/\ks.length<=cap/\cap<=maxLen/\
  ((ks= []/\L= [])\/ ∃b cs L',A=some ⟨b,0,none⟩/\w.heap[b]? =some (.cells cs e (0,0))/\L=b::L'/\OwnL w e cs.toList ks L')
def OwnL(w:World)(e:TypeId):List Value->List Tr->List Nat->Prop
 |_, [],L=> L= []
 |xs,t::ts,L=> ∃v0 v1 v2 rest L1 L2,xs=v0::v1::v2::rest/\OwnT w e t (.agg #[v0,v1,v2]) L1/\OwnL w e rest ts L2/\L=L1++L2
end
theorem OwnT.mk_iff{w:World}{e:TypeId}{k n:Int}{ks:List Tr}{v:Value}{L:List Nat}:OwnT w e (.mk k n ks) v L↔ ∃A cap,v= .agg #[.int .i64 k,.int .i64 n,.slice A ks.length cap]/\ks.length<=cap/\cap<=maxLen/\
 ((ks= []/\L= [])\/ ∃b cs L',A=some ⟨b,0,none⟩/\w.heap[b]? =some (.cells cs e (0,0))/\L=b::L'/\OwnL w e cs.toList ks L'):=by
 conv=> lhs;unfold OwnT
theorem OwnL.cons_iff{w:World}{e:TypeId}{xs:List Value}{t:Tr}{ts:List Tr}{L:List Nat}:OwnL w e xs (t::ts) L↔ ∃v0 v1 v2 rest L1 L2,xs=v0::v1::v2::rest/\OwnT w e t (.agg #[v0,v1,v2]) L1/\OwnL w e rest ts L2/\L=L1++L2:=by
 conv=> lhs;unfold OwnL
theorem OwnL.nil{w:World}{e:TypeId}{xs:List Value}:OwnL w e xs [] []:=by unfold OwnL;rfl
mutual
theorem OwnT.mono{w w':World}{e:TypeId}: ∀{t:Tr} {v:Value} {L:List Nat},OwnT w e t v L->(∀b,b∈L->w'.heap[b]? =w.heap[b]?)->OwnT w' e t v L
 | .mk k n ks,v,L,h,hw=> by
  unfold OwnT at h⊢;obtain⟨A,cap,rfl,h1,h2,h3⟩:=h;refine⟨A,cap,rfl,h1,h2, ?_⟩;rcases h3 with h3|⟨b,cs,L',rfl,hb,rfl,hl⟩
  · exact .inl h3
  · exact .inr ⟨b,cs,L',rfl,(hw b (by simp)).trans hb,rfl,OwnL.mono hl (fun x hx=> hw x (by simp[hx]))⟩
theorem OwnL.mono{w w':World}{e:TypeId}: ∀{xs:List Value} {ks:List Tr} {L:List Nat},OwnL w e xs ks L->(∀b,b∈L->w'.heap[b]? =w.heap[b]?)->OwnL w' e xs ks L
 |_, [],_,h,_=> by unfold OwnL at h⊢;exact h
 |xs,t::ts,L,h,hw=> by
  unfold OwnL at h⊢;obtain⟨v0,v1,v2,rest,L1,L2,rfl,h1,h2,rfl⟩:=h;exact⟨v0,v1,v2,rest,L1,L2,rfl,OwnT.mono h1 (fun x hx=> hw x (by simp[hx])),OwnL.mono h2 (fun x hx=> hw x (by simp[hx])),rfl⟩
end
theorem OwnL.snoc{w:World}{e:TypeId}{t:Tr}{v0 v1 v2:Value}{L':List Nat}(ht:OwnT w e t (.agg #[v0,v1,v2]) L')(tail:List Value): ∀{xs:List Value} {ks:List Tr} {L:List Nat},xs.length=ks.length*3->OwnL w e xs ks L->OwnL w e (xs++v0::v1::v2::tail) (ks++ [t]) (L++L')
 |xs, [],L,hx,h=> by
  have hx0:xs= []:=List.eq_nil_of_length_eq_zero (by simpa using hx);subst hx0;unfold OwnL at h;subst h;exact OwnL.cons_iff.2 ⟨v0,v1,v2,tail,L', [],rfl,ht,OwnL.nil,by simp⟩
 |xs,x::ks,L,hx,h=> by
  obtain⟨u0,u1,u2,rest,L1,L2,rfl,h1,h2,rfl⟩:=OwnL.cons_iff.1 h;exact OwnL.cons_iff.2 ⟨u0,u1,u2,_,L1,L2++L',rfl,h1,OwnL.snoc ht tail (by simp only[List.length_cons] at hx;omega) h2,by simp⟩
theorem OwnL.tail{w:World}{e:TypeId}(tail:List Value): ∀{xs:List Value} {ks:List Tr} {L:List Nat},OwnL w e xs ks L->OwnL w e (xs++tail) ks L
 |xs, [],L,h=> by unfold OwnL at h⊢;exact h
 |xs,x::ks,L,h=> by
  obtain⟨u0,u1,u2,rest,L1,L2,rfl,h1,h2,rfl⟩:=OwnL.cons_iff.1 h;exact OwnL.cons_iff.2 ⟨u0,u1,u2,_,L1,L2,rfl,h1,OwnL.tail tail h2,rfl⟩
mutual
theorem OwnT.inT{w:World}{e:TypeId}: ∀{t:Tr} {v:Value} {L:List Nat},OwnT w e t v L->InT w (fun b=> b∈L) t v
 | .mk k n ks,v,L,h=> by
  obtain⟨A,cap,rfl,h1,h2,h3⟩:=OwnT.mk_iff.1 h;refine InT.mk_iff.2 ⟨A,cap,rfl,h1,h2, ?_⟩;rcases h3 with⟨h3,_⟩ |⟨b,cs,L',rfl,hb,rfl,hl⟩
  · exact .inl h3
  · exact .inr ⟨b,0,rfl,by simp,OwnL.inL hb (pre:= []) hl (by simp) (fun x hx=> by simp[hx])⟩
theorem OwnL.inL{w:World}{e:TypeId}{b:Nat}{cs:Array Value}{S:Nat->Prop}(hb:w.heap[b]? =some (.cells cs e (0,0))): ∀{xs pre:List Value} {ks:List Tr} {L:List Nat},OwnL w e xs ks L->cs.toList=pre++xs->(∀x,x∈L->S x)->InL w S b pre.length ks
 |_,_, [],_,_,_,_=> by unfold InL;trivial
 |xs,pre,t::ts,L,h,he,hS=> by
  obtain⟨v0,v1,v2,rest,L1,L2,rfl,h1,h2,rfl⟩:=OwnL.cons_iff.1 h;unfold InL;have hc: ∀i,w.cell? ⟨b,i,none⟩=cs.toList[i]? :=fun i=> by rw[q10 hb];simp
  refine⟨⟨v0,v1,v2, ?_, ?_, ?_,InT.mono (fun x hx=> hS x (by simp[hx])) (fun _ _=> rfl) (OwnT.inT h1)⟩, ?_⟩
  · rw[hc,he,List.getElem?_append_right (Nat.le_refl _)];simp
  · rw[hc,he,List.getElem?_append_right (by omega)];simp
  · rw[hc,he,List.getElem?_append_right (by omega)];simp
  · have:=OwnL.inL hb (pre:=pre++ [v0,v1,v2]) h2 (by simp[he]) (fun x hx=> hS x (by simp[hx]))
    simpa using this
end
def y44(w w':World)(L:List Nat):Prop:=L.Nodup/\ ∀b,b∈L->w.heap.size<=b/\b < w'.heap.size
theorem y44.nil(w w':World):y44 w w' []:=⟨List.nodup_nil,fun _ h=> by cases h⟩
theorem y44.mono{a b c d:World}{L:List Nat}(h:y44 b c L)(h1:a.heap.size<=b.heap.size)(h2:c.heap.size<=d.heap.size):y44 a d L:=⟨h.1,fun x hx=> by have:=h.2 x hx;omega⟩
theorem y44.append{a b c d:World}{L M:List Nat}(h:y44 a b L)(k:y44 c d M)(Xq:b.heap.size<=c.heap.size)(hab:a.heap.size<=b.heap.size)(Gi:c.heap.size<=d.heap.size):y44 a d (L++M):=by
 refine⟨List.nodup_append.2 ⟨h.1,k.1,fun x hx y hy e=> ?_⟩,fun x hx=> ?_⟩
 · have:=h.2 x hx
   have:=k.2 y hy;omega
 · rcases List.mem_append.1 hx with hx|hx
   · have:=h.2 x hx
     omega
   · have:=k.2 x hx
     omega
def Made(w w':World)(e:TypeId)(t:Tr)(v:Value):Prop:= ∃L,OwnT w' e t v L/\y44 w w' L
theorem Made.lies{w w':World}{e:TypeId}{t:Tr}{v:Value}(h:Made w w' e t v):Lies w' t v:=by
 obtain⟨L,h,hf⟩:=h;exact InT.mono (fun b hb=>(hf.2 b hb).2) (fun _ _=> rfl) h.inT
theorem Made.ext{w w' w2:World}{e:TypeId}{t:Tr}{v:Value}(h:Made w w' e t v)(he:Ext w' w2):Made w w2 e t v:=by
 obtain⟨L,h,hf⟩:=h;exact⟨L,h.mono fun b hb=> he.heap b (hf.2 b hb).2,hf.mono (Nat.le_refl _) he.size⟩
theorem Made.since{a w w':World}{e:TypeId}{t:Tr}{v:Value}(h:Made w w' e t v)(ha:a.heap.size<=w.heap.size):Made a w' e t v:=by
 obtain⟨L,h,hf⟩:=h;exact⟨L,h,hf.mono ha (Nat.le_refl _)⟩
theorem Made.leaf(w w':World)(e:TypeId)(k n:Int):Made w w' e (.mk k n []) (.agg #[.int .i64 k,.int .i64 n,.slice none 0 0]):=
 ⟨[],OwnT.mk_iff.2 ⟨none,0,rfl,Nat.le_refl _,Nat.zero_le _,.inl ⟨rfl,rfl⟩⟩,y44.nil _ _⟩
def OwnK(w:World)(e:TypeId)(A:Option Addr)(ks:List Tr)(L:List Nat):Prop:=
 (ks= []/\L= [])\/ ∃b cs L',A=some ⟨b,0,none⟩/\w.heap[b]? =some (.cells cs e (0,0))/\L=b::L'/\OwnL w e cs.toList ks L'
def y106(w w':World)(e:TypeId)(A:Option Addr)(ks:List Tr):Prop:= ∃L,OwnK w' e A ks L/\y44 w w' L
theorem OwnK.mono{w w':World}{e:TypeId}{A:Option Addr}{ks:List Tr}{L:List Nat}(h:OwnK w e A ks L)(hw: ∀b,b∈L->w'.heap[b]? =w.heap[b]?):OwnK w' e A ks L:=by
 rcases h with h|⟨b,cs,L',rfl,hb,rfl,hl⟩
 · exact .inl h
 · exact .inr ⟨b,cs,L',rfl,(hw b (by simp)).trans hb,rfl,hl.mono (fun x hx=> hw x (by simp[hx]))⟩
theorem Made.mk_iff{w w':World}{e:TypeId}{k n:Int}{ks:List Tr}{v:Value}:Made w w' e (.mk k n ks) v↔ ∃A cap,v= .agg #[.int .i64 k,.int .i64 n,.slice A ks.length cap]/\ks.length<=cap/\cap<=maxLen/\y106 w w' e A ks:=by
 constructor
 · rintro⟨L,h,hf⟩
   obtain⟨A,cap,rfl,h1,h2,h3⟩:=OwnT.mk_iff.1 h;exact⟨A,cap,rfl,h1,h2,L,h3,hf⟩
 · rintro⟨A,cap,rfl,h1,h2,L,h3,hf⟩
   exact⟨L,OwnT.mk_iff.2 ⟨A,cap,rfl,h1,h2,h3⟩,hf⟩
theorem Made.mk{w w':World}{e:TypeId}{k n:Int}{ks:List Tr}{A:Option Addr}{cap:Nat}(hl:ks.length<=cap)(hc:cap<=maxLen)(h:y106 w w' e A ks):Made w w' e (.mk k n ks) (.agg #[.int .i64 k,.int .i64 n,.slice A ks.length cap]):=
 Made.mk_iff.2 ⟨A,cap,rfl,hl,hc,h⟩
theorem y106.since{a w w':World}{e:TypeId}{A:Option Addr}{ks:List Tr}(h:y106 w w' e A ks)(ha:a.heap.size<=w.heap.size):y106 a w' e A ks:=by
 obtain⟨L,h,hf⟩:=h;exact⟨L,h,hf.mono ha (Nat.le_refl _)⟩
theorem y106.nil(w w':World)(e:TypeId)(A:Option Addr):y106 w w' e A []:=⟨[],.inl ⟨rfl,rfl⟩,y44.nil _ _⟩
theorem y106.row{w w1 w':World}{e:TypeId}{g:Nat}{cs:Array Value}{ks:List Tr}{L:List Nat}(hb:w'.heap[g]? =some (.cells cs e (0,0)))(hl:OwnL w' e cs.toList ks L)(hf:y44 w1 w' L)(hg:w.heap.size<=g)(hg1:g < w1.heap.size):y106 w w' e (some ⟨g,0,none⟩) ks:=by
 refine⟨g::L,.inr ⟨g,cs,L,rfl,hb,rfl,hl⟩,List.nodup_cons.2 ⟨fun hm=> ?_,hf.1⟩,fun b hm=> ?_⟩
 · have:=hf.2 g hm
   omega
 · rcases List.mem_cons.1 hm with rfl|hm
   · exact⟨hg,j10 hb⟩
   · have:=hf.2 b hm
     omega
end Go.Proofs.YtbnkbepgmenblaaGreat
namespace Go.Proofs.YtbnkbepgmenblaaGreat.Ord
open Go
def dstOf(ops:Array Oper)(i:Nat):Option Tmp:=(ops[i]?).bind (·.dst)
def q46(ops:Array Oper)(i:Nat):List Nat:=((ops[i]?).map fun o=>(o.after.toList.filter (Region.binds .any)).map (·.on)).getD []
def y100(ops:Array Oper):Nat->Nat->Nat->Bool
 |0,_,_=> false
 |f+1,i,j=>(q46 ops i).any fun k=> k==j||y100 ops f k j
def isOn(l:Array Bool)(i:Nat):Bool:=l.getD i false
def okO(ops:Array Oper)(l:Array Bool)(m N:Nat):Bool:=
 ((List.range m).all fun i=> isOn l i||match dstOf ops i with
  |some d=> decide (d < N)&&(List.range i).all fun j=> isOn l j||dstOf ops j !=some d
  |none=> false)&&
 (List.range (ops.size - m)).all (fun i=> isOn l (m+i) ||(List.range m).all fun j=> isOn l j||y100 ops ops.size (m+i) j)&&
 (List.range ops.size).all (fun i=>(q46 ops i).all fun k=> decide (k < i)&&(!isOn l i||isOn l k))&& decide (m<=ops.size)&& decide (l.size=ops.size)
def isDst(ops:Array Oper)(l:Array Bool)(m:Nat)(t:Nat):Bool:=(List.range m).any fun j=> !isOn l j && dstOf ops j==some t
def putN(ops:Array Oper)(v:Nat->Value)(s:Nat->Bool)(a:Act):Nat->Act
 |0=> a
 |n+1=> if s n=true then(putN ops v s a n).put (dstOf ops n) (v n) else putN ops v s a n
def depO(ops:Array Oper)(l:Array Bool)(i j d:Nat):Bool:=(q46 ops i).contains j && dstOf ops j==some d && !isOn l j
def opnO(l:Array Bool):Nat->Nat
 |0=> 0
 |n+1=> opnO l n+if isOn l n=true then 0 else 1
def doneO(l:Array Bool)(m:Nat):Array Bool:=(Array.range l.size).map fun i=> decide (i < m) ||isOn l i
section
variable (P : Program) (ops : Array Oper) (Q : Exit → Act → World → Prop) (l0 : Array Bool) (m : Nat) (E : World → World → Prop) (G : Nat → Value → World → Prop) (a0 : Act) (w0 : World)
def y183(i:Nat)(o:Oper):Prop:=
 ∀a w,E w0 w->(∀t,isDst ops l0 m t=false->a.eval (.tmp t)=a0.eval (.tmp t))->(∀j d,depO ops l0 i j d=true->G j (a.eval (.tmp d)) w)->
  wpOp P ops Q i (fun a' w'=> ∃u,a'=a.put o.dst u/\E w w'/\G i u w') a w
def StepsO:Nat->List Oper->Prop
 |_, []=> True
 |i,o::os=>(isOn l0 i=true\/y183 P ops Q l0 m E G a0 w0 i o)/\StepsO (i+1) os
end
section
variable {P : Program} {ops : Array Oper} {Q : Exit → Act → World → Prop} {l0 : Array Bool} {m : Nat} {E : World → World → Prop} {G : Nat → Value → World → Prop} {a0 : Act} {w0 : World}
theorem step_of{i:Nat}{o:Oper}{a:Act}{w:World}{R:Act->World->Prop}(ho:ops[i]? =some o)(hg:o.guard=none)(h: ∀K:Act->World->Prop,(∀a' w',R a' w'->K a' w')->o.wp P a w K Q):wpOp P ops Q i R a w:=by
 unfold wpOp;rw[ho];simp only;rw[if_pos]
 · exact .inl (h R fun _ _ h=> h)
 · unfold Region.wanted
   rw[hg]
theorem StepsO.get{l:List Oper}: ∀{i j:Nat} {o:Oper},StepsO P ops Q l0 m E G a0 w0 i l->l[j]? =some o->isOn l0 (i+j)=true\/y183 P ops Q l0 m E G a0 w0 (i+j) o:=by
 induction l with
 |nil=> intro i j o h hj;simp at hj
 |cons x l ih=>
  intro i j o h hj;cases j with
  |zero=>
   simp only[List.getElem?_cons_zero,Option.some.injEq] at hj;subst hj;exact h.1
  |succ j=>
   have:=ih (j:=j) h.2 (by simpa using hj)
   rwa [show i+1+j=i+(j+1) by omega] at this
theorem y29{v v':Nat->Value}{s s':Nat->Bool}(a:Act): ∀{n:Nat},(∀j,j < n->s j=s' j/\(s j=true->v j=v' j))->putN ops v s a n=putN ops v' s' a n
 |0,_=> rfl
 |n+1,h=> by
  have ih:=y29 a (n:=n) fun j hj=> h j (by omega)
  obtain⟨h1,h2⟩:=h n (by omega);unfold putN;rw[ih,<-h1]
  split
  · rename_i hs
    rw[h2 hs]
  · rfl
theorem q107{N:Nat}(h:okO ops l0 m N=true){i:Nat}(hi:i < m)(hl:isOn l0 i=false): ∃d,dstOf ops i=some d/\d < N/\ ∀j,j < i->isOn l0 j=false->dstOf ops j≠some d:=by
 unfold okO at h;simp only[Bool.and_eq_true,List.all_eq_true,List.mem_range] at h;have:=h.1.1.1.1 i hi;rw[hl,Bool.false_or] at this
 split at this
 · rename_i d hd
   simp only[Bool.and_eq_true,decide_eq_true_eq,List.all_eq_true,List.mem_range,bne_iff_ne,Bool.or_eq_true] at this;refine⟨d,hd,this.1,fun j hj M0=>(this.2 j hj).resolve_left (by rw[M0];decide)⟩
 · cases this
theorem y189{N:Nat}(h:okO ops l0 m N=true){i j:Nat}(hi:i < m)(hj:j < m)(li:isOn l0 i=false)(lj:isOn l0 j=false)(hne:i≠j){d:Tmp}(hd:dstOf ops i=some d):dstOf ops j≠some d:=by
 rcases Nat.lt_or_gt_of_ne hne with hlt|hlt
 · intro e
   obtain⟨d',h1,-,h2⟩:=q107 h hj lj;rw[e] at h1;simp only[Option.some.injEq] at h1;subst h1;exact h2 i hlt li hd
 · obtain⟨d',h1,-,h2⟩:=q107 h hi li
   rw[hd] at h1;simp only[Option.some.injEq] at h1;subst h1;exact h2 j hlt lj
theorem q56{N:Nat}(h:okO ops l0 m N=true){v:Nat->Value}{s:Nat->Bool}(a:Act)(Q8: ∀j,s j=true->isOn l0 j=false){i:Nat}(hs:s i=false)(P3:isOn l0 i=false)(u:Value): ∀{n:Nat},i < n->n<=m->
 putN ops (fun j=> if j=i then u else v j) (fun j=> if j=i then true else s j) a n=(putN ops v s a n).put (dstOf ops i) u
 |0,hi,_=> by omega
 |n+1,hi,hn=> by
  by_cases e:n=i
  · subst e
    have e1:(if n=n then true else s n)=true:=if_pos rfl;have e2: ¬s n=true:=by rw[hs];decide
    have e3:(if n=n then u else v n)=u:=if_pos rfl;unfold putN;rw[if_pos e1,if_neg e2,e3];rw[y29 a (v:=fun j=> if j=n then u else v j) (s:=fun j=> if j=n then true else s j) (v':=v) (s':=s) (fun j hj=>⟨by rw[if_neg (by omega)],fun _=> by rw[if_neg (by omega)]⟩)]
  · have ih:=q56 h (v:=v) a Q8 hs P3 u (n:=n) (by omega) (by omega)
    unfold putN;rw[if_neg e,if_neg e,ih]
    split
    · rename_i ni
      rw[Act.put_comm];intro d hd;exact y189 h (by omega) (by omega) P3 (Q8 n ni) (Ne.symm e) hd
    · rfl
theorem y219(a:Act)(x:Option Tmp)(v:Value):(a.put x v).tmps.size=a.tmps.size:=by
 cases x <;> simp[Act.put]
theorem q89(v:Nat->Value)(s:Nat->Bool)(a:Act): ∀n,(putN ops v s a n).tmps.size=a.tmps.size
 |0=> rfl
 |n+1=> by
  unfold putN
  split
  · rw[y219,q89]
  · exact q89 v s a n
theorem y84(a:Act)(d:Tmp)(v:Value)(t:Tmp):(a.put (some d) v).eval (.tmp t)=if d=t then(if t < a.tmps.size then v else undef) else a.eval (.tmp t):=by
 show(a.tmps.setIfInBounds d v).getD t undef=_
 rw[Array.getD_eq_getD_getElem?,Array.getElem?_setIfInBounds]
 split
 · rename_i h
   subst h
   split <;> rfl
 · rw[show a.eval (.tmp t)=a.tmps.getD t undef from rfl,Array.getD_eq_getD_getElem?]
theorem j64(v:Nat->Value)(s:Nat->Bool)(a:Act)(t:Tmp): ∀{n:Nat},(∀j,j < n->s j=true->dstOf ops j≠some t)->(putN ops v s a n).eval (.tmp t)=a.eval (.tmp t)
 |0,_=> rfl
 |n+1,h=> by
  have ih:=j64 v s a t (n:=n) fun j hj=> h j (by omega)
  unfold putN
  split
  · rename_i hs
    cases hd:dstOf ops n with
    |none=> exact ih
    |some d=>
     rw[y84,if_neg,ih];intro e;exact h n (by omega) hs (by rw[hd,e])
  · exact ih
theorem j56{N:Nat}(h:okO ops l0 m N=true)(v:Nat->Value)(s:Nat->Bool)(Q8: ∀j,s j=true->isOn l0 j=false)(a:Act)(hN:a.tmps.size=N){k:Nat}{d:Tmp}(hd:dstOf ops k=some d)(hk:s k=true): ∀{n:Nat},k < n->n<=m->(putN ops v s a n).eval (.tmp d)=v k
 |0,hi,_=> by omega
 |n+1,hi,hn=> by
  by_cases e:n=k
  · subst e
    unfold putN;rw[if_pos hk,hd,y84,if_pos rfl,if_pos];rw[q89,hN];obtain⟨d',h1,h2,-⟩:=q107 h (i:=n) (by omega) (Q8 _ hk);rw[hd] at h1;simp only[Option.some.injEq] at h1;subst h1;exact h2
  · have ih:=j56 h v s Q8 a hN hd hk (n:=n) (by omega) (by omega)
    unfold putN
    split
    · rename_i ni
      cases R3:dstOf ops n with
      |none=> exact ih
      |some d'=>
       rw[y84,if_neg,ih];intro e';subst e';exact y189 h (by omega) (by omega) (Q8 _ hk) (Q8 _ ni) (Ne.symm e) hd R3
    · exact ih
theorem y47{l:Nat->Bool}(hd: ∀i,l i=true-> ∀k∈q46 ops i,l k=true): ∀(f i j:Nat),(∀k∈q46 ops i,l k=true)->y100 ops f i j=true->l j=true
 |0,_,_,_,h=> by cases h
 |f+1,i,j,hi,h=> by
  unfold y100 at h;simp only[List.any_eq_true,Bool.or_eq_true,beq_iff_eq] at h;obtain⟨k,hk,h⟩:=h;rcases h with rfl|h
  · exact hi k hk
  · exact y47 hd f k j (hd k (hi k hk)) h
theorem j76{listed:Array Bool}{i:Nat}(h:i∈Region.ready .any ops listed):listed.getD i true=false/\(∃o,ops[i]? =some o)/\ ∀k∈q46 ops i,isOn listed k=true:=by
 obtain⟨h1,o,h2,h3⟩:=mem_ready.1 h;refine⟨h1,⟨o,h2⟩,fun k hk=> ?_⟩;unfold q46 at hk;rw[h2] at hk;simp only[Option.map_some,Option.getD_some,List.mem_map,List.mem_filter] at hk;obtain⟨e,⟨Te,nt⟩,rfl⟩:=hk;exact h3 e (by simpa using Te) nt
theorem j118{listed:Array Bool}{i:Nat}(hi:i < ops.size)(h:listed.getD i true=false)(he: ∀k∈q46 ops i,isOn listed k=true):i∈Region.ready .any ops listed:=by
 refine mem_ready.2 ⟨h,ops[i],by simp[hi],fun e h1 h2=> he e.on ?_⟩;unfold q46;rw[show ops[i]? =some ops[i] by simp[hi]];simp only[Option.map_some,Option.getD_some,List.mem_map,List.mem_filter];exact⟨e,⟨by simpa using h1,h2⟩,rfl⟩
theorem opn_le{l l':Array Bool}(h: ∀j,isOn l j=true->isOn l' j=true): ∀n,opnO l' n<=opnO l n
 |0=> Nat.le_refl _
 |n+1=> by
  have ih:=opn_le h n;unfold opnO
  split
  · omega
  · rename_i h1
    rw[if_neg (fun h2=> h1 (h n h2))];omega
theorem q105{l l':Array Bool}{i:Nat}(h0:isOn l i=false)(h1:isOn l' i=true)(h: ∀j,j≠i->isOn l' j=isOn l j): ∀{n:Nat},opnO l n=opnO l' n+if i < n then 1 else 0
 |0=> by simp[opnO]
 |n+1=> by
  have ih:=q105 h0 h1 h (n:=n);unfold opnO;by_cases e:n=i
  · subst e
    rw[ih,h0,h1];simp
  · rw[ih,h n e]
    by_cases hlt:i < n
    · rw[if_pos hlt,if_pos (by omega:i < n+1)]
      omega
    · have I5: ¬i < n+1:=by omega
      rw[if_neg hlt,if_neg I5];omega
theorem j203{p:Nat->Bool}: ∀{n:Nat},(∃j,j < n/\p j=false)-> ∃j,j < n/\p j=false/\ ∀k,k < j->p k=true
 |0,h=> by obtain⟨j,hj,-⟩:=h;omega
 |n+1,h=> by
  by_cases hq: ∃j,j < n/\p j=false
  · obtain⟨j,h1,h2⟩:=j203 hq
    exact⟨j,by omega,h2⟩
  · obtain⟨j,h1,h2⟩:=h
    have:j=n:=by
     apply Classical.byContradiction
     intro e;exact hq ⟨j,by omega,h2⟩
    subst this;refine⟨j,h1,h2,fun k hk=> ?_⟩;cases hp:p k with
    |true=> rfl
    |false=> exact absurd ⟨k,hk,hp⟩ hq
theorem wpAnyH_order{S:World->Prop}{N fuel fT:Nat}{lT:Array Bool}(S6:okO ops l0 m N=true)(hN:a0.tmps.size=N)(hf:fuel=opnO l0 ops.size)(Ci:doneO l0 m=lT)(Cp:opnO lT ops.size=fT)
 (Ce:E w0 w0) (hE: ∀u v w,E u v->E v w->E u w) (hG: ∀i v w w',G i v w->E w w'->G i v w') (hS: ∀w,E w0 w->S w)
 (steps:StepsO P ops Q l0 m E G a0 w0 0 (ops.toList.take m))
 (fin: ∀(v:Nat->Value) w,E w0 w->(∀j,j < m->isOn l0 j=false->G j (v j) w)->wpAnyH P .any ops Q S fT lT (putN ops v (fun j=> !isOn l0 j) a0 m) w):
 wpAnyH P .any ops Q S fuel l0 a0 w0:=by
 subst Ci;subst Cp;have cw:=S6;unfold okO at cw;simp only[Bool.and_eq_true,decide_eq_true_eq,List.all_eq_true,List.mem_range,Bool.or_eq_true,Bool.not_eq_true'] at cw;obtain⟨⟨⟨⟨-,Bb⟩,hlowb⟩,hm⟩,hlsz⟩:=cw;have Y0: ∀i,i < ops.size-> ∀k∈q46 ops i,k < i:=fun i hi k hk=>(hlowb i hi k hk).1
 have xy: ∀i,isOn l0 i=true-> ∀k∈q46 ops i,isOn l0 k=true:=fun i hl k hk=> by
  by_cases hi:i < ops.size
  · exact(hlowb i hi k hk).2.resolve_left (by rw[hl];decide)
  · unfold q46 at hk
    rw[show ops[i]? =none from Array.getElem?_eq_none (by omega)] at hk;simp at hk
 have Ow: ∀i,m<=i->i < ops.size->isOn l0 i=false-> ∀j,j < m->isOn l0 j=false->y100 ops ops.size i j=true:=fun i h1 h2 hi j hj hl=> by
  have:=Bb (i - m) (by omega);rw[show m+(i - m)=i by omega] at this;have:=this.resolve_left (by rw[hi];decide) j hj;exact this.resolve_left (by rw[hl];decide)
 have Q8: ∀listed:Array Bool,∀j,(isOn listed j && !isOn l0 j)=true->isOn l0 j=false:=fun listed j h=> by
  simp only[Bool.and_eq_true,Bool.not_eq_true'] at h;exact h.2
 have main: ∀(fuel:Nat) (listed:Array Bool) (a:Act) (w:World) (v:Nat->Value),listed.size=ops.size->(∀i,m<=i->isOn listed i=isOn l0 i)->(∀i,isOn l0 i=true->isOn listed i=true)->
  (∀i,isOn listed i=true-> ∀k∈q46 ops i,isOn listed k=true)->a=putN ops v (fun j=> isOn listed j && !isOn l0 j) a0 m->(∀j,j < m->isOn listed j=true->isOn l0 j=false->G j (v j) w)->E w0 w->
  fuel=opnO listed ops.size->wpAnyH P .any ops Q S fuel listed a w:=by
  intro fuel;have done: ∀(fuel:Nat) (listed:Array Bool) (a:Act) (w:World) (v:Nat->Value),listed.size=ops.size->(∀i,m<=i->isOn listed i=isOn l0 i)->a=putN ops v (fun j=> isOn listed j && !isOn l0 j) a0 m->(∀j,j < m->isOn listed j=true->isOn l0 j=false->G j (v j) w)->E w0 w->
   fuel=opnO listed ops.size->(∀j,j < m->isOn listed j=true)->wpAnyH P .any ops Q S fuel listed a w:=by
   intro fuel listed a w v hsz h1 ha hg he hf hall;have hl:listed=doneO l0 m:=by
    apply Array.ext
    · simp[doneO,hsz,hlsz]
    · intro i ft S7
      have e1:isOn listed i=listed[i]:=by simp[isOn,Array.getD_eq_getD_getElem?,ft]
      have e2:(doneO l0 m)[i]=(decide (i < m) ||isOn l0 i):=by simp[doneO]
      rw[<-e1,e2];by_cases hi:i < m
      · rw[hall i hi];simp[hi]
      · rw[h1 i (by omega)];simp[hi]
   subst hl;subst ha;subst hf;rw[y29 (v':=v) (s':=fun j=> !isOn l0 j) a0 (fun j hj=>⟨by rw[hall j hj,Bool.true_and],fun _=> rfl⟩)];exact fin v w he (fun j hj hl=> hg j hj (hall j hj) hl)
  induction fuel with
  |zero=>
   intro listed a w v hsz h1 rh h2 ha hg he hf;refine done 0 listed a w v hsz h1 ha hg he hf fun j hj=> ?_
   have: ∀n,opnO listed n=0-> ∀j,j < n->isOn listed j=true:=by
    intro n
    induction n with
    |zero=> intro _ j hj;omega
    |succ n ih=>
     intro h j hj;unfold opnO at h;by_cases e:j=n
     · subst e
       split at h
       · assumption
       · omega
     · exact ih (by omega) j (by omega)
   exact this ops.size hf.symm j (by omega)
  |succ fuel ih=>
   intro listed a w v hsz h1 rh h2 ha hg he hf;by_cases hall: ∀j,j < m->isOn listed j=true
   · exact done _ listed a w v hsz h1 ha hg he hf hall
   · obtain⟨j0,jc,mi,my⟩:=j203 (p:=isOn listed) (n:=m) (by
      apply Classical.byContradiction
      intro h;exact hall fun j hj=> by
       cases hp:isOn listed j with
       |true=> rfl
       |false=> exact absurd ⟨j,hj,hp⟩ h)
     have gt: ∀i,i < ops.size->listed.getD i true=isOn listed i:=fun i hi=> by
      simp[isOn,Array.getD_eq_getD_getElem?,show i < listed.size by omega]
     refine⟨fun h0=> ?_,fun i hi=> ?_⟩
     · have hr:j0∈Region.ready .any ops listed:=j118 (by omega) (by rw[gt _ (by omega)];exact mi) (fun k hk=> my k (Y0 j0 (by omega) k hk))
       rw[h0] at hr;cases hr
     · obtain⟨r1,⟨o,ho⟩,r3⟩:=j76 hi
       have j7:i < ops.size:=(Array.getElem?_eq_some_iff.1 ho).1;have P3:isOn listed i=false:=by rw[<-gt i j7];exact r1
       have qx:isOn l0 i=false:=by
        cases hp:isOn l0 i with
        |false=> rfl
        |true=> rw[rh i hp] at P3;cases P3
       have yr:isOn l0 j0=false:=by
        cases hp:isOn l0 j0 with
        |false=> rfl
        |true=> rw[rh j0 hp] at mi;cases mi
       have Es:i < m:=by
        apply Classical.byContradiction
        intro Cr;have:=y47 (l:=isOn listed) h2 ops.size i j0 r3 (Ow i (by omega) j7 qx j0 jc yr);rw[mi] at this;cases this
       have hst:=StepsO.get (j:=i) steps (by rw[List.getElem?_take,if_pos Es];simpa using ho);rw[Nat.zero_add] at hst;have hst:=hst.resolve_left (by rw[qx];decide);have hd:(dstOf ops i)=o.dst:=by unfold dstOf;rw[ho];rfl
       have Pj:(isOn listed i && !isOn l0 i)=false:=by rw[P3];rfl
       refine wpOp_mono ?_ (hst a w he ?_ ?_)
       · rintro a' w' ⟨u,rfl,qm,Bg⟩
         have I7: ∀j,isOn (listed.setIfInBounds i true) j=if j=i then true else isOn listed j:=fun j=> by
          unfold isOn;by_cases e:j=i
          · subst e
            rw[if_pos rfl];simp[Array.getD_eq_getD_getElem?,show j < listed.size by omega]
          · rw[if_neg e]
            simp[Array.getD_eq_getD_getElem?,Array.getElem?_setIfInBounds_ne (Ne.symm e)]
         refine⟨hS _ (hE _ _ _ he qm),ih (listed.setIfInBounds i true) _ w' (fun j=> if j=i then u else v j) (by simpa using hsz) ?_ ?_ ?_ ?_ ?_ (hE _ _ _ he qm) ?_⟩
         · intro j hj
           rw[I7,if_neg (by omega)];exact h1 j hj
         · intro j hj
           rw[I7]
           split
           · rfl
           · exact rh j hj
         · intro j hj k hk
           rw[I7] at hj⊢;by_cases e:k=i
           · rw[if_pos e]
           · rw[if_neg e]
             by_cases e2:j=i
             · subst e2;exact r3 k hk
             · rw[if_neg e2] at hj
               exact h2 j hj k hk
         · rw[ha,<-hd,<-q56 S6 (s:=fun j=> isOn listed j && !isOn l0 j) a0 (Q8 listed) Pj qx u Es (Nat.le_refl _)]
           refine y29 a0 (fun j hj=>⟨?_,fun _=> rfl⟩);simp only[I7];by_cases e:j=i
           · rw[if_pos e,if_pos e,e,qx];rfl
           · rw[if_neg e,if_neg e]
         · intro j hj hl M0
           by_cases e:j=i
           · simp only[if_pos e];rw[e];exact Bg
           · simp only[if_neg e]
             rw[I7,if_neg e] at hl;exact hG _ _ _ _ (hg j hj hl M0) qm
         · have:=q105 (l:=listed) (l':=listed.setIfInBounds i true) (i:=i) P3 (by rw[I7,if_pos rfl]) (fun j hj=> by rw[I7,if_neg hj]) (n:=ops.size)
           rw[if_pos j7] at this;omega
       · intro t ht
         rw[ha,j64];intro j hj hs e;unfold isDst at ht;rw[List.any_eq_false] at ht;refine ht j (List.mem_range.2 hj) ?_;rw[Q8 listed j hs,e];simp
       · intro j d V8
         unfold depO at V8;simp only[Bool.and_eq_true,beq_iff_eq,List.contains_iff_mem,Bool.not_eq_true'] at V8;have M0:=r3 j V8.1.1;have hji:=Y0 i j7 j V8.1.1;rw[ha,j56 S6 v _ (Q8 listed) a0 hN V8.1.2 (by rw[M0,V8.2];rfl) (by omega) (Nat.le_refl _)];exact hg j (by omega) M0 V8.2
 refine main fuel l0 a0 w0 (fun _=> undef) hlsz (fun _ _=> rfl) (fun _ h=> h) xy ?_ ?_ Ce hf
 · have: ∀n,putN ops (fun _=> undef) (fun j=> isOn l0 j && !isOn l0 j) a0 n=a0:=fun n=> by
    induction n with
    |zero=> rfl
    |succ n ih=>
     unfold putN;rw[if_neg,ih];simp
   exact(this m).symm
 · intro j hj hl hl2
   rw[hl] at hl2;cases hl2
def putO(ops:Array Oper)(v:Nat->Value)(a:Act):Nat->Act
 |0=> a
 |n+1=>(putO ops v a n).put (dstOf ops n) (v n)
theorem putN_all(v:Nat->Value)(a:Act)(k:Nat): ∀n,putN ops v (fun j=> !isOn (Array.replicate k false) j) a n=putO ops v a n
 |0=> rfl
 |n+1=> by
  unfold putN putO;rw[putN_all v a k n,if_pos];unfold isOn;rw[Array.getD_eq_getD_getElem?,Array.getElem?_replicate]
  split <;> rfl
end
end Go.Proofs.YtbnkbepgmenblaaGreat.Ord
namespace Go.Proofs.YtbnkbepgmenblaaGreat
open Go.RowKit Go.ChangeShapes Go.WideShapes Go.ChangeAt Go.Deep
section
variable {H : Type} {enc : TypeId × Value → H} {P : Program}
theorem y88(hl:laidOutB P=true){W W':World}(hb:Ext W W'): ∀{ts:List TypeId} {vs:List Value} {ds:List (DataW H)} {ps:List MemPlace},
 (ts.all fun t=> P.readableRec t && decide (t < P.types.size))=true->DataW.TrodAll enc P W 0 (fun _=> true) true ts vs ds ps->(∀x∈ps,x.block < W.heap.size)->
 DataW.TrodAll enc P W' 0 (fun b=> decide (b < W.heap.size)) true ts vs ds ps
 | [],vs,ds,ps,_,h,_=> by
  obtain⟨rfl,rfl,rfl⟩:=trodAll_nil h;exact trodAll_mk0
 |t::ts,vs,ds,ps,hr,h,hlt=> by
  obtain⟨v,vs',d,ds',p,q,rfl,rfl,rfl,h0,r⟩:=trodAll_cons h;simp only[List.all_cons,Bool.and_eq_true,decide_eq_true_eq] at hr;exact trodAll_cons_mk (Below.trod hl hr.1.1 hr.1.2 h0 hb (fun x hx=> hlt x (List.mem_append_left _ hx))) (y88 hl hb (by simpa using hr.2) r (fun x hx=> hlt x (List.mem_append_right _ hx)))
theorem y208{C:Checked}{os:Os}{f:FuncId}{fn:Func}{s:ChangeSpec}{tb:TypeId}(own:ownKnob C.prog.godebug=none)(started:os.Started)(noInit:C.prog.inits.idxOf? f=none)(hfn:C.prog.funcs[f]? =some fn)
 (hl:laidOutB C.prog=true) (Lm:(fn.params.toList.all fun t=> C.prog.readableRec t && decide (t < C.prog.types.size))=true) (hres:fn.resultTypes=#[tb]) (Ms:C.prog.underlying tb=some .bool)
 (Ej:s.vars= []) (Pl: ∀ds:List (DataW H),ds.length=fn.params.size->(s.fn H ds).results= [.lit (.bool true)]/\(s.fn H ds).args=ds/\(s.fn H ds).vars= [])
 (witness: ∃(w:World) (tape:Tape) (i:Input),w.os=os/\(w.forCall tape i).Shaped C.prog/\i.vars= []/\Input.okWide C.prog (w.forCall tape i) .any w.heap.size f i/\
  s.pre6 enc C.prog fn [] false (w.forCall tape i).memory i.args/\({}:Assume).holds C.prog (lone (Frame.enter C.prog f i.args .normal) [] (w.forCall tape i)))
 (walk: ∀(W:World) (base:Nat) (args:Array Value) (ds:List (DataW H)) (p:List MemPlace),
  (∀(j:Nat) t v,fn.params[j]? =some t->args[j]? =some v->Value.okWide C.prog W .any base t v)->DataW.TrodAll enc C.prog W 0 (fun _=> true) true fn.params.toList args.toList ds p->
  (∀x∈p,x.block < W.heap.size)->Calls C.prog f args W fun e W'=> e= .returned (.bool true)/\Ext W W'):
 ReturnsInHanded {} C os f .any (s.pre6 enc C.prog fn [] false) (s.post enc C.prog fn false true false false):=by
 refine returnsInHanded_of_change own started noInit hfn witness ?_;intro W base args ds gs before hval hW _ _;have hlt: ∀x∈before,x.block < W.heap.size:=fun x hx=> hW.lt x hx
 have hW':=hW;obtain⟨p,q,hA,hV,rfl,hfz,Ag⟩:=hW;rw[Ej] at hV;obtain⟨rfl,rfl⟩:=trodVars_none hV;simp only[List.append_nil] at hlt hW';refine(walk W base args ds p hval hA hlt).mono ?_;rintro e W' ⟨rfl,hE⟩;have hlen:ds.length=fn.params.size:=by
  have h1: ∀{ts:List TypeId} {vs:List Value} {es:List (DataW H)} {ps:List MemPlace},DataW.TrodAll enc C.prog W 0 (fun _=> true) true ts vs es ps->es.length=ts.length:=by
   intro ts
   induction ts with
   |nil=> intro vs es ps h;obtain⟨_,rfl,_⟩:=trodAll_nil h;rfl
   |cons t ts ih=> intro vs es ps h;obtain⟨v,vs',d,ds',p,q,rfl,rfl,rfl,h0,r⟩:=trodAll_cons h;simp[ih r]
  rw[h1 hA,Array.length_toList]
 obtain⟨e1,e2,e3⟩:=Pl ds hlen;refine⟨_,rfl,ds, [],p, [],p, [],by simpa using hW', ?_, ?_, ?_,Below.frame hE _|> World.keptBut_mono (fun x hx=>⟨hx,.inr (.inl hx)⟩),fun h=> by cases h⟩
 · rw[List.append_nil,e1,hres]
   exact trodAll_mk1 (shut_bool Ms _)
 · rw[List.append_nil,e2]
   exact y88 hl hE Lm hA hlt
 · rw[List.append_nil,e3,Ej]
   exact rfl
end
/-! ### A tree that came in -/
section
variable {H : Type} {enc : TypeId × Value → H} {P : Program} {w : World} {spare : Nat → Bool} {held : Bool}
structure j151 (P:Program) (t s i:TypeId) (f0 f1 f2:Field):Prop where
 ht:P.underlying t=some (.struct #[f0,f1,f2])
 hs:P.underlying s=some (.slice t)
 hi:P.underlying i=some (.int .i64)
 t0:f0.type=i
 t1:f1.type=i
 t2:f2.type=s
 o0:f0.offset=0
 o1:f1.offset=1
 o2:f2.offset=2
 ci:P.cellsOf i=1
 cs:P.cellsOf s=1
 ct:P.cellsOf t=3
abbrev fld(n:String)(t:TypeId)(o:Nat)(b:Nat):Field:={name:=n,type:=t,offset:=o,embedded:=false,tag:= "",pkgPath:= "",byteOffset:=b}
theorem j54{α:Type}{p:Nat->α->Prop}: ∀n:Nat,(∀i,i < n-> ∃x,p i x)-> ∃l:List α,l.length=n/\ ∀i (h:i < l.length),p i l[i]
 |0,_=>⟨[],rfl,fun i h=> absurd h (by simp)⟩
 |n+1,h=> by
  obtain⟨l,hl,hp⟩:=j54 n (fun i hi=> h i (by omega));obtain⟨x,hx⟩:=h n (by omega);refine⟨l++ [x],by simp[hl],fun i hi=> ?_⟩;by_cases j7:i < l.length
  · rw[List.getElem_append_left j7];exact hp i j7
  · have:i=n:=by simp at hi;omega
    subst this;rw[List.getElem_append_right (by omega)]
    simpa[hl] using hx
theorem InL.build{S:Nat->Prop}{b:Nat}: ∀{ks:List Tr} {o:Nat},(∀j (h:j < ks.length),∃v0 v1 v2,w.cell? ⟨b,o+j*3,none⟩=some v0/\w.cell? ⟨b,o+j*3+1,none⟩=some v1/\w.cell? ⟨b,o+j*3+2,none⟩=some v2/\InT w S ks[j] (.agg #[v0,v1,v2]))->InL w S b o ks
 | [],_,_=> by unfold InL;trivial
 |t::ts,o,h=> by
  unfold InL;refine⟨by have h0:=h 0 (by simp);simp only[List.getElem_cons_zero,Nat.zero_mul,Nat.add_zero] at h0;exact h0,InL.build fun j hj=> ?_⟩;have:=h (j+1) (by simpa using hj);have ea:o+(j+1)*3=o+3+j*3:=by omega
  rw[ea] at this
  simpa using this
theorem j71(b o n:Nat):(⟨b,o,none⟩:Addr).add n=⟨b,o+n,none⟩:=by
 unfold Addr.add
 split <;> simp_all
theorem y99{t s i:TypeId}{f0 f1 f2:Field}(T:j151 P t s i f0 f1 f2)(fuel:Nat)
 (ih: ∀m,m < fuel-> ∀(cs:List Value) (x:DataW H×List MemPlace),DataW.trod enc P w 0 spare held m t cs=some x-> ∃(tr:Tr) (v0 v1 v2:Value),cs= [v0,v1,v2]/\Lies w tr (.agg #[v0,v1,v2]))
 (cs:List Value) (x:DataW H×List MemPlace) (h:DataW.trod enc P w 0 spare held fuel s cs=some x):
 ∃(A:Option Addr) (cap:Nat) (ks:List Tr),cs= [.slice A ks.length cap]/\ks.length<=cap/\cap<=maxLen/\j26 w A ks:=by
 rcases DataW.trod_slice T.hs h with⟨rfl,_⟩ |⟨a,len,cap,elems,rest,n,rfl,rfl,_,_,hl,hm,hlen,Hb,_,_⟩
 · exact⟨none,0, [],rfl,Nat.le_refl _,Nat.zero_le _,.inl rfl⟩
 · have ww: ∀j,j < len-> ∃tr:Tr,∃v0 v1 v2,w.cell? (a.add (j*3))=some v0/\w.cell? ((a.add (j*3)).add 1)=some v1/\w.cell? ((a.add (j*3)).add 2)=some v2/\Lies w tr (.agg #[v0,v1,v2]):=by
    intro j hj;have hj':=Hb j hj;rw[List.getElem?_eq_getElem (by omega)] at hj';obtain⟨cs',h1,h2⟩:=Option.bind_eq_some_iff.1 hj';obtain⟨tr,v0,v1,v2,rfl,hL⟩:=ih n (by omega) _ _ h2;obtain⟨_,_,hcell⟩:=World.cells?_some h1;rw[T.ct] at hcell;have q0:=hcell 0 (by omega);have q1:=hcell 1 (by omega);have q2:=hcell 2 (by omega);have e0: ∀y:Addr,y.add 0=y:=fun y=> by simp[Addr.add]
    rw[e0] at q0;exact⟨tr,v0,v1,v2,q0,q1,q2,hL⟩
   obtain⟨ks,p9,hp⟩:=j54 len ww;subst p9;refine⟨some a,cap,ks,rfl,hl,hm, ?_⟩;cases ks with
   |nil=> exact .inl rfl
   |cons t0 ts=>
    obtain⟨b,o,spot⟩:=a;have hlt:b < w.heap.size/\spot=none:=by
     obtain⟨v0,v1,v2,q0,_⟩:=hp 0 (by simp);simp only[Nat.zero_mul] at q0;have e0:(⟨b,o,spot⟩:Addr).add 0=⟨b,o,spot⟩:=by simp[Addr.add]
     rw[e0] at q0;exact⟨World.block_lt_of_cell? _ _ q0,by simpa using World.cell?_spot q0⟩
    obtain⟨hlt,rfl⟩:=hlt;refine .inr ⟨b,o,rfl,hlt,InL.build fun j hj=> ?_⟩;obtain⟨v0,v1,v2,q0,q1,q2,hL⟩:=hp j hj;rw[j71] at q0 q1 q2;rw[j71] at q1 q2;exact⟨v0,v1,v2,q0,q1,q2,hL⟩
theorem j65{t s i:TypeId}{f0 f1 f2:Field}(T:j151 P t s i f0 f1 f2): ∀(fuel:Nat) (cs:List Value) (x:DataW H×List MemPlace),DataW.trod enc P w 0 spare held fuel t cs=some x->
 ∃(tr:Tr) (v0 v1 v2:Value),cs= [v0,v1,v2]/\Lies w tr (.agg #[v0,v1,v2]):=by
 intro fuel
 induction fuel using Nat.strongRecOn with
 |_ fuel ih=>
  intro cs x h;obtain⟨xs,n,rfl,_,Bt,hlen,hg⟩:=DataW.trod_struct T.ht h;rw[T.ct] at Bt
  match cs,Bt,xs,hlen with
  | [v0,v1,v2],_, [y0,y1,y2],_=>
   have g0:=hg 0 f0 rfl;have g1:=hg 1 f1 rfl;have g2:=hg 2 f2 rfl;simp[T.o0,T.o1,T.o2,T.t0,T.t1,T.t2,T.ci,T.cs] at g0 g1 g2
   obtain⟨k,hk,_,_⟩:=DataW.trod_int T.hi g0;obtain⟨m,hm,_,_⟩:=DataW.trod_int T.hi g1;simp at hk hm
   obtain⟨A,cap,ks,he,hl,hc,hK⟩:=y99 T n (fun m hm=> ih m (by omega)) _ _ g2;simp at he
   subst hk;subst hm;subst he;exact⟨.mk k m ks,_,_,_,rfl,Lies.mk hl hc hK⟩
theorem open_tree{t s i:TypeId}{f0 f1 f2:Field}(T:j151 P t s i f0 f1 f2){r:Reach}{b0:Nat}{v:Value}{d:DataW H}{p:List MemPlace}(hv:Value.okWide P w r b0 t v)(h:DataW.Trod enc P w 0 spare held t v d p): ∃tr:Tr,Lies w tr v:=by
 obtain⟨cs,rfl,hsz⟩:=okWide_struct T.ht hv;obtain⟨fuel,hf⟩:=h;obtain⟨tr,v0,v1,v2,hc,hL⟩:=j65 T fuel _ _ hf;obtain⟨l⟩:=cs;simp only[Value.cells] at hc;subst hc;exact⟨tr,hL⟩
theorem open_trees{t s i:TypeId}{f0 f1 f2:Field}(T:j151 P t s i f0 f1 f2){r:Reach}{b0:Nat}{v:Value}{d:DataW H}{p:List MemPlace}(hv:Value.okWide P w r b0 s v)(h:DataW.Trod enc P w 0 spare held s v d p):
 ∃(A:Option Addr) (cap:Nat) (ks:List Tr),v= .slice A ks.length cap/\ks.length<=cap/\cap<=maxLen/\j26 w A ks:=by
 obtain⟨a0,len,cap,rfl⟩:=okWide_slice T.hs hv;obtain⟨fuel,hf⟩:=h;obtain⟨A,cap',ks,he,r⟩:=y99 T fuel (fun m _=> j65 T m) _ _ hf;simp only[Value.cells,List.cons.injEq,and_true] at he;exact⟨A,cap',ks,he,r⟩
end
end Go.Proofs.YtbnkbepgmenblaaGreat
namespace Go.Proofs.YtbnkbepgmenblaaGreat
open Go.RowKit
theorem cells3{w:World}{g i:Nat}{cs:Array Value}{e:TypeId}(hb:w.heap[g]? =some (.cells cs e (0,0)))(h:i+3<=cs.size):
 ∃x0 x1 x2,w.cell? ⟨g,i,none⟩=some x0/\w.cell? ⟨g,i+1,none⟩=some x1/\w.cell? ⟨g,i+2,none⟩=some x2/\w.frozen? ⟨g,i,none⟩=false/\w.frozen? ⟨g,i+1,none⟩=false/\w.frozen? ⟨g,i+2,none⟩=false:=by
 refine⟨cs[i]'(by omega),cs[i+1]'(by omega),cs[i+2]'(by omega), ?_, ?_, ?_,y13 hb _,y13 hb _,y13 hb _⟩
 · rw[q10 hb];exact Array.getElem?_eq_getElem _
 · rw[q10 hb];exact Array.getElem?_eq_getElem _
 · rw[q10 hb];exact Array.getElem?_eq_getElem _
theorem blk1{w w1:World}{a:Obj}(h:Ext (w.alloc a) w1):w1.heap[w.heap.size]? =some a/\w.heap.size < w1.heap.size:=⟨h.newBlk,h.size_alloc⟩
theorem blk2{w w1:World}{a b:Obj}(h:Ext ((w.alloc a).alloc b) w1):w1.heap[w.heap.size]? =some a/\w1.heap[w.heap.size+1]? =some b/\w.heap.size+1 < w1.heap.size:=by
 have h1:=h.newBlk;have h2:=h.size_alloc;simp only[World.size_alloc] at h1 h2;exact⟨(blk1 h.pre).1,h1,h2⟩
theorem blk3{w w1:World}{a b c:Obj}(h:Ext (((w.alloc a).alloc b).alloc c) w1):w1.heap[w.heap.size]? =some a/\w1.heap[w.heap.size+1]? =some b/\w1.heap[w.heap.size+1+1]? =some c/\w.heap.size+1+1 < w1.heap.size:=by
 have h1:=h.newBlk;have h2:=h.size_alloc;simp only[World.size_alloc] at h1 h2;exact⟨(blk2 h.pre).1,(blk2 h.pre).2.1,h1,h2⟩
theorem blk4{w w1:World}{a b c d:Obj}(h:Ext ((((w.alloc a).alloc b).alloc c).alloc d) w1):w1.heap[w.heap.size]? =some a/\w1.heap[w.heap.size+1]? =some b/\w1.heap[w.heap.size+1+1]? =some c/\w1.heap[w.heap.size+1+1+1]? =some d/\w.heap.size+1+1+1 < w1.heap.size:=by
 have h1:=h.newBlk;have h2:=h.size_alloc;simp only[World.size_alloc] at h1 h2;exact⟨(blk3 h.pre).1,(blk3 h.pre).2.1,(blk3 h.pre).2.2.1,h1,h2⟩
theorem own3{w:World}{g:Nat}{x0 x1 x2:Value}{e:TypeId}(hb:w.heap[g]? =some (.cells #[x0,x1,x2] e (0,0))):
 w.cell? ⟨g,0,none⟩=some x0/\w.cell? ⟨g,1,none⟩=some x1/\w.cell? ⟨g,2,none⟩=some x2/\w.frozen? ⟨g,0,none⟩=false/\w.frozen? ⟨g,1,none⟩=false/\w.frozen? ⟨g,2,none⟩=false:=
 ⟨q10 hb 0,q10 hb 1,q10 hb 2,y13 hb 0,y13 hb 1,y13 hb 2⟩
def y25(B:Nat)(w w':World):Prop:=(∀b,B<=b->w'.heap[b]? =w.heap[b]?)/\w.heap.size<=w'.heap.size
theorem y25.refl(B:Nat)(w:World):y25 B w w:=⟨fun _ _=> rfl,Nat.le_refl _⟩
theorem y25.setCell{B:Nat}{a w:World}(h:y25 B a w){p:Addr}(hp:p.block < B)(u:Value):y25 B a (w.setCell p u):=
 ⟨fun b hb=>(Below.heap_setCell w p u b (by omega)).trans (h.1 b hb),by simpa using h.2⟩
theorem Made.after{W w1 w3:World}{e:TypeId}{t:Tr}{v:Value}(h:Made W w1 e t v)(ha:y25 W.heap.size w1 w3):Made W w3 e t v:=by
 obtain⟨L,h,hf⟩:=h;exact⟨L,h.mono fun b hb=> ha.1 b (hf.2 b hb).1,hf.mono (Nat.le_refl _) ha.2⟩
mutual
theorem OwnT.lt{w:World}{e:TypeId}: ∀{t:Tr} {v:Value} {L:List Nat},OwnT w e t v L-> ∀b,b∈L->b < w.heap.size
 | .mk k n ks,v,L,h,b,hb=> by
  obtain⟨A,cap,_,_,_,h3⟩:=OwnT.mk_iff.1 h;rcases h3 with⟨_,rfl⟩ |⟨g,cs,L',_,hg,rfl,hl⟩
  · cases hb
  · rcases List.mem_cons.1 hb with rfl|hb
    · exact j10 hg
    · exact OwnL.lt hl b hb
theorem OwnL.lt{w:World}{e:TypeId}: ∀{xs:List Value} {ks:List Tr} {L:List Nat},OwnL w e xs ks L-> ∀b,b∈L->b < w.heap.size
 |_, [],L,h,b,hb=> by
  unfold OwnL at h;subst h;cases hb
 |xs,t::ts,L,h,b,hb=> by
  obtain⟨u0,u1,u2,rest,L1,L2,rfl,h1,h2,rfl⟩:=OwnL.cons_iff.1 h;rcases List.mem_append.1 hb with hb|hb
  · exact OwnT.lt h1 b hb
  · exact OwnL.lt h2 b hb
end
structure Only (L:List Nat) (w w':World):Prop where
 os:w'.os=w.os
 tape:w'.tape=w.tape
 output:w'.output=w.output
 size:w.heap.size<=w'.heap.size
 block: ∀b,b < w.heap.size-> ¬b∈L->w'.heap[b]? =w.heap[b]?
theorem Only.refl(L:List Nat)(w:World):Only L w w:=⟨rfl,rfl,rfl,Nat.le_refl _,fun _ _ _=> rfl⟩
theorem Only.trans{L:List Nat}{a b c:World}(h:Only L a b)(k:Only L b c):Only L a c:=
 ⟨k.os.trans h.os,k.tape.trans h.tape,k.output.trans h.output,Nat.le_trans h.size k.size,fun i hi hn=>(k.block i (Nat.lt_of_lt_of_le hi h.size) hn).trans (h.block i hi hn)⟩
theorem Only.mono{L M:List Nat}{a b:World}(h:Only L a b)(hs: ∀x,x∈L->x∈M):Only M a b:=⟨h.os,h.tape,h.output,h.size,fun i hi hn=> h.block i hi (fun hm=> hn (hs i hm))⟩
theorem Only.setCell{L:List Nat}{a w:World}(h:Only L a w){p:Addr}(hp:p.block∈L)(u:Value):Only L a (w.setCell p u):=
 ⟨h.os,h.tape,h.output,by simpa using h.size,fun i hi hn=>(Below.heap_setCell w p u i (fun e=> hn (e▸hp))).trans (h.block i hi hn)⟩
theorem oE{L:List Nat}{a b:World}(h:Ext a b):Only L a b:=⟨h.os,h.tape,h.output,h.size,fun i hi _=> h.heap i hi⟩
theorem Only.drew{L:List Nat}{a b:World}(h:Only L a b):Only L a b.drew:=⟨h.os,h.tape,h.output,h.size,h.block⟩
theorem Only.alloc{L:List Nat}{a b:World}(h:Only L a b)(o:Obj):Only L a (b.alloc o):=h.trans (oE ((xr b).alloc o))
theorem Only.ext{L:List Nat}{a w w':World}(h:Only L w w')(he:Ext a w)(hL: ∀b,b∈L->a.heap.size<=b):Ext a w':=
 ⟨h.os.trans he.os,h.tape.trans he.tape,h.output.trans he.output,Nat.le_trans he.size h.size,fun i hi=>(h.block i (Nat.lt_of_lt_of_le hi he.size) (fun hm=> absurd (hL i hm) (by omega))).trans (he.heap i hi)⟩
end Go.Proofs.YtbnkbepgmenblaaGreat
