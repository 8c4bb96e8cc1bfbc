/-
  Lemmas towards the law, 5: Base.
-/
import Derived.Deep.Draws
import Derived.Lib.Hide
import Derived.ProofKit
import Derived.WalkKit
namespace Go.Proofs.YtdkamgafpphdjaaGreat
theorem hdq{p:Prop}(h:p):Go.RowKit.Hid p:=h
open Go.RowKit
set_option linter.unusedVariables false
inductive Tr where
 |mk (k n:Int) (ks:List Tr)
def Tr.kind:Tr->Int| .mk k _ _=> k
def Tr.num:Tr->Int| .mk _ n _=> n
def Tr.kids:Tr->List Tr| .mk _ _ ks=> ks
theorem Tr.ind{P:Tr->Prop}(h: ∀k n ks,(∀t∈ks,P t)->P (.mk k n ks)): ∀t,P t:=fun t=>
 Tr.rec (motive_1:=P) (motive_2:=fun ks=> ∀t∈ks,P t) (fun k n ks ih=> h k n ks ih) (fun _ hm=> by cases hm)
  (fun t ts ht hts x hx=> by
   rcases List.mem_cons.1 hx with rfl|hx
   · exact ht
   · exact hts x hx) t
mutual
def cnt:Tr->Nat
 | .mk _ _ ks=> cnts ks+1
def cnts:List Tr->Nat
 | []=> 0
 |t::ts=> cnt t+cnts ts
end
theorem q96: ∀a b:List Tr,cnts (a++b)=cnts a+cnts b
 | [],b=> by simp[cnts]
 |t::a,b=> by simp[cnts,q96 a b];omega
theorem y118(t:Tr):0 < cnt t:=by
 cases t
 unfold cnt;omega
theorem j16: ∀ks:List Tr,ks.length<=cnts ks
 | []=> by simp
 |t::ts=> by
  have:=j16 ts;have:=y118 t;simp only[List.length_cons,cnts];omega
theorem y14: ∀{ks:List Tr} {t:Tr},t∈ks->cnt t<=cnts ks
 |x::ts,t,h=> by
  rcases List.mem_cons.1 h with rfl|h
  · simp only[cnts];omega
  · have:=y14 h
    simp only[cnts];omega
mutual
def eqTr:Tr->Tr->Bool
 | .mk k n ks,.mk k' n' ks'=> k==k' &&(n==n' && eqTs ks ks')
def eqTs:List Tr->List Tr->Bool
 | [], []=> true
 |t::ts,t'::ts'=> eqTr t t' && eqTs ts ts'
 |_,_=> false
end
theorem j149: ∀{a b:List Tr},eqTs a b=true->a.length=b.length
 | [], [],_=> rfl
 |x::a,y::b,h=> by
  unfold eqTs at h;simp only[Bool.and_eq_true] at h;simp[j149 h.2]
 | [],y::b,h=> by unfold eqTs at h;cases h
 |x::a, [],h=> by unfold eqTs at h;cases h
mutual
theorem j189: ∀{a b:Tr},eqTr a b=true->a=b
 | .mk k n ks,.mk k' n' ks',h=> by
  unfold eqTr at h;simp only[Bool.and_eq_true,beq_iff_eq] at h;obtain⟨rfl,rfl,h⟩:=h;rw[y170 h]
theorem y170: ∀{a b:List Tr},eqTs a b=true->a=b
 | [], [],_=> rfl
 |x::a,y::b,h=> by
  unfold eqTs at h;simp only[Bool.and_eq_true] at h;rw[j189 h.1,y170 h.2]
 | [],y::b,h=> by unfold eqTs at h;cases h
 |x::a, [],h=> by unfold eqTs at h;cases h
end
mutual
theorem q95: ∀a:Tr,eqTr a a=true
 | .mk k n ks=> by
  unfold eqTr;simp[y124 ks]
theorem y124: ∀a:List Tr,eqTs a a=true
 | []=> by unfold eqTs;rfl
 |x::a=> by
  unfold eqTs;simp[q95 x,y124 a]
end
theorem q89{a b:Tr}:eqTr a b=true↔a=b:=⟨j189,fun h=> h▸q95 a⟩
instance:DecidableEq Tr:=fun a b=> decidable_of_iff _ q89
def Ext(w w':World):Prop:=Below w.heap.size w w'
theorem xr(w:World):Ext w w:=Below.refl _ _
theorem Ext.size{w w':World}(h:Ext w w'):w.heap.size<=w'.heap.size:=Below.size h
theorem Ext.trans{a b c:World}(h:Ext a b)(k:Ext b c):Ext a c:=Below.trans h (Below.mono k h.size)
theorem Ext.drew{a b:World}(h:Ext a b):Ext a b.drew:=Below.drew h
theorem Ext.alloc{a b:World}(h:Ext a b)(o:Obj):Ext a (b.alloc o):=Below.alloc h h.size o
theorem Ext.setCell{a b:World}(h:Ext a b){p:Addr}(hp:a.heap.size<=p.block)(u:Value):Ext a (b.setCell p u):=Below.setCell h hp u
theorem Ext.grown{a b c:World}(h:Ext a b){row:Option Nat}(hg:b.grownBy c row)(hr: ∀k,row=some k->a.heap.size<=k):Ext a c:=Below.grown h hg h.size hr
theorem Ext.heap{w w':World}(h:Ext w w')(b:Nat)(hb:b < w.heap.size):w'.heap[b]? =w.heap[b]? :=Below.block h b hb
theorem Ext.cell{w w':World}(h:Ext w w'){b o:Nat}{v:Value}(hb:w.cell? ⟨b,o,none⟩=some v):w'.cell? ⟨b,o,none⟩=some v:=
 (Below.cell (p:=⟨b,o,none⟩) h (World.block_lt_of_cell? _ _ hb)).trans hb
theorem Ext.blk{w w':World}(h:Ext w w'){b:Nat}{x:Obj}(hb:w.heap[b]? =some x):w'.heap[b]? =some x:=
 (h.heap b (Array.getElem?_eq_some_iff.1 hb).1).trans hb
theorem Ext.size_alloc{w w':World}{o:Obj}(h:Ext (w.alloc o) w'):w.heap.size < w'.heap.size:=by
 have:=h.size;simp at this
 omega
theorem Ext.pre{w w':World}{o:Obj}(h:Ext (w.alloc o) w'):Ext w w':=((xr w).alloc o).trans h
theorem Ext.newBlk{w w':World}{o:Obj}(h:Ext (w.alloc o) w'):w'.heap[w.heap.size]? =some o:=h.blk (heap_alloc_new w o)
theorem q12{w:World}{b:Nat}{cs:Array Value}{e:TypeId}(h:w.heap[b]? =some (.cells cs e (0,0)))(i:Nat):w.frozen? ⟨b,i,none⟩=false:=by simp[World.frozen?,h]
theorem y10{w:World}{b:Nat}{cs:Array Value}{e:TypeId}(h:w.heap[b]? =some (.cells cs e (0,0)))(i:Nat):w.cell? ⟨b,i,none⟩=cs[i]? :=cell_of_row w b i cs e (0,0) h
theorem q10{w:World}{b:Nat}{x:Obj}(h:w.heap[b]? =some x):b < w.heap.size:=(Array.getElem?_eq_some_iff.1 h).1
theorem q11{w:World}{b:Nat}{cs:Array Value}{e:TypeId}(h:w.heap[b]? =some (.cells cs e (0,0)))(i:Nat)(u:Value):(w.setCell ⟨b,i,none⟩ u).heap[b]? =some (.cells (cs.setIfInBounds i u) e (0,0)):=by
 simp[World.setCell,Array.getElem?_modify,h]
theorem j12{w:World}{b:Nat}{x:Obj}(h:w.heap[b]? =some x){p:Addr}(hp:b≠p.block)(u:Value):(w.setCell p u).heap[b]? =some x:=(Below.heap_setCell w p u b hp).trans h
theorem j182{w:World}{b:Nat}{x:Obj}(h:w.heap[b]? =some x)(o:Obj):(w.alloc o).heap[b]? =some x:=(Below.heap_alloc w o b (q10 h)).trans h
mutual
def InT(w:World)(S:Nat->Prop):Tr->Value->Prop
 | .mk k n ks,v=> ∃A cap,v= .agg #[.int .i64 k,.int .i64 n,.slice A ks.length cap]/\ks.length<=cap/\cap<=maxLen/\(ks= []\/ ∃b o,A=some ⟨b,o,none⟩/\S b/\InL w S b o ks)
def InL(w:World)(S:Nat->Prop)(b:Nat):Nat->List Tr->Prop
 |_, []=> True
 |o,t::ts=>(∃v0 v1 v2,w.cell? ⟨b,o,none⟩=some v0/\w.cell? ⟨b,o+1,none⟩=some v1/\w.cell? ⟨b,o+2,none⟩=some v2/\InT w S t (.agg #[v0,v1,v2]))/\InL w S b (o+3) ts
end
def InK(w:World)(S:Nat->Prop)(A:Option Addr)(ks:List Tr):Prop:=ks= []\/ ∃b o,A=some ⟨b,o,none⟩/\S b/\InL w S b o ks
theorem InT.mk_iff{w:World}{S:Nat->Prop}{k n:Int}{ks:List Tr}{v:Value}:
 InT w S (.mk k n ks) v↔ ∃A cap,v= .agg #[.int .i64 k,.int .i64 n,.slice A ks.length cap]/\ks.length<=cap/\cap<=maxLen/\InK w S A ks:=by
 unfold InT InK;exact Iff.rfl
mutual
theorem InT.mono{w w':World}{S S':Nat->Prop}(hS: ∀b,S b->S' b)(hw: ∀b,S b->w'.heap[b]? =w.heap[b]?): ∀{t:Tr} {v:Value},InT w S t v->InT w' S' t v
 | .mk k n ks,v,h=> by
  unfold InT at h⊢;obtain⟨A,cap,rfl,h1,h2,h3⟩:=h;refine⟨A,cap,rfl,h1,h2, ?_⟩;rcases h3 with h3|⟨b,o,rfl,hb,hl⟩
  · exact .inl h3
  · exact .inr ⟨b,o,rfl,hS b hb,InL.mono hS hw hb hl⟩
theorem InL.mono{w w':World}{S S':Nat->Prop}(hS: ∀b,S b->S' b)(hw: ∀b,S b->w'.heap[b]? =w.heap[b]?){b:Nat}(hb:S b): ∀{o:Nat} {ks:List Tr},InL w S b o ks->InL w' S' b o ks
 |_, [],_=> by unfold InL;trivial
 |o,t::ts,h=> by
  unfold InL at h⊢;obtain⟨⟨v0,v1,v2,h0,h1,h2,ht⟩,hts⟩:=h;have hc: ∀i,w'.cell? ⟨b,i,none⟩=w.cell? ⟨b,i,none⟩:=fun i=> World.cell?_of_block (w:=w) (a:=⟨b,i,none⟩) (hw b hb)
  exact⟨⟨v0,v1,v2,(hc _).trans h0,(hc _).trans h1,(hc _).trans h2,InT.mono hS hw ht⟩,InL.mono hS hw hb hts⟩
end
theorem InK.mono{w w':World}{S S':Nat->Prop}(hS: ∀b,S b->S' b)(hw: ∀b,S b->w'.heap[b]? =w.heap[b]?){A:Option Addr}{ks:List Tr}(h:InK w S A ks):InK w' S' A ks:=by
 rcases h with h|⟨b,o,rfl,hb,hl⟩
 · exact .inl h
 · exact .inr ⟨b,o,rfl,hS b hb,InL.mono hS hw hb hl⟩
theorem InL.at_{w:World}{S:Nat->Prop}{b:Nat}: ∀{o:Nat} {ks:List Tr} {j:Nat},InL w S b o ks->(hj:j < ks.length)->
 ∃k n A cap kids,ks[j]= .mk k n kids/\w.cell? ⟨b,o+j*3,none⟩=some (.int .i64 k)/\w.cell? ⟨b,o+j*3+1,none⟩=some (.int .i64 n)/\w.cell? ⟨b,o+j*3+2,none⟩=some (.slice A kids.length cap)/\
  kids.length<=cap/\cap<=maxLen/\InK w S A kids
 |o, [],j,_,hj=> absurd hj (by simp)
 |o,t::ts,0,h,_=> by
  unfold InL at h;obtain⟨⟨v0,v1,v2,h0,h1,h2,ht⟩,_⟩:=h;obtain⟨k,n,kids⟩:=t;obtain⟨A,cap,hv,hl,hc,hk⟩:=InT.mk_iff.1 ht;simp only[Value.agg.injEq,Array.mk.injEq,List.cons.injEq,and_true] at hv;obtain⟨rfl,rfl,rfl⟩:=hv;exact⟨k,n,A,cap,kids,rfl,by simpa using h0,by simpa using h1,by simpa using h2,hl,hc,hk⟩
 |o,t::ts,j+1,h,hj=> by
  unfold InL at h;obtain⟨k,n,A,cap,kids,e,r⟩:=InL.at_ (j:=j) h.2 (by simpa using hj);have ea:o+3+j*3=o+(j+1)*3:=by omega
  rw[ea] at r;exact⟨k,n,A,cap,kids,by simpa using e,r⟩
theorem InK.at_{w:World}{S:Nat->Prop}{A:Option Addr}{ks:List Tr}{j:Nat}(h:InK w S A ks)(hj:j < ks.length):
 ∃b o k n A' cap kids,A=some ⟨b,o,none⟩/\S b/\ks[j]= .mk k n kids/\w.cell? ⟨b,o+j*3,none⟩=some (.int .i64 k)/\w.cell? ⟨b,o+j*3+1,none⟩=some (.int .i64 n)/\w.cell? ⟨b,o+j*3+2,none⟩=some (.slice A' kids.length cap)/\
  kids.length<=cap/\cap<=maxLen/\InK w S A' kids:=by
 rcases h with rfl|⟨b,o,rfl,hb,hl⟩
 · exact absurd hj (by simp)
 · obtain⟨k,n,A',cap,kids,r⟩:=hl.at_ hj
   exact⟨b,o,k,n,A',cap,kids,rfl,hb,r⟩
theorem InK.get{w w':World}{S:Nat->Prop}{A:Option Addr}{ks:List Tr}{j:Nat}(h:InK w S A ks)(he: ∀b,S b->w'.heap[b]? =w.heap[b]?)(hj:j < ks.length):
 ∃b o k n A' cap kids,A=some ⟨b,o,none⟩/\Hid (ks[j]= .mk k n kids)/\w'.cell? ⟨b,o+j*3,none⟩=some (.int .i64 k)/\w'.cell? ⟨b,o+j*3+1,none⟩=some (.int .i64 n)/\w'.cell? ⟨b,o+j*3+2,none⟩=some (.slice A' kids.length cap)/\
  kids.length<=cap/\cap<=maxLen/\InK w' S A' kids/\InT w' S (.mk k n kids) (.agg #[.int .i64 k,.int .i64 n,.slice A' kids.length cap])/\Tr.mk k n kids∈ks/\S b:=by
 obtain⟨b,o,k,n,A',cap,kids,e,hb,hk,c0,c1,c2,hl,hc,hK⟩:=InK.at_ h hj;have hcell: ∀i v,w.cell? ⟨b,i,none⟩=some v->w'.cell? ⟨b,i,none⟩=some v:=fun i v hv=>(World.cell?_of_block (w:=w) (a:=⟨b,i,none⟩) (he b hb)).trans hv
 have hK':=hK.mono (fun _ h=> h) he;exact⟨b,o,k,n,A',cap,kids,e,hdq hk,hcell _ _ c0,hcell _ _ c1,hcell _ _ c2,hl,hc,hK',InT.mk_iff.2 ⟨A',cap,rfl,hl,hc,hK'⟩,hk▸List.getElem_mem hj,hb⟩
theorem InL.drop{w:World}{S:Nat->Prop}{b:Nat}: ∀{o:Nat} {ks:List Tr} (j:Nat),InL w S b o ks->InL w S b (o+j*3) (ks.drop j)
 |o,ks,0,h=> by simpa using h
 |o, [],j+1,h=> by simp[InL]
 |o,t::ts,j+1,h=> by
  unfold InL at h;have:=InL.drop j h.2;have ea:o+3+j*3=o+(j+1)*3:=by omega
  rw[ea] at this
  simpa using this
theorem InL.take{w:World}{S:Nat->Prop}{b:Nat}: ∀{o:Nat} {ks:List Tr} (j:Nat),InL w S b o ks->InL w S b o (ks.take j)
 |o,ks,0,h=> by simp[InL]
 |o, [],j+1,h=> by simp[InL]
 |o,t::ts,j+1,h=> by
  unfold InL at h;simp only[List.take_succ_cons];unfold InL;exact⟨h.1,InL.take j h.2⟩
theorem InK.take{w:World}{S:Nat->Prop}{A:Option Addr}{ks:List Tr}(j:Nat)(h:InK w S A ks):InK w S A (ks.take j):=by
 rcases h with rfl|⟨b,o,rfl,hb,hl⟩
 · exact .inl (by simp)
 · exact .inr ⟨b,o,rfl,hb,hl.take j⟩
def Lies(w:World)(t:Tr)(v:Value):Prop:=InT w (fun b=> b < w.heap.size) t v
def y16(w:World)(A:Option Addr)(ks:List Tr):Prop:=InK w (fun b=> b < w.heap.size) A ks
theorem Lies.ext{w w':World}{t:Tr}{v:Value}(h:Lies w t v)(he:Ext w w'):Lies w' t v:=InT.mono (fun _ hb=> Nat.lt_of_lt_of_le hb he.size) (fun b hb=> he.heap b hb) h
theorem y16.ext{w w':World}{A:Option Addr}{ks:List Tr}(h:y16 w A ks)(he:Ext w w'):y16 w' A ks:=InK.mono (fun _ hb=> Nat.lt_of_lt_of_le hb he.size) (fun b hb=> he.heap b hb) h
theorem y16.drew{w:World}{A:Option Addr}{ks:List Tr}(h:y16 w A ks):y16 w.drew A ks:=h.ext (xr w).drew
theorem Lies.mk_iff{w:World}{k n:Int}{ks:List Tr}{v:Value}:
 Lies w (.mk k n ks) v↔ ∃A cap,v= .agg #[.int .i64 k,.int .i64 n,.slice A ks.length cap]/\ks.length<=cap/\cap<=maxLen/\y16 w A ks:=InT.mk_iff
theorem Lies.mk{w:World}{k n:Int}{ks:List Tr}{A:Option Addr}{cap:Nat}(hl:ks.length<=cap)(hc:cap<=maxLen)(h:y16 w A ks):Lies w (.mk k n ks) (.agg #[.int .i64 k,.int .i64 n,.slice A ks.length cap]):=
 Lies.mk_iff.2 ⟨A,cap,rfl,hl,hc,h⟩
theorem Lies.leaf(w:World)(k n:Int):Lies w (.mk k n []) (.agg #[.int .i64 k,.int .i64 n,.slice none 0 0]):=
 Lies.mk_iff.2 ⟨none,0,rfl,Nat.le_refl _,Nat.zero_le _,.inl rfl⟩
theorem y16.get{w w':World}{A:Option Addr}{ks:List Tr}{j:Nat}(h:y16 w A ks)(he:Ext w w')(hj:j < ks.length):
 ∃b o k n A' cap kids,A=some ⟨b,o,none⟩/\Hid (ks[j]= .mk k n kids)/\w'.cell? ⟨b,o+j*3,none⟩=some (.int .i64 k)/\w'.cell? ⟨b,o+j*3+1,none⟩=some (.int .i64 n)/\w'.cell? ⟨b,o+j*3+2,none⟩=some (.slice A' kids.length cap)/\
  kids.length<=cap/\cap<=maxLen/\y16 w' A' kids/\Lies w' (.mk k n kids) (.agg #[.int .i64 k,.int .i64 n,.slice A' kids.length cap])/\Tr.mk k n kids∈ks:=by
 obtain⟨b,o,k,n,A',cap,kids,e,_,hk,c0,c1,c2,hl,hc,hK⟩:=InK.at_ h hj;exact⟨b,o,k,n,A',cap,kids,e,hdq hk,he.cell c0,he.cell c1,he.cell c2,hl,hc,y16.ext hK he,Lies.mk hl hc (y16.ext hK he),hk▸List.getElem_mem hj⟩
mutual
def OwnT(w:World)(e:TypeId):Tr->Value->List Nat->Prop
 | .mk k n ks,v,L=> ∃A cap,v= .agg #[.int .i64 k,.int .i64 n,.slice A ks.length cap]/\ks.length<=cap/\cap<=maxLen/\
  ((ks= []/\L= [])\/ ∃b cs L',A=some ⟨b,0,none⟩/\w.heap[b]? =some (.cells cs e (0,0))/\L=b::L'/\OwnL w e cs.toList ks L')
def OwnL(w:World)(e:TypeId):List Value->List Tr->List Nat->Prop
 |_, [],L=> L= []
 |xs,t::ts,L=> ∃v0 v1 v2 rest L1 L2,xs=v0::v1::v2::rest/\OwnT w e t (.agg #[v0,v1,v2]) L1/\OwnL w e rest ts L2/\L=L1++L2
end
theorem OwnT.mk_iff{w:World}{e:TypeId}{k n:Int}{ks:List Tr}{v:Value}{L:List Nat}:OwnT w e (.mk k n ks) v L↔ ∃A cap,v= .agg #[.int .i64 k,.int .i64 n,.slice A ks.length cap]/\ks.length<=cap/\cap<=maxLen/\
 ((ks= []/\L= [])\/ ∃b cs L',A=some ⟨b,0,none⟩/\w.heap[b]? =some (.cells cs e (0,0))/\L=b::L'/\OwnL w e cs.toList ks L'):=by
 conv=> lhs;unfold OwnT
theorem OwnL.cons_iff{w:World}{e:TypeId}{xs:List Value}{t:Tr}{ts:List Tr}{L:List Nat}:OwnL w e xs (t::ts) L↔ ∃v0 v1 v2 rest L1 L2,xs=v0::v1::v2::rest/\OwnT w e t (.agg #[v0,v1,v2]) L1/\OwnL w e rest ts L2/\L=L1++L2:=by
 conv=> lhs;unfold OwnL
theorem OwnL.nil{w:World}{e:TypeId}{xs:List Value}:OwnL w e xs [] []:=by unfold OwnL;rfl
mutual
theorem OwnT.mono{w w':World}{e:TypeId}: ∀{t:Tr} {v:Value} {L:List Nat},OwnT w e t v L->(∀b,b∈L->w'.heap[b]? =w.heap[b]?)->OwnT w' e t v L
 | .mk k n ks,v,L,h,hw=> by
  unfold OwnT at h⊢;obtain⟨A,cap,rfl,h1,h2,h3⟩:=h;refine⟨A,cap,rfl,h1,h2, ?_⟩;rcases h3 with h3|⟨b,cs,L',rfl,hb,rfl,hl⟩
  · exact .inl h3
  · exact .inr ⟨b,cs,L',rfl,(hw b (by simp)).trans hb,rfl,OwnL.mono hl (fun x hx=> hw x (by simp[hx]))⟩
theorem OwnL.mono{w w':World}{e:TypeId}: ∀{xs:List Value} {ks:List Tr} {L:List Nat},OwnL w e xs ks L->(∀b,b∈L->w'.heap[b]? =w.heap[b]?)->OwnL w' e xs ks L
 |_, [],_,h,_=> by unfold OwnL at h⊢;exact h
 |xs,t::ts,L,h,hw=> by
  unfold OwnL at h⊢;obtain⟨v0,v1,v2,rest,L1,L2,rfl,h1,h2,rfl⟩:=h;exact⟨v0,v1,v2,rest,L1,L2,rfl,OwnT.mono h1 (fun x hx=> hw x (by simp[hx])),OwnL.mono h2 (fun x hx=> hw x (by simp[hx])),rfl⟩
end
theorem OwnL.snoc{w:World}{e:TypeId}{t:Tr}{v0 v1 v2:Value}{L':List Nat}(ht:OwnT w e t (.agg #[v0,v1,v2]) L')(tail:List Value): ∀{xs:List Value} {ks:List Tr} {L:List Nat},xs.length=ks.length*3->OwnL w e xs ks L->OwnL w e (xs++v0::v1::v2::tail) (ks++ [t]) (L++L')
 |xs, [],L,hx,h=> by
  have hx0:xs= []:=List.eq_nil_of_length_eq_zero (by simpa using hx);subst hx0;unfold OwnL at h;subst h;exact OwnL.cons_iff.2 ⟨v0,v1,v2,tail,L', [],rfl,ht,OwnL.nil,by simp⟩
 |xs,x::ks,L,hx,h=> by
  obtain⟨u0,u1,u2,rest,L1,L2,rfl,h1,h2,rfl⟩:=OwnL.cons_iff.1 h;exact OwnL.cons_iff.2 ⟨u0,u1,u2,_,L1,L2++L',rfl,h1,OwnL.snoc ht tail (by simp only[List.length_cons] at hx;omega) h2,by simp⟩
theorem OwnL.tail{w:World}{e:TypeId}(tail:List Value): ∀{xs:List Value} {ks:List Tr} {L:List Nat},OwnL w e xs ks L->OwnL w e (xs++tail) ks L
 |xs, [],L,h=> by unfold OwnL at h⊢;exact h
 |xs,x::ks,L,h=> by
  obtain⟨u0,u1,u2,rest,L1,L2,rfl,h1,h2,rfl⟩:=OwnL.cons_iff.1 h;exact OwnL.cons_iff.2 ⟨u0,u1,u2,_,L1,L2,rfl,h1,OwnL.tail tail h2,rfl⟩
mutual
theorem OwnT.inT{w:World}{e:TypeId}: ∀{t:Tr} {v:Value} {L:List Nat},OwnT w e t v L->InT w (fun b=> b∈L) t v
 | .mk k n ks,v,L,h=> by
  obtain⟨A,cap,rfl,h1,h2,h3⟩:=OwnT.mk_iff.1 h;refine InT.mk_iff.2 ⟨A,cap,rfl,h1,h2, ?_⟩;rcases h3 with⟨h3,_⟩ |⟨b,cs,L',rfl,hb,rfl,hl⟩
  · exact .inl h3
  · exact .inr ⟨b,0,rfl,by simp,OwnL.inL hb (pre:= []) hl (by simp) (fun x hx=> by simp[hx])⟩
theorem OwnL.inL{w:World}{e:TypeId}{b:Nat}{cs:Array Value}{S:Nat->Prop}(hb:w.heap[b]? =some (.cells cs e (0,0))): ∀{xs pre:List Value} {ks:List Tr} {L:List Nat},OwnL w e xs ks L->cs.toList=pre++xs->(∀x,x∈L->S x)->InL w S b pre.length ks
 |_,_, [],_,_,_,_=> by unfold InL;trivial
 |xs,pre,t::ts,L,h,he,hS=> by
  obtain⟨v0,v1,v2,rest,L1,L2,rfl,h1,h2,rfl⟩:=OwnL.cons_iff.1 h;unfold InL;have hc: ∀i,w.cell? ⟨b,i,none⟩=cs.toList[i]? :=fun i=> by rw[y10 hb];simp
  refine⟨⟨v0,v1,v2, ?_, ?_, ?_,InT.mono (fun x hx=> hS x (by simp[hx])) (fun _ _=> rfl) (OwnT.inT h1)⟩, ?_⟩
  · rw[hc,he,List.getElem?_append_right (Nat.le_refl _)];simp
  · rw[hc,he,List.getElem?_append_right (by omega)];simp
  · rw[hc,he,List.getElem?_append_right (by omega)];simp
  · have:=OwnL.inL hb (pre:=pre++ [v0,v1,v2]) h2 (by simp[he]) (fun x hx=> hS x (by simp[hx]))
    simpa using this
end
def j45(w w':World)(L:List Nat):Prop:=L.Nodup/\ ∀b,b∈L->w.heap.size<=b/\b < w'.heap.size
theorem j45.nil(w w':World):j45 w w' []:=⟨List.nodup_nil,fun _ h=> by cases h⟩
theorem j45.mono{a b c d:World}{L:List Nat}(h:j45 b c L)(h1:a.heap.size<=b.heap.size)(h2:c.heap.size<=d.heap.size):j45 a d L:=⟨h.1,fun x hx=> by have:=h.2 x hx;omega⟩
theorem j45.append{a b c d:World}{L M:List Nat}(h:j45 a b L)(k:j45 c d M)(hbc:b.heap.size<=c.heap.size)(hab:a.heap.size<=b.heap.size)(hcd:c.heap.size<=d.heap.size):j45 a d (L++M):=by
 refine⟨List.nodup_append.2 ⟨h.1,k.1,fun x hx y hy e=> ?_⟩,fun x hx=> ?_⟩
 · have:=h.2 x hx
   have:=k.2 y hy;omega
 · rcases List.mem_append.1 hx with hx|hx
   · have:=h.2 x hx
     omega
   · have:=k.2 x hx
     omega
def Made(w w':World)(e:TypeId)(t:Tr)(v:Value):Prop:= ∃L,OwnT w' e t v L/\j45 w w' L
theorem Made.lies{w w':World}{e:TypeId}{t:Tr}{v:Value}(h:Made w w' e t v):Lies w' t v:=by
 obtain⟨L,h,hf⟩:=h;exact InT.mono (fun b hb=>(hf.2 b hb).2) (fun _ _=> rfl) h.inT
theorem Made.ext{w w' w2:World}{e:TypeId}{t:Tr}{v:Value}(h:Made w w' e t v)(he:Ext w' w2):Made w w2 e t v:=by
 obtain⟨L,h,hf⟩:=h;exact⟨L,h.mono fun b hb=> he.heap b (hf.2 b hb).2,hf.mono (Nat.le_refl _) he.size⟩
theorem Made.since{a w w':World}{e:TypeId}{t:Tr}{v:Value}(h:Made w w' e t v)(ha:a.heap.size<=w.heap.size):Made a w' e t v:=by
 obtain⟨L,h,hf⟩:=h;exact⟨L,h,hf.mono ha (Nat.le_refl _)⟩
theorem Made.leaf(w w':World)(e:TypeId)(k n:Int):Made w w' e (.mk k n []) (.agg #[.int .i64 k,.int .i64 n,.slice none 0 0]):=
 ⟨[],OwnT.mk_iff.2 ⟨none,0,rfl,Nat.le_refl _,Nat.zero_le _,.inl ⟨rfl,rfl⟩⟩,j45.nil _ _⟩
def OwnK(w:World)(e:TypeId)(A:Option Addr)(ks:List Tr)(L:List Nat):Prop:=
 (ks= []/\L= [])\/ ∃b cs L',A=some ⟨b,0,none⟩/\w.heap[b]? =some (.cells cs e (0,0))/\L=b::L'/\OwnL w e cs.toList ks L'
def y96(w w':World)(e:TypeId)(A:Option Addr)(ks:List Tr):Prop:= ∃L,OwnK w' e A ks L/\j45 w w' L
theorem Made.mk_iff{w w':World}{e:TypeId}{k n:Int}{ks:List Tr}{v:Value}:Made w w' e (.mk k n ks) v↔ ∃A cap,v= .agg #[.int .i64 k,.int .i64 n,.slice A ks.length cap]/\ks.length<=cap/\cap<=maxLen/\y96 w w' e A ks:=by
 constructor
 · rintro⟨L,h,hf⟩
   obtain⟨A,cap,rfl,h1,h2,h3⟩:=OwnT.mk_iff.1 h;exact⟨A,cap,rfl,h1,h2,L,h3,hf⟩
 · rintro⟨A,cap,rfl,h1,h2,L,h3,hf⟩
   exact⟨L,OwnT.mk_iff.2 ⟨A,cap,rfl,h1,h2,h3⟩,hf⟩
theorem Made.mk{w w':World}{e:TypeId}{k n:Int}{ks:List Tr}{A:Option Addr}{cap:Nat}(hl:ks.length<=cap)(hc:cap<=maxLen)(h:y96 w w' e A ks):Made w w' e (.mk k n ks) (.agg #[.int .i64 k,.int .i64 n,.slice A ks.length cap]):=
 Made.mk_iff.2 ⟨A,cap,rfl,hl,hc,h⟩
theorem y96.lies{w w':World}{e:TypeId}{A:Option Addr}{ks:List Tr}(h:y96 w w' e A ks):y16 w' A ks:=by
 obtain⟨L,h,hf⟩:=h;rcases h with⟨rfl,_⟩ |⟨b,cs,L',rfl,hb,rfl,hl⟩
 · exact .inl rfl
 · exact .inr ⟨b,0,rfl,(hf.2 b (by simp)).2,OwnL.inL hb (pre:= []) hl (by simp) (fun x hx=>(hf.2 x (by simp[hx])).2)⟩
theorem y96.nil(w w':World)(e:TypeId)(A:Option Addr):y96 w w' e A []:=⟨[],.inl ⟨rfl,rfl⟩,j45.nil _ _⟩
end Go.Proofs.YtdkamgafpphdjaaGreat
