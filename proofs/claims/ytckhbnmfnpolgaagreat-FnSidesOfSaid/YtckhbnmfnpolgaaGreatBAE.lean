/-
  Lemmas towards the law, 5: Base, Lift, Mem, Valid.
-/
import Derived.Carry
import Derived.Deep.Draws
import Derived.Deep.Slices
import Derived.Deep.Strs
import Derived.Laws.MakeOwn
import Derived.Laws.OwnMore
import Derived.Lib.Hide
import Derived.OpenShut
import Derived.ProofKit
import Derived.WalkKit
open List renaming length_cons->bY,getElem_mem->gL,getElem?_append_right->eR
open Bool renaming and_eq_true->aW,and_eq_false_iff->eX
open Go renaming World->aK,Value->aS,TypeId->aY,maxLen->aU,MemPlace->kR
open Go.World renaming block_lt_of_cell?->bR,cell?_of_block->dQ,size_alloc->dU
open Nat renaming lt_of_lt_of_le->aX,le_refl->aM
open Array renaming getElem?_eq_getElem->gU
set_option linter.unusedVariables false
namespace Go.Proofs.YtckhbnmfnpolgaaGreat
theorem hdq{p:Prop}(h:p):Go.RowKit.Hid p:=h
open Go.RowKit
inductive Tr where
 |mk (k n:Int) (ks:List Tr)
def Tr.kind:Tr->Int| .mk k _ _=> k
def Tr.num:Tr->Int| .mk _ n _=> n
def Tr.kids:Tr->List Tr| .mk _ _ a=> a
theorem Tr.ind{P:Tr->Prop}(h: ∀k n a,(∀t∈a,P t)->P (.mk k n a)): ∀t,P t:=fun t=>
 Tr.rec (motive_1:=P) (motive_2:=fun a=> ∀t∈a,P t) (fun k n a ih=> h k n a ih) (fun _ hm=> by cases hm)
  (fun t ts ht b x hx=> by
   rcases List.mem_cons.1 hx with rfl|hx
   · exact ht
   · exact b x hx) t
mutual
def cnt:Tr->Nat
 | .mk _ _ a=> W1 a+1
def W1:List Tr->Nat
 | []=> 0
 |t::ts=> cnt t+W1 ts
end
theorem ry: ∀a b:List Tr,W1 (a++b)=W1 a+W1 b
 | [],b=> by simp[W1]
 |t::a,b=> by simp[W1,ry a b];omega
theorem Tq(t:Tr):0 < cnt t:=by
 cases t
 unfold cnt;omega
theorem kf: ∀a:List Tr,a.length<=W1 a
 | []=> by simp
 |t::ts=> by
  have:=kf ts;have:=Tq t;simp only[bY,W1];omega
theorem L9: ∀{a:List Tr} {t:Tr},t∈a->cnt t<=W1 a
 |x::ts,t,h=> by
  rcases List.mem_cons.1 h with rfl|h
  · simp only[W1];omega
  · have:=L9 h
    simp only[W1];omega
mutual
def L7:Tr->Tr->Bool
 | .mk k n d,.mk c b a=> k==c &&(n==b && m8 d a)
def m8:List Tr->List Tr->Bool
 | [], []=> true
 |t::ts,b::a=> L7 t b && m8 ts a
 |_,_=> false
end
theorem my: ∀{a b:List Tr},m8 a b=true->a.length=b.length
 | [], [],_=> rfl
 |x::a,y::b,h=> by
  unfold m8 at h;simp only[aW] at h;simp[my h.2]
 | [],y::b,h=> by unfold m8 at h;cases h
 |x::a, [],h=> by unfold m8 at h;cases h
mutual
theorem Us: ∀{a b:Tr},L7 a b=true->a=b
 | .mk k n f,.mk e d c,h=> by
  unfold L7 at h;simp only[aW,beq_iff_eq] at h;obtain⟨rfl,rfl,h⟩:=h;rw[Vx h]
theorem Vx: ∀{a b:List Tr},m8 a b=true->a=b
 | [], [],_=> rfl
 |x::a,y::b,h=> by
  unfold m8 at h;simp only[aW] at h;rw[Us h.1,Vx h.2]
 | [],y::b,h=> by unfold m8 at h;cases h
 |x::a, [],h=> by unfold m8 at h;cases h
end
mutual
theorem Wr: ∀a:Tr,L7 a a=true
 | .mk k n b=> by
  unfold L7;simp[aC b]
theorem aC: ∀a:List Tr,m8 a a=true
 | []=> by unfold m8;rfl
 |x::a=> by
  unfold m8;simp[Wr x,aC a]
end
theorem Xv{a b:Tr}:L7 a b=true↔a=b:=⟨Us,fun h=> h▸Wr a⟩
instance:DecidableEq Tr:=fun a b=> decidable_of_iff _ Xv
def Ext(w a:aK):Prop:=Below w.heap.size w a
theorem xr(w:aK):Ext w w:=Below.refl _ _
theorem Ext.size{w a:aK}(h:Ext w a):w.heap.size<=a.heap.size:=Below.size h
theorem Ext.trans{a b c:aK}(h:Ext a b)(k:Ext b c):Ext a c:=Below.trans h (Below.mono k h.size)
theorem Ext.drew{a b:aK}(h:Ext a b):Ext a b.drew:=Below.drew h
theorem Ext.alloc{a b:aK}(h:Ext a b)(o:Obj):Ext a (b.alloc o):=Below.alloc h h.size o
theorem Ext.setCell{a b:aK}(h:Ext a b){p:Addr}(c:a.heap.size<=p.block)(u:aS):Ext a (b.setCell p u):=Below.setCell h c u
theorem Ext.grown{a b c:aK}(h:Ext a b){row:Option Nat}(d:b.grownBy c row)(hr: ∀k,row=some k->a.heap.size<=k):Ext a c:=Below.grown h d h.size hr
theorem Ext.heap{w a:aK}(h:Ext w a)(b:Nat)(c:b < w.heap.size):a.heap[b]? =w.heap[b]? :=Below.block h b c
theorem Ext.cell{w c:aK}(h:Ext w c){b o:Nat}{v:aS}(a:w.cell? ⟨b,o,none⟩=some v):c.cell? ⟨b,o,none⟩=some v:=
 (Below.cell (p:=⟨b,o,none⟩) h (bR _ _ a)).trans a
theorem Ext.blk{w c:aK}(h:Ext w c){b:Nat}{x:Obj}(a:w.heap[b]? =some x):c.heap[b]? =some x:=
 (h.heap b (Array.getElem?_eq_some_iff.1 a).1).trans a
theorem Ext.size_alloc{w a:aK}{o:Obj}(h:Ext (w.alloc o) a):w.heap.size < a.heap.size:=by
 have:=h.size;simp at this
 omega
theorem Ext.pre{w a:aK}{o:Obj}(h:Ext (w.alloc o) a):Ext w a:=((xr w).alloc o).trans h
theorem Ext.newBlk{w a:aK}{o:Obj}(h:Ext (w.alloc o) a):a.heap[w.heap.size]? =some o:=h.blk (heap_alloc_new w o)
theorem Ob{w:aK}{b:Nat}{cs:Array aS}{e:aY}(h:w.heap[b]? =some (.cells cs e (0,0)))(i:Nat):w.frozen? ⟨b,i,none⟩=false:=by simp[World.frozen?,h]
theorem i1{w:aK}{b:Nat}{cs:Array aS}{e:aY}(h:w.heap[b]? =some (.cells cs e (0,0)))(i:Nat):w.cell? ⟨b,i,none⟩=cs[i]? :=cell_of_row w b i cs e (0,0) h
theorem O1{w:aK}{b:Nat}{x:Obj}(h:w.heap[b]? =some x):b < w.heap.size:=(Array.getElem?_eq_some_iff.1 h).1
theorem M6{w:aK}{b:Nat}{cs:Array aS}{e:aY}(h:w.heap[b]? =some (.cells cs e (0,0)))(i:Nat)(u:aS):(w.setCell ⟨b,i,none⟩ u).heap[b]? =some (.cells (cs.setIfInBounds i u) e (0,0)):=by
 simp[World.setCell,Array.getElem?_modify,h]
theorem bd{w:aK}{b:Nat}{x:Obj}(h:w.heap[b]? =some x){p:Addr}(a:b≠p.block)(u:aS):(w.setCell p u).heap[b]? =some x:=(Below.heap_setCell w p u b a).trans h
theorem kF{w:aK}{b:Nat}{x:Obj}(h:w.heap[b]? =some x)(o:Obj):(w.alloc o).heap[b]? =some x:=(Below.heap_alloc w o b (O1 h)).trans h
mutual
def InT(w:aK)(S:Nat->Prop):Tr->aS->Prop
 | .mk k n a,v=> ∃A cap,v= .agg #[.int .i64 k,.int .i64 n,.slice A a.length cap]/\a.length<=cap/\cap<=aU/\(a= []\/ ∃b o,A=some ⟨b,o,none⟩/\S b/\O4 w S b o a)
def O4(w:aK)(S:Nat->Prop)(b:Nat):Nat->List Tr->Prop
 |_, []=> True
 |o,t::ts=>(∃v0 v1 v2,w.cell? ⟨b,o,none⟩=some v0/\w.cell? ⟨b,o+1,none⟩=some v1/\w.cell? ⟨b,o+2,none⟩=some v2/\InT w S t (.agg #[v0,v1,v2]))/\O4 w S b (o+3) ts
end
def InK(w:aK)(S:Nat->Prop)(A:Option Addr)(a:List Tr):Prop:=a= []\/ ∃b o,A=some ⟨b,o,none⟩/\S b/\O4 w S b o a
theorem InT.mk_iff{w:aK}{S:Nat->Prop}{k n:Int}{a:List Tr}{v:aS}:
 InT w S (.mk k n a) v↔ ∃A cap,v= .agg #[.int .i64 k,.int .i64 n,.slice A a.length cap]/\a.length<=cap/\cap<=aU/\InK w S A a:=by
 unfold InT InK;exact Iff.rfl
mutual
theorem InT.mono{w w':aK}{S S':Nat->Prop}(hS: ∀b,S b->S' b)(f: ∀b,S b->w'.heap[b]? =w.heap[b]?): ∀{t:Tr} {v:aS},InT w S t v->InT w' S' t v
 | .mk k n g,v,h=> by
  unfold InT at h⊢;obtain⟨A,cap,rfl,d,e,a⟩:=h;refine⟨A,cap,rfl,d,e, ?_⟩;rcases a with a|⟨b,o,rfl,c,hl⟩
  · exact .inl a
  · exact .inr ⟨b,o,rfl,hS b c,O4.mono hS f c hl⟩
theorem O4.mono{w w':aK}{S S':Nat->Prop}(hS: ∀b,S b->S' b)(c: ∀b,S b->w'.heap[b]? =w.heap[b]?){b:Nat}(d:S b): ∀{o:Nat} {e:List Tr},O4 w S b o e->O4 w' S' b o e
 |_, [],_=> by unfold O4;trivial
 |o,t::ts,h=> by
  unfold O4 at h⊢;obtain⟨⟨v0,v1,v2,f,g,j,ht⟩,k⟩:=h;have hc: ∀i,w'.cell? ⟨b,i,none⟩=w.cell? ⟨b,i,none⟩:=fun i=> dQ (w:=w) (a:=⟨b,i,none⟩) (c b d)
  exact⟨⟨v0,v1,v2,(hc _).trans f,(hc _).trans g,(hc _).trans j,InT.mono hS c ht⟩,O4.mono hS c d k⟩
end
theorem InK.mono{w w':aK}{S S':Nat->Prop}(hS: ∀b,S b->S' b)(d: ∀b,S b->w'.heap[b]? =w.heap[b]?){A:Option Addr}{c:List Tr}(h:InK w S A c):InK w' S' A c:=by
 rcases h with h|⟨b,o,rfl,a,hl⟩
 · exact .inl h
 · exact .inr ⟨b,o,rfl,hS b a,O4.mono hS d a hl⟩
theorem O4.at_{w:aK}{S:Nat->Prop}{b:Nat}: ∀{o:Nat} {c:List Tr} {j:Nat},O4 w S b o c->(a:j < c.length)->
 ∃k n A cap kids,c[j]= .mk k n kids/\w.cell? ⟨b,o+j*3,none⟩=some (.int .i64 k)/\w.cell? ⟨b,o+j*3+1,none⟩=some (.int .i64 n)/\w.cell? ⟨b,o+j*3+2,none⟩=some (.slice A kids.length cap)/\
  kids.length<=cap/\cap<=aU/\InK w S A kids
 |o, [],j,_,a=> absurd a (by simp)
 |o,t::ts,0,h,_=> by
  unfold O4 at h;obtain⟨⟨v0,v1,v2,d,f,i,ht⟩,_⟩:=h;obtain⟨k,n,kids⟩:=t;obtain⟨A,cap,hv,hl,hc,hk⟩:=InT.mk_iff.1 ht;simp only[Value.agg.injEq,Array.mk.injEq,List.cons.injEq,and_true] at hv;obtain⟨rfl,rfl,rfl⟩:=hv;exact⟨k,n,A,cap,kids,rfl,by simpa using d,by simpa using f,by simpa using i,hl,hc,hk⟩
 |o,t::ts,j+1,h,a=> by
  unfold O4 at h;obtain⟨k,n,A,cap,kids,e,r⟩:=O4.at_ (j:=j) h.2 (by simpa using a);have g:o+3+j*3=o+(j+1)*3:=by omega
  rw[g] at r;exact⟨k,n,A,cap,kids,by simpa using e,r⟩
theorem InK.at_{w:aK}{S:Nat->Prop}{A:Option Addr}{c:List Tr}{j:Nat}(h:InK w S A c)(d:j < c.length):
 ∃b o k n a cap kids,A=some ⟨b,o,none⟩/\S b/\c[j]= .mk k n kids/\w.cell? ⟨b,o+j*3,none⟩=some (.int .i64 k)/\w.cell? ⟨b,o+j*3+1,none⟩=some (.int .i64 n)/\w.cell? ⟨b,o+j*3+2,none⟩=some (.slice a kids.length cap)/\
  kids.length<=cap/\cap<=aU/\InK w S a kids:=by
 rcases h with rfl|⟨b,o,rfl,e,hl⟩
 · exact absurd d (by simp)
 · obtain⟨k,n,a,cap,kids,r⟩:=hl.at_ d
   exact⟨b,o,k,n,a,cap,kids,rfl,e,r⟩
theorem InK.get{w d:aK}{S:Nat->Prop}{A:Option Addr}{l:List Tr}{j:Nat}(h:InK w S A l)(p: ∀b,S b->d.heap[b]? =w.heap[b]?)(m:j < l.length):
 ∃b o k n f cap kids,A=some ⟨b,o,none⟩/\Hid (l[j]= .mk k n kids)/\d.cell? ⟨b,o+j*3,none⟩=some (.int .i64 k)/\d.cell? ⟨b,o+j*3+1,none⟩=some (.int .i64 n)/\d.cell? ⟨b,o+j*3+2,none⟩=some (.slice f kids.length cap)/\
  kids.length<=cap/\cap<=aU/\InK d S f kids/\InT d S (.mk k n kids) (.agg #[.int .i64 k,.int .i64 n,.slice f kids.length cap])/\Tr.mk k n kids∈l/\S b:=by
 obtain⟨b,o,k,n,f,cap,kids,e,q,hk,s,r,t,hl,hc,hK⟩:=InK.at_ h m;have c: ∀i v,w.cell? ⟨b,i,none⟩=some v->d.cell? ⟨b,i,none⟩=some v:=fun i v hv=>(dQ (w:=w) (a:=⟨b,i,none⟩) (p b q)).trans hv
 have g:=hK.mono (fun _ h=> h) p;exact⟨b,o,k,n,f,cap,kids,e,hdq hk,c _ _ s,c _ _ r,c _ _ t,hl,hc,g,InT.mk_iff.2 ⟨f,cap,rfl,hl,hc,g⟩,hk▸gL m,q⟩
theorem O4.drop{w:aK}{S:Nat->Prop}{b:Nat}: ∀{o:Nat} {a:List Tr} (j:Nat),O4 w S b o a->O4 w S b (o+j*3) (a.drop j)
 |o,a,0,h=> by simpa using h
 |o, [],j+1,h=> by simp[O4]
 |o,t::ts,j+1,h=> by
  unfold O4 at h;have:=O4.drop j h.2;have c:o+3+j*3=o+(j+1)*3:=by omega
  rw[c] at this
  simpa using this
theorem O4.take{w:aK}{S:Nat->Prop}{b:Nat}: ∀{o:Nat} {a:List Tr} (j:Nat),O4 w S b o a->O4 w S b o (a.take j)
 |o,a,0,h=> by simp[O4]
 |o, [],j+1,h=> by simp[O4]
 |o,t::ts,j+1,h=> by
  unfold O4 at h;simp only[List.take_succ_cons];unfold O4;exact⟨h.1,O4.take j h.2⟩
theorem InK.take{w:aK}{S:Nat->Prop}{A:Option Addr}{a:List Tr}(j:Nat)(h:InK w S A a):InK w S A (a.take j):=by
 rcases h with rfl|⟨b,o,rfl,c,hl⟩
 · exact .inl (by simp)
 · exact .inr ⟨b,o,rfl,c,hl.take j⟩
def Lies(w:aK)(t:Tr)(v:aS):Prop:=InT w (fun b=> b < w.heap.size) t v
def q24(w:aK)(A:Option Addr)(a:List Tr):Prop:=InK w (fun b=> b < w.heap.size) A a
theorem Lies.ext{w c:aK}{t:Tr}{v:aS}(h:Lies w t v)(d:Ext w c):Lies c t v:=InT.mono (fun _ a=> aX a d.size) (fun b a=> d.heap b a) h
theorem q24.ext{w c:aK}{A:Option Addr}{ks:List Tr}(h:q24 w A ks)(d:Ext w c):q24 c A ks:=InK.mono (fun _ a=> aX a d.size) (fun b a=> d.heap b a) h
theorem Lies.mk_iff{w:aK}{k n:Int}{a:List Tr}{v:aS}:
 Lies w (.mk k n a) v↔ ∃A cap,v= .agg #[.int .i64 k,.int .i64 n,.slice A a.length cap]/\a.length<=cap/\cap<=aU/\q24 w A a:=InT.mk_iff
theorem Lies.mk{w:aK}{k n:Int}{a:List Tr}{A:Option Addr}{cap:Nat}(hl:a.length<=cap)(hc:cap<=aU)(h:q24 w A a):Lies w (.mk k n a) (.agg #[.int .i64 k,.int .i64 n,.slice A a.length cap]):=
 Lies.mk_iff.2 ⟨A,cap,rfl,hl,hc,h⟩
theorem q24.get{w a:aK}{A:Option Addr}{f:List Tr}{j:Nat}(h:q24 w A f)(c:Ext w a)(g:j < f.length):
 ∃b o k n d cap kids,A=some ⟨b,o,none⟩/\Hid (f[j]= .mk k n kids)/\a.cell? ⟨b,o+j*3,none⟩=some (.int .i64 k)/\a.cell? ⟨b,o+j*3+1,none⟩=some (.int .i64 n)/\a.cell? ⟨b,o+j*3+2,none⟩=some (.slice d kids.length cap)/\
  kids.length<=cap/\cap<=aU/\q24 a d kids/\Lies a (.mk k n kids) (.agg #[.int .i64 k,.int .i64 n,.slice d kids.length cap])/\Tr.mk k n kids∈f:=by
 obtain⟨b,o,k,n,d,cap,kids,e,_,hk,l,i,m,hl,hc,hK⟩:=InK.at_ h g;exact⟨b,o,k,n,d,cap,kids,e,hdq hk,c.cell l,c.cell i,c.cell m,hl,hc,q24.ext hK c,Lies.mk hl hc (q24.ext hK c),hk▸gL g⟩
mutual
def D9(w:aK)(e:aY):Tr->aS->List Nat->Prop
 | .mk k n a,v,L=> ∃A cap,v= .agg #[.int .i64 k,.int .i64 n,.slice A a.length cap]/\a.length<=cap/\cap<=aU/\
  ((a= []/\L= [])\/ ∃b cs c,A=some ⟨b,0,none⟩/\w.heap[b]? =some (.cells cs e (0,0))/\L=b::c/\B2 w e cs.toList a c)
def B2(w:aK)(e:aY):List aS->List Tr->List Nat->Prop
 |_, [],L=> L= []
 |c,t::ts,L=> ∃v0 v1 v2 rest a b,c=v0::v1::v2::rest/\D9 w e t (.agg #[v0,v1,v2]) a/\B2 w e rest ts b/\L=a++b
end
theorem D9.mk_iff{w:aK}{e:aY}{k n:Int}{a:List Tr}{v:aS}{L:List Nat}:D9 w e (.mk k n a) v L↔ ∃A cap,v= .agg #[.int .i64 k,.int .i64 n,.slice A a.length cap]/\a.length<=cap/\cap<=aU/\
 ((a= []/\L= [])\/ ∃b cs c,A=some ⟨b,0,none⟩/\w.heap[b]? =some (.cells cs e (0,0))/\L=b::c/\B2 w e cs.toList a c):=by
 conv=> lhs;unfold D9
theorem B2.cons_iff{w:aK}{e:aY}{b:List aS}{t:Tr}{ts:List Tr}{L:List Nat}:B2 w e b (t::ts) L↔ ∃v0 v1 v2 rest a c,b=v0::v1::v2::rest/\D9 w e t (.agg #[v0,v1,v2]) a/\B2 w e rest ts c/\L=a++c:=by
 conv=> lhs;unfold B2
theorem B2.nil{w:aK}{e:aY}{a:List aS}:B2 w e a [] []:=by unfold B2;rfl
mutual
theorem D9.mono{w w':aK}{e:aY}: ∀{t:Tr} {v:aS} {L:List Nat},D9 w e t v L->(∀b,b∈L->w'.heap[b]? =w.heap[b]?)->D9 w' e t v L
 | .mk k n j,v,L,h,c=> by
  unfold D9 at h⊢;obtain⟨A,cap,rfl,d,g,a⟩:=h;refine⟨A,cap,rfl,d,g, ?_⟩;rcases a with a|⟨b,cs,f,rfl,i,rfl,hl⟩
  · exact .inl a
  · exact .inr ⟨b,cs,f,rfl,(c b (by simp)).trans i,rfl,B2.mono hl (fun x hx=> c x (by simp[hx]))⟩
theorem B2.mono{w w':aK}{e:aY}: ∀{a:List aS} {d:List Tr} {L:List Nat},B2 w e a d L->(∀b,b∈L->w'.heap[b]? =w.heap[b]?)->B2 w' e a d L
 |_, [],_,h,_=> by unfold B2 at h⊢;exact h
 |a,t::ts,L,h,c=> by
  unfold B2 at h⊢;obtain⟨v0,v1,v2,rest,i,g,rfl,f,j,rfl⟩:=h;exact⟨v0,v1,v2,rest,i,g,rfl,D9.mono f (fun x hx=> c x (by simp[hx])),B2.mono j (fun x hx=> c x (by simp[hx])),rfl⟩
end
theorem B2.snoc{w:aK}{e:aY}{t:Tr}{v0 v1 v2:aS}{b:List Nat}(ht:D9 w e t (.agg #[v0,v1,v2]) b)(tail:List aS): ∀{a:List aS} {c:List Tr} {L:List Nat},a.length=c.length*3->B2 w e a c L->B2 w e (a++v0::v1::v2::tail) (c++ [t]) (L++b)
 |a, [],L,hx,h=> by
  have d:a= []:=List.eq_nil_of_length_eq_zero (by simpa using hx);subst d;unfold B2 at h;subst h;exact B2.cons_iff.2 ⟨v0,v1,v2,tail,b, [],rfl,ht,B2.nil,by simp⟩
 |a,x::c,L,hx,h=> by
  obtain⟨m,f,j,rest,k,i,rfl,g,l,rfl⟩:=B2.cons_iff.1 h;exact B2.cons_iff.2 ⟨m,f,j,_,k,i++b,rfl,g,B2.snoc ht tail (by simp only[bY] at hx;omega) l,by simp⟩
theorem B2.tail{w:aK}{e:aY}(tail:List aS): ∀{a:List aS} {b:List Tr} {L:List Nat},B2 w e a b L->B2 w e (a++tail) b L
 |a, [],L,h=> by unfold B2 at h⊢;exact h
 |a,x::b,L,h=> by
  obtain⟨j,f,c,rest,d,k,rfl,g,i,rfl⟩:=B2.cons_iff.1 h;exact B2.cons_iff.2 ⟨j,f,c,_,d,k,rfl,g,B2.tail tail i,rfl⟩
mutual
theorem D9.inT{w:aK}{e:aY}: ∀{t:Tr} {v:aS} {L:List Nat},D9 w e t v L->InT w (fun b=> b∈L) t v
 | .mk k n i,v,L,h=> by
  obtain⟨A,cap,rfl,c,d,a⟩:=D9.mk_iff.1 h;refine InT.mk_iff.2 ⟨A,cap,rfl,c,d, ?_⟩;rcases a with⟨a,_⟩ |⟨b,cs,g,rfl,f,rfl,hl⟩
  · exact .inl a
  · exact .inr ⟨b,0,rfl,by simp,B2.inL f (pre:= []) hl (by simp) (fun x hx=> by simp[hx])⟩
theorem B2.inL{w:aK}{e:aY}{b:Nat}{cs:Array aS}{S:Nat->Prop}(c:w.heap[b]? =some (.cells cs e (0,0))): ∀{xs pre:List aS} {d:List Tr} {L:List Nat},B2 w e xs d L->cs.toList=pre++xs->(∀x,x∈L->S x)->O4 w S b pre.length d
 |_,_, [],_,_,_,_=> by unfold O4;trivial
 |xs,pre,t::ts,L,h,a,hS=> by
  obtain⟨v0,v1,v2,rest,k,j,rfl,f,g,rfl⟩:=B2.cons_iff.1 h;unfold O4;have hc: ∀i,w.cell? ⟨b,i,none⟩=cs.toList[i]? :=fun i=> by rw[i1 c];simp
  refine⟨⟨v0,v1,v2, ?_, ?_, ?_,InT.mono (fun x hx=> hS x (by simp[hx])) (fun _ _=> rfl) (D9.inT f)⟩, ?_⟩
  · rw[hc,a,eR (aM _)];simp
  · rw[hc,a,eR (by omega)];simp
  · rw[hc,a,eR (by omega)];simp
  · have:=B2.inL c (pre:=pre++ [v0,v1,v2]) g (by simp[a]) (fun x hx=> hS x (by simp[hx]))
    simpa using this
end
def Wc(w a:aK)(L:List Nat):Prop:=L.Nodup/\ ∀b,b∈L->w.heap.size<=b/\b < a.heap.size
theorem Wc.nil(w a:aK):Wc w a []:=⟨List.nodup_nil,fun _ h=> by cases h⟩
theorem Wc.mono{a b c d:aK}{L:List Nat}(h:Wc b c L)(e:a.heap.size<=b.heap.size)(f:c.heap.size<=d.heap.size):Wc a d L:=⟨h.1,fun x hx=> by have:=h.2 x hx;omega⟩
theorem Wc.append{a b c d:aK}{L M:List Nat}(h:Wc a b L)(k:Wc c d M)(i:b.heap.size<=c.heap.size)(f:a.heap.size<=b.heap.size)(j:c.heap.size<=d.heap.size):Wc a d (L++M):=by
 refine⟨List.nodup_append.2 ⟨h.1,k.1,fun x hx y g e=> ?_⟩,fun x hx=> ?_⟩
 · have:=h.2 x hx
   have:=k.2 y g;omega
 · rcases List.mem_append.1 hx with hx|hx
   · have:=h.2 x hx
     omega
   · have:=k.2 x hx
     omega
def P0(w a:aK)(e:aY)(t:Tr)(v:aS):Prop:= ∃L,D9 a e t v L/\Wc w a L
theorem P0.lies{w a:aK}{e:aY}{t:Tr}{v:aS}(h:P0 w a e t v):Lies a t v:=by
 obtain⟨L,h,hf⟩:=h;exact InT.mono (fun b c=>(hf.2 b c).2) (fun _ _=> rfl) h.inT
theorem P0.ext{w c a:aK}{e:aY}{t:Tr}{v:aS}(h:P0 w c e t v)(d:Ext c a):P0 w a e t v:=by
 obtain⟨L,h,hf⟩:=h;exact⟨L,h.mono fun b f=> d.heap b (hf.2 b f).2,hf.mono (aM _) d.size⟩
theorem P0.since{a w b:aK}{e:aY}{t:Tr}{v:aS}(h:P0 w b e t v)(c:a.heap.size<=w.heap.size):P0 a b e t v:=by
 obtain⟨L,h,hf⟩:=h;exact⟨L,h,hf.mono c (aM _)⟩
theorem P0.leaf(w a:aK)(e:aY)(k n:Int):P0 w a e (.mk k n []) (.agg #[.int .i64 k,.int .i64 n,.slice none 0 0]):=
 ⟨[],D9.mk_iff.2 ⟨none,0,rfl,aM _,Nat.zero_le _,.inl ⟨rfl,rfl⟩⟩,Wc.nil _ _⟩
def In(w:aK)(e:aY)(A:Option Addr)(c:List Tr)(L:List Nat):Prop:=
 (c= []/\L= [])\/ ∃b cs a,A=some ⟨b,0,none⟩/\w.heap[b]? =some (.cells cs e (0,0))/\L=b::a/\B2 w e cs.toList c a
def Xc(w a:aK)(e:aY)(A:Option Addr)(b:List Tr):Prop:= ∃L,In a e A b L/\Wc w a L
theorem In.mono{w w':aK}{e:aY}{A:Option Addr}{c:List Tr}{L:List Nat}(h:In w e A c L)(a: ∀b,b∈L->w'.heap[b]? =w.heap[b]?):In w' e A c L:=by
 rcases h with h|⟨b,cs,d,rfl,f,rfl,hl⟩
 · exact .inl h
 · exact .inr ⟨b,cs,d,rfl,(a b (by simp)).trans f,rfl,hl.mono (fun x hx=> a x (by simp[hx]))⟩
theorem P0.mk_iff{w f:aK}{e:aY}{k n:Int}{a:List Tr}{v:aS}:P0 w f e (.mk k n a) v↔ ∃A cap,v= .agg #[.int .i64 k,.int .i64 n,.slice A a.length cap]/\a.length<=cap/\cap<=aU/\Xc w f e A a:=by
 constructor
 · rintro⟨L,h,hf⟩
   obtain⟨A,cap,rfl,b,c,d⟩:=D9.mk_iff.1 h;exact⟨A,cap,rfl,b,c,L,d,hf⟩
 · rintro⟨A,cap,rfl,b,c,L,d,hf⟩
   exact⟨L,D9.mk_iff.2 ⟨A,cap,rfl,b,c,d⟩,hf⟩
theorem P0.mk{w b:aK}{e:aY}{k n:Int}{a:List Tr}{A:Option Addr}{cap:Nat}(hl:a.length<=cap)(hc:cap<=aU)(h:Xc w b e A a):P0 w b e (.mk k n a) (.agg #[.int .i64 k,.int .i64 n,.slice A a.length cap]):=
 P0.mk_iff.2 ⟨A,cap,rfl,hl,hc,h⟩
theorem Xc.since{a w b:aK}{e:aY}{A:Option Addr}{c:List Tr}(h:Xc w b e A c)(d:a.heap.size<=w.heap.size):Xc a b e A c:=by
 obtain⟨L,h,hf⟩:=h;exact⟨L,h,hf.mono d (aM _)⟩
theorem Xc.nil(w a:aK)(e:aY)(A:Option Addr):Xc w a e A []:=⟨[],.inl ⟨rfl,rfl⟩,Wc.nil _ _⟩
theorem Xc.row{w f a:aK}{e:aY}{g:Nat}{cs:Array aS}{d:List Tr}{L:List Nat}(c:a.heap[g]? =some (.cells cs e (0,0)))(hl:B2 a e cs.toList d L)(hf:Wc f a L)(i:w.heap.size<=g)(j:g < f.heap.size):Xc w a e (some ⟨g,0,none⟩) d:=by
 refine⟨g::L,.inr ⟨g,cs,L,rfl,c,rfl,hl⟩,List.nodup_cons.2 ⟨fun hm=> ?_,hf.1⟩,fun b hm=> ?_⟩
 · have:=hf.2 g hm
   omega
 · rcases List.mem_cons.1 hm with rfl|hm
   · exact⟨i,O1 c⟩
   · have:=hf.2 b hm
     omega
end Go.Proofs.YtckhbnmfnpolgaaGreat
namespace Go.Proofs.YtckhbnmfnpolgaaGreat
open Go.RowKit Go.ChangeShapes Go.WideShapes Go.ChangeAt Go.Deep
section
variable {H : Type} {enc : aY × aS → H} {P : Program}
theorem TI(hl:laidOutB P=true){W f:aK}(g:Ext W f): ∀{ts:List aY} {c:List aS} {e:List (DataW H)} {ps:List kR},
 (ts.all fun t=> P.readableRec t && decide (t < P.types.size))=true->DataW.TrodAll enc P W 0 (fun _=> true) true ts c e ps->(∀x∈ps,x.block < W.heap.size)->
 DataW.TrodAll enc P f 0 (fun b=> decide (b < W.heap.size)) true ts c e ps
 | [],c,e,ps,_,h,_=> by
  obtain⟨rfl,rfl,rfl⟩:=trodAll_nil h;exact trodAll_mk0
 |t::ts,c,e,ps,hr,h,a=> by
  obtain⟨v,i,d,k,p,q,rfl,rfl,rfl,j,r⟩:=trodAll_cons h;simp only[List.all_cons,aW,decide_eq_true_eq] at hr;exact trodAll_cons_mk (Below.trod hl hr.1.1 hr.1.2 j g (fun x hx=> a x (List.mem_append_left _ hx))) (TI hl g (by simpa using hr.2) r (fun x hx=> a x (List.mem_append_right _ hx)))
theorem VE{C:Checked}{os:Os}{f:FuncId}{fn:Func}{s:ChangeSpec}{tb:aY}(own:ownKnob C.prog.godebug=none)(c:os.Started)(k:C.prog.inits.idxOf? f=none)(A:C.prog.funcs[f]? =some fn)
 (hl:laidOutB C.prog=true) (I:(fn.params.toList.all fun t=> C.prog.readableRec t && decide (t < C.prog.types.size))=true) (n:fn.resultTypes=#[tb]) (K:C.prog.underlying tb=some .bool)
 (E:s.vars= []) (Q: ∀a:List (DataW H),a.length=fn.params.size->(s.fn H a).results= [.lit (.bool true)]/\(s.fn H a).args=a/\(s.fn H a).vars= [])
 (b: ∃(w:aK) (tape:Tape) (i:Input),w.os=os/\(w.forCall tape i).Shaped C.prog/\i.vars= []/\Input.okWide C.prog (w.forCall tape i) .any w.heap.size f i/\
  s.pre6 enc C.prog fn [] false (w.forCall tape i).memory i.args/\({}:Assume).holds C.prog (lone (Frame.enter C.prog f i.args .normal) [] (w.forCall tape i)))
 (walk: ∀(W:aK) (base:Nat) (args:Array aS) (a:List (DataW H)) (p:List kR),
  (∀(j:Nat) t v,fn.params[j]? =some t->args[j]? =some v->Value.okWide C.prog W .any base t v)->DataW.TrodAll enc C.prog W 0 (fun _=> true) true fn.params.toList args.toList a p->
  (∀x∈p,x.block < W.heap.size)->Calls C.prog f args W fun e D=> e= .returned (.bool true)/\Ext W D):
 ReturnsInHanded {} C os f .any (s.pre6 enc C.prog fn [] false) (s.post enc C.prog fn false true false false):=by
 refine returnsInHanded_of_change own c k A b ?_;intro W base args a U g u z _ _;have l: ∀x∈g,x.block < W.heap.size:=fun x hx=> z.lt x hx
 have m:=z;obtain⟨p,q,hA,F,rfl,O,L⟩:=z;rw[E] at F;obtain⟨rfl,rfl⟩:=trodVars_none F;simp only[List.append_nil] at l m;refine(walk W base args a p u hA l).mono ?_;rintro e D ⟨rfl,B⟩;have o:a.length=fn.params.size:=by
  have J: ∀{ts:List aY} {y:List aS} {es:List (DataW H)} {ps:List kR},DataW.TrodAll enc C.prog W 0 (fun _=> true) true ts y es ps->es.length=ts.length:=by
   intro ts
   induction ts with
   |nil=> intro y es ps h;obtain⟨_,rfl,_⟩:=trodAll_nil h;rfl
   |cons t ts ih=> intro y es ps h;obtain⟨v,G,d,M,p,q,rfl,rfl,rfl,T,r⟩:=trodAll_cons h;simp[ih r]
  rw[J hA,Array.length_toList]
 obtain⟨N,R,S⟩:=Q a o;refine⟨_,rfl,a, [],p, [],p, [],by simpa using m, ?_, ?_, ?_,Below.frame B _|> World.keptBut_mono (fun x hx=>⟨hx,.inr (.inl hx)⟩),fun h=> by cases h⟩
 · rw[List.append_nil,N,n]
   exact trodAll_mk1 (shut_bool K _)
 · rw[List.append_nil,R]
   exact TI hl B I hA l
 · rw[List.append_nil,S,E]
   exact rfl
end
/-! ### A tree that came in -/
section
variable {H : Type} {enc : aY × aS → H} {P : Program} {w : aK} {spare : Nat → Bool} {held : Bool}
structure Tn (P:Program) (t s i:aY) (f0 f1 f2:Field):Prop where
 ht:P.underlying t=some (.struct #[f0,f1,f2])
 hs:P.underlying s=some (.slice t)
 hi:P.underlying i=some (.int .i64)
 t0:f0.type=i
 t1:f1.type=i
 t2:f2.type=s
 o0:f0.offset=0
 o1:f1.offset=1
 o2:f2.offset=2
 ci:P.cellsOf i=1
 cs:P.cellsOf s=1
 ct:P.cellsOf t=3
abbrev fld(n:String)(t:aY)(o:Nat)(b:Nat):Field:={name:=n,type:=t,offset:=o,embedded:=false,tag:= "",pkgPath:= "",byteOffset:=b}
theorem uD{α:Type}{p:Nat->α->Prop}: ∀n:Nat,(∀i,i < n-> ∃x,p i x)-> ∃l:List α,l.length=n/\ ∀i (h:i < l.length),p i l[i]
 |0,_=>⟨[],rfl,fun i h=> absurd h (by simp)⟩
 |n+1,h=> by
  obtain⟨l,hl,b⟩:=uD n (fun i hi=> h i (by omega));obtain⟨x,hx⟩:=h n (by omega);refine⟨l++ [x],by simp[hl],fun i hi=> ?_⟩;by_cases a:i < l.length
  · rw[List.getElem_append_left a];exact b i a
  · have:i=n:=by simp at hi;omega
    subst this;rw[List.getElem_append_right (by omega)]
    simpa[hl] using hx
theorem O4.build{S:Nat->Prop}{b:Nat}: ∀{a:List Tr} {o:Nat},(∀j (h:j < a.length),∃v0 v1 v2,w.cell? ⟨b,o+j*3,none⟩=some v0/\w.cell? ⟨b,o+j*3+1,none⟩=some v1/\w.cell? ⟨b,o+j*3+2,none⟩=some v2/\InT w S a[j] (.agg #[v0,v1,v2]))->O4 w S b o a
 | [],_,_=> by unfold O4;trivial
 |t::ts,o,h=> by
  unfold O4;refine⟨by have c:=h 0 (by simp);simp only[List.getElem_cons_zero,Nat.zero_mul,Nat.add_zero] at c;exact c,O4.build fun j d=> ?_⟩;have:=h (j+1) (by simpa using d);have e:o+(j+1)*3=o+3+j*3:=by omega
  rw[e] at this
  simpa using this
theorem CD(b o n:Nat):(⟨b,o,none⟩:Addr).add n=⟨b,o+n,none⟩:=by
 unfold Addr.add
 split <;> simp_all
theorem gA{t s i:aY}{G F L:Field}(T:Tn P t s i G F L)(fuel:Nat)
 (ih: ∀m,m < fuel-> ∀(cs:List aS) (x:DataW H×List kR),DataW.trod enc P w 0 spare held m t cs=some x-> ∃(tr:Tr) (v0 v1 v2:aS),cs= [v0,v1,v2]/\Lies w tr (.agg #[v0,v1,v2]))
 (cs:List aS) (x:DataW H×List kR) (h:DataW.trod enc P w 0 spare held fuel s cs=some x):
 ∃(A:Option Addr) (cap:Nat) (g:List Tr),cs= [.slice A g.length cap]/\g.length<=cap/\cap<=aU/\q24 w A g:=by
 rcases DataW.trod_slice T.hs h with⟨rfl,_⟩ |⟨a,len,cap,u,rest,n,rfl,rfl,_,_,hl,hm,B,I,_,_⟩
 · exact⟨none,0, [],rfl,aM _,Nat.zero_le _,.inl rfl⟩
 · have D: ∀j,j < len-> ∃tr:Tr,∃v0 v1 v2,w.cell? (a.add (j*3))=some v0/\w.cell? ((a.add (j*3)).add 1)=some v1/\w.cell? ((a.add (j*3)).add 2)=some v2/\Lies w tr (.agg #[v0,v1,v2]):=by
    intro j r;have k:=I j r;rw[List.getElem?_eq_getElem (by omega)] at k;obtain⟨E,C,K⟩:=Option.bind_eq_some_iff.1 k;obtain⟨tr,v0,v1,v2,rfl,v⟩:=ih n (by omega) _ _ K;obtain⟨_,_,c⟩:=World.cells?_some C;rw[T.ct] at c;have e:=c 0 (by omega);have p:=c 1 (by omega);have l:=c 2 (by omega);have q: ∀y:Addr,y.add 0=y:=fun y=> by simp[Addr.add]
    rw[q] at e;exact⟨tr,v0,v1,v2,e,p,l,v⟩
   obtain⟨g,J,z⟩:=uD len D;subst J;refine⟨some a,cap,g,rfl,hl,hm, ?_⟩;cases g with
   |nil=> exact .inl rfl
   |cons t0 ts=>
    obtain⟨b,o,d⟩:=a;have f:b < w.heap.size/\d=none:=by
     obtain⟨v0,v1,v2,e,_⟩:=z 0 (by simp);simp only[Nat.zero_mul] at e;have q:(⟨b,o,d⟩:Addr).add 0=⟨b,o,d⟩:=by simp[Addr.add]
     rw[q] at e;exact⟨bR _ _ e,by simpa using World.cell?_spot e⟩
    obtain⟨f,rfl⟩:=f;refine .inr ⟨b,o,rfl,f,O4.build fun j r=> ?_⟩;obtain⟨v0,v1,v2,e,p,l,v⟩:=z j r;rw[CD] at e p l;rw[CD] at p l;exact⟨v0,v1,v2,e,p,l,v⟩
theorem MI{t s i:aY}{d c o:Field}(T:Tn P t s i d c o): ∀(fuel:Nat) (cs:List aS) (x:DataW H×List kR),DataW.trod enc P w 0 spare held fuel t cs=some x->
 ∃(tr:Tr) (v0 v1 v2:aS),cs= [v0,v1,v2]/\Lies w tr (.agg #[v0,v1,v2]):=by
 intro fuel
 induction fuel using Nat.strongRecOn with
 |_ fuel ih=>
  intro cs x h;obtain⟨p,n,rfl,_,g,a,b⟩:=DataW.trod_struct T.ht h;rw[T.ct] at g
  match cs,g,p,a with
  | [v0,v1,v2],_, [r,u,v],_=>
   have j:=b 0 d rfl;have l:=b 1 c rfl;have f:=b 2 o rfl;simp[T.o0,T.o1,T.o2,T.t0,T.t1,T.t2,T.ci,T.cs] at j l f
   obtain⟨k,hk,_,_⟩:=DataW.trod_int T.hi j;obtain⟨m,hm,_,_⟩:=DataW.trod_int T.hi l;simp at hk hm
   obtain⟨A,cap,q,e,hl,hc,hK⟩:=gA T n (fun m hm=> ih m (by omega)) _ _ f;simp at e
   subst hk;subst hm;subst e;exact⟨.mk k m q,_,_,_,rfl,Lies.mk hl hc hK⟩
theorem tw{t s i:aY}{b a g:Field}(T:Tn P t s i b a g){r:Reach}{f:Nat}{v:aS}{d:DataW H}{p:List kR}(hv:Value.okWide P w r f t v)(h:DataW.Trod enc P w 0 spare held t v d p): ∃tr:Tr,Lies w tr v:=by
 obtain⟨cs,rfl,c⟩:=okWide_struct T.ht hv;obtain⟨fuel,hf⟩:=h;obtain⟨tr,v0,v1,v2,hc,e⟩:=MI T fuel _ _ hf;obtain⟨l⟩:=cs;simp only[Value.cells] at hc;subst hc;exact⟨tr,e⟩
theorem Vr{t s i:aY}{f e j:Field}(T:Tn P t s i f e j){r:Reach}{g:Nat}{v:aS}{d:DataW H}{p:List kR}(hv:Value.okWide P w r g s v)(h:DataW.Trod enc P w 0 spare held s v d p):
 ∃(A:Option Addr) (cap:Nat) (b:List Tr),v= .slice A b.length cap/\b.length<=cap/\cap<=aU/\q24 w A b:=by
 obtain⟨k,len,cap,rfl⟩:=okWide_slice T.hs hv;obtain⟨fuel,hf⟩:=h;obtain⟨A,a,b,c,r⟩:=gA T fuel (fun m _=> MI T m) _ _ hf;simp only[Value.cells,List.cons.injEq,and_true] at c;exact⟨A,a,b,c,r⟩
end
end Go.Proofs.YtckhbnmfnpolgaaGreat
namespace Go.Proofs.YtckhbnmfnpolgaaGreat
open Go.RowKit
theorem oj{w:aK}{g i:Nat}{cs:Array aS}{e:aY}(a:w.heap[g]? =some (.cells cs e (0,0)))(h:i+3<=cs.size):
 ∃d b c,w.cell? ⟨g,i,none⟩=some d/\w.cell? ⟨g,i+1,none⟩=some b/\w.cell? ⟨g,i+2,none⟩=some c/\w.frozen? ⟨g,i,none⟩=false/\w.frozen? ⟨g,i+1,none⟩=false/\w.frozen? ⟨g,i+2,none⟩=false:=by
 refine⟨cs[i]'(by omega),cs[i+1]'(by omega),cs[i+2]'(by omega), ?_, ?_, ?_,Ob a _,Ob a _,Ob a _⟩
 · rw[i1 a];exact gU _
 · rw[i1 a];exact gU _
 · rw[i1 a];exact gU _
theorem Td{w b:aK}{a:Obj}(h:Ext (w.alloc a) b):b.heap[w.heap.size]? =some a/\w.heap.size < b.heap.size:=⟨h.newBlk,h.size_alloc⟩
theorem W3{w c:aK}{a b:Obj}(h:Ext ((w.alloc a).alloc b) c):c.heap[w.heap.size]? =some a/\c.heap[w.heap.size+1]? =some b/\w.heap.size+1 < c.heap.size:=by
 have d:=h.newBlk;have e:=h.size_alloc;simp only[dU] at d e;exact⟨(Td h.pre).1,d,e⟩
theorem mc{w d:aK}{a b c:Obj}(h:Ext (((w.alloc a).alloc b).alloc c) d):d.heap[w.heap.size]? =some a/\d.heap[w.heap.size+1]? =some b/\d.heap[w.heap.size+1+1]? =some c/\w.heap.size+1+1 < d.heap.size:=by
 have e:=h.newBlk;have f:=h.size_alloc;simp only[dU] at e f;exact⟨(W3 h.pre).1,(W3 h.pre).2.1,e,f⟩
theorem jn{w e:aK}{a b c d:Obj}(h:Ext ((((w.alloc a).alloc b).alloc c).alloc d) e):e.heap[w.heap.size]? =some a/\e.heap[w.heap.size+1]? =some b/\e.heap[w.heap.size+1+1]? =some c/\e.heap[w.heap.size+1+1+1]? =some d/\w.heap.size+1+1+1 < e.heap.size:=by
 have f:=h.newBlk;have g:=h.size_alloc;simp only[dU] at f g;exact⟨(mc h.pre).1,(mc h.pre).2.1,(mc h.pre).2.2.1,f,g⟩
theorem own3{w:aK}{g:Nat}{d b c:aS}{e:aY}(a:w.heap[g]? =some (.cells #[d,b,c] e (0,0))):
 w.cell? ⟨g,0,none⟩=some d/\w.cell? ⟨g,1,none⟩=some b/\w.cell? ⟨g,2,none⟩=some c/\w.frozen? ⟨g,0,none⟩=false/\w.frozen? ⟨g,1,none⟩=false/\w.frozen? ⟨g,2,none⟩=false:=
 ⟨i1 a 0,i1 a 1,i1 a 2,Ob a 0,Ob a 1,Ob a 2⟩
def pa(B:Nat)(w a:aK):Prop:=(∀b,B<=b->a.heap[b]? =w.heap[b]?)/\w.heap.size<=a.heap.size
theorem pa.refl(B:Nat)(w:aK):pa B w w:=⟨fun _ _=> rfl,aM _⟩
theorem pa.setCell{B:Nat}{a w:aK}(h:pa B a w){p:Addr}(d:p.block < B)(u:aS):pa B a (w.setCell p u):=
 ⟨fun b c=>(Below.heap_setCell w p u b (by omega)).trans (h.1 b c),by simpa using h.2⟩
theorem P0.after{W d c:aK}{e:aY}{t:Tr}{v:aS}(h:P0 W d e t v)(a:pa W.heap.size d c):P0 W c e t v:=by
 obtain⟨L,h,hf⟩:=h;exact⟨L,h.mono fun b f=> a.1 b (hf.2 b f).1,hf.mono (aM _) a.2⟩
mutual
theorem D9.lt{w:aK}{e:aY}: ∀{t:Tr} {v:aS} {L:List Nat},D9 w e t v L-> ∀b,b∈L->b < w.heap.size
 | .mk k n i,v,L,h,b,a=> by
  obtain⟨A,cap,_,_,_,d⟩:=D9.mk_iff.1 h;rcases d with⟨_,rfl⟩ |⟨g,cs,f,_,c,rfl,hl⟩
  · cases a
  · rcases List.mem_cons.1 a with rfl|a
    · exact O1 c
    · exact B2.lt hl b a
theorem B2.lt{w:aK}{e:aY}: ∀{c:List aS} {g:List Tr} {L:List Nat},B2 w e c g L-> ∀b,b∈L->b < w.heap.size
 |_, [],L,h,b,a=> by
  unfold B2 at h;subst h;cases a
 |c,t::ts,L,h,b,a=> by
  obtain⟨m,i,k,rest,l,j,rfl,d,f,rfl⟩:=B2.cons_iff.1 h;rcases List.mem_append.1 a with a|a
  · exact D9.lt d b a
  · exact B2.lt f b a
end
structure X0 (L:List Nat) (w w':aK):Prop where
 os:w'.os=w.os
 tape:w'.tape=w.tape
 output:w'.output=w.output
 size:w.heap.size<=w'.heap.size
 block: ∀b,b < w.heap.size-> ¬b∈L->w'.heap[b]? =w.heap[b]?
theorem X0.refl(L:List Nat)(w:aK):X0 L w w:=⟨rfl,rfl,rfl,aM _,fun _ _ _=> rfl⟩
theorem X0.trans{L:List Nat}{a b c:aK}(h:X0 L a b)(k:X0 L b c):X0 L a c:=
 ⟨k.os.trans h.os,k.tape.trans h.tape,k.output.trans h.output,Nat.le_trans h.size k.size,fun i hi hn=>(k.block i (aX hi h.size) hn).trans (h.block i hi hn)⟩
theorem X0.mono{L M:List Nat}{a b:aK}(h:X0 L a b)(hs: ∀x,x∈L->x∈M):X0 M a b:=⟨h.os,h.tape,h.output,h.size,fun i hi hn=> h.block i hi (fun hm=> hn (hs i hm))⟩
theorem X0.setCell{L:List Nat}{a w:aK}(h:X0 L a w){p:Addr}(b:p.block∈L)(u:aS):X0 L a (w.setCell p u):=
 ⟨h.os,h.tape,h.output,by simpa using h.size,fun i hi hn=>(Below.heap_setCell w p u i (fun e=> hn (e▸b))).trans (h.block i hi hn)⟩
theorem oE{L:List Nat}{a b:aK}(h:Ext a b):X0 L a b:=⟨h.os,h.tape,h.output,h.size,fun i hi _=> h.heap i hi⟩
theorem X0.alloc{L:List Nat}{a b:aK}(h:X0 L a b)(o:Obj):X0 L a (b.alloc o):=h.trans (oE ((xr b).alloc o))
theorem X0.ext{L:List Nat}{a w d:aK}(h:X0 L w d)(c:Ext a w)(e: ∀b,b∈L->a.heap.size<=b):Ext a d:=
 ⟨h.os.trans c.os,h.tape.trans c.tape,h.output.trans c.output,Nat.le_trans c.size h.size,fun i hi=>(h.block i (aX hi c.size) (fun hm=> absurd (e i hm) (by omega))).trans (c.heap i hi)⟩
end Go.Proofs.YtckhbnmfnpolgaaGreat
namespace Go.Proofs.YtckhbnmfnpolgaaGreat
def kb(n a hi:Int):Bool:=decide (a<=n)&& decide (n<=hi)
theorem Yf{n a hi:Int}:kb n a hi=true↔a<=n/\n<=hi:=by simp[kb]
theorem Qx{n a hi:Int}:kb n a hi=false↔n < a\/hi < n:=by
 rw[Bool.eq_false_iff,Ne,Yf];omega
structure Oc where
 ops:Int->Int
 most:Int->Int
def O0(k:Int):Int:=if k=1 then 0 else if k=2 then 0 else if k=3 then 2 else if k=4 then 2 else if k=5 then 2 else if k=6 then 0 else if k=7 then 0 else if k=8 then 1 else if k=9 then 4 else if k=10 then 3 else if k=11 then 1 else if k=12 then 3 else if k=13 then 2 else if k=14 then 3 else if k=15 then 1 else if k=16 then 1 else -1
def Ja(k:Int):Int:=if k=1 then 20 else if k=2 then 3 else 0
def m0:Oc:=⟨O0,Ja⟩
def li(g:Oc)(k n:Int)(len:Nat):Bool:=decide (g.ops k=(len:Int))&& kb n 0 (g.most k)
mutual
def D0(g:Oc):Tr->Int->Bool
 | .mk k n b,a=> decide (1<=a)&&(li g k n b.length && m9 g b (a - 1))
def m9(g:Oc):List Tr->Int->Bool
 | [],_=> true
 |t::ts,a=> D0 g t a && m9 g ts a
end
def j0(g:Oc)(t:Tr):Bool:=D0 g t 30 && decide (cnt t<=400)
mutual
def Sb:Tr->Int->Int
 | .mk _ _ a,most=> We a most 1
def We:List Tr->Int->Int->Int
 | [],_,n=> n
 |t::ts,most,n=> if n<=most then We ts most (n+Sb t (most - n)) else n
end
mutual
theorem Ql: ∀(t:Tr) (most:Int),0<=most->1<=Sb t most/\Sb t most<=most+1/\(Sb t most<=most↔(cnt t:Int)<=most)/\(Sb t most<=most->Sb t most=cnt t)
 | .mk _ _ a,most,h=> by
  have:=jx a most 1 (by omega) (by omega);simp only[Sb,cnt];omega
theorem jx: ∀(ts:List Tr) (most n:Int),1<=n->n<=most+1->n<=We ts most n/\We ts most n<=most+1/\(We ts most n<=most↔n+W1 ts<=most)/\(We ts most n<=most->We ts most n=n+W1 ts)
 | [],most,n,h,b=> by simp only[We,W1];omega
 |t::ts,most,n,h,b=> by
  simp only[We,W1];by_cases hn:n<=most
  · rw[if_pos hn]
    have c:=Ql t (most - n) (by omega);have d:=jx ts most (n+Sb t (most - n)) (by omega) (by omega);have a:=Tq t;omega
  · rw[if_neg hn]
    have a:=Tq t;omega
end
theorem TE{g:Oc}{t:Tr}:j0 g t=(D0 g t 30 && decide (Sb t 400<=400)):=by
 have:=(Ql t 400 (by omega)).2.2.1;unfold j0
 congr 1
 rw[Bool.eq_iff_iff,decide_eq_true_iff,decide_eq_true_iff];omega
mutual
def Lc(g:Oc):Tr->Int->Int->Bool×Int
 | .mk k n a,deep,c=> if 400 < c+1 then(false,c+1) else if 30 < deep then(false,c+1) else if g.ops k=(a.length:Int) then(if kb n 0 (g.most k)=true then ge g a (deep+1) (c+1) else(false,c+1)) else(false,c+1)
def ge(g:Oc):List Tr->Int->Int->Bool×Int
 | [],_,c=>(true,c)
 |t::ts,deep,c=> if(Lc g t deep c).1=true then ge g ts deep (Lc g t deep c).2 else(false,(Lc g t deep c).2)
end
mutual
theorem BG(g:Oc): ∀(t:Tr) (deep c:Int),0<=c->c<=400->(Lc g t deep c).1=(D0 g t (31 - deep)&& decide (c+cnt t<=400))/\((Lc g t deep c).1=true->(Lc g t deep c).2=c+cnt t)/\c<=(Lc g t deep c).2/\(Lc g t deep c).2<=401/\((Lc g t deep c).1=true->(Lc g t deep c).2<=400)
 | .mk k n d,deep,c,h,r=> by
  have hc:(cnt (.mk k n d):Int)=W1 d+1:=by simp[cnt]
  simp only[Lc,D0,li];by_cases e:400 < c+1
  · rw[if_pos e]
    refine⟨?_,by simp,by simp;omega,by simp;omega,by simp⟩
    symm
    rw[eX];exact .inr (decide_eq_false (by omega))
  · rw[if_neg e]
    by_cases f:30 < deep
    · rw[if_pos f]
      refine⟨?_,by simp,by simp;omega,by simp;omega,by simp⟩
      symm
      rw[eX,eX];exact .inl (.inl (decide_eq_false (by omega)))
    · rw[if_neg f]
      by_cases b:g.ops k=(d.length:Int)
      · rw[if_pos b]
        by_cases a:kb n 0 (g.most k)=true
        · rw[if_pos a]
          obtain⟨p,q,s,m,o⟩:=kD g d (deep+1) (c+1) (by omega) (by omega);refine⟨?_,fun j=> by rw[q j];omega,by omega,m,o⟩;rw[p,decide_eq_true b,a];have i:31 -(deep+1)=31 - deep - 1:=by omega
          have l:decide (1<=31 - deep)=true:=decide_eq_true (by omega);rw[i,l];simp only[Bool.true_and]
          congr 1
          exact decide_eq_decide.2 (by omega)
        · rw[if_neg a]
          refine⟨?_,by simp,by simp;omega,by simp;omega,by simp⟩;simp[a]
      · rw[if_neg b]
        refine⟨?_,by simp,by simp;omega,by simp;omega,by simp⟩;simp[b]
theorem kD(g:Oc): ∀(ts:List Tr) (deep c:Int),0<=c->c<=400->(ge g ts deep c).1=(m9 g ts (31 - deep)&& decide (c+W1 ts<=400))/\((ge g ts deep c).1=true->(ge g ts deep c).2=c+W1 ts)/\c<=(ge g ts deep c).2/\(ge g ts deep c).2<=401/\((ge g ts deep c).1=true->(ge g ts deep c).2<=400)
 | [],deep,c,h,e=> by
  have hc:(W1 []:Int)=0:=by simp[W1]
  have hd:decide (c+(W1 []:Int)<=400)=true:=decide_eq_true (by omega);simp only[ge,m9];refine⟨by rw[hd];rfl,by omega,by omega,by omega,by omega⟩
 |t::ts,deep,c,h,e=> by
  have hc:(W1 (t::ts):Int)=cnt t+W1 ts:=by simp[W1]
  simp only[ge,m9];obtain⟨b,p,q,m,n⟩:=BG g t deep c h e;by_cases hs:(Lc g t deep c).1=true
  · rw[if_pos hs]
    have d:=p hs;have j:=n hs;obtain⟨k,i,r,l,o⟩:=kD g ts deep (Lc g t deep c).2 (by omega) j;refine⟨?_,fun f=> by rw[i f,d];omega,by omega,l,o⟩;rw[k];rw[hs] at b;have a:=b.symm;rw[aW] at a;rw[a.1];simp only[Bool.true_and]
    congr 1
    exact decide_eq_decide.2 (by omega)
  · rw[if_neg hs]
    refine⟨?_,by simp,q,m,by simp⟩;have hf:(Lc g t deep c).1=false:=by simpa using hs
    rw[hf] at b;have a:=b.symm;rw[eX] at a
    symm
    rw[eX,eX];rcases a with a|a
    · exact .inl (.inl a)
    · have:=of_decide_eq_false a
      exact .inr (decide_eq_false (by omega))
end
theorem SF(g:Oc)(t:Tr):(Lc g t 1 0).1=j0 g t/\(j0 g t=true->(Lc g t 1 0).2=cnt t):=by
 obtain⟨a,b,_⟩:=BG g t 1 0 (by omega) (by omega);have h:(Lc g t 1 0).1=j0 g t:=by
  rw[a];unfold j0;have e:(31:Int) - 1=30:=rfl;rw[e]
  congr 1
  exact decide_eq_decide.2 (by omega)
 exact⟨h,fun hv=> by rw[b (h.trans hv)];omega⟩
