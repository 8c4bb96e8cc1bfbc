/- Lemmas towards the law. -/
import Derived.Test.YtckhbnmfnpolgaaGreatT00
import Derived.Carry
import Derived.Deep.Draws
import Derived.Deep.Slices
import Derived.Deep.Strs
import Derived.Laws.MakeOwn
import Derived.Laws.OwnMore
import Derived.Lib.Hide
import Derived.OpenShut
import Derived.WalkKit
open List renaming length_cons->bX,getElem_mem->iO,getElem?_append_right->gQ
open Bool renaming and_eq_true->aX,and_eq_false_iff->fS
open Go renaming World->aN,Value->aU,TypeId->bU,maxLen->aW,MemPlace->mN
open Go.World renaming block_lt_of_cell?->bY,cell?_of_block->eN,size_alloc->eQ
open Nat renaming lt_of_lt_of_le->aZ,le_refl->aP
open Array renaming getElem?_eq_getElem->jR
set_option linter.all false
namespace Go.Proofs.YtckhbnmfnpolgaaGreat
theorem hdq{p:Prop}(h:p):Go.RowKit.Hid p:=h
open Go.RowKit
inductive Tr where
 |mk (k n:Int) (ks:List Tr)
def Tr.kind:Tr->Int| .mk k _ _=> k
def Tr.num:Tr->Int| .mk _ n _=> n
def Tr.kids:Tr->List Tr| .mk _ _ a=> a
theorem Tr.ind{P:Tr->Prop}(h: ∀k n a,(∀t∈a,P t)->P (.mk k n a)): ∀t,P t:=fun t=>
 Tr.rec (motive_1:=P) (motive_2:=fun a=> ∀t∈a,P t) (fun k n a ih=> h k n a ih) (fun _ hm=> by cases hm)
  (fun t ts ht b x hx=> by
   rcases List.mem_cons.1 hx with rfl|hx
   · exact ht
   · exact b x hx) t
mutual
def cnt:Tr->Nat
 | .mk _ _ a=> O1 a+1
def O1:List Tr->Nat
 | []=> 0
 |t::ts=> cnt t+O1 ts
end
theorem eD: ∀a b:List Tr,O1 (a++b)=O1 a+O1 b
 | [],b=> by simp[O1]
 |t::a,b=> by simp[O1,eD a b];omega
theorem nu(t:Tr):0 < cnt t:=by
 cases t
 unfold cnt;omega
theorem Tg: ∀a:List Tr,a.length<=O1 a
 | []=> by simp
 |t::ts=> by
  have:=Tg ts;have:=nu t;simp only[bX,O1];omega
theorem ya: ∀{a:List Tr} {t:Tr},t∈a->cnt t<=O1 a
 |x::ts,t,h=> by
  rcases List.mem_cons.1 h with rfl|h
  · simp only[O1];omega
  · have:=ya h
    simp only[O1];omega
mutual
def n8:Tr->Tr->Bool
 | .mk k n b,.mk c d a=> k==c &&(n==d && a9 b a)
def a9:List Tr->List Tr->Bool
 | [], []=> true
 |t::ts,a::b=> n8 t a && a9 ts b
 |_,_=> false
end
theorem KE: ∀{a b:List Tr},a9 a b=true->a.length=b.length
 | [], [],_=> rfl
 |x::a,y::b,h=> by
  unfold a9 at h;simp only[aX] at h;simp[KE h.2]
 | [],y::b,h=> by unfold a9 at h;cases h
 |x::a, [],h=> by unfold a9 at h;cases h
mutual
theorem Zw: ∀{a b:Tr},n8 a b=true->a=b
 | .mk k n d,.mk e f c,h=> by
  unfold n8 at h;simp only[aX,beq_iff_eq] at h;obtain⟨rfl,rfl,h⟩:=h;rw[MB h]
theorem MB: ∀{a b:List Tr},a9 a b=true->a=b
 | [], [],_=> rfl
 |x::a,y::b,h=> by
  unfold a9 at h;simp only[aX] at h;rw[Zw h.1,MB h.2]
 | [],y::b,h=> by unfold a9 at h;cases h
 |x::a, [],h=> by unfold a9 at h;cases h
end
mutual
theorem jw: ∀a:Tr,n8 a a=true
 | .mk k n b=> by
  unfold n8;simp[CC b]
theorem CC: ∀a:List Tr,a9 a a=true
 | []=> by unfold a9;rfl
 |x::a=> by
  unfold a9;simp[jw x,CC a]
end
theorem Sz{a b:Tr}:n8 a b=true↔a=b:=⟨Zw,fun h=> h▸jw a⟩
instance:DecidableEq Tr:=fun a b=> decidable_of_iff _ Sz
def Ext(w a:aN):Prop:=Below w.heap.size w a
theorem xr(w:aN):Ext w w:=Below.refl _ _
theorem Ext.size{w a:aN}(h:Ext w a):w.heap.size<=a.heap.size:=Below.size h
theorem Ext.trans{a b c:aN}(h:Ext a b)(k:Ext b c):Ext a c:=Below.trans h (Below.mono k h.size)
theorem Ext.drew{a b:aN}(h:Ext a b):Ext a b.drew:=Below.drew h
theorem Ext.alloc{a b:aN}(h:Ext a b)(o:Obj):Ext a (b.alloc o):=Below.alloc h h.size o
theorem Ext.setCell{a b:aN}(h:Ext a b){p:Addr}(c:a.heap.size<=p.block)(u:aU):Ext a (b.setCell p u):=Below.setCell h c u
theorem Ext.grown{a b c:aN}(h:Ext a b){row:Option Nat}(d:b.grownBy c row)(hr: ∀k,row=some k->a.heap.size<=k):Ext a c:=Below.grown h d h.size hr
theorem Ext.heap{w a:aN}(h:Ext w a)(b:Nat)(c:b < w.heap.size):a.heap[b]? =w.heap[b]? :=Below.block h b c
theorem Ext.cell{w a:aN}(h:Ext w a){b o:Nat}{v:aU}(c:w.cell? ⟨b,o,none⟩=some v):a.cell? ⟨b,o,none⟩=some v:=
 (Below.cell (p:=⟨b,o,none⟩) h (bY _ _ c)).trans c
theorem Ext.blk{w a:aN}(h:Ext w a){b:Nat}{x:Obj}(c:w.heap[b]? =some x):a.heap[b]? =some x:=
 (h.heap b (Array.getElem?_eq_some_iff.1 c).1).trans c
theorem Ext.size_alloc{w a:aN}{o:Obj}(h:Ext (w.alloc o) a):w.heap.size < a.heap.size:=by
 have:=h.size;simp at this
 omega
theorem Ext.pre{w a:aN}{o:Obj}(h:Ext (w.alloc o) a):Ext w a:=((xr w).alloc o).trans h
theorem Ext.newBlk{w a:aN}{o:Obj}(h:Ext (w.alloc o) a):a.heap[w.heap.size]? =some o:=h.blk (heap_alloc_new w o)
theorem mc{w:aN}{b:Nat}{cs:Array aU}{e:bU}(h:w.heap[b]? =some (.cells cs e (0,0)))(i:Nat):w.frozen? ⟨b,i,none⟩=false:=by simp[World.frozen?,h]
theorem E1{w:aN}{b:Nat}{cs:Array aU}{e:bU}(h:w.heap[b]? =some (.cells cs e (0,0)))(i:Nat):w.cell? ⟨b,i,none⟩=cs[i]? :=cell_of_row w b i cs e (0,0) h
theorem D1{w:aN}{b:Nat}{x:Obj}(h:w.heap[b]? =some x):b < w.heap.size:=(Array.getElem?_eq_some_iff.1 h).1
theorem b6{w:aN}{b:Nat}{cs:Array aU}{e:bU}(h:w.heap[b]? =some (.cells cs e (0,0)))(i:Nat)(u:aU):(w.setCell ⟨b,i,none⟩ u).heap[b]? =some (.cells (cs.setIfInBounds i u) e (0,0)):=by
 simp[World.setCell,Array.getElem?_modify,h]
theorem fe{w:aN}{b:Nat}{x:Obj}(h:w.heap[b]? =some x){p:Addr}(a:b≠p.block)(u:aU):(w.setCell p u).heap[b]? =some x:=(Below.heap_setCell w p u b a).trans h
theorem bI{w:aN}{b:Nat}{x:Obj}(h:w.heap[b]? =some x)(o:Obj):(w.alloc o).heap[b]? =some x:=(Below.heap_alloc w o b (D1 h)).trans h
mutual
def InT(w:aN)(S:Nat->Prop):Tr->aU->Prop
 | .mk k n a,v=> ∃A cap,v= .agg #[.int .i64 k,.int .i64 n,.slice A a.length cap]/\a.length<=cap/\cap<=aW/\(a= []\/ ∃b o,A=some ⟨b,o,none⟩/\S b/\d5 w S b o a)
def d5(w:aN)(S:Nat->Prop)(b:Nat):Nat->List Tr->Prop
 |_, []=> True
 |o,t::ts=>(∃v0 v1 v2,w.cell? ⟨b,o,none⟩=some v0/\w.cell? ⟨b,o+1,none⟩=some v1/\w.cell? ⟨b,o+2,none⟩=some v2/\InT w S t (.agg #[v0,v1,v2]))/\d5 w S b (o+3) ts
end
def InK(w:aN)(S:Nat->Prop)(A:Option Addr)(a:List Tr):Prop:=a= []\/ ∃b o,A=some ⟨b,o,none⟩/\S b/\d5 w S b o a
theorem InT.mk_iff{w:aN}{S:Nat->Prop}{k n:Int}{a:List Tr}{v:aU}:
 InT w S (.mk k n a) v↔ ∃A cap,v= m0 k n A a.length cap/\a.length<=cap/\cap<=aW/\InK w S A a:=by
 unfold InT InK;exact Iff.rfl
mutual
theorem InT.mono{w w':aN}{S S':Nat->Prop}(hS: ∀b,S b->S' b)(d: ∀b,S b->w'.heap[b]? =w.heap[b]?): ∀{t:Tr} {v:aU},InT w S t v->InT w' S' t v
 | .mk k n g,v,h=> by
  unfold InT at h⊢;obtain⟨A,cap,rfl,f,e,a⟩:=h;refine⟨A,cap,rfl,f,e, ?_⟩;rcases a with a|⟨b,o,rfl,c,hl⟩
  · exact .inl a
  · exact .inr ⟨b,o,rfl,hS b c,d5.mono hS d c hl⟩
theorem d5.mono{w w':aN}{S S':Nat->Prop}(hS: ∀b,S b->S' b)(c: ∀b,S b->w'.heap[b]? =w.heap[b]?){b:Nat}(d:S b): ∀{o:Nat} {e:List Tr},d5 w S b o e->d5 w' S' b o e
 |_, [],_=> by unfold d5;trivial
 |o,t::ts,h=> by
  unfold d5 at h⊢;obtain⟨⟨v0,v1,v2,k,j,g,ht⟩,f⟩:=h;have hc: ∀i,w'.cell? ⟨b,i,none⟩=w.cell? ⟨b,i,none⟩:=fun i=> eN (w:=w) (a:=⟨b,i,none⟩) (c b d)
  exact⟨⟨v0,v1,v2,(hc _).trans k,(hc _).trans j,(hc _).trans g,InT.mono hS c ht⟩,d5.mono hS c d f⟩
end
theorem InK.mono{w w':aN}{S S':Nat->Prop}(hS: ∀b,S b->S' b)(d: ∀b,S b->w'.heap[b]? =w.heap[b]?){A:Option Addr}{c:List Tr}(h:InK w S A c):InK w' S' A c:=by
 rcases h with h|⟨b,o,rfl,a,hl⟩
 · exact .inl h
 · exact .inr ⟨b,o,rfl,hS b a,d5.mono hS d a hl⟩
theorem d5.at_{w:aN}{S:Nat->Prop}{b:Nat}: ∀{o:Nat} {c:List Tr} {j:Nat},d5 w S b o c->(a:j < c.length)->
 ∃k n A cap kids,c[j]= .mk k n kids/\w.cell? ⟨b,o+j*3,none⟩=some (j0 k)/\w.cell? ⟨b,o+j*3+1,none⟩=some (j0 n)/\w.cell? ⟨b,o+j*3+2,none⟩=some (.slice A kids.length cap)/\
  kids.length<=cap/\cap<=aW/\InK w S A kids
 |o, [],j,_,a=> absurd a (by simp)
 |o,t::ts,0,h,_=> by
  unfold d5 at h;obtain⟨⟨v0,v1,v2,i,g,f,ht⟩,_⟩:=h;obtain⟨k,n,kids⟩:=t;obtain⟨A,cap,hv,hl,hc,hk⟩:=InT.mk_iff.1 ht;simp only[Value.agg.injEq,Array.mk.injEq,List.cons.injEq,and_true] at hv;obtain⟨rfl,rfl,rfl⟩:=hv;exact⟨k,n,A,cap,kids,rfl,by simpa using i,by simpa using g,by simpa using f,hl,hc,hk⟩
 |o,t::ts,j+1,h,a=> by
  unfold d5 at h;obtain⟨k,n,A,cap,kids,e,r⟩:=d5.at_ (j:=j) h.2 (by simpa using a);have d:o+3+j*3=o+(j+1)*3:=by omega
  rw[d] at r;exact⟨k,n,A,cap,kids,by simpa using e,r⟩
theorem InK.at_{w:aN}{S:Nat->Prop}{A:Option Addr}{c:List Tr}{j:Nat}(h:InK w S A c)(d:j < c.length):
 ∃b o k n a cap kids,A=some ⟨b,o,none⟩/\S b/\c[j]= .mk k n kids/\w.cell? ⟨b,o+j*3,none⟩=some (j0 k)/\w.cell? ⟨b,o+j*3+1,none⟩=some (j0 n)/\w.cell? ⟨b,o+j*3+2,none⟩=some (.slice a kids.length cap)/\
  kids.length<=cap/\cap<=aW/\InK w S a kids:=by
 rcases h with rfl|⟨b,o,rfl,e,hl⟩
 · exact absurd d (by simp)
 · obtain⟨k,n,a,cap,kids,r⟩:=hl.at_ d
   exact⟨b,o,k,n,a,cap,kids,rfl,e,r⟩
theorem InK.get{w d:aN}{S:Nat->Prop}{A:Option Addr}{l:List Tr}{j:Nat}(h:InK w S A l)(q: ∀b,S b->d.heap[b]? =w.heap[b]?)(m:j < l.length):
 ∃b o k n f cap kids,A=some ⟨b,o,none⟩/\Hid (l[j]= .mk k n kids)/\d.cell? ⟨b,o+j*3,none⟩=some (j0 k)/\d.cell? ⟨b,o+j*3+1,none⟩=some (j0 n)/\d.cell? ⟨b,o+j*3+2,none⟩=some (.slice f kids.length cap)/\
  kids.length<=cap/\cap<=aW/\InK d S f kids/\InT d S (.mk k n kids) (m0 k n f kids.length cap)/\Tr.mk k n kids∈l/\S b:=by
 obtain⟨b,o,k,n,f,cap,kids,e,p,hk,s,r,t,hl,hc,hK⟩:=InK.at_ h m;have c: ∀i v,w.cell? ⟨b,i,none⟩=some v->d.cell? ⟨b,i,none⟩=some v:=fun i v hv=>(eN (w:=w) (a:=⟨b,i,none⟩) (q b p)).trans hv
 have g:=hK.mono (fun _ h=> h) q;exact⟨b,o,k,n,f,cap,kids,e,hdq hk,c _ _ s,c _ _ r,c _ _ t,hl,hc,g,InT.mk_iff.2 ⟨f,cap,rfl,hl,hc,g⟩,hk▸iO m,p⟩
theorem d5.drop{w:aN}{S:Nat->Prop}{b:Nat}: ∀{o:Nat} {a:List Tr} (j:Nat),d5 w S b o a->d5 w S b (o+j*3) (a.drop j)
 |o,a,0,h=> by simpa using h
 |o, [],j+1,h=> by simp[d5]
 |o,t::ts,j+1,h=> by
  unfold d5 at h;have:=d5.drop j h.2;have c:o+3+j*3=o+(j+1)*3:=by omega
  rw[c] at this
  simpa using this
theorem d5.take{w:aN}{S:Nat->Prop}{b:Nat}: ∀{o:Nat} {a:List Tr} (j:Nat),d5 w S b o a->d5 w S b o (a.take j)
 |o,a,0,h=> by simp[d5]
 |o, [],j+1,h=> by simp[d5]
 |o,t::ts,j+1,h=> by
  unfold d5 at h;simp only[List.take_succ_cons];unfold d5;exact⟨h.1,d5.take j h.2⟩
theorem InK.take{w:aN}{S:Nat->Prop}{A:Option Addr}{a:List Tr}(j:Nat)(h:InK w S A a):InK w S A (a.take j):=by
 rcases h with rfl|⟨b,o,rfl,c,hl⟩
 · exact .inl (by simp)
 · exact .inr ⟨b,o,rfl,c,hl.take j⟩
def Lies(w:aN)(t:Tr)(v:aU):Prop:=InT w (fun b=> b < w.heap.size) t v
def V8(w:aN)(A:Option Addr)(a:List Tr):Prop:=InK w (fun b=> b < w.heap.size) A a
theorem Lies.ext{w c:aN}{t:Tr}{v:aU}(h:Lies w t v)(d:Ext w c):Lies c t v:=InT.mono (fun _ a=> aZ a d.size) (fun b a=> d.heap b a) h
theorem V8.ext{w c:aN}{A:Option Addr}{ks:List Tr}(h:V8 w A ks)(d:Ext w c):V8 c A ks:=InK.mono (fun _ a=> aZ a d.size) (fun b a=> d.heap b a) h
theorem Lies.mk_iff{w:aN}{k n:Int}{a:List Tr}{v:aU}:
 Lies w (.mk k n a) v↔ ∃A cap,v= m0 k n A a.length cap/\a.length<=cap/\cap<=aW/\V8 w A a:=InT.mk_iff
theorem Lies.mk{w:aN}{k n:Int}{a:List Tr}{A:Option Addr}{cap:Nat}(hl:a.length<=cap)(hc:cap<=aW)(h:V8 w A a):Lies w (.mk k n a) (m0 k n A a.length cap):=
 Lies.mk_iff.2 ⟨A,cap,rfl,hl,hc,h⟩
theorem V8.get{w a:aN}{A:Option Addr}{f:List Tr}{j:Nat}(h:V8 w A f)(c:Ext w a)(g:j < f.length):
 ∃b o k n d cap kids,A=some ⟨b,o,none⟩/\Hid (f[j]= .mk k n kids)/\a.cell? ⟨b,o+j*3,none⟩=some (j0 k)/\a.cell? ⟨b,o+j*3+1,none⟩=some (j0 n)/\a.cell? ⟨b,o+j*3+2,none⟩=some (.slice d kids.length cap)/\
  kids.length<=cap/\cap<=aW/\V8 a d kids/\Lies a (.mk k n kids) (m0 k n d kids.length cap)/\Tr.mk k n kids∈f:=by
 obtain⟨b,o,k,n,d,cap,kids,e,_,hk,l,i,m,hl,hc,hK⟩:=InK.at_ h g;exact⟨b,o,k,n,d,cap,kids,e,hdq hk,c.cell l,c.cell i,c.cell m,hl,hc,V8.ext hK c,Lies.mk hl hc (V8.ext hK c),hk▸iO g⟩
mutual
def Ya(w:aN)(e:bU):Tr->aU->List Nat->Prop
 | .mk k n a,v,L=> ∃A cap,v= .agg #[.int .i64 k,.int .i64 n,.slice A a.length cap]/\a.length<=cap/\cap<=aW/\
  ((a= []/\L= [])\/ ∃b cs c,A=some ⟨b,0,none⟩/\w.heap[b]? =some (.cells cs e (0,0))/\L=b::c/\O4 w e cs.toList a c)
def O4(w:aN)(e:bU):List aU->List Tr->List Nat->Prop
 |_, [],L=> L= []
 |c,t::ts,L=> ∃v0 v1 v2 rest a b,c=v0::v1::v2::rest/\Ya w e t (.agg #[v0,v1,v2]) a/\O4 w e rest ts b/\L=a++b
end
theorem Ya.mk_iff{w:aN}{e:bU}{k n:Int}{a:List Tr}{v:aU}{L:List Nat}:Ya w e (.mk k n a) v L↔ ∃A cap,v= m0 k n A a.length cap/\a.length<=cap/\cap<=aW/\
 ((a= []/\L= [])\/ ∃b cs c,A=some ⟨b,0,none⟩/\w.heap[b]? =some (.cells cs e (0,0))/\L=b::c/\O4 w e cs.toList a c):=by
 conv=> lhs;unfold Ya
theorem O4.cons_iff{w:aN}{e:bU}{a:List aU}{t:Tr}{ts:List Tr}{L:List Nat}:O4 w e a (t::ts) L↔ ∃v0 v1 v2 rest b c,a=v0::v1::v2::rest/\Ya w e t (.agg #[v0,v1,v2]) b/\O4 w e rest ts c/\L=b++c:=by
 conv=> lhs;unfold O4
theorem O4.nil{w:aN}{e:bU}{a:List aU}:O4 w e a [] []:=by unfold O4;rfl
mutual
theorem Ya.mono{w w':aN}{e:bU}: ∀{t:Tr} {v:aU} {L:List Nat},Ya w e t v L->(∀b,b∈L->w'.heap[b]? =w.heap[b]?)->Ya w' e t v L
 | .mk k n j,v,L,h,c=> by
  unfold Ya at h⊢;obtain⟨A,cap,rfl,i,g,a⟩:=h;refine⟨A,cap,rfl,i,g, ?_⟩;rcases a with a|⟨b,cs,d,rfl,f,rfl,hl⟩
  · exact .inl a
  · exact .inr ⟨b,cs,d,rfl,(c b (by simp)).trans f,rfl,O4.mono hl (fun x hx=> c x (by simp[hx]))⟩
theorem O4.mono{w w':aN}{e:bU}: ∀{a:List aU} {d:List Tr} {L:List Nat},O4 w e a d L->(∀b,b∈L->w'.heap[b]? =w.heap[b]?)->O4 w' e a d L
 |_, [],_,h,_=> by unfold O4 at h⊢;exact h
 |a,t::ts,L,h,c=> by
  unfold O4 at h⊢;obtain⟨v0,v1,v2,rest,f,j,rfl,i,g,rfl⟩:=h;exact⟨v0,v1,v2,rest,f,j,rfl,Ya.mono i (fun x hx=> c x (by simp[hx])),O4.mono g (fun x hx=> c x (by simp[hx])),rfl⟩
end
theorem O4.snoc{w:aN}{e:bU}{t:Tr}{v0 v1 v2:aU}{b:List Nat}(ht:Ya w e t (.agg #[v0,v1,v2]) b)(tail:List aU): ∀{a:List aU} {c:List Tr} {L:List Nat},a.length=c.length*3->O4 w e a c L->O4 w e (a++v0::v1::v2::tail) (c++ [t]) (L++b)
 |a, [],L,hx,h=> by
  have d:a= []:=List.eq_nil_of_length_eq_zero (by simpa using hx);subst d;unfold O4 at h;subst h;exact O4.cons_iff.2 ⟨v0,v1,v2,tail,b, [],rfl,ht,O4.nil,by simp⟩
 |a,x::c,L,hx,h=> by
  obtain⟨k,g,j,rest,f,l,rfl,m,i,rfl⟩:=O4.cons_iff.1 h;exact O4.cons_iff.2 ⟨k,g,j,_,f,l++b,rfl,m,O4.snoc ht tail (by simp only[bX] at hx;omega) i,by simp⟩
theorem O4.tail{w:aN}{e:bU}(tail:List aU): ∀{a:List aU} {b:List Tr} {L:List Nat},O4 w e a b L->O4 w e (a++tail) b L
 |a, [],L,h=> by unfold O4 at h⊢;exact h
 |a,x::b,L,h=> by
  obtain⟨f,k,d,rest,i,j,rfl,g,c,rfl⟩:=O4.cons_iff.1 h;exact O4.cons_iff.2 ⟨f,k,d,_,i,j,rfl,g,O4.tail tail c,rfl⟩
mutual
theorem Ya.inT{w:aN}{e:bU}: ∀{t:Tr} {v:aU} {L:List Nat},Ya w e t v L->InT w (fun b=> b∈L) t v
 | .mk k n i,v,L,h=> by
  obtain⟨A,cap,rfl,f,d,a⟩:=Ya.mk_iff.1 h;refine InT.mk_iff.2 ⟨A,cap,rfl,f,d, ?_⟩;rcases a with⟨a,_⟩ |⟨b,cs,g,rfl,c,rfl,hl⟩
  · exact .inl a
  · exact .inr ⟨b,0,rfl,by simp,O4.inL c (pre:= []) hl (by simp) (fun x hx=> by simp[hx])⟩
theorem O4.inL{w:aN}{e:bU}{b:Nat}{cs:Array aU}{S:Nat->Prop}(c:w.heap[b]? =some (.cells cs e (0,0))): ∀{xs pre:List aU} {d:List Tr} {L:List Nat},O4 w e xs d L->cs.toList=pre++xs->(∀x,x∈L->S x)->d5 w S b pre.length d
 |_,_, [],_,_,_,_=> by unfold d5;trivial
 |xs,pre,t::ts,L,h,a,hS=> by
  obtain⟨v0,v1,v2,rest,j,k,rfl,g,f,rfl⟩:=O4.cons_iff.1 h;unfold d5;have hc: ∀i,w.cell? ⟨b,i,none⟩=cs.toList[i]? :=fun i=> by rw[E1 c];simp
  refine⟨⟨v0,v1,v2, ?_, ?_, ?_,InT.mono (fun x hx=> hS x (by simp[hx])) (fun _ _=> rfl) (Ya.inT g)⟩, ?_⟩
  · rw[hc,a,gQ (aP _)];simp
  · rw[hc,a,gQ (by omega)];simp
  · rw[hc,a,gQ (by omega)];simp
  · have:=O4.inL c (pre:=pre++ [v0,v1,v2]) f (by simp[a]) (fun x hx=> hS x (by simp[hx]))
    simpa using this
end
def Ye(w a:aN)(L:List Nat):Prop:=L.Nodup/\ ∀b,b∈L->w.heap.size<=b/\b < a.heap.size
theorem Ye.nil(w a:aN):Ye w a []:=⟨List.nodup_nil,fun _ h=> by cases h⟩
theorem Ye.mono{a b c d:aN}{L:List Nat}(h:Ye b c L)(f:a.heap.size<=b.heap.size)(e:c.heap.size<=d.heap.size):Ye a d L:=⟨h.1,fun x hx=> by have:=h.2 x hx;omega⟩
theorem Ye.append{a b c d:aN}{L M:List Nat}(h:Ye a b L)(k:Ye c d M)(f:b.heap.size<=c.heap.size)(i:a.heap.size<=b.heap.size)(j:c.heap.size<=d.heap.size):Ye a d (L++M):=by
 refine⟨List.nodup_append.2 ⟨h.1,k.1,fun x hx y g e=> ?_⟩,fun x hx=> ?_⟩
 · have:=h.2 x hx
   have:=k.2 y g;omega
 · rcases List.mem_append.1 hx with hx|hx
   · have:=h.2 x hx
     omega
   · have:=k.2 x hx
     omega
def W0(w a:aN)(e:bU)(t:Tr)(v:aU):Prop:= ∃L,Ya a e t v L/\Ye w a L
theorem W0.lies{w a:aN}{e:bU}{t:Tr}{v:aU}(h:W0 w a e t v):Lies a t v:=by
 obtain⟨L,h,hf⟩:=h;exact InT.mono (fun b c=>(hf.2 b c).2) (fun _ _=> rfl) h.inT
theorem W0.ext{w a d:aN}{e:bU}{t:Tr}{v:aU}(h:W0 w a e t v)(c:Ext a d):W0 w d e t v:=by
 obtain⟨L,h,hf⟩:=h;exact⟨L,h.mono fun b f=> c.heap b (hf.2 b f).2,hf.mono (aP _) c.size⟩
theorem W0.since{a w b:aN}{e:bU}{t:Tr}{v:aU}(h:W0 w b e t v)(c:a.heap.size<=w.heap.size):W0 a b e t v:=by
 obtain⟨L,h,hf⟩:=h;exact⟨L,h,hf.mono c (aP _)⟩
theorem W0.leaf(w a:aN)(e:bU)(k n:Int):W0 w a e (.mk k n []) (m0 k n none 0 0):=
 ⟨[],Ya.mk_iff.2 ⟨none,0,rfl,aP _,Nat.zero_le _,.inl ⟨rfl,rfl⟩⟩,Ye.nil _ _⟩
def XJ(w:aN)(e:bU)(A:Option Addr)(c:List Tr)(L:List Nat):Prop:=
 (c= []/\L= [])\/ ∃b cs a,A=some ⟨b,0,none⟩/\w.heap[b]? =some (.cells cs e (0,0))/\L=b::a/\O4 w e cs.toList c a
def Vi(w a:aN)(e:bU)(A:Option Addr)(b:List Tr):Prop:= ∃L,XJ a e A b L/\Ye w a L
theorem W0.mk_iff{w f:aN}{e:bU}{k n:Int}{a:List Tr}{v:aU}:W0 w f e (.mk k n a) v↔ ∃A cap,v= m0 k n A a.length cap/\a.length<=cap/\cap<=aW/\Vi w f e A a:=by
 constructor
 · rintro⟨L,h,hf⟩
   obtain⟨A,cap,rfl,d,b,c⟩:=Ya.mk_iff.1 h;exact⟨A,cap,rfl,d,b,L,c,hf⟩
 · rintro⟨A,cap,rfl,d,b,L,c,hf⟩
   exact⟨L,Ya.mk_iff.2 ⟨A,cap,rfl,d,b,c⟩,hf⟩
theorem W0.mk{w b:aN}{e:bU}{k n:Int}{a:List Tr}{A:Option Addr}{cap:Nat}(hl:a.length<=cap)(hc:cap<=aW)(h:Vi w b e A a):W0 w b e (.mk k n a) (m0 k n A a.length cap):=
 W0.mk_iff.2 ⟨A,cap,rfl,hl,hc,h⟩
theorem Vi.nil(w a:aN)(e:bU)(A:Option Addr):Vi w a e A []:=⟨[],.inl ⟨rfl,rfl⟩,Ye.nil _ _⟩
end Go.Proofs.YtckhbnmfnpolgaaGreat
namespace Go.Proofs.YtckhbnmfnpolgaaGreat
open Go.RowKit Go.ChangeShapes Go.WideShapes Go.ChangeAt Go.Deep
section
variable {H : Type} {enc : bU × aU → H} {P : Program}
theorem PK(hl:laidOutB P=true){W f:aN}(e:Ext W f): ∀{ts:List bU} {vs:List aU} {c:List (DataW H)} {ps:List mN},
 (ts.all fun t=> P.readableRec t && decide (t < P.types.size))=true->DataW.TrodAll enc P W 0 (fun _=> true) true ts vs c ps->(∀x∈ps,x.block < W.heap.size)->
 DataW.TrodAll enc P f 0 (fun b=> decide (b < W.heap.size)) true ts vs c ps
 | [],vs,c,ps,_,h,_=> by
  obtain⟨rfl,rfl,rfl⟩:=trodAll_nil h;exact trodAll_mk0
 |t::ts,vs,c,ps,hr,h,a=> by
  obtain⟨v,i,d,j,p,q,rfl,rfl,rfl,g,r⟩:=trodAll_cons h;simp only[List.all_cons,aX,decide_eq_true_eq] at hr;exact trodAll_cons_mk (Below.trod hl hr.1.1 hr.1.2 g e (fun x hx=> a x (List.mem_append_left _ hx))) (PK hl e (by simpa using hr.2) r (fun x hx=> a x (List.mem_append_right _ hx)))
theorem KK{C:Checked}{os:Os}{f:FuncId}{fn:Func}{s:ChangeSpec}{tb:bU}(own:ownKnob C.prog.godebug=none)(b:os.Started)(k:C.prog.inits.idxOf? f=none)(z:C.prog.funcs[f]? =some fn)
 (hl:laidOutB C.prog=true) (N:(fn.params.toList.all fun t=> C.prog.readableRec t && decide (t < C.prog.types.size))=true) (n:fn.resultTypes=#[tb]) (K:C.prog.underlying tb=some .bool)
 (D:s.vars= []) (F: ∀a:List (DataW H),a.length=fn.params.size->(s.fn H a).results= [.lit (.bool true)]/\(s.fn H a).args=a/\(s.fn H a).vars= [])
 (c: ∃(w:aN) (tape:Tape) (i:Input),w.os=os/\(w.forCall tape i).Shaped C.prog/\i.vars= []/\Input.okWide C.prog (w.forCall tape i) .any w.heap.size f i/\
  s.pre6 enc C.prog fn [] false (w.forCall tape i).memory i.args/\({}:Assume).holds C.prog (lone (Frame.enter C.prog f i.args .normal) [] (w.forCall tape i)))
 (walk: ∀(W:aN) (base:Nat) (args:Array aU) (a:List (DataW H)) (p:List mN),
  (∀(j:Nat) t v,fn.params[j]? =some t->args[j]? =some v->Value.okWide C.prog W .any base t v)->DataW.TrodAll enc C.prog W 0 (fun _=> true) true fn.params.toList args.toList a p->
  (∀x∈p,x.block < W.heap.size)->Calls C.prog f args W fun e B=> e= .returned (.bool true)/\Ext W B):
 ReturnsInHanded {} C os f .any (s.pre6 enc C.prog fn [] false) (s.post enc C.prog fn false true false false):=by
 refine returnsInHanded_of_change own b k z c ?_;intro W base args a S g u y _ _;have l: ∀x∈g,x.block < W.heap.size:=fun x hx=> y.lt x hx
 have o:=y;obtain⟨p,q,hA,A,rfl,G,E⟩:=y;rw[D] at A;obtain⟨rfl,rfl⟩:=trodVars_none A;simp only[List.append_nil] at l o;refine(walk W base args a p u hA l).mono ?_;rintro e B ⟨rfl,hE⟩;have m:a.length=fn.params.size:=by
  have M: ∀{ts:List bU} {vs:List aU} {es:List (DataW H)} {ps:List mN},DataW.TrodAll enc C.prog W 0 (fun _=> true) true ts vs es ps->es.length=ts.length:=by
   intro ts
   induction ts with
   |nil=> intro vs es ps h;obtain⟨_,rfl,_⟩:=trodAll_nil h;rfl
   |cons t ts ih=> intro vs es ps h;obtain⟨v,O,d,Q,p,q,rfl,rfl,rfl,R,r⟩:=trodAll_cons h;simp[ih r]
  rw[M hA,Array.length_toList]
 obtain⟨L,J,I⟩:=F a m;refine⟨_,rfl,a, [],p, [],p, [],by simpa using o, ?_, ?_, ?_,Below.frame hE _|> World.keptBut_mono (fun x hx=>⟨hx,.inr (.inl hx)⟩),fun h=> by cases h⟩
 · rw[List.append_nil,L,n]
   exact trodAll_mk1 (shut_bool K _)
 · rw[List.append_nil,J]
   exact PK hl hE N hA l
 · rw[List.append_nil,I,D]
   exact rfl
end
/-! ### A tree that came in -/
section
variable {H : Type} {enc : bU × aU → H} {P : Program} {w : aN} {spare : Nat → Bool} {held : Bool}
structure rn (P:Program) (t s i:bU) (f0 f1 f2:Field):Prop where
 ht:P.underlying t=some (.struct #[f0,f1,f2])
 hs:P.underlying s=some (.slice t)
 hi:P.underlying i=some (.int .i64)
 t0:f0.type=i
 t1:f1.type=i
 t2:f2.type=s
 o0:f0.offset=0
 o1:f1.offset=1
 o2:f2.offset=2
 ci:P.cellsOf i=1
 cs:P.cellsOf s=1
 ct:P.cellsOf t=3
abbrev fld(n:String)(t:bU)(o:Nat)(b:Nat):Field:={name:=n,type:=t,offset:=o,embedded:=false,tag:= "",pkgPath:= "",byteOffset:=b}
theorem LF{α:Type}{p:Nat->α->Prop}: ∀n:Nat,(∀i,i < n-> ∃x,p i x)-> ∃l:List α,l.length=n/\ ∀i (h:i < l.length),p i l[i]
 |0,_=>⟨[],rfl,fun i h=> absurd h (by simp)⟩
 |n+1,h=> by
  obtain⟨l,hl,b⟩:=LF n (fun i hi=> h i (by omega));obtain⟨x,hx⟩:=h n (by omega);refine⟨l++ [x],by simp[hl],fun i hi=> ?_⟩;by_cases a:i < l.length
  · rw[List.getElem_append_left a];exact b i a
  · have:i=n:=by simp at hi;omega
    subst this;rw[List.getElem_append_right (by omega)]
    simpa[hl] using hx
theorem d5.build{S:Nat->Prop}{b:Nat}: ∀{a:List Tr} {o:Nat},(∀j (h:j < a.length),∃v0 v1 v2,w.cell? ⟨b,o+j*3,none⟩=some v0/\w.cell? ⟨b,o+j*3+1,none⟩=some v1/\w.cell? ⟨b,o+j*3+2,none⟩=some v2/\InT w S a[j] (.agg #[v0,v1,v2]))->d5 w S b o a
 | [],_,_=> by unfold d5;trivial
 |t::ts,o,h=> by
  unfold d5;refine⟨by have c:=h 0 (by simp);simp only[List.getElem_cons_zero,Nat.zero_mul,Nat.add_zero] at c;exact c,d5.build fun j e=> ?_⟩;have:=h (j+1) (by simpa using e);have d:o+(j+1)*3=o+3+j*3:=by omega
  rw[d] at this
  simpa using this
theorem FF(b o n:Nat):(⟨b,o,none⟩:Addr).add n=⟨b,o+n,none⟩:=by
 unfold Addr.add
 split <;> simp_all
theorem zF{t s i:bU}{L D G:Field}(T:rn P t s i L D G)(fuel:Nat)
 (ih: ∀m,m < fuel-> ∀(cs:List aU) (x:DataW H×List mN),DataW.trod enc P w 0 spare held m t cs=some x-> ∃(tr:Tr) (v0 v1 v2:aU),cs= [v0,v1,v2]/\Lies w tr (.agg #[v0,v1,v2]))
 (cs:List aU) (x:DataW H×List mN) (h:DataW.trod enc P w 0 spare held fuel s cs=some x):
 ∃(A:Option Addr) (cap:Nat) (g:List Tr),cs= [.slice A g.length cap]/\g.length<=cap/\cap<=aW/\V8 w A g:=by
 rcases DataW.trod_slice T.hs h with⟨rfl,_⟩ |⟨a,len,cap,r,rest,n,rfl,rfl,_,_,hl,hm,z,C,_,_⟩
 · exact⟨none,0, [],rfl,aP _,Nat.zero_le _,.inl rfl⟩
 · have K: ∀j,j < len-> ∃tr:Tr,∃v0 v1 v2,w.cell? (a.add (j*3))=some v0/\w.cell? ((a.add (j*3)).add 1)=some v1/\w.cell? ((a.add (j*3)).add 2)=some v2/\Lies w tr (.agg #[v0,v1,v2]):=by
    intro j q;have k:=C j q;rw[List.getElem?_eq_getElem (by omega)] at k;obtain⟨F,J,E⟩:=Option.bind_eq_some_iff.1 k;obtain⟨tr,v0,v1,v2,rfl,v⟩:=ih n (by omega) _ _ E;obtain⟨_,_,c⟩:=World.cells?_some J;rw[T.ct] at c;have e:=c 0 (by omega);have l:=c 1 (by omega);have p:=c 2 (by omega);have u: ∀y:Addr,y.add 0=y:=fun y=> by simp[Addr.add]
    rw[u] at e;exact⟨tr,v0,v1,v2,e,l,p,v⟩
   obtain⟨g,I,B⟩:=LF len K;subst I;refine⟨some a,cap,g,rfl,hl,hm, ?_⟩;cases g with
   |nil=> exact .inl rfl
   |cons t0 ts=>
    obtain⟨b,o,d⟩:=a;have f:b < w.heap.size/\d=none:=by
     obtain⟨v0,v1,v2,e,_⟩:=B 0 (by simp);simp only[Nat.zero_mul] at e;have u:(⟨b,o,d⟩:Addr).add 0=⟨b,o,d⟩:=by simp[Addr.add]
     rw[u] at e;exact⟨bY _ _ e,by simpa using World.cell?_spot e⟩
    obtain⟨f,rfl⟩:=f;refine .inr ⟨b,o,rfl,f,d5.build fun j q=> ?_⟩;obtain⟨v0,v1,v2,e,l,p,v⟩:=B j q;rw[FF] at e l p;rw[FF] at l p;exact⟨v0,v1,v2,e,l,p,v⟩
theorem lL{t s i:bU}{o f g:Field}(T:rn P t s i o f g): ∀(fuel:Nat) (cs:List aU) (x:DataW H×List mN),DataW.trod enc P w 0 spare held fuel t cs=some x->
 ∃(tr:Tr) (v0 v1 v2:aU),cs= [v0,v1,v2]/\Lies w tr (.agg #[v0,v1,v2]):=by
 intro fuel
 induction fuel using Nat.strongRecOn with
 |_ fuel ih=>
  intro cs x h;obtain⟨p,n,rfl,_,j,a,b⟩:=DataW.trod_struct T.ht h;rw[T.ct] at j
  match cs,j,p,a with
  | [v0,v1,v2],_, [v,u,r],_=>
   have l:=b 0 o rfl;have d:=b 1 f rfl;have c:=b 2 g rfl;simp[T.o0,T.o1,T.o2,T.t0,T.t1,T.t2,T.ci,T.cs] at l d c
   obtain⟨k,hk,_,_⟩:=DataW.trod_int T.hi l;obtain⟨m,hm,_,_⟩:=DataW.trod_int T.hi d;simp at hk hm
   obtain⟨A,cap,q,e,hl,hc,hK⟩:=zF T n (fun m hm=> ih m (by omega)) _ _ c;simp at e
   subst hk;subst hm;subst e;exact⟨.mk k m q,_,_,_,rfl,Lies.mk hl hc hK⟩
theorem Uz{t s i:bU}{g b c:Field}(T:rn P t s i g b c){r:Reach}{f:Nat}{v:aU}{d:DataW H}{p:List mN}(hv:Value.okWide P w r f t v)(h:DataW.Trod enc P w 0 spare held t v d p): ∃tr:Tr,Lies w tr v:=by
 obtain⟨cs,rfl,a⟩:=okWide_struct T.ht hv;obtain⟨fuel,hf⟩:=h;obtain⟨tr,v0,v1,v2,hc,e⟩:=lL T fuel _ _ hf;obtain⟨l⟩:=cs;simp only[Value.cells] at hc;subst hc;exact⟨tr,e⟩
theorem Vy{t s i:bU}{j e f:Field}(T:rn P t s i j e f){r:Reach}{g:Nat}{v:aU}{d:DataW H}{p:List mN}(hv:Value.okWide P w r g s v)(h:DataW.Trod enc P w 0 spare held s v d p):
 ∃(A:Option Addr) (cap:Nat) (b:List Tr),v= .slice A b.length cap/\b.length<=cap/\cap<=aW/\V8 w A b:=by
 obtain⟨k,len,cap,rfl⟩:=okWide_slice T.hs hv;obtain⟨fuel,hf⟩:=h;obtain⟨A,a,b,c,r⟩:=zF T fuel (fun m _=> lL T m) _ _ hf;simp only[Value.cells,List.cons.injEq,and_true] at c;exact⟨A,a,b,c,r⟩
end
end Go.Proofs.YtckhbnmfnpolgaaGreat
namespace Go.Proofs.YtckhbnmfnpolgaaGreat
open Go.RowKit
theorem Mk{w:aN}{g i:Nat}{cs:Array aU}{e:bU}(a:w.heap[g]? =some (.cells cs e (0,0)))(h:i+3<=cs.size):
 ∃d c b,w.cell? ⟨g,i,none⟩=some d/\w.cell? ⟨g,i+1,none⟩=some c/\w.cell? ⟨g,i+2,none⟩=some b/\w.frozen? ⟨g,i,none⟩=false/\w.frozen? ⟨g,i+1,none⟩=false/\w.frozen? ⟨g,i+2,none⟩=false:=by
 refine⟨cs[i]'(by omega),cs[i+1]'(by omega),cs[i+2]'(by omega), ?_, ?_, ?_,mc a _,mc a _,mc a _⟩
 · rw[E1 a];exact jR _
 · rw[E1 a];exact jR _
 · rw[E1 a];exact jR _
theorem Ke{w b:aN}{a:Obj}(h:Ext (w.alloc a) b):b.heap[w.heap.size]? =some a/\w.heap.size < b.heap.size:=⟨h.newBlk,h.size_alloc⟩
theorem blk2{w c:aN}{a b:Obj}(h:Ext ((w.alloc a).alloc b) c):c.heap[w.heap.size]? =some a/\c.heap[w.heap.size+1]? =some b/\w.heap.size+1 < c.heap.size:=by
 have e:=h.newBlk;have d:=h.size_alloc;simp only[eQ] at e d;exact⟨(Ke h.pre).1,e,d⟩
theorem ad{w d:aN}{a b c:Obj}(h:Ext (((w.alloc a).alloc b).alloc c) d):d.heap[w.heap.size]? =some a/\d.heap[w.heap.size+1]? =some b/\d.heap[w.heap.size+1+1]? =some c/\w.heap.size+1+1 < d.heap.size:=by
 have f:=h.newBlk;have e:=h.size_alloc;simp only[eQ] at f e;exact⟨(blk2 h.pre).1,(blk2 h.pre).2.1,f,e⟩
theorem wo{w e:aN}{a b c d:Obj}(h:Ext ((((w.alloc a).alloc b).alloc c).alloc d) e):e.heap[w.heap.size]? =some a/\e.heap[w.heap.size+1]? =some b/\e.heap[w.heap.size+1+1]? =some c/\e.heap[w.heap.size+1+1+1]? =some d/\w.heap.size+1+1+1 < e.heap.size:=by
 have g:=h.newBlk;have f:=h.size_alloc;simp only[eQ] at g f;exact⟨(ad h.pre).1,(ad h.pre).2.1,(ad h.pre).2.2.1,g,f⟩
theorem own3{w:aN}{g:Nat}{d c b:aU}{e:bU}(a:w.heap[g]? =some (.cells #[d,c,b] e (0,0))):
 w.cell? ⟨g,0,none⟩=some d/\w.cell? ⟨g,1,none⟩=some c/\w.cell? ⟨g,2,none⟩=some b/\w.frozen? ⟨g,0,none⟩=false/\w.frozen? ⟨g,1,none⟩=false/\w.frozen? ⟨g,2,none⟩=false:=
 ⟨E1 a 0,E1 a 1,E1 a 2,mc a 0,mc a 1,mc a 2⟩
def Ua(B:Nat)(w a:aN):Prop:=(∀b,B<=b->a.heap[b]? =w.heap[b]?)/\w.heap.size<=a.heap.size
theorem Ua.refl(B:Nat)(w:aN):Ua B w w:=⟨fun _ _=> rfl,aP _⟩
theorem Ua.setCell{B:Nat}{a w:aN}(h:Ua B a w){p:Addr}(d:p.block < B)(u:aU):Ua B a (w.setCell p u):=
 ⟨fun b c=>(Below.heap_setCell w p u b (by omega)).trans (h.1 b c),by simpa using h.2⟩
theorem W0.after{W c d:aN}{e:bU}{t:Tr}{v:aU}(h:W0 W c e t v)(a:Ua W.heap.size c d):W0 W d e t v:=by
 obtain⟨L,h,hf⟩:=h;exact⟨L,h.mono fun b f=> a.1 b (hf.2 b f).1,hf.mono (aP _) a.2⟩
structure i1 (L:List Nat) (w w':aN):Prop where
 os:w'.os=w.os
 tape:w'.tape=w.tape
 output:w'.output=w.output
 size:w.heap.size<=w'.heap.size
 block: ∀b,b < w.heap.size-> ¬b∈L->w'.heap[b]? =w.heap[b]?
theorem i1.refl(L:List Nat)(w:aN):i1 L w w:=⟨rfl,rfl,rfl,aP _,fun _ _ _=> rfl⟩
theorem i1.trans{L:List Nat}{a b c:aN}(h:i1 L a b)(k:i1 L b c):i1 L a c:=
 ⟨k.os.trans h.os,k.tape.trans h.tape,k.output.trans h.output,Nat.le_trans h.size k.size,fun i hi hn=>(k.block i (aZ hi h.size) hn).trans (h.block i hi hn)⟩
theorem i1.setCell{L:List Nat}{a w:aN}(h:i1 L a w){p:Addr}(b:p.block∈L)(u:aU):i1 L a (w.setCell p u):=
 ⟨h.os,h.tape,h.output,by simpa using h.size,fun i hi hn=>(Below.heap_setCell w p u i (fun e=> hn (e▸b))).trans (h.block i hi hn)⟩
theorem oE{L:List Nat}{a b:aN}(h:Ext a b):i1 L a b:=⟨h.os,h.tape,h.output,h.size,fun i hi _=> h.heap i hi⟩
theorem i1.alloc{L:List Nat}{a b:aN}(h:i1 L a b)(o:Obj):i1 L a (b.alloc o):=h.trans (oE ((xr b).alloc o))
theorem i1.ext{L:List Nat}{a w d:aN}(h:i1 L w d)(c:Ext a w)(e: ∀b,b∈L->a.heap.size<=b):Ext a d:=
 ⟨h.os.trans c.os,h.tape.trans c.tape,h.output.trans c.output,Nat.le_trans c.size h.size,fun i hi=>(h.block i (aZ hi c.size) (fun hm=> absurd (e i hm) (by omega))).trans (c.heap i hi)⟩
end Go.Proofs.YtckhbnmfnpolgaaGreat
namespace Go.Proofs.YtckhbnmfnpolgaaGreat
def ac(n a hi:Int):Bool:=decide (a<=n)&& decide (n<=hi)
theorem ti{n a hi:Int}:ac n a hi=true↔a<=n/\n<=hi:=by simp[ac]
theorem aB{n a hi:Int}:ac n a hi=false↔n < a\/hi < n:=by
 rw[Bool.eq_false_iff,Ne,ti];omega
structure Ud where
 ops:Int->Int
 most:Int->Int
def S0(k:Int):Int:=if k=1 then 0 else if k=2 then 0 else if k=3 then 2 else if k=4 then 2 else if k=5 then 2 else if k=6 then 0 else if k=7 then 0 else if k=8 then 1 else if k=9 then 4 else if k=10 then 3 else if k=11 then 1 else if k=12 then 3 else if k=13 then 2 else if k=14 then 3 else if k=15 then 1 else if k=16 then 1 else -1
def Za(k:Int):Int:=if k=1 then 20 else if k=2 then 3 else 0
def sigT:Ud:=⟨S0,Za⟩
def Nj(g:Ud)(k n:Int)(len:Nat):Bool:=decide (g.ops k=(len:Int))&& ac n 0 (g.most k)
mutual
def I0(g:Ud):Tr->Int->Bool
 | .mk k n b,a=> decide (1<=a)&&(Nj g k n b.length && ma g b (a - 1))
def ma(g:Ud):List Tr->Int->Bool
 | [],_=> true
 |t::ts,a=> I0 g t a && ma g ts a
end
def valid(g:Ud)(t:Tr):Bool:=I0 g t 30 && decide (cnt t<=400)
mutual
def Nc:Tr->Int->Int
 | .mk _ _ a,most=> Pf a most 1
def Pf:List Tr->Int->Int->Int
 | [],_,n=> n
 |t::ts,most,n=> if n<=most then Pf ts most (n+Nc t (most - n)) else n
end
mutual
theorem fq: ∀(t:Tr) (most:Int),0<=most->1<=Nc t most/\Nc t most<=most+1/\(Nc t most<=most↔(cnt t:Int)<=most)/\(Nc t most<=most->Nc t most=cnt t)
 | .mk _ _ a,most,h=> by
  have:=NB a most 1 (by omega) (by omega);simp only[Nc,cnt];omega
theorem NB: ∀(ts:List Tr) (most n:Int),1<=n->n<=most+1->n<=Pf ts most n/\Pf ts most n<=most+1/\(Pf ts most n<=most↔n+O1 ts<=most)/\(Pf ts most n<=most->Pf ts most n=n+O1 ts)
 | [],most,n,h,b=> by simp only[Pf,O1];omega
 |t::ts,most,n,h,b=> by
  simp only[Pf,O1];by_cases hn:n<=most
  · rw[if_pos hn]
    have d:=fq t (most - n) (by omega);have c:=NB ts most (n+Nc t (most - n)) (by omega) (by omega);have a:=nu t;omega
  · rw[if_neg hn]
    have a:=nu t;omega
end
theorem mH{g:Ud}{t:Tr}:valid g t=(I0 g t 30 && decide (Nc t 400<=400)):=by
 have:=(fq t 400 (by omega)).2.2.1;unfold valid
 congr 1
 rw[Bool.eq_iff_iff,decide_eq_true_iff,decide_eq_true_iff];omega
mutual
def Td(g:Ud):Tr->Int->Int->Bool×Int
 | .mk k n a,deep,c=> if 400 < c+1 then(false,c+1) else if 30 < deep then(false,c+1) else if g.ops k=(a.length:Int) then(if ac n 0 (g.most k)=true then rf g a (deep+1) (c+1) else(false,c+1)) else(false,c+1)
def rf(g:Ud):List Tr->Int->Int->Bool×Int
 | [],_,c=>(true,c)
 |t::ts,deep,c=> if(Td g t deep c).1=true then rf g ts deep (Td g t deep c).2 else(false,(Td g t deep c).2)
end
mutual
theorem aG(g:Ud): ∀(t:Tr) (deep c:Int),0<=c->c<=400->(Td g t deep c).1=(I0 g t (31 - deep)&& decide (c+cnt t<=400))/\((Td g t deep c).1=true->(Td g t deep c).2=c+cnt t)/\c<=(Td g t deep c).2/\(Td g t deep c).2<=401/\((Td g t deep c).1=true->(Td g t deep c).2<=400)
 | .mk k n d,deep,c,h,s=> by
  have hc:(cnt (.mk k n d):Int)=O1 d+1:=by simp[cnt]
  simp only[Td,I0,Nj];by_cases f:400 < c+1
  · rw[if_pos f]
    refine⟨?_,by simp,by simp;omega,by simp;omega,by simp⟩
    symm
    rw[fS];exact .inr (decide_eq_false (by omega))
  · rw[if_neg f]
    by_cases e:30 < deep
    · rw[if_pos e]
      refine⟨?_,by simp,by simp;omega,by simp;omega,by simp⟩
      symm
      rw[fS,fS];exact .inl (.inl (decide_eq_false (by omega)))
    · rw[if_neg e]
      by_cases a:g.ops k=(d.length:Int)
      · rw[if_pos a]
        by_cases b:ac n 0 (g.most k)=true
        · rw[if_pos b]
          obtain⟨m,i,r,j,l⟩:=PE g d (deep+1) (c+1) (by omega) (by omega);refine⟨?_,fun q=> by rw[i q];omega,by omega,j,l⟩;rw[m,decide_eq_true a,b];have p:31 -(deep+1)=31 - deep - 1:=by omega
          have o:decide (1<=31 - deep)=true:=decide_eq_true (by omega);rw[p,o];simp only[Bool.true_and]
          congr 1
          exact decide_eq_decide.2 (by omega)
        · rw[if_neg b]
          refine⟨?_,by simp,by simp;omega,by simp;omega,by simp⟩;simp[b]
      · rw[if_neg a]
        refine⟨?_,by simp,by simp;omega,by simp;omega,by simp⟩;simp[a]
theorem PE(g:Ud): ∀(ts:List Tr) (deep c:Int),0<=c->c<=400->(rf g ts deep c).1=(ma g ts (31 - deep)&& decide (c+O1 ts<=400))/\((rf g ts deep c).1=true->(rf g ts deep c).2=c+O1 ts)/\c<=(rf g ts deep c).2/\(rf g ts deep c).2<=401/\((rf g ts deep c).1=true->(rf g ts deep c).2<=400)
 | [],deep,c,h,e=> by
  have hc:(O1 []:Int)=0:=by simp[O1]
  have hd:decide (c+(O1 []:Int)<=400)=true:=decide_eq_true (by omega);simp only[rf,ma];refine⟨by rw[hd];rfl,by omega,by omega,by omega,by omega⟩
 |t::ts,deep,c,h,e=> by
  have hc:(O1 (t::ts):Int)=cnt t+O1 ts:=by simp[O1]
  simp only[rf,ma];obtain⟨b,j,f,k,l⟩:=aG g t deep c h e;by_cases hs:(Td g t deep c).1=true
  · rw[if_pos hs]
    have d:=j hs;have n:=l hs;obtain⟨o,i,r,m,q⟩:=PE g ts deep (Td g t deep c).2 (by omega) n;refine⟨?_,fun p=> by rw[i p,d];omega,by omega,m,q⟩;rw[o];rw[hs] at b;have a:=b.symm;rw[aX] at a;rw[a.1];simp only[Bool.true_and]
    congr 1
    exact decide_eq_decide.2 (by omega)
  · rw[if_neg hs]
    refine⟨?_,by simp,f,k,by simp⟩;have hf:(Td g t deep c).1=false:=by simpa using hs
    rw[hf] at b;have a:=b.symm;rw[fS] at a
    symm
    rw[fS,fS];rcases a with a|a
    · exact .inl (.inl a)
    · have:=of_decide_eq_false a
      exact .inr (decide_eq_false (by omega))
end
theorem VF(g:Ud)(t:Tr):(Td g t 1 0).1=valid g t/\(valid g t=true->(Td g t 1 0).2=cnt t):=by
 obtain⟨a,b,_⟩:=aG g t 1 0 (by omega) (by omega);have h:(Td g t 1 0).1=valid g t:=by
  rw[a];unfold valid;have e:(31:Int) - 1=30:=rfl;rw[e]
  congr 1
  exact decide_eq_decide.2 (by omega)
 exact⟨h,fun hv=> by rw[b (h.trans hv)];omega⟩
