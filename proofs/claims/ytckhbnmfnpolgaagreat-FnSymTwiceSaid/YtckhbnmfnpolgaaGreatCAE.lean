/-
  Lemmas towards the law, 5: Base, Lift, Mem, Valid.
-/
import Derived.Test.YtckhbnmfnpolgaaGreatC00
import Derived.Carry
import Derived.Deep.Draws
import Derived.Deep.Slices
import Derived.Deep.Strs
import Derived.Laws.MakeOwn
import Derived.Laws.OwnMore
import Derived.Lib.Hide
import Derived.OpenShut
import Derived.ProofKit
import Derived.WalkKit
open List renaming length_cons->cN,getElem_mem->gU,getElem?_append_right->eY
open Bool renaming and_eq_true->aW,and_eq_false_iff->fO
open Go renaming World->aL,Value->aT,TypeId->aZ,maxLen->aV,MemPlace->lM
open Go.World renaming block_lt_of_cell?->bU,cell?_of_block->dY,size_alloc->eM
open Nat renaming lt_of_lt_of_le->aY,le_refl->aN
open Array renaming getElem?_eq_getElem->iO
set_option linter.all false
namespace Go.Proofs.YtckhbnmfnpolgaaGreat
theorem hdq{p:Prop}(h:p):Go.RowKit.Hid p:=h
open Go.RowKit
inductive Tr where
 |mk (k n:Int) (ks:List Tr)
def Tr.kind:Tr->Int| .mk k _ _=> k
def Tr.num:Tr->Int| .mk _ n _=> n
def Tr.kids:Tr->List Tr| .mk _ _ a=> a
theorem Tr.ind{P:Tr->Prop}(h: ∀k n a,(∀t∈a,P t)->P (.mk k n a)): ∀t,P t:=fun t=>
 Tr.rec (motive_1:=P) (motive_2:=fun a=> ∀t∈a,P t) (fun k n a ih=> h k n a ih) (fun _ hm=> by cases hm)
  (fun t ts ht b x hx=> by
   rcases List.mem_cons.1 hx with rfl|hx
   · exact ht
   · exact b x hx) t
mutual
def cnt:Tr->Nat
 | .mk _ _ a=> W1 a+1
def W1:List Tr->Nat
 | []=> 0
 |t::ts=> cnt t+W1 ts
end
theorem jA: ∀a b:List Tr,W1 (a++b)=W1 a+W1 b
 | [],b=> by simp[W1]
 |t::a,b=> by simp[W1,jA a b];omega
theorem Br(t:Tr):0 < cnt t:=by
 cases t
 unfold cnt;omega
theorem Lf: ∀a:List Tr,a.length<=W1 a
 | []=> by simp
 |t::ts=> by
  have:=Lf ts;have:=Br t;simp only[cN,W1];omega
theorem k9: ∀{a:List Tr} {t:Tr},t∈a->cnt t<=W1 a
 |x::ts,t,h=> by
  rcases List.mem_cons.1 h with rfl|h
  · simp only[W1];omega
  · have:=k9 h
    simp only[W1];omega
mutual
def Z6:Tr->Tr->Bool
 | .mk k n d,.mk c b a=> k==c &&(n==b && S7 d a)
def S7:List Tr->List Tr->Bool
 | [], []=> true
 |t::ts,a::b=> Z6 t a && S7 ts b
 |_,_=> false
end
theorem JD: ∀{a b:List Tr},S7 a b=true->a.length=b.length
 | [], [],_=> rfl
 |x::a,y::b,h=> by
  unfold S7 at h;simp only[aW] at h;simp[JD h.2]
 | [],y::b,h=> by unfold S7 at h;cases h
 |x::a, [],h=> by unfold S7 at h;cases h
mutual
theorem tt: ∀{a b:Tr},Z6 a b=true->a=b
 | .mk k n f,.mk e d c,h=> by
  unfold Z6 at h;simp only[aW,beq_iff_eq] at h;obtain⟨rfl,rfl,h⟩:=h;rw[TA h]
theorem TA: ∀{a b:List Tr},S7 a b=true->a=b
 | [], [],_=> rfl
 |x::a,y::b,h=> by
  unfold S7 at h;simp only[aW] at h;rw[tt h.1,TA h.2]
 | [],y::b,h=> by unfold S7 at h;cases h
 |x::a, [],h=> by unfold S7 at h;cases h
end
mutual
theorem BE: ∀a:Tr,Z6 a a=true
 | .mk k n b=> by
  unfold Z6;simp[yA b]
theorem yA: ∀a:List Tr,S7 a a=true
 | []=> by unfold S7;rfl
 |x::a=> by
  unfold S7;simp[BE x,yA a]
end
theorem cy{a b:Tr}:Z6 a b=true↔a=b:=⟨tt,fun h=> h▸BE a⟩
instance:DecidableEq Tr:=fun a b=> decidable_of_iff _ cy
def Ext(w a:aL):Prop:=Below w.heap.size w a
theorem xr(w:aL):Ext w w:=Below.refl _ _
theorem Ext.size{w a:aL}(h:Ext w a):w.heap.size<=a.heap.size:=Below.size h
theorem Ext.trans{a b c:aL}(h:Ext a b)(k:Ext b c):Ext a c:=Below.trans h (Below.mono k h.size)
theorem Ext.drew{a b:aL}(h:Ext a b):Ext a b.drew:=Below.drew h
theorem Ext.alloc{a b:aL}(h:Ext a b)(o:Obj):Ext a (b.alloc o):=Below.alloc h h.size o
theorem Ext.setCell{a b:aL}(h:Ext a b){p:Addr}(c:a.heap.size<=p.block)(u:aT):Ext a (b.setCell p u):=Below.setCell h c u
theorem Ext.grown{a b c:aL}(h:Ext a b){row:Option Nat}(d:b.grownBy c row)(hr: ∀k,row=some k->a.heap.size<=k):Ext a c:=Below.grown h d h.size hr
theorem Ext.heap{w a:aL}(h:Ext w a)(b:Nat)(c:b < w.heap.size):a.heap[b]? =w.heap[b]? :=Below.block h b c
theorem Ext.cell{w a:aL}(h:Ext w a){b o:Nat}{v:aT}(c:w.cell? ⟨b,o,none⟩=some v):a.cell? ⟨b,o,none⟩=some v:=
 (Below.cell (p:=⟨b,o,none⟩) h (bU _ _ c)).trans c
theorem Ext.blk{w a:aL}(h:Ext w a){b:Nat}{x:Obj}(c:w.heap[b]? =some x):a.heap[b]? =some x:=
 (h.heap b (Array.getElem?_eq_some_iff.1 c).1).trans c
theorem Ext.size_alloc{w a:aL}{o:Obj}(h:Ext (w.alloc o) a):w.heap.size < a.heap.size:=by
 have:=h.size;simp at this
 omega
theorem Ext.pre{w a:aL}{o:Obj}(h:Ext (w.alloc o) a):Ext w a:=((xr w).alloc o).trans h
theorem Ext.newBlk{w a:aL}{o:Obj}(h:Ext (w.alloc o) a):a.heap[w.heap.size]? =some o:=h.blk (heap_alloc_new w o)
theorem ib{w:aL}{b:Nat}{cs:Array aT}{e:aZ}(h:w.heap[b]? =some (.cells cs e (0,0)))(i:Nat):w.frozen? ⟨b,i,none⟩=false:=by simp[World.frozen?,h]
theorem U1{w:aL}{b:Nat}{cs:Array aT}{e:aZ}(h:w.heap[b]? =some (.cells cs e (0,0)))(i:Nat):w.cell? ⟨b,i,none⟩=cs[i]? :=cell_of_row w b i cs e (0,0) h
theorem O1{w:aL}{b:Nat}{x:Obj}(h:w.heap[b]? =some x):b < w.heap.size:=(Array.getElem?_eq_some_iff.1 h).1
theorem N5{w:aL}{b:Nat}{cs:Array aT}{e:aZ}(h:w.heap[b]? =some (.cells cs e (0,0)))(i:Nat)(u:aT):(w.setCell ⟨b,i,none⟩ u).heap[b]? =some (.cells (cs.setIfInBounds i u) e (0,0)):=by
 simp[World.setCell,Array.getElem?_modify,h]
theorem Bd{w:aL}{b:Nat}{x:Obj}(h:w.heap[b]? =some x){p:Addr}(a:b≠p.block)(u:aT):(w.setCell p u).heap[b]? =some x:=(Below.heap_setCell w p u b a).trans h
theorem UH{w:aL}{b:Nat}{x:Obj}(h:w.heap[b]? =some x)(o:Obj):(w.alloc o).heap[b]? =some x:=(Below.heap_alloc w o b (O1 h)).trans h
mutual
def InT(w:aL)(S:Nat->Prop):Tr->aT->Prop
 | .mk k n a,v=> ∃A cap,v= .agg #[.int .i64 k,.int .i64 n,.slice A a.length cap]/\a.length<=cap/\cap<=aV/\(a= []\/ ∃b o,A=some ⟨b,o,none⟩/\S b/\O4 w S b o a)
def O4(w:aL)(S:Nat->Prop)(b:Nat):Nat->List Tr->Prop
 |_, []=> True
 |o,t::ts=>(∃v0 v1 v2,w.cell? ⟨b,o,none⟩=some v0/\w.cell? ⟨b,o+1,none⟩=some v1/\w.cell? ⟨b,o+2,none⟩=some v2/\InT w S t (.agg #[v0,v1,v2]))/\O4 w S b (o+3) ts
end
def InK(w:aL)(S:Nat->Prop)(A:Option Addr)(a:List Tr):Prop:=a= []\/ ∃b o,A=some ⟨b,o,none⟩/\S b/\O4 w S b o a
theorem InT.mk_iff{w:aL}{S:Nat->Prop}{k n:Int}{a:List Tr}{v:aT}:
 InT w S (.mk k n a) v↔ ∃A cap,v= M0 k n A a.length cap/\a.length<=cap/\cap<=aV/\InK w S A a:=by
 unfold InT InK;exact Iff.rfl
mutual
theorem InT.mono{w w':aL}{S S':Nat->Prop}(hS: ∀b,S b->S' b)(d: ∀b,S b->w'.heap[b]? =w.heap[b]?): ∀{t:Tr} {v:aT},InT w S t v->InT w' S' t v
 | .mk k n g,v,h=> by
  unfold InT at h⊢;obtain⟨A,cap,rfl,f,e,a⟩:=h;refine⟨A,cap,rfl,f,e, ?_⟩;rcases a with a|⟨b,o,rfl,c,hl⟩
  · exact .inl a
  · exact .inr ⟨b,o,rfl,hS b c,O4.mono hS d c hl⟩
theorem O4.mono{w w':aL}{S S':Nat->Prop}(hS: ∀b,S b->S' b)(c: ∀b,S b->w'.heap[b]? =w.heap[b]?){b:Nat}(e:S b): ∀{o:Nat} {d:List Tr},O4 w S b o d->O4 w' S' b o d
 |_, [],_=> by unfold O4;trivial
 |o,t::ts,h=> by
  unfold O4 at h⊢;obtain⟨⟨v0,v1,v2,g,k,f,ht⟩,j⟩:=h;have hc: ∀i,w'.cell? ⟨b,i,none⟩=w.cell? ⟨b,i,none⟩:=fun i=> dY (w:=w) (a:=⟨b,i,none⟩) (c b e)
  exact⟨⟨v0,v1,v2,(hc _).trans g,(hc _).trans k,(hc _).trans f,InT.mono hS c ht⟩,O4.mono hS c e j⟩
end
theorem InK.mono{w w':aL}{S S':Nat->Prop}(hS: ∀b,S b->S' b)(d: ∀b,S b->w'.heap[b]? =w.heap[b]?){A:Option Addr}{a:List Tr}(h:InK w S A a):InK w' S' A a:=by
 rcases h with h|⟨b,o,rfl,c,hl⟩
 · exact .inl h
 · exact .inr ⟨b,o,rfl,hS b c,O4.mono hS d c hl⟩
theorem O4.at_{w:aL}{S:Nat->Prop}{b:Nat}: ∀{o:Nat} {c:List Tr} {j:Nat},O4 w S b o c->(a:j < c.length)->
 ∃k n A cap kids,c[j]= .mk k n kids/\w.cell? ⟨b,o+j*3,none⟩=some (m0 k)/\w.cell? ⟨b,o+j*3+1,none⟩=some (m0 n)/\w.cell? ⟨b,o+j*3+2,none⟩=some (.slice A kids.length cap)/\
  kids.length<=cap/\cap<=aV/\InK w S A kids
 |o, [],j,_,a=> absurd a (by simp)
 |o,t::ts,0,h,_=> by
  unfold O4 at h;obtain⟨⟨v0,v1,v2,g,i,f,ht⟩,_⟩:=h;obtain⟨k,n,kids⟩:=t;obtain⟨A,cap,hv,hl,hc,hk⟩:=InT.mk_iff.1 ht;simp only[Value.agg.injEq,Array.mk.injEq,List.cons.injEq,and_true] at hv;obtain⟨rfl,rfl,rfl⟩:=hv;exact⟨k,n,A,cap,kids,rfl,by simpa using g,by simpa using i,by simpa using f,hl,hc,hk⟩
 |o,t::ts,j+1,h,a=> by
  unfold O4 at h;obtain⟨k,n,A,cap,kids,e,r⟩:=O4.at_ (j:=j) h.2 (by simpa using a);have d:o+3+j*3=o+(j+1)*3:=by omega
  rw[d] at r;exact⟨k,n,A,cap,kids,by simpa using e,r⟩
theorem InK.at_{w:aL}{S:Nat->Prop}{A:Option Addr}{c:List Tr}{j:Nat}(h:InK w S A c)(d:j < c.length):
 ∃b o k n a cap kids,A=some ⟨b,o,none⟩/\S b/\c[j]= .mk k n kids/\w.cell? ⟨b,o+j*3,none⟩=some (m0 k)/\w.cell? ⟨b,o+j*3+1,none⟩=some (m0 n)/\w.cell? ⟨b,o+j*3+2,none⟩=some (.slice a kids.length cap)/\
  kids.length<=cap/\cap<=aV/\InK w S a kids:=by
 rcases h with rfl|⟨b,o,rfl,e,hl⟩
 · exact absurd d (by simp)
 · obtain⟨k,n,a,cap,kids,r⟩:=hl.at_ d
   exact⟨b,o,k,n,a,cap,kids,rfl,e,r⟩
theorem InK.get{w d:aL}{S:Nat->Prop}{A:Option Addr}{l:List Tr}{j:Nat}(h:InK w S A l)(p: ∀b,S b->d.heap[b]? =w.heap[b]?)(m:j < l.length):
 ∃b o k n f cap kids,A=some ⟨b,o,none⟩/\Hid (l[j]= .mk k n kids)/\d.cell? ⟨b,o+j*3,none⟩=some (m0 k)/\d.cell? ⟨b,o+j*3+1,none⟩=some (m0 n)/\d.cell? ⟨b,o+j*3+2,none⟩=some (.slice f kids.length cap)/\
  kids.length<=cap/\cap<=aV/\InK d S f kids/\InT d S (.mk k n kids) (M0 k n f kids.length cap)/\Tr.mk k n kids∈l/\S b:=by
 obtain⟨b,o,k,n,f,cap,kids,e,q,hk,s,t,r,hl,hc,hK⟩:=InK.at_ h m;have c: ∀i v,w.cell? ⟨b,i,none⟩=some v->d.cell? ⟨b,i,none⟩=some v:=fun i v hv=>(dY (w:=w) (a:=⟨b,i,none⟩) (p b q)).trans hv
 have g:=hK.mono (fun _ h=> h) p;exact⟨b,o,k,n,f,cap,kids,e,hdq hk,c _ _ s,c _ _ t,c _ _ r,hl,hc,g,InT.mk_iff.2 ⟨f,cap,rfl,hl,hc,g⟩,hk▸gU m,q⟩
theorem O4.drop{w:aL}{S:Nat->Prop}{b:Nat}: ∀{o:Nat} {a:List Tr} (j:Nat),O4 w S b o a->O4 w S b (o+j*3) (a.drop j)
 |o,a,0,h=> by simpa using h
 |o, [],j+1,h=> by simp[O4]
 |o,t::ts,j+1,h=> by
  unfold O4 at h;have:=O4.drop j h.2;have c:o+3+j*3=o+(j+1)*3:=by omega
  rw[c] at this
  simpa using this
theorem O4.take{w:aL}{S:Nat->Prop}{b:Nat}: ∀{o:Nat} {a:List Tr} (j:Nat),O4 w S b o a->O4 w S b o (a.take j)
 |o,a,0,h=> by simp[O4]
 |o, [],j+1,h=> by simp[O4]
 |o,t::ts,j+1,h=> by
  unfold O4 at h;simp only[List.take_succ_cons];unfold O4;exact⟨h.1,O4.take j h.2⟩
theorem InK.take{w:aL}{S:Nat->Prop}{A:Option Addr}{a:List Tr}(j:Nat)(h:InK w S A a):InK w S A (a.take j):=by
 rcases h with rfl|⟨b,o,rfl,c,hl⟩
 · exact .inl (by simp)
 · exact .inr ⟨b,o,rfl,c,hl.take j⟩
def Lies(w:aL)(t:Tr)(v:aT):Prop:=InT w (fun b=> b < w.heap.size) t v
def y22(w:aL)(A:Option Addr)(a:List Tr):Prop:=InK w (fun b=> b < w.heap.size) A a
theorem Lies.ext{w c:aL}{t:Tr}{v:aT}(h:Lies w t v)(d:Ext w c):Lies c t v:=InT.mono (fun _ a=> aY a d.size) (fun b a=> d.heap b a) h
theorem y22.ext{w c:aL}{A:Option Addr}{ks:List Tr}(h:y22 w A ks)(d:Ext w c):y22 c A ks:=InK.mono (fun _ a=> aY a d.size) (fun b a=> d.heap b a) h
theorem Lies.mk_iff{w:aL}{k n:Int}{a:List Tr}{v:aT}:
 Lies w (.mk k n a) v↔ ∃A cap,v= M0 k n A a.length cap/\a.length<=cap/\cap<=aV/\y22 w A a:=InT.mk_iff
theorem Lies.mk{w:aL}{k n:Int}{a:List Tr}{A:Option Addr}{cap:Nat}(hl:a.length<=cap)(hc:cap<=aV)(h:y22 w A a):Lies w (.mk k n a) (M0 k n A a.length cap):=
 Lies.mk_iff.2 ⟨A,cap,rfl,hl,hc,h⟩
theorem y22.get{w a:aL}{A:Option Addr}{f:List Tr}{j:Nat}(h:y22 w A f)(c:Ext w a)(g:j < f.length):
 ∃b o k n d cap kids,A=some ⟨b,o,none⟩/\Hid (f[j]= .mk k n kids)/\a.cell? ⟨b,o+j*3,none⟩=some (m0 k)/\a.cell? ⟨b,o+j*3+1,none⟩=some (m0 n)/\a.cell? ⟨b,o+j*3+2,none⟩=some (.slice d kids.length cap)/\
  kids.length<=cap/\cap<=aV/\y22 a d kids/\Lies a (.mk k n kids) (M0 k n d kids.length cap)/\Tr.mk k n kids∈f:=by
 obtain⟨b,o,k,n,d,cap,kids,e,_,hk,l,m,i,hl,hc,hK⟩:=InK.at_ h g;exact⟨b,o,k,n,d,cap,kids,e,hdq hk,c.cell l,c.cell m,c.cell i,hl,hc,y22.ext hK c,Lies.mk hl hc (y22.ext hK c),hk▸gU g⟩
mutual
def i9(w:aL)(e:aZ):Tr->aT->List Nat->Prop
 | .mk k n a,v,L=> ∃A cap,v= .agg #[.int .i64 k,.int .i64 n,.slice A a.length cap]/\a.length<=cap/\cap<=aV/\
  ((a= []/\L= [])\/ ∃b cs c,A=some ⟨b,0,none⟩/\w.heap[b]? =some (.cells cs e (0,0))/\L=b::c/\B2 w e cs.toList a c)
def B2(w:aL)(e:aZ):List aT->List Tr->List Nat->Prop
 |_, [],L=> L= []
 |c,t::ts,L=> ∃v0 v1 v2 rest a b,c=v0::v1::v2::rest/\i9 w e t (.agg #[v0,v1,v2]) a/\B2 w e rest ts b/\L=a++b
end
theorem i9.mk_iff{w:aL}{e:aZ}{k n:Int}{a:List Tr}{v:aT}{L:List Nat}:i9 w e (.mk k n a) v L↔ ∃A cap,v= M0 k n A a.length cap/\a.length<=cap/\cap<=aV/\
 ((a= []/\L= [])\/ ∃b cs c,A=some ⟨b,0,none⟩/\w.heap[b]? =some (.cells cs e (0,0))/\L=b::c/\B2 w e cs.toList a c):=by
 conv=> lhs;unfold i9
theorem B2.cons_iff{w:aL}{e:aZ}{a:List aT}{t:Tr}{ts:List Tr}{L:List Nat}:B2 w e a (t::ts) L↔ ∃v0 v1 v2 rest b c,a=v0::v1::v2::rest/\i9 w e t (.agg #[v0,v1,v2]) b/\B2 w e rest ts c/\L=b++c:=by
 conv=> lhs;unfold B2
theorem B2.nil{w:aL}{e:aZ}{a:List aT}:B2 w e a [] []:=by unfold B2;rfl
mutual
theorem i9.mono{w w':aL}{e:aZ}: ∀{t:Tr} {v:aT} {L:List Nat},i9 w e t v L->(∀b,b∈L->w'.heap[b]? =w.heap[b]?)->i9 w' e t v L
 | .mk k n j,v,L,h,c=> by
  unfold i9 at h⊢;obtain⟨A,cap,rfl,f,d,a⟩:=h;refine⟨A,cap,rfl,f,d, ?_⟩;rcases a with a|⟨b,cs,g,rfl,i,rfl,hl⟩
  · exact .inl a
  · exact .inr ⟨b,cs,g,rfl,(c b (by simp)).trans i,rfl,B2.mono hl (fun x hx=> c x (by simp[hx]))⟩
theorem B2.mono{w w':aL}{e:aZ}: ∀{a:List aT} {d:List Tr} {L:List Nat},B2 w e a d L->(∀b,b∈L->w'.heap[b]? =w.heap[b]?)->B2 w' e a d L
 |_, [],_,h,_=> by unfold B2 at h⊢;exact h
 |a,t::ts,L,h,c=> by
  unfold B2 at h⊢;obtain⟨v0,v1,v2,rest,f,g,rfl,j,i,rfl⟩:=h;exact⟨v0,v1,v2,rest,f,g,rfl,i9.mono j (fun x hx=> c x (by simp[hx])),B2.mono i (fun x hx=> c x (by simp[hx])),rfl⟩
end
theorem B2.snoc{w:aL}{e:aZ}{t:Tr}{v0 v1 v2:aT}{c:List Nat}(ht:i9 w e t (.agg #[v0,v1,v2]) c)(tail:List aT): ∀{a:List aT} {b:List Tr} {L:List Nat},a.length=b.length*3->B2 w e a b L->B2 w e (a++v0::v1::v2::tail) (b++ [t]) (L++c)
 |a, [],L,hx,h=> by
  have d:a= []:=List.eq_nil_of_length_eq_zero (by simpa using hx);subst d;unfold B2 at h;subst h;exact B2.cons_iff.2 ⟨v0,v1,v2,tail,c, [],rfl,ht,B2.nil,by simp⟩
 |a,x::b,L,hx,h=> by
  obtain⟨k,l,f,rest,g,i,rfl,m,j,rfl⟩:=B2.cons_iff.1 h;exact B2.cons_iff.2 ⟨k,l,f,_,g,i++c,rfl,m,B2.snoc ht tail (by simp only[cN] at hx;omega) j,by simp⟩
theorem B2.tail{w:aL}{e:aZ}(tail:List aT): ∀{a:List aT} {b:List Tr} {L:List Nat},B2 w e a b L->B2 w e (a++tail) b L
 |a, [],L,h=> by unfold B2 at h⊢;exact h
 |a,x::b,L,h=> by
  obtain⟨i,j,c,rest,d,f,rfl,k,g,rfl⟩:=B2.cons_iff.1 h;exact B2.cons_iff.2 ⟨i,j,c,_,d,f,rfl,k,B2.tail tail g,rfl⟩
mutual
theorem i9.inT{w:aL}{e:aZ}: ∀{t:Tr} {v:aT} {L:List Nat},i9 w e t v L->InT w (fun b=> b∈L) t v
 | .mk k n g,v,L,h=> by
  obtain⟨A,cap,rfl,d,c,a⟩:=i9.mk_iff.1 h;refine InT.mk_iff.2 ⟨A,cap,rfl,d,c, ?_⟩;rcases a with⟨a,_⟩ |⟨b,cs,i,rfl,f,rfl,hl⟩
  · exact .inl a
  · exact .inr ⟨b,0,rfl,by simp,B2.inL f (pre:= []) hl (by simp) (fun x hx=> by simp[hx])⟩
theorem B2.inL{w:aL}{e:aZ}{b:Nat}{cs:Array aT}{S:Nat->Prop}(d:w.heap[b]? =some (.cells cs e (0,0))): ∀{xs pre:List aT} {c:List Tr} {L:List Nat},B2 w e xs c L->cs.toList=pre++xs->(∀x,x∈L->S x)->O4 w S b pre.length c
 |_,_, [],_,_,_,_=> by unfold O4;trivial
 |xs,pre,t::ts,L,h,a,hS=> by
  obtain⟨v0,v1,v2,rest,j,k,rfl,g,f,rfl⟩:=B2.cons_iff.1 h;unfold O4;have hc: ∀i,w.cell? ⟨b,i,none⟩=cs.toList[i]? :=fun i=> by rw[U1 d];simp
  refine⟨⟨v0,v1,v2, ?_, ?_, ?_,InT.mono (fun x hx=> hS x (by simp[hx])) (fun _ _=> rfl) (i9.inT g)⟩, ?_⟩
  · rw[hc,a,eY (aN _)];simp
  · rw[hc,a,eY (by omega)];simp
  · rw[hc,a,eY (by omega)];simp
  · have:=B2.inL d (pre:=pre++ [v0,v1,v2]) f (by simp[a]) (fun x hx=> hS x (by simp[hx]))
    simpa using this
end
def bd(w a:aL)(L:List Nat):Prop:=L.Nodup/\ ∀b,b∈L->w.heap.size<=b/\b < a.heap.size
theorem bd.nil(w a:aL):bd w a []:=⟨List.nodup_nil,fun _ h=> by cases h⟩
theorem bd.mono{a b c d:aL}{L:List Nat}(h:bd b c L)(f:a.heap.size<=b.heap.size)(e:c.heap.size<=d.heap.size):bd a d L:=⟨h.1,fun x hx=> by have:=h.2 x hx;omega⟩
theorem bd.append{a b c d:aL}{L M:List Nat}(h:bd a b L)(k:bd c d M)(j:b.heap.size<=c.heap.size)(f:a.heap.size<=b.heap.size)(i:c.heap.size<=d.heap.size):bd a d (L++M):=by
 refine⟨List.nodup_append.2 ⟨h.1,k.1,fun x hx y g e=> ?_⟩,fun x hx=> ?_⟩
 · have:=h.2 x hx
   have:=k.2 y g;omega
 · rcases List.mem_append.1 hx with hx|hx
   · have:=h.2 x hx
     omega
   · have:=k.2 x hx
     omega
def W0(w a:aL)(e:aZ)(t:Tr)(v:aT):Prop:= ∃L,i9 a e t v L/\bd w a L
theorem W0.lies{w a:aL}{e:aZ}{t:Tr}{v:aT}(h:W0 w a e t v):Lies a t v:=by
 obtain⟨L,h,hf⟩:=h;exact InT.mono (fun b c=>(hf.2 b c).2) (fun _ _=> rfl) h.inT
theorem W0.ext{w c a:aL}{e:aZ}{t:Tr}{v:aT}(h:W0 w c e t v)(d:Ext c a):W0 w a e t v:=by
 obtain⟨L,h,hf⟩:=h;exact⟨L,h.mono fun b f=> d.heap b (hf.2 b f).2,hf.mono (aN _) d.size⟩
theorem W0.since{a w b:aL}{e:aZ}{t:Tr}{v:aT}(h:W0 w b e t v)(c:a.heap.size<=w.heap.size):W0 a b e t v:=by
 obtain⟨L,h,hf⟩:=h;exact⟨L,h,hf.mono c (aN _)⟩
theorem W0.leaf(w a:aL)(e:aZ)(k n:Int):W0 w a e (.mk k n []) (M0 k n none 0 0):=
 ⟨[],i9.mk_iff.2 ⟨none,0,rfl,aN _,Nat.zero_le _,.inl ⟨rfl,rfl⟩⟩,bd.nil _ _⟩
def Yo(w:aL)(e:aZ)(A:Option Addr)(c:List Tr)(L:List Nat):Prop:=
 (c= []/\L= [])\/ ∃b cs a,A=some ⟨b,0,none⟩/\w.heap[b]? =some (.cells cs e (0,0))/\L=b::a/\B2 w e cs.toList c a
def pd(w a:aL)(e:aZ)(A:Option Addr)(b:List Tr):Prop:= ∃L,Yo a e A b L/\bd w a L
theorem Yo.mono{w w':aL}{e:aZ}{A:Option Addr}{c:List Tr}{L:List Nat}(h:Yo w e A c L)(a: ∀b,b∈L->w'.heap[b]? =w.heap[b]?):Yo w' e A c L:=by
 rcases h with h|⟨b,cs,d,rfl,f,rfl,hl⟩
 · exact .inl h
 · exact .inr ⟨b,cs,d,rfl,(a b (by simp)).trans f,rfl,hl.mono (fun x hx=> a x (by simp[hx]))⟩
theorem W0.mk_iff{w f:aL}{e:aZ}{k n:Int}{a:List Tr}{v:aT}:W0 w f e (.mk k n a) v↔ ∃A cap,v= M0 k n A a.length cap/\a.length<=cap/\cap<=aV/\pd w f e A a:=by
 constructor
 · rintro⟨L,h,hf⟩
   obtain⟨A,cap,rfl,d,b,c⟩:=i9.mk_iff.1 h;exact⟨A,cap,rfl,d,b,L,c,hf⟩
 · rintro⟨A,cap,rfl,d,b,L,c,hf⟩
   exact⟨L,i9.mk_iff.2 ⟨A,cap,rfl,d,b,c⟩,hf⟩
theorem W0.mk{w b:aL}{e:aZ}{k n:Int}{a:List Tr}{A:Option Addr}{cap:Nat}(hl:a.length<=cap)(hc:cap<=aV)(h:pd w b e A a):W0 w b e (.mk k n a) (M0 k n A a.length cap):=
 W0.mk_iff.2 ⟨A,cap,rfl,hl,hc,h⟩
theorem pd.since{a w b:aL}{e:aZ}{A:Option Addr}{c:List Tr}(h:pd w b e A c)(d:a.heap.size<=w.heap.size):pd a b e A c:=by
 obtain⟨L,h,hf⟩:=h;exact⟨L,h,hf.mono d (aN _)⟩
theorem pd.nil(w a:aL)(e:aZ)(A:Option Addr):pd w a e A []:=⟨[],.inl ⟨rfl,rfl⟩,bd.nil _ _⟩
theorem pd.row{w c a:aL}{e:aZ}{g:Nat}{cs:Array aT}{f:List Tr}{L:List Nat}(d:a.heap[g]? =some (.cells cs e (0,0)))(hl:B2 a e cs.toList f L)(hf:bd c a L)(i:w.heap.size<=g)(j:g < c.heap.size):pd w a e (some ⟨g,0,none⟩) f:=by
 refine⟨g::L,.inr ⟨g,cs,L,rfl,d,rfl,hl⟩,List.nodup_cons.2 ⟨fun hm=> ?_,hf.1⟩,fun b hm=> ?_⟩
 · have:=hf.2 g hm
   omega
 · rcases List.mem_cons.1 hm with rfl|hm
   · exact⟨i,O1 d⟩
   · have:=hf.2 b hm
     omega
end Go.Proofs.YtckhbnmfnpolgaaGreat
namespace Go.Proofs.YtckhbnmfnpolgaaGreat
open Go.RowKit Go.ChangeShapes Go.WideShapes Go.ChangeAt Go.Deep
section
variable {H : Type} {enc : aZ × aT → H} {P : Program}
theorem cK(hl:laidOutB P=true){W e:aL}(f:Ext W e): ∀{ts:List aZ} {vs:List aT} {c:List (DataW H)} {ps:List lM},
 (ts.all fun t=> P.readableRec t && decide (t < P.types.size))=true->DataW.TrodAll enc P W 0 (fun _=> true) true ts vs c ps->(∀x∈ps,x.block < W.heap.size)->
 DataW.TrodAll enc P e 0 (fun b=> decide (b < W.heap.size)) true ts vs c ps
 | [],vs,c,ps,_,h,_=> by
  obtain⟨rfl,rfl,rfl⟩:=trodAll_nil h;exact trodAll_mk0
 |t::ts,vs,c,ps,hr,h,a=> by
  obtain⟨v,g,d,i,p,q,rfl,rfl,rfl,j,r⟩:=trodAll_cons h;simp only[List.all_cons,aW,decide_eq_true_eq] at hr;exact trodAll_cons_mk (Below.trod hl hr.1.1 hr.1.2 j f (fun x hx=> a x (List.mem_append_left _ hx))) (cK hl f (by simpa using hr.2) r (fun x hx=> a x (List.mem_append_right _ hx)))
theorem uA{C:Checked}{os:Os}{f:FuncId}{fn:Func}{s:ChangeSpec}{tb:aZ}(own:ownKnob C.prog.godebug=none)(b:os.Started)(k:C.prog.inits.idxOf? f=none)(z:C.prog.funcs[f]? =some fn)
 (hl:laidOutB C.prog=true) (I:(fn.params.toList.all fun t=> C.prog.readableRec t && decide (t < C.prog.types.size))=true) (n:fn.resultTypes=#[tb]) (E:C.prog.underlying tb=some .bool)
 (D:s.vars= []) (N: ∀a:List (DataW H),a.length=fn.params.size->(s.fn H a).results= [.lit (.bool true)]/\(s.fn H a).args=a/\(s.fn H a).vars= [])
 (c: ∃(w:aL) (tape:Tape) (i:Input),w.os=os/\(w.forCall tape i).Shaped C.prog/\i.vars= []/\Input.okWide C.prog (w.forCall tape i) .any w.heap.size f i/\
  s.pre6 enc C.prog fn [] false (w.forCall tape i).memory i.args/\({}:Assume).holds C.prog (lone (Frame.enter C.prog f i.args .normal) [] (w.forCall tape i)))
 (walk: ∀(W:aL) (base:Nat) (args:Array aT) (a:List (DataW H)) (p:List lM),
  (∀(j:Nat) t v,fn.params[j]? =some t->args[j]? =some v->Value.okWide C.prog W .any base t v)->DataW.TrodAll enc C.prog W 0 (fun _=> true) true fn.params.toList args.toList a p->
  (∀x∈p,x.block < W.heap.size)->Calls C.prog f args W fun e A=> e= .returned (.bool true)/\Ext W A):
 ReturnsInHanded {} C os f .any (s.pre6 enc C.prog fn [] false) (s.post enc C.prog fn false true false false):=by
 refine returnsInHanded_of_change own b k z c ?_;intro W base args a R g u y _ _;have l: ∀x∈g,x.block < W.heap.size:=fun x hx=> y.lt x hx
 have o:=y;obtain⟨p,q,hA,B,rfl,M,J⟩:=y;rw[D] at B;obtain⟨rfl,rfl⟩:=trodVars_none B;simp only[List.append_nil] at l o;refine(walk W base args a p u hA l).mono ?_;rintro e A ⟨rfl,hE⟩;have m:a.length=fn.params.size:=by
  have O: ∀{ts:List aZ} {vs:List aT} {es:List (DataW H)} {ps:List lM},DataW.TrodAll enc C.prog W 0 (fun _=> true) true ts vs es ps->es.length=ts.length:=by
   intro ts
   induction ts with
   |nil=> intro vs es ps h;obtain⟨_,rfl,_⟩:=trodAll_nil h;rfl
   |cons t ts ih=> intro vs es ps h;obtain⟨v,F,d,G,p,q,rfl,rfl,rfl,S,r⟩:=trodAll_cons h;simp[ih r]
  rw[O hA,Array.length_toList]
 obtain⟨Q,L,K⟩:=N a m;refine⟨_,rfl,a, [],p, [],p, [],by simpa using o, ?_, ?_, ?_,Below.frame hE _|> World.keptBut_mono (fun x hx=>⟨hx,.inr (.inl hx)⟩),fun h=> by cases h⟩
 · rw[List.append_nil,Q,n]
   exact trodAll_mk1 (shut_bool E _)
 · rw[List.append_nil,L]
   exact cK hl hE I hA l
 · rw[List.append_nil,K,D]
   exact rfl
end
/-! ### A tree that came in -/
section
variable {H : Type} {enc : aZ × aT → H} {P : Program} {w : aL} {spare : Nat → Bool} {held : Bool}
structure Zm (P:Program) (t s i:aZ) (f0 f1 f2:Field):Prop where
 ht:P.underlying t=some (.struct #[f0,f1,f2])
 hs:P.underlying s=some (.slice t)
 hi:P.underlying i=some (.int .i64)
 t0:f0.type=i
 t1:f1.type=i
 t2:f2.type=s
 o0:f0.offset=0
 o1:f1.offset=1
 o2:f2.offset=2
 ci:P.cellsOf i=1
 cs:P.cellsOf s=1
 ct:P.cellsOf t=3
abbrev fld(n:String)(t:aZ)(o:Nat)(b:Nat):Field:={name:=n,type:=t,offset:=o,embedded:=false,tag:= "",pkgPath:= "",byteOffset:=b}
theorem DE{α:Type}{p:Nat->α->Prop}: ∀n:Nat,(∀i,i < n-> ∃x,p i x)-> ∃l:List α,l.length=n/\ ∀i (h:i < l.length),p i l[i]
 |0,_=>⟨[],rfl,fun i h=> absurd h (by simp)⟩
 |n+1,h=> by
  obtain⟨l,hl,b⟩:=DE n (fun i hi=> h i (by omega));obtain⟨x,hx⟩:=h n (by omega);refine⟨l++ [x],by simp[hl],fun i hi=> ?_⟩;by_cases a:i < l.length
  · rw[List.getElem_append_left a];exact b i a
  · have:i=n:=by simp at hi;omega
    subst this;rw[List.getElem_append_right (by omega)]
    simpa[hl] using hx
theorem O4.build{S:Nat->Prop}{b:Nat}: ∀{a:List Tr} {o:Nat},(∀j (h:j < a.length),∃v0 v1 v2,w.cell? ⟨b,o+j*3,none⟩=some v0/\w.cell? ⟨b,o+j*3+1,none⟩=some v1/\w.cell? ⟨b,o+j*3+2,none⟩=some v2/\InT w S a[j] (.agg #[v0,v1,v2]))->O4 w S b o a
 | [],_,_=> by unfold O4;trivial
 |t::ts,o,h=> by
  unfold O4;refine⟨by have c:=h 0 (by simp);simp only[List.getElem_cons_zero,Nat.zero_mul,Nat.add_zero] at c;exact c,O4.build fun j d=> ?_⟩;have:=h (j+1) (by simpa using d);have e:o+(j+1)*3=o+3+j*3:=by omega
  rw[e] at this
  simpa using this
theorem EE(b o n:Nat):(⟨b,o,none⟩:Addr).add n=⟨b,o+n,none⟩:=by
 unfold Addr.add
 split <;> simp_all
theorem GA{t s i:aZ}{J G F:Field}(T:Zm P t s i J G F)(fuel:Nat)
 (ih: ∀m,m < fuel-> ∀(cs:List aT) (x:DataW H×List lM),DataW.trod enc P w 0 spare held m t cs=some x-> ∃(tr:Tr) (v0 v1 v2:aT),cs= [v0,v1,v2]/\Lies w tr (.agg #[v0,v1,v2]))
 (cs:List aT) (x:DataW H×List lM) (h:DataW.trod enc P w 0 spare held fuel s cs=some x):
 ∃(A:Option Addr) (cap:Nat) (g:List Tr),cs= [.slice A g.length cap]/\g.length<=cap/\cap<=aV/\y22 w A g:=by
 rcases DataW.trod_slice T.hs h with⟨rfl,_⟩ |⟨a,len,cap,r,rest,n,rfl,rfl,_,_,hl,hm,z,K,_,_⟩
 · exact⟨none,0, [],rfl,aN _,Nat.zero_le _,.inl rfl⟩
 · have E: ∀j,j < len-> ∃tr:Tr,∃v0 v1 v2,w.cell? (a.add (j*3))=some v0/\w.cell? ((a.add (j*3)).add 1)=some v1/\w.cell? ((a.add (j*3)).add 2)=some v2/\Lies w tr (.agg #[v0,v1,v2]):=by
    intro j u;have l:=K j u;rw[List.getElem?_eq_getElem (by omega)] at l;obtain⟨I,L,D⟩:=Option.bind_eq_some_iff.1 l;obtain⟨tr,v0,v1,v2,rfl,v⟩:=ih n (by omega) _ _ D;obtain⟨_,_,c⟩:=World.cells?_some L;rw[T.ct] at c;have e:=c 0 (by omega);have p:=c 1 (by omega);have k:=c 2 (by omega);have q: ∀y:Addr,y.add 0=y:=fun y=> by simp[Addr.add]
    rw[q] at e;exact⟨tr,v0,v1,v2,e,p,k,v⟩
   obtain⟨g,C,B⟩:=DE len E;subst C;refine⟨some a,cap,g,rfl,hl,hm, ?_⟩;cases g with
   |nil=> exact .inl rfl
   |cons t0 ts=>
    obtain⟨b,o,d⟩:=a;have f:b < w.heap.size/\d=none:=by
     obtain⟨v0,v1,v2,e,_⟩:=B 0 (by simp);simp only[Nat.zero_mul] at e;have q:(⟨b,o,d⟩:Addr).add 0=⟨b,o,d⟩:=by simp[Addr.add]
     rw[q] at e;exact⟨bU _ _ e,by simpa using World.cell?_spot e⟩
    obtain⟨f,rfl⟩:=f;refine .inr ⟨b,o,rfl,f,O4.build fun j u=> ?_⟩;obtain⟨v0,v1,v2,e,p,k,v⟩:=B j u;rw[EE] at e p k;rw[EE] at p k;exact⟨v0,v1,v2,e,p,k,v⟩
theorem bK{t s i:aZ}{j g f:Field}(T:Zm P t s i j g f): ∀(fuel:Nat) (cs:List aT) (x:DataW H×List lM),DataW.trod enc P w 0 spare held fuel t cs=some x->
 ∃(tr:Tr) (v0 v1 v2:aT),cs= [v0,v1,v2]/\Lies w tr (.agg #[v0,v1,v2]):=by
 intro fuel
 induction fuel using Nat.strongRecOn with
 |_ fuel ih=>
  intro cs x h;obtain⟨q,n,rfl,_,e,a,b⟩:=DataW.trod_struct T.ht h;rw[T.ct] at e
  match cs,e,q,a with
  | [v0,v1,v2],_, [u,v,r],_=>
   have l:=b 0 j rfl;have d:=b 1 g rfl;have c:=b 2 f rfl;simp[T.o0,T.o1,T.o2,T.t0,T.t1,T.t2,T.ci,T.cs] at l d c
   obtain⟨k,hk,_,_⟩:=DataW.trod_int T.hi l;obtain⟨m,hm,_,_⟩:=DataW.trod_int T.hi d;simp at hk hm
   obtain⟨A,cap,p,o,hl,hc,hK⟩:=GA T n (fun m hm=> ih m (by omega)) _ _ c;simp at o
   subst hk;subst hm;subst o;exact⟨.mk k m p,_,_,_,rfl,Lies.mk hl hc hK⟩
theorem Wx{t s i:aZ}{e c b:Field}(T:Zm P t s i e c b){r:Reach}{a:Nat}{v:aT}{d:DataW H}{p:List lM}(hv:Value.okWide P w r a t v)(h:DataW.Trod enc P w 0 spare held t v d p): ∃tr:Tr,Lies w tr v:=by
 obtain⟨cs,rfl,f⟩:=okWide_struct T.ht hv;obtain⟨fuel,hf⟩:=h;obtain⟨tr,v0,v1,v2,hc,g⟩:=bK T fuel _ _ hf;obtain⟨l⟩:=cs;simp only[Value.cells] at hc;subst hc;exact⟨tr,g⟩
theorem tw{t s i:aZ}{j g f:Field}(T:Zm P t s i j g f){r:Reach}{e:Nat}{v:aT}{d:DataW H}{p:List lM}(hv:Value.okWide P w r e s v)(h:DataW.Trod enc P w 0 spare held s v d p):
 ∃(A:Option Addr) (cap:Nat) (a:List Tr),v= .slice A a.length cap/\a.length<=cap/\cap<=aV/\y22 w A a:=by
 obtain⟨k,len,cap,rfl⟩:=okWide_slice T.hs hv;obtain⟨fuel,hf⟩:=h;obtain⟨A,b,a,c,r⟩:=GA T fuel (fun m _=> bK T m) _ _ hf;simp only[Value.cells,List.cons.injEq,and_true] at c;exact⟨A,b,a,c,r⟩
end
end Go.Proofs.YtckhbnmfnpolgaaGreat
namespace Go.Proofs.YtckhbnmfnpolgaaGreat
open Go.RowKit
theorem Ni{w:aL}{g i:Nat}{cs:Array aT}{e:aZ}(a:w.heap[g]? =some (.cells cs e (0,0)))(h:i+3<=cs.size):
 ∃d c b,w.cell? ⟨g,i,none⟩=some d/\w.cell? ⟨g,i+1,none⟩=some c/\w.cell? ⟨g,i+2,none⟩=some b/\w.frozen? ⟨g,i,none⟩=false/\w.frozen? ⟨g,i+1,none⟩=false/\w.frozen? ⟨g,i+2,none⟩=false:=by
 refine⟨cs[i]'(by omega),cs[i+1]'(by omega),cs[i+2]'(by omega), ?_, ?_, ?_,ib a _,ib a _,ib a _⟩
 · rw[U1 a];exact iO _
 · rw[U1 a];exact iO _
 · rw[U1 a];exact iO _
theorem Xd{w b:aL}{a:Obj}(h:Ext (w.alloc a) b):b.heap[w.heap.size]? =some a/\w.heap.size < b.heap.size:=⟨h.newBlk,h.size_alloc⟩
theorem blk2{w c:aL}{a b:Obj}(h:Ext ((w.alloc a).alloc b) c):c.heap[w.heap.size]? =some a/\c.heap[w.heap.size+1]? =some b/\w.heap.size+1 < c.heap.size:=by
 have e:=h.newBlk;have d:=h.size_alloc;simp only[eM] at e d;exact⟨(Xd h.pre).1,e,d⟩
theorem zc{w d:aL}{a b c:Obj}(h:Ext (((w.alloc a).alloc b).alloc c) d):d.heap[w.heap.size]? =some a/\d.heap[w.heap.size+1]? =some b/\d.heap[w.heap.size+1+1]? =some c/\w.heap.size+1+1 < d.heap.size:=by
 have f:=h.newBlk;have e:=h.size_alloc;simp only[eM] at f e;exact⟨(blk2 h.pre).1,(blk2 h.pre).2.1,f,e⟩
theorem bn{w e:aL}{a b c d:Obj}(h:Ext ((((w.alloc a).alloc b).alloc c).alloc d) e):e.heap[w.heap.size]? =some a/\e.heap[w.heap.size+1]? =some b/\e.heap[w.heap.size+1+1]? =some c/\e.heap[w.heap.size+1+1+1]? =some d/\w.heap.size+1+1+1 < e.heap.size:=by
 have g:=h.newBlk;have f:=h.size_alloc;simp only[eM] at g f;exact⟨(zc h.pre).1,(zc h.pre).2.1,(zc h.pre).2.2.1,g,f⟩
theorem own3{w:aL}{g:Nat}{d c b:aT}{e:aZ}(a:w.heap[g]? =some (.cells #[d,c,b] e (0,0))):
 w.cell? ⟨g,0,none⟩=some d/\w.cell? ⟨g,1,none⟩=some c/\w.cell? ⟨g,2,none⟩=some b/\w.frozen? ⟨g,0,none⟩=false/\w.frozen? ⟨g,1,none⟩=false/\w.frozen? ⟨g,2,none⟩=false:=
 ⟨U1 a 0,U1 a 1,U1 a 2,ib a 0,ib a 1,ib a 2⟩
def ja(B:Nat)(w a:aL):Prop:=(∀b,B<=b->a.heap[b]? =w.heap[b]?)/\w.heap.size<=a.heap.size
theorem ja.refl(B:Nat)(w:aL):ja B w w:=⟨fun _ _=> rfl,aN _⟩
theorem ja.setCell{B:Nat}{a w:aL}(h:ja B a w){p:Addr}(d:p.block < B)(u:aT):ja B a (w.setCell p u):=
 ⟨fun b c=>(Below.heap_setCell w p u b (by omega)).trans (h.1 b c),by simpa using h.2⟩
theorem W0.after{W c a:aL}{e:aZ}{t:Tr}{v:aT}(h:W0 W c e t v)(d:ja W.heap.size c a):W0 W a e t v:=by
 obtain⟨L,h,hf⟩:=h;exact⟨L,h.mono fun b f=> d.1 b (hf.2 b f).1,hf.mono (aN _) d.2⟩
mutual
theorem i9.lt{w:aL}{e:aZ}: ∀{t:Tr} {v:aT} {L:List Nat},i9 w e t v L-> ∀b,b∈L->b < w.heap.size
 | .mk k n f,v,L,h,b,a=> by
  obtain⟨A,cap,_,_,_,c⟩:=i9.mk_iff.1 h;rcases c with⟨_,rfl⟩ |⟨g,cs,i,_,d,rfl,hl⟩
  · cases a
  · rcases List.mem_cons.1 a with rfl|a
    · exact O1 d
    · exact B2.lt hl b a
theorem B2.lt{w:aL}{e:aZ}: ∀{c:List aT} {d:List Tr} {L:List Nat},B2 w e c d L-> ∀b,b∈L->b < w.heap.size
 |_, [],L,h,b,a=> by
  unfold B2 at h;subst h;cases a
 |c,t::ts,L,h,b,a=> by
  obtain⟨l,m,i,rest,j,k,rfl,g,f,rfl⟩:=B2.cons_iff.1 h;rcases List.mem_append.1 a with a|a
  · exact i9.lt g b a
  · exact B2.lt f b a
end
structure D1 (L:List Nat) (w w':aL):Prop where
 os:w'.os=w.os
 tape:w'.tape=w.tape
 output:w'.output=w.output
 size:w.heap.size<=w'.heap.size
 block: ∀b,b < w.heap.size-> ¬b∈L->w'.heap[b]? =w.heap[b]?
theorem D1.refl(L:List Nat)(w:aL):D1 L w w:=⟨rfl,rfl,rfl,aN _,fun _ _ _=> rfl⟩
theorem D1.trans{L:List Nat}{a b c:aL}(h:D1 L a b)(k:D1 L b c):D1 L a c:=
 ⟨k.os.trans h.os,k.tape.trans h.tape,k.output.trans h.output,Nat.le_trans h.size k.size,fun i hi hn=>(k.block i (aY hi h.size) hn).trans (h.block i hi hn)⟩
theorem D1.mono{L M:List Nat}{a b:aL}(h:D1 L a b)(hs: ∀x,x∈L->x∈M):D1 M a b:=⟨h.os,h.tape,h.output,h.size,fun i hi hn=> h.block i hi (fun hm=> hn (hs i hm))⟩
theorem D1.setCell{L:List Nat}{a w:aL}(h:D1 L a w){p:Addr}(b:p.block∈L)(u:aT):D1 L a (w.setCell p u):=
 ⟨h.os,h.tape,h.output,by simpa using h.size,fun i hi hn=>(Below.heap_setCell w p u i (fun e=> hn (e▸b))).trans (h.block i hi hn)⟩
theorem oE{L:List Nat}{a b:aL}(h:Ext a b):D1 L a b:=⟨h.os,h.tape,h.output,h.size,fun i hi _=> h.heap i hi⟩
theorem D1.alloc{L:List Nat}{a b:aL}(h:D1 L a b)(o:Obj):D1 L a (b.alloc o):=h.trans (oE ((xr b).alloc o))
theorem D1.ext{L:List Nat}{a w d:aL}(h:D1 L w d)(c:Ext a w)(e: ∀b,b∈L->a.heap.size<=b):Ext a d:=
 ⟨h.os.trans c.os,h.tape.trans c.tape,h.output.trans c.output,Nat.le_trans c.size h.size,fun i hi=>(h.block i (aY hi c.size) (fun hm=> absurd (e i hm) (by omega))).trans (c.heap i hi)⟩
end Go.Proofs.YtckhbnmfnpolgaaGreat
namespace Go.Proofs.YtckhbnmfnpolgaaGreat
def db(n a hi:Int):Bool:=decide (a<=n)&& decide (n<=hi)
theorem Pg{n a hi:Int}:db n a hi=true↔a<=n/\n<=hi:=by simp[db]
theorem fD{n a hi:Int}:db n a hi=false↔n < a\/hi < n:=by
 rw[Bool.eq_false_iff,Ne,Pg];omega
structure Wc where
 ops:Int->Int
 most:Int->Int
def U0(k:Int):Int:=if k=1 then 0 else if k=2 then 0 else if k=3 then 2 else if k=4 then 2 else if k=5 then 2 else if k=6 then 0 else if k=7 then 0 else if k=8 then 1 else if k=9 then 4 else if k=10 then 3 else if k=11 then 1 else if k=12 then 3 else if k=13 then 2 else if k=14 then 3 else if k=15 then 1 else if k=16 then 1 else -1
def Ma(k:Int):Int:=if k=1 then 20 else if k=2 then 3 else 0
def D0:Wc:=⟨U0,Ma⟩
def ni(g:Wc)(k n:Int)(len:Nat):Bool:=decide (g.ops k=(len:Int))&& db n 0 (g.most k)
mutual
def P0(g:Wc):Tr->Int->Bool
 | .mk k n b,a=> decide (1<=a)&&(ni g k n b.length && Z8 g b (a - 1))
def Z8(g:Wc):List Tr->Int->Bool
 | [],_=> true
 |t::ts,a=> P0 g t a && Z8 g ts a
end
def j0(g:Wc)(t:Tr):Bool:=P0 g t 30 && decide (cnt t<=400)
mutual
def Hb:Tr->Int->Int
 | .mk _ _ a,most=> Ve a most 1
def Ve:List Tr->Int->Int->Int
 | [],_,n=> n
 |t::ts,most,n=> if n<=most then Ve ts most (n+Hb t (most - n)) else n
end
mutual
theorem go: ∀(t:Tr) (most:Int),0<=most->1<=Hb t most/\Hb t most<=most+1/\(Hb t most<=most↔(cnt t:Int)<=most)/\(Hb t most<=most->Hb t most=cnt t)
 | .mk _ _ a,most,h=> by
  have:=xA a most 1 (by omega) (by omega);simp only[Hb,cnt];omega
theorem xA: ∀(ts:List Tr) (most n:Int),1<=n->n<=most+1->n<=Ve ts most n/\Ve ts most n<=most+1/\(Ve ts most n<=most↔n+W1 ts<=most)/\(Ve ts most n<=most->Ve ts most n=n+W1 ts)
 | [],most,n,h,a=> by simp only[Ve,W1];omega
 |t::ts,most,n,h,a=> by
  simp only[Ve,W1];by_cases hn:n<=most
  · rw[if_pos hn]
    have d:=go t (most - n) (by omega);have c:=xA ts most (n+Hb t (most - n)) (by omega) (by omega);have b:=Br t;omega
  · rw[if_neg hn]
    have b:=Br t;omega
end
theorem XE{g:Wc}{t:Tr}:j0 g t=(P0 g t 30 && decide (Hb t 400<=400)):=by
 have:=(go t 400 (by omega)).2.2.1;unfold j0
 congr 1
 rw[Bool.eq_iff_iff,decide_eq_true_iff,decide_eq_true_iff];omega
mutual
def Qc(g:Wc):Tr->Int->Int->Bool×Int
 | .mk k n a,deep,c=> if 400 < c+1 then(false,c+1) else if 30 < deep then(false,c+1) else if g.ops k=(a.length:Int) then(if db n 0 (g.most k)=true then Qe g a (deep+1) (c+1) else(false,c+1)) else(false,c+1)
def Qe(g:Wc):List Tr->Int->Int->Bool×Int
 | [],_,c=>(true,c)
 |t::ts,deep,c=> if(Qc g t deep c).1=true then Qe g ts deep (Qc g t deep c).2 else(false,(Qc g t deep c).2)
end
mutual
theorem PI(g:Wc): ∀(t:Tr) (deep c:Int),0<=c->c<=400->(Qc g t deep c).1=(P0 g t (31 - deep)&& decide (c+cnt t<=400))/\((Qc g t deep c).1=true->(Qc g t deep c).2=c+cnt t)/\c<=(Qc g t deep c).2/\(Qc g t deep c).2<=401/\((Qc g t deep c).1=true->(Qc g t deep c).2<=400)
 | .mk k n b,deep,c,h,r=> by
  have hc:(cnt (.mk k n b):Int)=W1 b+1:=by simp[cnt]
  simp only[Qc,P0,ni];by_cases f:400 < c+1
  · rw[if_pos f]
    refine⟨?_,by simp,by simp;omega,by simp;omega,by simp⟩
    symm
    rw[fO];exact .inr (decide_eq_false (by omega))
  · rw[if_neg f]
    by_cases e:30 < deep
    · rw[if_pos e]
      refine⟨?_,by simp,by simp;omega,by simp;omega,by simp⟩
      symm
      rw[fO,fO];exact .inl (.inl (decide_eq_false (by omega)))
    · rw[if_neg e]
      by_cases a:g.ops k=(b.length:Int)
      · rw[if_pos a]
        by_cases d:db n 0 (g.most k)=true
        · rw[if_pos d]
          obtain⟨q,m,s,o,p⟩:=Wy g b (deep+1) (c+1) (by omega) (by omega);refine⟨?_,fun j=> by rw[m j];omega,by omega,o,p⟩;rw[q,decide_eq_true a,d];have i:31 -(deep+1)=31 - deep - 1:=by omega
          have l:decide (1<=31 - deep)=true:=decide_eq_true (by omega);rw[i,l];simp only[Bool.true_and]
          congr 1
          exact decide_eq_decide.2 (by omega)
        · rw[if_neg d]
          refine⟨?_,by simp,by simp;omega,by simp;omega,by simp⟩;simp[d]
      · rw[if_neg a]
        refine⟨?_,by simp,by simp;omega,by simp;omega,by simp⟩;simp[a]
theorem Wy(g:Wc): ∀(ts:List Tr) (deep c:Int),0<=c->c<=400->(Qe g ts deep c).1=(Z8 g ts (31 - deep)&& decide (c+W1 ts<=400))/\((Qe g ts deep c).1=true->(Qe g ts deep c).2=c+W1 ts)/\c<=(Qe g ts deep c).2/\(Qe g ts deep c).2<=401/\((Qe g ts deep c).1=true->(Qe g ts deep c).2<=400)
 | [],deep,c,h,e=> by
  have hc:(W1 []:Int)=0:=by simp[W1]
  have hd:decide (c+(W1 []:Int)<=400)=true:=decide_eq_true (by omega);simp only[Qe,Z8];refine⟨by rw[hd];rfl,by omega,by omega,by omega,by omega⟩
 |t::ts,deep,c,h,e=> by
  have hc:(W1 (t::ts):Int)=cnt t+W1 ts:=by simp[W1]
  simp only[Qe,Z8];obtain⟨b,n,l,o,q⟩:=PI g t deep c h e;by_cases hs:(Qc g t deep c).1=true
  · rw[if_pos hs]
    have d:=n hs;have f:=q hs;obtain⟨m,p,r,i,k⟩:=Wy g ts deep (Qc g t deep c).2 (by omega) f;refine⟨?_,fun j=> by rw[p j,d];omega,by omega,i,k⟩;rw[m];rw[hs] at b;have a:=b.symm;rw[aW] at a;rw[a.1];simp only[Bool.true_and]
    congr 1
    exact decide_eq_decide.2 (by omega)
  · rw[if_neg hs]
    refine⟨?_,by simp,l,o,by simp⟩;have hf:(Qc g t deep c).1=false:=by simpa using hs
    rw[hf] at b;have a:=b.symm;rw[fO] at a
    symm
    rw[fO,fO];rcases a with a|a
    · exact .inl (.inl a)
    · have:=of_decide_eq_false a
      exact .inr (decide_eq_false (by omega))
end
theorem kI(g:Wc)(t:Tr):(Qc g t 1 0).1=j0 g t/\(j0 g t=true->(Qc g t 1 0).2=cnt t):=by
 obtain⟨b,a,_⟩:=PI g t 1 0 (by omega) (by omega);have h:(Qc g t 1 0).1=j0 g t:=by
  rw[b];unfold j0;have e:(31:Int) - 1=30:=rfl;rw[e]
  congr 1
  exact decide_eq_decide.2 (by omega)
 exact⟨h,fun hv=> by rw[a (h.trans hv)];omega⟩
