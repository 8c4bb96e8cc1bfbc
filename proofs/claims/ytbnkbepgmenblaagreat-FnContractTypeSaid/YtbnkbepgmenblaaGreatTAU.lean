/-
  Lemmas towards the law, 21: HeadP, Nat2, Pairs, L3Con.
-/
import Derived.Test.YtbnkbepgmenblaaGreatTAS
import Derived.Test.YtbnkbepgmenblaaGreatTAT
set_option linter.unusedVariables false
set_option maxHeartbeats 4000000
set_option maxRecDepth 100000
namespace Go.Proofs.YtbnkbepgmenblaaGreat
open Go.RowKit
mutual
def hdW:Tr->List Int×Bool
 | .mk k n ks=> if rdx k ks≠0 then([],true)
  else if k=5\/k=15\/k=16 then(0::(hdWs ks 0).1,(hdWs ks 0).2)
  else if k=9 then(3::(hdWs ks 3).1,(hdWs ks 3).2)
  else if k=12 then(1::(hdWs ks 1).1,(hdWs ks 1).2) else([],false)
def hdWs:List Tr->Nat->List Int×Bool
 | [],_=>([],false)
 |t::ts,0=> hdW t
 |t::ts,i+1=> hdWs ts i
end
def hdQ(t:Tr):Option (List Int):=if(hdW t).2=true then some (hdW t).1 else none
theorem q78{t:Tr}{p:List Int}(h:hdQ t=some p):hdW t=(p,true):=by
 unfold hdQ at h
 split at h
 · rename_i h1
   simp only[Option.some.injEq] at h;rw[<-h,<-h1]
 · cases h
theorem q122{t:Tr}(h:hdQ t=none):(hdW t).2=false:=by
 unfold hdQ at h
 split at h
 · cases h
 · rename_i h1
   simpa using h1
theorem j61: ∀{ks:List Tr} {i:Nat},i < ks.length->hdWs ks i=hdW (kd ks i)
 |t::ts,0,_=> by rw[hdWs];rfl
 |t::ts,i+1,h=> by rw[hdWs,y187];exact j61 (by simpa using h)
theorem q189: ∀{ks:List Tr} {i:Nat},ks.length<=i->(hdWs ks i).2=false
 | [],_,_=> by rw[hdWs]
 |t::ts,0,h=> by simp at h
 |t::ts,i+1,h=> by rw[hdWs];exact q189 (by simpa using h)
theorem j180: ∀(t:Tr) (d:Int),shape sigT t d=true->((hdW t).1.length:Int)<=d:=Tr.ind fun k n ks hk=> by
 intro d h;have hd:=j41 h;have key: ∀i,((hdWs ks i).1.length:Int)<=d - 1:=fun i=> by
  by_cases hi:i < ks.length
  · rw[j61 hi]
    exact hk _ (j68 hi) (d - 1) ((q25 h).2.2.2 _ (j68 hi))
  · have: ∀{ks:List Tr} {i:Nat},ks.length<=i->(hdWs ks i).1= []:=by
     intro ks
     induction ks with
     |nil=> intro i _;rw[hdWs]
     |cons t ts ih=>
      intro i h;cases i with
      |zero=> simp at h
      |succ i=> rw[hdWs];exact ih (by simpa using h)
    rw[this (by omega)];simp
    omega
 rw[hdW]
 split
 · simp;omega
 · split
   · have:=key 0;simp only[List.length_cons];omega
   · split
     · have:=key 3;simp only[List.length_cons];omega
     · split
       · have:=key 1;simp only[List.length_cons];omega
       · simp;omega
theorem q195{k n:Int}{ks:List Tr}{i:Nat}{p:List Int}(hi:i < ks.length)(h:rdxA (kd ks i) p=true):rdxA (.mk k n ks) ((i:Int)::p)=true:=by
 unfold rdxA at*;rw[show atT (.mk k n ks) ((i:Int)::p)=atT (kd ks i) p by simp[atT,hi]];exact h
theorem j213(t:Tr):conA t []=ctrT t:=by
 cases t
 simp[conA,atT,putA]
theorem q68{k n:Int}{ks:List Tr}{i:Nat}{p:List Int}(hi:i < ks.length)(h:rdxA (kd ks i) p=true):conA (.mk k n ks) ((i:Int)::p)= .mk k n (ks.set i (conA (kd ks i) p)):=by
 obtain⟨u,h1,h2⟩:=j85 h;unfold conA;rw[show atT (.mk k n ks) ((i:Int)::p)=atT (kd ks i) p by simp[atT,hi],h1];simp[putA]
theorem y116: ∀(t:Tr) (p:List Int),hdW t=(p,true)->rdxA t p=true:=Tr.ind fun k n ks hk=> by
 intro p h;have key: ∀i,(hdWs ks i).2=true->rdxA (.mk k n ks) ((i:Int)::(hdWs ks i).1)=true:=fun i hi=> by
  by_cases hl:i < ks.length
  · rw[j61 hl] at hi⊢
    exact q195 hl (hk _ (j68 hl) _ (by rw[<-hi]))
  · rw[q189 (by omega)] at hi
    cases hi
 rw[hdW] at h
 split at h
 · rename_i h0
   simp only[Prod.mk.injEq,and_true] at h;subst h;unfold rdxA;rw[show atT (.mk k n ks) []=some (.mk k n ks) by simp[atT]];exact y65.2 h0
 · split at h
   · simp only[Prod.mk.injEq] at h
     rw[<-h.1];exact key 0 h.2
   · split at h
     · simp only[Prod.mk.injEq] at h
       rw[<-h.1];exact key 3 h.2
     · split at h
       · simp only[Prod.mk.injEq] at h
         rw[<-h.1];exact key 1 h.2
       · simp at h
theorem hdQ_at(t:Tr)(p:List Int)(h:hdQ t=some p):rdxA t p=true:=y116 t p (q78 h)
def hnfC:Nat->Tr->Tr×Int
 |0,t=> match hdQ t with
  |none=>(t,0)
  |some _=>(q16,1)
 |f+1,t=> match hdQ t with
  |none=>(t,0)
  |some p=> if valid sigT (conA t p)=true then hnfC f (conA t p) else(q16,2)
def hnfV(t:Tr)(f:Int):Tr×Int:=if(valid sigT t && inR f 0 200)=true then hnfC f.toNat t else(q16,3)
theorem j59{x:Tr}(h:hdQ x=none)(f:Nat):hnfC f x=(x,0):=by
 cases f <;>(unfold hnfC;rw[h])
theorem q99{x:Tr}{p:List Int}(h:hdQ x=some p):hnfC 0 x=(q16,1):=by
 unfold hnfC;rw[h]
theorem q147{x:Tr}{p:List Int}(h:hdQ x=some p)(hv:valid sigT (conA x p)=false)(f:Nat):hnfC (f+1) x=(q16,2):=by
 rw[hnfC,h];simp only;rw[if_neg (by rw[hv];decide)]
theorem j144{x:Tr}{p:List Int}(h:hdQ x=some p)(hv:valid sigT (conA x p)=true)(f:Nat):hnfC (f+1) x=hnfC f (conA x p):=by
 rw[hnfC,h];simp only;rw[if_pos hv]
theorem q137: ∀(f:Nat) (t x:Tr),valid sigT t=true->hnfC f t=(x,0)->Reds t x/\hdQ x=none/\valid sigT x=true
 |0,t,x,hv,h=> by
  cases e:hdQ t with
  |none=>
   rw[j59 e] at h;cases h
   exact⟨.refl _,e,hv⟩
  |some p=> rw[q99 e] at h;cases h
 |f+1,t,x,hv,h=> by
  cases e:hdQ t with
  |none=>
   rw[j59 e] at h;cases h
   exact⟨.refl _,e,hv⟩
  |some p=>
   by_cases hc:valid sigT (conA t p)=true
   · rw[j144 e hc] at h
     obtain⟨h1,h2⟩:=q137 f _ x hc h;exact⟨(Reds.one (q146 (hdQ_at t p e))).trans h1,h2⟩
   · rw[q147 e (Bool.eq_false_iff.2 hc)] at h
     cases h
theorem q101{t x:Tr}{f:Int}(h:hnfV t f=(x,0)):valid sigT t=true/\Reds t x/\hdQ x=none/\valid sigT x=true:=by
 unfold hnfV at h
 split at h
 · rename_i hv
   rw[Bool.and_eq_true] at hv;exact⟨hv.1,q137 _ _ _ hv.1 h⟩
 · cases h
end Go.Proofs.YtbnkbepgmenblaaGreat
namespace Go.Proofs.YtbnkbepgmenblaaGreat
theorem y132: ∀k,k<=10->NatC k
 |0,h=> q116 0 h (fun h0=> absurd h0 (by decide))
 |k+1,h=> q116 (k+1) h (fun _=> y132 k (by omega))
end Go.Proofs.YtbnkbepgmenblaaGreat
namespace Go.Proofs.YtbnkbepgmenblaaGreat
open Go.RowKit
attribute [local go_sem ↓] Go.wp_at_zero Go.wp_at_succ
def prC0:List (List UInt8):= []
def prX0:List (List UInt8):= [[91,42,48,93,91,35,48,93,35,48], [91,78,93,33,35,48], [91,78,93,91,78,93,60,91,78,93,78,44,35,49,44,91,78,93,91,78,93,43,35,48,44,35,48,62], [40,78,62,42,48,41], [40,91,42,48,93,91,35,48,93,35,48,32,78,41], [91,40,78,42,78,41,93,124,40,78,42,78,41,44,95,35,48,44,94,35,48,124], [91,78,93,124,40,78,42,123,78,44,35,48,44,35,49,125,41,44,35,48,44,33,35,48,124], [91,78,93,91,78,93,91,123,78,44,35,49,44,35,48,125,93,64,60,91,78,93,123,78,44,35,48,44,35,51,125,44,35,48,44,33,35,50,62], [60,91,78,93,42,48,44,78,44,91,78,93,91,42,48,93,40,78,62,35,49,41,44,43,43,48,62], [40,42,48,62,40,35,48,62,35,49,41,41], [91,42,48,93,91,40,35,48,62,35,49,41,93,35,48], [42,50]]
def prC1:List (List UInt8):= [[42,48], [35,48], [40,35,49,62,35,50,41]]
def prX1:List (List UInt8):= [[40,35,48,32,35,49,41], [33,35,49], [123,35,50,44,35,49,44,40,35,48,32,35,49,41,125], [91,35,50,93,35,49], [124,40,35,50,42,35,51,41,44,35,49,44,40,35,48,32,35,49,41,124], [91,123,35,50,44,35,49,44,40,35,48,32,35,49,41,125,93,64,60,91,35,51,93,35,52,44,35,48,44,35,50,62]]
def prC2:List (List UInt8):= [[78], [123,78,44,35,48,44,43,48,125]]
def prX2:List (List UInt8):= [[35,48], [64,60,91,78,93,123,78,44,43,35,50,44,43,35,48,125,44,35,48,44,33,43,35,49,62], [43,35,49], [64,60,91,78,93,78,44,35,48,44,35,49,62], [60,91,78,93,78,44,48,44,91,78,93,91,78,93,35,49,44,35,49,62]]
def prC3:List (List UInt8):= [[40,78,62,42,48,41], [40,78,62,40,35,49,32,35,48,41,41]]
def prX3:List (List UInt8):= [[40,35,48,32,48,41], [91,78,93,40,35,49,32,35,48,41], [40,35,49,32,43,43,48,41], [91,78,93,91,123,78,44,35,48,44,48,125,93,64,60,35,51,44,35,48,44,40,35,50,32,35,49,41,62]]
def q58:List (List (List UInt8)×List (List UInt8)):= [(prC0,prX0),(prC1,prX1),(prC2,prX2),(prC3,prX3)]
theorem y82{x:List UInt8}{xs:List (List UInt8)}(h:(prsV x).isSome=true):0 <(q36 (x::xs)).length:=by
 unfold q36;rw[List.filterMap_cons];cases hp:prsV x with
 |none=> rw[hp] at h;cases h
 |some t=> simp
theorem y95: ∀p∈q58,p.1.length<=3/\p.2.length<=12/\(∀x∈p.1,x.length<=1000)/\(∀x∈p.2,x.length<=1000):=by decide
theorem q115: ∀p∈q58,0 <(q36 p.2).length:=by
 intro p hp;simp only[q58,List.mem_cons,List.not_mem_nil,or_false] at hp;rcases hp with rfl|rfl|rfl|rfl
 · exact y82 (x:= [91,42,48,93,91,35,48,93,35,48]) (by decide+kernel)
 · exact y82 (x:= [40,35,48,32,35,49,41]) (by decide+kernel)
 · exact y82 (x:= [35,48]) (by decide+kernel)
 · exact y82 (x:= [40,35,48,32,48,41]) (by decide+kernel)
theorem q79(xs:List (List UInt8)):(q36 xs).length<=xs.length:=List.length_filterMap_le _ _
def j43(w:World)(b:Nat)(xs:List (List UInt8)):Prop:=b < w.heap.size/\ ∀j (hj:j < xs.length),w.cell? ⟨b,0+j,none⟩=some (.string (ofL xs[j]))
theorem j43.ext{w w':World}{b:Nat}{xs:List (List UInt8)}(h:j43 w b xs)(he:Ext w w'):j43 w' b xs:=⟨Nat.lt_of_lt_of_le h.1 he.size,fun j hj=> he.cell (h.2 j hj)⟩
theorem j43.of{w:World}{b:Nat}{xs:List (List UInt8)}{e:TypeId}(h:w.heap[b]? =some (.cells (xs.map fun x=> Value.string (ofL x)).toArray e (0,0))):j43 w b xs:=
 ⟨j10 h,fun j hj=> by rw[Nat.zero_add,q10 h];simp[hj]⟩
theorem y102(k:Int)(w:World):Calls Tryz.prog 102 #[.int .i64 k] w fun e w'=> ∃b1 b2 p,e= .returned (.tuple #[.slice (some ⟨b1,0,none⟩) p.1.length p.1.length,.slice (some ⟨b2,0,none⟩) p.2.length p.2.length])/\p∈q58/\w.heap.size<=b1/\w.heap.size<=b2/\j43 w' b1 p.1/\j43 w' b2 p.2/\Ext w w':=by
 by_cases h0:k=0
 · subst h0
   obtain⟨hb1,hb2,-⟩:=blk2 (xr ((w.alloc (.cells (prC0.map fun x=> Value.string (ofL x)).toArray 9)).alloc (.cells (prX0.map fun x=> Value.string (ofL x)).toArray 9)));have hx:Ext w ((w.alloc (.cells (prC0.map fun x=> Value.string (ofL x)).toArray 9)).alloc (.cells (prX0.map fun x=> Value.string (ofL x)).toArray 9)):=((xr w).alloc _).alloc _;have HO:=hdq (show∃b1 b2 p,(Value.tuple #[.slice (some ⟨w.heap.size,0,none⟩) prC0.length prC0.length,.slice (some ⟨w.heap.size+1,0,none⟩) prX0.length prX0.length])=(Value.tuple #[.slice (some ⟨b1,0,none⟩) (Prod.fst p).length p.1.length,.slice (some ⟨b2,0,none⟩) p.2.length p.2.length])/\p∈q58/\w.heap.size<=b1/\w.heap.size<=b2/\j43 _ b1 p.1/\j43 _ b2 p.2/\Ext w _ from⟨w.heap.size,w.heap.size+1,(prC0,prX0),rfl,by simp[q58],Nat.le_refl _,Nat.le_succ _,j43.of hb1,j43.of hb2,hx⟩);clear hb1 hb2 hx;go_enter Tryz.func102,Tryz.ntmps102;go_wp2_with fail;go_ret2;obtain⟨b1,b2,p,h1,h2⟩:=HO.out;exact⟨b1,b2,p,congrArg Ending.returned h1,h2⟩
 · have e0:(k==0)=false:=beq_eq_false_iff_ne.2 h0
   by_cases h1:k=1
   · subst h1
     obtain⟨hb1,hb2,-⟩:=blk2 (xr ((w.alloc (.cells (prC1.map fun x=> Value.string (ofL x)).toArray 9)).alloc (.cells (prX1.map fun x=> Value.string (ofL x)).toArray 9)));have hx:Ext w ((w.alloc (.cells (prC1.map fun x=> Value.string (ofL x)).toArray 9)).alloc (.cells (prX1.map fun x=> Value.string (ofL x)).toArray 9)):=((xr w).alloc _).alloc _;have HO:=hdq (show∃b1 b2 p,(Value.tuple #[.slice (some ⟨w.heap.size,0,none⟩) prC1.length prC1.length,.slice (some ⟨w.heap.size+1,0,none⟩) prX1.length prX1.length])=(Value.tuple #[.slice (some ⟨b1,0,none⟩) (Prod.fst p).length p.1.length,.slice (some ⟨b2,0,none⟩) p.2.length p.2.length])/\p∈q58/\w.heap.size<=b1/\w.heap.size<=b2/\j43 _ b1 p.1/\j43 _ b2 p.2/\Ext w _ from⟨w.heap.size,w.heap.size+1,(prC1,prX1),rfl,by simp[q58],Nat.le_refl _,Nat.le_succ _,j43.of hb1,j43.of hb2,hx⟩);clear hb1 hb2 hx;go_enter Tryz.func102,Tryz.ntmps102;go_wp2_with fail;go_ret2;obtain⟨b1,b2,p,h1,h2⟩:=HO.out;exact⟨b1,b2,p,congrArg Ending.returned h1,h2⟩
   · have e1:(k==1)=false:=beq_eq_false_iff_ne.2 h1
     by_cases h2:k=2
     · subst h2
       obtain⟨hb1,hb2,-⟩:=blk2 (xr ((w.alloc (.cells (prC2.map fun x=> Value.string (ofL x)).toArray 9)).alloc (.cells (prX2.map fun x=> Value.string (ofL x)).toArray 9)));have hx:Ext w ((w.alloc (.cells (prC2.map fun x=> Value.string (ofL x)).toArray 9)).alloc (.cells (prX2.map fun x=> Value.string (ofL x)).toArray 9)):=((xr w).alloc _).alloc _;have HO:=hdq (show∃b1 b2 p,(Value.tuple #[.slice (some ⟨w.heap.size,0,none⟩) prC2.length prC2.length,.slice (some ⟨w.heap.size+1,0,none⟩) prX2.length prX2.length])=(Value.tuple #[.slice (some ⟨b1,0,none⟩) (Prod.fst p).length p.1.length,.slice (some ⟨b2,0,none⟩) p.2.length p.2.length])/\p∈q58/\w.heap.size<=b1/\w.heap.size<=b2/\j43 _ b1 p.1/\j43 _ b2 p.2/\Ext w _ from⟨w.heap.size,w.heap.size+1,(prC2,prX2),rfl,by simp[q58],Nat.le_refl _,Nat.le_succ _,j43.of hb1,j43.of hb2,hx⟩);clear hb1 hb2 hx;go_enter Tryz.func102,Tryz.ntmps102;go_wp2_with fail;go_ret2;obtain⟨b1,b2,p,h1,h2⟩:=HO.out;exact⟨b1,b2,p,congrArg Ending.returned h1,h2⟩
     · have e2:(k==2)=false:=beq_eq_false_iff_ne.2 h2
       obtain⟨hb1,hb2,-⟩:=blk2 (xr ((w.alloc (.cells (prC3.map fun x=> Value.string (ofL x)).toArray 9)).alloc (.cells (prX3.map fun x=> Value.string (ofL x)).toArray 9)));have hx:Ext w ((w.alloc (.cells (prC3.map fun x=> Value.string (ofL x)).toArray 9)).alloc (.cells (prX3.map fun x=> Value.string (ofL x)).toArray 9)):=((xr w).alloc _).alloc _;have HO:=hdq (show∃b1 b2 p,(Value.tuple #[.slice (some ⟨w.heap.size,0,none⟩) prC3.length prC3.length,.slice (some ⟨w.heap.size+1,0,none⟩) prX3.length prX3.length])=(Value.tuple #[.slice (some ⟨b1,0,none⟩) (Prod.fst p).length p.1.length,.slice (some ⟨b2,0,none⟩) p.2.length p.2.length])/\p∈q58/\w.heap.size<=b1/\w.heap.size<=b2/\j43 _ b1 p.1/\j43 _ b2 p.2/\Ext w _ from⟨w.heap.size,w.heap.size+1,(prC3,prX3),rfl,by simp[q58],Nat.le_refl _,Nat.le_succ _,j43.of hb1,j43.of hb2,hx⟩);clear hb1 hb2 hx;go_enter Tryz.func102,Tryz.ntmps102;go_wp2_with fail;go_ret2;obtain⟨b1,b2,p,h1,h2⟩:=HO.out;exact⟨b1,b2,p,congrArg Ending.returned h1,h2⟩
end Go.Proofs.YtbnkbepgmenblaaGreat
namespace Go.Proofs.YtbnkbepgmenblaaGreat
open Go.RowKit
def j159(w:World)(t:Tr)(e:Ending)(w':World):Prop:= ∃r,e= .returned r/\Made w w' 25 t r/\Ext w w'
theorem q162{t u TT:Tr}(hT:TT=sbsT u t 0 0)(w:World)(v vu:Value)(j7:Lies w t v)(hv:valid sigT t=true)(W7:Lies w u vu)(ng:valid sigT u=true):
 Calls Tryz.prog 113 #[v,.int .i64 0,vu,.int .i64 0] w fun e w'=> ∃a1 a2 a3 a4 a5,e= .returned (.agg #[.int .i64 a1,.int .i64 a2,.slice a3 a4 a5])/\Made w w' 25 TT (.agg #[.int .i64 a1,.int .i64 a2,.slice a3 a4 a5])/\Ext w w':=by
 subst hT;have h1:=q14 hv;have h2:=q14 ng;refine(y142 t w v 0 u vu 0 30 h1.2 j7 (by omega) h2.2 (by omega) W7 (by omega) (by omega) (by omega) (by omega)).mono ?_;rintro e w' ⟨r,rfl,hM,h⟩;obtain⟨a1,a2,a3,a4,a5,rfl⟩:=hM.three';exact⟨_,_,_,_,_,rfl,hM,h⟩
theorem l3con_2(n:Int)(ks:List Tr)(hv:valid sigT (.mk 9 n ks)=true)(w:World)(A:Option Addr)(cap:Nat)(j7:Lies w (.mk 9 n ks) (.agg #[.int .i64 9,.int .i64 n,.slice A ks.length cap]))(hK:j26 w A ks)(hl:ks.length<=cap)(hc:cap<=maxLen)(hc3:(kd ks 3).kind=7):
 Calls Tryz.prog 57 #[.agg #[.int .i64 9,.int .i64 n,.slice A ks.length cap]] w (j159 w (ctr 9 ks)):=by
 obtain⟨hsh,I1⟩:=y12 hv;have j8:opsT 9=(ks.length:Int):=(j12 hsh).1;have p9:ks.length=4:=by have h9:(4:Int)=(ks.length:Int):=j8;omega
 have hsk:=(j12 hsh).2.2.2;have T8: ∀t∈ks,valid sigT t=true:=fun t ht=> by
  have h1:=hsk t ht;have h2:=y15 ht;simp only[cnt] at I1;unfold valid;rw[y28 h1 (by decide),Bool.true_and,decide_eq_true_eq];omega
 have hcc:=hc;unfold maxLen at hcc;have G8:=hdq (fun W (hW:Ext w W)=> q31 (.mk 9 n ks) 30 hsh W _ (j7.ext hW));obtain⟨wb,D9⟩: ∃wb,wb=(w.alloc (.cells #[.int .i64 9,.int .i64 n,.slice A ks.length cap] 25)).alloc (.cells #[.int .i64 0,.int .i64 0,.slice none 0 0] 25):=⟨_,rfl⟩;have hX:Ext w wb:=D9▸((xr w).alloc _).alloc _;have hb0:wb.heap[w.heap.size]? =some (.cells #[.int .i64 9,.int .i64 n,.slice A ks.length cap] 25 (0,0)):=by rw[D9];exact(blk2 (xr _)).1
 have hb1:wb.heap[w.heap.size+1]? =some (.cells #[.int .i64 0,.int .i64 0,.slice none 0 0] 25 (0,0)):=by rw[D9];exact(blk2 (xr _)).2.1
 have hs0:w.heap.size+1 < wb.heap.size:=j10 hb1;have J0:1 < ks.length:=by omega
 have ft:(1:Int) <(ks.length:Int):=by omega
 obtain⟨b1,o1,k1,n1,A1,I0,j9,Q7,N0,c10,c11,c12,jk,ir,Q3,D2,u6⟩:=hK.get (xr w) J0;simp only[Nat.one_mul,Nat.add_assoc,Nat.reduceAdd] at c10 c11 c12;have P8:kd ks 1= .mk k1 n1 j9:=q27 J0 N0.out;subst Q7;have p6:ctr 9 ks= .mk k1 n1 j9:=(q47 hc3).trans P8;rw[p6];have N5:rdx 9 ks=2:=by unfold rdx;simp[hc3]
 obtain⟨TT,C9⟩: ∃x,x=Tr.mk k1 n1 j9:=⟨_,rfl⟩;rw[<-C9];have V1:=hdq C9;clear C9;have Ew:cnt (.mk k1 n1 j9)<=400:=(y12 (T8 _ u6)).2;clear p6;have hrt:rdxT (.mk 9 n ks)=2:=N5;rw[hrt] at G8;clear hrt N5 p9 j8
 skip
 go_enter Tryz.func57,Tryz.ntmps57;go_wp2_with fail;rw[<-D9];clear D9;refine(G8.out _ hX).mono ?_;rintro e w1 ⟨rfl,h1⟩;have p8:=hX.trans h1;have D5:=h1.blk hb0;have B7:=h1.blk hb1;have hs1:w.heap.size+1 < w1.heap.size:=j10 B7;obtain⟨z0,z1,z2,-,-,-⟩:=own3 D5;clear hb0 hb1 G8 h1;have d10:=p8.cell c10;have Sj:=p8.cell c11;have d12:=p8.cell c12;have jh:=hdq (D2.ext p8);clear N0 P8 Q3 D2 u6 c10 c11 c12 hK j7;go_wp2_with fail;refine(j29 _ _ _ jh.out (by omega)).mono ?_;rintro e w3 ⟨u,rfl,hM,h3⟩;obtain⟨a1,a2,a3,a4,a5,rfl⟩:=hM.three';rw[<-V1.out] at hM;have hE:=p8.trans h3;obtain⟨s0,s1,s2,f0,f1,f2⟩:=own3 (h3.blk B7);clear D5 B7 d10 Sj d12 z0 z1 z2;go_wp2_with fail;have hsz:=p8.size;refine bodyPost_ret (v:= .agg #[.int .i64 a1,.int .i64 a2,.slice a3 a4 a5]) (by simp[results,Tryz.results57,go_sem,s0,s1,s2]) rfl ⟨_,rfl,Made.since (hM.after ((((y25.refl _ _).setCell (p:=⟨w.heap.size+1,0,none⟩) (by show w.heap.size+1 < _;omega) (.int .i64 a1)).setCell (p:=⟨w.heap.size+1,1,none⟩) (by show w.heap.size+1 < _;omega) (.int .i64 a2)).setCell (p:=⟨w.heap.size+1,2,none⟩) (by show w.heap.size+1 < _;omega) (.slice a3 a4 a5))) (by omega),(((hE.setCell (p:=⟨w.heap.size+1,0,none⟩) (by show w.heap.size<=w.heap.size+1;omega) _).setCell (p:=⟨w.heap.size+1,1,none⟩) (by show w.heap.size<=w.heap.size+1;omega) _).setCell (p:=⟨w.heap.size+1,2,none⟩) (by show w.heap.size<=w.heap.size+1;omega) _)⟩
theorem l3con_4(n:Int)(ks:List Tr)(hv:valid sigT (.mk 12 n ks)=true)(w:World)(A:Option Addr)(cap:Nat)(j7:Lies w (.mk 12 n ks) (.agg #[.int .i64 12,.int .i64 n,.slice A ks.length cap]))(hK:j26 w A ks)(hl:ks.length<=cap)(hc:cap<=maxLen)(hc1:(kd ks 1).kind=11):
 Calls Tryz.prog 57 #[.agg #[.int .i64 12,.int .i64 n,.slice A ks.length cap]] w (j159 w (ctr 12 ks)):=by
 obtain⟨hsh,I1⟩:=y12 hv;have j8:opsT 12=(ks.length:Int):=(j12 hsh).1;have p9:ks.length=3:=by have h9:(3:Int)=(ks.length:Int):=j8;omega
 have hsk:=(j12 hsh).2.2.2;have T8: ∀t∈ks,valid sigT t=true:=fun t ht=> by
  have h1:=hsk t ht;have h2:=y15 ht;simp only[cnt] at I1;unfold valid;rw[y28 h1 (by decide),Bool.true_and,decide_eq_true_eq];omega
 have hcc:=hc;unfold maxLen at hcc;have G8:=hdq (fun W (hW:Ext w W)=> q31 (.mk 12 n ks) 30 hsh W _ (j7.ext hW));obtain⟨wb,D9⟩: ∃wb,wb=(w.alloc (.cells #[.int .i64 12,.int .i64 n,.slice A ks.length cap] 25)).alloc (.cells #[.int .i64 0,.int .i64 0,.slice none 0 0] 25):=⟨_,rfl⟩;have hX:Ext w wb:=D9▸((xr w).alloc _).alloc _;have hb0:wb.heap[w.heap.size]? =some (.cells #[.int .i64 12,.int .i64 n,.slice A ks.length cap] 25 (0,0)):=by rw[D9];exact(blk2 (xr _)).1
 have hb1:wb.heap[w.heap.size+1]? =some (.cells #[.int .i64 0,.int .i64 0,.slice none 0 0] 25 (0,0)):=by rw[D9];exact(blk2 (xr _)).2.1
 have hs0:w.heap.size+1 < wb.heap.size:=j10 hb1;have I5:2 < ks.length:=by omega
 have S7:(2:Int) <(ks.length:Int):=by omega
 obtain⟨b2,o2,k2,n2,A2,M3,l8,ey,rk,c20,c21,pq,Z8,U1,hK2,S0,P7⟩:=hK.get (xr w) I5;simp only[Nat.reduceMul,Nat.add_assoc,Nat.reduceAdd] at c20 c21 pq;have di:kd ks 2= .mk k2 n2 l8:=q27 I5 rk.out;subst ey;have p6:ctr 12 ks= .mk k2 n2 l8:=j72.trans di;rw[p6];have N5:rdx 12 ks=4:=by unfold rdx;simp[hc1]
 obtain⟨TT,C9⟩: ∃x,x=Tr.mk k2 n2 l8:=⟨_,rfl⟩;rw[<-C9];have V1:=hdq C9;clear C9;have Ew:cnt (.mk k2 n2 l8)<=400:=(y12 (T8 _ P7)).2;clear p6;have hrt:rdxT (.mk 12 n ks)=4:=N5;rw[hrt] at G8;clear hrt N5 p9 j8
 skip
 go_enter Tryz.func57,Tryz.ntmps57;go_wp2_with fail;rw[<-D9];clear D9;refine(G8.out _ hX).mono ?_;rintro e w1 ⟨rfl,h1⟩;have p8:=hX.trans h1;have D5:=h1.blk hb0;have B7:=h1.blk hb1;have hs1:w.heap.size+1 < w1.heap.size:=j10 B7;obtain⟨z0,z1,z2,-,-,-⟩:=own3 D5;clear hb0 hb1 G8 h1;have d20:=p8.cell c20;have d21:=p8.cell c21;have d22:=p8.cell pq;have jh:=hdq (S0.ext p8);clear rk di hK2 S0 P7 c20 c21 pq hK j7;go_wp2_with fail;refine(j29 _ _ _ jh.out (by omega)).mono ?_;rintro e w3 ⟨u,rfl,hM,h3⟩;obtain⟨a1,a2,a3,a4,a5,rfl⟩:=hM.three';rw[<-V1.out] at hM;have hE:=p8.trans h3;obtain⟨s0,s1,s2,f0,f1,f2⟩:=own3 (h3.blk B7);clear D5 B7 d20 d21 d22 z0 z1 z2;go_wp2_with fail;have hsz:=p8.size;refine bodyPost_ret (v:= .agg #[.int .i64 a1,.int .i64 a2,.slice a3 a4 a5]) (by simp[results,Tryz.results57,go_sem,s0,s1,s2]) rfl ⟨_,rfl,Made.since (hM.after ((((y25.refl _ _).setCell (p:=⟨w.heap.size+1,0,none⟩) (by show w.heap.size+1 < _;omega) (.int .i64 a1)).setCell (p:=⟨w.heap.size+1,1,none⟩) (by show w.heap.size+1 < _;omega) (.int .i64 a2)).setCell (p:=⟨w.heap.size+1,2,none⟩) (by show w.heap.size+1 < _;omega) (.slice a3 a4 a5))) (by omega),(((hE.setCell (p:=⟨w.heap.size+1,0,none⟩) (by show w.heap.size<=w.heap.size+1;omega) _).setCell (p:=⟨w.heap.size+1,1,none⟩) (by show w.heap.size<=w.heap.size+1;omega) _).setCell (p:=⟨w.heap.size+1,2,none⟩) (by show w.heap.size<=w.heap.size+1;omega) _)⟩
theorem l3con_5(n:Int)(ks:List Tr)(hv:valid sigT (.mk 15 n ks)=true)(w:World)(A:Option Addr)(cap:Nat)(j7:Lies w (.mk 15 n ks) (.agg #[.int .i64 15,.int .i64 n,.slice A ks.length cap]))(hK:j26 w A ks)(hl:ks.length<=cap)(hc:cap<=maxLen)(hc0:(kd ks 0).kind=14):
 Calls Tryz.prog 57 #[.agg #[.int .i64 15,.int .i64 n,.slice A ks.length cap]] w (j159 w (ctr 15 ks)):=by
 obtain⟨hsh,I1⟩:=y12 hv;have j8:opsT 15=(ks.length:Int):=(j12 hsh).1;have p9:ks.length=1:=by have h9:(1:Int)=(ks.length:Int):=j8;omega
 have hsk:=(j12 hsh).2.2.2;have T8: ∀t∈ks,valid sigT t=true:=fun t ht=> by
  have h1:=hsk t ht;have h2:=y15 ht;simp only[cnt] at I1;unfold valid;rw[y28 h1 (by decide),Bool.true_and,decide_eq_true_eq];omega
 have hcc:=hc;unfold maxLen at hcc;have G8:=hdq (fun W (hW:Ext w W)=> q31 (.mk 15 n ks) 30 hsh W _ (j7.ext hW));obtain⟨wb,D9⟩: ∃wb,wb=(w.alloc (.cells #[.int .i64 15,.int .i64 n,.slice A ks.length cap] 25)).alloc (.cells #[.int .i64 0,.int .i64 0,.slice none 0 0] 25):=⟨_,rfl⟩;have hX:Ext w wb:=D9▸((xr w).alloc _).alloc _;have hb0:wb.heap[w.heap.size]? =some (.cells #[.int .i64 15,.int .i64 n,.slice A ks.length cap] 25 (0,0)):=by rw[D9];exact(blk2 (xr _)).1
 have hb1:wb.heap[w.heap.size+1]? =some (.cells #[.int .i64 0,.int .i64 0,.slice none 0 0] 25 (0,0)):=by rw[D9];exact(blk2 (xr _)).2.1
 have hs0:w.heap.size+1 < wb.heap.size:=j10 hb1;have I8:0 < ks.length:=by omega
 have P3:(0:Int) <(ks.length:Int):=by omega
 obtain⟨b0,o0,k0,n0,A0,C7,i6,kx,bm,U0,W9,V0,lp,pj,V5,D3,E4⟩:=hK.get (xr w) I8;simp only[Nat.zero_mul,Nat.add_zero] at U0 W9 V0;have D7:kd ks 0= .mk k0 n0 i6:=q27 I8 bm.out;subst kx;rw[D7] at hc0;have mf:k0=14:=hc0;subst mf;have hv0:=T8 _ E4;have Q5:opsT 14=(i6.length:Int):=(j12 (y12 hv0).1).1;have cg:i6.length=3:=by have h9:(3:Int)=(i6.length:Int):=Q5;omega
 have J6:1 < i6.length:=by omega
 have Ed:(1:Int) <(i6.length:Int):=by omega
 obtain⟨b3,o3,k3,n3,A3,M2,o7,im,aa,U6,c31,U8,py,iv,hK3,J4,D1⟩:=V5.get (xr w) J6;simp only[Nat.one_mul,Nat.add_assoc,Nat.reduceAdd] at U6 c31 U8;have F3:kd i6 1= .mk k3 n3 o7:=q27 J6 aa.out;subst im;have p6:ctr 15 ks= .mk k3 n3 o7:=by rw[q62,D7];exact F3
 rw[p6];have N5:rdx 15 ks=5:=by unfold rdx;rw[D7];simp[Tr.kind]
 obtain⟨TT,C9⟩: ∃x,x=Tr.mk k3 n3 o7:=⟨_,rfl⟩;rw[<-C9];have V1:=hdq C9;clear C9;have Ew:cnt (.mk k3 n3 o7)<=400:=by have h1:=y15 D1;have h2:=(y12 hv0).2;simp only[cnt] at h2;omega
 clear p6;have hrt:rdxT (.mk 15 n ks)=5:=N5;rw[hrt] at G8;clear hrt N5 p9 j8;clear cg;go_enter Tryz.func57,Tryz.ntmps57;go_wp2_with fail;rw[<-D9];clear D9;refine(G8.out _ hX).mono ?_;rintro e w1 ⟨rfl,h1⟩;have p8:=hX.trans h1;have D5:=h1.blk hb0;have B7:=h1.blk hb1;have hs1:w.heap.size+1 < w1.heap.size:=j10 B7;obtain⟨z0,z1,z2,-,-,-⟩:=own3 D5;clear hb0 hb1 G8 h1;have Iw:=p8.cell U0;have Ij:=p8.cell W9;have Io:=p8.cell V0;have Il:=p8.cell U6;have Ix:=p8.cell c31;have Dl:=p8.cell U8;have jh:=hdq (J4.ext p8);clear bm D7 V5 D3 E4 aa F3 hK3 J4 D1 U0 W9 V0 U6 c31 U8 hK j7 Q5;go_wp2_with fail;refine(j29 _ _ _ jh.out (by omega)).mono ?_;rintro e w3 ⟨u,rfl,hM,h3⟩;obtain⟨a1,a2,a3,a4,a5,rfl⟩:=hM.three';rw[<-V1.out] at hM;have hE:=p8.trans h3;obtain⟨s0,s1,s2,f0,f1,f2⟩:=own3 (h3.blk B7);clear D5 B7 Iw Ij Io Il Ix Dl z0 z1 z2;go_wp2_with fail;have hsz:=p8.size;refine bodyPost_ret (v:= .agg #[.int .i64 a1,.int .i64 a2,.slice a3 a4 a5]) (by simp[results,Tryz.results57,go_sem,s0,s1,s2]) rfl ⟨_,rfl,Made.since (hM.after ((((y25.refl _ _).setCell (p:=⟨w.heap.size+1,0,none⟩) (by show w.heap.size+1 < _;omega) (.int .i64 a1)).setCell (p:=⟨w.heap.size+1,1,none⟩) (by show w.heap.size+1 < _;omega) (.int .i64 a2)).setCell (p:=⟨w.heap.size+1,2,none⟩) (by show w.heap.size+1 < _;omega) (.slice a3 a4 a5))) (by omega),(((hE.setCell (p:=⟨w.heap.size+1,0,none⟩) (by show w.heap.size<=w.heap.size+1;omega) _).setCell (p:=⟨w.heap.size+1,1,none⟩) (by show w.heap.size<=w.heap.size+1;omega) _).setCell (p:=⟨w.heap.size+1,2,none⟩) (by show w.heap.size<=w.heap.size+1;omega) _)⟩
theorem l3con_6(n:Int)(ks:List Tr)(hv:valid sigT (.mk 16 n ks)=true)(w:World)(A:Option Addr)(cap:Nat)(j7:Lies w (.mk 16 n ks) (.agg #[.int .i64 16,.int .i64 n,.slice A ks.length cap]))(hK:j26 w A ks)(hl:ks.length<=cap)(hc:cap<=maxLen)(hc0:(kd ks 0).kind=14):
 Calls Tryz.prog 57 #[.agg #[.int .i64 16,.int .i64 n,.slice A ks.length cap]] w (j159 w (ctr 16 ks)):=by
 obtain⟨hsh,I1⟩:=y12 hv;have j8:opsT 16=(ks.length:Int):=(j12 hsh).1;have p9:ks.length=1:=by have h9:(1:Int)=(ks.length:Int):=j8;omega
 have hsk:=(j12 hsh).2.2.2;have T8: ∀t∈ks,valid sigT t=true:=fun t ht=> by
  have h1:=hsk t ht;have h2:=y15 ht;simp only[cnt] at I1;unfold valid;rw[y28 h1 (by decide),Bool.true_and,decide_eq_true_eq];omega
 have hcc:=hc;unfold maxLen at hcc;have G8:=hdq (fun W (hW:Ext w W)=> q31 (.mk 16 n ks) 30 hsh W _ (j7.ext hW));obtain⟨wb,D9⟩: ∃wb,wb=(w.alloc (.cells #[.int .i64 16,.int .i64 n,.slice A ks.length cap] 25)).alloc (.cells #[.int .i64 0,.int .i64 0,.slice none 0 0] 25):=⟨_,rfl⟩;have hX:Ext w wb:=D9▸((xr w).alloc _).alloc _;have hb0:wb.heap[w.heap.size]? =some (.cells #[.int .i64 16,.int .i64 n,.slice A ks.length cap] 25 (0,0)):=by rw[D9];exact(blk2 (xr _)).1
 have hb1:wb.heap[w.heap.size+1]? =some (.cells #[.int .i64 0,.int .i64 0,.slice none 0 0] 25 (0,0)):=by rw[D9];exact(blk2 (xr _)).2.1
 have hs0:w.heap.size+1 < wb.heap.size:=j10 hb1;have I8:0 < ks.length:=by omega
 have P3:(0:Int) <(ks.length:Int):=by omega
 obtain⟨b0,o0,k0,n0,A0,C7,i6,kx,bm,U0,W9,V0,lp,pj,V5,D3,E4⟩:=hK.get (xr w) I8;simp only[Nat.zero_mul,Nat.add_zero] at U0 W9 V0;have D7:kd ks 0= .mk k0 n0 i6:=q27 I8 bm.out;subst kx;rw[D7] at hc0;have mf:k0=14:=hc0;subst mf;have hv0:=T8 _ E4;have Q5:opsT 14=(i6.length:Int):=(j12 (y12 hv0).1).1;have cg:i6.length=3:=by have h9:(3:Int)=(i6.length:Int):=Q5;omega
 have J6:2 < i6.length:=by omega
 have Ed:(2:Int) <(i6.length:Int):=by omega
 obtain⟨b3,o3,k3,n3,A3,M2,o7,im,aa,U6,c31,U8,py,iv,hK3,J4,D1⟩:=V5.get (xr w) J6;simp only[Nat.reduceMul,Nat.add_assoc,Nat.reduceAdd] at U6 c31 U8;have F3:kd i6 2= .mk k3 n3 o7:=q27 J6 aa.out;subst im;have p6:ctr 16 ks= .mk k3 n3 o7:=by rw[q65,D7];exact F3
 rw[p6];have N5:rdx 16 ks=6:=by unfold rdx;rw[D7];simp[Tr.kind]
 obtain⟨TT,C9⟩: ∃x,x=Tr.mk k3 n3 o7:=⟨_,rfl⟩;rw[<-C9];have V1:=hdq C9;clear C9;have Ew:cnt (.mk k3 n3 o7)<=400:=by have h1:=y15 D1;have h2:=(y12 hv0).2;simp only[cnt] at h2;omega
 clear p6;have hrt:rdxT (.mk 16 n ks)=6:=N5;rw[hrt] at G8;clear hrt N5 p9 j8;clear cg;go_enter Tryz.func57,Tryz.ntmps57;go_wp2_with fail;rw[<-D9];clear D9;refine(G8.out _ hX).mono ?_;rintro e w1 ⟨rfl,h1⟩;have p8:=hX.trans h1;have D5:=h1.blk hb0;have B7:=h1.blk hb1;have hs1:w.heap.size+1 < w1.heap.size:=j10 B7;obtain⟨z0,z1,z2,-,-,-⟩:=own3 D5;clear hb0 hb1 G8 h1;have Iw:=p8.cell U0;have Ij:=p8.cell W9;have Io:=p8.cell V0;have Il:=p8.cell U6;have Ix:=p8.cell c31;have Dl:=p8.cell U8;have jh:=hdq (J4.ext p8);clear bm D7 V5 D3 E4 aa F3 hK3 J4 D1 U0 W9 V0 U6 c31 U8 hK j7 Q5;go_wp2_with fail;refine(j29 _ _ _ jh.out (by omega)).mono ?_;rintro e w3 ⟨u,rfl,hM,h3⟩;obtain⟨a1,a2,a3,a4,a5,rfl⟩:=hM.three';rw[<-V1.out] at hM;have hE:=p8.trans h3;obtain⟨s0,s1,s2,f0,f1,f2⟩:=own3 (h3.blk B7);clear D5 B7 Iw Ij Io Il Ix Dl z0 z1 z2;go_wp2_with fail;have hsz:=p8.size;refine bodyPost_ret (v:= .agg #[.int .i64 a1,.int .i64 a2,.slice a3 a4 a5]) (by simp[results,Tryz.results57,go_sem,s0,s1,s2]) rfl ⟨_,rfl,Made.since (hM.after ((((y25.refl _ _).setCell (p:=⟨w.heap.size+1,0,none⟩) (by show w.heap.size+1 < _;omega) (.int .i64 a1)).setCell (p:=⟨w.heap.size+1,1,none⟩) (by show w.heap.size+1 < _;omega) (.int .i64 a2)).setCell (p:=⟨w.heap.size+1,2,none⟩) (by show w.heap.size+1 < _;omega) (.slice a3 a4 a5))) (by omega),(((hE.setCell (p:=⟨w.heap.size+1,0,none⟩) (by show w.heap.size<=w.heap.size+1;omega) _).setCell (p:=⟨w.heap.size+1,1,none⟩) (by show w.heap.size<=w.heap.size+1;omega) _).setCell (p:=⟨w.heap.size+1,2,none⟩) (by show w.heap.size<=w.heap.size+1;omega) _)⟩
theorem l3con_1(n:Int)(ks:List Tr)(hv:valid sigT (.mk 5 n ks)=true)(w:World)(A:Option Addr)(cap:Nat)(j7:Lies w (.mk 5 n ks) (.agg #[.int .i64 5,.int .i64 n,.slice A ks.length cap]))(hK:j26 w A ks)(hl:ks.length<=cap)(hc:cap<=maxLen)(hc0:(kd ks 0).kind=4):
 Calls Tryz.prog 57 #[.agg #[.int .i64 5,.int .i64 n,.slice A ks.length cap]] w (j159 w (ctr 5 ks)):=by
 obtain⟨hsh,I1⟩:=y12 hv;have j8:opsT 5=(ks.length:Int):=(j12 hsh).1;have p9:ks.length=2:=by have h9:(2:Int)=(ks.length:Int):=j8;omega
 have hsk:=(j12 hsh).2.2.2;have T8: ∀t∈ks,valid sigT t=true:=fun t ht=> by
  have h1:=hsk t ht;have h2:=y15 ht;simp only[cnt] at I1;unfold valid;rw[y28 h1 (by decide),Bool.true_and,decide_eq_true_eq];omega
 have hcc:=hc;unfold maxLen at hcc;have G8:=hdq (fun W (hW:Ext w W)=> q31 (.mk 5 n ks) 30 hsh W _ (j7.ext hW));obtain⟨wb,D9⟩: ∃wb,wb=(w.alloc (.cells #[.int .i64 5,.int .i64 n,.slice A ks.length cap] 25)).alloc (.cells #[.int .i64 0,.int .i64 0,.slice none 0 0] 25):=⟨_,rfl⟩;have hX:Ext w wb:=D9▸((xr w).alloc _).alloc _;have hb0:wb.heap[w.heap.size]? =some (.cells #[.int .i64 5,.int .i64 n,.slice A ks.length cap] 25 (0,0)):=by rw[D9];exact(blk2 (xr _)).1
 have hb1:wb.heap[w.heap.size+1]? =some (.cells #[.int .i64 0,.int .i64 0,.slice none 0 0] 25 (0,0)):=by rw[D9];exact(blk2 (xr _)).2.1
 have hs0:w.heap.size+1 < wb.heap.size:=j10 hb1;have I8:0 < ks.length:=by omega
 have P3:(0:Int) <(ks.length:Int):=by omega
 obtain⟨b0,o0,k0,n0,A0,C7,i6,kx,bm,U0,W9,V0,lp,pj,V5,D3,E4⟩:=hK.get (xr w) I8;simp only[Nat.zero_mul,Nat.add_zero] at U0 W9 V0;have D7:kd ks 0= .mk k0 n0 i6:=q27 I8 bm.out;have J0:1 < ks.length:=by omega
 have ft:(1:Int) <(ks.length:Int):=by omega
 obtain⟨b1,o1,k1,n1,A1,I0,j9,Q7,N0,c10,c11,c12,jk,ir,Q3,D2,u6⟩:=hK.get (xr w) J0;simp only[Nat.one_mul,Nat.add_assoc,Nat.reduceAdd] at c10 c11 c12;have P8:kd ks 1= .mk k1 n1 j9:=q27 J0 N0.out;subst kx
 injection Q7 with Q7
 injection Q7 with bw hC1 Vd
 subst bw hC1;rw[D7] at hc0;have hk4:k0=4:=hc0;subst hk4;have hv0:=T8 _ E4;have Q5:opsT 4=(i6.length:Int):=(j12 (y12 hv0).1).1;have cg:i6.length=2:=by have h9:(2:Int)=(i6.length:Int):=Q5;omega
 have J6:1 < i6.length:=by omega
 have Ed:(1:Int) <(i6.length:Int):=by omega
 obtain⟨b3,o3,k3,n3,A3,M2,o7,im,aa,U6,c31,U8,py,iv,hK3,J4,D1⟩:=V5.get (xr w) J6;simp only[Nat.one_mul,Nat.add_assoc,Nat.reduceAdd] at U6 c31 U8;have F3:kd i6 1= .mk k3 n3 o7:=q27 J6 aa.out;subst im;have Z4:=T8 _ u6;have hv3:valid sigT (.mk k3 n3 o7)=true:=by
  have h1:=(j12 (y12 hv0).1).2.2.2 _ D1;have h2:=y15 D1;have h3:=(y12 hv0).2;simp only[cnt] at h3;unfold valid;rw[y28 h1 (by decide),Bool.true_and,decide_eq_true_eq];omega
 have p6:ctr 5 ks=sbsT (.mk k1 n1 j9) (.mk k3 n3 o7) 0 0:=by rw[y59,D7,P8];exact congrArg (fun t=> sbsT (.mk k1 n1 j9) t 0 0) F3
 rw[p6];have N5:rdx 5 ks=1:=by unfold rdx;rw[D7];simp[Tr.kind]
 obtain⟨TT,C9⟩: ∃x,x=sbsT (.mk k1 n1 j9) (.mk k3 n3 o7) 0 0:=⟨_,rfl⟩;rw[<-C9];have V1:=hdq C9;clear C9 p6;have hrt:rdxT (.mk 5 n ks)=1:=N5;rw[hrt] at G8;clear hrt N5 p9 j8;clear cg;go_enter Tryz.func57,Tryz.ntmps57;go_wp2_with fail;rw[<-D9];clear D9;refine(G8.out _ hX).mono ?_;rintro e w1 ⟨rfl,h1⟩;have p8:=hX.trans h1;have D5:=h1.blk hb0;have B7:=h1.blk hb1;have hs1:w.heap.size+1 < w1.heap.size:=j10 B7;obtain⟨z0,z1,z2,-,-,-⟩:=own3 D5;clear hb0 hb1 G8 h1;have qp:b0 < w.heap.size:=World.block_lt_of_cell? _ _ U0;have hbk3:b3 < w.heap.size:=World.block_lt_of_cell? _ _ U6;have HC:=hdq (show∀w':World,(∀y,y < w1.heap.size->y≠w.heap.size+1->w'.heap[y]? =w1.heap[y]?)->w'.cell? ⟨w.heap.size,2,none⟩=some (.slice (some ⟨b0,o0,none⟩) ks.length cap)/\w'.cell? ⟨b0,o0+2,none⟩=some (.slice (some ⟨b3,o3,none⟩) i6.length C7)/\w'.cell? ⟨b3,o3+3,none⟩=some (.int .i64 k3)/\w'.cell? ⟨b3,o3+4,none⟩=some (.int .i64 n3)/\w'.cell? ⟨b3,o3+5,none⟩=some (.slice A3 o7.length M2)/\w'.cell? ⟨b0,o0+3,none⟩=some (.int .i64 k1)/\w'.cell? ⟨b0,o0+4,none⟩=some (.int .i64 n1)/\w'.cell? ⟨b0,o0+5,none⟩=some (.slice A1 j9.length I0) from fun w' h=> by
  have F9: ∀q i v,q < w.heap.size+1->w1.cell? ⟨q,i,none⟩=some v->w'.cell? ⟨q,i,none⟩=some v:=fun q i v hq hv=>(World.cell?_of_block (a:=⟨q,i,none⟩) (h q (by omega) (by omega))).trans hv
  exact⟨F9 _ _ _ (by omega) z2,F9 _ _ _ (by omega) (p8.cell V0),F9 _ _ _ (by omega) (p8.cell U6),F9 _ _ _ (by omega) (p8.cell c31),F9 _ _ _ (by omega) (p8.cell U8),F9 _ _ _ (by omega) (p8.cell c10),F9 _ _ _ (by omega) (p8.cell c11),F9 _ _ _ (by omega) (p8.cell c12)⟩)
 have D8:Ext w1 w1.drew:=(xr w1).drew;have L3:=J4.ext p8;have L1:=D2.ext p8;clear bm N0 aa D7 P8 F3 V5 Q3 hK3 D3 D2 J4 E4 u6 D1 hK j7 Q5 U0 W9 V0 c10 c11 c12 U6 c31 U8 z0 z1 z2 D5;go_wp2_with fail
 go_region_held3 (fun w'=> w'.cell? ⟨w.heap.size,2,none⟩=some (.slice (some ⟨b0,o0,none⟩) ks.length cap)/\w'.cell? ⟨b0,o0+2,none⟩=some (.slice (some ⟨b3,o3,none⟩) i6.length C7)/\w'.cell? ⟨b3,o3+3,none⟩=some (.int .i64 k3)/\w'.cell? ⟨b3,o3+4,none⟩=some (.int .i64 n3)/\w'.cell? ⟨b3,o3+5,none⟩=some (.slice A3 o7.length M2)/\w'.cell? ⟨b0,o0+3,none⟩=some (.int .i64 k1)/\w'.cell? ⟨b0,o0+4,none⟩=some (.int .i64 n1)/\w'.cell? ⟨b0,o0+5,none⟩=some (.slice A1 j9.length I0))
  (first|exact HC.out _ (fun y h1 h2=> by rw[Below.heap_setCell _ _ _ _ h2,Below.heap_setCell _ _ _ _ h2,Below.heap_setCell _ _ _ _ h2];exact(D8.trans ui).heap y h1) |exact HC.out _ (fun y h1 _=>(D8.trans ui).heap y h1) |exact HC.out _ (fun y h1 _=> D8.heap y h1))
  (first|(go_at_call 113;refine(q162 V1.out _ _ _ (L3.ext D8) hv3 (L1.ext D8) Z4).mono ?_;rintro e w2 ⟨a1,a2,a3,a4,a5,rfl,hM,ui⟩;obtain⟨s0,s1,s2,f0,f1,f2⟩:=own3 ((D8.trans ui).blk B7)))
 have hE:=p8.trans (D8.trans ui);have Md:w1.heap.size<=w1.drew.heap.size:=D8.size;clear HC B7;go_wp2_with fail;have hsz:=p8.size;refine bodyPost_ret (v:= .agg #[.int .i64 a1,.int .i64 a2,.slice a3 a4 a5]) (by simp[results,Tryz.results57,go_sem,s0,s1,s2]) rfl ⟨_,rfl,Made.since (hM.after ((((y25.refl _ _).setCell (p:=⟨w.heap.size+1,0,none⟩) (by show w.heap.size+1 < _;omega) (.int .i64 a1)).setCell (p:=⟨w.heap.size+1,1,none⟩) (by show w.heap.size+1 < _;omega) (.int .i64 a2)).setCell (p:=⟨w.heap.size+1,2,none⟩) (by show w.heap.size+1 < _;omega) (.slice a3 a4 a5))) (by omega),(((hE.setCell (p:=⟨w.heap.size+1,0,none⟩) (by show w.heap.size<=w.heap.size+1;omega) _).setCell (p:=⟨w.heap.size+1,1,none⟩) (by show w.heap.size<=w.heap.size+1;omega) _).setCell (p:=⟨w.heap.size+1,2,none⟩) (by show w.heap.size<=w.heap.size+1;omega) _)⟩
end Go.Proofs.YtbnkbepgmenblaaGreat
