/-
  Lemmas towards the law, 7: Mem, OrdG, Text, Later.
-/
import Derived.Test.YtdkamgafpphdjaaGreatUAF
import Derived.BigQuiet
import Derived.Laws.MakeOwn
import Derived.Laws.OwnMore
namespace Go.Proofs.YtdkamgafpphdjaaGreat
open Go.RowKit
set_option linter.unusedVariables false
theorem cells3{w:World}{g i:Nat}{cs:Array Value}{e:TypeId}(hb:w.heap[g]? =some (.cells cs e (0,0)))(h:i+3<=cs.size):
 ∃x0 x1 x2,w.cell? ⟨g,i,none⟩=some x0/\w.cell? ⟨g,i+1,none⟩=some x1/\w.cell? ⟨g,i+2,none⟩=some x2/\w.frozen? ⟨g,i,none⟩=false/\w.frozen? ⟨g,i+1,none⟩=false/\w.frozen? ⟨g,i+2,none⟩=false:=by
 refine⟨cs[i]'(by omega),cs[i+1]'(by omega),cs[i+2]'(by omega), ?_, ?_, ?_,q12 hb _,q12 hb _,q12 hb _⟩
 · rw[y10 hb];exact Array.getElem?_eq_getElem _
 · rw[y10 hb];exact Array.getElem?_eq_getElem _
 · rw[y10 hb];exact Array.getElem?_eq_getElem _
theorem blk1{w w1:World}{a:Obj}(h:Ext (w.alloc a) w1):w1.heap[w.heap.size]? =some a/\w.heap.size < w1.heap.size:=⟨h.newBlk,h.size_alloc⟩
theorem blk2{w w1:World}{a b:Obj}(h:Ext ((w.alloc a).alloc b) w1):w1.heap[w.heap.size]? =some a/\w1.heap[w.heap.size+1]? =some b/\w.heap.size+1 < w1.heap.size:=by
 have h1:=h.newBlk;have h2:=h.size_alloc;simp only[World.size_alloc] at h1 h2;exact⟨(blk1 h.pre).1,h1,h2⟩
theorem blk3{w w1:World}{a b c:Obj}(h:Ext (((w.alloc a).alloc b).alloc c) w1):w1.heap[w.heap.size]? =some a/\w1.heap[w.heap.size+1]? =some b/\w1.heap[w.heap.size+1+1]? =some c/\w.heap.size+1+1 < w1.heap.size:=by
 have h1:=h.newBlk;have h2:=h.size_alloc;simp only[World.size_alloc] at h1 h2;exact⟨(blk2 h.pre).1,(blk2 h.pre).2.1,h1,h2⟩
theorem blk4{w w1:World}{a b c d:Obj}(h:Ext ((((w.alloc a).alloc b).alloc c).alloc d) w1):w1.heap[w.heap.size]? =some a/\w1.heap[w.heap.size+1]? =some b/\w1.heap[w.heap.size+1+1]? =some c/\w1.heap[w.heap.size+1+1+1]? =some d/\w.heap.size+1+1+1 < w1.heap.size:=by
 have h1:=h.newBlk;have h2:=h.size_alloc;simp only[World.size_alloc] at h1 h2;exact⟨(blk3 h.pre).1,(blk3 h.pre).2.1,(blk3 h.pre).2.2.1,h1,h2⟩
theorem own3{w:World}{g:Nat}{x0 x1 x2:Value}{e:TypeId}(hb:w.heap[g]? =some (.cells #[x0,x1,x2] e (0,0))):
 w.cell? ⟨g,0,none⟩=some x0/\w.cell? ⟨g,1,none⟩=some x1/\w.cell? ⟨g,2,none⟩=some x2/\w.frozen? ⟨g,0,none⟩=false/\w.frozen? ⟨g,1,none⟩=false/\w.frozen? ⟨g,2,none⟩=false:=
 ⟨y10 hb 0,y10 hb 1,y10 hb 2,q12 hb 0,q12 hb 1,q12 hb 2⟩
def q23(B:Nat)(w w':World):Prop:=(∀b,B<=b->w'.heap[b]? =w.heap[b]?)/\w.heap.size<=w'.heap.size
theorem q23.refl(B:Nat)(w:World):q23 B w w:=⟨fun _ _=> rfl,Nat.le_refl _⟩
theorem q23.setCell{B:Nat}{a w:World}(h:q23 B a w){p:Addr}(hp:p.block < B)(u:Value):q23 B a (w.setCell p u):=
 ⟨fun b hb=>(Below.heap_setCell w p u b (by omega)).trans (h.1 b hb),by simpa using h.2⟩
theorem Made.after{W w1 w3:World}{e:TypeId}{t:Tr}{v:Value}(h:Made W w1 e t v)(ha:q23 W.heap.size w1 w3):Made W w3 e t v:=by
 obtain⟨L,h,hf⟩:=h;exact⟨L,h.mono fun b hb=> ha.1 b (hf.2 b hb).1,hf.mono (Nat.le_refl _) ha.2⟩
structure Only (L:List Nat) (w w':World):Prop where
 os:w'.os=w.os
 tape:w'.tape=w.tape
 output:w'.output=w.output
 size:w.heap.size<=w'.heap.size
 block: ∀b,b < w.heap.size-> ¬b∈L->w'.heap[b]? =w.heap[b]?
theorem Only.refl(L:List Nat)(w:World):Only L w w:=⟨rfl,rfl,rfl,Nat.le_refl _,fun _ _ _=> rfl⟩
theorem Only.trans{L:List Nat}{a b c:World}(h:Only L a b)(k:Only L b c):Only L a c:=
 ⟨k.os.trans h.os,k.tape.trans h.tape,k.output.trans h.output,Nat.le_trans h.size k.size,fun i hi hn=>(k.block i (Nat.lt_of_lt_of_le hi h.size) hn).trans (h.block i hi hn)⟩
theorem Only.setCell{L:List Nat}{a w:World}(h:Only L a w){p:Addr}(hp:p.block∈L)(u:Value):Only L a (w.setCell p u):=
 ⟨h.os,h.tape,h.output,by simpa using h.size,fun i hi hn=>(Below.heap_setCell w p u i (fun e=> hn (e▸hp))).trans (h.block i hi hn)⟩
theorem oE{L:List Nat}{a b:World}(h:Ext a b):Only L a b:=⟨h.os,h.tape,h.output,h.size,fun i hi _=> h.heap i hi⟩
theorem Only.alloc{L:List Nat}{a b:World}(h:Only L a b)(o:Obj):Only L a (b.alloc o):=h.trans (oE ((xr b).alloc o))
theorem Only.ext{L:List Nat}{a w w':World}(h:Only L w w')(he:Ext a w)(hL: ∀b,b∈L->a.heap.size<=b):Ext a w':=
 ⟨h.os.trans he.os,h.tape.trans he.tape,h.output.trans he.output,Nat.le_trans he.size h.size,fun i hi=>(h.block i (Nat.lt_of_lt_of_le hi he.size) (fun hm=> absurd (hL i hm) (by omega))).trans (he.heap i hi)⟩
end Go.Proofs.YtdkamgafpphdjaaGreat
namespace Go.Proofs.YtdkamgafpphdjaaGreat.OrdG
open Go Go.Proofs.YtdkamgafpphdjaaGreat.Ord
set_option linter.unusedVariables false
section
variable {Γ : Type} (P : Program) (ops : Array Oper) (Q : Exit → Act → World → Prop) (l0 : Array Bool) (m : Nat) (E : World × Γ → World × Γ → Prop) (G : Nat → Value → World × Γ → Prop) (a0 : Act) (w0 : World × Γ)
def y194(i:Nat)(o:Oper):Prop:=
 ∀a w z,E w0 (w,z)->(∀t,isDst ops l0 m t=false->a.eval (.tmp t)=a0.eval (.tmp t))->(∀j d,depO ops l0 i j d=true->G j (a.eval (.tmp d)) (w,z))->
  wpOp P ops Q i (fun a' w'=> ∃u z',a'=a.put o.dst u/\E (w,z) (w',z')/\G i u (w',z')) a w
def StepsO:Nat->List Oper->Prop
 |_, []=> True
 |i,o::os=>(isOn l0 i=true\/y194 P ops Q l0 m E G a0 w0 i o)/\StepsO (i+1) os
end
section
variable {Γ : Type} {P : Program} {ops : Array Oper} {Q : Exit → Act → World → Prop} {l0 : Array Bool} {m : Nat} {E : World × Γ → World × Γ → Prop} {G : Nat → Value → World × Γ → Prop} {a0 : Act} {w0 : World × Γ}
theorem StepsO.get{l:List Oper}: ∀{i j:Nat} {o:Oper},StepsO P ops Q l0 m E G a0 w0 i l->l[j]? =some o->isOn l0 (i+j)=true\/y194 P ops Q l0 m E G a0 w0 (i+j) o:=by
 induction l with
 |nil=> intro i j o h hj;simp at hj
 |cons x l ih=>
  intro i j o h hj;cases j with
  |zero=>
   simp only[List.getElem?_cons_zero,Option.some.injEq] at hj;subst hj;exact h.1
  |succ j=>
   have:=ih (j:=j) h.2 (by simpa using hj)
   rwa [show i+1+j=i+(j+1) by omega] at this
theorem wpAnyH_order{S:World->Prop}{N fuel fT:Nat}{lT:Array Bool}(hok:okO ops l0 m N=true)(hN:a0.tmps.size=N)(hf:fuel=opnO l0 ops.size)(hlT:doneO l0 m=lT)(hfT:opnO lT ops.size=fT)
 (hE0:E w0 w0) (hE: ∀u v w,E u v->E v w->E u w) (hG: ∀i v w w',G i v w->E w w'->G i v w') (hS: ∀w z,E w0 (w,z)->S w)
 (steps:StepsO P ops Q l0 m E G a0 w0 0 (ops.toList.take m))
 (fin: ∀(v:Nat->Value) w z,E w0 (w,z)->(∀j,j < m->isOn l0 j=false->G j (v j) (w,z))->wpAnyH P .any ops Q S fT lT (putN ops v (fun j=> !isOn l0 j) a0 m) w):
 wpAnyH P .any ops Q S fuel l0 a0 w0.1:=by
 subst hlT;subst hfT;have hok2:=hok;unfold okO at hok2;simp only[Bool.and_eq_true,decide_eq_true_eq,List.all_eq_true,List.mem_range,Bool.or_eq_true,Bool.not_eq_true'] at hok2;obtain⟨⟨⟨⟨-,hupb⟩,hlowb⟩,hm⟩,hlsz⟩:=hok2;have hlow: ∀i,i < ops.size-> ∀k∈j37 ops i,k < i:=fun i hi k hk=>(hlowb i hi k hk).1
 have hdn0: ∀i,isOn l0 i=true-> ∀k∈j37 ops i,isOn l0 k=true:=fun i hl k hk=> by
  by_cases hi:i < ops.size
  · exact(hlowb i hi k hk).2.resolve_left (by rw[hl];decide)
  · unfold j37 at hk
    rw[show ops[i]? =none from Array.getElem?_eq_none (by omega)] at hk;simp at hk
 have hup: ∀i,m<=i->i < ops.size->isOn l0 i=false-> ∀j,j < m->isOn l0 j=false->q100 ops ops.size i j=true:=fun i h1 h2 hi j hj hl=> by
  have:=hupb (i - m) (by omega);rw[show m+(i - m)=i by omega] at this;have:=this.resolve_left (by rw[hi];decide) j hj;exact this.resolve_left (by rw[hl];decide)
 have hsl: ∀listed:Array Bool,∀j,(isOn listed j && !isOn l0 j)=true->isOn l0 j=false:=fun listed j h=> by
  simp only[Bool.and_eq_true,Bool.not_eq_true'] at h;exact h.2
 have main: ∀(fuel:Nat) (listed:Array Bool) (a:Act) (w:World) (z:Γ) (v:Nat->Value),listed.size=ops.size->(∀i,m<=i->isOn listed i=isOn l0 i)->(∀i,isOn l0 i=true->isOn listed i=true)->
  (∀i,isOn listed i=true-> ∀k∈j37 ops i,isOn listed k=true)->a=putN ops v (fun j=> isOn listed j && !isOn l0 j) a0 m->(∀j,j < m->isOn listed j=true->isOn l0 j=false->G j (v j) (w,z))->E w0 (w,z)->
  fuel=opnO listed ops.size->wpAnyH P .any ops Q S fuel listed a w:=by
  intro fuel;have done: ∀(fuel:Nat) (listed:Array Bool) (a:Act) (w:World) (z:Γ) (v:Nat->Value),listed.size=ops.size->(∀i,m<=i->isOn listed i=isOn l0 i)->a=putN ops v (fun j=> isOn listed j && !isOn l0 j) a0 m->(∀j,j < m->isOn listed j=true->isOn l0 j=false->G j (v j) (w,z))->E w0 (w,z)->
   fuel=opnO listed ops.size->(∀j,j < m->isOn listed j=true)->wpAnyH P .any ops Q S fuel listed a w:=by
   intro fuel listed a w z v hsz h1 ha hg he hf hall;have hl:listed=doneO l0 m:=by
    apply Array.ext
    · simp[doneO,hsz,hlsz]
    · intro i hi1 hi2
      have e1:isOn listed i=listed[i]:=by simp[isOn,Array.getD_eq_getD_getElem?,hi1]
      have e2:(doneO l0 m)[i]=(decide (i < m) ||isOn l0 i):=by simp[doneO]
      rw[<-e1,e2];by_cases hi:i < m
      · rw[hall i hi];simp[hi]
      · rw[h1 i (by omega)];simp[hi]
   subst hl;subst ha;subst hf;rw[j24 (v':=v) (s':=fun j=> !isOn l0 j) a0 (fun j hj=>⟨by rw[hall j hj,Bool.true_and],fun _=> rfl⟩)];exact fin v w z he (fun j hj hl=> hg j hj (hall j hj) hl)
  induction fuel with
  |zero=>
   intro listed a w z v hsz h1 hmo h2 ha hg he hf;refine done 0 listed a w z v hsz h1 ha hg he hf fun j hj=> ?_
   have: ∀n,opnO listed n=0-> ∀j,j < n->isOn listed j=true:=by
    intro n
    induction n with
    |zero=> intro _ j hj;omega
    |succ n ih=>
     intro h j hj;unfold opnO at h;by_cases e:j=n
     · subst e
       split at h
       · assumption
       · omega
     · exact ih (by omega) j (by omega)
   exact this ops.size hf.symm j (by omega)
  |succ fuel ih=>
   intro listed a w z v hsz h1 hmo h2 ha hg he hf;by_cases hall: ∀j,j < m->isOn listed j=true
   · exact done _ listed a w z v hsz h1 ha hg he hf hall
   · obtain⟨j0,hj0,hj1,hj2⟩:=q217 (p:=isOn listed) (n:=m) (by
      apply Classical.byContradiction
      intro h;exact hall fun j hj=> by
       cases hp:isOn listed j with
       |true=> rfl
       |false=> exact absurd ⟨j,hj,hp⟩ h)
     have gt: ∀i,i < ops.size->listed.getD i true=isOn listed i:=fun i hi=> by
      simp[isOn,Array.getD_eq_getD_getElem?,show i < listed.size by omega]
     refine⟨fun h0=> ?_,fun i hi=> ?_⟩
     · have hr:j0∈Region.ready .any ops listed:=q119 (by omega) (by rw[gt _ (by omega)];exact hj1) (fun k hk=> hj2 k (hlow j0 (by omega) k hk))
       rw[h0] at hr;cases hr
     · obtain⟨r1,⟨o,ho⟩,r3⟩:=q66 hi
       have hin:i < ops.size:=(Array.getElem?_eq_some_iff.1 ho).1;have hi0:isOn listed i=false:=by rw[<-gt i hin];exact r1
       have hil:isOn l0 i=false:=by
        cases hp:isOn l0 i with
        |false=> rfl
        |true=> rw[hmo i hp] at hi0;cases hi0
       have hj0l:isOn l0 j0=false:=by
        cases hp:isOn l0 j0 with
        |false=> rfl
        |true=> rw[hmo j0 hp] at hj1;cases hj1
       have him:i < m:=by
        apply Classical.byContradiction
        intro hge;have:=q40 (l:=isOn listed) h2 ops.size i j0 r3 (hup i (by omega) hin hil j0 hj0 hj0l);rw[hj1] at this;cases this
       have hst:=StepsO.get (j:=i) steps (by rw[List.getElem?_take,if_pos him];simpa using ho);rw[Nat.zero_add] at hst;have hst:=hst.resolve_left (by rw[hil];decide);have hd:(dstOf ops i)=o.dst:=by unfold dstOf;rw[ho];rfl
       have hsi:(isOn listed i && !isOn l0 i)=false:=by rw[hi0];rfl
       refine wpOp_mono ?_ (hst a w z he ?_ ?_)
       · rintro a' w' ⟨u,z',rfl,he',hg'⟩
         have hset: ∀j,isOn (listed.setIfInBounds i true) j=if j=i then true else isOn listed j:=fun j=> by
          unfold isOn;by_cases e:j=i
          · subst e
            rw[if_pos rfl];simp[Array.getD_eq_getD_getElem?,show j < listed.size by omega]
          · rw[if_neg e]
            simp[Array.getD_eq_getD_getElem?,Array.getElem?_setIfInBounds_ne (Ne.symm e)]
         refine⟨hS _ _ (hE _ _ _ he he'),ih (listed.setIfInBounds i true) _ w' z' (fun j=> if j=i then u else v j) (by simpa using hsz) ?_ ?_ ?_ ?_ ?_ (hE _ _ _ he he') ?_⟩
         · intro j hj
           rw[hset,if_neg (by omega)];exact h1 j hj
         · intro j hj
           rw[hset]
           split
           · rfl
           · exact hmo j hj
         · intro j hj k hk
           rw[hset] at hj⊢;by_cases e:k=i
           · rw[if_pos e]
           · rw[if_neg e]
             by_cases e2:j=i
             · subst e2;exact r3 k hk
             · rw[if_neg e2] at hj
               exact h2 j hj k hk
         · rw[ha,<-hd,<-q47 hok (s:=fun j=> isOn listed j && !isOn l0 j) a0 (hsl listed) hsi hil u him (Nat.le_refl _)]
           refine j24 a0 (fun j hj=>⟨?_,fun _=> rfl⟩);simp only[hset];by_cases e:j=i
           · rw[if_pos e,if_pos e,e,hil];rfl
           · rw[if_neg e,if_neg e]
         · intro j hj hl hjl
           by_cases e:j=i
           · simp only[if_pos e];rw[e];exact hg'
           · simp only[if_neg e]
             rw[hset,if_neg e] at hl;exact hG _ _ _ _ (hg j hj hl hjl) he'
         · have:=j100 (l:=listed) (l':=listed.setIfInBounds i true) (i:=i) hi0 (by rw[hset,if_pos rfl]) (fun j hj=> by rw[hset,if_neg hj]) (n:=ops.size)
           rw[if_pos hin] at this;omega
       · intro t ht
         rw[ha,q58];intro j hj hs e;unfold isDst at ht;rw[List.any_eq_false] at ht;refine ht j (List.mem_range.2 hj) ?_;rw[hsl listed j hs,e];simp
       · intro j d hjd
         unfold depO at hjd;simp only[Bool.and_eq_true,beq_iff_eq,List.contains_iff_mem,Bool.not_eq_true'] at hjd;have hjl:=r3 j hjd.1.1;have hji:=hlow i hin j hjd.1.1;rw[ha,y47 hok v _ (hsl listed) a0 hN hjd.1.2 (by rw[hjl,hjd.2];rfl) (by omega) (Nat.le_refl _)];exact hg j (by omega) hjl hjd.2
 refine main fuel l0 a0 w0.1 w0.2 (fun _=> undef) hlsz (fun _ _=> rfl) (fun _ h=> h) hdn0 ?_ ?_ hE0 hf
 · have: ∀n,putN ops (fun _=> undef) (fun j=> isOn l0 j && !isOn l0 j) a0 n=a0:=fun n=> by
    induction n with
    |zero=> rfl
    |succ n ih=>
     unfold putN;rw[if_neg,ih];simp
   exact(this m).symm
 · intro j hj hl hl2
   rw[hl] at hl2;cases hl2
end
end Go.Proofs.YtdkamgafpphdjaaGreat.OrdG
namespace Go.Proofs.YtdkamgafpphdjaaGreat
set_option linter.unusedVariables false
def ofL(l:List UInt8):ByteArray:=⟨l.toArray⟩
theorem q14(a b:List UInt8):ofL a++ofL b=ofL (a++b):=by
 apply ByteArray.ext
 simp[ofL]
theorem y89(l:List UInt8):(ofL l).size=l.length:=by simp[ofL,ByteArray.size]
theorem q111(l:List UInt8):(ofL l).data.toList=l:=by simp[ofL]
def decL(n:Int):List UInt8:=if n<=9 then [UInt8.ofNat (48+n.toNat)] else [UInt8.ofNat (48+n.toNat / 10),UInt8.ofNat (48+n.toNat % 10)]
def opn(k:Int):List UInt8:=
 if k=3 then [40] else if k=4 then [91] else if k=5 then [40] else if k=6 then [78] else if k=7 then [48] else if k=8 then [43] else if k=9 then [60] else if k=10 then [123] else if k=11 then [33] else if k=12 then [64,60] else if k=13 then [40] else if k=14 then [124] else if k=15 then [94] else if k=16 then [95] else []
def sep(k:Int):List UInt8:=
 if k=3 then [62] else if k=4 then [93] else if k=5 then [32] else if k=13 then [42] else [44]
def cls(k:Int):List UInt8:=
 if k=3 then [41] else if k=5 then [41] else if k=9 then [62] else if k=10 then [125] else if k=12 then [62] else if k=13 then [41] else if k=14 then [124] else []
mutual
def fmtL:Tr->List UInt8
 | .mk k n ks=> if k=1 then 35::decL n else if k=2 then 42::decL n else opn k++fmtK (sep k) ks true++cls k
def fmtK:List UInt8->List Tr->Bool->List UInt8
 |_, [],_=> []
 |s,t::ts,f=>(if f=true then [] else s)++fmtL t++fmtK s ts false
end
theorem j113(n:Int):(decL n).length<=2:=by unfold decL;split <;> simp
theorem opn_len(k:Int):(opn k).length<=2:=by
 unfold opn;by_cases h3:k=3
 · rw[if_pos h3];decide
 rw[if_neg h3];by_cases h4:k=4
 · rw[if_pos h4];decide
 rw[if_neg h4];by_cases h5:k=5
 · rw[if_pos h5];decide
 rw[if_neg h5];by_cases h6:k=6
 · rw[if_pos h6];decide
 rw[if_neg h6];by_cases h7:k=7
 · rw[if_pos h7];decide
 rw[if_neg h7];by_cases h8:k=8
 · rw[if_pos h8];decide
 rw[if_neg h8];by_cases h9:k=9
 · rw[if_pos h9];decide
 rw[if_neg h9];by_cases h10:k=10
 · rw[if_pos h10];decide
 rw[if_neg h10];by_cases h11:k=11
 · rw[if_pos h11];decide
 rw[if_neg h11];by_cases h12:k=12
 · rw[if_pos h12];decide
 rw[if_neg h12];by_cases h13:k=13
 · rw[if_pos h13];decide
 rw[if_neg h13];by_cases h14:k=14
 · rw[if_pos h14];decide
 rw[if_neg h14];by_cases h15:k=15
 · rw[if_pos h15];decide
 rw[if_neg h15];by_cases h16:k=16
 · rw[if_pos h16];decide
 rw[if_neg h16]
 decide
theorem sep_len(k:Int):(sep k).length=1:=by
 unfold sep;by_cases h3:k=3
 · rw[if_pos h3];decide
 rw[if_neg h3];by_cases h4:k=4
 · rw[if_pos h4];decide
 rw[if_neg h4];by_cases h5:k=5
 · rw[if_pos h5];decide
 rw[if_neg h5];by_cases h13:k=13
 · rw[if_pos h13];decide
 rw[if_neg h13]
 decide
theorem cls_len(k:Int):(cls k).length<=1:=by
 unfold cls;by_cases h3:k=3
 · rw[if_pos h3];decide
 rw[if_neg h3];by_cases h5:k=5
 · rw[if_pos h5];decide
 rw[if_neg h5];by_cases h9:k=9
 · rw[if_pos h9];decide
 rw[if_neg h9];by_cases h10:k=10
 · rw[if_pos h10];decide
 rw[if_neg h10];by_cases h12:k=12
 · rw[if_pos h12];decide
 rw[if_neg h12];by_cases h13:k=13
 · rw[if_pos h13];decide
 rw[if_neg h13];by_cases h14:k=14
 · rw[if_pos h14];decide
 rw[if_neg h14]
 decide
mutual
theorem y23: ∀t:Tr,(fmtL t).length+1<=5*cnt t
 | .mk k n ks=> by
  have h1:=j113 n;have h2:=opn_len k;have h3:=cls_len k;have h4:=y59 (sep k) (by rw[sep_len k];omega) ks true;unfold fmtL;simp only[cnt]
  split
  · simp;omega
  · split
    · simp;omega
    · simp;omega
theorem y59(s:List UInt8)(hs:s.length<=1): ∀(ts:List Tr) (f:Bool),(fmtK s ts f).length<=5*cnts ts
 | [],_=> by simp[fmtK]
 |t::ts,f=> by
  have h1:=y23 t;have h2:=y59 s hs ts false;unfold fmtK;simp only[cnts];cases f <;> simp <;> omega
end
def fmtV(t:Tr):List UInt8:=if valid sigT t=true then fmtL t else []
def j67(c:UInt8):Bool:=decide (48<=c)&& decide (c<=57)
def numS(l:List UInt8)(a:Nat)(two:Bool):Option (Int×Nat):=
 match l[a]?with
 |none=> none
 |some c=> if j67 c=true then
  (if two=true then
   match l[a+1]?with
   |none=> some ((c.toNat:Int) - 48,a+1)
   |some d=> if j67 d=true then(if c=48 then none else some (((c.toNat:Int) - 48)*10+((d.toNat:Int) - 48),a+2)) else some ((c.toNat:Int) - 48,a+1)
  else some ((c.toNat:Int) - 48,a+1))
  else none
def ser(p:Nat->Option (Tr×Nat))(l:List UInt8)(last:UInt8):Nat->Nat->Option (List Tr×Nat)
 |0,a=> some ([],a)
 |m+1,a=> match p a with
  |none=> none
  |some (t,b)=> if l[b]? =some (if m=0 then last else 44) then(ser p l last m (b+1)).map (fun x=>(t::x.1,x.2)) else none
def one(k:Int)(x:Option (Tr×Nat)):Option (Tr×Nat):=x.map fun y=>(.mk k 0 [y.1],y.2)
def rndK(c:Option UInt8):Int:=if c=some 62 then 3 else if c=some 42 then 13 else if c=some 32 then 5 else 0
def rnd(p:Nat->Option (Tr×Nat))(l:List UInt8)(a:Nat):Option (Tr×Nat):=
 match p a with
 |none=> none
 |some (x,b)=> if rndK l[b]? =0 then none else
  match p (b+1) with
  |none=> none
  |some (y,c)=> if l[c]? =some 41 then some (.mk (rndK l[b]?) 0 [x,y],c+1) else none
def sqr(p:Nat->Option (Tr×Nat))(l:List UInt8)(a:Nat):Option (Tr×Nat):=
 match p a with
 |none=> none
 |some (x,b)=> if l[b]? =some 93 then(match p (b+1) with|none=> none|some (y,c)=> some (.mk 4 0 [x,y],c)) else none
def blkK(c:UInt8):Int:=if c=60 then 9 else if c=123 then 10 else if c=124 then 14 else if c=64 then 12 else 0
def blkE(c:UInt8):UInt8:=if c=123 then 125 else if c=124 then 124 else 62
def blk(p:Nat->Option (Tr×Nat))(l:List UInt8)(a:Nat)(c:UInt8):Option (Tr×Nat):=
 if blkK c=0 then none
 else if c=64 then(if l[a+1]? =some 60 then(ser p l 62 3 (a+2)).map (fun x=>(.mk 12 0 x.1,x.2)) else none)
 else(ser p l (blkE c) (if c=60 then 4 else 3) (a+1)).map (fun x=>(.mk (blkK c) 0 x.1,x.2))
def prs:Nat->List UInt8->Nat->Option (Tr×Nat)
 |0,_,_=> none
 |d+1,l,a=>
  match l[a]?with
  |none=> none
  |some c=>
   if c=35 then(numS l (a+1) true).map (fun x=>(.mk 1 x.1 [],x.2))
   else if c=42 then(numS l (a+1) false).map (fun x=>(.mk 2 x.1 [],x.2))
   else if c=78 then some (.mk 6 0 [],a+1)
   else if c=48 then some (.mk 7 0 [],a+1)
   else if c=43 then one 8 (prs d l (a+1))
   else if c=33 then one 11 (prs d l (a+1))
   else if c=94 then one 15 (prs d l (a+1))
   else if c=95 then one 16 (prs d l (a+1))
   else if c=40 then rnd (prs d l) l (a+1)
   else if c=91 then sqr (prs d l) l (a+1)
   else blk (prs d l) l a c
def prsV(l:List UInt8):Option Tr:=
 match prs 30 l 0 with
 |none=> none
 |some (t,b)=> if l≠ []/\b=l.length/\fmtV t=l then some t else none
theorem y159{l:List UInt8}{t:Tr}(h:prsV l=some t):valid sigT t=true/\fmtL t=l:=by
 unfold prsV at h
 split at h
 · cases h
 · rename_i t' b _
   split at h
   · rename_i hh
     cases h
     obtain⟨h1,h2,h3⟩:=hh;unfold fmtV at h3
     split at h3
     · rename_i hv
       exact⟨hv,h3⟩
     · exact absurd h3.symm h1
   · cases h
end Go.Proofs.YtdkamgafpphdjaaGreat
namespace Go.Proofs.YtdkamgafpphdjaaGreat
open Go.RowKit
set_option linter.unusedVariables false
def At(w:World)(p:World->Prop):Prop:= ∀w',Ext w w'->p w'
structure j23 (W:World) where
 world:World
 ext:Ext W world
instance (W:World):Nonempty (j23 W):=⟨⟨W,xr W⟩⟩
theorem q15{P:Program}{id:Nat}{Q:Exit->Act->World->Prop}{a:Act}{W:World}{l:List Oper}(hm:P.follows .mixedOrders=true)(hB:Region.lexB .any l.toArray=true)
 (h:wpQuiet P l.toArray (fun w'=> ∃x:j23 W,w'=x.world) (fun a'=> ∀w',(∃x:j23 W,w'=x.world)->Q .normal a' w') l a):(Code.region id l.toArray true).wp P Q a W:=
 wp_region_quiet (C:=fun w'=> ∃x:j23 W,w'=x.world) hm hB ⟨⟨_,(xr W).drew⟩,rfl⟩ (by simpa using h)
theorem j58{P:Program}{f:FuncId}{args:Array Value}{W:World}{x:j23 W}{v:Value}(h:Calls P f args x.world fun e w'=> e= .returned v/\Ext x.world w'):
 Calls P f args x.world fun e w''=> e= .returned v/\ ∃y:j23 W,w''=y.world:=
 h.mono fun e w' ⟨he,hw⟩=>⟨he,⟨w',x.ext.trans hw⟩,rfl⟩
theorem j13{P:Program}{f:FuncId}{args:Array Value}{W:World}{x:j23 W}{v:Value}(h:Calls P f args x.world fun e w'=> e= .returned v/\x.world=w'):
 Calls P f args x.world fun e w''=> e= .returned v/\ ∃y:j23 W,w''=y.world:=
 h.mono fun e w' ⟨he,hw⟩=>⟨he,x,hw.symm⟩
theorem j23.own3{W:World}{g:Nat}{x0 x1 x2:Value}{e:TypeId}(hb:W.heap[g]? =some (.cells #[x0,x1,x2] e (0,0))):
 (∀y:j23 W,y.world.cell? ⟨g,0,none⟩=some x0)/\(∀y:j23 W,y.world.cell? ⟨g,1,none⟩=some x1)/\(∀y:j23 W,y.world.cell? ⟨g,2,none⟩=some x2):=
 ⟨fun y=> y.ext.cell (y10 hb 0),fun y=> y.ext.cell (y10 hb 1),fun y=> y.ext.cell (y10 hb 2)⟩
theorem j23.cell{W:World}{b o:Nat}{v:Value}(h:W.cell? ⟨b,o,none⟩=some v)(y:j23 W):y.world.cell? ⟨b,o,none⟩=some v:=y.ext.cell h
end Go.Proofs.YtdkamgafpphdjaaGreat
