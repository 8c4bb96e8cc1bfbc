/-
  Lemmas towards the law, 20: OrdGT.
-/
import Derived.Test.YtdkamgafpphdjaaGreatTAS
namespace Go.Proofs.YtdkamgafpphdjaaGreat
open Go.RowKit
set_option linter.unusedVariables false
def EG(x y:World×List Nat):Prop:=Ext x.1 y.1/\(∀g,g∈x.2->g∈y.2)/\(∀g,g∈y.2->g∈x.2\/x.1.heap.size<=g)/\ ∀g,g∈y.2->g < y.1.heap.size
theorem EG.start(w:World):EG (w, []) (w, []):=⟨xr _,fun _ h=> h,fun g h=> .inl h,fun g h=> by cases h⟩
theorem EG.trans{x y z:World×List Nat}(h:EG x y)(k:EG y z):EG x z:=by
 refine⟨h.1.trans k.1,fun g hg=> k.2.1 g (h.2.1 g hg),fun g hg=> ?_,k.2.2.2⟩;rcases k.2.2.1 g hg with e|e
 · exact h.2.2.1 g e
 · exact .inr (Nat.le_trans h.1.size e)
theorem eSq{x:World×List Nat}{w w':World}{z:List Nat}(h:EG x (w,z))(e:Ext w w'):EG (w,z) (w',z):=
 ⟨e,fun _ h=> h,fun _ h=> .inl h,fun g hg=> Nat.lt_of_lt_of_le (h.2.2.2 g hg) e.size⟩
theorem EG.id{x:World×List Nat}{w:World}{z:List Nat}(h:EG x (w,z)):EG (w,z) (w,z):=eSq h (xr _)
theorem EG.box{x:World×List Nat}{w:World}{o:Obj}{z:List Nat}(h:EG x (w,z)):EG (w,z) (w.alloc o,w.heap.size::z):=by
 refine⟨(xr _).alloc _,fun _ h=> List.mem_cons_of_mem _ h,fun g hg=> ?_,fun g hg=> ?_⟩
 · rcases List.mem_cons.1 hg with rfl|hg
   · exact .inr (Nat.le_refl _)
   · exact .inl hg
 · have:(w.alloc o).heap.size=w.heap.size+1:=by simp
   rcases List.mem_cons.1 hg with rfl|hg
   · show w.heap.size <(w.alloc o).heap.size;omega
   · have:=h.2.2.2 g hg;show g <(w.alloc o).heap.size;simp only at this;omega
def Mz(M:Nat->Prop)(z:List Nat)(b:Nat):Prop:=M b/\ ¬b∈z
theorem Mz.later{M:Nat->Prop}{x y:World×List Nat}(h:EG x y){b:Nat}(hb:Mz M x.2 b/\b < x.1.heap.size):Mz M y.2 b:=by
 refine⟨hb.1.1,fun e=> ?_⟩;rcases h.2.2.1 b e with f|f
 · exact hb.1.2 f
 · have:=hb.2
   omega
theorem InT.laterG{M:Nat->Prop}{x y:World×List Nat}{t:Tr}{v:Value}(h:InT x.1 (Mz M x.2) t v)(e:EG x y):InT y.1 (Mz M y.2) t v:=
 InT.mono (fun b hb=> Mz.later e hb) (fun _ _=> rfl) (h.bound.later e.1)
theorem InK.laterG{M:Nat->Prop}{x y:World×List Nat}{A:Option Addr}{ks:List Tr}(h:InK x.1 (Mz M x.2) A ks)(e:EG x y):InK y.1 (Mz M y.2) A ks:=
 InK.mono (fun b hb=> Mz.later e hb) (fun _ _=> rfl) (h.bound.later e.1)
theorem InT.oldG{M:Nat->Prop}{W w:World}{z:List Nat}{t:Tr}{v:Value}(h:InT W M t v)(e:EG (W.drew, []) (w,z)):InT w (Mz M z) t v:=
 InT.laterG (x:=(W.drew, [])) (y:=(w,z)) (InT.mono (fun b hb=>⟨hb,fun h=> by cases h⟩) (fun _ _=> rfl) (InT.later h (xr W).drew)) e
theorem EG.news{M:Nat->Prop}{x:World×List Nat}{w:World}{z:List Nat}(h:EG x (w,z))(hM: ∀b,w.heap.size<=b->M b): ∀b,w.heap.size<=b->Mz M z b:=
 fun b hb=>⟨hM b hb,fun e=> by have:=h.2.2.2 b e;simp only at this;omega⟩
theorem step_if{P:Program}{ops:Array Oper}{Q:Exit->Act->World->Prop}{i j:Nat}{o:Oper}{a:Act}{w:World}{R:Act->World->Prop}{y b:Bool}{d:Nat}(ho:ops[i]? =some o)(hg:o.guard=some (j,y))(hj:Ord.dstOf ops j=some d)(hv:a.eval (.tmp d)= .bool b)
 (h1:b=y-> ∀K:Act->World->Prop,(∀a' w',R a' w'->K a' w')->o.wp P a w K Q) (h2: ¬b=y->R (a.put o.dst undef) w):wpOp P ops Q i R a w:=by
 have hs:a.tmps[d]? =some (.bool b):=by
  rw[show a.eval (.tmp d)=a.tmps.getD d undef from rfl,Array.getD_eq_getD_getElem?] at hv;cases h:a.tmps[d]?with
  |none=> rw[h] at hv;cases hv
  |some x=> rw[h] at hv;simp only[Option.getD_some] at hv;rw[hv]
 have hy:yielded ops a.tmps j=some b:=by
  unfold yielded;rw[show((ops[j]?).bind fun x=> x.dst)=some d from hj];simp only[Option.bind_some,hs]
 unfold wpOp;rw[ho];simp only;unfold Region.wanted;rw[hg];simp only[hy];by_cases e:b=y
 · rw[if_pos (by simp[e])]
   exact .inl (h1 e R fun _ _ h=> h)
 · rw[if_neg (by simpa using e)]
   exact h2 e
def Sp.holdsG:Sp->Value->World×List Nat->Prop
 | .any,_,_=> True
 | .val u,v,_=> v=u
 | .tree M t,v,x=> InT x.1 (Mz M x.2) t v
 | .row M ts,v,x=> ∃A c,v= .slice A ts.length c/\ts.length<=c/\c<=maxLen/\InK x.1 (Mz M x.2) A ts
 | .two M t c,v,x=> ∃u,v= .tuple #[u,c]/\InT x.1 (Mz M x.2) t u
 | .box W,v,x=> ∃g,v= .pointer (some ⟨g,0,none⟩)/\g∈x.2/\BoxAt W x.1 g
theorem Sp.extG: ∀{s:Sp} {v:Value} {x y:World×List Nat},s.holdsG v x->EG x y->s.holdsG v y
 | .any,_,_,_,_,_=> trivial
 | .val u,_,_,_,h,_=> h
 | .tree M t,_,_,_,h,e=> InT.laterG h e
 | .row M ts,_,_,_,h,e=> by
  obtain⟨A,c,h1,h2,h3,h4⟩:=h;exact⟨A,c,h1,h2,h3,InK.laterG h4 e⟩
 | .two M t c,_,_,_,h,e=> by
  obtain⟨u,h1,h2⟩:=h;exact⟨u,h1,InT.laterG h2 e⟩
 | .box W,_,_,_,h,e=> by
  obtain⟨g,h1,hz,h2,h3⟩:=h;exact⟨g,h1,e.2.1 g hz,h2,e.1.blk h3⟩
def spGG(l:List Sp)(i:Nat)(v:Value)(x:World×List Nat):Prop:=(l.getD i .any).holdsG v x
theorem j147(l:List Sp): ∀i v x y,spGG l i v x->EG x y->spGG l i v y:=fun i v x y h e=> Sp.extG h e
theorem ordG{P:Program}{ops:Array Oper}{Q:Exit->Act->World->Prop}{l0:Array Bool}{a0:Act}{fuel:Nat}(W:World)(m N:Nat)(lT:Array Bool)(fT:Nat)(l:List Sp)(hok:Ord.okO ops l0 m N=true)(hN:a0.tmps.size=N)(hf:fuel=Ord.opnO l0 ops.size)(hlT:Ord.doneO l0 m=lT)(hfT:Ord.opnO lT ops.size=fT)
 (steps:OrdG.StepsO P ops Q l0 m EG (spGG l) a0 (W.drew, []) 0 (ops.toList.take m))
 (fin: ∀(v:Nat->Value) w z,EG (W.drew, []) (w,z)->(∀j,j < m->Ord.isOn l0 j=false->spGG l j (v j) (w,z))->wpAnyH P .any ops Q (fun _=> True) fT lT (Ord.putN ops v (fun j=> !Ord.isOn l0 j) a0 m) w):
 wpAnyH P .any ops Q (fun _=> True) fuel l0 a0 W.drew:=
 OrdG.wpAnyH_order (w0:=(W.drew, [])) hok hN hf hlT hfT (EG.start _) (fun _ _ _ h h'=> h.trans h') (j147 _) (fun _ _ _=> trivial) steps fin
end Go.Proofs.YtdkamgafpphdjaaGreat
