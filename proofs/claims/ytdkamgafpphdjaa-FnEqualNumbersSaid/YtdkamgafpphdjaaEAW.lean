/-
  Lemmas towards the law, 23: OrdGT, MEnc.
-/
import Derived.Test.YtdkamgafpphdjaaEAB
import Derived.Test.YtdkamgafpphdjaaEAU
import Derived.Lib.AtoiAll
import Derived.Lib.Strings
namespace Go.Proofs.Ytdkamgafpphdjaa
open Go.RowKit
set_option linter.unusedVariables false
/-- A later world; the ghost gets new blocks only. -/
def EG (x y : World × List Nat) : Prop := Ext x.1 y.1 ∧ (∀ g, g ∈ x.2 → g ∈ y.2) ∧ (∀ g, g ∈ y.2 → g ∈ x.2 ∨ x.1.heap.size ≤ g) ∧ ∀ g, g ∈ y.2 → g < y.1.heap.size
theorem EG.start (w : World) : EG (w, []) (w, []) := ⟨Ext.refl _, fun _ h => h, fun g h => .inl h, fun g h => by cases h⟩
theorem EG.trans {x y z : World × List Nat} (h : EG x y) (k : EG y z) : EG x z := by
  refine ⟨h.1.trans k.1, fun g hg => k.2.1 g (h.2.1 g hg), fun g hg => ?_, k.2.2.2⟩
  rcases k.2.2.1 g hg with e | e
  · exact h.2.2.1 g e
  · exact .inr (Nat.le_trans h.1.size e)
theorem EG.same {x : World × List Nat} {w w' : World} {z : List Nat} (h : EG x (w, z)) (e : Ext w w') : EG (w, z) (w', z) :=
  ⟨e, fun _ h => h, fun _ h => .inl h, fun g hg => Nat.lt_of_lt_of_le (h.2.2.2 g hg) e.size⟩
theorem EG.id {x : World × List Nat} {w : World} {z : List Nat} (h : EG x (w, z)) : EG (w, z) (w, z) := EG.same h (Ext.refl _)
theorem EG.box {x : World × List Nat} {w : World} {o : Obj} {z : List Nat} (h : EG x (w, z)) : EG (w, z) (w.alloc o, w.heap.size :: z) := by
  refine ⟨(Ext.refl _).alloc _, fun _ h => List.mem_cons_of_mem _ h, fun g hg => ?_, fun g hg => ?_⟩
  · rcases List.mem_cons.1 hg with rfl | hg
    · exact .inr (Nat.le_refl _)
    · exact .inl hg
  · have : (w.alloc o).heap.size = w.heap.size + 1 := by simp
    rcases List.mem_cons.1 hg with rfl | hg
    · show w.heap.size < (w.alloc o).heap.size; omega
    · have := h.2.2.2 g hg; show g < (w.alloc o).heap.size; simp only at this; omega
/-- Not one of the ghost's blocks. -/
def Mz (M : Nat → Prop) (z : List Nat) (b : Nat) : Prop := M b ∧ ¬ b ∈ z
theorem Mz.later {M : Nat → Prop} {x y : World × List Nat} (h : EG x y) {b : Nat} (hb : Mz M x.2 b ∧ b < x.1.heap.size) : Mz M y.2 b := by
  refine ⟨hb.1.1, fun e => ?_⟩
  rcases h.2.2.1 b e with f | f
  · exact hb.1.2 f
  · have := hb.2
    omega
theorem InT.laterG {M : Nat → Prop} {x y : World × List Nat} {t : Tr} {v : Value} (h : InT x.1 (Mz M x.2) t v) (e : EG x y) : InT y.1 (Mz M y.2) t v :=
  InT.mono (fun b hb => Mz.later e hb) (fun _ _ => rfl) (h.bound.later e.1)
theorem InK.laterG {M : Nat → Prop} {x y : World × List Nat} {A : Option Addr} {ks : List Tr} (h : InK x.1 (Mz M x.2) A ks) (e : EG x y) : InK y.1 (Mz M y.2) A ks :=
  InK.mono (fun b hb => Mz.later e hb) (fun _ _ => rfl) (h.bound.later e.1)
theorem InT.oldG {M : Nat → Prop} {W w : World} {z : List Nat} {t : Tr} {v : Value} (h : InT W M t v) (e : EG (W.drew, []) (w, z)) : InT w (Mz M z) t v :=
  InT.laterG (x := (W.drew, [])) (y := (w, z)) (InT.mono (fun b hb => ⟨hb, fun h => by cases h⟩) (fun _ _ => rfl) (InT.later h (Ext.refl W).drew)) e
theorem EG.news {M : Nat → Prop} {x : World × List Nat} {w : World} {z : List Nat} (h : EG x (w, z)) (hM : ∀ b, w.heap.size ≤ b → M b) : ∀ b, w.heap.size ≤ b → Mz M z b :=
  fun b hb => ⟨hM b hb, fun e => by have := h.2.2.2 b e; simp only at this; omega⟩
/-- An operation behind a guard. -/
theorem step_if {P : Program} {ops : Array Oper} {Q : Exit → Act → World → Prop} {i j : Nat} {o : Oper} {a : Act} {w : World} {R : Act → World → Prop} {y b : Bool} {d : Nat} (ho : ops[i]? = some o) (hg : o.guard = some (j, y)) (hj : Ord.dstOf ops j = some d) (hv : a.eval (.tmp d) = .bool b)
    (h1 : b = y → ∀ K : Act → World → Prop, (∀ a' w', R a' w' → K a' w') → o.wp P a w K Q) (h2 : ¬ b = y → R (a.put o.dst undef) w) : wpOp P ops Q i R a w := by
  have hs : a.tmps[d]? = some (.bool b) := by
    rw [show a.eval (.tmp d) = a.tmps.getD d undef from rfl, Array.getD_eq_getD_getElem?] at hv
    cases h : a.tmps[d]? with
    | none => rw [h] at hv; cases hv
    | some x => rw [h] at hv; simp only [Option.getD_some] at hv; rw [hv]
  have hy : yielded ops a.tmps j = some b := by
    unfold yielded
    rw [show ((ops[j]?).bind fun x => x.dst) = some d from hj]
    simp only [Option.bind_some, hs]
  unfold wpOp
  rw [ho]
  simp only
  unfold Region.wanted
  rw [hg]
  simp only [hy]
  by_cases e : b = y
  · rw [if_pos (by simp [e])]
    exact .inl (h1 e R fun _ _ h => h)
  · rw [if_neg (by simpa using e)]
    exact h2 e
def Sp.holdsG : Sp → Value → World × List Nat → Prop
  | .any, _, _ => True
  | .val u, v, _ => v = u
  | .tree M t, v, x => InT x.1 (Mz M x.2) t v
  | .row M ts, v, x => ∃ A c, v = .slice A ts.length c ∧ ts.length ≤ c ∧ c ≤ maxLen ∧ InK x.1 (Mz M x.2) A ts
  | .two M t c, v, x => ∃ u, v = .tuple #[u, c] ∧ InT x.1 (Mz M x.2) t u
  | .box W, v, x => ∃ g, v = .pointer (some ⟨g, 0, none⟩) ∧ g ∈ x.2 ∧ BoxAt W x.1 g
theorem Sp.extG : ∀ {s : Sp} {v : Value} {x y : World × List Nat}, s.holdsG v x → EG x y → s.holdsG v y
  | .any, _, _, _, _, _ => trivial
  | .val u, _, _, _, h, _ => h
  | .tree M t, _, _, _, h, e => InT.laterG h e
  | .row M ts, _, _, _, h, e => by
    obtain ⟨A, c, h1, h2, h3, h4⟩ := h
    exact ⟨A, c, h1, h2, h3, InK.laterG h4 e⟩
  | .two M t c, _, _, _, h, e => by
    obtain ⟨u, h1, h2⟩ := h
    exact ⟨u, h1, InT.laterG h2 e⟩
  | .box W, _, _, _, h, e => by
    obtain ⟨g, h1, hz, h2, h3⟩ := h
    exact ⟨g, h1, e.2.1 g hz, h2, e.1.blk h3⟩
def spGG (l : List Sp) (i : Nat) (v : Value) (x : World × List Nat) : Prop := (l.getD i .any).holdsG v x
theorem spGG_ext (l : List Sp) : ∀ i v x y, spGG l i v x → EG x y → spGG l i v y := fun i v x y h e => Sp.extG h e
/-- The law of such regions, for what is said here. -/
theorem ordG {P : Program} {ops : Array Oper} {Q : Exit → Act → World → Prop} {l0 : Array Bool} {a0 : Act} {fuel : Nat} (W : World) (m N : Nat) (lT : Array Bool) (fT : Nat) (l : List Sp) (hok : Ord.okO ops l0 m N = true) (hN : a0.tmps.size = N) (hf : fuel = Ord.opnO l0 ops.size) (hlT : Ord.doneO l0 m = lT) (hfT : Ord.opnO lT ops.size = fT)
    (steps : OrdG.StepsO P ops Q l0 m EG (spGG l) a0 (W.drew, []) 0 (ops.toList.take m))
    (fin : ∀ (v : Nat → Value) w z, EG (W.drew, []) (w, z) → (∀ j, j < m → Ord.isOn l0 j = false → spGG l j (v j) (w, z)) → wpAnyH P .any ops Q (fun _ => True) fT lT (Ord.putN ops v (fun j => !Ord.isOn l0 j) a0 m) w) :
    wpAnyH P .any ops Q (fun _ => True) fuel l0 a0 W.drew :=
  OrdG.wpAnyH_order (w0 := (W.drew, [])) hok hN hf hlT hfT (EG.start _) (fun _ _ _ h h' => h.trans h') (spGG_ext _) (fun _ _ _ => trivial) steps fin
end Go.Proofs.Ytdkamgafpphdjaa
namespace Go.Proofs.Ytdkamgafpphdjaa
set_option linter.unusedVariables false
/-- The tree of a term. -/
def enc : M.Tm → Tr
  | .var n => .mk 1 n []
  | .sort n => .mk 2 n []
  | .pi A B => .mk 3 0 [enc A, enc B]
  | .lam A t => .mk 4 0 [enc A, enc t]
  | .app f a => .mk 5 0 [enc f, enc a]
  | .nat => .mk 6 0 []
  | .zero => .mk 7 0 []
  | .succ a => .mk 8 0 [enc a]
  | .elim p z s a => .mk 9 0 [enc p, enc z, enc s, enc a]
  | .id T a b => .mk 10 0 [enc T, enc a, enc b]
  | .refl a => .mk 11 0 [enc a]
  | .move p e a => .mk 12 0 [enc p, enc e, enc a]
  | .sg A B => .mk 13 0 [enc A, enc B]
  | .pair T a b => .mk 14 0 [enc T, enc a, enc b]
  | .fst a => .mk 15 0 [enc a]
  | .snd a => .mk 16 0 [enc a]
def shr (y c n : Nat) : Nat := if c ≤ n then n + y else n
theorem shr_up (y c : Nat) : M.Tm.upr (shr y c) = shr y (c + 1) := by
  funext n
  cases n with
  | zero => simp [M.Tm.upr, shr]
  | succ n =>
    show shr y c n + 1 = _
    unfold shr
    by_cases h : c ≤ n
    · rw [if_pos h, if_pos (by omega)]; omega
    · rw [if_neg h, if_neg (by omega)]
theorem enc_shf (y : Nat) : ∀ (t : M.Tm) (c : Nat), shfT (y : Int) (enc t) (c : Int) = enc (t.ren (shr y c)) := by
  have u0 : ∀ (k : Int) (c : Nat), (c : Int) + und k 0 = (c : Int) := fun k c => by simp [und]
  intro t
  induction t with
  | var n =>
    intro c
    simp only [enc, M.Tm.ren, shfT, shfTs, shr]
    by_cases h : c ≤ n
    · rw [if_pos ⟨trivial, by omega⟩, if_pos h]; congr 1
    · rw [if_neg (fun e => h (by omega)), if_neg h]
  | pi A B i1 i2 =>
    intro c
    simp only [enc, M.Tm.ren, shfT, shfTs, u0, i1, shr_up]
    rw [show (c : Int) + und 3 (0 + 1) = ((c + 1 : Nat) : Int) from rfl, i2]
    rfl
  | lam A B i1 i2 =>
    intro c
    simp only [enc, M.Tm.ren, shfT, shfTs, u0, i1, shr_up]
    rw [show (c : Int) + und 4 (0 + 1) = ((c + 1 : Nat) : Int) from rfl, i2]
    rfl
  | sg A B i1 i2 =>
    intro c
    simp only [enc, M.Tm.ren, shfT, shfTs, u0, i1, shr_up]
    rw [show (c : Int) + und 13 (0 + 1) = ((c + 1 : Nat) : Int) from rfl, i2]
    rfl
  | _ => intro c; simp_all [enc, M.Tm.ren, shfT, shfTs, und]
/-- u for the variable k, inside of k binders. -/
def sbk (u : M.Tm) (k n : Nat) : M.Tm := if n = k then u.ren (fun i => i + k) else if k < n then .var (n - 1) else .var n
theorem sbk_zero (u : M.Tm) : sbk u 0 = M.Tm.cns u M.Tm.var := by
  funext n
  cases n with
  | zero => simp [sbk, M.Tm.cns, M.Tm.ren_id]
  | succ n => simp [sbk, M.Tm.cns]
theorem sbk_up (u : M.Tm) (k : Nat) : M.Tm.ups (sbk u k) = sbk u (k + 1) := by
  funext n
  cases n with
  | zero => simp [M.Tm.ups, sbk]
  | succ n =>
    show M.Tm.wk (sbk u k n) = sbk u (k + 1) (n + 1)
    by_cases h : n = k
    · have e1 : sbk u k n = u.ren (fun i => i + k) := if_pos h
      have e2 : sbk u (k + 1) (n + 1) = u.ren (fun i => i + (k + 1)) := if_pos (by omega)
      rw [e1, e2, M.Tm.wk, M.Tm.ren_ren]; rfl
    · by_cases h2 : k < n
      · have e1 : sbk u k n = .var (n - 1) := by unfold sbk; rw [if_neg h, if_pos h2]
        have e2 : sbk u (k + 1) (n + 1) = .var n := by unfold sbk; rw [if_neg (by omega), if_pos (by omega)]; rfl
        rw [e1, e2]
        show M.Tm.var (n - 1 + 1) = _
        congr 1
        omega
      · have e1 : sbk u k n = .var n := by unfold sbk; rw [if_neg h, if_neg h2]
        have e2 : sbk u (k + 1) (n + 1) = .var (n + 1) := by unfold sbk; rw [if_neg (by omega), if_neg (by omega)]
        rw [e1, e2]; rfl
theorem shr_zero (k : Nat) : shr k 0 = fun i => i + k := by funext i; simp [shr]
theorem enc_sbs (u : M.Tm) : ∀ (t : M.Tm) (k : Nat), sbsT (enc u) (enc t) (k : Int) (k : Int) = enc (t.sub (sbk u k)) := by
  have u0 : ∀ (k : Int) (c : Nat), (c : Int) + und k 0 = (c : Int) := fun k c => by simp [und]
  intro t
  induction t with
  | var n =>
    intro k
    simp only [enc, M.Tm.sub, sbsT, sbsTs, sbk]
    by_cases h : n = k
    · rw [if_pos ⟨trivial, by omega⟩, if_pos h, ← shr_zero]
      exact enc_shf k u 0
    · rw [if_neg (fun e => h (by omega)), if_neg h]
      by_cases h2 : k < n
      · rw [if_pos ⟨trivial, by omega⟩, if_pos h2]
        simp only [enc]
        congr 1
        omega
      · rw [if_neg (fun e => h2 (by omega)), if_neg h2]; rfl
  | pi A B i1 i2 =>
    intro c
    simp only [enc, M.Tm.sub, sbsT, sbsTs, u0, i1, sbk_up]
    rw [show (c : Int) + und 3 (0 + 1) = ((c + 1 : Nat) : Int) from rfl, i2]
    rfl
  | lam A B i1 i2 =>
    intro c
    simp only [enc, M.Tm.sub, sbsT, sbsTs, u0, i1, sbk_up]
    rw [show (c : Int) + und 4 (0 + 1) = ((c + 1 : Nat) : Int) from rfl, i2]
    rfl
  | sg A B i1 i2 =>
    intro c
    simp only [enc, M.Tm.sub, sbsT, sbsTs, u0, i1, sbk_up]
    rw [show (c : Int) + und 13 (0 + 1) = ((c + 1 : Nat) : Int) from rfl, i2]
    rfl
  | _ => intro c; simp_all [enc, M.Tm.sub, sbsT, sbsTs, und]
theorem enc_inst (t u : M.Tm) : sbsT (enc u) (enc t) 0 0 = enc (t.inst u) := by
  have := enc_sbs u t 0
  rw [sbk_zero] at this
  exact this
theorem enc_inj : ∀ {t u : M.Tm}, enc t = enc u → t = u := by
  intro t
  induction t <;> intro u h <;> cases u <;> simp [enc] at h ⊢ <;> first | omega | (obtain ⟨h1, h2, h3, h4⟩ := h; refine ⟨?_, ?_, ?_, ?_⟩ <;> solve_by_elim) | (obtain ⟨h1, h2, h3⟩ := h; refine ⟨?_, ?_, ?_⟩ <;> solve_by_elim) | (obtain ⟨h1, h2⟩ := h; refine ⟨?_, ?_⟩ <;> solve_by_elim) | solve_by_elim
/-- Reduction of terms is reduction of trees. -/
theorem enc_par {t t' : M.Tm} (h : M.Par t t') : Par (enc t) (enc t') := by
  induction h with
  | var n => exact Par.refl _
  | sort n => exact Par.refl _
  | nat => exact Par.refl _
  | zero => exact Par.refl _
  | @beta A b b' a a' h1 h2 i1 i2 =>
    have h := Par.red (k := 5) (n := 0) (ks := [enc (.lam A b), enc a]) (by simp [rdx, kd, Tr.kind, enc]) (.cons (.node (k := 4) (n := 0) (.cons (Par.refl (enc A)) (.cons i1 .nil))) (.cons i2 .nil))
    rw [← enc_inst]
    exact h
  | @ez p z z' s h i => exact Par.red (k := 9) (n := 0) (ks := [enc p, enc z, enc s, enc .zero]) (by simp [rdx, kd, Tr.kind, enc]) (.cons (Par.refl _) (.cons i (.cons (Par.refl _) (.cons (Par.refl _) .nil))))
  | @es p p' z z' s s' a a' h1 h2 h3 h4 i1 i2 i3 i4 => exact Par.red (k := 9) (n := 0) (ks := [enc p, enc z, enc s, enc (.succ a)]) (by simp [rdx, kd, Tr.kind, enc]) (.cons i1 (.cons i2 (.cons i3 (.cons (.node (k := 8) (n := 0) (.cons i4 .nil)) .nil))))
  | @mr p b a a' h i => exact Par.red (k := 12) (n := 0) (ks := [enc p, enc (.refl b), enc a]) (by simp [rdx, kd, Tr.kind, enc]) (.cons (Par.refl _) (.cons (Par.refl _) (.cons i .nil)))
  | @fp T a a' b h i => exact Par.red (k := 15) (n := 0) (ks := [enc (.pair T a b)]) (by simp [rdx, kd, Tr.kind, enc]) (.cons (.node (k := 14) (n := 0) (.cons (Par.refl _) (.cons i (.cons (Par.refl _) .nil)))) .nil)
  | @sp T a b b' h i => exact Par.red (k := 16) (n := 0) (ks := [enc (.pair T a b)]) (by simp [rdx, kd, Tr.kind, enc]) (.cons (.node (k := 14) (n := 0) (.cons (Par.refl _) (.cons (Par.refl _) (.cons i .nil)))) .nil)
  | elim h1 h2 h3 h4 i1 i2 i3 i4 => exact .node (.cons i1 (.cons i2 (.cons i3 (.cons i4 .nil))))
  | pi h1 h2 i1 i2 => exact .node (.cons i1 (.cons i2 .nil))
  | lam h1 h2 i1 i2 => exact .node (.cons i1 (.cons i2 .nil))
  | app h1 h2 i1 i2 => exact .node (.cons i1 (.cons i2 .nil))
  | sg h1 h2 i1 i2 => exact .node (.cons i1 (.cons i2 .nil))
  | id h1 h2 h3 i1 i2 i3 => exact .node (.cons i1 (.cons i2 (.cons i3 .nil)))
  | move h1 h2 h3 i1 i2 i3 => exact .node (.cons i1 (.cons i2 (.cons i3 .nil)))
  | pair h1 h2 h3 i1 i2 i3 => exact .node (.cons i1 (.cons i2 (.cons i3 .nil)))
  | succ h i => exact .node (.cons i .nil)
  | refl h i => exact .node (.cons i .nil)
  | fst h i => exact .node (.cons i .nil)
  | snd h i => exact .node (.cons i .nil)
theorem enc_red {t t' : M.Tm} (h : M.Red t t') : Reds (enc t) (enc t') := by
  induction h with
  | refl => exact .refl _
  | step h1 _ ih => exact (Reds.one (enc_par h1)).trans ih
/-- What a term's tree reduces to is a term's tree. -/
theorem par_enc : ∀ {t : M.Tm} {t' : Tr}, Par (enc t) t' → ∃ m, t' = enc m ∧ M.Par t m := by
  have no : ∀ {k : Int} {ks : List Tr}, rdx k ks ≠ 0 → k = 5 ∨ k = 9 ∨ k = 12 ∨ k = 15 ∨ k = 16 := by
    intro k ks h
    by_cases h5 : k = 5
    · exact .inl h5
    by_cases h9 : k = 9
    · exact .inr (.inl h9)
    by_cases h12 : k = 12
    · exact .inr (.inr (.inl h12))
    by_cases h15 : k = 15
    · exact .inr (.inr (.inr (.inl h15)))
    by_cases h16 : k = 16
    · exact .inr (.inr (.inr (.inr h16)))
    exact absurd (rdx_none h5 h9 h12 h15 h16) h
  intro t
  induction t with
  | var n => intro t' h; cases h with
    | node h => cases h; exact ⟨.var n, rfl, .var n⟩
    | red h => exact absurd (no h) (by decide)
  | sort n => intro t' h; cases h with
    | node h => cases h; exact ⟨.sort n, rfl, .sort n⟩
    | red h => exact absurd (no h) (by decide)
  | nat => intro t' h; cases h with
    | node h => cases h; exact ⟨.nat, rfl, .nat⟩
    | red h => exact absurd (no h) (by decide)
  | zero => intro t' h; cases h with
    | node h => cases h; exact ⟨.zero, rfl, .zero⟩
    | red h => exact absurd (no h) (by decide)
  | pi A B i1 i2 => intro t' h; cases h with
    | node h =>
      cases h with
      | cons h1 h =>
      cases h with
      | cons h2 h =>
      cases h
      obtain ⟨a, rfl, k1⟩ := i1 h1
      obtain ⟨b, rfl, k2⟩ := i2 h2
      exact ⟨.pi a b, rfl, .pi k1 k2⟩
    | red h => exact absurd (no h) (by decide)
  | lam A B i1 i2 => intro t' h; cases h with
    | node h =>
      cases h with
      | cons h1 h =>
      cases h with
      | cons h2 h =>
      cases h
      obtain ⟨a, rfl, k1⟩ := i1 h1
      obtain ⟨b, rfl, k2⟩ := i2 h2
      exact ⟨.lam a b, rfl, .lam k1 k2⟩
    | red h => exact absurd (no h) (by decide)
  | sg A B i1 i2 => intro t' h; cases h with
    | node h =>
      cases h with
      | cons h1 h =>
      cases h with
      | cons h2 h =>
      cases h
      obtain ⟨a, rfl, k1⟩ := i1 h1
      obtain ⟨b, rfl, k2⟩ := i2 h2
      exact ⟨.sg a b, rfl, .sg k1 k2⟩
    | red h => exact absurd (no h) (by decide)
  | id A B D i1 i2 i3 => intro t' h; cases h with
    | node h =>
      cases h with
      | cons h1 h =>
      cases h with
      | cons h2 h =>
      cases h with
      | cons h3 h =>
      cases h
      obtain ⟨a, rfl, k1⟩ := i1 h1
      obtain ⟨b, rfl, k2⟩ := i2 h2
      obtain ⟨c, rfl, k3⟩ := i3 h3
      exact ⟨.id a b c, rfl, .id k1 k2 k3⟩
    | red h => exact absurd (no h) (by decide)
  | pair A B D i1 i2 i3 => intro t' h; cases h with
    | node h =>
      cases h with
      | cons h1 h =>
      cases h with
      | cons h2 h =>
      cases h with
      | cons h3 h =>
      cases h
      obtain ⟨a, rfl, k1⟩ := i1 h1
      obtain ⟨b, rfl, k2⟩ := i2 h2
      obtain ⟨c, rfl, k3⟩ := i3 h3
      exact ⟨.pair a b c, rfl, .pair k1 k2 k3⟩
    | red h => exact absurd (no h) (by decide)
  | succ A i1 => intro t' h; cases h with
    | node h =>
      cases h with
      | cons h1 h =>
      cases h
      obtain ⟨a, rfl, k1⟩ := i1 h1
      exact ⟨.succ a, rfl, .succ k1⟩
    | red h => exact absurd (no h) (by decide)
  | refl A i1 => intro t' h; cases h with
    | node h =>
      cases h with
      | cons h1 h =>
      cases h
      obtain ⟨a, rfl, k1⟩ := i1 h1
      exact ⟨.refl a, rfl, .refl k1⟩
    | red h => exact absurd (no h) (by decide)
  | app A B i1 i2 => intro t' h; cases h with
    | node h =>
      cases h with
      | cons h1 h =>
      cases h with
      | cons h2 h =>
      cases h
      obtain ⟨a, rfl, k1⟩ := i1 h1
      obtain ⟨b, rfl, k2⟩ := i2 h2
      exact ⟨.app a b, rfl, .app k1 k2⟩
    | red hr h =>
      cases h with
      | cons h1 h =>
      cases h with
      | cons h2 h =>
      cases h
      obtain ⟨a, rfl, k1⟩ := i1 h1
      obtain ⟨b, rfl, k2⟩ := i2 h2
      cases A <;> simp [rdx, kd, Tr.kind, enc] at hr
      cases k1 with
      | lam l1 l2 => exact ⟨_, by show sbsT (enc b) (enc _) 0 0 = _; exact enc_inst _ _, .beta l2 k2⟩
  | fst A i1 => intro t' h; cases h with
    | node h =>
      cases h with
      | cons h1 h =>
      cases h
      obtain ⟨a, rfl, k1⟩ := i1 h1
      exact ⟨.fst a, rfl, .fst k1⟩
    | red hr h =>
      cases h with
      | cons h1 h =>
      cases h
      obtain ⟨a, rfl, k1⟩ := i1 h1
      cases A <;> simp [rdx, kd, Tr.kind, enc] at hr
      cases k1 with
      | pair l1 l2 l3 => exact ⟨_, rfl, .fp l2⟩
  | snd A i1 => intro t' h; cases h with
    | node h =>
      cases h with
      | cons h1 h =>
      cases h
      obtain ⟨a, rfl, k1⟩ := i1 h1
      exact ⟨.snd a, rfl, .snd k1⟩
    | red hr h =>
      cases h with
      | cons h1 h =>
      cases h
      obtain ⟨a, rfl, k1⟩ := i1 h1
      cases A <;> simp [rdx, kd, Tr.kind, enc] at hr
      cases k1 with
      | pair l1 l2 l3 => exact ⟨_, rfl, .sp l3⟩
  | move A B D i1 i2 i3 => intro t' h; cases h with
    | node h =>
      cases h with
      | cons h1 h =>
      cases h with
      | cons h2 h =>
      cases h with
      | cons h3 h =>
      cases h
      obtain ⟨a, rfl, k1⟩ := i1 h1
      obtain ⟨b, rfl, k2⟩ := i2 h2
      obtain ⟨c, rfl, k3⟩ := i3 h3
      exact ⟨.move a b c, rfl, .move k1 k2 k3⟩
    | red hr h =>
      cases h with
      | cons h1 h =>
      cases h with
      | cons h2 h =>
      cases h with
      | cons h3 h =>
      cases h
      obtain ⟨c, rfl, k3⟩ := i3 h3
      cases B <;> simp [rdx, kd, Tr.kind, enc] at hr
      exact ⟨c, rfl, .mr k3⟩
  | elim A B D E i1 i2 i3 i4 => intro t' h; cases h with
    | node h =>
      cases h with
      | cons h1 h =>
      cases h with
      | cons h2 h =>
      cases h with
      | cons h3 h =>
      cases h with
      | cons h4 h =>
      cases h
      obtain ⟨a, rfl, k1⟩ := i1 h1
      obtain ⟨b, rfl, k2⟩ := i2 h2
      obtain ⟨c, rfl, k3⟩ := i3 h3
      obtain ⟨d, rfl, k4⟩ := i4 h4
      exact ⟨.elim a b c d, rfl, .elim k1 k2 k3 k4⟩
    | red hr h =>
      cases h with
      | cons h1 h =>
      cases h with
      | cons h2 h =>
      cases h with
      | cons h3 h =>
      cases h with
      | cons h4 h =>
      cases h
      obtain ⟨a, rfl, k1⟩ := i1 h1
      obtain ⟨b, rfl, k2⟩ := i2 h2
      obtain ⟨c, rfl, k3⟩ := i3 h3
      obtain ⟨d, rfl, k4⟩ := i4 h4
      cases E <;> simp [rdx, kd, Tr.kind, enc] at hr
      · cases k4
        exact ⟨b, rfl, .ez k2⟩
      · cases k4 with
        | succ k5 => exact ⟨_, rfl, .es k1 k2 k3 k5⟩
theorem red_enc {t' u : Tr} (h : Reds u t') : ∀ {t : M.Tm}, u = enc t → ∃ m, t' = enc m ∧ M.Red t m := by
  induction h with
  | refl => intro t e; exact ⟨t, e, .refl t⟩
  | step h1 h2 ih =>
    intro t e
    obtain ⟨m, e1, r1⟩ := ih e
    subst e1
    obtain ⟨m2, e2, r2⟩ := par_enc h2
    exact ⟨m2, e2, r1.trans (.one r2)⟩
end Go.Proofs.Ytdkamgafpphdjaa
