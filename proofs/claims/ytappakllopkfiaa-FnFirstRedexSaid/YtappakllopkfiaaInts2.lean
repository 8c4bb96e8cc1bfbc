/-
  append of one number, and where the new row lies.
-/
import Derived.Test.YtappakllopkfiaaInts
namespace Go.Proofs.Ytappakllopkfiaa
open Go.RowKit
set_option linter.unusedVariables false

/-- 'out = append(out, x)' on a row of one-cell elements. -/
theorem wpList_append_one {P : Program} (w : World) {ops : Array Oper} {rest : List Oper} {o : Oper} {a : Act} {Q : Exit → Act → World → Prop} (hgd : o.guard = none) (s x : Operand) (t : TypeId)
    (ho : o.op = .call { callee := .builtin .append, args := #[s, x], argTypes := #[t, t] })
    (base : Nat) (e e' : TypeId) (i : TypeInfo) (z : Value) (bytes : Nat) (ht : P.underlying t = some (.slice e)) (hi : P.info? e = some i) (hz : i.zero = some z) (hsize : i.size = 1) (hby : i.bytes = bytes) (hb8 : bytes ≤ 64) (hzs : z.cells.size = 1)
    {v : Value} {n : Nat} {xs : List Value} {y : Value} {gx : Nat} (hy : y.oneCell' = true) (hs : a.eval s = v) (hown : w.ownsRow base e 1 v n xs)
    (hx : a.eval x = .slice (some ⟨gx, 0, none⟩) 1 1) (hgx : w.heap[gx]? = some (.cells #[y] e' (0, 0))) (hn : n < 1099511627776) (hbase : base ≤ w.heap.size)
    (h : ∀ v' w', w'.ownsRow base e 1 v' (n + 1) (xs ++ [y]) → w.grownBy w' v.ownBlock → (∀ g, v'.ownBlock = some g → v.ownBlock = some g ∨ w.heap.size ≤ g) → wpList P ops Q rest (a.put o.dst v') w') : wpList P ops Q (o :: rest) a w := by
  refine wpList_plain hgd fun K hK => ?_
  have hc : ∀ j u, [y][j]? = some u → w.cell? ((⟨gx, 0, none⟩ : Addr).add j) = some u := by
    intro j u hu
    rw [Addr.add_lit, Nat.zero_add, cell_of_blk hgx]
    simpa using hu
  have h1 : ∀ u ∈ [y], u.oneCell' = true := by intro u hu; rw [List.mem_singleton.1 hu]; exact hy
  have hb : (n + 1) * bytes ≤ 140737488355328 := Nat.le_trans (Nat.mul_le_mul (show n + 1 ≤ 1099511627776 by omega) hb8) (by decide)
  obtain ⟨v', w', hr, r1, r2, r3⟩ := run_append_own' (P := P) w base t o.type e i z 1 bytes ht hi hz hsize hby hzs (by decide) v n xs hown ⟨gx, 0, none⟩ 1 1 [y] rfl hc h1 (by unfold maxLen; omega) hb hbase
  unfold Oper.wp execOp
  simp only [ho, resolve, invoke, builtin, Sem.run_bind, Sem.run_pure, Result.andThen_ok, List.map_toArray, List.map_cons, List.map_nil, hs, hx, hr]
  exact hK _ _ (h v' w' r1 r2 r3)
theorem Only.grown' {L : List Nat} {a w w' : World} {row : Option Nat} (h : Only L a w) (hg : w.grownBy w' row) (hr : ∀ k, row = some k → k ∈ L ∨ a.heap.size ≤ k) : Only L a w' :=
  ⟨hg.os.trans h.os, hg.tape.trans h.tape, hg.output.trans h.output, Nat.le_trans h.size hg.size, fun i hi hn => (hg.block i (Nat.lt_of_lt_of_le hi h.size) (fun he => by rcases hr i he.symm with h1 | h1; exact hn h1; omega)).trans (h.block i hi hn)⟩
theorem ownsRow_nums {w : World} {base : Nat} {e : TypeId} {v : Value} {ns : List Int} (hG : w.ownsRow base e 1 v ns.length (ns.map (Value.int .i64))) : ∃ B c, v = .slice B ns.length c ∧ ns.length ≤ c ∧ c ≤ maxLen ∧ Nums w B ns := by
  have hcl := fun g' hg' => hG.cells (g := g') hg'
  rcases hG.2 with ⟨rfl, h0⟩ | ⟨g', c', cur, rfl, hb', hg', hn', hm', _⟩
  · obtain rfl : ns = [] := List.eq_nil_of_length_eq_zero h0
    exact ⟨none, 0, rfl, Nat.le_refl _, Nat.zero_le _, .inl rfl⟩
  · refine ⟨_, c', rfl, hn', hm', .inr ⟨g', 0, rfl, lt_of_blk hg', fun jj hjj => ?_⟩⟩
    have := hcl g' rfl jj (.int .i64 ns[jj]) (by rw [List.getElem?_map, List.getElem?_eq_getElem hjj]; rfl)
    rwa [Addr.add_lit] at this
end Go.Proofs.Ytappakllopkfiaa
