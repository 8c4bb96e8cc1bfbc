/-
  Lemmas towards the law, 15: Nums, Scan.
-/
import Derived.Test.YtdkamgafpphdjaaEAN
namespace Go.Proofs.Ytdkamgafpphdjaa
open Go.RowKit Go.ChangeShapes Go.WideShapes Go.Deep
set_option linter.unusedVariables false

/-- The numbers lie in w from A on. -/
def Nums (w : World) (A : Option Addr) (ns : List Int) : Prop := ns = [] ∨ ∃ b o, A = some ⟨b, o, none⟩ ∧ b < w.heap.size ∧ ∀ j (h : j < ns.length), w.cell? ⟨b, o + j, none⟩ = some (.int .i64 ns[j])
theorem Nums.ext {w w' : World} {A : Option Addr} {ns : List Int} (h : Nums w A ns) (he : Ext w w') : Nums w' A ns := by
  rcases h with h | ⟨b, o, rfl, hb, hc⟩
  · exact .inl h
  · exact .inr ⟨b, o, rfl, Nat.lt_of_lt_of_le hb he.size, fun j hj => he.cell (hc j hj)⟩
theorem Nums.get {w w' : World} {A : Option Addr} {ns : List Int} (h : Nums w A ns) (he : Ext w w') {j : Nat} (hj : j < ns.length) : ∃ b o, A = some ⟨b, o, none⟩ ∧ w'.cell? ⟨b, o + j, none⟩ = some (.int .i64 ns[j]) := by
  rcases h with rfl | ⟨b, o, rfl, hb, hc⟩
  · exact absurd hj (by simp)
  · exact ⟨b, o, rfl, he.cell (hc j hj)⟩
theorem At.nums {w : World} {A : Option Addr} {ns : List Int} (h : Nums w A ns) : At w (fun w' => Nums w' A ns) := fun _ hx => h.ext hx

section
variable {H : Type} {enc : TypeId × Value → H} {P : Program} {w : World} {spare : Nat → Bool} {held : Bool}
/-- An argument that is a slice of ints. -/
theorem open_nums {s i : TypeId} (hs : P.underlying s = some (.slice i)) (hi : P.underlying i = some (.int .i64)) (ci : P.cellsOf i = 1) {r : Reach} {b0 : Nat} {v : Value} {d : DataW H} {p : List MemPlace} (hv : Value.okWide P w r b0 s v) (h : DataW.Trod enc P w 0 spare held s v d p) :
    ∃ (A : Option Addr) (cap : Nat) (ns : List Int), v = .slice A ns.length cap ∧ ns.length ≤ cap ∧ cap ≤ maxLen ∧ Nums w A ns := by
  obtain ⟨a0, len0, cap0, rfl⟩ := okWide_slice hs hv
  obtain ⟨fuel, hf⟩ := h
  rcases DataW.trod_slice hs hf with ⟨hcs, _⟩ | ⟨a, len, cap, elems, rest, n, rfl, hcs, _, _, hl, hm, hlen, hel, _, _⟩
  · simp only [Value.cells, List.cons.injEq, and_true] at hcs
    exact ⟨none, 0, [], hcs, Nat.le_refl _, Nat.zero_le _, .inl rfl⟩
  · have hel' : ∀ j, j < len → ∃ x : Int, w.cell? (a.add j) = some (.int .i64 x) := by
      intro j hj
      have hj' := hel j hj
      rw [List.getElem?_eq_getElem (by omega)] at hj'
      obtain ⟨cs', h1, h2⟩ := Option.bind_eq_some_iff.1 hj'
      obtain ⟨x, rfl, _, _⟩ := DataW.trod_int hi h2
      obtain ⟨_, _, hcell⟩ := World.cells?_some h1
      rw [ci] at hcell
      have q0 := hcell 0 (by omega)
      rw [Nat.mul_one] at q0
      have e0 : ∀ y : Addr, y.add 0 = y := fun y => by simp [Addr.add]
      rw [e0] at q0
      exact ⟨x, q0⟩
    obtain ⟨ns, hns, hp⟩ := choose_list len hel'
    subst hns
    simp only [Value.cells, List.cons.injEq, and_true] at hcs
    refine ⟨some a, cap, ns, hcs, hl, hm, ?_⟩
    cases ns with
    | nil => exact .inl rfl
    | cons t0 ts =>
      obtain ⟨b, o, spot⟩ := a
      have hlt : b < w.heap.size ∧ spot = none := by
        have q0 := hp 0 (by simp)
        have e0 : (⟨b, o, spot⟩ : Addr).add 0 = ⟨b, o, spot⟩ := by simp [Addr.add]
        rw [e0] at q0
        exact ⟨World.block_lt_of_cell? _ _ q0, by simpa using World.cell?_spot q0⟩
      obtain ⟨hlt, rfl⟩ := hlt
      refine .inr ⟨b, o, rfl, hlt, fun j hj => ?_⟩
      have q0 := hp j hj
      rw [add_plain'] at q0
      exact q0
end

def arity (f : Int) : Int := if f = 1 ∨ f = 2 ∨ f = 4 then 2 else if f = 3 ∨ f = 5 ∨ f = 6 then 1 else -1
def fits (f : Int) (ns : List Int) : Bool := decide (arity f = (ns.length : Int)) && ns.all (fun n => inR n 0 20)
/-- The value of a function of numbers. -/
def funVal (f : Int) (ns : List Int) : Int × Bool :=
  if fits f ns = true then
    match ns with
    | [a] => (if f = 3 then (if a = 0 then 0 else a - 1) else if f = 6 then 2 * a else if a = 0 then 1 else 0, true)
    | [a, b] => (if f = 1 then a + b else if f = 2 then a * b else if a < b then 0 else a - b, true)
    | _ => (0, false)
  else (0, false)


theorem isNumber_any (n : Int) (w : World) : Calls Try.prog 13 #[.int .i64 n] w fun e w' => e = .returned (.bool (inR n 0 20)) ∧ w = w' := by
  go_enter Try.func13, Try.ntmps13
  go_wp2_with fail
  refine (within_any _ _ _ _).mono ?_
  rintro e w1 ⟨rfl, rfl⟩
  go_wp2_with fail
  go_ret
  exact ⟨rfl, rfl⟩

theorem fits_true {f : Int} {ns : List Int} (h : fits f ns = true) : (∃ a b, ns = [a, b] ∧ 0 ≤ a ∧ a ≤ 20 ∧ 0 ≤ b ∧ b ≤ 20 ∧ (f = 1 ∨ f = 2 ∨ f = 4)) ∨ (∃ a, ns = [a] ∧ 0 ≤ a ∧ a ≤ 20 ∧ (f = 3 ∨ f = 5 ∨ f = 6)) := by
  unfold fits at h
  rw [Bool.and_eq_true] at h
  have h1 := of_decide_eq_true h.1
  have h2 := h.2
  rw [List.all_eq_true] at h2
  unfold arity at h1
  by_cases c1 : f = 1 ∨ f = 2 ∨ f = 4
  · rw [if_pos c1] at h1
    match ns, h1 with
    | [a, b], _ =>
      have ha := inR_iff.1 (h2 a (by simp))
      have hb := inR_iff.1 (h2 b (by simp))
      exact .inl ⟨a, b, rfl, ha.1, ha.2, hb.1, hb.2, c1⟩
    | [], h1 => simp at h1
    | [a], h1 => simp at h1
    | a :: b :: c :: ts, h1 => simp at h1; omega
  · rw [if_neg c1] at h1
    by_cases c2 : f = 3 ∨ f = 5 ∨ f = 6
    · rw [if_pos c2] at h1
      match ns, h1 with
      | [a], _ =>
        have ha := inR_iff.1 (h2 a (by simp))
        exact .inr ⟨a, rfl, ha.1, ha.2, c2⟩
      | [], h1 => simp at h1
      | a :: b :: ts, h1 => simp at h1; omega
    · rw [if_neg c2] at h1
      omega

end Go.Proofs.Ytdkamgafpphdjaa

namespace Go.Proofs.Ytdkamgafpphdjaa
open Go.RowKit
set_option linter.unusedVariables false
def ScanTermC (t : Tr) : Prop := ∀ (w : World) (B g : Nat) (v : Value) (deep c : Int), InT w (fun b => b < B) t v → B ≤ g → w.heap[g]? = some (.cells #[.int .i64 c] 3 (0, 0)) → 0 ≤ c → c ≤ 400 → 0 ≤ deep → deep ≤ 40 →
  Calls Try.prog 33 #[v, .int .i64 deep, .pointer (some ⟨g, 0, none⟩)] w fun e w' => e = .returned (.bool (scanR sigT t deep c).1) ∧ w'.heap[g]? = some (.cells #[.int .i64 (scanR sigT t deep c).2] 3 (0, 0)) ∧ Below B w w'
set_option maxRecDepth 100000 in
set_option maxHeartbeats 1600000 in
theorem scanTerm_any : ∀ t : Tr, ScanTermC t := Tr.ind fun k n ks hk => by
  intro w B g v deep c hin hBg hblk hc0 hc1 hd0 hd1
  obtain ⟨A, cap, rfl, hl, hc, h⟩ := InT.mk_iff.1 hin
  clear hin
  have hc' := hc
  unfold maxLen at hc'
  have hgs := lt_of_blk hblk
  have q0 : w.cell? ⟨g, 0, none⟩ = some (.int .i64 c) := cell_of_blk hblk 0
  have q1 := frozen_of_blk hblk 0
  have e : scanR sigT (.mk k n ks) deep c = if 400 < c + 1 then (false, c + 1) else if 30 < deep then (false, c + 1) else if opsT k = (ks.length : Int) then (if inR n 0 (mostT k) = true then scanRs sigT ks (deep + 1) (c + 1) else (false, c + 1)) else (false, c + 1) := by
    unfold scanR; rfl
  have E := Lib.hid e
  have HB := Lib.hid hblk
  have hW : ∀ W, W = (w.setCell ⟨g, 0, none⟩ (.int .i64 (c + 1))).alloc (.cells #[.int .i64 k, .int .i64 n, .slice A ks.length cap] 27) → W.heap[g]? = some (.cells #[.int .i64 (c + 1)] 3 (0, 0)) ∧ W.heap[w.heap.size]? = some (.cells #[.int .i64 k, .int .i64 n, .slice A ks.length cap] 27 (0, 0)) ∧ Below B w W ∧ w.heap.size < W.heap.size := by
    rintro W rfl
    have e0 := heap_alloc_new (w.setCell ⟨g, 0, none⟩ (.int .i64 (c + 1))) (.cells #[.int .i64 k, .int .i64 n, .slice A ks.length cap] 27)
    rw [World.size_setCell] at e0
    exact ⟨blk_alloc (blk_setCell HB.out 0 _) _, e0, ((Below.refl B w).setCell hBg _).alloc (by simp; omega) _, by simp⟩
  have HW := Lib.hid hW
  clear hW e 
  by_cases a1 : 400 < c + 1
  · rw [if_pos a1] at E
    have d1 : decide (400 < c + 1) = true := decide_eq_true a1
    go_enter Try.func33, Try.ntmps33
    go_wp2_with fail
    have hb := HW.out _ rfl
    generalize (w.setCell _ _).alloc _ = W at hb
    obtain ⟨b1, b2, b3, b4⟩ := hb
    obtain ⟨y0, y1, y2⟩ := Later.own3 b2
    have y3 : ∀ y : Later W, y.world.cell? ⟨g, 0, none⟩ = some (.int .i64 (c + 1)) := fun y => Later.cell (cell_of_blk b1 0) y
    have B1 := Lib.hid b1
    have B2 := Lib.hid b2
    clear b2 b1 q0 q1 hblk
    refine wp_region_later (by kernel_rfl) (by kernel_rfl) ?_
    repeat (go_big_quiet_step (first | (go_at_call 39; exact later_of (opsT_any _ _)) | (go_at_call 19; exact later_of_same (within_any _ _ _ _)) | (go_at_call 40; exact later_of_same (mostT_any _ _))))
    refine wpQuiet_nil ?_
    intro w3 hw'
    obtain ⟨⟨_, h3⟩, rfl⟩ := hw'
    clear y0 y1 y2 y3
    go_wp2_with fail
    go_ret
    exact ⟨by rw [E.out]; rfl, by rw [E.out]; exact h3.blk B1.out, b3.trans (h3.mono (by omega))⟩
  rw [if_neg a1] at E
  have d1 : decide (400 < c + 1) = false := decide_eq_false a1
  by_cases a2 : 30 < deep
  · rw [if_pos a2] at E
    have d2 : decide (30 < deep) = true := decide_eq_true a2
    go_enter Try.func33, Try.ntmps33
    go_wp2_with fail
    have hb := HW.out _ rfl
    generalize (w.setCell _ _).alloc _ = W at hb
    obtain ⟨b1, b2, b3, b4⟩ := hb
    obtain ⟨y0, y1, y2⟩ := Later.own3 b2
    have y3 : ∀ y : Later W, y.world.cell? ⟨g, 0, none⟩ = some (.int .i64 (c + 1)) := fun y => Later.cell (cell_of_blk b1 0) y
    have B1 := Lib.hid b1
    have B2 := Lib.hid b2
    clear b2 b1 q0 q1 hblk
    refine wp_region_later (by kernel_rfl) (by kernel_rfl) ?_
    repeat (go_big_quiet_step (first | (go_at_call 39; exact later_of (opsT_any _ _)) | (go_at_call 19; exact later_of_same (within_any _ _ _ _)) | (go_at_call 40; exact later_of_same (mostT_any _ _))))
    refine wpQuiet_nil ?_
    intro w3 hw'
    obtain ⟨⟨_, h3⟩, rfl⟩ := hw'
    clear y0 y1 y2 y3
    go_wp2_with fail
    go_ret
    exact ⟨by rw [E.out]; rfl, by rw [E.out]; exact h3.blk B1.out, b3.trans (h3.mono (by omega))⟩
  rw [if_neg a2] at E
  have d2 : decide (30 < deep) = false := decide_eq_false a2
  by_cases a3 : opsT k = (ks.length : Int)
  · rw [if_pos a3] at E
    have d3 : (opsT k != (ks.length : Int)) = false := by rw [a3]; simp
    clear a3
    obtain ⟨z, hz⟩ : ∃ z, inR n 0 (mostT k) = z := ⟨_, rfl⟩
    cases z with
    | false =>
      rw [hz, if_neg (by decide)] at E
      go_enter Try.func33, Try.ntmps33
      go_wp2_with fail
      have hb := HW.out _ rfl
      generalize (w.setCell _ _).alloc _ = W at hb
      obtain ⟨b1, b2, b3, b4⟩ := hb
      obtain ⟨y0, y1, y2⟩ := Later.own3 b2
      have y3 : ∀ y : Later W, y.world.cell? ⟨g, 0, none⟩ = some (.int .i64 (c + 1)) := fun y => Later.cell (cell_of_blk b1 0) y
      have B1 := Lib.hid b1
      have B2 := Lib.hid b2
      clear b2 b1 q0 q1 hblk
      refine wp_region_later (by kernel_rfl) (by kernel_rfl) ?_
      repeat (go_big_quiet_step (first | (go_at_call 39; exact later_of (opsT_any _ _)) | (go_at_call 19; exact later_of_same (within_any _ _ _ _)) | (go_at_call 40; exact later_of_same (mostT_any _ _))))
      refine wpQuiet_nil ?_
      intro w3 hw'
      obtain ⟨⟨_, h3⟩, rfl⟩ := hw'
      clear y0 y1 y2 y3
      go_wp2_with fail
      go_ret
      exact ⟨by rw [E.out]; rfl, by rw [E.out]; exact h3.blk B1.out, b3.trans (h3.mono (by omega))⟩
    | true =>
      rw [hz, if_pos rfl] at E
      go_enter Try.func33, Try.ntmps33
      go_wp2_with fail
      have hb := HW.out _ rfl
      generalize (w.setCell _ _).alloc _ = W at hb
      obtain ⟨b1, b2, b3, b4⟩ := hb
      obtain ⟨y0, y1, y2⟩ := Later.own3 b2
      have y3 : ∀ y : Later W, y.world.cell? ⟨g, 0, none⟩ = some (.int .i64 (c + 1)) := fun y => Later.cell (cell_of_blk b1 0) y
      have B1 := Lib.hid b1
      have B2 := Lib.hid b2
      clear b2 b1 q0 q1 hblk
      refine wp_region_later (by kernel_rfl) (by kernel_rfl) ?_
      repeat (go_big_quiet_step (first | (go_at_call 39; exact later_of (opsT_any _ _)) | (go_at_call 19; exact later_of_same (within_any _ _ _ _)) | (go_at_call 40; exact later_of_same (mostT_any _ _))))
      refine wpQuiet_nil ?_
      intro w3 hw'
      obtain ⟨⟨_, h3⟩, rfl⟩ := hw'
      clear y0 y1 y2 y3
      clear hz
      obtain ⟨z0, z1, z2, -, -, -⟩ := own3 (h3.blk B2.out)
      have hg3 := h3.blk B1.out
      have hB3 : Below B w w3 := b3.trans (h3.mono (by omega))
      have B4 := Lib.hid hg3
      clear hg3
      go_wp2_with fail
      clear z0 z1 z2
      go_loopw [43] (fun i wr => ∃ (j : Nat) (q : Int), j ≤ ks.length ∧ i = .int .i64 j ∧ wr.heap[g]? = some (.cells #[.int .i64 q] 3 (0, 0)) ∧ 0 ≤ q ∧ q ≤ 400 ∧ Below B w wr ∧ scanRs sigT ks (deep + 1) (c + 1) = scanRs sigT (ks.drop j) (deep + 1) q) (fun i _ => ks.length - (intOf i).toNat)
      case atStart => exact ⟨0, c + 1, Nat.zero_le _, rfl, B4.out, by omega, by omega, hB3, rfl⟩
      case round =>
        obtain ⟨j, q, hj, rfl, hblk, hq0, hq1, hbel, heq⟩ := hrel
        have HE := Lib.hid heq
        clear heq
        by_cases hlt : j < ks.length
        · obtain ⟨b, o, k2, n2, A2, cap2, kids, rfl, HK, c0, c1, c2, hkl, hkc, hK, hin, hmem, hSb⟩ := h.get (fun x hx => hbel.block x hx) hlt
          have hks := List.drop_eq_getElem_cons hlt
          rw [HK.out] at hks
          have hst : scanRs sigT (ks.drop j) (deep + 1) q = if (scanR sigT (.mk k2 n2 kids) (deep + 1) q).1 = true then scanRs sigT (ks.drop (j + 1)) (deep + 1) (scanR sigT (.mk k2 n2 kids) (deep + 1) q).2 else (false, (scanR sigT (.mk k2 n2 kids) (deep + 1) q).2) := by rw [hks]; conv => lhs; unfold scanRs
          have hsp := scanR_spec sigT (.mk k2 n2 kids) (deep + 1) q hq0 hq1
          have HB2 := Lib.hid hblk
          have hgwr := lt_of_blk hblk
          clear hblk hks
          go_wp2_with fail
          have hE1 := (Ext.refl wr).alloc (.cells #[.int .i64 k2, .int .i64 n2, .slice A2 kids.length cap2] 27)
          have hbw : B ≤ wr.heap.size := by omega
          refine (hk _ hmem _ B g _ (deep + 1) q (hin.mono (fun _ h => h) (fun x hx => hE1.heap x (by omega))) hBg (hE1.blk HB2.out) hq0 hq1 (by omega) (by omega)).mono ?_
          rintro e w4 ⟨rfl, h4, h5⟩
          have hbel4 : Below B w w4 := hbel.trans ((Below.mono hE1 hbw).trans h5)
          generalize scanR sigT (.mk k2 n2 kids) (deep + 1) q = r at hst hsp h4
          obtain ⟨r1, r2⟩ := r
          dsimp only at hst hsp h4
          cases r1 with
          | false =>
            rw [if_neg (by decide)] at hst
            have HT := Lib.hid hst
            have H4 := Lib.hid h4
            clear hst h4 hsp
            go_wp2_with fail
            go_ret
            exact ⟨by rw [E.out, HE.out, HT.out]; rfl, by rw [E.out, HE.out, HT.out]; exact H4.out, hbel4⟩
          | true =>
            rw [if_pos rfl] at hst
            have HT := Lib.hid hst
            have H4 := Lib.hid h4
            have hr2 := hsp.2.2.2.2 rfl
            have hr3 := hsp.2.2.1
            clear hst h4 hsp
            go_wp2_with fail
            go_roundw
            case rel => exact ⟨j + 1, r2, by omega, by go_num, H4.out, by omega, hr2, hbel4, by rw [HE.out, HT.out]⟩
            case measure => simp [intOf]; omega
        · have HB2 := Lib.hid hblk
          clear hblk
          go_wp2_with fail
          go_ret
          have hjk : ks.drop j = [] := List.drop_of_length_le (by omega)
          exact ⟨by rw [E.out, HE.out, hjk]; rfl, by rw [E.out, HE.out, hjk]; exact HB2.out, hbel⟩
  · rw [if_neg a3] at E
    have d3 : (opsT k != (ks.length : Int)) = true := by rw [bne_iff_ne]; exact a3
    clear a3
    go_enter Try.func33, Try.ntmps33
    go_wp2_with fail
    have hb := HW.out _ rfl
    generalize (w.setCell _ _).alloc _ = W at hb
    obtain ⟨b1, b2, b3, b4⟩ := hb
    obtain ⟨y0, y1, y2⟩ := Later.own3 b2
    have y3 : ∀ y : Later W, y.world.cell? ⟨g, 0, none⟩ = some (.int .i64 (c + 1)) := fun y => Later.cell (cell_of_blk b1 0) y
    have B1 := Lib.hid b1
    have B2 := Lib.hid b2
    clear b2 b1 q0 q1 hblk
    refine wp_region_later (by kernel_rfl) (by kernel_rfl) ?_
    repeat (go_big_quiet_step (first | (go_at_call 39; exact later_of (opsT_any _ _)) | (go_at_call 19; exact later_of_same (within_any _ _ _ _)) | (go_at_call 40; exact later_of_same (mostT_any _ _))))
    refine wpQuiet_nil ?_
    intro w3 hw'
    obtain ⟨⟨_, h3⟩, rfl⟩ := hw'
    clear y0 y1 y2 y3
    go_wp2_with fail
    go_ret
    exact ⟨by rw [E.out]; rfl, by rw [E.out]; exact h3.blk B1.out, b3.trans (h3.mono (by omega))⟩
end Go.Proofs.Ytdkamgafpphdjaa
