/-
  DefTypes: the types of definitions, in copies.
-/
import Derived.Test.YtpbmlpngafpoeaaDefKit
import Derived.Test.YtpbmlpngafpoeaaOwn
import Derived.Test.YtpbmlpngafpoeaaCopy
namespace Go.Proofs.Ytpbmlpngafpoeaa
open Go.RowKit
set_option linter.unusedVariables false

def tys : List Tr → List Tr
  | t :: _ :: r => t :: tys r
  | _ => []
/-- DefTypes' answer. -/
def tysV (ks : List Tr) (n : Nat) : List Tr := if dfV ks n = true then tys ks else []
theorem tys_take : ∀ (ks : List Tr) (j : Nat) (h : j * 2 + 1 < ks.length), tys (ks.take ((j + 1) * 2)) = tys (ks.take (j * 2)) ++ [ks[j * 2]'(by omega)]
  | t :: b :: r, 0, h => by simp [tys]
  | t :: b :: r, j + 1, h => by
    have := tys_take r j (by simp at h; omega)
    have e1 : (j + 1 + 1) * 2 = (j + 1) * 2 + 1 + 1 := by omega
    have e2 : (j + 1) * 2 = j * 2 + 1 + 1 := by omega
    have e3 : (t :: b :: r).take ((j + 1 + 1) * 2) = t :: b :: r.take ((j + 1) * 2) := by rw [e1]; simp only [List.take_succ_cons]
    have e4 : (t :: b :: r).take ((j + 1) * 2) = t :: b :: r.take (j * 2) := by rw [e2]; simp only [List.take_succ_cons]
    have e5 : (t :: b :: r)[(j + 1) * 2]'(by omega) = r[j * 2]'(by simp at h; omega) := by
      simp only [e2, List.getElem_cons_succ]
    rw [e3, e4, e5]
    simp only [tys, List.cons_append, this]
  | [_], j, h => by simp at h
  | [], j, h => by simp at h
theorem tys_len : ∀ (ks : List Tr) (n : Nat), ks.length = n * 2 → (tys ks).length = n
  | t :: b :: r, n + 1, h => by simp [tys, tys_len r n (by simp at h; omega)]
  | [], 0, _ => rfl
  | [_], n, h => by simp at h; omega
  | [], n + 1, h => by simp at h
  | t :: b :: r, 0, h => by simp at h
theorem tys_cnts : ∀ (ks : List Tr), cnts (tys ks) ≤ cnts ks
  | t :: b :: r => by
    have := tys_cnts r
    simp only [tys, cnts]
    omega
  | [] => Nat.le_refl _
  | [_] => by simp [tys, cnts]
theorem infoTy : (Try.prog.info? 42).map (fun i => (i.zero, i.size, i.bytes)) = some (some (.agg #[.int .i64 0, .int .i64 0, .slice none 0 0]), 3, 40) := by kernel_rfl

set_option maxRecDepth 100000 in
set_option maxHeartbeats 1000000 in
theorem defTypes_any (ks : List Tr) (n cap : Nat) (w : World) (A : Option Addr) (h : LiesK w A ks) (hn : ks.length = n * 2) (hl : n ≤ cap) (hc : cap ≤ maxLen) (hcn : ∀ t ∈ ks, cnt t ≤ 1048577 ) :
    Calls Try.prog 19 #[.slice A n cap] w fun e w' => ∃ B c, e = .returned (.tuple #[.slice B (tysV ks n).length c, .bool (dfV ks n)]) ∧ (tysV ks n).length ≤ c ∧ c ≤ maxLen ∧ MadeK w w' 42 B (tysV ks n) ∧ Ext w w' := by
  have hcc := hc
  unfold maxLen at hcc
  have HV := Lib.hid (defsValid_any ks n cap w A h hn hl hc)
  have hV : tysV ks n = if dfV ks n = true then tys ks else [] := rfl
  have hval : dfV ks n = true → n ≤ 8 ∧ ∀ t ∈ ks, cnt t ≤ 400 := fun h => dfV_small h hn
  obtain ⟨i0, hi, hz0, hz1, hz2⟩ := info_parts infoTy
  obtain ⟨b, hb⟩ : ∃ b, dfV ks n = b := ⟨_, rfl⟩
  rw [hb] at HV hV hval ⊢
  clear hb
  cases b with
  | false =>
    rw [if_neg (by decide)] at hV
    rw [hV]
    clear hV hval hcn
    go_enter Try.func19, Try.ntmps19
    go_wp2_with fail
    refine HV.out.mono ?_
    rintro e w1 ⟨rfl, e1⟩
    go_wp2_with fail
    go_ret2
    exact ⟨none, 0, rfl, by simp, by simp, MadeK.nil _ _ _ _, e1⟩
  | true =>
    rw [if_pos rfl] at hV
    rw [hV]
    obtain ⟨hn8, hsm⟩ := hval rfl
    clear hV hval hcn
    go_enter Try.func19, Try.ntmps19
    go_wp2_with fail
    refine HV.out.mono ?_
    rintro e w1 ⟨rfl, e1⟩
    go_wp2_with fail
    go_loopw [4, 12] (fun v i wr => ∃ (j : Nat), j ≤ n ∧ i = .int .i64 j ∧ Grow w wr 42 v (tys (ks.take (j * 2))) ∧ Ext w wr) (fun _ i _ => n - (intOf i).toNat)
    case atStart => exact ⟨0, Nat.zero_le _, rfl, by simpa [tys] using Grow.nil _ _ _, e1⟩
    case round =>
      obtain ⟨j, hj, rfl, hG, hx⟩ := hrel
      by_cases hlt : j < n
      · obtain ⟨b, o, k1, n1, A1, p1, kids1, k2, n2, A2, p2, kids2, rfl, hbw, HK1, HK2, ⟨c0, c1, c2, c3, c4, c5⟩, ⟨l1, m1, hK1, hin1, hmem1⟩, ⟨l2, m2, hK2, hin2, hmem2⟩⟩ := h.getD (j := j) hx (by omega)
        have hj' : (j : Int) < (n : Int) := by omega
        have hl6 : w.heap.size ≤ wr.heap.size := hx.size
        have htk := tys_take ks j (by omega)
        rw [HK1.out] at htk
        have HTK := Lib.hid htk
        have hlen : (tys (ks.take (j * 2))).length = j := tys_len _ j (by rw [List.length_take]; omega)
        have HLEN := Lib.hid hlen
        clear htk hlen
        go_wp2_with fail
        have hE := (Ext.refl wr).alloc (.cells #[.int .i64 k1, .int .i64 n1, .slice A1 kids1.length p1, .int .i64 k2, .int .i64 n2, .slice A2 kids2.length p2] 85)
        refine (own_any _ _ _ (hin1.ext hE) (by have := hsm _ hmem1; omega)).mono ?_
        rintro e w2 ⟨u, rfl, hM, e2⟩
        obtain ⟨a1, a2, a3, a4, a5, rfl⟩ := hM.three'
        clear c0 c1 c2 c3 c4 c5
        obtain ⟨Bv, cv, rfl, -, -, -⟩ := hG.made
        go_wp2_with (at_builtin; refine wpList_append_tree _ (by rfl) (.tmp 16) (.tmp 20) _ (by rfl) 42 i0 _ Try.underlying29 hi hz0 hz1 hz2 rfl (by rfl) hG hx.size (hE.trans e2) (hM.since (by have := hE.size; omega)) ((Ext.refl _).alloc _) (by rfl) (heap_alloc_new _ _) (by rw [HLEN.out]; omega) ?_)
        intro v' w5 hG5 hB5
        obtain ⟨B5, c5, rfl, q1, q2, -⟩ := hG5.made
        rw [← HTK.out] at hG5
        go_wp2_with fail
        go_roundw
        case rel => exact ⟨j + 1, by omega, by go_num, by simpa [HTK.out] using hG5, hx.trans' hB5 (Nat.le_refl _)⟩
        case measure => simp [intOf]; omega
      · obtain ⟨B5, c5, rfl, q1, q2, hM⟩ := hG.made
        have hjl : ks.take (j * 2) = ks := List.take_of_length_le (by omega)
        rw [hjl] at q1 hM
        rw [hjl]
        go_wp2_with fail
        go_ret2
        exact ⟨_, _, rfl, q1, q2, hM, hx⟩
theorem Grow.lit {W w : World} {e : TypeId} (hW : W.heap.size ≤ w.heap.size) : Grow W (w.alloc (.cells #[] e)) e (.slice (some ⟨w.heap.size, 0, none⟩) 0 0) [] :=
  ⟨[], [], World.ownsRow_lit (size := 3) w #[] 0 hW (Nat.zero_le _) rfl, OwnL.nil, Fresh.nil _ _, fun _ _ h => by cases h⟩
set_option maxRecDepth 100000 in
set_option maxHeartbeats 1000000 in
theorem specDefTypes_any (ks : List Tr) (n cap : Nat) (w : World) (A : Option Addr) (h : LiesK w A ks) (hn : ks.length = n * 2) (hl : n ≤ cap) (hc : cap ≤ maxLen) :
    Calls Try.prog 18 #[.slice A n cap] w fun e w' => ∃ B c, e = .returned (.tuple #[.slice B (tysV ks n).length c, .bool (dfV ks n)]) ∧ (tysV ks n).length ≤ c ∧ c ≤ maxLen ∧ LiesK w' B (tysV ks n) ∧ Ext w w' := by
  have hcc := hc
  unfold maxLen at hcc
  have HV := Lib.hid (fun W (hW : Ext w W) => specDefsValid_any ks n cap W A (h.ext hW) hn hl hc)
  have hV : tysV ks n = if dfV ks n = true then tys ks else [] := rfl
  have hval : dfV ks n = true → n ≤ 8 ∧ ∀ t ∈ ks, cnt t ≤ 400 := fun h => dfV_small h hn
  obtain ⟨i0, hi, hz0, hz1, hz2⟩ := info_parts infoTy
  obtain ⟨b, hb⟩ : ∃ b, dfV ks n = b := ⟨_, rfl⟩
  rw [hb] at HV hV hval ⊢
  clear hb
  have h0 : Ext w (w.alloc (.cells #[] 42)) := (Ext.refl w).alloc _
  have hG0 := Grow.lit (e := 42) (Nat.le_refl w.heap.size)
  have hs0 : w.heap.size < (w.alloc (.cells #[] 42)).heap.size := by simp
  cases b with
  | false =>
    rw [if_neg (by decide)] at hV
    rw [hV]
    clear hV hval
    go_enter Try.func18, Try.ntmps18
    go_wp2_with fail
    refine (HV.out _ h0).mono ?_
    rintro e w1 ⟨rfl, e1⟩
    go_wp2_with fail
    go_ret2
    exact ⟨_, 0, rfl, by simp, by simp, .inl rfl, h0.trans e1⟩
  | true =>
    rw [if_pos rfl] at hV
    rw [hV]
    obtain ⟨hn8, hsm⟩ := hval rfl
    clear hV hval
    go_enter Try.func18, Try.ntmps18
    go_wp2_with fail
    refine (HV.out _ h0).mono ?_
    rintro e w1 ⟨rfl, e1⟩
    have hG1 := hG0.ext e1
    have h01 := h0.trans e1
    clear hG0 h0 hs0 e1
    go_wp2_with fail
    go_loopw [4, 5] (fun v i wr => ∃ (j : Nat), j ≤ n ∧ i = .int .i64 j ∧ Grow w wr 42 v (tys (ks.take (j * 2))) ∧ Ext w wr) (fun _ i _ => n - (intOf i).toNat)
    case atStart => exact ⟨0, Nat.zero_le _, rfl, by simpa [tys] using hG1, h01⟩
    case round =>
      obtain ⟨j, hj, rfl, hG, hx⟩ := hrel
      by_cases hlt : j < n
      · obtain ⟨b, o, k1, n1, A1, p1, kids1, k2, n2, A2, p2, kids2, rfl, hbw, HK1, HK2, ⟨c0, c1, c2, c3, c4, c5⟩, ⟨l1, m1, hK1, hin1, hmem1⟩, ⟨l2, m2, hK2, hin2, hmem2⟩⟩ := h.getD (j := j) hx (by omega)
        have hj' : (j : Int) < (n : Int) := by omega
        have hl6 : w.heap.size ≤ wr.heap.size := hx.size
        have htk := tys_take ks j (by omega)
        rw [HK1.out] at htk
        have HTK := Lib.hid htk
        have hlen : (tys (ks.take (j * 2))).length = j := tys_len _ j (by rw [List.length_take]; omega)
        have HLEN := Lib.hid hlen
        clear htk hlen hG1
        go_wp2_with fail
        refine (l1Copy_any _ _ _ hin1 (by have := hsm _ hmem1; omega)).mono ?_
        rintro e w2 ⟨u, rfl, hM, e2⟩
        obtain ⟨a1, a2, a3, a4, a5, rfl⟩ := hM.three'
        clear c0 c1 c2 c3 c4 c5
        obtain ⟨Bv, cv, rfl, -, -, -⟩ := hG.made
        go_wp2_with (at_builtin; refine wpList_append_tree _ (by rfl) (.tmp 17) (.tmp 24) _ (by rfl) 42 i0 _ Try.underlying29 hi hz0 hz1 hz2 rfl (by rfl) hG hx.size e2 (hM.since (Nat.le_refl _)) ((Ext.refl _).alloc _) (by rfl) (heap_alloc_new _ _) (by rw [HLEN.out]; omega) ?_)
        intro v' w5 hG5 hB5
        obtain ⟨B5, c5, rfl, q1, q2, -⟩ := hG5.made
        go_wp2_with fail
        go_roundw
        case rel => exact ⟨j + 1, by omega, by go_num, by simpa [HTK.out] using hG5, hx.trans' hB5 (Nat.le_refl _)⟩
        case measure => simp [intOf]; omega
      · obtain ⟨B5, c5, rfl, q1, q2, hM⟩ := hG.made
        have hjl : ks.take (j * 2) = ks := List.take_of_length_le (by omega)
        rw [hjl] at q1 hM
        rw [hjl]
        go_wp2_with fail
        go_ret2
        exact ⟨_, _, rfl, q1, q2, hM.lies, hx⟩
end Go.Proofs.Ytpbmlpngafpoeaa
