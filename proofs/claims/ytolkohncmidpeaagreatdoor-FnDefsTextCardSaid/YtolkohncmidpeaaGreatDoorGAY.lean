/-
  Lemmas towards the law, 25: Cut.
-/
import Derived.Test.YtolkohncmidpeaaGreatDoorGAK
import Derived.Test.YtolkohncmidpeaaGreatDoorGAX
namespace Go.Proofs.YtolkohncmidpeaaGreatDoor
open Go.RowKit
set_option linter.unusedVariables false
/-- The pieces of a text between the bytes c; pre is the piece that is open. -/
def cutS (c : UInt8) : List UInt8 → List UInt8 → List (List UInt8)
  | pre, [] => [pre]
  | pre, x :: r => if x = c then pre :: cutS c [] r else cutS c (pre ++ [x]) r
def cutL (c : UInt8) (l : List UInt8) : List (List UInt8) := cutS c [] l
theorem cutS_len (c : UInt8) : ∀ (r pre : List UInt8), (cutS c pre r).length ≤ r.length + 1
  | [], pre => by simp [cutS]
  | x :: r, pre => by
    unfold cutS
    split
    · have := cutS_len c r []
      simp only [List.length_cons]
      omega
    · have := cutS_len c r (pre ++ [x])
      simp only [List.length_cons]
      omega
theorem cutS_size (c : UInt8) : ∀ (r pre : List UInt8), ∀ x ∈ cutS c pre r, x.length ≤ pre.length + r.length
  | [], pre, x, h => by simp [cutS] at h; subst h; simp
  | y :: r, pre, x, h => by
    unfold cutS at h
    split at h
    · rcases List.mem_cons.1 h with rfl | h
      · simp
      · have := cutS_size c r [] x h
        simp only [List.length_cons, List.length_nil] at this ⊢
        omega
    · have := cutS_size c r (pre ++ [y]) x h
      simp only [List.length_cons, List.length_append, List.length_nil] at this ⊢
      omega
theorem infoStr : (Tryz.prog.info? 9).map (fun i => (i.zero, i.size, i.bytes)) = some (some (.string ⟨#[]⟩), 1, 16) := by kernel_rfl
/-- The strings of a list of texts. -/
def strs (xs : List (List UInt8)) : List Value := xs.map fun l => .string (ofL l)
theorem strs_snoc (xs : List (List UInt8)) (l : List UInt8) : strs (xs ++ [l]) = strs xs ++ [.string (ofL l)] := by simp [strs]
set_option maxRecDepth 100000 in
set_option maxHeartbeats 1000000 in
theorem l19Cut_any (s : ByteArray) (c : UInt8) (cc : Nat) (hcc : c.toNat = cc) (w : World) (hs : s.size ≤ 1000000000) :
    Calls Tryz.prog 49 #[.string s, .int .u8 (cc : Int)] w fun e w' => ∃ v, e = .returned v ∧ w'.ownsRow w.heap.size 9 1 v (cutL c s.data.toList).length (strs (cutL c s.data.toList)) ∧ Ext w w' := by
  obtain ⟨i1, hi', hy0, hy1, hy2⟩ := info_parts infoStr
  have hx0 := (Ext.refl w).alloc (.cells #[] 9)
  have hb0 := heap_alloc_new w (.cells #[] 9)
  have hln : s.data.toList.length = s.size := Array.length_toList
  obtain ⟨l, hl⟩ : ∃ l, s.data.toList = l := ⟨_, rfl⟩
  rw [hl] at hln ⊢
  obtain ⟨R, hR⟩ : ∃ R, cutL c l = R := ⟨_, rfl⟩
  rw [hR]
  have HL := Lib.hid hl
  have HR := Lib.hid hR
  clear hl hR
  go_enter Tryz.func49, Tryz.ntmps49
  go_wp2_with fail
  generalize hw0 : w.alloc _ = w0 at hx0 hb0 ⊢
  clear hw0
  go_loopw [5, 6, 7] (fun o f i wr => ∃ (p q : Nat) (xs : List (List UInt8)), f = .int .i64 p ∧ i = .int .i64 q ∧ p ≤ q ∧ q ≤ s.size + 1 ∧ wr.ownsRow w.heap.size 9 1 o xs.length (strs xs) ∧ xs.length ≤ q ∧ (q ≤ s.size → xs ++ cutS c ((l.drop p).take (q - p)) (l.drop q) = R) ∧ (q = s.size + 1 → xs = R) ∧ Ext w wr) (fun _ _ i _ => s.size + 2 - (intOf i).toNat)
  case atStart => exact ⟨0, 0, [], rfl, rfl, Nat.le_refl _, by omega, ⟨rfl, .inr ⟨_, 0, #[], rfl, Nat.le_refl _, hb0, Nat.le_refl _, Nat.zero_le _, rfl, rfl⟩⟩, Nat.le_refl _, fun _ => by simpa [cutL] using HR.out, fun h => by omega, hx0⟩
  case round =>
    obtain ⟨p, q, xs, rfl, rfl, hpq, hq, hG, hxq, h1, h2, hx⟩ := hrel
    have H1 := Lib.hid h1
    have H2 := Lib.hid h2
    clear h1 h2
    have hsz := hx.size
    by_cases hq1 : q = s.size + 1
    · have he := H2.out hq1
      subst he
      have hqd : decide ((q : Int) ≤ (s.size : Int)) = false := decide_eq_false (by omega)
      go_wp2_with fail
      go_ret
      exact ⟨_, rfl, hG, hx⟩
    · have hqd : decide ((q : Int) ≤ (s.size : Int)) = true := decide_eq_true (by omega)
      have hqs : q ≤ s.size := by omega
      have hsl := slc (s := s) (a := p) (e := q) (j := (q : Int)) hpq hqs rfl (ext_list s p q)
      rw [HL.out] at hsl
      obtain ⟨pc, hpc⟩ : ∃ x, (l.drop p).take (q - p) = x := ⟨_, rfl⟩
      rw [hpc] at hsl
      have hown : (wr.alloc (.cells #[.string (ofL pc)] 9)).ownsRow w.heap.size 9 1 _ xs.length (strs xs) := World.ownsRow.alloc hG _
      have HPC := Lib.hid hpc
      clear hpc
      by_cases hqe : q = s.size
      · have hb : ((q : Int) == (s.size : Int)) = true := by simp [hqe]
        have hxs : xs ++ [pc] = R := by
          have := H1.out hqs
          rw [HPC.out, List.drop_of_length_le (by omega)] at this
          exact this
        have HXS := Lib.hid hxs
        have HQE := Lib.hid hqe
        clear hxs hqe
        go_wp2_with (at_builtin; refine wpList_append_one _ rfl (.tmp 26) (.tmp 31) 68 rfl w.heap.size 9 9 i1 (.string ⟨#[]⟩) 16 Tryz.underlying68 hi' hy0 hy1 hy2 (by decide) rfl (y := .string (ofL pc)) rfl rfl hown rfl (heap_alloc_new wr _) (by omega) (by simp; omega) ?_)
        intro v' w6 hO6 hg6 hL6
        have hx6 : Ext w w6 := (hx.alloc _).grown hg6 (fun k hk => (hG.lt k hk).1)
        have hO7 : w6.ownsRow w.heap.size 9 1 v' (xs ++ [pc]).length (strs (xs ++ [pc])) := by rw [strs_snoc]; simpa using hO6
        clear hO6 hL6 hown hg6
        go_wp2_with fail
        go_roundw
        case rel => exact ⟨q + 1, q + 1, xs ++ [pc], by go_num, by go_num, Nat.le_refl _, by omega, hO7, by simp; omega, fun h => by have := HQE.out; omega, fun _ => HXS.out, hx6⟩
        case measure => simp [intOf]; omega
      · have hlt : q < s.size := by omega
        have hb : ((q : Int) == (s.size : Int)) = false := by rw [beq_eq_false_iff_ne]; omega
        obtain ⟨x, hx1⟩ : ∃ x, s[q] = x := ⟨_, rfl⟩
        have hat : l.drop q = x :: l.drop (q + 1) := by
          have hq' : q < l.length := by omega
          rw [List.drop_eq_getElem_cons hq']
          have h9 := at_list s hlt
          rw [HL.out, List.getElem?_eq_getElem hq', hx1] at h9
          rw [Option.some.inj h9]
        have HAT := Lib.hid hat
        clear hat
        by_cases hxc : x = c
        · have hbb : ((x.toNat : Int) == (cc : Int)) = true := by rw [hxc, hcc]; simp
          have hxs : xs ++ [pc] ++ cutS c [] (l.drop (q + 1)) = R := by
            have := H1.out hqs
            rw [HPC.out, HAT.out] at this
            unfold cutS at this
            rw [if_pos hxc] at this
            rw [← this]
            simp
          have HXS := Lib.hid hxs
          clear hxs hxc
          go_wp2_with (at_builtin; refine wpList_append_one _ rfl (.tmp 26) (.tmp 31) 68 rfl w.heap.size 9 9 i1 (.string ⟨#[]⟩) 16 Tryz.underlying68 hi' hy0 hy1 hy2 (by decide) rfl (y := .string (ofL pc)) rfl rfl hown rfl (heap_alloc_new wr _) (by omega) (by simp; omega) ?_)
          intro v' w6 hO6 hg6 hL6
          have hx6 : Ext w w6 := (hx.alloc _).grown hg6 (fun k hk => (hG.lt k hk).1)
          have hO7 : w6.ownsRow w.heap.size 9 1 v' (xs ++ [pc]).length (strs (xs ++ [pc])) := by rw [strs_snoc]; simpa using hO6
          clear hO6 hL6 hown hg6
          go_wp2_with fail
          go_roundw
          case rel => exact ⟨q + 1, q + 1, xs ++ [pc], by go_num, by go_num, Nat.le_refl _, by omega, hO7, by simp; omega, fun h => by rw [Nat.sub_self, List.take_zero]; exact HXS.out, fun h => by omega, hx6⟩
          case measure => simp [intOf]; omega
        · have hbb : ((x.toNat : Int) == (cc : Int)) = false := by
            rw [beq_eq_false_iff_ne]
            intro h
            exact hxc (UInt8.toNat_inj.1 (by omega))
          have hxs : xs ++ cutS c ((l.drop p).take (q + 1 - p)) (l.drop (q + 1)) = R := by
            have := H1.out hqs
            rw [HAT.out] at this
            unfold cutS at this
            rw [if_neg hxc] at this
            rw [← this]
            congr 2
            rw [show q + 1 - p = (q - p) + 1 by omega, List.take_add_one]
            congr 1
            rw [List.getElem?_drop, show p + (q - p) = q by omega]
            have h9 := at_list s hlt
            rw [HL.out, hx1] at h9
            rw [h9]
            rfl
          have HXS := Lib.hid hxs
          clear hxs hxc hown hsl
          go_wp2_with fail
          go_roundw
          case rel => exact ⟨p, q + 1, xs, rfl, by go_num, by omega, by omega, hG, by omega, fun h => HXS.out, fun h => by omega, hx⟩
          case measure => simp [intOf]; omega
end Go.Proofs.YtolkohncmidpeaaGreatDoor
