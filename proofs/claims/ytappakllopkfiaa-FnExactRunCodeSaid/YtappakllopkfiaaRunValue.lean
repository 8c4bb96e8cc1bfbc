/-
  RunCode of a value; Numeral.
-/
import Derived.Test.YtappakllopkfiaaOwn
import Derived.Test.YtappakllopkfiaaAny
import Derived.Test.YtappakllopkfiaaSpecValid
import Derived.Test.YtappakllopkfiaaNode
namespace Go.Proofs.Ytappakllopkfiaa
open Go.RowKit
set_option linter.unusedVariables false

set_option maxRecDepth 100000 in
theorem runValue_any (t : Tr) (w : World) (v : Value) (f : Int) (hin : Lies w t v) (hv : valid sigC t = true) (ho : opnC t 0 = false) (hs : isV t = true) (hf0 : 0 ≤ f) (hf1 : f ≤ 200) :
    Calls Try.prog 17 #[v, .int .i64 f] w fun e w' => ∃ u, e = .returned (.tuple #[u, .int .i64 0]) ∧ Made w w' 28 t u ∧ Ext w w' := by
  have hcn : cnt t ≤ 400 := by unfold valid at hv; rw [Bool.and_eq_true] at hv; exact of_decide_eq_true hv.2
  have h1 := fun W (hW : Ext w W) => validCode_any t W v (hin.ext hW)
  have h2 := fun W (hW : Ext w W) => isOpen_any t W v 0 (hin.ext hW) (by omega) (by omega)
  have h3 := fun W (hW : Ext w W) => isValue_any t W v (hin.ext hW)
  have h4 := fun W (hW : Ext w W) => ownCode_any t W v (hin.ext hW) (by omega)
  rw [hv] at h1
  rw [ho] at h2
  rw [hs] at h3
  have H1 := Lib.hid h1
  have H2 := Lib.hid h2
  have H3 := Lib.hid h3
  have H4 := Lib.hid h4
  have d : inR f 0 200 = true := by unfold inR; simp; omega
  clear h1 h2 h3 h4 hv ho hs
  obtain ⟨k, n, ks⟩ := t
  obtain ⟨A, cap, rfl, hl, hc, hK⟩ := Lies.mk_iff.1 hin
  go_enter Try.func17, Try.ntmps17
  go_wp2_with fail
  have hx := ((Ext.refl w).alloc (.cells #[.int .i64 k, .int .i64 n, .slice A ks.length cap] 28)).alloc (.cells #[.int .i64 0, .int .i64 0, .slice none 0 0] 28)
  obtain ⟨hb1, hb2, hsz⟩ := blk2 (Ext.refl ((w.alloc (.cells #[.int .i64 k, .int .i64 n, .slice A ks.length cap] 28)).alloc (.cells #[.int .i64 0, .int .i64 0, .slice none 0 0] 28)))
  refine (H1.out _ hx).mono ?_
  rintro e w1 ⟨rfl, q1⟩
  obtain ⟨x0, x1, x2, -, -, -⟩ := own3 (q1.blk hb1)
  go_wp2_with fail
  refine (H2.out w1 (hx.trans q1)).mono ?_
  rintro e w2 ⟨rfl, q2⟩
  have q12 := q1.trans q2
  obtain ⟨x0, x1, x2, -, -, -⟩ := own3 (q12.blk hb1)
  go_wp2_with (go_at_call 65; refine (within_any _ _ _ _).mono ?_; rw [d]; rintro e w3 ⟨rfl, rfl⟩)
  go_loopw [1] (fun i wr => i = .int .i64 f ∧ Ext w2 wr) (fun _ _ => 0)
  case atStart => exact ⟨rfl, Ext.refl _⟩
  case round =>
    obtain ⟨rfl, hr⟩ := hrel
    have q3 := q12.trans hr
    obtain ⟨y0, y1, y2, -, -, -⟩ := own3 (q3.blk hb1)
    go_wp2_with fail
    refine (H3.out wr (hx.trans q3)).mono ?_
    rintro e w3 ⟨rfl, q4⟩
    have q5 := q3.trans q4
    obtain ⟨y0, y1, y2, -, -, -⟩ := own3 (q5.blk hb1)
    go_wp2_with fail
    refine (H4.out w3 (hx.trans q5)).mono ?_
    rintro e w4 ⟨u, rfl, hM, q6⟩
    obtain ⟨B, c, rfl, hl4, hc4, hMK⟩ := Made.mk_iff.1 hM
    have q7 := q5.trans q6
    have hb4 := q7.blk hb2
    obtain ⟨s0, s1, s2, f0, f1, f2⟩ := own3 hb4
    have hs7 := (hx.trans q5).size
    have hs8 := q5.size
    clear x0 x1 x2 y0 y1 y2
    go_wp2_with fail
    refine bodyPost_ret (v := .tuple #[.agg #[.int .i64 k, .int .i64 n, .slice B ks.length c], .int .i64 0]) (by simp [results, Try.results17, go_sem, s0, s1, s2]) rfl ⟨_, rfl, ?_, ?_⟩
    · exact Made.since (hM.after ((((Above.refl _ _).setCell (by show w.heap.size + 1 < _; simp at hs8; omega) _).setCell (by show w.heap.size + 1 < _; simp at hs8; omega) _).setCell (by show w.heap.size + 1 < _; simp at hs8; omega) _)) (by omega)
    · exact ((((hx.trans q7).setCell (by simp) _).setCell (by simp) _).setCell (by simp) _)
end Go.Proofs.Ytappakllopkfiaa
