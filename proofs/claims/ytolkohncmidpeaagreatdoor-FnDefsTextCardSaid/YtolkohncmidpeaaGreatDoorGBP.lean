/-
  Lemmas towards the law, 42: Bend, Same.
-/
import Derived.Test.YtolkohncmidpeaaGreatDoorGAB
import Derived.Test.YtolkohncmidpeaaGreatDoorGAZ
import Derived.Test.YtolkohncmidpeaaGreatDoorGBO
import Derived.BigQuiet
import Derived.Outline
import Derived.StillTailTactics
import Derived.Test.YtolkohncmidpeaaGreatDoorProg
namespace Go.Proofs.YtolkohncmidpeaaGreatDoor
open Go.RowKit
set_option linter.unusedVariables false
attribute [local go_sem ↓] Go.wp_at_zero Go.wp_at_succ
set_option maxRecDepth 100000 in
set_option maxHeartbeats 2000000 in
theorem l1Bend_any (w : World) (g m : Nat) (h : Rd w g m) (hm : m < 1000000) (s : ByteArray) (hs : s.size ≤ 1000000000) (b n cap : Nat) (hl : n ≤ cap) (hc : cap ≤ maxLen) (hns : 0 < n) (hbg : b ≠ g) (hb : b < w.heap.size)
    (hN : ∀ j, j < n → ∃ x, w.cell? ⟨b, 0 + j, none⟩ = some (.string x) ∧ x.size ≤ 10) : Calls Tryz.prog 48 #[.pointer (some ⟨g, 0, none⟩), .string s, .slice (some ⟨b, 0, none⟩) n cap] w fun e w' =>
    ∃ r : ByteArray, e = .returned (.string r) ∧ r.size ≤ s.size + 10 ∧ Rd w' g (m + 4) ∧ Only [g] w w' := by
  have hc' := hc
  unfold maxLen at hc'
  have HN := Lib.hid (fun (w' : World) (ho : Only [g] w w') => (show ∀ j, j < n → ∃ x : ByteArray, w'.cell? ⟨b, 0 + j, none⟩ = some (.string x) ∧ x.size ≤ 10 from fun j hj => by
    obtain ⟨x, hx, hz⟩ := hN j hj
    exact ⟨x, (World.cell?_of_block (w := w) (a := ⟨b, 0 + j, none⟩) (ho.block b hb (by simpa using hbg))).trans hx, hz⟩))
  clear hN
  by_cases h0 : s.size = 0
  · have d0 : ((s.size : Int) == 0) = true := by rw [h0]; rfl
    go_enter Tryz.func48, Tryz.ntmps48
    go_wp2_with fail
    go_ret
    exact ⟨s, rfl, by omega, h.mono (by omega), Only.refl _ _⟩
  have d0 : ((s.size : Int) == 0) = false := by rw [beq_eq_false_iff_ne]; omega
  go_enter Tryz.func48, Tryz.ntmps48
  go_wp2_with fail
  refine (pick_any w g m 2 h (by omega)).mono ?_
  rintro e w1 ⟨x1, rfl, hx10, hx11, hR1, ho1⟩
  by_cases hz : x1 = 0
  · subst hz
    go_wp2_with fail
    go_ret
    exact ⟨s, rfl, by omega, hR1.mono (by omega), ho1⟩
  have d1 : (x1 == 0) = false := by rw [beq_eq_false_iff_ne]; exact hz
  go_wp2_with fail
  refine (pick_any w1 g (m + 1) s.size hR1 (by omega)).mono ?_
  rintro e w2 ⟨x2, rfl, hx20, hx21, hR2, ho2⟩
  obtain ⟨j, rfl⟩ := Int.eq_ofNat_of_zero_le hx20
  have hj : j < s.size := by omega
  have hjz : (j : Int) < (s.size : Int) := by omega
  have hjle : j ≤ s.size := by omega
  have ho12 := ho1.trans ho2
  have hD2 : Only [g] w2 w2.drew := Only.of_ext (Ext.refl w2).drew
  clear hx21 hx20 d1 hx10 hx11 h0 d0
  go_wp2_with fail
  go_region_law (go_simp; first
    | (go_at_call 89; refine (of_any (fun x => x.size ≤ 10) _ g _ (by first | exact hR2.ext (Ext.refl w2).drew | exact hRp) (by omega) b 0 n cap hl hc hns hbg (by first | exact Nat.lt_of_lt_of_le hb (ho12.trans hD2).size | exact Nat.lt_of_lt_of_le hb ((ho12.trans hD2).trans hop).size) (by first | exact HN.out _ (ho12.trans hD2) | exact HN.out _ ((ho12.trans hD2).trans hop))).mono ?_; rintro e wo ⟨x, rfl, hx, hRo, hoo⟩; have hcat : ¬ 9223372036854775807 < j + x.size := (by omega); try (have hcat2 : ¬ 9223372036854775807 < j + x.size + (s.size - ((j : Int) + (p : Int)).toNat) := (by omega)))
    | (go_at_call 90; refine (pick_any _ g _ 2 (by first | exact hR2.ext (Ext.refl w2).drew | exact hRo) (by omega)).mono ?_; rintro e wp ⟨p', rfl, hp0, hp1, hRp, hop⟩; obtain ⟨p, rfl⟩ := Int.eq_ofNat_of_zero_le hp0; have hpz : (j : Int) + (p : Int) ≤ (s.size : Int) := (by omega); have hpn : j + p ≤ s.size := (by omega); have hwr : IntKind.i64.wrap ((j : Int) + (p : Int)) = ((j + p : Nat) : Int) := (by rw [show (j : Int) + (p : Int) = ((j + p : Nat) : Int) by omega]; exact IntWalk.i64_in _ ⟨by omega, by omega⟩); have hpz2 : (0 : Int) ≤ (j : Int) + (p : Int) := (by omega); try (have hcat2 : ¬ 9223372036854775807 < j + x.size + (s.size - ((j : Int) + (p : Int)).toNat) := (by omega))))
  all_goals (
    go_wp2_with fail
    go_ret
    refine ⟨_, rfl, ?_, ?_, ?_⟩
    · simp only [ByteArray.size_append, ByteArray.size_extract]; omega
    · first | exact hRp | exact hRo
    · first | exact ((ho12.trans hD2).trans hoo).trans hop | exact ((ho12.trans hD2).trans hop).trans hoo)
theorem fmtDs_len : ∀ (ks : List Tr), (∀ t ∈ ks, cnt t ≤ 400) → (fmtDs ks).length ≤ 2000 * ks.length
  | [], _ => by simp [fmtDs]
  | [_], _ => by simp [fmtDs]
  | t :: b :: r, h => by
    have h1 := fmtL_len t
    have h2 := fmtL_len b
    have h3 := h t (by simp)
    have h4 := h b (by simp)
    have h5 := fmtDs_len r (fun x hx => h x (by simp [hx]))
    simp only [fmtDs, List.length_append, List.length_cons, List.length_nil] at h1 h2 h5 ⊢
    omega
theorem fmtDV_len (ks : List Tr) (n : Nat) (hn : ks.length = n * 2) : (fmtDV ks n).length ≤ 32000 := by
  unfold fmtDV
  split
  · rename_i h
    have h1 := dfV_valid h hn
    have := fmtDs_len ks (fun t ht => (valid_parts (h1.2 t ht)).2)
    omega
  · simp
set_option maxRecDepth 100000 in
set_option maxHeartbeats 1000000 in
theorem drawParseDefs_any (w : World) (A : Option Addr) (cap : Nat) (bs : List Int) (hl : bs.length ≤ cap) (hc : cap ≤ maxLen) (hB : Bytes w w.heap.size A bs) : Calls Tryz.prog 16 #[.slice A bs.length cap] w fun e w' => ∃ s : ByteArray, e = .returned (.string s) ∧ s.size ≤ 40000 ∧ Ext w w' := by
  go_enter Tryz.func16, Tryz.ntmps16
  go_wp2_with fail
  refine (l19Open_any w A cap bs hl hc hB).mono ?_
  rintro e w1 ⟨rfl, hR, h1⟩
  generalize hg : w.heap.size = g at hR ⊢
  have hg1 : g < w1.heap.size := hR.lt
  go_wp2_with fail
  refine (l9Draw_any w1 g 0 hR (by omega)).mono ?_
  rintro e w2 ⟨A2, n2, c2, ks2, t2, u2, rfl, hl2, hc2, hn2, hn8, hv2, ht2, hK2, hF2, hR2, ho2⟩
  obtain ⟨a1, a2, a3, a4, a5, rfl⟩ := hF2.three
  have hx := (Ext.refl w2).alloc (.cells #[.int .i64 a1, .int .i64 a2, .slice a3 a4 a5] 45)
  have hK3 : LiesK (w2.alloc (.cells #[.int .i64 a1, .int .i64 a2, .slice a3 a4 a5] 45)) A2 ks2 := InK.mono (fun b hb => Nat.lt_of_lt_of_le hb.2 hx.size) (fun b hb => hx.heap b hb.2) hK2
  have hR3 := hR2.ext hx
  have ho3 := ho2.trans (Only.of_ext (L := [g]) hx)
  have hlen := fmtDV_len ks2 n2 hn2
  obtain ⟨S, hS⟩ : ∃ s, ofL (fmtDV ks2 n2) = s := ⟨_, rfl⟩
  have hSz : S.size ≤ 32000 := by rw [← hS, ofL_size]; exact hlen
  have HFD := Lib.hid (specFormatDefs_any ks2 n2 c2 _ A2 hK3 hn2 hl2 hc2)
  rw [hS] at HFD
  clear hS hlen hK3 hK2
  go_wp2_with fail
  generalize w2.alloc _ = w3 at HFD hR3 ho3 hx
  refine HFD.out.mono ?_
  rintro e w4 ⟨rfl, h4⟩
  have hR4 := (hR3.ext h4)
  have ho4 := ho3.trans (Only.of_ext (L := [g]) h4)
  have hen := (Ext.refl w4).alloc (.cells #[.string ⟨#[]⟩, .string ⟨#[61]⟩, .string ⟨#[10]⟩, .string ⟨#[78]⟩, .string ⟨#[35]⟩, .string ⟨#[40]⟩] 9)
  have hbn := heap_alloc_new w4 (.cells #[.string ⟨#[]⟩, .string ⟨#[61]⟩, .string ⟨#[10]⟩, .string ⟨#[78]⟩, .string ⟨#[35]⟩, .string ⟨#[40]⟩] 9)
  go_wp2_with fail
  refine (l1Bend_any _ g _ (hR4.ext hen) (by omega) S (by omega) w4.heap.size 6 6 (Nat.le_refl _) (by unfold maxLen; omega) (by omega) (by have := ho4.size; omega) (lt_of_blk hbn) (by
    intro j hj
    rcases (show j = 0 ∨ j = 1 ∨ j = 2 ∨ j = 3 ∨ j = 4 ∨ j = 5 by omega) with rfl | rfl | rfl | rfl | rfl | rfl
    · exact ⟨⟨#[]⟩, cell_of_blk hbn 0, by decide⟩
    · exact ⟨⟨#[61]⟩, cell_of_blk hbn 1, by decide⟩
    · exact ⟨⟨#[10]⟩, cell_of_blk hbn 2, by decide⟩
    · exact ⟨⟨#[78]⟩, cell_of_blk hbn 3, by decide⟩
    · exact ⟨⟨#[35]⟩, cell_of_blk hbn 4, by decide⟩
    · exact ⟨⟨#[40]⟩, cell_of_blk hbn 5, by decide⟩)).mono ?_
  rintro e w6 ⟨r, rfl, hr, hR6, ho6⟩
  go_wp2_with fail
  go_ret
  exact ⟨r, rfl, by omega, ((ho4.trans (Only.of_ext (L := [g]) hen)).trans ho6).ext h1 (by intro b hb; simp at hb; omega)⟩
end Go.Proofs.YtolkohncmidpeaaGreatDoor
namespace Go.Proofs.YtolkohncmidpeaaGreatDoor
open Go.RowKit
set_option linter.unusedVariables false
def SameTermC (t : Tr) : Prop := ∀ (w : World) (t' : Tr) (v v' : Value), Lies w t v → Lies w t' v' →
  Calls Tryz.prog 30 #[v, v'] w fun e w' => e = .returned (.bool (eqTr t t')) ∧ Ext w w'
set_option maxHeartbeats 400000 in
theorem equalTerm (ks ks' : List Tr) (hk : ∀ t ∈ ks, SameTermC t) (w : World) (A A' : Option Addr) (cap cap' : Nat) (h : LiesK w A ks) (hl : ks.length ≤ cap) (hc : cap ≤ maxLen) (h' : LiesK w A' ks') (hl' : ks'.length ≤ cap') (hc' : cap' ≤ maxLen) :
    Calls Tryz.prog 72 #[.slice A ks.length cap, .slice A' ks'.length cap', .func (.func 30) #[] #[]] w fun e w' => e = .returned (.bool (eqTs ks ks')) ∧ Ext w w' := by
  unfold maxLen at hc hc'
  by_cases h0 : ks.length = ks'.length
  · have hd : ((ks.length : Int) != (ks'.length : Int)) = false := by rw [h0]; simp
    have H0 := Lib.hid h0
    clear h0
    go_enter Tryz.func72, Tryz.ntmps72
    go_wp2_with fail
    go_loopw [17] (fun i wr => ∃ j : Nat, j ≤ ks.length ∧ i = .int .i64 j ∧ eqTs ks ks' = eqTs (ks.drop j) (ks'.drop j) ∧ Ext w wr) (fun i _ => ks.length - (intOf i).toNat)
    case atStart => exact ⟨0, Nat.zero_le _, rfl, rfl, Ext.refl _⟩
    case round =>
      obtain ⟨j, hj, rfl, hsz, hb⟩ := hrel
      have HS := Lib.hid hsz
      clear hsz
      by_cases hlt : j < ks.length
      · have hlt' : j < ks'.length := by rw [← H0.out]; exact hlt
        obtain ⟨b, o, k, n, B, c, kids, rfl, HK, c0, c1, c2, hkl, hkc, hK, hin, hmem⟩ := h.get hb hlt
        obtain ⟨b', o', k', n', B', c', kids', rfl, HK', c0', c1', c2', hkl', hkc', hK', hin', hmem'⟩ := h'.get hb hlt'
        have hlb := World.block_lt_of_cell? _ _ c0'
        have hstep : eqTs (ks.drop j) (ks'.drop j) = (eqTr (.mk k n kids) (.mk k' n' kids') && eqTs (ks.drop (j + 1)) (ks'.drop (j + 1))) := by
          rw [List.drop_eq_getElem_cons hlt, List.drop_eq_getElem_cons hlt', HK.out, HK'.out]
          conv => lhs; unfold eqTs
        have HST := Lib.hid hstep
        clear hstep
        go_wp2_with fail
        refine (hk _ hmem _ (.mk k' n' kids') _ _ (hin.ext (((Ext.refl wr).alloc _).alloc _)) (hin'.ext (((Ext.refl wr).alloc _).alloc _))).mono ?_
        rintro e w1 ⟨rfl, hb1⟩
        have hb2 := hb.trans hb1.pre.pre
        generalize eqTr (.mk k n kids) (.mk k' n' kids') = q at HST
        cases q with
        | false =>
          go_wp2_with fail
          go_ret
          exact ⟨by rw [HS.out, HST.out]; rfl, hb2⟩
        | true =>
          go_wp2_with fail
          go_roundw
          case rel => exact ⟨j + 1, by omega, by go_num, by rw [HS.out, HST.out]; rfl, hb2⟩
          case measure => simp [intOf]; omega
      · go_wp2_with fail
        go_ret
        exact ⟨by rw [HS.out, List.drop_of_length_le (by omega), List.drop_of_length_le (by rw [← H0.out]; omega)]; rfl, hb⟩
  · have hd : ((ks.length : Int) != (ks'.length : Int)) = true := by rw [bne_iff_ne]; omega
    have e : eqTs ks ks' = false := by
      rw [Bool.eq_false_iff]
      intro he
      exact h0 (eqTs_len he)
    have E := Lib.hid e
    clear e
    go_enter Tryz.func72, Tryz.ntmps72
    go_wp2_with fail
    go_ret
    exact ⟨by rw [E.out]; rfl, Ext.refl _⟩
theorem sameTerm_any : ∀ t : Tr, SameTermC t := Tr.ind fun k n ks hk => by
  intro w t' v v' h h'
  obtain ⟨A, cap, rfl, hl, hc, hK⟩ := Lies.mk_iff.1 h
  obtain ⟨k', n', ks'⟩ := t'
  obtain ⟨A', cap', rfl, hl', hc', hK'⟩ := Lies.mk_iff.1 h'
  clear h h'
  have HW := fun W (hW : Ext w W) => equalTerm ks ks' hk W A A' cap cap' (hK.ext hW) hl hc (hK'.ext hW) hl' hc'
  have HS := Lib.hid HW
  clear HW
  by_cases h1 : k = k'
  · by_cases h2 : n = n'
    · have e : eqTr (.mk k n ks) (.mk k' n' ks') = eqTs ks ks' := by simp [eqTr, h1, h2]
      have E := Lib.hid e
      have d1 : (k == k') = true := by simp [h1]
      have d2 : (n == n') = true := by simp [h2]
      clear e h1 h2
      go_enter Tryz.func30, Tryz.ntmps30
      go_wp2_with fail
      refine (HS.out _ (((Ext.refl w).alloc _).alloc _)).mono ?_
      rintro e w1 ⟨rfl, hE⟩
      go_wp2_with fail
      go_ret
      exact ⟨by rw [E.out]; rfl, hE.pre.pre⟩
    · have e : eqTr (.mk k n ks) (.mk k' n' ks') = false := by simp [eqTr, h2]
      have E := Lib.hid e
      have d1 : (k == k') = true := by simp [h1]
      have d2 : (n == n') = false := by simpa using h2
      clear e h1 h2
      go_enter Tryz.func30, Tryz.ntmps30
      go_wp2_with fail
      go_ret
      exact ⟨by rw [E.out]; rfl, ((Ext.refl w).alloc _).alloc _⟩
  · have e : eqTr (.mk k n ks) (.mk k' n' ks') = false := by simp [eqTr, h1]
    have E := Lib.hid e
    have d1 : (k == k') = false := by simpa using h1
    clear e h1
    go_enter Tryz.func30, Tryz.ntmps30
    go_wp2_with fail
    go_ret
    exact ⟨by rw [E.out]; rfl, ((Ext.refl w).alloc _).alloc _⟩
end Go.Proofs.YtolkohncmidpeaaGreatDoor
