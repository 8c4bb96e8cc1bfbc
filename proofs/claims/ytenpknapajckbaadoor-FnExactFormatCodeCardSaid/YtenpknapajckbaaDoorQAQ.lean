/-
  Lemmas towards the law, 17: CodeT.
-/
import Derived.Test.YtenpknapajckbaaDoorQAJ
import Derived.Test.YtenpknapajckbaaDoorQAO
import Derived.Test.YtenpknapajckbaaDoorQAP
namespace Go.Proofs.YtenpknapajckbaaDoor
open Go.RowKit
set_option linter.unusedVariables false
attribute [local go_sem ↓] Go.wp_at_zero Go.wp_at_succ
/-- The shapes of programs. -/
def shpC : List (List UInt8) := [[], [46, 44], [40, 44, 32, 44, 41], [48], [43, 44], [60, 44, 59, 44, 59, 44, 62], [124, 44, 59, 44, 124], [94, 44], [95, 44], [63]]
def pcs (k : Int) : List (List UInt8) :=
  if k = 1 then [[]] else if k = 2 then [[46], []] else if k = 3 then [[40], [32], [41]] else if k = 4 then [[48]] else if k = 5 then [[43], []] else if k = 6 then [[60], [59], [59], [62]] else if k = 7 then [[124], [59], [124]] else if k = 8 then [[94], []] else if k = 9 then [[95], []] else [[63]]
def rpl (p : List UInt8) : List UInt8 := if p = [59] then [44] else p
theorem shpC_facts : ∀ j, j < 10 → cutL 44 (shpC.getD j []) = pcs ((j : Int) + 1) ∧ (shpC.getD j []).length ≤ 9 := by decide
theorem pcs_facts : ∀ j : Nat, j < 10 → ∀ p ∈ pcs ((j : Int) + 1), p.length ≤ 2 ∧ Lib.replaceAll p [59] [44] = rpl p ∧ (rpl p).length ≤ 2 ∧ Lib.count p [59] ≤ 1 := by decide
theorem opsC_kind {k : Int} {n : Nat} (h : opsC k = (n : Int)) : k = 1 ∨ k = 2 ∨ k = 3 ∨ k = 4 ∨ k = 5 ∨ k = 6 ∨ k = 7 ∨ k = 8 ∨ k = 9 ∨ k = 10 := by
  by_cases hk : 1 ≤ k ∧ k ≤ 10
  · omega
  · exfalso
    unfold opsC at h
    repeat rw [if_neg (by omega)] at h
    omega
theorem fmtP_parts {k n d : Int} {ks : List Tr} (h : shape sigC (.mk k n ks) d = true) (h1 : k ≠ 1) : fmtP (.mk k n ks) = (pcs k).headD [] ++ catP fmtP ((pcs k).tail.map rpl) ks ∧ (pcs k).length = ks.length + 1 := by
  obtain ⟨hops, hn0, hn1, hks⟩ := shape_kids' h
  have hops2 : opsC k = (ks.length : Int) := hops
  rcases opsC_kind hops2 with rfl | rfl | rfl | rfl | rfl | rfl | rfl | rfl | rfl | rfl
  · exact absurd rfl h1
  · obtain ⟨x, rfl⟩ : ∃ x, ks = [x] := by
      have hlen : ks.length = 1 := by have : opsC 2 = 1 := rfl; omega
      match ks, hlen with
      | [x], _ => exact ⟨x, rfl⟩
    exact ⟨by simp [fmtP, fmtPK, opnP, clsP, pcs, catP, rpl], rfl⟩
  · obtain ⟨x, y, rfl⟩ : ∃ x y, ks = [x, y] := by
      have hlen : ks.length = 2 := by have : opsC 3 = 2 := rfl; omega
      match ks, hlen with
      | [x, y], _ => exact ⟨x, y, rfl⟩
    exact ⟨by simp [fmtP, fmtPK, opnP, sepP, clsP, pcs, catP, rpl], rfl⟩
  · have hk0 : ks = [] := List.eq_nil_of_length_eq_zero (by have : opsC 4 = 0 := rfl; omega)
    subst hk0
    exact ⟨by simp [fmtP, fmtPK, opnP, clsP, pcs, catP], rfl⟩
  · obtain ⟨x, rfl⟩ : ∃ x, ks = [x] := by
      have hlen : ks.length = 1 := by have : opsC 5 = 1 := rfl; omega
      match ks, hlen with
      | [x], _ => exact ⟨x, rfl⟩
    exact ⟨by simp [fmtP, fmtPK, opnP, clsP, pcs, catP, rpl], rfl⟩
  · obtain ⟨x, y, z, rfl⟩ : ∃ x y z, ks = [x, y, z] := by
      have hlen : ks.length = 3 := by have : opsC 6 = 3 := rfl; omega
      match ks, hlen with
      | [x, y, z], _ => exact ⟨x, y, z, rfl⟩
    exact ⟨by simp [fmtP, fmtPK, opnP, sepP, clsP, pcs, catP, rpl], rfl⟩
  · obtain ⟨x, y, rfl⟩ : ∃ x y, ks = [x, y] := by
      have hlen : ks.length = 2 := by have : opsC 7 = 2 := rfl; omega
      match ks, hlen with
      | [x, y], _ => exact ⟨x, y, rfl⟩
    exact ⟨by simp [fmtP, fmtPK, opnP, sepP, clsP, pcs, catP, rpl], rfl⟩
  · obtain ⟨x, rfl⟩ : ∃ x, ks = [x] := by
      have hlen : ks.length = 1 := by have : opsC 8 = 1 := rfl; omega
      match ks, hlen with
      | [x], _ => exact ⟨x, rfl⟩
    exact ⟨by simp [fmtP, fmtPK, opnP, clsP, pcs, catP, rpl], rfl⟩
  · obtain ⟨x, rfl⟩ : ∃ x, ks = [x] := by
      have hlen : ks.length = 1 := by have : opsC 9 = 1 := rfl; omega
      match ks, hlen with
      | [x], _ => exact ⟨x, rfl⟩
    exact ⟨by simp [fmtP, fmtPK, opnP, clsP, pcs, catP, rpl], rfl⟩
  · have hk0 : ks = [] := List.eq_nil_of_length_eq_zero (by have : opsC 10 = 0 := rfl; omega)
    subst hk0
    exact ⟨by simp [fmtP, fmtPK, opnP, clsP, pcs, catP], rfl⟩
theorem replace_any (l r : List UInt8) (hr : Lib.replaceAll l [59] [44] = r) (hc : Lib.count l [59] ≤ 1) (hl : l.length ≤ 1000) (w : World) (hw : EnvM w) : Calls Tryd.prog 43 #[.string (ofL l), .string (ofL [59]), .string (ofL [44])] w fun e w' => e = .returned (.string (ofL r)) ∧ Ext w w' := by
  obtain ⟨m, hm⟩ := hw
  have hcb : Lib.countB (ofL l) (ofL [59]) = Lib.count l [59] := by
    show Lib.count (ofL l).data.toList (ofL [59]).data.toList = _
    rw [ofL_list, ofL_list]
  have h := Tryd.strings_ReplaceAll (ofL l) (ofL [59]) (ofL [44]) m w (by rw [ofL_size]; omega) hm (by rw [ofL_size]; exact Nat.le_refl 1) (by rw [hcb, ofL_size, ofL_size]; simp; omega)
  rw [ofL_list, ofL_list, ofL_list, hr] at h
  exact h
/-- A text written by the program. -/
def CodeC (t : Tr) : Prop := ∀ (w : World) (v : Value) (d : Int), EnvM w → shape sigC t d = true → cnt t ≤ 1000 → Lies w t v → Calls Tryd.prog 23 #[v] w fun e w' => e = .returned (.string (ofL (fmtP t))) ∧ Ext w w'
set_option maxRecDepth 100000 in
set_option maxHeartbeats 8000000 in
theorem codeText_any : ∀ t : Tr, CodeC t := Tr.ind fun k n ks hk => by
  intro w v d hW hsh hcn hin
  obtain ⟨A, cap, rfl, hl, hc, hK⟩ := Lies.mk_iff.1 hin
  obtain ⟨hops, hn0, hn1, hsk⟩ := shape_kids' hsh
  have hops : opsC k = (ks.length : Int) := hops
  have hn1 : n ≤ mostC k := hn1
  have hlc := len_le_cnts ks
  have hfl := fmtP_len (.mk k n ks)
  have hcc := hc
  unfold maxLen at hcc
  have hcn' := hcn
  simp only [cnt] at hcn'
  have hx : Ext w (w.alloc (.cells #[.int .i64 k, .int .i64 n, .slice A ks.length cap] 29)) := (Ext.refl w).alloc _
  have hbx := heap_alloc_new w (.cells #[.int .i64 k, .int .i64 n, .slice A ks.length cap] 29)
  by_cases c1 : k = 1
  · subst c1
    obtain ⟨m, rfl⟩ : ∃ m : Nat, n = m := ⟨n.toNat, by omega⟩
    have hm : (m : Int) ≤ 20 := hn1
    have HC := Lib.hid (fun W => itoa_any m (by omega) W)
    have hr : fmtP (.mk 1 m ks) = [35] ++ decL m := by simp [fmtP]
    have hxl := decL_len m
    obtain ⟨y, hy⟩ : ∃ y, y = decL m := ⟨_, rfl⟩
    rw [← hy] at HC hxl hr
    have hx1 := sz_le hxl
    have HR := Lib.hid hr
    clear hr hops hy hk hsk hK hsh hfl hin hn0 hcn hcn'
    go_enter Tryd.func23, Tryd.ntmps23
    go_wp2_with fail
    refine (HC.out _).mono ?_
    rintro e w3 ⟨rfl, rfl⟩
    go_wp2_with fail
    go_ret
    exact ⟨by rw [HR.out, ← ofL_append]; rfl, hx⟩
  obtain ⟨kk, hkk, hk16⟩ : ∃ kk : Nat, k = (kk : Int) + 1 ∧ kk < 10 := by
    rcases opsC_kind hops with h | h | h | h | h | h | h | h | h | h <;> exact ⟨(k - 1).toNat, by omega, by omega⟩
  have hwr : IntKind.i64.wrap (k - 1) = (kk : Int) := by rw [show k - 1 = (kk : Int) by omega]; exact IntWalk.i64_in _ ⟨by omega, by omega⟩
  obtain ⟨hpr, hsl⟩ := shpC_facts kk hk16
  have hpf := pcs_facts kk hk16
  rw [← hkk] at hpr hpf
  obtain ⟨sh, hshp⟩ : ∃ sh, sh = shpC.getD kk [] := ⟨_, rfl⟩
  have hcell : ((w.alloc (.cells #[.int .i64 k, .int .i64 n, .slice A ks.length cap] 29)).alloc (.cells #[.string ⟨#[]⟩, .string ⟨#[46, 44]⟩, .string ⟨#[40, 44, 32, 44, 41]⟩, .string ⟨#[48]⟩, .string ⟨#[43, 44]⟩, .string ⟨#[60, 44, 59, 44, 59, 44, 62]⟩, .string ⟨#[124, 44, 59, 44, 124]⟩, .string ⟨#[94, 44]⟩, .string ⟨#[95, 44]⟩, .string ⟨#[63]⟩] 9)).cell? ⟨w.heap.size + 1, kk, none⟩ = some (.string (ofL sh)) := by
    have h1 := cell_of_blk (heap_alloc_new (w.alloc (.cells #[.int .i64 k, .int .i64 n, .slice A ks.length cap] 29)) (.cells #[.string ⟨#[]⟩, .string ⟨#[46, 44]⟩, .string ⟨#[40, 44, 32, 44, 41]⟩, .string ⟨#[48]⟩, .string ⟨#[43, 44]⟩, .string ⟨#[60, 44, 59, 44, 59, 44, 62]⟩, .string ⟨#[124, 44, 59, 44, 124]⟩, .string ⟨#[94, 44]⟩, .string ⟨#[95, 44]⟩, .string ⟨#[63]⟩] 9)) kk
    rw [World.size_alloc] at h1
    rw [h1, hshp]
    rcases (by omega : kk = 0 ∨ kk = 1 ∨ kk = 2 ∨ kk = 3 ∨ kk = 4 ∨ kk = 5 ∨ kk = 6 ∨ kk = 7 ∨ kk = 8 ∨ kk = 9) with rfl | rfl | rfl | rfl | rfl | rfl | rfl | rfl | rfl | rfl <;> rfl
  rw [← hshp] at hpr hsl
  have hsz := sz_le hsl
  have hkz : (kk : Int) < 10 := by omega
  have hkz0 : (0 : Int) ≤ (kk : Int) := by omega
  clear hshp hin hkk
  obtain ⟨hf, hpl⟩ := fmtP_parts hsh c1
  obtain ⟨p0, pt, hpp⟩ : ∃ p0 pt, pcs k = p0 :: pt := by
    cases hq : pcs k with
    | nil => rw [hq] at hpl; simp at hpl
    | cons a b => exact ⟨a, b, rfl⟩
  rw [hpp] at hf hpl hpr hpf
  simp only [List.headD_cons, List.tail_cons] at hf
  have hptl : pt.length = ks.length := by simpa using hpl
  have HSP := Lib.hid (fun W (hW : EnvM W) => split_at sh 44 (p0 :: pt) hpr W hW (by omega))
  have HF := Lib.hid hf
  have HPL := Lib.hid hptl
  have HPF := Lib.hid hpf
  have e1 : (k == 1) = false := beq_eq_false_iff_ne.2 c1
  have hz1 : (0 : Int) < (ks.length : Int) + 1 := by omega
  obtain ⟨R, hR⟩ : ∃ R, fmtP (.mk k n ks) = R := ⟨_, rfl⟩
  rw [hR] at HF hfl ⊢
  have hRl : R.length ≤ 5000 := by omega
  have HK := Lib.hid hk
  have HSK := Lib.hid hsk
  clear hf hpl hpr hptl hpf hpp hR hops hk hsk hsh c1
  go_enter Tryd.func23, Tryd.ntmps23
  go_wp2_with fail
  have hx2 : Ext w ((w.alloc (.cells #[.int .i64 k, .int .i64 n, .slice A ks.length cap] 29)).alloc (.cells #[.string ⟨#[]⟩, .string ⟨#[46, 44]⟩, .string ⟨#[40, 44, 32, 44, 41]⟩, .string ⟨#[48]⟩, .string ⟨#[43, 44]⟩, .string ⟨#[60, 44, 59, 44, 59, 44, 62]⟩, .string ⟨#[124, 44, 59, 44, 124]⟩, .string ⟨#[94, 44]⟩, .string ⟨#[95, 44]⟩, .string ⟨#[63]⟩] 9)) := hx.alloc _
  have hb2 := ((Ext.refl (w.alloc (.cells #[.int .i64 k, .int .i64 n, .slice A ks.length cap] 29))).alloc (.cells #[.string ⟨#[]⟩, .string ⟨#[46, 44]⟩, .string ⟨#[40, 44, 32, 44, 41]⟩, .string ⟨#[48]⟩, .string ⟨#[43, 44]⟩, .string ⟨#[60, 44, 59, 44, 59, 44, 62]⟩, .string ⟨#[124, 44, 59, 44, 124]⟩, .string ⟨#[94, 44]⟩, .string ⟨#[95, 44]⟩, .string ⟨#[63]⟩] 9)).blk hbx
  clear hbx hcell
  generalize (w.alloc (.cells #[.int .i64 k, .int .i64 n, .slice A ks.length cap] 29)).alloc _ = w2 at hx2 hb2 ⊢
  refine (HSP.out _ (hW.ext hx2)).mono ?_
  rintro e w3 ⟨bp, rfl, hcp, hbp, hbp3, e3⟩
  have hx3 := hx2.trans e3
  obtain ⟨z0, z1, z2, -, -, -⟩ := own3 (e3.blk hb2)
  have hc0 := hcp 0 (by simp)
  simp only [List.getElem_cons_zero, List.length_cons, HPL.out] at hc0 hcp ⊢
  have HCP := Lib.hid hcp
  clear hcp hb2
  go_wp2_with fail
  go_loopw [4, 27] (fun o i wr => ∃ (j : Nat) (y : List UInt8), j ≤ ks.length ∧ i = .int .i64 j ∧ o = .string (ofL y) ∧ y.length ≤ 5000 ∧ Hid (y ++ catP fmtP ((pt.map rpl).drop j) (ks.drop j) = R) ∧ Ext w3 wr) (fun _ i _ => ks.length - (intOf i).toNat)
  case atStart => exact ⟨0, p0, Nat.zero_le _, rfl, rfl, by have := (HPF.out p0 (by simp)).1; omega, Lib.hid (by simpa using HF.out.symm), Ext.refl _⟩
  case round =>
    obtain ⟨j, y, hj, rfl, rfl, hyl, HY, hxr⟩ := hrel
    by_cases hlt : j < ks.length
    · obtain ⟨b1, o1, k1, n1, A1, c1, kids1, rfl, HK1, d0, d1, d2, hkl, hkc, hK1, hin1, hmem⟩ := hK.get (hx3.trans hxr) hlt
      have hjp : j < pt.length := by rw [HPL.out]; exact hlt
      have hjm : j < (pt.map rpl).length := by rw [List.length_map]; exact hjp
      have hst := catP_step (f := fmtP) hlt hjm
      rw [HK1.out, List.getElem_map] at hst
      have hpc : w3.cell? ⟨bp, j + 1, none⟩ = some (.string (ofL pt[j])) := by
        have := HCP.out (j + 1) (by omega)
        simpa using this
      obtain ⟨r1, r2, r3, r4⟩ := HPF.out _ (List.mem_cons_of_mem p0 (List.getElem_mem hjp))
      have hcm := cnt_mem hmem
      have hf1 := fmtP_len (.mk k1 n1 kids1)
      have HCC := Lib.hid (fun W (hWW : EnvM W) (hL : Lies W (.mk k1 n1 kids1) (.agg #[.int .i64 k1, .int .i64 n1, .slice A1 kids1.length c1])) => HK.out _ hmem W _ (d - 1) hWW (HSK.out _ hmem) (by omega) hL)
      have hxl : (fmtP (.mk k1 n1 kids1)).length ≤ 5000 := by omega
      obtain ⟨x, hxx⟩ : ∃ x, x = fmtP (.mk k1 n1 kids1) := ⟨_, rfl⟩
      obtain ⟨pq, hpq⟩ : ∃ pq, pq = pt[j] := ⟨_, rfl⟩
      rw [← hpq] at hst hpc r1 r2 r3 r4
      obtain ⟨pp, hpp⟩ : ∃ pp, pp = rpl pq := ⟨_, rfl⟩
      rw [← hxx, ← hpp] at hst
      rw [← hxx] at HCC hxl
      rw [← hpp] at r2 r3
      have HRP := Lib.hid (fun W (hWW : EnvM W) => replace_any pq pp r2 r4 (by omega) W hWW)
      have HY2 := Lib.hid (show (y ++ (x ++ pp)) ++ catP fmtP ((pt.map rpl).drop (j + 1)) (ks.drop (j + 1)) = R by rw [← HY.out, hst]; simp)
      have hyy : (y ++ (x ++ pp)).length ≤ 5000 := by
        have := congrArg List.length HY2.out
        rw [List.length_append] at this
        omega
      have q1 := sz_le hyl
      have q2 := sz_le hxl
      have q3 := sz_le r3
      have g1 : ¬ (9223372036854775807 < (ofL x).size + (ofL pp).size) := by omega
      have g2 : ¬ (9223372036854775807 < (ofL y).size + ((ofL x).size + (ofL pp).size)) := by omega
      have hj0 : (0 : Int) ≤ (j : Int) + 1 := by omega
      have hjz : (j : Int) < (ks.length : Int) := by omega
      have hjw : IntKind.i64.wrap ((j : Int) + 1) = (j : Int) + 1 := IntWalk.i64_in _ ⟨by omega, by omega⟩
      have hj1 : (j : Int) + 1 < (ks.length : Int) + 1 := by omega
      clear hst HK1 hxx hpp hpq hf1 HY hcn hcn' hfl hjp hjm r1 r2 r4
      go_wp2_with fail
      have hE := (Ext.refl wr).alloc (.cells #[.int .i64 k1, .int .i64 n1, .slice A1 kids1.length c1] 29)
      have hb7 := heap_alloc_new wr (.cells #[.int .i64 k1, .int .i64 n1, .slice A1 kids1.length c1] 29)
      have hpc7 := (hxr.trans hE).cell hpc
      have hL7 := hin1.ext hE
      have hX7 := (hx3.trans hxr).trans hE
      have h37 := hxr.trans hE
      generalize wr.alloc _ = w7 at hE hb7 hpc7 hL7 hX7 h37 ⊢
      have HS := Lib.hid (show ∀ w', Ext w7 w' → w'.cell? ⟨wr.heap.size, 0, none⟩ = some (.int .i64 k1) ∧ w'.cell? ⟨wr.heap.size, 1, none⟩ = some (.int .i64 n1) ∧ w'.cell? ⟨wr.heap.size, 2, none⟩ = some (.slice A1 kids1.length c1) ∧ w'.cell? ⟨bp, j + 1, none⟩ = some (.string (ofL pq)) from fun w' hw => by
        obtain ⟨y0, y1, y2, -, -, -⟩ := own3 (hw.blk hb7)
        exact ⟨y0, y1, y2, hw.cell hpc7⟩)
      have hD : Ext w7 w7.drew := (Ext.refl w7).drew
      clear hb7 hpc7 hpc d0 d1 d2 hin1 z0 z1 z2
      go_region_held3 (fun w' => w'.cell? ⟨wr.heap.size, 0, none⟩ = some (.int .i64 k1) ∧ w'.cell? ⟨wr.heap.size, 1, none⟩ = some (.int .i64 n1) ∧ w'.cell? ⟨wr.heap.size, 2, none⟩ = some (.slice A1 kids1.length c1) ∧ w'.cell? ⟨bp, j + 1, none⟩ = some (.string (ofL pq)))
        (first | exact HS.out _ ((hD.trans ed).trans er) | exact HS.out _ (hD.trans ed) | exact HS.out _ hD)
        (first
          | (go_at_call 23; refine (HCC.out _ (hW.ext (hX7.trans hD)) (hL7.ext hD)).mono ?_; rintro e wd ⟨rfl, ed⟩)
          | (go_at_call 43; refine (HRP.out _ (hW.ext ((hX7.trans hD).trans ed))).mono ?_; rintro e wq ⟨rfl, er⟩))
      all_goals (
        go_wp2_with fail
        go_roundw
        case rel => exact ⟨j + 1, y ++ (x ++ pp), by omega, by go_num, by rw [← ofL_append, ← ofL_append], hyy, HY2, ((h37.trans hD).trans ed).trans er⟩
        case measure => simp [intOf]; omega)
    · have hyR : y = R := by
        rw [← HY.out, catP_end (by omega)]
        simp
      have HYR := Lib.hid hyR
      clear hyR
      go_wp2_with fail
      go_ret
      exact ⟨by rw [← HYR.out]; rfl, hx3.trans hxr⟩
theorem formatCodeI_any (t : Tr) (w : World) (hE : EnvM w) (v : Value) (hin : Lies w t v) : Calls Tryd.prog 9 #[v] w fun e w' => e = .returned (.string (ofL (fmtPV t))) ∧ Ext w w' := by
  have H1 := Lib.hid (fun W (hW : Ext w W) => validCode_any t W v (hin.ext hW))
  have H2 := Lib.hid (fun (hv : valid sigC t = true) W (hW : Ext w W) => codeText_any t W v 30 (hE.ext hW) (valid_parts hv).1 (by have := (valid_parts hv).2; omega) (hin.ext hW))
  have hf : fmtPV t = if valid sigC t = true then fmtP t else [] := rfl
  obtain ⟨b, hb⟩ : ∃ b, b = valid sigC t := ⟨_, rfl⟩
  rw [← hb] at H1 H2 hf
  have HF := Lib.hid hf
  clear hb hf
  obtain ⟨k, n, ks⟩ := t
  obtain ⟨A, cap, rfl, hl, hc, hK⟩ := Lies.mk_iff.1 hin
  have hx : Ext w (w.alloc (.cells #[.int .i64 k, .int .i64 n, .slice A ks.length cap] 29)) := (Ext.refl w).alloc _
  have hbx := heap_alloc_new w (.cells #[.int .i64 k, .int .i64 n, .slice A ks.length cap] 29)
  cases b with
  | false =>
    go_enter Tryd.func9, Tryd.ntmps9
    go_wp2_with fail
    refine (H1.out _ hx).mono ?_
    rintro e w1 ⟨rfl, e1⟩
    go_wp2_with fail
    go_ret
    exact ⟨by rw [HF.out]; rfl, hx.trans e1⟩
  | true =>
    go_enter Tryd.func9, Tryd.ntmps9
    go_wp2_with fail
    refine (H1.out _ hx).mono ?_
    rintro e w1 ⟨rfl, e1⟩
    obtain ⟨s0, s1, s2, -, -, -⟩ := own3 (e1.blk hbx)
    go_wp2_with fail
    refine (H2.out trivial _ (hx.trans e1)).mono ?_
    rintro e w2 ⟨rfl, e2⟩
    go_wp2_with fail
    go_ret
    exact ⟨by rw [HF.out]; rfl, (hx.trans e1).trans e2⟩
end Go.Proofs.YtenpknapajckbaaDoor
