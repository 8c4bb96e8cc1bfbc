/-
  Lemmas towards the law, 32: Used, Used2.
-/
import Derived.Test.YtappakllopkfiaaZAM
import Derived.Test.YtappakllopkfiaaZAQ
import Derived.Test.YtappakllopkfiaaZBD
namespace Go.Proofs.Ytappakllopkfiaa
open Go.RowKit
set_option linter.unusedVariables false
/-- A slice of bools of the call's own, at block g. -/
def BoolsAt (w : World) (g n : Nat) (s : List Bool) : Prop := s.length = n ∧ w.heap[g]? = some (.cells (s.map Value.bool).toArray 4 (0, 0))
theorem BoolsAt.set {w : World} {g n : Nat} {s : List Bool} (h : BoolsAt w g n s) (i : Nat) (b : Bool) : BoolsAt (w.setCell ⟨g, i, none⟩ (.bool b)) g n (s.set i b) := by
  refine ⟨by simp [h.1], ?_⟩
  rw [blk_setCell h.2 i _]
  simp [List.map_set]
theorem BoolsAt.cell {w : World} {g n : Nat} {s : List Bool} (h : BoolsAt w g n s) {i : Nat} (hi : i < n) : w.cell? ⟨g, i, none⟩ = some (.bool (s[i]'(by rw [h.1]; exact hi))) := by
  rw [cell_of_blk h.2]
  have := h.1
  simp [List.getElem?_eq_getElem (show i < s.length by omega)]
def UsI (p1 p2 g n : Nat) (A : Option Addr) (cap : Nat) (w : World) (s : List Bool) : Prop := w.heap[p1]? = some (.cells #[.slice (some ⟨g, 0, none⟩) n n] 125 (0, 0)) ∧ w.heap[p2]? = some (.cells #[.slice A n cap] 66 (0, 0)) ∧ BoolsAt w g n s
theorem used1 (a : World) (p1 p2 g n cap : Nat) (A : Option Addr) (h1 : p1 ≠ g) (h2 : p2 ≠ g) (hn : n ≤ 1000000) : Told_u1 a p1 p2 [g] (UsI p1 p2 g n A cap) (fun s i => s.set ((n : Int) - 1 - i).toNat true) (fun i => 0 ≤ i ∧ i < n) := by
  intro w s i ha hI hi
  obtain ⟨i1, i2, i3⟩ := hI
  obtain ⟨q, hq⟩ : ∃ q : Nat, (n : Int) - 1 - i = q := ⟨((n : Int) - 1 - i).toNat, by omega⟩
  have c1 := cell_of_blk i1 0
  have c2 := cell_of_blk i2 0
  have hqn : q < n := by omega
  have c3 := i3.cell hqn
  generalize s[q]'_ = old at c3
  have f3 := frozen_of_blk i3.2 q
  have H1 := Lib.hid i1
  have H2 := Lib.hid i2
  have H3 := Lib.hid i3
  have hqz : (q : Int) < (n : Int) := by omega
  have e0 : ((n : Int) - 1 - i).toNat = q := by omega
  simp only [e0]
  clear i1 i2 i3 e0
  go_enter Try.func121, Try.ntmps121
  go_wp2_with fail
  go_end0
  refine ⟨rfl, (Only.refl _ _).setCell (by simp) _, ?_, ?_, H3.out.set q true⟩
  · rw [Below.heap_setCell _ _ _ _ h1]; exact H1.out
  · rw [Below.heap_setCell _ _ _ _ h2]; exact H2.out
def UtI (p1 p2 g n : Nat) (kk : Int) (w : World) (s : List Bool) : Prop := w.heap[p1]? = some (.cells #[.slice (some ⟨g, 0, none⟩) n n] 125 (0, 0)) ∧ w.heap[p2]? = some (.cells #[.int .i64 kk] 3 (0, 0)) ∧ BoolsAt w g n s
theorem used2 (a : World) (p1 p2 g n : Nat) (kk : Int) (h1 : p1 ≠ g) (h2 : p2 ≠ g) (hn : n ≤ 1000000) (hk0 : 0 ≤ kk) (hk1 : kk ≤ n) : Told_u2 a p1 p2 [g] (UtI p1 p2 g n kk) (fun s i => s.set (kk - 1 - i).toNat true) (fun i => 0 ≤ i ∧ i < kk) := by
  intro w s i ha hI hi
  obtain ⟨i1, i2, i3⟩ := hI
  obtain ⟨q, hq⟩ : ∃ q : Nat, kk - 1 - i = q := ⟨(kk - 1 - i).toNat, by omega⟩
  have c1 := cell_of_blk i1 0
  have c2 := cell_of_blk i2 0
  have hqn : q < n := by omega
  have c3 := i3.cell hqn
  generalize s[q]'_ = old at c3
  have f3 := frozen_of_blk i3.2 q
  have H1 := Lib.hid i1
  have H2 := Lib.hid i2
  have H3 := Lib.hid i3
  have hqz : (q : Int) < (n : Int) := by omega
  have e0 : (kk - 1 - i).toNat = q := by omega
  simp only [e0]
  clear i1 i2 i3 e0
  go_enter Try.func122, Try.ntmps122
  go_wp2_with fail
  go_end0
  refine ⟨rfl, (Only.refl _ _).setCell (by simp) _, ?_, ?_, H3.out.set q true⟩
  · rw [Below.heap_setCell _ _ _ _ h1]; exact H1.out
  · rw [Below.heap_setCell _ _ _ _ h2]; exact H2.out
end Go.Proofs.Ytappakllopkfiaa
namespace Go.Proofs.Ytappakllopkfiaa
open Go.RowKit
set_option linter.unusedVariables false
def markF (fs : List Int) (top : Int) (s : List Bool) : List Bool := fs.foldl (fun s i => s.set (top - 1 - i).toNat true) s
theorem markF_len : ∀ (fs : List Int) (top : Int) (s : List Bool), (markF fs top s).length = s.length
  | [], _, _ => rfl
  | i :: fs, top, s => by
    have := markF_len fs top (s.set (top - 1 - i).toNat true)
    unfold markF at *
    simpa using this
/-- The definitions before the one of number j are asked, the last one first. -/
def usD (ks : List Tr) : Nat → List Bool → List Bool
  | 0, s => s
  | j + 1, s => usD ks j (if s.getD j false = true then markF (fvs (ks.getD (j * 2 + 1) dflt0) 0) j s else s)
def outI : List Bool → Nat → List Int
  | [], _ => []
  | b :: bs, i => if b = true then (i : Int) :: outI bs (i + 1) else outI bs (i + 1)
/-- UsedDefs' answer. -/
def usedV (ks : List Tr) (n : Nat) (t : Tr) : List Int := if (dfV ks n && (valid sigT t && decide (mxf t 0 ≤ (n : Int)))) = true then outI (usD ks n (markF (fvs t 0) n (List.replicate n false))) 0 else []
theorem dvs_body : ∀ {ks : List Tr} {i : Nat}, dvs ks i = true → ∀ (j : Nat) (hj : j * 2 + 1 < ks.length), valid sigT ks[j * 2 + 1] = true ∧ mxf ks[j * 2 + 1] 0 ≤ ((i + j : Nat) : Int)
  | t :: b :: r, i, h, 0, hj => by
    unfold dvs at h
    simp only [Bool.and_eq_true, decide_eq_true_eq] at h
    exact ⟨h.2.1, by simpa using h.2.2.2.1⟩
  | t :: b :: r, i, h, j + 1, hj => by
    unfold dvs at h
    simp only [Bool.and_eq_true, decide_eq_true_eq] at h
    have := dvs_body h.2.2.2.2 j (by simp at hj; omega)
    have e : (t :: b :: r)[(j + 1) * 2 + 1] = r[j * 2 + 1]'(by simp at hj; omega) := by
      simp only [show (j + 1) * 2 + 1 = j * 2 + 1 + 1 + 1 by omega, List.getElem_cons_succ]
    rw [e]
    exact ⟨this.1, by omega⟩
theorem infoBool : (Try.prog.info? 4).map (fun i => (i.zero, i.size, i.bytes)) = some (some (.bool false), 1, 1) := by kernel_rfl
set_option maxRecDepth 100000 in
set_option maxHeartbeats 2000000 in
theorem usedDefs_any (ks : List Tr) (n cap : Nat) (w : World) (A : Option Addr) (t : Tr) (v : Value) (h : LiesK w A ks) (hn : ks.length = n * 2) (hl : n ≤ cap) (hc : cap ≤ maxLen) (hin : Lies w t v) (hn20 : n ≤ 1048576) :
    Calls Try.prog 47 #[.slice A n cap, v] w fun e w' => ∃ B c L, e = .returned (.slice B (usedV ks n t).length c) ∧ (usedV ks n t).length ≤ c ∧ c ≤ maxLen ∧ (OwnI w' 3 B (usedV ks n t) L ∧ Fresh w w' L) ∧ Ext w w' := by
  have hcc := hc
  unfold maxLen at hcc
  have H1 := Lib.hid (fun W (hW : Ext w W) => uses_any ks n cap W A t v (h.ext hW) hn hl hc (hin.ext hW))
  have hV : usedV ks n t = if (dfV ks n && (valid sigT t && decide (mxf t 0 ≤ (n : Int)))) = true then outI (usD ks n (markF (fvs t 0) n (List.replicate n false))) 0 else [] := rfl
  have hU : (dfV ks n && (valid sigT t && decide (mxf t 0 ≤ (n : Int)))) = true → n ≤ 8 ∧ valid sigT t = true ∧ mxf t 0 ≤ n ∧ (∀ j (hj : j * 2 + 1 < ks.length), valid sigT ks[j * 2 + 1] = true ∧ mxf ks[j * 2 + 1] 0 ≤ j) := fun hh => by
    simp only [Bool.and_eq_true, decide_eq_true_eq] at hh
    have h8 := (dfV_small hh.1 hn).1
    have hd := hh.1
    unfold dfV at hd
    rw [Bool.and_eq_true] at hd
    exact ⟨h8, hh.2.1, hh.2.2, fun j hj => by have := dvs_body hd.1 j hj; rw [Nat.zero_add] at this; exact this⟩
  obtain ⟨b, hb⟩ : ∃ b, (dfV ks n && (valid sigT t && decide (mxf t 0 ≤ (n : Int)))) = b := ⟨_, rfl⟩
  rw [hb] at H1 hV hU
  clear hb
  obtain ⟨k, m, ts⟩ := t
  obtain ⟨At, ct, rfl, -, -, -⟩ := Lies.mk_iff.1 hin
  have hE := ((Ext.refl w).alloc (.cells #[.slice A n cap] 66)).alloc (.cells #[.int .i64 k, .int .i64 m, .slice At ts.length ct] 44)
  obtain ⟨hbL, hbT, hs1⟩ := blk2 (Ext.refl ((w.alloc (.cells #[.slice A n cap] 66)).alloc (.cells #[.int .i64 k, .int .i64 m, .slice At ts.length ct] 44)))
  cases b with
  | false =>
    rw [if_neg (by decide)] at hV
    rw [hV]
    clear hV hU
    go_enter Try.func47, Try.ntmps47
    go_wp2_with fail
    refine (H1.out _ hE).mono ?_
    rintro e w1 ⟨rfl, e1⟩
    go_wp2_with fail
    go_ret
    exact ⟨none, 0, [], rfl, by simp, by simp, ⟨.inl ⟨rfl, rfl⟩, Fresh.nil _ _⟩, hE.trans e1⟩
  | true =>
    rw [if_pos rfl] at hV
    rw [hV]
    obtain ⟨h8, hv, hmx, hbod⟩ := hU rfl
    obtain ⟨s0, hs0⟩ : ∃ s0, s0 = markF (fvs (.mk k m ts) 0) n (List.replicate n false) := ⟨_, rfl⟩
    have hsl : s0.length = n := by rw [hs0, markF_len]; simp
    have HS0 := Lib.hid hs0
    rw [← hs0]
    obtain ⟨rs, hrs⟩ : ∃ rs, rs = outI (usD ks n s0) 0 := ⟨_, rfl⟩
    have HRS := Lib.hid hrs
    rw [← hrs]
    clear hs0 hrs
    have hp := valid_parts hv
    obtain ⟨i0, hi, hz0, hz1, hz2⟩ := info_parts infoBool
    have hmk := fun W => run_make_rowN (P := Try.prog) 125 4 i0 _ Try.underlying125 hi hz0 .i64 .i64 n n (Nat.le_refl _) (by rw [hz2]; omega) (by omega) W
    rw [hz1, Nat.mul_one] at hmk
    clear hV hU
    go_enter Try.func47, Try.ntmps47
    go_wp2_with fail
    refine (H1.out _ hE).mono ?_
    rintro e w1 ⟨rfl, e1⟩
    have c0 := cell_of_blk (e1.blk hbL) 0
    obtain ⟨x0, x1, x2, -, -, -⟩ := own3 (e1.blk hbT)
    have l1 : w.heap.size + 1 < w1.heap.size := lt_of_blk (e1.blk hbT)
    have l2 : w.heap.size + 1 < w1.heap.size + 1 := by omega
    have l3 : w.heap.size < w1.heap.size := by omega
    have l4 : w.heap.size < w1.heap.size + 1 := by omega
    go_wp2_with fail
    have hEw : Ext w ((w1.alloc (.cells (madeCells #[.bool false] n) 4)).alloc (.cells #[.slice (some ⟨w1.heap.size, 0, none⟩) n n] 125)) := (hE.trans e1).alloc _ |>.alloc _
    obtain ⟨hbG, hbI, hs2⟩ := blk2 (Ext.refl ((w1.alloc (.cells (madeCells #[.bool false] n) 4)).alloc (.cells #[.slice (some ⟨w1.heap.size, 0, none⟩) n n] 125)))
    have hbL2 := ((Ext.refl w1).alloc (.cells (madeCells #[.bool false] n) 4)).alloc (.cells #[.slice (some ⟨w1.heap.size, 0, none⟩) n n] 125) |>.blk (e1.blk hbL)
    have hB0 : BoolsAt ((w1.alloc (.cells (madeCells #[.bool false] n) 4)).alloc (.cells #[.slice (some ⟨w1.heap.size, 0, none⟩) n n] 125)) w1.heap.size n (List.replicate n false) := by
      refine ⟨by simp, hbG.trans ?_⟩
      congr 3
      apply Array.toList_inj.1
      rw [toList_madeCells_one]
      simp
    have hgw : w.heap.size ≤ w1.heap.size := (hE.trans e1).size
    clear hbG hbT x0 x1 x2 l1 l2 c0 hmk
    generalize hwB : World.alloc (World.alloc w1 _) _ = wB at hEw hbI hs2 hbL2 hB0 ⊢
    clear hwB
    generalize hgg : w1.heap.size = g at hbI hs2 hB0 hgw l3 l4 ⊢
    refine (free_u1_any (.mk k m ts) w wB _ 0 30 (g + 1) w.heap.size [g] (List Bool) (UsI (g + 1) w.heap.size g n A cap) (fun s i => s.set ((n : Int) - 1 - i).toNat true) (fun i => 0 ≤ i ∧ i < n) (List.replicate n false) hp.1 hin hEw (fun x hx => by rw [List.mem_singleton.1 hx]; omega) (by omega) (by omega) (used1 w _ _ g n cap A (by omega) (by omega) (by omega)) (fun i hi => by have := fvs_mem (.mk k m ts) 0 30 i hp.1 (by omega) hi; omega) (fun w1 w2 s hh he => ⟨he.blk hh.1, he.blk hh.2.1, hh.2.2.1, he.blk hh.2.2.2⟩) ⟨hbI, hbL2, hB0⟩).mono ?_
    rintro e w2 ⟨rfl, ho2, j1, j2, j3⟩
    have j3' : BoolsAt w2 g n s0 := by rw [HS0.out]; exact j3
    clear hB0 j3 hbI hbL2
    have d1 := cell_of_blk j1 0
    have d2 := cell_of_blk j2 0
    have q1 := lt_of_blk j1
    have q2 := lt_of_blk j2
    have hEw2 : Ext w w2 := ho2.ext hEw (fun x hx => by rw [List.mem_singleton.1 hx]; omega)
    go_wp2_with fail
    have HBOD := Lib.hid hbod
    clear hbod
    go_loopw [6] (fun p wr => ∃ (j h : Nat) (s : List Bool), j ≤ n ∧ p = .pointer (some ⟨h, 0, none⟩) ∧ wr.heap[h]? = some (.cells #[.int .i64 ((j : Int) - 1)] 3 (0, 0)) ∧ g + 1 < h ∧ s.length = n ∧ usD ks j s = usD ks n s0 ∧ BoolsAt wr g n s ∧ wr.heap[g + 1]? = some (.cells #[.slice (some ⟨g, 0, none⟩) n n] 125 (0, 0)) ∧ wr.heap[w.heap.size]? = some (.cells #[.slice A n cap] 66 (0, 0)) ∧ Ext w wr) (fun p wr => match p with | .pointer (some a) => (match wr.cell? a with | some v => (intOf v + 1).toNat | none => 0) | _ => 0)
    case atStart =>
      refine ⟨n, w2.heap.size, s0, Nat.le_refl _, rfl, heap_alloc_new w2 _, q1, hsl, rfl, ⟨j3'.1, ((Ext.refl w2).alloc _).blk j3'.2⟩, ((Ext.refl w2).alloc _).blk j1, ((Ext.refl w2).alloc _).blk j2, hEw2.alloc _⟩
    case round =>
      obtain ⟨j, h', s, hj, rfl, hk, hgh, hsn, hus, hB, hbi, hbl, hx⟩ := hrel
      have HUS := Lib.hid hus
      have e0 := cell_of_blk hk 0
      have e1' := cell_of_blk hbi 0
      have e2' := cell_of_blk hbl 0
      have ef := frozen_of_blk hk 0
      clear hus
      rcases j with _ | j
      · have hz : ((0 : Nat) : Int) - 1 = -1 := by omega
        rw [hz] at e0
        have HUS0 := HUS.out
        simp only [usD] at HUS0
        rw [← HUS0] at HRS
        clear HUS0 HUS
        obtain ⟨i1, hi', hy0, hy1, hy2⟩ := info_parts infoInt
        obtain ⟨wE, hwE⟩ : ∃ x, x = wr := ⟨_, rfl⟩
        subst hwE
        go_wp2_with fail
        go_loopw [7, 40] (fun o i wr => ∃ (j : Nat) (ns : List Int), j ≤ n ∧ i = .int .i64 j ∧ GrowN wE wr 3 o ns ∧ ns.length ≤ j ∧ ns ++ outI (s.drop j) j = rs ∧ Ext wE wr) (fun _ i _ => n - (intOf i).toNat)
        case atStart => exact ⟨0, [], Nat.zero_le _, rfl, World.ownsRow_nil _ _ _ _, Nat.le_refl _, by rw [HRS.out]; rfl, Ext.refl _⟩
        case round =>
          obtain ⟨j, ns, hj, rfl, hG, hnj, heq, hq⟩ := hrel
          have HEQ := Lib.hid heq
          clear heq
          by_cases hlt : j < n
          · have hB4 : BoolsAt wr g n s := ⟨hB.1, hq.blk hB.2⟩
            have c3 := hB4.cell hlt
            have hjz : (j : Int) < (n : Int) := by omega
            obtain ⟨bb, hbb⟩ : ∃ bb, bb = s[j]'(by omega) := ⟨_, rfl⟩
            have hst : outI (s.drop j) j = if bb = true then (j : Int) :: outI (s.drop (j + 1)) (j + 1) else outI (s.drop (j + 1)) (j + 1) := by
              rw [List.drop_eq_getElem_cons (show j < s.length by omega), hbb]
              conv => lhs; unfold outI
            rw [← hbb] at c3
            have HST := Lib.hid hst
            have d0 := cell_of_blk (hq.blk hbi) 0
            obtain ⟨Bo, co, rfl, ho1, ho2, -⟩ := hG.nums
            clear hbb hst
            cases bb with
            | false =>
              go_wp2_with fail
              go_roundw
              case rel => exact ⟨j + 1, ns, by omega, by go_num, hG, by omega, by rw [← HEQ.out, HST.out]; rfl, hq⟩
              case measure => simp [intOf]; omega
            | true =>
              have hy : ∀ u ∈ [Value.int .i64 j], u.oneCell' = true := by intro u hu; simp at hu; subst hu; rfl
              have hcell : ∀ jj u, [Value.int .i64 j][jj]? = some u → (wr.alloc (.cells #[.int .i64 j] 3)).cell? ((⟨wr.heap.size, 0, none⟩ : Addr).add jj) = some u := by
                intro jj u hu
                rw [Addr.add_lit, Nat.zero_add, cell_of_blk (heap_alloc_new wr _)]
                simpa using hu
              have hGa : (wr.alloc (.cells #[.int .i64 j] 3)).ownsRow wE.heap.size 3 1 (.slice Bo ns.length co) ns.length (ns.map (Value.int .i64)) := World.ownsRow.alloc hG _
              go_wp2_with (at_builtin; refine wpList_append_own _ rfl (.tmp 47) (.tmp 49) 55 rfl wE.heap.size 3 i1 (.int .i64 0) 1 8 Try.underlying55 hi' hy0 hy1 hy2 rfl (by decide) (.slice Bo ns.length co) ns.length (ns.map (Value.int .i64)) rfl hGa ⟨wr.heap.size, 0, none⟩ 1 1 [.int .i64 j] rfl rfl hcell hy (by unfold maxLen; omega) (by omega) (by have := hq.size; simp; omega) ?_)
              intro v' w6 hO6 hg6 _
              have hG7 : GrowN wE w6 3 v' (ns ++ [(j : Int)]) := by unfold GrowN; simpa using hO6
              have hq6 : Ext wE w6 := (hq.alloc _).grown hg6 (fun k hk => (hGa.lt k hk).1)
              clear hGa hcell hy hO6
              go_wp2_with fail
              go_roundw
              case rel => exact ⟨j + 1, ns ++ [(j : Int)], by omega, by go_num, hG7, by simp; omega, by rw [← HEQ.out, HST.out]; simp, hq6⟩
              case measure => simp [intOf]; omega
          · go_wp2_with fail
            go_ret
            obtain ⟨Bo, co, L, rfl, ho1, ho2, hOI, hFI⟩ := hG.own
            have hns : ns = rs := by rw [← HEQ.out, List.drop_of_length_le (by omega)]; simp [outI]
            rw [hns] at ho1 hOI
            exact ⟨Bo, co, L, by rw [hns]; rfl, ho1, ho2, ⟨hOI, hFI.mono hx.size (Nat.le_refl _)⟩, hx.trans hq⟩
      · have hjz : ((j + 1 : Nat) : Int) - 1 = (j : Int) := by omega
        rw [hjz] at e0 hk
        have hjn : (j : Int) < (n : Int) := by omega
        have c3 := hB.cell (show j < n by omega)
        obtain ⟨bb, hbb⟩ : ∃ bb, bb = s[j]'(by omega) := ⟨_, rfl⟩
        have hgd : s.getD j false = bb := by rw [List.getD_eq_getElem?_getD, List.getElem?_eq_getElem (by omega), hbb]; rfl
        rw [← hbb] at c3
        clear hbb
        cases bb with
        | false =>
          have hus' : usD ks j s = usD ks n s0 := by
            rw [← HUS.out]
            conv => rhs; unfold usD
            rw [hgd]; rfl
          have HU' := Lib.hid hus'
          clear hus' hgd
          have hgi := lt_of_blk hbi
          go_wp2_with fail
          refine ⟨⟨j, wr.heap.size, s, by omega, rfl, heap_alloc_new wr _, hgi, hsn, HU'.out, ⟨hB.1, ((Ext.refl wr).alloc _).blk hB.2⟩, ((Ext.refl wr).alloc _).blk hbi, ((Ext.refl wr).alloc _).blk hbl, hx.alloc _⟩, ?_⟩
          simp [e0, cell_of_blk (heap_alloc_new wr (.cells #[.int .i64 ((j : Int) - 1)] 3)) 0, intOf]
        | true =>
          obtain ⟨b, o, k3, n3, A3, p3, kids3, k2, n2, A2, p2, kids2, rfl, hbw, HK1, HK2, ⟨d0, d1', d2', c30, c40, c50⟩, -, ⟨l20, m20, hK20, hin20, hmem20⟩⟩ := h.getD (j := j) (Ext.refl w) (by omega)
          have c31 := hx.cell c30
          have c41 := hx.cell c40
          have c51 := hx.cell c50
          have hbd := HBOD.out j (by omega)
          rw [HK2.out] at hbd
          have hp2 := valid_parts hbd.1
          have hg : ks.getD (j * 2 + 1) dflt0 = .mk k2 n2 kids2 := by
            rw [List.getD_eq_getElem?_getD, List.getElem?_eq_getElem (by omega), HK2.out]; rfl
          have hus' : usD ks j (markF (fvs (.mk k2 n2 kids2) 0) j s) = usD ks n s0 := by
            rw [← HUS.out]
            conv => rhs; unfold usD
            rw [hgd, hg]; rfl
          have HU' := Lib.hid hus'
          have HF := Lib.hid (free_u2_any (.mk k2 n2 kids2) w wr _ 0 30 (g + 1) h' [g] (List Bool) (UtI (g + 1) h' g n j) (fun s i => s.set ((j : Int) - 1 - i).toNat true) (fun i => 0 ≤ i ∧ i < (j : Int)) s hp2.1 hin20 hx (fun x hx' => by rw [List.mem_singleton.1 hx']; exact ⟨hgw, lt_of_blk hB.2⟩) (by omega) (by omega) (used2 w _ _ g n j (by omega) (by omega) (by omega) (by omega) (by omega)) (fun i hi => by have := fvs_mem (.mk k2 n2 kids2) 0 30 i hp2.1 (by omega) hi; omega) (fun w1 w2 s hh he => ⟨he.blk hh.1, he.blk hh.2.1, hh.2.2.1, he.blk hh.2.2.2⟩) ⟨hbi, hk, hB⟩)
          clear hus' hgd hg d0 d1' d2' c30 c40 c50 hp2 hbd
          go_wp2_with fail
          refine HF.out.mono ?_
          rintro e w4 ⟨rfl, ho4, i1, i2, i3⟩
          have hx4 : Ext w w4 := ho4.ext hx (fun x hx' => by rw [List.mem_singleton.1 hx']; exact hgw)
          have hbl4 := (ho4.block _ (lt_of_blk hbl) (by simp; omega)).trans hbl
          have q0 := cell_of_blk i2 0
          have qf := frozen_of_blk i2 0
          have hgi := lt_of_blk i1
          have hgk := lt_of_blk i2
          clear c31 c41 c51 e1' e2' ef
          go_wp2_with fail
          refine ⟨⟨j, w4.heap.size, markF (fvs (.mk k2 n2 kids2) 0) j s, by omega, rfl, heap_alloc_new w4 _, hgi, by rw [markF_len]; exact hsn, HU'.out, ⟨i3.1, ((Ext.refl w4).alloc _).blk i3.2⟩, ((Ext.refl w4).alloc _).blk i1, ((Ext.refl w4).alloc _).blk hbl4, hx4.alloc _⟩, ?_⟩
          simp [e0, cell_of_blk (heap_alloc_new w4 (.cells #[.int .i64 ((j : Int) - 1)] 3)) 0, intOf]
end Go.Proofs.Ytappakllopkfiaa
