/-
  Lemmas towards the law, 21: Tell.
-/
import Derived.Test.YtolkohncmidpeaaGreatDoorGAT
import Derived.Deep.RegionHeld3
namespace Go.Proofs.YtolkohncmidpeaaGreatDoor
open Go.RowKit
set_option linter.unusedVariables false
theorem fvss_get : ∀ {k : Int} {ts : List Tr} {i j : Nat} {b x : Int} (h : j < ts.length), x ∈ fvs ts[j] (b + und k (i + j)) → x ∈ fvss k ts i b
  | k, t :: ts, i, 0, b, x, h, hx => by unfold fvss; exact List.mem_append.2 (.inl hx)
  | k, t :: ts, i, j + 1, b, x, h, hx => by
    unfold fvss
    refine List.mem_append.2 (.inr (fvss_get (j := j) (by simpa using h) ?_))
    rw [show i + 1 + j = i + (j + 1) by omega]
    exact hx
/-- A closure told of one number: only the blocks of L turn, and what Inv says of the state goes on by f. -/
def Told_mx (a : World) (p1 : Nat) (L : List Nat) {σ : Type} (Inv : World → σ → Prop) (f : σ → Int → σ) (p : Int → Prop) : Prop :=
  ∀ (w : World) (s : σ) (i : Int), Ext a w → Inv w s → p i → Calls Tryz.prog 86 #[.int .i64 i, .pointer (some ⟨p1, 0, none⟩)] w fun e w' => e = .returned (.tuple #[]) ∧ Only L w w' ∧ Inv w' (f s i)
def FreeC_mx (t : Tr) : Prop := ∀ (a w : World) (v : Value) (b d : Int) (p1 : Nat) (L : List Nat) (σ : Type) (Inv : World → σ → Prop) (f : σ → Int → σ) (p : Int → Prop) (s : σ),
  shape sigT t d = true → Lies a t v → Ext a w → (∀ x, x ∈ L → a.heap.size ≤ x ∧ x < w.heap.size) → 0 ≤ b → b + cnt t ≤ 1000000 →
  Told_mx a p1 L Inv f p → (∀ i, i ∈ fvs t b → p i) → (∀ w1 w2 s, Inv w1 s → Ext w1 w2 → Inv w2 s) → Inv w s →
  Calls Tryz.prog 85 #[v, .int .i64 b, .func (.func 86) #[] #[.pointer (some ⟨p1, 0, none⟩)]] w fun e w' => e = .returned (.tuple #[]) ∧ Only L w w' ∧ Inv w' ((fvs t b).foldl f s)
set_option maxRecDepth 100000 in
set_option maxHeartbeats 1000000 in
theorem free_mx_any : ∀ t : Tr, FreeC_mx t := Tr.ind fun k n ks hk => by
  intro a w v b d p1 L σ Inv f p s hsh hin ha hL hb0 hb1 hT hp hst hI
  obtain ⟨A, cap, rfl, hl, hc, hK⟩ := Lies.mk_iff.1 hin
  obtain ⟨-, hn0, hn1, hsk⟩ := shape_kids' hsh
  have hlc := len_le_cnts ks
  have hcc := hc
  unfold maxLen at hcc
  simp only [cnt] at hb1
  have hmost := most_le k
  obtain ⟨b1, d1⟩ : ∃ b1, (k == 1) = b1 := ⟨_, rfl⟩
  obtain ⟨b2, d2⟩ : ∃ b2, decide (b ≤ n) = b2 := ⟨_, rfl⟩
  have hfv : fvs (.mk k n ks) b = (if (b1 && b2) = true then [n - b] else []) ++ fvss k ks 0 b := by
    conv => lhs; unfold fvs
    rw [← d1, ← d2]
    simp
  have hpk : ∀ i, i ∈ fvss k ks 0 b → p i := fun i hi => hp i (by rw [hfv]; exact List.mem_append.2 (.inr hi))
  have hst' := hst
  have hwl : ∀ x, x ∈ L → x ≠ w.heap.size := fun x hx e => by have := (hL x hx).2; omega
  have hE0 : Ext w (w.alloc (.cells #[.int .i64 k, .int .i64 n, .slice A ks.length cap] 45)) := (Ext.refl w).alloc _
  have hB0 := heap_alloc_new w (.cells #[.int .i64 k, .int .i64 n, .slice A ks.length cap] 45)
  have hS0 : (w.alloc (.cells #[.int .i64 k, .int .i64 n, .slice A ks.length cap] 45)).heap.size = w.heap.size + 1 := by simp
  have HTell : b1 = true → b2 = true → Calls Tryz.prog 86 #[.int .i64 (n - b), .pointer (some ⟨p1, 0, none⟩)] (w.alloc (.cells #[.int .i64 k, .int .i64 n, .slice A ks.length cap] 45)) fun e w' => e = .returned (.tuple #[]) ∧ Only L (w.alloc (.cells #[.int .i64 k, .int .i64 n, .slice A ks.length cap] 45)) w' ∧ Inv w' (f s (n - b)) := fun h1 h2 =>
    hT _ s _ (ha.trans hE0) (hst _ _ _ hI hE0) (hp _ (by rw [hfv, h1, h2]; simp))
  have hIa := hst _ _ _ hI hE0
  have hTx : ∀ s1, (if (b1 && b2) = true then f s (n - b) else s) = s1 → (fvs (.mk k n ks) b).foldl f s = (fvss k ks 0 b).foldl f s1 := fun s1 h => by
    rw [hfv, ← h, List.foldl_append]
    split <;> rfl
  have HTL := Lib.hid HTell
  have HTX := Lib.hid hTx
  have hWL := Lib.hid hwl
  clear HTell hTx hfv hp hwl
  cases b1 <;> cases b2
  case true.true =>
    have HTL' := Lib.hid (HTL.out rfl rfl)
    clear HTL
    go_enter Tryz.func85, Tryz.ntmps85
    go_wp2_with fail
    refine HTL'.out.mono ?_
    rintro e w1 ⟨rfl, ho1, hI1⟩
    have hTot := HTX.out _ rfl
    clear HTL'
    have HTot := Lib.hid (show (fvs (.mk k n ks) b).foldl f s = (fvss k ks 0 b).foldl f (f s (n - b)) from hTot)
    clear hTot
    have hB1 : w1.heap[w.heap.size]? = some (.cells #[.int .i64 k, .int .i64 n, .slice A ks.length cap] 45 (0, 0)) := (ho1.block _ (by rw [hS0]; omega) (fun h => hWL.out _ h rfl)).trans hB0
    have ha1 : Ext a w1 := ho1.ext (ha.trans hE0) (fun x hx => (hL x hx).1)
    have hO : Only L w w1 := (Only.of_ext hE0).trans ho1
    have hsz1 : w.heap.size < w1.heap.size := lt_of_blk hB1
    clear ho1 hB0 hS0 hE0 hIa
    obtain ⟨x0, x1, x2, -, -, -⟩ := own3 hB1
    go_wp2_with fail
    clear x0 x1 x2
    go_loopw [26] (fun i wr => ∃ (j : Nat) (s2 : σ), j ≤ ks.length ∧ i = .int .i64 j ∧ Inv wr s2 ∧ (fvss k ks 0 b).foldl f (f s (n - b)) = (fvss k (ks.drop j) j b).foldl f s2 ∧ Only L w1 wr) (fun i _ => ks.length - (intOf i).toNat)
    case atStart => exact ⟨0, (f s (n - b)), Nat.zero_le _, rfl, hI1, rfl, Only.refl _ _⟩
    case round =>
      obtain ⟨j, s2, hj, rfl, hI2, heq, ho⟩ := hrel
      have HE := Lib.hid heq
      clear heq
      have har : Ext a wr := ho.ext ha1 (fun x hx => (hL x hx).1)
      have hBr := (ho.block _ hsz1 (fun h => hWL.out _ h rfl)).trans hB1
      obtain ⟨x0, x1, x2, -, -, -⟩ := own3 hBr
      have hub := und_le k j
      by_cases hlt : j < ks.length
      · obtain ⟨b', o, k', n', A', cap', kids, rfl, HK, c0, c1, c2, hkl, hkc, hK', hin', hmem⟩ := hK.get har hlt
        have hst : (fvss k (ks.drop j) j b).foldl f s2 = (fvss k (ks.drop (j + 1)) (j + 1) b).foldl f ((fvs (.mk k' n' kids) (b + und k j)).foldl f s2) := by
          rw [List.drop_eq_getElem_cons hlt, HK.out]; conv => lhs; unfold fvss
          rw [List.foldl_append]
        have HR := Lib.hid (hk _ hmem a)
        have hpk' : ∀ i, i ∈ fvs (.mk k' n' kids) (b + und k j) → p i := fun i hi => hpk i (by
          rw [← HK.out] at hi
          exact fvss_get hlt (by rw [Nat.zero_add]; exact hi))
        have hcm := cnt_mem hmem
        have hsk' := hsk _ hmem
        have hj' : (j : Int) < (ks.length : Int) := by omega
        obtain ⟨u, hu⟩ : ∃ u, u = und k j := ⟨_, rfl⟩
        have HU := Lib.hid (fun W => under_any k j W)
        rw [← hu] at HU hub hst hpk'
        have HT := Lib.hid hst
        have HWR := Lib.hid (IntWalk.i64_in (b + u) ⟨by omega, by omega⟩)
        clear hu hst
        have hinA : Lies a (.mk k' n' kids) (.agg #[.int .i64 k', .int .i64 n', .slice A' kids.length cap']) := by
          obtain ⟨b2, o2, k2, n2, A2, cap2, kids2, h1, h2, e0, e1, e2, h6, h7, h8, h9, h10⟩ := hK.get (Ext.refl a) hlt
          obtain ⟨rfl, rfl⟩ : b' = b2 ∧ o = o2 := by cases h1; exact ⟨rfl, rfl⟩
          have e3 := (har.cell e0).symm.trans c0
          have e4 := (har.cell e1).symm.trans c1
          have e5 := (har.cell e2).symm.trans c2
          have e6 := h2.out.symm.trans HK.out
          cases e3; cases e4; cases e6; cases e5
          exact h9
        go_wp2_with fail
        have hx := (Ext.refl wr).alloc (.cells #[.int .i64 k', .int .i64 n', .slice A' kids.length cap'] 45)
        have hb5 := heap_alloc_new wr (.cells #[.int .i64 k', .int .i64 n', .slice A' kids.length cap'] 45)
        obtain ⟨w5, hw5⟩ : ∃ w5, w5 = wr.alloc (.cells #[.int .i64 k', .int .i64 n', .slice A' kids.length cap'] 45) := ⟨_, rfl⟩
        rw [← hw5] at hx hb5 ⊢
        clear hw5
        have hsr : w.heap.size < wr.heap.size := lt_of_blk hBr
        have hLr : ∀ x, x ∈ L → x ≠ w.heap.size ∧ x ≠ wr.heap.size := fun x hx => ⟨hWL.out x hx, by have := (hL x hx).2; omega⟩
        have hB5 := hx.blk hBr
        have hs5 : wr.heap.size < w5.heap.size := lt_of_blk hb5
        have HC := Lib.hid (show ∀ w', Only L w5 w' → w'.cell? ⟨w.heap.size, 0, none⟩ = some (.int .i64 k) ∧ w'.cell? ⟨wr.heap.size, 0, none⟩ = some (.int .i64 k') ∧ w'.cell? ⟨wr.heap.size, 1, none⟩ = some (.int .i64 n') ∧ w'.cell? ⟨wr.heap.size, 2, none⟩ = some (.slice A' kids.length cap') from fun w' hw' => by
          obtain ⟨p0, -, -, -, -, -⟩ := own3 ((hw'.block w.heap.size (by omega) (fun h => (hLr _ h).1 rfl)).trans hB5)
          obtain ⟨q0, q1, q2, -, -, -⟩ := own3 ((hw'.block wr.heap.size (by omega) (fun h => (hLr _ h).2 rfl)).trans hb5)
          exact ⟨p0, q0, q1, q2⟩)
        obtain ⟨y0, z0, z1, z2⟩ := HC.out w5 (Only.refl _ _)
        have ha5 := har.trans hx
        have hI5 := hst' _ _ _ hI2 hx
        have HF := Lib.hid (fun W (hW : Ext w5 W) => HR.out W _ (b + u) _ p1 L σ Inv f p s2 hsk' hinA (ha5.trans hW) (fun x hx => ⟨(hL x hx).1, by have := (hL x hx).2; have := hW.size; omega⟩) (by omega) (by omega) hT hpk' hst' (hst' _ _ _ hI5 hW))
        have hO5 : Only L w1 w5 := ho.trans (Only.of_ext hx)
        have HSK := Lib.hid hsk
        have HL0 := Lib.hid hL
        have HST := Lib.hid hst'
        have HTT := Lib.hid hT
        have HPK := Lib.hid hpk
        clear hsk hL hst' hst hT hpk hLr hsk' hk hinA
        clear c0 c1 c2 x0 x1 x2 hb5 hBr HR hpk' hK' hin' hB5 hI2 ho har hx hI5
        go_region_held3 (fun w' => w'.cell? ⟨w.heap.size, 0, none⟩ = some (.int .i64 k) ∧ w'.cell? ⟨wr.heap.size, 0, none⟩ = some (.int .i64 k') ∧ w'.cell? ⟨wr.heap.size, 1, none⟩ = some (.int .i64 n') ∧ w'.cell? ⟨wr.heap.size, 2, none⟩ = some (.slice A' kids.length cap'))
          (first | exact HC.out _ ho6 | exact HC.out _ (Only.of_ext (Ext.refl w5).drew))
          (first | (go_at_call 125; refine (HU.out _).mono ?_; rintro e w6 ⟨rfl, rfl⟩) | (go_at_call 85; rw [HWR.out]; refine (HF.out _ (Ext.refl w5).drew).mono ?_; rintro e w6 ⟨rfl, ho6', hI6⟩; have ho6 : Only L w5 w6 := (Only.of_ext (Ext.refl w5).drew).trans ho6'))
        go_wp2_with fail
        go_roundw
        case rel => exact ⟨j + 1, _, by omega, by go_num, hI6, by rw [HE.out, HT.out], hO5.trans ho6⟩
        case measure => simp [intOf]; omega
      · go_wp2_with fail
        go_end0
        rw [List.drop_of_length_le (by omega)] at HE
        exact ⟨rfl, hO.trans ho, by rw [HTot.out, HE.out]; exact hI2⟩
  all_goals (
    clear HTL
    go_enter Tryz.func85, Tryz.ntmps85
    go_wp2_with fail
    have hTot := HTX.out _ rfl
    generalize w.alloc _ = w1 at hIa hB0 hE0 hS0
    have ho1 := Only.refl L w1
    have hI1 := hIa
    have HTot := Lib.hid (show (fvs (.mk k n ks) b).foldl f s = (fvss k ks 0 b).foldl f s from hTot)
    clear hTot
    have hB1 : w1.heap[w.heap.size]? = some (.cells #[.int .i64 k, .int .i64 n, .slice A ks.length cap] 45 (0, 0)) := (ho1.block _ (by rw [hS0]; omega) (fun h => hWL.out _ h rfl)).trans hB0
    have ha1 : Ext a w1 := ho1.ext (ha.trans hE0) (fun x hx => (hL x hx).1)
    have hO : Only L w w1 := (Only.of_ext hE0).trans ho1
    have hsz1 : w.heap.size < w1.heap.size := lt_of_blk hB1
    clear ho1 hB0 hS0 hE0 hIa
    go_loopw [26] (fun i wr => ∃ (j : Nat) (s2 : σ), j ≤ ks.length ∧ i = .int .i64 j ∧ Inv wr s2 ∧ (fvss k ks 0 b).foldl f s = (fvss k (ks.drop j) j b).foldl f s2 ∧ Only L w1 wr) (fun i _ => ks.length - (intOf i).toNat)
    case atStart => exact ⟨0, s, Nat.zero_le _, rfl, hI1, rfl, Only.refl _ _⟩
    case round =>
      obtain ⟨j, s2, hj, rfl, hI2, heq, ho⟩ := hrel
      have HE := Lib.hid heq
      clear heq
      have har : Ext a wr := ho.ext ha1 (fun x hx => (hL x hx).1)
      have hBr := (ho.block _ hsz1 (fun h => hWL.out _ h rfl)).trans hB1
      obtain ⟨x0, x1, x2, -, -, -⟩ := own3 hBr
      have hub := und_le k j
      by_cases hlt : j < ks.length
      · obtain ⟨b', o, k', n', A', cap', kids, rfl, HK, c0, c1, c2, hkl, hkc, hK', hin', hmem⟩ := hK.get har hlt
        have hst : (fvss k (ks.drop j) j b).foldl f s2 = (fvss k (ks.drop (j + 1)) (j + 1) b).foldl f ((fvs (.mk k' n' kids) (b + und k j)).foldl f s2) := by
          rw [List.drop_eq_getElem_cons hlt, HK.out]; conv => lhs; unfold fvss
          rw [List.foldl_append]
        have HR := Lib.hid (hk _ hmem a)
        have hpk' : ∀ i, i ∈ fvs (.mk k' n' kids) (b + und k j) → p i := fun i hi => hpk i (by
          rw [← HK.out] at hi
          exact fvss_get hlt (by rw [Nat.zero_add]; exact hi))
        have hcm := cnt_mem hmem
        have hsk' := hsk _ hmem
        have hj' : (j : Int) < (ks.length : Int) := by omega
        obtain ⟨u, hu⟩ : ∃ u, u = und k j := ⟨_, rfl⟩
        have HU := Lib.hid (fun W => under_any k j W)
        rw [← hu] at HU hub hst hpk'
        have HT := Lib.hid hst
        have HWR := Lib.hid (IntWalk.i64_in (b + u) ⟨by omega, by omega⟩)
        clear hu hst
        have hinA : Lies a (.mk k' n' kids) (.agg #[.int .i64 k', .int .i64 n', .slice A' kids.length cap']) := by
          obtain ⟨b2, o2, k2, n2, A2, cap2, kids2, h1, h2, e0, e1, e2, h6, h7, h8, h9, h10⟩ := hK.get (Ext.refl a) hlt
          obtain ⟨rfl, rfl⟩ : b' = b2 ∧ o = o2 := by cases h1; exact ⟨rfl, rfl⟩
          have e3 := (har.cell e0).symm.trans c0
          have e4 := (har.cell e1).symm.trans c1
          have e5 := (har.cell e2).symm.trans c2
          have e6 := h2.out.symm.trans HK.out
          cases e3; cases e4; cases e6; cases e5
          exact h9
        go_wp2_with fail
        have hx := (Ext.refl wr).alloc (.cells #[.int .i64 k', .int .i64 n', .slice A' kids.length cap'] 45)
        have hb5 := heap_alloc_new wr (.cells #[.int .i64 k', .int .i64 n', .slice A' kids.length cap'] 45)
        obtain ⟨w5, hw5⟩ : ∃ w5, w5 = wr.alloc (.cells #[.int .i64 k', .int .i64 n', .slice A' kids.length cap'] 45) := ⟨_, rfl⟩
        rw [← hw5] at hx hb5 ⊢
        clear hw5
        have hsr : w.heap.size < wr.heap.size := lt_of_blk hBr
        have hLr : ∀ x, x ∈ L → x ≠ w.heap.size ∧ x ≠ wr.heap.size := fun x hx => ⟨hWL.out x hx, by have := (hL x hx).2; omega⟩
        have hB5 := hx.blk hBr
        have hs5 : wr.heap.size < w5.heap.size := lt_of_blk hb5
        have HC := Lib.hid (show ∀ w', Only L w5 w' → w'.cell? ⟨w.heap.size, 0, none⟩ = some (.int .i64 k) ∧ w'.cell? ⟨wr.heap.size, 0, none⟩ = some (.int .i64 k') ∧ w'.cell? ⟨wr.heap.size, 1, none⟩ = some (.int .i64 n') ∧ w'.cell? ⟨wr.heap.size, 2, none⟩ = some (.slice A' kids.length cap') from fun w' hw' => by
          obtain ⟨p0, -, -, -, -, -⟩ := own3 ((hw'.block w.heap.size (by omega) (fun h => (hLr _ h).1 rfl)).trans hB5)
          obtain ⟨q0, q1, q2, -, -, -⟩ := own3 ((hw'.block wr.heap.size (by omega) (fun h => (hLr _ h).2 rfl)).trans hb5)
          exact ⟨p0, q0, q1, q2⟩)
        obtain ⟨y0, z0, z1, z2⟩ := HC.out w5 (Only.refl _ _)
        have ha5 := har.trans hx
        have hI5 := hst' _ _ _ hI2 hx
        have HF := Lib.hid (fun W (hW : Ext w5 W) => HR.out W _ (b + u) _ p1 L σ Inv f p s2 hsk' hinA (ha5.trans hW) (fun x hx => ⟨(hL x hx).1, by have := (hL x hx).2; have := hW.size; omega⟩) (by omega) (by omega) hT hpk' hst' (hst' _ _ _ hI5 hW))
        have hO5 : Only L w1 w5 := ho.trans (Only.of_ext hx)
        have HSK := Lib.hid hsk
        have HL0 := Lib.hid hL
        have HST := Lib.hid hst'
        have HTT := Lib.hid hT
        have HPK := Lib.hid hpk
        clear hsk hL hst' hst hT hpk hLr hsk' hk hinA
        clear c0 c1 c2 x0 x1 x2 hb5 hBr HR hpk' hK' hin' hB5 hI2 ho har hx hI5
        go_region_held3 (fun w' => w'.cell? ⟨w.heap.size, 0, none⟩ = some (.int .i64 k) ∧ w'.cell? ⟨wr.heap.size, 0, none⟩ = some (.int .i64 k') ∧ w'.cell? ⟨wr.heap.size, 1, none⟩ = some (.int .i64 n') ∧ w'.cell? ⟨wr.heap.size, 2, none⟩ = some (.slice A' kids.length cap'))
          (first | exact HC.out _ ho6 | exact HC.out _ (Only.of_ext (Ext.refl w5).drew))
          (first | (go_at_call 125; refine (HU.out _).mono ?_; rintro e w6 ⟨rfl, rfl⟩) | (go_at_call 85; rw [HWR.out]; refine (HF.out _ (Ext.refl w5).drew).mono ?_; rintro e w6 ⟨rfl, ho6', hI6⟩; have ho6 : Only L w5 w6 := (Only.of_ext (Ext.refl w5).drew).trans ho6'))
        go_wp2_with fail
        go_roundw
        case rel => exact ⟨j + 1, _, by omega, by go_num, hI6, by rw [HE.out, HT.out], hO5.trans ho6⟩
        case measure => simp [intOf]; omega
      · go_wp2_with fail
        go_end0
        rw [List.drop_of_length_le (by omega)] at HE
        exact ⟨rfl, hO.trans ho, by rw [HTot.out, HE.out]; exact hI2⟩)
def MxI (p1 : Nat) (w : World) (s : Int) : Prop := w.heap[p1]? = some (.cells #[.int .i64 s] 3 (0, 0)) ∧ 0 ≤ s ∧ s ≤ 21
theorem maxFree1 (a : World) (p1 : Nat) : Told_mx a p1 [p1] (MxI p1) (fun s i => max s (i + 1)) (fun i => 0 ≤ i ∧ i ≤ 20) := by
  intro w s i ha hI hi
  obtain ⟨hb, h0, h1⟩ := hI
  have c0 := cell_of_blk hb 0
  have f0 := frozen_of_blk hb 0
  have hB := Lib.hid hb
  clear hb
  go_enter Tryz.func86, Tryz.ntmps86
  go_wp2_with fail
  all_goals go_end0
  all_goals exact ⟨rfl, (Only.refl _ _).setCell (by simp) _, blk_setCell hB.out 0 _ |>.trans (by simp; omega), by omega, by omega⟩
theorem maxFree_any (t : Tr) (w : World) (v : Value) (hin : Lies w t v) (hv : valid sigT t = true) : Calls Tryz.prog 44 #[v] w fun e w' => e = .returned (.int .i64 (mxf t 0)) ∧ Ext w w' := by
  obtain ⟨h1, h2⟩ := valid_parts hv
  have hF := fun W (hW : Ext w W) p1 (hp : w.heap.size ≤ p1) (hb : W.heap[p1]? = some (.cells #[.int .i64 0] 3 (0, 0))) =>
    free_mx_any t w W v 0 30 p1 [p1] Int (MxI p1) (fun s i => max s (i + 1)) (fun i => 0 ≤ i ∧ i ≤ 20) 0 h1 hin hW (fun x hx => by rw [List.mem_singleton.1 hx]; exact ⟨hp, lt_of_blk hb⟩) (by omega) (by omega)
      (maxFree1 w p1) (fun i hi => by have := fvs_mem t 0 30 i h1 (by omega) hi; omega) (fun w1 w2 s hs he => ⟨he.blk hs.1, hs.2⟩) ⟨hb, by omega, by omega⟩
  have hm := mxf_fold t 0 0 (by omega)
  have hn := mxf_nonneg t 0
  rw [hm, Int.max_eq_right hn] at hF
  have HF := Lib.hid hF
  clear hm hn h1 h2 hv hF
  obtain ⟨k, n, ks⟩ := t
  obtain ⟨A, cap, rfl, hl, hc, hK⟩ := Lies.mk_iff.1 hin
  generalize mxf (.mk k n ks) 0 = m at HF
  go_enter Tryz.func44, Tryz.ntmps44
  go_wp2_with fail
  have hE := ((Ext.refl w).alloc (.cells #[.int .i64 k, .int .i64 n, .slice A ks.length cap] 45)).alloc (.cells #[.int .i64 0] 3)
  obtain ⟨hb1, hb2, hsz⟩ := blk2 (Ext.refl ((w.alloc (.cells #[.int .i64 k, .int .i64 n, .slice A ks.length cap] 45)).alloc (.cells #[.int .i64 0] 3)))
  refine (HF.out _ hE (w.heap.size + 1) (by omega) hb2).mono ?_
  rintro e w1 ⟨rfl, ho, hI⟩
  have hc1 := cell_of_blk hI.1 0
  have hE1 := ho.ext hE (fun x hx => by rw [List.mem_singleton.1 hx]; omega)
  clear hb1 hb2 HF
  go_wp2_with fail
  go_ret
  exact ⟨rfl, hE1⟩
end Go.Proofs.YtolkohncmidpeaaGreatDoor
