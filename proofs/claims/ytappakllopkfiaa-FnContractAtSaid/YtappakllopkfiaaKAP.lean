/-
  Lemmas towards the law, 16: Places2.
-/
import Derived.Test.YtappakllopkfiaaKAC
import Derived.Test.YtappakllopkfiaaKAO
namespace Go.Proofs.Ytappakllopkfiaa
open Go.RowKit
set_option linter.unusedVariables false
attribute [local go_sem ↓] Go.wp_at_zero Go.wp_at_succ
/-- The places that are asked for. -/
def askP (rd : Bool) (t : Tr) : Bool := !rd || isRdx t
/-- The list of places, or of those of the redexes. -/
def plV (rd : Bool) (t : Tr) : List (List Int) := if valid sigT t = true then plc (if rd = true then isRdx else allP) t [] else []
theorem cnt_of_valid {t : Tr} (h : valid sigT t = true) : cnt t ≤ 400 ∧ shape sigT t 30 = true := by
  unfold valid at h
  rw [Bool.and_eq_true] at h
  exact ⟨of_decide_eq_true h.2, h.1⟩
theorem blk_two (w : World) (o o' : Obj) : ((w.alloc o).alloc o').heap[w.heap.size + 1]? = some o' := by
  have := heap_alloc_new (w.alloc o) o'
  simpa using this
theorem emptyRow {w : World} {base g : Nat} {e : TypeId} (h : w.heap[g]? = some (.cells #[] e (0, 0))) (hb : base ≤ g) : w.ownsRow base e 1 (.slice (some ⟨g, 0, none⟩) 0 0) ([] : List Int).length (([] : List Int).map (Value.int .i64)) := ⟨rfl, .inr ⟨g, 0, #[], rfl, hb, h, Nat.le_refl _, Nat.zero_le _, rfl, rfl⟩⟩
def l8PlacesC (t : Tr) : Prop := ∀ (W w : World) (vo vt vp : Value) (ps : List (List Int)) (path : List Int) (d : Int) (rd : Bool), shape sigT t d = true → Lies W t vt → Ext W w → GrowP W w 55 vo ps → PathAt w (fun b => b < w.heap.size ∧ vo.ownBlock ≠ some b) vp path → path.length + cnt t ≤ 1000 → ps.length + cnt t ≤ 1000 →
  Calls Try.prog 90 #[vo, vt, vp, .bool rd] w fun e w' => ∃ x, e = .returned x ∧ GrowP W w' 55 x (ps ++ plc (askP rd) t path) ∧ Only vo.ownBlock.toList w w' ∧ (∀ g, x.ownBlock = some g → vo.ownBlock = some g ∨ w.heap.size ≤ g)
theorem Only.ofOwn {W w w' : World} {e : TypeId} {v : Value} {ps : List (List Int)} (ho : Only v.ownBlock.toList w w') (hG : GrowP W w e v ps) (hE : Ext W w) : Ext W w' := ho.ext hE (fun b hb => by
  rw [Option.mem_toList] at hb
  exact (hG.lt hb).1)
set_option maxRecDepth 100000 in
set_option maxHeartbeats 2000000 in
theorem l8Places_any : ∀ t : Tr, l8PlacesC t := Tr.ind fun k n ks hk => by
  intro W w vo vt vp ps path d rd hsh hin hWw hG hP hcn hcp
  have HR := Lib.hid (fun V (hV : Ext W V) => l3Redex_any (.mk k n ks) d hsh V vt (hin.ext hV))
  obtain ⟨-, -, -, hsk⟩ := shape_kids hsh
  obtain ⟨A, cap, rfl, hl, hc, hK⟩ := Lies.mk_iff.1 hin
  obtain ⟨i0, hi, hz0, hz1, hz2⟩ := info_parts infoIntP
  obtain ⟨i1, hj, hy0, hy1, hy2⟩ := info_parts infoIntsP
  have hcc := hc
  unfold maxLen at hcc
  simp only [cnt] at hcn hcp
  have hlc := len_le_cnts ks
  have hpl : plc (askP rd) (.mk k n ks) path = (if askP rd (.mk k n ks) = true then [path] else []) ++ plcs (askP rd) 0 ks path := by rw [plc]
  obtain ⟨r, hr⟩ : ∃ r, askP rd (.mk k n ks) = r := ⟨_, rfl⟩
  rw [hr] at hpl
  rw [hpl, ← List.append_assoc]
  clear hpl hin
  have hx0 := (Ext.refl w).alloc (.cells #[.int .i64 k, .int .i64 n, .slice A ks.length cap] 44)
  have hbB := heap_alloc_new w (.cells #[.int .i64 k, .int .i64 n, .slice A ks.length cap] 44)
  obtain ⟨wB, hwB⟩ : ∃ x, x = w.alloc (.cells #[.int .i64 k, .int .i64 n, .slice A ks.length cap] 44) := ⟨_, rfl⟩
  rw [← hwB] at hx0 hbB
  have hsB : w.heap.size < wB.heap.size := lt_of_blk hbB
  obtain ⟨Bo, lo, co, rfl⟩ := hG.form3
  have hus : ∃ B c, vp = .slice B path.length c := by
    rcases hP with ⟨rfl, rfl⟩ | ⟨b, o, c, rfl, _⟩
    · exact ⟨none, 0, rfl⟩
    · exact ⟨_, c, rfl⟩
  obtain ⟨Bu, cu, rfl⟩ := hus
  have HLP := Lib.hid (show ∀ s0 : List (List Int), s0 ++ plcs (askP rd) 0 (ks.take 0) path = s0 from fun s0 => by simp [plcs])
  have hGo := fun g hg => hG.lt (g := g) hg
  have hGB := hG.ext hx0
  have hPB : PathAt wB (fun b => b < wB.heap.size ∧ b ≠ w.heap.size ∧ (Value.slice Bo lo co).ownBlock ≠ some b) (.slice Bu path.length cu) path := hP.mono (fun b hb => ⟨by omega, by omega, hb.2⟩) (fun b hb => hx0.heap b hb.1)
  have hOB : Only (Value.slice Bo lo co).ownBlock.toList w wB := Only.ofExt hx0
  clear hGB hPB hOB
  cases rd with
  | false =>
    have hr1 : r = true := hr.symm
    subst hr1
    rw [if_pos rfl]
    obtain ⟨s0, hs0⟩ : ∃ s, s = ps ++ [path] := ⟨_, rfl⟩
    rw [← hs0]
    obtain ⟨w1, hw1⟩ : ∃ x, x = wB := ⟨_, rfl⟩
    have hE1 : Ext w w1 := hw1 ▸ hx0
    have hE1' : Ext wB w1 := hw1 ▸ Ext.refl wB
    have hP1 : PathAt w1 (fun b => b < w.heap.size ∧ (Value.slice Bo lo co).ownBlock ≠ some b) (.slice Bu path.length cu) path := hP.mono (fun _ h => h) (fun b hb => hE1.heap b hb.1)
    have hww : w.alloc (.cells #[.int .i64 k, .int .i64 n, .slice A ks.length cap] 44) = w1 := (hw1.trans hwB).symm
    have hsz : w.heap.size + 1 = w1.heap.size := by rw [← hww]; simp
    have HWW := Lib.hid hww
    have HSZ := Lib.hid hsz
    clear hw1 hwB hww hsz
    go_enter Try.func90, Try.ntmps90
    go_wp2_with (at_builtin; rw [HWW.out, HSZ.out]; refine wpList_append_ints _ rfl (.tmp 18) (.tmp 19) 55 rfl w1.heap.size 3 i0 _ 8 Try.underlying55 hi hz0 hz1 hz2 (by decide) rfl (ns := []) (p := path) rfl (emptyRow (heap_alloc_new _ _) (Nat.le_refl _)) (by simp) rfl (hP1.mono (fun _ h => h) (fun x hx => Below.heap_alloc w1 _ x (by have := hE1.size; omega))) (by simp; omega) ?_)
    intro va wa hva0 hga hoa
    have hva : wa.ownsRow w1.heap.size 3 1 va path.length (path.map (Value.int .i64)) := by simpa using hva0
    obtain ⟨Bv, cv, rfl, -, -, -⟩ := ownsRow_nums hva
    have hxa : Ext w1 wa := Ext.grown ((Ext.refl w1).alloc _) hga (fun g hg => by simp [Value.ownBlock] at hg; omega)
    have hxa2 := (Ext.refl wa).alloc (.cells #[.slice Bv path.length cv] 55)
    have hpb : PathAt (wa.alloc (.cells #[.slice Bv path.length cv] 55)) (fun b => W.heap.size ≤ b ∧ b < (wa.alloc (.cells #[.slice Bv path.length cv] 55)).heap.size ∧ (Value.slice Bo lo co).ownBlock ≠ some b) (.slice Bv path.length cv) path := (ownsRow_path hva).mono (fun b hb => ⟨by have := hWw.size; have := hE1.size; omega, by simp; omega, fun he => by have := (hGo b he).2; have := hE1.size; omega⟩) (fun b hb => hxa2.heap b hb.2.1)
    have hGa : GrowP W (wa.alloc (.cells #[.slice Bv path.length cv] 55)) 55 (.slice Bo lo co) ps := ((hG.ext hE1).ext hxa).ext hxa2
    go_wp2_with (at_builtin; refine wpList_append_path _ rfl (.tmp 17) (.tmp 21) 50 rfl 55 55 i1 _ 24 Try.underlying50 hj hy0 hy1 hy2 (by decide) rfl (W := W) (p := path) rfl hGa (((hWw.trans hE1).trans hxa).trans hxa2).size hpb rfl (heap_alloc_new _ _) (by omega) ?_)
    intro x0 w2 hG0 hg0 ho0
    have hlen0 : (ps ++ [path]).length + cnts ks ≤ 1000 := by rw [List.length_append, List.length_singleton]; omega
    rw [← hs0] at hG0 hlen0
    have hE2 := (hE1.trans hxa).trans hxa2
    have hO0 : Only (Value.slice Bo lo co).ownBlock.toList w w2 := Only.grown' (Only.ofExt hE2) hg0 (fun g hg => .inl (by rw [Option.mem_toList]; exact hg))
    have hox0 : ∀ g, x0.ownBlock = some g → (Value.slice Bo lo co).ownBlock = some g ∨ w.heap.size < g := fun g hg => (ho0 g hg).imp id (fun h => by have := (hE1'.trans hxa).size; have := hxa2.size; omega)
    have hb0 : w2.heap[w.heap.size]? = some (.cells #[.int .i64 k, .int .i64 n, .slice A ks.length cap] 44 (0, 0)) := (hg0.block _ (by have := (hE1'.trans (hxa.trans hxa2)).size; omega) (fun he => by have := (hGo _ he.symm).2; omega)).trans ((hE1'.trans (hxa.trans hxa2)).blk hbB)
    obtain ⟨Bx, lx, cx, rfl⟩ := hG0.form3
    clear hva0 hga hoa hva hxa hxa2 hpb hGa hg0 ho0 hE2 hE1 hE1' hP1 hbB
    have HG0 := Lib.hid hG0
    have HB0 := Lib.hid hb0
    have HO0 := Lib.hid hO0
    have HX0 := Lib.hid hox0
    clear hG0 hb0 hO0 hox0 HR hr
    go_wp2_with fail
    go_loopw [0, 9] (fun x i wr => ∃ (j : Nat) (B : Option Addr) (l c : Nat), j ≤ ks.length ∧ i = .int .i64 j ∧ x = .slice B l c ∧ GrowP W wr 55 (.slice B l c) (s0 ++ plcs (askP false) 0 (ks.take j) path) ∧ wr.heap[w.heap.size]? = some (.cells #[.int .i64 k, .int .i64 n, .slice A ks.length cap] 44 (0, 0)) ∧ Only (Value.slice Bo lo co).ownBlock.toList w wr ∧ (∀ g, (Value.slice B l c).ownBlock = some g → (Value.slice Bo lo co).ownBlock = some g ∨ w.heap.size < g)) (fun _ i _ => ks.length - (intOf i).toNat)
    case atStart => exact ⟨0, Bx, lx, cx, Nat.zero_le _, rfl, rfl, by rw [HLP.out s0]; exact HG0.out, HB0.out, HO0.out, HX0.out⟩
    case round =>
      obtain ⟨j, By, ly, cy, hj', rfl, rfl, hG, hb, hO, hox⟩ := hrel
      have hEW : Ext W wr := hO.ext hWw (fun x hx => by rw [Option.mem_toList] at hx; exact (hGo x hx).1)
      obtain ⟨z0, z1, z2, -, -, -⟩ := own3 hb
      by_cases hlt : j < ks.length
      · obtain ⟨b, o, k', n', A', cap', kids, rfl, HK, c0, c1, c2, hkl, hkc, hK', hin', hmem⟩ := hK.get (Ext.refl W) hlt
        have hcm := cnt_mem hmem
        have hlp1 := plcs_len_le (askP false) (ks.take j) 0 path
        have hlp4 : cnts (ks.take j) + cnt (.mk k' n' kids) ≤ cnts ks := by
          conv => rhs; rw [← List.take_append_drop j ks, List.drop_eq_getElem_cons hlt, HK.out]
          rw [cnts_append, cnts]
          omega
        have hlt2 : (s0 ++ plcs (askP false) 0 (ks.take j) path).length + cnt (.mk k' n' kids) ≤ 1000 := by rw [List.length_append]; omega
        have hsn : (s0 ++ plcs (askP false) 0 (ks.take j) path) ++ plc (askP false) (.mk k' n' kids) (path ++ [(j : Int)]) = s0 ++ plcs (askP false) 0 (ks.take (j + 1)) path := by
          rw [List.append_assoc, ← List.take_append_getElem hlt, HK.out, plcs_snoc, List.length_take, show min j ks.length = j by omega, Nat.zero_add]
        have HSN := Lib.hid hsn
        have HL2 := Lib.hid hlt2
        clear hsn hlt2 hlp1 hlp4
        have hj2 : (j : Int) < (ks.length : Int) := by omega
        have hsw : w.heap.size < wr.heap.size := lt_of_blk hb
        have hownx : ∀ g, (Value.slice By ly cy).ownBlock = some g → W.heap.size ≤ g ∧ g < wr.heap.size := fun g hg => hG.lt hg
        have HPX := Lib.hid (show ∀ V, Ext wr V → PathAt V (fun b => b < w.heap.size ∧ (Value.slice Bo lo co).ownBlock ≠ some b) (.slice Bu path.length cu) path from fun V hV => hP.mono (fun _ hb => hb) (fun x hx => (hV.heap x (by omega)).trans (hO.block x hx.1 (fun hm => hx.2 (by rw [Option.mem_toList] at hm; exact hm)))))
        have HS := Lib.hid (show ∀ w' : World, w'.heap[w.heap.size]? = some (.cells #[.int .i64 k, .int .i64 n, .slice (some ⟨b, o, none⟩) ks.length cap] 44 (0, 0)) → Ext W w' → w'.cell? ⟨w.heap.size, 2, none⟩ = some (.slice (some ⟨b, o, none⟩) ks.length cap) ∧ w'.cell? ⟨b, o + j * 3, none⟩ = some (.int .i64 k') ∧ w'.cell? ⟨b, o + j * 3 + 1, none⟩ = some (.int .i64 n') ∧ w'.cell? ⟨b, o + j * 3 + 2, none⟩ = some (.slice A' kids.length cap') from fun w' h1 h2 => ⟨by rw [cell_of_blk h1]; rfl, h2.cell c0, h2.cell c1, h2.cell c2⟩)
        have hX5 : Ext wr wr.drew := (Ext.refl wr).drew
        go_wp2_with fail
        clear z0 z1 z2 c0 c1 c2
        go_region_held_law (fun w' => w'.cell? ⟨w.heap.size, 2, none⟩ = some (.slice (some ⟨b, o, none⟩) ks.length cap) ∧ w'.cell? ⟨b, o + j * 3, none⟩ = some (.int .i64 k') ∧ w'.cell? ⟨b, o + j * 3 + 1, none⟩ = some (.int .i64 n') ∧ w'.cell? ⟨b, o + j * 3 + 2, none⟩ = some (.slice A' kids.length cap'))
          (first | exact HS.out _ hb6 hE6 | exact HS.out _ (hxb.blk hb) (hEW.trans hxb) | exact HS.out _ ((hxa.alloc _).blk hb) (hEW.trans (hxa.alloc _)) | exact HS.out _ (hxa.blk hb) (hEW.trans hxa) | exact HS.out _ (Ext.blk (hX5) hb) (hEW.trans (hX5)) | exact HS.out _ (Ext.blk (hX5.alloc _) hb) (hEW.trans (hX5.alloc _)) | exact HS.out _ (Ext.blk ((hX5.alloc _).alloc _) hb) (hEW.trans ((hX5.alloc _).alloc _)) | exact HS.out _ (Ext.blk (((Ext.refl wr).alloc _).drew) hb) (hEW.trans (((Ext.refl wr).alloc _).drew)) | exact HS.out _ (Ext.blk ((((Ext.refl wr).alloc _).drew).alloc _) hb) (hEW.trans ((((Ext.refl wr).alloc _).drew).alloc _)) | exact HS.out _ (Ext.blk (((((Ext.refl wr).alloc _).alloc _).drew)) hb) (hEW.trans (((((Ext.refl wr).alloc _).alloc _).drew))))
          (first
            | (refine step_append_ints _ (by rfl) (.tmp 36) (.tmp 37) _ (by rfl) wr.heap.size 3 i0 _ 8 Try.underlying55 hi hz0 hz1 hz2 (by decide) rfl (ns := []) (p := path) (by rfl) (emptyRow (by first | exact heap_alloc_new _ _ | exact ((Ext.refl _).alloc _).blk (heap_alloc_new _ _) | exact blk_two wr (.cells #[.int .i64 j] 3) (.cells #[] 3)) (by simp)) (Ext.size (by first | exact hX5 | exact hX5.alloc _ | exact (hX5.alloc _).alloc _ | exact ((Ext.refl wr).alloc _).drew | exact (((Ext.refl wr).alloc _).drew).alloc _ | exact ((((Ext.refl wr).alloc _).alloc _).drew))) (by rfl) (HPX.out _ (by first | exact hX5 | exact hX5.alloc _ | exact (hX5.alloc _).alloc _ | exact ((Ext.refl wr).alloc _).drew | exact (((Ext.refl wr).alloc _).drew).alloc _ | exact ((((Ext.refl wr).alloc _).alloc _).drew))) (by simp; omega) ?_; intro va wa hva0 hga hoa; have hva : wa.ownsRow wr.heap.size 3 1 va path.length (path.map (Value.int .i64)) := (by simpa using hva0); have hxa : Ext wr wa := Ext.grown (by first | exact hX5 | exact hX5.alloc _ | exact (hX5.alloc _).alloc _ | exact ((Ext.refl wr).alloc _).drew | exact (((Ext.refl wr).alloc _).drew).alloc _ | exact ((((Ext.refl wr).alloc _).alloc _).drew)) hga (fun g hg => by simp [Value.ownBlock] at hg; omega); (first | (have hbx : wa.heap[wr.heap.size]? = some (.cells #[.int .i64 j] 3 (0, 0)) := (hga.block _ (by simp; omega) (by simp [Value.ownBlock])).trans (((Ext.refl _).alloc _).blk (heap_alloc_new wr (.cells #[.int .i64 j] 3)))) | (have hbx : wa.heap[wr.heap.size + 1]? = some (.cells #[.int .i64 j] 3 (0, 0)) := (hga.block _ (by simp) (by simp [Value.ownBlock])).trans (blk_two wr (.cells #[] 3) (.cells #[.int .i64 j] 3))) | (have hbx := trivial)))
            | (refine step_append_one _ (by rfl) (.tmp 38) (.tmp 40) _ (by rfl) wr.heap.size 3 3 i0 _ 8 Try.underlying55 hi hz0 hz1 hz2 (by decide) rfl (y := .int .i64 j) rfl (by rfl) (by first | exact hva | exact ((Ext.refl _).alloc _).ownsRow hva) (by rfl) (by first | exact heap_alloc_new _ _ | exact hbx) (by omega) (by first | exact hxa.size | exact (hxa.alloc _).size) ?_; intro vb wb hvb hgb hob; have hq : wb.ownsRow wr.heap.size 3 1 vb (path ++ [(j : Int)]).length ((path ++ [(j : Int)]).map (Value.int .i64)) := (by simpa using hvb); have hxb : Ext wr wb := (by first | exact hxa.grown hgb (fun k hk => (hva.lt k hk).1) | exact (hxa.alloc _).grown hgb (fun k hk => (hva.lt k hk).1)))
            | (go_simp; go_at_call 90; refine (hk _ hmem W _ _ _ _ (s0 ++ plcs (askP false) 0 (ks.take j) path) (path ++ [(j : Int)]) (d - 1) false (hsk _ hmem) hin' (hEW.trans hxb) (hG.ext hxb) ((ownsRow_path hq).mono (fun x hx => ⟨hx.2.1, fun he => by have := (hownx x he).2; have := hx.1; omega⟩) (fun _ _ => rfl)) (by simp; omega) HL2.out).mono ?_; rintro e w6 ⟨x6, rfl, hG6, ho6, hox6⟩; have hE6 : Ext W w6 := ho6.ofOwn (hG.ext hxb) (hEW.trans hxb); have hb6 : w6.heap[w.heap.size]? = some (.cells #[.int .i64 k, .int .i64 n, .slice (some ⟨b, o, none⟩) ks.length cap] 44 (0, 0)) := (ho6.block _ (by have := hxb.size; omega) (fun hm => by rw [Option.mem_toList] at hm; rcases hox _ hm with h | h; (have := (hGo _ h).2; omega); omega)).trans (hxb.blk hb); (try dsimp only)))
        all_goals (
          have hO6 : Only (Value.slice Bo lo co).ownBlock.toList w w6 := (hO.trans (Only.ofExt hxb)).widen ho6 (fun x hx => by rw [Option.mem_toList] at hx; rcases hox x hx with h | h; exact .inl (by rw [Option.mem_toList]; exact h); exact .inr (by omega))
          have hox7 : ∀ g, x6.ownBlock = some g → (Value.slice Bo lo co).ownBlock = some g ∨ w.heap.size < g := fun g hg => by
            rcases hox6 g hg with h | h
            · exact hox g h
            · exact .inr (by have := hxb.size; omega)
          rw [HSN.out] at hG6
          obtain ⟨B6, l6, c6, rfl⟩ := hG6.form3
          clear hgb hob hvb hq hva hva0 hga hoa hxa hbx hxb ho6 hox6 hE6 HS hX5 HPX hownx hsw hb hG hO hox hEW
          go_wp2_with fail
          go_roundw
          case rel => exact ⟨j + 1, B6, l6, c6, by omega, by go_num, rfl, hG6, hb6, hO6, hox7⟩
          case measure => simp [intOf]; omega)
      · rw [show j = ks.length from by omega, List.take_length] at hG
        have hox8 : ∀ g, (Value.slice By ly cy).ownBlock = some g → (Value.slice Bo lo co).ownBlock = some g ∨ w.heap.size ≤ g := fun g hg => (hox g hg).imp id (fun h => by omega)
        go_wp2_with fail
        go_ret
        exact ⟨_, rfl, hG, hO, hox8⟩
  | true =>
    cases r with
    | true =>
      rw [if_pos rfl]
      obtain ⟨s0, hs0⟩ : ∃ s, s = ps ++ [path] := ⟨_, rfl⟩
      rw [← hs0]
      have hrr : (rdxT (.mk k n ks) != 0) = true := hr
      go_enter Try.func90, Try.ntmps90
      go_wp2_with fail
      rw [← hwB]
      refine (HR.out _ (hWw.trans hx0)).mono ?_
      rintro e w1 ⟨rfl, hE1'⟩
      have hE1 : Ext w w1 := hx0.trans hE1'
      have hP1 : PathAt w1 (fun b => b < w.heap.size ∧ (Value.slice Bo lo co).ownBlock ≠ some b) (.slice Bu path.length cu) path := hP.mono (fun _ h => h) (fun b hb => hE1.heap b hb.1)
      clear hwB
      go_wp2_with (at_builtin; refine wpList_append_ints _ rfl (.tmp 18) (.tmp 19) 55 rfl w1.heap.size 3 i0 _ 8 Try.underlying55 hi hz0 hz1 hz2 (by decide) rfl (ns := []) (p := path) rfl (emptyRow (heap_alloc_new _ _) (Nat.le_refl _)) (by simp) rfl (hP1.mono (fun _ h => h) (fun x hx => Below.heap_alloc w1 _ x (by have := hE1.size; omega))) (by simp; omega) ?_)
      intro va wa hva0 hga hoa
      have hva : wa.ownsRow w1.heap.size 3 1 va path.length (path.map (Value.int .i64)) := by simpa using hva0
      obtain ⟨Bv, cv, rfl, -, -, -⟩ := ownsRow_nums hva
      have hxa : Ext w1 wa := Ext.grown ((Ext.refl w1).alloc _) hga (fun g hg => by simp [Value.ownBlock] at hg; omega)
      have hxa2 := (Ext.refl wa).alloc (.cells #[.slice Bv path.length cv] 55)
      have hpb : PathAt (wa.alloc (.cells #[.slice Bv path.length cv] 55)) (fun b => W.heap.size ≤ b ∧ b < (wa.alloc (.cells #[.slice Bv path.length cv] 55)).heap.size ∧ (Value.slice Bo lo co).ownBlock ≠ some b) (.slice Bv path.length cv) path := (ownsRow_path hva).mono (fun b hb => ⟨by have := hWw.size; have := hE1.size; omega, by simp; omega, fun he => by have := (hGo b he).2; have := hE1.size; omega⟩) (fun b hb => hxa2.heap b hb.2.1)
      have hGa : GrowP W (wa.alloc (.cells #[.slice Bv path.length cv] 55)) 55 (.slice Bo lo co) ps := ((hG.ext hE1).ext hxa).ext hxa2
      go_wp2_with (at_builtin; refine wpList_append_path _ rfl (.tmp 17) (.tmp 21) 50 rfl 55 55 i1 _ 24 Try.underlying50 hj hy0 hy1 hy2 (by decide) rfl (W := W) (p := path) rfl hGa (((hWw.trans hE1).trans hxa).trans hxa2).size hpb rfl (heap_alloc_new _ _) (by omega) ?_)
      intro x0 w2 hG0 hg0 ho0
      have hlen0 : (ps ++ [path]).length + cnts ks ≤ 1000 := by rw [List.length_append, List.length_singleton]; omega
      rw [← hs0] at hG0 hlen0
      have hE2 := (hE1.trans hxa).trans hxa2
      have hO0 : Only (Value.slice Bo lo co).ownBlock.toList w w2 := Only.grown' (Only.ofExt hE2) hg0 (fun g hg => .inl (by rw [Option.mem_toList]; exact hg))
      have hox0 : ∀ g, x0.ownBlock = some g → (Value.slice Bo lo co).ownBlock = some g ∨ w.heap.size < g := fun g hg => (ho0 g hg).imp id (fun h => by have := (hE1'.trans hxa).size; have := hxa2.size; omega)
      have hb0 : w2.heap[w.heap.size]? = some (.cells #[.int .i64 k, .int .i64 n, .slice A ks.length cap] 44 (0, 0)) := (hg0.block _ (by have := (hE1'.trans (hxa.trans hxa2)).size; omega) (fun he => by have := (hGo _ he.symm).2; omega)).trans ((hE1'.trans (hxa.trans hxa2)).blk hbB)
      obtain ⟨Bx, lx, cx, rfl⟩ := hG0.form3
      clear hva0 hga hoa hva hxa hxa2 hpb hGa hg0 ho0 hE2 hE1 hE1' hP1 hbB
      have HG0 := Lib.hid hG0
      have HB0 := Lib.hid hb0
      have HO0 := Lib.hid hO0
      have HX0 := Lib.hid hox0
      clear hG0 hb0 hO0 hox0 HR hr
      go_wp2_with fail
      go_loopw [0, 9] (fun x i wr => ∃ (j : Nat) (B : Option Addr) (l c : Nat), j ≤ ks.length ∧ i = .int .i64 j ∧ x = .slice B l c ∧ GrowP W wr 55 (.slice B l c) (s0 ++ plcs (askP true) 0 (ks.take j) path) ∧ wr.heap[w.heap.size]? = some (.cells #[.int .i64 k, .int .i64 n, .slice A ks.length cap] 44 (0, 0)) ∧ Only (Value.slice Bo lo co).ownBlock.toList w wr ∧ (∀ g, (Value.slice B l c).ownBlock = some g → (Value.slice Bo lo co).ownBlock = some g ∨ w.heap.size < g)) (fun _ i _ => ks.length - (intOf i).toNat)
      case atStart => exact ⟨0, Bx, lx, cx, Nat.zero_le _, rfl, rfl, by rw [HLP.out s0]; exact HG0.out, HB0.out, HO0.out, HX0.out⟩
      case round =>
        obtain ⟨j, By, ly, cy, hj', rfl, rfl, hG, hb, hO, hox⟩ := hrel
        have hEW : Ext W wr := hO.ext hWw (fun x hx => by rw [Option.mem_toList] at hx; exact (hGo x hx).1)
        obtain ⟨z0, z1, z2, -, -, -⟩ := own3 hb
        by_cases hlt : j < ks.length
        · obtain ⟨b, o, k', n', A', cap', kids, rfl, HK, c0, c1, c2, hkl, hkc, hK', hin', hmem⟩ := hK.get (Ext.refl W) hlt
          have hcm := cnt_mem hmem
          have hlp1 := plcs_len_le (askP true) (ks.take j) 0 path
          have hlp4 : cnts (ks.take j) + cnt (.mk k' n' kids) ≤ cnts ks := by
            conv => rhs; rw [← List.take_append_drop j ks, List.drop_eq_getElem_cons hlt, HK.out]
            rw [cnts_append, cnts]
            omega
          have hlt2 : (s0 ++ plcs (askP true) 0 (ks.take j) path).length + cnt (.mk k' n' kids) ≤ 1000 := by rw [List.length_append]; omega
          have hsn : (s0 ++ plcs (askP true) 0 (ks.take j) path) ++ plc (askP true) (.mk k' n' kids) (path ++ [(j : Int)]) = s0 ++ plcs (askP true) 0 (ks.take (j + 1)) path := by
            rw [List.append_assoc, ← List.take_append_getElem hlt, HK.out, plcs_snoc, List.length_take, show min j ks.length = j by omega, Nat.zero_add]
          have HSN := Lib.hid hsn
          have HL2 := Lib.hid hlt2
          clear hsn hlt2 hlp1 hlp4
          have hj2 : (j : Int) < (ks.length : Int) := by omega
          have hsw : w.heap.size < wr.heap.size := lt_of_blk hb
          have hownx : ∀ g, (Value.slice By ly cy).ownBlock = some g → W.heap.size ≤ g ∧ g < wr.heap.size := fun g hg => hG.lt hg
          have HPX := Lib.hid (show ∀ V, Ext wr V → PathAt V (fun b => b < w.heap.size ∧ (Value.slice Bo lo co).ownBlock ≠ some b) (.slice Bu path.length cu) path from fun V hV => hP.mono (fun _ hb => hb) (fun x hx => (hV.heap x (by omega)).trans (hO.block x hx.1 (fun hm => hx.2 (by rw [Option.mem_toList] at hm; exact hm)))))
          have HS := Lib.hid (show ∀ w' : World, w'.heap[w.heap.size]? = some (.cells #[.int .i64 k, .int .i64 n, .slice (some ⟨b, o, none⟩) ks.length cap] 44 (0, 0)) → Ext W w' → w'.cell? ⟨w.heap.size, 2, none⟩ = some (.slice (some ⟨b, o, none⟩) ks.length cap) ∧ w'.cell? ⟨b, o + j * 3, none⟩ = some (.int .i64 k') ∧ w'.cell? ⟨b, o + j * 3 + 1, none⟩ = some (.int .i64 n') ∧ w'.cell? ⟨b, o + j * 3 + 2, none⟩ = some (.slice A' kids.length cap') from fun w' h1 h2 => ⟨by rw [cell_of_blk h1]; rfl, h2.cell c0, h2.cell c1, h2.cell c2⟩)
          have hX5 : Ext wr wr.drew := (Ext.refl wr).drew
          go_wp2_with fail
          clear z0 z1 z2 c0 c1 c2
          go_region_held_law (fun w' => w'.cell? ⟨w.heap.size, 2, none⟩ = some (.slice (some ⟨b, o, none⟩) ks.length cap) ∧ w'.cell? ⟨b, o + j * 3, none⟩ = some (.int .i64 k') ∧ w'.cell? ⟨b, o + j * 3 + 1, none⟩ = some (.int .i64 n') ∧ w'.cell? ⟨b, o + j * 3 + 2, none⟩ = some (.slice A' kids.length cap'))
            (first | exact HS.out _ hb6 hE6 | exact HS.out _ (hxb.blk hb) (hEW.trans hxb) | exact HS.out _ ((hxa.alloc _).blk hb) (hEW.trans (hxa.alloc _)) | exact HS.out _ (hxa.blk hb) (hEW.trans hxa) | exact HS.out _ (Ext.blk (hX5) hb) (hEW.trans (hX5)) | exact HS.out _ (Ext.blk (hX5.alloc _) hb) (hEW.trans (hX5.alloc _)) | exact HS.out _ (Ext.blk ((hX5.alloc _).alloc _) hb) (hEW.trans ((hX5.alloc _).alloc _)) | exact HS.out _ (Ext.blk (((Ext.refl wr).alloc _).drew) hb) (hEW.trans (((Ext.refl wr).alloc _).drew)) | exact HS.out _ (Ext.blk ((((Ext.refl wr).alloc _).drew).alloc _) hb) (hEW.trans ((((Ext.refl wr).alloc _).drew).alloc _)) | exact HS.out _ (Ext.blk (((((Ext.refl wr).alloc _).alloc _).drew)) hb) (hEW.trans (((((Ext.refl wr).alloc _).alloc _).drew))))
            (first
              | (refine step_append_ints _ (by rfl) (.tmp 36) (.tmp 37) _ (by rfl) wr.heap.size 3 i0 _ 8 Try.underlying55 hi hz0 hz1 hz2 (by decide) rfl (ns := []) (p := path) (by rfl) (emptyRow (by first | exact heap_alloc_new _ _ | exact ((Ext.refl _).alloc _).blk (heap_alloc_new _ _) | exact blk_two wr (.cells #[.int .i64 j] 3) (.cells #[] 3)) (by simp)) (Ext.size (by first | exact hX5 | exact hX5.alloc _ | exact (hX5.alloc _).alloc _ | exact ((Ext.refl wr).alloc _).drew | exact (((Ext.refl wr).alloc _).drew).alloc _ | exact ((((Ext.refl wr).alloc _).alloc _).drew))) (by rfl) (HPX.out _ (by first | exact hX5 | exact hX5.alloc _ | exact (hX5.alloc _).alloc _ | exact ((Ext.refl wr).alloc _).drew | exact (((Ext.refl wr).alloc _).drew).alloc _ | exact ((((Ext.refl wr).alloc _).alloc _).drew))) (by simp; omega) ?_; intro va wa hva0 hga hoa; have hva : wa.ownsRow wr.heap.size 3 1 va path.length (path.map (Value.int .i64)) := (by simpa using hva0); have hxa : Ext wr wa := Ext.grown (by first | exact hX5 | exact hX5.alloc _ | exact (hX5.alloc _).alloc _ | exact ((Ext.refl wr).alloc _).drew | exact (((Ext.refl wr).alloc _).drew).alloc _ | exact ((((Ext.refl wr).alloc _).alloc _).drew)) hga (fun g hg => by simp [Value.ownBlock] at hg; omega); (first | (have hbx : wa.heap[wr.heap.size]? = some (.cells #[.int .i64 j] 3 (0, 0)) := (hga.block _ (by simp; omega) (by simp [Value.ownBlock])).trans (((Ext.refl _).alloc _).blk (heap_alloc_new wr (.cells #[.int .i64 j] 3)))) | (have hbx : wa.heap[wr.heap.size + 1]? = some (.cells #[.int .i64 j] 3 (0, 0)) := (hga.block _ (by simp) (by simp [Value.ownBlock])).trans (blk_two wr (.cells #[] 3) (.cells #[.int .i64 j] 3))) | (have hbx := trivial)))
              | (refine step_append_one _ (by rfl) (.tmp 38) (.tmp 40) _ (by rfl) wr.heap.size 3 3 i0 _ 8 Try.underlying55 hi hz0 hz1 hz2 (by decide) rfl (y := .int .i64 j) rfl (by rfl) (by first | exact hva | exact ((Ext.refl _).alloc _).ownsRow hva) (by rfl) (by first | exact heap_alloc_new _ _ | exact hbx) (by omega) (by first | exact hxa.size | exact (hxa.alloc _).size) ?_; intro vb wb hvb hgb hob; have hq : wb.ownsRow wr.heap.size 3 1 vb (path ++ [(j : Int)]).length ((path ++ [(j : Int)]).map (Value.int .i64)) := (by simpa using hvb); have hxb : Ext wr wb := (by first | exact hxa.grown hgb (fun k hk => (hva.lt k hk).1) | exact (hxa.alloc _).grown hgb (fun k hk => (hva.lt k hk).1)))
              | (go_simp; go_at_call 90; refine (hk _ hmem W _ _ _ _ (s0 ++ plcs (askP true) 0 (ks.take j) path) (path ++ [(j : Int)]) (d - 1) true (hsk _ hmem) hin' (hEW.trans hxb) (hG.ext hxb) ((ownsRow_path hq).mono (fun x hx => ⟨hx.2.1, fun he => by have := (hownx x he).2; have := hx.1; omega⟩) (fun _ _ => rfl)) (by simp; omega) HL2.out).mono ?_; rintro e w6 ⟨x6, rfl, hG6, ho6, hox6⟩; have hE6 : Ext W w6 := ho6.ofOwn (hG.ext hxb) (hEW.trans hxb); have hb6 : w6.heap[w.heap.size]? = some (.cells #[.int .i64 k, .int .i64 n, .slice (some ⟨b, o, none⟩) ks.length cap] 44 (0, 0)) := (ho6.block _ (by have := hxb.size; omega) (fun hm => by rw [Option.mem_toList] at hm; rcases hox _ hm with h | h; (have := (hGo _ h).2; omega); omega)).trans (hxb.blk hb); (try dsimp only)))
          all_goals (
            have hO6 : Only (Value.slice Bo lo co).ownBlock.toList w w6 := (hO.trans (Only.ofExt hxb)).widen ho6 (fun x hx => by rw [Option.mem_toList] at hx; rcases hox x hx with h | h; exact .inl (by rw [Option.mem_toList]; exact h); exact .inr (by omega))
            have hox7 : ∀ g, x6.ownBlock = some g → (Value.slice Bo lo co).ownBlock = some g ∨ w.heap.size < g := fun g hg => by
              rcases hox6 g hg with h | h
              · exact hox g h
              · exact .inr (by have := hxb.size; omega)
            rw [HSN.out] at hG6
            obtain ⟨B6, l6, c6, rfl⟩ := hG6.form3
            clear hgb hob hvb hq hva hva0 hga hoa hxa hbx hxb ho6 hox6 hE6 HS hX5 HPX hownx hsw hb hG hO hox hEW
            go_wp2_with fail
            go_roundw
            case rel => exact ⟨j + 1, B6, l6, c6, by omega, by go_num, rfl, hG6, hb6, hO6, hox7⟩
            case measure => simp [intOf]; omega)
        · rw [show j = ks.length from by omega, List.take_length] at hG
          have hox8 : ∀ g, (Value.slice By ly cy).ownBlock = some g → (Value.slice Bo lo co).ownBlock = some g ∨ w.heap.size ≤ g := fun g hg => (hox g hg).imp id (fun h => by omega)
          go_wp2_with fail
          go_ret
          exact ⟨_, rfl, hG, hO, hox8⟩
    | false =>
      rw [if_neg (by decide)]
      obtain ⟨s0, hs0⟩ : ∃ s, s = ps ++ [] := ⟨_, rfl⟩
      rw [← hs0]
      have hrr : (rdxT (.mk k n ks) != 0) = false := hr
      go_enter Try.func90, Try.ntmps90
      go_wp2_with fail
      rw [← hwB]
      refine (HR.out _ (hWw.trans hx0)).mono ?_
      rintro e w1 ⟨rfl, hE1'⟩
      have hE1 : Ext w w1 := hx0.trans hE1'
      clear hwB
      rw [List.append_nil] at hs0
      have hG0 : GrowP W w1 55 (.slice Bo lo co) s0 := by rw [hs0]; exact hG.ext hE1
      have hlen0 : s0.length + cnts ks ≤ 1000 := by rw [hs0]; omega
      have hO0 : Only (Value.slice Bo lo co).ownBlock.toList w w1 := Only.ofExt hE1
      have hox0 : ∀ g, (Value.slice Bo lo co).ownBlock = some g → (Value.slice Bo lo co).ownBlock = some g ∨ w.heap.size < g := fun g hg => .inl hg
      have hb0 : w1.heap[w.heap.size]? = some (.cells #[.int .i64 k, .int .i64 n, .slice A ks.length cap] 44 (0, 0)) := hE1'.blk hbB
      clear hE1 hE1' hbB
      have HG0 := Lib.hid hG0
      have HB0 := Lib.hid hb0
      have HO0 := Lib.hid hO0
      have HX0 := Lib.hid hox0
      clear hG0 hb0 hO0 hox0 HR hr
      go_wp2_with fail
      go_loopw [0, 9] (fun x i wr => ∃ (j : Nat) (B : Option Addr) (l c : Nat), j ≤ ks.length ∧ i = .int .i64 j ∧ x = .slice B l c ∧ GrowP W wr 55 (.slice B l c) (s0 ++ plcs (askP true) 0 (ks.take j) path) ∧ wr.heap[w.heap.size]? = some (.cells #[.int .i64 k, .int .i64 n, .slice A ks.length cap] 44 (0, 0)) ∧ Only (Value.slice Bo lo co).ownBlock.toList w wr ∧ (∀ g, (Value.slice B l c).ownBlock = some g → (Value.slice Bo lo co).ownBlock = some g ∨ w.heap.size < g)) (fun _ i _ => ks.length - (intOf i).toNat)
      case atStart => exact ⟨0, Bo, lo, co, Nat.zero_le _, rfl, rfl, by rw [HLP.out s0]; exact HG0.out, HB0.out, HO0.out, HX0.out⟩
      case round =>
        obtain ⟨j, By, ly, cy, hj', rfl, rfl, hG, hb, hO, hox⟩ := hrel
        have hEW : Ext W wr := hO.ext hWw (fun x hx => by rw [Option.mem_toList] at hx; exact (hGo x hx).1)
        obtain ⟨z0, z1, z2, -, -, -⟩ := own3 hb
        by_cases hlt : j < ks.length
        · obtain ⟨b, o, k', n', A', cap', kids, rfl, HK, c0, c1, c2, hkl, hkc, hK', hin', hmem⟩ := hK.get (Ext.refl W) hlt
          have hcm := cnt_mem hmem
          have hlp1 := plcs_len_le (askP true) (ks.take j) 0 path
          have hlp4 : cnts (ks.take j) + cnt (.mk k' n' kids) ≤ cnts ks := by
            conv => rhs; rw [← List.take_append_drop j ks, List.drop_eq_getElem_cons hlt, HK.out]
            rw [cnts_append, cnts]
            omega
          have hlt2 : (s0 ++ plcs (askP true) 0 (ks.take j) path).length + cnt (.mk k' n' kids) ≤ 1000 := by rw [List.length_append]; omega
          have hsn : (s0 ++ plcs (askP true) 0 (ks.take j) path) ++ plc (askP true) (.mk k' n' kids) (path ++ [(j : Int)]) = s0 ++ plcs (askP true) 0 (ks.take (j + 1)) path := by
            rw [List.append_assoc, ← List.take_append_getElem hlt, HK.out, plcs_snoc, List.length_take, show min j ks.length = j by omega, Nat.zero_add]
          have HSN := Lib.hid hsn
          have HL2 := Lib.hid hlt2
          clear hsn hlt2 hlp1 hlp4
          have hj2 : (j : Int) < (ks.length : Int) := by omega
          have hsw : w.heap.size < wr.heap.size := lt_of_blk hb
          have hownx : ∀ g, (Value.slice By ly cy).ownBlock = some g → W.heap.size ≤ g ∧ g < wr.heap.size := fun g hg => hG.lt hg
          have HPX := Lib.hid (show ∀ V, Ext wr V → PathAt V (fun b => b < w.heap.size ∧ (Value.slice Bo lo co).ownBlock ≠ some b) (.slice Bu path.length cu) path from fun V hV => hP.mono (fun _ hb => hb) (fun x hx => (hV.heap x (by omega)).trans (hO.block x hx.1 (fun hm => hx.2 (by rw [Option.mem_toList] at hm; exact hm)))))
          have HS := Lib.hid (show ∀ w' : World, w'.heap[w.heap.size]? = some (.cells #[.int .i64 k, .int .i64 n, .slice (some ⟨b, o, none⟩) ks.length cap] 44 (0, 0)) → Ext W w' → w'.cell? ⟨w.heap.size, 2, none⟩ = some (.slice (some ⟨b, o, none⟩) ks.length cap) ∧ w'.cell? ⟨b, o + j * 3, none⟩ = some (.int .i64 k') ∧ w'.cell? ⟨b, o + j * 3 + 1, none⟩ = some (.int .i64 n') ∧ w'.cell? ⟨b, o + j * 3 + 2, none⟩ = some (.slice A' kids.length cap') from fun w' h1 h2 => ⟨by rw [cell_of_blk h1]; rfl, h2.cell c0, h2.cell c1, h2.cell c2⟩)
          have hX5 : Ext wr wr.drew := (Ext.refl wr).drew
          go_wp2_with fail
          clear z0 z1 z2 c0 c1 c2
          go_region_held_law (fun w' => w'.cell? ⟨w.heap.size, 2, none⟩ = some (.slice (some ⟨b, o, none⟩) ks.length cap) ∧ w'.cell? ⟨b, o + j * 3, none⟩ = some (.int .i64 k') ∧ w'.cell? ⟨b, o + j * 3 + 1, none⟩ = some (.int .i64 n') ∧ w'.cell? ⟨b, o + j * 3 + 2, none⟩ = some (.slice A' kids.length cap'))
            (first | exact HS.out _ hb6 hE6 | exact HS.out _ (hxb.blk hb) (hEW.trans hxb) | exact HS.out _ ((hxa.alloc _).blk hb) (hEW.trans (hxa.alloc _)) | exact HS.out _ (hxa.blk hb) (hEW.trans hxa) | exact HS.out _ (Ext.blk (hX5) hb) (hEW.trans (hX5)) | exact HS.out _ (Ext.blk (hX5.alloc _) hb) (hEW.trans (hX5.alloc _)) | exact HS.out _ (Ext.blk ((hX5.alloc _).alloc _) hb) (hEW.trans ((hX5.alloc _).alloc _)) | exact HS.out _ (Ext.blk (((Ext.refl wr).alloc _).drew) hb) (hEW.trans (((Ext.refl wr).alloc _).drew)) | exact HS.out _ (Ext.blk ((((Ext.refl wr).alloc _).drew).alloc _) hb) (hEW.trans ((((Ext.refl wr).alloc _).drew).alloc _)) | exact HS.out _ (Ext.blk (((((Ext.refl wr).alloc _).alloc _).drew)) hb) (hEW.trans (((((Ext.refl wr).alloc _).alloc _).drew))))
            (first
              | (refine step_append_ints _ (by rfl) (.tmp 36) (.tmp 37) _ (by rfl) wr.heap.size 3 i0 _ 8 Try.underlying55 hi hz0 hz1 hz2 (by decide) rfl (ns := []) (p := path) (by rfl) (emptyRow (by first | exact heap_alloc_new _ _ | exact ((Ext.refl _).alloc _).blk (heap_alloc_new _ _) | exact blk_two wr (.cells #[.int .i64 j] 3) (.cells #[] 3)) (by simp)) (Ext.size (by first | exact hX5 | exact hX5.alloc _ | exact (hX5.alloc _).alloc _ | exact ((Ext.refl wr).alloc _).drew | exact (((Ext.refl wr).alloc _).drew).alloc _ | exact ((((Ext.refl wr).alloc _).alloc _).drew))) (by rfl) (HPX.out _ (by first | exact hX5 | exact hX5.alloc _ | exact (hX5.alloc _).alloc _ | exact ((Ext.refl wr).alloc _).drew | exact (((Ext.refl wr).alloc _).drew).alloc _ | exact ((((Ext.refl wr).alloc _).alloc _).drew))) (by simp; omega) ?_; intro va wa hva0 hga hoa; have hva : wa.ownsRow wr.heap.size 3 1 va path.length (path.map (Value.int .i64)) := (by simpa using hva0); have hxa : Ext wr wa := Ext.grown (by first | exact hX5 | exact hX5.alloc _ | exact (hX5.alloc _).alloc _ | exact ((Ext.refl wr).alloc _).drew | exact (((Ext.refl wr).alloc _).drew).alloc _ | exact ((((Ext.refl wr).alloc _).alloc _).drew)) hga (fun g hg => by simp [Value.ownBlock] at hg; omega); (first | (have hbx : wa.heap[wr.heap.size]? = some (.cells #[.int .i64 j] 3 (0, 0)) := (hga.block _ (by simp; omega) (by simp [Value.ownBlock])).trans (((Ext.refl _).alloc _).blk (heap_alloc_new wr (.cells #[.int .i64 j] 3)))) | (have hbx : wa.heap[wr.heap.size + 1]? = some (.cells #[.int .i64 j] 3 (0, 0)) := (hga.block _ (by simp) (by simp [Value.ownBlock])).trans (blk_two wr (.cells #[] 3) (.cells #[.int .i64 j] 3))) | (have hbx := trivial)))
              | (refine step_append_one _ (by rfl) (.tmp 38) (.tmp 40) _ (by rfl) wr.heap.size 3 3 i0 _ 8 Try.underlying55 hi hz0 hz1 hz2 (by decide) rfl (y := .int .i64 j) rfl (by rfl) (by first | exact hva | exact ((Ext.refl _).alloc _).ownsRow hva) (by rfl) (by first | exact heap_alloc_new _ _ | exact hbx) (by omega) (by first | exact hxa.size | exact (hxa.alloc _).size) ?_; intro vb wb hvb hgb hob; have hq : wb.ownsRow wr.heap.size 3 1 vb (path ++ [(j : Int)]).length ((path ++ [(j : Int)]).map (Value.int .i64)) := (by simpa using hvb); have hxb : Ext wr wb := (by first | exact hxa.grown hgb (fun k hk => (hva.lt k hk).1) | exact (hxa.alloc _).grown hgb (fun k hk => (hva.lt k hk).1)))
              | (go_simp; go_at_call 90; refine (hk _ hmem W _ _ _ _ (s0 ++ plcs (askP true) 0 (ks.take j) path) (path ++ [(j : Int)]) (d - 1) true (hsk _ hmem) hin' (hEW.trans hxb) (hG.ext hxb) ((ownsRow_path hq).mono (fun x hx => ⟨hx.2.1, fun he => by have := (hownx x he).2; have := hx.1; omega⟩) (fun _ _ => rfl)) (by simp; omega) HL2.out).mono ?_; rintro e w6 ⟨x6, rfl, hG6, ho6, hox6⟩; have hE6 : Ext W w6 := ho6.ofOwn (hG.ext hxb) (hEW.trans hxb); have hb6 : w6.heap[w.heap.size]? = some (.cells #[.int .i64 k, .int .i64 n, .slice (some ⟨b, o, none⟩) ks.length cap] 44 (0, 0)) := (ho6.block _ (by have := hxb.size; omega) (fun hm => by rw [Option.mem_toList] at hm; rcases hox _ hm with h | h; (have := (hGo _ h).2; omega); omega)).trans (hxb.blk hb); (try dsimp only)))
          all_goals (
            have hO6 : Only (Value.slice Bo lo co).ownBlock.toList w w6 := (hO.trans (Only.ofExt hxb)).widen ho6 (fun x hx => by rw [Option.mem_toList] at hx; rcases hox x hx with h | h; exact .inl (by rw [Option.mem_toList]; exact h); exact .inr (by omega))
            have hox7 : ∀ g, x6.ownBlock = some g → (Value.slice Bo lo co).ownBlock = some g ∨ w.heap.size < g := fun g hg => by
              rcases hox6 g hg with h | h
              · exact hox g h
              · exact .inr (by have := hxb.size; omega)
            rw [HSN.out] at hG6
            obtain ⟨B6, l6, c6, rfl⟩ := hG6.form3
            clear hgb hob hvb hq hva hva0 hga hoa hxa hbx hxb ho6 hox6 hE6 HS hX5 HPX hownx hsw hb hG hO hox hEW
            go_wp2_with fail
            go_roundw
            case rel => exact ⟨j + 1, B6, l6, c6, by omega, by go_num, rfl, hG6, hb6, hO6, hox7⟩
            case measure => simp [intOf]; omega)
        · rw [show j = ks.length from by omega, List.take_length] at hG
          have hox8 : ∀ g, (Value.slice By ly cy).ownBlock = some g → (Value.slice Bo lo co).ownBlock = some g ∨ w.heap.size ≤ g := fun g hg => (hox g hg).imp id (fun h => by omega)
          go_wp2_with fail
          go_ret
          exact ⟨_, rfl, hG, hO, hox8⟩
end Go.Proofs.Ytappakllopkfiaa
