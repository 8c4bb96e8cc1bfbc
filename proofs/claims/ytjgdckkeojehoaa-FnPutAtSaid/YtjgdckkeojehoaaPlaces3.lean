/-
  spec.PlacesOf, spec.RedexPlaces; impl.outer, NormalTerm; laws.dkInts.
-/
import Derived.Test.YtjgdckkeojehoaaPlaces
import Derived.Test.YtjgdckkeojehoaaWalkValid
namespace Go.Proofs.Ytjgdckkeojehoaa
open Go.RowKit
set_option linter.unusedVariables false
attribute [local go_sem ↓] Go.wp_at_zero Go.wp_at_succ

/-- The places that are asked for. -/
def askP (rd : Bool) (t : Tr) : Bool := !rd || isRdx t
/-- The list of places, or of those of the redexes. -/
def plV (rd : Bool) (t : Tr) : List (List Int) := if valid sigT t = true then plc (if rd = true then isRdx else allP) t [] else []
theorem cnt_of_valid {t : Tr} (h : valid sigT t = true) : cnt t ≤ 400 ∧ shape sigT t 30 = true := by
  unfold valid at h
  rw [Bool.and_eq_true] at h
  exact ⟨of_decide_eq_true h.2, h.1⟩
set_option maxRecDepth 100000 in
set_option maxHeartbeats 1000000 in
theorem plcR_top (t : Tr) (w : World) (v : Value) (hin : Lies w t v) : Calls Try.prog 11 #[v] w fun e w' => ∃ x, e = .returned x ∧ GrowP w w' 32 x (plV true t) ∧ Ext w w' := by
  have HV := Lib.hid (fun W (hW : Ext w W) => validTerm_any t W v (hin.ext hW))
  have HX := Lib.hid (fun (h : valid sigT t = true) W (hW : Ext w W) => plcR_any t W v (.slice none 0 0) [] 30 (cnt_of_valid h).2 (hin.ext hW) (.inl ⟨rfl, rfl⟩) (by have := (cnt_of_valid h).1; simp; omega))
  have E := Lib.hid (show plV true t = if valid sigT t = true then plc isRdx t [] else [] from rfl)
  obtain ⟨z, hz⟩ : ∃ z, valid sigT t = z := ⟨_, rfl⟩
  rw [hz] at HV E HX
  clear hz
  obtain ⟨k, n, ks⟩ := t
  obtain ⟨A, cap, rfl, hl, hc, hK⟩ := Lies.mk_iff.1 hin
  have hx0 := (Ext.refl w).alloc (.cells #[.int .i64 k, .int .i64 n, .slice A ks.length cap] 25)
  cases z with
  | false =>
    have E2 := Lib.hid (E.out.trans (if_neg (by decide)))
    clear E HX
    go_enter Try.func11, Try.ntmps11
    go_wp2_with fail
    refine (HV.out _ hx0).mono ?_
    rintro e w1 ⟨rfl, h1⟩
    go_wp2_with fail
    go_ret
    exact ⟨_, rfl, by rw [E2.out]; exact GrowP.nil _ _ _, hx0.trans h1⟩
  | true =>
    have E2 := Lib.hid (E.out.trans (if_pos rfl))
    have HX2 := Lib.hid (HX.out rfl)
    clear E HX
    have hbB := heap_alloc_new w (.cells #[.int .i64 k, .int .i64 n, .slice A ks.length cap] 25)
    go_enter Try.func11, Try.ntmps11
    go_wp2_with fail
    refine (HV.out _ hx0).mono ?_
    rintro e w1 ⟨rfl, h1⟩
    obtain ⟨z0, z1, z2, -, -, -⟩ := own3 (h1.blk hbB)
    clear hbB
    go_wp2_with fail
    refine (HX2.out _ (hx0.trans h1)).mono ?_
    rintro e w2 ⟨x, rfl, hG, h2⟩
    go_wp2_with fail
    go_ret
    exact ⟨_, rfl, by rw [E2.out]; exact hG.since (hx0.trans h1).size, (hx0.trans h1).trans h2⟩
theorem blk_two (w : World) (o o' : Obj) : ((w.alloc o).alloc o').heap[w.heap.size + 1]? = some o' := by
  have := heap_alloc_new (w.alloc o) o'
  simpa using this
theorem emptyRow {w : World} {base g : Nat} {e : TypeId} (h : w.heap[g]? = some (.cells #[] e (0, 0))) (hb : base ≤ g) : w.ownsRow base e 1 (.slice (some ⟨g, 0, none⟩) 0 0) ([] : List Int).length (([] : List Int).map (Value.int .i64)) := ⟨rfl, .inr ⟨g, 0, #[], rfl, hb, h, Nat.le_refl _, Nat.zero_le _, rfl, rfl⟩⟩
def l8PlacesC (t : Tr) : Prop := ∀ (W w : World) (vo vt vp : Value) (ps : List (List Int)) (path : List Int) (d : Int) (rd : Bool), shape sigT t d = true → Lies W t vt → Ext W w → GrowP W w 32 vo ps → PathAt w (fun b => b < w.heap.size ∧ vo.ownBlock ≠ some b) vp path → path.length + cnt t ≤ 1000 → ps.length + cnt t ≤ 1000 →
  Calls Try.prog 48 #[vo, vt, vp, .bool rd] w fun e w' => ∃ x, e = .returned x ∧ GrowP W w' 32 x (ps ++ plc (askP rd) t path) ∧ Only vo.ownBlock.toList w w' ∧ (∀ g, x.ownBlock = some g → vo.ownBlock = some g ∨ w.heap.size ≤ g)
theorem Only.ofOwn {W w w' : World} {e : TypeId} {v : Value} {ps : List (List Int)} (ho : Only v.ownBlock.toList w w') (hG : GrowP W w e v ps) (hE : Ext W w) : Ext W w' := ho.ext hE (fun b hb => by
  rw [Option.mem_toList] at hb
  exact (hG.lt hb).1)
set_option maxRecDepth 100000 in
set_option maxHeartbeats 2000000 in
theorem l8Places_any : ∀ t : Tr, l8PlacesC t := Tr.ind fun k n ks hk => by
  intro W w vo vt vp ps path d rd hsh hin hWw hG hP hcn hcp
  have HR := Lib.hid (fun V (hV : Ext W V) => l3Redex_any (.mk k n ks) d hsh V vt (hin.ext hV))
  obtain ⟨-, -, -, hsk⟩ := shape_kids hsh
  obtain ⟨A, cap, rfl, hl, hc, hK⟩ := Lies.mk_iff.1 hin
  obtain ⟨i0, hi, hz0, hz1, hz2⟩ := info_parts infoIntP
  obtain ⟨i1, hj, hy0, hy1, hy2⟩ := info_parts infoIntsP
  have hcc := hc
  unfold maxLen at hcc
  simp only [cnt] at hcn hcp
  have hlc := len_le_cnts ks
  have hpl : plc (askP rd) (.mk k n ks) path = (if askP rd (.mk k n ks) = true then [path] else []) ++ plcs (askP rd) 0 ks path := by rw [plc]
  obtain ⟨r, hr⟩ : ∃ r, askP rd (.mk k n ks) = r := ⟨_, rfl⟩
  rw [hr] at hpl
  rw [hpl, ← List.append_assoc]
  clear hpl hin
  have hx0 := (Ext.refl w).alloc (.cells #[.int .i64 k, .int .i64 n, .slice A ks.length cap] 25)
  have hbB := heap_alloc_new w (.cells #[.int .i64 k, .int .i64 n, .slice A ks.length cap] 25)
  obtain ⟨wB, hwB⟩ : ∃ x, x = w.alloc (.cells #[.int .i64 k, .int .i64 n, .slice A ks.length cap] 25) := ⟨_, rfl⟩
  rw [← hwB] at hx0 hbB
  have hsB : w.heap.size < wB.heap.size := lt_of_blk hbB
  obtain ⟨Bo, lo, co, rfl⟩ := hG.form3
  have hus : ∃ B c, vp = .slice B path.length c := by
    rcases hP with ⟨rfl, rfl⟩ | ⟨b, o, c, rfl, _⟩
    · exact ⟨none, 0, rfl⟩
    · exact ⟨_, c, rfl⟩
  obtain ⟨Bu, cu, rfl⟩ := hus
  have HLP := Lib.hid (show ∀ s0 : List (List Int), s0 ++ plcs (askP rd) 0 (ks.take 0) path = s0 from fun s0 => by simp [plcs])
  have hGo := fun g hg => hG.lt (g := g) hg
  have hGB := hG.ext hx0
  have hPB : PathAt wB (fun b => b < wB.heap.size ∧ b ≠ w.heap.size ∧ (Value.slice Bo lo co).ownBlock ≠ some b) (.slice Bu path.length cu) path := hP.mono (fun b hb => ⟨by omega, by omega, hb.2⟩) (fun b hb => hx0.heap b hb.1)
  have hOB : Only (Value.slice Bo lo co).ownBlock.toList w wB := Only.ofExt hx0
  clear hGB hPB hOB
  cases rd with
  | false =>
    have hr1 : r = true := hr.symm
    subst hr1
    rw [if_pos rfl]
    obtain ⟨s0, hs0⟩ : ∃ s, s = ps ++ [path] := ⟨_, rfl⟩
    rw [← hs0]
    obtain ⟨w1, hw1⟩ : ∃ x, x = wB := ⟨_, rfl⟩
    have hE1 : Ext w w1 := hw1 ▸ hx0
    have hE1' : Ext wB w1 := hw1 ▸ Ext.refl wB
    have hP1 : PathAt w1 (fun b => b < w.heap.size ∧ (Value.slice Bo lo co).ownBlock ≠ some b) (.slice Bu path.length cu) path := hP.mono (fun _ h => h) (fun b hb => hE1.heap b hb.1)
    have hww : w.alloc (.cells #[.int .i64 k, .int .i64 n, .slice A ks.length cap] 25) = w1 := (hw1.trans hwB).symm
    have hsz : w.heap.size + 1 = w1.heap.size := by rw [← hww]; simp
    have HWW := Lib.hid hww
    have HSZ := Lib.hid hsz
    clear hw1 hwB hww hsz
    go_enter Try.func48, Try.ntmps48
    go_wp2_with (at_builtin; rw [HWW.out, HSZ.out]; refine wpList_append_ints _ rfl (.tmp 18) (.tmp 19) 32 rfl w1.heap.size 3 i0 _ 8 Try.underlying32 hi hz0 hz1 hz2 (by decide) rfl (ns := []) (p := path) rfl (emptyRow (heap_alloc_new _ _) (Nat.le_refl _)) (by simp) rfl (hP1.mono (fun _ h => h) (fun x hx => Below.heap_alloc w1 _ x (by have := hE1.size; omega))) (by simp; omega) ?_)
    intro va wa hva0 hga hoa
    have hva : wa.ownsRow w1.heap.size 3 1 va path.length (path.map (Value.int .i64)) := by simpa using hva0
    obtain ⟨Bv, cv, rfl, -, -, -⟩ := ownsRow_nums hva
    have hxa : Ext w1 wa := Ext.grown ((Ext.refl w1).alloc _) hga (fun g hg => by simp [Value.ownBlock] at hg; omega)
    have hxa2 := (Ext.refl wa).alloc (.cells #[.slice Bv path.length cv] 32)
    have hpb : PathAt (wa.alloc (.cells #[.slice Bv path.length cv] 32)) (fun b => W.heap.size ≤ b ∧ b < (wa.alloc (.cells #[.slice Bv path.length cv] 32)).heap.size ∧ (Value.slice Bo lo co).ownBlock ≠ some b) (.slice Bv path.length cv) path := (ownsRow_path hva).mono (fun b hb => ⟨by have := hWw.size; have := hE1.size; omega, by simp; omega, fun he => by have := (hGo b he).2; have := hE1.size; omega⟩) (fun b hb => hxa2.heap b hb.2.1)
    have hGa : GrowP W (wa.alloc (.cells #[.slice Bv path.length cv] 32)) 32 (.slice Bo lo co) ps := ((hG.ext hE1).ext hxa).ext hxa2
    go_wp2_with (at_builtin; refine wpList_append_path _ rfl (.tmp 17) (.tmp 21) 27 rfl 32 32 i1 _ 24 Try.underlying27 hj hy0 hy1 hy2 (by decide) rfl (W := W) (p := path) rfl hGa (((hWw.trans hE1).trans hxa).trans hxa2).size hpb rfl (heap_alloc_new _ _) (by omega) ?_)
    intro x0 w2 hG0 hg0 ho0
    have hlen0 : (ps ++ [path]).length + cnts ks ≤ 1000 := by rw [List.length_append, List.length_singleton]; omega
    rw [← hs0] at hG0 hlen0
    have hE2 := (hE1.trans hxa).trans hxa2
    have hO0 : Only (Value.slice Bo lo co).ownBlock.toList w w2 := Only.grown' (Only.ofExt hE2) hg0 (fun g hg => .inl (by rw [Option.mem_toList]; exact hg))
    have hox0 : ∀ g, x0.ownBlock = some g → (Value.slice Bo lo co).ownBlock = some g ∨ w.heap.size < g := fun g hg => (ho0 g hg).imp id (fun h => by have := (hE1'.trans hxa).size; have := hxa2.size; omega)
    have hb0 : w2.heap[w.heap.size]? = some (.cells #[.int .i64 k, .int .i64 n, .slice A ks.length cap] 25 (0, 0)) := (hg0.block _ (by have := (hE1'.trans (hxa.trans hxa2)).size; omega) (fun he => by have := (hGo _ he.symm).2; omega)).trans ((hE1'.trans (hxa.trans hxa2)).blk hbB)
    obtain ⟨Bx, lx, cx, rfl⟩ := hG0.form3
    clear hva0 hga hoa hva hxa hxa2 hpb hGa hg0 ho0 hE2 hE1 hE1' hP1 hbB
    have HG0 := Lib.hid hG0
    have HB0 := Lib.hid hb0
    have HO0 := Lib.hid hO0
    have HX0 := Lib.hid hox0
    clear hG0 hb0 hO0 hox0 HR hr
    go_wp2_with fail
    go_loopw [0, 9] (fun x i wr => ∃ (j : Nat) (B : Option Addr) (l c : Nat), j ≤ ks.length ∧ i = .int .i64 j ∧ x = .slice B l c ∧ GrowP W wr 32 (.slice B l c) (s0 ++ plcs (askP false) 0 (ks.take j) path) ∧ wr.heap[w.heap.size]? = some (.cells #[.int .i64 k, .int .i64 n, .slice A ks.length cap] 25 (0, 0)) ∧ Only (Value.slice Bo lo co).ownBlock.toList w wr ∧ (∀ g, (Value.slice B l c).ownBlock = some g → (Value.slice Bo lo co).ownBlock = some g ∨ w.heap.size < g)) (fun _ i _ => ks.length - (intOf i).toNat)
    case atStart => exact ⟨0, Bx, lx, cx, Nat.zero_le _, rfl, rfl, by rw [HLP.out s0]; exact HG0.out, HB0.out, HO0.out, HX0.out⟩
    case round =>
      obtain ⟨j, By, ly, cy, hj', rfl, rfl, hG, hb, hO, hox⟩ := hrel
      have hEW : Ext W wr := hO.ext hWw (fun x hx => by rw [Option.mem_toList] at hx; exact (hGo x hx).1)
      obtain ⟨z0, z1, z2, -, -, -⟩ := own3 hb
      by_cases hlt : j < ks.length
      · obtain ⟨b, o, k', n', A', cap', kids, rfl, HK, c0, c1, c2, hkl, hkc, hK', hin', hmem⟩ := hK.get (Ext.refl W) hlt
        have hcm := cnt_mem hmem
        have hlp1 := plcs_len_le (askP false) (ks.take j) 0 path
        have hlp4 : cnts (ks.take j) + cnt (.mk k' n' kids) ≤ cnts ks := by
          conv => rhs; rw [← List.take_append_drop j ks, List.drop_eq_getElem_cons hlt, HK.out]
          rw [cnts_append, cnts]
          omega
        have hlt2 : (s0 ++ plcs (askP false) 0 (ks.take j) path).length + cnt (.mk k' n' kids) ≤ 1000 := by rw [List.length_append]; omega
        have hsn : (s0 ++ plcs (askP false) 0 (ks.take j) path) ++ plc (askP false) (.mk k' n' kids) (path ++ [(j : Int)]) = s0 ++ plcs (askP false) 0 (ks.take (j + 1)) path := by
          rw [List.append_assoc, ← List.take_append_getElem hlt, HK.out, plcs_snoc, List.length_take, show min j ks.length = j by omega, Nat.zero_add]
        have HSN := Lib.hid hsn
        have HL2 := Lib.hid hlt2
        clear hsn hlt2 hlp1 hlp4
        have hj2 : (j : Int) < (ks.length : Int) := by omega
        have hsw : w.heap.size < wr.heap.size := lt_of_blk hb
        have hownx : ∀ g, (Value.slice By ly cy).ownBlock = some g → W.heap.size ≤ g ∧ g < wr.heap.size := fun g hg => hG.lt hg
        have HPX := Lib.hid (show ∀ V, Ext wr V → PathAt V (fun b => b < w.heap.size ∧ (Value.slice Bo lo co).ownBlock ≠ some b) (.slice Bu path.length cu) path from fun V hV => hP.mono (fun _ hb => hb) (fun x hx => (hV.heap x (by omega)).trans (hO.block x hx.1 (fun hm => hx.2 (by rw [Option.mem_toList] at hm; exact hm)))))
        have HS := Lib.hid (show ∀ w' : World, w'.heap[w.heap.size]? = some (.cells #[.int .i64 k, .int .i64 n, .slice (some ⟨b, o, none⟩) ks.length cap] 25 (0, 0)) → Ext W w' → w'.cell? ⟨w.heap.size, 2, none⟩ = some (.slice (some ⟨b, o, none⟩) ks.length cap) ∧ w'.cell? ⟨b, o + j * 3, none⟩ = some (.int .i64 k') ∧ w'.cell? ⟨b, o + j * 3 + 1, none⟩ = some (.int .i64 n') ∧ w'.cell? ⟨b, o + j * 3 + 2, none⟩ = some (.slice A' kids.length cap') from fun w' h1 h2 => ⟨by rw [cell_of_blk h1]; rfl, h2.cell c0, h2.cell c1, h2.cell c2⟩)
        have hX5 : Ext wr wr.drew := (Ext.refl wr).drew
        go_wp2_with fail
        clear z0 z1 z2 c0 c1 c2
        go_region_held_law (fun w' => w'.cell? ⟨w.heap.size, 2, none⟩ = some (.slice (some ⟨b, o, none⟩) ks.length cap) ∧ w'.cell? ⟨b, o + j * 3, none⟩ = some (.int .i64 k') ∧ w'.cell? ⟨b, o + j * 3 + 1, none⟩ = some (.int .i64 n') ∧ w'.cell? ⟨b, o + j * 3 + 2, none⟩ = some (.slice A' kids.length cap'))
          (first | exact HS.out _ hb6 hE6 | exact HS.out _ (hxb.blk hb) (hEW.trans hxb) | exact HS.out _ ((hxa.alloc _).blk hb) (hEW.trans (hxa.alloc _)) | exact HS.out _ (hxa.blk hb) (hEW.trans hxa) | exact HS.out _ (Ext.blk (hX5) hb) (hEW.trans (hX5)) | exact HS.out _ (Ext.blk (hX5.alloc _) hb) (hEW.trans (hX5.alloc _)) | exact HS.out _ (Ext.blk ((hX5.alloc _).alloc _) hb) (hEW.trans ((hX5.alloc _).alloc _)) | exact HS.out _ (Ext.blk (((Ext.refl wr).alloc _).drew) hb) (hEW.trans (((Ext.refl wr).alloc _).drew)) | exact HS.out _ (Ext.blk ((((Ext.refl wr).alloc _).drew).alloc _) hb) (hEW.trans ((((Ext.refl wr).alloc _).drew).alloc _)) | exact HS.out _ (Ext.blk (((((Ext.refl wr).alloc _).alloc _).drew)) hb) (hEW.trans (((((Ext.refl wr).alloc _).alloc _).drew))))
          (first
            | (refine step_append_ints _ (by rfl) (.tmp 36) (.tmp 37) _ (by rfl) wr.heap.size 3 i0 _ 8 Try.underlying32 hi hz0 hz1 hz2 (by decide) rfl (ns := []) (p := path) (by rfl) (emptyRow (by first | exact heap_alloc_new _ _ | exact ((Ext.refl _).alloc _).blk (heap_alloc_new _ _) | exact blk_two wr (.cells #[.int .i64 j] 3) (.cells #[] 3)) (by simp)) (Ext.size (by first | exact hX5 | exact hX5.alloc _ | exact (hX5.alloc _).alloc _ | exact ((Ext.refl wr).alloc _).drew | exact (((Ext.refl wr).alloc _).drew).alloc _ | exact ((((Ext.refl wr).alloc _).alloc _).drew))) (by rfl) (HPX.out _ (by first | exact hX5 | exact hX5.alloc _ | exact (hX5.alloc _).alloc _ | exact ((Ext.refl wr).alloc _).drew | exact (((Ext.refl wr).alloc _).drew).alloc _ | exact ((((Ext.refl wr).alloc _).alloc _).drew))) (by simp; omega) ?_; intro va wa hva0 hga hoa; have hva : wa.ownsRow wr.heap.size 3 1 va path.length (path.map (Value.int .i64)) := (by simpa using hva0); have hxa : Ext wr wa := Ext.grown (by first | exact hX5 | exact hX5.alloc _ | exact (hX5.alloc _).alloc _ | exact ((Ext.refl wr).alloc _).drew | exact (((Ext.refl wr).alloc _).drew).alloc _ | exact ((((Ext.refl wr).alloc _).alloc _).drew)) hga (fun g hg => by simp [Value.ownBlock] at hg; omega); (first | (have hbx : wa.heap[wr.heap.size]? = some (.cells #[.int .i64 j] 3 (0, 0)) := (hga.block _ (by simp; omega) (by simp [Value.ownBlock])).trans (((Ext.refl _).alloc _).blk (heap_alloc_new wr (.cells #[.int .i64 j] 3)))) | (have hbx : wa.heap[wr.heap.size + 1]? = some (.cells #[.int .i64 j] 3 (0, 0)) := (hga.block _ (by simp) (by simp [Value.ownBlock])).trans (blk_two wr (.cells #[] 3) (.cells #[.int .i64 j] 3))) | (have hbx := trivial)))
            | (refine step_append_one _ (by rfl) (.tmp 38) (.tmp 40) _ (by rfl) wr.heap.size 3 3 i0 _ 8 Try.underlying32 hi hz0 hz1 hz2 (by decide) rfl (y := .int .i64 j) rfl (by rfl) (by first | exact hva | exact ((Ext.refl _).alloc _).ownsRow hva) (by rfl) (by first | exact heap_alloc_new _ _ | exact hbx) (by omega) (by first | exact hxa.size | exact (hxa.alloc _).size) ?_; intro vb wb hvb hgb hob; have hq : wb.ownsRow wr.heap.size 3 1 vb (path ++ [(j : Int)]).length ((path ++ [(j : Int)]).map (Value.int .i64)) := (by simpa using hvb); have hxb : Ext wr wb := (by first | exact hxa.grown hgb (fun k hk => (hva.lt k hk).1) | exact (hxa.alloc _).grown hgb (fun k hk => (hva.lt k hk).1)))
            | (go_simp; go_at_call 48; refine (hk _ hmem W _ _ _ _ (s0 ++ plcs (askP false) 0 (ks.take j) path) (path ++ [(j : Int)]) (d - 1) false (hsk _ hmem) hin' (hEW.trans hxb) (hG.ext hxb) ((ownsRow_path hq).mono (fun x hx => ⟨hx.2.1, fun he => by have := (hownx x he).2; have := hx.1; omega⟩) (fun _ _ => rfl)) (by simp; omega) HL2.out).mono ?_; rintro e w6 ⟨x6, rfl, hG6, ho6, hox6⟩; have hE6 : Ext W w6 := ho6.ofOwn (hG.ext hxb) (hEW.trans hxb); have hb6 : w6.heap[w.heap.size]? = some (.cells #[.int .i64 k, .int .i64 n, .slice (some ⟨b, o, none⟩) ks.length cap] 25 (0, 0)) := (ho6.block _ (by have := hxb.size; omega) (fun hm => by rw [Option.mem_toList] at hm; rcases hox _ hm with h | h; (have := (hGo _ h).2; omega); omega)).trans (hxb.blk hb); (try dsimp only)))
        all_goals (
          have hO6 : Only (Value.slice Bo lo co).ownBlock.toList w w6 := (hO.trans (Only.ofExt hxb)).widen ho6 (fun x hx => by rw [Option.mem_toList] at hx; rcases hox x hx with h | h; exact .inl (by rw [Option.mem_toList]; exact h); exact .inr (by omega))
          have hox7 : ∀ g, x6.ownBlock = some g → (Value.slice Bo lo co).ownBlock = some g ∨ w.heap.size < g := fun g hg => by
            rcases hox6 g hg with h | h
            · exact hox g h
            · exact .inr (by have := hxb.size; omega)
          rw [HSN.out] at hG6
          obtain ⟨B6, l6, c6, rfl⟩ := hG6.form3
          clear hgb hob hvb hq hva hva0 hga hoa hxa hbx hxb ho6 hox6 hE6 HS hX5 HPX hownx hsw hb hG hO hox hEW
          go_wp2_with fail
          go_roundw
          case rel => exact ⟨j + 1, B6, l6, c6, by omega, by go_num, rfl, hG6, hb6, hO6, hox7⟩
          case measure => simp [intOf]; omega)
      · rw [show j = ks.length from by omega, List.take_length] at hG
        have hox8 : ∀ g, (Value.slice By ly cy).ownBlock = some g → (Value.slice Bo lo co).ownBlock = some g ∨ w.heap.size ≤ g := fun g hg => (hox g hg).imp id (fun h => by omega)
        go_wp2_with fail
        go_ret
        exact ⟨_, rfl, hG, hO, hox8⟩
  | true =>
    cases r with
    | true =>
      rw [if_pos rfl]
      obtain ⟨s0, hs0⟩ : ∃ s, s = ps ++ [path] := ⟨_, rfl⟩
      rw [← hs0]
      have hrr : (rdxT (.mk k n ks) != 0) = true := hr
      go_enter Try.func48, Try.ntmps48
      go_wp2_with fail
      rw [← hwB]
      refine (HR.out _ (hWw.trans hx0)).mono ?_
      rintro e w1 ⟨rfl, hE1'⟩
      have hE1 : Ext w w1 := hx0.trans hE1'
      have hP1 : PathAt w1 (fun b => b < w.heap.size ∧ (Value.slice Bo lo co).ownBlock ≠ some b) (.slice Bu path.length cu) path := hP.mono (fun _ h => h) (fun b hb => hE1.heap b hb.1)
      clear hwB
      go_wp2_with (at_builtin; refine wpList_append_ints _ rfl (.tmp 18) (.tmp 19) 32 rfl w1.heap.size 3 i0 _ 8 Try.underlying32 hi hz0 hz1 hz2 (by decide) rfl (ns := []) (p := path) rfl (emptyRow (heap_alloc_new _ _) (Nat.le_refl _)) (by simp) rfl (hP1.mono (fun _ h => h) (fun x hx => Below.heap_alloc w1 _ x (by have := hE1.size; omega))) (by simp; omega) ?_)
      intro va wa hva0 hga hoa
      have hva : wa.ownsRow w1.heap.size 3 1 va path.length (path.map (Value.int .i64)) := by simpa using hva0
      obtain ⟨Bv, cv, rfl, -, -, -⟩ := ownsRow_nums hva
      have hxa : Ext w1 wa := Ext.grown ((Ext.refl w1).alloc _) hga (fun g hg => by simp [Value.ownBlock] at hg; omega)
      have hxa2 := (Ext.refl wa).alloc (.cells #[.slice Bv path.length cv] 32)
      have hpb : PathAt (wa.alloc (.cells #[.slice Bv path.length cv] 32)) (fun b => W.heap.size ≤ b ∧ b < (wa.alloc (.cells #[.slice Bv path.length cv] 32)).heap.size ∧ (Value.slice Bo lo co).ownBlock ≠ some b) (.slice Bv path.length cv) path := (ownsRow_path hva).mono (fun b hb => ⟨by have := hWw.size; have := hE1.size; omega, by simp; omega, fun he => by have := (hGo b he).2; have := hE1.size; omega⟩) (fun b hb => hxa2.heap b hb.2.1)
      have hGa : GrowP W (wa.alloc (.cells #[.slice Bv path.length cv] 32)) 32 (.slice Bo lo co) ps := ((hG.ext hE1).ext hxa).ext hxa2
      go_wp2_with (at_builtin; refine wpList_append_path _ rfl (.tmp 17) (.tmp 21) 27 rfl 32 32 i1 _ 24 Try.underlying27 hj hy0 hy1 hy2 (by decide) rfl (W := W) (p := path) rfl hGa (((hWw.trans hE1).trans hxa).trans hxa2).size hpb rfl (heap_alloc_new _ _) (by omega) ?_)
      intro x0 w2 hG0 hg0 ho0
      have hlen0 : (ps ++ [path]).length + cnts ks ≤ 1000 := by rw [List.length_append, List.length_singleton]; omega
      rw [← hs0] at hG0 hlen0
      have hE2 := (hE1.trans hxa).trans hxa2
      have hO0 : Only (Value.slice Bo lo co).ownBlock.toList w w2 := Only.grown' (Only.ofExt hE2) hg0 (fun g hg => .inl (by rw [Option.mem_toList]; exact hg))
      have hox0 : ∀ g, x0.ownBlock = some g → (Value.slice Bo lo co).ownBlock = some g ∨ w.heap.size < g := fun g hg => (ho0 g hg).imp id (fun h => by have := (hE1'.trans hxa).size; have := hxa2.size; omega)
      have hb0 : w2.heap[w.heap.size]? = some (.cells #[.int .i64 k, .int .i64 n, .slice A ks.length cap] 25 (0, 0)) := (hg0.block _ (by have := (hE1'.trans (hxa.trans hxa2)).size; omega) (fun he => by have := (hGo _ he.symm).2; omega)).trans ((hE1'.trans (hxa.trans hxa2)).blk hbB)
      obtain ⟨Bx, lx, cx, rfl⟩ := hG0.form3
      clear hva0 hga hoa hva hxa hxa2 hpb hGa hg0 ho0 hE2 hE1 hE1' hP1 hbB
      have HG0 := Lib.hid hG0
      have HB0 := Lib.hid hb0
      have HO0 := Lib.hid hO0
      have HX0 := Lib.hid hox0
      clear hG0 hb0 hO0 hox0 HR hr
      go_wp2_with fail
      go_loopw [0, 9] (fun x i wr => ∃ (j : Nat) (B : Option Addr) (l c : Nat), j ≤ ks.length ∧ i = .int .i64 j ∧ x = .slice B l c ∧ GrowP W wr 32 (.slice B l c) (s0 ++ plcs (askP true) 0 (ks.take j) path) ∧ wr.heap[w.heap.size]? = some (.cells #[.int .i64 k, .int .i64 n, .slice A ks.length cap] 25 (0, 0)) ∧ Only (Value.slice Bo lo co).ownBlock.toList w wr ∧ (∀ g, (Value.slice B l c).ownBlock = some g → (Value.slice Bo lo co).ownBlock = some g ∨ w.heap.size < g)) (fun _ i _ => ks.length - (intOf i).toNat)
      case atStart => exact ⟨0, Bx, lx, cx, Nat.zero_le _, rfl, rfl, by rw [HLP.out s0]; exact HG0.out, HB0.out, HO0.out, HX0.out⟩
      case round =>
        obtain ⟨j, By, ly, cy, hj', rfl, rfl, hG, hb, hO, hox⟩ := hrel
        have hEW : Ext W wr := hO.ext hWw (fun x hx => by rw [Option.mem_toList] at hx; exact (hGo x hx).1)
        obtain ⟨z0, z1, z2, -, -, -⟩ := own3 hb
        by_cases hlt : j < ks.length
        · obtain ⟨b, o, k', n', A', cap', kids, rfl, HK, c0, c1, c2, hkl, hkc, hK', hin', hmem⟩ := hK.get (Ext.refl W) hlt
          have hcm := cnt_mem hmem
          have hlp1 := plcs_len_le (askP true) (ks.take j) 0 path
          have hlp4 : cnts (ks.take j) + cnt (.mk k' n' kids) ≤ cnts ks := by
            conv => rhs; rw [← List.take_append_drop j ks, List.drop_eq_getElem_cons hlt, HK.out]
            rw [cnts_append, cnts]
            omega
          have hlt2 : (s0 ++ plcs (askP true) 0 (ks.take j) path).length + cnt (.mk k' n' kids) ≤ 1000 := by rw [List.length_append]; omega
          have hsn : (s0 ++ plcs (askP true) 0 (ks.take j) path) ++ plc (askP true) (.mk k' n' kids) (path ++ [(j : Int)]) = s0 ++ plcs (askP true) 0 (ks.take (j + 1)) path := by
            rw [List.append_assoc, ← List.take_append_getElem hlt, HK.out, plcs_snoc, List.length_take, show min j ks.length = j by omega, Nat.zero_add]
          have HSN := Lib.hid hsn
          have HL2 := Lib.hid hlt2
          clear hsn hlt2 hlp1 hlp4
          have hj2 : (j : Int) < (ks.length : Int) := by omega
          have hsw : w.heap.size < wr.heap.size := lt_of_blk hb
          have hownx : ∀ g, (Value.slice By ly cy).ownBlock = some g → W.heap.size ≤ g ∧ g < wr.heap.size := fun g hg => hG.lt hg
          have HPX := Lib.hid (show ∀ V, Ext wr V → PathAt V (fun b => b < w.heap.size ∧ (Value.slice Bo lo co).ownBlock ≠ some b) (.slice Bu path.length cu) path from fun V hV => hP.mono (fun _ hb => hb) (fun x hx => (hV.heap x (by omega)).trans (hO.block x hx.1 (fun hm => hx.2 (by rw [Option.mem_toList] at hm; exact hm)))))
          have HS := Lib.hid (show ∀ w' : World, w'.heap[w.heap.size]? = some (.cells #[.int .i64 k, .int .i64 n, .slice (some ⟨b, o, none⟩) ks.length cap] 25 (0, 0)) → Ext W w' → w'.cell? ⟨w.heap.size, 2, none⟩ = some (.slice (some ⟨b, o, none⟩) ks.length cap) ∧ w'.cell? ⟨b, o + j * 3, none⟩ = some (.int .i64 k') ∧ w'.cell? ⟨b, o + j * 3 + 1, none⟩ = some (.int .i64 n') ∧ w'.cell? ⟨b, o + j * 3 + 2, none⟩ = some (.slice A' kids.length cap') from fun w' h1 h2 => ⟨by rw [cell_of_blk h1]; rfl, h2.cell c0, h2.cell c1, h2.cell c2⟩)
          have hX5 : Ext wr wr.drew := (Ext.refl wr).drew
          go_wp2_with fail
          clear z0 z1 z2 c0 c1 c2
          go_region_held_law (fun w' => w'.cell? ⟨w.heap.size, 2, none⟩ = some (.slice (some ⟨b, o, none⟩) ks.length cap) ∧ w'.cell? ⟨b, o + j * 3, none⟩ = some (.int .i64 k') ∧ w'.cell? ⟨b, o + j * 3 + 1, none⟩ = some (.int .i64 n') ∧ w'.cell? ⟨b, o + j * 3 + 2, none⟩ = some (.slice A' kids.length cap'))
            (first | exact HS.out _ hb6 hE6 | exact HS.out _ (hxb.blk hb) (hEW.trans hxb) | exact HS.out _ ((hxa.alloc _).blk hb) (hEW.trans (hxa.alloc _)) | exact HS.out _ (hxa.blk hb) (hEW.trans hxa) | exact HS.out _ (Ext.blk (hX5) hb) (hEW.trans (hX5)) | exact HS.out _ (Ext.blk (hX5.alloc _) hb) (hEW.trans (hX5.alloc _)) | exact HS.out _ (Ext.blk ((hX5.alloc _).alloc _) hb) (hEW.trans ((hX5.alloc _).alloc _)) | exact HS.out _ (Ext.blk (((Ext.refl wr).alloc _).drew) hb) (hEW.trans (((Ext.refl wr).alloc _).drew)) | exact HS.out _ (Ext.blk ((((Ext.refl wr).alloc _).drew).alloc _) hb) (hEW.trans ((((Ext.refl wr).alloc _).drew).alloc _)) | exact HS.out _ (Ext.blk (((((Ext.refl wr).alloc _).alloc _).drew)) hb) (hEW.trans (((((Ext.refl wr).alloc _).alloc _).drew))))
            (first
              | (refine step_append_ints _ (by rfl) (.tmp 36) (.tmp 37) _ (by rfl) wr.heap.size 3 i0 _ 8 Try.underlying32 hi hz0 hz1 hz2 (by decide) rfl (ns := []) (p := path) (by rfl) (emptyRow (by first | exact heap_alloc_new _ _ | exact ((Ext.refl _).alloc _).blk (heap_alloc_new _ _) | exact blk_two wr (.cells #[.int .i64 j] 3) (.cells #[] 3)) (by simp)) (Ext.size (by first | exact hX5 | exact hX5.alloc _ | exact (hX5.alloc _).alloc _ | exact ((Ext.refl wr).alloc _).drew | exact (((Ext.refl wr).alloc _).drew).alloc _ | exact ((((Ext.refl wr).alloc _).alloc _).drew))) (by rfl) (HPX.out _ (by first | exact hX5 | exact hX5.alloc _ | exact (hX5.alloc _).alloc _ | exact ((Ext.refl wr).alloc _).drew | exact (((Ext.refl wr).alloc _).drew).alloc _ | exact ((((Ext.refl wr).alloc _).alloc _).drew))) (by simp; omega) ?_; intro va wa hva0 hga hoa; have hva : wa.ownsRow wr.heap.size 3 1 va path.length (path.map (Value.int .i64)) := (by simpa using hva0); have hxa : Ext wr wa := Ext.grown (by first | exact hX5 | exact hX5.alloc _ | exact (hX5.alloc _).alloc _ | exact ((Ext.refl wr).alloc _).drew | exact (((Ext.refl wr).alloc _).drew).alloc _ | exact ((((Ext.refl wr).alloc _).alloc _).drew)) hga (fun g hg => by simp [Value.ownBlock] at hg; omega); (first | (have hbx : wa.heap[wr.heap.size]? = some (.cells #[.int .i64 j] 3 (0, 0)) := (hga.block _ (by simp; omega) (by simp [Value.ownBlock])).trans (((Ext.refl _).alloc _).blk (heap_alloc_new wr (.cells #[.int .i64 j] 3)))) | (have hbx : wa.heap[wr.heap.size + 1]? = some (.cells #[.int .i64 j] 3 (0, 0)) := (hga.block _ (by simp) (by simp [Value.ownBlock])).trans (blk_two wr (.cells #[] 3) (.cells #[.int .i64 j] 3))) | (have hbx := trivial)))
              | (refine step_append_one _ (by rfl) (.tmp 38) (.tmp 40) _ (by rfl) wr.heap.size 3 3 i0 _ 8 Try.underlying32 hi hz0 hz1 hz2 (by decide) rfl (y := .int .i64 j) rfl (by rfl) (by first | exact hva | exact ((Ext.refl _).alloc _).ownsRow hva) (by rfl) (by first | exact heap_alloc_new _ _ | exact hbx) (by omega) (by first | exact hxa.size | exact (hxa.alloc _).size) ?_; intro vb wb hvb hgb hob; have hq : wb.ownsRow wr.heap.size 3 1 vb (path ++ [(j : Int)]).length ((path ++ [(j : Int)]).map (Value.int .i64)) := (by simpa using hvb); have hxb : Ext wr wb := (by first | exact hxa.grown hgb (fun k hk => (hva.lt k hk).1) | exact (hxa.alloc _).grown hgb (fun k hk => (hva.lt k hk).1)))
              | (go_simp; go_at_call 48; refine (hk _ hmem W _ _ _ _ (s0 ++ plcs (askP true) 0 (ks.take j) path) (path ++ [(j : Int)]) (d - 1) true (hsk _ hmem) hin' (hEW.trans hxb) (hG.ext hxb) ((ownsRow_path hq).mono (fun x hx => ⟨hx.2.1, fun he => by have := (hownx x he).2; have := hx.1; omega⟩) (fun _ _ => rfl)) (by simp; omega) HL2.out).mono ?_; rintro e w6 ⟨x6, rfl, hG6, ho6, hox6⟩; have hE6 : Ext W w6 := ho6.ofOwn (hG.ext hxb) (hEW.trans hxb); have hb6 : w6.heap[w.heap.size]? = some (.cells #[.int .i64 k, .int .i64 n, .slice (some ⟨b, o, none⟩) ks.length cap] 25 (0, 0)) := (ho6.block _ (by have := hxb.size; omega) (fun hm => by rw [Option.mem_toList] at hm; rcases hox _ hm with h | h; (have := (hGo _ h).2; omega); omega)).trans (hxb.blk hb); (try dsimp only)))
          all_goals (
            have hO6 : Only (Value.slice Bo lo co).ownBlock.toList w w6 := (hO.trans (Only.ofExt hxb)).widen ho6 (fun x hx => by rw [Option.mem_toList] at hx; rcases hox x hx with h | h; exact .inl (by rw [Option.mem_toList]; exact h); exact .inr (by omega))
            have hox7 : ∀ g, x6.ownBlock = some g → (Value.slice Bo lo co).ownBlock = some g ∨ w.heap.size < g := fun g hg => by
              rcases hox6 g hg with h | h
              · exact hox g h
              · exact .inr (by have := hxb.size; omega)
            rw [HSN.out] at hG6
            obtain ⟨B6, l6, c6, rfl⟩ := hG6.form3
            clear hgb hob hvb hq hva hva0 hga hoa hxa hbx hxb ho6 hox6 hE6 HS hX5 HPX hownx hsw hb hG hO hox hEW
            go_wp2_with fail
            go_roundw
            case rel => exact ⟨j + 1, B6, l6, c6, by omega, by go_num, rfl, hG6, hb6, hO6, hox7⟩
            case measure => simp [intOf]; omega)
        · rw [show j = ks.length from by omega, List.take_length] at hG
          have hox8 : ∀ g, (Value.slice By ly cy).ownBlock = some g → (Value.slice Bo lo co).ownBlock = some g ∨ w.heap.size ≤ g := fun g hg => (hox g hg).imp id (fun h => by omega)
          go_wp2_with fail
          go_ret
          exact ⟨_, rfl, hG, hO, hox8⟩
    | false =>
      rw [if_neg (by decide)]
      obtain ⟨s0, hs0⟩ : ∃ s, s = ps ++ [] := ⟨_, rfl⟩
      rw [← hs0]
      have hrr : (rdxT (.mk k n ks) != 0) = false := hr
      go_enter Try.func48, Try.ntmps48
      go_wp2_with fail
      rw [← hwB]
      refine (HR.out _ (hWw.trans hx0)).mono ?_
      rintro e w1 ⟨rfl, hE1'⟩
      have hE1 : Ext w w1 := hx0.trans hE1'
      clear hwB
      rw [List.append_nil] at hs0
      have hG0 : GrowP W w1 32 (.slice Bo lo co) s0 := by rw [hs0]; exact hG.ext hE1
      have hlen0 : s0.length + cnts ks ≤ 1000 := by rw [hs0]; omega
      have hO0 : Only (Value.slice Bo lo co).ownBlock.toList w w1 := Only.ofExt hE1
      have hox0 : ∀ g, (Value.slice Bo lo co).ownBlock = some g → (Value.slice Bo lo co).ownBlock = some g ∨ w.heap.size < g := fun g hg => .inl hg
      have hb0 : w1.heap[w.heap.size]? = some (.cells #[.int .i64 k, .int .i64 n, .slice A ks.length cap] 25 (0, 0)) := hE1'.blk hbB
      clear hE1 hE1' hbB
      have HG0 := Lib.hid hG0
      have HB0 := Lib.hid hb0
      have HO0 := Lib.hid hO0
      have HX0 := Lib.hid hox0
      clear hG0 hb0 hO0 hox0 HR hr
      go_wp2_with fail
      go_loopw [0, 9] (fun x i wr => ∃ (j : Nat) (B : Option Addr) (l c : Nat), j ≤ ks.length ∧ i = .int .i64 j ∧ x = .slice B l c ∧ GrowP W wr 32 (.slice B l c) (s0 ++ plcs (askP true) 0 (ks.take j) path) ∧ wr.heap[w.heap.size]? = some (.cells #[.int .i64 k, .int .i64 n, .slice A ks.length cap] 25 (0, 0)) ∧ Only (Value.slice Bo lo co).ownBlock.toList w wr ∧ (∀ g, (Value.slice B l c).ownBlock = some g → (Value.slice Bo lo co).ownBlock = some g ∨ w.heap.size < g)) (fun _ i _ => ks.length - (intOf i).toNat)
      case atStart => exact ⟨0, Bo, lo, co, Nat.zero_le _, rfl, rfl, by rw [HLP.out s0]; exact HG0.out, HB0.out, HO0.out, HX0.out⟩
      case round =>
        obtain ⟨j, By, ly, cy, hj', rfl, rfl, hG, hb, hO, hox⟩ := hrel
        have hEW : Ext W wr := hO.ext hWw (fun x hx => by rw [Option.mem_toList] at hx; exact (hGo x hx).1)
        obtain ⟨z0, z1, z2, -, -, -⟩ := own3 hb
        by_cases hlt : j < ks.length
        · obtain ⟨b, o, k', n', A', cap', kids, rfl, HK, c0, c1, c2, hkl, hkc, hK', hin', hmem⟩ := hK.get (Ext.refl W) hlt
          have hcm := cnt_mem hmem
          have hlp1 := plcs_len_le (askP true) (ks.take j) 0 path
          have hlp4 : cnts (ks.take j) + cnt (.mk k' n' kids) ≤ cnts ks := by
            conv => rhs; rw [← List.take_append_drop j ks, List.drop_eq_getElem_cons hlt, HK.out]
            rw [cnts_append, cnts]
            omega
          have hlt2 : (s0 ++ plcs (askP true) 0 (ks.take j) path).length + cnt (.mk k' n' kids) ≤ 1000 := by rw [List.length_append]; omega
          have hsn : (s0 ++ plcs (askP true) 0 (ks.take j) path) ++ plc (askP true) (.mk k' n' kids) (path ++ [(j : Int)]) = s0 ++ plcs (askP true) 0 (ks.take (j + 1)) path := by
            rw [List.append_assoc, ← List.take_append_getElem hlt, HK.out, plcs_snoc, List.length_take, show min j ks.length = j by omega, Nat.zero_add]
          have HSN := Lib.hid hsn
          have HL2 := Lib.hid hlt2
          clear hsn hlt2 hlp1 hlp4
          have hj2 : (j : Int) < (ks.length : Int) := by omega
          have hsw : w.heap.size < wr.heap.size := lt_of_blk hb
          have hownx : ∀ g, (Value.slice By ly cy).ownBlock = some g → W.heap.size ≤ g ∧ g < wr.heap.size := fun g hg => hG.lt hg
          have HPX := Lib.hid (show ∀ V, Ext wr V → PathAt V (fun b => b < w.heap.size ∧ (Value.slice Bo lo co).ownBlock ≠ some b) (.slice Bu path.length cu) path from fun V hV => hP.mono (fun _ hb => hb) (fun x hx => (hV.heap x (by omega)).trans (hO.block x hx.1 (fun hm => hx.2 (by rw [Option.mem_toList] at hm; exact hm)))))
          have HS := Lib.hid (show ∀ w' : World, w'.heap[w.heap.size]? = some (.cells #[.int .i64 k, .int .i64 n, .slice (some ⟨b, o, none⟩) ks.length cap] 25 (0, 0)) → Ext W w' → w'.cell? ⟨w.heap.size, 2, none⟩ = some (.slice (some ⟨b, o, none⟩) ks.length cap) ∧ w'.cell? ⟨b, o + j * 3, none⟩ = some (.int .i64 k') ∧ w'.cell? ⟨b, o + j * 3 + 1, none⟩ = some (.int .i64 n') ∧ w'.cell? ⟨b, o + j * 3 + 2, none⟩ = some (.slice A' kids.length cap') from fun w' h1 h2 => ⟨by rw [cell_of_blk h1]; rfl, h2.cell c0, h2.cell c1, h2.cell c2⟩)
          have hX5 : Ext wr wr.drew := (Ext.refl wr).drew
          go_wp2_with fail
          clear z0 z1 z2 c0 c1 c2
          go_region_held_law (fun w' => w'.cell? ⟨w.heap.size, 2, none⟩ = some (.slice (some ⟨b, o, none⟩) ks.length cap) ∧ w'.cell? ⟨b, o + j * 3, none⟩ = some (.int .i64 k') ∧ w'.cell? ⟨b, o + j * 3 + 1, none⟩ = some (.int .i64 n') ∧ w'.cell? ⟨b, o + j * 3 + 2, none⟩ = some (.slice A' kids.length cap'))
            (first | exact HS.out _ hb6 hE6 | exact HS.out _ (hxb.blk hb) (hEW.trans hxb) | exact HS.out _ ((hxa.alloc _).blk hb) (hEW.trans (hxa.alloc _)) | exact HS.out _ (hxa.blk hb) (hEW.trans hxa) | exact HS.out _ (Ext.blk (hX5) hb) (hEW.trans (hX5)) | exact HS.out _ (Ext.blk (hX5.alloc _) hb) (hEW.trans (hX5.alloc _)) | exact HS.out _ (Ext.blk ((hX5.alloc _).alloc _) hb) (hEW.trans ((hX5.alloc _).alloc _)) | exact HS.out _ (Ext.blk (((Ext.refl wr).alloc _).drew) hb) (hEW.trans (((Ext.refl wr).alloc _).drew)) | exact HS.out _ (Ext.blk ((((Ext.refl wr).alloc _).drew).alloc _) hb) (hEW.trans ((((Ext.refl wr).alloc _).drew).alloc _)) | exact HS.out _ (Ext.blk (((((Ext.refl wr).alloc _).alloc _).drew)) hb) (hEW.trans (((((Ext.refl wr).alloc _).alloc _).drew))))
            (first
              | (refine step_append_ints _ (by rfl) (.tmp 36) (.tmp 37) _ (by rfl) wr.heap.size 3 i0 _ 8 Try.underlying32 hi hz0 hz1 hz2 (by decide) rfl (ns := []) (p := path) (by rfl) (emptyRow (by first | exact heap_alloc_new _ _ | exact ((Ext.refl _).alloc _).blk (heap_alloc_new _ _) | exact blk_two wr (.cells #[.int .i64 j] 3) (.cells #[] 3)) (by simp)) (Ext.size (by first | exact hX5 | exact hX5.alloc _ | exact (hX5.alloc _).alloc _ | exact ((Ext.refl wr).alloc _).drew | exact (((Ext.refl wr).alloc _).drew).alloc _ | exact ((((Ext.refl wr).alloc _).alloc _).drew))) (by rfl) (HPX.out _ (by first | exact hX5 | exact hX5.alloc _ | exact (hX5.alloc _).alloc _ | exact ((Ext.refl wr).alloc _).drew | exact (((Ext.refl wr).alloc _).drew).alloc _ | exact ((((Ext.refl wr).alloc _).alloc _).drew))) (by simp; omega) ?_; intro va wa hva0 hga hoa; have hva : wa.ownsRow wr.heap.size 3 1 va path.length (path.map (Value.int .i64)) := (by simpa using hva0); have hxa : Ext wr wa := Ext.grown (by first | exact hX5 | exact hX5.alloc _ | exact (hX5.alloc _).alloc _ | exact ((Ext.refl wr).alloc _).drew | exact (((Ext.refl wr).alloc _).drew).alloc _ | exact ((((Ext.refl wr).alloc _).alloc _).drew)) hga (fun g hg => by simp [Value.ownBlock] at hg; omega); (first | (have hbx : wa.heap[wr.heap.size]? = some (.cells #[.int .i64 j] 3 (0, 0)) := (hga.block _ (by simp; omega) (by simp [Value.ownBlock])).trans (((Ext.refl _).alloc _).blk (heap_alloc_new wr (.cells #[.int .i64 j] 3)))) | (have hbx : wa.heap[wr.heap.size + 1]? = some (.cells #[.int .i64 j] 3 (0, 0)) := (hga.block _ (by simp) (by simp [Value.ownBlock])).trans (blk_two wr (.cells #[] 3) (.cells #[.int .i64 j] 3))) | (have hbx := trivial)))
              | (refine step_append_one _ (by rfl) (.tmp 38) (.tmp 40) _ (by rfl) wr.heap.size 3 3 i0 _ 8 Try.underlying32 hi hz0 hz1 hz2 (by decide) rfl (y := .int .i64 j) rfl (by rfl) (by first | exact hva | exact ((Ext.refl _).alloc _).ownsRow hva) (by rfl) (by first | exact heap_alloc_new _ _ | exact hbx) (by omega) (by first | exact hxa.size | exact (hxa.alloc _).size) ?_; intro vb wb hvb hgb hob; have hq : wb.ownsRow wr.heap.size 3 1 vb (path ++ [(j : Int)]).length ((path ++ [(j : Int)]).map (Value.int .i64)) := (by simpa using hvb); have hxb : Ext wr wb := (by first | exact hxa.grown hgb (fun k hk => (hva.lt k hk).1) | exact (hxa.alloc _).grown hgb (fun k hk => (hva.lt k hk).1)))
              | (go_simp; go_at_call 48; refine (hk _ hmem W _ _ _ _ (s0 ++ plcs (askP true) 0 (ks.take j) path) (path ++ [(j : Int)]) (d - 1) true (hsk _ hmem) hin' (hEW.trans hxb) (hG.ext hxb) ((ownsRow_path hq).mono (fun x hx => ⟨hx.2.1, fun he => by have := (hownx x he).2; have := hx.1; omega⟩) (fun _ _ => rfl)) (by simp; omega) HL2.out).mono ?_; rintro e w6 ⟨x6, rfl, hG6, ho6, hox6⟩; have hE6 : Ext W w6 := ho6.ofOwn (hG.ext hxb) (hEW.trans hxb); have hb6 : w6.heap[w.heap.size]? = some (.cells #[.int .i64 k, .int .i64 n, .slice (some ⟨b, o, none⟩) ks.length cap] 25 (0, 0)) := (ho6.block _ (by have := hxb.size; omega) (fun hm => by rw [Option.mem_toList] at hm; rcases hox _ hm with h | h; (have := (hGo _ h).2; omega); omega)).trans (hxb.blk hb); (try dsimp only)))
          all_goals (
            have hO6 : Only (Value.slice Bo lo co).ownBlock.toList w w6 := (hO.trans (Only.ofExt hxb)).widen ho6 (fun x hx => by rw [Option.mem_toList] at hx; rcases hox x hx with h | h; exact .inl (by rw [Option.mem_toList]; exact h); exact .inr (by omega))
            have hox7 : ∀ g, x6.ownBlock = some g → (Value.slice Bo lo co).ownBlock = some g ∨ w.heap.size < g := fun g hg => by
              rcases hox6 g hg with h | h
              · exact hox g h
              · exact .inr (by have := hxb.size; omega)
            rw [HSN.out] at hG6
            obtain ⟨B6, l6, c6, rfl⟩ := hG6.form3
            clear hgb hob hvb hq hva hva0 hga hoa hxa hbx hxb ho6 hox6 hE6 HS hX5 HPX hownx hsw hb hG hO hox hEW
            go_wp2_with fail
            go_roundw
            case rel => exact ⟨j + 1, B6, l6, c6, by omega, by go_num, rfl, hG6, hb6, hO6, hox7⟩
            case measure => simp [intOf]; omega)
        · rw [show j = ks.length from by omega, List.take_length] at hG
          have hox8 : ∀ g, (Value.slice By ly cy).ownBlock = some g → (Value.slice Bo lo co).ownBlock = some g ∨ w.heap.size ≤ g := fun g hg => (hox g hg).imp id (fun h => by omega)
          go_wp2_with fail
          go_ret
          exact ⟨_, rfl, hG, hO, hox8⟩
end Go.Proofs.Ytjgdckkeojehoaa

namespace Go.Proofs.Ytjgdckkeojehoaa
open Go.RowKit
set_option linter.unusedVariables false
attribute [local go_sem ↓] Go.wp_at_zero Go.wp_at_succ

theorem plV_ask (rd : Bool) (t : Tr) : plV rd t = if valid sigT t = true then plc (askP rd) t [] else [] := by
  have e : (if rd = true then isRdx else allP) = askP rd := by
    cases rd
    · funext x; rfl
    · funext x; rfl
  unfold plV
  rw [e]
theorem plV_len (rd : Bool) (t : Tr) : (plV rd t).length ≤ 400 := by
  unfold plV
  split
  · rename_i h
    have := plc_len_le (if rd = true then isRdx else allP) t []
    have := (cnt_of_valid h).1
    omega
  · simp
set_option maxRecDepth 100000 in
set_option maxHeartbeats 1000000 in
theorem specPlacesOf_any (t : Tr) (w : World) (v : Value) (hin : Lies w t v) : Calls Try.prog 109 #[v] w fun e w' => ∃ x, e = .returned x ∧ GrowP w w' 32 x (plV false t) ∧ Ext w w' := by
  have HV := Lib.hid (fun W (hW : Ext w W) => specValidTerm t W v (hin.ext hW))
  have E := Lib.hid (plV_ask false t)
  have HB := Lib.hid (fun (h : valid sigT t = true) => cnt_of_valid h)
  obtain ⟨z, hz⟩ : ∃ z, valid sigT t = z := ⟨_, rfl⟩
  rw [hz] at HV E HB
  clear hz
  obtain ⟨k, n, ks⟩ := t
  have hin0 := hin
  obtain ⟨A, cap, rfl, hl, hc, hK⟩ := Lies.mk_iff.1 hin
  have hx0 := (Ext.refl w).alloc (.cells #[.int .i64 k, .int .i64 n, .slice A ks.length cap] 25)
  have hbB := heap_alloc_new w (.cells #[.int .i64 k, .int .i64 n, .slice A ks.length cap] 25)
  cases z with
  | false =>
    have E2 := Lib.hid (E.out.trans (if_neg (by decide)))
    clear E HB
    go_enter Try.func109, Try.ntmps109
    go_wp2_with fail
    refine (HV.out _ hx0).mono ?_
    rintro e w1 ⟨rfl, h1⟩
    go_wp2_with fail
    go_ret
    exact ⟨_, rfl, by rw [E2.out]; exact GrowP.lit (heap_alloc_new w1 _) (hx0.trans h1).size, (hx0.trans h1).alloc _⟩
  | true =>
    have E2 := Lib.hid (E.out.trans (if_pos rfl))
    have hcs := HB.out rfl
    clear E HB
    go_enter Try.func109, Try.ntmps109
    go_wp2_with fail
    refine (HV.out _ hx0).mono ?_
    rintro e w1 ⟨rfl, h1⟩
    obtain ⟨z0, z1, z2, -, -, -⟩ := own3 (h1.blk hbB)
    have lz := lt_of_blk (h1.blk hbB)
    have hx2 := (Ext.refl w1).alloc (.cells #[] 32)
    have hx3 := hx2.alloc (.cells #[] 3)
    have hG : GrowP w ((w1.alloc (.cells #[] 32)).alloc (.cells #[] 3)) 32 (.slice (some ⟨w1.heap.size, 0, none⟩) 0 0) [] := (GrowP.lit (heap_alloc_new w1 _) (hx0.trans h1).size).ext ((Ext.refl _).alloc _)
    have hP : PathAt ((w1.alloc (.cells #[] 32)).alloc (.cells #[] 3)) (fun b => b < ((w1.alloc (.cells #[] 32)).alloc (.cells #[] 3)).heap.size ∧ (Value.slice (some ⟨w1.heap.size, 0, none⟩) 0 0).ownBlock ≠ some b) (.slice (some ⟨w1.heap.size + 1, 0, none⟩) 0 0) [] := .inr ⟨w1.heap.size + 1, 0, 0, rfl, Nat.le_refl _, Nat.zero_le _, ⟨by simp, by simp [Value.ownBlock]⟩, fun j hj => absurd hj (by simp)⟩
    have hon : ∀ b, b ∈ (Value.slice (some ⟨w1.heap.size, 0, none⟩) 0 0).ownBlock.toList → w.heap.size ≤ b := fun b hb => by
      simp [Value.ownBlock] at hb
      have := (hx0.trans h1).size
      omega
    have HCALL := Lib.hid (l8Places_any (.mk k n ks) w _ _ _ _ [] [] 30 false hcs.2 hin0 ((hx0.trans h1).trans hx3) hG hP (by have := hcs.1; simp; omega) (by have := hcs.1; simp; omega))
    clear hbB hG hP hcs hx2
    go_wp2_with fail
    refine HCALL.out.mono ?_
    rintro e w2 ⟨x, rfl, hG2, hO2, -⟩
    have hE2 : Ext w w2 := hO2.ext ((hx0.trans h1).trans hx3) hon
    clear hO2 hon
    go_wp2_with fail
    go_ret
    exact ⟨_, rfl, by rw [E2.out]; exact hG2, hE2⟩
set_option maxRecDepth 100000 in
set_option maxHeartbeats 1000000 in
theorem specRedexPlaces_any (t : Tr) (w : World) (v : Value) (hin : Lies w t v) : Calls Try.prog 12 #[v] w fun e w' => ∃ x, e = .returned x ∧ GrowP w w' 32 x (plV true t) ∧ Ext w w' := by
  have HV := Lib.hid (fun W (hW : Ext w W) => specValidTerm t W v (hin.ext hW))
  have E := Lib.hid (plV_ask true t)
  have HB := Lib.hid (fun (h : valid sigT t = true) => cnt_of_valid h)
  obtain ⟨z, hz⟩ : ∃ z, valid sigT t = z := ⟨_, rfl⟩
  rw [hz] at HV E HB
  clear hz
  obtain ⟨k, n, ks⟩ := t
  have hin0 := hin
  obtain ⟨A, cap, rfl, hl, hc, hK⟩ := Lies.mk_iff.1 hin
  have hx0 := (Ext.refl w).alloc (.cells #[.int .i64 k, .int .i64 n, .slice A ks.length cap] 25)
  have hbB := heap_alloc_new w (.cells #[.int .i64 k, .int .i64 n, .slice A ks.length cap] 25)
  cases z with
  | false =>
    have E2 := Lib.hid (E.out.trans (if_neg (by decide)))
    clear E HB
    go_enter Try.func12, Try.ntmps12
    go_wp2_with fail
    refine (HV.out _ hx0).mono ?_
    rintro e w1 ⟨rfl, h1⟩
    go_wp2_with fail
    go_ret
    exact ⟨_, rfl, by rw [E2.out]; exact GrowP.lit (heap_alloc_new w1 _) (hx0.trans h1).size, (hx0.trans h1).alloc _⟩
  | true =>
    have E2 := Lib.hid (E.out.trans (if_pos rfl))
    have hcs := HB.out rfl
    clear E HB
    go_enter Try.func12, Try.ntmps12
    go_wp2_with fail
    refine (HV.out _ hx0).mono ?_
    rintro e w1 ⟨rfl, h1⟩
    obtain ⟨z0, z1, z2, -, -, -⟩ := own3 (h1.blk hbB)
    have lz := lt_of_blk (h1.blk hbB)
    have hx2 := (Ext.refl w1).alloc (.cells #[] 32)
    have hx3 := hx2.alloc (.cells #[] 3)
    have hG : GrowP w ((w1.alloc (.cells #[] 32)).alloc (.cells #[] 3)) 32 (.slice (some ⟨w1.heap.size, 0, none⟩) 0 0) [] := (GrowP.lit (heap_alloc_new w1 _) (hx0.trans h1).size).ext ((Ext.refl _).alloc _)
    have hP : PathAt ((w1.alloc (.cells #[] 32)).alloc (.cells #[] 3)) (fun b => b < ((w1.alloc (.cells #[] 32)).alloc (.cells #[] 3)).heap.size ∧ (Value.slice (some ⟨w1.heap.size, 0, none⟩) 0 0).ownBlock ≠ some b) (.slice (some ⟨w1.heap.size + 1, 0, none⟩) 0 0) [] := .inr ⟨w1.heap.size + 1, 0, 0, rfl, Nat.le_refl _, Nat.zero_le _, ⟨by simp, by simp [Value.ownBlock]⟩, fun j hj => absurd hj (by simp)⟩
    have hon : ∀ b, b ∈ (Value.slice (some ⟨w1.heap.size, 0, none⟩) 0 0).ownBlock.toList → w.heap.size ≤ b := fun b hb => by
      simp [Value.ownBlock] at hb
      have := (hx0.trans h1).size
      omega
    have HCALL := Lib.hid (l8Places_any (.mk k n ks) w _ _ _ _ [] [] 30 true hcs.2 hin0 ((hx0.trans h1).trans hx3) hG hP (by have := hcs.1; simp; omega) (by have := hcs.1; simp; omega))
    clear hbB hG hP hcs hx2
    go_wp2_with fail
    refine HCALL.out.mono ?_
    rintro e w2 ⟨x, rfl, hG2, hO2, -⟩
    have hE2 : Ext w w2 := hO2.ext ((hx0.trans h1).trans hx3) hon
    clear hO2 hon
    go_wp2_with fail
    go_ret
    exact ⟨_, rfl, by rw [E2.out]; exact hG2, hE2⟩
def outP (t : Tr) : List Int := (outT t).getD []
def OutC (t : Tr) : Prop := ∀ (w : World) (v : Value) (d : Int), shape sigT t d = true → Lies w t v → d ≤ 1000 → Calls Try.prog 65 #[v] w fun e w' => ∃ x, e = .returned (.tuple #[x, .bool (outT t).isSome]) ∧ w'.ownsRow w.heap.size 3 1 x (outP t).length ((outP t).map (Value.int .i64)) ∧ Ext w w'
set_option maxRecDepth 100000 in
set_option maxHeartbeats 2000000 in
theorem outer_any : ∀ t : Tr, OutC t := Tr.ind fun k n ks hk => by
  intro w v d hsh hin hd
  have HR := Lib.hid (fun V (hV : Ext w V) => redex_any (.mk k n ks) d hsh V v (hin.ext hV))
  have hol := outT_len (.mk k n ks) d hsh
  obtain ⟨-, -, -, hsk⟩ := shape_kids hsh
  obtain ⟨A, cap, rfl, hl, hc, hK⟩ := Lies.mk_iff.1 hin
  obtain ⟨i0, hi, hz0, hz1, hz2⟩ := info_parts infoIntP
  have hcc := hc
  unfold maxLen at hcc
  have ho : outT (.mk k n ks) = if rdx k ks = 0 then outTs 0 ks else some [] := by rw [outT]
  have hx0 := (Ext.refl w).alloc (.cells #[.int .i64 k, .int .i64 n, .slice A ks.length cap] 25)
  have hbB := heap_alloc_new w (.cells #[.int .i64 k, .int .i64 n, .slice A ks.length cap] 25)
  obtain ⟨r, hr⟩ : ∃ r, rdx k ks = r := ⟨_, rfl⟩
  have HR2 := Lib.hid (show ∀ V, Ext w V → Calls Try.prog 46 #[.agg #[.int .i64 k, .int .i64 n, .slice A ks.length cap]] V fun e w' => e = .returned (.int .i64 r) ∧ Ext V w' from fun V hV => by have := HR.out V hV; rw [show rdxT (.mk k n ks) = r from hr] at this; exact this)
  rw [hr] at ho
  clear hr HR
  by_cases h0 : r = 0
  · rw [if_pos h0] at ho
    have hb0 : (r != 0) = false := by rw [h0]; rfl
    subst h0
    have HO := Lib.hid ho
    clear ho hin
    go_enter Try.func65, Try.ntmps65
    go_wp2_with fail
    refine (HR2.out _ hx0).mono ?_
    rintro e w1 ⟨rfl, h1⟩
    obtain ⟨z0, z1, z2, -, -, -⟩ := own3 (h1.blk hbB)
    have lz := lt_of_blk (h1.blk hbB)
    have hx1 := hx0.trans h1
    clear hbB h1 hx0 HR2
    go_wp2_with fail
    clear z0 z1 z2 lz
    go_loopw [14] (fun i wr => ∃ (j : Nat), j ≤ ks.length ∧ i = .int .i64 j ∧ Hid (outTs 0 ks = outTs j (ks.drop j)) ∧ Ext w wr) (fun i _ => ks.length - (intOf i).toNat)
    case atStart => exact ⟨0, Nat.zero_le _, rfl, Lib.hid rfl, hx1⟩
    case round =>
      obtain ⟨j, hj', rfl, HE, hx⟩ := hrel
      by_cases hlt : j < ks.length
      · obtain ⟨b, o, k', n', A', cap', kids, rfl, HK, c0, c1, c2, hkl, hkc, hK', hin', hmem⟩ := hK.get hx hlt
        have hst : outTs j (ks.drop j) = match outT (.mk k' n' kids) with | some p => some ((j : Int) :: p) | none => outTs (j + 1) (ks.drop (j + 1)) := by
          rw [List.drop_eq_getElem_cons hlt, HK.out]; conv => lhs; unfold outTs
          rfl
        have hol2 := outT_len (.mk k' n' kids) (d - 1) (hsk _ hmem)
        have hx5 := (Ext.refl wr).alloc (.cells #[.int .i64 k', .int .i64 n', .slice A' kids.length cap'] 25)
        have HC := Lib.hid (hk _ hmem _ _ (d - 1) (hsk _ hmem) (hin'.ext hx5) (by omega))
        have hpe : outP (.mk k' n' kids) = (outT (.mk k' n' kids)).getD [] := rfl
        rw [hpe] at HC
        clear hpe
        generalize outT (.mk k' n' kids) = q at hst hol2 HC
        have hj2 : (j : Int) < (ks.length : Int) := by omega
        clear hol hin'
        go_wp2_with fail
        refine HC.out.mono ?_
        rintro e w2 ⟨x, rfl, hq, h2⟩
        have hx2 := (hx.trans hx5).trans h2
        cases q with
        | some p =>
          have hpl := hol2 p rfl
          simp only [Option.getD_some] at hq
          simp only at hst
          have HO2 := Lib.hid ((HO.out.trans HE.out).trans hst)
          have hpa := ownsRow_pathL hq
          obtain ⟨Bq, cq, rfl, -, -, -⟩ := ownsRow_nums hq
          have hx3 := (Ext.refl w2).alloc (.cells #[.int .i64 j] 3)
          have hG : (w2.alloc (.cells #[.int .i64 j] 3)).ownsRow w2.heap.size 3 1 (.slice (some ⟨w2.heap.size, 0, none⟩) 1 1) ([(j : Int)]).length (([(j : Int)]).map (Value.int .i64)) := World.ownsRow_lit w2 #[.int .i64 j] 1 (Nat.le_refl _) (by decide) rfl
          have hpa3 := hpa.ext hx3
          clear hst HC HE HO hpa hq hol2
          go_wp2_with (at_builtin; refine wpList_append_ints _ rfl (.tmp 26) (.tmp 27) 32 rfl w2.heap.size 3 i0 _ 8 Try.underlying32 hi hz0 hz1 hz2 (by decide) rfl (ns := [(j : Int)]) (p := p) rfl hG (by simp) rfl hpa3 (by simp; omega) ?_)
          intro va wa hva hga hoa
          have hEa : Ext w wa := hx2.trans (hx3.grown hga (by intro g hg; simp [Value.ownBlock] at hg; omega))
          have hsz := hx2.size
          have hvw : wa.ownsRow w.heap.size 3 1 va ((j : Int) :: p).length ((((j : Int) :: p)).map (Value.int .i64)) := ownsRow_since hva hsz
          have HVW := Lib.hid hvw
          clear hva hga hoa hvw
          go_wp2_with fail
          go_ret2
          have hou : outP (.mk k n ks) = (j : Int) :: p := by unfold outP; rw [HO2.out]; rfl
          exact ⟨_, by rw [HO2.out]; rfl, by rw [hou]; exact HVW.out, hEa⟩
        | none =>
          simp only at hst
          have HE2 := Lib.hid (HE.out.trans hst)
          clear hst HC hq hol2
          go_wp2_with fail
          go_roundw
          case rel => exact ⟨j + 1, by omega, by go_num, HE2, hx2⟩
          case measure => simp [intOf]; omega
      · have HO2 := Lib.hid ((HO.out.trans HE.out).trans (show outTs j (ks.drop j) = none by rw [List.drop_of_length_le (by omega), outTs]))
        clear HE HO
        go_wp2_with fail
        go_ret2
        have hou : outP (.mk k n ks) = [] := by unfold outP; rw [HO2.out]; rfl
        exact ⟨_, by rw [HO2.out]; rfl, by rw [hou]; exact World.ownsRow_nil _ _ _ _, hx⟩
  · rw [if_neg h0] at ho
    have hb0 : (r != 0) = true := bne_iff_ne.2 h0
    have HO := Lib.hid ho
    clear ho
    go_enter Try.func65, Try.ntmps65
    go_wp2_with fail
    refine (HR2.out _ hx0).mono ?_
    rintro e w1 ⟨rfl, h1⟩
    go_wp2_with fail
    go_ret2
    have hou : outP (.mk k n ks) = [] := by unfold outP; rw [HO.out]; rfl
    exact ⟨_, by rw [HO.out]; rfl, by rw [hou]; exact World.ownsRow_nil _ _ _ _, hx0.trans h1⟩
set_option maxRecDepth 100000 in
set_option maxHeartbeats 400000 in
theorem dkInts_q (ns ms : List Int) (w : World) (A A' : Option Addr) (cap cap' : Nat) (h : Nums w A ns) (hl : ns.length ≤ cap) (hc : cap ≤ maxLen) (h' : Nums w A' ms) (hl' : ms.length ≤ cap') (hc' : cap' ≤ maxLen) :
    Calls Try.prog 15 #[.slice A ns.length cap, .slice A' ms.length cap'] w fun e w' => e = .returned (.bool (decide (ns = ms))) ∧ ∃ m, w' = w.drewN m := by
  unfold maxLen at hc hc'
  by_cases h0 : ns.length = ms.length
  · have hd : ((ns.length : Int) != (ms.length : Int)) = false := by rw [h0]; simp
    have H0 := Lib.hid h0
    clear h0
    go_enter Try.func15, Try.ntmps15
    go_wp2_with fail
    go_loopw [5] (fun i wr => ∃ j : Nat, j ≤ ns.length ∧ i = .int .i64 j ∧ (ns = ms ↔ ns.drop j = ms.drop j) ∧ ∃ q0, Hid (wr = w.drewN q0)) (fun i _ => ns.length - (intOf i).toNat)
    case atStart => exact ⟨0, Nat.zero_le _, rfl, Iff.rfl, 0, Lib.hid rfl⟩
    case round =>
      obtain ⟨j, hj, rfl, heq, q0, HQ⟩ := hrel
      have he : Ext w wr := HQ.out ▸ (Ext.refl w).drewN q0
      by_cases hlt : j < ns.length
      · have hlt' : j < ms.length := by rw [← H0.out]; exact hlt
        obtain ⟨b, o, rfl, c0⟩ := h.get he hlt
        obtain ⟨b', o', rfl, c0'⟩ := h'.get he hlt'
        have hst : ns.drop j = ms.drop j ↔ ns[j] = ms[j] ∧ ns.drop (j + 1) = ms.drop (j + 1) := by
          rw [List.drop_eq_getElem_cons hlt, List.drop_eq_getElem_cons hlt', List.cons.injEq]
        generalize ns[j] = p at c0 hst
        generalize ms[j] = q at c0' hst
        have hj0 : (0 : Int) ≤ (j : Int) := Int.natCast_nonneg _
        have hj1 : (j : Int) < (ns.length : Int) := by omega
        have hj2 : (j : Int) < (ms.length : Int) := by omega
        by_cases hpq : p = q
        · have d1 : (p != q) = false := by simp [hpq]
          have hn := heq.trans (hst.trans ⟨fun x => x.2, fun x => ⟨hpq, x⟩⟩)
          have HN := Lib.hid hn
          clear heq hst hn hpq
          go_wp2_with fail
          go_quiet (fail)
          go_wp2_with fail
          go_roundw
          case rel => exact ⟨j + 1, by omega, by go_num, HN.out, _, Lib.hid (by rw [HQ.out, World.drewN_drewN])⟩
          case measure => simp [intOf]; omega
        · have d1 : (p != q) = true := by rw [bne_iff_ne]; exact hpq
          have hn : decide (ns = ms) = false := decide_eq_false fun x => hpq (hst.1 (heq.1 x)).1
          have HN := Lib.hid hn
          clear heq hst hn hpq
          go_wp2_with fail
          go_quiet (fail)
          go_wp2_with fail
          go_ret
          exact ⟨by rw [HN.out]; rfl, _, by rw [HQ.out, World.drewN_drewN]⟩
      · have hn : decide (ns = ms) = true := decide_eq_true (heq.2 (by rw [List.drop_of_length_le (by omega), List.drop_of_length_le (by rw [← H0.out]; omega)]))
        have HN := Lib.hid hn
        clear heq hn
        go_wp2_with fail
        go_ret
        exact ⟨by rw [HN.out]; rfl, q0, HQ.out⟩
  · have hd : ((ns.length : Int) != (ms.length : Int)) = true := by rw [bne_iff_ne]; omega
    have hn : decide (ns = ms) = false := decide_eq_false fun x => h0 (by rw [x])
    have HN := Lib.hid hn
    clear hn h0
    go_enter Try.func15, Try.ntmps15
    go_wp2_with fail
    go_ret
    exact ⟨by rw [HN.out]; rfl, 0, rfl⟩
theorem dkInts_any (ns ms : List Int) (w : World) (A A' : Option Addr) (cap cap' : Nat) (h : Nums w A ns) (hl : ns.length ≤ cap) (hc : cap ≤ maxLen) (h' : Nums w A' ms) (hl' : ms.length ≤ cap') (hc' : cap' ≤ maxLen) :
    Calls Try.prog 15 #[.slice A ns.length cap, .slice A' ms.length cap'] w fun e w' => e = .returned (.bool (decide (ns = ms))) ∧ Ext w w' :=
  (dkInts_q ns ms w A A' cap cap' h hl hc h' hl' hc').mono fun e w' ⟨h1, m, h2⟩ => ⟨h1, h2 ▸ (Ext.refl w).drewN m⟩
end Go.Proofs.Ytjgdckkeojehoaa
