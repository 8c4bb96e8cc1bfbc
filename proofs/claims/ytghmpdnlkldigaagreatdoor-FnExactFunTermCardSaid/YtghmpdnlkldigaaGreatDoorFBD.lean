/-
  Lemmas towards the law, 30: Mark.
-/
import Derived.Test.YtghmpdnlkldigaaGreatDoorFAC
import Derived.Outline
import Derived.Test.YtghmpdnlkldigaaGreatDoorProg
namespace Go.Proofs.YtghmpdnlkldigaaGreatDoor
open Go.RowKit
set_option linter.unusedVariables false
mutual
def mkT : Tr → Int → Tr
  | .mk _ _ ks, k => .mk k (k + 1) (mkS ks (k + 2))
def mkS : List Tr → Int → List Tr
  | [], _ => []
  | t :: ts, k => mkT t k :: mkS ts (k + 2 * cnt t)
end
theorem mkS_len : ∀ (ks : List Tr) (k : Int), (mkS ks k).length = ks.length
  | [], k => by simp [mkS]
  | t :: ts, k => by simp [mkS, mkS_len ts]
theorem mkS_append : ∀ (a b : List Tr) (k : Int), mkS (a ++ b) k = mkS a k ++ mkS b (k + 2 * cnts a)
  | [], b, k => by simp [mkS, cnts]
  | t :: a, b, k => by
    simp only [List.cons_append, mkS, mkS_append a b, cnts]
    have e : k + 2 * (cnt t : Int) + 2 * (cnts a : Int) = k + 2 * ((cnt t + cnts a : Nat) : Int) := by omega
    rw [e]
mutual
theorem cnt_mkT : ∀ (t : Tr) (k : Int), cnt (mkT t k) = cnt t
  | .mk _ _ ks, k => by simp only [mkT, cnt, cnt_mkS ks]
theorem cnt_mkS : ∀ (ks : List Tr) (k : Int), cnts (mkS ks k) = cnts ks
  | [], k => by simp [mkS]
  | t :: ts, k => by simp only [mkS, cnts, cnt_mkT t, cnt_mkS ts]
end
mutual
def hdT : Tr → Int → Int
  | .mk a b ks, k => if a = k then (if b = k + 1 then hdS ks (k + 2) else -1) else -1
def hdS : List Tr → Int → Int
  | [], k => k
  | t :: ts, k => if hdT t k < 0 then -1 else hdS ts (hdT t k)
end
mutual
theorem hdT_mk : ∀ (t : Tr) (k : Int), 0 ≤ k → hdT (mkT t k) k = k + 2 * cnt t
  | .mk _ _ ks, k, h => by
    simp only [mkT, hdT, if_true, cnt]
    rw [hdS_mk ks _ (by omega)]
    omega
theorem hdS_mk : ∀ (ks : List Tr) (k : Int), 0 ≤ k → hdS (mkS ks k) k = k + 2 * cnts ks
  | [], k, h => by simp [mkS, hdS, cnts]
  | t :: ts, k, h => by
    simp only [mkS, hdS, cnts]
    rw [hdT_mk t k h, if_neg (by omega), hdS_mk ts _ (by omega)]
    omega
end
mutual
theorem hdT_le : ∀ (t : Tr) (k : Int), 0 ≤ k → hdT t k ≤ k + 2 * cnt t ∧ -1 ≤ hdT t k
  | .mk a b ks, k, h => by
    simp only [hdT, cnt]
    have := hdS_le ks (k + 2) (by omega)
    split
    · split <;> omega
    · omega
theorem hdS_le : ∀ (ks : List Tr) (k : Int), 0 ≤ k → hdS ks k ≤ k + 2 * cnts ks ∧ -1 ≤ hdS ks k
  | [], k, h => by simp only [hdS, cnts]; omega
  | t :: ts, k, h => by
    simp only [hdS, cnts]
    have := hdT_le t k h
    split
    · omega
    · have := hdS_le ts (hdT t k) (by omega)
      omega
end
theorem set2_list (cs : Array Value) (i : Nat) (a b v0 v1 : Value) (pre post : List Value) (h : cs.toList = pre ++ v0 :: v1 :: post) (hp : pre.length = i) :
    ((cs.setIfInBounds i a).setIfInBounds (i + 1) b).toList = pre ++ a :: b :: post := by
  subst hp
  simp only [Array.toList_setIfInBounds, h]
  rw [List.set_append_right _ _ (Nat.le_refl _)]
  simp only [Nat.sub_self, List.set_cons_zero]
  rw [List.set_append_right _ _ (by omega)]
  simp
def MarkTermC (t : Tr) : Prop := ∀ (w : World) (A : Option Addr) (cap : Nat) (L : List Nat) (k : Int), OwnK w 36 A t.kids L → L.Nodup → t.kids.length ≤ cap → cap ≤ maxLen → 0 ≤ k → k + 2 * cnts t.kids ≤ 4611686018427387904 →
  Calls Tryz.prog 49 #[.slice A t.kids.length cap, .int .i64 k] w fun e w' => e = .returned (.int .i64 (k + 2 * cnts t.kids)) ∧ OwnK w' 36 A (mkS t.kids k) L ∧ Only L w w'
set_option maxHeartbeats 400000 in
theorem markTermS_any : ∀ t : Tr, MarkTermC t := Tr.ind fun kk nn ks hk => by
  intro w A cap L k hO hnd hl hc hk0 hk1
  simp only [Tr.kids] at *
  have hc' := hc
  unfold maxLen at hc'
  have hlen := len_le_cnts ks
  rcases hO with ⟨rfl, rfl⟩ | ⟨g, cs0, L', rfl, hb0, rfl, hO⟩
  · go_enter Tryz.func49, Tryz.ntmps49
    go_wp2_with fail
    refine wp_loop_rounds 1 ?_
    rw [rounds_succ]
    go_wp2_with fail
    go_ret
    exact ⟨by simp [cnts], .inl ⟨by simp [mkS], rfl⟩, Only.refl _ _⟩
  · have HB := Lib.hid hb0
    clear hb0
    go_enter Tryz.func49, Tryz.ntmps49
    go_wp2_with fail
    go_loopw [1, 5] (fun q i wr => ∃ (j : Nat) (cs : Array Value), j ≤ ks.length ∧ i = .int .i64 j ∧ q = .int .i64 (k + 2 * cnts (ks.take j)) ∧ wr.heap[g]? = some (.cells cs 36 (0, 0)) ∧ OwnL wr 36 cs.toList (mkS (ks.take j) k ++ ks.drop j) L' ∧ Only (g :: L') w wr) (fun _ i _ => ks.length - (intOf i).toNat)
    case atStart => exact ⟨0, cs0, Nat.zero_le _, rfl, by simp [cnts], HB.out, by simpa [mkS] using hO, Only.refl _ _⟩
    case round =>
      obtain ⟨j, cs, hj, rfl, rfl, hblk, hO, hon⟩ := hrel
      by_cases hlt : j < ks.length
      · have hks := List.drop_eq_getElem_cons hlt
        have hcn : cnts ks = cnts (ks.take j) + (cnt ks[j] + cnts (ks.drop (j + 1))) := by
          conv => lhs; rw [← List.take_append_drop j ks, cnts_append, hks]
          simp only [cnts]
        rw [hks] at hO
        obtain ⟨pre, v0, v1, v2, post, La, Lt, Lb, hcs, hpl, ha, ht, hbb, hL⟩ := hO.split
        rw [mkS_len, List.length_take, Nat.min_eq_left hj] at hpl
        have hmem : ks[j] ∈ ks := List.getElem_mem hlt
        have hkj := hk _ hmem
        have htk : ks.take (j + 1) = ks.take j ++ [ks[j]] := (List.take_append_getElem hlt).symm
        generalize ks[j] = t at hkj ht hcn htk
        obtain ⟨a, b, kids⟩ := t
        obtain ⟨A', cap', hv, hl', hcp', hK'⟩ := OwnT.mk_iff.1 ht
        simp only [Value.agg.injEq, Array.mk.injEq, List.cons.injEq, and_true] at hv
        obtain ⟨rfl, rfl, rfl⟩ := hv
        have c0 : wr.cell? ⟨g, j * 3, none⟩ = some (.int .i64 a) := by rw [cell_of_blk hblk, ← Array.getElem?_toList, hcs, List.getElem?_append_right (by omega)]; simp [hpl]
        have c1 : wr.cell? ⟨g, j * 3 + 1, none⟩ = some (.int .i64 b) := by rw [cell_of_blk hblk, ← Array.getElem?_toList, hcs, List.getElem?_append_right (by omega)]; simp [hpl]
        have c2 : wr.cell? ⟨g, j * 3 + 2, none⟩ = some (.slice A' kids.length cap') := by rw [cell_of_blk hblk, ← Array.getElem?_toList, hcs, List.getElem?_append_right (by omega)]; simp [hpl]
        have f0 := frozen_of_blk hblk (j * 3)
        have f1 := frozen_of_blk hblk (j * 3 + 1)
        have hkb : k + 2 * (cnts (ks.take j) : Int) + 2 ≤ 4611686018427387904 := by simp only [cnt] at hcn; omega
        have HB := Lib.hid hblk
        have HL := Lib.hid hL
        have HC := Lib.hid hcs
        have HP := Lib.hid hpl
        have HN := Lib.hid hcn
        have HT := Lib.hid htk
        clear hblk hL hcs hpl hcn hks htk
        go_wp2_with fail
        generalize hq : cnts (ks.take j) = q at *
        have hnd' := (List.nodup_cons.1 hnd)
        have hw2 : ((wr.setCell ⟨g, j * 3, none⟩ (.int .i64 (k + 2 * (q : Int)))).setCell ⟨g, j * 3 + 1, none⟩ (.int .i64 (k + 2 * (q : Int) + 1))).heap[g]? = some (.cells ((cs.setIfInBounds (j * 3) (.int .i64 (k + 2 * (q : Int)))).setIfInBounds (j * 3 + 1) (.int .i64 (k + 2 * (q : Int) + 1))) 36 (0, 0)) := blk_setCell (blk_setCell HB.out _ _) _ _
        have hon2 : Only (g :: L') w ((wr.setCell ⟨g, j * 3, none⟩ (.int .i64 (k + 2 * (q : Int)))).setCell ⟨g, j * 3 + 1, none⟩ (.int .i64 (k + 2 * (q : Int) + 1))) := (hon.setCell (by simp) _).setCell (by simp) _
        have hne2 : ∀ x, x ≠ g → ((wr.setCell ⟨g, j * 3, none⟩ (.int .i64 (k + 2 * (q : Int)))).setCell ⟨g, j * 3 + 1, none⟩ (.int .i64 (k + 2 * (q : Int) + 1))).heap[x]? = wr.heap[x]? := fun x hx => by rw [Below.heap_setCell _ _ _ _ hx, Below.heap_setCell _ _ _ _ hx]
        have hs2 : ((wr.setCell ⟨g, j * 3, none⟩ (.int .i64 (k + 2 * (q : Int)))).setCell ⟨g, j * 3 + 1, none⟩ (.int .i64 (k + 2 * (q : Int) + 1))).heap.size = wr.heap.size := by simp
        have hcl := set2_list cs (j * 3) (.int .i64 (k + 2 * (q : Int))) (.int .i64 (k + 2 * (q : Int) + 1)) _ _ pre _ HC.out HP.out
        generalize (wr.setCell ⟨g, j * 3, none⟩ (.int .i64 (k + 2 * (q : Int)))).setCell ⟨g, j * 3 + 1, none⟩ (.int .i64 (k + 2 * (q : Int) + 1)) = w2 at *
        generalize (cs.setIfInBounds (j * 3) (.int .i64 (k + 2 * (q : Int)))).setIfInBounds (j * 3 + 1) (.int .i64 (k + 2 * (q : Int) + 1)) = cs2 at *
        have hgl : ∀ x, x ∈ L' → x ≠ g := fun x hx e => hnd'.1 (e ▸ hx)
        have hsub : ∀ x, x ∈ Lt → x ∈ L' := fun x hx => by rw [HL.out]; simp [hx]
        have hndL := HL.out ▸ hnd'.2
        obtain ⟨hnda, hndr, hdab⟩ := List.nodup_append.1 hndL
        obtain ⟨hndt, hndb, hdtb⟩ := List.nodup_append.1 hndr
        have hcn2 := HN.out
        simp only [cnt] at hcn2
        refine (hkj w2 A' cap' Lt (k + 2 * (q : Int) + 1 + 1) (OwnK.mono hK' fun x hx => hne2 x (hgl x (hsub x hx))) hndt hl' hcp' (by omega) (by simp only [Tr.kids]; omega)).mono ?_
        rintro e w3 ⟨rfl, hK3, hon3⟩
        simp only [Tr.kids] at hK3
        clear hcn2
        go_wp2_with fail
        go_roundw
        case rel =>
          refine ⟨j + 1, cs2, by omega, by go_num, ?_, (hon3.block g (lt_of_blk hw2) (fun hm => hgl g (hsub g hm) rfl)).trans hw2, ?_, hon2.trans (hon3.mono fun x hx => by simp [hsub x hx])⟩
          · rw [HT.out, cnts_append, hq]
            simp only [Tr.kids, cnts, cnt]
            congr 1
            omega
          · rw [HT.out, mkS_append, hq, hcl, List.append_assoc, HL.out]
            have hLa : ∀ x, x ∈ La → w3.heap[x]? = wr.heap[x]? := fun x hx =>
              (hon3.block x (by rw [hs2]; exact ha.lt x hx) (fun hm => hdab x hx x (by simp [hm]) rfl)).trans (hne2 x (hgl x (by rw [HL.out]; simp [hx])))
            have hLb : ∀ x, x ∈ Lb → w3.heap[x]? = wr.heap[x]? := fun x hx =>
              (hon3.block x (by rw [hs2]; exact hbb.lt x hx) (fun hm => hdtb x hm x hx rfl)).trans (hne2 x (hgl x (by rw [HL.out]; simp [hx])))
            have e1 : k + 2 * (q : Int) + 1 + 1 = k + 2 * q + 2 := by omega
            rw [e1] at hK3
            have hjn := OwnL.join (t := mkT (.mk a b kids) (k + 2 * (q : Int))) (OwnT.mk_iff.2 ⟨A', cap', by rw [mkS_len], by rw [mkS_len]; exact hl', hcp', hK3⟩) (hbb.mono hLb) (by rw [mkS_len, List.length_take, Nat.min_eq_left hj]; exact HP.out) (ha.mono hLa)
            simp only [mkT, mkS, List.singleton_append] at hjn ⊢
            exact hjn
        case measure => simp [intOf]; omega
      · go_wp2_with fail
        go_ret
        have hjk : j = ks.length := by omega
        subst hjk
        simp only [List.take_length, List.drop_length, List.append_nil] at *
        exact ⟨rfl, .inr ⟨g, cs, L', rfl, hblk, rfl, hO⟩, hon⟩
theorem markTerm_any (w : World) (kk nn : Int) (A : Option Addr) (cap : Nat) (ks : List Tr) (L : List Nat) (k : Int) (hO : OwnK w 36 A ks L) (hnd : L.Nodup) (hl : ks.length ≤ cap) (hc : cap ≤ maxLen) (hk0 : 0 ≤ k) (hk1 : k + 2 * cnts ks ≤ 4611686018427387904) :
    Calls Tryz.prog 26 #[.agg #[.int .i64 kk, .int .i64 nn, .slice A ks.length cap], .int .i64 k] w fun e w' => e = .returned (.int .i64 (k + 2 * cnts ks)) ∧ OwnK w' 36 A (mkS ks k) L ∧ Only L w w' := by
  have HW := fun W (hW : Ext w W) => markTermS_any (.mk kk nn ks) W A cap L k (hO.mono fun b hb => hW.heap b (by
    rcases hO with ⟨rfl, rfl⟩ | ⟨g, cs, L', rfl, hg, rfl, hll⟩
    · cases hb
    · rcases List.mem_cons.1 hb with rfl | hb
      · exact lt_of_blk hg
      · exact hll.lt b hb)) hnd hl hc hk0 hk1
  simp only [Tr.kids] at HW
  have HS := Lib.hid HW
  clear HW
  go_enter Tryz.func26, Tryz.ntmps26
  go_wp2_with fail
  refine (HS.out _ ((Ext.refl w).alloc _)).mono ?_
  rintro e w1 ⟨rfl, h1, h2⟩
  go_wp2_with fail
  go_ret
  exact ⟨rfl, h1, ((Only.refl L w).alloc _).trans h2⟩
def HeldTermC (t : Tr) : Prop := ∀ (w : World) (A : Option Addr) (cap : Nat) (k : Int), LiesK w A t.kids → t.kids.length ≤ cap → cap ≤ maxLen → 0 ≤ k → k + 2 * cnts t.kids ≤ 4611686018427387904 →
  Calls Tryz.prog 50 #[.slice A t.kids.length cap, .int .i64 k] w fun e w' => e = .returned (.int .i64 (hdS t.kids k)) ∧ Ext w w'
set_option maxHeartbeats 400000 in
theorem heldTermS_any : ∀ t : Tr, HeldTermC t := Tr.ind fun kk nn ks hk => by
  intro w A cap k h hl hc hk0 hk1
  simp only [Tr.kids] at *
  have hc' := hc
  unfold maxLen at hc'
  go_enter Tryz.func50, Tryz.ntmps50
  go_wp2_with fail
  go_loopw [1, 5] (fun q i wr => ∃ (j : Nat) (m : Int), j ≤ ks.length ∧ i = .int .i64 j ∧ q = .int .i64 m ∧ 0 ≤ m ∧ m + 2 * cnts (ks.drop j) ≤ 4611686018427387904 ∧ hdS ks k = hdS (ks.drop j) m ∧ Ext w wr) (fun _ i _ => ks.length - (intOf i).toNat)
  case atStart => exact ⟨0, k, Nat.zero_le _, rfl, rfl, hk0, by simpa using hk1, by simp, Ext.refl _⟩
  case round =>
    obtain ⟨j, m, hj, rfl, rfl, hm0, hm1, heq, he⟩ := hrel
    by_cases hlt : j < ks.length
    · obtain ⟨b, o, a, n, A', cap', kids, rfl, HK, c0, c1, c2, hkl, hkc, hK, hin, hmem⟩ := h.get he hlt
      have hks := List.drop_eq_getElem_cons hlt
      rw [HK.out] at hks
      have heq2 : hdS (ks.drop j) m = if hdT (.mk a n kids) m < 0 then -1 else hdS (ks.drop (j + 1)) (hdT (.mk a n kids) m) := by rw [hks]; simp only [hdS]
      have hle := hdT_le (.mk a n kids) m hm0
      rw [hks] at hm1
      simp only [cnts, cnt] at hm1 hle
      have HE := Lib.hid heq
      have HE2 := Lib.hid heq2
      clear heq heq2 hks
      by_cases ha : a = m
      · by_cases hn : n = m + 1
        · have ht : hdT (.mk a n kids) m = hdS kids (m + 2) := by simp only [hdT, ha, hn, if_true]
          have HT := Lib.hid ht
          rw [ht] at hle
          subst ha
          subst hn
          clear ht
          go_wp2_with fail
          refine (hk _ hmem wr A' cap' (a + 1 + 1) hK hkl hkc (by omega) (by simp only [Tr.kids]; omega)).mono ?_
          rintro e w1 ⟨rfl, hE⟩
          simp only [Tr.kids]
          have e1 : a + 1 + 1 = a + 2 := by omega
          rw [e1]
          generalize hdS kids (a + 2) = r at HT hle
          by_cases hr : r < 0
          · have hd : decide (r < 0) = true := by simpa using hr
            go_wp2_with fail
            go_ret
            exact ⟨by rw [HE.out, HE2.out, HT.out, if_pos hr]; rfl, he.trans hE⟩
          · have hd : decide (r < 0) = false := by simpa using hr
            go_wp2_with fail
            go_roundw
            case rel => exact ⟨j + 1, r, by omega, by go_num, rfl, by omega, by omega, by rw [HE.out, HE2.out, HT.out, if_neg hr], he.trans hE⟩
            case measure => simp [intOf]; omega
        · have ht : hdT (.mk a n kids) m = -1 := by simp only [hdT, ha, if_true, if_neg hn]
          have HT := Lib.hid ht
          subst ha
          clear ht
          have hb1 : (a != a) = false := by simp
          have hb2 : (n != a + 1) = true := by rw [bne_iff_ne]; exact hn
          go_wp2_with fail
          go_ret
          exact ⟨by rw [HE.out, HE2.out, HT.out]; rfl, he⟩
      · have ht : hdT (.mk a n kids) m = -1 := by simp only [hdT, if_neg ha]
        have HT := Lib.hid ht
        clear ht
        have hb2 : (a != m) = true := by rw [bne_iff_ne]; exact ha
        go_wp2_with fail
        go_ret
        exact ⟨by rw [HE.out, HE2.out, HT.out]; rfl, he⟩
    · have HE := Lib.hid heq
      clear heq
      go_wp2_with fail
      go_ret
      exact ⟨by rw [HE.out, List.drop_of_length_le (by omega)]; simp only [hdS]; rfl, he⟩
theorem heldTerm_any (w : World) (kk nn : Int) (A : Option Addr) (cap : Nat) (ks : List Tr) (k : Int) (h : LiesK w A ks) (hl : ks.length ≤ cap) (hc : cap ≤ maxLen) (hk0 : 0 ≤ k) (hk1 : k + 2 * cnts ks ≤ 4611686018427387904) :
    Calls Tryz.prog 27 #[.agg #[.int .i64 kk, .int .i64 nn, .slice A ks.length cap], .int .i64 k] w fun e w' => e = .returned (.int .i64 (hdS ks k)) ∧ Ext w w' := by
  have HW := fun W (hW : Ext w W) => heldTermS_any (.mk kk nn ks) W A cap k (h.ext hW) hl hc hk0 hk1
  simp only [Tr.kids] at HW
  have HS := Lib.hid HW
  clear HW
  have hle := hdS_le ks k hk0
  go_enter Tryz.func27, Tryz.ntmps27
  go_wp2_with fail
  refine (HS.out _ ((Ext.refl w).alloc _)).mono ?_
  rintro e w1 ⟨rfl, h2⟩
  generalize hq : hdS ks k = r at hle
  have HQ := Lib.hid hq
  clear hq
  by_cases hr : r < 0
  · have hd : decide (r < 0) = true := by simpa using hr
    go_wp2_with fail
    go_ret
    have e1 : r = -1 := by omega
    exact ⟨by rw [HQ.out, e1]; rfl, h2.pre⟩
  · have hd : decide (r < 0) = false := by simpa using hr
    go_wp2_with fail
    go_ret
    exact ⟨by rw [HQ.out]; rfl, h2.pre⟩
end Go.Proofs.YtghmpdnlkldigaaGreatDoor
