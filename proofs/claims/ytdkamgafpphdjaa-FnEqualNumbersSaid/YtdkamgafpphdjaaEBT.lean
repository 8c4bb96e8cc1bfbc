/-
  Lemmas towards the law, 46: InfJ, InfV, InfK.
-/
import Derived.Test.YtdkamgafpphdjaaEBR
import Derived.Test.YtdkamgafpphdjaaEBS
namespace Go.Proofs.Ytdkamgafpphdjaa
open Go.RowKit
set_option linter.unusedVariables false
theorem ops_kind {k : Int} {m : Nat} (h : opsT k = (m : Int)) : (k = 1 ∧ m = 0) ∨ (k = 2 ∧ m = 0) ∨ (k = 3 ∧ m = 2) ∨ (k = 4 ∧ m = 2) ∨ (k = 5 ∧ m = 2) ∨ (k = 6 ∧ m = 0) ∨ (k = 7 ∧ m = 0) ∨ (k = 8 ∧ m = 1) ∨ (k = 9 ∧ m = 4) ∨ (k = 10 ∧ m = 3) ∨ (k = 11 ∧ m = 1) ∨ (k = 12 ∧ m = 3) ∨ (k = 13 ∧ m = 2) ∨ (k = 14 ∧ m = 3) ∨ (k = 15 ∧ m = 1) ∨ (k = 16 ∧ m = 1) := by
  by_cases hk : 1 ≤ k ∧ k ≤ 16
  · rcases (by omega : k = 1 ∨ k = 2 ∨ k = 3 ∨ k = 4 ∨ k = 5 ∨ k = 6 ∨ k = 7 ∨ k = 8 ∨ k = 9 ∨ k = 10 ∨ k = 11 ∨ k = 12 ∨ k = 13 ∨ k = 14 ∨ k = 15 ∨ k = 16) with rfl | rfl | rfl | rfl | rfl | rfl | rfl | rfl | rfl | rfl | rfl | rfl | rfl | rfl | rfl | rfl
    all_goals (simp [opsT] at h ⊢; omega)
  · have e : opsT k = -1 := by
      unfold opsT
      repeat rw [if_neg (by omega)]
    omega
set_option maxHeartbeats 1000000 in
theorem judged_any {wC : World} {p1 p2 : Nat} {A : Option Addr} {G : List Tr} {At : Option Addr} {ks : List Tr} {ty : Nat → An} (k n : Int) (ca ct : Nat) (hlt : ks.length ≤ ct) (hct : ct ≤ maxLen) (w0 : World) (N : Nat → Prop) (hJ : JOk wC w0 N p1 p2 A G At ks ty) (inf : Tr → An) (hI : InfF wC A ca G inf) (hvj : valid sigT (.mk k n ks) = true) (hGv : ∀ x ∈ G, valid sigT x = true) (hca : G.length ≤ ca) (hcm : ca ≤ maxLen) (hTV : ∀ i s, i < ks.length → ty i = some (s, 0) → valid sigT s = true)
    (r : Tr × Int) (h : judV G inf ty k n ks = some r) : Calls Try.prog 37 #[.agg #[.slice A G.length ca, .int .i64 k, .int .i64 n, .slice At ks.length ct, .func (.func 35) #[] #[.pointer (some ⟨p1, 0, none⟩), .pointer (some ⟨p2, 0, none⟩)]]] w0 (AnQ N w0 r) := by
  obtain ⟨ho, hn0, hn1, -⟩ := shape_kids' (valid_parts hvj).1
  have hkv : ∀ i, i < ks.length → valid sigT (kd ks i) = true := fun i hi => kd_valid (t := .mk k n ks) hvj hi
  unfold judV at h
  rcases ops_kind (show opsT k = (ks.length : Int) from ho) with ⟨rfl, hm⟩ | ⟨rfl, hm⟩ | ⟨rfl, hm⟩ | ⟨rfl, hm⟩ | ⟨rfl, hm⟩ | ⟨rfl, hm⟩ | ⟨rfl, hm⟩ | ⟨rfl, hm⟩ | ⟨rfl, hm⟩ | ⟨rfl, hm⟩ | ⟨rfl, hm⟩ | ⟨rfl, hm⟩ | ⟨rfl, hm⟩ | ⟨rfl, hm⟩ | ⟨rfl, hm⟩ | ⟨rfl, hm⟩
  · exact judged_1 n ca ct hlt hct w0 N hJ hn0 hn1 hGv hca hcm r (by simpa using h)
  · exact judged_2 n ca ct hlt hct w0 N hJ hn0 hn1 r (by simpa using h)
  · exact judged_3 n ca ct hlt hct w0 N hJ hm r (by simpa using h)
  · exact judged_4 n ca ct hlt hct w0 N hJ inf hI hm r (by simpa using h)
  · exact judged_5 n ca ct hlt hct w0 N hJ hm (hkv 1 (by omega)) r (by simpa using h)
  · exact judged_6 n ca ct hlt hct w0 N hJ r (by simpa using h)
  · exact judged_7 n ca ct hlt hct w0 N hJ r (by simpa using h)
  · exact judged_8 n ca ct hlt hct w0 N hJ hm r (by simpa using h)
  · exact judged_9 n ca ct hlt hct w0 N hJ hm (hkv 0 (by omega)) r (by simpa using h)
  · exact judged_10 n ca ct hlt hct w0 N hJ hm r (by simpa using h)
  · exact judged_11 n ca ct hlt hct w0 N hJ inf hI hm (fun s hs => hTV 0 s (by omega) hs) r (by simpa using h)
  · exact judged_12 n ca ct hlt hct w0 N hJ hm r (by simpa using h)
  · exact judged_13 n ca ct hlt hct w0 N hJ hm r (by simpa using h)
  · exact judged_14 n ca ct hlt hct w0 N hJ hm (hkv 1 (by omega)) r (by simpa using h)
  · exact judged_15 n ca ct hlt hct w0 N hJ hm hvj r (by simpa using h)
  · exact judged_16 n ca ct hlt hct w0 N hJ hm hvj r (by simpa using h)
end Go.Proofs.Ytdkamgafpphdjaa
namespace Go.Proofs.Ytdkamgafpphdjaa
open Go.RowKit
set_option linter.unusedVariables false
theorem srt_valid {m : Int} (h0 : 0 ≤ m) (h3 : m ≤ 3) : valid sigT (srtT m) = true := by
  rcases (by omega : m = 0 ∨ m = 1 ∨ m = 2 ∨ m = 3) with rfl | rfl | rfl | rfl <;> decide +kernel
theorem nat_valid : valid sigT natT = true := by decide +kernel
theorem num_sort {x : An} {s : Tr} (h : frmV x 2 = some (s, 0)) : 0 ≤ s.num ∧ s.num ≤ 3 := by
  obtain ⟨hk, -, hv⟩ := frm_len h
  obtain ⟨k, n, ks⟩ := s
  obtain ⟨-, h1, h2, -⟩ := shape_kids' (valid_parts hv).1
  rw [show k = 2 from hk] at h2
  exact ⟨h1, h2⟩
theorem one_valid {X : Tr × Int} {u : Tr} (h : some X = some (u, (0 : Int))) (hX : X.2 = 0 → valid sigT X.1 = true) : valid sigT u = true := by
  have e : X = (u, 0) := by simpa using h
  have := hX (by rw [e])
  rwa [e] at this
theorem mk_valid (X : Tr) : (mkV X).2 = 0 → valid sigT (mkV X).1 = true := fun h => by
  obtain ⟨h1, h2⟩ := mkV_ok h
  rw [h2]
  exact h1
theorem judV_valid {G : List Tr} {inf : Tr → An} {ty : Nat → An} {k n : Int} {ks : List Tr} {u : Tr} (hv : valid sigT (.mk k n ks) = true) (h : judV G inf ty k n ks = some (u, 0)) : valid sigT u = true := by
  obtain ⟨ho, hn0, hn1, -⟩ := shape_kids' (valid_parts hv).1
  have hkv : ∀ i, i < ks.length → valid sigT (kd ks i) = true := fun i hi => kd_valid (t := .mk k n ks) hv hi
  unfold judV at h
  rcases ops_kind (show opsT k = (ks.length : Int) from ho) with ⟨rfl, hm⟩ | ⟨rfl, hm⟩ | ⟨rfl, hm⟩ | ⟨rfl, hm⟩ | ⟨rfl, hm⟩ | ⟨rfl, hm⟩ | ⟨rfl, hm⟩ | ⟨rfl, hm⟩ | ⟨rfl, hm⟩ | ⟨rfl, hm⟩ | ⟨rfl, hm⟩ | ⟨rfl, hm⟩ | ⟨rfl, hm⟩ | ⟨rfl, hm⟩ | ⟨rfl, hm⟩ | ⟨rfl, hm⟩
  · have h : some (lkV G n) = some (u, 0) := by simpa using h
    refine one_valid h fun h0 => ?_
    unfold lkV at h0 ⊢
    split at h0
    · simp at h0
    · rename_i hh
      rw [if_neg hh]
      exact mk_valid _ h0
  · have h : some (if n = 3 then (dflt0, 1) else (srtT (n + 1), (0 : Int))) = some (u, 0) := by simpa using h
    refine one_valid h fun h0 => ?_
    split at h0
    · simp at h0
    · rename_i hh
      rw [if_neg hh]
      have : mostT 2 = 3 := rfl
      have : n ≤ mostT 2 := hn1
      exact srt_valid (by omega) (by omega)
  · have h : arrV ty = some (u, 0) := by simpa using h
    obtain ⟨a, h1, h⟩ := thn_ok h
    obtain ⟨b, h2, h⟩ := thn_ok h
    have := num_sort h1
    have := num_sort h2
    refine one_valid h fun _ => srt_valid (by show 0 ≤ max a.num b.num; omega) (by show max a.num b.num ≤ 3; omega)
  · have h : lamV inf ty (kd ks 0) = some (u, 0) := by simpa using h
    obtain ⟨a, h1, h⟩ := thn_ok h
    obtain ⟨b, h2, h⟩ := thn_ok h
    obtain ⟨o, h3, h⟩ := thn_ok h
    obtain ⟨q, h4, h⟩ := thn_ok h
    obtain rfl : o = u := by simpa using h
    exact one_valid h3 (mk_valid _)
  · have h : appV ty (kd ks 1) = some (u, 0) := by simpa using h
    obtain ⟨a, h1, h⟩ := thn_ok h
    obtain ⟨s, h2, -, h⟩ := chkV_ok h
    exact one_valid h (mk_valid _)
  · have h : some (srtT 0, (0 : Int)) = some (u, 0) := by simpa using h
    exact one_valid h fun _ => srt_valid (by decide) (by decide)
  · have h : some (natT, (0 : Int)) = some (u, 0) := by simpa using h
    exact one_valid h fun _ => nat_valid
  · have h : chkV (ty 0) natT (some (natT, 0)) = some (u, 0) := by simpa using h
    obtain ⟨s, h2, -, h⟩ := chkV_ok h
    exact one_valid h fun _ => nat_valid
  · have h : elmV ty (kd ks 0) (kd ks 3) = some (u, 0) := by simpa using h
    obtain ⟨F, s, c, -, -, -, -, -, -, h⟩ := famV_ok h
    obtain ⟨w, -, h⟩ := thn_ok h
    obtain ⟨s, -, -, h⟩ := chkV_ok h
    obtain ⟨w, -, h⟩ := thn_ok h
    obtain ⟨s, -, -, h⟩ := chkV_ok h
    obtain ⟨s, -, -, h⟩ := chkV_ok h
    exact one_valid h (mk_valid _)
  · have h : idnV ty (kd ks 0) = some (u, 0) := by simpa using h
    obtain ⟨a, h1, h⟩ := thn_ok h
    obtain ⟨s, -, -, h⟩ := chkV_ok h
    obtain ⟨s, -, -, h⟩ := chkV_ok h
    have := num_sort h1
    exact one_valid h fun _ => srt_valid this.1 this.2
  · have h : rflV inf ty (kd ks 0) = some (u, 0) := by simpa using h
    obtain ⟨a, h1, h⟩ := thn_ok h
    obtain ⟨b, h2, h⟩ := thn_ok h
    exact one_valid h (mk_valid _)
  · have h : movV ty (kd ks 0) = some (u, 0) := by simpa using h
    obtain ⟨a, h1, h⟩ := thn_ok h
    obtain ⟨F, s, c, -, -, -, -, -, -, h⟩ := famV_ok h
    obtain ⟨w, -, h⟩ := thn_ok h
    obtain ⟨s, -, -, h⟩ := chkV_ok h
    exact one_valid h (mk_valid _)
  · have h : arrV ty = some (u, 0) := by simpa using h
    obtain ⟨a, h1, h⟩ := thn_ok h
    obtain ⟨b, h2, h⟩ := thn_ok h
    have := num_sort h1
    have := num_sort h2
    refine one_valid h fun _ => srt_valid (by show 0 ≤ max a.num b.num; omega) (by show max a.num b.num ≤ 3; omega)
  · have h : parV ty (kd ks 0) (kd ks 1) = some (u, 0) := by simpa using h
    obtain ⟨a, h1, h⟩ := thn_ok h
    obtain ⟨b, h2, h⟩ := thn_ok h
    obtain ⟨s, -, -, h⟩ := chkV_ok h
    obtain ⟨w, -, h⟩ := thn_ok h
    obtain ⟨s, -, -, h⟩ := chkV_ok h
    exact one_valid h fun _ => hkv 0 (by omega)
  · have h : prtV ty 15 (kd ks 0) = some (u, 0) := by simpa using h
    obtain ⟨s, h1, h⟩ := thn_ok h
    rw [if_pos rfl] at h
    obtain ⟨-, hl, hsv⟩ := frm_len h1
    have : opsT 13 = 2 := rfl
    exact one_valid h fun _ => kd_valid hsv (by omega)
  · have h : prtV ty 16 (kd ks 0) = some (u, 0) := by simpa using h
    obtain ⟨s, h1, h⟩ := thn_ok h
    rw [if_neg (by decide)] at h
    exact one_valid h (mk_valid _)
theorem infV_valid {f : Nat} {G : List Tr} {t u : Tr} (hv : valid sigT t = true) (h : infV f G t = some (u, 0)) : valid sigT u = true := by
  cases f with
  | zero => cases h
  | succ f =>
    obtain ⟨k, n, ks⟩ := t
    exact judV_valid hv h
end Go.Proofs.Ytdkamgafpphdjaa
namespace Go.Proofs.Ytdkamgafpphdjaa
open Go.RowKit
set_option linter.unusedVariables false
attribute [local go_sem ↓] Go.wp_at_zero Go.wp_at_succ
theorem tyV_valid {f : Nat} {G : List Tr} {k n : Int} {ks : List Tr} (hv : valid sigT (.mk k n ks) = true) {i : Nat} {s : Tr} (hi : i < ks.length) (h : tyV (infV f) G k ks i = some (s, 0)) : valid sigT s = true := by
  have hk : valid sigT (kd ks i) = true := kd_valid (t := .mk k n ks) hv hi
  unfold tyV at h
  split at h
  · exact infV_valid hk h
  · split at h
    · simp at h
    · exact infV_valid hk h
/-- The context of an operand. -/
def OpQ (w0 : World) (N : Nat → Prop) (G : List Tr) (k : Int) (ks : List Tr) (i : Nat) (e : Ending) (w' : World) : Prop :=
  ∃ A' c' H c, e = .returned (.tuple #[.slice A' (H : List Tr).length c', .int .i64 c]) ∧ Ext w0 w' ∧ ((c = 2 ∧ H = [] ∧ und k i ≠ 0 ∧ 20 ≤ G.length) ∨ (c = 0 ∧ H.length ≤ c' ∧ c' ≤ maxLen ∧ InK w' N A' H ∧ ((und k i = 0 ∧ H = G) ∨ (und k i ≠ 0 ∧ G.length < 20 ∧ H = G ++ [kd ks 0]))))
set_option maxRecDepth 100000 in
set_option maxHeartbeats 8000000 in
theorem opCtx_any (G : List Tr) (k n : Int) (ks : List Tr) (w0 : World) (N : Nat → Prop) (hN : ∀ b, w0.heap.size ≤ b → N b) (A At : Option Addr) (ca ct : Nat) (hG : InK w0 N A G) (hK : InK w0 N At ks) (hlt : ks.length ≤ ct) (hct : ct ≤ maxLen) (hca : G.length ≤ ca) (hcm : ca ≤ maxLen) (i : Nat) (hi : i < ks.length) :
    Calls Try.prog 36 #[.slice A G.length ca, .agg #[.int .i64 k, .int .i64 n, .slice At ks.length ct], .int .i64 i] w0 (OpQ w0 N G k ks i) := by
  have X1 := (Ext.refl w0).alloc (.cells #[.int .i64 k, .int .i64 n, .slice At ks.length ct] 27)
  have B1 := heap_alloc_new w0 (.cells #[.int .i64 k, .int .i64 n, .slice At ks.length ct] 27)
  obtain ⟨w1, hw1⟩ : ∃ x, x = w0.alloc (.cells #[.int .i64 k, .int .i64 n, .slice At ks.length ct] 27) := ⟨_, rfl⟩
  rw [← hw1] at X1 B1
  obtain ⟨b, o, rfl, hkid⟩ := InK.kid hK (by omega)
  obtain ⟨k1, k2, k3, k4, k5, h0, h1, h2, hT⟩ := hkid 0 (by omega)
  simp only [Nat.mul_zero, Nat.add_zero] at h0 h1 h2
  have HT := Lib.hid hT
  have HG := Lib.hid hG
  have HN := Lib.hid hN
  have HU := Lib.hid (fun W => under_any k i W)
  unfold OpQ
  have hp0 : (0 : Int) < (ks.length : Int) := by omega
  have hq0 : 0 < ks.length := by omega
  clear hkid hT hG hK hN
  have h0' := X1.cell h0
  have h1' := X1.cell h1
  have h2' := X1.cell h2
  clear h0 h1 h2
  obtain ⟨z0, z1, z2, -, -, -⟩ := own3 B1
  obtain ⟨u, hu⟩ : ∃ u, u = und k i := ⟨_, rfl⟩
  rw [← hu] at HU ⊢
  clear hu
  by_cases h : u = 0
  · have t1 : (u == 0) = true := by simp [h]
    go_enter Try.func36, Try.ntmps36
    go_wp2_with fail
    rw [← hw1]
    clear hw1
    refine (HU.out w1).mono ?_
    rintro e w2 ⟨rfl, rfl⟩
    go_wp2_with fail
    go_ret2
    exact ⟨A, ca, G, 0, rfl, X1, .inr ⟨rfl, hca, hcm, HG.out.later X1, .inl ⟨h, rfl⟩⟩⟩
  · have t1 : (u == 0) = false := by simp [h]
    by_cases hL : 20 ≤ G.length
    · go_enter Try.func36, Try.ntmps36
      go_wp2_with fail
      rw [← hw1]
      clear hw1
      refine (HU.out w1).mono ?_
      rintro e w2 ⟨rfl, rfl⟩
      go_wp2_with fail
      refine (extended_big G (kd ks 0) w1 N A ca _ (HT.out.later X1) hL).mono ?_
      rintro e w2 ⟨rfl, e2⟩
      go_wp2_with fail
      go_ret2
      exact ⟨none, 0, [], 2, rfl, X1.trans e2, .inl ⟨rfl, rfl, h, hL⟩⟩
    · go_enter Try.func36, Try.ntmps36
      go_wp2_with fail
      rw [← hw1]
      clear hw1
      refine (HU.out w1).mono ?_
      rintro e w2 ⟨rfl, rfl⟩
      go_wp2_with fail
      refine (extended_small G (kd ks 0) w1 N (fun b hb => HN.out b (by have := X1.size; omega)) A ca _ (HG.out.later X1) (HT.out.later X1) (by omega)).mono ?_
      rintro e w2 ⟨A', c', rfl, hc1, hc2, hK2, e2⟩
      go_wp2_with fail
      go_ret2
      exact ⟨A', c', G ++ [kd ks 0], 0, by simp, X1.trans e2, .inr ⟨rfl, by simpa using hc1, hc2, hK2, .inr ⟨h, by omega, rfl⟩⟩⟩
/-- What the inference with this fuel is to answer. -/
def InfAll (f : Nat) : Prop := ∀ (w0 : World) (N : Nat → Prop) (A : Option Addr) (ca : Nat) (G : List Tr) (t : Tr) (v : Value) (r : Tr × Int), (∀ b, w0.heap.size ≤ b → N b) → G.length ≤ ca → ca ≤ maxLen → InK w0 N A G → (∀ x ∈ G, valid sigT x = true) → G.length ≤ 20 → InT w0 N t v → valid sigT t = true → infV f G t = some r →
  Calls Try.prog 30 #[.slice A G.length ca, v] w0 (AnQ N w0 r)
set_option maxRecDepth 100000 in
set_option maxHeartbeats 8000000 in
theorem infer1_any (f : Nat) (IH : InfAll f) (wC : World) (p1 p2 : Nat) (A At : Option Addr) (ca ct : Nat) (G : List Tr) (k n : Int) (ks : List Tr) (hB1 : wC.heap[p1]? = some (.cells #[.slice A G.length ca] 25 (0, 0))) (hB2 : wC.heap[p2]? = some (.cells #[.int .i64 k, .int .i64 n, .slice At ks.length ct] 27 (0, 0))) (hlt : ks.length ≤ ct) (hct : ct ≤ maxLen) (hca : G.length ≤ ca) (hcm : ca ≤ maxLen) (hGv : ∀ x ∈ G, valid sigT x = true) (hL : G.length ≤ 20) (hvj : valid sigT (.mk k n ks) = true) : TyF wC p1 p2 A G At ks (tyV (infV f) G k ks) := by
  intro w0 N hx hN hG hK i hi r hr
  have hkv : ∀ x ∈ ks, valid sigT x = true := fun x hm => kid_valid hvj hm
  have HKV := Lib.hid hkv
  have HGV := Lib.hid hGv
  have HIH := Lib.hid IH
  have HN := Lib.hid hN
  have HG := Lib.hid hG
  have HK := Lib.hid hK
  have HR := Lib.hid hr
  obtain ⟨b, o, rfl, hkid⟩ := InK.kid hK (by omega)
  obtain ⟨k1, k2, k3, k4, k5, h0, h1, h2, hT⟩ := hkid i hi
  rw [Nat.mul_comm 3 i] at h0 h1 h2
  have HT := Lib.hid hT
  have bA_0 := hx.blk hB1
  have bB_0 := hx.blk hB2
  have hpi : (i : Int) < (ks.length : Int) := by omega
  clear hkid hT hG hK hN IH hkv hGv hr hvj hB1 hB2 hx
  obtain ⟨w1, hw1⟩ : ∃ x, x = (w0.alloc (.cells #[.int .i64 0, .int .i64 0, .slice none 0 0] 27)) := ⟨_, rfl⟩
  obtain ⟨br_1, s1, e1⟩ := box1 hw1
  obtain ⟨M, hM⟩ : ∃ M, M = (fun b => N b ∧ b ≠ w0.heap.size) := ⟨_, rfl⟩
  have HMN := Lib.hid (show ∀ b, w1.heap.size ≤ b → M b from hM ▸ newN HN.out e1.size (by omega))
  have HGM := Lib.hid (show InK w1 M A G from hM ▸ HG.out.keep e1 (Nat.le_refl _))
  have HKM := Lib.hid (show InK w1 M _ ks from hM ▸ HK.out.keep e1 (Nat.le_refl _))
  have HTM := Lib.hid (show InT w1 M (kd ks i) _ from hM ▸ HT.out.keep e1 (Nat.le_refl _))
  have HM := Lib.hid hM
  clear hM
  have zA : w0.cell? ⟨p1, 0, none⟩ = some (.slice A G.length ca) := cell_of_blk bA_0 0
  have zB0 : w0.cell? ⟨p2, 0, none⟩ = some (.int .i64 k) := cell_of_blk bB_0 0
  have zB1 : w0.cell? ⟨p2, 1, none⟩ = some (.int .i64 n) := cell_of_blk bB_0 1
  have zB2 : w0.cell? ⟨p2, 2, none⟩ = some (.slice (some ⟨b, o, none⟩) ks.length ct) := cell_of_blk bB_0 2
  have lA := lt_of_blk bA_0
  have lB := lt_of_blk bB_0
  go_enter Try.func35, Try.ntmps35
  go_wp2_with fail
  rw [← hw1]
  clear hw1
  clear zA zB0 zB1 zB2 lA lB
  refine (opCtx_any G k n ks w1 M HMN.out A _ ca ct HGM.out HKM.out hlt hct hca hcm i hi).mono ?_
  rintro e w2 ⟨A', c', H, c, rfl, e2, hO⟩
  have s2 := e2.size
  rcases hO with ⟨rfl, rfl, hu, h20⟩ | ⟨rfl, hc1, hc2, hK2, hH⟩
  · obtain rfl : r = (dflt0, 2) := by
      have := HR.out
      unfold tyV at this
      rw [if_neg hu, if_pos h20] at this
      simpa using this.symm
    clear h0 h1 h2
    have br_2 := e2.blk br_1
    obtain ⟨zr0, zr1, zr2, yr0, yr1, yr2⟩ := own3 br_2
    have lr := lt_of_blk br_2
    have bA_1 := e1.blk bA_0
    have bA_2 := e2.blk bA_1
    have zA0 := own1 bA_2
    have lA := lt_of_blk bA_2
    have bB_1 := e1.blk bB_0
    have bB_2 := e2.blk bB_1
    obtain ⟨zB0, zB1, zB2, -⟩ := own3 bB_2
    have lB := lt_of_blk bB_2
    have X0_1 := e1
    have X0_2 := X0_1.trans e2
    go_wp2_with fail
    refine bodyPost_ret (v := .tuple #[.agg #[.int .i64 0, .int .i64 0, .slice none 0 0], .int .i64 2]) (by simp [results, Try.results35, go_sem, zr0, zr1, zr2]) rfl ⟨_, rfl, leafT _ _ 0 0, (X0_2.set3 (by omega) _ _ _)⟩
  · have HF : Hid (infV f H (kd ks i) = some r ∧ (∀ x ∈ H, valid sigT x = true) ∧ H.length ≤ 20) := Lib.hid (by
      have := HR.out
      unfold tyV at this
      rcases hH with ⟨hu, rfl⟩ | ⟨hu, h20, rfl⟩
      · rw [if_pos hu] at this
        exact ⟨this, HGV.out, hL⟩
      · rw [if_neg hu, if_neg (by omega)] at this
        refine ⟨this, fun x hx => ?_, by simp; omega⟩
        rcases List.mem_append.1 hx with hx | hx
        · exact HGV.out x hx
        · rw [List.mem_singleton.1 hx]
          exact HKV.out _ (kd_mem (by omega)))
    have HK2 := Lib.hid hK2
    clear hH hK2 HR
    have X0_1 := e1
    have X0_2 := X0_1.trans e2
    have h0' := X0_2.cell h0
    have h1' := X0_2.cell h1
    have h2' := X0_2.cell h2
    clear h0 h1 h2
    have br_2 := e2.blk br_1
    obtain ⟨zr0, zr1, zr2, yr0, yr1, yr2⟩ := own3 br_2
    have lr := lt_of_blk br_2
    have bA_1 := e1.blk bA_0
    have bA_2 := e2.blk bA_1
    have zA0 := own1 bA_2
    have lA := lt_of_blk bA_2
    have bB_1 := e1.blk bB_0
    have bB_2 := e2.blk bB_1
    obtain ⟨zB0, zB1, zB2, -⟩ := own3 bB_2
    have lB := lt_of_blk bB_2
    go_wp2_with fail
    clear zr0 zr1 zr2 yr0 yr1 yr2 lr zA0 lA zB0 zB1 zB2 lB
    have X1_2 := e2
    refine (HIH.out w2 M A' c' H (kd ks i) _ r (fun b hb => HMN.out b (by have := X1_2.size; omega)) hc1 hc2 HK2.out HF.out.2.1 HF.out.2.2 (HTM.out.later X1_2) (HKV.out _ (kd_mem hi)) HF.out.1).mono ?_
    rintro e w3 ⟨u, rfl, hT, e3⟩
    have s3 := e3.size
    obtain ⟨⟨q1, q2, q3⟩, d⟩ := r
    simp only at hT ⊢
    obtain ⟨a2, b2, A2, l2, c2, rfl⟩ := hT.three
    have T2 := Lib.hid hT
    clear hT HF h0' h1' h2'
    have br_3 := e3.blk br_2
    obtain ⟨zr0, zr1, zr2, yr0, yr1, yr2⟩ := own3 br_3
    have lr := lt_of_blk br_3
    have bA_3 := e3.blk bA_2
    have zA0 := own1 bA_3
    have lA := lt_of_blk bA_3
    have bB_3 := e3.blk bB_2
    obtain ⟨zB0, zB1, zB2, -⟩ := own3 bB_3
    have lB := lt_of_blk bB_3
    have X0_3 := X0_2.trans e3
    go_wp2_with fail
    refine bodyPost_ret (v := .tuple #[.agg #[.int .i64 a2, .int .i64 b2, .slice A2 l2 c2], .int .i64 d]) (by simp [results, Try.results35, go_sem, zr0, zr1, zr2]) rfl ⟨_, rfl, InT.ret (HM.out ▸ T2.out) _ _ _, (X0_3.set3 (by omega) _ _ _)⟩
set_option maxRecDepth 100000 in
set_option maxHeartbeats 8000000 in
theorem infer_any : ∀ f, InfAll f
  | 0 => fun w0 N A ca G t v r hN hca hcm hG hGv hL ht hv hr => by cases hr
  | f + 1 => fun w0 N A ca G t v r hN hca hcm hG hGv hL ht hv hr => by
    obtain ⟨k, n, ks⟩ := t
    have HJV := Lib.hid (show judV G (infV f G) (tyV (infV f) G k ks) k n ks = some r from hr)
    obtain ⟨At, ct, rfl, hlt, hct, hK⟩ := InT.mk_iff.1 ht
    have HIH := Lib.hid (infer_any f)
    have HN := Lib.hid hN
    have HG := Lib.hid hG
    have HK := Lib.hid hK
    have HV := Lib.hid hv
    have HGV := Lib.hid hGv
    clear hN hG hK hv hGv ht hr
    obtain ⟨w1, hw1⟩ : ∃ x, x = (((w0.alloc (.cells #[.slice A G.length ca] 25)).alloc (.cells #[.int .i64 k, .int .i64 n, .slice At ks.length ct] 27)).alloc (.cells #[.int .i64 0, .int .i64 0, .slice none 0 0] 27)) := ⟨_, rfl⟩
    obtain ⟨bA_1, bB_1, br_1, s1, e1⟩ := box3 hw1
    obtain ⟨M, hM⟩ : ∃ M, M = (fun b => N b ∧ b ≠ w0.heap.size + 1 + 1) := ⟨_, rfl⟩
    have HMN := Lib.hid (show ∀ b, w1.heap.size ≤ b → M b from hM ▸ newN HN.out e1.size (by omega))
    have HGM := Lib.hid (show InK w1 M A G from hM ▸ HG.out.keep e1 (by omega))
    have HKM := Lib.hid (show InK w1 M At ks from hM ▸ HK.out.keep e1 (by omega))
    have HM := Lib.hid hM
    clear hM
    have HTF := Lib.hid (infer1_any f HIH.out w1 _ _ A At ca ct G k n ks bA_1 bB_1 hlt hct hca hcm HGV.out hL HV.out)
    have HJ : Hid (JOk w1 w1 M (w0.heap.size) (w0.heap.size + 1) A G At ks (tyV (infV f) G k ks)) := Lib.hid ⟨HTF.out, Ext.refl _, HMN.out, HGM.out, HKM.out⟩
    have HI : Hid (InfF w1 A ca G (infV f G)) := Lib.hid (fun W N' hx hN' hG' t' v' ht' hv' r' hr' => HIH.out W N' A ca G t' v' r' hN' hca hcm hG' HGV.out hL ht' hv' hr')
    have HTV : Hid (∀ i s, i < ks.length → tyV (infV f) G k ks i = some (s, 0) → valid sigT s = true) := Lib.hid (fun i s hi hs => tyV_valid HV.out hi hs)
    go_enter Try.func30, Try.ntmps30
    go_wp2_with fail
    rw [← hw1]
    clear hw1
    have zA0 := own1 bA_1
    have lA := lt_of_blk bA_1
    obtain ⟨zB0, zB1, zB2, -⟩ := own3 bB_1
    have lB := lt_of_blk bB_1
    obtain ⟨zr0, zr1, zr2, yr0, yr1, yr2⟩ := own3 br_1
    have lr := lt_of_blk br_1
    go_wp2_with fail
    clear zA0 lA zB0 zB1 zB2 lB zr0 zr1 zr2 yr0 yr1 yr2 lr
    refine (judged_any k n ca ct hlt hct w1 M HJ.out (infV f G) HI.out HV.out HGV.out hca hcm HTV.out r HJV.out).mono ?_
    rintro e w2 ⟨u, rfl, hT, e2⟩
    have s2 := e2.size
    obtain ⟨⟨q1, q2, q3⟩, d⟩ := r
    simp only at hT ⊢
    obtain ⟨a2, b2, A2, l2, c2, rfl⟩ := hT.three
    have T2 := Lib.hid hT
    clear hT HJV
    have bA_2 := e2.blk bA_1
    have zA0 := own1 bA_2
    have lA := lt_of_blk bA_2
    have bB_2 := e2.blk bB_1
    obtain ⟨zB0, zB1, zB2, -⟩ := own3 bB_2
    have lB := lt_of_blk bB_2
    have br_2 := e2.blk br_1
    obtain ⟨zr0, zr1, zr2, yr0, yr1, yr2⟩ := own3 br_2
    have lr := lt_of_blk br_2
    have X0_1 := e1
    have X0_2 := X0_1.trans e2
    go_wp2_with fail
    refine bodyPost_ret (v := .tuple #[.agg #[.int .i64 a2, .int .i64 b2, .slice A2 l2 c2], .int .i64 d]) (by simp [results, Try.results30, go_sem, zr0, zr1, zr2]) rfl ⟨_, rfl, InT.ret (HM.out ▸ T2.out) _ _ _, (X0_2.set3 (by omega) _ _ _)⟩
end Go.Proofs.Ytdkamgafpphdjaa
