/-
  Lemmas towards the law, 33: MInf.
-/
import Derived.Test.YtdkamgafpphdjaaEBF
namespace Go.Proofs.Ytdkamgafpphdjaa
open Go.RowKit
set_option linter.unusedVariables false
open M (Hd HR Cv Ty Lim WfL TyB Lev)

/-- A context as1 the program keeps it. -/
def ctxE (G : List M.Tm) : List Tr := (G.map enc).reverse
theorem ctxE_len (G : List M.Tm) : (ctxE G).length = G.length := by simp [ctxE]
theorem ctxE_cons (A : M.Tm) (G : List M.Tm) : ctxE (A :: G) = ctxE G ++ [enc A] := by simp [ctxE]
theorem ctxE_get {G : List M.Tm} {n : Nat} (h : n < G.length) : kd (ctxE G) (G.length - 1 - n) = enc G[n] := by
  unfold kd ctxE
  rw [List.getD_eq_getElem?_getD, List.getElem?_reverse (by simp; omega)]
  simp only [List.length_map, List.getElem?_map]
  rw [show G.length - 1 - (G.length - 1 - n) = n by omega, List.getElem?_eq_getElem h]
  rfl
theorem enc_step (p : M.Tm) : stpT (enc p) = enc (M.stepTy p) := by
  have h1 := enc_shf 1 p 0
  have h2 := enc_shf 2 p 0
  rw [shr_zero] at h1 h2
  unfold stpT M.stepTy
  simp only [enc, natT, varT]
  rw [show shfT 1 (enc p) 0 = enc (p.ren fun i => i + 1) from h1, show shfT 2 (enc p) 0 = enc (p.ren fun i => i + 2) from h2]
  rfl
theorem lkV_enc {G : List M.Tm} {n : Nat} (h : n < G.length) : lkV (ctxE G) (n : Int) = mkV (enc (G[n].ren fun i => i + (n + 1))) := by
  unfold lkV
  rw [if_neg (by rw [ctxE_len]; omega), ctxE_len, show (n : Int).toNat = n by omega, ctxE_get h]
  have := enc_shf (n + 1) G[n] 0
  rw [shr_zero] at this
  rw [← this]
  rfl
theorem lk_get {G : List M.Tm} {n : Nat} (h : n < G.length) : M.lk G n = some (G[n].ren fun i => i + (n + 1)) := by
  unfold M.lk
  rw [List.getElem?_eq_getElem h]
  rfl

section
variable (f : Nat) (G : List Tr)
theorem ty_plain {k : Int} {ks : List Tr} {i : Nat} (h : und k i = 0) : tyV (infV f) G k ks i = infV f G (kd ks i) := by unfold tyV; rw [if_pos h]
theorem ty_under {k : Int} {ks : List Tr} (h : und k 1 = 1) : tyV (infV f) G k ks 1 = if 20 ≤ G.length then some (dflt0, 2) else infV f (G ++ [kd ks 0]) (kd ks 1) := by unfold tyV; rw [if_neg (by rw [h]; decide)]
end
theorem pty {f : Nat} {G : List Tr} {k : Int} {ks : List Tr} {i : Nat} {r : Tr × Int} (h : und k i = 0) (e : tyV (infV f) G k ks i = some r) : infV f G (kd ks i) = some r := by rwa [ty_plain f G h] at e
theorem uty {f : Nat} {G : List Tr} {k : Int} {ks : List Tr} {s : Tr} (h : und k 1 = 1) (e : tyV (infV f) G k ks 1 = some (s, 0)) : G.length < 20 ∧ infV f (G ++ [kd ks 0]) (kd ks 1) = some (s, 0) := by
  rw [ty_under f G h] at e
  split at e
  · simp at e
  · exact ⟨by omega, e⟩

theorem valid_kid1 {k n : Int} {ks : List Tr} {x : Tr} (h : valid sigT (.mk k n ks) = true) (hm : x ∈ ks) : valid sigT x = true := kid_valid h hm
/-- The contexts of which the theorem speaks. -/
structure CtxOk (G : List M.Tm) : Prop where
  wf : WfL G
  vd : ∀ A ∈ G, valid sigT (enc A) = true
theorem CtxOk.nil : CtxOk [] := ⟨WfL.nil, fun _ h => by simp at h⟩
theorem CtxOk.cons {G : List M.Tm} {A : M.Tm} (h : CtxOk G) (b : TyB G A) (v : valid sigT (enc A) = true) : CtxOk (A :: G) :=
  ⟨h.wf.cons b, fun B hB => by
    rcases List.mem_cons.1 hB with rfl | hB
    · exact v
    · exact h.vd B hB⟩
def Snd (f : Nat) : Prop := ∀ (G : List M.Tm) (t : M.Tm) (x : Tr), CtxOk G → valid sigT (enc t) = true → infV f (ctxE G) (enc t) = some (x, 0) → ∃ A, x = enc A ∧ Ty G t A ∧ Lim G t ∧ valid sigT (enc A) = true
/-- A type that is inferred of a type, its level. -/
theorem snd_lev {f : Nat} (ih : Snd f) {G : List M.Tm} {A : M.Tm} {s : Tr} (hG : CtxOk G) (hv : valid sigT (enc A) = true) (h : frmV (infV f (ctxE G) (enc A)) 2 = some (s, 0)) : ∃ S i, s = enc (.sort i) ∧ Ty G A S ∧ HR S (.sort i) ∧ Lim G A ∧ TyB G A ∧ i ≤ 3 := by
  obtain ⟨u, h1, h2, h3⟩ := frmV_ok h
  obtain ⟨S, rfl, tA, lA, vS⟩ := ih G A u hG hv h1
  obtain ⟨B, rfl, r, -, -⟩ := hnf_enc h2
  obtain ⟨i, rfl⟩ := kind2 h3
  have hi := M.lev_le (Lim.type tA hG.wf lA) r
  exact ⟨S, i, rfl, tA, r, lA, ⟨lA, i, hi, S, tA, r⟩, hi⟩
theorem snd_pi {f : Nat} (ih : Snd f) {G : List M.Tm} {t : M.Tm} {s : Tr} (hG : CtxOk G) (hv : valid sigT (enc t) = true) (h : frmV (infV f (ctxE G) (enc t)) 3 = some (s, 0)) : ∃ F C R, s = enc (.pi C R) ∧ Ty G t F ∧ HR F (.pi C R) ∧ Lim G t ∧ valid sigT (enc C) = true ∧ valid sigT (enc R) = true := by
  obtain ⟨u, h1, h2, h3⟩ := frmV_ok h
  obtain ⟨F, rfl, tA, lA, vS⟩ := ih G t u hG hv h1
  obtain ⟨B, rfl, r, -, vB⟩ := hnf_enc h2
  obtain ⟨C, R, rfl⟩ := kind3 h3
  exact ⟨F, C, R, rfl, tA, r, lA, valid_kid1 vB (by simp), valid_kid1 vB (by simp)⟩
theorem snd_sg {f : Nat} (ih : Snd f) {G : List M.Tm} {t : M.Tm} {s : Tr} (hG : CtxOk G) (hv : valid sigT (enc t) = true) (h : frmV (infV f (ctxE G) (enc t)) 13 = some (s, 0)) : ∃ F C R, s = enc (.sg C R) ∧ Ty G t F ∧ HR F (.sg C R) ∧ Lim G t ∧ valid sigT (enc C) = true ∧ valid sigT (enc R) = true := by
  obtain ⟨u, h1, h2, h3⟩ := frmV_ok h
  obtain ⟨F, rfl, tA, lA, vS⟩ := ih G t u hG hv h1
  obtain ⟨B, rfl, r, -, vB⟩ := hnf_enc h2
  obtain ⟨C, R, rfl⟩ := kind13 h3
  exact ⟨F, C, R, rfl, tA, r, lA, valid_kid1 vB (by simp), valid_kid1 vB (by simp)⟩
theorem snd_id {f : Nat} (ih : Snd f) {G : List M.Tm} {t : M.Tm} {s : Tr} (hG : CtxOk G) (hv : valid sigT (enc t) = true) (h : frmV (infV f (ctxE G) (enc t)) 10 = some (s, 0)) : ∃ F T a b, s = enc (.id T a b) ∧ Ty G t F ∧ HR F (.id T a b) ∧ Lim G t ∧ valid sigT (enc T) = true ∧ valid sigT (enc a) = true ∧ valid sigT (enc b) = true := by
  obtain ⟨u, h1, h2, h3⟩ := frmV_ok h
  obtain ⟨F, rfl, tA, lA, vS⟩ := ih G t u hG hv h1
  obtain ⟨B, rfl, r, -, vB⟩ := hnf_enc h2
  obtain ⟨T, a, b, rfl⟩ := kind10 h3
  exact ⟨F, T, a, b, rfl, tA, r, lA, valid_kid1 vB (by simp), valid_kid1 vB (by simp), valid_kid1 vB (by simp)⟩
theorem snd_chk {f : Nat} (ih : Snd f) {G : List M.Tm} {t W : M.Tm} {y : An} {u : Tr} (hG : CtxOk G) (hv : valid sigT (enc t) = true) (h : chkV (infV f (ctxE G) (enc t)) (enc W) y = some (u, 0)) : ∃ X, Ty G t X ∧ Cv X W ∧ Lim G t ∧ y = some (u, 0) := by
  obtain ⟨s, h1, h2, h3⟩ := chkV_ok h
  obtain ⟨X, rfl, tX, lX, -⟩ := ih G t s hG hv h1
  exact ⟨X, tX, cvt_yes h2, lX, h3⟩
theorem snd_fam {f : Nat} (ih : Snd f) {G : List M.Tm} {p T : M.Tm} {y : An} {u : Tr} (hG : CtxOk G) (hv : valid sigT (enc p) = true) (h : famV (infV f (ctxE G) (enc p)) (enc T) y = some (u, 0)) : ∃ F C D k, Ty G p F ∧ HR F (.pi C D) ∧ Cv C T ∧ HR D (.sort k) ∧ Lim G p ∧ y = some (u, 0) := by
  obtain ⟨F0, s, c, h1, h2, h3, h4, h5, h6, h7⟩ := famV_ok h
  obtain ⟨F, C, D, rfl, tF, rF, lF, -, -⟩ := snd_pi ih hG hv (s := s) (by
    unfold frmV thn
    rw [h1]
    simp only [if_true]
    unfold shpV
    rw [if_neg (by rw [h2]; simp), if_neg (by rw [h2]; simpa using h3), h2])
  obtain ⟨B, rfl, r, -, -⟩ := hnf_enc (show hnfV (enc D) 200 = (c, 0) from h5)
  obtain ⟨k, rfl⟩ := kind2 h6
  exact ⟨F, C, D, k, tF, rF, cvt_yes h4, r, lF, h7⟩
theorem snd : ∀ f, Snd f
  | 0 => fun G t x hG hv h => by cases h
  | f + 1 => fun G t x hG hv h => by
    have ih := snd f
    cases t with
    | var n =>
      have h1 : some (lkV (ctxE G) (n : Int)) = some (x, 0) := h
      by_cases hn : n < G.length
      · rw [lkV_enc hn] at h1
        obtain ⟨v, rfl⟩ := mkV_some h1
        exact ⟨_, rfl, .var (lk_get hn), trivial, v⟩
      · unfold lkV at h1
        rw [if_pos (by rw [ctxE_len]; omega)] at h1
        simp at h1
    | sort n =>
      have h1 : some (if (n : Int) = 3 then (dflt0, (1 : Int)) else (srtT ((n : Int) + 1), 0)) = some (x, 0) := by
        rw [← h]
        simp [enc, infV, judV]
      split at h1
      · simp at h1
      · rename_i hn
        simp only [Option.some.injEq, Prod.mk.injEq, and_true] at h1
        have hle : (n : Int) ≤ 3 := (shape_kids' (valid_parts hv).1).2.2.1
        refine ⟨.sort (n + 1), by rw [← h1]; rfl, .sort, by show n < 3; omega, ?_⟩
        have : ∀ m : Fin 4, valid sigT (enc (.sort m.val)) = true := by decide +kernel
        exact this ⟨n + 1, by omega⟩
    | nat =>
      have h1 : some (srtT 0, (0 : Int)) = some (x, 0) := h
      simp only [Option.some.injEq, Prod.mk.injEq, and_true] at h1
      exact ⟨.sort 0, by rw [← h1]; rfl, .nat, trivial, by decide +kernel⟩
    | zero =>
      have h1 : some (natT, (0 : Int)) = some (x, 0) := h
      simp only [Option.some.injEq, Prod.mk.injEq, and_true] at h1
      exact ⟨.nat, by rw [← h1]; rfl, .zero, trivial, by decide +kernel⟩
    | succ a =>
      have h1 : chkV (infV f (ctxE G) (enc a)) (enc .nat) (some (natT, 0)) = some (x, 0) := h
      obtain ⟨X, tX, cX, lX, h2⟩ := snd_chk ih hG (valid_kid1 hv (by simp)) h1
      simp only [Option.some.injEq, Prod.mk.injEq, and_true] at h2
      exact ⟨.nat, by rw [← h2]; rfl, .succ tX cX, lX, by decide +kernel⟩
    | pi A B =>
      have h1 : thn (frmV (infV f (ctxE G) (enc A)) 2) (fun a => thn (frmV (tyV (infV f) (ctxE G) 3 [enc A, enc B] 1) 2) fun b => some (srtT (max a.num b.num), 0)) = some (x, 0) := h
      obtain ⟨s, h2, h3⟩ := thn_ok h1
      obtain ⟨S, i, rfl, tA, rA, lA, bA, hi⟩ := snd_lev ih hG (valid_kid1 hv (by simp)) h2
      obtain ⟨s2, h4, h5⟩ := thn_ok h3
      obtain ⟨u, h6, h7, h8⟩ := frmV_ok h4
      obtain ⟨h9, h10⟩ := uty rfl h6
      have hG' := hG.cons bA (valid_kid1 hv (by simp))
      rw [show ctxE G ++ [kd [enc A, enc B] 0] = ctxE (A :: G) from (ctxE_cons A G).symm] at h10
      obtain ⟨S', j, rfl, tB, rB, lB, bB, hj⟩ := snd_lev ih hG' (valid_kid1 hv (by simp)) (A := B) (s := s2) (by
        unfold frmV thn
        rw [show infV f (ctxE (A :: G)) (enc B) = some (u, 0) from h10]
        simp only [if_true]
        unfold shpV
        rw [if_neg (by rw [h7]; simp), if_neg (by rw [h7]; simpa using h8), h7])
      simp only [Option.some.injEq, Prod.mk.injEq, and_true] at h5
      refine ⟨.sort (max i j), by rw [← h5]; simp only [enc, Tr.num, srtT]; congr 1; omega, .pi tA rA tB rB, ⟨lA, lB⟩, ?_⟩
      have : ∀ m : Fin 4, valid sigT (enc (.sort m.val)) = true := by decide +kernel
      exact this ⟨max i j, by omega⟩
    | sg A B =>
      have h1 : thn (frmV (infV f (ctxE G) (enc A)) 2) (fun a => thn (frmV (tyV (infV f) (ctxE G) 13 [enc A, enc B] 1) 2) fun b => some (srtT (max a.num b.num), 0)) = some (x, 0) := h
      obtain ⟨s, h2, h3⟩ := thn_ok h1
      obtain ⟨S, i, rfl, tA, rA, lA, bA, hi⟩ := snd_lev ih hG (valid_kid1 hv (by simp)) h2
      obtain ⟨s2, h4, h5⟩ := thn_ok h3
      obtain ⟨u, h6, h7, h8⟩ := frmV_ok h4
      obtain ⟨h9, h10⟩ := uty rfl h6
      have hG' := hG.cons bA (valid_kid1 hv (by simp))
      rw [show ctxE G ++ [kd [enc A, enc B] 0] = ctxE (A :: G) from (ctxE_cons A G).symm] at h10
      obtain ⟨S', j, rfl, tB, rB, lB, bB, hj⟩ := snd_lev ih hG' (valid_kid1 hv (by simp)) (A := B) (s := s2) (by
        unfold frmV thn
        rw [show infV f (ctxE (A :: G)) (enc B) = some (u, 0) from h10]
        simp only [if_true]
        unfold shpV
        rw [if_neg (by rw [h7]; simp), if_neg (by rw [h7]; simpa using h8), h7])
      simp only [Option.some.injEq, Prod.mk.injEq, and_true] at h5
      refine ⟨.sort (max i j), by rw [← h5]; simp only [enc, Tr.num, srtT]; congr 1; omega, .sg tA rA tB rB, ⟨lA, lB⟩, ?_⟩
      have : ∀ m : Fin 4, valid sigT (enc (.sort m.val)) = true := by decide +kernel
      exact this ⟨max i j, by omega⟩
    | lam A t =>
      have h1 : thn (frmV (infV f (ctxE G) (enc A)) 2) (fun _ => thn (tyV (infV f) (ctxE G) 4 [enc A, enc t] 1) fun b => thn (some (mkV (.mk 3 0 [enc A, b]))) fun out => thn (infV f (ctxE G) out) fun _ => some (out, 0)) = some (x, 0) := h
      obtain ⟨s, h2, h3⟩ := thn_ok h1
      obtain ⟨S, i, rfl, tA, rA, lA, bA, hi⟩ := snd_lev ih hG (valid_kid1 hv (by simp)) h2
      obtain ⟨b, h4, h5⟩ := thn_ok h3
      obtain ⟨h6, h7⟩ := uty rfl h4
      have hG' := hG.cons bA (valid_kid1 hv (by simp))
      rw [show ctxE G ++ [kd [enc A, enc t] 0] = ctxE (A :: G) from (ctxE_cons A G).symm] at h7
      obtain ⟨B, rfl, tB, lB, vB⟩ := ih (A :: G) t b hG' (valid_kid1 hv (by simp)) h7
      obtain ⟨h8, h9⟩ := thn_one h5
      obtain ⟨v, e⟩ := mkV_ok h8
      rw [e] at h9
      obtain ⟨s3, h10, h11⟩ := thn_ok h9
      obtain ⟨P, rfl, tP, lP, -⟩ := ih G (.pi A B) s3 hG v h10
      simp only [Option.some.injEq, Prod.mk.injEq, and_true] at h11
      refine ⟨.pi A B, h11.symm, .lam tA rA tB, ⟨lA, lB, fun B' k' hB hk => ?_⟩, v⟩
      obtain rfl := tB.det hB
      cases tP with
      | pi k1 k2 k3 k4 =>
        have := M.lev_le (Lim.type (.pi k1 k2 k3 k4) hG.wf lP) (.refl _)
        have e2 := hk.det ⟨_, k3, k4⟩
        omega
    | app g a =>
      have h1 : thn (frmV (infV f (ctxE G) (enc g)) 3) (fun s => chkV (infV f (ctxE G) (enc a)) (kd s.kids 0) (some (mkV (sbsT (enc a) (kd s.kids 1) 0 0)))) = some (x, 0) := h
      obtain ⟨s, h2, h3⟩ := thn_ok h1
      obtain ⟨F, C, R, rfl, tF, rF, lF, vC, vR⟩ := snd_pi ih hG (valid_kid1 hv (by simp)) h2
      obtain ⟨X, tX, cX, lX, h4⟩ := snd_chk ih hG (valid_kid1 hv (by simp)) (W := C) h3
      obtain ⟨v, rfl⟩ := mkV_some h4
      have e : sbsT (enc a) (kd (enc (.pi C R)).kids 1) 0 0 = enc (R.inst a) := enc_inst R a
      rw [e] at v ⊢
      exact ⟨_, rfl, .app tF rF tX cX, ⟨lF, lX⟩, v⟩
    | elim p z s a =>
      have h1 : famV (infV f (ctxE G) (enc p)) (enc .nat) (thn (some (mkV (.mk 5 0 [enc p, .mk 7 0 []]))) fun w => chkV (infV f (ctxE G) (enc z)) w (thn (some (mkV (stpT (enc p)))) fun w2 => chkV (infV f (ctxE G) (enc s)) w2 (chkV (infV f (ctxE G) (enc a)) (enc .nat) (some (mkV (.mk 5 0 [enc p, enc a])))))) = some (x, 0) := h
      obtain ⟨F, C, D, k, tF, rF, cC, rD, lF, h2⟩ := snd_fam ih hG (valid_kid1 hv (by simp)) h1
      obtain ⟨h3, h4⟩ := thn_one h2
      obtain ⟨v1, e1⟩ := mkV_ok h3
      rw [e1] at h4
      obtain ⟨Z, tZ, cZ, lZ, h5⟩ := snd_chk ih hG (valid_kid1 hv (by simp)) (W := .app p .zero) h4
      obtain ⟨h6, h7⟩ := thn_one h5
      obtain ⟨v2, e2⟩ := mkV_ok h6
      rw [e2, enc_step] at h7
      obtain ⟨S, tS, cS, lS, h8⟩ := snd_chk ih hG (valid_kid1 hv (by simp)) h7
      obtain ⟨X, tX, cX, lX, h9⟩ := snd_chk ih hG (valid_kid1 hv (by simp)) h8
      obtain ⟨v3, rfl⟩ := mkV_some h9
      exact ⟨.app p a, rfl, .elim tF rF cC rD tZ cZ tS cS tX cX, ⟨lF, lZ, lS, lX⟩, v3⟩
    | id T a b =>
      have h1 : thn (frmV (infV f (ctxE G) (enc T)) 2) (fun s => chkV (infV f (ctxE G) (enc a)) (enc T) (chkV (infV f (ctxE G) (enc b)) (enc T) (some (srtT s.num, 0)))) = some (x, 0) := h
      obtain ⟨s, h2, h3⟩ := thn_ok h1
      obtain ⟨S, i, rfl, tA, rA, lA, bA, hi⟩ := snd_lev ih hG (valid_kid1 hv (by simp)) h2
      obtain ⟨X, tX, cX, lX, h4⟩ := snd_chk ih hG (valid_kid1 hv (by simp)) h3
      obtain ⟨Y, tY, cY, lY, h5⟩ := snd_chk ih hG (valid_kid1 hv (by simp)) h4
      simp only [Option.some.injEq, Prod.mk.injEq, and_true] at h5
      refine ⟨.sort i, by rw [← h5]; rfl, .id tA rA tX cX tY cY, ⟨lA, lX, lY⟩, ?_⟩
      have : ∀ m : Fin 4, valid sigT (enc (.sort m.val)) = true := by decide +kernel
      exact this ⟨i, by omega⟩
    | refl a =>
      have h1 : thn (infV f (ctxE G) (enc a)) (fun s => thn (frmV (infV f (ctxE G) s) 2) fun _ => some (mkV (.mk 10 0 [s, enc a, enc a]))) = some (x, 0) := h
      obtain ⟨s, h2, h3⟩ := thn_ok h1
      obtain ⟨A, rfl, tA, lA, vA⟩ := ih G a s hG (valid_kid1 hv (by simp)) h2
      obtain ⟨s2, h4, h5⟩ := thn_ok h3
      obtain ⟨S, i, rfl, tS, rS, lS, bS, hi⟩ := snd_lev ih hG vA h4
      obtain ⟨v, rfl⟩ := mkV_some h5
      refine ⟨.id A a a, rfl, .refl tA, ⟨lA, fun B' k' hB hk => ?_⟩, v⟩
      obtain rfl := tA.det hB
      have := hk.det ⟨S, tS, rS⟩
      omega
    | move p e a =>
      have h1 : thn (frmV (infV f (ctxE G) (enc e)) 10) (fun s => famV (infV f (ctxE G) (enc p)) (kd s.kids 0) (thn (some (mkV (.mk 5 0 [enc p, kd s.kids 1]))) fun w => chkV (infV f (ctxE G) (enc a)) w (some (mkV (.mk 5 0 [enc p, kd s.kids 2]))))) = some (x, 0) := h
      obtain ⟨s, h2, h3⟩ := thn_ok h1
      obtain ⟨E, T, b, c, rfl, tE, rE, lE, vT, vb, vc⟩ := snd_id ih hG (valid_kid1 hv (by simp)) h2
      obtain ⟨F, C, D, k, tF, rF, cC, rD, lF, h4⟩ := snd_fam ih hG (valid_kid1 hv (by simp)) (T := T) h3
      obtain ⟨h5, h6⟩ := thn_one h4
      obtain ⟨v1, e1⟩ := mkV_ok h5
      rw [e1] at h6
      obtain ⟨X, tX, cX, lX, h7⟩ := snd_chk ih hG (valid_kid1 hv (by simp)) (W := .app p b) h6
      obtain ⟨v2, rfl⟩ := mkV_some h7
      exact ⟨.app p c, rfl, .move tE rE tF rF cC rD tX cX, ⟨lF, lE, lX⟩, v2⟩
    | pair T a b =>
      have h1 : thn (frmV (infV f (ctxE G) (enc T)) 2) (fun _ => thn (some (shpV (enc T) 13)) fun s => chkV (infV f (ctxE G) (enc a)) (kd s.kids 0) (thn (some (mkV (sbsT (enc a) (kd s.kids 1) 0 0))) fun w => chkV (infV f (ctxE G) (enc b)) w (some (enc T, 0)))) = some (x, 0) := h
      obtain ⟨s, h2, h3⟩ := thn_ok h1
      obtain ⟨S, i, rfl, tA, rA, lA, bA, hi⟩ := snd_lev ih hG (valid_kid1 hv (by simp)) h2
      obtain ⟨h4, h5⟩ := thn_one h3
      obtain ⟨h6, h7⟩ := shpV_ok h4
      generalize (shpV (enc T) 13).1 = q at h5 h6 h7
      obtain ⟨B, rfl, r, -, vB⟩ := hnf_enc h6
      obtain ⟨C, R, rfl⟩ := kind13 h7
      obtain ⟨X, tX, cX, lX, h8⟩ := snd_chk ih hG (valid_kid1 hv (by simp)) (W := C) h5
      obtain ⟨h9, h10⟩ := thn_one h8
      obtain ⟨v1, e1⟩ := mkV_ok h9
      have e : sbsT (enc a) (kd (enc (.sg C R)).kids 1) 0 0 = enc (R.inst a) := enc_inst R a
      rw [e1, e] at h10
      obtain ⟨Y, tY, cY, lY, h11⟩ := snd_chk ih hG (valid_kid1 hv (by simp)) h10
      simp only [Option.some.injEq, Prod.mk.injEq, and_true] at h11
      exact ⟨T, h11.symm, .pair tA rA r tX cX tY cY, ⟨lA, lX, lY⟩, valid_kid1 hv (by simp)⟩
    | fst a =>
      have h1 : thn (frmV (infV f (ctxE G) (enc a)) 13) (fun s => some (kd s.kids 0, 0)) = some (x, 0) := h
      obtain ⟨s, h2, h3⟩ := thn_ok h1
      obtain ⟨F, C, R, rfl, tF, rF, lF, vC, vR⟩ := snd_sg ih hG (valid_kid1 hv (by simp)) h2
      simp only [Option.some.injEq, Prod.mk.injEq, and_true] at h3
      exact ⟨C, h3.symm, .fst tF rF, lF, vC⟩
    | snd a =>
      have h1 : thn (frmV (infV f (ctxE G) (enc a)) 13) (fun s => some (mkV (sbsT (.mk 15 0 [enc a]) (kd s.kids 1) 0 0))) = some (x, 0) := h
      obtain ⟨s, h2, h3⟩ := thn_ok h1
      obtain ⟨F, C, R, rfl, tF, rF, lF, vC, vR⟩ := snd_sg ih hG (valid_kid1 hv (by simp)) h2
      obtain ⟨v, rfl⟩ := mkV_some h3
      have e : sbsT (.mk 15 0 [enc a]) (kd (enc (.sg C R)).kids 1) 0 0 = enc (R.inst (.fst a)) := enc_inst R (.fst a)
      rw [e] at v ⊢
      exact ⟨_, rfl, .snd tF rF, lF, v⟩
end Go.Proofs.Ytdkamgafpphdjaa

