/-
  Lemmas towards the law, 6: MCtx, MSr.
-/
import Derived.Test.YtdkamgafpphdjaaEAE
namespace Go.Proofs.Ytdkamgafpphdjaa.M
set_option linter.unusedVariables false
open Tm

/-- Each type of a context has a sort in the context of those before it. -/
def Wf (G : List Tm) : Prop := ∀ n A, G[n]? = some A → ∃ S i, Ty (G.drop (n + 1)) A S ∧ HR S (.sort i)
theorem RenOk.drop (G : List Tm) (k : Nat) : RenOk (G.drop k) G (fun i => i + k) := by
  intro n A h
  unfold lk at h ⊢
  rw [List.getElem?_drop] at h
  obtain ⟨B, h1, rfl⟩ := Option.map_eq_some_iff.1 h
  show Option.map _ G[n + k]? = _
  rw [Nat.add_comm n k, h1, Option.map_some, ren_ren]
  congr 2
  funext i
  show i + (n + k + 1) = i + (n + 1) + k
  omega
variable {G : List Tm} {W : Tm → Prop}
theorem vars (hW : WOk G W) (hG : Wf G) : ∀ (m x : Nat), G.length ≤ x + m → ∀ A, lk G x = some A → Ok G W A (.var x) := by
  intro m
  induction m with
  | zero => intro x hx A hA; have := lk_lt hA; omega
  | succ m ih =>
    intro x hx A hA
    have hlt := lk_lt hA
    have hA2 := hA
    unfold lk at hA2
    obtain ⟨A0, h1, rfl⟩ := Option.map_eq_some_iff.1 hA2
    obtain ⟨S, i, h2, h3⟩ := hG x A0 h1
    have h4 := h2.ren (RenOk.drop G (x + 1))
    have hf := h2.fv
    rw [List.length_drop] at hf
    have hk := good hW A0 (G.length - (x + 1)) G (fun y => .var (y + (x + 1))) Tm.var (S.ren fun i => i + (x + 1)) hf (fun y hy => by
      have hy2 : y + (x + 1) < G.length := by omega
      obtain ⟨X, hX⟩ : ∃ X, lk G (y + (x + 1)) = some X := by
        unfold lk
        rw [List.getElem?_eq_getElem hy2]
        exact ⟨_, rfl⟩
      refine ⟨X, .var hX, ?_⟩
      rw [sub_var, sub_var]
      exact ih _ (by omega) X hX) (SubOk.var G) (by rw [← ren_eq]; exact h4)
    rw [sub_var, sub_var, ← ren_eq] at hk
    obtain ⟨Q, P, g, q⟩ := hk.ty (h3.ren _)
    exact Ok.of g q ⟨hW.var x, ⟨_, .var hA, Cv.rfl' _, q⟩, g.stuck (Ne.var x)⟩
theorem typed (hW : WOk G W) (hG : Wf G) {t T : Tm} (h : Ty G t T) : Ok G W T t := by
  have hk := good hW t G.length G Tm.var Tm.var T h.fv (fun x hx => by
    obtain ⟨X, hX⟩ : ∃ X, lk G x = some X := by
      unfold lk
      rw [List.getElem?_eq_getElem hx]
      exact ⟨_, rfl⟩
    refine ⟨X, .var hX, ?_⟩
    rw [sub_var, sub_var]
    exact vars hW hG G.length x (by omega) X hX) (SubOk.var G) (by rw [sub_var]; exact h)
  rw [sub_var, sub_var, sub_var] at hk
  exact hk
/-- W holds of the types. -/
theorem typeW (hW : WOk G W) (hG : Wf G) {t T : Tm} (h : Ty G t T) : W T := (typed hW hG h).wt
/-- W holds of all terms. -/
theorem allW (hW : WOk G W) (hG : Wf G) : ∀ t : Tm, W t := by
  intro t
  induction t with
  | var n => exact hW.var n
  | sort n => exact hW.sort n
  | nat => exact hW.nat
  | zero => exact hW.zero
  | succ a i => exact hW.succ i
  | pi A B i j => exact hW.pi B i
  | sg A B i j => exact hW.sg B i
  | lam A t i j => exact hW.lam t i
  | app f a i j => exact hW.app i j
  | elim p z s a i j k l => exact hW.elim i j k l
  | id T a b i j k => exact hW.id i j k
  | refl a i => exact hW.refl i fun A h => typeW hW hG h
  | move p e a i j k => exact hW.move i j k
  | pair T a b i j k => exact hW.pair i j k
  | fst a i => exact hW.fst i
  | snd a i => exact hW.snd i
end Go.Proofs.Ytdkamgafpphdjaa.M

namespace Go.Proofs.Ytdkamgafpphdjaa.M
set_option linter.unusedVariables false
open Tm
theorem SubOk.ctx {A A' : Tm} (G : List Tm) (h : Cv A' A) : SubOk (A :: G) (A' :: G) Tm.var := by
  intro n B hB
  cases n with
  | zero =>
    rw [lk_zero] at hB
    obtain rfl := Option.some.inj hB
    exact ⟨_, .var (lk_zero _ _), by rw [sub_var]; exact h.ren _⟩
  | succ n =>
    rw [lk_succ] at hB
    obtain ⟨X, h1, rfl⟩ := Option.map_eq_some_iff.1 hB
    exact ⟨_, .var (by rw [lk_succ, h1]; rfl), by rw [sub_var]; exact Cv.rfl' _⟩
theorem Ty.ctx {G : List Tm} {A A' t B : Tm} (h : Ty (A :: G) t B) (k : Cv A' A) : ∃ B', Ty (A' :: G) t B' ∧ Cv B' B := by
  have := h.sub (SubOk.ctx G k)
  rwa [sub_var, sub_var] at this
theorem Ty.ins {G : List Tm} {A t B u X : Tm} (h : Ty (A :: G) t B) (hu : Ty G u X) (k : Cv X A) : ∃ B', Ty G (t.inst u) B' ∧ Cv B' (B.inst u) :=
  h.sub ((SubOk.var G).cns hu (by rwa [sub_var]))
theorem step_one (p a : Tm) : (Tm.pi (.app (wk p) (.var 0)) (.app (p.ren (fun i => i + 2)) (.succ (.var 1)))).inst a = .pi (.app p a) (.app (wk p) (.succ (wk a))) := by
  unfold inst
  simp only [Tm.sub, cns, ups]
  rw [wk_cns, sub_var, sub_ren]
  congr 2
  show p.sub _ = p.ren Nat.succ
  rw [ren_eq]
  rfl
theorem step_two (p a u : Tm) : (Tm.app (wk p) (.succ (wk a))).inst u = .app p (.succ a) := by
  show Tm.app ((wk p).inst u) (.succ ((wk a).inst u)) = _
  rw [wk_inst, wk_inst]
/-- A parallel step keeps the type, up to convertibility. -/
theorem Ty.par {t t' : Tm} (h : Par t t') : ∀ {G : List Tm} {A : Tm}, Ty G t A → ∃ A', Ty G t' A' ∧ Cv A' A := by
  induction h with
  | var n => intro G A k; exact ⟨_, k, Cv.rfl' _⟩
  | sort n => intro G A k; exact ⟨_, k, Cv.rfl' _⟩
  | nat => intro G A k; exact ⟨_, k, Cv.rfl' _⟩
  | zero => intro G A k; exact ⟨_, k, Cv.rfl' _⟩
  | pi h1 h2 i1 i2 =>
    intro G A k
    cases k with
    | pi k1 k2 k3 k4 =>
      obtain ⟨S1, a1, a2⟩ := i1 k1
      obtain ⟨S2, b1, b2⟩ := i2 k3
      obtain ⟨S3, c1, c2⟩ := b1.ctx h1.cv.symm
      exact ⟨_, .pi a1 (a2.trans k2.cv).to_sort c1 ((c2.trans b2).trans k4.cv).to_sort, Cv.rfl' _⟩
  | sg h1 h2 i1 i2 =>
    intro G A k
    cases k with
    | sg k1 k2 k3 k4 =>
      obtain ⟨S1, a1, a2⟩ := i1 k1
      obtain ⟨S2, b1, b2⟩ := i2 k3
      obtain ⟨S3, c1, c2⟩ := b1.ctx h1.cv.symm
      exact ⟨_, .sg a1 (a2.trans k2.cv).to_sort c1 ((c2.trans b2).trans k4.cv).to_sort, Cv.rfl' _⟩
  | lam h1 h2 i1 i2 =>
    intro G A k
    cases k with
    | lam k1 k2 k3 =>
      obtain ⟨S1, a1, a2⟩ := i1 k1
      obtain ⟨S2, b1, b2⟩ := i2 k3
      obtain ⟨S3, c1, c2⟩ := b1.ctx h1.cv.symm
      exact ⟨_, .lam a1 (a2.trans k2.cv).to_sort c1, .pi h1.cv.symm (c2.trans b2)⟩
  | app h1 h2 i1 i2 =>
    intro G A k
    cases k with
    | app k1 k2 k3 k4 =>
      obtain ⟨F', a1, a2⟩ := i1 k1
      obtain ⟨X', b1, b2⟩ := i2 k3
      obtain ⟨C', R', m1, m2, m3⟩ := (a2.trans k2.cv).to_pi
      exact ⟨_, .app a1 m1 b1 ((b2.trans k4).trans m2.symm), m3.inst h2.cv.symm⟩
  | succ h1 i1 =>
    intro G A k
    cases k with
    | succ k1 k2 =>
      obtain ⟨S1, a1, a2⟩ := i1 k1
      exact ⟨_, .succ a1 (a2.trans k2), Cv.rfl' _⟩
  | elim h1 h2 h3 h4 i1 i2 i3 i4 =>
    intro G A k
    cases k with
    | elim k1 k2 k3 k4 k5 k6 k7 k8 k9 k10 =>
      obtain ⟨F', a1, a2⟩ := i1 k1
      obtain ⟨Z', b1, b2⟩ := i2 k5
      obtain ⟨S', c1, c2⟩ := i3 k7
      obtain ⟨A', d1, d2⟩ := i4 k9
      obtain ⟨C', D', m1, m2, m3⟩ := (a2.trans k2.cv).to_pi
      exact ⟨_, .elim a1 m1 (m2.trans k3) (m3.trans k4.cv).to_sort b1 ((b2.trans k6).trans (.app h1.cv (Cv.rfl' _))) c1 ((c2.trans k8).trans (Cv.stepTy h1.cv)) d1 (d2.trans k10), .app h1.cv.symm h4.cv.symm⟩
  | id h1 h2 h3 i1 i2 i3 =>
    intro G A k
    cases k with
    | id k1 k2 k3 k4 k5 k6 =>
      obtain ⟨S', a1, a2⟩ := i1 k1
      obtain ⟨X', b1, b2⟩ := i2 k3
      obtain ⟨Y', c1, c2⟩ := i3 k5
      exact ⟨_, .id a1 (a2.trans k2.cv).to_sort b1 ((b2.trans k4).trans h1.cv) c1 ((c2.trans k6).trans h1.cv), Cv.rfl' _⟩
  | refl h1 i1 =>
    intro G A k
    cases k with
    | refl k1 =>
      obtain ⟨X', a1, a2⟩ := i1 k1
      exact ⟨_, .refl a1, .id a2 h1.cv.symm h1.cv.symm⟩
  | move h1 h2 h3 i1 i2 i3 =>
    intro G A k
    cases k with
    | move k1 k2 k3 k4 k5 k6 k7 k8 =>
      obtain ⟨E', a1, a2⟩ := i2 k1
      obtain ⟨F', b1, b2⟩ := i1 k3
      obtain ⟨X', c1, c2⟩ := i3 k7
      obtain ⟨U, B', C', m1, m2, m3, m4⟩ := (a2.trans k2.cv).to_id
      obtain ⟨P', D', n1, n2, n3⟩ := (b2.trans k4.cv).to_pi
      exact ⟨_, .move a1 m1 b1 n1 ((n2.trans k5).trans m2.symm) (n3.trans k6.cv).to_sort c1 ((c2.trans k8).trans (.app h1.cv m3.symm)), .app h1.cv.symm m4⟩
  | pair h1 h2 h3 i1 i2 i3 =>
    intro G A k
    cases k with
    | pair k1 k2 k3 k4 k5 k6 k7 =>
      obtain ⟨S', a1, a2⟩ := i1 k1
      obtain ⟨X', b1, b2⟩ := i2 k4
      obtain ⟨Y', c1, c2⟩ := i3 k6
      obtain ⟨C', D', m1, m2, m3⟩ := (h1.cv.symm.trans k3.cv).to_sg
      exact ⟨_, .pair a1 (a2.trans k2.cv).to_sort m1 b1 ((b2.trans k5).trans m2.symm) c1 ((c2.trans k7).trans (m3.symm.inst h2.cv)), h1.cv.symm⟩
  | fst h1 i1 =>
    intro G A k
    cases k with
    | fst k1 k2 =>
      obtain ⟨X', a1, a2⟩ := i1 k1
      obtain ⟨C', D', m1, m2, m3⟩ := (a2.trans k2.cv).to_sg
      exact ⟨_, .fst a1 m1, m2⟩
  | snd h1 i1 =>
    intro G A k
    cases k with
    | snd k1 k2 =>
      obtain ⟨X', a1, a2⟩ := i1 k1
      obtain ⟨C', D', m1, m2, m3⟩ := (a2.trans k2.cv).to_sg
      exact ⟨_, .snd a1 m1, m3.inst (.fst h1.cv.symm)⟩
  | beta h1 h2 i1 i2 =>
    intro G A k
    cases k with
    | app k1 k2 k3 k4 =>
      cases k1 with
      | lam l1 l2 l3 =>
        obtain ⟨rfl, rfl⟩ := (HR.refl _).pi_det k2
        obtain ⟨B', a1, a2⟩ := i1 l3
        obtain ⟨X', b1, b2⟩ := i2 k3
        obtain ⟨Y, c1, c2⟩ := a1.ins b1 (b2.trans k4)
        exact ⟨Y, c1, c2.trans (a2.inst h2.cv.symm)⟩
  | ez h1 i1 =>
    intro G A k
    cases k with
    | elim k1 k2 k3 k4 k5 k6 k7 k8 k9 k10 =>
      obtain ⟨Z', a1, a2⟩ := i1 k5
      exact ⟨_, a1, a2.trans k6⟩
  | @es p p' z z' s s' a a' h1 h2 h3 h4 i1 i2 i3 i4 =>
    intro G A k
    cases k with
    | elim k1 k2 k3 k4 k5 k6 k7 k8 k9 k10 =>
      cases k9 with
      | succ l1 l2 =>
        obtain ⟨F', a1, a2⟩ := i1 k1
        obtain ⟨Z', b1, b2⟩ := i2 k5
        obtain ⟨S', c1, c2⟩ := i3 k7
        obtain ⟨N', d1, d2⟩ := i4 l1
        obtain ⟨C', D', m1, m2, m3⟩ := (a2.trans k2.cv).to_pi
        have hE : Ty G (.elim p' z' s' a') (.app p' a') := .elim a1 m1 (m2.trans k3) (m3.trans k4.cv).to_sort b1 ((b2.trans k6).trans (.app h1.cv (Cv.rfl' _))) c1 ((c2.trans k8).trans (Cv.stepTy h1.cv)) d1 (d2.trans l2)
        obtain ⟨C1, R1, n1, n2, n3⟩ := (c2.trans k8).to_pi
        have hA : Ty G (.app s' a') (R1.inst a') := .app c1 n1 d1 ((d2.trans l2).trans n2.symm)
        have e1 := n3.inst (Cv.rfl' a')
        rw [step_one] at e1
        obtain ⟨C2, R2, o1, o2, o3⟩ := e1.to_pi
        refine ⟨_, .app hA o1 hE ((Cv.app h1.cv.symm (Cv.rfl' _)).trans o2.symm), ?_⟩
        have e2 := o3.inst (Cv.rfl' (Tm.elim p' z' s' a'))
        rw [step_two] at e2
        exact e2.trans (.app (Cv.rfl' _) (.succ h4.cv.symm))
  | mr h1 i1 =>
    intro G A k
    cases k with
    | move k1 k2 k3 k4 k5 k6 k7 k8 =>
      cases k1 with
      | refl l1 =>
        obtain ⟨rfl, rfl, rfl⟩ := (HR.refl _).id_det k2
        obtain ⟨X', a1, a2⟩ := i1 k7
        exact ⟨_, a1, a2.trans k8⟩
  | fp h1 i1 =>
    intro G A k
    cases k with
    | fst k1 k2 =>
      cases k1 with
      | pair l1 l2 l3 l4 l5 l6 l7 =>
        obtain ⟨rfl, rfl⟩ := l3.sg_det k2
        obtain ⟨X', a1, a2⟩ := i1 l4
        exact ⟨_, a1, a2.trans l5⟩
  | @sp T a b b' h1 i1 =>
    intro G A k
    cases k with
    | snd k1 k2 =>
      cases k1 with
      | pair l1 l2 l3 l4 l5 l6 l7 =>
        obtain ⟨rfl, rfl⟩ := l3.sg_det k2
        obtain ⟨X', a1, a2⟩ := i1 l6
        exact ⟨_, a1, (a2.trans l7).trans ((Cv.rfl' _).inst (HR.one (.fp T a b)).cv.symm)⟩
theorem Ty.red {t t' : Tm} (h : Red t t') : ∀ {G : List Tm} {A : Tm}, Ty G t A → ∃ A', Ty G t' A' ∧ Cv A' A := by
  induction h with
  | refl => intro G A k; exact ⟨_, k, Cv.rfl' _⟩
  | step h1 h2 ih =>
    intro G A k
    obtain ⟨B, k1, k2⟩ := Ty.par h1 k
    obtain ⟨C, k3, k4⟩ := ih k1
    exact ⟨C, k3, k4.trans k2⟩
/-- The level of a type. -/
def Lev (G : List Tm) (A : Tm) (k : Nat) : Prop := ∃ S, Ty G A S ∧ HR S (.sort k)
theorem Lev.det {G : List Tm} {A : Tm} {i k : Nat} (h : Lev G A i) (h' : Lev G A k) : i = k := by
  obtain ⟨S, h1, h2⟩ := h
  obtain ⟨S', h3, h4⟩ := h'
  obtain rfl := h1.det h3
  exact h2.sort_det h4
theorem Lev.red {G : List Tm} {A B : Tm} {i : Nat} (h : Lev G A i) (r : Red A B) : Lev G B i := by
  obtain ⟨S, h1, h2⟩ := h
  obtain ⟨S', h3, h4⟩ := Ty.red r h1
  exact ⟨S', h3, (h4.trans h2.cv).to_sort⟩
theorem Lev.cv {G : List Tm} {A B : Tm} {i k : Nat} (h : Lev G A i) (h' : Lev G B k) (e : Cv A B) : i = k := by
  obtain ⟨C, e1, e2⟩ := e
  exact (h.red e1).det (h'.red e2)
theorem Lev.sub {G D : List Tm} {A : Tm} {i : Nat} {s : Nat → Tm} (h : Lev G A i) (hs : SubOk G D s) : Lev D (A.sub s) i := by
  obtain ⟨S, h1, h2⟩ := h
  obtain ⟨S', h3, h4⟩ := h1.sub hs
  exact ⟨S', h3, (h4.trans (h2.sub s).cv).to_sort⟩
theorem Lev.ren {G D : List Tm} {A : Tm} {i : Nat} {r : Nat → Nat} (h : Lev G A i) (hr : RenOk G D r) : Lev D (A.ren r) i := by
  obtain ⟨S, h1, h2⟩ := h
  exact ⟨_, h1.ren hr, h2.ren r⟩
theorem Lev.ctx {G : List Tm} {A A' B : Tm} {i : Nat} (h : Lev (A :: G) B i) (k : Cv A' A) : Lev (A' :: G) B i := by
  have := h.sub (SubOk.ctx G k)
  rwa [sub_var] at this
theorem Lev.ins {G : List Tm} {A B u X : Tm} {i : Nat} (h : Lev (A :: G) B i) (hu : Ty G u X) (k : Cv X A) : Lev G (B.inst u) i :=
  h.sub ((SubOk.var G).cns hu (by rwa [sub_var]))
theorem Lev.sort (G : List Tm) (n : Nat) : Lev G (.sort n) (n + 1) := ⟨_, .sort, .refl _⟩
theorem Lev.nat (G : List Tm) : Lev G .nat 0 := ⟨_, .nat, .refl _⟩
theorem Lev.pi_inv {G : List Tm} {C R : Tm} {k : Nat} (h : Lev G (.pi C R) k) : ∃ i j, Lev G C i ∧ Lev (C :: G) R j ∧ k = max i j := by
  obtain ⟨S, h1, h2⟩ := h
  cases h1 with
  | pi k1 k2 k3 k4 => exact ⟨_, _, ⟨_, k1, k2⟩, ⟨_, k3, k4⟩, (h2.sort_det (.refl _))⟩
theorem Lev.sg_inv {G : List Tm} {C R : Tm} {k : Nat} (h : Lev G (.sg C R) k) : ∃ i j, Lev G C i ∧ Lev (C :: G) R j ∧ k = max i j := by
  obtain ⟨S, h1, h2⟩ := h
  cases h1 with
  | sg k1 k2 k3 k4 => exact ⟨_, _, ⟨_, k1, k2⟩, ⟨_, k3, k4⟩, (h2.sort_det (.refl _))⟩
theorem Lev.pi {G : List Tm} {C R : Tm} {i j : Nat} (h : Lev G C i) (k : Lev (C :: G) R j) : Lev G (.pi C R) (max i j) := by
  obtain ⟨S, h1, h2⟩ := h
  obtain ⟨S', h3, h4⟩ := k
  exact ⟨_, .pi h1 h2 h3 h4, .refl _⟩
theorem Lev.id_inv {G : List Tm} {T a b : Tm} {k : Nat} (h : Lev G (.id T a b) k) : Lev G T k ∧ (∃ A, Ty G a A ∧ Cv A T) ∧ ∃ B, Ty G b B ∧ Cv B T := by
  obtain ⟨S, h1, h2⟩ := h
  cases h1 with
  | id k1 k2 k3 k4 k5 k6 =>
    obtain rfl := h2.sort_det (.refl _)
    exact ⟨⟨_, k1, k2⟩, ⟨_, k3, k4⟩, ⟨_, k5, k6⟩⟩
theorem Wf.nil : Wf [] := by
  intro n A h
  simp at h
theorem Wf.cons {G : List Tm} {A : Tm} {i : Nat} (hG : Wf G) (h : Lev G A i) : Wf (A :: G) := by
  intro n B hB
  cases n with
  | zero =>
    obtain rfl : A = B := by simpa using hB
    obtain ⟨S, h1, h2⟩ := h
    exact ⟨S, i, h1, h2⟩
  | succ n => exact hG n B (by simpa using hB)
/-- A type has a sort. -/
theorem Ty.corr {G : List Tm} {t A : Tm} (h : Ty G t A) : Wf G → ∃ k, Lev G A k := by
  induction h with
  | @var G n A h =>
    intro hG
    unfold lk at h
    obtain ⟨B, h1, rfl⟩ := Option.map_eq_some_iff.1 h
    obtain ⟨S, i, h2, h3⟩ := hG n B h1
    exact ⟨i, Lev.ren ⟨S, h2, h3⟩ (RenOk.drop G (n + 1))⟩
  | sort => intro hG; exact ⟨_, Lev.sort _ _⟩
  | nat => intro hG; exact ⟨_, Lev.sort _ _⟩
  | zero => intro hG; exact ⟨_, Lev.nat _⟩
  | succ => intro hG; exact ⟨_, Lev.nat _⟩
  | pi => intro hG; exact ⟨_, Lev.sort _ _⟩
  | sg => intro hG; exact ⟨_, Lev.sort _ _⟩
  | lam h1 h2 h3 i1 i2 =>
    intro hG
    obtain ⟨k, hk⟩ := i2 (hG.cons ⟨_, h1, h2⟩)
    exact ⟨_, Lev.pi ⟨_, h1, h2⟩ hk⟩
  | app h1 h2 h3 h4 i1 i2 =>
    intro hG
    obtain ⟨k, hk⟩ := i1 hG
    obtain ⟨i, j, -, l, -⟩ := (hk.red h2.red).pi_inv
    exact ⟨j, l.ins h3 h4⟩
  | elim h1 h2 h3 h4 h5 h6 h7 h8 h9 h10 =>
    intro hG
    exact ⟨_, _, .app h1 h2 h9 (h10.trans h3.symm), h4.sub (cns _ Tm.var)⟩
  | id => intro hG; exact ⟨_, Lev.sort _ _⟩
  | refl h i =>
    intro hG
    obtain ⟨k, S, h1, h2⟩ := i hG
    exact ⟨_, _, .id h1 h2 h (Cv.rfl' _) h (Cv.rfl' _), .refl _⟩
  | move h1 h2 h3 h4 h5 h6 h7 h8 i1 =>
    intro hG
    obtain ⟨k, hk⟩ := i1 hG
    obtain ⟨-, -, C, l1, l2⟩ := (hk.red h2.red).id_inv
    exact ⟨_, _, .app h3 h4 l1 (l2.trans h5.symm), h6.sub (cns _ Tm.var)⟩
  | pair h1 h2 => intro hG; exact ⟨_, _, h1, h2⟩
  | fst h1 h2 i1 =>
    intro hG
    obtain ⟨k, hk⟩ := i1 hG
    obtain ⟨i, j, l, -, -⟩ := (hk.red h2.red).sg_inv
    exact ⟨_, l⟩
  | snd h1 h2 i1 =>
    intro hG
    obtain ⟨k, hk⟩ := i1 hG
    obtain ⟨i, j, -, l, -⟩ := (hk.red h2.red).sg_inv
    exact ⟨_, l.ins (.fst h1 h2) (Cv.rfl' _)⟩
end Go.Proofs.Ytdkamgafpphdjaa.M
