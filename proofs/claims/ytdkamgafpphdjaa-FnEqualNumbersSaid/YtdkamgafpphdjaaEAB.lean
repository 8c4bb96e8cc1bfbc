/-
  Lemmas towards the law, 2: MHead.
-/
import Derived.Test.YtdkamgafpphdjaaEAA
namespace Go.Proofs.Ytdkamgafpphdjaa.M
set_option linter.unusedVariables false
open Tm
/-- One step at the head. -/
inductive Hd : Tm → Tm → Prop where
  | beta (A b a) : Hd (.app (.lam A b) a) (b.inst a)
  | ez (p z s) : Hd (.elim p z s .zero) z
  | es (p z s a) : Hd (.elim p z s (.succ a)) (.app (.app s a) (.elim p z s a))
  | mr (p b a) : Hd (.move p (.refl b) a) a
  | fp (T a b) : Hd (.fst (.pair T a b)) a
  | sp (T a b) : Hd (.snd (.pair T a b)) b
  | app {f f'} (a) : Hd f f' → Hd (.app f a) (.app f' a)
  | elim {a a'} (p z s) : Hd a a' → Hd (.elim p z s a) (.elim p z s a')
  | move {e e'} (p a) : Hd e e' → Hd (.move p e a) (.move p e' a)
  | fst {a a'} : Hd a a' → Hd (.fst a) (.fst a')
  | snd {a a'} : Hd a a' → Hd (.snd a) (.snd a')
/-- The code of a canonical form, 0 for others. -/
def hk : Tm → Nat
  | .sort _ => 2
  | .pi _ _ => 3
  | .lam _ _ => 4
  | .nat => 6
  | .zero => 7
  | .succ _ => 8
  | .id _ _ _ => 10
  | .refl _ => 11
  | .sg _ _ => 13
  | .pair _ _ _ => 14
  | _ => 0
theorem Hd.hk {t u : Tm} (h : Hd t u) : Go.Proofs.Ytdkamgafpphdjaa.M.hk t = 0 := by cases h <;> rfl
theorem Hd.det {t u : Tm} (h : Hd t u) : ∀ {v : Tm}, Hd t v → u = v := by
  induction h with
  | beta A b a => intro v k; cases k with
    | beta => rfl
    | app _ k => cases k
  | ez p z s => intro v k; cases k with
    | ez => rfl
    | elim _ _ _ k => cases k
  | es p z s a => intro v k; cases k with
    | es => rfl
    | elim _ _ _ k => cases k
  | mr p b a => intro v k; cases k with
    | mr => rfl
    | move _ _ k => cases k
  | fp T a b => intro v k; cases k with
    | fp => rfl
    | fst k => cases k
  | sp T a b => intro v k; cases k with
    | sp => rfl
    | snd k => cases k
  | app a h ih => intro v k; cases k with
    | beta => cases h
    | app _ k => rw [ih k]
  | elim p z s h ih => intro v k; cases k with
    | ez => cases h
    | es => cases h
    | elim _ _ _ k => rw [ih k]
  | move p a h ih => intro v k; cases k with
    | mr => cases h
    | move _ _ k => rw [ih k]
  | fst h ih => intro v k; cases k with
    | fp => cases h
    | fst k => rw [ih k]
  | snd h ih => intro v k; cases k with
    | sp => cases h
    | snd k => rw [ih k]
theorem Hd.par {t u : Tm} (h : Hd t u) : Par t u := by
  induction h with
  | beta A b a => exact .beta (Par.rfl' _) (Par.rfl' _)
  | ez => exact .ez (Par.rfl' _)
  | es => exact .es (Par.rfl' _) (Par.rfl' _) (Par.rfl' _) (Par.rfl' _)
  | mr => exact .mr (Par.rfl' _)
  | fp => exact .fp (Par.rfl' _)
  | sp => exact .sp (Par.rfl' _)
  | app a h ih => exact .app ih (Par.rfl' _)
  | elim p z s h ih => exact .elim (Par.rfl' _) (Par.rfl' _) (Par.rfl' _) ih
  | move p a h ih => exact .move (Par.rfl' _) ih (Par.rfl' _)
  | fst h ih => exact .fst ih
  | snd h ih => exact .snd ih
theorem Hd.sub {t u : Tm} (h : Hd t u) (s : Nat → Tm) : Hd (t.sub s) (u.sub s) := by
  induction h with
  | beta A b a => rw [inst_sub]; exact .beta _ _ _
  | ez => exact .ez _ _ _
  | es => exact .es _ _ _ _
  | mr => exact .mr _ _ _
  | fp => exact .fp _ _ _
  | sp => exact .sp _ _ _
  | app a h ih => exact .app _ ih
  | elim p z s h ih => exact .elim _ _ _ ih
  | move p a h ih => exact .move _ _ ih
  | fst h ih => exact .fst ih
  | snd h ih => exact .snd ih
/-- Head reduction. -/
inductive HR : Tm → Tm → Prop where
  | refl (t) : HR t t
  | step {a b c} : Hd a b → HR b c → HR a c
theorem HR.one {a b : Tm} (h : Hd a b) : HR a b := .step h (.refl b)
theorem HR.trans {a b c : Tm} (h : HR a b) (k : HR b c) : HR a c := by
  induction h with
  | refl => exact k
  | step h1 _ ih => exact .step h1 (ih k)
theorem HR.red {a b : Tm} (h : HR a b) : Red a b := by
  induction h with
  | refl => exact .refl _
  | step h1 _ ih => exact .step h1.par ih
theorem HR.cv {a b : Tm} (h : HR a b) : Cv a b := h.red.cv
theorem HR.map {F : Tm → Tm} (hF : ∀ {a b}, Hd a b → Hd (F a) (F b)) {a b : Tm} (h : HR a b) : HR (F a) (F b) := by
  induction h with
  | refl => exact .refl _
  | step h1 _ ih => exact .step (hF h1) ih
theorem HR.sub {a b : Tm} (h : HR a b) (s : Nat → Tm) : HR (a.sub s) (b.sub s) := h.map (F := fun t => t.sub s) fun h => h.sub s
theorem HR.ren {a b : Tm} (h : HR a b) (r : Nat → Nat) : HR (a.ren r) (b.ren r) := by
  rw [ren_eq, ren_eq b]; exact h.sub _
/-- Two ways to canonical forms meet. -/
theorem HR.det {a b : Tm} (h : HR a b) : ∀ {c : Tm}, HR a c → hk b ≠ 0 → hk c ≠ 0 → b = c := by
  induction h with
  | refl t =>
    intro c k hb hc
    cases k with
    | refl => rfl
    | step k _ => exact absurd k.hk hb
  | step h1 h2 ih =>
    intro c k hb hc
    cases k with
    | refl => exact absurd h1.hk hc
    | step k1 k2 =>
      obtain rfl := h1.det k1
      exact ih k2 hb hc
theorem HR.after {a b : Tm} (h : HR a b) : ∀ {c : Tm}, HR a c → hk c ≠ 0 → HR b c := by
  induction h with
  | refl t => intro c k _; exact k
  | step h1 h2 ih =>
    intro c k hc
    cases k with
    | refl => exact absurd h1.hk hc
    | step k1 k2 =>
      obtain rfl := h1.det k1
      exact ih k2 hc
/-- Parallel reduction that leaves the head redex. -/
inductive Ip : Tm → Tm → Prop where
  | var (n) : Ip (.var n) (.var n)
  | sort (n) : Ip (.sort n) (.sort n)
  | pi {A A' B B'} : Par A A' → Par B B' → Ip (.pi A B) (.pi A' B')
  | lam {A A' B B'} : Par A A' → Par B B' → Ip (.lam A B) (.lam A' B')
  | app {A A' B B'} : Ip A A' → Par B B' → Ip (.app A B) (.app A' B')
  | nat : Ip .nat .nat
  | zero : Ip .zero .zero
  | succ {a a'} : Par a a' → Ip (.succ a) (.succ a')
  | elim {p p' z z' s s' a a'} : Par p p' → Par z z' → Par s s' → Ip a a' → Ip (.elim p z s a) (.elim p' z' s' a')
  | id {T T' a a' b b'} : Par T T' → Par a a' → Par b b' → Ip (.id T a b) (.id T' a' b')
  | refl {a a'} : Par a a' → Ip (.refl a) (.refl a')
  | move {T T' a a' b b'} : Par T T' → Ip a a' → Par b b' → Ip (.move T a b) (.move T' a' b')
  | sg {A A' B B'} : Par A A' → Par B B' → Ip (.sg A B) (.sg A' B')
  | pair {T T' a a' b b'} : Par T T' → Par a a' → Par b b' → Ip (.pair T a b) (.pair T' a' b')
  | fst {a a'} : Ip a a' → Ip (.fst a) (.fst a')
  | snd {a a'} : Ip a a' → Ip (.snd a) (.snd a')
def Fc (t t' : Tm) : Prop := ∃ s, HR t s ∧ Ip s t'
theorem Ip.sub {t t' : Tm} (h : Ip t t') {s s' : Nat → Tm} (hs : ∀ n, Par (s n) (s' n)) (hf : ∀ n, Fc (s n) (s' n)) : Fc (t.sub s) (t'.sub s') := by
  induction h with
  | var n => exact hf n
  | sort n => exact ⟨_, .refl _, .sort n⟩
  | nat => exact ⟨_, .refl _, .nat⟩
  | zero => exact ⟨_, .refl _, .zero⟩
  | pi h1 h2 => exact ⟨_, .refl _, .pi (h1.sub hs) (h2.sub (Par.ups hs))⟩
  | lam h1 h2 => exact ⟨_, .refl _, .lam (h1.sub hs) (h2.sub (Par.ups hs))⟩
  | sg h1 h2 => exact ⟨_, .refl _, .sg (h1.sub hs) (h2.sub (Par.ups hs))⟩
  | succ h1 => exact ⟨_, .refl _, .succ (h1.sub hs)⟩
  | refl h1 => exact ⟨_, .refl _, .refl (h1.sub hs)⟩
  | id h1 h2 h3 => exact ⟨_, .refl _, .id (h1.sub hs) (h2.sub hs) (h3.sub hs)⟩
  | pair h1 h2 h3 => exact ⟨_, .refl _, .pair (h1.sub hs) (h2.sub hs) (h3.sub hs)⟩
  | app h1 h2 ih =>
    obtain ⟨u, k1, k2⟩ := ih
    exact ⟨_, k1.map (F := fun x => .app x _) fun h => .app _ h, .app k2 (h2.sub hs)⟩
  | elim h1 h2 h3 h4 ih =>
    obtain ⟨u, k1, k2⟩ := ih
    exact ⟨_, k1.map (F := fun x => .elim _ _ _ x) fun h => .elim _ _ _ h, .elim (h1.sub hs) (h2.sub hs) (h3.sub hs) k2⟩
  | move h1 h2 h3 ih =>
    obtain ⟨u, k1, k2⟩ := ih
    exact ⟨_, k1.map (F := fun x => .move _ x _) fun h => .move _ _ h, .move (h1.sub hs) k2 (h3.sub hs)⟩
  | fst h1 ih =>
    obtain ⟨u, k1, k2⟩ := ih
    exact ⟨_, k1.map (F := fun x => .fst x) fun h => .fst h, .fst k2⟩
  | snd h1 ih =>
    obtain ⟨u, k1, k2⟩ := ih
    exact ⟨_, k1.map (F := fun x => .snd x) fun h => .snd h, .snd k2⟩
theorem Par.fc {t t' : Tm} (h : Par t t') : Fc t t' := by
  induction h with
  | var n => exact ⟨_, .refl _, .var n⟩
  | sort n => exact ⟨_, .refl _, .sort n⟩
  | nat => exact ⟨_, .refl _, .nat⟩
  | zero => exact ⟨_, .refl _, .zero⟩
  | pi h1 h2 => exact ⟨_, .refl _, .pi h1 h2⟩
  | lam h1 h2 => exact ⟨_, .refl _, .lam h1 h2⟩
  | sg h1 h2 => exact ⟨_, .refl _, .sg h1 h2⟩
  | succ h1 => exact ⟨_, .refl _, .succ h1⟩
  | refl h1 => exact ⟨_, .refl _, .refl h1⟩
  | id h1 h2 h3 => exact ⟨_, .refl _, .id h1 h2 h3⟩
  | pair h1 h2 h3 => exact ⟨_, .refl _, .pair h1 h2 h3⟩
  | app h1 h2 i1 i2 =>
    obtain ⟨u, k1, k2⟩ := i1
    exact ⟨_, k1.map (F := fun x => .app x _) fun h => .app _ h, .app k2 h2⟩
  | elim h1 h2 h3 h4 i1 i2 i3 ih =>
    obtain ⟨u, k1, k2⟩ := ih
    exact ⟨_, k1.map (F := fun x => .elim _ _ _ x) fun h => .elim _ _ _ h, .elim h1 h2 h3 k2⟩
  | move h1 h2 h3 i1 ih i3 =>
    obtain ⟨u, k1, k2⟩ := ih
    exact ⟨_, k1.map (F := fun x => .move _ x _) fun h => .move _ _ h, .move h1 k2 h3⟩
  | fst h1 ih =>
    obtain ⟨u, k1, k2⟩ := ih
    exact ⟨_, k1.map (F := fun x => .fst x) fun h => .fst h, .fst k2⟩
  | snd h1 ih =>
    obtain ⟨u, k1, k2⟩ := ih
    exact ⟨_, k1.map (F := fun x => .snd x) fun h => .snd h, .snd k2⟩
  | @beta A b b' a a' h1 h2 i1 i2 =>
    obtain ⟨u, k1, k2⟩ := i1
    have h3 := k2.sub (Par.cns h2) (fun n => by
      cases n with
      | zero => exact i2
      | succ n => exact ⟨_, .refl _, .var n⟩)
    obtain ⟨v, l1, l2⟩ := h3
    exact ⟨v, .step (.beta A b a) ((k1.sub _).trans l1), l2⟩
  | ez h ih =>
    obtain ⟨u, k1, k2⟩ := ih
    exact ⟨u, .step (.ez _ _ _) k1, k2⟩
  | es h1 h2 h3 h4 i1 i2 i3 i4 =>
    obtain ⟨u, k1, k2⟩ := i3
    exact ⟨_, .step (.es _ _ _ _) (k1.map (F := fun x => .app (.app x _) _) fun h => .app _ (.app _ h)), .app (.app k2 h4) (.elim h1 h2 h3 h4)⟩
  | mr h ih =>
    obtain ⟨u, k1, k2⟩ := ih
    exact ⟨u, .step (.mr _ _ _) k1, k2⟩
  | fp h ih =>
    obtain ⟨u, k1, k2⟩ := ih
    exact ⟨u, .step (.fp _ _ _) k1, k2⟩
  | sp h ih =>
    obtain ⟨u, k1, k2⟩ := ih
    exact ⟨u, .step (.sp _ _ _) k1, k2⟩
theorem Ip.par {s t : Tm} (h : Ip s t) : Par s t := by
  induction h <;> constructor <;> assumption
theorem Ip.hd {t u : Tm} (k : Hd t u) : ∀ {s : Tm}, Ip s t → ∃ s', Hd s s' ∧ Par s' u := by
  induction k with
  | beta A b a =>
    intro s h
    cases h with
    | app h1 h2 =>
      cases h1 with
      | lam h3 h4 => exact ⟨_, .beta _ _ _, h4.inst h2⟩
  | ez p z s =>
    intro s h
    cases h with
    | elim h1 h2 h3 h4 =>
      cases h4
      exact ⟨_, .ez _ _ _, h2⟩
  | es p z s a =>
    intro s h
    cases h with
    | elim h1 h2 h3 h4 =>
      cases h4 with
      | succ h5 => exact ⟨_, .es _ _ _ _, .app (.app h3 h5) (.elim h1 h2 h3 h5)⟩
  | mr p b a =>
    intro s h
    cases h with
    | move h1 h2 h3 =>
      cases h2 with
      | refl h4 => exact ⟨_, .mr _ _ _, h3⟩
  | fp T a b =>
    intro s h
    cases h with
    | fst h1 =>
      cases h1 with
      | pair h2 h3 h4 => exact ⟨_, .fp _ _ _, h3⟩
  | sp T a b =>
    intro s h
    cases h with
    | snd h1 =>
      cases h1 with
      | pair h2 h3 h4 => exact ⟨_, .sp _ _ _, h4⟩
  | app a k ih =>
    intro s h
    cases h with
    | app h1 h2 =>
      obtain ⟨s', k1, k2⟩ := ih h1
      exact ⟨_, .app _ k1, .app k2 h2⟩
  | elim p z s k ih =>
    intro s h
    cases h with
    | elim h1 h2 h3 h4 =>
      obtain ⟨s', k1, k2⟩ := ih h4
      exact ⟨_, .elim _ _ _ k1, .elim h1 h2 h3 k2⟩
  | move p a k ih =>
    intro s h
    cases h with
    | move h1 h2 h3 =>
      obtain ⟨s', k1, k2⟩ := ih h2
      exact ⟨_, .move _ _ k1, .move h1 k2 h3⟩
  | fst k ih =>
    intro s h
    cases h with
    | fst h1 =>
      obtain ⟨s', k1, k2⟩ := ih h1
      exact ⟨_, .fst k1, .fst k2⟩
  | snd k ih =>
    intro s h
    cases h with
    | snd h1 =>
      obtain ⟨s', k1, k2⟩ := ih h1
      exact ⟨_, .snd k1, .snd k2⟩
theorem Par.hr {t1 t2 : Tm} (k : HR t1 t2) : ∀ {t : Tm}, Par t t1 → ∃ t', HR t t' ∧ Par t' t2 := by
  induction k with
  | refl => intro t h; exact ⟨t, .refl t, h⟩
  | step h1 h2 ih =>
    intro t h
    obtain ⟨s, k1, k2⟩ := h.fc
    obtain ⟨s', l1, l2⟩ := k2.hd h1
    obtain ⟨t', m1, m2⟩ := ih l2
    exact ⟨t', (k1.trans (.one l1)).trans m1, m2⟩
theorem Ip.hk {s t : Tm} (h : Ip s t) : Go.Proofs.Ytdkamgafpphdjaa.M.hk s = Go.Proofs.Ytdkamgafpphdjaa.M.hk t := by cases h <;> rfl
theorem Par.hk {s t : Tm} (h : Par s t) (hs : Go.Proofs.Ytdkamgafpphdjaa.M.hk s ≠ 0) : Go.Proofs.Ytdkamgafpphdjaa.M.hk t = Go.Proofs.Ytdkamgafpphdjaa.M.hk s := by
  cases h <;> first | rfl | exact absurd rfl hs
theorem Red.hk {s t : Tm} (h : Red s t) (hs : Go.Proofs.Ytdkamgafpphdjaa.M.hk s ≠ 0) : Go.Proofs.Ytdkamgafpphdjaa.M.hk t = Go.Proofs.Ytdkamgafpphdjaa.M.hk s := by
  induction h with
  | refl => rfl
  | step h1 _ ih => rw [ih (by rw [h1.hk hs]; exact hs), h1.hk hs]
theorem Red.can {t c : Tm} (h : Red t c) (hc : Go.Proofs.Ytdkamgafpphdjaa.M.hk c ≠ 0) : ∃ c0, HR t c0 ∧ Go.Proofs.Ytdkamgafpphdjaa.M.hk c0 = Go.Proofs.Ytdkamgafpphdjaa.M.hk c ∧ Red c0 c := by
  induction h with
  | refl t => exact ⟨t, .refl t, rfl, .refl t⟩
  | step h1 h2 ih =>
    obtain ⟨c1, k1, k2, k3⟩ := ih hc
    obtain ⟨t', l1, l2⟩ := Par.hr k1 h1
    obtain ⟨s, m1, m2⟩ := l2.fc
    exact ⟨s, l1.trans m1, m2.hk.trans k2, .step m2.par k3⟩
theorem Cv.can {t c : Tm} (h : Cv t c) (hc : Go.Proofs.Ytdkamgafpphdjaa.M.hk c ≠ 0) : ∃ c0, HR t c0 ∧ Go.Proofs.Ytdkamgafpphdjaa.M.hk c0 = Go.Proofs.Ytdkamgafpphdjaa.M.hk c ∧ Cv c0 c := by
  obtain ⟨d, h1, h2⟩ := h
  have hd := h2.hk hc
  obtain ⟨c0, k1, k2, k3⟩ := h1.can (by rw [hd]; exact hc)
  exact ⟨c0, k1, k2.trans hd, d, k3, h2⟩
theorem Red.pi_inv {A B c : Tm} (h : Red (.pi A B) c) : ∃ A' B', c = .pi A' B' ∧ Red A A' ∧ Red B B' := by
  generalize ht : Tm.pi A B = t at h
  induction h generalizing A B with
  | refl => exact ⟨A, B, ht.symm, .refl _, .refl _⟩
  | step h1 _ ih =>
    subst ht
    cases h1 with
    | pi k1 k2 =>
      obtain ⟨A', B', e, l1, l2⟩ := ih rfl
      exact ⟨A', B', e, .step k1 l1, .step k2 l2⟩
theorem Red.sg_inv {A B c : Tm} (h : Red (.sg A B) c) : ∃ A' B', c = .sg A' B' ∧ Red A A' ∧ Red B B' := by
  generalize ht : Tm.sg A B = t at h
  induction h generalizing A B with
  | refl => exact ⟨A, B, ht.symm, .refl _, .refl _⟩
  | step h1 _ ih =>
    subst ht
    cases h1 with
    | sg k1 k2 =>
      obtain ⟨A', B', e, l1, l2⟩ := ih rfl
      exact ⟨A', B', e, .step k1 l1, .step k2 l2⟩
theorem Red.id_inv {T a b c : Tm} (h : Red (.id T a b) c) : ∃ T' a' b', c = .id T' a' b' ∧ Red T T' ∧ Red a a' ∧ Red b b' := by
  generalize ht : Tm.id T a b = t at h
  induction h generalizing T a b with
  | refl => exact ⟨T, a, b, ht.symm, .refl _, .refl _, .refl _⟩
  | step h1 _ ih =>
    subst ht
    cases h1 with
    | id k1 k2 k3 =>
      obtain ⟨A', B', C', e, l1, l2, l3⟩ := ih rfl
      exact ⟨A', B', C', e, .step k1 l1, .step k2 l2, .step k3 l3⟩
theorem Red.sort_inv {n : Nat} {c : Tm} (h : Red (.sort n) c) : c = .sort n := by
  generalize ht : Tm.sort n = t at h
  induction h with
  | refl => rfl
  | step h1 _ ih => subst ht; cases h1; exact ih rfl
theorem Red.nat_inv {c : Tm} (h : Red .nat c) : c = .nat := by
  generalize ht : Tm.nat = t at h
  induction h with
  | refl => rfl
  | step h1 _ ih => subst ht; cases h1; exact ih rfl
theorem Cv.pi_inj {A B A' B' : Tm} (h : Cv (.pi A B) (.pi A' B')) : Cv A A' ∧ Cv B B' := by
  obtain ⟨c, h1, h2⟩ := h
  obtain ⟨X, Y, rfl, k1, k2⟩ := h1.pi_inv
  obtain ⟨X', Y', e, l1, l2⟩ := h2.pi_inv
  simp only [Tm.pi.injEq] at e
  obtain ⟨rfl, rfl⟩ := e
  exact ⟨⟨_, k1, l1⟩, ⟨_, k2, l2⟩⟩
theorem Cv.sg_inj {A B A' B' : Tm} (h : Cv (.sg A B) (.sg A' B')) : Cv A A' ∧ Cv B B' := by
  obtain ⟨c, h1, h2⟩ := h
  obtain ⟨X, Y, rfl, k1, k2⟩ := h1.sg_inv
  obtain ⟨X', Y', e, l1, l2⟩ := h2.sg_inv
  simp only [Tm.sg.injEq] at e
  obtain ⟨rfl, rfl⟩ := e
  exact ⟨⟨_, k1, l1⟩, ⟨_, k2, l2⟩⟩
theorem Cv.id_inj {T a b T' a' b' : Tm} (h : Cv (.id T a b) (.id T' a' b')) : Cv T T' ∧ Cv a a' ∧ Cv b b' := by
  obtain ⟨c, h1, h2⟩ := h
  obtain ⟨X, Y, Z, rfl, k1, k2, k3⟩ := h1.id_inv
  obtain ⟨X', Y', Z', e, l1, l2, l3⟩ := h2.id_inv
  simp only [Tm.id.injEq] at e
  obtain ⟨rfl, rfl, rfl⟩ := e
  exact ⟨⟨_, k1, l1⟩, ⟨_, k2, l2⟩, ⟨_, k3, l3⟩⟩
theorem Cv.sort_inj {n m : Nat} (h : Cv (.sort n) (.sort m)) : n = m := by
  obtain ⟨c, h1, h2⟩ := h
  have := h1.sort_inv.symm.trans h2.sort_inv
  simpa using this
/-- Convertible canonical forms are of one kind. -/
theorem Cv.hk {a b : Tm} (h : Cv a b) (ha : Go.Proofs.Ytdkamgafpphdjaa.M.hk a ≠ 0) (hb : Go.Proofs.Ytdkamgafpphdjaa.M.hk b ≠ 0) : Go.Proofs.Ytdkamgafpphdjaa.M.hk a = Go.Proofs.Ytdkamgafpphdjaa.M.hk b := by
  obtain ⟨c, h1, h2⟩ := h
  exact (h1.hk ha).symm.trans (h2.hk hb)
theorem Cv.to_pi {T C R : Tm} (h : Cv T (.pi C R)) : ∃ C' R', HR T (.pi C' R') ∧ Cv C' C ∧ Cv R' R := by
  obtain ⟨c, h1, h2, h3⟩ := h.can (by simp [Go.Proofs.Ytdkamgafpphdjaa.M.hk])
  cases c <;> simp only [Go.Proofs.Ytdkamgafpphdjaa.M.hk] at h2 <;> first | omega | (obtain ⟨k1, k2⟩ := h3.pi_inj; exact ⟨_, _, h1, k1, k2⟩)
theorem Cv.to_sg {T C R : Tm} (h : Cv T (.sg C R)) : ∃ C' R', HR T (.sg C' R') ∧ Cv C' C ∧ Cv R' R := by
  obtain ⟨c, h1, h2, h3⟩ := h.can (by simp [Go.Proofs.Ytdkamgafpphdjaa.M.hk])
  cases c <;> simp only [Go.Proofs.Ytdkamgafpphdjaa.M.hk] at h2 <;> first | omega | (obtain ⟨k1, k2⟩ := h3.sg_inj; exact ⟨_, _, h1, k1, k2⟩)
theorem Cv.to_id {T X a b : Tm} (h : Cv T (.id X a b)) : ∃ X' a' b', HR T (.id X' a' b') ∧ Cv X' X ∧ Cv a' a ∧ Cv b' b := by
  obtain ⟨c, h1, h2, h3⟩ := h.can (by simp [Go.Proofs.Ytdkamgafpphdjaa.M.hk])
  cases c <;> simp only [Go.Proofs.Ytdkamgafpphdjaa.M.hk] at h2 <;> first | omega | (obtain ⟨k1, k2, k3⟩ := h3.id_inj; exact ⟨_, _, _, h1, k1, k2, k3⟩)
theorem Cv.to_sort {T : Tm} {n : Nat} (h : Cv T (.sort n)) : HR T (.sort n) := by
  obtain ⟨c, h1, h2, h3⟩ := h.can (by simp [Go.Proofs.Ytdkamgafpphdjaa.M.hk])
  cases c <;> simp only [Go.Proofs.Ytdkamgafpphdjaa.M.hk] at h2 <;> first | omega | (rw [h3.sort_inj] at h1; exact h1)
theorem Cv.to_nat {T : Tm} (h : Cv T .nat) : HR T .nat := by
  obtain ⟨c, h1, h2, h3⟩ := h.can (by simp [Go.Proofs.Ytdkamgafpphdjaa.M.hk])
  cases c <;> simp only [Go.Proofs.Ytdkamgafpphdjaa.M.hk] at h2 <;> first | omega | exact h1
end Go.Proofs.Ytdkamgafpphdjaa.M
