/-
  Lemmas towards the law, 1: MTm, MPar.
-/
namespace Go.Proofs.Ytdkamgafpphdjaa.M
set_option linter.unusedVariables false
inductive Tm where
  | var (n : Nat)
  | sort (n : Nat)
  | pi (A B : Tm)
  | lam (A t : Tm)
  | app (f a : Tm)
  | nat
  | zero
  | succ (a : Tm)
  | elim (p z s a : Tm)
  | id (T a b : Tm)
  | refl (a : Tm)
  | move (p e a : Tm)
  | sg (A B : Tm)
  | pair (T a b : Tm)
  | fst (a : Tm)
  | snd (a : Tm)
  deriving DecidableEq
namespace Tm
/-- A renaming below a binder. -/
def upr (r : Nat → Nat) : Nat → Nat
  | 0 => 0
  | n + 1 => r n + 1
def ren (r : Nat → Nat) : Tm → Tm
  | var n => var (r n)
  | sort n => sort n
  | pi A B => pi (A.ren r) (B.ren (upr r))
  | lam A t => lam (A.ren r) (t.ren (upr r))
  | app f a => app (f.ren r) (a.ren r)
  | nat => nat
  | zero => zero
  | succ a => succ (a.ren r)
  | elim p z s a => elim (p.ren r) (z.ren r) (s.ren r) (a.ren r)
  | id T a b => id (T.ren r) (a.ren r) (b.ren r)
  | refl a => refl (a.ren r)
  | move p e a => move (p.ren r) (e.ren r) (a.ren r)
  | sg A B => sg (A.ren r) (B.ren (upr r))
  | pair T a b => pair (T.ren r) (a.ren r) (b.ren r)
  | fst a => fst (a.ren r)
  | snd a => snd (a.ren r)
/-- One more variable. -/
abbrev wk (t : Tm) : Tm := t.ren Nat.succ
def ups (s : Nat → Tm) : Nat → Tm
  | 0 => var 0
  | n + 1 => wk (s n)
def sub (s : Nat → Tm) : Tm → Tm
  | var n => s n
  | sort n => sort n
  | pi A B => pi (A.sub s) (B.sub (ups s))
  | lam A t => lam (A.sub s) (t.sub (ups s))
  | app f a => app (f.sub s) (a.sub s)
  | nat => nat
  | zero => zero
  | succ a => succ (a.sub s)
  | elim p z s' a => elim (p.sub s) (z.sub s) (s'.sub s) (a.sub s)
  | id T a b => id (T.sub s) (a.sub s) (b.sub s)
  | refl a => refl (a.sub s)
  | move p e a => move (p.sub s) (e.sub s) (a.sub s)
  | sg A B => sg (A.sub s) (B.sub (ups s))
  | pair T a b => pair (T.sub s) (a.sub s) (b.sub s)
  | fst a => fst (a.sub s)
  | snd a => snd (a.sub s)
/-- The term u for the variable 0. -/
def cns (u : Tm) (s : Nat → Tm) : Nat → Tm
  | 0 => u
  | n + 1 => s n
def inst (t u : Tm) : Tm := t.sub (cns u var)
theorem upr_id : upr (fun n => n) = fun n => n := by
  funext n; cases n <;> rfl
theorem upr_comp (r q : Nat → Nat) : upr (fun n => r (q n)) = fun n => upr r (upr q n) := by
  funext n; cases n <;> rfl
theorem ups_var : ups var = var := by
  funext n; cases n <;> rfl
theorem ren_ren (t : Tm) : ∀ (r q : Nat → Nat), (t.ren q).ren r = t.ren (fun n => r (q n)) := by
  induction t <;> intro r q <;> simp only [ren, *] <;> simp only [upr_comp]
theorem ups_upr (s : Nat → Tm) (q : Nat → Nat) : (fun n => ups s (upr q n)) = ups (fun n => s (q n)) := by
  funext n; cases n <;> rfl
theorem sub_ren (t : Tm) : ∀ (s : Nat → Tm) (q : Nat → Nat), (t.ren q).sub s = t.sub (fun n => s (q n)) := by
  induction t <;> intro s q <;> simp only [ren, sub, *] <;> simp only [ups_upr]
theorem ren_ups (s : Nat → Tm) (r : Nat → Nat) : (fun n => (ups s n).ren (upr r)) = ups (fun n => (s n).ren r) := by
  funext n
  cases n with
  | zero => rfl
  | succ n =>
    show ((s n).ren Nat.succ).ren (upr r) = ((s n).ren r).ren Nat.succ
    rw [ren_ren, ren_ren]
    rfl
theorem ren_sub (t : Tm) : ∀ (s : Nat → Tm) (r : Nat → Nat), (t.sub s).ren r = t.sub (fun n => (s n).ren r) := by
  induction t <;> intro s r <;> simp only [ren, sub, *] <;> simp only [ren_ups]
theorem ups_ups (s q : Nat → Tm) : (fun n => (ups q n).sub (ups s)) = ups (fun n => (q n).sub s) := by
  funext n
  cases n with
  | zero => rfl
  | succ n =>
    show ((q n).ren Nat.succ).sub (ups s) = ((q n).sub s).ren Nat.succ
    rw [sub_ren, ren_sub]
    rfl
theorem sub_sub (t : Tm) : ∀ (s q : Nat → Tm), (t.sub q).sub s = t.sub (fun n => (q n).sub s) := by
  induction t <;> intro s q <;> simp only [sub, *] <;> simp only [ups_ups]
theorem sub_var (t : Tm) : t.sub var = t := by
  induction t <;> simp only [sub, ups_var, *]
theorem ren_id (t : Tm) : t.ren (fun n => n) = t := by
  induction t <;> simp only [ren, upr_id, *]
theorem ups_varr (r : Nat → Nat) : ups (fun n => var (r n)) = fun n => var (upr r n) := by
  funext n; cases n <;> rfl
theorem ren_eq (t : Tm) : ∀ r : Nat → Nat, t.ren r = t.sub (fun n => var (r n)) := by
  induction t <;> intro r <;> simp only [ren, sub, *] <;> simp only [ups_varr]
theorem wk_cns (t u : Tm) (s : Nat → Tm) : (wk t).sub (cns u s) = t.sub s := by
  rw [sub_ren]; rfl
theorem wk_inst (t u : Tm) : (wk t).inst u = t := by
  unfold inst; rw [wk_cns, sub_var]
theorem cns_sub (u : Tm) (q s : Nat → Tm) : (fun n => (cns u q n).sub s) = cns (u.sub s) (fun n => (q n).sub s) := by
  funext n; cases n <;> rfl
theorem ups_cns (u : Tm) (q s : Nat → Tm) : (fun n => (ups q n).sub (cns u s)) = cns u (fun n => (q n).sub s) := by
  funext n
  cases n with
  | zero => rfl
  | succ n => exact wk_cns _ _ _
theorem inst_sub (t u : Tm) (s : Nat → Tm) : (t.inst u).sub s = (t.sub (ups s)).inst (u.sub s) := by
  unfold inst
  rw [sub_sub, sub_sub, cns_sub, ups_cns]
  congr 1
  funext n
  cases n with
  | zero => rfl
  | succ n => exact (sub_var (s n)).symm
theorem sub_ups_inst (t u : Tm) (s : Nat → Tm) : (t.sub (ups s)).inst u = t.sub (cns u s) := by
  unfold inst
  rw [sub_sub, ups_cns]
  congr 1
  funext n
  cases n with
  | zero => rfl
  | succ n => exact sub_var (s n)
theorem inst_ren (t u : Tm) (r : Nat → Nat) : (t.inst u).ren r = (t.ren (upr r)).inst (u.ren r) := by
  rw [ren_eq, inst_sub, ren_eq t, ren_eq u, ups_varr]
theorem ups_sub (t : Tm) (s : Nat → Tm) : (wk t).sub (ups s) = wk (t.sub s) := by
  rw [sub_ren, wk, ren_sub]; rfl
theorem ren_wk (t : Tm) (r : Nat → Nat) : (wk t).ren (upr r) = wk (t.ren r) := by
  rw [ren_ren, wk, ren_ren]; rfl
end Tm
end Go.Proofs.Ytdkamgafpphdjaa.M
namespace Go.Proofs.Ytdkamgafpphdjaa.M
set_option linter.unusedVariables false
open Tm
inductive Par : Tm → Tm → Prop where
  | var (n) : Par (var n) (var n)
  | sort (n) : Par (sort n) (sort n)
  | pi {A A' B B'} : Par A A' → Par B B' → Par (pi A B) (pi A' B')
  | lam {A A' B B'} : Par A A' → Par B B' → Par (lam A B) (lam A' B')
  | app {A A' B B'} : Par A A' → Par B B' → Par (app A B) (app A' B')
  | nat : Par nat nat
  | zero : Par zero zero
  | succ {a a'} : Par a a' → Par (succ a) (succ a')
  | elim {p p' z z' s s' a a'} : Par p p' → Par z z' → Par s s' → Par a a' → Par (elim p z s a) (elim p' z' s' a')
  | id {T T' a a' b b'} : Par T T' → Par a a' → Par b b' → Par (Tm.id T a b) (Tm.id T' a' b')
  | refl {a a'} : Par a a' → Par (refl a) (refl a')
  | move {T T' a a' b b'} : Par T T' → Par a a' → Par b b' → Par (move T a b) (move T' a' b')
  | sg {A A' B B'} : Par A A' → Par B B' → Par (sg A B) (sg A' B')
  | pair {T T' a a' b b'} : Par T T' → Par a a' → Par b b' → Par (pair T a b) (pair T' a' b')
  | fst {a a'} : Par a a' → Par (fst a) (fst a')
  | snd {a a'} : Par a a' → Par (snd a) (snd a')
  | beta {A b b' a a'} : Par b b' → Par a a' → Par (app (lam A b) a) (b'.inst a')
  | ez {p z z' s} : Par z z' → Par (elim p z s zero) z'
  | es {p p' z z' s s' a a'} : Par p p' → Par z z' → Par s s' → Par a a' → Par (elim p z s (succ a)) (app (app s' a') (elim p' z' s' a'))
  | mr {p b a a'} : Par a a' → Par (move p (refl b) a) a'
  | fp {T a a' b} : Par a a' → Par (fst (pair T a b)) a'
  | sp {T a b b'} : Par b b' → Par (snd (pair T a b)) b'
theorem Par.rfl' : ∀ t : Tm, Par t t := by
  intro t; induction t <;> constructor <;> assumption
theorem Par.ren {t t' : Tm} (h : Par t t') : ∀ r, Par (t.ren r) (t'.ren r) := by
  induction h with
  | beta h1 h2 i1 i2 =>
    intro r
    rw [inst_ren]
    exact .beta (i1 _) (i2 _)
  | _ => intro r; simp only [Tm.ren]; constructor <;> solve_by_elim
theorem Par.ups {s s' : Nat → Tm} (h : ∀ n, Par (s n) (s' n)) : ∀ n, Par (ups s n) (ups s' n) := by
  intro n
  cases n with
  | zero => exact .var 0
  | succ n => exact (h n).ren _
theorem Par.sub {t t' : Tm} (h : Par t t') : ∀ {s s' : Nat → Tm}, (∀ n, Par (s n) (s' n)) → Par (t.sub s) (t'.sub s') := by
  induction h with
  | var n => intro s s' hs; exact hs n
  | beta h1 h2 i1 i2 =>
    intro s s' hs
    rw [inst_sub]
    exact .beta (i1 (Par.ups hs)) (i2 hs)
  | pi h1 h2 i1 i2 => intro s s' hs; exact .pi (i1 hs) (i2 (Par.ups hs))
  | lam h1 h2 i1 i2 => intro s s' hs; exact .lam (i1 hs) (i2 (Par.ups hs))
  | sg h1 h2 i1 i2 => intro s s' hs; exact .sg (i1 hs) (i2 (Par.ups hs))
  | _ => intro s s' hs; simp only [Tm.sub]; constructor <;> solve_by_elim
theorem Par.cns {u u' : Tm} (h : Par u u') : ∀ n, Par (Tm.cns u Tm.var n) (Tm.cns u' Tm.var n) := by
  intro n
  cases n with
  | zero => exact h
  | succ n => exact .var n
theorem Par.inst {t t' u u' : Tm} (h : Par t t') (k : Par u u') : Par (t.inst u) (t'.inst u') := h.sub (Par.cns k)
/-- All redexes contracted. -/
def dev : Tm → Tm
  | .app (.lam _ b) a => (dev b).inst (dev a)
  | .elim _ z _ .zero => dev z
  | .elim p z s (.succ a) => .app (.app (dev s) (dev a)) (.elim (dev p) (dev z) (dev s) (dev a))
  | .move _ (.refl _) a => dev a
  | .fst (.pair _ a _) => dev a
  | .snd (.pair _ _ b) => dev b
  | .var n => .var n
  | .sort n => .sort n
  | .pi A B => .pi (dev A) (dev B)
  | .lam A t => .lam (dev A) (dev t)
  | .app f a => .app (dev f) (dev a)
  | .nat => .nat
  | .zero => .zero
  | .succ a => .succ (dev a)
  | .elim p z s a => .elim (dev p) (dev z) (dev s) (dev a)
  | .id T a b => .id (dev T) (dev a) (dev b)
  | .refl a => .refl (dev a)
  | .move p e a => .move (dev p) (dev e) (dev a)
  | .sg A B => .sg (dev A) (dev B)
  | .pair T a b => .pair (dev T) (dev a) (dev b)
  | .fst a => .fst (dev a)
  | .snd a => .snd (dev a)
theorem Par.tri {t t' : Tm} (h : Par t t') : Par t' (dev t) := by
  induction h with
  | beta h1 h2 i1 i2 => exact i1.inst i2
  | ez h i => exact i
  | es h1 h2 h3 h4 i1 i2 i3 i4 => exact .app (.app i3 i4) (.elim i1 i2 i3 i4)
  | mr h i => exact i
  | fp h i => exact i
  | sp h i => exact i
  | @app A A' B B' h1 h2 i1 i2 =>
    cases A with
    | lam X b =>
      cases h1 with
      | lam k1 k2 =>
        simp only [dev] at i1 ⊢
        cases i1 with
        | lam j1 j2 => exact .beta j2 i2
    | _ => simp only [dev] at i1 ⊢; exact .app i1 i2
  | @elim p p' z z' s s' a a' h1 h2 h3 h4 i1 i2 i3 i4 =>
    cases a with
    | zero =>
      cases h4
      simp only [dev]
      exact .ez i2
    | succ b =>
      cases h4 with
      | succ k =>
        simp only [dev] at i4 ⊢
        cases i4 with
        | succ j => exact .es i1 i2 i3 j
    | _ => simp only [dev] at i4 ⊢; exact .elim i1 i2 i3 i4
  | @move p p' e e' a a' h1 h2 h3 i1 i2 i3 =>
    cases e with
    | refl b =>
      cases h2 with
      | refl k =>
        simp only [dev] at i2 ⊢
        exact .mr i3
    | _ => simp only [dev] at i2 ⊢; exact .move i1 i2 i3
  | @fst a a' h i =>
    cases a with
    | pair T x y =>
      cases h with
      | pair k1 k2 k3 =>
        simp only [dev] at i ⊢
        cases i with
        | pair j1 j2 j3 => exact .fp j2
    | _ => simp only [dev] at i ⊢; exact .fst i
  | @snd a a' h i =>
    cases a with
    | pair T x y =>
      cases h with
      | pair k1 k2 k3 =>
        simp only [dev] at i ⊢
        cases i with
        | pair j1 j2 j3 => exact .sp j3
    | _ => simp only [dev] at i ⊢; exact .snd i
  | _ => simp only [dev]; constructor <;> assumption
/-- Reduction. -/
inductive Red : Tm → Tm → Prop where
  | refl (t) : Red t t
  | step {a b c} : Par a b → Red b c → Red a c
theorem Red.one {a b : Tm} (h : Par a b) : Red a b := .step h (.refl b)
theorem Red.trans {a b c : Tm} (h : Red a b) (k : Red b c) : Red a c := by
  induction h with
  | refl => exact k
  | step h1 _ ih => exact .step h1 (ih k)
theorem Red.strip {a b : Tm} (h : Red a b) : ∀ {c : Tm}, Par a c → ∃ d, Par b d ∧ Red c d := by
  induction h with
  | refl t => intro c hc; exact ⟨c, hc, .refl c⟩
  | @step a b d h1 h2 ih =>
    intro c hc
    obtain ⟨e, he1, he2⟩ := ih (c := dev a) h1.tri
    exact ⟨e, he1, .step hc.tri he2⟩
theorem Red.meet {a b : Tm} (h : Red a b) : ∀ {c : Tm}, Red a c → ∃ d, Red b d ∧ Red c d := by
  induction h with
  | refl t => intro c hc; exact ⟨c, hc, .refl c⟩
  | @step a b d h1 h2 ih =>
    intro c hc
    obtain ⟨e, he1, he2⟩ := hc.strip h1
    obtain ⟨f, hf1, hf2⟩ := ih he2
    exact ⟨f, hf1, .step he1 hf2⟩
theorem Red.map {F : Tm → Tm} (hF : ∀ {a b}, Par a b → Par (F a) (F b)) {a b : Tm} (h : Red a b) : Red (F a) (F b) := by
  induction h with
  | refl => exact .refl _
  | step h1 _ ih => exact .step (hF h1) ih
theorem Red.sub {a b : Tm} (h : Red a b) (s : Nat → Tm) : Red (a.sub s) (b.sub s) := h.map (F := fun t => t.sub s) fun h => h.sub fun n => Par.rfl' _
theorem Red.ren {a b : Tm} (h : Red a b) (r : Nat → Nat) : Red (a.ren r) (b.ren r) := h.map (F := fun t => t.ren r) fun h => h.ren r
/-- Convertible terms. -/
def Cv (a b : Tm) : Prop := ∃ c, Red a c ∧ Red b c
theorem Cv.rfl' (a : Tm) : Cv a a := ⟨a, .refl a, .refl a⟩
theorem Cv.symm {a b : Tm} (h : Cv a b) : Cv b a := by obtain ⟨c, h1, h2⟩ := h; exact ⟨c, h2, h1⟩
theorem Cv.trans {a b c : Tm} (h : Cv a b) (k : Cv b c) : Cv a c := by
  obtain ⟨d, h1, h2⟩ := h
  obtain ⟨e, k1, k2⟩ := k
  obtain ⟨f, f1, f2⟩ := h2.meet k1
  exact ⟨f, h1.trans f1, k2.trans f2⟩
theorem Red.cv {a b : Tm} (h : Red a b) : Cv a b := ⟨b, h, .refl b⟩
theorem Par.cv {a b : Tm} (h : Par a b) : Cv a b := (Red.one h).cv
theorem Cv.map {F : Tm → Tm} (hF : ∀ {a b}, Par a b → Par (F a) (F b)) {a b : Tm} (h : Cv a b) : Cv (F a) (F b) := by
  obtain ⟨c, h1, h2⟩ := h
  exact ⟨F c, h1.map hF, h2.map hF⟩
theorem Cv.sub {a b : Tm} (h : Cv a b) (s : Nat → Tm) : Cv (a.sub s) (b.sub s) := h.map (F := fun t => t.sub s) fun h => h.sub fun n => Par.rfl' _
theorem Cv.ren {a b : Tm} (h : Cv a b) (r : Nat → Nat) : Cv (a.ren r) (b.ren r) := h.map (F := fun t => t.ren r) fun h => h.ren r
theorem Cv.pi {A A' B B' : Tm} (h : Cv A A') (k : Cv B B') : Cv (.pi A B) (.pi A' B') :=
  (h.map (F := fun x => .pi x B) fun h => .pi h (Par.rfl' _)).trans (k.map (F := fun x => .pi A' x) fun h => .pi (Par.rfl' _) h)
theorem Cv.sg {A A' B B' : Tm} (h : Cv A A') (k : Cv B B') : Cv (.sg A B) (.sg A' B') :=
  (h.map (F := fun x => .sg x B) fun h => .sg h (Par.rfl' _)).trans (k.map (F := fun x => .sg A' x) fun h => .sg (Par.rfl' _) h)
theorem Cv.lam {A A' B B' : Tm} (h : Cv A A') (k : Cv B B') : Cv (.lam A B) (.lam A' B') :=
  (h.map (F := fun x => .lam x B) fun h => .lam h (Par.rfl' _)).trans (k.map (F := fun x => .lam A' x) fun h => .lam (Par.rfl' _) h)
theorem Cv.app {A A' B B' : Tm} (h : Cv A A') (k : Cv B B') : Cv (.app A B) (.app A' B') :=
  (h.map (F := fun x => .app x B) fun h => .app h (Par.rfl' _)).trans (k.map (F := fun x => .app A' x) fun h => .app (Par.rfl' _) h)
theorem Cv.id {T T' a a' b b' : Tm} (h : Cv T T') (k : Cv a a') (l : Cv b b') : Cv (.id T a b) (.id T' a' b') :=
  ((h.map (F := fun x => .id x a b) fun h => .id h (Par.rfl' _) (Par.rfl' _)).trans (k.map (F := fun x => .id T' x b) fun h => .id (Par.rfl' _) h (Par.rfl' _))).trans (l.map (F := fun x => .id T' a' x) fun h => .id (Par.rfl' _) (Par.rfl' _) h)
theorem Cv.pair {T T' a a' b b' : Tm} (h : Cv T T') (k : Cv a a') (l : Cv b b') : Cv (.pair T a b) (.pair T' a' b') :=
  ((h.map (F := fun x => .pair x a b) fun h => .pair h (Par.rfl' _) (Par.rfl' _)).trans (k.map (F := fun x => .pair T' x b) fun h => .pair (Par.rfl' _) h (Par.rfl' _))).trans (l.map (F := fun x => .pair T' a' x) fun h => .pair (Par.rfl' _) (Par.rfl' _) h)
theorem Cv.move {T T' a a' b b' : Tm} (h : Cv T T') (k : Cv a a') (l : Cv b b') : Cv (.move T a b) (.move T' a' b') :=
  ((h.map (F := fun x => .move x a b) fun h => .move h (Par.rfl' _) (Par.rfl' _)).trans (k.map (F := fun x => .move T' x b) fun h => .move (Par.rfl' _) h (Par.rfl' _))).trans (l.map (F := fun x => .move T' a' x) fun h => .move (Par.rfl' _) (Par.rfl' _) h)
theorem Cv.elim {p p' z z' s s' a a' : Tm} (h1 : Cv p p') (h2 : Cv z z') (h3 : Cv s s') (h4 : Cv a a') : Cv (.elim p z s a) (.elim p' z' s' a') :=
  (((h1.map (F := fun x => .elim x z s a) fun h => .elim h (Par.rfl' _) (Par.rfl' _) (Par.rfl' _)).trans (h2.map (F := fun x => .elim p' x s a) fun h => .elim (Par.rfl' _) h (Par.rfl' _) (Par.rfl' _))).trans (h3.map (F := fun x => .elim p' z' x a) fun h => .elim (Par.rfl' _) (Par.rfl' _) h (Par.rfl' _))).trans (h4.map (F := fun x => .elim p' z' s' x) fun h => .elim (Par.rfl' _) (Par.rfl' _) (Par.rfl' _) h)
theorem Cv.succ {a a' : Tm} (h : Cv a a') : Cv (.succ a) (.succ a') := h.map (F := fun x => .succ x) fun h => .succ h
theorem Cv.refl {a a' : Tm} (h : Cv a a') : Cv (.refl a) (.refl a') := h.map (F := fun x => .refl x) fun h => .refl h
theorem Cv.fst {a a' : Tm} (h : Cv a a') : Cv (.fst a) (.fst a') := h.map (F := fun x => .fst x) fun h => .fst h
theorem Cv.snd {a a' : Tm} (h : Cv a a') : Cv (.snd a) (.snd a') := h.map (F := fun x => .snd x) fun h => .snd h
theorem Cv.subs {s s' : Nat → Tm} (h : ∀ n, Cv (s n) (s' n)) (t : Tm) : Cv (t.sub s) (t.sub s') := by
  have hu : ∀ {s s' : Nat → Tm}, (∀ n, Cv (s n) (s' n)) → ∀ n, Cv (ups s n) (ups s' n) := by
    intro s s' h n
    cases n with
    | zero => exact Cv.rfl' _
    | succ n => exact (h n).ren _
  induction t generalizing s s' with
  | var n => exact h n
  | sort n => exact Cv.rfl' _
  | nat => exact Cv.rfl' _
  | zero => exact Cv.rfl' _
  | pi A B i1 i2 => exact .pi (i1 h) (i2 (hu h))
  | sg A B i1 i2 => exact .sg (i1 h) (i2 (hu h))
  | lam A B i1 i2 => exact .lam (i1 h) (i2 (hu h))
  | app f a i1 i2 => exact .app (i1 h) (i2 h)
  | succ a i => exact .succ (i h)
  | elim p z s a i1 i2 i3 i4 => exact .elim (i1 h) (i2 h) (i3 h) (i4 h)
  | id T a b i1 i2 i3 => exact .id (i1 h) (i2 h) (i3 h)
  | refl a i => exact .refl (i h)
  | move T a b i1 i2 i3 => exact .move (i1 h) (i2 h) (i3 h)
  | pair T a b i1 i2 i3 => exact .pair (i1 h) (i2 h) (i3 h)
  | fst a i => exact .fst (i h)
  | snd a i => exact .snd (i h)
theorem Cv.cns {u u' : Tm} {s s' : Nat → Tm} (h : Cv u u') (k : ∀ n, Cv (s n) (s' n)) : ∀ n, Cv (cns u s n) (cns u' s' n) := by
  intro n
  cases n with
  | zero => exact h
  | succ n => exact k n
theorem Cv.inst {t t' u u' : Tm} (h : Cv t t') (k : Cv u u') : Cv (t.inst u) (t'.inst u') :=
  (h.sub _).trans (Cv.subs (Cv.cns k fun n => Cv.rfl' _) t')
end Go.Proofs.Ytdkamgafpphdjaa.M
