/-
  Lemmas towards the law, 11: MTm.
-/
namespace Go.Proofs.YtghmpdnlkldigaaGreatDoor.M
set_option linter.unusedVariables false
inductive Tm where
  | var (n : Nat)
  | sort (n : Nat)
  | pi (A B : Tm)
  | lam (A t : Tm)
  | app (f a : Tm)
  | nat
  | zero
  | succ (a : Tm)
  | elim (p z s a : Tm)
  | id (T a b : Tm)
  | refl (a : Tm)
  | move (p e a : Tm)
  | sg (A B : Tm)
  | pair (T a b : Tm)
  | fst (a : Tm)
  | snd (a : Tm)
  deriving DecidableEq
namespace Tm
/-- A renaming below a binder. -/
def upr (r : Nat → Nat) : Nat → Nat
  | 0 => 0
  | n + 1 => r n + 1
def ren (r : Nat → Nat) : Tm → Tm
  | var n => var (r n)
  | sort n => sort n
  | pi A B => pi (A.ren r) (B.ren (upr r))
  | lam A t => lam (A.ren r) (t.ren (upr r))
  | app f a => app (f.ren r) (a.ren r)
  | nat => nat
  | zero => zero
  | succ a => succ (a.ren r)
  | elim p z s a => elim (p.ren r) (z.ren r) (s.ren r) (a.ren r)
  | id T a b => id (T.ren r) (a.ren r) (b.ren r)
  | refl a => refl (a.ren r)
  | move p e a => move (p.ren r) (e.ren r) (a.ren r)
  | sg A B => sg (A.ren r) (B.ren (upr r))
  | pair T a b => pair (T.ren r) (a.ren r) (b.ren r)
  | fst a => fst (a.ren r)
  | snd a => snd (a.ren r)
/-- One more variable. -/
abbrev wk (t : Tm) : Tm := t.ren Nat.succ
def ups (s : Nat → Tm) : Nat → Tm
  | 0 => var 0
  | n + 1 => wk (s n)
def sub (s : Nat → Tm) : Tm → Tm
  | var n => s n
  | sort n => sort n
  | pi A B => pi (A.sub s) (B.sub (ups s))
  | lam A t => lam (A.sub s) (t.sub (ups s))
  | app f a => app (f.sub s) (a.sub s)
  | nat => nat
  | zero => zero
  | succ a => succ (a.sub s)
  | elim p z s' a => elim (p.sub s) (z.sub s) (s'.sub s) (a.sub s)
  | id T a b => id (T.sub s) (a.sub s) (b.sub s)
  | refl a => refl (a.sub s)
  | move p e a => move (p.sub s) (e.sub s) (a.sub s)
  | sg A B => sg (A.sub s) (B.sub (ups s))
  | pair T a b => pair (T.sub s) (a.sub s) (b.sub s)
  | fst a => fst (a.sub s)
  | snd a => snd (a.sub s)
/-- The term u for the variable 0. -/
def cns (u : Tm) (s : Nat → Tm) : Nat → Tm
  | 0 => u
  | n + 1 => s n
def inst (t u : Tm) : Tm := t.sub (cns u var)
theorem upr_comp (r q : Nat → Nat) : upr (fun n => r (q n)) = fun n => upr r (upr q n) := by
  funext n; cases n <;> rfl
theorem ups_var : ups var = var := by
  funext n; cases n <;> rfl
theorem ren_ren (t : Tm) : ∀ (r q : Nat → Nat), (t.ren q).ren r = t.ren (fun n => r (q n)) := by
  induction t <;> intro r q <;> simp only [ren, *] <;> simp only [upr_comp]
theorem ups_upr (s : Nat → Tm) (q : Nat → Nat) : (fun n => ups s (upr q n)) = ups (fun n => s (q n)) := by
  funext n; cases n <;> rfl
theorem sub_ren (t : Tm) : ∀ (s : Nat → Tm) (q : Nat → Nat), (t.ren q).sub s = t.sub (fun n => s (q n)) := by
  induction t <;> intro s q <;> simp only [ren, sub, *] <;> simp only [ups_upr]
theorem ren_ups (s : Nat → Tm) (r : Nat → Nat) : (fun n => (ups s n).ren (upr r)) = ups (fun n => (s n).ren r) := by
  funext n
  cases n with
  | zero => rfl
  | succ n =>
    show ((s n).ren Nat.succ).ren (upr r) = ((s n).ren r).ren Nat.succ
    rw [ren_ren, ren_ren]
    rfl
theorem ren_sub (t : Tm) : ∀ (s : Nat → Tm) (r : Nat → Nat), (t.sub s).ren r = t.sub (fun n => (s n).ren r) := by
  induction t <;> intro s r <;> simp only [ren, sub, *] <;> simp only [ren_ups]
theorem ups_ups (s q : Nat → Tm) : (fun n => (ups q n).sub (ups s)) = ups (fun n => (q n).sub s) := by
  funext n
  cases n with
  | zero => rfl
  | succ n =>
    show ((q n).ren Nat.succ).sub (ups s) = ((q n).sub s).ren Nat.succ
    rw [sub_ren, ren_sub]
    rfl
theorem sub_sub (t : Tm) : ∀ (s q : Nat → Tm), (t.sub q).sub s = t.sub (fun n => (q n).sub s) := by
  induction t <;> intro s q <;> simp only [sub, *] <;> simp only [ups_ups]
theorem sub_var (t : Tm) : t.sub var = t := by
  induction t <;> simp only [sub, ups_var, *]
theorem ups_varr (r : Nat → Nat) : ups (fun n => var (r n)) = fun n => var (upr r n) := by
  funext n; cases n <;> rfl
theorem ren_eq (t : Tm) : ∀ r : Nat → Nat, t.ren r = t.sub (fun n => var (r n)) := by
  induction t <;> intro r <;> simp only [ren, sub, *] <;> simp only [ups_varr]
theorem wk_cns (t u : Tm) (s : Nat → Tm) : (wk t).sub (cns u s) = t.sub s := by
  rw [sub_ren]; rfl
theorem cns_sub (u : Tm) (q s : Nat → Tm) : (fun n => (cns u q n).sub s) = cns (u.sub s) (fun n => (q n).sub s) := by
  funext n; cases n <;> rfl
theorem ups_cns (u : Tm) (q s : Nat → Tm) : (fun n => (ups q n).sub (cns u s)) = cns u (fun n => (q n).sub s) := by
  funext n
  cases n with
  | zero => rfl
  | succ n => exact wk_cns _ _ _
theorem inst_sub (t u : Tm) (s : Nat → Tm) : (t.inst u).sub s = (t.sub (ups s)).inst (u.sub s) := by
  unfold inst
  rw [sub_sub, sub_sub, cns_sub, ups_cns]
  congr 1
  funext n
  cases n with
  | zero => rfl
  | succ n => exact (sub_var (s n)).symm
theorem inst_ren (t u : Tm) (r : Nat → Nat) : (t.inst u).ren r = (t.ren (upr r)).inst (u.ren r) := by
  rw [ren_eq, inst_sub, ren_eq t, ren_eq u, ups_varr]
end Tm
end Go.Proofs.YtghmpdnlkldigaaGreatDoor.M
