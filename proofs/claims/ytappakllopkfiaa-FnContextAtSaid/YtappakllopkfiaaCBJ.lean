/-
  Lemmas towards the law, 36: Nat2.
-/
import Derived.Test.YtappakllopkfiaaCBI
namespace Go.Proofs.Ytappakllopkfiaa
theorem l5Nat_any : ∀ k, k ≤ 10 → NatC k
  | 0, h => l5Nat_step 0 h (fun h0 => absurd h0 (by decide))
  | k + 1, h => l5Nat_step (k + 1) h (fun _ => l5Nat_any k (by omega))
end Go.Proofs.Ytappakllopkfiaa
