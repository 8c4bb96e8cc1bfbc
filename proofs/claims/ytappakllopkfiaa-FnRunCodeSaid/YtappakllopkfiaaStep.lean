/-
  Steps of programs, in plain Lean: put, step, run.
-/
import Derived.Test.YtappakllopkfiaaAny
import Derived.Test.YtappakllopkfiaaExtract
namespace Go.Proofs.Ytappakllopkfiaa
open Go.RowKit
set_option linter.unusedVariables false

/-- The binders of a program's node. -/
def scp (k : Int) : Int := if k = 2 then 1 else 0
mutual
/-- A program with another one for the variable of some binder. -/
def putT : Tr → Int → Tr → Tr
  | .mk k n ks, x, u => if k = 1 ∧ n = x then u else .mk k n (putTs ks (x + scp k) u)
def putTs : List Tr → Int → Tr → List Tr
  | [], _, _ => []
  | t :: ts, x, u => putT t x u :: putTs ts x u
end
/-- The node's kind. -/
def Tr.kd : Tr → Int
  | .mk k _ _ => k
def kid (ks : List Tr) (i : Nat) : Tr := ks.getD i dflt
/-- The rule of a node whose operands are values. -/
def rul (k : Int) (ks : List Tr) : Option Tr :=
  if k = 3 then (if (kid ks 0).kd = 2 then some (putT (kid (kid ks 0).kids 0) 0 (kid ks 1)) else none)
  else if k = 6 then (if (kid ks 2).kd = 4 then some (kid ks 0) else if (kid ks 2).kd = 5 then some (.mk 3 0 [.mk 3 0 [kid ks 1, kid (kid ks 2).kids 0], .mk 6 0 [kid ks 0, kid ks 1, kid (kid ks 2).kids 0]]) else none)
  else if k = 8 then (if (kid ks 0).kd = 7 then some (kid (kid ks 0).kids 0) else none)
  else if k = 9 then (if (kid ks 0).kd = 7 then some (kid (kid ks 0).kids 1) else none)
  else none
mutual
/-- A program after a step, if it makes one. -/
def stp : Tr → Option Tr
  | .mk k n ks => if isV (.mk k n ks) = true then none else match stps ks with
    | some r => r.map (Tr.mk k 0)
    | none => rul k ks
/-- The first operand that is no value makes the step; none where all are values. -/
def stps : List Tr → Option (Option (List Tr))
  | [] => none
  | t :: ts => if isV t = true then (stps ts).map (Option.map (t :: ·)) else some ((stp t).map (· :: ts))
end
/-- A run: the value, or how it ended. -/
def runC : Nat → Tr → Tr × Int
  | 0, c => if isV c = true then (c, 0) else if (stp c).isSome = true then (dflt, 1) else (dflt, 3)
  | f + 1, c => if isV c = true then (c, 0) else match stp c with
    | none => (dflt, 3)
    | some d => if valid sigC d = true then runC f d else (dflt, 2)
/-- RunCode's answer. -/
def runV (c : Tr) (f : Int) : Tr × Int := if (valid sigC c && !opnC c 0 && inR f 0 200) = true then runC f.toNat c else (dflt, 4)
end Go.Proofs.Ytappakllopkfiaa
