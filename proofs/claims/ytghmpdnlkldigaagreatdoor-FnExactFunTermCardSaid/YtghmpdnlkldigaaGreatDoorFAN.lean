/-
  Lemmas towards the law, 14: MEnc, FunP.
-/
import Derived.Test.YtghmpdnlkldigaaGreatDoorFAH
import Derived.Test.YtghmpdnlkldigaaGreatDoorFAJ
import Derived.Test.YtghmpdnlkldigaaGreatDoorFAM
import Derived.Lib.Replace
namespace Go.Proofs.YtghmpdnlkldigaaGreatDoor
set_option linter.unusedVariables false
/-- The tree of a term. -/
def enc : M.Tm → Tr
  | .var n => .mk 1 n []
  | .sort n => .mk 2 n []
  | .pi A B => .mk 3 0 [enc A, enc B]
  | .lam A t => .mk 4 0 [enc A, enc t]
  | .app f a => .mk 5 0 [enc f, enc a]
  | .nat => .mk 6 0 []
  | .zero => .mk 7 0 []
  | .succ a => .mk 8 0 [enc a]
  | .elim p z s a => .mk 9 0 [enc p, enc z, enc s, enc a]
  | .id T a b => .mk 10 0 [enc T, enc a, enc b]
  | .refl a => .mk 11 0 [enc a]
  | .move p e a => .mk 12 0 [enc p, enc e, enc a]
  | .sg A B => .mk 13 0 [enc A, enc B]
  | .pair T a b => .mk 14 0 [enc T, enc a, enc b]
  | .fst a => .mk 15 0 [enc a]
  | .snd a => .mk 16 0 [enc a]
end Go.Proofs.YtghmpdnlkldigaaGreatDoor
namespace Go.Proofs.YtghmpdnlkldigaaGreatDoor
set_option linter.unusedVariables false
def plusT : M.Tm := .lam .nat (.lam .nat (.elim (.lam .nat .nat) (.var 1) (.lam .nat (.lam .nat (.succ (.var 0)))) (.var 0)))
def predT : M.Tm := .lam .nat (.elim (.lam .nat .nat) .zero (.lam .nat (.lam .nat (.var 1))) (.var 0))
def timesT : M.Tm := .lam .nat (.lam .nat (.elim (.lam .nat .nat) .zero (.lam .nat (.lam .nat (.app (.app plusT (.var 2)) (.var 0)))) (.var 1)))
def minusT : M.Tm := .lam .nat (.lam .nat (.elim (.lam .nat .nat) (.var 1) (.lam .nat (.lam .nat (.app predT (.var 0)))) (.var 0)))
def isZeroT : M.Tm := .lam .nat (.elim (.lam .nat .nat) (.succ .zero) (.lam .nat (.lam .nat .zero)) (.var 0))
def doubleT : M.Tm := .lam .nat (.elim (.lam .nat .nat) .zero (.lam .nat (.lam .nat (.succ (.succ (.var 0))))) (.var 0))
def twiceT : M.Tm := .lam (.pi .nat .nat) (.lam .nat (.app (.var 1) (.app (.var 1) (.var 0))))
/-- The term of a function. -/
def fnT (k : Int) : Option M.Tm := if k = 1 then some plusT else if k = 2 then some timesT else if k = 3 then some predT else if k = 4 then some minusT else if k = 5 then some isZeroT else if k = 6 then some doubleT else if k = 7 then some twiceT else none
/-- The program's texts. -/
def ftx (k : Int) : List UInt8 := if k = 1 then [91, 78, 93, 91, 78, 93, 60, 91, 78, 93, 78, 44, 35, 49, 44, 91, 78, 93, 91, 78, 93, 43, 35, 48, 44, 35, 48, 62]
  else if k = 2 then [91, 78, 93, 91, 78, 93, 60, 91, 78, 93, 78, 44, 48, 44, 91, 78, 93, 91, 78, 93, 40, 40, 80, 32, 35, 50, 41, 32, 35, 48, 41, 44, 35, 49, 62]
  else if k = 3 then [91, 78, 93, 60, 91, 78, 93, 78, 44, 48, 44, 91, 78, 93, 91, 78, 93, 35, 49, 44, 35, 48, 62]
  else if k = 4 then [91, 78, 93, 91, 78, 93, 60, 91, 78, 93, 78, 44, 35, 49, 44, 91, 78, 93, 91, 78, 93, 40, 81, 32, 35, 48, 41, 44, 35, 48, 62]
  else if k = 5 then [91, 78, 93, 60, 91, 78, 93, 78, 44, 43, 48, 44, 91, 78, 93, 91, 78, 93, 48, 44, 35, 48, 62]
  else if k = 6 then [91, 78, 93, 60, 91, 78, 93, 78, 44, 48, 44, 91, 78, 93, 91, 78, 93, 43, 43, 35, 48, 44, 35, 48, 62]
  else if k = 7 then [91, 40, 78, 62, 78, 41, 93, 91, 78, 93, 40, 35, 49, 32, 40, 35, 49, 32, 35, 48, 41, 41] else []
/-- The text of the term. -/
def gtx (k : Int) : List UInt8 := match fnT k with
  | some t => fmtL (enc t)
  | none => []
theorem rep_all : ∀ k : Fin 8, Lib.replaceAll (ftx k.val) [80] (ftx 1) = (if k.val = 2 then gtx 2 else ftx k.val) ∧ Lib.replaceAll (if k.val = 2 then gtx 2 else ftx k.val) [81] (ftx 3) = gtx k.val := by decide +kernel
end Go.Proofs.YtghmpdnlkldigaaGreatDoor
