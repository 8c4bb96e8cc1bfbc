/-
  DERIVED. GIVEN WITH THE SEED: THE CARDS: each row of YtbnkbepgmenblaaGreatDoorRows.lean that lists a variable, with what it lists TIED to the program's text (the seventh form; the later family's looks); each row that meets fmt, with fmt's text TOLD by the authors' own Lean function (tested against real Go, not proved from fmt's source: count such statements apart). THE CARD IS WHAT COUNTS. Prove the row's statement (the work); the ties are given (YtbnkbepgmenblaaGreatDoorTie.lean); close each card by the builder's one call (the guide's Derived/Test/ToyasCard.lean, 'card_holds'). Laid BY PROGRAM, IN A SANDBOX (cutbox-door.mjs). By AI agents, Wed Nov 11 2026. No macro, syntax, notation, axiom, sorry.
-/
import Derived.Test.YtbnkbepgmenblaaGreatDoorRows
import GoSem.ClaimSeven
namespace Go.Proofs.YtbnkbepgmenblaaGreatDoor
namespace Rows

/-- THE TIED CARD OF 'laws.FnFunTerm'. -/
def fnFunTermCard : Claim7 := { stood := { row := fnFunTermRow, standIns := [], harness := (true, "7f90fea036bd5b5bb9aac84d9f4ed42e99c20a8709ce87a1a481f848d7aa8846"), looks := true }, kinds := [], alts := [], laidByText := true, laidKinds := [.data, .data, .data, .data, .sentinel, .sentinel, .pinned], laidTests := true, laidLooks := .later }
def FnFunTermCardSaid : Prop := Claim7.holds Tryz.pinned (.plain (OpenSpec.ofChange fnFunTermSpec)) fnFunTermCard

/-- THE SECOND FORM's CARD OF 'laws.FnFunTerm'. -/
def fnFunTermUptoCard : Claim7 := { stood := { row := fnFunTermUptoRow, standIns := [], harness := (true, "7f90fea036bd5b5bb9aac84d9f4ed42e99c20a8709ce87a1a481f848d7aa8846"), looks := true }, kinds := [], alts := [], laidByText := true, laidKinds := [.data, .data, .data, .data, .sentinel, .sentinel, .pinned], laidTests := true, laidLooks := .later }
def FnFunTermUptoCardSaid : Prop := Claim7.holds Tryz.pinned (.plain (OpenSpec.upto fnFunTermSpec)) fnFunTermUptoCard
end Rows
end Go.Proofs.YtbnkbepgmenblaaGreatDoor
