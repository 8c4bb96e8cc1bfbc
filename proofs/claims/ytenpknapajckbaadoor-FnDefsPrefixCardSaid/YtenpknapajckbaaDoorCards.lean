/-
  DERIVED. GIVEN WITH THE SEED: THE CARDS: each row of YtenpknapajckbaaDoorRows.lean that lists a variable, with what it lists TIED to the program's text (the seventh form; the later family's looks); each row that meets fmt, with fmt's text TOLD by the authors' own Lean function (tested against real Go, not proved from fmt's source: count such statements apart). THE CARD IS WHAT COUNTS. Prove the row's statement (the work); the ties are given (YtenpknapajckbaaDoorTie.lean); close each card by the builder's one call (the guide's Derived/Test/ToyasCard.lean, 'card_holds'). Laid BY PROGRAM, IN A SANDBOX (cutbox-door.mjs). By AI agents, Wed Nov 11 2026. No macro, syntax, notation, axiom, sorry.
-/
import Derived.Test.YtenpknapajckbaaDoorRows
import GoSem.ClaimSeven
namespace Go.Proofs.YtenpknapajckbaaDoor
namespace Rows

/-- THE TIED CARD OF 'laws.FnExactFormatCode'. -/
def fnExactFormatCodeCard : Claim7 := { stood := { row := fnExactFormatCodeRow, standIns := [], harness := (true, "1c5dddb723e3abdc0f990a1fc12b0716a04e2a5c86fceae934966b235bbbb3c5"), looks := false }, kinds := [], alts := [], laidByText := true, laidKinds := [.data, .data, .data, .data, .pinned], laidTests := true, laidLooks := .later }
def FnExactFormatCodeCardSaid : Prop := Claim7.holds Tryd.pinned (.plain (OpenSpec.ofChange fnExactFormatCodeSpec)) fnExactFormatCodeCard

/-- THE TIED CARD OF 'laws.FnExactFormatDefs'. -/
def fnExactFormatDefsCard : Claim7 := { stood := { row := fnExactFormatDefsRow, standIns := [], harness := (true, "1c5dddb723e3abdc0f990a1fc12b0716a04e2a5c86fceae934966b235bbbb3c5"), looks := false }, kinds := [], alts := [], laidByText := true, laidKinds := [.data, .data, .data, .data, .pinned], laidTests := true, laidLooks := .later }
def FnExactFormatDefsCardSaid : Prop := Claim7.holds Tryd.pinned (.plain (OpenSpec.ofChange fnExactFormatDefsSpec)) fnExactFormatDefsCard

/-- THE TIED CARD OF 'laws.FnDefsPrefix'. -/
def fnDefsPrefixCard : Claim7 := { stood := { row := fnDefsPrefixRow, standIns := [], harness := (true, "1c5dddb723e3abdc0f990a1fc12b0716a04e2a5c86fceae934966b235bbbb3c5"), looks := false }, kinds := [], alts := [], laidByText := true, laidKinds := [.data, .data, .data, .data, .pinned], laidTests := true, laidLooks := .later }
def FnDefsPrefixCardSaid : Prop := Claim7.holds Tryd.pinned (.plain (OpenSpec.ofChange fnDefsPrefixSpec)) fnDefsPrefixCard

/-- THE SECOND FORM's CARD OF 'laws.FnExactFormatCode'. -/
def fnExactFormatCodeUptoCard : Claim7 := { stood := { row := fnExactFormatCodeUptoRow, standIns := [], harness := (true, "1c5dddb723e3abdc0f990a1fc12b0716a04e2a5c86fceae934966b235bbbb3c5"), looks := false }, kinds := [], alts := [], laidByText := true, laidKinds := [.data, .data, .data, .data, .pinned], laidTests := true, laidLooks := .later }
def FnExactFormatCodeUptoCardSaid : Prop := Claim7.holds Tryd.pinned (.plain (OpenSpec.upto fnExactFormatCodeSpec)) fnExactFormatCodeUptoCard

/-- THE SECOND FORM's CARD OF 'laws.FnExactFormatDefs'. -/
def fnExactFormatDefsUptoCard : Claim7 := { stood := { row := fnExactFormatDefsUptoRow, standIns := [], harness := (true, "1c5dddb723e3abdc0f990a1fc12b0716a04e2a5c86fceae934966b235bbbb3c5"), looks := false }, kinds := [], alts := [], laidByText := true, laidKinds := [.data, .data, .data, .data, .pinned], laidTests := true, laidLooks := .later }
def FnExactFormatDefsUptoCardSaid : Prop := Claim7.holds Tryd.pinned (.plain (OpenSpec.upto fnExactFormatDefsSpec)) fnExactFormatDefsUptoCard

/-- THE SECOND FORM's CARD OF 'laws.FnDefsPrefix'. -/
def fnDefsPrefixUptoCard : Claim7 := { stood := { row := fnDefsPrefixUptoRow, standIns := [], harness := (true, "1c5dddb723e3abdc0f990a1fc12b0716a04e2a5c86fceae934966b235bbbb3c5"), looks := false }, kinds := [], alts := [], laidByText := true, laidKinds := [.data, .data, .data, .data, .pinned], laidTests := true, laidLooks := .later }
def FnDefsPrefixUptoCardSaid : Prop := Claim7.holds Tryd.pinned (.plain (OpenSpec.upto fnDefsPrefixSpec)) fnDefsPrefixUptoCard
end Rows
end Go.Proofs.YtenpknapajckbaaDoor
