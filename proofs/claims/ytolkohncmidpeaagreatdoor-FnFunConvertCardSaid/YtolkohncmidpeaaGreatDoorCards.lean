/-
  DERIVED. GIVEN WITH THE SEED: THE CARDS: each row of YtolkohncmidpeaaGreatDoorRows.lean that lists a variable, with what it lists TIED to the program's text (the seventh form; the later family's looks); each row that meets fmt, with fmt's text TOLD by the authors' own Lean function (tested against real Go, not proved from fmt's source: count such statements apart). THE CARD IS WHAT COUNTS. Prove the row's statement (the work); the ties are given (YtolkohncmidpeaaGreatDoorTie.lean); close each card by the builder's one call (the guide's Derived/Test/ToyasCard.lean, 'card_holds'). Laid BY PROGRAM, IN A SANDBOX (cutbox-door.mjs). By AI agents, Wed Nov 11 2026. No macro, syntax, notation, axiom, sorry.
-/
import Derived.Test.YtolkohncmidpeaaGreatDoorRows
import GoSem.ClaimSeven
namespace Go.Proofs.YtolkohncmidpeaaGreatDoor
namespace Rows

/-- THE TIED CARD OF 'laws.FnDefsText'. -/
def fnDefsTextCard : Claim7 := { stood := { row := fnDefsTextRow, standIns := [], harness := (true, "bfc5702477f28c257fbaf899588acb061fcff0fd6dfd5bcd053044e3255f67da"), looks := true }, kinds := [], alts := [], laidByText := true, laidKinds := [.data, .data, .data, .data, .sentinel, .sentinel, .pinned], laidTests := true, laidLooks := .later }
def FnDefsTextCardSaid : Prop := Claim7.holds Tryz.pinned (.plain (OpenSpec.ofChange fnDefsTextSpec)) fnDefsTextCard

/-- THE TIED CARD OF 'laws.FnExactComputeFun'. -/
def fnExactComputeFunCard : Claim7 := { stood := { row := fnExactComputeFunRow, standIns := [], harness := (true, "bfc5702477f28c257fbaf899588acb061fcff0fd6dfd5bcd053044e3255f67da"), looks := true }, kinds := [], alts := [], laidByText := true, laidKinds := [.data, .data, .data, .data, .sentinel, .sentinel, .pinned], laidTests := true, laidLooks := .later }
def FnExactComputeFunCardSaid : Prop := Claim7.holds Tryz.pinned (.plain (OpenSpec.ofChange fnExactComputeFunSpec)) fnExactComputeFunCard

/-- THE TIED CARD OF 'laws.FnComputeFuel'. -/
def fnComputeFuelCard : Claim7 := { stood := { row := fnComputeFuelRow, standIns := [], harness := (true, "bfc5702477f28c257fbaf899588acb061fcff0fd6dfd5bcd053044e3255f67da"), looks := true }, kinds := [], alts := [], laidByText := true, laidKinds := [.data, .data, .data, .data, .sentinel, .sentinel, .pinned], laidTests := true, laidLooks := .later }
def FnComputeFuelCardSaid : Prop := Claim7.holds Tryz.pinned (.plain (OpenSpec.ofChange fnComputeFuelSpec)) fnComputeFuelCard

/-- THE TIED CARD OF 'laws.FnComputeFun'. -/
def fnComputeFunCard : Claim7 := { stood := { row := fnComputeFunRow, standIns := [], harness := (true, "bfc5702477f28c257fbaf899588acb061fcff0fd6dfd5bcd053044e3255f67da"), looks := true }, kinds := [], alts := [], laidByText := true, laidKinds := [.data, .data, .data, .data, .sentinel, .sentinel, .pinned], laidTests := true, laidLooks := .later }
def FnComputeFunCardSaid : Prop := Claim7.holds Tryz.pinned (.plain (OpenSpec.ofChange fnComputeFunSpec)) fnComputeFunCard

/-- THE TIED CARD OF 'laws.FnFunConvert'. -/
def fnFunConvertCard : Claim7 := { stood := { row := fnFunConvertRow, standIns := [], harness := (true, "bfc5702477f28c257fbaf899588acb061fcff0fd6dfd5bcd053044e3255f67da"), looks := true }, kinds := [], alts := [], laidByText := true, laidKinds := [.data, .data, .data, .data, .sentinel, .sentinel, .pinned], laidTests := true, laidLooks := .later }
def FnFunConvertCardSaid : Prop := Claim7.holds Tryz.pinned (.plain (OpenSpec.ofChange fnFunConvertSpec)) fnFunConvertCard

/-- THE TIED CARD OF 'laws.FnFunTerm'. -/
def fnFunTermCard : Claim7 := { stood := { row := fnFunTermRow, standIns := [], harness := (true, "bfc5702477f28c257fbaf899588acb061fcff0fd6dfd5bcd053044e3255f67da"), looks := true }, kinds := [], alts := [], laidByText := true, laidKinds := [.data, .data, .data, .data, .sentinel, .sentinel, .pinned], laidTests := true, laidLooks := .later }
def FnFunTermCardSaid : Prop := Claim7.holds Tryz.pinned (.plain (OpenSpec.ofChange fnFunTermSpec)) fnFunTermCard

/-- THE SECOND FORM's CARD OF 'laws.FnDefsText'. -/
def fnDefsTextUptoCard : Claim7 := { stood := { row := fnDefsTextUptoRow, standIns := [], harness := (true, "bfc5702477f28c257fbaf899588acb061fcff0fd6dfd5bcd053044e3255f67da"), looks := true }, kinds := [], alts := [], laidByText := true, laidKinds := [.data, .data, .data, .data, .sentinel, .sentinel, .pinned], laidTests := true, laidLooks := .later }
def FnDefsTextUptoCardSaid : Prop := Claim7.holds Tryz.pinned (.plain (OpenSpec.upto fnDefsTextSpec)) fnDefsTextUptoCard

/-- THE SECOND FORM's CARD OF 'laws.FnExactComputeFun'. -/
def fnExactComputeFunUptoCard : Claim7 := { stood := { row := fnExactComputeFunUptoRow, standIns := [], harness := (true, "bfc5702477f28c257fbaf899588acb061fcff0fd6dfd5bcd053044e3255f67da"), looks := true }, kinds := [], alts := [], laidByText := true, laidKinds := [.data, .data, .data, .data, .sentinel, .sentinel, .pinned], laidTests := true, laidLooks := .later }
def FnExactComputeFunUptoCardSaid : Prop := Claim7.holds Tryz.pinned (.plain (OpenSpec.upto fnExactComputeFunSpec)) fnExactComputeFunUptoCard

/-- THE SECOND FORM's CARD OF 'laws.FnComputeFuel'. -/
def fnComputeFuelUptoCard : Claim7 := { stood := { row := fnComputeFuelUptoRow, standIns := [], harness := (true, "bfc5702477f28c257fbaf899588acb061fcff0fd6dfd5bcd053044e3255f67da"), looks := true }, kinds := [], alts := [], laidByText := true, laidKinds := [.data, .data, .data, .data, .sentinel, .sentinel, .pinned], laidTests := true, laidLooks := .later }
def FnComputeFuelUptoCardSaid : Prop := Claim7.holds Tryz.pinned (.plain (OpenSpec.upto fnComputeFuelSpec)) fnComputeFuelUptoCard

/-- THE SECOND FORM's CARD OF 'laws.FnComputeFun'. -/
def fnComputeFunUptoCard : Claim7 := { stood := { row := fnComputeFunUptoRow, standIns := [], harness := (true, "bfc5702477f28c257fbaf899588acb061fcff0fd6dfd5bcd053044e3255f67da"), looks := true }, kinds := [], alts := [], laidByText := true, laidKinds := [.data, .data, .data, .data, .sentinel, .sentinel, .pinned], laidTests := true, laidLooks := .later }
def FnComputeFunUptoCardSaid : Prop := Claim7.holds Tryz.pinned (.plain (OpenSpec.upto fnComputeFunSpec)) fnComputeFunUptoCard

/-- THE SECOND FORM's CARD OF 'laws.FnFunConvert'. -/
def fnFunConvertUptoCard : Claim7 := { stood := { row := fnFunConvertUptoRow, standIns := [], harness := (true, "bfc5702477f28c257fbaf899588acb061fcff0fd6dfd5bcd053044e3255f67da"), looks := true }, kinds := [], alts := [], laidByText := true, laidKinds := [.data, .data, .data, .data, .sentinel, .sentinel, .pinned], laidTests := true, laidLooks := .later }
def FnFunConvertUptoCardSaid : Prop := Claim7.holds Tryz.pinned (.plain (OpenSpec.upto fnFunConvertSpec)) fnFunConvertUptoCard

/-- THE SECOND FORM's CARD OF 'laws.FnFunTerm'. -/
def fnFunTermUptoCard : Claim7 := { stood := { row := fnFunTermUptoRow, standIns := [], harness := (true, "bfc5702477f28c257fbaf899588acb061fcff0fd6dfd5bcd053044e3255f67da"), looks := true }, kinds := [], alts := [], laidByText := true, laidKinds := [.data, .data, .data, .data, .sentinel, .sentinel, .pinned], laidTests := true, laidLooks := .later }
def FnFunTermUptoCardSaid : Prop := Claim7.holds Tryz.pinned (.plain (OpenSpec.upto fnFunTermSpec)) fnFunTermUptoCard
end Rows
end Go.Proofs.YtolkohncmidpeaaGreatDoor
