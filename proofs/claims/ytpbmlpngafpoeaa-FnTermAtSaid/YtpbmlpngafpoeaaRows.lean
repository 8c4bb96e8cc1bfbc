/-
  NARROWER THAN 'FOR EVERY INPUT', by the rows' own cells (each row's printed sentence says how): FnExactDefsValid: loops · FnExactDefTypes: loops · FnExactUsedDefs: loops · FnExactRunCode: loops · FnExactUnfoldTerm: loops.
  DERIVED. THE GIVEN ROWS OF THIS SEAT. 10 by the template 'for every input the law returns true; each argument reads behind the call as it read before'; 0 by the template 'total and deterministic' (their statements: YtpbmlpngafpoeaaTotals.lean).
  GIVEN WITH THE SEED: the statements are not yours to turn. If you find one false, say at which input.
  Laid BY PROGRAM, IN A SANDBOX (cutbox-rows.mjs): the forced cells as the released guide's own fill.sh prints them over the translation a56f134f1967a812… (all of the seat's roots in one cut). By AI agents, Wed Nov 11 2026. No macro, syntax, notation, axiom, sorry.
-/
import Derived.Test.YtpbmlpngafpoeaaChecked
import GoSem.Claim
import GoSem.ClaimJoined
import GoSem.ClaimMapViews
import Derived.JoinedTies
import Derived.KernelRfl
namespace Go.Proofs.Ytpbmlpngafpoeaa
/- THE CELL 'sum', in the pinned program and in every row, IS THE sha256 OF THE DUMP (.gsa) THAT YtpbmlpngafpoeaaProg.lean LOADS. Nothing in Lean hashes anything: it is a label: what it is worth is what the hold of that sum in a sandbox is worth. -/
noncomputable def Try.pinned : Pinned := { name := "ytpbmlpngafpoeaa", sum := "a56f134f1967a8128e4bac0c62e47c67c9b866cdf1e40d1cbafa2ec7973bf435", checked := Try.checked }
namespace Rows
def none {H : Type} : Left H := { results := [], args := [] }

/-- 'laws.FnExactDefsValid': WHATEVER THE INPUT: true; the input reads as it did. -/
def fnExactDefsValidSpec : ChangeSpec := { name := "fnExactDefsValid", fn := fun _ => fun
  | [d] => { results := [.lit (.bool true)], args := [d] }
  | _ => none }
def fnExactDefsValidRow : OpenClaim := { program := "ytpbmlpngafpoeaa", sum := "a56f134f1967a8128e4bac0c62e47c67c9b866cdf1e40d1cbafa2ec7973bf435", func := "loop.example/depkernel/laws.FnExactDefsValid", spec := "fnExactDefsValid", unfollowed := true, recurses := true, loops := true, apart := false }
def FnExactDefsValidSaid : Prop := fnExactDefsValidRow.holds Try.pinned (OpenSpec.ofChange fnExactDefsValidSpec)

/-- ITS FALSE NEIGHBOUR: 'it returns false'. Refute it at one input. -/
def fnExactDefsValidWrong : ChangeSpec := { name := "fnExactDefsValid", fn := fun _ => fun
  | [d] => { results := [.lit (.bool false)], args := [d] }
  | _ => none }
def FnExactDefsValidWrongFalsely : Prop := fnExactDefsValidRow.holds Try.pinned (OpenSpec.ofChange fnExactDefsValidWrong)

/-- 'laws.FnExactDefTypes': WHATEVER THE INPUT: true; the input reads as it did. -/
def fnExactDefTypesSpec : ChangeSpec := { name := "fnExactDefTypes", fn := fun _ => fun
  | [d] => { results := [.lit (.bool true)], args := [d] }
  | _ => none }
def fnExactDefTypesRow : OpenClaim := { program := "ytpbmlpngafpoeaa", sum := "a56f134f1967a8128e4bac0c62e47c67c9b866cdf1e40d1cbafa2ec7973bf435", func := "loop.example/depkernel/laws.FnExactDefTypes", spec := "fnExactDefTypes", unfollowed := true, recurses := true, loops := true, apart := false }
def FnExactDefTypesSaid : Prop := fnExactDefTypesRow.holds Try.pinned (OpenSpec.ofChange fnExactDefTypesSpec)

/-- ITS FALSE NEIGHBOUR: 'it returns false'. Refute it at one input. -/
def fnExactDefTypesWrong : ChangeSpec := { name := "fnExactDefTypes", fn := fun _ => fun
  | [d] => { results := [.lit (.bool false)], args := [d] }
  | _ => none }
def FnExactDefTypesWrongFalsely : Prop := fnExactDefTypesRow.holds Try.pinned (OpenSpec.ofChange fnExactDefTypesWrong)

/-- 'laws.FnExactUsedDefs': WHATEVER THE INPUT: true; the input reads as it did. -/
def fnExactUsedDefsSpec : ChangeSpec := { name := "fnExactUsedDefs", fn := fun _ => fun
  | [d1, d2] => { results := [.lit (.bool true)], args := [d1, d2] }
  | _ => none }
def fnExactUsedDefsRow : OpenClaim := { program := "ytpbmlpngafpoeaa", sum := "a56f134f1967a8128e4bac0c62e47c67c9b866cdf1e40d1cbafa2ec7973bf435", func := "loop.example/depkernel/laws.FnExactUsedDefs", spec := "fnExactUsedDefs", unfollowed := true, recurses := true, loops := true, apart := false }
def FnExactUsedDefsSaid : Prop := fnExactUsedDefsRow.holds Try.pinned (OpenSpec.ofChange fnExactUsedDefsSpec)

/-- ITS FALSE NEIGHBOUR: 'it returns false'. Refute it at one input. -/
def fnExactUsedDefsWrong : ChangeSpec := { name := "fnExactUsedDefs", fn := fun _ => fun
  | [d1, d2] => { results := [.lit (.bool false)], args := [d1, d2] }
  | _ => none }
def FnExactUsedDefsWrongFalsely : Prop := fnExactUsedDefsRow.holds Try.pinned (OpenSpec.ofChange fnExactUsedDefsWrong)

/-- 'laws.FnExactRunCode': WHATEVER THE INPUT: true; the input reads as it did. -/
def fnExactRunCodeSpec : ChangeSpec := { name := "fnExactRunCode", fn := fun _ => fun
  | [d1, d2] => { results := [.lit (.bool true)], args := [d1, d2] }
  | _ => none }
def fnExactRunCodeRow : OpenClaim := { program := "ytpbmlpngafpoeaa", sum := "a56f134f1967a8128e4bac0c62e47c67c9b866cdf1e40d1cbafa2ec7973bf435", func := "loop.example/depkernel/laws.FnExactRunCode", spec := "fnExactRunCode", unfollowed := true, recurses := true, loops := true, apart := false }
def FnExactRunCodeSaid : Prop := fnExactRunCodeRow.holds Try.pinned (OpenSpec.ofChange fnExactRunCodeSpec)

/-- ITS FALSE NEIGHBOUR: 'it returns false'. Refute it at one input. -/
def fnExactRunCodeWrong : ChangeSpec := { name := "fnExactRunCode", fn := fun _ => fun
  | [d1, d2] => { results := [.lit (.bool false)], args := [d1, d2] }
  | _ => none }
def FnExactRunCodeWrongFalsely : Prop := fnExactRunCodeRow.holds Try.pinned (OpenSpec.ofChange fnExactRunCodeWrong)

/-- 'laws.FnExactUnfoldTerm': WHATEVER THE INPUT: true; the input reads as it did. -/
def fnExactUnfoldTermSpec : ChangeSpec := { name := "fnExactUnfoldTerm", fn := fun _ => fun
  | [d1, d2] => { results := [.lit (.bool true)], args := [d1, d2] }
  | _ => none }
def fnExactUnfoldTermRow : OpenClaim := { program := "ytpbmlpngafpoeaa", sum := "a56f134f1967a8128e4bac0c62e47c67c9b866cdf1e40d1cbafa2ec7973bf435", func := "loop.example/depkernel/laws.FnExactUnfoldTerm", spec := "fnExactUnfoldTerm", unfollowed := true, recurses := true, loops := true, apart := false }
def FnExactUnfoldTermSaid : Prop := fnExactUnfoldTermRow.holds Try.pinned (OpenSpec.ofChange fnExactUnfoldTermSpec)

/-- ITS FALSE NEIGHBOUR: 'it returns false'. Refute it at one input. -/
def fnExactUnfoldTermWrong : ChangeSpec := { name := "fnExactUnfoldTerm", fn := fun _ => fun
  | [d1, d2] => { results := [.lit (.bool false)], args := [d1, d2] }
  | _ => none }
def FnExactUnfoldTermWrongFalsely : Prop := fnExactUnfoldTermRow.holds Try.pinned (OpenSpec.ofChange fnExactUnfoldTermWrong)

/-- 'laws.FnExtractMove': WHATEVER THE INPUT: true; the input reads as it did. -/
def fnExtractMoveSpec : ChangeSpec := { name := "fnExtractMove", fn := fun _ => fun
  | [d] => { results := [.lit (.bool true)], args := [d] }
  | _ => none }
def fnExtractMoveRow : OpenClaim := { program := "ytpbmlpngafpoeaa", sum := "a56f134f1967a8128e4bac0c62e47c67c9b866cdf1e40d1cbafa2ec7973bf435", func := "loop.example/depkernel/laws.FnExtractMove", spec := "fnExtractMove", unfollowed := true, recurses := true, apart := false }
def FnExtractMoveSaid : Prop := fnExtractMoveRow.holds Try.pinned (OpenSpec.ofChange fnExtractMoveSpec)

/-- ITS FALSE NEIGHBOUR: 'it returns false'. Refute it at one input. -/
def fnExtractMoveWrong : ChangeSpec := { name := "fnExtractMove", fn := fun _ => fun
  | [d] => { results := [.lit (.bool false)], args := [d] }
  | _ => none }
def FnExtractMoveWrongFalsely : Prop := fnExtractMoveRow.holds Try.pinned (OpenSpec.ofChange fnExtractMoveWrong)

/-- 'laws.FnExtractSize': WHATEVER THE INPUT: true; the input reads as it did. -/
def fnExtractSizeSpec : ChangeSpec := { name := "fnExtractSize", fn := fun _ => fun
  | [d] => { results := [.lit (.bool true)], args := [d] }
  | _ => none }
def fnExtractSizeRow : OpenClaim := { program := "ytpbmlpngafpoeaa", sum := "a56f134f1967a8128e4bac0c62e47c67c9b866cdf1e40d1cbafa2ec7973bf435", func := "loop.example/depkernel/laws.FnExtractSize", spec := "fnExtractSize", unfollowed := true, recurses := true, apart := false }
def FnExtractSizeSaid : Prop := fnExtractSizeRow.holds Try.pinned (OpenSpec.ofChange fnExtractSizeSpec)

/-- ITS FALSE NEIGHBOUR: 'it returns false'. Refute it at one input. -/
def fnExtractSizeWrong : ChangeSpec := { name := "fnExtractSize", fn := fun _ => fun
  | [d] => { results := [.lit (.bool false)], args := [d] }
  | _ => none }
def FnExtractSizeWrongFalsely : Prop := fnExtractSizeRow.holds Try.pinned (OpenSpec.ofChange fnExtractSizeWrong)

/-- 'laws.FnNormalPlaces': WHATEVER THE INPUT: true; the input reads as it did. -/
def fnNormalPlacesSpec : ChangeSpec := { name := "fnNormalPlaces", fn := fun _ => fun
  | [d] => { results := [.lit (.bool true)], args := [d] }
  | _ => none }
def fnNormalPlacesRow : OpenClaim := { program := "ytpbmlpngafpoeaa", sum := "a56f134f1967a8128e4bac0c62e47c67c9b866cdf1e40d1cbafa2ec7973bf435", func := "loop.example/depkernel/laws.FnNormalPlaces", spec := "fnNormalPlaces", unfollowed := true, recurses := true, apart := false }
def FnNormalPlacesSaid : Prop := fnNormalPlacesRow.holds Try.pinned (OpenSpec.ofChange fnNormalPlacesSpec)

/-- ITS FALSE NEIGHBOUR: 'it returns false'. Refute it at one input. -/
def fnNormalPlacesWrong : ChangeSpec := { name := "fnNormalPlaces", fn := fun _ => fun
  | [d] => { results := [.lit (.bool false)], args := [d] }
  | _ => none }
def FnNormalPlacesWrongFalsely : Prop := fnNormalPlacesRow.holds Try.pinned (OpenSpec.ofChange fnNormalPlacesWrong)

/-- 'laws.FnPlacesOf': WHATEVER THE INPUT: true; the input reads as it did. -/
def fnPlacesOfSpec : ChangeSpec := { name := "fnPlacesOf", fn := fun _ => fun
  | [d] => { results := [.lit (.bool true)], args := [d] }
  | _ => none }
def fnPlacesOfRow : OpenClaim := { program := "ytpbmlpngafpoeaa", sum := "a56f134f1967a8128e4bac0c62e47c67c9b866cdf1e40d1cbafa2ec7973bf435", func := "loop.example/depkernel/laws.FnPlacesOf", spec := "fnPlacesOf", unfollowed := true, recurses := true, apart := false }
def FnPlacesOfSaid : Prop := fnPlacesOfRow.holds Try.pinned (OpenSpec.ofChange fnPlacesOfSpec)

/-- ITS FALSE NEIGHBOUR: 'it returns false'. Refute it at one input. -/
def fnPlacesOfWrong : ChangeSpec := { name := "fnPlacesOf", fn := fun _ => fun
  | [d] => { results := [.lit (.bool false)], args := [d] }
  | _ => none }
def FnPlacesOfWrongFalsely : Prop := fnPlacesOfRow.holds Try.pinned (OpenSpec.ofChange fnPlacesOfWrong)

/-- 'laws.FnTermAt': WHATEVER THE INPUT: true; the input reads as it did. -/
def fnTermAtSpec : ChangeSpec := { name := "fnTermAt", fn := fun _ => fun
  | [d1, d2] => { results := [.lit (.bool true)], args := [d1, d2] }
  | _ => none }
def fnTermAtRow : OpenClaim := { program := "ytpbmlpngafpoeaa", sum := "a56f134f1967a8128e4bac0c62e47c67c9b866cdf1e40d1cbafa2ec7973bf435", func := "loop.example/depkernel/laws.FnTermAt", spec := "fnTermAt", unfollowed := true, recurses := true, apart := false }
def FnTermAtSaid : Prop := fnTermAtRow.holds Try.pinned (OpenSpec.ofChange fnTermAtSpec)

/-- ITS FALSE NEIGHBOUR: 'it returns false'. Refute it at one input. -/
def fnTermAtWrong : ChangeSpec := { name := "fnTermAt", fn := fun _ => fun
  | [d1, d2] => { results := [.lit (.bool false)], args := [d1, d2] }
  | _ => none }
def FnTermAtWrongFalsely : Prop := fnTermAtRow.holds Try.pinned (OpenSpec.ofChange fnTermAtWrong)

/- THE SECOND FORM. 'bulk': how many values and letters a reading holds, each counted each time it is reached (what is shared counts as often as it is met; a slice's spare places count too). A statement '..UptoSaid' is the law's where the arguments, and the package variables that the reading takes, are together of bulk at most 1048576: NARROWER than '..Said'. Prove '..Said' where nothing that the law and all that it calls make is longer than what came in: it says more and counts as full. Else prove '..UptoSaid'. A law counts once. -/
mutual
def uptoBulk {H : Type} : DataW H → Nat
  | .lit (.string bytes) => bytes.length + 1
  | .lit _ => 1
  | .nil => 1
  | .ptr d => uptoBulk d + 1
  | .slice elems spare => uptoBulkAll elems + uptoBulkAll spare + 1
  | .agg parts => uptoBulkAll parts + 1
  | .iface _ d => uptoBulk d + 1
  | .map entries => uptoBulkEntries entries + 1
  | .held _ => 1
def uptoBulkAll {H : Type} : List (DataW H) → Nat
  | [] => 0
  | d :: r => uptoBulk d + uptoBulkAll r
def uptoBulkEntries {H : Type} : List (Lit × DataW H) → Nat
  | [] => 0
  | x :: r => uptoBulkEntry x + uptoBulkEntries r
def uptoBulkEntry {H : Type} : Lit × DataW H → Nat
  | (.string bytes, d) => bytes.length + uptoBulk d + 1
  | (_, d) => uptoBulk d + 1
 end
def uptoSmall : (H : Type) → List (DataW H) → Bool := fun _ ds => decide (uptoBulkAll ds ≤ 1048576)
def OpenSpec.upto (s : _root_.Go.ChangeSpec) : _root_.Go.OpenSpec := { _root_.Go.OpenSpec.ofChange s with cond := some uptoSmall }

/-- 'laws.FnExactDefsValid', WHERE WHAT IT READS IS OF BULK AT MOST 1048576: true; the input reads as it did. -/
def fnExactDefsValidUptoRow : OpenClaim := { program := "ytpbmlpngafpoeaa", sum := "a56f134f1967a8128e4bac0c62e47c67c9b866cdf1e40d1cbafa2ec7973bf435", func := "loop.example/depkernel/laws.FnExactDefsValid", spec := "fnExactDefsValid", unfollowed := true, recurses := true, loops := true, apart := false, narrowed := true }
def FnExactDefsValidUptoSaid : Prop := fnExactDefsValidUptoRow.holds Try.pinned (OpenSpec.upto fnExactDefsValidSpec)

/-- 'laws.FnExactDefTypes', WHERE WHAT IT READS IS OF BULK AT MOST 1048576: true; the input reads as it did. -/
def fnExactDefTypesUptoRow : OpenClaim := { program := "ytpbmlpngafpoeaa", sum := "a56f134f1967a8128e4bac0c62e47c67c9b866cdf1e40d1cbafa2ec7973bf435", func := "loop.example/depkernel/laws.FnExactDefTypes", spec := "fnExactDefTypes", unfollowed := true, recurses := true, loops := true, apart := false, narrowed := true }
def FnExactDefTypesUptoSaid : Prop := fnExactDefTypesUptoRow.holds Try.pinned (OpenSpec.upto fnExactDefTypesSpec)

/-- 'laws.FnExactUsedDefs', WHERE WHAT IT READS IS OF BULK AT MOST 1048576: true; the input reads as it did. -/
def fnExactUsedDefsUptoRow : OpenClaim := { program := "ytpbmlpngafpoeaa", sum := "a56f134f1967a8128e4bac0c62e47c67c9b866cdf1e40d1cbafa2ec7973bf435", func := "loop.example/depkernel/laws.FnExactUsedDefs", spec := "fnExactUsedDefs", unfollowed := true, recurses := true, loops := true, apart := false, narrowed := true }
def FnExactUsedDefsUptoSaid : Prop := fnExactUsedDefsUptoRow.holds Try.pinned (OpenSpec.upto fnExactUsedDefsSpec)

/-- 'laws.FnExactRunCode', WHERE WHAT IT READS IS OF BULK AT MOST 1048576: true; the input reads as it did. -/
def fnExactRunCodeUptoRow : OpenClaim := { program := "ytpbmlpngafpoeaa", sum := "a56f134f1967a8128e4bac0c62e47c67c9b866cdf1e40d1cbafa2ec7973bf435", func := "loop.example/depkernel/laws.FnExactRunCode", spec := "fnExactRunCode", unfollowed := true, recurses := true, loops := true, apart := false, narrowed := true }
def FnExactRunCodeUptoSaid : Prop := fnExactRunCodeUptoRow.holds Try.pinned (OpenSpec.upto fnExactRunCodeSpec)

/-- 'laws.FnExactUnfoldTerm', WHERE WHAT IT READS IS OF BULK AT MOST 1048576: true; the input reads as it did. -/
def fnExactUnfoldTermUptoRow : OpenClaim := { program := "ytpbmlpngafpoeaa", sum := "a56f134f1967a8128e4bac0c62e47c67c9b866cdf1e40d1cbafa2ec7973bf435", func := "loop.example/depkernel/laws.FnExactUnfoldTerm", spec := "fnExactUnfoldTerm", unfollowed := true, recurses := true, loops := true, apart := false, narrowed := true }
def FnExactUnfoldTermUptoSaid : Prop := fnExactUnfoldTermUptoRow.holds Try.pinned (OpenSpec.upto fnExactUnfoldTermSpec)

/-- 'laws.FnExtractMove', WHERE WHAT IT READS IS OF BULK AT MOST 1048576: true; the input reads as it did. -/
def fnExtractMoveUptoRow : OpenClaim := { program := "ytpbmlpngafpoeaa", sum := "a56f134f1967a8128e4bac0c62e47c67c9b866cdf1e40d1cbafa2ec7973bf435", func := "loop.example/depkernel/laws.FnExtractMove", spec := "fnExtractMove", unfollowed := true, recurses := true, apart := false, narrowed := true }
def FnExtractMoveUptoSaid : Prop := fnExtractMoveUptoRow.holds Try.pinned (OpenSpec.upto fnExtractMoveSpec)

/-- 'laws.FnExtractSize', WHERE WHAT IT READS IS OF BULK AT MOST 1048576: true; the input reads as it did. -/
def fnExtractSizeUptoRow : OpenClaim := { program := "ytpbmlpngafpoeaa", sum := "a56f134f1967a8128e4bac0c62e47c67c9b866cdf1e40d1cbafa2ec7973bf435", func := "loop.example/depkernel/laws.FnExtractSize", spec := "fnExtractSize", unfollowed := true, recurses := true, apart := false, narrowed := true }
def FnExtractSizeUptoSaid : Prop := fnExtractSizeUptoRow.holds Try.pinned (OpenSpec.upto fnExtractSizeSpec)

/-- 'laws.FnNormalPlaces', WHERE WHAT IT READS IS OF BULK AT MOST 1048576: true; the input reads as it did. -/
def fnNormalPlacesUptoRow : OpenClaim := { program := "ytpbmlpngafpoeaa", sum := "a56f134f1967a8128e4bac0c62e47c67c9b866cdf1e40d1cbafa2ec7973bf435", func := "loop.example/depkernel/laws.FnNormalPlaces", spec := "fnNormalPlaces", unfollowed := true, recurses := true, apart := false, narrowed := true }
def FnNormalPlacesUptoSaid : Prop := fnNormalPlacesUptoRow.holds Try.pinned (OpenSpec.upto fnNormalPlacesSpec)

/-- 'laws.FnPlacesOf', WHERE WHAT IT READS IS OF BULK AT MOST 1048576: true; the input reads as it did. -/
def fnPlacesOfUptoRow : OpenClaim := { program := "ytpbmlpngafpoeaa", sum := "a56f134f1967a8128e4bac0c62e47c67c9b866cdf1e40d1cbafa2ec7973bf435", func := "loop.example/depkernel/laws.FnPlacesOf", spec := "fnPlacesOf", unfollowed := true, recurses := true, apart := false, narrowed := true }
def FnPlacesOfUptoSaid : Prop := fnPlacesOfUptoRow.holds Try.pinned (OpenSpec.upto fnPlacesOfSpec)

/-- 'laws.FnTermAt', WHERE WHAT IT READS IS OF BULK AT MOST 1048576: true; the input reads as it did. -/
def fnTermAtUptoRow : OpenClaim := { program := "ytpbmlpngafpoeaa", sum := "a56f134f1967a8128e4bac0c62e47c67c9b866cdf1e40d1cbafa2ec7973bf435", func := "loop.example/depkernel/laws.FnTermAt", spec := "fnTermAt", unfollowed := true, recurses := true, apart := false, narrowed := true }
def FnTermAtUptoSaid : Prop := fnTermAtUptoRow.holds Try.pinned (OpenSpec.upto fnTermAtSpec)

end Rows
end Go.Proofs.Ytpbmlpngafpoeaa
