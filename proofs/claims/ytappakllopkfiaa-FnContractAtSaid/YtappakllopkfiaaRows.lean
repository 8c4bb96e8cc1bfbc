/-
  NARROWER THAN 'FOR EVERY INPUT', by the rows' own cells (each row's printed sentence says how): FnExactRunCode: loops.
  DERIVED. THE GIVEN ROWS OF THIS SEAT. 11 by the template 'for every input the law returns true; each argument reads behind the call as it read before'; 0 by the template 'total and deterministic' (their statements: YtappakllopkfiaaTotals.lean).
  GIVEN WITH THE SEED: the statements are not yours to turn. If you find one false, say at which input.
  Laid BY PROGRAM, IN A SANDBOX (cutbox-rows.mjs): the forced cells as the released guide's own fill.sh prints them over the translation 4057a29f379966d2… (all of the seat's roots in one cut). By AI agents, Wed Nov 11 2026. No macro, syntax, notation, axiom, sorry.
-/
import Derived.Test.YtappakllopkfiaaChecked
import GoSem.Claim
import GoSem.ClaimJoined
import GoSem.ClaimMapViews
import Derived.JoinedTies
import Derived.KernelRfl
namespace Go.Proofs.Ytappakllopkfiaa
/- THE CELL 'sum', in the pinned program and in every row, IS THE sha256 OF THE DUMP (.gsa) THAT YtappakllopkfiaaProg.lean LOADS. Nothing in Lean hashes anything: it is a label: what it is worth is what the hold of that sum in a sandbox is worth. -/
noncomputable def Try.pinned : Pinned := { name := "ytappakllopkfiaa", sum := "4057a29f379966d2728fcbfd8810a0d9332468b4cf5fdaa956fa42d91101d837", checked := Try.checked }
namespace Rows
def none {H : Type} : Left H := { results := [], args := [] }

/-- 'laws.FnExactRunCode': WHATEVER THE INPUT: true; the input reads as it did. -/
def fnExactRunCodeSpec : ChangeSpec := { name := "fnExactRunCode", fn := fun _ => fun
  | [d1, d2] => { results := [.lit (.bool true)], args := [d1, d2] }
  | _ => none }
def fnExactRunCodeRow : OpenClaim := { program := "ytappakllopkfiaa", sum := "4057a29f379966d2728fcbfd8810a0d9332468b4cf5fdaa956fa42d91101d837", func := "loop.example/depkernel/laws.FnExactRunCode", spec := "fnExactRunCode", unfollowed := true, recurses := true, loops := true, apart := false }
def FnExactRunCodeSaid : Prop := fnExactRunCodeRow.holds Try.pinned (OpenSpec.ofChange fnExactRunCodeSpec)

/-- ITS FALSE NEIGHBOUR: 'it returns false'. Refute it at one input. -/
def fnExactRunCodeWrong : ChangeSpec := { name := "fnExactRunCode", fn := fun _ => fun
  | [d1, d2] => { results := [.lit (.bool false)], args := [d1, d2] }
  | _ => none }
def FnExactRunCodeWrongFalsely : Prop := fnExactRunCodeRow.holds Try.pinned (OpenSpec.ofChange fnExactRunCodeWrong)

/-- 'laws.FnRunCode': WHATEVER THE INPUT: true; the input reads as it did. -/
def fnRunCodeSpec : ChangeSpec := { name := "fnRunCode", fn := fun _ => fun
  | [d] => { results := [.lit (.bool true)], args := [d] }
  | _ => none }
def fnRunCodeRow : OpenClaim := { program := "ytappakllopkfiaa", sum := "4057a29f379966d2728fcbfd8810a0d9332468b4cf5fdaa956fa42d91101d837", func := "loop.example/depkernel/laws.FnRunCode", spec := "fnRunCode", unfollowed := true, recurses := true, apart := false }
def FnRunCodeSaid : Prop := fnRunCodeRow.holds Try.pinned (OpenSpec.ofChange fnRunCodeSpec)

/-- ITS FALSE NEIGHBOUR: 'it returns false'. Refute it at one input. -/
def fnRunCodeWrong : ChangeSpec := { name := "fnRunCode", fn := fun _ => fun
  | [d] => { results := [.lit (.bool false)], args := [d] }
  | _ => none }
def FnRunCodeWrongFalsely : Prop := fnRunCodeRow.holds Try.pinned (OpenSpec.ofChange fnRunCodeWrong)

/-- 'laws.FnCodeNumber': WHATEVER THE INPUT: true; the input reads as it did. -/
def fnCodeNumberSpec : ChangeSpec := { name := "fnCodeNumber", fn := fun _ => fun
  | [d] => { results := [.lit (.bool true)], args := [d] }
  | _ => none }
def fnCodeNumberRow : OpenClaim := { program := "ytappakllopkfiaa", sum := "4057a29f379966d2728fcbfd8810a0d9332468b4cf5fdaa956fa42d91101d837", func := "loop.example/depkernel/laws.FnCodeNumber", spec := "fnCodeNumber", unfollowed := true, recurses := true, apart := false }
def FnCodeNumberSaid : Prop := fnCodeNumberRow.holds Try.pinned (OpenSpec.ofChange fnCodeNumberSpec)

/-- ITS FALSE NEIGHBOUR: 'it returns false'. Refute it at one input. -/
def fnCodeNumberWrong : ChangeSpec := { name := "fnCodeNumber", fn := fun _ => fun
  | [d] => { results := [.lit (.bool false)], args := [d] }
  | _ => none }
def FnCodeNumberWrongFalsely : Prop := fnCodeNumberRow.holds Try.pinned (OpenSpec.ofChange fnCodeNumberWrong)

/-- 'laws.FnFirstRedex': WHATEVER THE INPUT: true; the input reads as it did. -/
def fnFirstRedexSpec : ChangeSpec := { name := "fnFirstRedex", fn := fun _ => fun
  | [d] => { results := [.lit (.bool true)], args := [d] }
  | _ => none }
def fnFirstRedexRow : OpenClaim := { program := "ytappakllopkfiaa", sum := "4057a29f379966d2728fcbfd8810a0d9332468b4cf5fdaa956fa42d91101d837", func := "loop.example/depkernel/laws.FnFirstRedex", spec := "fnFirstRedex", unfollowed := true, recurses := true, apart := false }
def FnFirstRedexSaid : Prop := fnFirstRedexRow.holds Try.pinned (OpenSpec.ofChange fnFirstRedexSpec)

/-- ITS FALSE NEIGHBOUR: 'it returns false'. Refute it at one input. -/
def fnFirstRedexWrong : ChangeSpec := { name := "fnFirstRedex", fn := fun _ => fun
  | [d] => { results := [.lit (.bool false)], args := [d] }
  | _ => none }
def FnFirstRedexWrongFalsely : Prop := fnFirstRedexRow.holds Try.pinned (OpenSpec.ofChange fnFirstRedexWrong)

/-- 'laws.FnContextAt': WHATEVER THE INPUT: true; the input reads as it did. -/
def fnContextAtSpec : ChangeSpec := { name := "fnContextAt", fn := fun _ => fun
  | [d] => { results := [.lit (.bool true)], args := [d] }
  | _ => none }
def fnContextAtRow : OpenClaim := { program := "ytappakllopkfiaa", sum := "4057a29f379966d2728fcbfd8810a0d9332468b4cf5fdaa956fa42d91101d837", func := "loop.example/depkernel/laws.FnContextAt", spec := "fnContextAt", unfollowed := true, recurses := true, apart := false }
def FnContextAtSaid : Prop := fnContextAtRow.holds Try.pinned (OpenSpec.ofChange fnContextAtSpec)

/-- ITS FALSE NEIGHBOUR: 'it returns false'. Refute it at one input. -/
def fnContextAtWrong : ChangeSpec := { name := "fnContextAt", fn := fun _ => fun
  | [d] => { results := [.lit (.bool false)], args := [d] }
  | _ => none }
def FnContextAtWrongFalsely : Prop := fnContextAtRow.holds Try.pinned (OpenSpec.ofChange fnContextAtWrong)

/-- 'laws.FnContractAt': WHATEVER THE INPUT: true; the input reads as it did. -/
def fnContractAtSpec : ChangeSpec := { name := "fnContractAt", fn := fun _ => fun
  | [d] => { results := [.lit (.bool true)], args := [d] }
  | _ => none }
def fnContractAtRow : OpenClaim := { program := "ytappakllopkfiaa", sum := "4057a29f379966d2728fcbfd8810a0d9332468b4cf5fdaa956fa42d91101d837", func := "loop.example/depkernel/laws.FnContractAt", spec := "fnContractAt", unfollowed := true, recurses := true, apart := false }
def FnContractAtSaid : Prop := fnContractAtRow.holds Try.pinned (OpenSpec.ofChange fnContractAtSpec)

/-- ITS FALSE NEIGHBOUR: 'it returns false'. Refute it at one input. -/
def fnContractAtWrong : ChangeSpec := { name := "fnContractAt", fn := fun _ => fun
  | [d] => { results := [.lit (.bool false)], args := [d] }
  | _ => none }
def FnContractAtWrongFalsely : Prop := fnContractAtRow.holds Try.pinned (OpenSpec.ofChange fnContractAtWrong)

/-- 'laws.FnDefsEmpty': WHATEVER THE INPUT: true; the input reads as it did. -/
def fnDefsEmptySpec : ChangeSpec := { name := "fnDefsEmpty", fn := fun _ => fun
  | [d] => { results := [.lit (.bool true)], args := [d] }
  | _ => none }
def fnDefsEmptyRow : OpenClaim := { program := "ytappakllopkfiaa", sum := "4057a29f379966d2728fcbfd8810a0d9332468b4cf5fdaa956fa42d91101d837", func := "loop.example/depkernel/laws.FnDefsEmpty", spec := "fnDefsEmpty", unfollowed := true, recurses := true, apart := false }
def FnDefsEmptySaid : Prop := fnDefsEmptyRow.holds Try.pinned (OpenSpec.ofChange fnDefsEmptySpec)

/-- ITS FALSE NEIGHBOUR: 'it returns false'. Refute it at one input. -/
def fnDefsEmptyWrong : ChangeSpec := { name := "fnDefsEmpty", fn := fun _ => fun
  | [d] => { results := [.lit (.bool false)], args := [d] }
  | _ => none }
def FnDefsEmptyWrongFalsely : Prop := fnDefsEmptyRow.holds Try.pinned (OpenSpec.ofChange fnDefsEmptyWrong)

/-- 'laws.FnUnfoldTerm': WHATEVER THE INPUT: true; the input reads as it did. -/
def fnUnfoldTermSpec : ChangeSpec := { name := "fnUnfoldTerm", fn := fun _ => fun
  | [d] => { results := [.lit (.bool true)], args := [d] }
  | _ => none }
def fnUnfoldTermRow : OpenClaim := { program := "ytappakllopkfiaa", sum := "4057a29f379966d2728fcbfd8810a0d9332468b4cf5fdaa956fa42d91101d837", func := "loop.example/depkernel/laws.FnUnfoldTerm", spec := "fnUnfoldTerm", unfollowed := true, recurses := true, apart := false }
def FnUnfoldTermSaid : Prop := fnUnfoldTermRow.holds Try.pinned (OpenSpec.ofChange fnUnfoldTermSpec)

/-- ITS FALSE NEIGHBOUR: 'it returns false'. Refute it at one input. -/
def fnUnfoldTermWrong : ChangeSpec := { name := "fnUnfoldTerm", fn := fun _ => fun
  | [d] => { results := [.lit (.bool false)], args := [d] }
  | _ => none }
def FnUnfoldTermWrongFalsely : Prop := fnUnfoldTermRow.holds Try.pinned (OpenSpec.ofChange fnUnfoldTermWrong)

/-- 'laws.FnUsedDefs': WHATEVER THE INPUT: true; the input reads as it did. -/
def fnUsedDefsSpec : ChangeSpec := { name := "fnUsedDefs", fn := fun _ => fun
  | [d] => { results := [.lit (.bool true)], args := [d] }
  | _ => none }
def fnUsedDefsRow : OpenClaim := { program := "ytappakllopkfiaa", sum := "4057a29f379966d2728fcbfd8810a0d9332468b4cf5fdaa956fa42d91101d837", func := "loop.example/depkernel/laws.FnUsedDefs", spec := "fnUsedDefs", unfollowed := true, recurses := true, apart := false }
def FnUsedDefsSaid : Prop := fnUsedDefsRow.holds Try.pinned (OpenSpec.ofChange fnUsedDefsSpec)

/-- ITS FALSE NEIGHBOUR: 'it returns false'. Refute it at one input. -/
def fnUsedDefsWrong : ChangeSpec := { name := "fnUsedDefs", fn := fun _ => fun
  | [d] => { results := [.lit (.bool false)], args := [d] }
  | _ => none }
def FnUsedDefsWrongFalsely : Prop := fnUsedDefsRow.holds Try.pinned (OpenSpec.ofChange fnUsedDefsWrong)

/-- 'laws.FnUnfoldReduce': WHATEVER THE INPUT: true; the input reads as it did. -/
def fnUnfoldReduceSpec : ChangeSpec := { name := "fnUnfoldReduce", fn := fun _ => fun
  | [d] => { results := [.lit (.bool true)], args := [d] }
  | _ => none }
def fnUnfoldReduceRow : OpenClaim := { program := "ytappakllopkfiaa", sum := "4057a29f379966d2728fcbfd8810a0d9332468b4cf5fdaa956fa42d91101d837", func := "loop.example/depkernel/laws.FnUnfoldReduce", spec := "fnUnfoldReduce", unfollowed := true, recurses := true, apart := false }
def FnUnfoldReduceSaid : Prop := fnUnfoldReduceRow.holds Try.pinned (OpenSpec.ofChange fnUnfoldReduceSpec)

/-- ITS FALSE NEIGHBOUR: 'it returns false'. Refute it at one input. -/
def fnUnfoldReduceWrong : ChangeSpec := { name := "fnUnfoldReduce", fn := fun _ => fun
  | [d] => { results := [.lit (.bool false)], args := [d] }
  | _ => none }
def FnUnfoldReduceWrongFalsely : Prop := fnUnfoldReduceRow.holds Try.pinned (OpenSpec.ofChange fnUnfoldReduceWrong)

/-- 'laws.FnEqualNumbers': WHATEVER THE INPUT: true; the input reads as it did. -/
def fnEqualNumbersSpec : ChangeSpec := { name := "fnEqualNumbers", fn := fun _ => fun
  | [d] => { results := [.lit (.bool true)], args := [d] }
  | _ => none }
def fnEqualNumbersRow : OpenClaim := { program := "ytappakllopkfiaa", sum := "4057a29f379966d2728fcbfd8810a0d9332468b4cf5fdaa956fa42d91101d837", func := "loop.example/depkernel/laws.FnEqualNumbers", spec := "fnEqualNumbers", unfollowed := true, recurses := true, apart := false }
def FnEqualNumbersSaid : Prop := fnEqualNumbersRow.holds Try.pinned (OpenSpec.ofChange fnEqualNumbersSpec)

/-- ITS FALSE NEIGHBOUR: 'it returns false'. Refute it at one input. -/
def fnEqualNumbersWrong : ChangeSpec := { name := "fnEqualNumbers", fn := fun _ => fun
  | [d] => { results := [.lit (.bool false)], args := [d] }
  | _ => none }
def FnEqualNumbersWrongFalsely : Prop := fnEqualNumbersRow.holds Try.pinned (OpenSpec.ofChange fnEqualNumbersWrong)

/- THE SECOND FORM. 'bulk': how many values and letters a reading holds, each counted each time it is reached (what is shared counts as often as it is met; a slice's spare places count too). A statement '..UptoSaid' is the law's where the arguments, and the package variables that the reading takes, are together of bulk at most 1048576: NARROWER than '..Said'. Prove '..Said' where nothing that the law and all that it calls make is longer than what came in: it says more and counts as full. Else prove '..UptoSaid'. A law counts once. -/
mutual
def uptoBulk {H : Type} : DataW H → Nat
  | .lit (.string bytes) => bytes.length + 1
  | .lit _ => 1
  | .nil => 1
  | .ptr d => uptoBulk d + 1
  | .slice elems spare => uptoBulkAll elems + uptoBulkAll spare + 1
  | .agg parts => uptoBulkAll parts + 1
  | .iface _ d => uptoBulk d + 1
  | .map entries => uptoBulkEntries entries + 1
  | .held _ => 1
def uptoBulkAll {H : Type} : List (DataW H) → Nat
  | [] => 0
  | d :: r => uptoBulk d + uptoBulkAll r
def uptoBulkEntries {H : Type} : List (Lit × DataW H) → Nat
  | [] => 0
  | x :: r => uptoBulkEntry x + uptoBulkEntries r
def uptoBulkEntry {H : Type} : Lit × DataW H → Nat
  | (.string bytes, d) => bytes.length + uptoBulk d + 1
  | (_, d) => uptoBulk d + 1
 end
def uptoSmall : (H : Type) → List (DataW H) → Bool := fun _ ds => decide (uptoBulkAll ds ≤ 1048576)
def OpenSpec.upto (s : _root_.Go.ChangeSpec) : _root_.Go.OpenSpec := { _root_.Go.OpenSpec.ofChange s with cond := some uptoSmall }

/-- 'laws.FnExactRunCode', WHERE WHAT IT READS IS OF BULK AT MOST 1048576: true; the input reads as it did. -/
def fnExactRunCodeUptoRow : OpenClaim := { program := "ytappakllopkfiaa", sum := "4057a29f379966d2728fcbfd8810a0d9332468b4cf5fdaa956fa42d91101d837", func := "loop.example/depkernel/laws.FnExactRunCode", spec := "fnExactRunCode", unfollowed := true, recurses := true, loops := true, apart := false, narrowed := true }
def FnExactRunCodeUptoSaid : Prop := fnExactRunCodeUptoRow.holds Try.pinned (OpenSpec.upto fnExactRunCodeSpec)

/-- 'laws.FnRunCode', WHERE WHAT IT READS IS OF BULK AT MOST 1048576: true; the input reads as it did. -/
def fnRunCodeUptoRow : OpenClaim := { program := "ytappakllopkfiaa", sum := "4057a29f379966d2728fcbfd8810a0d9332468b4cf5fdaa956fa42d91101d837", func := "loop.example/depkernel/laws.FnRunCode", spec := "fnRunCode", unfollowed := true, recurses := true, apart := false, narrowed := true }
def FnRunCodeUptoSaid : Prop := fnRunCodeUptoRow.holds Try.pinned (OpenSpec.upto fnRunCodeSpec)

/-- 'laws.FnCodeNumber', WHERE WHAT IT READS IS OF BULK AT MOST 1048576: true; the input reads as it did. -/
def fnCodeNumberUptoRow : OpenClaim := { program := "ytappakllopkfiaa", sum := "4057a29f379966d2728fcbfd8810a0d9332468b4cf5fdaa956fa42d91101d837", func := "loop.example/depkernel/laws.FnCodeNumber", spec := "fnCodeNumber", unfollowed := true, recurses := true, apart := false, narrowed := true }
def FnCodeNumberUptoSaid : Prop := fnCodeNumberUptoRow.holds Try.pinned (OpenSpec.upto fnCodeNumberSpec)

/-- 'laws.FnFirstRedex', WHERE WHAT IT READS IS OF BULK AT MOST 1048576: true; the input reads as it did. -/
def fnFirstRedexUptoRow : OpenClaim := { program := "ytappakllopkfiaa", sum := "4057a29f379966d2728fcbfd8810a0d9332468b4cf5fdaa956fa42d91101d837", func := "loop.example/depkernel/laws.FnFirstRedex", spec := "fnFirstRedex", unfollowed := true, recurses := true, apart := false, narrowed := true }
def FnFirstRedexUptoSaid : Prop := fnFirstRedexUptoRow.holds Try.pinned (OpenSpec.upto fnFirstRedexSpec)

/-- 'laws.FnContextAt', WHERE WHAT IT READS IS OF BULK AT MOST 1048576: true; the input reads as it did. -/
def fnContextAtUptoRow : OpenClaim := { program := "ytappakllopkfiaa", sum := "4057a29f379966d2728fcbfd8810a0d9332468b4cf5fdaa956fa42d91101d837", func := "loop.example/depkernel/laws.FnContextAt", spec := "fnContextAt", unfollowed := true, recurses := true, apart := false, narrowed := true }
def FnContextAtUptoSaid : Prop := fnContextAtUptoRow.holds Try.pinned (OpenSpec.upto fnContextAtSpec)

/-- 'laws.FnContractAt', WHERE WHAT IT READS IS OF BULK AT MOST 1048576: true; the input reads as it did. -/
def fnContractAtUptoRow : OpenClaim := { program := "ytappakllopkfiaa", sum := "4057a29f379966d2728fcbfd8810a0d9332468b4cf5fdaa956fa42d91101d837", func := "loop.example/depkernel/laws.FnContractAt", spec := "fnContractAt", unfollowed := true, recurses := true, apart := false, narrowed := true }
def FnContractAtUptoSaid : Prop := fnContractAtUptoRow.holds Try.pinned (OpenSpec.upto fnContractAtSpec)

/-- 'laws.FnDefsEmpty', WHERE WHAT IT READS IS OF BULK AT MOST 1048576: true; the input reads as it did. -/
def fnDefsEmptyUptoRow : OpenClaim := { program := "ytappakllopkfiaa", sum := "4057a29f379966d2728fcbfd8810a0d9332468b4cf5fdaa956fa42d91101d837", func := "loop.example/depkernel/laws.FnDefsEmpty", spec := "fnDefsEmpty", unfollowed := true, recurses := true, apart := false, narrowed := true }
def FnDefsEmptyUptoSaid : Prop := fnDefsEmptyUptoRow.holds Try.pinned (OpenSpec.upto fnDefsEmptySpec)

/-- 'laws.FnUnfoldTerm', WHERE WHAT IT READS IS OF BULK AT MOST 1048576: true; the input reads as it did. -/
def fnUnfoldTermUptoRow : OpenClaim := { program := "ytappakllopkfiaa", sum := "4057a29f379966d2728fcbfd8810a0d9332468b4cf5fdaa956fa42d91101d837", func := "loop.example/depkernel/laws.FnUnfoldTerm", spec := "fnUnfoldTerm", unfollowed := true, recurses := true, apart := false, narrowed := true }
def FnUnfoldTermUptoSaid : Prop := fnUnfoldTermUptoRow.holds Try.pinned (OpenSpec.upto fnUnfoldTermSpec)

/-- 'laws.FnUsedDefs', WHERE WHAT IT READS IS OF BULK AT MOST 1048576: true; the input reads as it did. -/
def fnUsedDefsUptoRow : OpenClaim := { program := "ytappakllopkfiaa", sum := "4057a29f379966d2728fcbfd8810a0d9332468b4cf5fdaa956fa42d91101d837", func := "loop.example/depkernel/laws.FnUsedDefs", spec := "fnUsedDefs", unfollowed := true, recurses := true, apart := false, narrowed := true }
def FnUsedDefsUptoSaid : Prop := fnUsedDefsUptoRow.holds Try.pinned (OpenSpec.upto fnUsedDefsSpec)

/-- 'laws.FnUnfoldReduce', WHERE WHAT IT READS IS OF BULK AT MOST 1048576: true; the input reads as it did. -/
def fnUnfoldReduceUptoRow : OpenClaim := { program := "ytappakllopkfiaa", sum := "4057a29f379966d2728fcbfd8810a0d9332468b4cf5fdaa956fa42d91101d837", func := "loop.example/depkernel/laws.FnUnfoldReduce", spec := "fnUnfoldReduce", unfollowed := true, recurses := true, apart := false, narrowed := true }
def FnUnfoldReduceUptoSaid : Prop := fnUnfoldReduceUptoRow.holds Try.pinned (OpenSpec.upto fnUnfoldReduceSpec)

/-- 'laws.FnEqualNumbers', WHERE WHAT IT READS IS OF BULK AT MOST 1048576: true; the input reads as it did. -/
def fnEqualNumbersUptoRow : OpenClaim := { program := "ytappakllopkfiaa", sum := "4057a29f379966d2728fcbfd8810a0d9332468b4cf5fdaa956fa42d91101d837", func := "loop.example/depkernel/laws.FnEqualNumbers", spec := "fnEqualNumbers", unfollowed := true, recurses := true, apart := false, narrowed := true }
def FnEqualNumbersUptoSaid : Prop := fnEqualNumbersUptoRow.holds Try.pinned (OpenSpec.upto fnEqualNumbersSpec)

end Rows
end Go.Proofs.Ytappakllopkfiaa
