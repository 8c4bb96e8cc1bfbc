/-
  No cell of these rows narrows 'for every input' (looked for: loops, veiled, ifaces, maps, wideKeys, modest, calm, conditions, laid).
  DERIVED. THE GIVEN ROWS OF THIS SEAT. 7 by the template 'for every input the law returns true; each argument reads behind the call as it read before'; 0 by the template 'total and deterministic' (their statements: YtjgdckkeojehoaaTotals.lean).
  GIVEN WITH THE SEED: the statements are not yours to turn. If you find one false, say at which input.
  Laid BY PROGRAM, IN A SANDBOX (cutbox-rows.mjs): the forced cells as the released guide's own fill.sh prints them over the translation 7e47d96bbb0da764… (all of the seat's roots in one cut). By AI agents, Wed Nov 11 2026. No macro, syntax, notation, axiom, sorry.
-/
import Derived.Test.YtjgdckkeojehoaaChecked
import GoSem.Claim
import GoSem.ClaimJoined
import GoSem.ClaimMapViews
import Derived.JoinedTies
import Derived.KernelRfl
namespace Go.Proofs.Ytjgdckkeojehoaa
/- THE CELL 'sum', in the pinned program and in every row, IS THE sha256 OF THE DUMP (.gsa) THAT YtjgdckkeojehoaaProg.lean LOADS. Nothing in Lean hashes anything: it is a label: what it is worth is what the hold of that sum in a sandbox is worth. -/
noncomputable def Try.pinned : Pinned := { name := "ytjgdckkeojehoaa", sum := "7e47d96bbb0da764e018473614d4c057eae35a600a19b691035b989e5d3d8706", checked := Try.checked }
namespace Rows
def none {H : Type} : Left H := { results := [], args := [] }

/-- 'laws.FnRedexPlaces': WHATEVER THE INPUT: true; the input reads as it did. -/
def fnRedexPlacesSpec : ChangeSpec := { name := "fnRedexPlaces", fn := fun _ => fun
  | [d] => { results := [.lit (.bool true)], args := [d] }
  | _ => none }
def fnRedexPlacesRow : OpenClaim := { program := "ytjgdckkeojehoaa", sum := "7e47d96bbb0da764e018473614d4c057eae35a600a19b691035b989e5d3d8706", func := "loop.example/depkernel/laws.FnRedexPlaces", spec := "fnRedexPlaces", unfollowed := true, recurses := true, apart := false }
def FnRedexPlacesSaid : Prop := fnRedexPlacesRow.holds Try.pinned (OpenSpec.ofChange fnRedexPlacesSpec)

/-- ITS FALSE NEIGHBOUR: 'it returns false'. Refute it at one input. -/
def fnRedexPlacesWrong : ChangeSpec := { name := "fnRedexPlaces", fn := fun _ => fun
  | [d] => { results := [.lit (.bool false)], args := [d] }
  | _ => none }
def FnRedexPlacesWrongFalsely : Prop := fnRedexPlacesRow.holds Try.pinned (OpenSpec.ofChange fnRedexPlacesWrong)

/-- 'laws.FnPutAt': WHATEVER THE INPUT: true; the input reads as it did. -/
def fnPutAtSpec : ChangeSpec := { name := "fnPutAt", fn := fun _ => fun
  | [d] => { results := [.lit (.bool true)], args := [d] }
  | _ => none }
def fnPutAtRow : OpenClaim := { program := "ytjgdckkeojehoaa", sum := "7e47d96bbb0da764e018473614d4c057eae35a600a19b691035b989e5d3d8706", func := "loop.example/depkernel/laws.FnPutAt", spec := "fnPutAt", unfollowed := true, recurses := true, apart := false }
def FnPutAtSaid : Prop := fnPutAtRow.holds Try.pinned (OpenSpec.ofChange fnPutAtSpec)

/-- ITS FALSE NEIGHBOUR: 'it returns false'. Refute it at one input. -/
def fnPutAtWrong : ChangeSpec := { name := "fnPutAt", fn := fun _ => fun
  | [d] => { results := [.lit (.bool false)], args := [d] }
  | _ => none }
def FnPutAtWrongFalsely : Prop := fnPutAtRow.holds Try.pinned (OpenSpec.ofChange fnPutAtWrong)

/-- 'laws.FnFirstRedex': WHATEVER THE INPUT: true; the input reads as it did. -/
def fnFirstRedexSpec : ChangeSpec := { name := "fnFirstRedex", fn := fun _ => fun
  | [d] => { results := [.lit (.bool true)], args := [d] }
  | _ => none }
def fnFirstRedexRow : OpenClaim := { program := "ytjgdckkeojehoaa", sum := "7e47d96bbb0da764e018473614d4c057eae35a600a19b691035b989e5d3d8706", func := "loop.example/depkernel/laws.FnFirstRedex", spec := "fnFirstRedex", unfollowed := true, recurses := true, apart := false }
def FnFirstRedexSaid : Prop := fnFirstRedexRow.holds Try.pinned (OpenSpec.ofChange fnFirstRedexSpec)

/-- ITS FALSE NEIGHBOUR: 'it returns false'. Refute it at one input. -/
def fnFirstRedexWrong : ChangeSpec := { name := "fnFirstRedex", fn := fun _ => fun
  | [d] => { results := [.lit (.bool false)], args := [d] }
  | _ => none }
def FnFirstRedexWrongFalsely : Prop := fnFirstRedexRow.holds Try.pinned (OpenSpec.ofChange fnFirstRedexWrong)

/-- 'laws.FnContextAt': WHATEVER THE INPUT: true; the input reads as it did. -/
def fnContextAtSpec : ChangeSpec := { name := "fnContextAt", fn := fun _ => fun
  | [d] => { results := [.lit (.bool true)], args := [d] }
  | _ => none }
def fnContextAtRow : OpenClaim := { program := "ytjgdckkeojehoaa", sum := "7e47d96bbb0da764e018473614d4c057eae35a600a19b691035b989e5d3d8706", func := "loop.example/depkernel/laws.FnContextAt", spec := "fnContextAt", unfollowed := true, recurses := true, apart := false }
def FnContextAtSaid : Prop := fnContextAtRow.holds Try.pinned (OpenSpec.ofChange fnContextAtSpec)

/-- ITS FALSE NEIGHBOUR: 'it returns false'. Refute it at one input. -/
def fnContextAtWrong : ChangeSpec := { name := "fnContextAt", fn := fun _ => fun
  | [d] => { results := [.lit (.bool false)], args := [d] }
  | _ => none }
def FnContextAtWrongFalsely : Prop := fnContextAtRow.holds Try.pinned (OpenSpec.ofChange fnContextAtWrong)

/-- 'laws.FnRunCode': WHATEVER THE INPUT: true; the input reads as it did. -/
def fnRunCodeSpec : ChangeSpec := { name := "fnRunCode", fn := fun _ => fun
  | [d] => { results := [.lit (.bool true)], args := [d] }
  | _ => none }
def fnRunCodeRow : OpenClaim := { program := "ytjgdckkeojehoaa", sum := "7e47d96bbb0da764e018473614d4c057eae35a600a19b691035b989e5d3d8706", func := "loop.example/depkernel/laws.FnRunCode", spec := "fnRunCode", unfollowed := true, recurses := true, apart := false }
def FnRunCodeSaid : Prop := fnRunCodeRow.holds Try.pinned (OpenSpec.ofChange fnRunCodeSpec)

/-- ITS FALSE NEIGHBOUR: 'it returns false'. Refute it at one input. -/
def fnRunCodeWrong : ChangeSpec := { name := "fnRunCode", fn := fun _ => fun
  | [d] => { results := [.lit (.bool false)], args := [d] }
  | _ => none }
def FnRunCodeWrongFalsely : Prop := fnRunCodeRow.holds Try.pinned (OpenSpec.ofChange fnRunCodeWrong)

/-- 'laws.FnCodeNumber': WHATEVER THE INPUT: true; the input reads as it did. -/
def fnCodeNumberSpec : ChangeSpec := { name := "fnCodeNumber", fn := fun _ => fun
  | [d] => { results := [.lit (.bool true)], args := [d] }
  | _ => none }
def fnCodeNumberRow : OpenClaim := { program := "ytjgdckkeojehoaa", sum := "7e47d96bbb0da764e018473614d4c057eae35a600a19b691035b989e5d3d8706", func := "loop.example/depkernel/laws.FnCodeNumber", spec := "fnCodeNumber", unfollowed := true, recurses := true, apart := false }
def FnCodeNumberSaid : Prop := fnCodeNumberRow.holds Try.pinned (OpenSpec.ofChange fnCodeNumberSpec)

/-- ITS FALSE NEIGHBOUR: 'it returns false'. Refute it at one input. -/
def fnCodeNumberWrong : ChangeSpec := { name := "fnCodeNumber", fn := fun _ => fun
  | [d] => { results := [.lit (.bool false)], args := [d] }
  | _ => none }
def FnCodeNumberWrongFalsely : Prop := fnCodeNumberRow.holds Try.pinned (OpenSpec.ofChange fnCodeNumberWrong)

/-- 'laws.FnContractAt': WHATEVER THE INPUT: true; the input reads as it did. -/
def fnContractAtSpec : ChangeSpec := { name := "fnContractAt", fn := fun _ => fun
  | [d] => { results := [.lit (.bool true)], args := [d] }
  | _ => none }
def fnContractAtRow : OpenClaim := { program := "ytjgdckkeojehoaa", sum := "7e47d96bbb0da764e018473614d4c057eae35a600a19b691035b989e5d3d8706", func := "loop.example/depkernel/laws.FnContractAt", spec := "fnContractAt", unfollowed := true, recurses := true, apart := false }
def FnContractAtSaid : Prop := fnContractAtRow.holds Try.pinned (OpenSpec.ofChange fnContractAtSpec)

/-- ITS FALSE NEIGHBOUR: 'it returns false'. Refute it at one input. -/
def fnContractAtWrong : ChangeSpec := { name := "fnContractAt", fn := fun _ => fun
  | [d] => { results := [.lit (.bool false)], args := [d] }
  | _ => none }
def FnContractAtWrongFalsely : Prop := fnContractAtRow.holds Try.pinned (OpenSpec.ofChange fnContractAtWrong)

/- THE SECOND FORM. 'bulk': how many values and letters a reading holds, each counted each time it is reached (what is shared counts as often as it is met; a slice's spare places count too). A statement '..UptoSaid' is the law's where the arguments, and the package variables that the reading takes, are together of bulk at most 1048576: NARROWER than '..Said'. Prove '..Said' where nothing that the law and all that it calls make is longer than what came in: it says more and counts as full. Else prove '..UptoSaid'. A law counts once. -/
mutual
def uptoBulk {H : Type} : DataW H → Nat
  | .lit (.string bytes) => bytes.length + 1
  | .lit _ => 1
  | .nil => 1
  | .ptr d => uptoBulk d + 1
  | .slice elems spare => uptoBulkAll elems + uptoBulkAll spare + 1
  | .agg parts => uptoBulkAll parts + 1
  | .iface _ d => uptoBulk d + 1
  | .map entries => uptoBulkEntries entries + 1
  | .held _ => 1
def uptoBulkAll {H : Type} : List (DataW H) → Nat
  | [] => 0
  | d :: r => uptoBulk d + uptoBulkAll r
def uptoBulkEntries {H : Type} : List (Lit × DataW H) → Nat
  | [] => 0
  | x :: r => uptoBulkEntry x + uptoBulkEntries r
def uptoBulkEntry {H : Type} : Lit × DataW H → Nat
  | (.string bytes, d) => bytes.length + uptoBulk d + 1
  | (_, d) => uptoBulk d + 1
 end
def uptoSmall : (H : Type) → List (DataW H) → Bool := fun _ ds => decide (uptoBulkAll ds ≤ 1048576)
def OpenSpec.upto (s : _root_.Go.ChangeSpec) : _root_.Go.OpenSpec := { _root_.Go.OpenSpec.ofChange s with cond := some uptoSmall }

/-- 'laws.FnRedexPlaces', WHERE WHAT IT READS IS OF BULK AT MOST 1048576: true; the input reads as it did. -/
def fnRedexPlacesUptoRow : OpenClaim := { program := "ytjgdckkeojehoaa", sum := "7e47d96bbb0da764e018473614d4c057eae35a600a19b691035b989e5d3d8706", func := "loop.example/depkernel/laws.FnRedexPlaces", spec := "fnRedexPlaces", unfollowed := true, recurses := true, apart := false, narrowed := true }
def FnRedexPlacesUptoSaid : Prop := fnRedexPlacesUptoRow.holds Try.pinned (OpenSpec.upto fnRedexPlacesSpec)

/-- 'laws.FnPutAt', WHERE WHAT IT READS IS OF BULK AT MOST 1048576: true; the input reads as it did. -/
def fnPutAtUptoRow : OpenClaim := { program := "ytjgdckkeojehoaa", sum := "7e47d96bbb0da764e018473614d4c057eae35a600a19b691035b989e5d3d8706", func := "loop.example/depkernel/laws.FnPutAt", spec := "fnPutAt", unfollowed := true, recurses := true, apart := false, narrowed := true }
def FnPutAtUptoSaid : Prop := fnPutAtUptoRow.holds Try.pinned (OpenSpec.upto fnPutAtSpec)

/-- 'laws.FnFirstRedex', WHERE WHAT IT READS IS OF BULK AT MOST 1048576: true; the input reads as it did. -/
def fnFirstRedexUptoRow : OpenClaim := { program := "ytjgdckkeojehoaa", sum := "7e47d96bbb0da764e018473614d4c057eae35a600a19b691035b989e5d3d8706", func := "loop.example/depkernel/laws.FnFirstRedex", spec := "fnFirstRedex", unfollowed := true, recurses := true, apart := false, narrowed := true }
def FnFirstRedexUptoSaid : Prop := fnFirstRedexUptoRow.holds Try.pinned (OpenSpec.upto fnFirstRedexSpec)

/-- 'laws.FnContextAt', WHERE WHAT IT READS IS OF BULK AT MOST 1048576: true; the input reads as it did. -/
def fnContextAtUptoRow : OpenClaim := { program := "ytjgdckkeojehoaa", sum := "7e47d96bbb0da764e018473614d4c057eae35a600a19b691035b989e5d3d8706", func := "loop.example/depkernel/laws.FnContextAt", spec := "fnContextAt", unfollowed := true, recurses := true, apart := false, narrowed := true }
def FnContextAtUptoSaid : Prop := fnContextAtUptoRow.holds Try.pinned (OpenSpec.upto fnContextAtSpec)

/-- 'laws.FnRunCode', WHERE WHAT IT READS IS OF BULK AT MOST 1048576: true; the input reads as it did. -/
def fnRunCodeUptoRow : OpenClaim := { program := "ytjgdckkeojehoaa", sum := "7e47d96bbb0da764e018473614d4c057eae35a600a19b691035b989e5d3d8706", func := "loop.example/depkernel/laws.FnRunCode", spec := "fnRunCode", unfollowed := true, recurses := true, apart := false, narrowed := true }
def FnRunCodeUptoSaid : Prop := fnRunCodeUptoRow.holds Try.pinned (OpenSpec.upto fnRunCodeSpec)

/-- 'laws.FnCodeNumber', WHERE WHAT IT READS IS OF BULK AT MOST 1048576: true; the input reads as it did. -/
def fnCodeNumberUptoRow : OpenClaim := { program := "ytjgdckkeojehoaa", sum := "7e47d96bbb0da764e018473614d4c057eae35a600a19b691035b989e5d3d8706", func := "loop.example/depkernel/laws.FnCodeNumber", spec := "fnCodeNumber", unfollowed := true, recurses := true, apart := false, narrowed := true }
def FnCodeNumberUptoSaid : Prop := fnCodeNumberUptoRow.holds Try.pinned (OpenSpec.upto fnCodeNumberSpec)

/-- 'laws.FnContractAt', WHERE WHAT IT READS IS OF BULK AT MOST 1048576: true; the input reads as it did. -/
def fnContractAtUptoRow : OpenClaim := { program := "ytjgdckkeojehoaa", sum := "7e47d96bbb0da764e018473614d4c057eae35a600a19b691035b989e5d3d8706", func := "loop.example/depkernel/laws.FnContractAt", spec := "fnContractAt", unfollowed := true, recurses := true, apart := false, narrowed := true }
def FnContractAtUptoSaid : Prop := fnContractAtUptoRow.holds Try.pinned (OpenSpec.upto fnContractAtSpec)

end Rows
end Go.Proofs.Ytjgdckkeojehoaa
