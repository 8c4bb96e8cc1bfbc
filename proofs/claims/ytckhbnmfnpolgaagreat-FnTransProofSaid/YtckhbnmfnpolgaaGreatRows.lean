/-
  No cell of these rows narrows 'for every input' (looked for: loops, veiled, ifaces, maps, wideKeys, modest, calm, conditions, laid).
  DERIVED. THE GIVEN ROWS OF THIS SEAT. 9 by the template 'for every input the law returns true; each argument reads behind the call as it read before'; 0 by the template 'total and deterministic' (their statements: YtckhbnmfnpolgaaGreatTotals.lean).
  GIVEN WITH THE SEED: the statements are not yours to turn. If you find one false, say at which input.
  Laid BY PROGRAM, IN A SANDBOX (cutbox-rows.mjs): the forced cells as the released guide's own fill.sh prints them over the translation c579bdc153159813… (all of the seat's roots in one cut). By AI agents, Wed Nov 11 2026. No macro, syntax, notation, axiom, sorry.
-/
import Derived.Test.YtckhbnmfnpolgaaGreatChecked
import GoSem.Claim
import GoSem.ClaimJoined
import GoSem.ClaimMapViews
import Derived.JoinedTies
import Derived.KernelRfl
namespace Go.Proofs.YtckhbnmfnpolgaaGreat
/- THE CELL 'sum', in the pinned program and in every row, IS THE sha256 OF THE DUMP (.gsa) THAT YtckhbnmfnpolgaaGreatProg.lean LOADS. Nothing in Lean hashes anything: it is a label: what it is worth is what the hold of that sum in a sandbox is worth. -/
noncomputable def Tryz.pinned : Pinned := { name := "ytckhbnmfnpolgaagreat", sum := "c579bdc1531598130197dee0590eb17520fa8715674b5006946e25a461babc6d", checked := Tryz.checked }
namespace Rows
def none {H : Type} : Left H := { results := [], args := [] }

/-- 'laws.FnSidesOf': WHATEVER THE INPUT: true; the input reads as it did. -/
def fnSidesOfSpec : ChangeSpec := { name := "fnSidesOf", fn := fun _ => fun
  | [d] => { results := [.lit (.bool true)], args := [d] }
  | _ => none }
def fnSidesOfRow : OpenClaim := { program := "ytckhbnmfnpolgaagreat", sum := "c579bdc1531598130197dee0590eb17520fa8715674b5006946e25a461babc6d", func := "loop.example/depkernel/laws.FnSidesOf", spec := "fnSidesOf", unfollowed := true, recurses := true, apart := false }
def FnSidesOfSaid : Prop := fnSidesOfRow.holds Tryz.pinned (OpenSpec.ofChange fnSidesOfSpec)

/-- ITS FALSE NEIGHBOUR: 'it returns false'. Refute it at one input. -/
def fnSidesOfWrong : ChangeSpec := { name := "fnSidesOf", fn := fun _ => fun
  | [d] => { results := [.lit (.bool false)], args := [d] }
  | _ => none }
def FnSidesOfWrongFalsely : Prop := fnSidesOfRow.holds Tryz.pinned (OpenSpec.ofChange fnSidesOfWrong)

/-- 'laws.FnSymTwice': WHATEVER THE INPUT: true; the input reads as it did. -/
def fnSymTwiceSpec : ChangeSpec := { name := "fnSymTwice", fn := fun _ => fun
  | [d] => { results := [.lit (.bool true)], args := [d] }
  | _ => none }
def fnSymTwiceRow : OpenClaim := { program := "ytckhbnmfnpolgaagreat", sum := "c579bdc1531598130197dee0590eb17520fa8715674b5006946e25a461babc6d", func := "loop.example/depkernel/laws.FnSymTwice", spec := "fnSymTwice", unfollowed := true, recurses := true, apart := false }
def FnSymTwiceSaid : Prop := fnSymTwiceRow.holds Tryz.pinned (OpenSpec.ofChange fnSymTwiceSpec)

/-- ITS FALSE NEIGHBOUR: 'it returns false'. Refute it at one input. -/
def fnSymTwiceWrong : ChangeSpec := { name := "fnSymTwice", fn := fun _ => fun
  | [d] => { results := [.lit (.bool false)], args := [d] }
  | _ => none }
def FnSymTwiceWrongFalsely : Prop := fnSymTwiceRow.holds Tryz.pinned (OpenSpec.ofChange fnSymTwiceWrong)

/-- 'laws.FnSymProof': WHATEVER THE INPUT: true; the input reads as it did. -/
def fnSymProofSpec : ChangeSpec := { name := "fnSymProof", fn := fun _ => fun
  | [d] => { results := [.lit (.bool true)], args := [d] }
  | _ => none }
def fnSymProofRow : OpenClaim := { program := "ytckhbnmfnpolgaagreat", sum := "c579bdc1531598130197dee0590eb17520fa8715674b5006946e25a461babc6d", func := "loop.example/depkernel/laws.FnSymProof", spec := "fnSymProof", unfollowed := true, recurses := true, apart := false }
def FnSymProofSaid : Prop := fnSymProofRow.holds Tryz.pinned (OpenSpec.ofChange fnSymProofSpec)

/-- ITS FALSE NEIGHBOUR: 'it returns false'. Refute it at one input. -/
def fnSymProofWrong : ChangeSpec := { name := "fnSymProof", fn := fun _ => fun
  | [d] => { results := [.lit (.bool false)], args := [d] }
  | _ => none }
def FnSymProofWrongFalsely : Prop := fnSymProofRow.holds Tryz.pinned (OpenSpec.ofChange fnSymProofWrong)

/-- 'laws.FnIdType': WHATEVER THE INPUT: true; the input reads as it did. -/
def fnIdTypeSpec : ChangeSpec := { name := "fnIdType", fn := fun _ => fun
  | [d] => { results := [.lit (.bool true)], args := [d] }
  | _ => none }
def fnIdTypeRow : OpenClaim := { program := "ytckhbnmfnpolgaagreat", sum := "c579bdc1531598130197dee0590eb17520fa8715674b5006946e25a461babc6d", func := "loop.example/depkernel/laws.FnIdType", spec := "fnIdType", unfollowed := true, recurses := true, apart := false }
def FnIdTypeSaid : Prop := fnIdTypeRow.holds Tryz.pinned (OpenSpec.ofChange fnIdTypeSpec)

/-- ITS FALSE NEIGHBOUR: 'it returns false'. Refute it at one input. -/
def fnIdTypeWrong : ChangeSpec := { name := "fnIdType", fn := fun _ => fun
  | [d] => { results := [.lit (.bool false)], args := [d] }
  | _ => none }
def FnIdTypeWrongFalsely : Prop := fnIdTypeRow.holds Tryz.pinned (OpenSpec.ofChange fnIdTypeWrong)

/-- 'laws.FnInferDefined': WHATEVER THE INPUT: true; the input reads as it did. -/
def fnInferDefinedSpec : ChangeSpec := { name := "fnInferDefined", fn := fun _ => fun
  | [d] => { results := [.lit (.bool true)], args := [d] }
  | _ => none }
def fnInferDefinedRow : OpenClaim := { program := "ytckhbnmfnpolgaagreat", sum := "c579bdc1531598130197dee0590eb17520fa8715674b5006946e25a461babc6d", func := "loop.example/depkernel/laws.FnInferDefined", spec := "fnInferDefined", unfollowed := true, recurses := true, apart := false }
def FnInferDefinedSaid : Prop := fnInferDefinedRow.holds Tryz.pinned (OpenSpec.ofChange fnInferDefinedSpec)

/-- ITS FALSE NEIGHBOUR: 'it returns false'. Refute it at one input. -/
def fnInferDefinedWrong : ChangeSpec := { name := "fnInferDefined", fn := fun _ => fun
  | [d] => { results := [.lit (.bool false)], args := [d] }
  | _ => none }
def FnInferDefinedWrongFalsely : Prop := fnInferDefinedRow.holds Tryz.pinned (OpenSpec.ofChange fnInferDefinedWrong)

/-- 'laws.FnTransProof': WHATEVER THE INPUT: true; the input reads as it did. -/
def fnTransProofSpec : ChangeSpec := { name := "fnTransProof", fn := fun _ => fun
  | [d] => { results := [.lit (.bool true)], args := [d] }
  | _ => none }
def fnTransProofRow : OpenClaim := { program := "ytckhbnmfnpolgaagreat", sum := "c579bdc1531598130197dee0590eb17520fa8715674b5006946e25a461babc6d", func := "loop.example/depkernel/laws.FnTransProof", spec := "fnTransProof", unfollowed := true, recurses := true, apart := false }
def FnTransProofSaid : Prop := fnTransProofRow.holds Tryz.pinned (OpenSpec.ofChange fnTransProofSpec)

/-- ITS FALSE NEIGHBOUR: 'it returns false'. Refute it at one input. -/
def fnTransProofWrong : ChangeSpec := { name := "fnTransProof", fn := fun _ => fun
  | [d] => { results := [.lit (.bool false)], args := [d] }
  | _ => none }
def FnTransProofWrongFalsely : Prop := fnTransProofRow.holds Tryz.pinned (OpenSpec.ofChange fnTransProofWrong)

/-- 'laws.FnCongRefl': WHATEVER THE INPUT: true; the input reads as it did. -/
def fnCongReflSpec : ChangeSpec := { name := "fnCongRefl", fn := fun _ => fun
  | [d] => { results := [.lit (.bool true)], args := [d] }
  | _ => none }
def fnCongReflRow : OpenClaim := { program := "ytckhbnmfnpolgaagreat", sum := "c579bdc1531598130197dee0590eb17520fa8715674b5006946e25a461babc6d", func := "loop.example/depkernel/laws.FnCongRefl", spec := "fnCongRefl", unfollowed := true, recurses := true, apart := false }
def FnCongReflSaid : Prop := fnCongReflRow.holds Tryz.pinned (OpenSpec.ofChange fnCongReflSpec)

/-- ITS FALSE NEIGHBOUR: 'it returns false'. Refute it at one input. -/
def fnCongReflWrong : ChangeSpec := { name := "fnCongRefl", fn := fun _ => fun
  | [d] => { results := [.lit (.bool false)], args := [d] }
  | _ => none }
def FnCongReflWrongFalsely : Prop := fnCongReflRow.holds Tryz.pinned (OpenSpec.ofChange fnCongReflWrong)

/-- 'laws.FnCheckDefs': WHATEVER THE INPUT: true; the input reads as it did. -/
def fnCheckDefsSpec : ChangeSpec := { name := "fnCheckDefs", fn := fun _ => fun
  | [d] => { results := [.lit (.bool true)], args := [d] }
  | _ => none }
def fnCheckDefsRow : OpenClaim := { program := "ytckhbnmfnpolgaagreat", sum := "c579bdc1531598130197dee0590eb17520fa8715674b5006946e25a461babc6d", func := "loop.example/depkernel/laws.FnCheckDefs", spec := "fnCheckDefs", unfollowed := true, recurses := true, apart := false }
def FnCheckDefsSaid : Prop := fnCheckDefsRow.holds Tryz.pinned (OpenSpec.ofChange fnCheckDefsSpec)

/-- ITS FALSE NEIGHBOUR: 'it returns false'. Refute it at one input. -/
def fnCheckDefsWrong : ChangeSpec := { name := "fnCheckDefs", fn := fun _ => fun
  | [d] => { results := [.lit (.bool false)], args := [d] }
  | _ => none }
def FnCheckDefsWrongFalsely : Prop := fnCheckDefsRow.holds Tryz.pinned (OpenSpec.ofChange fnCheckDefsWrong)

/-- 'laws.FnCongProof': WHATEVER THE INPUT: true; the input reads as it did. -/
def fnCongProofSpec : ChangeSpec := { name := "fnCongProof", fn := fun _ => fun
  | [d] => { results := [.lit (.bool true)], args := [d] }
  | _ => none }
def fnCongProofRow : OpenClaim := { program := "ytckhbnmfnpolgaagreat", sum := "c579bdc1531598130197dee0590eb17520fa8715674b5006946e25a461babc6d", func := "loop.example/depkernel/laws.FnCongProof", spec := "fnCongProof", unfollowed := true, recurses := true, apart := false }
def FnCongProofSaid : Prop := fnCongProofRow.holds Tryz.pinned (OpenSpec.ofChange fnCongProofSpec)

/-- ITS FALSE NEIGHBOUR: 'it returns false'. Refute it at one input. -/
def fnCongProofWrong : ChangeSpec := { name := "fnCongProof", fn := fun _ => fun
  | [d] => { results := [.lit (.bool false)], args := [d] }
  | _ => none }
def FnCongProofWrongFalsely : Prop := fnCongProofRow.holds Tryz.pinned (OpenSpec.ofChange fnCongProofWrong)

/- THE SECOND FORM. 'bulk': how many values and letters a reading holds, each counted each time it is reached (what is shared counts as often as it is met; a slice's spare places count too). A statement '..UptoSaid' is the law's where the arguments, and the package variables that the reading takes, are together of bulk at most 1048576: NARROWER than '..Said'. Prove '..Said' where nothing that the law and all that it calls make is longer than what came in: it says more and counts as full. Else prove '..UptoSaid'. A law counts once. -/
mutual
def uptoBulk {H : Type} : DataW H → Nat
  | .lit (.string bytes) => bytes.length + 1
  | .lit _ => 1
  | .nil => 1
  | .ptr d => uptoBulk d + 1
  | .slice elems spare => uptoBulkAll elems + uptoBulkAll spare + 1
  | .agg parts => uptoBulkAll parts + 1
  | .iface _ d => uptoBulk d + 1
  | .map entries => uptoBulkEntries entries + 1
  | .held _ => 1
def uptoBulkAll {H : Type} : List (DataW H) → Nat
  | [] => 0
  | d :: r => uptoBulk d + uptoBulkAll r
def uptoBulkEntries {H : Type} : List (Lit × DataW H) → Nat
  | [] => 0
  | x :: r => uptoBulkEntry x + uptoBulkEntries r
def uptoBulkEntry {H : Type} : Lit × DataW H → Nat
  | (.string bytes, d) => bytes.length + uptoBulk d + 1
  | (_, d) => uptoBulk d + 1
 end
def uptoSmall : (H : Type) → List (DataW H) → Bool := fun _ ds => decide (uptoBulkAll ds ≤ 1048576)
def OpenSpec.upto (s : _root_.Go.ChangeSpec) : _root_.Go.OpenSpec := { _root_.Go.OpenSpec.ofChange s with cond := some uptoSmall }

/-- 'laws.FnSidesOf', WHERE WHAT IT READS IS OF BULK AT MOST 1048576: true; the input reads as it did. -/
def fnSidesOfUptoRow : OpenClaim := { program := "ytckhbnmfnpolgaagreat", sum := "c579bdc1531598130197dee0590eb17520fa8715674b5006946e25a461babc6d", func := "loop.example/depkernel/laws.FnSidesOf", spec := "fnSidesOf", unfollowed := true, recurses := true, apart := false, narrowed := true }
def FnSidesOfUptoSaid : Prop := fnSidesOfUptoRow.holds Tryz.pinned (OpenSpec.upto fnSidesOfSpec)

/-- 'laws.FnSymTwice', WHERE WHAT IT READS IS OF BULK AT MOST 1048576: true; the input reads as it did. -/
def fnSymTwiceUptoRow : OpenClaim := { program := "ytckhbnmfnpolgaagreat", sum := "c579bdc1531598130197dee0590eb17520fa8715674b5006946e25a461babc6d", func := "loop.example/depkernel/laws.FnSymTwice", spec := "fnSymTwice", unfollowed := true, recurses := true, apart := false, narrowed := true }
def FnSymTwiceUptoSaid : Prop := fnSymTwiceUptoRow.holds Tryz.pinned (OpenSpec.upto fnSymTwiceSpec)

/-- 'laws.FnSymProof', WHERE WHAT IT READS IS OF BULK AT MOST 1048576: true; the input reads as it did. -/
def fnSymProofUptoRow : OpenClaim := { program := "ytckhbnmfnpolgaagreat", sum := "c579bdc1531598130197dee0590eb17520fa8715674b5006946e25a461babc6d", func := "loop.example/depkernel/laws.FnSymProof", spec := "fnSymProof", unfollowed := true, recurses := true, apart := false, narrowed := true }
def FnSymProofUptoSaid : Prop := fnSymProofUptoRow.holds Tryz.pinned (OpenSpec.upto fnSymProofSpec)

/-- 'laws.FnIdType', WHERE WHAT IT READS IS OF BULK AT MOST 1048576: true; the input reads as it did. -/
def fnIdTypeUptoRow : OpenClaim := { program := "ytckhbnmfnpolgaagreat", sum := "c579bdc1531598130197dee0590eb17520fa8715674b5006946e25a461babc6d", func := "loop.example/depkernel/laws.FnIdType", spec := "fnIdType", unfollowed := true, recurses := true, apart := false, narrowed := true }
def FnIdTypeUptoSaid : Prop := fnIdTypeUptoRow.holds Tryz.pinned (OpenSpec.upto fnIdTypeSpec)

/-- 'laws.FnInferDefined', WHERE WHAT IT READS IS OF BULK AT MOST 1048576: true; the input reads as it did. -/
def fnInferDefinedUptoRow : OpenClaim := { program := "ytckhbnmfnpolgaagreat", sum := "c579bdc1531598130197dee0590eb17520fa8715674b5006946e25a461babc6d", func := "loop.example/depkernel/laws.FnInferDefined", spec := "fnInferDefined", unfollowed := true, recurses := true, apart := false, narrowed := true }
def FnInferDefinedUptoSaid : Prop := fnInferDefinedUptoRow.holds Tryz.pinned (OpenSpec.upto fnInferDefinedSpec)

/-- 'laws.FnTransProof', WHERE WHAT IT READS IS OF BULK AT MOST 1048576: true; the input reads as it did. -/
def fnTransProofUptoRow : OpenClaim := { program := "ytckhbnmfnpolgaagreat", sum := "c579bdc1531598130197dee0590eb17520fa8715674b5006946e25a461babc6d", func := "loop.example/depkernel/laws.FnTransProof", spec := "fnTransProof", unfollowed := true, recurses := true, apart := false, narrowed := true }
def FnTransProofUptoSaid : Prop := fnTransProofUptoRow.holds Tryz.pinned (OpenSpec.upto fnTransProofSpec)

/-- 'laws.FnCongRefl', WHERE WHAT IT READS IS OF BULK AT MOST 1048576: true; the input reads as it did. -/
def fnCongReflUptoRow : OpenClaim := { program := "ytckhbnmfnpolgaagreat", sum := "c579bdc1531598130197dee0590eb17520fa8715674b5006946e25a461babc6d", func := "loop.example/depkernel/laws.FnCongRefl", spec := "fnCongRefl", unfollowed := true, recurses := true, apart := false, narrowed := true }
def FnCongReflUptoSaid : Prop := fnCongReflUptoRow.holds Tryz.pinned (OpenSpec.upto fnCongReflSpec)

/-- 'laws.FnCheckDefs', WHERE WHAT IT READS IS OF BULK AT MOST 1048576: true; the input reads as it did. -/
def fnCheckDefsUptoRow : OpenClaim := { program := "ytckhbnmfnpolgaagreat", sum := "c579bdc1531598130197dee0590eb17520fa8715674b5006946e25a461babc6d", func := "loop.example/depkernel/laws.FnCheckDefs", spec := "fnCheckDefs", unfollowed := true, recurses := true, apart := false, narrowed := true }
def FnCheckDefsUptoSaid : Prop := fnCheckDefsUptoRow.holds Tryz.pinned (OpenSpec.upto fnCheckDefsSpec)

/-- 'laws.FnCongProof', WHERE WHAT IT READS IS OF BULK AT MOST 1048576: true; the input reads as it did. -/
def fnCongProofUptoRow : OpenClaim := { program := "ytckhbnmfnpolgaagreat", sum := "c579bdc1531598130197dee0590eb17520fa8715674b5006946e25a461babc6d", func := "loop.example/depkernel/laws.FnCongProof", spec := "fnCongProof", unfollowed := true, recurses := true, apart := false, narrowed := true }
def FnCongProofUptoSaid : Prop := fnCongProofUptoRow.holds Tryz.pinned (OpenSpec.upto fnCongProofSpec)

end Rows
end Go.Proofs.YtckhbnmfnpolgaaGreat
