/-
  NARROWER THAN 'FOR EVERY INPUT', by the rows' own cells (each row's printed sentence says how): FnExactCodeSame: loops · FnExactCodeValid: loops · FnExactCountCode: loops · FnExactCodeNumber: loops · FnExactDefsValid: loops · FnExactExtractTerm: loops.
  DERIVED. THE GIVEN ROWS OF THIS SEAT. 12 by the template 'for every input the law returns true; each argument reads behind the call as it read before'; 0 by the template 'total and deterministic' (their statements: YtohmpjpjpgonpaaTotals.lean).
  GIVEN WITH THE SEED: the statements are not yours to turn. If you find one false, say at which input.
  Laid BY PROGRAM, IN A SANDBOX (cutbox-rows.mjs): the forced cells as the released guide's own fill.sh prints them over the translation 9539e1063e069c96… (all of the seat's roots in one cut). By AI agents, Wed Nov 11 2026. No macro, syntax, notation, axiom, sorry.
-/
import Derived.Test.YtohmpjpjpgonpaaChecked
import GoSem.Claim
import GoSem.ClaimJoined
import GoSem.ClaimMapViews
import Derived.JoinedTies
import Derived.KernelRfl
namespace Go.Proofs.Ytohmpjpjpgonpaa
/- THE CELL 'sum', in the pinned program and in every row, IS THE sha256 OF THE DUMP (.gsa) THAT YtohmpjpjpgonpaaProg.lean LOADS. Nothing in Lean hashes anything: it is a label: what it is worth is what the hold of that sum in a sandbox is worth. -/
noncomputable def Try.pinned : Pinned := { name := "ytohmpjpjpgonpaa", sum := "9539e1063e069c96ddf9c35ce2dc33b53985b581c47ba2cd84a9ecbb9549fbda", checked := Try.checked }
namespace Rows
def none {H : Type} : Left H := { results := [], args := [] }

/-- 'laws.FnExactFunArity': WHATEVER THE INPUT: true; the input reads as it did. -/
def fnExactFunAritySpec : ChangeSpec := { name := "fnExactFunArity", fn := fun _ => fun
  | [d] => { results := [.lit (.bool true)], args := [d] }
  | _ => none }
def fnExactFunArityRow : OpenClaim := { program := "ytohmpjpjpgonpaa", sum := "9539e1063e069c96ddf9c35ce2dc33b53985b581c47ba2cd84a9ecbb9549fbda", func := "loop.example/depkernel/laws.FnExactFunArity", spec := "fnExactFunArity", apart := false }
def FnExactFunAritySaid : Prop := fnExactFunArityRow.holds Try.pinned (OpenSpec.ofChange fnExactFunAritySpec)

/-- ITS FALSE NEIGHBOUR: 'it returns false'. Refute it at one input. -/
def fnExactFunArityWrong : ChangeSpec := { name := "fnExactFunArity", fn := fun _ => fun
  | [d] => { results := [.lit (.bool false)], args := [d] }
  | _ => none }
def FnExactFunArityWrongFalsely : Prop := fnExactFunArityRow.holds Try.pinned (OpenSpec.ofChange fnExactFunArityWrong)

/-- 'laws.FnExactCodeSame': WHATEVER THE INPUT: true; the input reads as it did. -/
def fnExactCodeSameSpec : ChangeSpec := { name := "fnExactCodeSame", fn := fun _ => fun
  | [d1, d2] => { results := [.lit (.bool true)], args := [d1, d2] }
  | _ => none }
def fnExactCodeSameRow : OpenClaim := { program := "ytohmpjpjpgonpaa", sum := "9539e1063e069c96ddf9c35ce2dc33b53985b581c47ba2cd84a9ecbb9549fbda", func := "loop.example/depkernel/laws.FnExactCodeSame", spec := "fnExactCodeSame", unfollowed := true, recurses := true, loops := true, apart := false }
def FnExactCodeSameSaid : Prop := fnExactCodeSameRow.holds Try.pinned (OpenSpec.ofChange fnExactCodeSameSpec)

/-- ITS FALSE NEIGHBOUR: 'it returns false'. Refute it at one input. -/
def fnExactCodeSameWrong : ChangeSpec := { name := "fnExactCodeSame", fn := fun _ => fun
  | [d1, d2] => { results := [.lit (.bool false)], args := [d1, d2] }
  | _ => none }
def FnExactCodeSameWrongFalsely : Prop := fnExactCodeSameRow.holds Try.pinned (OpenSpec.ofChange fnExactCodeSameWrong)

/-- 'laws.FnExactEqualNumbers': WHATEVER THE INPUT: true; the input reads as it did. -/
def fnExactEqualNumbersSpec : ChangeSpec := { name := "fnExactEqualNumbers", fn := fun _ => fun
  | [d1, d2] => { results := [.lit (.bool true)], args := [d1, d2] }
  | _ => none }
def fnExactEqualNumbersRow : OpenClaim := { program := "ytohmpjpjpgonpaa", sum := "9539e1063e069c96ddf9c35ce2dc33b53985b581c47ba2cd84a9ecbb9549fbda", func := "loop.example/depkernel/laws.FnExactEqualNumbers", spec := "fnExactEqualNumbers", recurses := true, apart := false }
def FnExactEqualNumbersSaid : Prop := fnExactEqualNumbersRow.holds Try.pinned (OpenSpec.ofChange fnExactEqualNumbersSpec)

/-- ITS FALSE NEIGHBOUR: 'it returns false'. Refute it at one input. -/
def fnExactEqualNumbersWrong : ChangeSpec := { name := "fnExactEqualNumbers", fn := fun _ => fun
  | [d1, d2] => { results := [.lit (.bool false)], args := [d1, d2] }
  | _ => none }
def FnExactEqualNumbersWrongFalsely : Prop := fnExactEqualNumbersRow.holds Try.pinned (OpenSpec.ofChange fnExactEqualNumbersWrong)

/-- 'laws.FnExactFunValue': WHATEVER THE INPUT: true; the input reads as it did. -/
def fnExactFunValueSpec : ChangeSpec := { name := "fnExactFunValue", fn := fun _ => fun
  | [d1, d2] => { results := [.lit (.bool true)], args := [d1, d2] }
  | _ => none }
def fnExactFunValueRow : OpenClaim := { program := "ytohmpjpjpgonpaa", sum := "9539e1063e069c96ddf9c35ce2dc33b53985b581c47ba2cd84a9ecbb9549fbda", func := "loop.example/depkernel/laws.FnExactFunValue", spec := "fnExactFunValue", unfollowed := true, recurses := true, apart := false }
def FnExactFunValueSaid : Prop := fnExactFunValueRow.holds Try.pinned (OpenSpec.ofChange fnExactFunValueSpec)

/-- ITS FALSE NEIGHBOUR: 'it returns false'. Refute it at one input. -/
def fnExactFunValueWrong : ChangeSpec := { name := "fnExactFunValue", fn := fun _ => fun
  | [d1, d2] => { results := [.lit (.bool false)], args := [d1, d2] }
  | _ => none }
def FnExactFunValueWrongFalsely : Prop := fnExactFunValueRow.holds Try.pinned (OpenSpec.ofChange fnExactFunValueWrong)

/-- 'laws.FnExactCodeValid': WHATEVER THE INPUT: true; the input reads as it did. -/
def fnExactCodeValidSpec : ChangeSpec := { name := "fnExactCodeValid", fn := fun _ => fun
  | [d] => { results := [.lit (.bool true)], args := [d] }
  | _ => none }
def fnExactCodeValidRow : OpenClaim := { program := "ytohmpjpjpgonpaa", sum := "9539e1063e069c96ddf9c35ce2dc33b53985b581c47ba2cd84a9ecbb9549fbda", func := "loop.example/depkernel/laws.FnExactCodeValid", spec := "fnExactCodeValid", recurses := true, loops := true, apart := false }
def FnExactCodeValidSaid : Prop := fnExactCodeValidRow.holds Try.pinned (OpenSpec.ofChange fnExactCodeValidSpec)

/-- ITS FALSE NEIGHBOUR: 'it returns false'. Refute it at one input. -/
def fnExactCodeValidWrong : ChangeSpec := { name := "fnExactCodeValid", fn := fun _ => fun
  | [d] => { results := [.lit (.bool false)], args := [d] }
  | _ => none }
def FnExactCodeValidWrongFalsely : Prop := fnExactCodeValidRow.holds Try.pinned (OpenSpec.ofChange fnExactCodeValidWrong)

/-- 'laws.FnExactCountCode': WHATEVER THE INPUT: true; the input reads as it did. -/
def fnExactCountCodeSpec : ChangeSpec := { name := "fnExactCountCode", fn := fun _ => fun
  | [d] => { results := [.lit (.bool true)], args := [d] }
  | _ => none }
def fnExactCountCodeRow : OpenClaim := { program := "ytohmpjpjpgonpaa", sum := "9539e1063e069c96ddf9c35ce2dc33b53985b581c47ba2cd84a9ecbb9549fbda", func := "loop.example/depkernel/laws.FnExactCountCode", spec := "fnExactCountCode", recurses := true, loops := true, apart := false }
def FnExactCountCodeSaid : Prop := fnExactCountCodeRow.holds Try.pinned (OpenSpec.ofChange fnExactCountCodeSpec)

/-- ITS FALSE NEIGHBOUR: 'it returns false'. Refute it at one input. -/
def fnExactCountCodeWrong : ChangeSpec := { name := "fnExactCountCode", fn := fun _ => fun
  | [d] => { results := [.lit (.bool false)], args := [d] }
  | _ => none }
def FnExactCountCodeWrongFalsely : Prop := fnExactCountCodeRow.holds Try.pinned (OpenSpec.ofChange fnExactCountCodeWrong)

/-- 'laws.FnFunPlus': WHATEVER THE INPUT: true; the input reads as it did. -/
def fnFunPlusSpec : ChangeSpec := { name := "fnFunPlus", fn := fun _ => fun
  | [d1, d2] => { results := [.lit (.bool true)], args := [d1, d2] }
  | _ => none }
def fnFunPlusRow : OpenClaim := { program := "ytohmpjpjpgonpaa", sum := "9539e1063e069c96ddf9c35ce2dc33b53985b581c47ba2cd84a9ecbb9549fbda", func := "loop.example/depkernel/laws.FnFunPlus", spec := "fnFunPlus", unfollowed := true, recurses := true, apart := false }
def FnFunPlusSaid : Prop := fnFunPlusRow.holds Try.pinned (OpenSpec.ofChange fnFunPlusSpec)

/-- ITS FALSE NEIGHBOUR: 'it returns false'. Refute it at one input. -/
def fnFunPlusWrong : ChangeSpec := { name := "fnFunPlus", fn := fun _ => fun
  | [d1, d2] => { results := [.lit (.bool false)], args := [d1, d2] }
  | _ => none }
def FnFunPlusWrongFalsely : Prop := fnFunPlusRow.holds Try.pinned (OpenSpec.ofChange fnFunPlusWrong)

/-- 'laws.FnFunTimes': WHATEVER THE INPUT: true; the input reads as it did. -/
def fnFunTimesSpec : ChangeSpec := { name := "fnFunTimes", fn := fun _ => fun
  | [d1, d2] => { results := [.lit (.bool true)], args := [d1, d2] }
  | _ => none }
def fnFunTimesRow : OpenClaim := { program := "ytohmpjpjpgonpaa", sum := "9539e1063e069c96ddf9c35ce2dc33b53985b581c47ba2cd84a9ecbb9549fbda", func := "loop.example/depkernel/laws.FnFunTimes", spec := "fnFunTimes", unfollowed := true, recurses := true, apart := false }
def FnFunTimesSaid : Prop := fnFunTimesRow.holds Try.pinned (OpenSpec.ofChange fnFunTimesSpec)

/-- ITS FALSE NEIGHBOUR: 'it returns false'. Refute it at one input. -/
def fnFunTimesWrong : ChangeSpec := { name := "fnFunTimes", fn := fun _ => fun
  | [d1, d2] => { results := [.lit (.bool false)], args := [d1, d2] }
  | _ => none }
def FnFunTimesWrongFalsely : Prop := fnFunTimesRow.holds Try.pinned (OpenSpec.ofChange fnFunTimesWrong)

/-- 'laws.FnExactCodeNumber': WHATEVER THE INPUT: true; the input reads as it did. -/
def fnExactCodeNumberSpec : ChangeSpec := { name := "fnExactCodeNumber", fn := fun _ => fun
  | [d] => { results := [.lit (.bool true)], args := [d] }
  | _ => none }
def fnExactCodeNumberRow : OpenClaim := { program := "ytohmpjpjpgonpaa", sum := "9539e1063e069c96ddf9c35ce2dc33b53985b581c47ba2cd84a9ecbb9549fbda", func := "loop.example/depkernel/laws.FnExactCodeNumber", spec := "fnExactCodeNumber", recurses := true, loops := true, apart := false }
def FnExactCodeNumberSaid : Prop := fnExactCodeNumberRow.holds Try.pinned (OpenSpec.ofChange fnExactCodeNumberSpec)

/-- ITS FALSE NEIGHBOUR: 'it returns false'. Refute it at one input. -/
def fnExactCodeNumberWrong : ChangeSpec := { name := "fnExactCodeNumber", fn := fun _ => fun
  | [d] => { results := [.lit (.bool false)], args := [d] }
  | _ => none }
def FnExactCodeNumberWrongFalsely : Prop := fnExactCodeNumberRow.holds Try.pinned (OpenSpec.ofChange fnExactCodeNumberWrong)

/-- 'laws.FnExactDefsValid': WHATEVER THE INPUT: true; the input reads as it did. -/
def fnExactDefsValidSpec : ChangeSpec := { name := "fnExactDefsValid", fn := fun _ => fun
  | [d] => { results := [.lit (.bool true)], args := [d] }
  | _ => none }
def fnExactDefsValidRow : OpenClaim := { program := "ytohmpjpjpgonpaa", sum := "9539e1063e069c96ddf9c35ce2dc33b53985b581c47ba2cd84a9ecbb9549fbda", func := "loop.example/depkernel/laws.FnExactDefsValid", spec := "fnExactDefsValid", unfollowed := true, recurses := true, loops := true, apart := false }
def FnExactDefsValidSaid : Prop := fnExactDefsValidRow.holds Try.pinned (OpenSpec.ofChange fnExactDefsValidSpec)

/-- ITS FALSE NEIGHBOUR: 'it returns false'. Refute it at one input. -/
def fnExactDefsValidWrong : ChangeSpec := { name := "fnExactDefsValid", fn := fun _ => fun
  | [d] => { results := [.lit (.bool false)], args := [d] }
  | _ => none }
def FnExactDefsValidWrongFalsely : Prop := fnExactDefsValidRow.holds Try.pinned (OpenSpec.ofChange fnExactDefsValidWrong)

/-- 'laws.FnExactExtractTerm': WHATEVER THE INPUT: true; the input reads as it did. -/
def fnExactExtractTermSpec : ChangeSpec := { name := "fnExactExtractTerm", fn := fun _ => fun
  | [d] => { results := [.lit (.bool true)], args := [d] }
  | _ => none }
def fnExactExtractTermRow : OpenClaim := { program := "ytohmpjpjpgonpaa", sum := "9539e1063e069c96ddf9c35ce2dc33b53985b581c47ba2cd84a9ecbb9549fbda", func := "loop.example/depkernel/laws.FnExactExtractTerm", spec := "fnExactExtractTerm", unfollowed := true, recurses := true, loops := true, apart := false }
def FnExactExtractTermSaid : Prop := fnExactExtractTermRow.holds Try.pinned (OpenSpec.ofChange fnExactExtractTermSpec)

/-- ITS FALSE NEIGHBOUR: 'it returns false'. Refute it at one input. -/
def fnExactExtractTermWrong : ChangeSpec := { name := "fnExactExtractTerm", fn := fun _ => fun
  | [d] => { results := [.lit (.bool false)], args := [d] }
  | _ => none }
def FnExactExtractTermWrongFalsely : Prop := fnExactExtractTermRow.holds Try.pinned (OpenSpec.ofChange fnExactExtractTermWrong)

/-- 'laws.FnExtractNumeral': WHATEVER THE INPUT: true; the input reads as it did. -/
def fnExtractNumeralSpec : ChangeSpec := { name := "fnExtractNumeral", fn := fun _ => fun
  | [d] => { results := [.lit (.bool true)], args := [d] }
  | _ => none }
def fnExtractNumeralRow : OpenClaim := { program := "ytohmpjpjpgonpaa", sum := "9539e1063e069c96ddf9c35ce2dc33b53985b581c47ba2cd84a9ecbb9549fbda", func := "loop.example/depkernel/laws.FnExtractNumeral", spec := "fnExtractNumeral", unfollowed := true, recurses := true, apart := false }
def FnExtractNumeralSaid : Prop := fnExtractNumeralRow.holds Try.pinned (OpenSpec.ofChange fnExtractNumeralSpec)

/-- ITS FALSE NEIGHBOUR: 'it returns false'. Refute it at one input. -/
def fnExtractNumeralWrong : ChangeSpec := { name := "fnExtractNumeral", fn := fun _ => fun
  | [d] => { results := [.lit (.bool false)], args := [d] }
  | _ => none }
def FnExtractNumeralWrongFalsely : Prop := fnExtractNumeralRow.holds Try.pinned (OpenSpec.ofChange fnExtractNumeralWrong)

/- THE SECOND FORM. 'bulk': how many values and letters a reading holds, each counted each time it is reached (what is shared counts as often as it is met; a slice's spare places count too). A statement '..UptoSaid' is the law's where the arguments, and the package variables that the reading takes, are together of bulk at most 1048576: NARROWER than '..Said'. Prove '..Said' where nothing that the law and all that it calls make is longer than what came in: it says more and counts as full. Else prove '..UptoSaid'. A law counts once. -/
mutual
def uptoBulk {H : Type} : DataW H → Nat
  | .lit (.string bytes) => bytes.length + 1
  | .lit _ => 1
  | .nil => 1
  | .ptr d => uptoBulk d + 1
  | .slice elems spare => uptoBulkAll elems + uptoBulkAll spare + 1
  | .agg parts => uptoBulkAll parts + 1
  | .iface _ d => uptoBulk d + 1
  | .map entries => uptoBulkEntries entries + 1
  | .held _ => 1
def uptoBulkAll {H : Type} : List (DataW H) → Nat
  | [] => 0
  | d :: r => uptoBulk d + uptoBulkAll r
def uptoBulkEntries {H : Type} : List (Lit × DataW H) → Nat
  | [] => 0
  | x :: r => uptoBulkEntry x + uptoBulkEntries r
def uptoBulkEntry {H : Type} : Lit × DataW H → Nat
  | (.string bytes, d) => bytes.length + uptoBulk d + 1
  | (_, d) => uptoBulk d + 1
 end
def uptoSmall : (H : Type) → List (DataW H) → Bool := fun _ ds => decide (uptoBulkAll ds ≤ 1048576)
def OpenSpec.upto (s : _root_.Go.ChangeSpec) : _root_.Go.OpenSpec := { _root_.Go.OpenSpec.ofChange s with cond := some uptoSmall }

/-- 'laws.FnExactFunArity', WHERE WHAT IT READS IS OF BULK AT MOST 1048576: true; the input reads as it did. -/
def fnExactFunArityUptoRow : OpenClaim := { program := "ytohmpjpjpgonpaa", sum := "9539e1063e069c96ddf9c35ce2dc33b53985b581c47ba2cd84a9ecbb9549fbda", func := "loop.example/depkernel/laws.FnExactFunArity", spec := "fnExactFunArity", apart := false, narrowed := true }
def FnExactFunArityUptoSaid : Prop := fnExactFunArityUptoRow.holds Try.pinned (OpenSpec.upto fnExactFunAritySpec)

/-- 'laws.FnExactCodeSame', WHERE WHAT IT READS IS OF BULK AT MOST 1048576: true; the input reads as it did. -/
def fnExactCodeSameUptoRow : OpenClaim := { program := "ytohmpjpjpgonpaa", sum := "9539e1063e069c96ddf9c35ce2dc33b53985b581c47ba2cd84a9ecbb9549fbda", func := "loop.example/depkernel/laws.FnExactCodeSame", spec := "fnExactCodeSame", unfollowed := true, recurses := true, loops := true, apart := false, narrowed := true }
def FnExactCodeSameUptoSaid : Prop := fnExactCodeSameUptoRow.holds Try.pinned (OpenSpec.upto fnExactCodeSameSpec)

/-- 'laws.FnExactEqualNumbers', WHERE WHAT IT READS IS OF BULK AT MOST 1048576: true; the input reads as it did. -/
def fnExactEqualNumbersUptoRow : OpenClaim := { program := "ytohmpjpjpgonpaa", sum := "9539e1063e069c96ddf9c35ce2dc33b53985b581c47ba2cd84a9ecbb9549fbda", func := "loop.example/depkernel/laws.FnExactEqualNumbers", spec := "fnExactEqualNumbers", recurses := true, apart := false, narrowed := true }
def FnExactEqualNumbersUptoSaid : Prop := fnExactEqualNumbersUptoRow.holds Try.pinned (OpenSpec.upto fnExactEqualNumbersSpec)

/-- 'laws.FnExactFunValue', WHERE WHAT IT READS IS OF BULK AT MOST 1048576: true; the input reads as it did. -/
def fnExactFunValueUptoRow : OpenClaim := { program := "ytohmpjpjpgonpaa", sum := "9539e1063e069c96ddf9c35ce2dc33b53985b581c47ba2cd84a9ecbb9549fbda", func := "loop.example/depkernel/laws.FnExactFunValue", spec := "fnExactFunValue", unfollowed := true, recurses := true, apart := false, narrowed := true }
def FnExactFunValueUptoSaid : Prop := fnExactFunValueUptoRow.holds Try.pinned (OpenSpec.upto fnExactFunValueSpec)

/-- 'laws.FnExactCodeValid', WHERE WHAT IT READS IS OF BULK AT MOST 1048576: true; the input reads as it did. -/
def fnExactCodeValidUptoRow : OpenClaim := { program := "ytohmpjpjpgonpaa", sum := "9539e1063e069c96ddf9c35ce2dc33b53985b581c47ba2cd84a9ecbb9549fbda", func := "loop.example/depkernel/laws.FnExactCodeValid", spec := "fnExactCodeValid", recurses := true, loops := true, apart := false, narrowed := true }
def FnExactCodeValidUptoSaid : Prop := fnExactCodeValidUptoRow.holds Try.pinned (OpenSpec.upto fnExactCodeValidSpec)

/-- 'laws.FnExactCountCode', WHERE WHAT IT READS IS OF BULK AT MOST 1048576: true; the input reads as it did. -/
def fnExactCountCodeUptoRow : OpenClaim := { program := "ytohmpjpjpgonpaa", sum := "9539e1063e069c96ddf9c35ce2dc33b53985b581c47ba2cd84a9ecbb9549fbda", func := "loop.example/depkernel/laws.FnExactCountCode", spec := "fnExactCountCode", recurses := true, loops := true, apart := false, narrowed := true }
def FnExactCountCodeUptoSaid : Prop := fnExactCountCodeUptoRow.holds Try.pinned (OpenSpec.upto fnExactCountCodeSpec)

/-- 'laws.FnFunPlus', WHERE WHAT IT READS IS OF BULK AT MOST 1048576: true; the input reads as it did. -/
def fnFunPlusUptoRow : OpenClaim := { program := "ytohmpjpjpgonpaa", sum := "9539e1063e069c96ddf9c35ce2dc33b53985b581c47ba2cd84a9ecbb9549fbda", func := "loop.example/depkernel/laws.FnFunPlus", spec := "fnFunPlus", unfollowed := true, recurses := true, apart := false, narrowed := true }
def FnFunPlusUptoSaid : Prop := fnFunPlusUptoRow.holds Try.pinned (OpenSpec.upto fnFunPlusSpec)

/-- 'laws.FnFunTimes', WHERE WHAT IT READS IS OF BULK AT MOST 1048576: true; the input reads as it did. -/
def fnFunTimesUptoRow : OpenClaim := { program := "ytohmpjpjpgonpaa", sum := "9539e1063e069c96ddf9c35ce2dc33b53985b581c47ba2cd84a9ecbb9549fbda", func := "loop.example/depkernel/laws.FnFunTimes", spec := "fnFunTimes", unfollowed := true, recurses := true, apart := false, narrowed := true }
def FnFunTimesUptoSaid : Prop := fnFunTimesUptoRow.holds Try.pinned (OpenSpec.upto fnFunTimesSpec)

/-- 'laws.FnExactCodeNumber', WHERE WHAT IT READS IS OF BULK AT MOST 1048576: true; the input reads as it did. -/
def fnExactCodeNumberUptoRow : OpenClaim := { program := "ytohmpjpjpgonpaa", sum := "9539e1063e069c96ddf9c35ce2dc33b53985b581c47ba2cd84a9ecbb9549fbda", func := "loop.example/depkernel/laws.FnExactCodeNumber", spec := "fnExactCodeNumber", recurses := true, loops := true, apart := false, narrowed := true }
def FnExactCodeNumberUptoSaid : Prop := fnExactCodeNumberUptoRow.holds Try.pinned (OpenSpec.upto fnExactCodeNumberSpec)

/-- 'laws.FnExactDefsValid', WHERE WHAT IT READS IS OF BULK AT MOST 1048576: true; the input reads as it did. -/
def fnExactDefsValidUptoRow : OpenClaim := { program := "ytohmpjpjpgonpaa", sum := "9539e1063e069c96ddf9c35ce2dc33b53985b581c47ba2cd84a9ecbb9549fbda", func := "loop.example/depkernel/laws.FnExactDefsValid", spec := "fnExactDefsValid", unfollowed := true, recurses := true, loops := true, apart := false, narrowed := true }
def FnExactDefsValidUptoSaid : Prop := fnExactDefsValidUptoRow.holds Try.pinned (OpenSpec.upto fnExactDefsValidSpec)

/-- 'laws.FnExactExtractTerm', WHERE WHAT IT READS IS OF BULK AT MOST 1048576: true; the input reads as it did. -/
def fnExactExtractTermUptoRow : OpenClaim := { program := "ytohmpjpjpgonpaa", sum := "9539e1063e069c96ddf9c35ce2dc33b53985b581c47ba2cd84a9ecbb9549fbda", func := "loop.example/depkernel/laws.FnExactExtractTerm", spec := "fnExactExtractTerm", unfollowed := true, recurses := true, loops := true, apart := false, narrowed := true }
def FnExactExtractTermUptoSaid : Prop := fnExactExtractTermUptoRow.holds Try.pinned (OpenSpec.upto fnExactExtractTermSpec)

/-- 'laws.FnExtractNumeral', WHERE WHAT IT READS IS OF BULK AT MOST 1048576: true; the input reads as it did. -/
def fnExtractNumeralUptoRow : OpenClaim := { program := "ytohmpjpjpgonpaa", sum := "9539e1063e069c96ddf9c35ce2dc33b53985b581c47ba2cd84a9ecbb9549fbda", func := "loop.example/depkernel/laws.FnExtractNumeral", spec := "fnExtractNumeral", unfollowed := true, recurses := true, apart := false, narrowed := true }
def FnExtractNumeralUptoSaid : Prop := fnExtractNumeralUptoRow.holds Try.pinned (OpenSpec.upto fnExtractNumeralSpec)

end Rows
end Go.Proofs.Ytohmpjpjpgonpaa
