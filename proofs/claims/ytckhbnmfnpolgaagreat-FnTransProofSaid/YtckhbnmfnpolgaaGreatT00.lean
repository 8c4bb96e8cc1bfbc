/-
  Short forms of values.
-/
import Derived.ProofKit
namespace Go.Proofs.YtckhbnmfnpolgaaGreat
open Go
abbrev j0(x:Int):Value:=.int .i64 x
abbrev m0(a b:Int)(c:Option Addr)(d e:Nat):Value:=.agg #[j0 a,j0 b,.slice c d e]
abbrev D0(a b:Int)(c:Option Addr)(d e:Nat):Obj:=.cells #[j0 a,j0 b,.slice c d e] 25
abbrev M0:Obj:=D0 0 0 none 0 0
abbrev O2(g:Nat):Value:=.pointer (some ⟨g,0,none⟩)
