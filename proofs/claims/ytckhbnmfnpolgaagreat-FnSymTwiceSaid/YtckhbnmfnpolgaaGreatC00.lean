/-
  Short forms of values.
-/
import Derived.ProofKit
namespace Go.Proofs.YtckhbnmfnpolgaaGreat
open Go
abbrev m0(x:Int):Value:=.int .i64 x
abbrev M0(a b:Int)(c:Option Addr)(d e:Nat):Value:=.agg #[m0 a,m0 b,.slice c d e]
abbrev H0(a b:Int)(c:Option Addr)(d e:Nat):Obj:=.cells #[m0 a,m0 b,.slice c d e] 25
