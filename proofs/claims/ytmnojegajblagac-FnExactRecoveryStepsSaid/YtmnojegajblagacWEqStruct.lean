-- Left of the kit's printed words by a program of this session: what the proofs use.
import Derived.Test.YtmnojegajblagacWWords
import Derived.Laws.StructEq
/-! ### 53. '==' of structs as_ one Bool -/
namespace Go.Proofs.YtmnojegajblagacW.PrintWords
open Go.RowKit
section
variable {P : Program} {d : Nat} {xs ys : Array Value} {f : Field} {fs : List Field} {a b : Value} {r s : Bool} {w : World}
end
end Go.Proofs.YtmnojegajblagacW.PrintWords
