-- Left of the kit's printed words by a program of this session: what the proofs use.
import Derived.Test.YtmnojegajblagacWInv
import Derived.Test.YtmnojegajblagacWFootNe
namespace Go.Proofs.YtmnojegajblagacW.PrintWords
open Go.RowKit
end Go.Proofs.YtmnojegajblagacW.PrintWords
namespace Go.Proofs.YtmnojegajblagacW.PrintLast
section
variable {ops : Array Oper} {a : Act} {o og : Oper} {g : Nat} {t : Tmp} {u : Bool}
end
end Go.Proofs.YtmnojegajblagacW.PrintLast
