-- Left of the kit's printed words by a program of this session: what the proofs use.
import Derived.Test.YtmnojegajblagabWInv
import Derived.Test.YtmnojegajblagabWFootNe
namespace Go.Proofs.YtmnojegajblagabW.PrintWords
open Go.RowKit
end Go.Proofs.YtmnojegajblagabW.PrintWords
namespace Go.Proofs.YtmnojegajblagabW.PrintLast
section
variable {ops : Array Oper} {a : Act} {o og : Oper} {g : Nat} {t : Tmp} {u : Bool}
end
end Go.Proofs.YtmnojegajblagabW.PrintLast
