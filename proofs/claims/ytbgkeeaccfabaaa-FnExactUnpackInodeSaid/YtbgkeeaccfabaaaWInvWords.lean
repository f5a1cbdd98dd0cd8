-- Left of the kit's printed words by a program of this session: what the proofs use.
import Derived.Test.YtbgkeeaccfabaaaWInv
import Derived.Test.YtbgkeeaccfabaaaWFootNe
namespace Go.Proofs.YtbgkeeaccfabaaaW.PrintWords
open Go.RowKit
end Go.Proofs.YtbgkeeaccfabaaaW.PrintWords
namespace Go.Proofs.YtbgkeeaccfabaaaW.PrintLast
section
variable {ops : Array Oper} {a : Act} {o og : Oper} {g : Nat} {t : Tmp} {u : Bool}
end
end Go.Proofs.YtbgkeeaccfabaaaW.PrintLast
