-- Left of the kit's printed words by a program of this session: what the proofs use.
import Derived.Test.YtnfiapcemafmiaaWInv
import Derived.Test.YtnfiapcemafmiaaWFootNe
namespace Go.Proofs.YtnfiapcemafmiaaW.PrintWords
open Go.RowKit
end Go.Proofs.YtnfiapcemafmiaaW.PrintWords
namespace Go.Proofs.YtnfiapcemafmiaaW.PrintLast
section
variable {ops : Array Oper} {a : Act} {o og : Oper} {g : Nat} {t : Tmp} {u : Bool}
end
end Go.Proofs.YtnfiapcemafmiaaW.PrintLast
