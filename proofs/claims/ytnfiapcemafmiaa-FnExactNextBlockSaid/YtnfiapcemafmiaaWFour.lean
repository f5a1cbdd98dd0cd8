-- Left of the kit's printed words by a program of this session: what the proofs use.
import Derived.Test.YtnfiapcemafmiaaWTab
namespace Go.Proofs.YtnfiapcemafmiaaW.PrintLast
section
variable {P : Program} {ops : Array Oper} {Q : Exit → Act → World → Prop} {md : Region.Mode} {S : World → Prop} {ds : List Nat} {T : Bool × List (List Nat × List Nat)}
end
end Go.Proofs.YtnfiapcemafmiaaW.PrintLast
