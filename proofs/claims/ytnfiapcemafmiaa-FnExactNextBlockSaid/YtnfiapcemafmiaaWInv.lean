-- Left of the kit's printed words by a program of this session: what the proofs use.
import Derived.Test.YtnfiapcemafmiaaWTab
namespace Go.Proofs.YtnfiapcemafmiaaW.PrintLast
section
variable {P : Program} {ops : Array Oper} {Q : Exit → Act → World → Prop} {md : Region.Mode} {T : Bool × List (List Nat × List Nat)} {B : List Nat} {O : List Nat} {b : Nat → Bool} {i j n : Nat}
end
end Go.Proofs.YtnfiapcemafmiaaW.PrintLast
