-- Left of the kit's printed words by a program of this session: what the proofs use.
import Derived.Test.YtnfiapcemafmiaaWN
namespace Go.Proofs.YtnfiapcemafmiaaW.PrintWords
open Go.RowKit
namespace Kd
section
variable {α : Type} {d : Kd α} {W : World} {g n : Nat} {S ok : Nat → Prop} {A : Option Addr} {ad : Addr} {xs : List α}
end
end Kd
end Go.Proofs.YtnfiapcemafmiaaW.PrintWords
