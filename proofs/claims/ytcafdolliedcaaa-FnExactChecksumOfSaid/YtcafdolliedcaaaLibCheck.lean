/- Lemmas on numbers and lists that the proofs of this seat share; no condition. -/
import Derived.Test.YtcafdolliedcaaaWMore
import Derived.Test.YtcafdolliedcaaaLibBase
namespace Go.Proofs.Ytcafdolliedcaaa.Lib
open Go.RowKit Go.Proofs.YtcafdolliedcaaaW.PrintWords Go.Proofs.YtcafdolliedcaaaW.PrintLast Go.Proofs.YtcafdolliedcaaaW.PrintMore
set_option linter.unusedVariables false
set_option linter.unusedSimpArgs false

/-- Both sums of a checksum, from a and b on. -/
def ck : List Int → Int → Int → Int × Int
  | [], a, b => (a, b)
  | x :: l, a, b => ck l ((a + x) % 65521) ((b + (a + x) % 65521) % 65521)
def checksum (l : List Int) : Int := (ck l 1 0).2 * 65536 + (ck l 1 0).1

end Go.Proofs.Ytcafdolliedcaaa.Lib
