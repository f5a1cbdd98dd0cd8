/- Lemmas on numbers and lists that the proofs of this seat share; no condition. -/
import Derived.Test.YtcafdolliedcaaaWMore
import Derived.Test.YtcafdolliedcaaaLibBase
namespace Go.Proofs.Ytcafdolliedcaaa.Lib
open Go.RowKit Go.Proofs.YtcafdolliedcaaaW.PrintWords Go.Proofs.YtcafdolliedcaaaW.PrintLast Go.Proofs.YtcafdolliedcaaaW.PrintMore
set_option linter.unusedVariables false
set_option linter.unusedSimpArgs false

/-- Both sums of a checksum, from a and b on. -/
def ck : List Int → Int → Int → Int × Int
  | [], a, b => (a, b)
  | x :: l, a, b => ck l ((a + x) % 65521) ((b + (a + x) % 65521) % 65521)
def checksum (l : List Int) : Int := (ck l 1 0).2 * 65536 + (ck l 1 0).1
theorem ck_lt (l : List Int) : ∀ a b : Int, 0 ≤ a → a < 65521 → 0 ≤ b → b < 65521 → 0 ≤ (ck l a b).1 ∧ (ck l a b).1 < 65521 ∧ 0 ≤ (ck l a b).2 ∧ (ck l a b).2 < 65521 := by
  induction l with
  | nil => exact fun a b h1 h2 h3 h4 => ⟨h1, h2, h3, h4⟩
  | cons x l ih =>
    intro a b h1 h2 h3 h4
    exact ih _ _ (by omega) (by omega) (by omega) (by omega)
theorem checksum_le (l : List Int) : 0 ≤ checksum l ∧ checksum l ≤ 4294967296 := by
  have := ck_lt l 1 0 (by omega) (by omega) (by omega) (by omega)
  unfold checksum
  omega

end Go.Proofs.Ytcafdolliedcaaa.Lib
