/- The law FnExactErrorName holds for every input of its kind; no further condition. -/
import Derived.Test.YtpcbmbmiilfpeaaPFnExactErrorNamex1
import Derived.Test.YtpcbmbmiilfpeaaLibBase
namespace Go.Proofs.Ytpcbmbmiilfpeaa.Pure
open Go.RowKit Go.Proofs.Ytpcbmbmiilfpeaa.PFnExactErrorName Go.Proofs.Ytpcbmbmiilfpeaa.Lib Go.Proofs.YtpcbmbmiilfpeaaW.PrintWords Go.Proofs.YtpcbmbmiilfpeaaW.PrintLast Go.Proofs.YtpcbmbmiilfpeaaW.PrintMore
set_option linter.unusedVariables false
set_option linter.unusedSimpArgs false


theorem FnExactErrorName : laws_FnExactErrorName.Pure := by
  intro a h
  unfold laws_FnExactErrorName.f spec_ErrorName.f impl_ErrorName.f spec_l01In.f
  by_cases h0 : a < 0
  · rw [if_neg (show ¬ a ≥ 0 by omega)]
    simp [h0]
  · rw [if_pos (show a ≥ 0 by omega)]
    by_cases h1 : a ≥ 16
    · simp [h0, h1, show ¬ a ≤ 15 by omega]
    · simp [h0, h1, show a ≤ 15 by omega, show 0 ≤ a by omega, show a < 16 by omega]

end Go.Proofs.Ytpcbmbmiilfpeaa.Pure
