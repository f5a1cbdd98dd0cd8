/- The law FnExactBlockOwner holds for every input of its kind; no further condition. -/
import Derived.Test.YtpcbmbmiilfpeaaPFnExactBlockOwnerx1
import Derived.Test.YtpcbmbmiilfpeaaLibBase
namespace Go.Proofs.Ytpcbmbmiilfpeaa.Pure
open Go.RowKit Go.Proofs.Ytpcbmbmiilfpeaa.PFnExactBlockOwner Go.Proofs.Ytpcbmbmiilfpeaa.Lib Go.Proofs.YtpcbmbmiilfpeaaW.PrintWords Go.Proofs.YtpcbmbmiilfpeaaW.PrintLast Go.Proofs.YtpcbmbmiilfpeaaW.PrintMore
set_option linter.unusedVariables false
set_option linter.unusedSimpArgs false


theorem FnExactBlockOwner : laws_FnExactBlockOwner.Pure := by
  intro a h
  unfold laws_FnExactBlockOwner.f spec_BlockOwner.f impl_BlockOwner.f spec_l01In.f
  by_cases h0 : a < 0
  · rw [if_neg (show ¬ a ≥ 0 by omega), if_pos h0]
    simp
  · rw [if_pos (show a ≥ 0 by omega), if_neg h0]
    by_cases h1 : a ≥ 56
    · rw [if_pos h1]
      simp [show ¬ a ≤ 55 by omega]
    · rw [if_neg h1]
      simp [show a ≤ 55 by omega]

end Go.Proofs.Ytpcbmbmiilfpeaa.Pure
