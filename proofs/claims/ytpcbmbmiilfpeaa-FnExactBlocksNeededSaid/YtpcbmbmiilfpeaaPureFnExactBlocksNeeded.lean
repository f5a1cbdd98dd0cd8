/- The law FnExactBlocksNeeded holds for every input of its kind; no further condition. -/
import Derived.Test.YtpcbmbmiilfpeaaPFnExactBlocksNeededx1
import Derived.Test.YtpcbmbmiilfpeaaLibBase
namespace Go.Proofs.Ytpcbmbmiilfpeaa.Pure
open Go.RowKit Go.Proofs.Ytpcbmbmiilfpeaa.PFnExactBlocksNeeded Go.Proofs.Ytpcbmbmiilfpeaa.Lib Go.Proofs.YtpcbmbmiilfpeaaW.PrintWords Go.Proofs.YtpcbmbmiilfpeaaW.PrintLast Go.Proofs.YtpcbmbmiilfpeaaW.PrintMore
set_option linter.unusedVariables false
set_option linter.unusedSimpArgs false


theorem FnExactBlocksNeeded : laws_FnExactBlocksNeeded.Pure := by
  intro a h
  unfold laws_FnExactBlocksNeeded.f spec_BlocksNeeded.f impl_BlocksNeeded.f
  split <;> simp

end Go.Proofs.Ytpcbmbmiilfpeaa.Pure
