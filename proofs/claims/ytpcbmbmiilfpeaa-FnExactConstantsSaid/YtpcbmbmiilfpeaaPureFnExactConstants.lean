/- The law FnExactConstants holds for every input of its kind; no further condition. -/
import Derived.Test.YtpcbmbmiilfpeaaPFnExactConstantsx1
import Derived.Test.YtpcbmbmiilfpeaaLibBase
namespace Go.Proofs.Ytpcbmbmiilfpeaa.Pure
open Go.RowKit Go.Proofs.Ytpcbmbmiilfpeaa.PFnExactConstants Go.Proofs.Ytpcbmbmiilfpeaa.Lib Go.Proofs.YtpcbmbmiilfpeaaW.PrintWords Go.Proofs.YtpcbmbmiilfpeaaW.PrintLast Go.Proofs.YtpcbmbmiilfpeaaW.PrintMore
set_option linter.unusedVariables false
set_option linter.unusedSimpArgs false


theorem FnExactConstants : laws_FnExactConstants.Pure := rfl

end Go.Proofs.Ytpcbmbmiilfpeaa.Pure
