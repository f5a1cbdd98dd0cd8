-- Written by a program of this session over Lean's own print of the program.
import Derived.Test.YtpcbmbmiilfpeaaProg
import Derived.Below
import Derived.Deep.Draws
import Derived.Deep.AppendLies
import Derived.Maps.AppendAt
import Derived.OwnWalk
import Derived.Laws.BytesArg
import Derived.Laws.MakeOwn
import Derived.Laws.OwnMore
import Derived.Deep.OwnRows
import Derived.Tactics
import Derived.Lib.ConvBytes
import Derived.Laws.Slices
import Derived.WalkKit
import Derived.KernelRfl
import Derived.RowKit3
import Derived.Deep.LoopGhost
import Derived.Deep.QuietTactic
import Derived.BigQuiet
import Derived.WideLaws
import Derived.Deep.DeepCutAuto
import Derived.Deep.CutBlock
import Derived.Deep.RegionHeld3
import Derived.Laws.Rows
import Derived.Lib.AppendStr
import Derived.ArgAppend
import Derived.Laws.IdiomCopy
import Derived.OrdersHeld
import Derived.Laws.BitsLemmas
import Derived.RowKit
import Derived.Test.YtpcbmbmiilfpeaaWWords
import Derived.Test.YtpcbmbmiilfpeaaWLast
import Derived.Test.YtpcbmbmiilfpeaaWTab
import Derived.Test.YtpcbmbmiilfpeaaWFour
import Derived.Test.YtpcbmbmiilfpeaaWQPut
import Derived.Test.YtpcbmbmiilfpeaaWApart
import Derived.Test.YtpcbmbmiilfpeaaWArr
import Derived.Test.YtpcbmbmiilfpeaaWZeros
import Derived.Test.YtpcbmbmiilfpeaaWFoot
import Derived.Test.YtpcbmbmiilfpeaaWKept
import Derived.Test.YtpcbmbmiilfpeaaWShare
import Derived.Test.YtpcbmbmiilfpeaaWN
import Derived.Test.YtpcbmbmiilfpeaaWFootNe
import Derived.Test.YtpcbmbmiilfpeaaWAt
import Derived.Test.YtpcbmbmiilfpeaaWEqStruct
import Derived.Test.YtpcbmbmiilfpeaaWRepsOne
import Derived.Test.YtpcbmbmiilfpeaaWInv
import Derived.Test.YtpcbmbmiilfpeaaWInvWords
import Derived.Test.YtpcbmbmiilfpeaaWGuard
import Derived.Test.YtpcbmbmiilfpeaaWNEv
import Derived.Test.YtpcbmbmiilfpeaaWMore
namespace Go.Proofs.Ytpcbmbmiilfpeaa.PFnExactHexOf
open Go.RowKit Go.Proofs.YtpcbmbmiilfpeaaW.PrintWords Go.Proofs.YtpcbmbmiilfpeaaW.PrintLast Go.Proofs.YtpcbmbmiilfpeaaW.PrintMore
attribute [local go_sem] max2_int min2_int max_two min_two max_three min_three max_four min_four   -- for this text's walks alone
set_option linter.unusedVariables false
set_option linter.unusedSimpArgs false



def errW : Option Int → Value
  | none => .nilIface
  | some c => .iface 0 (.int .i64 c)
theorem errW_none : errW none = .nilIface := rfl
theorem errW_some (c : Int) : errW (some c) = .iface 0 (.int .i64 c) := rfl

theorem info5 : (Try.prog.info? 5).map (fun i => (i.zero, i.size, i.bytes)) = some (some (.int .u8 0), 1, 1) := by kernel_rfl
-- the values' own types

end Go.Proofs.Ytpcbmbmiilfpeaa.PFnExactHexOf
