-- Written by a program of this session over Lean's own print of the program.
import Derived.Test.YtcafdolliedcaabProg
import Derived.Below
import Derived.Deep.Draws
import Derived.Deep.AppendLies
import Derived.Maps.AppendAt
import Derived.OwnWalk
import Derived.Laws.BytesArg
import Derived.Laws.MakeOwn
import Derived.Laws.OwnMore
import Derived.Deep.OwnRows
import Derived.Tactics
import Derived.Lib.ConvBytes
import Derived.Laws.Slices
import Derived.WalkKit
import Derived.KernelRfl
import Derived.RowKit3
import Derived.Deep.LoopGhost
import Derived.Deep.QuietTactic
import Derived.BigQuiet
import Derived.WideLaws
import Derived.Deep.DeepCutAuto
import Derived.Deep.CutBlock
import Derived.Deep.RegionHeld3
import Derived.Laws.Rows
import Derived.Lib.AppendStr
import Derived.ArgAppend
import Derived.Laws.IdiomCopy
import Derived.OrdersHeld
import Derived.Laws.BitsLemmas
import Derived.RowKit
import Derived.Test.YtcafdolliedcaabShelf
import Derived.Test.YtcafdolliedcaabLibMarked
import Derived.Test.YtcafdolliedcaabLibTr
import Derived.Test.YtcafdolliedcaabWWords
import Derived.Test.YtcafdolliedcaabWLast
import Derived.Test.YtcafdolliedcaabWTab
import Derived.Test.YtcafdolliedcaabWFour
import Derived.Test.YtcafdolliedcaabWQPut
import Derived.Test.YtcafdolliedcaabWApart
import Derived.Test.YtcafdolliedcaabWArr
import Derived.Test.YtcafdolliedcaabWZeros
import Derived.Test.YtcafdolliedcaabWFoot
import Derived.Test.YtcafdolliedcaabWKept
import Derived.Test.YtcafdolliedcaabWShare
import Derived.Test.YtcafdolliedcaabWN
import Derived.Test.YtcafdolliedcaabWFootNe
import Derived.Test.YtcafdolliedcaabWAt
import Derived.Test.YtcafdolliedcaabWEqStruct
import Derived.Test.YtcafdolliedcaabWRepsOne
import Derived.Test.YtcafdolliedcaabWInv
import Derived.Test.YtcafdolliedcaabWInvWords
import Derived.Test.YtcafdolliedcaabWGuard
import Derived.Test.YtcafdolliedcaabWNEv
import Derived.Test.YtcafdolliedcaabWMore
namespace Go.Proofs.Ytcafdolliedcaab.PFnSticky
open Go.RowKit Go.Proofs.YtcafdolliedcaabW.PrintWords Go.Proofs.YtcafdolliedcaabW.PrintLast Go.Proofs.YtcafdolliedcaabW.PrintMore
attribute [local go_sem] max2_int min2_int max_two min_two max_three min_three max_four min_four   -- for this text's walks alone
set_option linter.unusedVariables false
set_option linter.unusedSimpArgs false



def errW : Option Int → Value
  | none => .nilIface
  | some c => .iface 0 (.int .i64 c)
theorem errW_none : errW none = .nilIface := rfl
theorem errW_some (c : Int) : errW (some c) = .iface 0 (.int .i64 c) := rfl

theorem info3 : (Try.prog.info? 3).map (fun i => (i.zero, i.size, i.bytes)) = some (some (.int .i64 0), 1, 8) := by kernel_rfl
theorem info5 : (Try.prog.info? 5).map (fun i => (i.zero, i.size, i.bytes)) = some (some (.int .u8 0), 1, 1) := by kernel_rfl
-- the values' own types

end Go.Proofs.Ytcafdolliedcaab.PFnSticky
