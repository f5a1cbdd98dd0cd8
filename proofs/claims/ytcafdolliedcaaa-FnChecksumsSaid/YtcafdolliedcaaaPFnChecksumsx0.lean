-- Written by a program of this session over Lean's own print of the program.
import Derived.Test.YtcafdolliedcaaaProg
import Derived.Below
import Derived.Deep.Draws
import Derived.Deep.AppendLies
import Derived.Maps.AppendAt
import Derived.OwnWalk
import Derived.Laws.BytesArg
import Derived.Laws.MakeOwn
import Derived.Laws.OwnMore
import Derived.Deep.OwnRows
import Derived.Tactics
import Derived.Lib.ConvBytes
import Derived.Laws.Slices
import Derived.WalkKit
import Derived.KernelRfl
import Derived.RowKit3
import Derived.Deep.LoopGhost
import Derived.Deep.QuietTactic
import Derived.BigQuiet
import Derived.WideLaws
import Derived.Deep.DeepCutAuto
import Derived.Deep.CutBlock
import Derived.Deep.RegionHeld3
import Derived.Laws.Rows
import Derived.Lib.AppendStr
import Derived.ArgAppend
import Derived.Laws.IdiomCopy
import Derived.OrdersHeld
import Derived.Laws.BitsLemmas
import Derived.RowKit
import Derived.Test.YtcafdolliedcaaaLibMarked
import Derived.Test.YtcafdolliedcaaaLibTr
import Derived.Test.YtcafdolliedcaaaWWords
import Derived.Test.YtcafdolliedcaaaWLast
import Derived.Test.YtcafdolliedcaaaWTab
import Derived.Test.YtcafdolliedcaaaWFour
import Derived.Test.YtcafdolliedcaaaWQPut
import Derived.Test.YtcafdolliedcaaaWApart
import Derived.Test.YtcafdolliedcaaaWArr
import Derived.Test.YtcafdolliedcaaaWZeros
import Derived.Test.YtcafdolliedcaaaWFoot
import Derived.Test.YtcafdolliedcaaaWKept
import Derived.Test.YtcafdolliedcaaaWShare
import Derived.Test.YtcafdolliedcaaaWN
import Derived.Test.YtcafdolliedcaaaWFootNe
import Derived.Test.YtcafdolliedcaaaWAt
import Derived.Test.YtcafdolliedcaaaWEqStruct
import Derived.Test.YtcafdolliedcaaaWRepsOne
import Derived.Test.YtcafdolliedcaaaWInv
import Derived.Test.YtcafdolliedcaaaWInvWords
import Derived.Test.YtcafdolliedcaaaWGuard
import Derived.Test.YtcafdolliedcaaaWNEv
import Derived.Test.YtcafdolliedcaaaWMore
namespace Go.Proofs.Ytcafdolliedcaaa.PFnChecksums
open Go.RowKit Go.Proofs.YtcafdolliedcaaaW.PrintWords Go.Proofs.YtcafdolliedcaaaW.PrintLast Go.Proofs.YtcafdolliedcaaaW.PrintMore
attribute [local go_sem] max2_int min2_int max_two min_two max_three min_three max_four min_four   -- for this text's walks alone
set_option linter.unusedVariables false
set_option linter.unusedSimpArgs false



def errW : Option Int → Value
  | none => .nilIface
  | some c => .iface 0 (.int .i64 c)
theorem errW_none : errW none = .nilIface := rfl
theorem errW_some (c : Int) : errW (some c) = .iface 0 (.int .i64 c) := rfl

theorem info3 : (Try.prog.info? 3).map (fun i => (i.zero, i.size, i.bytes)) = some (some (.int .i64 0), 1, 8) := by kernel_rfl
theorem info5 : (Try.prog.info? 5).map (fun i => (i.zero, i.size, i.bytes)) = some (some (.int .u8 0), 1, 1) := by kernel_rfl
-- the values' own types

end Go.Proofs.Ytcafdolliedcaaa.PFnChecksums
