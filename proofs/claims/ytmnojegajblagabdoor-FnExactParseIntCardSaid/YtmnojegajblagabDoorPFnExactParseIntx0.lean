-- Written by a program of this session over Lean's own print of the program.
import Derived.Test.YtmnojegajblagabDoorProg
import Derived.Below
import Derived.Deep.Draws
import Derived.Deep.AppendLies
import Derived.Maps.AppendAt
import Derived.OwnWalk
import Derived.Laws.BytesArg
import Derived.Laws.MakeOwn
import Derived.Laws.OwnMore
import Derived.Deep.OwnRows
import Derived.Tactics
import Derived.Lib.ConvBytes
import Derived.Laws.Slices
import Derived.WalkKit
import Derived.KernelRfl
import Derived.RowKit3
import Derived.Deep.LoopGhost
import Derived.Deep.QuietTactic
import Derived.BigQuiet
import Derived.WideLaws
import Derived.Deep.DeepCutAuto
import Derived.Deep.CutBlock
import Derived.Deep.RegionHeld3
import Derived.Laws.Rows
import Derived.Lib.AppendStr
import Derived.ArgAppend
import Derived.Laws.IdiomCopy
import Derived.OrdersHeld
import Derived.Laws.BitsLemmas
import Derived.RowKit
import Derived.Test.YtmnojegajblagabDoorShelf
import Derived.Test.YtmnojegajblagabDoorLibMarked
import Derived.Test.YtmnojegajblagabDoorLibTr
import Derived.Test.YtmnojegajblagabDoorLibDoorFnExactParseInt
import Derived.Test.YtmnojegajblagabDoorWWords
import Derived.Test.YtmnojegajblagabDoorWLast
import Derived.Test.YtmnojegajblagabDoorWTab
import Derived.Test.YtmnojegajblagabDoorWFour
import Derived.Test.YtmnojegajblagabDoorWQPut
import Derived.Test.YtmnojegajblagabDoorWApart
import Derived.Test.YtmnojegajblagabDoorWArr
import Derived.Test.YtmnojegajblagabDoorWZeros
import Derived.Test.YtmnojegajblagabDoorWFoot
import Derived.Test.YtmnojegajblagabDoorWKept
import Derived.Test.YtmnojegajblagabDoorWShare
import Derived.Test.YtmnojegajblagabDoorWN
import Derived.Test.YtmnojegajblagabDoorWFootNe
import Derived.Test.YtmnojegajblagabDoorWAt
import Derived.Test.YtmnojegajblagabDoorWEqStruct
import Derived.Test.YtmnojegajblagabDoorWRepsOne
import Derived.Test.YtmnojegajblagabDoorWInv
import Derived.Test.YtmnojegajblagabDoorWInvWords
import Derived.Test.YtmnojegajblagabDoorWGuard
import Derived.Test.YtmnojegajblagabDoorWNEv
import Derived.Test.YtmnojegajblagabDoorWMore
namespace Go.Proofs.YtmnojegajblagabDoor.PFnExactParseInt
open Go.RowKit Go.Proofs.YtmnojegajblagabDoorW.PrintWords Go.Proofs.YtmnojegajblagabDoorW.PrintLast Go.Proofs.YtmnojegajblagabDoorW.PrintMore
attribute [local go_sem] max2_int min2_int max_two min_two max_three min_three max_four min_four   -- for this text's walks alone
set_option linter.unusedVariables false
set_option linter.unusedSimpArgs false



def errW : Option Int → Value
  | none => .nilIface
  | some c => .iface 0 (.int .i64 c)
theorem errW_none : errW none = .nilIface := rfl
theorem errW_some (c : Int) : errW (some c) = .iface 0 (.int .i64 c) := rfl

theorem info5 : (Tryd.prog.info? 5).map (fun i => (i.zero, i.size, i.bytes)) = some (some (.int .u8 0), 1, 1) := by kernel_rfl
-- the values' own types

end Go.Proofs.YtmnojegajblagabDoor.PFnExactParseInt
