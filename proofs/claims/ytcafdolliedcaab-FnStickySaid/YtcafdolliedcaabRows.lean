/-
  No cell of these rows narrows 'for every input' (looked for: loops, veiled, ifaces, maps, wideKeys, modest, calm, conditions, laid).
  DERIVED. THE GIVEN ROWS OF THIS SEAT. 12 by the template 'for every input the law returns true; each argument reads behind the call as it read before'; 0 by the template 'total and deterministic' (their statements: YtcafdolliedcaabTotals.lean).
  GIVEN WITH THE SEED: the statements are not yours to turn. If you find one false, say at which input.
  Laid BY PROGRAM, IN A SANDBOX (cutbox-rows.mjs): the forced cells as the released guide's own fill.sh prints them over the translation 41d67637cbdd7d33… (all of the seat's roots in one cut). By AI agents, Wed Nov 11 2026. No macro, syntax, notation, axiom, sorry.
-/
import Derived.Test.YtcafdolliedcaabChecked
import GoSem.Claim
import GoSem.ClaimJoined
import GoSem.ClaimMapViews
import Derived.JoinedTies
import Derived.KernelRfl
namespace Go.Proofs.Ytcafdolliedcaab
/- THE CELL 'sum', in the pinned program and in every row, IS THE sha256 OF THE DUMP (.gsa) THAT YtcafdolliedcaabProg.lean LOADS. Nothing in Lean hashes anything: it is a label: what it is worth is what the hold of that sum in a sandbox is worth. -/
noncomputable def Try.pinned : Pinned := { name := "ytcafdolliedcaab", sum := "41d67637cbdd7d33b398a205e40f3153e3dc68555614fff3efdf8f9770e33542", checked := Try.checked }
namespace Rows
def none {H : Type} : Left H := { results := [], args := [] }

/-- 'laws.FnExactSplitAny': WHATEVER THE INPUT: true; the input reads as it did. -/
def fnExactSplitAnySpec : ChangeSpec := { name := "fnExactSplitAny", fn := fun _ => fun
  | [d1, d2] => { results := [.lit (.bool true)], args := [d1, d2] }
  | _ => none }
def fnExactSplitAnyRow : OpenClaim := { program := "ytcafdolliedcaab", sum := "41d67637cbdd7d33b398a205e40f3153e3dc68555614fff3efdf8f9770e33542", func := "loop.example/g00817/laws.FnExactSplitAny", spec := "fnExactSplitAny", inPlace := ["internal/bytealg.IndexByteString"], apart := false }
def FnExactSplitAnySaid : Prop := fnExactSplitAnyRow.holds Try.pinned (OpenSpec.ofChange fnExactSplitAnySpec)

/-- ITS FALSE NEIGHBOUR: 'it returns false'. Refute it at one input. -/
def fnExactSplitAnyWrong : ChangeSpec := { name := "fnExactSplitAny", fn := fun _ => fun
  | [d1, d2] => { results := [.lit (.bool false)], args := [d1, d2] }
  | _ => none }
def FnExactSplitAnyWrongFalsely : Prop := fnExactSplitAnyRow.holds Try.pinned (OpenSpec.ofChange fnExactSplitAnyWrong)

/-- 'laws.FnSticky': WHATEVER THE INPUT: true; the input reads as it did. -/
def fnStickySpec : ChangeSpec := { name := "fnSticky", fn := fun _ => fun
  | [d] => { results := [.lit (.bool true)], args := [d] }
  | _ => none }
def fnStickyRow : OpenClaim := { program := "ytcafdolliedcaab", sum := "41d67637cbdd7d33b398a205e40f3153e3dc68555614fff3efdf8f9770e33542", func := "loop.example/g00817/laws.FnSticky", spec := "fnSticky", apart := false }
def FnStickySaid : Prop := fnStickyRow.holds Try.pinned (OpenSpec.ofChange fnStickySpec)

/-- ITS FALSE NEIGHBOUR: 'it returns false'. Refute it at one input. -/
def fnStickyWrong : ChangeSpec := { name := "fnSticky", fn := fun _ => fun
  | [d] => { results := [.lit (.bool false)], args := [d] }
  | _ => none }
def FnStickyWrongFalsely : Prop := fnStickyRow.holds Try.pinned (OpenSpec.ofChange fnStickyWrong)

/-- 'laws.FnExactIsCred': WHATEVER THE INPUT: true; the input reads as it did. -/
def fnExactIsCredSpec : ChangeSpec := { name := "fnExactIsCred", fn := fun _ => fun
  | [d] => { results := [.lit (.bool true)], args := [d] }
  | _ => none }
def fnExactIsCredRow : OpenClaim := { program := "ytcafdolliedcaab", sum := "41d67637cbdd7d33b398a205e40f3153e3dc68555614fff3efdf8f9770e33542", func := "loop.example/g00817/laws.FnExactIsCred", spec := "fnExactIsCred", apart := false }
def FnExactIsCredSaid : Prop := fnExactIsCredRow.holds Try.pinned (OpenSpec.ofChange fnExactIsCredSpec)

/-- ITS FALSE NEIGHBOUR: 'it returns false'. Refute it at one input. -/
def fnExactIsCredWrong : ChangeSpec := { name := "fnExactIsCred", fn := fun _ => fun
  | [d] => { results := [.lit (.bool false)], args := [d] }
  | _ => none }
def FnExactIsCredWrongFalsely : Prop := fnExactIsCredRow.holds Try.pinned (OpenSpec.ofChange fnExactIsCredWrong)

/-- 'laws.FnExactInGroup': WHATEVER THE INPUT: true; the input reads as it did. -/
def fnExactInGroupSpec : ChangeSpec := { name := "fnExactInGroup", fn := fun _ => fun
  | [d1, d2] => { results := [.lit (.bool true)], args := [d1, d2] }
  | _ => none }
def fnExactInGroupRow : OpenClaim := { program := "ytcafdolliedcaab", sum := "41d67637cbdd7d33b398a205e40f3153e3dc68555614fff3efdf8f9770e33542", func := "loop.example/g00817/laws.FnExactInGroup", spec := "fnExactInGroup", apart := false }
def FnExactInGroupSaid : Prop := fnExactInGroupRow.holds Try.pinned (OpenSpec.ofChange fnExactInGroupSpec)

/-- ITS FALSE NEIGHBOUR: 'it returns false'. Refute it at one input. -/
def fnExactInGroupWrong : ChangeSpec := { name := "fnExactInGroup", fn := fun _ => fun
  | [d1, d2] => { results := [.lit (.bool false)], args := [d1, d2] }
  | _ => none }
def FnExactInGroupWrongFalsely : Prop := fnExactInGroupRow.holds Try.pinned (OpenSpec.ofChange fnExactInGroupWrong)

/-- 'laws.FnExactMayRemove': WHATEVER THE INPUT: true; the input reads as it did. -/
def fnExactMayRemoveSpec : ChangeSpec := { name := "fnExactMayRemove", fn := fun _ => fun
  | [d1, d2, d3, d4] => { results := [.lit (.bool true)], args := [d1, d2, d3, d4] }
  | _ => none }
def fnExactMayRemoveRow : OpenClaim := { program := "ytcafdolliedcaab", sum := "41d67637cbdd7d33b398a205e40f3153e3dc68555614fff3efdf8f9770e33542", func := "loop.example/g00817/laws.FnExactMayRemove", spec := "fnExactMayRemove", apart := false }
def FnExactMayRemoveSaid : Prop := fnExactMayRemoveRow.holds Try.pinned (OpenSpec.ofChange fnExactMayRemoveSpec)

/-- ITS FALSE NEIGHBOUR: 'it returns false'. Refute it at one input. -/
def fnExactMayRemoveWrong : ChangeSpec := { name := "fnExactMayRemove", fn := fun _ => fun
  | [d1, d2, d3, d4] => { results := [.lit (.bool false)], args := [d1, d2, d3, d4] }
  | _ => none }
def FnExactMayRemoveWrongFalsely : Prop := fnExactMayRemoveRow.holds Try.pinned (OpenSpec.ofChange fnExactMayRemoveWrong)

/-- 'laws.FnExactJoin': WHATEVER THE INPUT: true; the input reads as it did. -/
def fnExactJoinSpec : ChangeSpec := { name := "fnExactJoin", fn := fun _ => fun
  | [d1, d2] => { results := [.lit (.bool true)], args := [d1, d2] }
  | _ => none }
def fnExactJoinRow : OpenClaim := { program := "ytcafdolliedcaab", sum := "41d67637cbdd7d33b398a205e40f3153e3dc68555614fff3efdf8f9770e33542", func := "loop.example/g00817/laws.FnExactJoin", spec := "fnExactJoin", inPlace := ["internal/abi.NoEscape", "internal/bytealg.MakeNoZero"], apart := false }
def FnExactJoinSaid : Prop := fnExactJoinRow.holds Try.pinned (OpenSpec.ofChange fnExactJoinSpec)

/-- ITS FALSE NEIGHBOUR: 'it returns false'. Refute it at one input. -/
def fnExactJoinWrong : ChangeSpec := { name := "fnExactJoin", fn := fun _ => fun
  | [d1, d2] => { results := [.lit (.bool false)], args := [d1, d2] }
  | _ => none }
def FnExactJoinWrongFalsely : Prop := fnExactJoinRow.holds Try.pinned (OpenSpec.ofChange fnExactJoinWrong)

/-- 'laws.FnExactIsAcl': WHATEVER THE INPUT: true; the input reads as it did. -/
def fnExactIsAclSpec : ChangeSpec := { name := "fnExactIsAcl", fn := fun _ => fun
  | [d] => { results := [.lit (.bool true)], args := [d] }
  | _ => none }
def fnExactIsAclRow : OpenClaim := { program := "ytcafdolliedcaab", sum := "41d67637cbdd7d33b398a205e40f3153e3dc68555614fff3efdf8f9770e33542", func := "loop.example/g00817/laws.FnExactIsAcl", spec := "fnExactIsAcl", apart := false }
def FnExactIsAclSaid : Prop := fnExactIsAclRow.holds Try.pinned (OpenSpec.ofChange fnExactIsAclSpec)

/-- ITS FALSE NEIGHBOUR: 'it returns false'. Refute it at one input. -/
def fnExactIsAclWrong : ChangeSpec := { name := "fnExactIsAcl", fn := fun _ => fun
  | [d] => { results := [.lit (.bool false)], args := [d] }
  | _ => none }
def FnExactIsAclWrongFalsely : Prop := fnExactIsAclRow.holds Try.pinned (OpenSpec.ofChange fnExactIsAclWrong)

/-- 'laws.FnExactIsDisk': WHATEVER THE INPUT: true; the input reads as it did. -/
def fnExactIsDiskSpec : ChangeSpec := { name := "fnExactIsDisk", fn := fun _ => fun
  | [d] => { results := [.lit (.bool true)], args := [d] }
  | _ => none }
def fnExactIsDiskRow : OpenClaim := { program := "ytcafdolliedcaab", sum := "41d67637cbdd7d33b398a205e40f3153e3dc68555614fff3efdf8f9770e33542", func := "loop.example/g00817/laws.FnExactIsDisk", spec := "fnExactIsDisk", apart := false }
def FnExactIsDiskSaid : Prop := fnExactIsDiskRow.holds Try.pinned (OpenSpec.ofChange fnExactIsDiskSpec)

/-- ITS FALSE NEIGHBOUR: 'it returns false'. Refute it at one input. -/
def fnExactIsDiskWrong : ChangeSpec := { name := "fnExactIsDisk", fn := fun _ => fun
  | [d] => { results := [.lit (.bool false)], args := [d] }
  | _ => none }
def FnExactIsDiskWrongFalsely : Prop := fnExactIsDiskRow.holds Try.pinned (OpenSpec.ofChange fnExactIsDiskWrong)

/-- 'laws.FnExactSameDisk': WHATEVER THE INPUT: true; the input reads as it did. -/
def fnExactSameDiskSpec : ChangeSpec := { name := "fnExactSameDisk", fn := fun _ => fun
  | [d1, d2] => { results := [.lit (.bool true)], args := [d1, d2] }
  | _ => none }
def fnExactSameDiskRow : OpenClaim := { program := "ytcafdolliedcaab", sum := "41d67637cbdd7d33b398a205e40f3153e3dc68555614fff3efdf8f9770e33542", func := "loop.example/g00817/laws.FnExactSameDisk", spec := "fnExactSameDisk", apart := false }
def FnExactSameDiskSaid : Prop := fnExactSameDiskRow.holds Try.pinned (OpenSpec.ofChange fnExactSameDiskSpec)

/-- ITS FALSE NEIGHBOUR: 'it returns false'. Refute it at one input. -/
def fnExactSameDiskWrong : ChangeSpec := { name := "fnExactSameDisk", fn := fun _ => fun
  | [d1, d2] => { results := [.lit (.bool false)], args := [d1, d2] }
  | _ => none }
def FnExactSameDiskWrongFalsely : Prop := fnExactSameDiskRow.holds Try.pinned (OpenSpec.ofChange fnExactSameDiskWrong)

/-- 'laws.FnExactPadZeros': WHATEVER THE INPUT: true; the input reads as it did. -/
def fnExactPadZerosSpec : ChangeSpec := { name := "fnExactPadZeros", fn := fun _ => fun
  | [d1, d2] => { results := [.lit (.bool true)], args := [d1, d2] }
  | _ => none }
def fnExactPadZerosRow : OpenClaim := { program := "ytcafdolliedcaab", sum := "41d67637cbdd7d33b398a205e40f3153e3dc68555614fff3efdf8f9770e33542", func := "loop.example/g00817/laws.FnExactPadZeros", spec := "fnExactPadZeros", inPlace := ["internal/abi.NoEscape", "internal/bytealg.MakeNoZero"], apart := false }
def FnExactPadZerosSaid : Prop := fnExactPadZerosRow.holds Try.pinned (OpenSpec.ofChange fnExactPadZerosSpec)

/-- ITS FALSE NEIGHBOUR: 'it returns false'. Refute it at one input. -/
def fnExactPadZerosWrong : ChangeSpec := { name := "fnExactPadZeros", fn := fun _ => fun
  | [d1, d2] => { results := [.lit (.bool false)], args := [d1, d2] }
  | _ => none }
def FnExactPadZerosWrongFalsely : Prop := fnExactPadZerosRow.holds Try.pinned (OpenSpec.ofChange fnExactPadZerosWrong)

/-- 'laws.FnExactPadTo': WHATEVER THE INPUT: true; the input reads as it did. -/
def fnExactPadToSpec : ChangeSpec := { name := "fnExactPadTo", fn := fun _ => fun
  | [d1, d2] => { results := [.lit (.bool true)], args := [d1, d2] }
  | _ => none }
def fnExactPadToRow : OpenClaim := { program := "ytcafdolliedcaab", sum := "41d67637cbdd7d33b398a205e40f3153e3dc68555614fff3efdf8f9770e33542", func := "loop.example/g00817/laws.FnExactPadTo", spec := "fnExactPadTo", inPlace := ["internal/abi.NoEscape", "internal/bytealg.MakeNoZero"], apart := false }
def FnExactPadToSaid : Prop := fnExactPadToRow.holds Try.pinned (OpenSpec.ofChange fnExactPadToSpec)

/-- ITS FALSE NEIGHBOUR: 'it returns false'. Refute it at one input. -/
def fnExactPadToWrong : ChangeSpec := { name := "fnExactPadTo", fn := fun _ => fun
  | [d1, d2] => { results := [.lit (.bool false)], args := [d1, d2] }
  | _ => none }
def FnExactPadToWrongFalsely : Prop := fnExactPadToRow.holds Try.pinned (OpenSpec.ofChange fnExactPadToWrong)

/-- 'laws.FnExactIsTxn': WHATEVER THE INPUT: true; the input reads as it did. -/
def fnExactIsTxnSpec : ChangeSpec := { name := "fnExactIsTxn", fn := fun _ => fun
  | [d1, d2] => { results := [.lit (.bool true)], args := [d1, d2] }
  | _ => none }
def fnExactIsTxnRow : OpenClaim := { program := "ytcafdolliedcaab", sum := "41d67637cbdd7d33b398a205e40f3153e3dc68555614fff3efdf8f9770e33542", func := "loop.example/g00817/laws.FnExactIsTxn", spec := "fnExactIsTxn", apart := false }
def FnExactIsTxnSaid : Prop := fnExactIsTxnRow.holds Try.pinned (OpenSpec.ofChange fnExactIsTxnSpec)

/-- ITS FALSE NEIGHBOUR: 'it returns false'. Refute it at one input. -/
def fnExactIsTxnWrong : ChangeSpec := { name := "fnExactIsTxn", fn := fun _ => fun
  | [d1, d2] => { results := [.lit (.bool false)], args := [d1, d2] }
  | _ => none }
def FnExactIsTxnWrongFalsely : Prop := fnExactIsTxnRow.holds Try.pinned (OpenSpec.ofChange fnExactIsTxnWrong)

/- THE SECOND FORM. 'bulk': how many values and letters a reading holds, each counted each time it is reached (what is shared counts as often as it is met; a slice's spare places count too). A statement '..UptoSaid' is the law's where the arguments, and the package variables that the reading takes, are together of bulk at most 1048576: NARROWER than '..Said'. Prove '..Said' where nothing that the law and all that it calls make is longer than what came in: it says more and counts as full. Else prove '..UptoSaid'. A law counts once. -/
mutual
def uptoBulk {H : Type} : DataW H → Nat
  | .lit (.string bytes) => bytes.length + 1
  | .lit _ => 1
  | .nil => 1
  | .ptr d => uptoBulk d + 1
  | .slice elems spare => uptoBulkAll elems + uptoBulkAll spare + 1
  | .agg parts => uptoBulkAll parts + 1
  | .iface _ d => uptoBulk d + 1
  | .map entries => uptoBulkEntries entries + 1
  | .held _ => 1
def uptoBulkAll {H : Type} : List (DataW H) → Nat
  | [] => 0
  | d :: r => uptoBulk d + uptoBulkAll r
def uptoBulkEntries {H : Type} : List (Lit × DataW H) → Nat
  | [] => 0
  | x :: r => uptoBulkEntry x + uptoBulkEntries r
def uptoBulkEntry {H : Type} : Lit × DataW H → Nat
  | (.string bytes, d) => bytes.length + uptoBulk d + 1
  | (_, d) => uptoBulk d + 1
 end
def uptoSmall : (H : Type) → List (DataW H) → Bool := fun _ ds => decide (uptoBulkAll ds ≤ 1048576)
def OpenSpec.upto (s : _root_.Go.ChangeSpec) : _root_.Go.OpenSpec := { _root_.Go.OpenSpec.ofChange s with cond := some uptoSmall }

/-- 'laws.FnExactSplitAny', WHERE WHAT IT READS IS OF BULK AT MOST 1048576: true; the input reads as it did. -/
def fnExactSplitAnyUptoRow : OpenClaim := { program := "ytcafdolliedcaab", sum := "41d67637cbdd7d33b398a205e40f3153e3dc68555614fff3efdf8f9770e33542", func := "loop.example/g00817/laws.FnExactSplitAny", spec := "fnExactSplitAny", inPlace := ["internal/bytealg.IndexByteString"], apart := false, narrowed := true }
def FnExactSplitAnyUptoSaid : Prop := fnExactSplitAnyUptoRow.holds Try.pinned (OpenSpec.upto fnExactSplitAnySpec)

/-- 'laws.FnSticky', WHERE WHAT IT READS IS OF BULK AT MOST 1048576: true; the input reads as it did. -/
def fnStickyUptoRow : OpenClaim := { program := "ytcafdolliedcaab", sum := "41d67637cbdd7d33b398a205e40f3153e3dc68555614fff3efdf8f9770e33542", func := "loop.example/g00817/laws.FnSticky", spec := "fnSticky", apart := false, narrowed := true }
def FnStickyUptoSaid : Prop := fnStickyUptoRow.holds Try.pinned (OpenSpec.upto fnStickySpec)

/-- 'laws.FnExactIsCred', WHERE WHAT IT READS IS OF BULK AT MOST 1048576: true; the input reads as it did. -/
def fnExactIsCredUptoRow : OpenClaim := { program := "ytcafdolliedcaab", sum := "41d67637cbdd7d33b398a205e40f3153e3dc68555614fff3efdf8f9770e33542", func := "loop.example/g00817/laws.FnExactIsCred", spec := "fnExactIsCred", apart := false, narrowed := true }
def FnExactIsCredUptoSaid : Prop := fnExactIsCredUptoRow.holds Try.pinned (OpenSpec.upto fnExactIsCredSpec)

/-- 'laws.FnExactInGroup', WHERE WHAT IT READS IS OF BULK AT MOST 1048576: true; the input reads as it did. -/
def fnExactInGroupUptoRow : OpenClaim := { program := "ytcafdolliedcaab", sum := "41d67637cbdd7d33b398a205e40f3153e3dc68555614fff3efdf8f9770e33542", func := "loop.example/g00817/laws.FnExactInGroup", spec := "fnExactInGroup", apart := false, narrowed := true }
def FnExactInGroupUptoSaid : Prop := fnExactInGroupUptoRow.holds Try.pinned (OpenSpec.upto fnExactInGroupSpec)

/-- 'laws.FnExactMayRemove', WHERE WHAT IT READS IS OF BULK AT MOST 1048576: true; the input reads as it did. -/
def fnExactMayRemoveUptoRow : OpenClaim := { program := "ytcafdolliedcaab", sum := "41d67637cbdd7d33b398a205e40f3153e3dc68555614fff3efdf8f9770e33542", func := "loop.example/g00817/laws.FnExactMayRemove", spec := "fnExactMayRemove", apart := false, narrowed := true }
def FnExactMayRemoveUptoSaid : Prop := fnExactMayRemoveUptoRow.holds Try.pinned (OpenSpec.upto fnExactMayRemoveSpec)

/-- 'laws.FnExactJoin', WHERE WHAT IT READS IS OF BULK AT MOST 1048576: true; the input reads as it did. -/
def fnExactJoinUptoRow : OpenClaim := { program := "ytcafdolliedcaab", sum := "41d67637cbdd7d33b398a205e40f3153e3dc68555614fff3efdf8f9770e33542", func := "loop.example/g00817/laws.FnExactJoin", spec := "fnExactJoin", inPlace := ["internal/abi.NoEscape", "internal/bytealg.MakeNoZero"], apart := false, narrowed := true }
def FnExactJoinUptoSaid : Prop := fnExactJoinUptoRow.holds Try.pinned (OpenSpec.upto fnExactJoinSpec)

/-- 'laws.FnExactIsAcl', WHERE WHAT IT READS IS OF BULK AT MOST 1048576: true; the input reads as it did. -/
def fnExactIsAclUptoRow : OpenClaim := { program := "ytcafdolliedcaab", sum := "41d67637cbdd7d33b398a205e40f3153e3dc68555614fff3efdf8f9770e33542", func := "loop.example/g00817/laws.FnExactIsAcl", spec := "fnExactIsAcl", apart := false, narrowed := true }
def FnExactIsAclUptoSaid : Prop := fnExactIsAclUptoRow.holds Try.pinned (OpenSpec.upto fnExactIsAclSpec)

/-- 'laws.FnExactIsDisk', WHERE WHAT IT READS IS OF BULK AT MOST 1048576: true; the input reads as it did. -/
def fnExactIsDiskUptoRow : OpenClaim := { program := "ytcafdolliedcaab", sum := "41d67637cbdd7d33b398a205e40f3153e3dc68555614fff3efdf8f9770e33542", func := "loop.example/g00817/laws.FnExactIsDisk", spec := "fnExactIsDisk", apart := false, narrowed := true }
def FnExactIsDiskUptoSaid : Prop := fnExactIsDiskUptoRow.holds Try.pinned (OpenSpec.upto fnExactIsDiskSpec)

/-- 'laws.FnExactSameDisk', WHERE WHAT IT READS IS OF BULK AT MOST 1048576: true; the input reads as it did. -/
def fnExactSameDiskUptoRow : OpenClaim := { program := "ytcafdolliedcaab", sum := "41d67637cbdd7d33b398a205e40f3153e3dc68555614fff3efdf8f9770e33542", func := "loop.example/g00817/laws.FnExactSameDisk", spec := "fnExactSameDisk", apart := false, narrowed := true }
def FnExactSameDiskUptoSaid : Prop := fnExactSameDiskUptoRow.holds Try.pinned (OpenSpec.upto fnExactSameDiskSpec)

/-- 'laws.FnExactPadZeros', WHERE WHAT IT READS IS OF BULK AT MOST 1048576: true; the input reads as it did. -/
def fnExactPadZerosUptoRow : OpenClaim := { program := "ytcafdolliedcaab", sum := "41d67637cbdd7d33b398a205e40f3153e3dc68555614fff3efdf8f9770e33542", func := "loop.example/g00817/laws.FnExactPadZeros", spec := "fnExactPadZeros", inPlace := ["internal/abi.NoEscape", "internal/bytealg.MakeNoZero"], apart := false, narrowed := true }
def FnExactPadZerosUptoSaid : Prop := fnExactPadZerosUptoRow.holds Try.pinned (OpenSpec.upto fnExactPadZerosSpec)

/-- 'laws.FnExactPadTo', WHERE WHAT IT READS IS OF BULK AT MOST 1048576: true; the input reads as it did. -/
def fnExactPadToUptoRow : OpenClaim := { program := "ytcafdolliedcaab", sum := "41d67637cbdd7d33b398a205e40f3153e3dc68555614fff3efdf8f9770e33542", func := "loop.example/g00817/laws.FnExactPadTo", spec := "fnExactPadTo", inPlace := ["internal/abi.NoEscape", "internal/bytealg.MakeNoZero"], apart := false, narrowed := true }
def FnExactPadToUptoSaid : Prop := fnExactPadToUptoRow.holds Try.pinned (OpenSpec.upto fnExactPadToSpec)

/-- 'laws.FnExactIsTxn', WHERE WHAT IT READS IS OF BULK AT MOST 1048576: true; the input reads as it did. -/
def fnExactIsTxnUptoRow : OpenClaim := { program := "ytcafdolliedcaab", sum := "41d67637cbdd7d33b398a205e40f3153e3dc68555614fff3efdf8f9770e33542", func := "loop.example/g00817/laws.FnExactIsTxn", spec := "fnExactIsTxn", apart := false, narrowed := true }
def FnExactIsTxnUptoSaid : Prop := fnExactIsTxnUptoRow.holds Try.pinned (OpenSpec.upto fnExactIsTxnSpec)

end Rows
end Go.Proofs.Ytcafdolliedcaab
