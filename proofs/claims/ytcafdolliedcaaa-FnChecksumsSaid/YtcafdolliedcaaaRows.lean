/-
  No cell of these rows narrows 'for every input' (looked for: loops, veiled, ifaces, maps, wideKeys, modest, calm, conditions, laid).
  DERIVED. THE GIVEN ROWS OF THIS SEAT. 12 by the template 'for every input the law returns true; each argument reads behind the call as it read before'; 0 by the template 'total and deterministic' (their statements: YtcafdolliedcaaaTotals.lean).
  GIVEN WITH THE SEED: the statements are not yours to turn. If you find one false, say at which input.
  Laid BY PROGRAM, IN A SANDBOX (cutbox-rows.mjs): the forced cells as the released guide's own fill.sh prints them over the translation 1a50244bfb41df73… (all of the seat's roots in one cut). By AI agents, Wed Nov 11 2026. No macro, syntax, notation, axiom, sorry.
-/
import Derived.Test.YtcafdolliedcaaaChecked
import GoSem.Claim
import GoSem.ClaimJoined
import GoSem.ClaimMapViews
import Derived.JoinedTies
import Derived.KernelRfl
namespace Go.Proofs.Ytcafdolliedcaaa
/- THE CELL 'sum', in the pinned program and in every row, IS THE sha256 OF THE DUMP (.gsa) THAT YtcafdolliedcaaaProg.lean LOADS. Nothing in Lean hashes anything: it is a label: what it is worth is what the hold of that sum in a sandbox is worth. -/
noncomputable def Try.pinned : Pinned := { name := "ytcafdolliedcaaa", sum := "1a50244bfb41df73ea313d5e0e361160a6d1213aabe8b9cbbce0baa7d6c87b53", checked := Try.checked }
namespace Rows
def none {H : Type} : Left H := { results := [], args := [] }

/-- 'laws.FnExactChecksumOf': WHATEVER THE INPUT: true; the input reads as it did. -/
def fnExactChecksumOfSpec : ChangeSpec := { name := "fnExactChecksumOf", fn := fun _ => fun
  | [d] => { results := [.lit (.bool true)], args := [d] }
  | _ => none }
def fnExactChecksumOfRow : OpenClaim := { program := "ytcafdolliedcaaa", sum := "1a50244bfb41df73ea313d5e0e361160a6d1213aabe8b9cbbce0baa7d6c87b53", func := "loop.example/g00817/laws.FnExactChecksumOf", spec := "fnExactChecksumOf", apart := false }
def FnExactChecksumOfSaid : Prop := fnExactChecksumOfRow.holds Try.pinned (OpenSpec.ofChange fnExactChecksumOfSpec)

/-- ITS FALSE NEIGHBOUR: 'it returns false'. Refute it at one input. -/
def fnExactChecksumOfWrong : ChangeSpec := { name := "fnExactChecksumOf", fn := fun _ => fun
  | [d] => { results := [.lit (.bool false)], args := [d] }
  | _ => none }
def FnExactChecksumOfWrongFalsely : Prop := fnExactChecksumOfRow.holds Try.pinned (OpenSpec.ofChange fnExactChecksumOfWrong)

/-- 'laws.FnExactIsName': WHATEVER THE INPUT: true; the input reads as it did. -/
def fnExactIsNameSpec : ChangeSpec := { name := "fnExactIsName", fn := fun _ => fun
  | [d] => { results := [.lit (.bool true)], args := [d] }
  | _ => none }
def fnExactIsNameRow : OpenClaim := { program := "ytcafdolliedcaaa", sum := "1a50244bfb41df73ea313d5e0e361160a6d1213aabe8b9cbbce0baa7d6c87b53", func := "loop.example/g00817/laws.FnExactIsName", spec := "fnExactIsName", apart := false }
def FnExactIsNameSaid : Prop := fnExactIsNameRow.holds Try.pinned (OpenSpec.ofChange fnExactIsNameSpec)

/-- ITS FALSE NEIGHBOUR: 'it returns false'. Refute it at one input. -/
def fnExactIsNameWrong : ChangeSpec := { name := "fnExactIsName", fn := fun _ => fun
  | [d] => { results := [.lit (.bool false)], args := [d] }
  | _ => none }
def FnExactIsNameWrongFalsely : Prop := fnExactIsNameRow.holds Try.pinned (OpenSpec.ofChange fnExactIsNameWrong)

/-- 'laws.FnExactPermOf': WHATEVER THE INPUT: true; the input reads as it did. -/
def fnExactPermOfSpec : ChangeSpec := { name := "fnExactPermOf", fn := fun _ => fun
  | [d1, d2] => { results := [.lit (.bool true)], args := [d1, d2] }
  | _ => none }
def fnExactPermOfRow : OpenClaim := { program := "ytcafdolliedcaaa", sum := "1a50244bfb41df73ea313d5e0e361160a6d1213aabe8b9cbbce0baa7d6c87b53", func := "loop.example/g00817/laws.FnExactPermOf", spec := "fnExactPermOf", apart := false }
def FnExactPermOfSaid : Prop := fnExactPermOfRow.holds Try.pinned (OpenSpec.ofChange fnExactPermOfSpec)

/-- ITS FALSE NEIGHBOUR: 'it returns false'. Refute it at one input. -/
def fnExactPermOfWrong : ChangeSpec := { name := "fnExactPermOf", fn := fun _ => fun
  | [d1, d2] => { results := [.lit (.bool false)], args := [d1, d2] }
  | _ => none }
def FnExactPermOfWrongFalsely : Prop := fnExactPermOfRow.holds Try.pinned (OpenSpec.ofChange fnExactPermOfWrong)

/-- 'laws.FnExactGetNumber': WHATEVER THE INPUT: true; the input reads as it did. -/
def fnExactGetNumberSpec : ChangeSpec := { name := "fnExactGetNumber", fn := fun _ => fun
  | [d1, d2, d3] => { results := [.lit (.bool true)], args := [d1, d2, d3] }
  | _ => none }
def fnExactGetNumberRow : OpenClaim := { program := "ytcafdolliedcaaa", sum := "1a50244bfb41df73ea313d5e0e361160a6d1213aabe8b9cbbce0baa7d6c87b53", func := "loop.example/g00817/laws.FnExactGetNumber", spec := "fnExactGetNumber", apart := false }
def FnExactGetNumberSaid : Prop := fnExactGetNumberRow.holds Try.pinned (OpenSpec.ofChange fnExactGetNumberSpec)

/-- ITS FALSE NEIGHBOUR: 'it returns false'. Refute it at one input. -/
def fnExactGetNumberWrong : ChangeSpec := { name := "fnExactGetNumber", fn := fun _ => fun
  | [d1, d2, d3] => { results := [.lit (.bool false)], args := [d1, d2, d3] }
  | _ => none }
def FnExactGetNumberWrongFalsely : Prop := fnExactGetNumberRow.holds Try.pinned (OpenSpec.ofChange fnExactGetNumberWrong)

/-- 'laws.FnExactPutNumber': WHATEVER THE INPUT: true; the input reads as it did. -/
def fnExactPutNumberSpec : ChangeSpec := { name := "fnExactPutNumber", fn := fun _ => fun
  | [d1, d2] => { results := [.lit (.bool true)], args := [d1, d2] }
  | _ => none }
def fnExactPutNumberRow : OpenClaim := { program := "ytcafdolliedcaaa", sum := "1a50244bfb41df73ea313d5e0e361160a6d1213aabe8b9cbbce0baa7d6c87b53", func := "loop.example/g00817/laws.FnExactPutNumber", spec := "fnExactPutNumber", apart := false }
def FnExactPutNumberSaid : Prop := fnExactPutNumberRow.holds Try.pinned (OpenSpec.ofChange fnExactPutNumberSpec)

/-- ITS FALSE NEIGHBOUR: 'it returns false'. Refute it at one input. -/
def fnExactPutNumberWrong : ChangeSpec := { name := "fnExactPutNumber", fn := fun _ => fun
  | [d1, d2] => { results := [.lit (.bool false)], args := [d1, d2] }
  | _ => none }
def FnExactPutNumberWrongFalsely : Prop := fnExactPutNumberRow.holds Try.pinned (OpenSpec.ofChange fnExactPutNumberWrong)

/-- 'laws.FnExactFormatMode': WHATEVER THE INPUT: true; the input reads as it did. -/
def fnExactFormatModeSpec : ChangeSpec := { name := "fnExactFormatMode", fn := fun _ => fun
  | [d] => { results := [.lit (.bool true)], args := [d] }
  | _ => none }
def fnExactFormatModeRow : OpenClaim := { program := "ytcafdolliedcaaa", sum := "1a50244bfb41df73ea313d5e0e361160a6d1213aabe8b9cbbce0baa7d6c87b53", func := "loop.example/g00817/laws.FnExactFormatMode", spec := "fnExactFormatMode", apart := false }
def FnExactFormatModeSaid : Prop := fnExactFormatModeRow.holds Try.pinned (OpenSpec.ofChange fnExactFormatModeSpec)

/-- ITS FALSE NEIGHBOUR: 'it returns false'. Refute it at one input. -/
def fnExactFormatModeWrong : ChangeSpec := { name := "fnExactFormatMode", fn := fun _ => fun
  | [d] => { results := [.lit (.bool false)], args := [d] }
  | _ => none }
def FnExactFormatModeWrongFalsely : Prop := fnExactFormatModeRow.holds Try.pinned (OpenSpec.ofChange fnExactFormatModeWrong)

/-- 'laws.FnChecksums': WHATEVER THE INPUT: true; the input reads as it did. -/
def fnChecksumsSpec : ChangeSpec := { name := "fnChecksums", fn := fun _ => fun
  | [d] => { results := [.lit (.bool true)], args := [d] }
  | _ => none }
def fnChecksumsRow : OpenClaim := { program := "ytcafdolliedcaaa", sum := "1a50244bfb41df73ea313d5e0e361160a6d1213aabe8b9cbbce0baa7d6c87b53", func := "loop.example/g00817/laws.FnChecksums", spec := "fnChecksums", apart := false }
def FnChecksumsSaid : Prop := fnChecksumsRow.holds Try.pinned (OpenSpec.ofChange fnChecksumsSpec)

/-- ITS FALSE NEIGHBOUR: 'it returns false'. Refute it at one input. -/
def fnChecksumsWrong : ChangeSpec := { name := "fnChecksums", fn := fun _ => fun
  | [d] => { results := [.lit (.bool false)], args := [d] }
  | _ => none }
def FnChecksumsWrongFalsely : Prop := fnChecksumsRow.holds Try.pinned (OpenSpec.ofChange fnChecksumsWrong)

/-- 'laws.FnExactParseMode': WHATEVER THE INPUT: true; the input reads as it did. -/
def fnExactParseModeSpec : ChangeSpec := { name := "fnExactParseMode", fn := fun _ => fun
  | [d] => { results := [.lit (.bool true)], args := [d] }
  | _ => none }
def fnExactParseModeRow : OpenClaim := { program := "ytcafdolliedcaaa", sum := "1a50244bfb41df73ea313d5e0e361160a6d1213aabe8b9cbbce0baa7d6c87b53", func := "loop.example/g00817/laws.FnExactParseMode", spec := "fnExactParseMode", apart := false }
def FnExactParseModeSaid : Prop := fnExactParseModeRow.holds Try.pinned (OpenSpec.ofChange fnExactParseModeSpec)

/-- ITS FALSE NEIGHBOUR: 'it returns false'. Refute it at one input. -/
def fnExactParseModeWrong : ChangeSpec := { name := "fnExactParseMode", fn := fun _ => fun
  | [d] => { results := [.lit (.bool false)], args := [d] }
  | _ => none }
def FnExactParseModeWrongFalsely : Prop := fnExactParseModeRow.holds Try.pinned (OpenSpec.ofChange fnExactParseModeWrong)

/-- 'laws.FnExactAclPerm': WHATEVER THE INPUT: true; the input reads as it did. -/
def fnExactAclPermSpec : ChangeSpec := { name := "fnExactAclPerm", fn := fun _ => fun
  | [d1, d2, d3] => { results := [.lit (.bool true)], args := [d1, d2, d3] }
  | _ => none }
def fnExactAclPermRow : OpenClaim := { program := "ytcafdolliedcaaa", sum := "1a50244bfb41df73ea313d5e0e361160a6d1213aabe8b9cbbce0baa7d6c87b53", func := "loop.example/g00817/laws.FnExactAclPerm", spec := "fnExactAclPerm", apart := false }
def FnExactAclPermSaid : Prop := fnExactAclPermRow.holds Try.pinned (OpenSpec.ofChange fnExactAclPermSpec)

/-- ITS FALSE NEIGHBOUR: 'it returns false'. Refute it at one input. -/
def fnExactAclPermWrong : ChangeSpec := { name := "fnExactAclPerm", fn := fun _ => fun
  | [d1, d2, d3] => { results := [.lit (.bool false)], args := [d1, d2, d3] }
  | _ => none }
def FnExactAclPermWrongFalsely : Prop := fnExactAclPermRow.holds Try.pinned (OpenSpec.ofChange fnExactAclPermWrong)

/-- 'laws.FnExactMaskOf': WHATEVER THE INPUT: true; the input reads as it did. -/
def fnExactMaskOfSpec : ChangeSpec := { name := "fnExactMaskOf", fn := fun _ => fun
  | [d] => { results := [.lit (.bool true)], args := [d] }
  | _ => none }
def fnExactMaskOfRow : OpenClaim := { program := "ytcafdolliedcaaa", sum := "1a50244bfb41df73ea313d5e0e361160a6d1213aabe8b9cbbce0baa7d6c87b53", func := "loop.example/g00817/laws.FnExactMaskOf", spec := "fnExactMaskOf", apart := false }
def FnExactMaskOfSaid : Prop := fnExactMaskOfRow.holds Try.pinned (OpenSpec.ofChange fnExactMaskOfSpec)

/-- ITS FALSE NEIGHBOUR: 'it returns false'. Refute it at one input. -/
def fnExactMaskOfWrong : ChangeSpec := { name := "fnExactMaskOf", fn := fun _ => fun
  | [d] => { results := [.lit (.bool false)], args := [d] }
  | _ => none }
def FnExactMaskOfWrongFalsely : Prop := fnExactMaskOfRow.holds Try.pinned (OpenSpec.ofChange fnExactMaskOfWrong)

/-- 'laws.FnExactCutAll': WHATEVER THE INPUT: true; the input reads as it did. -/
def fnExactCutAllSpec : ChangeSpec := { name := "fnExactCutAll", fn := fun _ => fun
  | [d1, d2] => { results := [.lit (.bool true)], args := [d1, d2] }
  | _ => none }
def fnExactCutAllRow : OpenClaim := { program := "ytcafdolliedcaaa", sum := "1a50244bfb41df73ea313d5e0e361160a6d1213aabe8b9cbbce0baa7d6c87b53", func := "loop.example/g00817/laws.FnExactCutAll", spec := "fnExactCutAll", apart := false }
def FnExactCutAllSaid : Prop := fnExactCutAllRow.holds Try.pinned (OpenSpec.ofChange fnExactCutAllSpec)

/-- ITS FALSE NEIGHBOUR: 'it returns false'. Refute it at one input. -/
def fnExactCutAllWrong : ChangeSpec := { name := "fnExactCutAll", fn := fun _ => fun
  | [d1, d2] => { results := [.lit (.bool false)], args := [d1, d2] }
  | _ => none }
def FnExactCutAllWrongFalsely : Prop := fnExactCutAllRow.holds Try.pinned (OpenSpec.ofChange fnExactCutAllWrong)

/-- 'laws.FnModes': WHATEVER THE INPUT: true; the input reads as it did. -/
def fnModesSpec : ChangeSpec := { name := "fnModes", fn := fun _ => fun
  | [d] => { results := [.lit (.bool true)], args := [d] }
  | _ => none }
def fnModesRow : OpenClaim := { program := "ytcafdolliedcaaa", sum := "1a50244bfb41df73ea313d5e0e361160a6d1213aabe8b9cbbce0baa7d6c87b53", func := "loop.example/g00817/laws.FnModes", spec := "fnModes", apart := false }
def FnModesSaid : Prop := fnModesRow.holds Try.pinned (OpenSpec.ofChange fnModesSpec)

/-- ITS FALSE NEIGHBOUR: 'it returns false'. Refute it at one input. -/
def fnModesWrong : ChangeSpec := { name := "fnModes", fn := fun _ => fun
  | [d] => { results := [.lit (.bool false)], args := [d] }
  | _ => none }
def FnModesWrongFalsely : Prop := fnModesRow.holds Try.pinned (OpenSpec.ofChange fnModesWrong)

/- THE SECOND FORM. 'bulk': how many values and letters a reading holds, each counted each time it is reached (what is shared counts as often as it is met; a slice's spare places count too). A statement '..UptoSaid' is the law's where the arguments, and the package variables that the reading takes, are together of bulk at most 1048576: NARROWER than '..Said'. Prove '..Said' where nothing that the law and all that it calls make is longer than what came in: it says more and counts as full. Else prove '..UptoSaid'. A law counts once. -/
mutual
def uptoBulk {H : Type} : DataW H → Nat
  | .lit (.string bytes) => bytes.length + 1
  | .lit _ => 1
  | .nil => 1
  | .ptr d => uptoBulk d + 1
  | .slice elems spare => uptoBulkAll elems + uptoBulkAll spare + 1
  | .agg parts => uptoBulkAll parts + 1
  | .iface _ d => uptoBulk d + 1
  | .map entries => uptoBulkEntries entries + 1
  | .held _ => 1
def uptoBulkAll {H : Type} : List (DataW H) → Nat
  | [] => 0
  | d :: r => uptoBulk d + uptoBulkAll r
def uptoBulkEntries {H : Type} : List (Lit × DataW H) → Nat
  | [] => 0
  | x :: r => uptoBulkEntry x + uptoBulkEntries r
def uptoBulkEntry {H : Type} : Lit × DataW H → Nat
  | (.string bytes, d) => bytes.length + uptoBulk d + 1
  | (_, d) => uptoBulk d + 1
 end
def uptoSmall : (H : Type) → List (DataW H) → Bool := fun _ ds => decide (uptoBulkAll ds ≤ 1048576)
def OpenSpec.upto (s : _root_.Go.ChangeSpec) : _root_.Go.OpenSpec := { _root_.Go.OpenSpec.ofChange s with cond := some uptoSmall }

/-- 'laws.FnExactChecksumOf', WHERE WHAT IT READS IS OF BULK AT MOST 1048576: true; the input reads as it did. -/
def fnExactChecksumOfUptoRow : OpenClaim := { program := "ytcafdolliedcaaa", sum := "1a50244bfb41df73ea313d5e0e361160a6d1213aabe8b9cbbce0baa7d6c87b53", func := "loop.example/g00817/laws.FnExactChecksumOf", spec := "fnExactChecksumOf", apart := false, narrowed := true }
def FnExactChecksumOfUptoSaid : Prop := fnExactChecksumOfUptoRow.holds Try.pinned (OpenSpec.upto fnExactChecksumOfSpec)

/-- 'laws.FnExactIsName', WHERE WHAT IT READS IS OF BULK AT MOST 1048576: true; the input reads as it did. -/
def fnExactIsNameUptoRow : OpenClaim := { program := "ytcafdolliedcaaa", sum := "1a50244bfb41df73ea313d5e0e361160a6d1213aabe8b9cbbce0baa7d6c87b53", func := "loop.example/g00817/laws.FnExactIsName", spec := "fnExactIsName", apart := false, narrowed := true }
def FnExactIsNameUptoSaid : Prop := fnExactIsNameUptoRow.holds Try.pinned (OpenSpec.upto fnExactIsNameSpec)

/-- 'laws.FnExactPermOf', WHERE WHAT IT READS IS OF BULK AT MOST 1048576: true; the input reads as it did. -/
def fnExactPermOfUptoRow : OpenClaim := { program := "ytcafdolliedcaaa", sum := "1a50244bfb41df73ea313d5e0e361160a6d1213aabe8b9cbbce0baa7d6c87b53", func := "loop.example/g00817/laws.FnExactPermOf", spec := "fnExactPermOf", apart := false, narrowed := true }
def FnExactPermOfUptoSaid : Prop := fnExactPermOfUptoRow.holds Try.pinned (OpenSpec.upto fnExactPermOfSpec)

/-- 'laws.FnExactGetNumber', WHERE WHAT IT READS IS OF BULK AT MOST 1048576: true; the input reads as it did. -/
def fnExactGetNumberUptoRow : OpenClaim := { program := "ytcafdolliedcaaa", sum := "1a50244bfb41df73ea313d5e0e361160a6d1213aabe8b9cbbce0baa7d6c87b53", func := "loop.example/g00817/laws.FnExactGetNumber", spec := "fnExactGetNumber", apart := false, narrowed := true }
def FnExactGetNumberUptoSaid : Prop := fnExactGetNumberUptoRow.holds Try.pinned (OpenSpec.upto fnExactGetNumberSpec)

/-- 'laws.FnExactPutNumber', WHERE WHAT IT READS IS OF BULK AT MOST 1048576: true; the input reads as it did. -/
def fnExactPutNumberUptoRow : OpenClaim := { program := "ytcafdolliedcaaa", sum := "1a50244bfb41df73ea313d5e0e361160a6d1213aabe8b9cbbce0baa7d6c87b53", func := "loop.example/g00817/laws.FnExactPutNumber", spec := "fnExactPutNumber", apart := false, narrowed := true }
def FnExactPutNumberUptoSaid : Prop := fnExactPutNumberUptoRow.holds Try.pinned (OpenSpec.upto fnExactPutNumberSpec)

/-- 'laws.FnExactFormatMode', WHERE WHAT IT READS IS OF BULK AT MOST 1048576: true; the input reads as it did. -/
def fnExactFormatModeUptoRow : OpenClaim := { program := "ytcafdolliedcaaa", sum := "1a50244bfb41df73ea313d5e0e361160a6d1213aabe8b9cbbce0baa7d6c87b53", func := "loop.example/g00817/laws.FnExactFormatMode", spec := "fnExactFormatMode", apart := false, narrowed := true }
def FnExactFormatModeUptoSaid : Prop := fnExactFormatModeUptoRow.holds Try.pinned (OpenSpec.upto fnExactFormatModeSpec)

/-- 'laws.FnChecksums', WHERE WHAT IT READS IS OF BULK AT MOST 1048576: true; the input reads as it did. -/
def fnChecksumsUptoRow : OpenClaim := { program := "ytcafdolliedcaaa", sum := "1a50244bfb41df73ea313d5e0e361160a6d1213aabe8b9cbbce0baa7d6c87b53", func := "loop.example/g00817/laws.FnChecksums", spec := "fnChecksums", apart := false, narrowed := true }
def FnChecksumsUptoSaid : Prop := fnChecksumsUptoRow.holds Try.pinned (OpenSpec.upto fnChecksumsSpec)

/-- 'laws.FnExactParseMode', WHERE WHAT IT READS IS OF BULK AT MOST 1048576: true; the input reads as it did. -/
def fnExactParseModeUptoRow : OpenClaim := { program := "ytcafdolliedcaaa", sum := "1a50244bfb41df73ea313d5e0e361160a6d1213aabe8b9cbbce0baa7d6c87b53", func := "loop.example/g00817/laws.FnExactParseMode", spec := "fnExactParseMode", apart := false, narrowed := true }
def FnExactParseModeUptoSaid : Prop := fnExactParseModeUptoRow.holds Try.pinned (OpenSpec.upto fnExactParseModeSpec)

/-- 'laws.FnExactAclPerm', WHERE WHAT IT READS IS OF BULK AT MOST 1048576: true; the input reads as it did. -/
def fnExactAclPermUptoRow : OpenClaim := { program := "ytcafdolliedcaaa", sum := "1a50244bfb41df73ea313d5e0e361160a6d1213aabe8b9cbbce0baa7d6c87b53", func := "loop.example/g00817/laws.FnExactAclPerm", spec := "fnExactAclPerm", apart := false, narrowed := true }
def FnExactAclPermUptoSaid : Prop := fnExactAclPermUptoRow.holds Try.pinned (OpenSpec.upto fnExactAclPermSpec)

/-- 'laws.FnExactMaskOf', WHERE WHAT IT READS IS OF BULK AT MOST 1048576: true; the input reads as it did. -/
def fnExactMaskOfUptoRow : OpenClaim := { program := "ytcafdolliedcaaa", sum := "1a50244bfb41df73ea313d5e0e361160a6d1213aabe8b9cbbce0baa7d6c87b53", func := "loop.example/g00817/laws.FnExactMaskOf", spec := "fnExactMaskOf", apart := false, narrowed := true }
def FnExactMaskOfUptoSaid : Prop := fnExactMaskOfUptoRow.holds Try.pinned (OpenSpec.upto fnExactMaskOfSpec)

/-- 'laws.FnExactCutAll', WHERE WHAT IT READS IS OF BULK AT MOST 1048576: true; the input reads as it did. -/
def fnExactCutAllUptoRow : OpenClaim := { program := "ytcafdolliedcaaa", sum := "1a50244bfb41df73ea313d5e0e361160a6d1213aabe8b9cbbce0baa7d6c87b53", func := "loop.example/g00817/laws.FnExactCutAll", spec := "fnExactCutAll", apart := false, narrowed := true }
def FnExactCutAllUptoSaid : Prop := fnExactCutAllUptoRow.holds Try.pinned (OpenSpec.upto fnExactCutAllSpec)

/-- 'laws.FnModes', WHERE WHAT IT READS IS OF BULK AT MOST 1048576: true; the input reads as it did. -/
def fnModesUptoRow : OpenClaim := { program := "ytcafdolliedcaaa", sum := "1a50244bfb41df73ea313d5e0e361160a6d1213aabe8b9cbbce0baa7d6c87b53", func := "loop.example/g00817/laws.FnModes", spec := "fnModes", apart := false, narrowed := true }
def FnModesUptoSaid : Prop := fnModesUptoRow.holds Try.pinned (OpenSpec.upto fnModesSpec)

end Rows
end Go.Proofs.Ytcafdolliedcaaa
