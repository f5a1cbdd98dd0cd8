/-
  No cell of these rows narrows 'for every input' (looked for: loops, veiled, ifaces, maps, wideKeys, modest, calm, conditions, laid).
  DERIVED. THE GIVEN ROWS OF THIS SEAT. 6 by the template 'for every input the law returns true; each argument reads behind the call as it read before'; 0 by the template 'total and deterministic' (their statements: YtpcbmbmiilfpeaaTotals.lean).
  GIVEN WITH THE SEED: the statements are not yours to turn. If you find one false, say at which input.
  Laid BY PROGRAM, IN A SANDBOX (cutbox-rows.mjs): the forced cells as the released guide's own fill.sh prints them over the translation 7c50a39a7b63b7c3… (all of the seat's roots in one cut). By AI agents, Wed Nov 11 2026. No macro, syntax, notation, axiom, sorry.
-/
import Derived.Test.YtpcbmbmiilfpeaaChecked
import GoSem.Claim
import GoSem.ClaimJoined
import GoSem.ClaimMapViews
import Derived.JoinedTies
import Derived.KernelRfl
namespace Go.Proofs.Ytpcbmbmiilfpeaa
/- THE CELL 'sum', in the pinned program and in every row, IS THE sha256 OF THE DUMP (.gsa) THAT YtpcbmbmiilfpeaaProg.lean LOADS. Nothing in Lean hashes anything: it is a label: what it is worth is what the hold of that sum in a sandbox is worth. -/
noncomputable def Try.pinned : Pinned := { name := "ytpcbmbmiilfpeaa", sum := "7c50a39a7b63b7c3b6d6a94865879e5b53e436a89d685a794d468e8ef9e09a5e", checked := Try.checked }
namespace Rows
def none {H : Type} : Left H := { results := [], args := [] }

/-- 'laws.FnExactConstants': WHATEVER THE INPUT: true; the input reads as it did. -/
def fnExactConstantsSpec : ChangeSpec := { name := "fnExactConstants", fn := fun _ => fun
  | [] => { results := [.lit (.bool true)], args := [] }
  | _ => none }
def fnExactConstantsRow : OpenClaim := { program := "ytpcbmbmiilfpeaa", sum := "7c50a39a7b63b7c3b6d6a94865879e5b53e436a89d685a794d468e8ef9e09a5e", func := "loop.example/g00817/laws.FnExactConstants", spec := "fnExactConstants", apart := false }
def FnExactConstantsSaid : Prop := fnExactConstantsRow.holds Try.pinned (OpenSpec.ofChange fnExactConstantsSpec)

/-- ITS FALSE NEIGHBOUR: 'it returns false'. Refute it at one input. -/
def fnExactConstantsWrong : ChangeSpec := { name := "fnExactConstants", fn := fun _ => fun
  | [] => { results := [.lit (.bool false)], args := [] }
  | _ => none }
def FnExactConstantsWrongFalsely : Prop := fnExactConstantsRow.holds Try.pinned (OpenSpec.ofChange fnExactConstantsWrong)

/-- 'laws.FnExactBlocksNeeded': WHATEVER THE INPUT: true; the input reads as it did. -/
def fnExactBlocksNeededSpec : ChangeSpec := { name := "fnExactBlocksNeeded", fn := fun _ => fun
  | [d] => { results := [.lit (.bool true)], args := [d] }
  | _ => none }
def fnExactBlocksNeededRow : OpenClaim := { program := "ytpcbmbmiilfpeaa", sum := "7c50a39a7b63b7c3b6d6a94865879e5b53e436a89d685a794d468e8ef9e09a5e", func := "loop.example/g00817/laws.FnExactBlocksNeeded", spec := "fnExactBlocksNeeded", apart := false }
def FnExactBlocksNeededSaid : Prop := fnExactBlocksNeededRow.holds Try.pinned (OpenSpec.ofChange fnExactBlocksNeededSpec)

/-- ITS FALSE NEIGHBOUR: 'it returns false'. Refute it at one input. -/
def fnExactBlocksNeededWrong : ChangeSpec := { name := "fnExactBlocksNeeded", fn := fun _ => fun
  | [d] => { results := [.lit (.bool false)], args := [d] }
  | _ => none }
def FnExactBlocksNeededWrongFalsely : Prop := fnExactBlocksNeededRow.holds Try.pinned (OpenSpec.ofChange fnExactBlocksNeededWrong)

/-- 'laws.FnExactBlockOwner': WHATEVER THE INPUT: true; the input reads as it did. -/
def fnExactBlockOwnerSpec : ChangeSpec := { name := "fnExactBlockOwner", fn := fun _ => fun
  | [d] => { results := [.lit (.bool true)], args := [d] }
  | _ => none }
def fnExactBlockOwnerRow : OpenClaim := { program := "ytpcbmbmiilfpeaa", sum := "7c50a39a7b63b7c3b6d6a94865879e5b53e436a89d685a794d468e8ef9e09a5e", func := "loop.example/g00817/laws.FnExactBlockOwner", spec := "fnExactBlockOwner", apart := false }
def FnExactBlockOwnerSaid : Prop := fnExactBlockOwnerRow.holds Try.pinned (OpenSpec.ofChange fnExactBlockOwnerSpec)

/-- ITS FALSE NEIGHBOUR: 'it returns false'. Refute it at one input. -/
def fnExactBlockOwnerWrong : ChangeSpec := { name := "fnExactBlockOwner", fn := fun _ => fun
  | [d] => { results := [.lit (.bool false)], args := [d] }
  | _ => none }
def FnExactBlockOwnerWrongFalsely : Prop := fnExactBlockOwnerRow.holds Try.pinned (OpenSpec.ofChange fnExactBlockOwnerWrong)

/-- 'laws.FnExactHexOf': WHATEVER THE INPUT: true; the input reads as it did. -/
def fnExactHexOfSpec : ChangeSpec := { name := "fnExactHexOf", fn := fun _ => fun
  | [d] => { results := [.lit (.bool true)], args := [d] }
  | _ => none }
def fnExactHexOfRow : OpenClaim := { program := "ytpcbmbmiilfpeaa", sum := "7c50a39a7b63b7c3b6d6a94865879e5b53e436a89d685a794d468e8ef9e09a5e", func := "loop.example/g00817/laws.FnExactHexOf", spec := "fnExactHexOf", apart := false }
def FnExactHexOfSaid : Prop := fnExactHexOfRow.holds Try.pinned (OpenSpec.ofChange fnExactHexOfSpec)

/-- ITS FALSE NEIGHBOUR: 'it returns false'. Refute it at one input. -/
def fnExactHexOfWrong : ChangeSpec := { name := "fnExactHexOf", fn := fun _ => fun
  | [d] => { results := [.lit (.bool false)], args := [d] }
  | _ => none }
def FnExactHexOfWrongFalsely : Prop := fnExactHexOfRow.holds Try.pinned (OpenSpec.ofChange fnExactHexOfWrong)

/-- 'laws.FnExactErrorName': WHATEVER THE INPUT: true; the input reads as it did. -/
def fnExactErrorNameSpec : ChangeSpec := { name := "fnExactErrorName", fn := fun _ => fun
  | [d] => { results := [.lit (.bool true)], args := [d] }
  | _ => none }
def fnExactErrorNameRow : OpenClaim := { program := "ytpcbmbmiilfpeaa", sum := "7c50a39a7b63b7c3b6d6a94865879e5b53e436a89d685a794d468e8ef9e09a5e", func := "loop.example/g00817/laws.FnExactErrorName", spec := "fnExactErrorName", apart := false }
def FnExactErrorNameSaid : Prop := fnExactErrorNameRow.holds Try.pinned (OpenSpec.ofChange fnExactErrorNameSpec)

/-- ITS FALSE NEIGHBOUR: 'it returns false'. Refute it at one input. -/
def fnExactErrorNameWrong : ChangeSpec := { name := "fnExactErrorName", fn := fun _ => fun
  | [d] => { results := [.lit (.bool false)], args := [d] }
  | _ => none }
def FnExactErrorNameWrongFalsely : Prop := fnExactErrorNameRow.holds Try.pinned (OpenSpec.ofChange fnExactErrorNameWrong)

/-- 'laws.FnExactIsDigits': WHATEVER THE INPUT: true; the input reads as it did. -/
def fnExactIsDigitsSpec : ChangeSpec := { name := "fnExactIsDigits", fn := fun _ => fun
  | [d] => { results := [.lit (.bool true)], args := [d] }
  | _ => none }
def fnExactIsDigitsRow : OpenClaim := { program := "ytpcbmbmiilfpeaa", sum := "7c50a39a7b63b7c3b6d6a94865879e5b53e436a89d685a794d468e8ef9e09a5e", func := "loop.example/g00817/laws.FnExactIsDigits", spec := "fnExactIsDigits", apart := false }
def FnExactIsDigitsSaid : Prop := fnExactIsDigitsRow.holds Try.pinned (OpenSpec.ofChange fnExactIsDigitsSpec)

/-- ITS FALSE NEIGHBOUR: 'it returns false'. Refute it at one input. -/
def fnExactIsDigitsWrong : ChangeSpec := { name := "fnExactIsDigits", fn := fun _ => fun
  | [d] => { results := [.lit (.bool false)], args := [d] }
  | _ => none }
def FnExactIsDigitsWrongFalsely : Prop := fnExactIsDigitsRow.holds Try.pinned (OpenSpec.ofChange fnExactIsDigitsWrong)

/- THE SECOND FORM. 'bulk': how many values and letters a reading holds, each counted each time it is reached (what is shared counts as often as it is met; a slice's spare places count too). A statement '..UptoSaid' is the law's where the arguments, and the package variables that the reading takes, are together of bulk at most 1048576: NARROWER than '..Said'. Prove '..Said' where nothing that the law and all that it calls make is longer than what came in: it says more and counts as full. Else prove '..UptoSaid'. A law counts once. -/
mutual
def uptoBulk {H : Type} : DataW H → Nat
  | .lit (.string bytes) => bytes.length + 1
  | .lit _ => 1
  | .nil => 1
  | .ptr d => uptoBulk d + 1
  | .slice elems spare => uptoBulkAll elems + uptoBulkAll spare + 1
  | .agg parts => uptoBulkAll parts + 1
  | .iface _ d => uptoBulk d + 1
  | .map entries => uptoBulkEntries entries + 1
  | .held _ => 1
def uptoBulkAll {H : Type} : List (DataW H) → Nat
  | [] => 0
  | d :: r => uptoBulk d + uptoBulkAll r
def uptoBulkEntries {H : Type} : List (Lit × DataW H) → Nat
  | [] => 0
  | x :: r => uptoBulkEntry x + uptoBulkEntries r
def uptoBulkEntry {H : Type} : Lit × DataW H → Nat
  | (.string bytes, d) => bytes.length + uptoBulk d + 1
  | (_, d) => uptoBulk d + 1
 end
def uptoSmall : (H : Type) → List (DataW H) → Bool := fun _ ds => decide (uptoBulkAll ds ≤ 1048576)
def OpenSpec.upto (s : _root_.Go.ChangeSpec) : _root_.Go.OpenSpec := { _root_.Go.OpenSpec.ofChange s with cond := some uptoSmall }

/-- 'laws.FnExactConstants', WHERE WHAT IT READS IS OF BULK AT MOST 1048576: true; the input reads as it did. -/
def fnExactConstantsUptoRow : OpenClaim := { program := "ytpcbmbmiilfpeaa", sum := "7c50a39a7b63b7c3b6d6a94865879e5b53e436a89d685a794d468e8ef9e09a5e", func := "loop.example/g00817/laws.FnExactConstants", spec := "fnExactConstants", apart := false, narrowed := true }
def FnExactConstantsUptoSaid : Prop := fnExactConstantsUptoRow.holds Try.pinned (OpenSpec.upto fnExactConstantsSpec)

/-- 'laws.FnExactBlocksNeeded', WHERE WHAT IT READS IS OF BULK AT MOST 1048576: true; the input reads as it did. -/
def fnExactBlocksNeededUptoRow : OpenClaim := { program := "ytpcbmbmiilfpeaa", sum := "7c50a39a7b63b7c3b6d6a94865879e5b53e436a89d685a794d468e8ef9e09a5e", func := "loop.example/g00817/laws.FnExactBlocksNeeded", spec := "fnExactBlocksNeeded", apart := false, narrowed := true }
def FnExactBlocksNeededUptoSaid : Prop := fnExactBlocksNeededUptoRow.holds Try.pinned (OpenSpec.upto fnExactBlocksNeededSpec)

/-- 'laws.FnExactBlockOwner', WHERE WHAT IT READS IS OF BULK AT MOST 1048576: true; the input reads as it did. -/
def fnExactBlockOwnerUptoRow : OpenClaim := { program := "ytpcbmbmiilfpeaa", sum := "7c50a39a7b63b7c3b6d6a94865879e5b53e436a89d685a794d468e8ef9e09a5e", func := "loop.example/g00817/laws.FnExactBlockOwner", spec := "fnExactBlockOwner", apart := false, narrowed := true }
def FnExactBlockOwnerUptoSaid : Prop := fnExactBlockOwnerUptoRow.holds Try.pinned (OpenSpec.upto fnExactBlockOwnerSpec)

/-- 'laws.FnExactHexOf', WHERE WHAT IT READS IS OF BULK AT MOST 1048576: true; the input reads as it did. -/
def fnExactHexOfUptoRow : OpenClaim := { program := "ytpcbmbmiilfpeaa", sum := "7c50a39a7b63b7c3b6d6a94865879e5b53e436a89d685a794d468e8ef9e09a5e", func := "loop.example/g00817/laws.FnExactHexOf", spec := "fnExactHexOf", apart := false, narrowed := true }
def FnExactHexOfUptoSaid : Prop := fnExactHexOfUptoRow.holds Try.pinned (OpenSpec.upto fnExactHexOfSpec)

/-- 'laws.FnExactErrorName', WHERE WHAT IT READS IS OF BULK AT MOST 1048576: true; the input reads as it did. -/
def fnExactErrorNameUptoRow : OpenClaim := { program := "ytpcbmbmiilfpeaa", sum := "7c50a39a7b63b7c3b6d6a94865879e5b53e436a89d685a794d468e8ef9e09a5e", func := "loop.example/g00817/laws.FnExactErrorName", spec := "fnExactErrorName", apart := false, narrowed := true }
def FnExactErrorNameUptoSaid : Prop := fnExactErrorNameUptoRow.holds Try.pinned (OpenSpec.upto fnExactErrorNameSpec)

/-- 'laws.FnExactIsDigits', WHERE WHAT IT READS IS OF BULK AT MOST 1048576: true; the input reads as it did. -/
def fnExactIsDigitsUptoRow : OpenClaim := { program := "ytpcbmbmiilfpeaa", sum := "7c50a39a7b63b7c3b6d6a94865879e5b53e436a89d685a794d468e8ef9e09a5e", func := "loop.example/g00817/laws.FnExactIsDigits", spec := "fnExactIsDigits", apart := false, narrowed := true }
def FnExactIsDigitsUptoSaid : Prop := fnExactIsDigitsUptoRow.holds Try.pinned (OpenSpec.upto fnExactIsDigitsSpec)

end Rows
end Go.Proofs.Ytpcbmbmiilfpeaa
