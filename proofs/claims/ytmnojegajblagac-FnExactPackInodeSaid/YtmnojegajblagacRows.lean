/-
  No cell of these rows narrows 'for every input' (looked for: loops, veiled, ifaces, maps, wideKeys, modest, calm, conditions, laid).
  DERIVED. THE GIVEN ROWS OF THIS SEAT. 6 by the template 'for every input the law returns true; each argument reads behind the call as it read before'; 0 by the template 'total and deterministic' (their statements: YtmnojegajblagacTotals.lean).
  GIVEN WITH THE SEED: the statements are not yours to turn. If you find one false, say at which input.
  Laid BY PROGRAM, IN A SANDBOX (cutbox-rows.mjs): the forced cells as the released guide's own fill.sh prints them over the translation 52cb5306aa91d5a7… (all of the seat's roots in one cut). By AI agents, Wed Nov 11 2026. No macro, syntax, notation, axiom, sorry.
-/
import Derived.Test.YtmnojegajblagacChecked
import GoSem.Claim
import GoSem.ClaimJoined
import GoSem.ClaimMapViews
import Derived.JoinedTies
import Derived.KernelRfl
namespace Go.Proofs.Ytmnojegajblagac
/- THE CELL 'sum', in the pinned program and in every row, IS THE sha256 OF THE DUMP (.gsa) THAT YtmnojegajblagacProg.lean LOADS. Nothing in Lean hashes anything: it is a label: what it is worth is what the hold of that sum in a sandbox is worth. -/
noncomputable def Try.pinned : Pinned := { name := "ytmnojegajblagac", sum := "52cb5306aa91d5a7d66d2ad6e7abecdacd9e5441603328f9e308521687f0e75f", checked := Try.checked }
namespace Rows
def none {H : Type} : Left H := { results := [], args := [] }

/-- 'laws.FnExactPackInode': WHATEVER THE INPUT: true; the input reads as it did. -/
def fnExactPackInodeSpec : ChangeSpec := { name := "fnExactPackInode", fn := fun _ => fun
  | [d] => { results := [.lit (.bool true)], args := [d] }
  | _ => none }
def fnExactPackInodeRow : OpenClaim := { program := "ytmnojegajblagac", sum := "52cb5306aa91d5a7d66d2ad6e7abecdacd9e5441603328f9e308521687f0e75f", func := "loop.example/g00817/laws.FnExactPackInode", spec := "fnExactPackInode", inPlace := ["internal/abi.NoEscape", "internal/bytealg.MakeNoZero"], apart := false }
def FnExactPackInodeSaid : Prop := fnExactPackInodeRow.holds Try.pinned (OpenSpec.ofChange fnExactPackInodeSpec)

/-- ITS FALSE NEIGHBOUR: 'it returns false'. Refute it at one input. -/
def fnExactPackInodeWrong : ChangeSpec := { name := "fnExactPackInode", fn := fun _ => fun
  | [d] => { results := [.lit (.bool false)], args := [d] }
  | _ => none }
def FnExactPackInodeWrongFalsely : Prop := fnExactPackInodeRow.holds Try.pinned (OpenSpec.ofChange fnExactPackInodeWrong)

/-- 'laws.FnExactIsFS': WHATEVER THE INPUT: true; the input reads as it did. -/
def fnExactIsFSSpec : ChangeSpec := { name := "fnExactIsFS", fn := fun _ => fun
  | [d] => { results := [.lit (.bool true)], args := [d] }
  | _ => none }
def fnExactIsFSRow : OpenClaim := { program := "ytmnojegajblagac", sum := "52cb5306aa91d5a7d66d2ad6e7abecdacd9e5441603328f9e308521687f0e75f", func := "loop.example/g00817/laws.FnExactIsFS", spec := "fnExactIsFS", apart := false }
def FnExactIsFSSaid : Prop := fnExactIsFSRow.holds Try.pinned (OpenSpec.ofChange fnExactIsFSSpec)

/-- ITS FALSE NEIGHBOUR: 'it returns false'. Refute it at one input. -/
def fnExactIsFSWrong : ChangeSpec := { name := "fnExactIsFS", fn := fun _ => fun
  | [d] => { results := [.lit (.bool false)], args := [d] }
  | _ => none }
def FnExactIsFSWrongFalsely : Prop := fnExactIsFSRow.holds Try.pinned (OpenSpec.ofChange fnExactIsFSWrong)

/-- 'laws.FnExactRecoverySteps': WHATEVER THE INPUT: true; the input reads as it did. -/
def fnExactRecoveryStepsSpec : ChangeSpec := { name := "fnExactRecoverySteps", fn := fun _ => fun
  | [d] => { results := [.lit (.bool true)], args := [d] }
  | _ => none }
def fnExactRecoveryStepsRow : OpenClaim := { program := "ytmnojegajblagac", sum := "52cb5306aa91d5a7d66d2ad6e7abecdacd9e5441603328f9e308521687f0e75f", func := "loop.example/g00817/laws.FnExactRecoverySteps", spec := "fnExactRecoverySteps", inPlace := ["internal/abi.NoEscape", "internal/bytealg.MakeNoZero"], apart := false }
def FnExactRecoveryStepsSaid : Prop := fnExactRecoveryStepsRow.holds Try.pinned (OpenSpec.ofChange fnExactRecoveryStepsSpec)

/-- ITS FALSE NEIGHBOUR: 'it returns false'. Refute it at one input. -/
def fnExactRecoveryStepsWrong : ChangeSpec := { name := "fnExactRecoverySteps", fn := fun _ => fun
  | [d] => { results := [.lit (.bool false)], args := [d] }
  | _ => none }
def FnExactRecoveryStepsWrongFalsely : Prop := fnExactRecoveryStepsRow.holds Try.pinned (OpenSpec.ofChange fnExactRecoveryStepsWrong)

/-- 'laws.FnExactInodesOf': WHATEVER THE INPUT: true; the input reads as it did. -/
def fnExactInodesOfSpec : ChangeSpec := { name := "fnExactInodesOf", fn := fun _ => fun
  | [d1, d2] => { results := [.lit (.bool true)], args := [d1, d2] }
  | _ => none }
def fnExactInodesOfRow : OpenClaim := { program := "ytmnojegajblagac", sum := "52cb5306aa91d5a7d66d2ad6e7abecdacd9e5441603328f9e308521687f0e75f", func := "loop.example/g00817/laws.FnExactInodesOf", spec := "fnExactInodesOf", apart := false }
def FnExactInodesOfSaid : Prop := fnExactInodesOfRow.holds Try.pinned (OpenSpec.ofChange fnExactInodesOfSpec)

/-- ITS FALSE NEIGHBOUR: 'it returns false'. Refute it at one input. -/
def fnExactInodesOfWrong : ChangeSpec := { name := "fnExactInodesOf", fn := fun _ => fun
  | [d1, d2] => { results := [.lit (.bool false)], args := [d1, d2] }
  | _ => none }
def FnExactInodesOfWrongFalsely : Prop := fnExactInodesOfRow.holds Try.pinned (OpenSpec.ofChange fnExactInodesOfWrong)

/-- 'laws.FnExactBlocksOf': WHATEVER THE INPUT: true; the input reads as it did. -/
def fnExactBlocksOfSpec : ChangeSpec := { name := "fnExactBlocksOf", fn := fun _ => fun
  | [d1, d2] => { results := [.lit (.bool true)], args := [d1, d2] }
  | _ => none }
def fnExactBlocksOfRow : OpenClaim := { program := "ytmnojegajblagac", sum := "52cb5306aa91d5a7d66d2ad6e7abecdacd9e5441603328f9e308521687f0e75f", func := "loop.example/g00817/laws.FnExactBlocksOf", spec := "fnExactBlocksOf", apart := false }
def FnExactBlocksOfSaid : Prop := fnExactBlocksOfRow.holds Try.pinned (OpenSpec.ofChange fnExactBlocksOfSpec)

/-- ITS FALSE NEIGHBOUR: 'it returns false'. Refute it at one input. -/
def fnExactBlocksOfWrong : ChangeSpec := { name := "fnExactBlocksOf", fn := fun _ => fun
  | [d1, d2] => { results := [.lit (.bool false)], args := [d1, d2] }
  | _ => none }
def FnExactBlocksOfWrongFalsely : Prop := fnExactBlocksOfRow.holds Try.pinned (OpenSpec.ofChange fnExactBlocksOfWrong)

/-- 'laws.FnExactNextInode': WHATEVER THE INPUT: true; the input reads as it did. -/
def fnExactNextInodeSpec : ChangeSpec := { name := "fnExactNextInode", fn := fun _ => fun
  | [d1, d2] => { results := [.lit (.bool true)], args := [d1, d2] }
  | _ => none }
def fnExactNextInodeRow : OpenClaim := { program := "ytmnojegajblagac", sum := "52cb5306aa91d5a7d66d2ad6e7abecdacd9e5441603328f9e308521687f0e75f", func := "loop.example/g00817/laws.FnExactNextInode", spec := "fnExactNextInode", apart := false }
def FnExactNextInodeSaid : Prop := fnExactNextInodeRow.holds Try.pinned (OpenSpec.ofChange fnExactNextInodeSpec)

/-- ITS FALSE NEIGHBOUR: 'it returns false'. Refute it at one input. -/
def fnExactNextInodeWrong : ChangeSpec := { name := "fnExactNextInode", fn := fun _ => fun
  | [d1, d2] => { results := [.lit (.bool false)], args := [d1, d2] }
  | _ => none }
def FnExactNextInodeWrongFalsely : Prop := fnExactNextInodeRow.holds Try.pinned (OpenSpec.ofChange fnExactNextInodeWrong)

/- THE SECOND FORM. 'bulk': how many values and letters a reading holds, each counted each time it is reached (what is shared counts as often as it is met; a slice's spare places count too). A statement '..UptoSaid' is the law's where the arguments, and the package variables that the reading takes, are together of bulk at most 1048576: NARROWER than '..Said'. Prove '..Said' where nothing that the law and all that it calls make is longer than what came in: it says more and counts as full. Else prove '..UptoSaid'. A law counts once. -/
mutual
def uptoBulk {H : Type} : DataW H → Nat
  | .lit (.string bytes) => bytes.length + 1
  | .lit _ => 1
  | .nil => 1
  | .ptr d => uptoBulk d + 1
  | .slice elems spare => uptoBulkAll elems + uptoBulkAll spare + 1
  | .agg parts => uptoBulkAll parts + 1
  | .iface _ d => uptoBulk d + 1
  | .map entries => uptoBulkEntries entries + 1
  | .held _ => 1
def uptoBulkAll {H : Type} : List (DataW H) → Nat
  | [] => 0
  | d :: r => uptoBulk d + uptoBulkAll r
def uptoBulkEntries {H : Type} : List (Lit × DataW H) → Nat
  | [] => 0
  | x :: r => uptoBulkEntry x + uptoBulkEntries r
def uptoBulkEntry {H : Type} : Lit × DataW H → Nat
  | (.string bytes, d) => bytes.length + uptoBulk d + 1
  | (_, d) => uptoBulk d + 1
 end
def uptoSmall : (H : Type) → List (DataW H) → Bool := fun _ ds => decide (uptoBulkAll ds ≤ 1048576)
def OpenSpec.upto (s : _root_.Go.ChangeSpec) : _root_.Go.OpenSpec := { _root_.Go.OpenSpec.ofChange s with cond := some uptoSmall }

/-- 'laws.FnExactPackInode', WHERE WHAT IT READS IS OF BULK AT MOST 1048576: true; the input reads as it did. -/
def fnExactPackInodeUptoRow : OpenClaim := { program := "ytmnojegajblagac", sum := "52cb5306aa91d5a7d66d2ad6e7abecdacd9e5441603328f9e308521687f0e75f", func := "loop.example/g00817/laws.FnExactPackInode", spec := "fnExactPackInode", inPlace := ["internal/abi.NoEscape", "internal/bytealg.MakeNoZero"], apart := false, narrowed := true }
def FnExactPackInodeUptoSaid : Prop := fnExactPackInodeUptoRow.holds Try.pinned (OpenSpec.upto fnExactPackInodeSpec)

/-- 'laws.FnExactIsFS', WHERE WHAT IT READS IS OF BULK AT MOST 1048576: true; the input reads as it did. -/
def fnExactIsFSUptoRow : OpenClaim := { program := "ytmnojegajblagac", sum := "52cb5306aa91d5a7d66d2ad6e7abecdacd9e5441603328f9e308521687f0e75f", func := "loop.example/g00817/laws.FnExactIsFS", spec := "fnExactIsFS", apart := false, narrowed := true }
def FnExactIsFSUptoSaid : Prop := fnExactIsFSUptoRow.holds Try.pinned (OpenSpec.upto fnExactIsFSSpec)

/-- 'laws.FnExactRecoverySteps', WHERE WHAT IT READS IS OF BULK AT MOST 1048576: true; the input reads as it did. -/
def fnExactRecoveryStepsUptoRow : OpenClaim := { program := "ytmnojegajblagac", sum := "52cb5306aa91d5a7d66d2ad6e7abecdacd9e5441603328f9e308521687f0e75f", func := "loop.example/g00817/laws.FnExactRecoverySteps", spec := "fnExactRecoverySteps", inPlace := ["internal/abi.NoEscape", "internal/bytealg.MakeNoZero"], apart := false, narrowed := true }
def FnExactRecoveryStepsUptoSaid : Prop := fnExactRecoveryStepsUptoRow.holds Try.pinned (OpenSpec.upto fnExactRecoveryStepsSpec)

/-- 'laws.FnExactInodesOf', WHERE WHAT IT READS IS OF BULK AT MOST 1048576: true; the input reads as it did. -/
def fnExactInodesOfUptoRow : OpenClaim := { program := "ytmnojegajblagac", sum := "52cb5306aa91d5a7d66d2ad6e7abecdacd9e5441603328f9e308521687f0e75f", func := "loop.example/g00817/laws.FnExactInodesOf", spec := "fnExactInodesOf", apart := false, narrowed := true }
def FnExactInodesOfUptoSaid : Prop := fnExactInodesOfUptoRow.holds Try.pinned (OpenSpec.upto fnExactInodesOfSpec)

/-- 'laws.FnExactBlocksOf', WHERE WHAT IT READS IS OF BULK AT MOST 1048576: true; the input reads as it did. -/
def fnExactBlocksOfUptoRow : OpenClaim := { program := "ytmnojegajblagac", sum := "52cb5306aa91d5a7d66d2ad6e7abecdacd9e5441603328f9e308521687f0e75f", func := "loop.example/g00817/laws.FnExactBlocksOf", spec := "fnExactBlocksOf", apart := false, narrowed := true }
def FnExactBlocksOfUptoSaid : Prop := fnExactBlocksOfUptoRow.holds Try.pinned (OpenSpec.upto fnExactBlocksOfSpec)

/-- 'laws.FnExactNextInode', WHERE WHAT IT READS IS OF BULK AT MOST 1048576: true; the input reads as it did. -/
def fnExactNextInodeUptoRow : OpenClaim := { program := "ytmnojegajblagac", sum := "52cb5306aa91d5a7d66d2ad6e7abecdacd9e5441603328f9e308521687f0e75f", func := "loop.example/g00817/laws.FnExactNextInode", spec := "fnExactNextInode", apart := false, narrowed := true }
def FnExactNextInodeUptoSaid : Prop := fnExactNextInodeUptoRow.holds Try.pinned (OpenSpec.upto fnExactNextInodeSpec)

end Rows
end Go.Proofs.Ytmnojegajblagac
