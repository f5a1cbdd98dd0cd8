/-
  No cell of these rows narrows 'for every input' (looked for: loops, veiled, ifaces, maps, wideKeys, modest, calm, conditions, laid).
  DERIVED. THE GIVEN ROWS OF THIS SEAT. 10 by the template 'for every input the law returns true; each argument reads behind the call as it read before'; 0 by the template 'total and deterministic' (their statements: YtmnojegajblagabTotals.lean).
  GIVEN WITH THE SEED: the statements are not yours to turn. If you find one false, say at which input.
  Laid BY PROGRAM, IN A SANDBOX (cutbox-rows.mjs): the forced cells as the released guide's own fill.sh prints them over the translation 5383b0fab5cf0909… (all of the seat's roots in one cut). By AI agents, Wed Nov 11 2026. No macro, syntax, notation, axiom, sorry.
-/
import Derived.Test.YtmnojegajblagabChecked
import GoSem.Claim
import GoSem.ClaimJoined
import GoSem.ClaimMapViews
import Derived.JoinedTies
import Derived.KernelRfl
namespace Go.Proofs.Ytmnojegajblagab
/- THE CELL 'sum', in the pinned program and in every row, IS THE sha256 OF THE DUMP (.gsa) THAT YtmnojegajblagabProg.lean LOADS. Nothing in Lean hashes anything: it is a label: what it is worth is what the hold of that sum in a sandbox is worth. -/
noncomputable def Try.pinned : Pinned := { name := "ytmnojegajblagab", sum := "5383b0fab5cf0909a10fb855fe9ba42ea018347f61379469c40a7784aa670f9a", checked := Try.checked }
namespace Rows
def none {H : Type} : Left H := { results := [], args := [] }

/-- 'laws.FnExactCommitSector': WHATEVER THE INPUT: true; the input reads as it did. -/
def fnExactCommitSectorSpec : ChangeSpec := { name := "fnExactCommitSector", fn := fun _ => fun
  | [d1, d2] => { results := [.lit (.bool true)], args := [d1, d2] }
  | _ => none }
def fnExactCommitSectorRow : OpenClaim := { program := "ytmnojegajblagab", sum := "5383b0fab5cf0909a10fb855fe9ba42ea018347f61379469c40a7784aa670f9a", func := "loop.example/g00817/laws.FnExactCommitSector", spec := "fnExactCommitSector", inPlace := ["internal/abi.NoEscape", "internal/bytealg.MakeNoZero"], apart := false }
def FnExactCommitSectorSaid : Prop := fnExactCommitSectorRow.holds Try.pinned (OpenSpec.ofChange fnExactCommitSectorSpec)

/-- ITS FALSE NEIGHBOUR: 'it returns false'. Refute it at one input. -/
def fnExactCommitSectorWrong : ChangeSpec := { name := "fnExactCommitSector", fn := fun _ => fun
  | [d1, d2] => { results := [.lit (.bool false)], args := [d1, d2] }
  | _ => none }
def FnExactCommitSectorWrongFalsely : Prop := fnExactCommitSectorRow.holds Try.pinned (OpenSpec.ofChange fnExactCommitSectorWrong)

/-- 'laws.FnExactIsInode': WHATEVER THE INPUT: true; the input reads as it did. -/
def fnExactIsInodeSpec : ChangeSpec := { name := "fnExactIsInode", fn := fun _ => fun
  | [d] => { results := [.lit (.bool true)], args := [d] }
  | _ => none }
def fnExactIsInodeRow : OpenClaim := { program := "ytmnojegajblagab", sum := "5383b0fab5cf0909a10fb855fe9ba42ea018347f61379469c40a7784aa670f9a", func := "loop.example/g00817/laws.FnExactIsInode", spec := "fnExactIsInode", apart := false }
def FnExactIsInodeSaid : Prop := fnExactIsInodeRow.holds Try.pinned (OpenSpec.ofChange fnExactIsInodeSpec)

/-- ITS FALSE NEIGHBOUR: 'it returns false'. Refute it at one input. -/
def fnExactIsInodeWrong : ChangeSpec := { name := "fnExactIsInode", fn := fun _ => fun
  | [d] => { results := [.lit (.bool false)], args := [d] }
  | _ => none }
def FnExactIsInodeWrongFalsely : Prop := fnExactIsInodeRow.holds Try.pinned (OpenSpec.ofChange fnExactIsInodeWrong)

/-- 'laws.FnExactPackAcl': WHATEVER THE INPUT: true; the input reads as it did. -/
def fnExactPackAclSpec : ChangeSpec := { name := "fnExactPackAcl", fn := fun _ => fun
  | [d] => { results := [.lit (.bool true)], args := [d] }
  | _ => none }
def fnExactPackAclRow : OpenClaim := { program := "ytmnojegajblagab", sum := "5383b0fab5cf0909a10fb855fe9ba42ea018347f61379469c40a7784aa670f9a", func := "loop.example/g00817/laws.FnExactPackAcl", spec := "fnExactPackAcl", inPlace := ["internal/abi.NoEscape", "internal/bytealg.MakeNoZero"], apart := false }
def FnExactPackAclSaid : Prop := fnExactPackAclRow.holds Try.pinned (OpenSpec.ofChange fnExactPackAclSpec)

/-- ITS FALSE NEIGHBOUR: 'it returns false'. Refute it at one input. -/
def fnExactPackAclWrong : ChangeSpec := { name := "fnExactPackAcl", fn := fun _ => fun
  | [d] => { results := [.lit (.bool false)], args := [d] }
  | _ => none }
def FnExactPackAclWrongFalsely : Prop := fnExactPackAclRow.holds Try.pinned (OpenSpec.ofChange fnExactPackAclWrong)

/-- 'laws.FnExactAllowed': WHATEVER THE INPUT: true; the input reads as it did. -/
def fnExactAllowedSpec : ChangeSpec := { name := "fnExactAllowed", fn := fun _ => fun
  | [d1, d2, d3, d4, d5, d6] => { results := [.lit (.bool true)], args := [d1, d2, d3, d4, d5, d6] }
  | _ => none }
def fnExactAllowedRow : OpenClaim := { program := "ytmnojegajblagab", sum := "5383b0fab5cf0909a10fb855fe9ba42ea018347f61379469c40a7784aa670f9a", func := "loop.example/g00817/laws.FnExactAllowed", spec := "fnExactAllowed", unfollowed := true, recurses := true, apart := false }
def FnExactAllowedSaid : Prop := fnExactAllowedRow.holds Try.pinned (OpenSpec.ofChange fnExactAllowedSpec)

/-- ITS FALSE NEIGHBOUR: 'it returns false'. Refute it at one input. -/
def fnExactAllowedWrong : ChangeSpec := { name := "fnExactAllowed", fn := fun _ => fun
  | [d1, d2, d3, d4, d5, d6] => { results := [.lit (.bool false)], args := [d1, d2, d3, d4, d5, d6] }
  | _ => none }
def FnExactAllowedWrongFalsely : Prop := fnExactAllowedRow.holds Try.pinned (OpenSpec.ofChange fnExactAllowedWrong)

/-- 'laws.FnExactJournalWrites': WHATEVER THE INPUT: true; the input reads as it did. -/
def fnExactJournalWritesSpec : ChangeSpec := { name := "fnExactJournalWrites", fn := fun _ => fun
  | [d] => { results := [.lit (.bool true)], args := [d] }
  | _ => none }
def fnExactJournalWritesRow : OpenClaim := { program := "ytmnojegajblagab", sum := "5383b0fab5cf0909a10fb855fe9ba42ea018347f61379469c40a7784aa670f9a", func := "loop.example/g00817/laws.FnExactJournalWrites", spec := "fnExactJournalWrites", inPlace := ["internal/abi.NoEscape", "internal/bytealg.MakeNoZero"], apart := false }
def FnExactJournalWritesSaid : Prop := fnExactJournalWritesRow.holds Try.pinned (OpenSpec.ofChange fnExactJournalWritesSpec)

/-- ITS FALSE NEIGHBOUR: 'it returns false'. Refute it at one input. -/
def fnExactJournalWritesWrong : ChangeSpec := { name := "fnExactJournalWrites", fn := fun _ => fun
  | [d] => { results := [.lit (.bool false)], args := [d] }
  | _ => none }
def FnExactJournalWritesWrongFalsely : Prop := fnExactJournalWritesRow.holds Try.pinned (OpenSpec.ofChange fnExactJournalWritesWrong)

/-- 'laws.FnExactSameFS': WHATEVER THE INPUT: true; the input reads as it did. -/
def fnExactSameFSSpec : ChangeSpec := { name := "fnExactSameFS", fn := fun _ => fun
  | [d1, d2] => { results := [.lit (.bool true)], args := [d1, d2] }
  | _ => none }
def fnExactSameFSRow : OpenClaim := { program := "ytmnojegajblagab", sum := "5383b0fab5cf0909a10fb855fe9ba42ea018347f61379469c40a7784aa670f9a", func := "loop.example/g00817/laws.FnExactSameFS", spec := "fnExactSameFS", unfollowed := true, recurses := true, apart := false }
def FnExactSameFSSaid : Prop := fnExactSameFSRow.holds Try.pinned (OpenSpec.ofChange fnExactSameFSSpec)

/-- ITS FALSE NEIGHBOUR: 'it returns false'. Refute it at one input. -/
def fnExactSameFSWrong : ChangeSpec := { name := "fnExactSameFS", fn := fun _ => fun
  | [d1, d2] => { results := [.lit (.bool false)], args := [d1, d2] }
  | _ => none }
def FnExactSameFSWrongFalsely : Prop := fnExactSameFSRow.holds Try.pinned (OpenSpec.ofChange fnExactSameFSWrong)

/-- 'laws.FnExactUnpackAcl': WHATEVER THE INPUT: true; the input reads as it did. -/
def fnExactUnpackAclSpec : ChangeSpec := { name := "fnExactUnpackAcl", fn := fun _ => fun
  | [d] => { results := [.lit (.bool true)], args := [d] }
  | _ => none }
def fnExactUnpackAclRow : OpenClaim := { program := "ytmnojegajblagab", sum := "5383b0fab5cf0909a10fb855fe9ba42ea018347f61379469c40a7784aa670f9a", func := "loop.example/g00817/laws.FnExactUnpackAcl", spec := "fnExactUnpackAcl", inPlace := ["internal/abi.NoEscape", "internal/bytealg.MakeNoZero"], apart := false }
def FnExactUnpackAclSaid : Prop := fnExactUnpackAclRow.holds Try.pinned (OpenSpec.ofChange fnExactUnpackAclSpec)

/-- ITS FALSE NEIGHBOUR: 'it returns false'. Refute it at one input. -/
def fnExactUnpackAclWrong : ChangeSpec := { name := "fnExactUnpackAcl", fn := fun _ => fun
  | [d] => { results := [.lit (.bool false)], args := [d] }
  | _ => none }
def FnExactUnpackAclWrongFalsely : Prop := fnExactUnpackAclRow.holds Try.pinned (OpenSpec.ofChange fnExactUnpackAclWrong)

/-- 'laws.FnInodes': WHATEVER THE INPUT: true; the input reads as it did. -/
def fnInodesSpec : ChangeSpec := { name := "fnInodes", fn := fun _ => fun
  | [d] => { results := [.lit (.bool true)], args := [d] }
  | _ => none }
def fnInodesRow : OpenClaim := { program := "ytmnojegajblagab", sum := "5383b0fab5cf0909a10fb855fe9ba42ea018347f61379469c40a7784aa670f9a", func := "loop.example/g00817/laws.FnInodes", spec := "fnInodes", inPlace := ["internal/abi.NoEscape", "internal/bytealg.MakeNoZero"], unfollowed := true, recurses := true, apart := false }
def FnInodesSaid : Prop := fnInodesRow.holds Try.pinned (OpenSpec.ofChange fnInodesSpec)

/-- ITS FALSE NEIGHBOUR: 'it returns false'. Refute it at one input. -/
def fnInodesWrong : ChangeSpec := { name := "fnInodes", fn := fun _ => fun
  | [d] => { results := [.lit (.bool false)], args := [d] }
  | _ => none }
def FnInodesWrongFalsely : Prop := fnInodesRow.holds Try.pinned (OpenSpec.ofChange fnInodesWrong)

/-- 'laws.FnExactTxnSteps': WHATEVER THE INPUT: true; the input reads as it did. -/
def fnExactTxnStepsSpec : ChangeSpec := { name := "fnExactTxnSteps", fn := fun _ => fun
  | [d1, d2] => { results := [.lit (.bool true)], args := [d1, d2] }
  | _ => none }
def fnExactTxnStepsRow : OpenClaim := { program := "ytmnojegajblagab", sum := "5383b0fab5cf0909a10fb855fe9ba42ea018347f61379469c40a7784aa670f9a", func := "loop.example/g00817/laws.FnExactTxnSteps", spec := "fnExactTxnSteps", inPlace := ["internal/abi.NoEscape", "internal/bytealg.MakeNoZero"], apart := false }
def FnExactTxnStepsSaid : Prop := fnExactTxnStepsRow.holds Try.pinned (OpenSpec.ofChange fnExactTxnStepsSpec)

/-- ITS FALSE NEIGHBOUR: 'it returns false'. Refute it at one input. -/
def fnExactTxnStepsWrong : ChangeSpec := { name := "fnExactTxnSteps", fn := fun _ => fun
  | [d1, d2] => { results := [.lit (.bool false)], args := [d1, d2] }
  | _ => none }
def FnExactTxnStepsWrongFalsely : Prop := fnExactTxnStepsRow.holds Try.pinned (OpenSpec.ofChange fnExactTxnStepsWrong)

/-- 'laws.FnExactReadJournal': WHATEVER THE INPUT: true; the input reads as it did. -/
def fnExactReadJournalSpec : ChangeSpec := { name := "fnExactReadJournal", fn := fun _ => fun
  | [d] => { results := [.lit (.bool true)], args := [d] }
  | _ => none }
def fnExactReadJournalRow : OpenClaim := { program := "ytmnojegajblagab", sum := "5383b0fab5cf0909a10fb855fe9ba42ea018347f61379469c40a7784aa670f9a", func := "loop.example/g00817/laws.FnExactReadJournal", spec := "fnExactReadJournal", inPlace := ["internal/abi.NoEscape", "internal/bytealg.MakeNoZero"], apart := false }
def FnExactReadJournalSaid : Prop := fnExactReadJournalRow.holds Try.pinned (OpenSpec.ofChange fnExactReadJournalSpec)

/-- ITS FALSE NEIGHBOUR: 'it returns false'. Refute it at one input. -/
def fnExactReadJournalWrong : ChangeSpec := { name := "fnExactReadJournal", fn := fun _ => fun
  | [d] => { results := [.lit (.bool false)], args := [d] }
  | _ => none }
def FnExactReadJournalWrongFalsely : Prop := fnExactReadJournalRow.holds Try.pinned (OpenSpec.ofChange fnExactReadJournalWrong)

/- THE SECOND FORM. 'bulk': how many values and letters a reading holds, each counted each time it is reached (what is shared counts as often as it is met; a slice's spare places count too). A statement '..UptoSaid' is the law's where the arguments, and the package variables that the reading takes, are together of bulk at most 1048576: NARROWER than '..Said'. Prove '..Said' where nothing that the law and all that it calls make is longer than what came in: it says more and counts as full. Else prove '..UptoSaid'. A law counts once. -/
mutual
def uptoBulk {H : Type} : DataW H → Nat
  | .lit (.string bytes) => bytes.length + 1
  | .lit _ => 1
  | .nil => 1
  | .ptr d => uptoBulk d + 1
  | .slice elems spare => uptoBulkAll elems + uptoBulkAll spare + 1
  | .agg parts => uptoBulkAll parts + 1
  | .iface _ d => uptoBulk d + 1
  | .map entries => uptoBulkEntries entries + 1
  | .held _ => 1
def uptoBulkAll {H : Type} : List (DataW H) → Nat
  | [] => 0
  | d :: r => uptoBulk d + uptoBulkAll r
def uptoBulkEntries {H : Type} : List (Lit × DataW H) → Nat
  | [] => 0
  | x :: r => uptoBulkEntry x + uptoBulkEntries r
def uptoBulkEntry {H : Type} : Lit × DataW H → Nat
  | (.string bytes, d) => bytes.length + uptoBulk d + 1
  | (_, d) => uptoBulk d + 1
 end
def uptoSmall : (H : Type) → List (DataW H) → Bool := fun _ ds => decide (uptoBulkAll ds ≤ 1048576)
def OpenSpec.upto (s : _root_.Go.ChangeSpec) : _root_.Go.OpenSpec := { _root_.Go.OpenSpec.ofChange s with cond := some uptoSmall }

/-- 'laws.FnExactCommitSector', WHERE WHAT IT READS IS OF BULK AT MOST 1048576: true; the input reads as it did. -/
def fnExactCommitSectorUptoRow : OpenClaim := { program := "ytmnojegajblagab", sum := "5383b0fab5cf0909a10fb855fe9ba42ea018347f61379469c40a7784aa670f9a", func := "loop.example/g00817/laws.FnExactCommitSector", spec := "fnExactCommitSector", inPlace := ["internal/abi.NoEscape", "internal/bytealg.MakeNoZero"], apart := false, narrowed := true }
def FnExactCommitSectorUptoSaid : Prop := fnExactCommitSectorUptoRow.holds Try.pinned (OpenSpec.upto fnExactCommitSectorSpec)

/-- 'laws.FnExactIsInode', WHERE WHAT IT READS IS OF BULK AT MOST 1048576: true; the input reads as it did. -/
def fnExactIsInodeUptoRow : OpenClaim := { program := "ytmnojegajblagab", sum := "5383b0fab5cf0909a10fb855fe9ba42ea018347f61379469c40a7784aa670f9a", func := "loop.example/g00817/laws.FnExactIsInode", spec := "fnExactIsInode", apart := false, narrowed := true }
def FnExactIsInodeUptoSaid : Prop := fnExactIsInodeUptoRow.holds Try.pinned (OpenSpec.upto fnExactIsInodeSpec)

/-- 'laws.FnExactPackAcl', WHERE WHAT IT READS IS OF BULK AT MOST 1048576: true; the input reads as it did. -/
def fnExactPackAclUptoRow : OpenClaim := { program := "ytmnojegajblagab", sum := "5383b0fab5cf0909a10fb855fe9ba42ea018347f61379469c40a7784aa670f9a", func := "loop.example/g00817/laws.FnExactPackAcl", spec := "fnExactPackAcl", inPlace := ["internal/abi.NoEscape", "internal/bytealg.MakeNoZero"], apart := false, narrowed := true }
def FnExactPackAclUptoSaid : Prop := fnExactPackAclUptoRow.holds Try.pinned (OpenSpec.upto fnExactPackAclSpec)

/-- 'laws.FnExactAllowed', WHERE WHAT IT READS IS OF BULK AT MOST 1048576: true; the input reads as it did. -/
def fnExactAllowedUptoRow : OpenClaim := { program := "ytmnojegajblagab", sum := "5383b0fab5cf0909a10fb855fe9ba42ea018347f61379469c40a7784aa670f9a", func := "loop.example/g00817/laws.FnExactAllowed", spec := "fnExactAllowed", unfollowed := true, recurses := true, apart := false, narrowed := true }
def FnExactAllowedUptoSaid : Prop := fnExactAllowedUptoRow.holds Try.pinned (OpenSpec.upto fnExactAllowedSpec)

/-- 'laws.FnExactJournalWrites', WHERE WHAT IT READS IS OF BULK AT MOST 1048576: true; the input reads as it did. -/
def fnExactJournalWritesUptoRow : OpenClaim := { program := "ytmnojegajblagab", sum := "5383b0fab5cf0909a10fb855fe9ba42ea018347f61379469c40a7784aa670f9a", func := "loop.example/g00817/laws.FnExactJournalWrites", spec := "fnExactJournalWrites", inPlace := ["internal/abi.NoEscape", "internal/bytealg.MakeNoZero"], apart := false, narrowed := true }
def FnExactJournalWritesUptoSaid : Prop := fnExactJournalWritesUptoRow.holds Try.pinned (OpenSpec.upto fnExactJournalWritesSpec)

/-- 'laws.FnExactSameFS', WHERE WHAT IT READS IS OF BULK AT MOST 1048576: true; the input reads as it did. -/
def fnExactSameFSUptoRow : OpenClaim := { program := "ytmnojegajblagab", sum := "5383b0fab5cf0909a10fb855fe9ba42ea018347f61379469c40a7784aa670f9a", func := "loop.example/g00817/laws.FnExactSameFS", spec := "fnExactSameFS", unfollowed := true, recurses := true, apart := false, narrowed := true }
def FnExactSameFSUptoSaid : Prop := fnExactSameFSUptoRow.holds Try.pinned (OpenSpec.upto fnExactSameFSSpec)

/-- 'laws.FnExactUnpackAcl', WHERE WHAT IT READS IS OF BULK AT MOST 1048576: true; the input reads as it did. -/
def fnExactUnpackAclUptoRow : OpenClaim := { program := "ytmnojegajblagab", sum := "5383b0fab5cf0909a10fb855fe9ba42ea018347f61379469c40a7784aa670f9a", func := "loop.example/g00817/laws.FnExactUnpackAcl", spec := "fnExactUnpackAcl", inPlace := ["internal/abi.NoEscape", "internal/bytealg.MakeNoZero"], apart := false, narrowed := true }
def FnExactUnpackAclUptoSaid : Prop := fnExactUnpackAclUptoRow.holds Try.pinned (OpenSpec.upto fnExactUnpackAclSpec)

/-- 'laws.FnInodes', WHERE WHAT IT READS IS OF BULK AT MOST 1048576: true; the input reads as it did. -/
def fnInodesUptoRow : OpenClaim := { program := "ytmnojegajblagab", sum := "5383b0fab5cf0909a10fb855fe9ba42ea018347f61379469c40a7784aa670f9a", func := "loop.example/g00817/laws.FnInodes", spec := "fnInodes", inPlace := ["internal/abi.NoEscape", "internal/bytealg.MakeNoZero"], unfollowed := true, recurses := true, apart := false, narrowed := true }
def FnInodesUptoSaid : Prop := fnInodesUptoRow.holds Try.pinned (OpenSpec.upto fnInodesSpec)

/-- 'laws.FnExactTxnSteps', WHERE WHAT IT READS IS OF BULK AT MOST 1048576: true; the input reads as it did. -/
def fnExactTxnStepsUptoRow : OpenClaim := { program := "ytmnojegajblagab", sum := "5383b0fab5cf0909a10fb855fe9ba42ea018347f61379469c40a7784aa670f9a", func := "loop.example/g00817/laws.FnExactTxnSteps", spec := "fnExactTxnSteps", inPlace := ["internal/abi.NoEscape", "internal/bytealg.MakeNoZero"], apart := false, narrowed := true }
def FnExactTxnStepsUptoSaid : Prop := fnExactTxnStepsUptoRow.holds Try.pinned (OpenSpec.upto fnExactTxnStepsSpec)

/-- 'laws.FnExactReadJournal', WHERE WHAT IT READS IS OF BULK AT MOST 1048576: true; the input reads as it did. -/
def fnExactReadJournalUptoRow : OpenClaim := { program := "ytmnojegajblagab", sum := "5383b0fab5cf0909a10fb855fe9ba42ea018347f61379469c40a7784aa670f9a", func := "loop.example/g00817/laws.FnExactReadJournal", spec := "fnExactReadJournal", inPlace := ["internal/abi.NoEscape", "internal/bytealg.MakeNoZero"], apart := false, narrowed := true }
def FnExactReadJournalUptoSaid : Prop := fnExactReadJournalUptoRow.holds Try.pinned (OpenSpec.upto fnExactReadJournalSpec)

end Rows
end Go.Proofs.Ytmnojegajblagab
