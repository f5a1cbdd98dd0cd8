/-
  No cell of these rows narrows 'for every input' (looked for: loops, veiled, ifaces, maps, wideKeys, modest, calm, conditions, laid).
  DERIVED. THE GIVEN ROWS OF THIS SEAT. 9 by the template 'for every input the law returns true; each argument reads behind the call as it read before'; 0 by the template 'total and deterministic' (their statements: YtmnojegajblagaaTotals.lean).
  GIVEN WITH THE SEED: the statements are not yours to turn. If you find one false, say at which input.
  Laid BY PROGRAM, IN A SANDBOX (cutbox-rows.mjs): the forced cells as the released guide's own fill.sh prints them over the translation cad83fb1e76e0988… (all of the seat's roots in one cut). By AI agents, Wed Nov 11 2026. No macro, syntax, notation, axiom, sorry.
-/
import Derived.Test.YtmnojegajblagaaChecked
import GoSem.Claim
import GoSem.ClaimJoined
import GoSem.ClaimMapViews
import Derived.JoinedTies
import Derived.KernelRfl
namespace Go.Proofs.Ytmnojegajblagaa
/- THE CELL 'sum', in the pinned program and in every row, IS THE sha256 OF THE DUMP (.gsa) THAT YtmnojegajblagaaProg.lean LOADS. Nothing in Lean hashes anything: it is a label: what it is worth is what the hold of that sum in a sandbox is worth. -/
noncomputable def Try.pinned : Pinned := { name := "ytmnojegajblagaa", sum := "cad83fb1e76e0988588d1c0ecbcb577773fe0ced70a2f5dd9a843a23a449f6fd", checked := Try.checked }
namespace Rows
def none {H : Type} : Left H := { results := [], args := [] }

/-- 'laws.FnExactUnpackInode': WHATEVER THE INPUT: true; the input reads as it did. -/
def fnExactUnpackInodeSpec : ChangeSpec := { name := "fnExactUnpackInode", fn := fun _ => fun
  | [d] => { results := [.lit (.bool true)], args := [d] }
  | _ => none }
def fnExactUnpackInodeRow : OpenClaim := { program := "ytmnojegajblagaa", sum := "cad83fb1e76e0988588d1c0ecbcb577773fe0ced70a2f5dd9a843a23a449f6fd", func := "loop.example/g00817/laws.FnExactUnpackInode", spec := "fnExactUnpackInode", inPlace := ["internal/abi.NoEscape", "internal/bytealg.MakeNoZero"], unfollowed := true, recurses := true, apart := false }
def FnExactUnpackInodeSaid : Prop := fnExactUnpackInodeRow.holds Try.pinned (OpenSpec.ofChange fnExactUnpackInodeSpec)

/-- ITS FALSE NEIGHBOUR: 'it returns false'. Refute it at one input. -/
def fnExactUnpackInodeWrong : ChangeSpec := { name := "fnExactUnpackInode", fn := fun _ => fun
  | [d] => { results := [.lit (.bool false)], args := [d] }
  | _ => none }
def FnExactUnpackInodeWrongFalsely : Prop := fnExactUnpackInodeRow.holds Try.pinned (OpenSpec.ofChange fnExactUnpackInodeWrong)

/-- 'laws.FnExactNextBlock': WHATEVER THE INPUT: true; the input reads as it did. -/
def fnExactNextBlockSpec : ChangeSpec := { name := "fnExactNextBlock", fn := fun _ => fun
  | [d1, d2] => { results := [.lit (.bool true)], args := [d1, d2] }
  | _ => none }
def fnExactNextBlockRow : OpenClaim := { program := "ytmnojegajblagaa", sum := "cad83fb1e76e0988588d1c0ecbcb577773fe0ced70a2f5dd9a843a23a449f6fd", func := "loop.example/g00817/laws.FnExactNextBlock", spec := "fnExactNextBlock", apart := false }
def FnExactNextBlockSaid : Prop := fnExactNextBlockRow.holds Try.pinned (OpenSpec.ofChange fnExactNextBlockSpec)

/-- ITS FALSE NEIGHBOUR: 'it returns false'. Refute it at one input. -/
def fnExactNextBlockWrong : ChangeSpec := { name := "fnExactNextBlock", fn := fun _ => fun
  | [d1, d2] => { results := [.lit (.bool false)], args := [d1, d2] }
  | _ => none }
def FnExactNextBlockWrongFalsely : Prop := fnExactNextBlockRow.holds Try.pinned (OpenSpec.ofChange fnExactNextBlockWrong)

/-- 'laws.FnExactReadSector': WHATEVER THE INPUT: true; the input reads as it did. -/
def fnExactReadSectorSpec : ChangeSpec := { name := "fnExactReadSector", fn := fun _ => fun
  | [d1, d2] => { results := [.lit (.bool true)], args := [d1, d2] }
  | _ => none }
def fnExactReadSectorRow : OpenClaim := { program := "ytmnojegajblagaa", sum := "cad83fb1e76e0988588d1c0ecbcb577773fe0ced70a2f5dd9a843a23a449f6fd", func := "loop.example/g00817/laws.FnExactReadSector", spec := "fnExactReadSector", apart := false }
def FnExactReadSectorSaid : Prop := fnExactReadSectorRow.holds Try.pinned (OpenSpec.ofChange fnExactReadSectorSpec)

/-- ITS FALSE NEIGHBOUR: 'it returns false'. Refute it at one input. -/
def fnExactReadSectorWrong : ChangeSpec := { name := "fnExactReadSector", fn := fun _ => fun
  | [d1, d2] => { results := [.lit (.bool false)], args := [d1, d2] }
  | _ => none }
def FnExactReadSectorWrongFalsely : Prop := fnExactReadSectorRow.holds Try.pinned (OpenSpec.ofChange fnExactReadSectorWrong)

/-- 'laws.FnExactSameInode': WHATEVER THE INPUT: true; the input reads as it did. -/
def fnExactSameInodeSpec : ChangeSpec := { name := "fnExactSameInode", fn := fun _ => fun
  | [d1, d2] => { results := [.lit (.bool true)], args := [d1, d2] }
  | _ => none }
def fnExactSameInodeRow : OpenClaim := { program := "ytmnojegajblagaa", sum := "cad83fb1e76e0988588d1c0ecbcb577773fe0ced70a2f5dd9a843a23a449f6fd", func := "loop.example/g00817/laws.FnExactSameInode", spec := "fnExactSameInode", apart := false }
def FnExactSameInodeSaid : Prop := fnExactSameInodeRow.holds Try.pinned (OpenSpec.ofChange fnExactSameInodeSpec)

/-- ITS FALSE NEIGHBOUR: 'it returns false'. Refute it at one input. -/
def fnExactSameInodeWrong : ChangeSpec := { name := "fnExactSameInode", fn := fun _ => fun
  | [d1, d2] => { results := [.lit (.bool false)], args := [d1, d2] }
  | _ => none }
def FnExactSameInodeWrongFalsely : Prop := fnExactSameInodeRow.holds Try.pinned (OpenSpec.ofChange fnExactSameInodeWrong)

/-- 'laws.FnExactNewDisk': WHATEVER THE INPUT: true; the input reads as it did. -/
def fnExactNewDiskSpec : ChangeSpec := { name := "fnExactNewDisk", fn := fun _ => fun
  | [d] => { results := [.lit (.bool true)], args := [d] }
  | _ => none }
def fnExactNewDiskRow : OpenClaim := { program := "ytmnojegajblagaa", sum := "cad83fb1e76e0988588d1c0ecbcb577773fe0ced70a2f5dd9a843a23a449f6fd", func := "loop.example/g00817/laws.FnExactNewDisk", spec := "fnExactNewDisk", apart := false }
def FnExactNewDiskSaid : Prop := fnExactNewDiskRow.holds Try.pinned (OpenSpec.ofChange fnExactNewDiskSpec)

/-- ITS FALSE NEIGHBOUR: 'it returns false'. Refute it at one input. -/
def fnExactNewDiskWrong : ChangeSpec := { name := "fnExactNewDisk", fn := fun _ => fun
  | [d] => { results := [.lit (.bool false)], args := [d] }
  | _ => none }
def FnExactNewDiskWrongFalsely : Prop := fnExactNewDiskRow.holds Try.pinned (OpenSpec.ofChange fnExactNewDiskWrong)

/-- 'laws.FnExactUsedBlocks': WHATEVER THE INPUT: true; the input reads as it did. -/
def fnExactUsedBlocksSpec : ChangeSpec := { name := "fnExactUsedBlocks", fn := fun _ => fun
  | [d] => { results := [.lit (.bool true)], args := [d] }
  | _ => none }
def fnExactUsedBlocksRow : OpenClaim := { program := "ytmnojegajblagaa", sum := "cad83fb1e76e0988588d1c0ecbcb577773fe0ced70a2f5dd9a843a23a449f6fd", func := "loop.example/g00817/laws.FnExactUsedBlocks", spec := "fnExactUsedBlocks", apart := false }
def FnExactUsedBlocksSaid : Prop := fnExactUsedBlocksRow.holds Try.pinned (OpenSpec.ofChange fnExactUsedBlocksSpec)

/-- ITS FALSE NEIGHBOUR: 'it returns false'. Refute it at one input. -/
def fnExactUsedBlocksWrong : ChangeSpec := { name := "fnExactUsedBlocks", fn := fun _ => fun
  | [d] => { results := [.lit (.bool false)], args := [d] }
  | _ => none }
def FnExactUsedBlocksWrongFalsely : Prop := fnExactUsedBlocksRow.holds Try.pinned (OpenSpec.ofChange fnExactUsedBlocksWrong)

/-- 'laws.FnAccess': WHATEVER THE INPUT: true; the input reads as it did. -/
def fnAccessSpec : ChangeSpec := { name := "fnAccess", fn := fun _ => fun
  | [d] => { results := [.lit (.bool true)], args := [d] }
  | _ => none }
def fnAccessRow : OpenClaim := { program := "ytmnojegajblagaa", sum := "cad83fb1e76e0988588d1c0ecbcb577773fe0ced70a2f5dd9a843a23a449f6fd", func := "loop.example/g00817/laws.FnAccess", spec := "fnAccess", unfollowed := true, recurses := true, apart := false }
def FnAccessSaid : Prop := fnAccessRow.holds Try.pinned (OpenSpec.ofChange fnAccessSpec)

/-- ITS FALSE NEIGHBOUR: 'it returns false'. Refute it at one input. -/
def fnAccessWrong : ChangeSpec := { name := "fnAccess", fn := fun _ => fun
  | [d] => { results := [.lit (.bool false)], args := [d] }
  | _ => none }
def FnAccessWrongFalsely : Prop := fnAccessRow.holds Try.pinned (OpenSpec.ofChange fnAccessWrong)

/-- 'laws.FnExactFlushDisk': WHATEVER THE INPUT: true; the input reads as it did. -/
def fnExactFlushDiskSpec : ChangeSpec := { name := "fnExactFlushDisk", fn := fun _ => fun
  | [d] => { results := [.lit (.bool true)], args := [d] }
  | _ => none }
def fnExactFlushDiskRow : OpenClaim := { program := "ytmnojegajblagaa", sum := "cad83fb1e76e0988588d1c0ecbcb577773fe0ced70a2f5dd9a843a23a449f6fd", func := "loop.example/g00817/laws.FnExactFlushDisk", spec := "fnExactFlushDisk", unfollowed := true, recurses := true, apart := false }
def FnExactFlushDiskSaid : Prop := fnExactFlushDiskRow.holds Try.pinned (OpenSpec.ofChange fnExactFlushDiskSpec)

/-- ITS FALSE NEIGHBOUR: 'it returns false'. Refute it at one input. -/
def fnExactFlushDiskWrong : ChangeSpec := { name := "fnExactFlushDisk", fn := fun _ => fun
  | [d] => { results := [.lit (.bool false)], args := [d] }
  | _ => none }
def FnExactFlushDiskWrongFalsely : Prop := fnExactFlushDiskRow.holds Try.pinned (OpenSpec.ofChange fnExactFlushDiskWrong)

/-- 'laws.FnExactCrashDisk': WHATEVER THE INPUT: true; the input reads as it did. -/
def fnExactCrashDiskSpec : ChangeSpec := { name := "fnExactCrashDisk", fn := fun _ => fun
  | [d1, d2] => { results := [.lit (.bool true)], args := [d1, d2] }
  | _ => none }
def fnExactCrashDiskRow : OpenClaim := { program := "ytmnojegajblagaa", sum := "cad83fb1e76e0988588d1c0ecbcb577773fe0ced70a2f5dd9a843a23a449f6fd", func := "loop.example/g00817/laws.FnExactCrashDisk", spec := "fnExactCrashDisk", unfollowed := true, recurses := true, apart := false }
def FnExactCrashDiskSaid : Prop := fnExactCrashDiskRow.holds Try.pinned (OpenSpec.ofChange fnExactCrashDiskSpec)

/-- ITS FALSE NEIGHBOUR: 'it returns false'. Refute it at one input. -/
def fnExactCrashDiskWrong : ChangeSpec := { name := "fnExactCrashDisk", fn := fun _ => fun
  | [d1, d2] => { results := [.lit (.bool false)], args := [d1, d2] }
  | _ => none }
def FnExactCrashDiskWrongFalsely : Prop := fnExactCrashDiskRow.holds Try.pinned (OpenSpec.ofChange fnExactCrashDiskWrong)

/- THE SECOND FORM. 'bulk': how many values and letters a reading holds, each counted each time it is reached (what is shared counts as often as it is met; a slice's spare places count too). A statement '..UptoSaid' is the law's where the arguments, and the package variables that the reading takes, are together of bulk at most 1048576: NARROWER than '..Said'. Prove '..Said' where nothing that the law and all that it calls make is longer than what came in: it says more and counts as full. Else prove '..UptoSaid'. A law counts once. -/
mutual
def uptoBulk {H : Type} : DataW H → Nat
  | .lit (.string bytes) => bytes.length + 1
  | .lit _ => 1
  | .nil => 1
  | .ptr d => uptoBulk d + 1
  | .slice elems spare => uptoBulkAll elems + uptoBulkAll spare + 1
  | .agg parts => uptoBulkAll parts + 1
  | .iface _ d => uptoBulk d + 1
  | .map entries => uptoBulkEntries entries + 1
  | .held _ => 1
def uptoBulkAll {H : Type} : List (DataW H) → Nat
  | [] => 0
  | d :: r => uptoBulk d + uptoBulkAll r
def uptoBulkEntries {H : Type} : List (Lit × DataW H) → Nat
  | [] => 0
  | x :: r => uptoBulkEntry x + uptoBulkEntries r
def uptoBulkEntry {H : Type} : Lit × DataW H → Nat
  | (.string bytes, d) => bytes.length + uptoBulk d + 1
  | (_, d) => uptoBulk d + 1
 end
def uptoSmall : (H : Type) → List (DataW H) → Bool := fun _ ds => decide (uptoBulkAll ds ≤ 1048576)
def OpenSpec.upto (s : _root_.Go.ChangeSpec) : _root_.Go.OpenSpec := { _root_.Go.OpenSpec.ofChange s with cond := some uptoSmall }

/-- 'laws.FnExactUnpackInode', WHERE WHAT IT READS IS OF BULK AT MOST 1048576: true; the input reads as it did. -/
def fnExactUnpackInodeUptoRow : OpenClaim := { program := "ytmnojegajblagaa", sum := "cad83fb1e76e0988588d1c0ecbcb577773fe0ced70a2f5dd9a843a23a449f6fd", func := "loop.example/g00817/laws.FnExactUnpackInode", spec := "fnExactUnpackInode", inPlace := ["internal/abi.NoEscape", "internal/bytealg.MakeNoZero"], unfollowed := true, recurses := true, apart := false, narrowed := true }
def FnExactUnpackInodeUptoSaid : Prop := fnExactUnpackInodeUptoRow.holds Try.pinned (OpenSpec.upto fnExactUnpackInodeSpec)

/-- 'laws.FnExactNextBlock', WHERE WHAT IT READS IS OF BULK AT MOST 1048576: true; the input reads as it did. -/
def fnExactNextBlockUptoRow : OpenClaim := { program := "ytmnojegajblagaa", sum := "cad83fb1e76e0988588d1c0ecbcb577773fe0ced70a2f5dd9a843a23a449f6fd", func := "loop.example/g00817/laws.FnExactNextBlock", spec := "fnExactNextBlock", apart := false, narrowed := true }
def FnExactNextBlockUptoSaid : Prop := fnExactNextBlockUptoRow.holds Try.pinned (OpenSpec.upto fnExactNextBlockSpec)

/-- 'laws.FnExactReadSector', WHERE WHAT IT READS IS OF BULK AT MOST 1048576: true; the input reads as it did. -/
def fnExactReadSectorUptoRow : OpenClaim := { program := "ytmnojegajblagaa", sum := "cad83fb1e76e0988588d1c0ecbcb577773fe0ced70a2f5dd9a843a23a449f6fd", func := "loop.example/g00817/laws.FnExactReadSector", spec := "fnExactReadSector", apart := false, narrowed := true }
def FnExactReadSectorUptoSaid : Prop := fnExactReadSectorUptoRow.holds Try.pinned (OpenSpec.upto fnExactReadSectorSpec)

/-- 'laws.FnExactSameInode', WHERE WHAT IT READS IS OF BULK AT MOST 1048576: true; the input reads as it did. -/
def fnExactSameInodeUptoRow : OpenClaim := { program := "ytmnojegajblagaa", sum := "cad83fb1e76e0988588d1c0ecbcb577773fe0ced70a2f5dd9a843a23a449f6fd", func := "loop.example/g00817/laws.FnExactSameInode", spec := "fnExactSameInode", apart := false, narrowed := true }
def FnExactSameInodeUptoSaid : Prop := fnExactSameInodeUptoRow.holds Try.pinned (OpenSpec.upto fnExactSameInodeSpec)

/-- 'laws.FnExactNewDisk', WHERE WHAT IT READS IS OF BULK AT MOST 1048576: true; the input reads as it did. -/
def fnExactNewDiskUptoRow : OpenClaim := { program := "ytmnojegajblagaa", sum := "cad83fb1e76e0988588d1c0ecbcb577773fe0ced70a2f5dd9a843a23a449f6fd", func := "loop.example/g00817/laws.FnExactNewDisk", spec := "fnExactNewDisk", apart := false, narrowed := true }
def FnExactNewDiskUptoSaid : Prop := fnExactNewDiskUptoRow.holds Try.pinned (OpenSpec.upto fnExactNewDiskSpec)

/-- 'laws.FnExactUsedBlocks', WHERE WHAT IT READS IS OF BULK AT MOST 1048576: true; the input reads as it did. -/
def fnExactUsedBlocksUptoRow : OpenClaim := { program := "ytmnojegajblagaa", sum := "cad83fb1e76e0988588d1c0ecbcb577773fe0ced70a2f5dd9a843a23a449f6fd", func := "loop.example/g00817/laws.FnExactUsedBlocks", spec := "fnExactUsedBlocks", apart := false, narrowed := true }
def FnExactUsedBlocksUptoSaid : Prop := fnExactUsedBlocksUptoRow.holds Try.pinned (OpenSpec.upto fnExactUsedBlocksSpec)

/-- 'laws.FnAccess', WHERE WHAT IT READS IS OF BULK AT MOST 1048576: true; the input reads as it did. -/
def fnAccessUptoRow : OpenClaim := { program := "ytmnojegajblagaa", sum := "cad83fb1e76e0988588d1c0ecbcb577773fe0ced70a2f5dd9a843a23a449f6fd", func := "loop.example/g00817/laws.FnAccess", spec := "fnAccess", unfollowed := true, recurses := true, apart := false, narrowed := true }
def FnAccessUptoSaid : Prop := fnAccessUptoRow.holds Try.pinned (OpenSpec.upto fnAccessSpec)

/-- 'laws.FnExactFlushDisk', WHERE WHAT IT READS IS OF BULK AT MOST 1048576: true; the input reads as it did. -/
def fnExactFlushDiskUptoRow : OpenClaim := { program := "ytmnojegajblagaa", sum := "cad83fb1e76e0988588d1c0ecbcb577773fe0ced70a2f5dd9a843a23a449f6fd", func := "loop.example/g00817/laws.FnExactFlushDisk", spec := "fnExactFlushDisk", unfollowed := true, recurses := true, apart := false, narrowed := true }
def FnExactFlushDiskUptoSaid : Prop := fnExactFlushDiskUptoRow.holds Try.pinned (OpenSpec.upto fnExactFlushDiskSpec)

/-- 'laws.FnExactCrashDisk', WHERE WHAT IT READS IS OF BULK AT MOST 1048576: true; the input reads as it did. -/
def fnExactCrashDiskUptoRow : OpenClaim := { program := "ytmnojegajblagaa", sum := "cad83fb1e76e0988588d1c0ecbcb577773fe0ced70a2f5dd9a843a23a449f6fd", func := "loop.example/g00817/laws.FnExactCrashDisk", spec := "fnExactCrashDisk", unfollowed := true, recurses := true, apart := false, narrowed := true }
def FnExactCrashDiskUptoSaid : Prop := fnExactCrashDiskUptoRow.holds Try.pinned (OpenSpec.upto fnExactCrashDiskSpec)

end Rows
end Go.Proofs.Ytmnojegajblagaa
