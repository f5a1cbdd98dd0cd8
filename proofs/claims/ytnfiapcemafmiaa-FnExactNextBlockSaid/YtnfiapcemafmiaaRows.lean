/-
  No cell of these rows narrows 'for every input' (looked for: loops, veiled, ifaces, maps, wideKeys, modest, calm, conditions, laid).
  DERIVED. THE GIVEN ROWS OF THIS SEAT. 9 by the template 'for every input the law returns true; each argument reads behind the call as it read before'; 0 by the template 'total and deterministic' (their statements: YtnfiapcemafmiaaTotals.lean).
  GIVEN WITH THE SEED: the statements are not yours to turn. If you find one false, say at which input.
  Laid BY PROGRAM, IN A SANDBOX (cutbox-rows.mjs): the forced cells as the released guide's own fill.sh prints them over the translation a71e1bf6f3dd32ae… (all of the seat's roots in one cut). By AI agents, Wed Nov 11 2026. No macro, syntax, notation, axiom, sorry.
-/
import Derived.Test.YtnfiapcemafmiaaChecked
import GoSem.Claim
import GoSem.ClaimJoined
import GoSem.ClaimMapViews
import Derived.JoinedTies
import Derived.KernelRfl
namespace Go.Proofs.Ytnfiapcemafmiaa
/- THE CELL 'sum', in the pinned program and in every row, IS THE sha256 OF THE DUMP (.gsa) THAT YtnfiapcemafmiaaProg.lean LOADS. Nothing in Lean hashes anything: it is a label: what it is worth is what the hold of that sum in a sandbox is worth. -/
noncomputable def Try.pinned : Pinned := { name := "ytnfiapcemafmiaa", sum := "a71e1bf6f3dd32ae6af1ee39be62c773ffdc5f647f380e0473cc7ec3aab48042", checked := Try.checked }
namespace Rows
def none {H : Type} : Left H := { results := [], args := [] }

/-- 'laws.FnExactUnpackInode': WHATEVER THE INPUT: true; the input reads as it did. -/
def fnExactUnpackInodeSpec : ChangeSpec := { name := "fnExactUnpackInode", fn := fun _ => fun
  | [d] => { results := [.lit (.bool true)], args := [d] }
  | _ => none }
def fnExactUnpackInodeRow : OpenClaim := { program := "ytnfiapcemafmiaa", sum := "a71e1bf6f3dd32ae6af1ee39be62c773ffdc5f647f380e0473cc7ec3aab48042", func := "loop.example/g00817/laws.FnExactUnpackInode", spec := "fnExactUnpackInode", inPlace := ["internal/abi.NoEscape", "internal/bytealg.MakeNoZero"], unfollowed := true, recurses := true, apart := false }
def FnExactUnpackInodeSaid : Prop := fnExactUnpackInodeRow.holds Try.pinned (OpenSpec.ofChange fnExactUnpackInodeSpec)

/-- ITS FALSE NEIGHBOUR: 'it returns false'. Refute it at one input. -/
def fnExactUnpackInodeWrong : ChangeSpec := { name := "fnExactUnpackInode", fn := fun _ => fun
  | [d] => { results := [.lit (.bool false)], args := [d] }
  | _ => none }
def FnExactUnpackInodeWrongFalsely : Prop := fnExactUnpackInodeRow.holds Try.pinned (OpenSpec.ofChange fnExactUnpackInodeWrong)

/-- 'laws.FnExactNextBlock': WHATEVER THE INPUT: true; the input reads as it did. -/
def fnExactNextBlockSpec : ChangeSpec := { name := "fnExactNextBlock", fn := fun _ => fun
  | [d1, d2] => { results := [.lit (.bool true)], args := [d1, d2] }
  | _ => none }
def fnExactNextBlockRow : OpenClaim := { program := "ytnfiapcemafmiaa", sum := "a71e1bf6f3dd32ae6af1ee39be62c773ffdc5f647f380e0473cc7ec3aab48042", func := "loop.example/g00817/laws.FnExactNextBlock", spec := "fnExactNextBlock", apart := false }
def FnExactNextBlockSaid : Prop := fnExactNextBlockRow.holds Try.pinned (OpenSpec.ofChange fnExactNextBlockSpec)

/-- ITS FALSE NEIGHBOUR: 'it returns false'. Refute it at one input. -/
def fnExactNextBlockWrong : ChangeSpec := { name := "fnExactNextBlock", fn := fun _ => fun
  | [d1, d2] => { results := [.lit (.bool false)], args := [d1, d2] }
  | _ => none }
def FnExactNextBlockWrongFalsely : Prop := fnExactNextBlockRow.holds Try.pinned (OpenSpec.ofChange fnExactNextBlockWrong)

/-- 'laws.FnExactFlushDisk': WHATEVER THE INPUT: true; the input reads as it did. -/
def fnExactFlushDiskSpec : ChangeSpec := { name := "fnExactFlushDisk", fn := fun _ => fun
  | [d] => { results := [.lit (.bool true)], args := [d] }
  | _ => none }
def fnExactFlushDiskRow : OpenClaim := { program := "ytnfiapcemafmiaa", sum := "a71e1bf6f3dd32ae6af1ee39be62c773ffdc5f647f380e0473cc7ec3aab48042", func := "loop.example/g00817/laws.FnExactFlushDisk", spec := "fnExactFlushDisk", unfollowed := true, recurses := true, apart := false }
def FnExactFlushDiskSaid : Prop := fnExactFlushDiskRow.holds Try.pinned (OpenSpec.ofChange fnExactFlushDiskSpec)

/-- ITS FALSE NEIGHBOUR: 'it returns false'. Refute it at one input. -/
def fnExactFlushDiskWrong : ChangeSpec := { name := "fnExactFlushDisk", fn := fun _ => fun
  | [d] => { results := [.lit (.bool false)], args := [d] }
  | _ => none }
def FnExactFlushDiskWrongFalsely : Prop := fnExactFlushDiskRow.holds Try.pinned (OpenSpec.ofChange fnExactFlushDiskWrong)

/-- 'laws.FnExactCrashDisk': WHATEVER THE INPUT: true; the input reads as it did. -/
def fnExactCrashDiskSpec : ChangeSpec := { name := "fnExactCrashDisk", fn := fun _ => fun
  | [d1, d2] => { results := [.lit (.bool true)], args := [d1, d2] }
  | _ => none }
def fnExactCrashDiskRow : OpenClaim := { program := "ytnfiapcemafmiaa", sum := "a71e1bf6f3dd32ae6af1ee39be62c773ffdc5f647f380e0473cc7ec3aab48042", func := "loop.example/g00817/laws.FnExactCrashDisk", spec := "fnExactCrashDisk", unfollowed := true, recurses := true, apart := false }
def FnExactCrashDiskSaid : Prop := fnExactCrashDiskRow.holds Try.pinned (OpenSpec.ofChange fnExactCrashDiskSpec)

/-- ITS FALSE NEIGHBOUR: 'it returns false'. Refute it at one input. -/
def fnExactCrashDiskWrong : ChangeSpec := { name := "fnExactCrashDisk", fn := fun _ => fun
  | [d1, d2] => { results := [.lit (.bool false)], args := [d1, d2] }
  | _ => none }
def FnExactCrashDiskWrongFalsely : Prop := fnExactCrashDiskRow.holds Try.pinned (OpenSpec.ofChange fnExactCrashDiskWrong)

/-- 'laws.FnInodes': WHATEVER THE INPUT: true; the input reads as it did. -/
def fnInodesSpec : ChangeSpec := { name := "fnInodes", fn := fun _ => fun
  | [d] => { results := [.lit (.bool true)], args := [d] }
  | _ => none }
def fnInodesRow : OpenClaim := { program := "ytnfiapcemafmiaa", sum := "a71e1bf6f3dd32ae6af1ee39be62c773ffdc5f647f380e0473cc7ec3aab48042", func := "loop.example/g00817/laws.FnInodes", spec := "fnInodes", inPlace := ["internal/abi.NoEscape", "internal/bytealg.MakeNoZero"], unfollowed := true, recurses := true, apart := false }
def FnInodesSaid : Prop := fnInodesRow.holds Try.pinned (OpenSpec.ofChange fnInodesSpec)

/-- ITS FALSE NEIGHBOUR: 'it returns false'. Refute it at one input. -/
def fnInodesWrong : ChangeSpec := { name := "fnInodes", fn := fun _ => fun
  | [d] => { results := [.lit (.bool false)], args := [d] }
  | _ => none }
def FnInodesWrongFalsely : Prop := fnInodesRow.holds Try.pinned (OpenSpec.ofChange fnInodesWrong)

/-- 'laws.FnExactIsFS': WHATEVER THE INPUT: true; the input reads as it did. -/
def fnExactIsFSSpec : ChangeSpec := { name := "fnExactIsFS", fn := fun _ => fun
  | [d] => { results := [.lit (.bool true)], args := [d] }
  | _ => none }
def fnExactIsFSRow : OpenClaim := { program := "ytnfiapcemafmiaa", sum := "a71e1bf6f3dd32ae6af1ee39be62c773ffdc5f647f380e0473cc7ec3aab48042", func := "loop.example/g00817/laws.FnExactIsFS", spec := "fnExactIsFS", apart := false }
def FnExactIsFSSaid : Prop := fnExactIsFSRow.holds Try.pinned (OpenSpec.ofChange fnExactIsFSSpec)

/-- ITS FALSE NEIGHBOUR: 'it returns false'. Refute it at one input. -/
def fnExactIsFSWrong : ChangeSpec := { name := "fnExactIsFS", fn := fun _ => fun
  | [d] => { results := [.lit (.bool false)], args := [d] }
  | _ => none }
def FnExactIsFSWrongFalsely : Prop := fnExactIsFSRow.holds Try.pinned (OpenSpec.ofChange fnExactIsFSWrong)

/-- 'laws.FnExactInodesOf': WHATEVER THE INPUT: true; the input reads as it did. -/
def fnExactInodesOfSpec : ChangeSpec := { name := "fnExactInodesOf", fn := fun _ => fun
  | [d1, d2] => { results := [.lit (.bool true)], args := [d1, d2] }
  | _ => none }
def fnExactInodesOfRow : OpenClaim := { program := "ytnfiapcemafmiaa", sum := "a71e1bf6f3dd32ae6af1ee39be62c773ffdc5f647f380e0473cc7ec3aab48042", func := "loop.example/g00817/laws.FnExactInodesOf", spec := "fnExactInodesOf", apart := false }
def FnExactInodesOfSaid : Prop := fnExactInodesOfRow.holds Try.pinned (OpenSpec.ofChange fnExactInodesOfSpec)

/-- ITS FALSE NEIGHBOUR: 'it returns false'. Refute it at one input. -/
def fnExactInodesOfWrong : ChangeSpec := { name := "fnExactInodesOf", fn := fun _ => fun
  | [d1, d2] => { results := [.lit (.bool false)], args := [d1, d2] }
  | _ => none }
def FnExactInodesOfWrongFalsely : Prop := fnExactInodesOfRow.holds Try.pinned (OpenSpec.ofChange fnExactInodesOfWrong)

/-- 'laws.FnExactBlocksOf': WHATEVER THE INPUT: true; the input reads as it did. -/
def fnExactBlocksOfSpec : ChangeSpec := { name := "fnExactBlocksOf", fn := fun _ => fun
  | [d1, d2] => { results := [.lit (.bool true)], args := [d1, d2] }
  | _ => none }
def fnExactBlocksOfRow : OpenClaim := { program := "ytnfiapcemafmiaa", sum := "a71e1bf6f3dd32ae6af1ee39be62c773ffdc5f647f380e0473cc7ec3aab48042", func := "loop.example/g00817/laws.FnExactBlocksOf", spec := "fnExactBlocksOf", apart := false }
def FnExactBlocksOfSaid : Prop := fnExactBlocksOfRow.holds Try.pinned (OpenSpec.ofChange fnExactBlocksOfSpec)

/-- ITS FALSE NEIGHBOUR: 'it returns false'. Refute it at one input. -/
def fnExactBlocksOfWrong : ChangeSpec := { name := "fnExactBlocksOf", fn := fun _ => fun
  | [d1, d2] => { results := [.lit (.bool false)], args := [d1, d2] }
  | _ => none }
def FnExactBlocksOfWrongFalsely : Prop := fnExactBlocksOfRow.holds Try.pinned (OpenSpec.ofChange fnExactBlocksOfWrong)

/-- 'laws.FnExactNextInode': WHATEVER THE INPUT: true; the input reads as it did. -/
def fnExactNextInodeSpec : ChangeSpec := { name := "fnExactNextInode", fn := fun _ => fun
  | [d1, d2] => { results := [.lit (.bool true)], args := [d1, d2] }
  | _ => none }
def fnExactNextInodeRow : OpenClaim := { program := "ytnfiapcemafmiaa", sum := "a71e1bf6f3dd32ae6af1ee39be62c773ffdc5f647f380e0473cc7ec3aab48042", func := "loop.example/g00817/laws.FnExactNextInode", spec := "fnExactNextInode", apart := false }
def FnExactNextInodeSaid : Prop := fnExactNextInodeRow.holds Try.pinned (OpenSpec.ofChange fnExactNextInodeSpec)

/-- ITS FALSE NEIGHBOUR: 'it returns false'. Refute it at one input. -/
def fnExactNextInodeWrong : ChangeSpec := { name := "fnExactNextInode", fn := fun _ => fun
  | [d1, d2] => { results := [.lit (.bool false)], args := [d1, d2] }
  | _ => none }
def FnExactNextInodeWrongFalsely : Prop := fnExactNextInodeRow.holds Try.pinned (OpenSpec.ofChange fnExactNextInodeWrong)

/- THE SECOND FORM. 'bulk': how many values and letters a reading holds, each counted each time it is reached (what is shared counts as often as it is met; a slice's spare places count too). A statement '..UptoSaid' is the law's where the arguments, and the package variables that the reading takes, are together of bulk at most 1048576: NARROWER than '..Said'. Prove '..Said' where nothing that the law and all that it calls make is longer than what came in: it says more and counts as full. Else prove '..UptoSaid'. A law counts once. -/
mutual
def uptoBulk {H : Type} : DataW H → Nat
  | .lit (.string bytes) => bytes.length + 1
  | .lit _ => 1
  | .nil => 1
  | .ptr d => uptoBulk d + 1
  | .slice elems spare => uptoBulkAll elems + uptoBulkAll spare + 1
  | .agg parts => uptoBulkAll parts + 1
  | .iface _ d => uptoBulk d + 1
  | .map entries => uptoBulkEntries entries + 1
  | .held _ => 1
def uptoBulkAll {H : Type} : List (DataW H) → Nat
  | [] => 0
  | d :: r => uptoBulk d + uptoBulkAll r
def uptoBulkEntries {H : Type} : List (Lit × DataW H) → Nat
  | [] => 0
  | x :: r => uptoBulkEntry x + uptoBulkEntries r
def uptoBulkEntry {H : Type} : Lit × DataW H → Nat
  | (.string bytes, d) => bytes.length + uptoBulk d + 1
  | (_, d) => uptoBulk d + 1
 end
def uptoSmall : (H : Type) → List (DataW H) → Bool := fun _ ds => decide (uptoBulkAll ds ≤ 1048576)
def OpenSpec.upto (s : _root_.Go.ChangeSpec) : _root_.Go.OpenSpec := { _root_.Go.OpenSpec.ofChange s with cond := some uptoSmall }

/-- 'laws.FnExactUnpackInode', WHERE WHAT IT READS IS OF BULK AT MOST 1048576: true; the input reads as it did. -/
def fnExactUnpackInodeUptoRow : OpenClaim := { program := "ytnfiapcemafmiaa", sum := "a71e1bf6f3dd32ae6af1ee39be62c773ffdc5f647f380e0473cc7ec3aab48042", func := "loop.example/g00817/laws.FnExactUnpackInode", spec := "fnExactUnpackInode", inPlace := ["internal/abi.NoEscape", "internal/bytealg.MakeNoZero"], unfollowed := true, recurses := true, apart := false, narrowed := true }
def FnExactUnpackInodeUptoSaid : Prop := fnExactUnpackInodeUptoRow.holds Try.pinned (OpenSpec.upto fnExactUnpackInodeSpec)

/-- 'laws.FnExactNextBlock', WHERE WHAT IT READS IS OF BULK AT MOST 1048576: true; the input reads as it did. -/
def fnExactNextBlockUptoRow : OpenClaim := { program := "ytnfiapcemafmiaa", sum := "a71e1bf6f3dd32ae6af1ee39be62c773ffdc5f647f380e0473cc7ec3aab48042", func := "loop.example/g00817/laws.FnExactNextBlock", spec := "fnExactNextBlock", apart := false, narrowed := true }
def FnExactNextBlockUptoSaid : Prop := fnExactNextBlockUptoRow.holds Try.pinned (OpenSpec.upto fnExactNextBlockSpec)

/-- 'laws.FnExactFlushDisk', WHERE WHAT IT READS IS OF BULK AT MOST 1048576: true; the input reads as it did. -/
def fnExactFlushDiskUptoRow : OpenClaim := { program := "ytnfiapcemafmiaa", sum := "a71e1bf6f3dd32ae6af1ee39be62c773ffdc5f647f380e0473cc7ec3aab48042", func := "loop.example/g00817/laws.FnExactFlushDisk", spec := "fnExactFlushDisk", unfollowed := true, recurses := true, apart := false, narrowed := true }
def FnExactFlushDiskUptoSaid : Prop := fnExactFlushDiskUptoRow.holds Try.pinned (OpenSpec.upto fnExactFlushDiskSpec)

/-- 'laws.FnExactCrashDisk', WHERE WHAT IT READS IS OF BULK AT MOST 1048576: true; the input reads as it did. -/
def fnExactCrashDiskUptoRow : OpenClaim := { program := "ytnfiapcemafmiaa", sum := "a71e1bf6f3dd32ae6af1ee39be62c773ffdc5f647f380e0473cc7ec3aab48042", func := "loop.example/g00817/laws.FnExactCrashDisk", spec := "fnExactCrashDisk", unfollowed := true, recurses := true, apart := false, narrowed := true }
def FnExactCrashDiskUptoSaid : Prop := fnExactCrashDiskUptoRow.holds Try.pinned (OpenSpec.upto fnExactCrashDiskSpec)

/-- 'laws.FnInodes', WHERE WHAT IT READS IS OF BULK AT MOST 1048576: true; the input reads as it did. -/
def fnInodesUptoRow : OpenClaim := { program := "ytnfiapcemafmiaa", sum := "a71e1bf6f3dd32ae6af1ee39be62c773ffdc5f647f380e0473cc7ec3aab48042", func := "loop.example/g00817/laws.FnInodes", spec := "fnInodes", inPlace := ["internal/abi.NoEscape", "internal/bytealg.MakeNoZero"], unfollowed := true, recurses := true, apart := false, narrowed := true }
def FnInodesUptoSaid : Prop := fnInodesUptoRow.holds Try.pinned (OpenSpec.upto fnInodesSpec)

/-- 'laws.FnExactIsFS', WHERE WHAT IT READS IS OF BULK AT MOST 1048576: true; the input reads as it did. -/
def fnExactIsFSUptoRow : OpenClaim := { program := "ytnfiapcemafmiaa", sum := "a71e1bf6f3dd32ae6af1ee39be62c773ffdc5f647f380e0473cc7ec3aab48042", func := "loop.example/g00817/laws.FnExactIsFS", spec := "fnExactIsFS", apart := false, narrowed := true }
def FnExactIsFSUptoSaid : Prop := fnExactIsFSUptoRow.holds Try.pinned (OpenSpec.upto fnExactIsFSSpec)

/-- 'laws.FnExactInodesOf', WHERE WHAT IT READS IS OF BULK AT MOST 1048576: true; the input reads as it did. -/
def fnExactInodesOfUptoRow : OpenClaim := { program := "ytnfiapcemafmiaa", sum := "a71e1bf6f3dd32ae6af1ee39be62c773ffdc5f647f380e0473cc7ec3aab48042", func := "loop.example/g00817/laws.FnExactInodesOf", spec := "fnExactInodesOf", apart := false, narrowed := true }
def FnExactInodesOfUptoSaid : Prop := fnExactInodesOfUptoRow.holds Try.pinned (OpenSpec.upto fnExactInodesOfSpec)

/-- 'laws.FnExactBlocksOf', WHERE WHAT IT READS IS OF BULK AT MOST 1048576: true; the input reads as it did. -/
def fnExactBlocksOfUptoRow : OpenClaim := { program := "ytnfiapcemafmiaa", sum := "a71e1bf6f3dd32ae6af1ee39be62c773ffdc5f647f380e0473cc7ec3aab48042", func := "loop.example/g00817/laws.FnExactBlocksOf", spec := "fnExactBlocksOf", apart := false, narrowed := true }
def FnExactBlocksOfUptoSaid : Prop := fnExactBlocksOfUptoRow.holds Try.pinned (OpenSpec.upto fnExactBlocksOfSpec)

/-- 'laws.FnExactNextInode', WHERE WHAT IT READS IS OF BULK AT MOST 1048576: true; the input reads as it did. -/
def fnExactNextInodeUptoRow : OpenClaim := { program := "ytnfiapcemafmiaa", sum := "a71e1bf6f3dd32ae6af1ee39be62c773ffdc5f647f380e0473cc7ec3aab48042", func := "loop.example/g00817/laws.FnExactNextInode", spec := "fnExactNextInode", apart := false, narrowed := true }
def FnExactNextInodeUptoSaid : Prop := fnExactNextInodeUptoRow.holds Try.pinned (OpenSpec.upto fnExactNextInodeSpec)

end Rows
end Go.Proofs.Ytnfiapcemafmiaa
