/- The row of the law FnExactJournalWrites, out of the pure statement and the printed walk: for every input; no further condition. -/
import Derived.Test.YtmnojegajblagabRows
import Derived.Test.YtmnojegajblagabPFnExactJournalWritesx5
import Derived.Test.YtmnojegajblagabPureFnExactJournalWrites
import Derived.Test.YtmnojegajblagabLibOpen
import Derived.WalkKit
import Derived.ProofKit
import Derived.OpenShut
import Derived.ShutString
import Derived.ChangeOld
import Derived.Below
import Derived.SizedLaws
namespace Go.Proofs.Ytmnojegajblagab.fnExactJournalWrites
open Go.ChangeShapes Go.WideShapes Go.ChangeAt Go.RowKit
open Go.Proofs.Ytmnojegajblagab.PFnExactJournalWrites Go.Proofs.Ytmnojegajblagab.Lib Go.Proofs.YtmnojegajblagabW.PrintWords
open Go.ChangeMaps (open_string shut_string)
set_option linter.unusedVariables false
theorem own : ownKnob Try.prog.godebug = none := by kernel_rfl
theorem laidOut : laidOutB Try.prog = true := by kernel_rfl
set_option maxRecDepth 100000 in
theorem lifted (os : Os) (started : os.Started) (H : Type) (enc : TypeId × Value → H) :
    ReturnsInHanded {} Try.checked os 7 .any (Rows.fnExactJournalWritesSpec.pre6 enc Try.prog Try.f7 Rows.fnExactJournalWritesRow.domain false) (Rows.fnExactJournalWritesSpec.post enc Try.prog Try.f7 false true false false) := by
  refine returnsInHanded_of_change_sized (C := Try.checked) own started (by kernel_rfl) Try.func7
    (ChangeSpec.witness6 (enc := enc) (C := Try.checked) false ⟨#[], #[.slice none 0 0], []⟩ 8 (by kernel_rfl) (by kernel_rfl) (by kernel_rfl) (by kernel_rfl)) ?_
  intro W base args ds gs before hval0 hW hcnd hsz0 _
  have hval : ∀ (j : Nat) t v, Try.f7.params[j]? = some t → args[j]? = some v → Value.okWide Try.prog W .any base t v := hval0
  have hW' := hW
  obtain ⟨p, q, hA0, hV, rfl, hfz, hnd⟩ := hW
  have hA : DataW.TrodAll enc Try.prog W 0 (fun _ => true) true Try.f7.params.toList args.toList ds p := hA0
  rw [Try.params7] at hA hval
  obtain ⟨v0, vs0, d0, ds0, p0, q0, hargs, rfl, rfl, h0, r0⟩ := trodAll_cons hA
  obtain ⟨rfl, rfl, rfl⟩ := trodAll_nil r0
  obtain rfl : args = #[v0] := by cases args; simp_all
  obtain ⟨rfl, rfl⟩ := trodVars_none hV
  have k0 := h0
  have lt0 : ∀ x ∈ p0, x.block < W.heap.size := by obtain ⟨m, hm⟩ := k0; exact DataW.trod_lt m _ _ _ hm
  obtain ⟨m0, hm0⟩ := h0
  obtain ⟨e0, f0, g0, rfl⟩ := okWide_slice Try.underlying22 (hval 0 22 v0 rfl rfl)
  obtain ⟨l0, K0, ok0⟩ := (Opens.slice 0 Try.underlying22 (by kernel_rfl) (show Opens Try.prog 99 k99 _ from Opens.iso _ (fun x => (⟨x.1, x.2⟩ : S99)) (fun _ => rfl) (Opens.struct Try.underlying99 (by kernel_rfl) (OpensAt.cons (by rfl) (by kernel_rfl) (Opens.int Try.underlying3) (OpensAt.one (by rfl) (by kernel_rfl) (Opens.str Try.underlying9)))))) H enc W m0 _ _ hm0
  obtain ⟨A0, c0, z0, hl0, hC0⟩ := K0
  simp only [Value.cells, List.cons.injEq, Value.slice.injEq, and_true] at z0
  obtain ⟨rfl, rfl, rfl⟩ := z0
  obtain ⟨k, hk⟩ := Pure.FnExactJournalWrites l0 ok0
  refine (laws_FnExactJournalWrites.calls k _ _ l0 W hC0 hl0 hk).mono ?_
  rintro e W' ⟨rfl, bel⟩
  exact ⟨_, rfl, _, _, _, [], _, [], hW', trodAll_mk1 (shut_bool Try.underlying4 _), (trodAll_cons_mk (Below.trod laidOut (by kernel_rfl) (of_decide_eq_true (by kernel_rfl)) k0 bel lt0) trodAll_mk0), rfl, bel.frame _, fun h => by cases h⟩
theorem over : Rows.fnExactJournalWritesRow.holds Try.pinned (OpenSpec.ofChange Rows.fnExactJournalWritesSpec) :=
  OpenClaim.holds_of_wide 7 Try.f7 rfl rfl rfl rfl rfl rfl rfl ⟨rfl, rfl, rfl, rfl, rfl⟩ rfl rfl rfl rfl rfl (by kernel_rfl) Try.func7 (by kernel_rfl)
    (of_decide_eq_true (by kernel_rfl)) (by unfold Func.isWrapper; first | (rw [if_pos (by decide +kernel)]; kernel_rfl) | (rw [if_neg (by decide +kernel)]; exact ⟨rfl, rfl⟩))
    (fun os started H enc _ => lifted os started H enc)
theorem proved : Rows.FnExactJournalWritesSaid := over
#print axioms proved
end Go.Proofs.Ytmnojegajblagab.fnExactJournalWrites
namespace Go.Proofs.Ytmnojegajblagab
/-- The row, under a short name, for the claim. -/
theorem fnExactJournalWrites_holds : Rows.FnExactJournalWritesSaid := fnExactJournalWrites.proved
end Go.Proofs.Ytmnojegajblagab
