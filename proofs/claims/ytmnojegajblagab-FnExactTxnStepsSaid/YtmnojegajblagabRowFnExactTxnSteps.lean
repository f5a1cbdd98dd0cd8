/- The row of the law FnExactTxnSteps, out of the pure statement and the printed walk: for every input; no further condition. -/
import Derived.Test.YtmnojegajblagabRows
import Derived.Test.YtmnojegajblagabPFnExactTxnStepsx9
import Derived.Test.YtmnojegajblagabPureFnExactTxnSteps
import Derived.Test.YtmnojegajblagabLibOpen
import Derived.WalkKit
import Derived.ProofKit
import Derived.OpenShut
import Derived.ShutString
import Derived.ChangeOld
import Derived.Below
import Derived.SizedLaws
namespace Go.Proofs.Ytmnojegajblagab.fnExactTxnSteps
open Go.ChangeShapes Go.WideShapes Go.ChangeAt Go.RowKit
open Go.Proofs.Ytmnojegajblagab.PFnExactTxnSteps Go.Proofs.Ytmnojegajblagab.Lib Go.Proofs.YtmnojegajblagabW.PrintWords
open Go.ChangeMaps (open_string shut_string)
set_option linter.unusedVariables false
theorem own : ownKnob Try.prog.godebug = none := by kernel_rfl
theorem laidOut : laidOutB Try.prog = true := by kernel_rfl
set_option maxRecDepth 100000 in
theorem lifted (os : Os) (started : os.Started) (H : Type) (enc : TypeId × Value → H) :
    ReturnsInHanded {} Try.checked os 11 .any (Rows.fnExactTxnStepsSpec.pre6 enc Try.prog Try.f11 Rows.fnExactTxnStepsRow.domain false) (Rows.fnExactTxnStepsSpec.post enc Try.prog Try.f11 false true false false) := by
  refine returnsInHanded_of_change_sized (C := Try.checked) own started (by kernel_rfl) Try.func11
    (ChangeSpec.witness6 (enc := enc) (C := Try.checked) false ⟨#[], #[.int .i64 0, .slice none 0 0], []⟩ 8 (by kernel_rfl) (by kernel_rfl) (by kernel_rfl) (by kernel_rfl)) ?_
  intro W base args ds gs before hval0 hW hcnd hsz0 _
  have hval : ∀ (j : Nat) t v, Try.f11.params[j]? = some t → args[j]? = some v → Value.okWide Try.prog W .any base t v := hval0
  have hW' := hW
  obtain ⟨p, q, hA0, hV, rfl, hfz, hnd⟩ := hW
  have hA : DataW.TrodAll enc Try.prog W 0 (fun _ => true) true Try.f11.params.toList args.toList ds p := hA0
  rw [Try.params11] at hA hval
  obtain ⟨v0, vs0, d0, ds0, p0, q0, hargs, rfl, rfl, h0, r0⟩ := trodAll_cons hA
  obtain ⟨v1, vs1, d1, ds1, p1, q1, rfl, rfl, rfl, h1, r1⟩ := trodAll_cons r0
  obtain ⟨rfl, rfl, rfl⟩ := trodAll_nil r1
  obtain rfl : args = #[v0, v1] := by cases args; simp_all
  obtain ⟨rfl, rfl⟩ := trodVars_none hV
  obtain ⟨a0, rfl, rfl, rfl, w0⟩ := open_int Try.underlying3 (hval 0 3 v0 rfl rfl) h0
  have k1 := h1
  have lt1 : ∀ x ∈ p1, x.block < W.heap.size := by obtain ⟨m, hm⟩ := k1; exact DataW.trod_lt m _ _ _ hm
  obtain ⟨m1, hm1⟩ := h1
  obtain ⟨e1, f1, g1, rfl⟩ := okWide_slice Try.underlying22 (hval 1 22 v1 rfl rfl)
  obtain ⟨l1, K1, ok1⟩ := (Opens.slice 0 Try.underlying22 (by kernel_rfl) (show Opens Try.prog 99 k99 _ from Opens.iso _ (fun x => (⟨x.1, x.2⟩ : S99)) (fun _ => rfl) (Opens.struct Try.underlying99 (by kernel_rfl) (OpensAt.cons (by rfl) (by kernel_rfl) (Opens.int Try.underlying3) (OpensAt.one (by rfl) (by kernel_rfl) (Opens.str Try.underlying9)))))) H enc W m1 _ _ hm1
  obtain ⟨A1, c1, z1, hl1, hC1⟩ := K1
  simp only [Value.cells, List.cons.injEq, Value.slice.injEq, and_true] at z1
  obtain ⟨rfl, rfl, rfl⟩ := z1
  obtain ⟨k, hk⟩ := Pure.FnExactTxnSteps a0 l1 w0 ok1
  refine (laws_FnExactTxnSteps.calls k a0 _ _ l1 W hC1 hl1 hk).mono ?_
  rintro e W' ⟨rfl, bel⟩
  exact ⟨_, rfl, _, _, _, [], _, [], hW', trodAll_mk1 (shut_bool Try.underlying4 _), (trodAll_cons_mk (shut_int Try.underlying3 w0) (trodAll_cons_mk (Below.trod laidOut (by kernel_rfl) (of_decide_eq_true (by kernel_rfl)) k1 bel lt1) trodAll_mk0)), rfl, bel.frame _, fun h => by cases h⟩
theorem over : Rows.fnExactTxnStepsRow.holds Try.pinned (OpenSpec.ofChange Rows.fnExactTxnStepsSpec) :=
  OpenClaim.holds_of_wide 11 Try.f11 rfl rfl rfl rfl rfl rfl rfl ⟨rfl, rfl, rfl, rfl, rfl⟩ rfl rfl rfl rfl rfl (by kernel_rfl) Try.func11 (by kernel_rfl)
    (of_decide_eq_true (by kernel_rfl)) (by unfold Func.isWrapper; first | (rw [if_pos (by decide +kernel)]; kernel_rfl) | (rw [if_neg (by decide +kernel)]; exact ⟨rfl, rfl⟩))
    (fun os started H enc _ => lifted os started H enc)
theorem proved : Rows.FnExactTxnStepsSaid := over
#print axioms proved
end Go.Proofs.Ytmnojegajblagab.fnExactTxnSteps
namespace Go.Proofs.Ytmnojegajblagab
/-- The row, under a short name, for the claim. -/
theorem fnExactTxnSteps_holds : Rows.FnExactTxnStepsSaid := fnExactTxnSteps.proved
end Go.Proofs.Ytmnojegajblagab
