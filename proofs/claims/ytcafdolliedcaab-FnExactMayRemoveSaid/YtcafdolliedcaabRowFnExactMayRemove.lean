/- The row of the law FnExactMayRemove, out of the pure statement and the printed walk: for every input; no further condition. -/
import Derived.Test.YtcafdolliedcaabRows
import Derived.Test.YtcafdolliedcaabPFnExactMayRemovex2
import Derived.Test.YtcafdolliedcaabPureFnExactMayRemove
import Derived.Test.YtcafdolliedcaabLibOpen
import Derived.WalkKit
import Derived.ProofKit
import Derived.OpenShut
import Derived.ShutString
import Derived.ChangeOld
import Derived.Below
import Derived.SizedLaws
namespace Go.Proofs.Ytcafdolliedcaab.fnExactMayRemove
open Go.ChangeShapes Go.WideShapes Go.ChangeAt Go.RowKit
open Go.Proofs.Ytcafdolliedcaab.PFnExactMayRemove Go.Proofs.Ytcafdolliedcaab.Lib Go.Proofs.YtcafdolliedcaabW.PrintWords
open Go.ChangeMaps (open_string shut_string)
set_option linter.unusedVariables false
theorem own : ownKnob Try.prog.godebug = none := by kernel_rfl
theorem laidOut : laidOutB Try.prog = true := by kernel_rfl
set_option maxRecDepth 100000 in
theorem lifted (os : Os) (started : os.Started) (H : Type) (enc : TypeId × Value → H) :
    ReturnsInHanded {} Try.checked os 7 .any (Rows.fnExactMayRemoveSpec.pre6 enc Try.prog Try.f7 Rows.fnExactMayRemoveRow.domain false) (Rows.fnExactMayRemoveSpec.post enc Try.prog Try.f7 false true false false) := by
  refine returnsInHanded_of_change_sized (C := Try.checked) own started (by kernel_rfl) Try.func7
    (ChangeSpec.witness6 (enc := enc) (C := Try.checked) false ⟨#[], #[.agg #[.int .i64 0, .int .i64 0, .slice none 0 0], .int .i64 0, .int .i64 0, .int .i64 0], []⟩ 8 (by kernel_rfl) (by kernel_rfl) (by kernel_rfl) (by kernel_rfl)) ?_
  intro W base args ds gs before hval0 hW hcnd hsz0 _
  have hval : ∀ (j : Nat) t v, Try.f7.params[j]? = some t → args[j]? = some v → Value.okWide Try.prog W .any base t v := hval0
  have hW' := hW
  obtain ⟨p, q, hA0, hV, rfl, hfz, hnd⟩ := hW
  have hA : DataW.TrodAll enc Try.prog W 0 (fun _ => true) true Try.f7.params.toList args.toList ds p := hA0
  rw [Try.params7] at hA hval
  obtain ⟨v0, vs0, d0, ds0, p0, q0, hargs, rfl, rfl, h0, r0⟩ := trodAll_cons hA
  obtain ⟨v1, vs1, d1, ds1, p1, q1, rfl, rfl, rfl, h1, r1⟩ := trodAll_cons r0
  obtain ⟨v2, vs2, d2, ds2, p2, q2, rfl, rfl, rfl, h2, r2⟩ := trodAll_cons r1
  obtain ⟨v3, vs3, d3, ds3, p3, q3, rfl, rfl, rfl, h3, r3⟩ := trodAll_cons r2
  obtain ⟨rfl, rfl, rfl⟩ := trodAll_nil r3
  obtain rfl : args = #[v0, v1, v2, v3] := by cases args; simp_all
  obtain ⟨rfl, rfl⟩ := trodVars_none hV
  have k0 := h0
  have lt0 : ∀ x ∈ p0, x.block < W.heap.size := by obtain ⟨m, hm⟩ := k0; exact DataW.trod_lt m _ _ _ hm
  obtain ⟨m0, hm0⟩ := h0
  obtain ⟨cs0, rfl, hs0⟩ := okWide_struct Try.underlying35 (hval 0 35 v0 rfl rfl)
  obtain ⟨l0, K0, ok0⟩ := (Opens.struct Try.underlying35 (by kernel_rfl) (OpensAt.cons (by rfl) (by kernel_rfl) (Opens.int Try.underlying3) (OpensAt.cons (by rfl) (by kernel_rfl) (Opens.int Try.underlying3) (OpensAt.one (by rfl) (by kernel_rfl) (Opens.slice 0 Try.underlying28 (by kernel_rfl) (Opens.int Try.underlying3)))))) H enc W m0 _ _ hm0
  obtain ⟨_, _, z0, rfl, ⟨_, _, rfl, rfl, ⟨A0_2, c0_2, rfl, hl0_2, hC0_2⟩⟩⟩ := K0
  have hcs0 : cs0 = #[.int .i64 l0.1, .int .i64 l0.2.1, (.slice A0_2 l0.2.2.length c0_2 : Value)] := Array.toList_inj.1 z0
  subst hcs0
  obtain ⟨a1, rfl, rfl, rfl, w1⟩ := open_int Try.underlying3 (hval 1 3 v1 rfl rfl) h1
  obtain ⟨a2, rfl, rfl, rfl, w2⟩ := open_int Try.underlying3 (hval 2 3 v2 rfl rfl) h2
  obtain ⟨a3, rfl, rfl, rfl, w3⟩ := open_int Try.underlying3 (hval 3 3 v3 rfl rfl) h3
  obtain ⟨k, hk⟩ := Pure.FnExactMayRemove l0.1 l0.2.1 l0.2.2 a1 a2 a3 ok0 w1 w2 w3
  refine (laws_FnExactMayRemove.calls k l0.1 l0.2.1 _ _ l0.2.2 a1 a2 a3 true W hC0_2 hl0_2 hk).mono ?_
  rintro e W' ⟨rfl, bel⟩
  exact ⟨_, rfl, _, _, _, [], _, [], hW', trodAll_mk1 (shut_bool Try.underlying4 _), (trodAll_cons_mk (Below.trod laidOut (by kernel_rfl) (of_decide_eq_true (by kernel_rfl)) k0 bel lt0) (trodAll_cons_mk (shut_int Try.underlying3 w1) (trodAll_cons_mk (shut_int Try.underlying3 w2) (trodAll_cons_mk (shut_int Try.underlying3 w3) trodAll_mk0)))), rfl, bel.frame _, fun h => by cases h⟩
theorem over : Rows.fnExactMayRemoveRow.holds Try.pinned (OpenSpec.ofChange Rows.fnExactMayRemoveSpec) :=
  OpenClaim.holds_of_wide 7 Try.f7 rfl rfl rfl rfl rfl rfl rfl ⟨rfl, rfl, rfl, rfl, rfl⟩ rfl rfl rfl rfl rfl (by kernel_rfl) Try.func7 (by kernel_rfl)
    (of_decide_eq_true (by kernel_rfl)) (by unfold Func.isWrapper; first | (rw [if_pos (by decide +kernel)]; kernel_rfl) | (rw [if_neg (by decide +kernel)]; exact ⟨rfl, rfl⟩))
    (fun os started H enc _ => lifted os started H enc)
theorem proved : Rows.FnExactMayRemoveSaid := over
#print axioms proved
end Go.Proofs.Ytcafdolliedcaab.fnExactMayRemove
namespace Go.Proofs.Ytcafdolliedcaab
/-- The row, under a short name, for the claim. -/
theorem fnExactMayRemove_holds : Rows.FnExactMayRemoveSaid := fnExactMayRemove.proved
end Go.Proofs.Ytcafdolliedcaab
