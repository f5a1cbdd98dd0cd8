/- The row of the law FnExactSameDisk, out of the pure statement and the printed walk: for every input; no further condition. -/
import Derived.Test.YtcafdolliedcaabRows
import Derived.Test.YtcafdolliedcaabPFnExactSameDiskx5
import Derived.Test.YtcafdolliedcaabPureFnExactSameDisk
import Derived.Test.YtcafdolliedcaabLibOpen
import Derived.WalkKit
import Derived.ProofKit
import Derived.OpenShut
import Derived.ShutString
import Derived.ChangeOld
import Derived.Below
import Derived.SizedLaws
namespace Go.Proofs.Ytcafdolliedcaab.fnExactSameDisk
open Go.ChangeShapes Go.WideShapes Go.ChangeAt Go.RowKit
open Go.Proofs.Ytcafdolliedcaab.PFnExactSameDisk Go.Proofs.Ytcafdolliedcaab.Lib Go.Proofs.YtcafdolliedcaabW.PrintWords
open Go.ChangeMaps (open_string shut_string)
set_option linter.unusedVariables false
theorem own : ownKnob Try.prog.godebug = none := by kernel_rfl
theorem laidOut : laidOutB Try.prog = true := by kernel_rfl
set_option maxRecDepth 100000 in
theorem lifted (os : Os) (started : os.Started) (H : Type) (enc : TypeId × Value → H) :
    ReturnsInHanded {} Try.checked os 11 .any (Rows.fnExactSameDiskSpec.pre6 enc Try.prog Try.f11 Rows.fnExactSameDiskRow.domain false) (Rows.fnExactSameDiskSpec.post enc Try.prog Try.f11 false true false false) := by
  refine returnsInHanded_of_change_sized (C := Try.checked) own started (by kernel_rfl) Try.func11
    (ChangeSpec.witness6 (enc := enc) (C := Try.checked) false ⟨#[], #[.agg #[.slice none 0 0, .slice none 0 0], .agg #[.slice none 0 0, .slice none 0 0]], []⟩ 8 (by kernel_rfl) (by kernel_rfl) (by kernel_rfl) (by kernel_rfl)) ?_
  intro W base args ds gs before hval0 hW hcnd hsz0 _
  have hval : ∀ (j : Nat) t v, Try.f11.params[j]? = some t → args[j]? = some v → Value.okWide Try.prog W .any base t v := hval0
  have hW' := hW
  obtain ⟨p, q, hA0, hV, rfl, hfz, hnd⟩ := hW
  have hA : DataW.TrodAll enc Try.prog W 0 (fun _ => true) true Try.f11.params.toList args.toList ds p := hA0
  rw [Try.params11] at hA hval
  obtain ⟨v0, vs0, d0, ds0, p0, q0, hargs, rfl, rfl, h0, r0⟩ := trodAll_cons hA
  obtain ⟨v1, vs1, d1, ds1, p1, q1, rfl, rfl, rfl, h1, r1⟩ := trodAll_cons r0
  obtain ⟨rfl, rfl, rfl⟩ := trodAll_nil r1
  obtain rfl : args = #[v0, v1] := by cases args; simp_all
  obtain ⟨rfl, rfl⟩ := trodVars_none hV
  have k0 := h0
  have lt0 : ∀ x ∈ p0, x.block < W.heap.size := by obtain ⟨m, hm⟩ := k0; exact DataW.trod_lt m _ _ _ hm
  obtain ⟨m0, hm0⟩ := h0
  obtain ⟨cs0, rfl, hs0⟩ := okWide_struct Try.underlying56 (hval 0 56 v0 rfl rfl)
  obtain ⟨l0, K0, ok0⟩ := (Opens.struct Try.underlying56 (by kernel_rfl) (OpensAt.cons (by rfl) (by kernel_rfl) (Opens.slice 0 Try.underlying22 (by kernel_rfl) (Opens.str Try.underlying9)) (OpensAt.one (by rfl) (by kernel_rfl) (Opens.slice 0 Try.underlying54 (by kernel_rfl) (show Opens Try.prog 96 k96 _ from Opens.iso _ (fun x => (⟨x.1, x.2⟩ : S96)) (fun _ => rfl) (Opens.struct Try.underlying96 (by kernel_rfl) (OpensAt.cons (by rfl) (by kernel_rfl) (Opens.int Try.underlying3) (OpensAt.one (by rfl) (by kernel_rfl) (Opens.str Try.underlying9))))))))) H enc W m0 _ _ hm0
  obtain ⟨_, _, z0, ⟨A0_0, c0_0, rfl, hl0_0, hC0_0⟩, ⟨A0_1, c0_1, rfl, hl0_1, hC0_1⟩⟩ := K0
  have hcs0 : cs0 = #[(.slice A0_0 l0.1.length c0_0 : Value), (.slice A0_1 l0.2.length c0_1 : Value)] := Array.toList_inj.1 z0
  subst hcs0
  have k1 := h1
  have lt1 : ∀ x ∈ p1, x.block < W.heap.size := by obtain ⟨m, hm⟩ := k1; exact DataW.trod_lt m _ _ _ hm
  obtain ⟨m1, hm1⟩ := h1
  obtain ⟨cs1, rfl, hs1⟩ := okWide_struct Try.underlying56 (hval 1 56 v1 rfl rfl)
  obtain ⟨l1, K1, ok1⟩ := (Opens.struct Try.underlying56 (by kernel_rfl) (OpensAt.cons (by rfl) (by kernel_rfl) (Opens.slice 0 Try.underlying22 (by kernel_rfl) (Opens.str Try.underlying9)) (OpensAt.one (by rfl) (by kernel_rfl) (Opens.slice 0 Try.underlying54 (by kernel_rfl) (show Opens Try.prog 96 k96 _ from Opens.iso _ (fun x => (⟨x.1, x.2⟩ : S96)) (fun _ => rfl) (Opens.struct Try.underlying96 (by kernel_rfl) (OpensAt.cons (by rfl) (by kernel_rfl) (Opens.int Try.underlying3) (OpensAt.one (by rfl) (by kernel_rfl) (Opens.str Try.underlying9))))))))) H enc W m1 _ _ hm1
  obtain ⟨_, _, z1, ⟨A1_0, c1_0, rfl, hl1_0, hC1_0⟩, ⟨A1_1, c1_1, rfl, hl1_1, hC1_1⟩⟩ := K1
  have hcs1 : cs1 = #[(.slice A1_0 l1.1.length c1_0 : Value), (.slice A1_1 l1.2.length c1_1 : Value)] := Array.toList_inj.1 z1
  subst hcs1
  obtain ⟨k, hk⟩ := Pure.FnExactSameDisk l0.1 l0.2 l1.1 l1.2 ok0 ok1
  refine (laws_FnExactSameDisk.calls k _ _ l0.1 _ _ l0.2 _ _ l1.1 _ _ l1.2 W hC0_0 hl0_0 hC0_1 hl0_1 hC1_0 hl1_0 hC1_1 hl1_1 hk).mono ?_
  rintro e W' ⟨rfl, bel⟩
  exact ⟨_, rfl, _, _, _, [], _, [], hW', trodAll_mk1 (shut_bool Try.underlying4 _), (trodAll_cons_mk (Below.trod laidOut (by kernel_rfl) (of_decide_eq_true (by kernel_rfl)) k0 bel lt0) (trodAll_cons_mk (Below.trod laidOut (by kernel_rfl) (of_decide_eq_true (by kernel_rfl)) k1 bel lt1) trodAll_mk0)), rfl, bel.frame _, fun h => by cases h⟩
theorem over : Rows.fnExactSameDiskRow.holds Try.pinned (OpenSpec.ofChange Rows.fnExactSameDiskSpec) :=
  OpenClaim.holds_of_wide 11 Try.f11 rfl rfl rfl rfl rfl rfl rfl ⟨rfl, rfl, rfl, rfl, rfl⟩ rfl rfl rfl rfl rfl (by kernel_rfl) Try.func11 (by kernel_rfl)
    (of_decide_eq_true (by kernel_rfl)) (by unfold Func.isWrapper; first | (rw [if_pos (by decide +kernel)]; kernel_rfl) | (rw [if_neg (by decide +kernel)]; exact ⟨rfl, rfl⟩))
    (fun os started H enc _ => lifted os started H enc)
theorem proved : Rows.FnExactSameDiskSaid := over
#print axioms proved
end Go.Proofs.Ytcafdolliedcaab.fnExactSameDisk
namespace Go.Proofs.Ytcafdolliedcaab
/-- The row, under a short name, for the claim. -/
theorem fnExactSameDisk_holds : Rows.FnExactSameDiskSaid := fnExactSameDisk.proved
end Go.Proofs.Ytcafdolliedcaab
