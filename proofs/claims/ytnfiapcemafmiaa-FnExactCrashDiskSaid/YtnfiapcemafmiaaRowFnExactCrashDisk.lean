/- The row of the law FnExactCrashDisk, out of the pure statement and the printed walk: for every input; no further condition. -/
import Derived.Test.YtnfiapcemafmiaaRows
import Derived.Test.YtnfiapcemafmiaaPFnExactCrashDiskx7
import Derived.Test.YtnfiapcemafmiaaPureFnExactCrashDisk
import Derived.Test.YtnfiapcemafmiaaLibOpen
import Derived.WalkKit
import Derived.ProofKit
import Derived.OpenShut
import Derived.ShutString
import Derived.ChangeOld
import Derived.Below
import Derived.SizedLaws
namespace Go.Proofs.Ytnfiapcemafmiaa.fnExactCrashDisk
open Go.ChangeShapes Go.WideShapes Go.ChangeAt Go.RowKit
open Go.Proofs.Ytnfiapcemafmiaa.PFnExactCrashDisk Go.Proofs.Ytnfiapcemafmiaa.Lib Go.Proofs.YtnfiapcemafmiaaW.PrintWords
open Go.ChangeMaps (open_string shut_string)
set_option linter.unusedVariables false
theorem own : ownKnob Try.prog.godebug = none := by kernel_rfl
theorem laidOut : laidOutB Try.prog = true := by kernel_rfl
set_option maxRecDepth 100000 in
theorem lifted (os : Os) (started : os.Started) (H : Type) (enc : TypeId × Value → H) :
    ReturnsInHanded {} Try.checked os 6 .any (Rows.fnExactCrashDiskSpec.pre6 enc Try.prog Try.f6 Rows.fnExactCrashDiskRow.domain false) (Rows.fnExactCrashDiskSpec.post enc Try.prog Try.f6 false true false false) := by
  refine returnsInHanded_of_change_sized (C := Try.checked) own started (by kernel_rfl) Try.func6
    (ChangeSpec.witness6 (enc := enc) (C := Try.checked) false ⟨#[], #[.agg #[.slice none 0 0, .slice none 0 0], .slice none 0 0], []⟩ 8 (by kernel_rfl) (by kernel_rfl) (by kernel_rfl) (by kernel_rfl)) ?_
  intro W base args ds gs before hval0 hW hcnd hsz0 _
  have hval : ∀ (j : Nat) t v, Try.f6.params[j]? = some t → args[j]? = some v → Value.okWide Try.prog W .any base t v := hval0
  have hW' := hW
  obtain ⟨p, q, hA0, hV, rfl, hfz, hnd⟩ := hW
  have hA : DataW.TrodAll enc Try.prog W 0 (fun _ => true) true Try.f6.params.toList args.toList ds p := hA0
  rw [Try.params6] at hA hval
  obtain ⟨v0, vs0, d0, ds0, p0, q0, hargs, rfl, rfl, h0, r0⟩ := trodAll_cons hA
  obtain ⟨v1, vs1, d1, ds1, p1, q1, rfl, rfl, rfl, h1, r1⟩ := trodAll_cons r0
  obtain ⟨rfl, rfl, rfl⟩ := trodAll_nil r1
  obtain rfl : args = #[v0, v1] := by cases args; simp_all
  obtain ⟨rfl, rfl⟩ := trodVars_none hV
  have k0 := h0
  have lt0 : ∀ x ∈ p0, x.block < W.heap.size := by obtain ⟨m, hm⟩ := k0; exact DataW.trod_lt m _ _ _ hm
  obtain ⟨m0, hm0⟩ := h0
  obtain ⟨cs0, rfl, hs0⟩ := okWide_struct Try.underlying48 (hval 0 48 v0 rfl rfl)
  obtain ⟨l0, K0, ok0⟩ := (Opens.struct Try.underlying48 (by kernel_rfl) (OpensAt.cons (by rfl) (by kernel_rfl) (Opens.slice 9 Try.underlying33 (by kernel_rfl) (Opens.str Try.underlying9)) (OpensAt.one (by rfl) (by kernel_rfl) (Opens.slice 130 Try.underlying46 (by kernel_rfl) (show Opens Try.prog 130 k130 _ from Opens.iso _ (fun x => (⟨x.1, x.2⟩ : S130)) (fun _ => rfl) (Opens.struct Try.underlying130 (by kernel_rfl) (OpensAt.cons (by rfl) (by kernel_rfl) (Opens.int Try.underlying3) (OpensAt.one (by rfl) (by kernel_rfl) (Opens.str Try.underlying9))))))))) H enc W m0 _ _ hm0
  obtain ⟨_, _, z0, ⟨A0_0, c0_0, rfl, hl0_0, hC0_0⟩, ⟨A0_1, c0_1, rfl, hl0_1, hC0_1⟩⟩ := K0
  have hcs0 : cs0 = #[(.slice A0_0 l0.1.length c0_0 : Value), (.slice A0_1 l0.2.length c0_1 : Value)] := Array.toList_inj.1 z0
  subst hcs0
  have k1 := h1
  have lt1 : ∀ x ∈ p1, x.block < W.heap.size := by obtain ⟨m, hm⟩ := k1; exact DataW.trod_lt m _ _ _ hm
  obtain ⟨m1, hm1⟩ := h1
  obtain ⟨e1, f1, g1, rfl⟩ := okWide_slice Try.underlying58 (hval 1 58 v1 rfl rfl)
  obtain ⟨l1, K1, ok1⟩ := (Opens.slice 4 Try.underlying58 (by kernel_rfl) (Opens.bool Try.underlying4)) H enc W m1 _ _ hm1
  obtain ⟨A1, c1, z1, hl1, hC1⟩ := K1
  simp only [Value.cells, List.cons.injEq, Value.slice.injEq, and_true] at z1
  obtain ⟨rfl, rfl, rfl⟩ := z1
  obtain ⟨k, hk⟩ := Pure.FnExactCrashDisk l0.1 l0.2 l1 ok0 ok1
  refine (laws_FnExactCrashDisk.calls k _ _ l0.1 _ _ l0.2 _ _ l1 W hC0_0 hl0_0 hC0_1 hl0_1 hC1 hl1 hk).mono ?_
  rintro e W' ⟨rfl, bel⟩
  exact ⟨_, rfl, _, _, _, [], _, [], hW', trodAll_mk1 (shut_bool Try.underlying4 _), (trodAll_cons_mk (Below.trod laidOut (by kernel_rfl) (of_decide_eq_true (by kernel_rfl)) k0 bel lt0) (trodAll_cons_mk (Below.trod laidOut (by kernel_rfl) (of_decide_eq_true (by kernel_rfl)) k1 bel lt1) trodAll_mk0)), rfl, bel.frame _, fun h => by cases h⟩
theorem over : Rows.fnExactCrashDiskRow.holds Try.pinned (OpenSpec.ofChange Rows.fnExactCrashDiskSpec) :=
  OpenClaim.holds_of_wide 6 Try.f6 rfl rfl rfl rfl rfl rfl rfl ⟨rfl, rfl, rfl, rfl, rfl⟩ rfl rfl rfl rfl rfl (by kernel_rfl) Try.func6 (by kernel_rfl)
    (of_decide_eq_true (by kernel_rfl)) (by unfold Func.isWrapper; first | (rw [if_pos (by decide +kernel)]; kernel_rfl) | (rw [if_neg (by decide +kernel)]; exact ⟨rfl, rfl⟩))
    (fun os started H enc _ => lifted os started H enc)
theorem proved : Rows.FnExactCrashDiskSaid := over
#print axioms proved
end Go.Proofs.Ytnfiapcemafmiaa.fnExactCrashDisk
namespace Go.Proofs.Ytnfiapcemafmiaa
/-- The row, under a short name, for the claim. -/
theorem fnExactCrashDisk_holds : Rows.FnExactCrashDiskSaid := fnExactCrashDisk.proved
end Go.Proofs.Ytnfiapcemafmiaa
