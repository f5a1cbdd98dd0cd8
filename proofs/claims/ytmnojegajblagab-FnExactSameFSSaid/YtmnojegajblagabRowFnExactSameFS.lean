/- The row of the law FnExactSameFS, out of the pure statement and the printed walk: for every input; no further condition. -/
import Derived.Test.YtmnojegajblagabRows
import Derived.Test.YtmnojegajblagabPFnExactSameFSx12
import Derived.Test.YtmnojegajblagabPureFnExactSameFS
import Derived.Test.YtmnojegajblagabLibOpen
import Derived.WalkKit
import Derived.ProofKit
import Derived.OpenShut
import Derived.ShutString
import Derived.ChangeOld
import Derived.Below
import Derived.SizedLaws
namespace Go.Proofs.Ytmnojegajblagab.fnExactSameFS
open Go.ChangeShapes Go.WideShapes Go.ChangeAt Go.RowKit
open Go.Proofs.Ytmnojegajblagab.PFnExactSameFS Go.Proofs.Ytmnojegajblagab.Lib Go.Proofs.YtmnojegajblagabW.PrintWords
open Go.ChangeMaps (open_string shut_string)
set_option linter.unusedVariables false
theorem own : ownKnob Try.prog.godebug = none := by kernel_rfl
theorem laidOut : laidOutB Try.prog = true := by kernel_rfl
set_option maxRecDepth 100000 in
theorem lifted (os : Os) (started : os.Started) (H : Type) (enc : TypeId × Value → H) :
    ReturnsInHanded {} Try.checked os 8 .any (Rows.fnExactSameFSSpec.pre6 enc Try.prog Try.f8 Rows.fnExactSameFSRow.domain false) (Rows.fnExactSameFSSpec.post enc Try.prog Try.f8 false true false false) := by
  refine returnsInHanded_of_change_sized (C := Try.checked) own started (by kernel_rfl) Try.func8
    (ChangeSpec.witness6 (enc := enc) (C := Try.checked) false ⟨#[], #[.agg #[.int .i64 0, .slice none 0 0, .slice none 0 0, .slice none 0 0], .agg #[.int .i64 0, .slice none 0 0, .slice none 0 0, .slice none 0 0]], []⟩ 8 (by kernel_rfl) (by kernel_rfl) (by kernel_rfl) (by kernel_rfl)) ?_
  intro W base args ds gs before hval0 hW hcnd hsz0 _
  have hval : ∀ (j : Nat) t v, Try.f8.params[j]? = some t → args[j]? = some v → Value.okWide Try.prog W .any base t v := hval0
  have hW' := hW
  obtain ⟨p, q, hA0, hV, rfl, hfz, hnd⟩ := hW
  have hA : DataW.TrodAll enc Try.prog W 0 (fun _ => true) true Try.f8.params.toList args.toList ds p := hA0
  rw [Try.params8] at hA hval
  obtain ⟨v0, vs0, d0, ds0, p0, q0, hargs, rfl, rfl, h0, r0⟩ := trodAll_cons hA
  obtain ⟨v1, vs1, d1, ds1, p1, q1, rfl, rfl, rfl, h1, r1⟩ := trodAll_cons r0
  obtain ⟨rfl, rfl, rfl⟩ := trodAll_nil r1
  obtain rfl : args = #[v0, v1] := by cases args; simp_all
  obtain ⟨rfl, rfl⟩ := trodVars_none hV
  have k0 := h0
  have lt0 : ∀ x ∈ p0, x.block < W.heap.size := by obtain ⟨m, hm⟩ := k0; exact DataW.trod_lt m _ _ _ hm
  obtain ⟨m0, hm0⟩ := h0
  obtain ⟨cs0, rfl, hs0⟩ := okWide_struct Try.underlying61 (hval 0 61 v0 rfl rfl)
  obtain ⟨l0, K0, ok0⟩ := (Opens.struct Try.underlying61 (by kernel_rfl) (OpensAt.cons (by rfl) (by kernel_rfl) (Opens.int Try.underlying3) (OpensAt.cons (by rfl) (by kernel_rfl) (Opens.slice 158 Try.underlying57 (by kernel_rfl) (show Opens Try.prog 158 k158 _ from Opens.iso _ (fun x => (⟨x.1, x.2⟩ : S158)) (fun _ => rfl) (Opens.struct Try.underlying158 (by kernel_rfl) (OpensAt.cons (by rfl) (by kernel_rfl) (Opens.int Try.underlying3) (OpensAt.one (by rfl) (by kernel_rfl) (Opens.int Try.underlying3)))))) (OpensAt.cons (by rfl) (by kernel_rfl) (Opens.slice 32 Try.underlying58 (by kernel_rfl) (show Opens Try.prog 32 k32 _ from Opens.iso _ (fun x => (⟨x.1, x.2.1, x.2.2.1, x.2.2.2.1, x.2.2.2.2.1, x.2.2.2.2.2.1, x.2.2.2.2.2.2.1, x.2.2.2.2.2.2.2.1, x.2.2.2.2.2.2.2.2.1, x.2.2.2.2.2.2.2.2.2⟩ : S32)) (fun _ => rfl) (Opens.struct Try.underlying32 (by kernel_rfl) (OpensAt.cons (by rfl) (by kernel_rfl) (Opens.int Try.underlying3) (OpensAt.cons (by rfl) (by kernel_rfl) (Opens.int Try.underlying3) (OpensAt.cons (by rfl) (by kernel_rfl) (Opens.int Try.underlying3) (OpensAt.cons (by rfl) (by kernel_rfl) (Opens.int Try.underlying3) (OpensAt.cons (by rfl) (by kernel_rfl) (Opens.int Try.underlying3) (OpensAt.cons (by rfl) (by kernel_rfl) (Opens.int Try.underlying3) (OpensAt.cons (by rfl) (by kernel_rfl) (Opens.int Try.underlying3) (OpensAt.cons (by rfl) (by kernel_rfl) (Opens.slice 3 Try.underlying29 (by kernel_rfl) (Opens.int Try.underlying3)) (OpensAt.cons (by rfl) (by kernel_rfl) (Opens.slice 117 Try.underlying30 (by kernel_rfl) (show Opens Try.prog 117 k117 _ from Opens.iso _ (fun x => (⟨x.1, x.2.1, x.2.2⟩ : S117)) (fun _ => rfl) (Opens.struct Try.underlying117 (by kernel_rfl) (OpensAt.cons (by rfl) (by kernel_rfl) (Opens.int Try.underlying3) (OpensAt.cons (by rfl) (by kernel_rfl) (Opens.int Try.underlying3) (OpensAt.one (by rfl) (by kernel_rfl) (Opens.int Try.underlying3))))))) (OpensAt.one (by rfl) (by kernel_rfl) (Opens.slice 117 Try.underlying30 (by kernel_rfl) (show Opens Try.prog 117 k117 _ from Opens.iso _ (fun x => (⟨x.1, x.2.1, x.2.2⟩ : S117)) (fun _ => rfl) (Opens.struct Try.underlying117 (by kernel_rfl) (OpensAt.cons (by rfl) (by kernel_rfl) (Opens.int Try.underlying3) (OpensAt.cons (by rfl) (by kernel_rfl) (Opens.int Try.underlying3) (OpensAt.one (by rfl) (by kernel_rfl) (Opens.int Try.underlying3)))))))))))))))))))) (OpensAt.one (by rfl) (by kernel_rfl) (Opens.slice 9 Try.underlying59 (by kernel_rfl) (Opens.str Try.underlying9))))))) H enc W m0 _ _ hm0
  obtain ⟨_, _, z0, rfl, ⟨_, _, rfl, ⟨A0_1, c0_1, rfl, hl0_1, hC0_1⟩, ⟨_, _, rfl, ⟨A0_2, c0_2, rfl, hl0_2, hC0_2⟩, ⟨A0_3, c0_3, rfl, hl0_3, hC0_3⟩⟩⟩⟩ := K0
  have hcs0 : cs0 = #[.int .i64 l0.1, (.slice A0_1 l0.2.1.length c0_1 : Value), (.slice A0_2 l0.2.2.1.length c0_2 : Value), (.slice A0_3 l0.2.2.2.length c0_3 : Value)] := Array.toList_inj.1 z0
  subst hcs0
  have k1 := h1
  have lt1 : ∀ x ∈ p1, x.block < W.heap.size := by obtain ⟨m, hm⟩ := k1; exact DataW.trod_lt m _ _ _ hm
  obtain ⟨m1, hm1⟩ := h1
  obtain ⟨cs1, rfl, hs1⟩ := okWide_struct Try.underlying61 (hval 1 61 v1 rfl rfl)
  obtain ⟨l1, K1, ok1⟩ := (Opens.struct Try.underlying61 (by kernel_rfl) (OpensAt.cons (by rfl) (by kernel_rfl) (Opens.int Try.underlying3) (OpensAt.cons (by rfl) (by kernel_rfl) (Opens.slice 158 Try.underlying57 (by kernel_rfl) (show Opens Try.prog 158 k158 _ from Opens.iso _ (fun x => (⟨x.1, x.2⟩ : S158)) (fun _ => rfl) (Opens.struct Try.underlying158 (by kernel_rfl) (OpensAt.cons (by rfl) (by kernel_rfl) (Opens.int Try.underlying3) (OpensAt.one (by rfl) (by kernel_rfl) (Opens.int Try.underlying3)))))) (OpensAt.cons (by rfl) (by kernel_rfl) (Opens.slice 32 Try.underlying58 (by kernel_rfl) (show Opens Try.prog 32 k32 _ from Opens.iso _ (fun x => (⟨x.1, x.2.1, x.2.2.1, x.2.2.2.1, x.2.2.2.2.1, x.2.2.2.2.2.1, x.2.2.2.2.2.2.1, x.2.2.2.2.2.2.2.1, x.2.2.2.2.2.2.2.2.1, x.2.2.2.2.2.2.2.2.2⟩ : S32)) (fun _ => rfl) (Opens.struct Try.underlying32 (by kernel_rfl) (OpensAt.cons (by rfl) (by kernel_rfl) (Opens.int Try.underlying3) (OpensAt.cons (by rfl) (by kernel_rfl) (Opens.int Try.underlying3) (OpensAt.cons (by rfl) (by kernel_rfl) (Opens.int Try.underlying3) (OpensAt.cons (by rfl) (by kernel_rfl) (Opens.int Try.underlying3) (OpensAt.cons (by rfl) (by kernel_rfl) (Opens.int Try.underlying3) (OpensAt.cons (by rfl) (by kernel_rfl) (Opens.int Try.underlying3) (OpensAt.cons (by rfl) (by kernel_rfl) (Opens.int Try.underlying3) (OpensAt.cons (by rfl) (by kernel_rfl) (Opens.slice 3 Try.underlying29 (by kernel_rfl) (Opens.int Try.underlying3)) (OpensAt.cons (by rfl) (by kernel_rfl) (Opens.slice 117 Try.underlying30 (by kernel_rfl) (show Opens Try.prog 117 k117 _ from Opens.iso _ (fun x => (⟨x.1, x.2.1, x.2.2⟩ : S117)) (fun _ => rfl) (Opens.struct Try.underlying117 (by kernel_rfl) (OpensAt.cons (by rfl) (by kernel_rfl) (Opens.int Try.underlying3) (OpensAt.cons (by rfl) (by kernel_rfl) (Opens.int Try.underlying3) (OpensAt.one (by rfl) (by kernel_rfl) (Opens.int Try.underlying3))))))) (OpensAt.one (by rfl) (by kernel_rfl) (Opens.slice 117 Try.underlying30 (by kernel_rfl) (show Opens Try.prog 117 k117 _ from Opens.iso _ (fun x => (⟨x.1, x.2.1, x.2.2⟩ : S117)) (fun _ => rfl) (Opens.struct Try.underlying117 (by kernel_rfl) (OpensAt.cons (by rfl) (by kernel_rfl) (Opens.int Try.underlying3) (OpensAt.cons (by rfl) (by kernel_rfl) (Opens.int Try.underlying3) (OpensAt.one (by rfl) (by kernel_rfl) (Opens.int Try.underlying3)))))))))))))))))))) (OpensAt.one (by rfl) (by kernel_rfl) (Opens.slice 9 Try.underlying59 (by kernel_rfl) (Opens.str Try.underlying9))))))) H enc W m1 _ _ hm1
  obtain ⟨_, _, z1, rfl, ⟨_, _, rfl, ⟨A1_1, c1_1, rfl, hl1_1, hC1_1⟩, ⟨_, _, rfl, ⟨A1_2, c1_2, rfl, hl1_2, hC1_2⟩, ⟨A1_3, c1_3, rfl, hl1_3, hC1_3⟩⟩⟩⟩ := K1
  have hcs1 : cs1 = #[.int .i64 l1.1, (.slice A1_1 l1.2.1.length c1_1 : Value), (.slice A1_2 l1.2.2.1.length c1_2 : Value), (.slice A1_3 l1.2.2.2.length c1_3 : Value)] := Array.toList_inj.1 z1
  subst hcs1
  obtain ⟨k, hk⟩ := Pure.FnExactSameFS l0.1 l0.2.1 l0.2.2.1 l0.2.2.2 l1.1 l1.2.1 l1.2.2.1 l1.2.2.2 ok0 ok1
  refine (laws_FnExactSameFS.calls k l0.1 _ _ l0.2.1 _ _ l0.2.2.1 _ _ l0.2.2.2 l1.1 _ _ l1.2.1 _ _ l1.2.2.1 _ _ l1.2.2.2 W hC0_1 hl0_1 hC0_2 hl0_2 hC0_3 hl0_3 hC1_1 hl1_1 hC1_2 hl1_2 hC1_3 hl1_3 hk).mono ?_
  rintro e W' ⟨rfl, bel⟩
  exact ⟨_, rfl, _, _, _, [], _, [], hW', trodAll_mk1 (shut_bool Try.underlying4 _), (trodAll_cons_mk (Below.trod laidOut (by kernel_rfl) (of_decide_eq_true (by kernel_rfl)) k0 bel lt0) (trodAll_cons_mk (Below.trod laidOut (by kernel_rfl) (of_decide_eq_true (by kernel_rfl)) k1 bel lt1) trodAll_mk0)), rfl, bel.frame _, fun h => by cases h⟩
theorem over : Rows.fnExactSameFSRow.holds Try.pinned (OpenSpec.ofChange Rows.fnExactSameFSSpec) :=
  OpenClaim.holds_of_wide 8 Try.f8 rfl rfl rfl rfl rfl rfl rfl ⟨rfl, rfl, rfl, rfl, rfl⟩ rfl rfl rfl rfl rfl (by kernel_rfl) Try.func8 (by kernel_rfl)
    (of_decide_eq_true (by kernel_rfl)) (by unfold Func.isWrapper; first | (rw [if_pos (by decide +kernel)]; kernel_rfl) | (rw [if_neg (by decide +kernel)]; exact ⟨rfl, rfl⟩))
    (fun os started H enc _ => lifted os started H enc)
theorem proved : Rows.FnExactSameFSSaid := over
#print axioms proved
end Go.Proofs.Ytmnojegajblagab.fnExactSameFS
namespace Go.Proofs.Ytmnojegajblagab
/-- The row, under a short name, for the claim. -/
theorem fnExactSameFS_holds : Rows.FnExactSameFSSaid := fnExactSameFS.proved
end Go.Proofs.Ytmnojegajblagab
