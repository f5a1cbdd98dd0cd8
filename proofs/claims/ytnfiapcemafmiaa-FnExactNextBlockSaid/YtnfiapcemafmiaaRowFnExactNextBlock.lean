/- The row of the law FnExactNextBlock, out of the pure statement and the printed walk: for every input; no further condition. -/
import Derived.Test.YtnfiapcemafmiaaRows
import Derived.Test.YtnfiapcemafmiaaPFnExactNextBlockx17
import Derived.Test.YtnfiapcemafmiaaPureFnExactNextBlock
import Derived.Test.YtnfiapcemafmiaaLibOpen
import Derived.WalkKit
import Derived.ProofKit
import Derived.OpenShut
import Derived.ShutString
import Derived.ChangeOld
import Derived.Below
import Derived.SizedLaws
namespace Go.Proofs.Ytnfiapcemafmiaa.fnExactNextBlock
open Go.ChangeShapes Go.WideShapes Go.ChangeAt Go.RowKit
open Go.Proofs.Ytnfiapcemafmiaa.PFnExactNextBlock Go.Proofs.Ytnfiapcemafmiaa.Lib Go.Proofs.YtnfiapcemafmiaaW.PrintWords
open Go.ChangeMaps (open_string shut_string)
set_option linter.unusedVariables false
theorem own : ownKnob Try.prog.godebug = none := by kernel_rfl
theorem laidOut : laidOutB Try.prog = true := by kernel_rfl
set_option maxRecDepth 100000 in
theorem lifted (os : Os) (started : os.Started) (H : Type) (enc : TypeId × Value → H) :
    ReturnsInHanded {} Try.checked os 4 .any (Rows.fnExactNextBlockSpec.pre6 enc Try.prog Try.f4 Rows.fnExactNextBlockRow.domain false) (Rows.fnExactNextBlockSpec.post enc Try.prog Try.f4 false true false false) := by
  refine returnsInHanded_of_change_sized (C := Try.checked) own started (by kernel_rfl) Try.func4
    (ChangeSpec.witness6 (enc := enc) (C := Try.checked) false ⟨#[], #[.agg #[.int .i64 0, .slice none 0 0, .slice none 0 0, .slice none 0 0], .int .i64 0], []⟩ 8 (by kernel_rfl) (by kernel_rfl) (by kernel_rfl) (by kernel_rfl)) ?_
  intro W base args ds gs before hval0 hW hcnd hsz0 _
  have hval : ∀ (j : Nat) t v, Try.f4.params[j]? = some t → args[j]? = some v → Value.okWide Try.prog W .any base t v := hval0
  have hW' := hW
  obtain ⟨p, q, hA0, hV, rfl, hfz, hnd⟩ := hW
  have hA : DataW.TrodAll enc Try.prog W 0 (fun _ => true) true Try.f4.params.toList args.toList ds p := hA0
  rw [Try.params4] at hA hval
  obtain ⟨v0, vs0, d0, ds0, p0, q0, hargs, rfl, rfl, h0, r0⟩ := trodAll_cons hA
  obtain ⟨v1, vs1, d1, ds1, p1, q1, rfl, rfl, rfl, h1, r1⟩ := trodAll_cons r0
  obtain ⟨rfl, rfl, rfl⟩ := trodAll_nil r1
  obtain rfl : args = #[v0, v1] := by cases args; simp_all
  obtain ⟨rfl, rfl⟩ := trodVars_none hV
  have k0 := h0
  have lt0 : ∀ x ∈ p0, x.block < W.heap.size := by obtain ⟨m, hm⟩ := k0; exact DataW.trod_lt m _ _ _ hm
  obtain ⟨m0, hm0⟩ := h0
  obtain ⟨cs0, rfl, hs0⟩ := okWide_struct Try.underlying35 (hval 0 35 v0 rfl rfl)
  obtain ⟨l0, K0, ok0⟩ := (Opens.struct Try.underlying35 (by kernel_rfl) (OpensAt.cons (by rfl) (by kernel_rfl) (Opens.int Try.underlying3) (OpensAt.cons (by rfl) (by kernel_rfl) (Opens.slice 123 Try.underlying31 (by kernel_rfl) (show Opens Try.prog 123 k123 _ from Opens.iso _ (fun x => (⟨x.1, x.2⟩ : S123)) (fun _ => rfl) (Opens.struct Try.underlying123 (by kernel_rfl) (OpensAt.cons (by rfl) (by kernel_rfl) (Opens.int Try.underlying3) (OpensAt.one (by rfl) (by kernel_rfl) (Opens.int Try.underlying3)))))) (OpensAt.cons (by rfl) (by kernel_rfl) (Opens.slice 121 Try.underlying32 (by kernel_rfl) (show Opens Try.prog 121 k121 _ from Opens.iso _ (fun x => (⟨x.1, x.2.1, x.2.2.1, x.2.2.2.1, x.2.2.2.2.1, x.2.2.2.2.2.1, x.2.2.2.2.2.2.1, x.2.2.2.2.2.2.2.1, x.2.2.2.2.2.2.2.2.1, x.2.2.2.2.2.2.2.2.2⟩ : S121)) (fun _ => rfl) (Opens.struct Try.underlying121 (by kernel_rfl) (OpensAt.cons (by rfl) (by kernel_rfl) (Opens.int Try.underlying3) (OpensAt.cons (by rfl) (by kernel_rfl) (Opens.int Try.underlying3) (OpensAt.cons (by rfl) (by kernel_rfl) (Opens.int Try.underlying3) (OpensAt.cons (by rfl) (by kernel_rfl) (Opens.int Try.underlying3) (OpensAt.cons (by rfl) (by kernel_rfl) (Opens.int Try.underlying3) (OpensAt.cons (by rfl) (by kernel_rfl) (Opens.int Try.underlying3) (OpensAt.cons (by rfl) (by kernel_rfl) (Opens.int Try.underlying3) (OpensAt.cons (by rfl) (by kernel_rfl) (Opens.slice 3 Try.underlying22 (by kernel_rfl) (Opens.int Try.underlying3)) (OpensAt.cons (by rfl) (by kernel_rfl) (Opens.slice 165 Try.underlying119 (by kernel_rfl) (show Opens Try.prog 165 k165 _ from Opens.iso _ (fun x => (⟨x.1, x.2.1, x.2.2⟩ : S165)) (fun _ => rfl) (Opens.struct Try.underlying165 (by kernel_rfl) (OpensAt.cons (by rfl) (by kernel_rfl) (Opens.int Try.underlying3) (OpensAt.cons (by rfl) (by kernel_rfl) (Opens.int Try.underlying3) (OpensAt.one (by rfl) (by kernel_rfl) (Opens.int Try.underlying3))))))) (OpensAt.one (by rfl) (by kernel_rfl) (Opens.slice 165 Try.underlying119 (by kernel_rfl) (show Opens Try.prog 165 k165 _ from Opens.iso _ (fun x => (⟨x.1, x.2.1, x.2.2⟩ : S165)) (fun _ => rfl) (Opens.struct Try.underlying165 (by kernel_rfl) (OpensAt.cons (by rfl) (by kernel_rfl) (Opens.int Try.underlying3) (OpensAt.cons (by rfl) (by kernel_rfl) (Opens.int Try.underlying3) (OpensAt.one (by rfl) (by kernel_rfl) (Opens.int Try.underlying3)))))))))))))))))))) (OpensAt.one (by rfl) (by kernel_rfl) (Opens.slice 9 Try.underlying33 (by kernel_rfl) (Opens.str Try.underlying9))))))) H enc W m0 _ _ hm0
  obtain ⟨_, _, z0, rfl, ⟨_, _, rfl, ⟨A0_1, c0_1, rfl, hl0_1, hC0_1⟩, ⟨_, _, rfl, ⟨A0_2, c0_2, rfl, hl0_2, hC0_2⟩, ⟨A0_3, c0_3, rfl, hl0_3, hC0_3⟩⟩⟩⟩ := K0
  have hcs0 : cs0 = #[.int .i64 l0.1, (.slice A0_1 l0.2.1.length c0_1 : Value), (.slice A0_2 l0.2.2.1.length c0_2 : Value), (.slice A0_3 l0.2.2.2.length c0_3 : Value)] := Array.toList_inj.1 z0
  subst hcs0
  obtain ⟨a1, rfl, rfl, rfl, w1⟩ := open_int Try.underlying3 (hval 1 3 v1 rfl rfl) h1
  obtain ⟨k, hk⟩ := Pure.FnExactNextBlock l0.1 l0.2.1 l0.2.2.1 l0.2.2.2 a1 ok0 w1
  refine (laws_FnExactNextBlock.calls k l0.1 _ _ l0.2.1 _ _ l0.2.2.1 _ _ l0.2.2.2 a1 W hC0_1 hl0_1 hC0_2 hl0_2 hC0_3 hl0_3 hk).mono ?_
  rintro e W' ⟨rfl, bel⟩
  exact ⟨_, rfl, _, _, _, [], _, [], hW', trodAll_mk1 (shut_bool Try.underlying4 _), (trodAll_cons_mk (Below.trod laidOut (by kernel_rfl) (of_decide_eq_true (by kernel_rfl)) k0 bel lt0) (trodAll_cons_mk (shut_int Try.underlying3 w1) trodAll_mk0)), rfl, bel.frame _, fun h => by cases h⟩
theorem over : Rows.fnExactNextBlockRow.holds Try.pinned (OpenSpec.ofChange Rows.fnExactNextBlockSpec) :=
  OpenClaim.holds_of_wide 4 Try.f4 rfl rfl rfl rfl rfl rfl rfl ⟨rfl, rfl, rfl, rfl, rfl⟩ rfl rfl rfl rfl rfl (by kernel_rfl) Try.func4 (by kernel_rfl)
    (of_decide_eq_true (by kernel_rfl)) (by unfold Func.isWrapper; first | (rw [if_pos (by decide +kernel)]; kernel_rfl) | (rw [if_neg (by decide +kernel)]; exact ⟨rfl, rfl⟩))
    (fun os started H enc _ => lifted os started H enc)
theorem proved : Rows.FnExactNextBlockSaid := over
#print axioms proved
end Go.Proofs.Ytnfiapcemafmiaa.fnExactNextBlock
namespace Go.Proofs.Ytnfiapcemafmiaa
/-- The row, under a short name, for the claim. -/
theorem fnExactNextBlock_holds : Rows.FnExactNextBlockSaid := fnExactNextBlock.proved
end Go.Proofs.Ytnfiapcemafmiaa
