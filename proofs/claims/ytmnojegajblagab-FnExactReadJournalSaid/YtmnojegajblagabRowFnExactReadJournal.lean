/- The row of the law FnExactReadJournal, out of the pure statement and the printed walk: for every input; no further condition. -/
import Derived.Test.YtmnojegajblagabRows
import Derived.Test.YtmnojegajblagabPFnExactReadJournalx13
import Derived.Test.YtmnojegajblagabPureFnExactReadJournal
import Derived.Test.YtmnojegajblagabLibOpen
import Derived.WalkKit
import Derived.ProofKit
import Derived.OpenShut
import Derived.ShutString
import Derived.ChangeOld
import Derived.Below
import Derived.SizedLaws
namespace Go.Proofs.Ytmnojegajblagab.fnExactReadJournal
open Go.ChangeShapes Go.WideShapes Go.ChangeAt Go.RowKit
open Go.Proofs.Ytmnojegajblagab.PFnExactReadJournal Go.Proofs.Ytmnojegajblagab.Lib Go.Proofs.YtmnojegajblagabW.PrintWords
open Go.ChangeMaps (open_string shut_string)
set_option linter.unusedVariables false
theorem own : ownKnob Try.prog.godebug = none := by kernel_rfl
theorem laidOut : laidOutB Try.prog = true := by kernel_rfl
set_option maxRecDepth 100000 in
theorem lifted (os : Os) (started : os.Started) (H : Type) (enc : TypeId × Value → H) :
    ReturnsInHanded {} Try.checked os 12 .any (Rows.fnExactReadJournalSpec.pre6 enc Try.prog Try.f12 Rows.fnExactReadJournalRow.domain false) (Rows.fnExactReadJournalSpec.post enc Try.prog Try.f12 false true false false) := by
  refine returnsInHanded_of_change_sized (C := Try.checked) own started (by kernel_rfl) Try.func12
    (ChangeSpec.witness6 (enc := enc) (C := Try.checked) false ⟨#[], #[.agg #[.slice none 0 0, .slice none 0 0]], []⟩ 8 (by kernel_rfl) (by kernel_rfl) (by kernel_rfl) (by kernel_rfl)) ?_
  intro W base args ds gs before hval0 hW hcnd hsz0 _
  have hval : ∀ (j : Nat) t v, Try.f12.params[j]? = some t → args[j]? = some v → Value.okWide Try.prog W .any base t v := hval0
  have hW' := hW
  obtain ⟨p, q, hA0, hV, rfl, hfz, hnd⟩ := hW
  have hA : DataW.TrodAll enc Try.prog W 0 (fun _ => true) true Try.f12.params.toList args.toList ds p := hA0
  rw [Try.params12] at hA hval
  obtain ⟨v0, vs0, d0, ds0, p0, q0, hargs, rfl, rfl, h0, r0⟩ := trodAll_cons hA
  obtain ⟨rfl, rfl, rfl⟩ := trodAll_nil r0
  obtain rfl : args = #[v0] := by cases args; simp_all
  obtain ⟨rfl, rfl⟩ := trodVars_none hV
  have k0 := h0
  have lt0 : ∀ x ∈ p0, x.block < W.heap.size := by obtain ⟨m, hm⟩ := k0; exact DataW.trod_lt m _ _ _ hm
  obtain ⟨m0, hm0⟩ := h0
  obtain ⟨cs0, rfl, hs0⟩ := okWide_struct Try.underlying87 (hval 0 87 v0 rfl rfl)
  obtain ⟨l0, K0, ok0⟩ := (Opens.struct Try.underlying87 (by kernel_rfl) (OpensAt.cons (by rfl) (by kernel_rfl) (Opens.slice 0 Try.underlying59 (by kernel_rfl) (Opens.str Try.underlying9)) (OpensAt.one (by rfl) (by kernel_rfl) (Opens.slice 0 Try.underlying22 (by kernel_rfl) (show Opens Try.prog 99 k99 _ from Opens.iso _ (fun x => (⟨x.1, x.2⟩ : S99)) (fun _ => rfl) (Opens.struct Try.underlying99 (by kernel_rfl) (OpensAt.cons (by rfl) (by kernel_rfl) (Opens.int Try.underlying3) (OpensAt.one (by rfl) (by kernel_rfl) (Opens.str Try.underlying9))))))))) H enc W m0 _ _ hm0
  obtain ⟨_, _, z0, ⟨A0_0, c0_0, rfl, hl0_0, hC0_0⟩, ⟨A0_1, c0_1, rfl, hl0_1, hC0_1⟩⟩ := K0
  have hcs0 : cs0 = #[(.slice A0_0 l0.1.length c0_0 : Value), (.slice A0_1 l0.2.length c0_1 : Value)] := Array.toList_inj.1 z0
  subst hcs0
  obtain ⟨k, hk⟩ := Pure.FnExactReadJournal l0.1 l0.2 ok0
  refine (laws_FnExactReadJournal.calls k _ _ l0.1 _ _ l0.2 W hC0_0 hl0_0 hC0_1 hl0_1 hk).mono ?_
  rintro e W' ⟨rfl, bel⟩
  exact ⟨_, rfl, _, _, _, [], _, [], hW', trodAll_mk1 (shut_bool Try.underlying4 _), (trodAll_cons_mk (Below.trod laidOut (by kernel_rfl) (of_decide_eq_true (by kernel_rfl)) k0 bel lt0) trodAll_mk0), rfl, bel.frame _, fun h => by cases h⟩
theorem over : Rows.fnExactReadJournalRow.holds Try.pinned (OpenSpec.ofChange Rows.fnExactReadJournalSpec) :=
  OpenClaim.holds_of_wide 12 Try.f12 rfl rfl rfl rfl rfl rfl rfl ⟨rfl, rfl, rfl, rfl, rfl⟩ rfl rfl rfl rfl rfl (by kernel_rfl) Try.func12 (by kernel_rfl)
    (of_decide_eq_true (by kernel_rfl)) (by unfold Func.isWrapper; first | (rw [if_pos (by decide +kernel)]; kernel_rfl) | (rw [if_neg (by decide +kernel)]; exact ⟨rfl, rfl⟩))
    (fun os started H enc _ => lifted os started H enc)
theorem proved : Rows.FnExactReadJournalSaid := over
#print axioms proved
end Go.Proofs.Ytmnojegajblagab.fnExactReadJournal
namespace Go.Proofs.Ytmnojegajblagab
/-- The row, under a short name, for the claim. -/
theorem fnExactReadJournal_holds : Rows.FnExactReadJournalSaid := fnExactReadJournal.proved
end Go.Proofs.Ytmnojegajblagab
