/- The row of the law FnExactFormatAcl, out of the pure statement and the printed walk: for every input; no further condition. -/
import Derived.Test.YtmnojegajblagabDoorRows
import Derived.Test.YtmnojegajblagabDoorPFnExactFormatAclx8
import Derived.Test.YtmnojegajblagabDoorPureFnExactFormatAcl
import Derived.Test.YtmnojegajblagabDoorLibOpen
import Derived.WalkKit
import Derived.ProofKit
import Derived.OpenShut
import Derived.ShutString
import Derived.ChangeOld
import Derived.Below
import Derived.SizedLaws
import Derived.Test.YtmnojegajblagabDoorCards
import Derived.Test.YtmnojegajblagabDoorTie
import Derived.Test.YtmnojegajblagabDoorLibDoorFnExactFormatAcl
import Derived.LaidMore
import Derived.Lay
import Derived.SevenTiedAt
import Derived.Stop.Joined
import Derived.Stop.LaidErr
import Derived.Shelf.Vars
import Derived.MakeChecks
namespace Go.Proofs.YtmnojegajblagabDoor.fnExactFormatAcl
open Go.ChangeShapes Go.WideShapes Go.ChangeAt Go.RowKit
open Go.Proofs.YtmnojegajblagabDoor.PFnExactFormatAcl Go.Proofs.YtmnojegajblagabDoor.Lib Go.Proofs.YtmnojegajblagabDoorW.PrintWords
open Go.ChangeMaps (open_string shut_string)
set_option linter.unusedVariables false
theorem own : ownKnob Tryd.prog.godebug = none := by kernel_rfl
theorem laidOut : laidOutB Tryd.prog = true := by kernel_rfl
set_option maxRecDepth 100000 in
theorem lifted (os : Os) (started : os.Started) (H : Type) (enc : TypeId × Value → H) :
    ReturnsInHanded {} Tryd.checked os 3 .any (fun w args => (Rows.fnExactFormatAclSpec.pre enc Tryd.prog Tryd.f3 Rows.fnExactFormatAclRow.domain false w args ∧ laidMetH Tryd.prog Rows.fnExactFormatAclRow.laid w) ∧ sizedMet enc Tryd.prog Tryd.f3 (OpenSpec.ofChange Rows.fnExactFormatAclSpec) false w args) (Rows.fnExactFormatAclSpec.post enc Tryd.prog Tryd.f3 false true false false) := by
  refine Lib.lift_door (C := Tryd.checked) (X := fun w _ => laidMetH Tryd.prog Rows.fnExactFormatAclRow.laid w) (fun _ _ _ hh h => h.of_heap hh) own started (by kernel_rfl) Tryd.func3
    (ChangeSpec.witness_shaped (enc := enc) (C := Tryd.checked) (os := os) (X := fun w _ => laidMetH Tryd.prog Rows.fnExactFormatAclRow.laid w) false (World.laidAll Tryd.prog os Rows.fnExactFormatAclRow.laid) #[.slice none 0 0] 8 (World.laidAll_os _ _ _)
      (World.shaped_of_ZipB (by kernel_rfl) (by kernel_rfl)) (by kernel_rfl) (by kernel_rfl) (by kernel_rfl)
      (by rw [MakeChecks.laidMetH_plain _ _ _ (by kernel_rfl)]; exact laidMet_laidAll _ (by kernel_rfl) (by kernel_rfl))) ?_
  intro W base args ds gs before hval0 hW hcnd hsz0 hL hSh _
  have hLp : laidMet Tryd.prog Rows.fnExactFormatAclRow.laid W := by
    rw [MakeChecks.laidMetH_plain _ _ _ (by kernel_rfl)] at hL
    exact hL
  have f_tab : Go.Lib.TabIs Tryd.prog W "internal/strconv.uint64pow10" .u64 Go.Lib.pow10Tab := Go.Lib.tabIs_of_head (g := 2) (t := 88) (e := 66) (n := 20) (by kernel_rfl) (by kernel_rfl) Tryd.underlying88 Tryd.underlying66 (by kernel_rfl) (by kernel_rfl) hLp.tail.tail
  have ht : Lib.Door W := f_tab
  have hval : ∀ (j : Nat) t v, Tryd.f3.params[j]? = some t → args[j]? = some v → Value.okWide Tryd.prog W .any base t v := hval0
  have hW' := hW
  obtain ⟨p, q, hA0, hV, rfl, hfz, hnd⟩ := hW
  have hA : DataW.TrodAll enc Tryd.prog W 0 (fun _ => true) true Tryd.f3.params.toList args.toList ds p := hA0
  rw [Tryd.params3] at hA hval
  obtain ⟨v0, vs0, d0, ds0, p0, q0, hargs, rfl, rfl, h0, r0⟩ := trodAll_cons hA
  obtain ⟨rfl, rfl, rfl⟩ := trodAll_nil r0
  obtain rfl : args = #[v0] := by cases args; simp_all
  obtain ⟨rfl, rfl⟩ := trodVars_none hV
  have k0 := h0
  have lt0 : ∀ x ∈ p0, x.block < W.heap.size := by obtain ⟨m, hm⟩ := k0; exact DataW.trod_lt m _ _ _ hm
  obtain ⟨m0, hm0⟩ := h0
  obtain ⟨e0, f0, g0, rfl⟩ := okWide_slice Tryd.underlying22 (hval 0 22 v0 rfl rfl)
  obtain ⟨l0, K0, ok0⟩ := (Opens.slice 0 Tryd.underlying22 (by kernel_rfl) (show Opens Tryd.prog 39 k39 _ from Opens.iso _ (fun x => (⟨x.1, x.2.1, x.2.2⟩ : S39)) (fun _ => rfl) (Opens.struct Tryd.underlying39 (by kernel_rfl) (OpensAt.cons (by rfl) (by kernel_rfl) (Opens.int Tryd.underlying3) (OpensAt.cons (by rfl) (by kernel_rfl) (Opens.int Tryd.underlying3) (OpensAt.one (by rfl) (by kernel_rfl) (Opens.int Tryd.underlying3))))))) H enc W m0 _ _ hm0
  obtain ⟨A0, c0, z0, hl0, hC0⟩ := K0
  simp only [Value.cells, List.cons.injEq, Value.slice.injEq, and_true] at z0
  obtain ⟨rfl, rfl, rfl⟩ := z0
  obtain ⟨k, hk⟩ := Pure.FnExactFormatAcl l0 ok0
  refine (laws_FnExactFormatAcl.calls k _ _ l0 W ht hC0 hl0 hk).mono ?_
  rintro e W' ⟨rfl, bel⟩
  exact ⟨_, rfl, _, _, _, [], _, [], hW', trodAll_mk1 (shut_bool Tryd.underlying4 _), (trodAll_cons_mk (Below.trod laidOut (by kernel_rfl) (of_decide_eq_true (by kernel_rfl)) k0 bel lt0) trodAll_mk0), rfl, bel.frame _, fun h => by cases h⟩
theorem over : Rows.fnExactFormatAclRow.holds Tryd.pinned (OpenSpec.ofChange Rows.fnExactFormatAclSpec) :=
  OpenClaim.holds_of_wide 3 Tryd.f3 rfl rfl rfl rfl rfl rfl rfl ⟨rfl, rfl, rfl, rfl, rfl⟩ rfl rfl rfl rfl rfl (by kernel_rfl) Tryd.func3 (by kernel_rfl)
    (of_decide_eq_true (by kernel_rfl)) (by unfold Func.isWrapper; first | (rw [if_pos (by decide +kernel)]; kernel_rfl) | (rw [if_neg (by decide +kernel)]; exact ⟨rfl, rfl⟩))
    (fun os started H enc _ => lifted os started H enc)
theorem proved : Rows.FnExactFormatAclSaid := over
#print axioms proved
theorem card : Rows.FnExactFormatAclCardSaid :=
  Claim7.holds_tied_plain_at .later [] [.data, .data, .data] true (true, "77e45dfdb3eceaf151ae7f5334b883586b734da02ba89b2b6f5f7872ac26a959") true over (fun _ h => by cases h) (by kernel_rfl) (fun _ h => by cases h) fnExactFormatAcl_row_tie rfl ⟨rfl, rfl⟩ (by kernel_rfl) rfl
    (fun f fn hf hfn => by
      obtain rfl : f = 3 := Option.some.inj ((show Tryd.prog.funcNamed "loop.example/g00817/laws.FnExactFormatAcl" = some 3 by kernel_rfl).symm.trans hf) |>.symm
      obtain rfl : fn = Tryd.f3 := (Option.some.inj (Tryd.func3.symm.trans hfn)).symm
      exact ⟨by kernel_rfl, fun j t ht => by
        rw [Tryd.params3] at ht
        have hm : t ∈ [22] := by simpa using Array.mem_of_getElem? ht
        have hall : ([22].all fun u => !Tryd.prog.wantsStandIn u) = true := by kernel_rfl
        exact (show Tryd.prog.wantsStandIn t = false by simpa using List.all_eq_true.1 hall t hm)⟩)
    (by kernel_rfl)
#print axioms card
end Go.Proofs.YtmnojegajblagabDoor.fnExactFormatAcl
namespace Go.Proofs.YtmnojegajblagabDoor
/-- The row, under a short name, for the claim. -/
theorem fnExactFormatAcl_holds : Rows.FnExactFormatAclCardSaid := fnExactFormatAcl.card
end Go.Proofs.YtmnojegajblagabDoor
