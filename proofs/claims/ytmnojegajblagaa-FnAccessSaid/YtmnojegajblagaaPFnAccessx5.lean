-- Written by a program of this session over Lean's own print of the program.
import Derived.Test.YtmnojegajblagaaPFnAccessx0
namespace Go.Proofs.Ytmnojegajblagaa.PFnAccess
open Go.RowKit Go.Proofs.YtmnojegajblagaaW.PrintWords Go.Proofs.YtmnojegajblagaaW.PrintLast Go.Proofs.YtmnojegajblagaaW.PrintMore
attribute [local go_sem] max2_int min2_int max_two min_two max_three min_three max_four min_four   -- for this text's walks alone
set_option linter.unusedVariables false
set_option linter.unusedSimpArgs false

/-! ### impl_Allowed_1: function 112 -/
/-- The closure of impl.Allowed: are all wanted bits there. -/
def impl_Allowed_1.f (a0 : Int) (a1_0 : Int) : Option Bool := some ((Go.bits .and .i64 a0 a1_0) == a1_0)
theorem impl_Allowed_1.same {g : Nat} (a0 : Int) (a1_0 : Int) (w : World) (hbx : w.heap[g]? = some (.cells #[.int .i64 a1_0] 3 (0, 0))) :
 Calls Try.prog 112 #[.int .i64 a0, .pointer (some ⟨g, 0, none⟩)] w fun e w' => e = .returned (.bool ((Go.bits .and .i64 a0 a1_0) == a1_0)) ∧ w' = w := by
 have hc : w.cell? ⟨g, 0, none⟩ = some (.int .i64 a1_0) := (blk_cell hbx 0).trans rfl
 go_enter Try.func112, Try.ntmps112
 go_wp2
 go_ret
 exact ⟨by first | rfl | (simp; done) | (simp [*]; done), rfl⟩
theorem impl_Allowed_1.calls {g : Nat} (a0 : Int) (a1_0 : Int) (r : Bool) (w : World) (hbx : w.heap[g]? = some (.cells #[.int .i64 a1_0] 3 (0, 0))) (h : impl_Allowed_1.f a0 a1_0 = some r) :
 Calls Try.prog 112 #[.int .i64 a0, .pointer (some ⟨g, 0, none⟩)] w fun e w' => e = .returned (.bool r) ∧ Below w.heap.size w w' := by
 obtain rfl := Option.some.inj h
 refine (impl_Allowed_1.same a0 a1_0 w hbx).mono ?_
 rintro e w' ⟨rfl, rfl⟩
 exact ⟨rfl, Below.refl _ _⟩

/-! ### slices_ContainsFunc_int_int: function 113 -/
/-- slices.ContainsFunc over the closure of impl.Allowed. -/
def slices_ContainsFunc_int_int.f (l0 : List Int) (a1_0 : Int) : Option Bool := if l0.length ≤ 4611686018427387904 then some (l0.any fun x => (Go.bits .and .i64 x a1_0) == a1_0) else none
set_option maxHeartbeats 8000000 in
set_option maxRecDepth 100000 in
theorem slices_ContainsFunc_int_int.index {g : Nat} (A0 : Option Addr) (c0 : Nat) (l0 : List Int) (a1_0 : Int) (w : World) (hr0 : Kd.C (Kd.int .i64) w A0 l0.length l0) (hl : (l0.length : Int) ≤ 4611686018427387904) (hbx : w.heap[g]? = some (.cells #[.int .i64 a1_0] 3 (0, 0))) :
 Calls Try.prog 150 #[.slice A0 l0.length c0, .func (.func 112) #[] #[.pointer (some ⟨g, 0, none⟩)]] w fun e w' => ∃ i : Int, e = .returned (.int .i64 i) ∧ decide (i ≥ 0) = (l0.any fun x => (Go.bits .and .i64 x a1_0) == a1_0) ∧ w = w' := by
 have HR0 := Aside0.mk hr0
 have HX := Aside0.mk hbx
 have HL := Aside0.mk hl
 clear hr0 hbx hl
 go_enter Try.func150, Try.ntmps150
 go_wp2
 go_loopg [8] (l0.length + 1) (fun kq v8 w' => ∃ (x : Int), v8 = .int .i64 x ∧ Aside0 (0 ≤ x ∧ x ≤ (l0.length : Int) ∧ (l0.length : Int) - x < (kq : Int)) ∧ Aside0 (((l0.drop x.toNat).any fun x => (Go.bits .and .i64 x a1_0) == a1_0) = (l0.any fun x => (Go.bits .and .i64 x a1_0) == a1_0)) ∧ w = w')
 case atStart => exact ⟨0, rfl, ⟨by omega⟩, ⟨rfl⟩, rfl⟩
 case round =>
  obtain ⟨x, rfl, HM, HJ, rfl⟩ := hrel
  cases gk with
  | zero => exact absurd HM.out (by omega)
  | succ k1 =>
   have p0 := HM.out.1
   by_cases c : x < (l0.length : Int)
   ·
    have hd : l0.drop x.toNat = rd l0 x :: l0.drop (x.toNat + 1) := by
     rw [List.drop_eq_getElem_cons (by omega)]
     congr 1
     show _ = l0.getD x.toNat 0
     rw [List.getD_eq_getElem?_getD, List.getElem?_eq_getElem (by omega)]
     rfl
    have HD := Aside0.mk hd
    have b0 : decide (x < (l0.length : Int)) = true := decide_eq_true c
    have b1 : decide (0 ≤ x) = true := decide_eq_true p0
    obtain ⟨ad, e0, hx0⟩ := Kd.at_int HR0.out x p0 c
    cases e0
    clear hd
    replace p0 := eq_true p0
    replace c := eq_true c
    cases hP : ((Go.bits .and .i64 (rd l0 x) a1_0) == a1_0) with
    | true =>
     go_wp2_with (first | ((with_reducible refine Lib.gate_slot (s := 11) rfl ?_); refine Lib.goesClos_ (.tmp 11) rfl (some 16) rfl rfl Try.func112 (by kernel_rfl) rfl #[.int .i64 (rd l0 x), .pointer (some ⟨g, 0, none⟩)] rfl (by simp; rfl) ?_; refine (impl_Allowed_1.same (rd l0 x) a1_0 _ HX.out).mono ?_; rintro e w' ⟨rfl, rfl⟩; rw [hP]; refine ⟨_, rfl, ?_⟩))
     go_ret
     exact ⟨x, rfl, by rw [← HJ.out, HD.out, List.any_cons, hP, Bool.true_or]; exact decide_eq_true HM.out.1, rfl⟩
    | false =>
     go_wp2_with (first | ((with_reducible refine Lib.gate_slot (s := 11) rfl ?_); refine Lib.goesClos_ (.tmp 11) rfl (some 16) rfl rfl Try.func112 (by kernel_rfl) rfl #[.int .i64 (rd l0 x), .pointer (some ⟨g, 0, none⟩)] rfl (by simp; rfl) ?_; refine (impl_Allowed_1.same (rd l0 x) a1_0 _ HX.out).mono ?_; rintro e w' ⟨rfl, rfl⟩; rw [hP]; refine ⟨_, rfl, ?_⟩))
     go_roundg k1
     case measure => exact Nat.lt_succ_self _
     case rel =>
      have hc := of_eq_true c
      have h0 := HM.out.1
      have h1 := HM.out.2.2
      have h2 := HL.out
      have hw : wrap64 (x + 1) = x + 1 := by unfold wrap64; omega
      refine ⟨x + 1, by first | rfl | (rw [hw]; done) | simp [hw], ⟨by omega⟩, ⟨?_⟩, rfl⟩
      rw [← HJ.out, HD.out, List.any_cons, hP, Bool.false_or, show (x + 1).toNat = x.toNat + 1 by omega]
   ·
    have b0 : decide (x < (l0.length : Int)) = false := decide_eq_false c
    go_wp2
    go_ret
    refine ⟨-1, rfl, ?_, rfl⟩
    rw [← HJ.out, List.drop_eq_nil_of_le (by omega)]
    rfl
theorem slices_ContainsFunc_int_int.calls {g : Nat} (A0 : Option Addr) (c0 : Nat) (l0 : List Int) (a1_0 : Int) (r : Bool) (w : World) (hr0 : Kd.C (Kd.int .i64) w A0 l0.length l0) (hc0 : l0.length ≤ c0) (hbx : w.heap[g]? = some (.cells #[.int .i64 a1_0] 3 (0, 0))) (h : slices_ContainsFunc_int_int.f l0 a1_0 = some r) :
 Calls Try.prog 113 #[.slice A0 l0.length c0, .func (.func 112) #[] #[.pointer (some ⟨g, 0, none⟩)]] w fun e w' => e = .returned (.bool r) ∧ Below w.heap.size w w' := by
 unfold slices_ContainsFunc_int_int.f at h
 by_cases hl0 : l0.length ≤ 4611686018427387904
 case neg =>
  rw [if_neg hl0] at h
  cases h
 rw [if_pos hl0] at h
 obtain rfl := Option.some.inj h
 have hl : (l0.length : Int) ≤ 4611686018427387904 := by omega
 clear hl0
 have HI := Aside0.mk (slices_ContainsFunc_int_int.index A0 c0 l0 a1_0 w hr0 hl hbx)
 clear hr0 hbx hl
 go_enter Try.func113, Try.ntmps113
 go_wp2_with (first | ((with_reducible refine gate_callee (f := 150) rfl ?_); refine goesL_ (some 7) rfl rfl Try.func150 (by kernel_rfl) rfl #[.slice A0 l0.length c0, .func (.func 112) #[] #[.pointer (some ⟨g, 0, none⟩)]] rfl (by (try simp only [List.map_toArray, List.map_cons, List.map_nil]); first | done | rfl) ?_; refine HI.out.mono ?_; rintro e w' ⟨i, rfl, hi, rfl⟩; refine ⟨_, rfl, ?_⟩))
 go_ret
 exact ⟨by rw [← hi]; rfl, Below.refl _ _⟩

end Go.Proofs.Ytmnojegajblagaa.PFnAccess
