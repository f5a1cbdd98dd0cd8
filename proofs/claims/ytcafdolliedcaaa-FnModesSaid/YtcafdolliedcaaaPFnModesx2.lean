-- Written by a program of this session over Lean's own print of the program.
import Derived.Test.YtcafdolliedcaaaPFnModesx0
import Derived.Test.YtcafdolliedcaaaPFnModesx1
namespace Go.Proofs.Ytcafdolliedcaaa.PFnModes
open Go.RowKit Go.Proofs.YtcafdolliedcaaaW.PrintWords Go.Proofs.YtcafdolliedcaaaW.PrintLast Go.Proofs.YtcafdolliedcaaaW.PrintMore
attribute [local go_sem] max2_int min2_int max_two min_two max_three min_three max_four min_four   -- for this text's walks alone
set_option linter.unusedVariables false
set_option linter.unusedSimpArgs false

/-! ### laws_FnModes: function 14 -/
def laws_FnModes.f (k : Nat) (l0 : List Int) : Option (Bool) := if (l0.length : Int) > 1048576 then (some true) else ((spec_MakeNum.f k l0 1).bind fun t113 => ((impl_FormatMode.f k (Int.tmod t113 2048)).bind fun t114 => ((impl_ParseMode.f k t114).bind fun bt115 => ((impl_ParseMode.f k (⟨#[114, 119, 120, 114, 119, 120, 114, 119, 120]⟩ : ByteArray)).bind fun bt117 => (if bt115.2 = true then (if bt115.1 = (Int.tmod t113 2048) then (if bt117.2 = true then (some false) else ((impl_PermOf.f (Int.tmod t113 2048) 0).bind fun t119 => ((impl_PermOf.f (Int.tmod t113 2048) 1).bind fun t120 => ((impl_PermOf.f (Int.tmod t113 2048) 2).bind fun t121 => (some ((wrap64 ((wrap64 ((wrap64 (t119 * 64)) + (wrap64 (t120 * 8)))) + t121)) == (Int.tmod (Int.tmod t113 2048) 512))))))) else (some false)) else (some false))))))
theorem laws_FnModes.mono : ∀ a0 k, LeO (laws_FnModes.f k a0) (laws_FnModes.f (k + 1) a0) := by
  intro a0 k
  unfold laws_FnModes.f
  repeat' first
      | (with_reducible exact impl_FormatMode.mono _ _)
      | (with_reducible exact impl_ParseMode.mono _ _)
      | (with_reducible exact spec_MakeNum.mono _ _ _)
      | (with_reducible exact LeO.refl _)
      | (with_reducible exact LeO.none _)
      | (with_reducible refine LeO.ite ?_ ?_)
      | (with_reducible refine LeO.bind ?_ (fun _ => ?_))
      | exact impl_FormatMode.mono _ _
      | exact impl_ParseMode.mono _ _
      | exact spec_MakeNum.mono _ _ _
      | exact LeO.none _
      | refine LeO.ite ?_ ?_
      | refine LeO.bind ?_ (fun _ => ?_)
set_option maxHeartbeats 8000000 in
set_option maxRecDepth 100000 in
theorem laws_FnModes.calls (k : Nat) (A0 : Option Addr) (c0 : Nat) (l0 : List Int) (w : World) (hr0 : Kd.C (Kd.int .u8) w A0 l0.length l0) (hc0 : l0.length ≤ c0) (h : laws_FnModes.f k l0 = some true) :
    Calls Try.prog 14 #[.slice A0 l0.length c0] w fun e w' => e = .returned (.bool true) ∧ Below w.heap.size w w' := by
  have HR0 := Aside0.mk hr0
  have HC0 := Aside0.mk hc0
  clear hr0 hc0
  have HB := Aside0.mk (Below.refl w.heap.size w)
  have H : (if (l0.length : Int) > 1048576 then (some true) else ((spec_MakeNum.f k l0 1).bind fun t113 => ((impl_FormatMode.f k (Int.tmod t113 2048)).bind fun t114 => ((impl_ParseMode.f k t114).bind fun bt115 => ((impl_ParseMode.f k (⟨#[114, 119, 120, 114, 119, 120, 114, 119, 120]⟩ : ByteArray)).bind fun bt117 => (if bt115.2 = true then (if bt115.1 = (Int.tmod t113 2048) then (if bt117.2 = true then (some false) else ((impl_PermOf.f (Int.tmod t113 2048) 0).bind fun t119 => ((impl_PermOf.f (Int.tmod t113 2048) 1).bind fun t120 => ((impl_PermOf.f (Int.tmod t113 2048) 2).bind fun t121 => (some ((wrap64 ((wrap64 ((wrap64 (t119 * 64)) + (wrap64 (t120 * 8)))) + t121)) == (Int.tmod (Int.tmod t113 2048) 512))))))) else (some false)) else (some false))))))) = some true := h
  clear h
  by_cases c2 : (l0.length : Int) > 1048576
  · rw [if_pos c2] at H
    have c2b0 : decide (1048576 < (l0.length : Int)) = true := decide_eq_true c2
    have c2b1 : decide (1048576 < l0.length) = true := decide_eq_true (by omega)
    clear c2
    have hE_ := Option.some.inj H
    go_enter Try.func14, Try.ntmps14
    go_wp2
    go_ret
    exact ⟨by first | rfl | (simp [errW_none, errW_some] <;> rfl) | (simp at hE_ ⊢; exact hE_) | (simp [*, errW_none, errW_some] <;> rfl), by repeat (first | (with_reducible first | exact HB.out | apply below_alloc | apply pw_below_drewN | apply below_drew1) | exact HB.out)⟩
  · rw [if_neg c2] at H
    have c2b0 : decide (1048576 < (l0.length : Int)) = false := decide_eq_false c2
    have c2b1 : decide (1048576 < l0.length) = false := decide_eq_false (by omega)
    clear c2
    replace H := Option.bind_eq_some_iff.mp H
    obtain ⟨t113, A30, H⟩ := H
    try dsimp only at H
    have A3 := Aside0.mk A30
    clear A30
    replace H := Option.bind_eq_some_iff.mp H
    obtain ⟨t114, A40, H⟩ := H
    try dsimp only at H
    have A4 := Aside0.mk A40
    clear A40
    replace H := Option.bind_eq_some_iff.mp H
    obtain ⟨⟨t115, t116⟩, A50, H⟩ := H
    try dsimp only at H
    have A5 := Aside0.mk A50
    clear A50
    replace H := Option.bind_eq_some_iff.mp H
    obtain ⟨⟨t117, t118⟩, A60, H⟩ := H
    try dsimp only at H
    have A6 := Aside0.mk A60
    clear A60
    by_cases c7 : t116 = true
    · subst c7
      have H1 : (if t115 = (Int.tmod t113 2048) then (if t118 = true then (some false) else ((impl_PermOf.f (Int.tmod t113 2048) 0).bind fun t119 => ((impl_PermOf.f (Int.tmod t113 2048) 1).bind fun t120 => ((impl_PermOf.f (Int.tmod t113 2048) 2).bind fun t121 => (some ((wrap64 ((wrap64 ((wrap64 (t119 * 64)) + (wrap64 (t120 * 8)))) + t121)) == (Int.tmod (Int.tmod t113 2048) 512))))))) else (some false)) = some true := by rw [if_pos rfl] at H; exact H
      clear H
      have H := H1
      clear H1
      by_cases c8 : t115 = (Int.tmod t113 2048)
      · rw [if_pos c8] at H
        have c8b0 : (t115 == (Int.tmod t113 2048)) = true := beq_iff_eq.mpr c8
        have c8b1 : (t115 != (Int.tmod t113 2048)) = false := bne_eq_false_iff_eq.mpr c8
        clear c8
        by_cases c9 : t118 = true
        · subst c9
          have H1 : (some false) = some true := by rw [if_pos rfl] at H; exact H
          clear H
          have H := H1
          clear H1
          exact absurd H (by simp)
        · replace c9 := Bool.eq_false_iff.mpr c9
          subst c9
          have H1 : ((impl_PermOf.f (Int.tmod t113 2048) 0).bind fun t119 => ((impl_PermOf.f (Int.tmod t113 2048) 1).bind fun t120 => ((impl_PermOf.f (Int.tmod t113 2048) 2).bind fun t121 => (some ((wrap64 ((wrap64 ((wrap64 (t119 * 64)) + (wrap64 (t120 * 8)))) + t121)) == (Int.tmod (Int.tmod t113 2048) 512)))))) = some true := by rw [if_neg (show ¬ (false = true) by decide)] at H; exact H
          clear H
          have H := H1
          clear H1
          replace H := Option.bind_eq_some_iff.mp H
          obtain ⟨t119, A100, H⟩ := H
          try dsimp only at H
          have A10 := Aside0.mk A100
          clear A100
          replace H := Option.bind_eq_some_iff.mp H
          obtain ⟨t120, A110, H⟩ := H
          try dsimp only at H
          have A11 := Aside0.mk A110
          clear A110
          replace H := Option.bind_eq_some_iff.mp H
          obtain ⟨t121, A120, H⟩ := H
          replace H : (some ((wrap64 ((wrap64 ((wrap64 (t119 * 64)) + (wrap64 (t120 * 8)))) + t121)) == (Int.tmod (Int.tmod t113 2048) 512))) = some true := H
          have A12 := Aside0.mk A120
          clear A120
          have hE_ := Option.some.inj H
          go_enter Try.func14, Try.ntmps14
          go_wp2_with (first | ((with_reducible refine gate_callee (f := 28) rfl ?_); refine goesL_ (some 12) rfl rfl Try.func28 (by kernel_rfl) rfl #[.slice A0 l0.length c0, .int .i64 1] rfl (by (try simp only [List.map_toArray, List.map_cons, List.map_nil]); first | done | rfl | (simp only [List.length_drop, List.length_take]; rfl)) ?_; (with_reducible refine (spec_MakeNum.calls k _ _ l0 1 t113 _ ?side1 ?side2 A3.out).mono ?_); (case side1 => repeat (first | exact HR0.out | (with_reducible refine Kd.C_alloc ?_ _) | (with_reducible refine Kd.C_drewN ?_ _) | (with_reducible refine Kd.C_drew ?_))); (case side2 => exact HC0.out); rintro e w13 ⟨rfl, hb⟩; refine ⟨_, rfl, ?_⟩; have n0_ := Aside0.mk (below_step (by repeat (first | (with_reducible first | exact HB.out | apply below_alloc | apply pw_below_drewN | apply below_drew1) | exact HB.out)) hb); clear HB; have HB := n0_; clear n0_; (try clear hb); (try clear hb2); (try clear hk); (try clear hi)) | ((with_reducible refine gate_callee (f := 26) rfl ?_); refine goesL_ (some 16) rfl rfl Try.func26 (by kernel_rfl) rfl #[.int .i64 (Int.tmod t113 2048)] rfl (by (try simp only [List.map_toArray, List.map_cons, List.map_nil]); first | done | rfl | (simp only [List.length_drop, List.length_take]; rfl)) ?_; (with_reducible refine (impl_FormatMode.calls k (Int.tmod t113 2048) t114 _ A4.out).mono ?_); rintro e w14 ⟨rfl, hb⟩; refine ⟨_, rfl, ?_⟩; have n0_ := Aside0.mk (below_step (by repeat (first | (with_reducible first | exact HB.out | apply below_alloc | apply pw_below_drewN | apply below_drew1) | exact HB.out)) hb); clear HB; have HB := n0_; clear n0_; (try clear hb); (try clear hb2); (try clear hk); (try clear hi)) | ((with_reducible refine gate_callee (f := 30) rfl ?_); refine goesL_ (some 17) rfl rfl Try.func30 (by kernel_rfl) rfl #[.string t114] rfl (by (try simp only [List.map_toArray, List.map_cons, List.map_nil]); first | done | rfl | (simp only [List.length_drop, List.length_take]; rfl)) ?_; (with_reducible refine (impl_ParseMode.calls k t114 t115 true _ A5.out).mono ?_); rintro e w' ⟨rfl, ⟨nd, rfl⟩⟩; refine ⟨_, rfl, ?_⟩) | ((with_reducible refine gate_callee (f := 30) rfl ?_); refine goesL_ (some 21) rfl rfl Try.func30 (by kernel_rfl) rfl #[.string (⟨#[114, 119, 120, 114, 119, 120, 114, 119, 120]⟩ : ByteArray)] rfl (by (try simp only [List.map_toArray, List.map_cons, List.map_nil]); first | done | rfl | (simp only [List.length_drop, List.length_take]; rfl)) ?_; (with_reducible refine (impl_ParseMode.calls k (⟨#[114, 119, 120, 114, 119, 120, 114, 119, 120]⟩ : ByteArray) t117 false _ A6.out).mono ?_); rintro e w' ⟨rfl, ⟨nd, rfl⟩⟩; refine ⟨_, rfl, ?_⟩) | (go_at_call 20; (with_reducible refine (impl_PermOf.calls (Int.tmod t113 2048) 0 t119 _ A10.out).mono ?_); rintro e w' ⟨rfl, ⟨nd, rfl⟩⟩) | (go_at_call 20; (with_reducible refine (impl_PermOf.calls (Int.tmod t113 2048) 1 t120 _ A11.out).mono ?_); rintro e w' ⟨rfl, ⟨nd, rfl⟩⟩) | (go_at_call 20; (with_reducible refine (impl_PermOf.calls (Int.tmod t113 2048) 2 t121 _ A12.out).mono ?_); rintro e w' ⟨rfl, ⟨nd, rfl⟩⟩))
          go_ret
          exact ⟨by first | rfl | (simp [errW_none, errW_some] <;> rfl) | (simp at hE_ ⊢; exact hE_) | (simp [*, errW_none, errW_some] <;> rfl), by repeat (first | (with_reducible first | exact HB.out | apply below_alloc | apply pw_below_drewN | apply below_drew1) | exact HB.out)⟩
      · rw [if_neg c8] at H
        have c8b0 : (t115 == (Int.tmod t113 2048)) = false := beq_eq_false_iff_ne.mpr c8
        have c8b1 : (t115 != (Int.tmod t113 2048)) = true := bne_iff_ne.mpr c8
        exact absurd H (by simp)
    · replace c7 := Bool.eq_false_iff.mpr c7
      subst c7
      have H1 : (some false) = some true := by rw [if_neg (show ¬ (false = true) by decide)] at H; exact H
      clear H
      have H := H1
      clear H1
      exact absurd H (by simp)

/-- THE ONE PURE STATEMENT of laws_FnModes: yours. -/
def laws_FnModes.Pure : Prop := ∀ (l0 : List Int), l0.length ≤ maxLen → l0.length * 1 ≤ 140737488351232 → (∀ x ∈ l0, (Lit.int .u8 x).wf = true) → ∃ k, laws_FnModes.f k l0 = some true
theorem laws_FnModes.walk (P : laws_FnModes.Pure) (a0 : Option Addr) (len0 cap0 : Nat) (z0 : List Int) (w : World) (w0 : (a0 = none ∧ len0 = 0 ∧ cap0 = 0 ∧ z0 = []) ∨ ∃ x, a0 = some x ∧ len0 ≤ cap0 ∧ cap0 ≤ maxLen ∧ z0.length = cap0 ∧ (∀ i, i < z0.length → w.cell? (x.add i) = some (.int .u8 (z0.getD i 0))) ∧ ∀ n ∈ z0, (Lit.int .u8 n).wf = true) (y0 : len0 * 1 ≤ 140737488351232) :
    Calls Try.prog 14 #[.slice a0 len0 cap0] w fun e w' => e = .returned (.bool true) ∧ Below w.heap.size w w' := by
  obtain ⟨l0, rfl, hr0, hm0, hw0, hc0⟩ := ReadsInt.ofRowC w0
  obtain ⟨k, h⟩ := P l0 hm0 y0 hw0
  refine (laws_FnModes.calls k _ _ l0 w (Kd.C_of_reads (d := (0 : Int)) (h1 := fun _ => rfl) hr0) hc0 h).mono ?_
  rintro e w' ⟨rfl, hd⟩
  exact ⟨rfl, hd⟩

end Go.Proofs.Ytcafdolliedcaaa.PFnModes
