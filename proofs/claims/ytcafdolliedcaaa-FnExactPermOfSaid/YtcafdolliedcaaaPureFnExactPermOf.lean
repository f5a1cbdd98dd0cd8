/- The law FnExactPermOf holds for every input of its kind; no further condition. -/
import Derived.Test.YtcafdolliedcaaaPFnExactPermOfx1
import Derived.Test.YtcafdolliedcaaaLibBase
import Derived.Test.YtcafdolliedcaaaLibModes
namespace Go.Proofs.Ytcafdolliedcaaa.Pure
open Go.RowKit Go.Proofs.Ytcafdolliedcaaa.PFnExactPermOf Go.Proofs.Ytcafdolliedcaaa.Lib Go.Proofs.YtcafdolliedcaaaW.PrintWords Go.Proofs.YtcafdolliedcaaaW.PrintLast Go.Proofs.YtcafdolliedcaaaW.PrintMore
set_option linter.unusedVariables false
set_option linter.unusedSimpArgs false

theorem isMode_impl (a : Int) : impl_isMode.f a = some (decide (0 ≤ a ∧ a ≤ 2047)) := by
  unfold impl_isMode.f
  by_cases h : a ≥ 0
  · rw [if_pos h]
    simp [show 0 ≤ a from h]
  · rw [if_neg h]
    simp [show ¬ 0 ≤ a from h]

theorem l01In_spec (a b c : Int) : spec_l01In.f a b c = some (decide (b ≤ a ∧ a ≤ c)) := by
  unfold spec_l01In.f
  by_cases h : a ≥ b
  · rw [if_pos h]
    simp [show b ≤ a from h]
  · rw [if_neg h]
    simp [show ¬ b ≤ a from h]

theorem l06Mode_spec (a : Int) : spec_l06Mode.f a = some (decide (0 ≤ a ∧ a ≤ 2047)) := by
  unfold spec_l06Mode.f
  rw [l01In_spec]
  rfl

theorem permOf_impl (m c : Int) : impl_PermOf.f m c = some (permOf m c) := by
  unfold impl_PermOf.f
  rw [isMode_impl]
  simp only [Option.bind_some, decide_eq_true_eq]
  by_cases hm : 0 ≤ m ∧ m ≤ 2047
  · rw [if_pos hm]
    by_cases h1 : c < 0
    · rw [if_pos h1]
      unfold permOf
      rw [if_neg (by omega)]
    · rw [if_neg h1]
      by_cases h2 : c > 2
      · rw [if_pos h2]
        unfold permOf
        rw [if_neg (by omega)]
      · rw [if_neg h2]
        unfold permOf
        rw [if_pos (show 0 ≤ m ∧ m ≤ 2047 ∧ 0 ≤ c ∧ c ≤ 2 by omega)]
        obtain rfl | rfl | rfl : c = 0 ∨ c = 1 ∨ c = 2 := by omega
        · rw [show wrap64 (6 - wrap64 (3 * 0)) = 6 by unfold wrap64; omega, if_pos (by decide), shr_at (y := 6) 6 rfl (by decide), i64_and7 (by omega) (by omega), if_pos rfl]
          rfl
        · rw [show wrap64 (6 - wrap64 (3 * 1)) = 3 by unfold wrap64; omega, if_pos (by decide), shr_at (y := 3) 3 rfl (by decide), i64_and7 (by omega) (by omega), if_neg (by decide), if_pos rfl]
          rfl
        · rw [show wrap64 (6 - wrap64 (3 * 2)) = 0 by unfold wrap64; omega, if_pos (by decide), shr_at (y := 0) 0 rfl (by decide), i64_and7 (by omega) (by omega), if_neg (by decide), if_neg (by decide)]
          simp
  · rw [if_neg hm]
    unfold permOf
    rw [if_neg (by omega)]
theorem permOf_spec_0 (m c : Int) : Ev (fun k => spec_PermOf.j0 k m c true) 0 := Ev.step (fun _ => spec_PermOf.j0.eq_2 ..) (Ev.pos rfl (Ev.now _))
theorem permOf_spec_2 (m : Int) (h0 : 0 ≤ m) : Ev (fun k => spec_PermOf.l0 k m 2) (m % 8) := by
  refine Ev.step (fun _ => spec_PermOf.l0.eq_2 ..) (Ev.neg (by decide) ?_)
  rw [Int.tmod_eq_emod_of_nonneg h0]
  exact Ev.now _
theorem permOf_spec_1 (m : Int) (h0 : 0 ≤ m) (h1 : m ≤ 2047) : Ev (fun k => spec_PermOf.l0 k m 1) (m / 8 % 8) := by
  refine Ev.step (fun _ => spec_PermOf.l0.eq_2 ..) (Ev.pos (by decide) ?_)
  rw [Int.tdiv_eq_ediv_of_nonneg h0, w64 (n := m / 8) (by omega) (by omega), show wrap64 (1 + 1) = 2 by unfold wrap64; omega]
  exact permOf_spec_2 _ (by omega)
theorem permOf_spec_zero (m : Int) (h0 : 0 ≤ m) (h1 : m ≤ 2047) : Ev (fun k => spec_PermOf.l0 k m 0) (m / 64 % 8) := by
  refine Ev.step (fun _ => spec_PermOf.l0.eq_2 ..) (Ev.pos (by decide) ?_)
  rw [Int.tdiv_eq_ediv_of_nonneg h0, w64 (n := m / 8) (by omega) (by omega), show wrap64 (0 + 1) = 1 by unfold wrap64; omega, show m / 64 = m / 8 / 8 by omega]
  exact permOf_spec_1 _ (by omega) (by omega)
theorem permOf_spec (m c : Int) : Ev (fun k => spec_PermOf.f k m c) (permOf m c) := by
  unfold spec_PermOf.f
  refine Ev.bind0 (l06Mode_spec m) ?_
  by_cases hm : 0 ≤ m ∧ m ≤ 2047
  · refine Ev.pos (by simpa using hm) (Ev.bind0 (l01In_spec c 0 2) ?_)
    by_cases hc : 0 ≤ c ∧ c ≤ 2
    · rw [show (!decide (0 ≤ c ∧ c ≤ 2)) = false by simp [hc]]
      refine Ev.step (fun _ => spec_PermOf.j0.eq_2 ..) (Ev.neg (by decide) ?_)
      unfold permOf
      rw [if_pos (show 0 ≤ m ∧ m ≤ 2047 ∧ 0 ≤ c ∧ c ≤ 2 by omega)]
      obtain rfl | rfl | rfl : c = 0 ∨ c = 1 ∨ c = 2 := by omega
      · exact permOf_spec_zero m hm.1 hm.2
      · exact permOf_spec_1 m hm.1 hm.2
      · exact permOf_spec_2 m hm.1
    · rw [show (!decide (0 ≤ c ∧ c ≤ 2)) = true by simp only [hc, decide_false, Bool.not_false]]
      unfold permOf
      rw [if_neg (by omega)]
      exact permOf_spec_0 m c
  · refine Ev.neg (by simpa using hm) ?_
    unfold permOf
    rw [if_neg (by omega)]
    exact permOf_spec_0 m c

theorem FnExactPermOf : laws_FnExactPermOf.Pure := by
  intro m c hm hc
  apply Ev.rounds
  unfold laws_FnExactPermOf.f
  exact Ev.bind (permOf_spec m c) (Ev.bind0 (permOf_impl m c) (Ev.pos rfl (Ev.now _)))

end Go.Proofs.Ytcafdolliedcaaa.Pure
