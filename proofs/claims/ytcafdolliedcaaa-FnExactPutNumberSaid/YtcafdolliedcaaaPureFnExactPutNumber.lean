/- The law FnExactPutNumber holds for every input of its kind; no further condition. -/
import Derived.Test.YtcafdolliedcaaaPFnExactPutNumberx1
import Derived.Test.YtcafdolliedcaaaLibBase
import Derived.Test.YtcafdolliedcaaaLibNumbers
namespace Go.Proofs.Ytcafdolliedcaaa.Pure
open Go.RowKit Go.Proofs.Ytcafdolliedcaaa.PFnExactPutNumber Go.Proofs.Ytcafdolliedcaaa.Lib Go.Proofs.YtcafdolliedcaaaW.PrintWords Go.Proofs.YtcafdolliedcaaaW.PrintLast Go.Proofs.YtcafdolliedcaaaW.PrintMore
set_option linter.unusedVariables false
set_option linter.unusedSimpArgs false

theorem l01In_spec (a b c : Int) : spec_l01In.f a b c = some (decide (b ≤ a ∧ a ≤ c)) := by
  unfold spec_l01In.f
  by_cases h : a ≥ b
  · rw [if_pos h]
    simp [show b ≤ a from h]
  · rw [if_neg h]
    simp [show ¬ b ≤ a from h]

theorem putNumber_spec_l (d : Nat) : ∀ (n : Int) (xs : List Int), 0 ≤ n → n ≤ 9223372036854775807 → d ≤ xs.length → xs.length ≤ 6 → Ev (fun k => spec_PutNumber.l0 k n xs ((d : Int) - 1)) (strOfNums (putL d n ++ xs.drop d)) := by
  induction d with
  | zero =>
    intro n xs h0 hn h h6
    exact Ev.step (fun _ => spec_PutNumber.l0.eq_2 ..) (Ev.neg (by decide) (Ev.now _))
  | succ d ih =>
    intro n xs h0 hn h h6
    rw [show ((d + 1 : Nat) : Int) - 1 = (d : Int) by omega]
    refine Ev.step (fun _ => spec_PutNumber.l0.eq_2 ..) (Ev.pos (by omega) (Ev.pos (by omega) (Ev.pos (by omega) ?_)))
    rw [Int.tdiv_eq_ediv_of_nonneg h0, Int.tmod_eq_emod_of_nonneg h0, w64 (n := n / 256) (by omega) (by omega), w64 (n := (d : Int) - 1) (by omega) (by omega), Int.toNat_natCast, Int.emod_emod_of_dvd n (Int.dvd_refl 256)]
    have := ih (n / 256) (xs.set d (n % 256)) (by omega) (by omega) (by rw [List.length_set]; omega) (by rw [List.length_set]; omega)
    rw [set_drop (n % 256) (by omega)] at this
    rw [putL, List.append_assoc]
    exact this
theorem putNumber_impl_l (d : Nat) : ∀ (n : Int) (xs : List Int), 0 ≤ n → n ≤ 9223372036854775807 → d ≤ xs.length → xs.length ≤ 6 → Ev (fun k => impl_PutNumber.l0 k n xs ((d : Int) - 1)) (strOfNums (putL d n ++ xs.drop d)) := by
  induction d with
  | zero =>
    intro n xs h0 hn h h6
    exact Ev.step (fun _ => impl_PutNumber.l0.eq_2 ..) (Ev.neg (by decide) (Ev.now _))
  | succ d ih =>
    intro n xs h0 hn h h6
    rw [show ((d + 1 : Nat) : Int) - 1 = (d : Int) by omega]
    refine Ev.step (fun _ => impl_PutNumber.l0.eq_2 ..) (Ev.pos (by omega) (Ev.pos (by omega) (Ev.pos (by omega) ?_)))
    rw [w64 (n := (d : Int) - 1) (by omega) (by omega), Int.toNat_natCast]
    have := ih (n / 256) (xs.set d (n % 256)) (by omega) (by omega) (by rw [List.length_set]; omega) (by rw [List.length_set]; omega)
    rw [set_drop (n % 256) (by omega)] at this
    rw [putL, List.append_assoc]
    exact this
theorem putNumber_spec (n w : Int) (hn : n ≤ 9223372036854775807) : Ev (fun k => spec_PutNumber.f k n w) (putNumber n w) := by
  unfold spec_PutNumber.f
  refine Ev.bind0 (l01In_spec w 1 6) ?_
  have no : ¬ (1 ≤ w ∧ w ≤ 6 ∧ 0 ≤ n ∧ n < 256 ^ w.toNat) → Ev (fun k => spec_PutNumber.j0 k n w true) (putNumber n w) := by
    intro h
    unfold putNumber
    rw [if_neg h]
    exact Ev.step (fun _ => spec_PutNumber.j0.eq_2 ..) (Ev.pos rfl (Ev.now _))
  by_cases hw : 1 ≤ w ∧ w ≤ 6
  · refine Ev.pos (by simpa using hw) ?_
    by_cases h0 : n < 0
    · exact Ev.pos h0 (no (by omega))
    · obtain ⟨e1, e2, e3, e4⟩ := shl_put hw.1 hw.2
      refine Ev.neg h0 (Ev.pos e2 ?_)
      rw [e1]
      by_cases h1 : n ≥ 256 ^ w.toNat
      · rw [show decide (n ≥ 256 ^ w.toNat) = true by simpa using h1]
        exact no (fun h => by have := h.2.2.2; omega)
      · rw [show decide (n ≥ 256 ^ w.toNat) = false by simpa using h1]
        refine Ev.step (fun _ => spec_PutNumber.j0.eq_2 ..) (Ev.neg (by decide) (Ev.pos (by omega) (Ev.pos (by omega) ?_)))
        have := putNumber_spec_l w.toNat n (List.replicate w.toNat 0) (by omega) hn (by rw [List.length_replicate]; omega) (by rw [List.length_replicate]; omega)
        rw [List.drop_eq_nil_of_le (by rw [List.length_replicate]; omega), List.append_nil, show ((w.toNat : Nat) : Int) = w by omega] at this
        unfold putNumber
        rw [if_pos ⟨hw.1, hw.2, by omega, by omega⟩, w64 (n := w - 1) (by omega) (by omega)]
        exact this
  · exact Ev.neg (by simpa using hw) (no (fun h => hw ⟨h.1, h.2.1⟩))
theorem putNumber_impl (n w : Int) (hn : n ≤ 9223372036854775807) : Ev (fun k => impl_PutNumber.f k n w) (putNumber n w) := by
  unfold impl_PutNumber.f
  have no : ¬ (1 ≤ w ∧ w ≤ 6 ∧ 0 ≤ n ∧ n < 256 ^ w.toNat) → Ev (fun k => impl_PutNumber.j0 k n w true) (putNumber n w) := by
    intro h
    unfold putNumber
    rw [if_neg h]
    exact Ev.step (fun _ => impl_PutNumber.j0.eq_2 ..) (Ev.pos rfl (Ev.now _))
  by_cases hw : w < 1
  · exact Ev.pos hw (no (fun h => by have := h.1; omega))
  · refine Ev.neg hw ?_
    by_cases hw6 : w > 6
    · exact Ev.pos hw6 (no (fun h => by have := h.2.1; omega))
    · refine Ev.neg hw6 ?_
      by_cases h0 : n < 0
      · exact Ev.pos h0 (no (fun h => by have := h.2.2.1; omega))
      · obtain ⟨e1, e2, e3, e4⟩ := shl_put (w := w) (by omega) (by omega)
        refine Ev.neg h0 (Ev.pos e4 ?_)
        rw [e3]
        by_cases h1 : n ≥ 256 ^ w.toNat
        · rw [show decide (n ≥ 256 ^ w.toNat) = true by simpa using h1]
          exact no (fun h => by have := h.2.2.2; omega)
        · rw [show decide (n ≥ 256 ^ w.toNat) = false by simpa using h1]
          refine Ev.step (fun _ => impl_PutNumber.j0.eq_2 ..) (Ev.neg (by decide) (Ev.pos (by omega) (Ev.pos (by omega) ?_)))
          have := putNumber_impl_l w.toNat n (List.replicate w.toNat 0) (by omega) hn (by rw [List.length_replicate]; omega) (by rw [List.length_replicate]; omega)
          rw [List.drop_eq_nil_of_le (by rw [List.length_replicate]; omega), List.append_nil, show ((w.toNat : Nat) : Int) = w by omega] at this
          unfold putNumber
          rw [if_pos ⟨by omega, by omega, by omega, by omega⟩, w64 (n := w - 1) (by omega) (by omega)]
          exact this

theorem FnExactPutNumber : laws_FnExactPutNumber.Pure := by
  intro n w hn hw
  apply Ev.rounds
  unfold laws_FnExactPutNumber.f
  exact Ev.bind (putNumber_spec n w (i64_range hn).2) (Ev.bind (putNumber_impl n w (i64_range hn).2) (Ev.pos rfl (Ev.now _)))

end Go.Proofs.Ytcafdolliedcaaa.Pure
