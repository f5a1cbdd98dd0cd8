/- The law FnExactGetNumber holds for every input of its kind; no further condition. -/
import Derived.Test.YtcafdolliedcaaaPFnExactGetNumberx1
import Derived.Test.YtcafdolliedcaaaLibBase
import Derived.Test.YtcafdolliedcaaaLibNumbers
namespace Go.Proofs.Ytcafdolliedcaaa.Pure
open Go.RowKit Go.Proofs.Ytcafdolliedcaaa.PFnExactGetNumber Go.Proofs.Ytcafdolliedcaaa.Lib Go.Proofs.YtcafdolliedcaaaW.PrintWords Go.Proofs.YtcafdolliedcaaaW.PrintLast Go.Proofs.YtcafdolliedcaaaW.PrintMore
set_option linter.unusedVariables false
set_option linter.unusedSimpArgs false

theorem l01In_spec (a b c : Int) : spec_l01In.f a b c = some (decide (b ≤ a ∧ a ≤ c)) := by
  unfold spec_l01In.f
  by_cases h : a ≥ b
  · rw [if_pos h]
    simp [show b ≤ a from h]
  · rw [if_neg h]
    simp [show ¬ b ≤ a from h]

theorem getNumber_spec_l {s : ByteArray} (hs : s.size ≤ 140737488351232) {a w : Int} (h0 : 0 ≤ a) (h1 : a + w ≤ (s.size : Int)) (h6 : w ≤ 6) (d : Nat) : ∀ (i n : Int), 0 ≤ i → i + d = w → okAcc i n →
    Ev (fun k => spec_GetNumber.l0 k s a w n i) (num256 (((bytesOf s).drop (a + i).toNat).take d) n, true) := by
  induction d with
  | zero =>
    intro i n hi hd hn
    exact Ev.step (fun _ => spec_GetNumber.l0.eq_2 ..) (Ev.neg (by omega) (Ev.now _))
  | succ d ih =>
    intro i n hi hd hn
    have hb := bt_range s (a + i)
    have hlt := okAcc_lt hn
    have hn' : n < 1099511627776 := by unfold okAcc at hn; omega
    have e : (a + i).toNat < (bytesOf s).length := by rw [bytesOf_length]; omega
    have hd0 := List.drop_eq_getElem_cons e
    obtain ⟨c1, c2, c3, c4⟩ := bdrop_cons (i := a + i) (by omega) hd0
    refine Ev.step (fun _ => spec_GetNumber.l0.eq_2 ..) (Ev.pos (by omega) ?_)
    rw [w64 (n := a + i) (by omega) (by omega), w64 (n := bt s (a + i)) (by omega) (by omega), w64 (n := 256 * n) (by omega) (by omega), w64 (n := 256 * n + bt s (a + i)) (by omega) (by omega), w64 (n := i + 1) (by omega) (by omega)]
    refine Ev.pos (by omega) (Ev.pos (by omega) ?_)
    rw [hd0, List.take_succ_cons, num256, ← c2, ← c3, show a + i + 1 = a + (i + 1) by omega]
    exact ih (i + 1) _ (by omega) (by omega) (okAcc_step hn (by omega) hb.1 hb.2)
theorem getNumber_impl_l {s : ByteArray} (hs : s.size ≤ 140737488351232) {a w : Int} (h0 : 0 ≤ a) (h1 : a + w ≤ (s.size : Int)) (h6 : w ≤ 6) (d : Nat) : ∀ (i n : Int), 0 ≤ i → i + d = w → okAcc i n →
    Ev (fun k => impl_GetNumber.l0 k s a n w i) (num256 (((bytesOf s).drop (a + i).toNat).take d) n, true) := by
  induction d with
  | zero =>
    intro i n hi hd hn
    exact Ev.step (fun _ => impl_GetNumber.l0.eq_2 ..) (Ev.neg (by omega) (Ev.now _))
  | succ d ih =>
    intro i n hi hd hn
    have hb := bt_range s (a + i)
    have hlt := okAcc_lt hn
    have hn' : n < 1099511627776 := by unfold okAcc at hn; omega
    have e : (a + i).toNat < (bytesOf s).length := by rw [bytesOf_length]; omega
    have hd0 := List.drop_eq_getElem_cons e
    obtain ⟨c1, c2, c3, c4⟩ := bdrop_cons (i := a + i) (by omega) hd0
    refine Ev.step (fun _ => impl_GetNumber.l0.eq_2 ..) (Ev.pos (by omega) ?_)
    rw [w64 (n := a + i) (by omega) (by omega), w64 (n := bt s (a + i)) (by omega) (by omega), w64 (n := n * 256) (by omega) (by omega), i64_or8 (by omega) (by omega) (by omega) (by omega) (by omega), w64 (n := i + 1) (by omega) (by omega)]
    refine Ev.pos (by omega) (Ev.pos (by omega) ?_)
    rw [hd0, List.take_succ_cons, num256, ← c2, ← c3, show a + i + 1 = a + (i + 1) by omega, Int.mul_comm n 256]
    exact ih (i + 1) _ (by omega) (by omega) (okAcc_step hn (by omega) hb.1 hb.2)
theorem getNumber_spec {s : ByteArray} (hs : s.size ≤ 140737488351232) (a w : Int) (ha : a ≤ 9223372036854775807) : Ev (fun k => spec_GetNumber.f k s a w) (getNumber s a w) := by
  unfold spec_GetNumber.f
  refine Ev.bind0 (l01In_spec w 1 6) ?_
  have no : ¬ (1 ≤ w ∧ w ≤ 6 ∧ 0 ≤ a ∧ a ≤ (s.size : Int) - w) → Ev (fun k => spec_GetNumber.j0 k s a w true) (getNumber s a w) := by
    intro h
    unfold getNumber
    rw [if_neg h]
    exact Ev.step (fun _ => spec_GetNumber.j0.eq_2 ..) (Ev.pos rfl (Ev.now _))
  by_cases hw : 1 ≤ w ∧ w ≤ 6
  · refine Ev.pos (by simpa using hw) ?_
    by_cases h0 : a < 0
    · exact Ev.pos h0 (no (by omega))
    · refine Ev.neg h0 ?_
      rw [w64 (n := (s.size : Int) - w) (by omega) (by omega)]
      by_cases h1 : a > (s.size : Int) - w
      · rw [show decide (a > (s.size : Int) - w) = true by simpa using h1]
        exact no (by omega)
      · rw [show decide (a > (s.size : Int) - w) = false by simpa using h1]
        refine Ev.step (fun _ => spec_GetNumber.j0.eq_2 ..) (Ev.neg (by decide) ?_)
        have := getNumber_spec_l hs (a := a) (w := w) (by omega) (by omega) (by omega) w.toNat 0 0 (by omega) (by omega) (by unfold okAcc; omega)
        unfold getNumber
        rw [if_pos (by omega)]
        simpa using this
  · exact Ev.neg (by simpa using hw) (no (by omega))
theorem getNumber_impl {s : ByteArray} (hs : s.size ≤ 140737488351232) (a w : Int) (ha : a ≤ 9223372036854775807) : Ev (fun k => impl_GetNumber.f k s a w) (getNumber s a w) := by
  unfold impl_GetNumber.f
  have no : ¬ (1 ≤ w ∧ w ≤ 6 ∧ 0 ≤ a ∧ a ≤ (s.size : Int) - w) → Ev (fun k => impl_GetNumber.j0 k s a w true) (getNumber s a w) := by
    intro h
    unfold getNumber
    rw [if_neg h]
    exact Ev.step (fun _ => impl_GetNumber.j0.eq_2 ..) (Ev.pos rfl (Ev.now _))
  by_cases hw : w < 1
  · exact Ev.pos hw (no (by omega))
  · refine Ev.neg hw ?_
    by_cases hw6 : w > 6
    · exact Ev.pos hw6 (no (by omega))
    · refine Ev.neg hw6 ?_
      by_cases h0 : a < 0
      · exact Ev.pos h0 (no (by omega))
      · refine Ev.neg h0 ?_
        rw [w64 (n := (s.size : Int) - w) (by omega) (by omega)]
        by_cases h1 : a > (s.size : Int) - w
        · rw [show decide (a > (s.size : Int) - w) = true by simpa using h1]
          exact no (by omega)
        · rw [show decide (a > (s.size : Int) - w) = false by simpa using h1]
          refine Ev.step (fun _ => impl_GetNumber.j0.eq_2 ..) (Ev.neg (by decide) ?_)
          have := getNumber_impl_l hs (a := a) (w := w) (by omega) (by omega) (by omega) w.toNat 0 0 (by omega) (by omega) (by unfold okAcc; omega)
          unfold getNumber
          rw [if_pos (by omega)]
          simpa using this

theorem FnExactGetNumber : laws_FnExactGetNumber.Pure := by
  intro s a w hs ha hw
  apply Ev.rounds
  unfold laws_FnExactGetNumber.f
  have ha' := (i64_range ha).2
  by_cases hn : (s.size : Int) > 1048576
  · exact Ev.pos hn (Ev.now _)
  · exact Ev.neg hn (Ev.bind (getNumber_spec hs a w ha') (Ev.bind (getNumber_impl hs a w ha') (Ev.pos rfl (Ev.neg (by simp) (Ev.now _)))))

end Go.Proofs.Ytcafdolliedcaaa.Pure
