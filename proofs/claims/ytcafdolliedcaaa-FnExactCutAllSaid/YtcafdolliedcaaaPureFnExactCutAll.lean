/- The law FnExactCutAll holds for every input of its kind; no further condition. -/
import Derived.Test.YtcafdolliedcaaaPFnExactCutAllx2
import Derived.Test.YtcafdolliedcaaaLibBase
namespace Go.Proofs.Ytcafdolliedcaaa.Pure
open Go.RowKit Go.Proofs.Ytcafdolliedcaaa.PFnExactCutAll Go.Proofs.Ytcafdolliedcaaa.Lib Go.Proofs.YtcafdolliedcaaaW.PrintWords Go.Proofs.YtcafdolliedcaaaW.PrintLast Go.Proofs.YtcafdolliedcaaaW.PrintMore
set_option linter.unusedVariables false
set_option linter.unusedSimpArgs false

theorem l01In_spec (a b c : Int) : spec_l01In.f a b c = some (decide (b ≤ a ∧ a ≤ c)) := by
  unfold spec_l01In.f
  by_cases h : a ≥ b
  · rw [if_pos h]
    simp [show b ≤ a from h]
  · rw [if_neg h]
    simp [show ¬ b ≤ a from h]

theorem ba_size_drop (s : ByteArray) (a : Nat) : (s.extract a s.size).size = s.size - a := by
  rw [ByteArray.size_extract, Nat.min_self]
theorem cutAll_both {n : Int} (hn : 1 ≤ n) (d : Nat) : ∀ (s : ByteArray) (x : List ByteArray), s.size ≤ d → x.length + s.size ≤ 4398046511104 →
    ∃ r, Ev (fun k => spec_CutAll.l0 k s n x) r ∧ Ev (fun k => impl_CutAll.l0 k s n x) r ∧ r.length ≤ x.length + s.size := by
  induction d with
  | zero =>
    intro s x hd hx
    have hs : s.toList = ([] : List UInt8) := by
      rw [ByteArray.toList_eq]
      exact List.eq_nil_of_length_eq_zero (by rw [data_length]; omega)
    exact ⟨x, Ev.step (fun _ => spec_CutAll.l0.eq_2 ..) (Ev.neg (by omega) (Ev.pos hs (Ev.now _))), Ev.step (fun _ => impl_CutAll.l0.eq_2 ..) (Ev.neg (by omega) (Ev.now _)), by omega⟩
  | succ d ih =>
    intro s x hd hx
    by_cases h0 : s.size = 0
    · exact ih s x (by omega) hx
    · by_cases h1 : (s.size : Int) > n
      · have hm : mn n (s.size : Int) = n := by unfold mn; omega
        have hz := ba_size_drop s n.toNat
        obtain ⟨r, a, b, c⟩ := ih (s.extract n.toNat s.size) (x ++ [s.extract 0 n.toNat]) (by omega) (by rw [List.length_append, List.length_singleton]; omega)
        rw [List.length_append, List.length_singleton] at c
        refine ⟨r, Ev.step (fun _ => spec_CutAll.l0.eq_2 ..) (Ev.pos h1 (Ev.pos (by omega) (Ev.pos (by omega) (Ev.pos (by omega) a)))), ?_, by omega⟩
        refine Ev.step (fun _ => impl_CutAll.l0.eq_2 ..) (Ev.pos (by omega) ?_)
        rw [hm]
        exact Ev.pos (by omega) (Ev.pos (by omega) (Ev.pos (by omega) b))
      · have hm : mn n (s.size : Int) = (s.size : Int) := by unfold mn; omega
        have hz := ba_size_drop s s.size
        have hs : s.toList ≠ ([] : List UInt8) := by
          intro h
          rw [ByteArray.toList_eq] at h
          have := data_length s
          rw [h] at this
          simp at this
          omega
        refine ⟨x ++ [s], Ev.step (fun _ => spec_CutAll.l0.eq_2 ..) (Ev.neg h1 (Ev.neg hs (Ev.pos (by omega) (Ev.now _)))), ?_, by rw [List.length_append, List.length_singleton]; omega⟩
        refine Ev.step (fun _ => impl_CutAll.l0.eq_2 ..) (Ev.pos (by omega) ?_)
        rw [hm]
        refine Ev.pos (by omega) (Ev.pos (by omega) (Ev.pos (by omega) ?_))
        rw [Int.toNat_natCast, ba_extract_all]
        exact Ev.step (fun _ => impl_CutAll.l0.eq_2 ..) (Ev.neg (by omega) (Ev.now _))
theorem cutAll_f (s : ByteArray) (n : Int) (hs : s.size ≤ 1099511627776) : ∃ r, Ev (fun k => spec_CutAll.f k s n) r ∧ Ev (fun k => impl_CutAll.f k s n) r ∧ r.length ≤ s.size := by
  unfold spec_CutAll.f impl_CutAll.f
  by_cases h : 1 ≤ n ∧ n ≤ 1000
  · obtain ⟨r, a, b, c⟩ := cutAll_both h.1 s.size s [] (Nat.le_refl _) (by simp; omega)
    refine ⟨r, Ev.bind0 (l01In_spec n 1 1000) (Ev.pos (by simpa using h) a), Ev.neg (by omega) ?_, by simpa using c⟩
    rw [show decide (n > 1000) = false by simp only [decide_eq_false_iff_not]; omega]
    exact Ev.step (fun _ => impl_CutAll.j0.eq_2 ..) (Ev.neg (by decide) b)
  · refine ⟨[], Ev.bind0 (l01In_spec n 1 1000) (Ev.neg (by simpa using h) (Ev.now _)), ?_, by simp⟩
    by_cases h1 : n < 1
    · exact Ev.pos h1 (Ev.step (fun _ => impl_CutAll.j0.eq_2 ..) (Ev.pos rfl (Ev.now _)))
    · refine Ev.neg h1 ?_
      rw [show decide (n > 1000) = true by simp only [decide_eq_true_eq]; omega]
      exact Ev.step (fun _ => impl_CutAll.j0.eq_2 ..) (Ev.pos rfl (Ev.now _))

theorem eqStringS_refl_l (d : Nat) : ∀ (i : Int) (l : List ByteArray), 0 ≤ i → i + d = (l.length : Int) → (l.length : Int) ≤ 4611686018427387904 → Ev (fun k => laws_eqStringS.l0 k l l i) true := by
  induction d with
  | zero =>
    intro i l h0 hd hl
    exact Ev.step (fun _ => laws_eqStringS.l0.eq_2 ..) (Ev.neg (by omega) (Ev.now _))
  | succ d ih =>
    intro i l h0 hd hl
    refine Ev.step (fun _ => laws_eqStringS.l0.eq_2 ..) (Ev.pos (by omega) (Ev.pos h0 (Ev.pos (by omega) (Ev.pos rfl ?_))))
    rw [w64 (n := i + 1) (by omega) (by omega)]
    exact ih (i + 1) l (by omega) (by omega) hl
theorem eqStringS_refl (l : List ByteArray) (hl : (l.length : Int) ≤ 4611686018427387904) : Ev (fun k => laws_eqStringS.f k l l) true := by
  unfold laws_eqStringS.f
  exact Ev.pos rfl (eqStringS_refl_l l.length 0 l (by omega) (by omega) hl)

theorem markText_l (d : Nat) : ∀ (n : Int) (t : ByteArray), n.toNat ≤ d → (t.size : Int) + n ≤ 4611686018427387904 → t.size ≤ 4611686018427387904 → ∃ r, Ev (fun k => laws_markText.l0 k n t) r := by
  induction d with
  | zero =>
    intro n t hd h1 h2
    exact ⟨_, Ev.step (fun _ => laws_markText.l0.eq_2 ..) (Ev.neg (by omega) (Ev.pos (by omega) (Ev.now _)))⟩
  | succ d ih =>
    intro n t hd h1 h2
    by_cases hn : n > 0
    · have e : Int.tdiv n 10 = n / 10 := Int.tdiv_eq_ediv_of_nonneg (by omega)
      obtain ⟨r, hr⟩ := ih (n / 10) (strOfNums [wrap64 (48 + Int.tmod n 10) % 256] ++ t) (by omega) (by rw [ba_size_append, strOfNums_size, List.length_singleton]; omega) (by rw [ba_size_append, strOfNums_size, List.length_singleton]; omega)
      refine ⟨r, Ev.step (fun _ => laws_markText.l0.eq_2 ..) (Ev.pos hn (Ev.bind0 rfl (Ev.pos ?_ ?_)))⟩
      · rw [strOfNums_size, List.length_singleton]
        omega
      · rw [e, w64 (n := n / 10) (by omega) (by omega)]
        exact hr
    · exact ⟨_, Ev.step (fun _ => laws_markText.l0.eq_2 ..) (Ev.neg (by omega) (Ev.pos (by omega) (Ev.now _)))⟩
theorem markText_ex (n : Int) (h : n ≤ 1152921504606846976) : ∃ r, Ev (fun k => laws_markText.f k n) r := by
  unfold laws_markText.f
  by_cases hn : n ≤ 0
  · exact ⟨_, Ev.pos hn (Ev.now _)⟩
  · obtain ⟨r, hr⟩ := markText_l n.toNat n ⟨#[]⟩ (by omega) (by have : (⟨#[]⟩ : ByteArray).size = 0 := rfl; omega) (by have : (⟨#[]⟩ : ByteArray).size = 0 := rfl; omega)
    exact ⟨r, Ev.neg hn hr⟩

theorem markStringS_l (d : Nat) : ∀ (i k : Int) (l : List ByteArray), 0 ≤ i → i + d = (l.length : Int) → 0 ≤ k → k + d ≤ 1152921504606846976 → (l.length : Int) ≤ 1152921504606846976 →
    ∃ l', Ev (fun n => laws_markStringS.l0 n l k i) (k + d, l') ∧ l'.length = l.length ∧ (∀ j : Nat, (j : Int) < i → l'[j]? = l[j]?) ∧ Ev (fun n => laws_heldStringS.l0 n l' k i) (k + d) := by
  induction d with
  | zero =>
    intro i k l h0 hd hk hk' hl
    refine ⟨l, ?_, rfl, fun _ _ => rfl, ?_⟩
    · rw [show k + ((0 : Nat) : Int) = k by omega]
      exact Ev.step (fun _ => laws_markStringS.l0.eq_2 ..) (Ev.neg (by omega) (Ev.now _))
    · rw [show k + ((0 : Nat) : Int) = k by omega]
      exact Ev.step (fun _ => laws_heldStringS.l0.eq_2 ..) (Ev.neg (by omega) (Ev.now _))
  | succ d ih =>
    intro i k l h0 hd hk hk' hl
    obtain ⟨t, ht⟩ := markText_ex k (by omega)
    obtain ⟨l', h1, h2, h3, h4⟩ := ih (i + 1) (k + 1) (l.set i.toNat t) (by omega) (by rw [List.length_set]; omega) (by omega) (by omega) (by rw [List.length_set]; omega)
    rw [List.length_set] at h2
    rw [show k + 1 + (d : Int) = k + ((d + 1 : Nat) : Int) by omega] at h1 h4
    refine ⟨l', ?_, h2, ?_, ?_⟩
    · refine Ev.step (fun _ => laws_markStringS.l0.eq_2 ..) (Ev.pos (by omega) (Ev.bind ht (Ev.pos h0 ?_)))
      rw [w64 (n := k + 1) (by omega) (by omega), w64 (n := i + 1) (by omega) (by omega)]
      exact h1
    · intro j hj
      rw [h3 j (by omega), List.getElem?_set_ne (by omega)]
    · refine Ev.step (fun _ => laws_heldStringS.l0.eq_2 ..) (Ev.pos (by omega) (Ev.pos h0 (Ev.bind ht (Ev.pos ?_ ?_))))
      · have := h3 i.toNat (by omega)
        rw [List.getElem?_set_self (by omega)] at this
        unfold rdOf
        rw [List.getD_eq_getElem?_getD, this]
        rfl
      · rw [w64 (n := k + 1) (by omega) (by omega), w64 (n := i + 1) (by omega) (by omega)]
        exact h4
theorem markStringS_ex (l : List ByteArray) (k : Int) (hk : 0 ≤ k) (h : k + (l.length : Int) ≤ 1152921504606846976) :
    ∃ m l', Ev (fun n => laws_markStringS.f n l k) (m, l') ∧ Ev (fun n => laws_heldStringS.f n l' k) m ∧ 0 ≤ m ∧ m = k + (l.length : Int) ∧ l'.length = l.length := by
  obtain ⟨l', h1, h2, _, h4⟩ := markStringS_l l.length 0 k l (by omega) (by omega) hk h (by omega)
  exact ⟨_, l', h1, h4, by omega, rfl, h2⟩

theorem FnExactCutAll : laws_FnExactCutAll.Pure := by
  intro s n hs hn
  apply Ev.rounds
  unfold laws_FnExactCutAll.f
  by_cases hb : (s.size : Int) > 1048576
  · exact Ev.pos hb (Ev.now _)
  · obtain ⟨r, h1, h2, h3⟩ := cutAll_f s n (by omega)
    obtain ⟨m, l, h4, h5, h6, _, _⟩ := markStringS_ex r 1 (by omega) (by omega)
    have he := eqStringS_refl r (by omega)
    exact Ev.neg hb (Ev.bind h1 (Ev.bind h2 (Ev.bind he (Ev.pos rfl (Ev.bind h4 (Ev.bind h5 (Ev.neg (by omega) (Ev.pos rfl (Ev.bind h2 (Ev.bind he (Ev.pos rfl (Ev.bind h5 (Ev.neg (by omega) (Ev.pos rfl (Ev.now _)))))))))))))))

end Go.Proofs.Ytcafdolliedcaaa.Pure
