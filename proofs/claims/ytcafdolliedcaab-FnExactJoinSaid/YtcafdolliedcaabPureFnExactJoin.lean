/- The law FnExactJoin holds for every input of its kind; no further condition. -/
import Derived.Test.YtcafdolliedcaabPFnExactJoinx1
import Derived.Test.YtcafdolliedcaabLibBase
import Derived.Test.YtcafdolliedcaabLibOpen
namespace Go.Proofs.Ytcafdolliedcaab.Pure
open Go.RowKit Go.Proofs.Ytcafdolliedcaab.PFnExactJoin Go.Proofs.Ytcafdolliedcaab.Lib Go.Proofs.YtcafdolliedcaabW.PrintWords Go.Proofs.YtcafdolliedcaabW.PrintLast Go.Proofs.YtcafdolliedcaabW.PrintMore
set_option linter.unusedVariables false
set_option linter.unusedSimpArgs false

theorem szStringS_l (xs : List ByteArray) (hx : xs.length ≤ 1048576) (hs : ∀ s, s ∈ xs → s.size ≤ 9223372036854775807) (l : List ByteArray) : ∀ (i left : Int), 0 ≤ i → xs.drop i.toNat = l → 0 ≤ left → left ≤ 1048576 →
    ∃ t, Ev (fun k => laws_szStringS.l0 k xs left i) t ∧ (t < 0 ∨ 0 ≤ t ∧ t ≤ left ∧ ∀ s, s ∈ l → (s.size : Int) ≤ left) := by
  induction l with
  | nil =>
    intro i left h0 h hl hl'
    have := ldrop_nil h0 h
    exact ⟨left, Ev.step (fun _ => laws_szStringS.l0.eq_2 ..) (Ev.neg (by omega) (Ev.now _)), Or.inr ⟨hl, by omega, fun s h => by cases h⟩⟩
  | cons x l ih =>
    intro i left h0 h hl hl'
    obtain ⟨a, b, c, e⟩ := ldrop_cons ByteArray.empty h0 h
    have hxs : x.size ≤ 9223372036854775807 := hs x (by
      have : x ∈ xs.drop i.toNat := by rw [h]; exact List.mem_cons_self ..
      exact List.mem_of_mem_drop this)
    by_cases hneg : left - (x.size : Int) < 0
    · refine ⟨-1, Ev.step (fun _ => laws_szStringS.l0.eq_2 ..) (Ev.pos a (Ev.pos h0 ?_)), by omega⟩
      rw [b, w64 (n := left - (x.size : Int)) (by omega) (by omega)]
      exact Ev.pos hneg (Ev.now _)
    · obtain ⟨t, h1, h2⟩ := ih (i + 1) (left - (x.size : Int)) (by omega) c (by omega) (by omega)
      refine ⟨t, Ev.step (fun _ => laws_szStringS.l0.eq_2 ..) (Ev.pos a (Ev.pos h0 ?_)), ?_⟩
      · rw [b, w64 (n := left - (x.size : Int)) (by omega) (by omega), w64 (n := i + 1) (by omega) (by omega)]
        exact Ev.neg hneg h1
      · rcases h2 with h2 | ⟨h2, h3, h4⟩
        · exact Or.inl h2
        · refine Or.inr ⟨h2, by omega, fun s hs => ?_⟩
          rcases List.mem_cons.1 hs with hs | hs
          · subst hs
            omega
          · have := h4 s hs
            omega
theorem szStringS_ex (xs : List ByteArray) (hx : xs.length ≤ 9223372036854775807) (hs : ∀ s, s ∈ xs → s.size ≤ 9223372036854775807) (left : Int) (hl : 0 ≤ left) (hl' : left ≤ 1048576) :
    ∃ t, Ev (fun k => laws_szStringS.f k xs left) t ∧ (t < 0 ∨ 0 ≤ t ∧ t ≤ left ∧ (xs.length : Int) ≤ left ∧ ∀ s, s ∈ xs → (s.size : Int) ≤ left) := by
  unfold laws_szStringS.f
  rw [w64 (n := left - (xs.length : Int)) (by omega) (by omega)]
  by_cases hneg : left - (xs.length : Int) < 0
  · exact ⟨-1, Ev.pos hneg (Ev.now _), by omega⟩
  · obtain ⟨t, h1, h2⟩ := szStringS_l xs (by omega) hs xs 0 (left - (xs.length : Int)) (by omega) rfl (by omega) (by omega)
    refine ⟨t, Ev.neg hneg h1, ?_⟩
    rcases h2 with h2 | ⟨h2, h3, h4⟩
    · exact Or.inl h2
    · exact Or.inr ⟨h2, by omega, by omega, fun s hs => by have := h4 s hs; omega⟩

theorem toStringS_l (xs : List ByteArray) (hx : xs.length ≤ 1048576) (l : List ByteArray) : ∀ (i : Int) (ys : List ByteArray), 0 ≤ i → xs.drop i.toNat = l → ys.length = xs.length → Ev (fun k => laws_toStringS.l0 k xs ys i) (ys.take i.toNat ++ l) := by
  induction l with
  | nil =>
    intro i ys h0 h hy
    have := ldrop_nil h0 h
    rw [List.append_nil, List.take_of_length_le (by omega)]
    exact Ev.step (fun _ => laws_toStringS.l0.eq_2 ..) (Ev.neg (by omega) (Ev.now _))
  | cons x l ih =>
    intro i ys h0 h hy
    obtain ⟨a, b, c, e⟩ := ldrop_cons ByteArray.empty h0 h
    refine Ev.step (fun _ => laws_toStringS.l0.eq_2 ..) (Ev.pos a (Ev.pos h0 (Ev.pos (by omega) ?_)))
    have := ih (i + 1) (ys.set i.toNat x) (by omega) c (by rw [List.length_set]; exact hy)
    rw [set_take _ h0 (by omega), List.append_assoc] at this
    rw [w64 (by omega) (by omega), b]
    exact this
theorem toStringS_f (xs : List ByteArray) (hx : xs.length ≤ 1048576) : Ev (fun k => laws_toStringS.f k xs) xs := by
  unfold laws_toStringS.f
  exact Ev.pos (by omega) (Ev.pos (by omega) (toStringS_l xs hx xs 0 _ (by omega) rfl (by rw [List.length_replicate]; omega)))

theorem eqStringS_refl_l (d : Nat) : ∀ (i : Int) (l : List ByteArray), 0 ≤ i → i + d = (l.length : Int) → (l.length : Int) ≤ 4611686018427387904 → Ev (fun k => laws_eqStringS.l0 k l l i) true := by
  induction d with
  | zero =>
    intro i l h0 hd hl
    exact Ev.step (fun _ => laws_eqStringS.l0.eq_2 ..) (Ev.neg (by omega) (Ev.now _))
  | succ d ih =>
    intro i l h0 hd hl
    refine Ev.step (fun _ => laws_eqStringS.l0.eq_2 ..) (Ev.pos (by omega) (Ev.pos h0 (Ev.pos (by omega) (Ev.pos rfl ?_))))
    rw [w64 (n := i + 1) (by omega) (by omega)]
    exact ih (i + 1) l (by omega) (by omega) hl
theorem eqStringS_refl (l : List ByteArray) (hl : (l.length : Int) ≤ 4611686018427387904) : Ev (fun k => laws_eqStringS.f k l l) true := by
  unfold laws_eqStringS.f
  exact Ev.pos rfl (eqStringS_refl_l l.length 0 l (by omega) (by omega) hl)

theorem join_spec_l (xs : List ByteArray) (sep : ByteArray) (hx : xs.length ≤ 1048576) (hp : sep.size ≤ 1048576) (hs : ∀ x, x ∈ xs → x.size ≤ 1048576) (l : List ByteArray) : ∀ (i : Int) (s : ByteArray), 1 ≤ i → i ≤ (xs.length : Int) → xs.drop i.toNat = l → (s.size : Int) ≤ i * 2097152 →
    ∃ r, Ev (fun k => spec_Join.l0 k sep s xs (xs.length : Int) i) r ∧ r.data.toList = s.data.toList ++ Go.Lib.joinTail sep.data.toList (l.map (·.data.toList)) ∧ (r.size : Int) ≤ (xs.length : Int) * 2097152 := by
  induction l with
  | nil =>
    intro i s h1 hi h hz
    have := ldrop_nil (by omega) h
    refine ⟨s, Ev.step (fun _ => spec_Join.l0.eq_2 ..) (Ev.neg (by omega) (Ev.now _)), ?_, by omega⟩
    rw [List.map_nil, show Go.Lib.joinTail sep.data.toList [] = [] from rfl, List.append_nil]
  | cons x l ih =>
    intro i s h1 hi h hz
    obtain ⟨a, b, c, e⟩ := ldrop_cons ByteArray.empty (by omega) h
    have hxs := hs x (by
      have : x ∈ xs.drop i.toNat := by rw [h]; exact List.mem_cons_self ..
      exact List.mem_of_mem_drop this)
    have z1 := ba_size_append s sep
    have z2 := ba_size_append (s ++ sep) x
    obtain ⟨r, p1, p2, p3⟩ := ih (i + 1) (s ++ sep ++ x) (by omega) (by omega) c (by omega)
    refine ⟨r, Ev.step (fun _ => spec_Join.l0.eq_2 ..) (Ev.pos a (Ev.pos (by omega) (Ev.pos a (Ev.pos (by omega) (Ev.pos (by omega) ?_))))), ?_, p3⟩
    · rw [b, w64 (n := i + 1) (by omega) (by omega)]
      exact Ev.pos (by omega) p1
    · rw [p2, ByteArray.data_append, Array.toList_append, ByteArray.data_append, Array.toList_append, List.map_cons, show ∀ r, Go.Lib.joinTail sep.data.toList (x.data.toList :: r) = (sep.data.toList ++ x.data.toList) ++ Go.Lib.joinTail sep.data.toList r from fun _ => rfl, List.append_assoc, List.append_assoc, List.append_assoc]
theorem join_both (xs : List ByteArray) (sep : ByteArray) (hx : xs.length ≤ 1048576) (hp : sep.size ≤ 1048576) (hs : ∀ x, x ∈ xs → x.size ≤ 1048576) : ∃ r, Ev (fun k => spec_Join.f k xs sep) r ∧ impl_Join.f xs sep = some r := by
  unfold spec_Join.f impl_Join.f strings_Join.f
  cases xs with
  | nil =>
    refine ⟨⟨#[]⟩, Ev.step (fun _ => spec_Join.l0.eq_2 ..) (Ev.neg (by decide) (Ev.now _)), ?_⟩
    rw [if_pos ⟨Nat.zero_le _, Nat.zero_le _⟩]
    rfl
  | cons x l =>
    have e0 : (⟨#[]⟩ : ByteArray) ++ x = x := by
      apply ba_ext
      rw [ByteArray.data_append, Array.toList_append]
      rfl
    have h0 := hs x (List.mem_cons_self ..)
    have hb : (⟨#[]⟩ : ByteArray).size = 0 := rfl
    rw [List.length_cons] at hx
    obtain ⟨r, p1, p2, p3⟩ := join_spec_l (x :: l) sep (by rw [List.length_cons]; exact hx) hp hs l 1 x (by omega) (by rw [List.length_cons]; omega) rfl (by omega)
    have hr : Go.Lib.join ((x :: l).map (·.data.toList)) sep.data.toList = r.data.toList := by
      rw [List.map_cons, Go.Lib.join_cons, p2]
    have hz : r.data.toList.length = r.size := by rw [Array.length_toList]; rfl
    rw [List.length_cons] at p3
    refine ⟨r, Ev.step (fun _ => spec_Join.l0.eq_2 ..) (Ev.pos (by rw [List.length_cons]; omega) (Ev.pos (by omega) (Ev.pos (by rw [List.length_cons]; omega) (Ev.neg (by omega) ?_)))), ?_⟩
    · rw [show rdOf ByteArray.empty (x :: l) 0 = x from rfl, e0, hb, w64 (n := 0 + 1) (by omega) (by omega)]
      exact Ev.pos (by omega) p1
    · rw [hr, if_pos ⟨by rw [List.length_cons]; omega, by rw [hz]; omega⟩, Option.bind_some]

theorem FnExactJoin (xs : List ByteArray) (sep : ByteArray) (h : xs.length ≤ 9223372036854775807 ∧ ∀ s, s ∈ xs → s.size ≤ 9223372036854775807) (h0 : sep.size ≤ 9223372036854775807) : ∃ k, laws_FnExactJoin.f k xs sep = some true := by
  apply Ev.rounds
  unfold laws_FnExactJoin.f
  by_cases hb : (sep.size : Int) > 1048576
  · exact Ev.pos hb (Ev.now _)
  · obtain ⟨t, h1, h2⟩ := szStringS_ex xs h.1 h.2 1048576 (by omega) (by omega)
    refine Ev.neg hb (Ev.bind h1 ?_)
    by_cases ht : t < 0
    · exact Ev.pos ht (Ev.now _)
    · obtain ⟨_, _, hx, hs⟩ := h2.resolve_left ht
      have c := toStringS_f xs (by omega)
      obtain ⟨r, p1, p2⟩ := join_both xs sep (by omega) (by omega) (fun x hx => by have := hs x hx; omega)
      exact Ev.neg ht (Ev.bind c (Ev.bind p1 (Ev.bind c (Ev.bind0 p2 (Ev.pos rfl (Ev.bind c (Ev.bind (eqStringS_refl xs (by omega)) (Ev.pos rfl (Ev.now _)))))))))

end Go.Proofs.Ytcafdolliedcaab.Pure
