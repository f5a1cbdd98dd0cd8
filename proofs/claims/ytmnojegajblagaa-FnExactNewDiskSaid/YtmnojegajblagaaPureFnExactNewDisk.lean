/- The law FnExactNewDisk holds for every input of its kind; no further condition. -/
import Derived.Test.YtmnojegajblagaaPFnExactNewDiskx4
import Derived.Test.YtmnojegajblagaaLibBase
import Derived.Test.YtmnojegajblagaaLibOpen
namespace Go.Proofs.Ytmnojegajblagaa.Pure
open Go.RowKit Go.Proofs.Ytmnojegajblagaa.PFnExactNewDisk Go.Proofs.Ytmnojegajblagaa.Lib Go.Proofs.YtmnojegajblagaaW.PrintWords Go.Proofs.YtmnojegajblagaaW.PrintLast Go.Proofs.YtmnojegajblagaaW.PrintMore
set_option linter.unusedVariables false
set_option linter.unusedSimpArgs false

theorem eqStringS_refl_l (d : Nat) : ∀ (i : Int) (l : List ByteArray), 0 ≤ i → i + d = (l.length : Int) → (l.length : Int) ≤ 4611686018427387904 → Ev (fun k => laws_eqStringS.l0 k l l i) true := by
  induction d with
  | zero =>
    intro i l h0 hd hl
    exact Ev.step (fun _ => laws_eqStringS.l0.eq_2 ..) (Ev.neg (by omega) (Ev.now _))
  | succ d ih =>
    intro i l h0 hd hl
    refine Ev.step (fun _ => laws_eqStringS.l0.eq_2 ..) (Ev.pos (by omega) (Ev.pos h0 (Ev.pos (by omega) (Ev.pos rfl ?_))))
    rw [w64 (n := i + 1) (by omega) (by omega)]
    exact ih (i + 1) l (by omega) (by omega) hl
theorem eqStringS_refl (l : List ByteArray) (hl : (l.length : Int) ≤ 4611686018427387904) : Ev (fun k => laws_eqStringS.f k l l) true := by
  unfold laws_eqStringS.f
  exact Ev.pos rfl (eqStringS_refl_l l.length 0 l (by omega) (by omega) hl)

theorem eqWriteS_l (d : Nat) : ∀ (i : Int) (l : List S153), 0 ≤ i → i + d = (l.length : Int) → (l.length : Int) ≤ 4611686018427387904 → Ev (fun k => laws_eqWriteS.l0 k l l i) true := by
  induction d with
  | zero =>
    intro i l h0 hd hl
    exact Ev.step (fun _ => laws_eqWriteS.l0.eq_2 ..) (Ev.neg (by omega) (Ev.now _))
  | succ d ih =>
    intro i l h0 hd hl
    refine Ev.step (fun _ => laws_eqWriteS.l0.eq_2 ..) (Ev.pos (by omega) (Ev.pos h0 (Ev.pos (by omega) (Ev.bind0 (a := true) (by unfold laws_eqWrite.f; simp) (Ev.pos rfl ?_)))))
    rw [w64 (n := i + 1) (by omega) (by omega)]
    exact ih (i + 1) l (by omega) (by omega) hl
theorem eqWriteS_f (l : List S153) (hl : (l.length : Int) ≤ 4611686018427387904) : Ev (fun k => laws_eqWriteS.f k l l) true := by
  unfold laws_eqWriteS.f
  exact Ev.pos rfl (eqWriteS_l l.length 0 l (by omega) (by omega) hl)

theorem markText_l (d : Nat) : ∀ (n : Int) (t : ByteArray), n.toNat ≤ d → (t.size : Int) + n ≤ 4611686018427387904 → t.size ≤ 4611686018427387904 → ∃ r, Ev (fun k => laws_markText.l0 k n t) r := by
  induction d with
  | zero =>
    intro n t hd h1 h2
    exact ⟨_, Ev.step (fun _ => laws_markText.l0.eq_2 ..) (Ev.neg (by omega) (Ev.pos (by omega) (Ev.now _)))⟩
  | succ d ih =>
    intro n t hd h1 h2
    by_cases hn : n > 0
    · have e : Int.tdiv n 10 = n / 10 := Int.tdiv_eq_ediv_of_nonneg (by omega)
      obtain ⟨r, hr⟩ := ih (n / 10) (strOfNums [wrap64 (48 + Int.tmod n 10) % 256] ++ t) (by omega) (by rw [ba_size_append, strOfNums_size, List.length_singleton]; omega) (by rw [ba_size_append, strOfNums_size, List.length_singleton]; omega)
      refine ⟨r, Ev.step (fun _ => laws_markText.l0.eq_2 ..) (Ev.pos hn (Ev.bind0 rfl (Ev.pos ?_ ?_)))⟩
      · rw [strOfNums_size, List.length_singleton]
        omega
      · rw [e, w64 (n := n / 10) (by omega) (by omega)]
        exact hr
    · exact ⟨_, Ev.step (fun _ => laws_markText.l0.eq_2 ..) (Ev.neg (by omega) (Ev.pos (by omega) (Ev.now _)))⟩
theorem markText_ex (n : Int) (h : n ≤ 1152921504606846976) : ∃ r, Ev (fun k => laws_markText.f k n) r := by
  unfold laws_markText.f
  by_cases hn : n ≤ 0
  · exact ⟨_, Ev.pos hn (Ev.now _)⟩
  · obtain ⟨r, hr⟩ := markText_l n.toNat n ⟨#[]⟩ (by omega) (by have : (⟨#[]⟩ : ByteArray).size = 0 := rfl; omega) (by have : (⟨#[]⟩ : ByteArray).size = 0 := rfl; omega)
    exact ⟨r, Ev.neg hn hr⟩

theorem markStringS_l (d : Nat) : ∀ (i k : Int) (l : List ByteArray), 0 ≤ i → i + d = (l.length : Int) → 0 ≤ k → k + d ≤ 1152921504606846976 → (l.length : Int) ≤ 1152921504606846976 →
    ∃ l', Ev (fun n => laws_markStringS.l0 n l k i) (k + d, l') ∧ l'.length = l.length ∧ (∀ j : Nat, (j : Int) < i → l'[j]? = l[j]?) ∧ Ev (fun n => laws_heldStringS.l0 n l' k i) (k + d) := by
  induction d with
  | zero =>
    intro i k l h0 hd hk hk' hl
    refine ⟨l, ?_, rfl, fun _ _ => rfl, ?_⟩
    · rw [show k + ((0 : Nat) : Int) = k by omega]
      exact Ev.step (fun _ => laws_markStringS.l0.eq_2 ..) (Ev.neg (by omega) (Ev.now _))
    · rw [show k + ((0 : Nat) : Int) = k by omega]
      exact Ev.step (fun _ => laws_heldStringS.l0.eq_2 ..) (Ev.neg (by omega) (Ev.now _))
  | succ d ih =>
    intro i k l h0 hd hk hk' hl
    obtain ⟨t, ht⟩ := markText_ex k (by omega)
    obtain ⟨l', h1, h2, h3, h4⟩ := ih (i + 1) (k + 1) (l.set i.toNat t) (by omega) (by rw [List.length_set]; omega) (by omega) (by omega) (by rw [List.length_set]; omega)
    rw [List.length_set] at h2
    rw [show k + 1 + (d : Int) = k + ((d + 1 : Nat) : Int) by omega] at h1 h4
    refine ⟨l', ?_, h2, ?_, ?_⟩
    · refine Ev.step (fun _ => laws_markStringS.l0.eq_2 ..) (Ev.pos (by omega) (Ev.bind ht (Ev.pos h0 ?_)))
      rw [w64 (n := k + 1) (by omega) (by omega), w64 (n := i + 1) (by omega) (by omega)]
      exact h1
    · intro j hj
      rw [h3 j (by omega), List.getElem?_set_ne (by omega)]
    · refine Ev.step (fun _ => laws_heldStringS.l0.eq_2 ..) (Ev.pos (by omega) (Ev.pos h0 (Ev.bind ht (Ev.pos ?_ ?_))))
      · have := h3 i.toNat (by omega)
        rw [List.getElem?_set_self (by omega)] at this
        unfold rdOf
        rw [List.getD_eq_getElem?_getD, this]
        rfl
      · rw [w64 (n := k + 1) (by omega) (by omega), w64 (n := i + 1) (by omega) (by omega)]
        exact h4
theorem markStringS_ex (l : List ByteArray) (k : Int) (hk : 0 ≤ k) (h : k + (l.length : Int) ≤ 1152921504606846976) :
    ∃ m l', Ev (fun n => laws_markStringS.f n l k) (m, l') ∧ Ev (fun n => laws_heldStringS.f n l' k) m ∧ 0 ≤ m ∧ m = k + (l.length : Int) ∧ l'.length = l.length := by
  obtain ⟨l', h1, h2, _, h4⟩ := markStringS_l l.length 0 k l (by omega) (by omega) hk h (by omega)
  exact ⟨_, l', h1, h4, by omega, rfl, h2⟩

theorem rdWrite_set (l : List S153) (i : Int) (v : S153) (h0 : 0 ≤ i) (h : i < (l.length : Int)) : rd_T153 (l.set i.toNat v) i = v := by
  show rdOf z153 (l.set i.toNat v) i = v
  unfold rdOf
  rw [List.getD_eq_getElem?_getD, List.getElem?_set_self (by omega)]
  rfl
theorem markWriteS_l (d : Nat) : ∀ (i k : Int) (l : List S153), 0 ≤ i → i + d = (l.length : Int) → 0 ≤ k → k + 2 * d ≤ 1152921504606846976 → (l.length : Int) ≤ 1152921504606846976 →
    ∃ l', Ev (fun n => laws_markWriteS.l0 n l k i) (k + 2 * d, l') ∧ l'.length = l.length ∧ (∀ j : Nat, (j : Int) < i → l'[j]? = l[j]?) ∧ Ev (fun n => laws_heldWriteS.l0 n l' k i) (k + 2 * d) := by
  induction d with
  | zero =>
    intro i k l h0 hd hk hk' hl
    refine ⟨l, ?_, rfl, fun _ _ => rfl, ?_⟩
    · rw [show k + 2 * ((0 : Nat) : Int) = k by omega]
      exact Ev.step (fun _ => laws_markWriteS.l0.eq_2 ..) (Ev.neg (by omega) (Ev.now _))
    · rw [show k + 2 * ((0 : Nat) : Int) = k by omega]
      exact Ev.step (fun _ => laws_heldWriteS.l0.eq_2 ..) (Ev.neg (by omega) (Ev.now _))
  | succ d ih =>
    intro i k l h0 hd hk hk' hl
    obtain ⟨t, ht⟩ := markText_ex (k + 1) (by omega)
    obtain ⟨l', h1, h2, h3, h4⟩ := ih (i + 1) (k + 1 + 1) (l.set i.toNat ⟨k, t⟩) (by omega) (by rw [List.length_set]; omega) (by omega) (by omega) (by rw [List.length_set]; omega)
    rw [show k + 1 + 1 + 2 * (d : Int) = k + 2 * ((d + 1 : Nat) : Int) by omega] at h1 h4
    rw [List.length_set] at h2
    refine ⟨l', Ev.step (fun _ => laws_markWriteS.l0.eq_2 ..) (Ev.pos (by omega) (Ev.pos h0 (Ev.bind0 rfl ?_))), h2, ?_, ?_⟩
    · rw [w64 (n := k + 1) (by omega) (by omega), w64 (n := k + 1 + 1) (by omega) (by omega), w64 (n := i + 1) (by omega) (by omega)]
      refine Ev.bind ht ?_
      rw [rdWrite_set _ _ _ h0 (by omega), List.set_set]
      exact h1
    · intro j hj
      rw [h3 j (by omega), List.getElem?_set_ne (by omega)]
    · have e : rd_T153 l' i = ⟨k, t⟩ := by
        have h' := h3 i.toNat (by omega)
        rw [List.getElem?_set_self (by omega)] at h'
        show rdOf z153 l' i = _
        unfold rdOf
        rw [List.getD_eq_getElem?_getD, h']
        rfl
      refine Ev.step (fun _ => laws_heldWriteS.l0.eq_2 ..) (Ev.pos (by omega) (Ev.pos h0 ?_))
      rw [e]
      simp only []
      rw [w64 (n := k + 1) (by omega) (by omega), w64 (n := k + 1 + 1) (by omega) (by omega), w64 (n := i + 1) (by omega) (by omega)]
      exact Ev.pos (by trivial) (Ev.bind ht (Ev.pos (by trivial) h4))
theorem markWriteS_ex (l : List S153) (k : Int) (hk : 0 ≤ k) (h : k + 2 * (l.length : Int) ≤ 1152921504606846976) :
    ∃ l', Ev (fun n => laws_markWriteS.f n l k) (k + 2 * (l.length : Int), l') ∧ l'.length = l.length ∧ Ev (fun n => laws_heldWriteS.f n l' k) (k + 2 * (l.length : Int)) := by
  obtain ⟨l', h1, h2, _, h4⟩ := markWriteS_l l.length 0 k l (by omega) (by omega) hk h (by omega)
  exact ⟨l', h1, h2, h4⟩

theorem l01In_spec (a b c : Int) : spec_l01In.f a b c = some (decide (b ≤ a ∧ a ≤ c)) := by
  unfold spec_l01In.f
  by_cases h : a ≥ b
  · rw [if_pos h]
    simp [show b ≤ a from h]
  · rw [if_neg h]
    simp [show ¬ b ≤ a from h]

/-- A sector of zeros. -/
def zSector : ByteArray := strOfNums (List.replicate 32 0)
theorem padZ_l (n : Int) (hn : n ≤ 100000) (d : Nat) : ∀ (xs : List Int), (n - (xs.length : Int)).toNat = d → Ev (fun k => spec_PadTo.l0 k n xs) (strOfNums (xs ++ List.replicate d 0)) := by
  induction d with
  | zero =>
    intro xs hd
    rw [List.replicate_zero, List.append_nil]
    exact Ev.step (fun _ => spec_PadTo.l0.eq_2 ..) (Ev.neg (by omega) (Ev.now _))
  | succ d ih =>
    intro xs hd
    have := ih (xs ++ [0]) (by rw [List.length_append, List.length_singleton]; omega)
    rw [List.append_assoc, show [(0 : Int)] ++ List.replicate d 0 = List.replicate (d + 1) 0 from rfl] at this
    exact Ev.step (fun _ => spec_PadTo.l0.eq_2 ..) (Ev.pos (by omega) (Ev.pos (by omega) this))
theorem padZ : Ev (fun k => spec_PadTo.f k (⟨#[]⟩ : ByteArray) 32) zSector := by
  unfold spec_PadTo.f
  exact Ev.neg (by omega) (Ev.pos (by decide) (padZ_l 32 (by omega) 32 [] rfl))
theorem newDisk_spec_l (n : Int) (hn : n ≤ 400) (d : Nat) : ∀ (xs : List ByteArray), (n - (xs.length : Int)).toNat = d → Ev (fun k => spec_NewDisk.l0 k n xs) (xs ++ List.replicate d zSector, ([] : List S153)) := by
  induction d with
  | zero =>
    intro xs hd
    rw [List.replicate_zero, List.append_nil]
    exact Ev.step (fun _ => spec_NewDisk.l0.eq_2 ..) (Ev.neg (by omega) (Ev.now _))
  | succ d ih =>
    intro xs hd
    have := ih (xs ++ [zSector]) (by rw [List.length_append, List.length_singleton]; omega)
    rw [List.append_assoc, show [zSector] ++ List.replicate d zSector = List.replicate (d + 1) zSector from rfl] at this
    exact Ev.step (fun _ => spec_NewDisk.l0.eq_2 ..) (Ev.pos (by omega) (Ev.bind padZ (Ev.pos (by omega) this)))
theorem newDisk_both (n : Int) : ∃ r, r.length ≤ 400 ∧ Ev (fun k => spec_NewDisk.f k n) (r, ([] : List S153)) ∧ Ev (fun k => impl_NewDisk.f k n) (r, ([] : List S153)) := by
  unfold spec_NewDisk.f impl_NewDisk.f
  by_cases h : 0 ≤ n ∧ n ≤ 400
  · refine ⟨List.replicate n.toNat zSector, by rw [List.length_replicate]; omega, Ev.bind0 (l01In_spec _ _ _) (Ev.pos (decide_eq_true h) ?_), Ev.neg (by omega) (Ev.step (fun _ => impl_NewDisk.j0.eq_2 ..) (Ev.neg (by rw [decide_eq_false (by omega)]; decide) ?_))⟩
    · have := newDisk_spec_l n h.2 n.toNat [] (by rw [List.length_nil]; omega)
      rw [List.nil_append] at this
      exact this
    · refine Ev.bind0 (a := zSector) (by unfold impl_zeros.f; rw [if_pos (by omega), if_pos (by decide)]; rfl) (Ev.bind0 (a := List.replicate n.toNat zSector) (by unfold slices_Repeat_string_string.f; rw [if_pos ⟨rfl, h.1, by omega⟩]; rfl) (Ev.now _))
  · refine ⟨[], Nat.zero_le _, Ev.bind0 (l01In_spec _ _ _) (Ev.neg (by simpa using h) (Ev.now _)), ?_⟩
    by_cases h1 : n < 0
    · exact Ev.pos h1 (Ev.step (fun _ => impl_NewDisk.j0.eq_2 ..) (Ev.pos rfl (Ev.now _)))
    · exact Ev.neg h1 (Ev.step (fun _ => impl_NewDisk.j0.eq_2 ..) (Ev.pos (decide_eq_true (by omega)) (Ev.now _)))

theorem FnExactNewDisk (n : Int) (h0 : (Lit.int .i64 n).wf = true) : ∃ k, laws_FnExactNewDisk.f k n = some true := by
  obtain ⟨r, hl, h1, h2⟩ := newDisk_both n
  apply Ev.rounds
  unfold laws_FnExactNewDisk.f
  have e : Ev (fun k => laws_eqDisk.f k r ([] : List S153) r ([] : List S153)) true := by
    unfold laws_eqDisk.f
    exact Ev.bind (eqStringS_refl r (by omega)) (Ev.pos rfl (Ev.bind (eqWriteS_f [] (by decide)) (Ev.pos rfl (Ev.now _))))
  obtain ⟨m, l', g1, g2, g3, g4, g5⟩ := markStringS_ex r 1 (by omega) (by omega)
  obtain ⟨l2, f1, f2, f3⟩ := markWriteS_ex [] m (by omega) (by rw [List.length_nil]; omega)
  have hm : m + 2 * (([] : List S153).length : Int) = m := by rw [List.length_nil]; omega
  rw [hm] at f1 f3
  have k1 : Ev (fun k => laws_markDisk.f k r ([] : List S153) 1) (m, l', l2) := by
    unfold laws_markDisk.f
    exact Ev.bind g1 (Ev.bind f1 (Ev.now _))
  have k2 : Ev (fun k => laws_heldDisk.f k l' l2 1) m := by
    unfold laws_heldDisk.f
    exact Ev.bind g2 (Ev.neg (by omega) (Ev.bind f3 (Ev.neg (by omega) (Ev.now _))))
  exact Ev.bind h1 (Ev.bind h2 (Ev.bind e (Ev.pos rfl (Ev.bind k1 (Ev.bind k2 (Ev.neg (by omega) (Ev.pos rfl (Ev.bind h2 (Ev.bind e (Ev.pos rfl (Ev.bind k2 (Ev.neg (by omega) (Ev.pos rfl (Ev.now _))))))))))))))

end Go.Proofs.Ytmnojegajblagaa.Pure
