/- The law FnExactTxnSteps holds for every input of its kind; no further condition. -/
import Derived.Test.YtmnojegajblagabPFnExactTxnStepsx9
import Derived.Test.YtmnojegajblagabLibBase
import Derived.Test.YtmnojegajblagabLibOpen
import Derived.Test.YtmnojegajblagabLibNumbers
import Derived.Test.YtmnojegajblagabLibCheck
namespace Go.Proofs.Ytmnojegajblagab.Pure
open Go.RowKit Go.Proofs.Ytmnojegajblagab.PFnExactTxnSteps Go.Proofs.Ytmnojegajblagab.Lib Go.Proofs.YtmnojegajblagabW.PrintWords Go.Proofs.YtmnojegajblagabW.PrintLast Go.Proofs.YtmnojegajblagabW.PrintMore
set_option linter.unusedVariables false
set_option linter.unusedSimpArgs false

theorem szWriteS_l (xs : List S99) (hx : xs.length ≤ 1048576) (hs : ∀ s, s ∈ xs → s.f1.size ≤ 9223372036854775807) (l : List S99) : ∀ (i left : Int), 0 ≤ i → xs.drop i.toNat = l → 0 ≤ left → left ≤ 1048576 →
    ∃ t, Ev (fun k => laws_szWriteS.l0 k xs left i) t ∧ (t < 0 ∨ 0 ≤ t ∧ t ≤ left ∧ ∀ s, s ∈ l → (s.f1.size : Int) ≤ left) := by
  induction l with
  | nil =>
    intro i left h0 h hl hl'
    have := ldrop_nil h0 h
    exact ⟨left, Ev.step (fun _ => laws_szWriteS.l0.eq_2 ..) (Ev.neg (by omega) (Ev.now _)), Or.inr ⟨hl, by omega, fun s h => by cases h⟩⟩
  | cons x l ih =>
    intro i left h0 h hl hl'
    obtain ⟨a, b, c, e⟩ := ldrop_cons z99 h0 h
    have hb : rd_T99 xs i = x := b
    have hxs : x.f1.size ≤ 9223372036854775807 := hs x (by
      have : x ∈ xs.drop i.toNat := by rw [h]; exact List.mem_cons_self ..
      exact List.mem_of_mem_drop this)
    by_cases hneg : left - (x.f1.size : Int) < 0
    · refine ⟨-1, Ev.step (fun _ => laws_szWriteS.l0.eq_2 ..) (Ev.pos a (Ev.pos h0 ?_)), by omega⟩
      rw [hb]
      refine Ev.bind0 (a := -1) ?_ (Ev.pos (by decide) (Ev.now _))
      unfold laws_szWrite.f
      rw [w64 (n := left - (x.f1.size : Int)) (by omega) (by omega), if_pos hneg]
    · obtain ⟨t, h1, h2⟩ := ih (i + 1) (left - (x.f1.size : Int)) (by omega) c (by omega) (by omega)
      refine ⟨t, Ev.step (fun _ => laws_szWriteS.l0.eq_2 ..) (Ev.pos a (Ev.pos h0 ?_)), ?_⟩
      · rw [hb]
        refine Ev.bind0 (a := left - (x.f1.size : Int)) ?_ (Ev.neg hneg ?_)
        · unfold laws_szWrite.f
          rw [w64 (n := left - (x.f1.size : Int)) (by omega) (by omega), if_neg hneg]
        · rw [w64 (n := i + 1) (by omega) (by omega)]
          exact h1
      · rcases h2 with h2 | ⟨h2, h3, h4⟩
        · exact Or.inl h2
        · refine Or.inr ⟨h2, by omega, fun s hs => ?_⟩
          rcases List.mem_cons.1 hs with hs | hs
          · subst hs
            omega
          · have := h4 s hs
            omega
theorem szWriteS_ex (xs : List S99) (hx : xs.length ≤ 9223372036854775807) (hs : ∀ s, s ∈ xs → s.f1.size ≤ 9223372036854775807) (left : Int) (hl : 0 ≤ left) (hl' : left ≤ 1048576) :
    ∃ t, Ev (fun k => laws_szWriteS.f k xs left) t ∧ (t < 0 ∨ 0 ≤ t ∧ t ≤ left ∧ (xs.length : Int) ≤ left ∧ ∀ s, s ∈ xs → (s.f1.size : Int) ≤ left) := by
  unfold laws_szWriteS.f
  rw [w64 (n := left - (xs.length : Int)) (by omega) (by omega)]
  by_cases hneg : left - (xs.length : Int) < 0
  · exact ⟨-1, Ev.pos hneg (Ev.now _), by omega⟩
  · obtain ⟨t, h1, h2⟩ := szWriteS_l xs (by omega) hs xs 0 (left - (xs.length : Int)) (by omega) rfl (by omega) (by omega)
    refine ⟨t, Ev.neg hneg h1, ?_⟩
    rcases h2 with h2 | ⟨h2, h3, h4⟩
    · exact Or.inl h2
    · exact Or.inr ⟨h2, by omega, by omega, fun s hs => by have := h4 s hs; omega⟩

def wrTo (x : S99) : S102 := ⟨x.f0, x.f1⟩
theorem toWriteS_l (xs : List S99) (hx : xs.length ≤ 1048576) (l : List S99) : ∀ (i : Int) (ys : List S102), 0 ≤ i → xs.drop i.toNat = l → ys.length = xs.length → Ev (fun k => laws_toWriteS.l0 k xs ys i) (ys.take i.toNat ++ l.map wrTo) := by
  induction l with
  | nil =>
    intro i ys h0 h hy
    have := ldrop_nil h0 h
    rw [List.map_nil, List.append_nil, List.take_of_length_le (by omega)]
    exact Ev.step (fun _ => laws_toWriteS.l0.eq_2 ..) (Ev.neg (by omega) (Ev.now _))
  | cons x l ih =>
    intro i ys h0 h hy
    obtain ⟨a, b, c, e⟩ := ldrop_cons z99 h0 h
    refine Ev.step (fun _ => laws_toWriteS.l0.eq_2 ..) (Ev.pos a (Ev.pos h0 (Ev.bind0 rfl (Ev.pos (by omega) ?_))))
    have := ih (i + 1) (ys.set i.toNat (wrTo x)) (by omega) c (by rw [List.length_set]; exact hy)
    rw [set_take _ h0 (by omega), List.append_assoc] at this
    rw [w64 (by omega) (by omega), show rd_T99 xs i = x from b]
    exact this
theorem toWriteS_f (xs : List S99) (hx : xs.length ≤ 1048576) : Ev (fun k => laws_toWriteS.f k xs) (xs.map wrTo) := by
  unfold laws_toWriteS.f
  exact Ev.pos (by omega) (Ev.pos (by omega) (toWriteS_l xs hx xs 0 _ (by omega) rfl (by rw [List.length_replicate]; omega)))

theorem eqWriteS_l (d : Nat) : ∀ (i : Int) (l : List S102), 0 ≤ i → i + d = (l.length : Int) → (l.length : Int) ≤ 4611686018427387904 → Ev (fun k => laws_eqWriteS.l0 k l l i) true := by
  induction d with
  | zero =>
    intro i l h0 hd hl
    exact Ev.step (fun _ => laws_eqWriteS.l0.eq_2 ..) (Ev.neg (by omega) (Ev.now _))
  | succ d ih =>
    intro i l h0 hd hl
    refine Ev.step (fun _ => laws_eqWriteS.l0.eq_2 ..) (Ev.pos (by omega) (Ev.pos h0 (Ev.pos (by omega) (Ev.bind0 (a := true) (by unfold laws_eqWrite.f; simp) (Ev.pos rfl ?_)))))
    rw [w64 (n := i + 1) (by omega) (by omega)]
    exact ih (i + 1) l (by omega) (by omega) hl
theorem eqWriteS_f (l : List S102) (hl : (l.length : Int) ≤ 4611686018427387904) : Ev (fun k => laws_eqWriteS.f k l l) true := by
  unfold laws_eqWriteS.f
  exact Ev.pos rfl (eqWriteS_l l.length 0 l (by omega) (by omega) hl)

theorem markText_l (d : Nat) : ∀ (n : Int) (t : ByteArray), n.toNat ≤ d → (t.size : Int) + n ≤ 4611686018427387904 → t.size ≤ 4611686018427387904 → ∃ r, Ev (fun k => laws_markText.l0 k n t) r := by
  induction d with
  | zero =>
    intro n t hd h1 h2
    exact ⟨_, Ev.step (fun _ => laws_markText.l0.eq_2 ..) (Ev.neg (by omega) (Ev.pos (by omega) (Ev.now _)))⟩
  | succ d ih =>
    intro n t hd h1 h2
    by_cases hn : n > 0
    · have e : Int.tdiv n 10 = n / 10 := Int.tdiv_eq_ediv_of_nonneg (by omega)
      obtain ⟨r, hr⟩ := ih (n / 10) (strOfNums [wrap64 (48 + Int.tmod n 10) % 256] ++ t) (by omega) (by rw [ba_size_append, strOfNums_size, List.length_singleton]; omega) (by rw [ba_size_append, strOfNums_size, List.length_singleton]; omega)
      refine ⟨r, Ev.step (fun _ => laws_markText.l0.eq_2 ..) (Ev.pos hn (Ev.bind0 rfl (Ev.pos ?_ ?_)))⟩
      · rw [strOfNums_size, List.length_singleton]
        omega
      · rw [e, w64 (n := n / 10) (by omega) (by omega)]
        exact hr
    · exact ⟨_, Ev.step (fun _ => laws_markText.l0.eq_2 ..) (Ev.neg (by omega) (Ev.pos (by omega) (Ev.now _)))⟩
theorem markText_ex (n : Int) (h : n ≤ 1152921504606846976) : ∃ r, Ev (fun k => laws_markText.f k n) r := by
  unfold laws_markText.f
  by_cases hn : n ≤ 0
  · exact ⟨_, Ev.pos hn (Ev.now _)⟩
  · obtain ⟨r, hr⟩ := markText_l n.toNat n ⟨#[]⟩ (by omega) (by have : (⟨#[]⟩ : ByteArray).size = 0 := rfl; omega) (by have : (⟨#[]⟩ : ByteArray).size = 0 := rfl; omega)
    exact ⟨r, Ev.neg hn hr⟩

theorem markWriteSo_l (d : Nat) : ∀ (i k : Int) (l : List S102), 0 ≤ i → i + d = (l.length : Int) → 0 ≤ k → k + 2 * d ≤ 1152921504606846976 → (l.length : Int) ≤ 1152921504606846976 →
    ∃ l', Ev (fun n => laws_markWriteS.l0 n l k i) (k + 2 * d, l') ∧ l'.length = l.length := by
  induction d with
  | zero =>
    intro i k l h0 hd hk hk' hl
    refine ⟨l, ?_, rfl⟩
    rw [show k + 2 * ((0 : Nat) : Int) = k by omega]
    exact Ev.step (fun _ => laws_markWriteS.l0.eq_2 ..) (Ev.neg (by omega) (Ev.now _))
  | succ d ih =>
    intro i k l h0 hd hk hk' hl
    obtain ⟨t, ht⟩ := markText_ex (k + 1) (by omega)
    obtain ⟨l', h1, h2⟩ := ih (i + 1) (k + 1 + 1) ((l.set i.toNat ⟨k, (rd_T102 l i).f1⟩).set i.toNat ⟨(rd_T102 (l.set i.toNat ⟨k, (rd_T102 l i).f1⟩) i).f0, t⟩) (by omega) (by rw [List.length_set, List.length_set]; omega) (by omega) (by omega) (by rw [List.length_set, List.length_set]; omega)
    rw [show k + 1 + 1 + 2 * (d : Int) = k + 2 * ((d + 1 : Nat) : Int) by omega] at h1
    rw [List.length_set, List.length_set] at h2
    refine ⟨l', Ev.step (fun _ => laws_markWriteS.l0.eq_2 ..) (Ev.pos (by omega) (Ev.pos h0 (Ev.bind0 rfl ?_))), h2⟩
    rw [w64 (n := k + 1) (by omega) (by omega), w64 (n := k + 1 + 1) (by omega) (by omega), w64 (n := i + 1) (by omega) (by omega)]
    exact Ev.bind ht h1
theorem markWriteSo_ex (l : List S102) (k : Int) (hk : 0 ≤ k) (h : k + 2 * (l.length : Int) ≤ 1152921504606846976) :
    ∃ l', Ev (fun n => laws_markWriteS.f n l k) (k + 2 * (l.length : Int), l') ∧ l'.length = l.length :=
  markWriteSo_l l.length 0 k l (by omega) (by omega) hk h (by omega)

theorem rdStep_set (l : List S146) (i : Int) (v : S146) (h0 : 0 ≤ i) (h : i < (l.length : Int)) : rd_T146 (l.set i.toNat v) i = v := by
  show rdOf z146 (l.set i.toNat v) i = v
  unfold rdOf
  rw [List.getD_eq_getElem?_getD, List.getElem?_set_self (by omega)]
  rfl
theorem eqStepS_l (d : Nat) : ∀ (i : Int) (l : List S146), 0 ≤ i → i + d = (l.length : Int) → (l.length : Int) ≤ 4611686018427387904 → Ev (fun k => laws_eqStepS.l0 k l l i) true := by
  induction d with
  | zero =>
    intro i l h0 hd hl
    exact Ev.step (fun _ => laws_eqStepS.l0.eq_2 ..) (Ev.neg (by omega) (Ev.now _))
  | succ d ih =>
    intro i l h0 hd hl
    refine Ev.step (fun _ => laws_eqStepS.l0.eq_2 ..) (Ev.pos (by omega) (Ev.pos h0 (Ev.pos (by omega) (Ev.bind0 (a := true) ?_ (Ev.pos rfl ?_)))))
    · unfold laws_eqStep.f laws_eqWrite.f
      rw [bne_self_eq_false, if_neg (by decide), if_pos rfl, if_pos rfl]
      rfl
    · rw [w64 (n := i + 1) (by omega) (by omega)]
      exact ih (i + 1) l (by omega) (by omega) hl
theorem eqStepS_f (l : List S146) (hl : (l.length : Int) ≤ 4611686018427387904) : Ev (fun k => laws_eqStepS.f k l l) true := by
  unfold laws_eqStepS.f
  exact Ev.pos rfl (eqStepS_l l.length 0 l (by omega) (by omega) hl)
theorem markStepS_l (d : Nat) : ∀ (i k : Int) (l : List S146), 0 ≤ i → i + d = (l.length : Int) → 0 ≤ k → k + 3 * d ≤ 1152921504606846976 → (l.length : Int) ≤ 1152921504606846976 →
    ∃ l', Ev (fun n => laws_markStepS.l0 n l k i) (k + 3 * d, l') ∧ l'.length = l.length ∧ (∀ j : Nat, (j : Int) < i → l'[j]? = l[j]?) ∧ Ev (fun n => laws_heldStepS.l0 n l' k i) (k + 3 * d) := by
  induction d with
  | zero =>
    intro i k l h0 hd hk hk' hl
    refine ⟨l, ?_, rfl, fun _ _ => rfl, ?_⟩
    · rw [show k + 3 * ((0 : Nat) : Int) = k by omega]
      exact Ev.step (fun _ => laws_markStepS.l0.eq_2 ..) (Ev.neg (by omega) (Ev.now _))
    · rw [show k + 3 * ((0 : Nat) : Int) = k by omega]
      exact Ev.step (fun _ => laws_heldStepS.l0.eq_2 ..) (Ev.neg (by omega) (Ev.now _))
  | succ d ih =>
    intro i k l h0 hd hk hk' hl
    obtain ⟨t, ht⟩ := markText_ex (k + 1 + 1) (by omega)
    obtain ⟨l', h1, h2, h3, h4⟩ := ih (i + 1) (k + 1 + 1 + 1) (l.set i.toNat ⟨Int.tmod k 3 == 0, ⟨k + 1, t⟩⟩) (by omega) (by rw [List.length_set]; omega) (by omega) (by omega) (by rw [List.length_set]; omega)
    rw [show k + 1 + 1 + 1 + 3 * (d : Int) = k + 3 * ((d + 1 : Nat) : Int) by omega] at h1 h4
    rw [List.length_set] at h2
    refine ⟨l', Ev.step (fun _ => laws_markStepS.l0.eq_2 ..) (Ev.pos (by omega) (Ev.pos h0 (Ev.bind0 rfl (Ev.bind0 rfl ?_)))), h2, ?_, ?_⟩
    · rw [w64 (n := k + 1) (by omega) (by omega), w64 (n := k + 1 + 1) (by omega) (by omega), w64 (n := k + 1 + 1 + 1) (by omega) (by omega), w64 (n := i + 1) (by omega) (by omega)]
      refine Ev.bind ht ?_
      rw [rdStep_set _ _ _ h0 (by omega), rdStep_set _ _ _ h0 (by rw [List.length_set]; omega)]
      simp only []
      rw [List.set_set, List.set_set]
      exact h1
    · intro j hj
      rw [h3 j (by omega), List.getElem?_set_ne (by omega)]
    · have e : rd_T146 l' i = ⟨Int.tmod k 3 == 0, ⟨k + 1, t⟩⟩ := by
        have h' := h3 i.toNat (by omega)
        rw [List.getElem?_set_self (by omega)] at h'
        show rdOf z146 l' i = _
        unfold rdOf
        rw [List.getD_eq_getElem?_getD, h']
        rfl
      refine Ev.step (fun _ => laws_heldStepS.l0.eq_2 ..) (Ev.pos (by omega) (Ev.pos h0 ?_))
      rw [e]
      simp only []
      rw [bne_self_eq_false, w64 (n := k + 1) (by omega) (by omega), w64 (n := k + 1 + 1) (by omega) (by omega), w64 (n := k + 1 + 1 + 1) (by omega) (by omega), w64 (n := i + 1) (by omega) (by omega)]
      exact Ev.neg (by decide) (Ev.pos (by trivial) (Ev.bind ht (Ev.pos (by trivial) h4)))
theorem markStepS_ex (l : List S146) (k : Int) (hk : 0 ≤ k) (h : k + 3 * (l.length : Int) ≤ 1152921504606846976) :
    ∃ l', Ev (fun n => laws_markStepS.f n l k) (k + 3 * (l.length : Int), l') ∧ l'.length = l.length ∧ Ev (fun n => laws_heldStepS.f n l' k) (k + 3 * (l.length : Int)) := by
  obtain ⟨l', h1, h2, _, h4⟩ := markStepS_l l.length 0 k l (by omega) (by omega) hk h (by omega)
  exact ⟨l', h1, h2, h4⟩

theorem l01In_spec (a b c : Int) : spec_l01In.f a b c = some (decide (b ≤ a ∧ a ≤ c)) := by
  unfold spec_l01In.f
  by_cases h : a ≥ b
  · rw [if_pos h]
    simp [show b ≤ a from h]
  · rw [if_neg h]
    simp [show ¬ b ≤ a from h]

theorem putNumber_spec_l (d : Nat) : ∀ (n : Int) (xs : List Int), 0 ≤ n → n ≤ 9223372036854775807 → d ≤ xs.length → xs.length ≤ 6 → Ev (fun k => spec_PutNumber.l0 k n xs ((d : Int) - 1)) (strOfNums (putL d n ++ xs.drop d)) := by
  induction d with
  | zero =>
    intro n xs h0 hn h h6
    exact Ev.step (fun _ => spec_PutNumber.l0.eq_2 ..) (Ev.neg (by decide) (Ev.now _))
  | succ d ih =>
    intro n xs h0 hn h h6
    rw [show ((d + 1 : Nat) : Int) - 1 = (d : Int) by omega]
    refine Ev.step (fun _ => spec_PutNumber.l0.eq_2 ..) (Ev.pos (by omega) (Ev.pos (by omega) (Ev.pos (by omega) ?_)))
    rw [Int.tdiv_eq_ediv_of_nonneg h0, Int.tmod_eq_emod_of_nonneg h0, w64 (n := n / 256) (by omega) (by omega), w64 (n := (d : Int) - 1) (by omega) (by omega), Int.toNat_natCast, Int.emod_emod_of_dvd n (Int.dvd_refl 256)]
    have := ih (n / 256) (xs.set d (n % 256)) (by omega) (by omega) (by rw [List.length_set]; omega) (by rw [List.length_set]; omega)
    rw [set_drop (n % 256) (by omega)] at this
    rw [putL, List.append_assoc]
    exact this
theorem putNumber_impl_l (d : Nat) : ∀ (n : Int) (xs : List Int), 0 ≤ n → n ≤ 9223372036854775807 → d ≤ xs.length → xs.length ≤ 6 → Ev (fun k => impl_PutNumber.l0 k n xs ((d : Int) - 1)) (strOfNums (putL d n ++ xs.drop d)) := by
  induction d with
  | zero =>
    intro n xs h0 hn h h6
    exact Ev.step (fun _ => impl_PutNumber.l0.eq_2 ..) (Ev.neg (by decide) (Ev.now _))
  | succ d ih =>
    intro n xs h0 hn h h6
    rw [show ((d + 1 : Nat) : Int) - 1 = (d : Int) by omega]
    refine Ev.step (fun _ => impl_PutNumber.l0.eq_2 ..) (Ev.pos (by omega) (Ev.pos (by omega) (Ev.pos (by omega) ?_)))
    rw [w64 (n := (d : Int) - 1) (by omega) (by omega), Int.toNat_natCast]
    have := ih (n / 256) (xs.set d (n % 256)) (by omega) (by omega) (by rw [List.length_set]; omega) (by rw [List.length_set]; omega)
    rw [set_drop (n % 256) (by omega)] at this
    rw [putL, List.append_assoc]
    exact this
theorem putNumber_spec (n w : Int) (hn : n ≤ 9223372036854775807) : Ev (fun k => spec_PutNumber.f k n w) (putNumber n w) := by
  unfold spec_PutNumber.f
  refine Ev.bind0 (l01In_spec w 1 6) ?_
  have no : ¬ (1 ≤ w ∧ w ≤ 6 ∧ 0 ≤ n ∧ n < 256 ^ w.toNat) → Ev (fun k => spec_PutNumber.j0 k n w true) (putNumber n w) := by
    intro h
    unfold putNumber
    rw [if_neg h]
    exact Ev.step (fun _ => spec_PutNumber.j0.eq_2 ..) (Ev.pos rfl (Ev.now _))
  by_cases hw : 1 ≤ w ∧ w ≤ 6
  · refine Ev.pos (by simpa using hw) ?_
    by_cases h0 : n < 0
    · exact Ev.pos h0 (no (by omega))
    · obtain ⟨e1, e2, e3, e4⟩ := shl_put hw.1 hw.2
      refine Ev.neg h0 (Ev.pos e2 ?_)
      rw [e1]
      by_cases h1 : n ≥ 256 ^ w.toNat
      · rw [show decide (n ≥ 256 ^ w.toNat) = true by simpa using h1]
        exact no (fun h => by have := h.2.2.2; omega)
      · rw [show decide (n ≥ 256 ^ w.toNat) = false by simpa using h1]
        refine Ev.step (fun _ => spec_PutNumber.j0.eq_2 ..) (Ev.neg (by decide) (Ev.pos (by omega) (Ev.pos (by omega) ?_)))
        have := putNumber_spec_l w.toNat n (List.replicate w.toNat 0) (by omega) hn (by rw [List.length_replicate]; omega) (by rw [List.length_replicate]; omega)
        rw [List.drop_eq_nil_of_le (by rw [List.length_replicate]; omega), List.append_nil, show ((w.toNat : Nat) : Int) = w by omega] at this
        unfold putNumber
        rw [if_pos ⟨hw.1, hw.2, by omega, by omega⟩, w64 (n := w - 1) (by omega) (by omega)]
        exact this
  · exact Ev.neg (by simpa using hw) (no (fun h => hw ⟨h.1, h.2.1⟩))
theorem putNumber_impl (n w : Int) (hn : n ≤ 9223372036854775807) : Ev (fun k => impl_PutNumber.f k n w) (putNumber n w) := by
  unfold impl_PutNumber.f
  have no : ¬ (1 ≤ w ∧ w ≤ 6 ∧ 0 ≤ n ∧ n < 256 ^ w.toNat) → Ev (fun k => impl_PutNumber.j0 k n w true) (putNumber n w) := by
    intro h
    unfold putNumber
    rw [if_neg h]
    exact Ev.step (fun _ => impl_PutNumber.j0.eq_2 ..) (Ev.pos rfl (Ev.now _))
  by_cases hw : w < 1
  · exact Ev.pos hw (no (fun h => by have := h.1; omega))
  · refine Ev.neg hw ?_
    by_cases hw6 : w > 6
    · exact Ev.pos hw6 (no (fun h => by have := h.2.1; omega))
    · refine Ev.neg hw6 ?_
      by_cases h0 : n < 0
      · exact Ev.pos h0 (no (fun h => by have := h.2.2.1; omega))
      · obtain ⟨e1, e2, e3, e4⟩ := shl_put (w := w) (by omega) (by omega)
        refine Ev.neg h0 (Ev.pos e4 ?_)
        rw [e3]
        by_cases h1 : n ≥ 256 ^ w.toNat
        · rw [show decide (n ≥ 256 ^ w.toNat) = true by simpa using h1]
          exact no (fun h => by have := h.2.2.2; omega)
        · rw [show decide (n ≥ 256 ^ w.toNat) = false by simpa using h1]
          refine Ev.step (fun _ => impl_PutNumber.j0.eq_2 ..) (Ev.neg (by decide) (Ev.pos (by omega) (Ev.pos (by omega) ?_)))
          have := putNumber_impl_l w.toNat n (List.replicate w.toNat 0) (by omega) hn (by rw [List.length_replicate]; omega) (by rw [List.length_replicate]; omega)
          rw [List.drop_eq_nil_of_le (by rw [List.length_replicate]; omega), List.append_nil, show ((w.toNat : Nat) : Int) = w by omega] at this
          unfold putNumber
          rw [if_pos ⟨by omega, by omega, by omega, by omega⟩, w64 (n := w - 1) (by omega) (by omega)]
          exact this

theorem strOfNums_size (l : List Int) : (strOfNums l).size = l.length := by
  have h : (strOfNums l).data.toList.length = (strOfNums l).size := by rw [Array.length_toList]; rfl
  rw [← h, strOfNums_data, List.length_map]
theorem putNumber_size (n w : Int) : (putNumber n w).size ≤ 6 := by
  unfold putNumber
  by_cases h : 1 ≤ w ∧ w ≤ 6 ∧ 0 ≤ n ∧ n < 256 ^ w.toNat
  · rw [if_pos h, strOfNums_size, putL_length]
    omega
  · rw [if_neg h]
    exact Nat.zero_le _

theorem data_eq_len (s : ByteArray) : s.data.toList.length = s.size := by rw [Array.length_toList]; rfl
theorem bytesOf_zeros (d : Nat) : bytesOf (⟨(Go.Lib.repeatL [0] d).toArray⟩ : ByteArray) = List.replicate d 0 := by
  have h := Go.Lib.repeatL_replicate 0 1 d
  rw [Nat.mul_one, show List.replicate 1 (0 : UInt8) = [0] from rfl] at h
  rw [h]
  unfold bytesOf
  rw [List.toList_toArray, List.map_replicate]
  rfl
theorem padTo_spec_l (n : Int) (hn : n ≤ 100000) (d : Nat) : ∀ (xs : List Int), (n - (xs.length : Int)).toNat = d → Ev (fun k => spec_PadTo.l0 k n xs) (strOfNums (xs ++ List.replicate d 0)) := by
  induction d with
  | zero =>
    intro xs hd
    rw [List.replicate_zero, List.append_nil]
    exact Ev.step (fun _ => spec_PadTo.l0.eq_2 ..) (Ev.neg (by omega) (Ev.now _))
  | succ d ih =>
    intro xs hd
    have := ih (xs ++ [0]) (by rw [List.length_append, List.length_singleton]; omega)
    rw [List.append_assoc, show [(0 : Int)] ++ List.replicate d 0 = List.replicate (d + 1) 0 from rfl] at this
    exact Ev.step (fun _ => spec_PadTo.l0.eq_2 ..) (Ev.pos (by omega) (Ev.pos (by omega) this))
theorem padTo_both' (s : ByteArray) (n : Int) (hs : s.size ≤ 100000) (hn : n ≤ 100000) : Ev (fun k => spec_PadTo.f k s n) (strOfNums (bytesOf s ++ List.replicate (n - ((bytesOf s).length : Int)).toNat 0)) ∧ impl_PadTo.f s n = some (strOfNums (bytesOf s ++ List.replicate (n - ((bytesOf s).length : Int)).toNat 0)) := by
  unfold spec_PadTo.f impl_PadTo.f
  refine ⟨Ev.neg (by omega) (Ev.pos (by omega) (padTo_spec_l n hn _ _ rfl)), ?_⟩
  rw [bytesOf_length]
  by_cases h : (s.size : Int) ≥ n
  · rw [if_pos h, show (n - (s.size : Int)).toNat = 0 by omega, List.replicate_zero, List.append_nil, strOfNums_bytesOf]
  · rw [if_neg h, if_neg (by omega), w64 (by omega) (by omega)]
    unfold strings_Repeat.f
    have z : (⟨#[0]⟩ : ByteArray).size = 1 := rfl
    rw [if_pos ⟨by omega, by omega, by rw [z]; omega⟩, Option.bind_some]
    have z2 : (⟨(Go.Lib.repeatL [0] (n - (s.size : Int)).toNat).toArray⟩ : ByteArray).size = (n - (s.size : Int)).toNat := by
      rw [← data_eq_len]
      simp only []
      rw [Go.Lib.repeatL_length]
      exact Nat.mul_one _
    have e : s ++ (⟨(Go.Lib.repeatL [0] (n - (s.size : Int)).toNat).toArray⟩ : ByteArray) = strOfNums (bytesOf s ++ List.replicate (n - (s.size : Int)).toNat 0) := by
      apply bytesOf_inj
      rw [bytesOf_append, bytesOf_zeros, bytesOf_strOfNums]
      intro x hx
      rcases List.mem_append.1 hx with h1 | h1
      · exact bytesOf_range h1
      · rw [List.eq_of_mem_replicate h1]
        decide
    rw [← e]
    exact if_pos (by simp only [] at z2 ⊢; rw [z2]; omega)
theorem padTo_both (s : ByteArray) (n : Int) (hs : s.size ≤ 100000) (hn : n ≤ 100000) : ∃ r, Ev (fun k => spec_PadTo.f k s n) r ∧ impl_PadTo.f s n = some r := ⟨_, padTo_both' s n hs hn⟩
theorem padTo_front (s : ByteArray) (n : Int) (hs : s.size ≤ 100000) (hn : n ≤ 100000) : ∃ r m, Ev (fun k => spec_PadTo.f k s n) r ∧ impl_PadTo.f s n = some r ∧ bytesOf r = bytesOf s ++ m := by
  obtain ⟨h1, h2⟩ := padTo_both' s n hs hn
  refine ⟨_, _, h1, h2, bytesOf_strOfNums ?_⟩
  intro x hx
  rcases List.mem_append.1 hx with h1 | h1
  · exact bytesOf_range h1
  · rw [List.eq_of_mem_replicate h1]
    decide

theorem ba_size_drop (s : ByteArray) (a : Nat) : (s.extract a s.size).size = s.size - a := by
  rw [ByteArray.size_extract, Nat.min_self]
theorem cutAll_both {n : Int} (hn : 1 ≤ n) (M : Nat) (d : Nat) : ∀ (s : ByteArray) (x : List ByteArray), s.size ≤ d → x.length + s.size ≤ 4398046511104 → s.size ≤ M → (∀ y, y ∈ x → y.size ≤ M) →
    ∃ r, Ev (fun k => spec_CutAll.l0 k s n x) r ∧ Ev (fun k => impl_CutAll.l0 k s n x) r ∧ r.length ≤ x.length + s.size ∧ ∀ y, y ∈ r → y.size ≤ M := by
  induction d with
  | zero =>
    intro s x hd hx hM hy
    have hs : s.toList = ([] : List UInt8) := by
      rw [ByteArray.toList_eq]
      exact List.eq_nil_of_length_eq_zero (by rw [data_length]; omega)
    exact ⟨x, Ev.step (fun _ => spec_CutAll.l0.eq_2 ..) (Ev.neg (by omega) (Ev.pos hs (Ev.now _))), Ev.step (fun _ => impl_CutAll.l0.eq_2 ..) (Ev.neg (by omega) (Ev.now _)), by omega, hy⟩
  | succ d ih =>
    intro s x hd hx hM hy
    by_cases h0 : s.size = 0
    · exact ih s x (by omega) hx hM hy
    · by_cases h1 : (s.size : Int) > n
      · have hm : mn n (s.size : Int) = n := by unfold mn; omega
        have hz := ba_size_drop s n.toNat
        have hz2 : (s.extract 0 n.toNat).size ≤ M := by rw [ByteArray.size_extract]; omega
        obtain ⟨r, a, b, c, g⟩ := ih (s.extract n.toNat s.size) (x ++ [s.extract 0 n.toNat]) (by omega) (by rw [List.length_append, List.length_singleton]; omega) (by omega) (by
          intro y h
          rcases List.mem_append.1 h with h | h
          · exact hy y h
          · rw [List.mem_singleton.1 h]
            exact hz2)
        rw [List.length_append, List.length_singleton] at c
        refine ⟨r, Ev.step (fun _ => spec_CutAll.l0.eq_2 ..) (Ev.pos h1 (Ev.pos (by omega) (Ev.pos (by omega) (Ev.pos (by omega) a)))), ?_, by omega, g⟩
        refine Ev.step (fun _ => impl_CutAll.l0.eq_2 ..) (Ev.pos (by omega) ?_)
        rw [hm]
        exact Ev.pos (by omega) (Ev.pos (by omega) (Ev.pos (by omega) b))
      · have hm : mn n (s.size : Int) = (s.size : Int) := by unfold mn; omega
        have hz := ba_size_drop s s.size
        have hs : s.toList ≠ ([] : List UInt8) := by
          intro h
          rw [ByteArray.toList_eq] at h
          have := data_length s
          rw [h] at this
          simp at this
          omega
        refine ⟨x ++ [s], Ev.step (fun _ => spec_CutAll.l0.eq_2 ..) (Ev.neg h1 (Ev.neg hs (Ev.pos (by omega) (Ev.now _)))), ?_, by rw [List.length_append, List.length_singleton]; omega, ?_⟩
        rotate_left
        · intro y h
          rcases List.mem_append.1 h with h | h
          · exact hy y h
          · rw [List.mem_singleton.1 h]
            exact hM
        refine Ev.step (fun _ => impl_CutAll.l0.eq_2 ..) (Ev.pos (by omega) ?_)
        rw [hm]
        refine Ev.pos (by omega) (Ev.pos (by omega) (Ev.pos (by omega) ?_))
        rw [Int.toNat_natCast, ba_extract_all]
        exact Ev.step (fun _ => impl_CutAll.l0.eq_2 ..) (Ev.neg (by omega) (Ev.now _))
theorem cutAll_f' (s : ByteArray) (n : Int) (hs : s.size ≤ 1099511627776) : ∃ r, Ev (fun k => spec_CutAll.f k s n) r ∧ Ev (fun k => impl_CutAll.f k s n) r ∧ r.length ≤ s.size ∧ ∀ y, y ∈ r → y.size ≤ s.size := by
  unfold spec_CutAll.f impl_CutAll.f
  by_cases h : 1 ≤ n ∧ n ≤ 1000
  · obtain ⟨r, a, b, c, g⟩ := cutAll_both h.1 s.size s.size s [] (Nat.le_refl _) (by simp; omega) (Nat.le_refl _) (fun y h => by cases h)
    refine ⟨r, Ev.bind0 (l01In_spec n 1 1000) (Ev.pos (by simpa using h) a), Ev.neg (by omega) ?_, by simpa using c, g⟩
    rw [show decide (n > 1000) = false by simp only [decide_eq_false_iff_not]; omega]
    exact Ev.step (fun _ => impl_CutAll.j0.eq_2 ..) (Ev.neg (by decide) b)
  · refine ⟨[], Ev.bind0 (l01In_spec n 1 1000) (Ev.neg (by simpa using h) (Ev.now _)), ?_, by simp, fun y h => by cases h⟩
    by_cases h1 : n < 1
    · exact Ev.pos h1 (Ev.step (fun _ => impl_CutAll.j0.eq_2 ..) (Ev.pos rfl (Ev.now _)))
    · refine Ev.neg h1 ?_
      rw [show decide (n > 1000) = true by simp only [decide_eq_true_eq]; omega]
      exact Ev.step (fun _ => impl_CutAll.j0.eq_2 ..) (Ev.pos rfl (Ev.now _))
theorem cutAll_f (s : ByteArray) (n : Int) (hs : s.size ≤ 1099511627776) : ∃ r, Ev (fun k => spec_CutAll.f k s n) r ∧ Ev (fun k => impl_CutAll.f k s n) r ∧ r.length ≤ s.size := by
  obtain ⟨r, a, b, c, _⟩ := cutAll_f' s n hs
  exact ⟨r, a, b, c⟩

def okWrite (x : S102) : Bool := decide (0 ≤ x.f0 ∧ x.f0 ≤ 399)
def okWrites (l : List S102) : Bool := l.all okWrite && decide (1 ≤ l.length ∧ l.length ≤ 64)
theorem okWrites_l (xs : List S102) (hx : xs.length ≤ 1048576) (l : List S102) : ∀ i : Int, 0 ≤ i → xs.drop i.toNat = l →
    Ev (fun k => spec_l04Ok.l0 k xs xs (xs.length : Int) i) (l.all okWrite && decide (1 ≤ xs.length ∧ xs.length ≤ 64)) ∧
    Ev (fun k => impl_listed.l0 k xs xs (xs.length : Int) i) (l.all okWrite && decide (1 ≤ xs.length ∧ xs.length ≤ 64)) := by
  induction l with
  | nil =>
    intro i h0 h
    have := ldrop_nil h0 h
    rw [List.all_nil, Bool.true_and]
    refine ⟨Ev.step (fun _ => spec_l04Ok.l0.eq_2 ..) (Ev.neg (by omega) (Ev.bind0 (l01In_spec _ _ _) ?_)), Ev.step (fun _ => impl_listed.l0.eq_2 ..) (Ev.neg (by omega) ?_)⟩
    · have e : decide (1 ≤ (xs.length : Int) ∧ (xs.length : Int) ≤ 64) = decide (1 ≤ xs.length ∧ xs.length ≤ 64) := by
        rw [decide_eq_decide]
        omega
      rw [e]
      exact Ev.now _
    · by_cases h1 : (xs.length : Int) ≥ 1
      · refine Ev.pos h1 ?_
        have e : decide ((xs.length : Int) ≤ 64) = decide (1 ≤ xs.length ∧ xs.length ≤ 64) := by
          rw [decide_eq_decide]
          omega
        rw [e]
        exact Ev.now _
      · rw [show decide (1 ≤ xs.length ∧ xs.length ≤ 64) = false by rw [decide_eq_false_iff_not]; omega]
        exact Ev.neg h1 (Ev.now _)
  | cons x l ih =>
    intro i h0 h
    obtain ⟨a, b, c, e⟩ := ldrop_cons z102 h0 h
    have hb : rd_T102 xs i = x := b
    obtain ⟨i1, i2⟩ := ih (i + 1) (by omega) c
    rw [List.all_cons]
    refine ⟨Ev.step (fun _ => spec_l04Ok.l0.eq_2 ..) (Ev.pos a (Ev.pos h0 (Ev.pos a (Ev.bind0 (l01In_spec _ _ _) ?_)))), Ev.step (fun _ => impl_listed.l0.eq_2 ..) (Ev.pos a (Ev.pos h0 (Ev.pos a ?_)))⟩
    · rw [hb, w64 (n := i + 1) (by omega) (by omega)]
      by_cases hk : 0 ≤ x.f0 ∧ x.f0 ≤ 399
      · rw [show okWrite x = true from decide_eq_true hk, Bool.true_and]
        exact Ev.pos (decide_eq_true hk) i1
      · rw [show okWrite x = false from decide_eq_false hk, Bool.false_and, Bool.false_and]
        exact Ev.neg (by simpa using hk) (Ev.now _)
    · rw [hb, w64 (n := i + 1) (by omega) (by omega)]
      by_cases hk : 0 ≤ x.f0 ∧ x.f0 ≤ 399
      · rw [show okWrite x = true from decide_eq_true hk, Bool.true_and]
        exact Ev.neg (by omega) (Ev.neg (by omega) i2)
      · rw [show okWrite x = false from decide_eq_false hk, Bool.false_and, Bool.false_and]
        by_cases h1 : x.f0 < 0
        · exact Ev.pos h1 (Ev.now _)
        · exact Ev.neg h1 (Ev.pos (by omega) (Ev.now _))
theorem okWrites_spec (xs : List S102) (hx : xs.length ≤ 1048576) : Ev (fun k => spec_l04Ok.f k xs) (okWrites xs) := (okWrites_l xs hx xs 0 (by omega) rfl).1
theorem okWrites_impl (xs : List S102) (hx : xs.length ≤ 1048576) : Ev (fun k => impl_listed.f k xs) (okWrites xs) := (okWrites_l xs hx xs 0 (by omega) rfl).2

/-- The writes of the bodies, from place i on. -/
def bodyM : Int → List S102 → List S102
  | _, [] => []
  | i, x :: l => ⟨wrap64 (6 + i), x.f1⟩ :: bodyM (i + 1) l
theorem bodyM_length (l : List S102) : ∀ i, (bodyM i l).length = l.length := by
  induction l with
  | nil => exact fun _ => rfl
  | cons x l ih => exact fun i => by rw [bodyM, List.length_cons, ih, List.length_cons]
theorem journal_l2 (xs : List S102) (hx : xs.length ≤ 64) (l : List S102) : ∀ (i : Int) (out : List S102), 0 ≤ i → xs.drop i.toNat = l → (out.length : Int) + (l.length : Int) ≤ 1048576 →
    Ev (fun k => spec_JournalWrites.l2 k out xs (xs.length : Int) i) (out ++ bodyM i l) := by
  induction l with
  | nil =>
    intro i out h0 h ho
    have := ldrop_nil h0 h
    rw [bodyM, List.append_nil]
    exact Ev.step (fun _ => spec_JournalWrites.l2.eq_2 ..) (Ev.neg (by omega) (Ev.now _))
  | cons x l ih =>
    intro i out h0 h ho
    obtain ⟨a, b, c, e⟩ := ldrop_cons z102 h0 h
    have hr : rd_T102 xs i = x := b
    rw [List.length_cons] at ho
    have g := ih (i + 1) (out ++ [⟨wrap64 (6 + i), x.f1⟩]) (by omega) c (by rw [List.length_append, List.length_singleton]; omega)
    rw [List.append_assoc, List.singleton_append] at g
    refine Ev.step (fun _ => spec_JournalWrites.l2.eq_2 ..) (Ev.pos a (Ev.pos h0 (Ev.pos a (Ev.pos (by omega) ?_))))
    rw [hr, w64 (n := i + 1) (by omega) (by omega)]
    exact g
theorem journal_l1 (xs : List S102) (hx : xs.length ≤ 64) (hx1 : 1 ≤ xs.length) (p : List ByteArray) (hp : p.length ≤ 384) (hs : ∀ y, y ∈ p → y.size ≤ 384) (m : List ByteArray) : ∀ (j : Int) (x : List S102), 0 ≤ j → p.drop j.toNat = m → (x.length : Int) + (m.length : Int) ≤ 1048000 →
    ∃ r, Ev (fun k => spec_JournalWrites.l1 k xs x p (p.length : Int) j) (r ++ bodyM 0 xs) ∧ Ev (fun k => impl_JournalWrites.l1 k (bodyM 0 xs) x p (p.length : Int) j) (r ++ bodyM 0 xs) ∧ r.length ≤ 1048000 := by
  have hb := bodyM_length xs 0
  induction m with
  | nil =>
    intro j x h0 h hx2
    have := ldrop_nil h0 h
    rw [List.length_nil] at hx2
    refine ⟨x, Ev.step (fun _ => spec_JournalWrites.l1.eq_2 ..) (Ev.neg (by omega) (journal_l2 xs hx xs 0 x (by omega) rfl (by omega))), Ev.step (fun _ => impl_JournalWrites.l1.eq_2 ..) (Ev.neg (by omega) (Ev.pos (by omega) (Ev.neg (by rw [List.length_append]; omega) (Ev.now _)))), by omega⟩
  | cons y m ih =>
    intro j x h0 h hx2
    obtain ⟨a, b, c, e⟩ := ldrop_cons ByteArray.empty h0 h
    have hy := hs y (by
      have : y ∈ p.drop j.toNat := by rw [h]; exact List.mem_cons_self ..
      exact List.mem_of_mem_drop this)
    rw [List.length_cons] at hx2
    obtain ⟨t, q1, q2⟩ := padTo_both y 32 (by omega) (by omega)
    obtain ⟨r, p1, p2, p3⟩ := ih (j + 1) (x ++ [⟨wrap64 (2 + j), t⟩]) (by omega) c (by rw [List.length_append, List.length_singleton]; omega)
    refine ⟨r, Ev.step (fun _ => spec_JournalWrites.l1.eq_2 ..) (Ev.pos a (Ev.pos h0 (Ev.pos a ?_))), Ev.step (fun _ => impl_JournalWrites.l1.eq_2 ..) (Ev.pos a (Ev.pos h0 (Ev.pos a ?_))), p3⟩
    · rw [b, w64 (n := j + 1) (by omega) (by omega)]
      exact Ev.bind q1 (Ev.pos (by omega) p1)
    · rw [b, w64 (n := j + 1) (by omega) (by omega)]
      exact Ev.bind0 q2 (Ev.pos (by omega) p2)
theorem journal_l0 (xs : List S102) (hx : xs.length ≤ 64) (hx1 : 1 ≤ xs.length) (hb : ∀ x, x ∈ xs → x.f0 ≤ 9223372036854775807) (l : List S102) : ∀ (i : Int) (s : ByteArray) (x : List S102), 0 ≤ i → i ≤ (xs.length : Int) → xs.drop i.toNat = l → (s.size : Int) ≤ 6 * i → (x.length : Int) = i → x ++ bodyM i l = bodyM 0 xs →
    ∃ r, Ev (fun k => spec_JournalWrites.l0 k xs [] s xs (xs.length : Int) i) r ∧ Ev (fun k => impl_JournalWrites.l0 k s x xs (xs.length : Int) i) r ∧ r.length ≤ 1048576 := by
  induction l with
  | nil =>
    intro i s x h0 hi h hs hl he
    have := ldrop_nil h0 h
    rw [bodyM, List.append_nil] at he
    subst he
    obtain ⟨p, q1, q2, q3, q4⟩ := cutAll_f' s 32 (by omega)
    obtain ⟨r, p1, p2, p3⟩ := journal_l1 xs hx hx1 p (by omega) (fun y hy => by have := q4 y hy; omega) p 0 [] (by omega) rfl (by simp only [List.length_nil]; omega)
    have hb := bodyM_length xs 0
    exact ⟨_, Ev.step (fun _ => spec_JournalWrites.l0.eq_2 ..) (Ev.neg (by omega) (Ev.bind q1 p1)), Ev.step (fun _ => impl_JournalWrites.l0.eq_2 ..) (Ev.neg (by omega) (Ev.bind q2 p2)), by rw [List.length_append]; omega⟩
  | cons y l ih =>
    intro i s x h0 hi h hs hl he
    obtain ⟨a, b, c, e⟩ := ldrop_cons z102 h0 h
    have hr : rd_T102 xs i = y := b
    have hy := hb y (by
      have : y ∈ xs.drop i.toNat := by rw [h]; exact List.mem_cons_self ..
      exact List.mem_of_mem_drop this)
    have z1 := putNumber_size y.f0 2
    have a1 := ba_size_append s (putNumber y.f0 2)
    by_cases h32 : (y.f1.size : Int) = 32
    · obtain ⟨r, p1, p2, p3⟩ := ih (i + 1) (s ++ putNumber y.f0 2) (x ++ [⟨wrap64 (6 + i), y.f1⟩]) (by omega) (by omega) c (by omega) (by rw [List.length_append, List.length_singleton]; omega) (by rw [List.append_assoc, List.singleton_append]; exact he)
      refine ⟨r, Ev.step (fun _ => spec_JournalWrites.l0.eq_2 ..) (Ev.pos a (Ev.pos h0 (Ev.pos a ?_))), Ev.step (fun _ => impl_JournalWrites.l0.eq_2 ..) (Ev.pos a (Ev.pos h0 (Ev.pos a ?_))), p3⟩
      · rw [hr, w64 (n := i + 1) (by omega) (by omega)]
        exact Ev.pos h32 (Ev.bind (putNumber_spec y.f0 2 hy) (Ev.pos (by omega) p1))
      · rw [hr, w64 (n := i + 1) (by omega) (by omega)]
        exact Ev.pos h32 (Ev.bind (putNumber_impl y.f0 2 hy) (Ev.pos (by omega) (Ev.pos (by omega) p2)))
    · refine ⟨[], Ev.step (fun _ => spec_JournalWrites.l0.eq_2 ..) (Ev.pos a (Ev.pos h0 (Ev.pos a ?_))), Ev.step (fun _ => impl_JournalWrites.l0.eq_2 ..) (Ev.pos a (Ev.pos h0 (Ev.pos a ?_))), Nat.zero_le _⟩
      · rw [hr]
        exact Ev.neg h32 (Ev.now _)
      · rw [hr]
        exact Ev.neg h32 (Ev.now _)
theorem journal_f (xs : List S102) (hx : xs.length ≤ 1048576) (hb : ∀ x, x ∈ xs → x.f0 ≤ 9223372036854775807) :
    ∃ r, Ev (fun k => spec_JournalWrites.f k xs) r ∧ Ev (fun k => impl_JournalWrites.f k xs) r ∧ r.length ≤ 1048576 := by
  unfold spec_JournalWrites.f impl_JournalWrites.f
  have h1 := okWrites_spec xs hx
  have h2 := okWrites_impl xs hx
  cases ho : okWrites xs with
  | false =>
    rw [ho] at h1 h2
    exact ⟨[], Ev.bind h1 (Ev.neg (by decide) (Ev.now _)), Ev.bind h2 (Ev.neg (by decide) (Ev.now _)), Nat.zero_le _⟩
  | true =>
    rw [ho] at h1 h2
    have h6 : xs.length ≤ 64 ∧ 1 ≤ xs.length := by
      unfold okWrites at ho
      rw [Bool.and_eq_true] at ho
      exact ⟨(of_decide_eq_true ho.2).2, (of_decide_eq_true ho.2).1⟩
    obtain ⟨r, p1, p2, p3⟩ := journal_l0 xs h6.1 h6.2 hb xs 0 (⟨#[]⟩ : ByteArray) [] (by omega) (by omega) rfl (by decide) rfl rfl
    exact ⟨r, Ev.bind h1 (Ev.pos rfl p1), Ev.bind h2 (Ev.pos rfl p2), p3⟩

theorem checksumOf_spec {s : ByteArray} (hs : s.size ≤ 140737488351232) (l : List Int) : ∀ (i a b : Int), 0 ≤ i → (bytesOf s).drop i.toNat = l → 0 ≤ a → a < 65521 → 0 ≤ b → b < 65521 →
    Ev (fun k => spec_ChecksumOf.l0 k s a b i) ((ck l a b).2 * 65536 + (ck l a b).1) := by
  induction l with
  | nil =>
    intro i a b h0 h ha ha' hb hb'
    have := bdrop_nil h0 h
    refine Ev.step (fun _ => spec_ChecksumOf.l0.eq_2 ..) (Ev.neg (by omega) ?_)
    rw [w64 (n := b * 65536) (by omega) (by omega), w64 (by omega) (by omega)]
    exact Ev.now _
  | cons x l ih =>
    intro i a b h0 h ha ha' hb hb'
    obtain ⟨h1, h2, h3, h4⟩ := bdrop_cons h0 h
    have hx := bt_range s i
    refine Ev.step (fun _ => spec_ChecksumOf.l0.eq_2 ..) (Ev.pos h1 (Ev.pos h0 ?_))
    rw [w64 (n := bt s i) (by omega) (by omega), w64 (n := a + bt s i) (by omega) (by omega), Int.tmod_eq_emod_of_nonneg (show 0 ≤ a + bt s i by omega),
      w64 (n := b + (a + bt s i) % 65521) (by omega) (by omega), Int.tmod_eq_emod_of_nonneg (show 0 ≤ b + (a + bt s i) % 65521 by omega), w64 (n := i + 1) (by omega) (by omega), h2]
    rw [h2] at hx
    exact ih (i + 1) _ _ (by omega) h3 (by omega) (by omega) (by omega) (by omega)
theorem checksumOf_impl {s : ByteArray} (hs : s.size ≤ 140737488351232) (l : List Int) : ∀ (i a b : Int), 0 ≤ i → (bytesOf s).drop i.toNat = l → 0 ≤ a → a < 65521 → 0 ≤ b → b < 65521 →
    Ev (fun k => impl_ChecksumOf.l0 k s a b (s.size : Int) i) ((ck l a b).2 * 65536 + (ck l a b).1) := by
  induction l with
  | nil =>
    intro i a b h0 h ha ha' hb hb'
    have := bdrop_nil h0 h
    refine Ev.step (fun _ => impl_ChecksumOf.l0.eq_2 ..) (Ev.neg (by omega) ?_)
    rw [w64 (n := b * 65536) (by omega) (by omega), w64 (by omega) (by omega)]
    exact Ev.now _
  | cons x l ih =>
    intro i a b h0 h ha ha' hb hb'
    obtain ⟨h1, h2, h3, h4⟩ := bdrop_cons h0 h
    have hx := bt_range s i
    refine Ev.step (fun _ => impl_ChecksumOf.l0.eq_2 ..) (Ev.pos h1 (Ev.pos h0 (Ev.pos h1 ?_)))
    rw [w64 (n := bt s i) (by omega) (by omega), w64 (n := a + bt s i) (by omega) (by omega), Int.tmod_eq_emod_of_nonneg (show 0 ≤ a + bt s i by omega),
      w64 (n := b + (a + bt s i) % 65521) (by omega) (by omega), Int.tmod_eq_emod_of_nonneg (show 0 ≤ b + (a + bt s i) % 65521 by omega), w64 (n := i + 1) (by omega) (by omega), h2]
    rw [h2] at hx
    exact ih (i + 1) _ _ (by omega) h3 (by omega) (by omega) (by omega) (by omega)
theorem checksumOf_spec_f {s : ByteArray} (hs : s.size ≤ 140737488351232) : Ev (fun k => spec_ChecksumOf.f k s) (checksum (bytesOf s)) :=
  checksumOf_spec hs (bytesOf s) 0 1 0 (by omega) rfl (by omega) (by omega) (by omega) (by omega)
theorem checksumOf_impl_f {s : ByteArray} (hs : s.size ≤ 140737488351232) : Ev (fun k => impl_ChecksumOf.f k s) (checksum (bytesOf s)) :=
  checksumOf_impl hs (bytesOf s) 0 1 0 (by omega) rfl (by omega) (by omega) (by omega) (by omega)

theorem head_size (s : ByteArray) : (((⟨#[74, 82, 78, 76]⟩ : ByteArray)) ++ s).size = 4 + s.size := by rw [ba_size_append]; rfl
theorem commit_both (n : Int) (xs : List S102) (hn : 0 ≤ n) (hn2 : n ≤ 1000000000) (hx : xs.length ≤ 1048576) (hb : ∀ x, x ∈ xs → x.f0 ≤ 9223372036854775807 ∧ x.f1.size ≤ 1048576) (l : List S102) : ∀ (i : Int) (s : ByteArray), 0 ≤ i → i ≤ (xs.length : Int) → xs.drop i.toNat = l → (s.size : Int) ≤ i * 1048582 →
    ∃ r, Ev (fun k => spec_CommitSector.l0 k n xs s xs (xs.length : Int) i) r ∧ Ev (fun k => impl_CommitSector.l0 k n xs s xs (xs.length : Int) i) r := by
  induction l with
  | nil =>
    intro i s h0 hi h hs
    have := ldrop_nil h0 h
    have z1 := putNumber_size n 4
    have z2 := putNumber_size (xs.length : Int) 2
    have z3 := putNumber_size (checksum (bytesOf s)) 4
    have c1 : s.size ≤ 140737488351232 := by omega
    have hc : checksum (bytesOf s) ≤ 9223372036854775807 := by
      have := checksum_le (bytesOf s)
      omega
    have a1 := head_size (putNumber n 4)
    have a2 := ba_size_append ((⟨#[74, 82, 78, 76]⟩ : ByteArray) ++ putNumber n 4) (putNumber (xs.length : Int) 2)
    have a3 := ba_size_append ((⟨#[74, 82, 78, 76]⟩ : ByteArray) ++ putNumber n 4 ++ putNumber (xs.length : Int) 2) (putNumber (checksum (bytesOf s)) 4)
    obtain ⟨r, p1, p2⟩ := padTo_both ((⟨#[74, 82, 78, 76]⟩ : ByteArray) ++ putNumber n 4 ++ putNumber (xs.length : Int) 2 ++ putNumber (checksum (bytesOf s)) 4) 32 (by omega) (by omega)
    refine ⟨r, Ev.step (fun _ => spec_CommitSector.l0.eq_2 ..) (Ev.neg (by omega) ?_), Ev.step (fun _ => impl_CommitSector.l0.eq_2 ..) (Ev.neg (by omega) ?_)⟩
    · exact Ev.bind (putNumber_spec n 4 (by omega)) (Ev.pos (by omega) (Ev.bind (putNumber_spec _ 2 (by omega)) (Ev.pos (by omega) (Ev.bind (checksumOf_spec_f c1) (Ev.bind (putNumber_spec _ 4 hc) (Ev.pos (by omega) (Ev.bind p1 (Ev.now _))))))))
    · exact Ev.bind (putNumber_impl n 4 (by omega)) (Ev.pos (by omega) (Ev.bind (putNumber_impl _ 2 (by omega)) (Ev.pos (by omega) (Ev.bind (checksumOf_impl_f c1) (Ev.bind (putNumber_impl _ 4 hc) (Ev.pos (by omega) (Ev.bind0 p2 (Ev.now _))))))))
  | cons x l ih =>
    intro i s h0 hi h hs
    obtain ⟨a, b, c, e⟩ := ldrop_cons z102 h0 h
    have hr : rd_T102 xs i = x := b
    obtain ⟨b1, b2⟩ := hb x (by
      have : x ∈ xs.drop i.toNat := by rw [h]; exact List.mem_cons_self ..
      exact List.mem_of_mem_drop this)
    have z1 := putNumber_size x.f0 2
    have a1 := ba_size_append s (putNumber x.f0 2)
    have a2 := ba_size_append (s ++ putNumber x.f0 2) x.f1
    have a3 := ba_size_append (putNumber x.f0 2) x.f1
    obtain ⟨r, p1, p2⟩ := ih (i + 1) (s ++ putNumber x.f0 2 ++ x.f1) (by omega) (by omega) c (by omega)
    refine ⟨r, Ev.step (fun _ => spec_CommitSector.l0.eq_2 ..) (Ev.pos a (Ev.pos h0 (Ev.pos a ?_))), Ev.step (fun _ => impl_CommitSector.l0.eq_2 ..) (Ev.pos a (Ev.pos h0 (Ev.pos a ?_)))⟩
    · rw [hr, w64 (n := i + 1) (by omega) (by omega)]
      exact Ev.bind (putNumber_spec x.f0 2 b1) (Ev.pos (by omega) (Ev.pos (by omega) p1))
    · rw [hr, w64 (n := i + 1) (by omega) (by omega)]
      rw [ByteArray.append_assoc] at p2
      exact Ev.bind (putNumber_impl x.f0 2 b1) (Ev.pos (by omega) (Ev.pos (by omega) p2))
theorem commit_f (n : Int) (xs : List S102) (hx : xs.length ≤ 1048576) (hb : ∀ x, x ∈ xs → x.f0 ≤ 9223372036854775807 ∧ x.f1.size ≤ 1048576) :
    ∃ r, Ev (fun k => spec_CommitSector.f k n xs) r ∧ Ev (fun k => impl_CommitSector.f k n xs) r := by
  unfold spec_CommitSector.f impl_CommitSector.f
  have no1 : Ev (fun k => spec_CommitSector.j0 k n xs true) (⟨#[]⟩ : ByteArray) := Ev.step (fun _ => spec_CommitSector.j0.eq_2 ..) (Ev.pos rfl (Ev.now _))
  have no2 : Ev (fun k => impl_CommitSector.j0 k n xs true) (⟨#[]⟩ : ByteArray) := Ev.step (fun _ => impl_CommitSector.j0.eq_2 ..) (Ev.pos rfl (Ev.now _))
  by_cases h : 0 ≤ n ∧ n ≤ 1000000000
  · cases ho : okWrites xs with
    | false =>
      refine ⟨(⟨#[]⟩ : ByteArray), Ev.bind0 (l01In_spec _ _ _) (Ev.pos (decide_eq_true h) (Ev.bind (okWrites_spec xs hx) ?_)), Ev.neg (by omega) (Ev.neg (by omega) (Ev.bind (okWrites_impl xs hx) ?_))⟩
      · rw [ho]; exact no1
      · rw [ho]; exact no2
    | true =>
      obtain ⟨r, p1, p2⟩ := commit_both n xs h.1 h.2 hx hb xs 0 (⟨#[]⟩ : ByteArray) (by omega) (by omega) rfl (by decide)
      refine ⟨r, Ev.bind0 (l01In_spec _ _ _) (Ev.pos (decide_eq_true h) (Ev.bind (okWrites_spec xs hx) ?_)), Ev.neg (by omega) (Ev.neg (by omega) (Ev.bind (okWrites_impl xs hx) ?_))⟩
      · rw [ho]; exact Ev.step (fun _ => spec_CommitSector.j0.eq_2 ..) (Ev.neg (by decide) p1)
      · rw [ho]; exact Ev.step (fun _ => impl_CommitSector.j0.eq_2 ..) (Ev.neg (by decide) p2)
  · refine ⟨_, Ev.bind0 (l01In_spec _ _ _) (Ev.neg (by simpa using h) no1), ?_⟩
    by_cases h1 : n < 0
    · exact Ev.pos h1 no2
    · exact Ev.neg h1 (Ev.pos (by omega) no2)

def stepM (l : List S102) : List S146 := l.map (fun x => ⟨false, ⟨x.f0, x.f1⟩⟩)
def clearM : List S146 := [⟨true, ⟨0, ⟨#[]⟩⟩⟩, ⟨false, ⟨1, strOfNums (List.replicate 32 0)⟩⟩, ⟨true, ⟨0, ⟨#[]⟩⟩⟩]
theorem l04Clear_f : Ev (fun k => spec_l04Clear.f k) clearM := by
  unfold spec_l04Clear.f
  exact Ev.bind (padTo_both' (⟨#[]⟩ : ByteArray) 32 (by decide) (by omega)).1 (Ev.now _)
theorem writeSteps_l (xs : List S102) (hx : xs.length ≤ 1048576) (l : List S102) : ∀ (i : Int) (out : List S146), 0 ≤ i → xs.drop i.toNat = l → (out.length : Int) + (l.length : Int) ≤ 4194304 →
    Ev (fun k => impl_writeSteps.l0 k out xs (xs.length : Int) i) (out ++ stepM l) := by
  induction l with
  | nil =>
    intro i out h0 h ho
    have := ldrop_nil h0 h
    rw [stepM, List.map_nil, List.append_nil]
    exact Ev.step (fun _ => impl_writeSteps.l0.eq_2 ..) (Ev.neg (by omega) (Ev.now _))
  | cons x l ih =>
    intro i out h0 h ho
    obtain ⟨a, b, c, e⟩ := ldrop_cons z102 h0 h
    have hr : rd_T102 xs i = x := b
    rw [List.length_cons] at ho
    have g := ih (i + 1) (out ++ [⟨false, ⟨x.f0, x.f1⟩⟩]) (by omega) c (by rw [List.length_append, List.length_singleton]; omega)
    rw [List.append_assoc, List.singleton_append] at g
    refine Ev.step (fun _ => impl_writeSteps.l0.eq_2 ..) (Ev.pos a (Ev.pos h0 (Ev.pos a (Ev.pos (by omega) ?_))))
    rw [hr, w64 (n := i + 1) (by omega) (by omega)]
    exact g
theorem stepM_length (l : List S102) : (stepM l).length = l.length := List.length_map ..
theorem writeSteps_f (xs : List S102) (hx : xs.length ≤ 1048576) : Ev (fun k => impl_writeSteps.f k xs) (stepM xs) := by
  unfold impl_writeSteps.f
  exact writeSteps_l xs hx xs 0 [] (by omega) rfl (by simp only [List.length_nil]; omega)
theorem installSteps_f (xs : List S102) (hx : xs.length ≤ 1048576) : Ev (fun k => impl_installSteps.f k xs) (stepM xs ++ clearM) := by
  unfold impl_installSteps.f
  have z : impl_zeros.f 32 = some (strOfNums (List.replicate 32 0)) := by
    unfold impl_zeros.f
    rw [if_pos (by decide), if_pos (by decide)]
    rfl
  have hl := stepM_length xs
  exact Ev.bind (writeSteps_f xs hx) (Ev.bind0 z (Ev.bind0 rfl (Ev.pos (by rw [hl]; simp only [List.length_cons, List.length_nil]; omega) (Ev.now _))))

def headM (c : ByteArray) : List S146 := [⟨true, ⟨0, ⟨#[]⟩⟩⟩, ⟨false, ⟨1, c⟩⟩, ⟨true, ⟨0, ⟨#[]⟩⟩⟩]
theorem txn_l1 (xs : List S102) (hx : xs.length ≤ 1048576) (l : List S102) : ∀ (i : Int) (out : List S146), 0 ≤ i → xs.drop i.toNat = l → (out.length : Int) + (l.length : Int) ≤ 8388608 →
    Ev (fun k => spec_TxnSteps.l1 k out xs (xs.length : Int) i) (out ++ stepM l ++ clearM) := by
  have hc : clearM.length = 3 := rfl
  induction l with
  | nil =>
    intro i out h0 h ho
    have := ldrop_nil h0 h
    rw [List.length_nil] at ho
    rw [stepM, List.map_nil, List.append_nil]
    exact Ev.step (fun _ => spec_TxnSteps.l1.eq_2 ..) (Ev.neg (by omega) (Ev.bind l04Clear_f (Ev.pos (by omega) (Ev.now _))))
  | cons x l ih =>
    intro i out h0 h ho
    obtain ⟨a, b, c, e⟩ := ldrop_cons z102 h0 h
    have hr : rd_T102 xs i = x := b
    rw [List.length_cons] at ho
    have g := ih (i + 1) (out ++ [⟨false, ⟨x.f0, x.f1⟩⟩]) (by omega) c (by rw [List.length_append, List.length_singleton]; omega)
    rw [List.append_assoc out, List.singleton_append] at g
    refine Ev.step (fun _ => spec_TxnSteps.l1.eq_2 ..) (Ev.pos a (Ev.pos h0 (Ev.pos a (Ev.pos (by omega) ?_))))
    rw [hr, w64 (n := i + 1) (by omega) (by omega)]
    exact g
theorem txn_l0 (ys : List S102) (hy : ys.length ≤ 1048576) (c : ByteArray) (xs : List S102) (hx : xs.length ≤ 1048576) (l : List S102) : ∀ (i : Int) (out : List S146), 0 ≤ i → xs.drop i.toNat = l → (out.length : Int) + (l.length : Int) ≤ 1048576 →
    Ev (fun k => spec_TxnSteps.l0 k ys out c xs (xs.length : Int) i) (out ++ stepM l ++ headM c ++ stepM ys ++ clearM) := by
  have hc : (headM c).length = 3 := rfl
  induction l with
  | nil =>
    intro i out h0 h ho
    have := ldrop_nil h0 h
    rw [List.length_nil] at ho
    rw [stepM, List.map_nil, List.append_nil]
    exact Ev.step (fun _ => spec_TxnSteps.l0.eq_2 ..) (Ev.neg (by omega) (Ev.bind0 rfl (Ev.pos (by simp only [List.length_cons, List.length_nil]; omega) (txn_l1 ys hy ys 0 _ (by omega) rfl (by rw [List.length_append]; simp only [List.length_cons, List.length_nil]; omega)))))
  | cons x l ih =>
    intro i out h0 h ho
    obtain ⟨a, b, cc, e⟩ := ldrop_cons z102 h0 h
    have hr : rd_T102 xs i = x := b
    rw [List.length_cons] at ho
    have g := ih (i + 1) (out ++ [⟨false, ⟨x.f0, x.f1⟩⟩]) (by omega) cc (by rw [List.length_append, List.length_singleton]; omega)
    rw [List.append_assoc out, List.singleton_append] at g
    refine Ev.step (fun _ => spec_TxnSteps.l0.eq_2 ..) (Ev.pos a (Ev.pos h0 (Ev.pos a (Ev.pos (by omega) ?_))))
    rw [hr, w64 (n := i + 1) (by omega) (by omega)]
    exact g
theorem txnSteps_f (n : Int) (xs : List S102) (hx : xs.length ≤ 1048576) (hb : ∀ x, x ∈ xs → x.f0 ≤ 9223372036854775807 ∧ x.f1.size ≤ 1048576) :
    ∃ r, Ev (fun k => spec_TxnSteps.f k n xs) r ∧ Ev (fun k => impl_TxnSteps.f k n xs) r ∧ r.length ≤ 8388608 := by
  unfold spec_TxnSteps.f impl_TxnSteps.f
  obtain ⟨c, c1, c2⟩ := commit_f n xs hx hb
  obtain ⟨j, j1, j2, j3⟩ := journal_f xs hx (fun x hx => (hb x hx).1)
  have no1 : Ev (fun k => spec_TxnSteps.j0 k xs [] c j true) [] := Ev.step (fun _ => spec_TxnSteps.j0.eq_2 ..) (Ev.pos rfl (Ev.now _))
  have no2 : Ev (fun k => impl_TxnSteps.j0 k xs j c true) [] := Ev.step (fun _ => impl_TxnSteps.j0.eq_2 ..) (Ev.pos rfl (Ev.now _))
  by_cases hc : c.toList = ([] : List UInt8)
  · refine ⟨[], Ev.bind0 rfl (Ev.bind c1 (Ev.bind j1 (Ev.pos hc no1))), Ev.bind j2 (Ev.bind c2 ?_), Nat.zero_le _⟩
    by_cases hj : j.length = 0
    · exact Ev.pos hj no2
    · refine Ev.neg hj ?_
      rw [show (c.toList == ([] : List UInt8)) = true from beq_iff_eq.mpr hc]
      exact no2
  · by_cases hj : j.length = 0
    · refine ⟨[], Ev.bind0 rfl (Ev.bind c1 (Ev.bind j1 (Ev.neg hc ?_))), Ev.bind j2 (Ev.bind c2 (Ev.pos hj no2)), Nat.zero_le _⟩
      rw [show ((j.length : Int) == 0) = true from beq_iff_eq.mpr (by omega)]
      exact no1
    · have hl : (stepM j).length = j.length := stepM_length j
      have hl2 : (stepM xs).length = xs.length := stepM_length xs
      have hc3 : clearM.length = 3 := rfl
      refine ⟨[] ++ stepM j ++ headM c ++ stepM xs ++ clearM, Ev.bind0 rfl (Ev.bind c1 (Ev.bind j1 (Ev.neg hc ?_))), Ev.bind j2 (Ev.bind c2 (Ev.neg hj ?_)), ?_⟩
      · rw [show ((j.length : Int) == 0) = false from beq_eq_false_iff_ne.mpr (by omega)]
        exact Ev.step (fun _ => spec_TxnSteps.j0.eq_2 ..) (Ev.neg (by decide) (txn_l0 xs hx c j j3 j 0 [] (by omega) rfl (by simp only [List.length_nil]; omega)))
      · rw [show (c.toList == ([] : List UInt8)) = false from beq_eq_false_iff_ne.mpr hc, List.nil_append, List.append_assoc (stepM j ++ headM c)]
        exact Ev.step (fun _ => impl_TxnSteps.j0.eq_2 ..) (Ev.neg (by decide) (Ev.bind (writeSteps_f j j3) (Ev.bind0 rfl (Ev.pos (by simp only [List.length_cons, List.length_nil]; omega) (Ev.bind0 rfl (Ev.bind (installSteps_f xs hx) (Ev.pos (by simp only [List.length_append, List.length_cons, List.length_nil]; omega) (Ev.now _))))))))
      · simp only [List.length_append, List.length_nil, hl, hl2, hc3, show (headM c).length = 3 from rfl]
        omega

theorem FnExactTxnSteps (n : Int) (xs : List S99) (h0 : (Lit.int .i64 n).wf = true) (h : xs.length ≤ 9223372036854775807 ∧ ∀ x, x ∈ xs → (Lit.int .i64 x.f0).wf = true ∧ x.f1.size ≤ 9223372036854775807) : ∃ k, laws_FnExactTxnSteps.f k n xs = some true := by
  obtain ⟨u, hu, hv⟩ := szWriteS_ex xs h.1 (fun s hs => (h.2 s hs).2) 1048576 (by omega) (by omega)
  apply Ev.rounds
  unfold laws_FnExactTxnSteps.f
  refine Ev.bind hu ?_
  by_cases hn : u < 0
  · exact Ev.pos hn (Ev.now _)
  · obtain ⟨t0, t1, hx, hb⟩ := hv.resolve_left hn
    have hm : (xs.map wrTo).length ≤ 1048576 := by rw [List.length_map]; omega
    have d := toWriteS_f xs (by omega)
    obtain ⟨r, h1, h2, h3⟩ := txnSteps_f n (xs.map wrTo) hm (by
      intro x hx
      obtain ⟨y, hy, rfl⟩ := List.mem_map.1 hx
      have := hb y hy
      have := (i64_range (h.2 y hy).1).2
      exact ⟨this, by show y.f1.size ≤ 1048576; omega⟩)
    have e1 := eqStepS_f r (by omega)
    have e2 := eqWriteS_f (xs.map wrTo) (by omega)
    obtain ⟨m1, g1, g2⟩ := markWriteSo_ex (xs.map wrTo) 1 (by omega) (by omega)
    obtain ⟨m2, g4, g5, g6⟩ := markStepS_ex r 1 (by omega) (by omega)
    refine Ev.neg hn (Ev.bind d (Ev.bind h1 (Ev.bind d (Ev.bind h2 (Ev.bind e1 (Ev.pos rfl (Ev.bind d (Ev.bind e2 (Ev.pos rfl (Ev.bind g1 (Ev.neg (by simp only []; omega) (Ev.bind e1 ?_))))))))))))
    exact Ev.step (fun _ => laws_FnExactTxnSteps.j0.eq_2 ..) (Ev.neg (by decide) (Ev.bind g4 (Ev.bind g6 (Ev.neg (by omega) (Ev.pos rfl (Ev.bind d (Ev.bind h2 (Ev.bind e1 (Ev.pos rfl (Ev.bind g6 (Ev.neg (by omega) (Ev.pos rfl (Ev.now _)))))))))))))

end Go.Proofs.Ytmnojegajblagab.Pure
