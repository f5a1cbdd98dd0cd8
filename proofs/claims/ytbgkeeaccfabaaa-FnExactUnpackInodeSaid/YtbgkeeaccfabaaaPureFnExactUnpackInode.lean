/- The law FnExactUnpackInode holds for every input of its kind; no further condition. -/
import Derived.Test.YtbgkeeaccfabaaaPFnExactUnpackInodex18
import Derived.Test.YtbgkeeaccfabaaaLibBase
import Derived.Test.YtbgkeeaccfabaaaLibNumbers
import Derived.Test.YtbgkeeaccfabaaaLibAllEq
namespace Go.Proofs.Ytbgkeeaccfabaaa.Pure
open Go.RowKit Go.Proofs.Ytbgkeeaccfabaaa.PFnExactUnpackInode Go.Proofs.Ytbgkeeaccfabaaa.Lib Go.Proofs.YtbgkeeaccfabaaaW.PrintWords Go.Proofs.YtbgkeeaccfabaaaW.PrintLast Go.Proofs.YtbgkeeaccfabaaaW.PrintMore
set_option linter.unusedVariables false
set_option linter.unusedSimpArgs false

theorem l01In_spec (a b c : Int) : spec_l01In.f a b c = some (decide (b ≤ a ∧ a ≤ c)) := by
  unfold spec_l01In.f
  by_cases h : a ≥ b
  · rw [if_pos h]
    simp [show b ≤ a from h]
  · rw [if_neg h]
    simp [show ¬ b ≤ a from h]

theorem getNumber_spec_l {s : ByteArray} (hs : s.size ≤ 140737488351232) {a w : Int} (h0 : 0 ≤ a) (h1 : a + w ≤ (s.size : Int)) (h6 : w ≤ 6) (d : Nat) : ∀ (i n : Int), 0 ≤ i → i + d = w → okAcc i n →
    Ev (fun k => spec_GetNumber.l0 k s a w n i) (num256 (((bytesOf s).drop (a + i).toNat).take d) n, true) := by
  induction d with
  | zero =>
    intro i n hi hd hn
    exact Ev.step (fun _ => spec_GetNumber.l0.eq_2 ..) (Ev.neg (by omega) (Ev.now _))
  | succ d ih =>
    intro i n hi hd hn
    have hb := bt_range s (a + i)
    have hlt := okAcc_lt hn
    have hn' : n < 1099511627776 := by unfold okAcc at hn; omega
    have e : (a + i).toNat < (bytesOf s).length := by rw [bytesOf_length]; omega
    have hd0 := List.drop_eq_getElem_cons e
    obtain ⟨c1, c2, c3, c4⟩ := bdrop_cons (i := a + i) (by omega) hd0
    refine Ev.step (fun _ => spec_GetNumber.l0.eq_2 ..) (Ev.pos (by omega) ?_)
    rw [w64 (n := a + i) (by omega) (by omega), w64 (n := bt s (a + i)) (by omega) (by omega), w64 (n := 256 * n) (by omega) (by omega), w64 (n := 256 * n + bt s (a + i)) (by omega) (by omega), w64 (n := i + 1) (by omega) (by omega)]
    refine Ev.pos (by omega) (Ev.pos (by omega) ?_)
    rw [hd0, List.take_succ_cons, num256, ← c2, ← c3, show a + i + 1 = a + (i + 1) by omega]
    exact ih (i + 1) _ (by omega) (by omega) (okAcc_step hn (by omega) hb.1 hb.2)
theorem getNumber_impl_l {s : ByteArray} (hs : s.size ≤ 140737488351232) {a w : Int} (h0 : 0 ≤ a) (h1 : a + w ≤ (s.size : Int)) (h6 : w ≤ 6) (d : Nat) : ∀ (i n : Int), 0 ≤ i → i + d = w → okAcc i n →
    Ev (fun k => impl_GetNumber.l0 k s a n w i) (num256 (((bytesOf s).drop (a + i).toNat).take d) n, true) := by
  induction d with
  | zero =>
    intro i n hi hd hn
    exact Ev.step (fun _ => impl_GetNumber.l0.eq_2 ..) (Ev.neg (by omega) (Ev.now _))
  | succ d ih =>
    intro i n hi hd hn
    have hb := bt_range s (a + i)
    have hlt := okAcc_lt hn
    have hn' : n < 1099511627776 := by unfold okAcc at hn; omega
    have e : (a + i).toNat < (bytesOf s).length := by rw [bytesOf_length]; omega
    have hd0 := List.drop_eq_getElem_cons e
    obtain ⟨c1, c2, c3, c4⟩ := bdrop_cons (i := a + i) (by omega) hd0
    refine Ev.step (fun _ => impl_GetNumber.l0.eq_2 ..) (Ev.pos (by omega) ?_)
    rw [w64 (n := a + i) (by omega) (by omega), w64 (n := bt s (a + i)) (by omega) (by omega), w64 (n := n * 256) (by omega) (by omega), i64_or8 (by omega) (by omega) (by omega) (by omega) (by omega), w64 (n := i + 1) (by omega) (by omega)]
    refine Ev.pos (by omega) (Ev.pos (by omega) ?_)
    rw [hd0, List.take_succ_cons, num256, ← c2, ← c3, show a + i + 1 = a + (i + 1) by omega, Int.mul_comm n 256]
    exact ih (i + 1) _ (by omega) (by omega) (okAcc_step hn (by omega) hb.1 hb.2)
theorem getNumber_spec {s : ByteArray} (hs : s.size ≤ 140737488351232) (a w : Int) (ha : a ≤ 9223372036854775807) : Ev (fun k => spec_GetNumber.f k s a w) (getNumber s a w) := by
  unfold spec_GetNumber.f
  refine Ev.bind0 (l01In_spec w 1 6) ?_
  have no : ¬ (1 ≤ w ∧ w ≤ 6 ∧ 0 ≤ a ∧ a ≤ (s.size : Int) - w) → Ev (fun k => spec_GetNumber.j0 k s a w true) (getNumber s a w) := by
    intro h
    unfold getNumber
    rw [if_neg h]
    exact Ev.step (fun _ => spec_GetNumber.j0.eq_2 ..) (Ev.pos rfl (Ev.now _))
  by_cases hw : 1 ≤ w ∧ w ≤ 6
  · refine Ev.pos (by simpa using hw) ?_
    by_cases h0 : a < 0
    · exact Ev.pos h0 (no (by omega))
    · refine Ev.neg h0 ?_
      rw [w64 (n := (s.size : Int) - w) (by omega) (by omega)]
      by_cases h1 : a > (s.size : Int) - w
      · rw [show decide (a > (s.size : Int) - w) = true by simpa using h1]
        exact no (by omega)
      · rw [show decide (a > (s.size : Int) - w) = false by simpa using h1]
        refine Ev.step (fun _ => spec_GetNumber.j0.eq_2 ..) (Ev.neg (by decide) ?_)
        have := getNumber_spec_l hs (a := a) (w := w) (by omega) (by omega) (by omega) w.toNat 0 0 (by omega) (by omega) (by unfold okAcc; omega)
        unfold getNumber
        rw [if_pos (by omega)]
        simpa using this
  · exact Ev.neg (by simpa using hw) (no (by omega))
theorem getNumber_impl {s : ByteArray} (hs : s.size ≤ 140737488351232) (a w : Int) (ha : a ≤ 9223372036854775807) : Ev (fun k => impl_GetNumber.f k s a w) (getNumber s a w) := by
  unfold impl_GetNumber.f
  have no : ¬ (1 ≤ w ∧ w ≤ 6 ∧ 0 ≤ a ∧ a ≤ (s.size : Int) - w) → Ev (fun k => impl_GetNumber.j0 k s a w true) (getNumber s a w) := by
    intro h
    unfold getNumber
    rw [if_neg h]
    exact Ev.step (fun _ => impl_GetNumber.j0.eq_2 ..) (Ev.pos rfl (Ev.now _))
  by_cases hw : w < 1
  · exact Ev.pos hw (no (by omega))
  · refine Ev.neg hw ?_
    by_cases hw6 : w > 6
    · exact Ev.pos hw6 (no (by omega))
    · refine Ev.neg hw6 ?_
      by_cases h0 : a < 0
      · exact Ev.pos h0 (no (by omega))
      · refine Ev.neg h0 ?_
        rw [w64 (n := (s.size : Int) - w) (by omega) (by omega)]
        by_cases h1 : a > (s.size : Int) - w
        · rw [show decide (a > (s.size : Int) - w) = true by simpa using h1]
          exact no (by omega)
        · rw [show decide (a > (s.size : Int) - w) = false by simpa using h1]
          refine Ev.step (fun _ => impl_GetNumber.j0.eq_2 ..) (Ev.neg (by decide) ?_)
          have := getNumber_impl_l hs (a := a) (w := w) (by omega) (by omega) (by omega) w.toNat 0 0 (by omega) (by omega) (by unfold okAcc; omega)
          unfold getNumber
          rw [if_pos (by omega)]
          simpa using this

theorem putNumber_spec_l (d : Nat) : ∀ (n : Int) (xs : List Int), 0 ≤ n → n ≤ 9223372036854775807 → d ≤ xs.length → xs.length ≤ 6 → Ev (fun k => spec_PutNumber.l0 k n xs ((d : Int) - 1)) (strOfNums (putL d n ++ xs.drop d)) := by
  induction d with
  | zero =>
    intro n xs h0 hn h h6
    exact Ev.step (fun _ => spec_PutNumber.l0.eq_2 ..) (Ev.neg (by decide) (Ev.now _))
  | succ d ih =>
    intro n xs h0 hn h h6
    rw [show ((d + 1 : Nat) : Int) - 1 = (d : Int) by omega]
    refine Ev.step (fun _ => spec_PutNumber.l0.eq_2 ..) (Ev.pos (by omega) (Ev.pos (by omega) (Ev.pos (by omega) ?_)))
    rw [Int.tdiv_eq_ediv_of_nonneg h0, Int.tmod_eq_emod_of_nonneg h0, w64 (n := n / 256) (by omega) (by omega), w64 (n := (d : Int) - 1) (by omega) (by omega), Int.toNat_natCast, Int.emod_emod_of_dvd n (Int.dvd_refl 256)]
    have := ih (n / 256) (xs.set d (n % 256)) (by omega) (by omega) (by rw [List.length_set]; omega) (by rw [List.length_set]; omega)
    rw [set_drop (n % 256) (by omega)] at this
    rw [putL, List.append_assoc]
    exact this
theorem putNumber_impl_l (d : Nat) : ∀ (n : Int) (xs : List Int), 0 ≤ n → n ≤ 9223372036854775807 → d ≤ xs.length → xs.length ≤ 6 → Ev (fun k => impl_PutNumber.l0 k n xs ((d : Int) - 1)) (strOfNums (putL d n ++ xs.drop d)) := by
  induction d with
  | zero =>
    intro n xs h0 hn h h6
    exact Ev.step (fun _ => impl_PutNumber.l0.eq_2 ..) (Ev.neg (by decide) (Ev.now _))
  | succ d ih =>
    intro n xs h0 hn h h6
    rw [show ((d + 1 : Nat) : Int) - 1 = (d : Int) by omega]
    refine Ev.step (fun _ => impl_PutNumber.l0.eq_2 ..) (Ev.pos (by omega) (Ev.pos (by omega) (Ev.pos (by omega) ?_)))
    rw [w64 (n := (d : Int) - 1) (by omega) (by omega), Int.toNat_natCast]
    have := ih (n / 256) (xs.set d (n % 256)) (by omega) (by omega) (by rw [List.length_set]; omega) (by rw [List.length_set]; omega)
    rw [set_drop (n % 256) (by omega)] at this
    rw [putL, List.append_assoc]
    exact this
theorem putNumber_spec (n w : Int) (hn : n ≤ 9223372036854775807) : Ev (fun k => spec_PutNumber.f k n w) (putNumber n w) := by
  unfold spec_PutNumber.f
  refine Ev.bind0 (l01In_spec w 1 6) ?_
  have no : ¬ (1 ≤ w ∧ w ≤ 6 ∧ 0 ≤ n ∧ n < 256 ^ w.toNat) → Ev (fun k => spec_PutNumber.j0 k n w true) (putNumber n w) := by
    intro h
    unfold putNumber
    rw [if_neg h]
    exact Ev.step (fun _ => spec_PutNumber.j0.eq_2 ..) (Ev.pos rfl (Ev.now _))
  by_cases hw : 1 ≤ w ∧ w ≤ 6
  · refine Ev.pos (by simpa using hw) ?_
    by_cases h0 : n < 0
    · exact Ev.pos h0 (no (by omega))
    · obtain ⟨e1, e2, e3, e4⟩ := shl_put hw.1 hw.2
      refine Ev.neg h0 (Ev.pos e2 ?_)
      rw [e1]
      by_cases h1 : n ≥ 256 ^ w.toNat
      · rw [show decide (n ≥ 256 ^ w.toNat) = true by simpa using h1]
        exact no (fun h => by have := h.2.2.2; omega)
      · rw [show decide (n ≥ 256 ^ w.toNat) = false by simpa using h1]
        refine Ev.step (fun _ => spec_PutNumber.j0.eq_2 ..) (Ev.neg (by decide) (Ev.pos (by omega) (Ev.pos (by omega) ?_)))
        have := putNumber_spec_l w.toNat n (List.replicate w.toNat 0) (by omega) hn (by rw [List.length_replicate]; omega) (by rw [List.length_replicate]; omega)
        rw [List.drop_eq_nil_of_le (by rw [List.length_replicate]; omega), List.append_nil, show ((w.toNat : Nat) : Int) = w by omega] at this
        unfold putNumber
        rw [if_pos ⟨hw.1, hw.2, by omega, by omega⟩, w64 (n := w - 1) (by omega) (by omega)]
        exact this
  · exact Ev.neg (by simpa using hw) (no (fun h => hw ⟨h.1, h.2.1⟩))
theorem putNumber_impl (n w : Int) (hn : n ≤ 9223372036854775807) : Ev (fun k => impl_PutNumber.f k n w) (putNumber n w) := by
  unfold impl_PutNumber.f
  have no : ¬ (1 ≤ w ∧ w ≤ 6 ∧ 0 ≤ n ∧ n < 256 ^ w.toNat) → Ev (fun k => impl_PutNumber.j0 k n w true) (putNumber n w) := by
    intro h
    unfold putNumber
    rw [if_neg h]
    exact Ev.step (fun _ => impl_PutNumber.j0.eq_2 ..) (Ev.pos rfl (Ev.now _))
  by_cases hw : w < 1
  · exact Ev.pos hw (no (fun h => by have := h.1; omega))
  · refine Ev.neg hw ?_
    by_cases hw6 : w > 6
    · exact Ev.pos hw6 (no (fun h => by have := h.2.1; omega))
    · refine Ev.neg hw6 ?_
      by_cases h0 : n < 0
      · exact Ev.pos h0 (no (fun h => by have := h.2.2.1; omega))
      · obtain ⟨e1, e2, e3, e4⟩ := shl_put (w := w) (by omega) (by omega)
        refine Ev.neg h0 (Ev.pos e4 ?_)
        rw [e3]
        by_cases h1 : n ≥ 256 ^ w.toNat
        · rw [show decide (n ≥ 256 ^ w.toNat) = true by simpa using h1]
          exact no (fun h => by have := h.2.2.2; omega)
        · rw [show decide (n ≥ 256 ^ w.toNat) = false by simpa using h1]
          refine Ev.step (fun _ => impl_PutNumber.j0.eq_2 ..) (Ev.neg (by decide) (Ev.pos (by omega) (Ev.pos (by omega) ?_)))
          have := putNumber_impl_l w.toNat n (List.replicate w.toNat 0) (by omega) hn (by rw [List.length_replicate]; omega) (by rw [List.length_replicate]; omega)
          rw [List.drop_eq_nil_of_le (by rw [List.length_replicate]; omega), List.append_nil, show ((w.toNat : Nat) : Int) = w by omega] at this
          unfold putNumber
          rw [if_pos ⟨by omega, by omega, by omega, by omega⟩, w64 (n := w - 1) (by omega) (by omega)]
          exact this

theorem strOfNums_size (l : List Int) : (strOfNums l).size = l.length := by
  have h : (strOfNums l).data.toList.length = (strOfNums l).size := by rw [Array.length_toList]; rfl
  rw [← h, strOfNums_data, List.length_map]
theorem putNumber_size (n w : Int) : (putNumber n w).size ≤ 6 := by
  unfold putNumber
  by_cases h : 1 ≤ w ∧ w ≤ 6 ∧ 0 ≤ n ∧ n < 256 ^ w.toNat
  · rw [if_pos h, strOfNums_size, putL_length]
    omega
  · rw [if_neg h]
    exact Nat.zero_le _

theorem data_eq_len (s : ByteArray) : s.data.toList.length = s.size := by rw [Array.length_toList]; rfl
theorem bytesOf_zeros (d : Nat) : bytesOf (⟨(Go.Lib.repeatL [0] d).toArray⟩ : ByteArray) = List.replicate d 0 := by
  have h := Go.Lib.repeatL_replicate 0 1 d
  rw [Nat.mul_one, show List.replicate 1 (0 : UInt8) = [0] from rfl] at h
  rw [h]
  unfold bytesOf
  rw [List.toList_toArray, List.map_replicate]
  rfl
theorem padTo_spec_l (n : Int) (hn : n ≤ 100000) (d : Nat) : ∀ (xs : List Int), (n - (xs.length : Int)).toNat = d → Ev (fun k => spec_PadTo.l0 k n xs) (strOfNums (xs ++ List.replicate d 0)) := by
  induction d with
  | zero =>
    intro xs hd
    rw [List.replicate_zero, List.append_nil]
    exact Ev.step (fun _ => spec_PadTo.l0.eq_2 ..) (Ev.neg (by omega) (Ev.now _))
  | succ d ih =>
    intro xs hd
    have := ih (xs ++ [0]) (by rw [List.length_append, List.length_singleton]; omega)
    rw [List.append_assoc, show [(0 : Int)] ++ List.replicate d 0 = List.replicate (d + 1) 0 from rfl] at this
    exact Ev.step (fun _ => spec_PadTo.l0.eq_2 ..) (Ev.pos (by omega) (Ev.pos (by omega) this))
theorem padTo_both' (s : ByteArray) (n : Int) (hs : s.size ≤ 100000) (hn : n ≤ 100000) : Ev (fun k => spec_PadTo.f k s n) (strOfNums (bytesOf s ++ List.replicate (n - ((bytesOf s).length : Int)).toNat 0)) ∧ impl_PadTo.f s n = some (strOfNums (bytesOf s ++ List.replicate (n - ((bytesOf s).length : Int)).toNat 0)) := by
  unfold spec_PadTo.f impl_PadTo.f
  refine ⟨Ev.neg (by omega) (Ev.pos (by omega) (padTo_spec_l n hn _ _ rfl)), ?_⟩
  rw [bytesOf_length]
  by_cases h : (s.size : Int) ≥ n
  · rw [if_pos h, show (n - (s.size : Int)).toNat = 0 by omega, List.replicate_zero, List.append_nil, strOfNums_bytesOf]
  · rw [if_neg h, if_neg (by omega), w64 (by omega) (by omega)]
    unfold strings_Repeat.f
    have z : (⟨#[0]⟩ : ByteArray).size = 1 := rfl
    rw [if_pos ⟨by omega, by omega, by rw [z]; omega⟩, Option.bind_some]
    have z2 : (⟨(Go.Lib.repeatL [0] (n - (s.size : Int)).toNat).toArray⟩ : ByteArray).size = (n - (s.size : Int)).toNat := by
      rw [← data_eq_len]
      simp only []
      rw [Go.Lib.repeatL_length]
      exact Nat.mul_one _
    have e : s ++ (⟨(Go.Lib.repeatL [0] (n - (s.size : Int)).toNat).toArray⟩ : ByteArray) = strOfNums (bytesOf s ++ List.replicate (n - (s.size : Int)).toNat 0) := by
      apply bytesOf_inj
      rw [bytesOf_append, bytesOf_zeros, bytesOf_strOfNums]
      intro x hx
      rcases List.mem_append.1 hx with h1 | h1
      · exact bytesOf_range h1
      · rw [List.eq_of_mem_replicate h1]
        decide
    rw [← e]
    exact if_pos (by simp only [] at z2 ⊢; rw [z2]; omega)
theorem padTo_both (s : ByteArray) (n : Int) (hs : s.size ≤ 100000) (hn : n ≤ 100000) : ∃ r, Ev (fun k => spec_PadTo.f k s n) r ∧ impl_PadTo.f s n = some r := ⟨_, padTo_both' s n hs hn⟩
theorem padTo_front (s : ByteArray) (n : Int) (hs : s.size ≤ 100000) (hn : n ≤ 100000) : ∃ r m, Ev (fun k => spec_PadTo.f k s n) r ∧ impl_PadTo.f s n = some r ∧ bytesOf r = bytesOf s ++ m ∧ r.size ≤ s.size + n.toNat := by
  obtain ⟨h1, h2⟩ := padTo_both' s n hs hn
  refine ⟨_, _, h1, h2, bytesOf_strOfNums ?_, ?_⟩
  rotate_left
  · rw [← data_eq_len, strOfNums_data, List.length_map, List.length_append, bytesOf_length, List.length_replicate]
    omega
  intro x hx
  rcases List.mem_append.1 hx with h1 | h1
  · exact bytesOf_range h1
  · rw [List.eq_of_mem_replicate h1]
    decide

theorem isUser_impl (a : Int) : impl_isUser.f a = some (decide (0 ≤ a ∧ a ≤ 3)) := by
  unfold impl_isUser.f
  by_cases h : a ≥ 0
  · rw [if_pos h]
    congr 1
    apply decide_eq_decide.2
    omega
  · rw [if_neg h]
    congr 1
    symm
    apply decide_eq_false
    omega

/-- One entry is well formed. -/
def entryM (x : S43) : Bool := decide (0 ≤ x.f2 ∧ x.f2 ≤ 7 ∧ ((x.f0 = 1 ∨ x.f0 = 2) ∧ 0 ≤ x.f1 ∧ x.f1 ≤ 3 ∨ x.f0 = 3 ∧ x.f1 = 0))
/-- Two neighbours rise. -/
def riseM (x y : S43) : Bool := decide (x.f0 < y.f0 ∨ x.f0 = y.f0 ∧ x.f1 < y.f1)
/-- The entries from one with a left neighbour on. -/
def aclFrom : Option S43 → List S43 → Bool
  | none, [] => true
  | some p, [] => decide (p.f0 = 3)
  | none, x :: l => entryM x && aclFrom (some x) l
  | some p, x :: l => entryM x && (riseM p x && aclFrom (some x) l)
def isAclM (l : List S43) : Bool := decide (l.length ≤ 6) && aclFrom none l
/-- What stands left of place i. -/
def leftOf (xs : List S43) (i : Int) : Option S43 := if i > 0 then some (rd_T43 xs (i - 1)) else none
theorem l05Entry_spec (a b c : Int) : Ev (fun k => spec_l05Entry.f k a b c) (entryM ⟨a, b, c⟩) := by
  unfold spec_l05Entry.f
  refine Ev.bind0 (l01In_spec c 0 7) ?_
  by_cases hc : 0 ≤ c ∧ c ≤ 7
  · refine Ev.pos (by simpa using hc) ?_
    by_cases h1 : a = 1
    · refine Ev.pos h1 (Ev.step (fun _ => spec_l05Entry.j0.eq_2 ..) (Ev.pos (by simpa using h1) (Ev.bind0 (l01In_spec b 0 3) ?_)))
      rw [show entryM ⟨a, b, c⟩ = decide (0 ≤ b ∧ b ≤ 3) by unfold entryM; apply decide_eq_decide.2; simp only; omega]
      exact Ev.now _
    · refine Ev.neg h1 (Ev.step (fun _ => spec_l05Entry.j0.eq_2 ..) ?_)
      by_cases h2 : a = 2
      · refine Ev.pos (by simpa using h2) (Ev.bind0 (l01In_spec b 0 3) ?_)
        rw [show entryM ⟨a, b, c⟩ = decide (0 ≤ b ∧ b ≤ 3) by unfold entryM; apply decide_eq_decide.2; simp only; omega]
        exact Ev.now _
      · refine Ev.neg (by simpa using h2) ?_
        by_cases h3 : a = 3
        · refine Ev.pos h3 ?_
          rw [show entryM ⟨a, b, c⟩ = (b == 0) by unfold entryM; rw [show (b == 0) = decide (b = 0) from rfl]; apply decide_eq_decide.2; simp only; omega]
          exact Ev.now _
        · refine Ev.neg h3 ?_
          rw [show entryM ⟨a, b, c⟩ = false by unfold entryM; apply decide_eq_false; simp only; omega]
          exact Ev.now _
  · refine Ev.neg (by simpa using hc) ?_
    rw [show entryM ⟨a, b, c⟩ = false by unfold entryM; apply decide_eq_false; simp only; omega]
    exact Ev.now _
theorem rd_last (xs : List S43) (i : Int) (h : (xs.length : Int) ≤ i) (h0 : 0 ≤ i) (hi : i ≤ (xs.length : Int)) : i = (xs.length : Int) := by omega
theorem isAcl_spec_l (xs : List S43) (hx : xs.length ≤ 1048576) (l : List S43) : ∀ (i : Int), 0 ≤ i → i ≤ (xs.length : Int) → xs.drop i.toNat = l →
    Ev (fun k => spec_IsAcl.l0 k xs xs (xs.length : Int) i) (aclFrom (leftOf xs i) l && decide (xs.length ≤ 6)) := by
  induction l with
  | nil =>
    intro i h0 hi h
    have h1 := ldrop_nil h0 h
    have hi' : i = (xs.length : Int) := by omega
    subst hi'
    refine Ev.step (fun _ => spec_IsAcl.l0.eq_2 ..) (Ev.neg (by omega) ?_)
    by_cases hz : (xs.length : Int) = 0
    · refine Ev.pos hz ?_
      rw [show leftOf xs (xs.length : Int) = none by unfold leftOf; rw [if_neg (by omega)], aclFrom, show decide (xs.length ≤ 6) = true by simp only [decide_eq_true_eq]; omega]
      exact Ev.now _
    · refine Ev.neg hz ?_
      rw [show leftOf xs (xs.length : Int) = some (rd_T43 xs ((xs.length : Int) - 1)) by unfold leftOf; rw [if_pos (by omega)], aclFrom, w64 (by omega) (by omega)]
      by_cases h6 : (xs.length : Int) ≤ 6
      · refine Ev.pos h6 (Ev.pos (by omega) (Ev.pos (by omega) ?_))
        rw [show decide (xs.length ≤ 6) = true by simp only [decide_eq_true_eq]; omega, Bool.and_true]
        exact Ev.now _
      · refine Ev.neg h6 ?_
        rw [show decide (xs.length ≤ 6) = false by simp only [decide_eq_false_iff_not]; omega, Bool.and_false]
        exact Ev.now _
  | cons x l ih =>
    intro i h0 hi h
    obtain ⟨p, q, c, e⟩ := ldrop_cons z43 h0 h
    have hx' : rd_T43 xs i = x := q
    have := ih (i + 1) (by omega) (by omega) c
    rw [show leftOf xs (i + 1) = some x by unfold leftOf; rw [if_pos (by omega), show i + 1 - 1 = i by omega, hx']] at this
    refine Ev.step (fun _ => spec_IsAcl.l0.eq_2 ..) (Ev.pos p (Ev.pos h0 (Ev.pos p ?_)))
    rw [hx']
    refine Ev.bind (l05Entry_spec x.f0 x.f1 x.f2) ?_
    rw [w64 (n := i + 1) (by omega) (by omega), w64 (n := i - 1) (by omega) (by omega)]
    by_cases c1 : entryM x = true
    · refine Ev.pos c1 ?_
      by_cases c2 : i > 0
      · refine Ev.pos c2 (Ev.pos (by omega) (Ev.pos (by omega) ?_))
        rw [show leftOf xs i = some (rd_T43 xs (i - 1)) by unfold leftOf; rw [if_pos c2], aclFrom, c1, Bool.true_and]
        generalize rd_T43 xs (i - 1) = y at *
        by_cases c3 : y.f0 > x.f0
        · rw [show riseM y x = false by unfold riseM; apply decide_eq_false; omega]
          exact Ev.pos c3 (Ev.now _)
        · refine Ev.neg c3 ?_
          by_cases c4 : y.f0 = x.f0
          · refine Ev.pos c4 ?_
            by_cases c5 : y.f1 ≥ x.f1
            · rw [show riseM y x = false by unfold riseM; apply decide_eq_false; omega]
              exact Ev.pos c5 (Ev.now _)
            · rw [show riseM y x = true by unfold riseM; apply decide_eq_true; omega, Bool.true_and]
              exact Ev.neg c5 this
          · rw [show riseM y x = true by unfold riseM; apply decide_eq_true; omega, Bool.true_and]
            exact Ev.neg c4 this
      · refine Ev.neg c2 ?_
        rw [show leftOf xs i = none by unfold leftOf; rw [if_neg c2], aclFrom, c1, Bool.true_and]
        exact this
    · refine Ev.neg c1 ?_
      have c1' : entryM x = false := by simpa using c1
      have : (aclFrom (leftOf xs i) (x :: l) && decide (xs.length ≤ 6)) = false := by
        cases leftOf xs i <;> simp [aclFrom, c1']
      rw [this]
      exact Ev.now _
theorem cmp_impl (a b : Int) : cmp_Compare_int.f a b = some (if a < b then -1 else if a > b then 1 else 0) := by
  unfold cmp_Compare_int.f cmp_isNaN_int.f
  simp only [bne_self_eq_false, Option.bind_some]
  rw [if_neg (by simp), if_neg (by simp)]
  repeat' split
  all_goals rfl
theorem cmpOr_impl (a b : Int) : Ev (fun k => cmp_Or_int.f k [a, b]) (if a = 0 then b else a) := by
  unfold cmp_Or_int.f
  refine Ev.step (fun _ => cmp_Or_int.l0.eq_2 ..) (Ev.pos (by simp) (Ev.pos (by decide) (Ev.pos (by simp) ?_)))
  rw [show rd [a, b] 0 = a from rfl, show wrap64 (0 + 1) = 1 by unfold wrap64; omega]
  by_cases ha : a = 0
  · refine Ev.pos ha (Ev.step (fun _ => cmp_Or_int.l0.eq_2 ..) (Ev.pos (by simp) (Ev.pos (by decide) (Ev.pos (by simp) ?_))))
    rw [show rd [a, b] 1 = b from rfl, show wrap64 (1 + 1) = 2 by unfold wrap64; omega, if_pos ha]
    by_cases hb : b = 0
    · refine Ev.pos hb (Ev.step (fun _ => cmp_Or_int.l0.eq_2 ..) (Ev.neg (by simp) ?_))
      rw [hb]
      exact Ev.now _
    · exact Ev.neg hb (Ev.now _)
  · rw [if_neg ha]
    exact Ev.neg ha (Ev.now _)
theorem isAcl_j3 {xs : List S43} (hx : xs.length ≤ 1048576) {i : Int} (h0 : 0 ≤ i) (hi : i < (xs.length : Int)) (a b c : Int) {r : Bool} {l : List S43} (he : entryM ⟨a, b, c⟩ = true) (hr : aclFrom (some ⟨a, b, c⟩) l = r) (h : Ev (fun k => impl_IsAcl.l0 k xs xs (xs.length : Int) (i + 1)) r) :
    Ev (fun k => impl_IsAcl.j3 k xs i xs (xs.length : Int) i a b c) (aclFrom (leftOf xs i) (⟨a, b, c⟩ :: l)) := by
  refine Ev.step (fun _ => impl_IsAcl.j3.eq_2 ..) ?_
  rw [w64 (n := i + 1) (by omega) (by omega), w64 (n := i - 1) (by omega) (by omega)]
  by_cases c2 : i > 0
  · rw [show leftOf xs i = some (rd_T43 xs (i - 1)) by unfold leftOf; rw [if_pos c2], aclFrom, he, Bool.true_and, hr]
    generalize rd_T43 xs (i - 1) = y at *
    refine Ev.pos c2 (Ev.pos (by omega) (Ev.pos (by omega) (Ev.bind0 (cmp_impl _ _) (Ev.bind0 (cmp_impl _ _) (Ev.bind (cmpOr_impl _ _) ?_)))))
    by_cases hc : y.f0 < a ∨ y.f0 = a ∧ y.f1 < b
    · rw [show riseM y ⟨a, b, c⟩ = true by unfold riseM; exact decide_eq_true hc, Bool.true_and]
      refine Ev.neg ?_ h
      repeat' split
      all_goals omega
    · rw [show riseM y ⟨a, b, c⟩ = false by unfold riseM; exact decide_eq_false hc, Bool.false_and]
      refine Ev.pos ?_ (Ev.now _)
      repeat' split
      all_goals omega
  · rw [show leftOf xs i = none by unfold leftOf; rw [if_neg c2], aclFrom, he, Bool.true_and, hr]
    exact Ev.neg c2 h
theorem isAcl_impl_l (xs : List S43) (hx : xs.length ≤ 1048576) (l : List S43) : ∀ (i : Int), 0 ≤ i → i ≤ (xs.length : Int) → xs.drop i.toNat = l →
    Ev (fun k => impl_IsAcl.l0 k xs xs (xs.length : Int) i) (aclFrom (leftOf xs i) l) := by
  induction l with
  | nil =>
    intro i h0 hi h
    have h1 := ldrop_nil h0 h
    have hi' : i = (xs.length : Int) := by omega
    subst hi'
    refine Ev.step (fun _ => impl_IsAcl.l0.eq_2 ..) (Ev.neg (by omega) ?_)
    by_cases hz : (xs.length : Int) = 0
    · refine Ev.pos hz ?_
      rw [show leftOf xs (xs.length : Int) = none by unfold leftOf; rw [if_neg (by omega)], aclFrom]
      exact Ev.now _
    · refine Ev.neg hz ?_
      rw [show leftOf xs (xs.length : Int) = some (rd_T43 xs ((xs.length : Int) - 1)) by unfold leftOf; rw [if_pos (by omega)], aclFrom, w64 (by omega) (by omega)]
      exact Ev.pos (by omega) (Ev.pos (by omega) (Ev.now _))
  | cons x l ih =>
    intro i h0 hi h
    obtain ⟨p, q, c, e⟩ := ldrop_cons z43 h0 h
    have hx' : rd_T43 xs i = x := q
    have := ih (i + 1) (by omega) (by omega) c
    rw [show leftOf xs (i + 1) = some x by unfold leftOf; rw [if_pos (by omega), show i + 1 - 1 = i by omega, hx']] at this
    have bad : entryM x = false → aclFrom (leftOf xs i) (x :: l) = false := by
      intro c1'
      cases leftOf xs i <;> simp [aclFrom, c1']
    refine Ev.step (fun _ => impl_IsAcl.l0.eq_2 ..) (Ev.pos p (Ev.pos h0 (Ev.pos p ?_)))
    rw [hx']
    obtain ⟨a, b, d⟩ := x
    simp only
    have j1no : Ev (fun k => impl_IsAcl.j1 k xs i xs (xs.length : Int) i true a b d) false := Ev.step (fun _ => impl_IsAcl.j1.eq_2 ..) (Ev.pos rfl (Ev.now _))
    by_cases d1 : d < 0
    · rw [bad (by unfold entryM; apply decide_eq_false; simp only; omega)]
      exact Ev.pos d1 j1no
    · refine Ev.neg d1 ?_
      by_cases d2 : d > 7
      · rw [bad (by unfold entryM; apply decide_eq_false; simp only; omega), show decide (d > 7) = true by simpa using d2]
        exact j1no
      · rw [show decide (d > 7) = false by simpa using d2]
        refine Ev.step (fun _ => impl_IsAcl.j1.eq_2 ..) (Ev.neg (by simp) ?_)
        have j2 : ∀ t : Bool, t = decide (a = 1 ∨ a = 2) → Ev (fun k => impl_IsAcl.j2 k xs i xs (xs.length : Int) i a t a b d) (aclFrom (leftOf xs i) (⟨a, b, d⟩ :: l)) := by
          intro t ht
          refine Ev.step (fun _ => impl_IsAcl.j2.eq_2 ..) ?_
          by_cases h12 : a = 1 ∨ a = 2
          · refine Ev.pos (by rw [ht]; exact decide_eq_true h12) (Ev.bind0 (isUser_impl b) ?_)
            by_cases hb : 0 ≤ b ∧ b ≤ 3
            · exact Ev.pos (by simpa using hb) (isAcl_j3 hx h0 p a b d (by unfold entryM; apply decide_eq_true; simp only; omega) rfl this)
            · rw [bad (by unfold entryM; apply decide_eq_false; simp only; omega)]
              exact Ev.neg (by simpa using hb) (Ev.now _)
          · refine Ev.neg (by rw [ht]; simpa using h12) ?_
            by_cases h3 : a = 3
            · refine Ev.pos h3 ?_
              by_cases hb : b = 0
              · exact Ev.pos hb (isAcl_j3 hx h0 p a b d (by unfold entryM; apply decide_eq_true; simp only; omega) rfl this)
              · rw [bad (by unfold entryM; apply decide_eq_false; simp only; omega)]
                exact Ev.neg hb (Ev.now _)
            · rw [bad (by unfold entryM; apply decide_eq_false; simp only; omega)]
              exact Ev.neg h3 (Ev.now _)
        by_cases h1 : a = 1
        · exact Ev.pos h1 (j2 _ (by simp [h1]))
        · exact Ev.neg h1 (j2 _ (by simp [h1]; rfl))
theorem isAcl_spec (xs : List S43) (hx : xs.length ≤ 1048576) : Ev (fun k => spec_IsAcl.f k xs) (isAclM xs) := by
  have := isAcl_spec_l xs hx xs 0 (by omega) (by omega) rfl
  unfold isAclM
  rw [Bool.and_comm]
  exact this
theorem isAcl_impl (xs : List S43) (hx : xs.length ≤ 1048576) : Ev (fun k => impl_IsAcl.f k xs) (isAclM xs) := by
  unfold impl_IsAcl.f isAclM
  by_cases h : (xs.length : Int) > 6
  · rw [show decide (xs.length ≤ 6) = false by simp only [decide_eq_false_iff_not]; omega, Bool.false_and]
    exact Ev.pos h (Ev.now _)
  · rw [show decide (xs.length ≤ 6) = true by simp only [decide_eq_true_eq]; omega, Bool.true_and]
    exact Ev.neg h (isAcl_impl_l xs hx xs 0 (by omega) (by omega) rfl)

def aclSmall (xs : List S43) : Prop := ∀ x, x ∈ xs → x.f0 ≤ 9223372036854775807 ∧ x.f1 ≤ 9223372036854775807 ∧ x.f2 ≤ 9223372036854775807
theorem pack_both (xs : List S43) (hx : xs.length ≤ 6) (hb : aclSmall xs) (l : List S43) : ∀ (i : Int) (s : ByteArray), 0 ≤ i → i ≤ (xs.length : Int) → xs.drop i.toNat = l → (s.size : Int) ≤ 6 + i * 18 →
    ∃ r m, Ev (fun k => spec_PackAcl.l0 k s xs (xs.length : Int) i) r ∧ Ev (fun k => impl_PackAcl.l0 k s xs (xs.length : Int) i) r ∧ bytesOf r = bytesOf s ++ m ∧ r.size ≤ 200 := by
  induction l with
  | nil =>
    intro i s h0 hi h hs
    have := ldrop_nil h0 h
    obtain ⟨r, m, p1, p2, p3, p4⟩ := padTo_front s 19 (by omega) (by omega)
    exact ⟨r, m, Ev.step (fun _ => spec_PackAcl.l0.eq_2 ..) (Ev.neg (by omega) (Ev.bind p1 (Ev.now _))), Ev.step (fun _ => impl_PackAcl.l0.eq_2 ..) (Ev.neg (by omega) (Ev.bind0 p2 (Ev.now _))), p3, by omega⟩
  | cons x l ih =>
    intro i s h0 hi h hs
    obtain ⟨a, b, c, e⟩ := ldrop_cons z43 h0 h
    have hr : rd_T43 xs i = x := b
    obtain ⟨b1, b2, b3⟩ := hb x (by
      have : x ∈ xs.drop i.toNat := by rw [h]; exact List.mem_cons_self ..
      exact List.mem_of_mem_drop this)
    have z1 := putNumber_size x.f0 1
    have z2 := putNumber_size x.f1 1
    have z3 := putNumber_size x.f2 1
    have a1 := ba_size_append s (putNumber x.f0 1)
    have a2 := ba_size_append (s ++ putNumber x.f0 1) (putNumber x.f1 1)
    have a3 := ba_size_append (s ++ putNumber x.f0 1 ++ putNumber x.f1 1) (putNumber x.f2 1)
    have a4 := ba_size_append (putNumber x.f0 1) (putNumber x.f1 1)
    have a5 := ba_size_append (putNumber x.f0 1 ++ putNumber x.f1 1) (putNumber x.f2 1)
    obtain ⟨r, m, p1, p2, p3, p4⟩ := ih (i + 1) (s ++ putNumber x.f0 1 ++ putNumber x.f1 1 ++ putNumber x.f2 1) (by omega) (by omega) c (by omega)
    refine ⟨r, _, Ev.step (fun _ => spec_PackAcl.l0.eq_2 ..) (Ev.pos a (Ev.pos h0 (Ev.pos a ?_))), Ev.step (fun _ => impl_PackAcl.l0.eq_2 ..) (Ev.pos a (Ev.pos h0 (Ev.pos a ?_))), p3.trans (by rw [bytesOf_append, bytesOf_append, bytesOf_append, List.append_assoc, List.append_assoc, List.append_assoc]), p4⟩
    · rw [hr, w64 (n := i + 1) (by omega) (by omega)]
      exact Ev.bind (putNumber_spec x.f0 1 b1) (Ev.pos (by omega) (Ev.bind (putNumber_spec x.f1 1 b2) (Ev.pos (by omega) (Ev.bind (putNumber_spec x.f2 1 b3) (Ev.pos (by omega) p1)))))
    · rw [hr, w64 (n := i + 1) (by omega) (by omega)]
      rw [show s ++ putNumber x.f0 1 ++ putNumber x.f1 1 ++ putNumber x.f2 1 = s ++ (putNumber x.f0 1 ++ putNumber x.f1 1 ++ putNumber x.f2 1) by simp only [ByteArray.append_assoc]] at p2
      exact Ev.bind (putNumber_impl x.f0 1 b1) (Ev.bind (putNumber_impl x.f1 1 b2) (Ev.pos (by omega) (Ev.bind (putNumber_impl x.f2 1 b3) (Ev.pos (by omega) (Ev.pos (by omega) p2)))))
theorem packAcl_front (xs : List S43) (hx : xs.length ≤ 1048576) (hb : aclSmall xs) : ∃ r, Ev (fun k => spec_PackAcl.f k xs) r ∧ Ev (fun k => impl_PackAcl.f k xs) r ∧ (r = ⟨#[]⟩ ∨ ∃ m, bytesOf r = bytesOf (putNumber (xs.length : Int) 1) ++ m) ∧ r.size ≤ 200 := by
  unfold spec_PackAcl.f impl_PackAcl.f
  have h1 := isAcl_spec xs hx
  have h2 := isAcl_impl xs hx
  cases ho : isAclM xs with
  | false =>
    rw [ho] at h1 h2
    exact ⟨_, Ev.bind h1 (Ev.neg (by decide) (Ev.now _)), Ev.bind h2 (Ev.neg (by decide) (Ev.now _)), Or.inl rfl, by decide⟩
  | true =>
    rw [ho] at h1 h2
    have h6 : xs.length ≤ 6 := by
      unfold isAclM at ho
      rw [Bool.and_eq_true] at ho
      exact of_decide_eq_true ho.1
    have z := putNumber_size (xs.length : Int) 1
    obtain ⟨r, m, p1, p2, p3, p4⟩ := pack_both xs h6 hb xs 0 (putNumber (xs.length : Int) 1) (by omega) (by omega) rfl (by omega)
    exact ⟨r, Ev.bind h1 (Ev.pos rfl (Ev.bind (putNumber_spec _ 1 (by omega)) p1)), Ev.bind h2 (Ev.pos rfl (Ev.bind (putNumber_impl _ 1 (by omega)) p2)), Or.inr ⟨m, p3⟩, p4⟩
theorem packAcl_both (xs : List S43) (hx : xs.length ≤ 1048576) (hb : aclSmall xs) : ∃ r, Ev (fun k => spec_PackAcl.f k xs) r ∧ Ev (fun k => impl_PackAcl.f k xs) r := by
  obtain ⟨r, h1, h2, _⟩ := packAcl_front xs hx hb
  exact ⟨r, h1, h2⟩

theorem rdAcl_set (l : List S43) (i : Int) (v : S43) (h0 : 0 ≤ i) (h : i < (l.length : Int)) : rd_T43 (l.set i.toNat v) i = v := by
  show rdOf z43 (l.set i.toNat v) i = v
  unfold rdOf
  rw [List.getD_eq_getElem?_getD, List.getElem?_set_self (by omega)]
  rfl
theorem markAclEntryS_l (d : Nat) : ∀ (i k : Int) (l : List S43), 0 ≤ i → i + d = (l.length : Int) → 0 ≤ k → k + 3 * d ≤ 1152921504606846976 → (l.length : Int) ≤ 1152921504606846976 →
    ∃ l', Ev (fun n => laws_markAclEntryS.l0 n l k i) (k + 3 * d, l') ∧ l'.length = l.length ∧ (∀ j : Nat, (j : Int) < i → l'[j]? = l[j]?) ∧
      (∀ j : Nat, j < d → l'[i.toNat + j]? = some ⟨k + 3 * j, k + 3 * j + 1, k + 3 * j + 1 + 1⟩) := by
  induction d with
  | zero =>
    intro i k l h0 hd hk hk' hl
    refine ⟨l, ?_, rfl, fun _ _ => rfl, fun j hj => absurd hj (Nat.not_lt_zero _)⟩
    rw [show k + 3 * ((0 : Nat) : Int) = k by omega]
    exact Ev.step (fun _ => laws_markAclEntryS.l0.eq_2 ..) (Ev.neg (by omega) (Ev.now _))
  | succ d ih =>
    intro i k l h0 hd hk hk' hl
    obtain ⟨l', h1, h2, h3, h4⟩ := ih (i + 1) (k + 1 + 1 + 1) (l.set i.toNat ⟨k, k + 1, k + 1 + 1⟩) (by omega) (by rw [List.length_set]; omega) (by omega) (by omega) (by rw [List.length_set]; omega)
    rw [show k + 1 + 1 + 1 + 3 * (d : Int) = k + 3 * ((d + 1 : Nat) : Int) by omega] at h1
    rw [List.length_set] at h2
    refine ⟨l', Ev.step (fun _ => laws_markAclEntryS.l0.eq_2 ..) (Ev.pos (by omega) (Ev.pos h0 (Ev.bind0 rfl (Ev.bind0 rfl ?_)))), h2, ?_, ?_⟩
    · rw [rdAcl_set _ _ _ h0 (by omega), rdAcl_set _ _ _ h0 (by rw [List.length_set]; omega)]
      simp only []
      rw [List.set_set, List.set_set, w64 (n := k + 1) (by omega) (by omega), w64 (n := k + 1 + 1) (by omega) (by omega), w64 (n := k + 1 + 1 + 1) (by omega) (by omega), w64 (n := i + 1) (by omega) (by omega)]
      exact h1
    · intro j hj
      rw [h3 j (by omega), List.getElem?_set_ne (by omega)]
    · intro j hj
      cases j with
      | zero =>
        rw [h3 (i.toNat + 0) (by omega), Nat.add_zero, List.getElem?_set_self (by omega)]
        simp
      | succ j =>
        have := h4 j (by omega)
        rw [show (i + 1).toNat + j = i.toNat + (j + 1) by omega] at this
        rw [this, show k + 1 + 1 + 1 + 3 * (j : Int) = k + 3 * ((j + 1 : Nat) : Int) by omega]
theorem markAclEntryS_ex (l : List S43) (k : Int) (hk : 0 ≤ k) (h : k + 3 * (l.length : Int) ≤ 1152921504606846976) :
    ∃ l', Ev (fun n => laws_markAclEntryS.f n l k) (k + 3 * (l.length : Int), l') ∧ l'.length = l.length := by
  obtain ⟨l', h1, h2, _⟩ := markAclEntryS_l l.length 0 k l (by omega) (by omega) hk h (by omega)
  exact ⟨l', h1, h2⟩

theorem heldAclEntryS_l (d : Nat) : ∀ (i k : Int) (l : List S43), 0 ≤ i → i + d = (l.length : Int) → 0 ≤ k → k + 3 * d ≤ 1152921504606846976 → (l.length : Int) ≤ 1152921504606846976 →
    (∀ j : Nat, j < d → l[i.toNat + j]? = some ⟨k + 3 * j, k + 3 * j + 1, k + 3 * j + 1 + 1⟩) → Ev (fun n => laws_heldAclEntryS.l0 n l k i) (k + 3 * d) := by
  induction d with
  | zero =>
    intro i k l h0 hd hk hk' hl _
    rw [show k + 3 * ((0 : Nat) : Int) = k by omega]
    exact Ev.step (fun _ => laws_heldAclEntryS.l0.eq_2 ..) (Ev.neg (by omega) (Ev.now _))
  | succ d ih =>
    intro i k l h0 hd hk hk' hl h
    have e : rd_T43 l i = ⟨k, k + 1, k + 1 + 1⟩ := by
      have h' := h 0 (by omega)
      rw [Nat.add_zero] at h'
      show rdOf z43 l i = _
      unfold rdOf
      rw [List.getD_eq_getElem?_getD, h']
      simp
    have g := ih (i + 1) (k + 1 + 1 + 1) l (by omega) (by omega) (by omega) (by omega) hl (by
      intro j hj
      have := h (j + 1) (by omega)
      rw [show i.toNat + (j + 1) = (i + 1).toNat + j by omega] at this
      rw [this, show k + 1 + 1 + 1 + 3 * (j : Int) = k + 3 * ((j + 1 : Nat) : Int) by omega])
    rw [show k + 1 + 1 + 1 + 3 * (d : Int) = k + 3 * ((d + 1 : Nat) : Int) by omega] at g
    refine Ev.step (fun _ => laws_heldAclEntryS.l0.eq_2 ..) (Ev.pos (by omega) (Ev.pos h0 ?_))
    rw [e]
    simp only []
    rw [w64 (n := k + 1) (by omega) (by omega), w64 (n := k + 1 + 1) (by omega) (by omega), w64 (n := k + 1 + 1 + 1) (by omega) (by omega), w64 (n := i + 1) (by omega) (by omega)]
    exact Ev.pos (by trivial) (Ev.pos (by trivial) (Ev.pos (by trivial) g))
theorem markHeldAclEntryS_ex (l : List S43) (k : Int) (hk : 0 ≤ k) (h : k + 3 * (l.length : Int) ≤ 1152921504606846976) :
    ∃ l', Ev (fun n => laws_markAclEntryS.f n l k) (k + 3 * (l.length : Int), l') ∧ l'.length = l.length ∧ Ev (fun n => laws_heldAclEntryS.f n l' k) (k + 3 * (l.length : Int)) := by
  obtain ⟨l', h1, h2, h3, h4⟩ := markAclEntryS_l l.length 0 k l (by omega) (by omega) hk h (by omega)
  exact ⟨l', h1, h2, heldAclEntryS_l l.length 0 k l' (by omega) (by omega) hk h (by omega) h4⟩

theorem eqAclEntryS_l (d : Nat) : ∀ (i : Int) (l : List S43), 0 ≤ i → i + d = (l.length : Int) → l.length ≤ 1048576 → Ev (fun k => laws_eqAclEntryS.l0 k l l i) true := by
  induction d with
  | zero =>
    intro i l h0 hd hl
    exact Ev.step (fun _ => laws_eqAclEntryS.l0.eq_2 ..) (Ev.neg (by omega) (Ev.now _))
  | succ d ih =>
    intro i l h0 hd hl
    refine Ev.step (fun _ => laws_eqAclEntryS.l0.eq_2 ..) (Ev.pos (by omega) (Ev.pos h0 (Ev.pos (by omega) (Ev.bind0 (a := true) (by unfold laws_eqAclEntry.f; simp) (Ev.pos rfl ?_)))))
    rw [w64 (n := i + 1) (by omega) (by omega)]
    exact ih (i + 1) l (by omega) (by omega) hl
theorem eqAclEntryS_f (l : List S43) (hl : l.length ≤ 1048576) : Ev (fun k => laws_eqAclEntryS.f k l l) true := by
  unfold laws_eqAclEntryS.f
  exact Ev.pos rfl (eqAclEntryS_l l.length 0 l (by omega) (by omega) hl)

theorem bt_range {s : ByteArray} {i : Int} (h0 : 0 ≤ i) (h : i < (s.size : Int)) : 0 ≤ bt s i ∧ bt s i ≤ 255 := by
  cases hh : (bytesOf s).drop i.toNat with
  | nil => exact absurd (bdrop_nil h0 hh) (by omega)
  | cons b m =>
    obtain ⟨_, k2, _, _⟩ := bdrop_cons h0 hh
    rw [k2]
    exact bytesOf_range (List.mem_of_mem_drop (by rw [hh]; exact List.mem_cons_self ..))
/-- Both loops over the first n entries (n at most 6). -/
theorem unpack_both (s : ByteArray) (hs : (s.size : Int) = 19) (n : Int) (hn : n = bt s 0) (d : Nat) : ∀ (i : Int) (x : List S43), 0 ≤ i → i + d = n → n ≤ 6 → (x.length : Int) = i → aclSmall x →
    ∃ r, Ev (fun k => spec_UnpackAcl.l0 k s x i) r ∧ Ev (fun k => impl_UnpackAcl.l0 k s x n i) r ∧ r.1.length ≤ 6 ∧ (r = ([], false) ∨ (r.2 = true ∧ aclSmall r.1 ∧ Ev (fun k => impl_PackAcl.f k r.1) s)) := by
  induction d with
  | zero =>
    intro i x h0 hd h6 hx ha
    obtain ⟨r, p1, p2⟩ := packAcl_both x (by omega) ha
    have hw : wrap64 (bt s 0) = n := by rw [hn]; exact w64 (by omega) (by omega)
    by_cases e : r.toList = s.toList
    · refine ⟨(x, true), Ev.step (fun _ => spec_UnpackAcl.l0.eq_2 ..) (Ev.pos (by omega) (Ev.neg (by rw [hw]; omega) (Ev.bind p1 (Ev.pos e (Ev.now _))))), Ev.step (fun _ => impl_UnpackAcl.l0.eq_2 ..) (Ev.neg (by omega) (Ev.bind p2 (Ev.pos e (Ev.now _)))), ?_, Or.inr ⟨rfl, ha, (ba_eq_iff _ _).1 e ▸ p2⟩⟩
      show x.length ≤ 6
      omega
    · exact ⟨([], false), Ev.step (fun _ => spec_UnpackAcl.l0.eq_2 ..) (Ev.pos (by omega) (Ev.neg (by rw [hw]; omega) (Ev.bind p1 (Ev.neg e (Ev.now _))))), Ev.step (fun _ => impl_UnpackAcl.l0.eq_2 ..) (Ev.neg (by omega) (Ev.bind p2 (Ev.neg e (Ev.now _)))), Nat.zero_le _, Or.inl rfl⟩
  | succ d ih =>
    intro i x h0 hd h6 hx ha
    have hw : wrap64 (bt s 0) = n := by rw [hn]; exact w64 (by omega) (by omega)
    have g1 := bt_range (s := s) (i := 3 * i + 1) (by omega) (by omega)
    have g2 := bt_range (s := s) (i := 3 * i + 2) (by omega) (by omega)
    have g3 := bt_range (s := s) (i := 3 * i + 3) (by omega) (by omega)
    obtain ⟨r, p1, p2, p3⟩ := ih (i + 1) (x ++ [⟨bt s (3 * i + 1), bt s (3 * i + 2), bt s (3 * i + 3)⟩]) (by omega) (by omega) h6 (by rw [List.length_append, List.length_singleton]; omega) (by
      intro y hy
      rcases List.mem_append.1 hy with h | h
      · exact ha y h
      · rw [List.mem_singleton.1 h]
        exact ⟨by simp only []; omega, by simp only []; omega, by simp only []; omega⟩)
    refine ⟨r, Ev.step (fun _ => spec_UnpackAcl.l0.eq_2 ..) (Ev.pos (by omega) ?_), Ev.step (fun _ => impl_UnpackAcl.l0.eq_2 ..) ?_, p3⟩
    · rw [hw, w64 (n := 3 * i) (by omega) (by omega), w64 (n := 3 * i + 1) (by omega) (by omega), w64 (n := 3 * i + 2) (by omega) (by omega), w64 (n := 3 * i + 3) (by omega) (by omega), w64 (n := i + 1) (by omega) (by omega), w64 (n := bt s (3 * i + 1)) (by omega) (by omega), w64 (n := bt s (3 * i + 2)) (by omega) (by omega), w64 (n := bt s (3 * i + 3)) (by omega) (by omega)]
      exact Ev.pos (by omega) (Ev.pos (by omega) (Ev.pos (by omega) (Ev.pos (by omega) (Ev.pos (by omega) (Ev.pos (by omega) (Ev.pos (by omega) (Ev.pos (by omega) (Ev.pos (by omega) p1))))))))
    · rw [w64 (n := 3 * i) (by omega) (by omega), Int.add_comm 1 (3 * i), Int.add_comm 2 (3 * i), Int.add_comm 3 (3 * i), w64 (n := 3 * i + 1) (by omega) (by omega), w64 (n := 3 * i + 2) (by omega) (by omega), w64 (n := 3 * i + 3) (by omega) (by omega), w64 (n := i + 1) (by omega) (by omega), w64 (n := bt s (3 * i + 1)) (by omega) (by omega), w64 (n := bt s (3 * i + 2)) (by omega) (by omega), w64 (n := bt s (3 * i + 3)) (by omega) (by omega)]
      exact Ev.pos (by omega) (Ev.pos (by omega) (Ev.pos (by omega) (Ev.pos (by omega) (Ev.pos (by omega) (Ev.pos (by omega) (Ev.pos (by omega) (Ev.pos (by omega) p2)))))))
/-- The first byte is greater than 6: the reference reads six entries and finds another first byte. -/
theorem unpack_big (s : ByteArray) (hs : (s.size : Int) = 19) (n : Int) (hn : n = bt s 0) (h7 : 6 < n) (d : Nat) : ∀ (i : Int) (x : List S43), 0 ≤ i → i + d = 6 → (x.length : Int) = i → aclSmall x →
    Ev (fun k => spec_UnpackAcl.l0 k s x i) ([], false) := by
  have hr := bt_range (s := s) (i := 0) (by omega) (by omega)
  induction d with
  | zero =>
    intro i x h0 hd hx ha
    obtain ⟨r, p1, p2, p3, _⟩ := packAcl_front x (by omega) ha
    have hw : wrap64 (bt s 0) = n := by rw [hn]; exact w64 (by omega) (by omega)
    have e : ¬ r.toList = s.toList := by
      intro h
      have h := (ba_eq_iff _ _).1 h
      subst h
      rcases p3 with h | ⟨m, h⟩
      · rw [h] at hs
        exact absurd hs (by decide)
      · rw [show (x.length : Int) = 6 by omega, show bytesOf (putNumber 6 1) = [6] by decide +kernel] at h
        obtain ⟨_, k, _⟩ := bdrop_cons (s := r) (i := 0) (x := 6) (l := m) (by omega) h
        omega
    exact Ev.step (fun _ => spec_UnpackAcl.l0.eq_2 ..) (Ev.pos (by omega) (Ev.pos (by rw [hw]; omega) (Ev.neg (by omega) (Ev.bind p1 (Ev.neg e (Ev.now _))))))
  | succ d ih =>
    intro i x h0 hd hx ha
    have hw : wrap64 (bt s 0) = n := by rw [hn]; exact w64 (by omega) (by omega)
    have g1 := bt_range (s := s) (i := 3 * i + 1) (by omega) (by omega)
    have g2 := bt_range (s := s) (i := 3 * i + 2) (by omega) (by omega)
    have g3 := bt_range (s := s) (i := 3 * i + 3) (by omega) (by omega)
    have p1 := ih (i + 1) (x ++ [⟨bt s (3 * i + 1), bt s (3 * i + 2), bt s (3 * i + 3)⟩]) (by omega) (by omega) (by rw [List.length_append, List.length_singleton]; omega) (by
      intro y hy
      rcases List.mem_append.1 hy with h | h
      · exact ha y h
      · rw [List.mem_singleton.1 h]
        exact ⟨by simp only []; omega, by simp only []; omega, by simp only []; omega⟩)
    refine Ev.step (fun _ => spec_UnpackAcl.l0.eq_2 ..) (Ev.pos (by omega) ?_)
    rw [hw, w64 (n := 3 * i) (by omega) (by omega), w64 (n := 3 * i + 1) (by omega) (by omega), w64 (n := 3 * i + 2) (by omega) (by omega), w64 (n := 3 * i + 3) (by omega) (by omega), w64 (n := i + 1) (by omega) (by omega), w64 (n := bt s (3 * i + 1)) (by omega) (by omega), w64 (n := bt s (3 * i + 2)) (by omega) (by omega), w64 (n := bt s (3 * i + 3)) (by omega) (by omega)]
    exact Ev.pos (by omega) (Ev.pos (by omega) (Ev.pos (by omega) (Ev.pos (by omega) (Ev.pos (by omega) (Ev.pos (by omega) (Ev.pos (by omega) (Ev.pos (by omega) (Ev.pos (by omega) p1))))))))
theorem unpackAcl_both (s : ByteArray) : ∃ r, Ev (fun k => spec_UnpackAcl.f k s) r ∧ Ev (fun k => impl_UnpackAcl.f k s) r ∧ r.1.length ≤ 6 := by
  unfold spec_UnpackAcl.f impl_UnpackAcl.f
  have no : Ev (fun k => impl_UnpackAcl.j0 k s true) ([], false) := Ev.step (fun _ => impl_UnpackAcl.j0.eq_2 ..) (Ev.pos rfl (Ev.now _))
  by_cases hs : (s.size : Int) = 19
  · have hr := bt_range (s := s) (i := 0) (by omega) (by omega)
    by_cases h7 : bt s 0 > 6
    · refine ⟨([], false), Ev.pos hs (unpack_big s hs _ rfl h7 6 0 [] (by omega) (by omega) rfl (fun x h => by cases h)), Ev.pos hs (Ev.pos (by omega) ?_), Nat.zero_le _⟩
      rw [show decide (bt s 0 > 6) = true from decide_eq_true h7]
      exact no
    · obtain ⟨r, p1, p2, p3, _⟩ := unpack_both s hs (bt s 0) rfl (bt s 0).toNat 0 [] (by omega) (by omega) (by omega) rfl (fun x h => by cases h)
      refine ⟨r, Ev.pos hs p1, Ev.pos hs (Ev.pos (by omega) ?_), p3⟩
      rw [show decide (bt s 0 > 6) = false from decide_eq_false h7]
      refine Ev.step (fun _ => impl_UnpackAcl.j0.eq_2 ..) (Ev.neg (by decide) (Ev.pos (by omega) ?_))
      rw [w64 (n := bt s 0) (by omega) (by omega)]
      exact p2
  · exact ⟨([], false), Ev.neg hs (Ev.now _), Ev.neg hs no, Nat.zero_le _⟩

theorem z19_size : (strOfNums (List.replicate 19 0)).size = 19 := by decide +kernel
theorem packAcl_nil : Ev (fun k => spec_PackAcl.f k ([] : List S43)) (strOfNums (List.replicate 19 0)) ∧ Ev (fun k => impl_PackAcl.f k ([] : List S43)) (strOfNums (List.replicate 19 0)) := by
  unfold spec_PackAcl.f impl_PackAcl.f
  have h1 := isAcl_spec ([] : List S43) (by simp)
  have h2 := isAcl_impl ([] : List S43) (by simp)
  have e : isAclM ([] : List S43) = true := by decide
  rw [e] at h1 h2
  have z := putNumber_size 0 1
  obtain ⟨q1, q2⟩ := padTo_both' (putNumber 0 1) 19 (by omega) (by omega)
  have v : strOfNums (bytesOf (putNumber 0 1) ++ List.replicate (19 - ((bytesOf (putNumber 0 1)).length : Int)).toNat 0) = strOfNums (List.replicate 19 0) := by decide +kernel
  rw [v] at q1 q2
  exact ⟨Ev.bind h1 (Ev.pos rfl (Ev.bind (putNumber_spec 0 1 (by omega)) (Ev.step (fun _ => spec_PackAcl.l0.eq_2 ..) (Ev.neg (by decide) (Ev.bind q1 (Ev.now _)))))),
    Ev.bind h2 (Ev.pos rfl (Ev.bind (putNumber_impl 0 1 (by omega)) (Ev.step (fun _ => impl_PackAcl.l0.eq_2 ..) (Ev.neg (by decide) (Ev.bind0 q2 (Ev.now _))))))⟩
/-- What UnpackAcl takes out of 19 bytes; what it gives packs to 19 bytes, and to these only where it says yes. -/
theorem unpackAcl_x (s : ByteArray) (hs : (s.size : Int) = 19) : ∃ r X, Ev (fun k => spec_UnpackAcl.f k s) r ∧ Ev (fun k => impl_UnpackAcl.f k s) r ∧ r.1.length ≤ 6 ∧ aclSmall r.1 ∧ Ev (fun k => impl_PackAcl.f k r.1) X ∧ X.size = 19 ∧ (X = s → r.2 = true) := by
  obtain ⟨n1, n2⟩ := packAcl_nil
  by_cases hz : strOfNums (List.replicate 19 0) = s
  · subst hz
    refine ⟨([], true), _, ?_, ?_, Nat.zero_le _, (fun x h => by cases h), n2, z19_size, fun _ => rfl⟩
    · unfold spec_UnpackAcl.f
      exact Ev.pos hs (Ev.step (fun _ => spec_UnpackAcl.l0.eq_2 ..) (Ev.pos (by decide +kernel) (Ev.neg (by decide +kernel) (Ev.bind n1 (Ev.pos rfl (Ev.now _))))))
    · unfold impl_UnpackAcl.f
      refine Ev.pos hs (Ev.pos (by omega) (Ev.step (fun _ => impl_UnpackAcl.j0.eq_2 ..) (Ev.neg (by decide +kernel) (Ev.pos (by omega) (Ev.step (fun _ => impl_UnpackAcl.l0.eq_2 ..) (Ev.neg (by decide +kernel) (Ev.bind n2 (Ev.pos rfl (Ev.now _)))))))))
  · have no : Ev (fun k => impl_UnpackAcl.j0 k s true) ([], false) := Ev.step (fun _ => impl_UnpackAcl.j0.eq_2 ..) (Ev.pos rfl (Ev.now _))
    have hr := bt_range (s := s) (i := 0) (by omega) (by omega)
    by_cases h7 : bt s 0 > 6
    · refine ⟨([], false), strOfNums (List.replicate 19 0), ?_, ?_, Nat.zero_le _, (fun x h => by cases h), n2, z19_size, fun h => absurd h hz⟩
      · unfold spec_UnpackAcl.f
        exact Ev.pos hs (unpack_big s hs _ rfl h7 6 0 [] (by omega) (by omega) rfl (fun x h => by cases h))
      · unfold impl_UnpackAcl.f
        refine Ev.pos hs (Ev.pos (by omega) ?_)
        rw [show decide (bt s 0 > 6) = true from decide_eq_true h7]
        exact no
    · obtain ⟨r, p1, p2, p3, p4⟩ := unpack_both s hs (bt s 0) rfl (bt s 0).toNat 0 [] (by omega) (by omega) (by omega) rfl (fun x h => by cases h)
      have q1 : Ev (fun k => spec_UnpackAcl.f k s) r := by
        unfold spec_UnpackAcl.f
        exact Ev.pos hs p1
      have q2 : Ev (fun k => impl_UnpackAcl.f k s) r := by
        unfold impl_UnpackAcl.f
        refine Ev.pos hs (Ev.pos (by omega) ?_)
        rw [show decide (bt s 0 > 6) = false from decide_eq_false h7]
        refine Ev.step (fun _ => impl_UnpackAcl.j0.eq_2 ..) (Ev.neg (by decide) (Ev.pos (by omega) ?_))
        rw [w64 (n := bt s 0) (by omega) (by omega)]
        exact p2
      rcases p4 with e | ⟨e1, e2, e3⟩
      · subst e
        exact ⟨([], false), _, q1, q2, p3, (fun x h => by cases h), n2, z19_size, fun h => absurd h hz⟩
      · exact ⟨r, s, q1, q2, p3, e2, e3, by omega, fun _ => e1⟩

theorem spec_l02Same_l (a b : List Int) (ha : a.length ≤ 1048576) (hab : a.length = b.length) (l : List Int) : ∀ (i : Int) (m : List Int), 0 ≤ i → a.drop i.toNat = l → b.drop i.toNat = m → Ev (fun k => spec_l02Same.l0 k b a (a.length : Int) i) (allEq intEq l m) := by
  induction l with
  | nil =>
    intro i m h0 h h'
    have h1 := ldrop_nil h0 h
    have hm : m = [] := by rw [← h']; exact List.drop_eq_nil_of_le (by omega)
    rw [hm]
    exact Ev.step (fun _ => spec_l02Same.l0.eq_2 ..) (Ev.neg (by omega) (Ev.now _))
  | cons x l ih =>
    intro i m h0 h h'
    obtain ⟨p, q, c, e⟩ := ldrop_cons (0 : Int) h0 h
    cases m with
    | nil =>
      have := ldrop_nil h0 h'
      omega
    | cons y m =>
      obtain ⟨p', q', c', e'⟩ := ldrop_cons (0 : Int) h0 h'
      have this := ih (i + 1) m (by omega) c c'
      have hq : rd a i = x := q
      have hq' : rd b i = y := q'
      refine Ev.step (fun _ => spec_l02Same.l0.eq_2 ..) (Ev.pos p (Ev.pos h0 (Ev.pos p (Ev.pos p' ?_))))
      rw [hq, hq', w64 (n := i + 1) (by omega) (by omega), allEq]
      by_cases hxy : x = y
      · rw [show intEq x y = true from decide_eq_true hxy, Bool.true_and]
        exact Ev.pos hxy this
      · rw [show intEq x y = false from decide_eq_false hxy, Bool.false_and]
        exact Ev.neg hxy (Ev.now _)
theorem spec_l02Same_f (a b : List Int) (ha : a.length ≤ 1048576) : Ev (fun k => spec_l02Same.f k a b) (allEq intEq a b) := by
  unfold spec_l02Same.f
  by_cases h : (a.length : Int) = (b.length : Int)
  · exact Ev.pos h (spec_l02Same_l a b ha (by omega) a 0 b (by omega) rfl rfl)
  · rw [allEq_len a b (by omega)]
    exact Ev.neg h (Ev.now _)

def aclEq (x y : S43) : Bool := decide (x.f0 = y.f0 ∧ x.f1 = y.f1 ∧ x.f2 = y.f2)
theorem aclEq_refl (x : S43) : aclEq x x = true := decide_eq_true ⟨rfl, rfl, rfl⟩
theorem aclEq_cond (x y : S43) : ((!(x.f0 == y.f0) || (!(x.f1 == y.f1) || !(x.f2 == y.f2))) = true) ↔ ¬ (aclEq x y = true) := by
  unfold aclEq
  simp only [Bool.or_eq_true, Bool.not_eq_true', beq_eq_false_iff_ne, decide_eq_true_eq, ne_eq]
  omega

theorem spec_l05Same_l (a b : List S43) (ha : a.length ≤ 1048576) (hab : a.length = b.length) (l : List S43) : ∀ (i : Int) (m : List S43), 0 ≤ i → a.drop i.toNat = l → b.drop i.toNat = m → Ev (fun k => spec_l05Same.l0 k b a (a.length : Int) i) (allEq aclEq l m) := by
  induction l with
  | nil =>
    intro i m h0 h h'
    have h1 := ldrop_nil h0 h
    have hm : m = [] := by rw [← h']; exact List.drop_eq_nil_of_le (by omega)
    rw [hm]
    exact Ev.step (fun _ => spec_l05Same.l0.eq_2 ..) (Ev.neg (by omega) (Ev.now _))
  | cons x l ih =>
    intro i m h0 h h'
    obtain ⟨p, q, c, e⟩ := ldrop_cons z43 h0 h
    cases m with
    | nil =>
      have := ldrop_nil h0 h'
      omega
    | cons y m =>
      obtain ⟨p', q', c', e'⟩ := ldrop_cons z43 h0 h'
      have this := ih (i + 1) m (by omega) c c'
      have hq : rd_T43 a i = x := q
      have hq' : rd_T43 b i = y := q'
      refine Ev.step (fun _ => spec_l05Same.l0.eq_2 ..) (Ev.pos p (Ev.pos h0 (Ev.pos p (Ev.pos p' ?_))))
      rw [hq, hq', w64 (n := i + 1) (by omega) (by omega), allEq]
      by_cases hxy : aclEq x y = true
      · rw [hxy, Bool.true_and]
        exact Ev.neg (fun h => (aclEq_cond x y).1 h hxy) this
      · rw [show aclEq x y = false by simpa using hxy, Bool.false_and]
        exact Ev.pos ((aclEq_cond x y).2 hxy) (Ev.now _)
theorem spec_l05Same_f (a b : List S43) (ha : a.length ≤ 1048576) : Ev (fun k => spec_l05Same.f k a b) (allEq aclEq a b) := by
  unfold spec_l05Same.f
  by_cases h : (a.length : Int) = (b.length : Int)
  · exact Ev.pos h (spec_l05Same_l a b ha (by omega) a 0 b (by omega) rfl rfl)
  · rw [allEq_len a b (by omega)]
    exact Ev.neg h (Ev.now _)

theorem slices_Equal_int_int_l (a b : List Int) (ha : a.length ≤ 1048576) (hab : a.length = b.length) (l : List Int) : ∀ (i : Int) (m : List Int), 0 ≤ i → a.drop i.toNat = l → b.drop i.toNat = m → Ev (fun k => slices_Equal_int_int.l0 k a b (a.length : Int) i) (allEq intEq l m) := by
  induction l with
  | nil =>
    intro i m h0 h h'
    have h1 := ldrop_nil h0 h
    have hm : m = [] := by rw [← h']; exact List.drop_eq_nil_of_le (by omega)
    rw [hm]
    exact Ev.step (fun _ => slices_Equal_int_int.l0.eq_2 ..) (Ev.neg (by omega) (Ev.now _))
  | cons x l ih =>
    intro i m h0 h h'
    obtain ⟨p, q, c, e⟩ := ldrop_cons (0 : Int) h0 h
    cases m with
    | nil =>
      have := ldrop_nil h0 h'
      omega
    | cons y m =>
      obtain ⟨p', q', c', e'⟩ := ldrop_cons (0 : Int) h0 h'
      have this := ih (i + 1) m (by omega) c c'
      have hq : rd a i = x := q
      have hq' : rd b i = y := q'
      refine Ev.step (fun _ => slices_Equal_int_int.l0.eq_2 ..) (Ev.pos p (Ev.pos h0 (Ev.pos p (Ev.pos p' ?_))))
      rw [hq, hq', w64 (n := i + 1) (by omega) (by omega), allEq]
      by_cases hxy : x = y
      · rw [show intEq x y = true from decide_eq_true hxy, Bool.true_and]
        exact Ev.pos hxy this
      · rw [show intEq x y = false from decide_eq_false hxy, Bool.false_and]
        exact Ev.neg hxy (Ev.now _)
theorem slices_Equal_int_int_f (a b : List Int) (ha : a.length ≤ 1048576) : Ev (fun k => slices_Equal_int_int.f k a b) (allEq intEq a b) := by
  unfold slices_Equal_int_int.f
  by_cases h : (a.length : Int) = (b.length : Int)
  · exact Ev.pos h (slices_Equal_int_int_l a b ha (by omega) a 0 b (by omega) rfl rfl)
  · rw [allEq_len a b (by omega)]
    exact Ev.neg h (Ev.now _)

theorem impl_AclEntry_l (a b : List S43) (ha : a.length ≤ 1048576) (hab : a.length = b.length) (l : List S43) : ∀ (i : Int) (m : List S43), 0 ≤ i → a.drop i.toNat = l → b.drop i.toNat = m → Ev (fun k => impl_AclEntry.l0 k a b (a.length : Int) i) (allEq aclEq l m) := by
  induction l with
  | nil =>
    intro i m h0 h h'
    have h1 := ldrop_nil h0 h
    have hm : m = [] := by rw [← h']; exact List.drop_eq_nil_of_le (by omega)
    rw [hm]
    exact Ev.step (fun _ => impl_AclEntry.l0.eq_2 ..) (Ev.neg (by omega) (Ev.now _))
  | cons x l ih =>
    intro i m h0 h h'
    obtain ⟨p, q, c, e⟩ := ldrop_cons z43 h0 h
    cases m with
    | nil =>
      have := ldrop_nil h0 h'
      omega
    | cons y m =>
      obtain ⟨p', q', c', e'⟩ := ldrop_cons z43 h0 h'
      have this := ih (i + 1) m (by omega) c c'
      have hq : rd_T43 a i = x := q
      have hq' : rd_T43 b i = y := q'
      refine Ev.step (fun _ => impl_AclEntry.l0.eq_2 ..) (Ev.pos p (Ev.pos h0 (Ev.pos p (Ev.pos p' ?_))))
      rw [hq, hq', w64 (n := i + 1) (by omega) (by omega), allEq]
      by_cases hxy : aclEq x y = true
      · rw [hxy, Bool.true_and]
        exact Ev.neg (fun h => (aclEq_cond x y).1 h hxy) this
      · rw [show aclEq x y = false by simpa using hxy, Bool.false_and]
        exact Ev.pos ((aclEq_cond x y).2 hxy) (Ev.now _)
theorem impl_AclEntry_f (a b : List S43) (ha : a.length ≤ 1048576) : Ev (fun k => impl_AclEntry.f k a b) (allEq aclEq a b) := by
  unfold impl_AclEntry.f
  by_cases h : (a.length : Int) = (b.length : Int)
  · exact Ev.pos h (impl_AclEntry_l a b ha (by omega) a 0 b (by omega) rfl rfl)
  · rw [allEq_len a b (by omega)]
    exact Ev.neg h (Ev.now _)

def sameInodeM (a0 a1 a2 a3 a4 a5 a6 : Int) (b : List Int) (c d : List S43) (x0 x1 x2 x3 x4 x5 x6 : Int) (y : List Int) (z w : List S43) : Bool :=
  if a0 = x0 ∧ a1 = x1 ∧ a2 = x2 ∧ a3 = x3 ∧ a4 = x4 ∧ a5 = x5 ∧ a6 = x6 then (if allEq intEq b y = true then (if allEq aclEq c z = true then allEq aclEq d w else false) else false) else false
theorem sameInode_spec (a0 a1 a2 a3 a4 a5 a6 : Int) (b : List Int) (c d : List S43) (x0 x1 x2 x3 x4 x5 x6 : Int) (y : List Int) (z w : List S43) (hb : b.length ≤ 1048576) (hc : c.length ≤ 1048576) (hd : d.length ≤ 1048576) :
    Ev (fun k => spec_SameInode.f k a0 a1 a2 a3 a4 a5 a6 b c d x0 x1 x2 x3 x4 x5 x6 y z w) (sameInodeM a0 a1 a2 a3 a4 a5 a6 b c d x0 x1 x2 x3 x4 x5 x6 y z w) := by
  unfold spec_SameInode.f
  refine Ev.bind (spec_l02Same_f b y hb) (Ev.bind (spec_l05Same_f c z hc) (Ev.bind (spec_l05Same_f d w hd) (Ev.ofEq (congrArg some ?_))))
  unfold sameInodeM
  by_cases h : a0 = x0 ∧ a1 = x1 ∧ a2 = x2 ∧ a3 = x3 ∧ a4 = x4 ∧ a5 = x5 ∧ a6 = x6
  · rw [if_pos h]
    obtain ⟨rfl, rfl, rfl, rfl, rfl, rfl, rfl⟩ := h
    simp only [bne_self_eq_false]
    cases allEq intEq b y <;> cases allEq aclEq c z <;> simp
  · rw [if_neg h, show (a0 != x0 || a1 != x1 || a2 != x2 || a3 != x3 || a4 != x4 || a5 != x5 || a6 != x6) = true by simp only [Bool.or_eq_true, bne_iff_ne]; omega]
    rfl
theorem sameInode_impl (a0 a1 a2 a3 a4 a5 a6 : Int) (b : List Int) (c d : List S43) (x0 x1 x2 x3 x4 x5 x6 : Int) (y : List Int) (z w : List S43) (hb : b.length ≤ 1048576) (hc : c.length ≤ 1048576) (hd : d.length ≤ 1048576) :
    Ev (fun k => impl_SameInode.f k a0 a1 a2 a3 a4 a5 a6 b c d x0 x1 x2 x3 x4 x5 x6 y z w) (sameInodeM a0 a1 a2 a3 a4 a5 a6 b c d x0 x1 x2 x3 x4 x5 x6 y z w) := by
  unfold impl_SameInode.f
  refine Ev.bind (slices_Equal_int_int_f b y hb) (Ev.bind (impl_AclEntry_f c z hc) (Ev.bind (impl_AclEntry_f d w hd) (Ev.ofEq (congrArg some ?_))))
  unfold sameInodeM
  by_cases h : a0 = x0 ∧ a1 = x1 ∧ a2 = x2 ∧ a3 = x3 ∧ a4 = x4 ∧ a5 = x5 ∧ a6 = x6
  · rw [if_pos h]
    obtain ⟨rfl, rfl, rfl, rfl, rfl, rfl, rfl⟩ := h
    simp only [BEq.rfl]
    cases allEq intEq b y <;> cases allEq aclEq c z <;> simp
  · rw [if_neg h, show (a0 == x0 && a1 == x1 && a2 == x2 && a3 == x3 && a4 == x4 && a5 == x5 && a6 == x6) = false by
      rw [Bool.eq_false_iff]
      intro e
      simp only [Bool.and_eq_true, beq_iff_eq] at e
      omega]
    rfl

theorem inB_not (x hi : Int) : (!Lib.inB x 0 hi) = (decide (x < 0) || decide (hi < x)) := by
  unfold Lib.inB
  by_cases h : x < 0
  · rw [if_neg (by omega), decide_eq_true h]
    rfl
  · rw [if_pos (by omega), decide_eq_false h]
    by_cases h2 : hi < x
    · rw [decide_eq_true h2, decide_eq_false (by omega)]
      rfl
    · rw [decide_eq_false h2, decide_eq_true (by omega)]
      rfl
theorem blk_same : ∀ (l pre : List Int), Lib.blkS pre l = Lib.blkFrom pre l
  | [], _ => rfl
  | b :: l, pre => by
    unfold Lib.blkS Lib.blkFrom
    rw [blk_same l]
    congr 1
    by_cases h : b = -1
    · subst h
      rfl
    · have e : Lib.inB b (-1) 999 = Lib.inB b 0 999 := by
        unfold Lib.inB
        by_cases h2 : 0 ≤ b
        · rw [if_pos (by omega), if_pos (by omega)]
        · rw [if_neg (by omega), if_neg (by omega)]
      rw [e, show (b == -1) = false from beq_eq_false_iff_ne.mpr h, show (b != -1) = true from bne_iff_ne.mpr h, Bool.true_and, Bool.false_or]
theorem chain_same (k a1 a2 a3 a4 a5 a6 n nd : Int) (t8 t9 B : Bool) (hnd : 0 ≤ nd) (h12 : k = 1 ∨ k = 2) :
    (!Lib.chainS k a1 a2 a3 a4 a5 a6 n && (B && (!Lib.tailS k a1 nd && (t8 && t9)))) = (!Lib.chainI a1 a2 a3 a4 a5 a6 n t8 t9 && (B && Lib.tailI k a1 nd)) := by
  have hk : (k != 1 && k != 2) = false := by rcases h12 with h | h <;> subst h <;> rfl
  have ht : Lib.tailI k a1 nd = !Lib.tailS k a1 nd := by
    unfold Lib.tailI Lib.tailS
    rcases h12 with h | h
    · subst h
      rw [show ((1 : Int) == 2) = false from rfl, show ((1 : Int) == 1) = true from rfl, Bool.false_or, Bool.true_and, Bool.not_or]
      congr 1
      · by_cases h0 : nd = 0
        · subst h0
          rfl
        · rw [show (nd == 0) = false from beq_eq_false_iff_ne.mpr h0, decide_eq_true (show 0 < nd by omega)]
          rfl
      · rw [bne, Bool.not_not]
    · subst h
      rfl
  unfold Lib.chainS Lib.chainI
  rw [hk, ht, inB_not a4, inB_not a5, inB_not a6]
  simp only [Bool.false_or, Bool.not_or, Bool.not_not]
  ac_rfl
theorem isInode_both (a0 a1 a2 a3 a4 a5 a6 : Int) (b : List Int) (c d : List S43) (hb : b.length ≤ 1048576) (hc : c.length ≤ 1048576) (hd : d.length ≤ 1048576) :
    ∃ r, Ev (fun k => spec_IsInode.f k a0 a1 a2 a3 a4 a5 a6 b c d) r ∧ Ev (fun k => impl_IsInode.f k a0 a1 a2 a3 a4 a5 a6 b c d) r := by
  unfold spec_IsInode.f impl_IsInode.f
  by_cases h0 : a0 = 0
  · exact ⟨_, Ev.pos h0 (sameInode_spec a0 a1 a2 a3 a4 a5 a6 b c d 0 0 0 0 0 0 0 [] [] [] hb hc hd), Ev.pos h0 (sameInode_impl a0 a1 a2 a3 a4 a5 a6 b c d 0 0 0 0 0 0 0 [] [] [] hb hc hd)⟩
  · have s1 := isAcl_spec c hc
    have s2 := isAcl_spec d hd
    have g1 := isAcl_impl c hc
    have g2 := isAcl_impl d hd
    by_cases h12 : a0 = 1 ∨ a0 = 2
    · refine ⟨_, Ev.neg h0 (Ev.bind s1 (Ev.bind s2 (Ev.pos (by omega) (Ev.now _)))), Ev.neg h0 (Ev.pos h12 (Ev.bind g1 (Ev.bind g2 (Ev.pos (by omega) ?_))))⟩
      rw [chain_same _ _ _ _ _ _ _ _ _ _ _ _ (by omega) h12, blk_same]
      exact Ev.now _
    · refine ⟨false, Ev.neg h0 (Ev.bind s1 (Ev.bind s2 (Ev.pos (by omega) ?_))), Ev.neg h0 (Ev.neg h12 (Ev.now _))⟩
      have e : Lib.chainS a0 a1 a2 a3 a4 a5 a6 (b.length : Int) = true := by
        unfold Lib.chainS
        rw [show (a0 != 1) = true from bne_iff_ne.mpr (by omega), show (a0 != 2) = true from bne_iff_ne.mpr (by omega)]
        simp
      rw [e]
      exact Ev.now _

theorem wrap_le (z : Int) : wrap64 z ≤ 9223372036854775807 := by unfold wrap64; omega
theorem put_zero2 : (putNumber ((-1) + 1) 2).size = 2 := by decide +kernel
theorem packInode_lx (a0 a1 a2 a3 a4 a5 a6 : Int) (b : List Int) (c d : List S43) (hb : b.length ≤ 1048576) (hc : c.length ≤ 1048576) (hd : d.length ≤ 1048576) (hcs : aclSmall c) (hds : aclSmall d) (hbv : ∀ v, v ∈ b → (putNumber (wrap64 (v + 1)) 2).size = 2) (X Y : ByteArray) (hX : Ev (fun k => impl_PackAcl.f k c) X) (hY : Ev (fun k => impl_PackAcl.f k d) Y) (n : Nat) : ∀ (i : Int) (s : ByteArray), 0 ≤ i → i + n = 8 → (s.size : Int) ≤ 100 + 6 * i →
    ∃ r t m, Ev (fun k => spec_PackInode.l0 k s i a0 a1 a2 a3 a4 a5 a6 b c d) r ∧ Ev (fun k => impl_PackInode.l0 k s i a0 a1 a2 a3 a4 a5 a6 b c d) r ∧ t.length = 2 * n ∧ bytesOf r = bytesOf s ++ (t ++ (bytesOf X ++ (bytesOf Y ++ m))) := by
  induction n with
  | zero =>
    intro i s h0 hi hs
    obtain ⟨x, x1, x2, _, x4⟩ := packAcl_front c hc hcs
    obtain ⟨y, y1, y2, _, y4⟩ := packAcl_front d hd hds
    have ex := Ev.uniq x2 hX
    have ey := Ev.uniq y2 hY
    subst ex
    subst ey
    have z1 := ba_size_append s x
    have z2 := ba_size_append (s ++ x) y
    obtain ⟨r, m, p1, p2, p3, _⟩ := padTo_front (s ++ x ++ y) 96 (by omega) (by omega)
    exact ⟨r, [], m, Ev.step (fun _ => spec_PackInode.l0.eq_2 ..) (Ev.neg (by omega) (Ev.bind x1 (Ev.pos (by omega) (Ev.bind y1 (Ev.pos (by omega) (Ev.bind p1 (Ev.now _))))))), Ev.step (fun _ => impl_PackInode.l0.eq_2 ..) (Ev.neg (by omega) (Ev.bind x2 (Ev.pos (by omega) (Ev.bind y2 (Ev.pos (by omega) (Ev.bind0 p2 (Ev.now _))))))), rfl, by rw [p3, bytesOf_append, bytesOf_append, List.nil_append, List.append_assoc, List.append_assoc]⟩
  | succ n ih =>
    intro i s h0 hi hs
    by_cases hl : i < (b.length : Int)
    · have hv : (putNumber (wrap64 (rd b i + 1)) 2).size = 2 := hbv _ (by
        show b.getD i.toNat 0 ∈ b
        rw [List.getD_eq_getElem?_getD, List.getElem?_eq_getElem (by omega)]
        exact List.getElem_mem _)
      have z1 := ba_size_append s (putNumber (wrap64 (rd b i + 1)) 2)
      obtain ⟨r, t, m, p1, p2, p3, p4⟩ := ih (i + 1) (s ++ putNumber (wrap64 (rd b i + 1)) 2) (by omega) (by omega) (by omega)
      refine ⟨r, bytesOf (putNumber (wrap64 (rd b i + 1)) 2) ++ t, m, Ev.step (fun _ => spec_PackInode.l0.eq_2 ..) (Ev.pos (by omega) (Ev.pos hl (Ev.pos h0 (Ev.bind (putNumber_spec _ 2 (wrap_le _)) (Ev.pos (by omega) ?_))))), Ev.step (fun _ => impl_PackInode.l0.eq_2 ..) (Ev.pos (by omega) (Ev.pos hl (Ev.pos h0 (Ev.bind (putNumber_impl _ 2 (wrap_le _)) (Ev.pos (by omega) ?_))))), by rw [List.length_append, bytesOf_length]; omega, by rw [p4, bytesOf_append]; simp only [List.append_assoc]⟩
      · rw [w64 (n := i + 1) (by omega) (by omega)]
        exact p1
      · rw [w64 (n := i + 1) (by omega) (by omega)]
        exact p2
    · have hv := put_zero2
      have z1 := ba_size_append s (putNumber ((-1) + 1) 2)
      obtain ⟨r, t, m, p1, p2, p3, p4⟩ := ih (i + 1) (s ++ putNumber ((-1) + 1) 2) (by omega) (by omega) (by omega)
      refine ⟨r, bytesOf (putNumber ((-1) + 1) 2) ++ t, m, Ev.step (fun _ => spec_PackInode.l0.eq_2 ..) (Ev.pos (by omega) (Ev.neg hl (Ev.bind (putNumber_spec _ 2 (by decide)) (Ev.pos (by omega) ?_)))), Ev.step (fun _ => impl_PackInode.l0.eq_2 ..) (Ev.pos (by omega) (Ev.neg hl (Ev.bind (putNumber_impl _ 2 (by decide)) (Ev.pos (by omega) ?_)))), by rw [List.length_append, bytesOf_length]; omega, by rw [p4, bytesOf_append]; simp only [List.append_assoc]⟩
      · rw [w64 (n := i + 1) (by omega) (by omega)]
        exact p1
      · rw [w64 (n := i + 1) (by omega) (by omega)]
        exact p2
def intSmall (a : Int) : Prop := a ≤ 9223372036854775807
/-- What PackInode makes of numbers of their width: nothing, or 29 bytes, the two lists, and the rest. -/
theorem packInode_x (a0 a1 a2 a3 a4 a5 a6 : Int) (b : List Int) (c d : List S43) (h0 : intSmall a0) (h1 : intSmall a1) (h2 : intSmall a2) (h3 : intSmall a3) (h4 : intSmall a4) (h5 : intSmall a5) (h6 : intSmall a6) (hb : b.length ≤ 1048576) (hc : c.length ≤ 1048576) (hd : d.length ≤ 1048576) (hcs : aclSmall c) (hds : aclSmall d)
    (z0 : (putNumber a0 1).size = 1) (z1 : (putNumber a1 2).size = 2) (z2 : (putNumber a2 1).size = 1) (z3 : (putNumber a3 1).size = 1) (z4 : (putNumber a4 2).size = 2) (z5 : (putNumber a5 2).size = 2) (z6 : (putNumber a6 4).size = 4)
    (hbv : ∀ v, v ∈ b → (putNumber (wrap64 (v + 1)) 2).size = 2) (X Y : ByteArray) (hX : Ev (fun k => impl_PackAcl.f k c) X) (hY : Ev (fun k => impl_PackAcl.f k d) Y) :
    ∃ r, Ev (fun k => spec_PackInode.f k a0 a1 a2 a3 a4 a5 a6 b c d) r ∧ Ev (fun k => impl_PackInode.f k a0 a1 a2 a3 a4 a5 a6 b c d) r ∧ (r = ⟨#[]⟩ ∨ ∃ t m, t.length = 29 ∧ bytesOf r = t ++ (bytesOf X ++ (bytesOf Y ++ m))) := by
  unfold spec_PackInode.f impl_PackInode.f
  obtain ⟨t, t1, t2⟩ := isInode_both a0 a1 a2 a3 a4 a5 a6 b c d hb hc hd
  cases t with
  | false => exact ⟨_, Ev.bind t1 (Ev.neg (by decide) (Ev.now _)), Ev.bind t2 (Ev.neg (by decide) (Ev.now _)), Or.inl rfl⟩
  | true =>
    have y1 := ba_size_append (putNumber a0 1) (putNumber a1 2)
    have y2 := ba_size_append (putNumber a0 1 ++ putNumber a1 2) (putNumber a2 1)
    have y3 := ba_size_append (putNumber a0 1 ++ putNumber a1 2 ++ putNumber a2 1) (putNumber a3 1)
    have y4 := ba_size_append (putNumber a0 1 ++ putNumber a1 2 ++ putNumber a2 1 ++ putNumber a3 1) (putNumber a4 2)
    have y5 := ba_size_append (putNumber a0 1 ++ putNumber a1 2 ++ putNumber a2 1 ++ putNumber a3 1 ++ putNumber a4 2) (putNumber a5 2)
    have y6 := ba_size_append (putNumber a0 1 ++ putNumber a1 2 ++ putNumber a2 1 ++ putNumber a3 1 ++ putNumber a4 2 ++ putNumber a5 2) (putNumber a6 4)
    obtain ⟨r, t, m, p1, p2, p3, p4⟩ := packInode_lx a0 a1 a2 a3 a4 a5 a6 b c d hb hc hd hcs hds hbv X Y hX hY 8 0 (putNumber a0 1 ++ putNumber a1 2 ++ putNumber a2 1 ++ putNumber a3 1 ++ putNumber a4 2 ++ putNumber a5 2 ++ putNumber a6 4) (by omega) (by omega) (by omega)
    exact ⟨r, Ev.bind t1 (Ev.pos rfl (Ev.bind (putNumber_spec a0 1 h0) (Ev.bind (putNumber_spec a1 2 h1) (Ev.pos (by omega) (Ev.bind (putNumber_spec a2 1 h2) (Ev.pos (by omega) (Ev.bind (putNumber_spec a3 1 h3) (Ev.pos (by omega) (Ev.bind (putNumber_spec a4 2 h4) (Ev.pos (by omega) (Ev.bind (putNumber_spec a5 2 h5) (Ev.pos (by omega) (Ev.bind (putNumber_spec a6 4 h6) (Ev.pos (by omega) p1)))))))))))))),
      Ev.bind t2 (Ev.pos rfl (Ev.bind (putNumber_impl a0 1 h0) (Ev.bind (putNumber_impl a1 2 h1) (Ev.pos (by omega) (Ev.bind (putNumber_impl a2 1 h2) (Ev.pos (by omega) (Ev.bind (putNumber_impl a3 1 h3) (Ev.pos (by omega) (Ev.bind (putNumber_impl a4 2 h4) (Ev.pos (by omega) (Ev.bind (putNumber_impl a5 2 h5) (Ev.pos (by omega) (Ev.bind (putNumber_impl a6 4 h6) (Ev.pos (by omega) p2)))))))))))))),
      Or.inr ⟨bytesOf (putNumber a0 1 ++ putNumber a1 2 ++ putNumber a2 1 ++ putNumber a3 1 ++ putNumber a4 2 ++ putNumber a5 2 ++ putNumber a6 4) ++ t, m, by rw [List.length_append, bytesOf_length]; omega, by rw [p4, List.append_assoc]⟩⟩

theorem num256_lt : ∀ (l : List Int) (n : Int), (∀ x, x ∈ l → 0 ≤ x ∧ x ≤ 255) → 0 ≤ n → 0 ≤ num256 l n ∧ num256 l n < (n + 1) * 256 ^ l.length
  | [], n, _, h0 => ⟨h0, by rw [num256, List.length_nil, Int.pow_zero, Int.mul_one]; omega⟩
  | x :: l, n, h, h0 => by
    have hx := h x (List.mem_cons_self ..)
    obtain ⟨p, q⟩ := num256_lt l (256 * n + x) (fun y hy => h y (List.mem_cons_of_mem _ hy)) (by omega)
    refine ⟨p, Int.lt_of_lt_of_le q ?_⟩
    rw [List.length_cons, Int.pow_succ, Int.mul_comm (256 ^ l.length) 256, ← Int.mul_assoc]
    exact Int.mul_le_mul_of_nonneg_right (by omega) (Int.le_of_lt (Int.pow_pos (by decide)))
theorem getNumber_range (s : ByteArray) (a w : Int) (hw : 1 ≤ w ∧ w ≤ 6) : 0 ≤ (getNumber s a w).1 ∧ (getNumber s a w).1 < 256 ^ w.toNat := by
  unfold getNumber
  split
  · rename_i h
    have hl : (((bytesOf s).drop a.toNat).take w.toNat).length = w.toNat := by
      rw [List.length_take, List.length_drop, bytesOf_length]
      omega
    have := num256_lt (((bytesOf s).drop a.toNat).take w.toNat) 0 (fun x hx => bytesOf_range (List.mem_of_mem_drop (List.mem_of_mem_take hx))) (by omega)
    rw [hl, Int.zero_add, Int.one_mul] at this
    exact this
  · exact ⟨Int.le_refl _, Int.pow_pos (by decide)⟩
theorem put_size {n w : Int} (hw : 1 ≤ w ∧ w ≤ 6) (h : 0 ≤ n ∧ n < 256 ^ w.toNat) : (putNumber n w).size = w.toNat := by
  unfold putNumber
  rw [if_pos ⟨hw.1, hw.2, h.1, h.2⟩, strOfNums_size, putL_length]
theorem need_specX (a : Int) : spec_BlocksNeeded.f a = some (Lib.needB a) := by
  unfold spec_BlocksNeeded.f Lib.needB
  by_cases h : a ≤ 0
  · rw [if_pos h, if_pos h]
  · rw [if_neg h, if_neg h]
theorem blk_skip (s : ByteArray) (hs : s.size = 96) (size : Int) : ∀ (l : List Nat) (acc : List Int), (∀ i, i ∈ l → ¬ ((i : Nat) : Int) < Lib.needB size ∧ i < 8) → Ev (fun k => impl_UnpackInode.blk k s size l acc) acc
  | [], acc, _ => Ev.now _
  | i :: l, acc, h => by
    obtain ⟨h1, h2⟩ := h i (List.mem_cons_self ..)
    have := blk_skip s hs size l acc (fun j hj => h j (List.mem_cons_of_mem _ hj))
    unfold impl_UnpackInode.blk
    refine Ev.bind (getNumber_impl (by omega) (13 + 2 * (i : Int)) 2 (by omega)) ?_
    rw [if_neg h1]
    exact this
theorem unpack_blk (s : ByteArray) (hs : s.size = 96) (a0 a1 a2 a3 a4 a5 a6 : Int) (n : Nat) : ∀ (i : Nat) (acc : List Int), i + n = 8 → acc.length ≤ i → (∀ v, v ∈ acc → (putNumber (wrap64 (v + 1)) 2).size = 2) →
    ∃ b : List Int, b.length ≤ 8 ∧ (∀ v, v ∈ b → (putNumber (wrap64 (v + 1)) 2).size = 2) ∧ (∀ r, Ev (fun k => spec_UnpackInode.j1 k s a0 a1 a2 a3 a4 a5 a6 b) r → Ev (fun k => spec_UnpackInode.l0 k s (i : Int) a0 a1 a2 a3 a4 a5 a6 acc) r) ∧ Ev (fun k => impl_UnpackInode.blk k s a5 (List.range' i n) acc) b := by
  induction n with
  | zero =>
    intro i acc hi ha hv
    refine ⟨acc, by omega, hv, fun r hr => Ev.step (fun _ => spec_UnpackInode.l0.eq_2 ..) (Ev.bind0 (need_specX a5) ?_), Ev.now _⟩
    by_cases h : (i : Int) < Lib.needB a5
    · exact Ev.pos h (Ev.neg (by omega) hr)
    · exact Ev.neg h hr
  | succ n ih =>
    intro i acc hi ha hv
    by_cases h : (i : Int) < Lib.needB a5
    · have g := getNumber_range s (13 + 2 * (i : Int)) 2 (by omega)
      have e256 : (256 : Int) ^ (2 : Int).toNat = 65536 := by decide
      rw [e256] at g
      have w1 : wrap64 ((getNumber s (13 + 2 * (i : Int)) 2).1 - 1) = (getNumber s (13 + 2 * (i : Int)) 2).1 - 1 := w64 (by omega) (by omega)
      obtain ⟨b, b1, b2, b3, b4⟩ := ih (i + 1) (acc ++ [wrap64 ((getNumber s (13 + 2 * (i : Int)) 2).1 - 1)]) (by omega) (by rw [List.length_append, List.length_singleton]; omega) (by
        intro v hx
        rcases List.mem_append.1 hx with h | h
        · exact hv v h
        · rw [List.mem_singleton.1 h, w1, show (getNumber s (13 + 2 * (i : Int)) 2).1 - 1 + 1 = (getNumber s (13 + 2 * (i : Int)) 2).1 by omega, w64 (by omega) (by omega)]
          exact put_size (by omega) (by rw [e256]; exact g))
      refine ⟨b, b1, b2, fun r hr => Ev.step (fun _ => spec_UnpackInode.l0.eq_2 ..) (Ev.bind0 (need_specX a5) (Ev.pos h (Ev.pos (by omega) ?_))), ?_⟩
      · rw [w64 (n := 2 * (i : Int)) (by omega) (by omega), w64 (n := 13 + 2 * (i : Int)) (by omega) (by omega), w64 (n := (i : Int) + 1) (by omega) (by omega)]
        exact Ev.bind (getNumber_spec (by omega) (13 + 2 * (i : Int)) 2 (by omega)) (Ev.pos (by omega) (b3 r hr))
      · rw [show List.range' i (n + 1) = i :: List.range' (i + 1) n from rfl]
        unfold impl_UnpackInode.blk
        refine Ev.bind (getNumber_impl (by omega) (13 + 2 * (i : Int)) 2 (by omega)) ?_
        rw [if_pos h]
        exact b4
    · refine ⟨acc, by omega, hv, fun r hr => Ev.step (fun _ => spec_UnpackInode.l0.eq_2 ..) (Ev.bind0 (need_specX a5) (Ev.neg h hr)), blk_skip s hs a5 _ acc ?_⟩
      intro j hj
      have := List.mem_range'_1.1 hj
      exact ⟨by omega, by omega⟩
theorem extract_of {s X : ByteArray} {t m : List Int} {a b : Nat} (ht : t.length = a) (hX : a + X.size = b) (h : bytesOf s = t ++ (bytesOf X ++ m)) : X = s.extract a b := by
  apply bytesOf_inj
  rw [bytesOf_extract, h, ← List.append_assoc, List.take_append_of_le_length (by rw [List.length_append, bytesOf_length]; omega), List.take_of_length_le (by rw [List.length_append, bytesOf_length]; omega), List.drop_append_of_le_length (by omega), List.drop_of_length_le (by omega), List.nil_append]
theorem unpackInode_both (s : ByteArray) : ∃ (r0 r1 r2 r3 r4 r5 r6 : Int) (b : List Int) (c d : List S43) (t : Bool), Ev (fun k => spec_UnpackInode.f k s) (r0, r1, r2, r3, r4, r5, r6, b, c, d, t) ∧ Ev (fun k => impl_UnpackInode.f k s) (r0, r1, r2, r3, r4, r5, r6, b, c, d, t) ∧ b.length ≤ 8 ∧ c.length ≤ 6 ∧ d.length ≤ 6 := by
  unfold spec_UnpackInode.f impl_UnpackInode.f
  by_cases hs : s.size = 96
  rotate_left
  · exact ⟨0, 0, 0, 0, 0, 0, 0, [], [], [], false, Ev.neg (by omega) (Ev.now _), Ev.neg hs (Ev.now _), Nat.zero_le _, Nat.zero_le _, Nat.zero_le _⟩
  have G := fun a w hw => getNumber_range s a w hw
  have g0 := G 0 1 (by omega)
  have g1 := G 1 2 (by omega)
  have g2 := G 3 1 (by omega)
  have g3 := G 4 1 (by omega)
  have g4 := G 5 2 (by omega)
  have g5 := G 7 2 (by omega)
  have g6 := G 9 4 (by omega)
  have e1 : (256 : Int) ^ (1 : Int).toNat = 256 := by decide
  have e2 : (256 : Int) ^ (2 : Int).toNat = 65536 := by decide
  have e4 : (256 : Int) ^ (4 : Int).toNat = 4294967296 := by decide
  have z0 := put_size (by omega) g0
  have z1 := put_size (by omega) g1
  have z2 := put_size (by omega) g2
  have z3 := put_size (by omega) g3
  have z4 := put_size (by omega) g4
  have z5 := put_size (by omega) g5
  have z6 := put_size (by omega) g6
  rw [e1] at g0 g2 g3
  rw [e2] at g1 g4 g5
  rw [e4] at g6
  obtain ⟨b, b1, b2, b3, b4⟩ := unpack_blk s hs (getNumber s 0 1).1 (getNumber s 1 2).1 (getNumber s 3 1).1 (getNumber s 4 1).1 (getNumber s 5 2).1 (getNumber s 7 2).1 (getNumber s 9 4).1 8 0 [] (by omega) (by simp) (fun v h => by cases h)
  obtain ⟨x, X, x1, x2, x3, x4, x5, x6, x7⟩ := unpackAcl_x (s.extract 29 48) (by rw [ByteArray.size_extract]; omega)
  obtain ⟨y, Y, y1, y2, y3, y4, y5, y6, y7⟩ := unpackAcl_x (s.extract 48 67) (by rw [ByteArray.size_extract]; omega)
  obtain ⟨p, p1, p2, p3⟩ := packInode_x (getNumber s 0 1).1 (getNumber s 1 2).1 (getNumber s 3 1).1 (getNumber s 4 1).1 (getNumber s 5 2).1 (getNumber s 7 2).1 (getNumber s 9 4).1 b x.1 y.1 (by unfold intSmall; omega) (by unfold intSmall; omega) (by unfold intSmall; omega) (by unfold intSmall; omega) (by unfold intSmall; omega) (by unfold intSmall; omega) (by unfold intSmall; omega) (by omega) (by omega) (by omega) x4 y4 z0 z1 z2 z3 z4 z5 z6 b2 X Y x5 y5
  have hm : s.size ≤ 140737488351232 := by omega
  by_cases hp : p = s
  · have hne : ¬ p = ⟨#[]⟩ := by
      intro h
      rw [← hp, h] at hs
      exact absurd hs (by decide)
    obtain ⟨t, m, q1, q2⟩ := p3.resolve_left hne
    have kx := x7 (by rw [← hp]; exact extract_of q1 (by omega) q2)
    have ky := y7 (by rw [← hp]; exact extract_of (t := t ++ bytesOf X) (by rw [List.length_append, bytesOf_length]; omega) (by omega) (by rw [q2, List.append_assoc]))
    have hl : ¬ p.toList = ([] : List UInt8) := by
      intro h
      rw [ByteArray.toList_eq] at h
      exact hne (ba_ext h)
    have hq : p.toList = s.toList := by rw [hp]
    refine ⟨_, _, _, _, _, _, _, b, x.1, y.1, true, Ev.pos (by omega) (Ev.bind (getNumber_spec hm 0 1 (by omega)) (Ev.bind (getNumber_spec hm 1 2 (by omega)) (Ev.bind (getNumber_spec hm 3 1 (by omega)) (Ev.bind (getNumber_spec hm 4 1 (by omega)) (Ev.bind (getNumber_spec hm 5 2 (by omega)) (Ev.bind (getNumber_spec hm 7 2 (by omega)) (Ev.bind (getNumber_spec hm 9 4 (by omega)) (b3 _ (Ev.step (fun _ => spec_UnpackInode.j1.eq_2 ..) (Ev.pos (by decide) (Ev.pos (by omega) (Ev.bind x1 (Ev.pos (by decide) (Ev.pos (by omega) (Ev.bind y1 (Ev.bind p1 (Ev.neg hl (Ev.bind p1 (Ev.pos hq (Ev.now _)))))))))))))))))))), Ev.pos hs (Ev.bind (getNumber_impl hm 0 1 (by omega)) (Ev.bind (getNumber_impl hm 1 2 (by omega)) (Ev.bind (getNumber_impl hm 3 1 (by omega)) (Ev.bind (getNumber_impl hm 4 1 (by omega)) (Ev.bind (getNumber_impl hm 5 2 (by omega)) (Ev.bind (getNumber_impl hm 7 2 (by omega)) (Ev.bind (getNumber_impl hm 9 4 (by omega)) (Ev.bind b4 (Ev.bind x2 (Ev.bind y2 (Ev.bind p2 ?_))))))))))), by omega, by omega, by omega⟩
    rw [if_neg (by rw [kx, ky, hq]; simp)]
    exact Ev.now _
  · have hq : ¬ p.toList = s.toList := fun h => hp ((ba_eq_iff _ _).1 h)
    have I : Ev (fun k => impl_UnpackInode.f k s) (0, 0, 0, 0, 0, 0, 0, [], [], [], false) := by
      unfold impl_UnpackInode.f
      refine Ev.pos hs (Ev.bind (getNumber_impl hm 0 1 (by omega)) (Ev.bind (getNumber_impl hm 1 2 (by omega)) (Ev.bind (getNumber_impl hm 3 1 (by omega)) (Ev.bind (getNumber_impl hm 4 1 (by omega)) (Ev.bind (getNumber_impl hm 5 2 (by omega)) (Ev.bind (getNumber_impl hm 7 2 (by omega)) (Ev.bind (getNumber_impl hm 9 4 (by omega)) (Ev.bind b4 (Ev.bind x2 (Ev.bind y2 (Ev.bind p2 ?_)))))))))))
      rw [if_pos (by rw [show (p.toList != s.toList) = true from bne_iff_ne.mpr hq]; simp)]
      exact Ev.now _
    unfold impl_UnpackInode.f at I
    refine ⟨0, 0, 0, 0, 0, 0, 0, [], [], [], false, Ev.pos (by omega) (Ev.bind (getNumber_spec hm 0 1 (by omega)) (Ev.bind (getNumber_spec hm 1 2 (by omega)) (Ev.bind (getNumber_spec hm 3 1 (by omega)) (Ev.bind (getNumber_spec hm 4 1 (by omega)) (Ev.bind (getNumber_spec hm 5 2 (by omega)) (Ev.bind (getNumber_spec hm 7 2 (by omega)) (Ev.bind (getNumber_spec hm 9 4 (by omega)) (b3 _ (Ev.step (fun _ => spec_UnpackInode.j1.eq_2 ..) (Ev.pos (by decide) (Ev.pos (by omega) (Ev.bind x1 (Ev.pos (by decide) (Ev.pos (by omega) (Ev.bind y1 (Ev.bind p1 (?_))))))))))))))))), I, Nat.zero_le _, Nat.zero_le _, Nat.zero_le _⟩
    by_cases hl : p.toList = ([] : List UInt8)
    · exact Ev.pos hl (Ev.now _)
    · exact Ev.neg hl (Ev.bind p1 (Ev.neg hq (Ev.now _)))

theorem eqIntS_l (d : Nat) : ∀ (i : Int) (l : List Int), 0 ≤ i → i + d = (l.length : Int) → l.length ≤ 1048576 → Ev (fun k => laws_eqIntS.l0 k l l i) true := by
  induction d with
  | zero =>
    intro i l h0 hd hl
    exact Ev.step (fun _ => laws_eqIntS.l0.eq_2 ..) (Ev.neg (by omega) (Ev.now _))
  | succ d ih =>
    intro i l h0 hd hl
    refine Ev.step (fun _ => laws_eqIntS.l0.eq_2 ..) (Ev.pos (by omega) (Ev.pos h0 (Ev.pos (by omega) (Ev.pos rfl ?_))))
    rw [w64 (n := i + 1) (by omega) (by omega)]
    exact ih (i + 1) l (by omega) (by omega) hl
theorem eqIntS_f (l : List Int) (hl : l.length ≤ 1048576) : Ev (fun k => laws_eqIntS.f k l l) true := by
  unfold laws_eqIntS.f
  exact Ev.pos rfl (eqIntS_l l.length 0 l (by omega) (by omega) hl)

theorem markIntS_l (d : Nat) : ∀ (i k : Int) (l : List Int), 0 ≤ i → i + d = (l.length : Int) → 0 ≤ k → k + d ≤ 1152921504606846976 → (l.length : Int) ≤ 1152921504606846976 →
    ∃ l', Ev (fun n => laws_markIntS.l0 n l k i) (k + d, l') ∧ l'.length = l.length ∧ (∀ j : Nat, (j : Int) < i → l'[j]? = l[j]?) ∧ Ev (fun n => laws_heldIntS.l0 n l' k i) (k + d) := by
  induction d with
  | zero =>
    intro i k l h0 hd hk hk' hl
    refine ⟨l, ?_, rfl, fun _ _ => rfl, ?_⟩
    · rw [show k + ((0 : Nat) : Int) = k by omega]
      exact Ev.step (fun _ => laws_markIntS.l0.eq_2 ..) (Ev.neg (by omega) (Ev.now _))
    · rw [show k + ((0 : Nat) : Int) = k by omega]
      exact Ev.step (fun _ => laws_heldIntS.l0.eq_2 ..) (Ev.neg (by omega) (Ev.now _))
  | succ d ih =>
    intro i k l h0 hd hk hk' hl
    obtain ⟨l', h1, h2, h3, h4⟩ := ih (i + 1) (k + 1) (l.set i.toNat k) (by omega) (by rw [List.length_set]; omega) (by omega) (by omega) (by rw [List.length_set]; omega)
    rw [List.length_set] at h2
    rw [show k + 1 + (d : Int) = k + ((d + 1 : Nat) : Int) by omega] at h1 h4
    refine ⟨l', ?_, h2, ?_, ?_⟩
    · refine Ev.step (fun _ => laws_markIntS.l0.eq_2 ..) (Ev.pos (by omega) (Ev.pos h0 ?_))
      rw [w64 (n := k + 1) (by omega) (by omega), w64 (n := i + 1) (by omega) (by omega)]
      exact h1
    · intro j hj
      rw [h3 j (by omega), List.getElem?_set_ne (by omega)]
    · refine Ev.step (fun _ => laws_heldIntS.l0.eq_2 ..) (Ev.pos (by omega) (Ev.pos h0 (Ev.pos ?_ ?_)))
      · have := h3 i.toNat (by omega)
        rw [List.getElem?_set_self (by omega)] at this
        unfold rd
        rw [List.getD_eq_getElem?_getD, this]
        rfl
      · rw [w64 (n := k + 1) (by omega) (by omega), w64 (n := i + 1) (by omega) (by omega)]
        exact h4
theorem markIntS_ex (l : List Int) (k : Int) (hk : 0 ≤ k) (h : k + (l.length : Int) ≤ 1152921504606846976) :
    ∃ m l', Ev (fun n => laws_markIntS.f n l k) (m, l') ∧ Ev (fun n => laws_heldIntS.f n l' k) m ∧ 0 ≤ m ∧ m = k + (l.length : Int) ∧ l'.length = l.length := by
  obtain ⟨l', h1, h2, _, h4⟩ := markIntS_l l.length 0 k l (by omega) (by omega) hk h (by omega)
  exact ⟨_, l', h1, h4, by omega, rfl, h2⟩

theorem eqInode_x (a0 a1 a2 a3 a4 a5 a6 : Int) (b : List Int) (c d : List S43) (hb : b.length ≤ 1048576) (hc : c.length ≤ 1048576) (hd : d.length ≤ 1048576) :
    Ev (fun k => laws_eqInode.f k a0 a1 a2 a3 a4 a5 a6 b c d a0 a1 a2 a3 a4 a5 a6 b c d) true := by
  unfold laws_eqInode.f
  exact Ev.pos rfl (Ev.pos rfl (Ev.pos rfl (Ev.pos rfl (Ev.pos rfl (Ev.pos rfl (Ev.pos rfl (Ev.bind (eqIntS_f b hb) (Ev.pos rfl (Ev.bind (eqAclEntryS_f c hc) (Ev.pos rfl (Ev.bind (eqAclEntryS_f d hd) (Ev.pos rfl (Ev.now _)))))))))))))
theorem markHeldInode_ex (a0 a1 a2 a3 a4 a5 a6 : Int) (b : List Int) (c d : List S43) (hb : b.length ≤ 1048576) (hc : c.length ≤ 1048576) (hd : d.length ≤ 1048576) :
    ∃ m b' c' d', Ev (fun n => laws_markInode.f n a0 a1 a2 a3 a4 a5 a6 b c d 1) (m, b', c', d') ∧ 0 ≤ m ∧ Ev (fun n => laws_heldInode.f n a0 a1 a2 a3 a4 a5 a6 b' c' d' 1) m := by
  unfold laws_markInode.f laws_heldInode.f
  obtain ⟨m, b', h1, h2, h3, h4, _⟩ := markIntS_ex b 1 (by omega) (by omega)
  obtain ⟨c', h5, _, h6⟩ := markHeldAclEntryS_ex c m (by omega) (by omega)
  obtain ⟨d', h7, _, h8⟩ := markHeldAclEntryS_ex d (m + 3 * (c.length : Int)) (by omega) (by omega)
  exact ⟨_, b', c', d', Ev.bind h1 (Ev.bind h5 (Ev.bind h7 (Ev.now _))), by omega, Ev.bind h2 (Ev.neg (by omega) (Ev.bind h6 (Ev.neg (by omega) (Ev.bind h8 (Ev.neg (by omega) (Ev.now _))))))⟩

theorem FnExactUnpackInode : laws_FnExactUnpackInode.Pure := by
  intro s hs
  apply Ev.rounds
  unfold laws_FnExactUnpackInode.f
  by_cases hb : (s.size : Int) > 1048576
  · exact Ev.pos hb (Ev.now _)
  · obtain ⟨r0, r1, r2, r3, r4, r5, r6, b, c, d, t, h1, h2, lb, lc, ld⟩ := unpackInode_both s
    have he := eqInode_x r0 r1 r2 r3 r4 r5 r6 b c d (by omega) (by omega) (by omega)
    obtain ⟨m, b', c', d', m1, m2, m3⟩ := markHeldInode_ex r0 r1 r2 r3 r4 r5 r6 b c d (by omega) (by omega) (by omega)
    have e : (t != t) = false := by cases t <;> rfl
    have J1 : Ev (fun k => laws_FnExactUnpackInode.j1 k m (t != t) r0 r1 r2 r3 r4 r5 r6 b' c' d') true := by
      rw [e]
      exact Ev.step (fun _ => laws_FnExactUnpackInode.j1.eq_2 ..) (Ev.neg (by decide) (Ev.bind m3 (Ev.neg (by omega) (Ev.pos rfl (Ev.now _)))))
    refine Ev.neg hb (Ev.bind h1 (Ev.bind h2 (Ev.bind he (Ev.pos rfl ?_))))
    show Ev (fun k => laws_FnExactUnpackInode.j0 k s t (t != t) r0 r1 r2 r3 r4 r5 r6 b c d r0 r1 r2 r3 r4 r5 r6 b c d) true
    rw [e]
    exact Ev.step (fun _ => laws_FnExactUnpackInode.j0.eq_2 ..) (Ev.neg (by decide) (Ev.bind m1 (Ev.bind m3 (Ev.neg (by omega) (Ev.pos rfl (Ev.bind h2 (Ev.bind he (Ev.pos rfl J1))))))))

end Go.Proofs.Ytbgkeeaccfabaaa.Pure
