/- The law FnExactUnpackAcl holds for every input of its kind; no further condition. -/
import Derived.Test.YtmnojegajblagabPFnExactUnpackAclx8
import Derived.Test.YtmnojegajblagabLibBase
import Derived.Test.YtmnojegajblagabLibNumbers
namespace Go.Proofs.Ytmnojegajblagab.Pure
open Go.RowKit Go.Proofs.Ytmnojegajblagab.PFnExactUnpackAcl Go.Proofs.Ytmnojegajblagab.Lib Go.Proofs.YtmnojegajblagabW.PrintWords Go.Proofs.YtmnojegajblagabW.PrintLast Go.Proofs.YtmnojegajblagabW.PrintMore
set_option linter.unusedVariables false
set_option linter.unusedSimpArgs false

theorem l01In_spec (a b c : Int) : spec_l01In.f a b c = some (decide (b ≤ a ∧ a ≤ c)) := by
  unfold spec_l01In.f
  by_cases h : a ≥ b
  · rw [if_pos h]
    simp [show b ≤ a from h]
  · rw [if_neg h]
    simp [show ¬ b ≤ a from h]

theorem putNumber_spec_l (d : Nat) : ∀ (n : Int) (xs : List Int), 0 ≤ n → n ≤ 9223372036854775807 → d ≤ xs.length → xs.length ≤ 6 → Ev (fun k => spec_PutNumber.l0 k n xs ((d : Int) - 1)) (strOfNums (putL d n ++ xs.drop d)) := by
  induction d with
  | zero =>
    intro n xs h0 hn h h6
    exact Ev.step (fun _ => spec_PutNumber.l0.eq_2 ..) (Ev.neg (by decide) (Ev.now _))
  | succ d ih =>
    intro n xs h0 hn h h6
    rw [show ((d + 1 : Nat) : Int) - 1 = (d : Int) by omega]
    refine Ev.step (fun _ => spec_PutNumber.l0.eq_2 ..) (Ev.pos (by omega) (Ev.pos (by omega) (Ev.pos (by omega) ?_)))
    rw [Int.tdiv_eq_ediv_of_nonneg h0, Int.tmod_eq_emod_of_nonneg h0, w64 (n := n / 256) (by omega) (by omega), w64 (n := (d : Int) - 1) (by omega) (by omega), Int.toNat_natCast, Int.emod_emod_of_dvd n (Int.dvd_refl 256)]
    have := ih (n / 256) (xs.set d (n % 256)) (by omega) (by omega) (by rw [List.length_set]; omega) (by rw [List.length_set]; omega)
    rw [set_drop (n % 256) (by omega)] at this
    rw [putL, List.append_assoc]
    exact this
theorem putNumber_impl_l (d : Nat) : ∀ (n : Int) (xs : List Int), 0 ≤ n → n ≤ 9223372036854775807 → d ≤ xs.length → xs.length ≤ 6 → Ev (fun k => impl_PutNumber.l0 k n xs ((d : Int) - 1)) (strOfNums (putL d n ++ xs.drop d)) := by
  induction d with
  | zero =>
    intro n xs h0 hn h h6
    exact Ev.step (fun _ => impl_PutNumber.l0.eq_2 ..) (Ev.neg (by decide) (Ev.now _))
  | succ d ih =>
    intro n xs h0 hn h h6
    rw [show ((d + 1 : Nat) : Int) - 1 = (d : Int) by omega]
    refine Ev.step (fun _ => impl_PutNumber.l0.eq_2 ..) (Ev.pos (by omega) (Ev.pos (by omega) (Ev.pos (by omega) ?_)))
    rw [w64 (n := (d : Int) - 1) (by omega) (by omega), Int.toNat_natCast]
    have := ih (n / 256) (xs.set d (n % 256)) (by omega) (by omega) (by rw [List.length_set]; omega) (by rw [List.length_set]; omega)
    rw [set_drop (n % 256) (by omega)] at this
    rw [putL, List.append_assoc]
    exact this
theorem putNumber_spec (n w : Int) (hn : n ≤ 9223372036854775807) : Ev (fun k => spec_PutNumber.f k n w) (putNumber n w) := by
  unfold spec_PutNumber.f
  refine Ev.bind0 (l01In_spec w 1 6) ?_
  have no : ¬ (1 ≤ w ∧ w ≤ 6 ∧ 0 ≤ n ∧ n < 256 ^ w.toNat) → Ev (fun k => spec_PutNumber.j0 k n w true) (putNumber n w) := by
    intro h
    unfold putNumber
    rw [if_neg h]
    exact Ev.step (fun _ => spec_PutNumber.j0.eq_2 ..) (Ev.pos rfl (Ev.now _))
  by_cases hw : 1 ≤ w ∧ w ≤ 6
  · refine Ev.pos (by simpa using hw) ?_
    by_cases h0 : n < 0
    · exact Ev.pos h0 (no (by omega))
    · obtain ⟨e1, e2, e3, e4⟩ := shl_put hw.1 hw.2
      refine Ev.neg h0 (Ev.pos e2 ?_)
      rw [e1]
      by_cases h1 : n ≥ 256 ^ w.toNat
      · rw [show decide (n ≥ 256 ^ w.toNat) = true by simpa using h1]
        exact no (fun h => by have := h.2.2.2; omega)
      · rw [show decide (n ≥ 256 ^ w.toNat) = false by simpa using h1]
        refine Ev.step (fun _ => spec_PutNumber.j0.eq_2 ..) (Ev.neg (by decide) (Ev.pos (by omega) (Ev.pos (by omega) ?_)))
        have := putNumber_spec_l w.toNat n (List.replicate w.toNat 0) (by omega) hn (by rw [List.length_replicate]; omega) (by rw [List.length_replicate]; omega)
        rw [List.drop_eq_nil_of_le (by rw [List.length_replicate]; omega), List.append_nil, show ((w.toNat : Nat) : Int) = w by omega] at this
        unfold putNumber
        rw [if_pos ⟨hw.1, hw.2, by omega, by omega⟩, w64 (n := w - 1) (by omega) (by omega)]
        exact this
  · exact Ev.neg (by simpa using hw) (no (fun h => hw ⟨h.1, h.2.1⟩))
theorem putNumber_impl (n w : Int) (hn : n ≤ 9223372036854775807) : Ev (fun k => impl_PutNumber.f k n w) (putNumber n w) := by
  unfold impl_PutNumber.f
  have no : ¬ (1 ≤ w ∧ w ≤ 6 ∧ 0 ≤ n ∧ n < 256 ^ w.toNat) → Ev (fun k => impl_PutNumber.j0 k n w true) (putNumber n w) := by
    intro h
    unfold putNumber
    rw [if_neg h]
    exact Ev.step (fun _ => impl_PutNumber.j0.eq_2 ..) (Ev.pos rfl (Ev.now _))
  by_cases hw : w < 1
  · exact Ev.pos hw (no (fun h => by have := h.1; omega))
  · refine Ev.neg hw ?_
    by_cases hw6 : w > 6
    · exact Ev.pos hw6 (no (fun h => by have := h.2.1; omega))
    · refine Ev.neg hw6 ?_
      by_cases h0 : n < 0
      · exact Ev.pos h0 (no (fun h => by have := h.2.2.1; omega))
      · obtain ⟨e1, e2, e3, e4⟩ := shl_put (w := w) (by omega) (by omega)
        refine Ev.neg h0 (Ev.pos e4 ?_)
        rw [e3]
        by_cases h1 : n ≥ 256 ^ w.toNat
        · rw [show decide (n ≥ 256 ^ w.toNat) = true by simpa using h1]
          exact no (fun h => by have := h.2.2.2; omega)
        · rw [show decide (n ≥ 256 ^ w.toNat) = false by simpa using h1]
          refine Ev.step (fun _ => impl_PutNumber.j0.eq_2 ..) (Ev.neg (by decide) (Ev.pos (by omega) (Ev.pos (by omega) ?_)))
          have := putNumber_impl_l w.toNat n (List.replicate w.toNat 0) (by omega) hn (by rw [List.length_replicate]; omega) (by rw [List.length_replicate]; omega)
          rw [List.drop_eq_nil_of_le (by rw [List.length_replicate]; omega), List.append_nil, show ((w.toNat : Nat) : Int) = w by omega] at this
          unfold putNumber
          rw [if_pos ⟨by omega, by omega, by omega, by omega⟩, w64 (n := w - 1) (by omega) (by omega)]
          exact this

theorem strOfNums_size (l : List Int) : (strOfNums l).size = l.length := by
  have h : (strOfNums l).data.toList.length = (strOfNums l).size := by rw [Array.length_toList]; rfl
  rw [← h, strOfNums_data, List.length_map]
theorem putNumber_size (n w : Int) : (putNumber n w).size ≤ 6 := by
  unfold putNumber
  by_cases h : 1 ≤ w ∧ w ≤ 6 ∧ 0 ≤ n ∧ n < 256 ^ w.toNat
  · rw [if_pos h, strOfNums_size, putL_length]
    omega
  · rw [if_neg h]
    exact Nat.zero_le _

theorem data_eq_len (s : ByteArray) : s.data.toList.length = s.size := by rw [Array.length_toList]; rfl
theorem bytesOf_zeros (d : Nat) : bytesOf (⟨(Go.Lib.repeatL [0] d).toArray⟩ : ByteArray) = List.replicate d 0 := by
  have h := Go.Lib.repeatL_replicate 0 1 d
  rw [Nat.mul_one, show List.replicate 1 (0 : UInt8) = [0] from rfl] at h
  rw [h]
  unfold bytesOf
  rw [List.toList_toArray, List.map_replicate]
  rfl
theorem padTo_spec_l (n : Int) (hn : n ≤ 100000) (d : Nat) : ∀ (xs : List Int), (n - (xs.length : Int)).toNat = d → Ev (fun k => spec_PadTo.l0 k n xs) (strOfNums (xs ++ List.replicate d 0)) := by
  induction d with
  | zero =>
    intro xs hd
    rw [List.replicate_zero, List.append_nil]
    exact Ev.step (fun _ => spec_PadTo.l0.eq_2 ..) (Ev.neg (by omega) (Ev.now _))
  | succ d ih =>
    intro xs hd
    have := ih (xs ++ [0]) (by rw [List.length_append, List.length_singleton]; omega)
    rw [List.append_assoc, show [(0 : Int)] ++ List.replicate d 0 = List.replicate (d + 1) 0 from rfl] at this
    exact Ev.step (fun _ => spec_PadTo.l0.eq_2 ..) (Ev.pos (by omega) (Ev.pos (by omega) this))
theorem padTo_both' (s : ByteArray) (n : Int) (hs : s.size ≤ 100000) (hn : n ≤ 100000) : Ev (fun k => spec_PadTo.f k s n) (strOfNums (bytesOf s ++ List.replicate (n - ((bytesOf s).length : Int)).toNat 0)) ∧ impl_PadTo.f s n = some (strOfNums (bytesOf s ++ List.replicate (n - ((bytesOf s).length : Int)).toNat 0)) := by
  unfold spec_PadTo.f impl_PadTo.f
  refine ⟨Ev.neg (by omega) (Ev.pos (by omega) (padTo_spec_l n hn _ _ rfl)), ?_⟩
  rw [bytesOf_length]
  by_cases h : (s.size : Int) ≥ n
  · rw [if_pos h, show (n - (s.size : Int)).toNat = 0 by omega, List.replicate_zero, List.append_nil, strOfNums_bytesOf]
  · rw [if_neg h, if_neg (by omega), w64 (by omega) (by omega)]
    unfold strings_Repeat.f
    have z : (⟨#[0]⟩ : ByteArray).size = 1 := rfl
    rw [if_pos ⟨by omega, by omega, by rw [z]; omega⟩, Option.bind_some]
    have z2 : (⟨(Go.Lib.repeatL [0] (n - (s.size : Int)).toNat).toArray⟩ : ByteArray).size = (n - (s.size : Int)).toNat := by
      rw [← data_eq_len]
      simp only []
      rw [Go.Lib.repeatL_length]
      exact Nat.mul_one _
    have e : s ++ (⟨(Go.Lib.repeatL [0] (n - (s.size : Int)).toNat).toArray⟩ : ByteArray) = strOfNums (bytesOf s ++ List.replicate (n - (s.size : Int)).toNat 0) := by
      apply bytesOf_inj
      rw [bytesOf_append, bytesOf_zeros, bytesOf_strOfNums]
      intro x hx
      rcases List.mem_append.1 hx with h1 | h1
      · exact bytesOf_range h1
      · rw [List.eq_of_mem_replicate h1]
        decide
    rw [← e]
    exact if_pos (by simp only [] at z2 ⊢; rw [z2]; omega)
theorem padTo_both (s : ByteArray) (n : Int) (hs : s.size ≤ 100000) (hn : n ≤ 100000) : ∃ r, Ev (fun k => spec_PadTo.f k s n) r ∧ impl_PadTo.f s n = some r := ⟨_, padTo_both' s n hs hn⟩
theorem padTo_front (s : ByteArray) (n : Int) (hs : s.size ≤ 100000) (hn : n ≤ 100000) : ∃ r m, Ev (fun k => spec_PadTo.f k s n) r ∧ impl_PadTo.f s n = some r ∧ bytesOf r = bytesOf s ++ m := by
  obtain ⟨h1, h2⟩ := padTo_both' s n hs hn
  refine ⟨_, _, h1, h2, bytesOf_strOfNums ?_⟩
  intro x hx
  rcases List.mem_append.1 hx with h1 | h1
  · exact bytesOf_range h1
  · rw [List.eq_of_mem_replicate h1]
    decide

theorem isUser_impl (a : Int) : impl_isUser.f a = some (decide (0 ≤ a ∧ a ≤ 3)) := by
  unfold impl_isUser.f
  by_cases h : a ≥ 0
  · rw [if_pos h]
    congr 1
    apply decide_eq_decide.2
    omega
  · rw [if_neg h]
    congr 1
    symm
    apply decide_eq_false
    omega

/-- One entry is well formed. -/
def entryM (x : S115) : Bool := decide (0 ≤ x.f2 ∧ x.f2 ≤ 7 ∧ ((x.f0 = 1 ∨ x.f0 = 2) ∧ 0 ≤ x.f1 ∧ x.f1 ≤ 3 ∨ x.f0 = 3 ∧ x.f1 = 0))
/-- Two neighbours rise. -/
def riseM (x y : S115) : Bool := decide (x.f0 < y.f0 ∨ x.f0 = y.f0 ∧ x.f1 < y.f1)
/-- The entries from one with a left neighbour on. -/
def aclFrom : Option S115 → List S115 → Bool
  | none, [] => true
  | some p, [] => decide (p.f0 = 3)
  | none, x :: l => entryM x && aclFrom (some x) l
  | some p, x :: l => entryM x && (riseM p x && aclFrom (some x) l)
def isAclM (l : List S115) : Bool := decide (l.length ≤ 6) && aclFrom none l
/-- What stands left of place i. -/
def leftOf (xs : List S115) (i : Int) : Option S115 := if i > 0 then some (rd_T115 xs (i - 1)) else none
theorem l05Entry_spec (a b c : Int) : Ev (fun k => spec_l05Entry.f k a b c) (entryM ⟨a, b, c⟩) := by
  unfold spec_l05Entry.f
  refine Ev.bind0 (l01In_spec c 0 7) ?_
  by_cases hc : 0 ≤ c ∧ c ≤ 7
  · refine Ev.pos (by simpa using hc) ?_
    by_cases h1 : a = 1
    · refine Ev.pos h1 (Ev.step (fun _ => spec_l05Entry.j0.eq_2 ..) (Ev.pos (by simpa using h1) (Ev.bind0 (l01In_spec b 0 3) ?_)))
      rw [show entryM ⟨a, b, c⟩ = decide (0 ≤ b ∧ b ≤ 3) by unfold entryM; apply decide_eq_decide.2; simp only; omega]
      exact Ev.now _
    · refine Ev.neg h1 (Ev.step (fun _ => spec_l05Entry.j0.eq_2 ..) ?_)
      by_cases h2 : a = 2
      · refine Ev.pos (by simpa using h2) (Ev.bind0 (l01In_spec b 0 3) ?_)
        rw [show entryM ⟨a, b, c⟩ = decide (0 ≤ b ∧ b ≤ 3) by unfold entryM; apply decide_eq_decide.2; simp only; omega]
        exact Ev.now _
      · refine Ev.neg (by simpa using h2) ?_
        by_cases h3 : a = 3
        · refine Ev.pos h3 ?_
          rw [show entryM ⟨a, b, c⟩ = (b == 0) by unfold entryM; rw [show (b == 0) = decide (b = 0) from rfl]; apply decide_eq_decide.2; simp only; omega]
          exact Ev.now _
        · refine Ev.neg h3 ?_
          rw [show entryM ⟨a, b, c⟩ = false by unfold entryM; apply decide_eq_false; simp only; omega]
          exact Ev.now _
  · refine Ev.neg (by simpa using hc) ?_
    rw [show entryM ⟨a, b, c⟩ = false by unfold entryM; apply decide_eq_false; simp only; omega]
    exact Ev.now _
theorem rd_last (xs : List S115) (i : Int) (h : (xs.length : Int) ≤ i) (h0 : 0 ≤ i) (hi : i ≤ (xs.length : Int)) : i = (xs.length : Int) := by omega
theorem isAcl_spec_l (xs : List S115) (hx : xs.length ≤ 1048576) (l : List S115) : ∀ (i : Int), 0 ≤ i → i ≤ (xs.length : Int) → xs.drop i.toNat = l →
    Ev (fun k => spec_IsAcl.l0 k xs xs (xs.length : Int) i) (aclFrom (leftOf xs i) l && decide (xs.length ≤ 6)) := by
  induction l with
  | nil =>
    intro i h0 hi h
    have h1 := ldrop_nil h0 h
    have hi' : i = (xs.length : Int) := by omega
    subst hi'
    refine Ev.step (fun _ => spec_IsAcl.l0.eq_2 ..) (Ev.neg (by omega) ?_)
    by_cases hz : (xs.length : Int) = 0
    · refine Ev.pos hz ?_
      rw [show leftOf xs (xs.length : Int) = none by unfold leftOf; rw [if_neg (by omega)], aclFrom, show decide (xs.length ≤ 6) = true by simp only [decide_eq_true_eq]; omega]
      exact Ev.now _
    · refine Ev.neg hz ?_
      rw [show leftOf xs (xs.length : Int) = some (rd_T115 xs ((xs.length : Int) - 1)) by unfold leftOf; rw [if_pos (by omega)], aclFrom, w64 (by omega) (by omega)]
      by_cases h6 : (xs.length : Int) ≤ 6
      · refine Ev.pos h6 (Ev.pos (by omega) (Ev.pos (by omega) ?_))
        rw [show decide (xs.length ≤ 6) = true by simp only [decide_eq_true_eq]; omega, Bool.and_true]
        exact Ev.now _
      · refine Ev.neg h6 ?_
        rw [show decide (xs.length ≤ 6) = false by simp only [decide_eq_false_iff_not]; omega, Bool.and_false]
        exact Ev.now _
  | cons x l ih =>
    intro i h0 hi h
    obtain ⟨p, q, c, e⟩ := ldrop_cons z115 h0 h
    have hx' : rd_T115 xs i = x := q
    have := ih (i + 1) (by omega) (by omega) c
    rw [show leftOf xs (i + 1) = some x by unfold leftOf; rw [if_pos (by omega), show i + 1 - 1 = i by omega, hx']] at this
    refine Ev.step (fun _ => spec_IsAcl.l0.eq_2 ..) (Ev.pos p (Ev.pos h0 (Ev.pos p ?_)))
    rw [hx']
    refine Ev.bind (l05Entry_spec x.f0 x.f1 x.f2) ?_
    rw [w64 (n := i + 1) (by omega) (by omega), w64 (n := i - 1) (by omega) (by omega)]
    by_cases c1 : entryM x = true
    · refine Ev.pos c1 ?_
      by_cases c2 : i > 0
      · refine Ev.pos c2 (Ev.pos (by omega) (Ev.pos (by omega) ?_))
        rw [show leftOf xs i = some (rd_T115 xs (i - 1)) by unfold leftOf; rw [if_pos c2], aclFrom, c1, Bool.true_and]
        generalize rd_T115 xs (i - 1) = y at *
        by_cases c3 : y.f0 > x.f0
        · rw [show riseM y x = false by unfold riseM; apply decide_eq_false; omega]
          exact Ev.pos c3 (Ev.now _)
        · refine Ev.neg c3 ?_
          by_cases c4 : y.f0 = x.f0
          · refine Ev.pos c4 ?_
            by_cases c5 : y.f1 ≥ x.f1
            · rw [show riseM y x = false by unfold riseM; apply decide_eq_false; omega]
              exact Ev.pos c5 (Ev.now _)
            · rw [show riseM y x = true by unfold riseM; apply decide_eq_true; omega, Bool.true_and]
              exact Ev.neg c5 this
          · rw [show riseM y x = true by unfold riseM; apply decide_eq_true; omega, Bool.true_and]
            exact Ev.neg c4 this
      · refine Ev.neg c2 ?_
        rw [show leftOf xs i = none by unfold leftOf; rw [if_neg c2], aclFrom, c1, Bool.true_and]
        exact this
    · refine Ev.neg c1 ?_
      have c1' : entryM x = false := by simpa using c1
      have : (aclFrom (leftOf xs i) (x :: l) && decide (xs.length ≤ 6)) = false := by
        cases leftOf xs i <;> simp [aclFrom, c1']
      rw [this]
      exact Ev.now _
theorem cmp_impl (a b : Int) : cmp_Compare_int.f a b = some (if a < b then -1 else if a > b then 1 else 0) := by
  unfold cmp_Compare_int.f cmp_isNaN_int.f
  simp only [bne_self_eq_false, Option.bind_some]
  rw [if_neg (by simp), if_neg (by simp)]
  repeat' split
  all_goals rfl
theorem cmpOr_impl (a b : Int) : Ev (fun k => cmp_Or_int.f k [a, b]) (if a = 0 then b else a) := by
  unfold cmp_Or_int.f
  refine Ev.step (fun _ => cmp_Or_int.l0.eq_2 ..) (Ev.pos (by simp) (Ev.pos (by decide) (Ev.pos (by simp) ?_)))
  rw [show rd [a, b] 0 = a from rfl, show wrap64 (0 + 1) = 1 by unfold wrap64; omega]
  by_cases ha : a = 0
  · refine Ev.pos ha (Ev.step (fun _ => cmp_Or_int.l0.eq_2 ..) (Ev.pos (by simp) (Ev.pos (by decide) (Ev.pos (by simp) ?_))))
    rw [show rd [a, b] 1 = b from rfl, show wrap64 (1 + 1) = 2 by unfold wrap64; omega, if_pos ha]
    by_cases hb : b = 0
    · refine Ev.pos hb (Ev.step (fun _ => cmp_Or_int.l0.eq_2 ..) (Ev.neg (by simp) ?_))
      rw [hb]
      exact Ev.now _
    · exact Ev.neg hb (Ev.now _)
  · rw [if_neg ha]
    exact Ev.neg ha (Ev.now _)
theorem isAcl_j3 {xs : List S115} (hx : xs.length ≤ 1048576) {i : Int} (h0 : 0 ≤ i) (hi : i < (xs.length : Int)) (a b c : Int) {r : Bool} {l : List S115} (he : entryM ⟨a, b, c⟩ = true) (hr : aclFrom (some ⟨a, b, c⟩) l = r) (h : Ev (fun k => impl_IsAcl.l0 k xs xs (xs.length : Int) (i + 1)) r) :
    Ev (fun k => impl_IsAcl.j3 k xs i xs (xs.length : Int) i a b c) (aclFrom (leftOf xs i) (⟨a, b, c⟩ :: l)) := by
  refine Ev.step (fun _ => impl_IsAcl.j3.eq_2 ..) ?_
  rw [w64 (n := i + 1) (by omega) (by omega), w64 (n := i - 1) (by omega) (by omega)]
  by_cases c2 : i > 0
  · rw [show leftOf xs i = some (rd_T115 xs (i - 1)) by unfold leftOf; rw [if_pos c2], aclFrom, he, Bool.true_and, hr]
    generalize rd_T115 xs (i - 1) = y at *
    refine Ev.pos c2 (Ev.pos (by omega) (Ev.pos (by omega) (Ev.bind0 (cmp_impl _ _) (Ev.bind0 (cmp_impl _ _) (Ev.bind (cmpOr_impl _ _) ?_)))))
    by_cases hc : y.f0 < a ∨ y.f0 = a ∧ y.f1 < b
    · rw [show riseM y ⟨a, b, c⟩ = true by unfold riseM; exact decide_eq_true hc, Bool.true_and]
      refine Ev.neg ?_ h
      repeat' split
      all_goals omega
    · rw [show riseM y ⟨a, b, c⟩ = false by unfold riseM; exact decide_eq_false hc, Bool.false_and]
      refine Ev.pos ?_ (Ev.now _)
      repeat' split
      all_goals omega
  · rw [show leftOf xs i = none by unfold leftOf; rw [if_neg c2], aclFrom, he, Bool.true_and, hr]
    exact Ev.neg c2 h
theorem isAcl_impl_l (xs : List S115) (hx : xs.length ≤ 1048576) (l : List S115) : ∀ (i : Int), 0 ≤ i → i ≤ (xs.length : Int) → xs.drop i.toNat = l →
    Ev (fun k => impl_IsAcl.l0 k xs xs (xs.length : Int) i) (aclFrom (leftOf xs i) l) := by
  induction l with
  | nil =>
    intro i h0 hi h
    have h1 := ldrop_nil h0 h
    have hi' : i = (xs.length : Int) := by omega
    subst hi'
    refine Ev.step (fun _ => impl_IsAcl.l0.eq_2 ..) (Ev.neg (by omega) ?_)
    by_cases hz : (xs.length : Int) = 0
    · refine Ev.pos hz ?_
      rw [show leftOf xs (xs.length : Int) = none by unfold leftOf; rw [if_neg (by omega)], aclFrom]
      exact Ev.now _
    · refine Ev.neg hz ?_
      rw [show leftOf xs (xs.length : Int) = some (rd_T115 xs ((xs.length : Int) - 1)) by unfold leftOf; rw [if_pos (by omega)], aclFrom, w64 (by omega) (by omega)]
      exact Ev.pos (by omega) (Ev.pos (by omega) (Ev.now _))
  | cons x l ih =>
    intro i h0 hi h
    obtain ⟨p, q, c, e⟩ := ldrop_cons z115 h0 h
    have hx' : rd_T115 xs i = x := q
    have := ih (i + 1) (by omega) (by omega) c
    rw [show leftOf xs (i + 1) = some x by unfold leftOf; rw [if_pos (by omega), show i + 1 - 1 = i by omega, hx']] at this
    have bad : entryM x = false → aclFrom (leftOf xs i) (x :: l) = false := by
      intro c1'
      cases leftOf xs i <;> simp [aclFrom, c1']
    refine Ev.step (fun _ => impl_IsAcl.l0.eq_2 ..) (Ev.pos p (Ev.pos h0 (Ev.pos p ?_)))
    rw [hx']
    obtain ⟨a, b, d⟩ := x
    simp only
    have j1no : Ev (fun k => impl_IsAcl.j1 k xs i xs (xs.length : Int) i true a b d) false := Ev.step (fun _ => impl_IsAcl.j1.eq_2 ..) (Ev.pos rfl (Ev.now _))
    by_cases d1 : d < 0
    · rw [bad (by unfold entryM; apply decide_eq_false; simp only; omega)]
      exact Ev.pos d1 j1no
    · refine Ev.neg d1 ?_
      by_cases d2 : d > 7
      · rw [bad (by unfold entryM; apply decide_eq_false; simp only; omega), show decide (d > 7) = true by simpa using d2]
        exact j1no
      · rw [show decide (d > 7) = false by simpa using d2]
        refine Ev.step (fun _ => impl_IsAcl.j1.eq_2 ..) (Ev.neg (by simp) ?_)
        have j2 : ∀ t : Bool, t = decide (a = 1 ∨ a = 2) → Ev (fun k => impl_IsAcl.j2 k xs i xs (xs.length : Int) i a t a b d) (aclFrom (leftOf xs i) (⟨a, b, d⟩ :: l)) := by
          intro t ht
          refine Ev.step (fun _ => impl_IsAcl.j2.eq_2 ..) ?_
          by_cases h12 : a = 1 ∨ a = 2
          · refine Ev.pos (by rw [ht]; exact decide_eq_true h12) (Ev.bind0 (isUser_impl b) ?_)
            by_cases hb : 0 ≤ b ∧ b ≤ 3
            · exact Ev.pos (by simpa using hb) (isAcl_j3 hx h0 p a b d (by unfold entryM; apply decide_eq_true; simp only; omega) rfl this)
            · rw [bad (by unfold entryM; apply decide_eq_false; simp only; omega)]
              exact Ev.neg (by simpa using hb) (Ev.now _)
          · refine Ev.neg (by rw [ht]; simpa using h12) ?_
            by_cases h3 : a = 3
            · refine Ev.pos h3 ?_
              by_cases hb : b = 0
              · exact Ev.pos hb (isAcl_j3 hx h0 p a b d (by unfold entryM; apply decide_eq_true; simp only; omega) rfl this)
              · rw [bad (by unfold entryM; apply decide_eq_false; simp only; omega)]
                exact Ev.neg hb (Ev.now _)
            · rw [bad (by unfold entryM; apply decide_eq_false; simp only; omega)]
              exact Ev.neg h3 (Ev.now _)
        by_cases h1 : a = 1
        · exact Ev.pos h1 (j2 _ (by simp [h1]))
        · exact Ev.neg h1 (j2 _ (by simp [h1]; rfl))
theorem isAcl_spec (xs : List S115) (hx : xs.length ≤ 1048576) : Ev (fun k => spec_IsAcl.f k xs) (isAclM xs) := by
  have := isAcl_spec_l xs hx xs 0 (by omega) (by omega) rfl
  unfold isAclM
  rw [Bool.and_comm]
  exact this
theorem isAcl_impl (xs : List S115) (hx : xs.length ≤ 1048576) : Ev (fun k => impl_IsAcl.f k xs) (isAclM xs) := by
  unfold impl_IsAcl.f isAclM
  by_cases h : (xs.length : Int) > 6
  · rw [show decide (xs.length ≤ 6) = false by simp only [decide_eq_false_iff_not]; omega, Bool.false_and]
    exact Ev.pos h (Ev.now _)
  · rw [show decide (xs.length ≤ 6) = true by simp only [decide_eq_true_eq]; omega, Bool.true_and]
    exact Ev.neg h (isAcl_impl_l xs hx xs 0 (by omega) (by omega) rfl)

def aclSmall (xs : List S115) : Prop := ∀ x, x ∈ xs → x.f0 ≤ 9223372036854775807 ∧ x.f1 ≤ 9223372036854775807 ∧ x.f2 ≤ 9223372036854775807
theorem pack_both (xs : List S115) (hx : xs.length ≤ 6) (hb : aclSmall xs) (l : List S115) : ∀ (i : Int) (s : ByteArray), 0 ≤ i → i ≤ (xs.length : Int) → xs.drop i.toNat = l → (s.size : Int) ≤ 6 + i * 18 →
    ∃ r m, Ev (fun k => spec_PackAcl.l0 k s xs (xs.length : Int) i) r ∧ Ev (fun k => impl_PackAcl.l0 k s xs (xs.length : Int) i) r ∧ bytesOf r = bytesOf s ++ m := by
  induction l with
  | nil =>
    intro i s h0 hi h hs
    have := ldrop_nil h0 h
    obtain ⟨r, m, p1, p2, p3⟩ := padTo_front s 19 (by omega) (by omega)
    exact ⟨r, m, Ev.step (fun _ => spec_PackAcl.l0.eq_2 ..) (Ev.neg (by omega) (Ev.bind p1 (Ev.now _))), Ev.step (fun _ => impl_PackAcl.l0.eq_2 ..) (Ev.neg (by omega) (Ev.bind0 p2 (Ev.now _))), p3⟩
  | cons x l ih =>
    intro i s h0 hi h hs
    obtain ⟨a, b, c, e⟩ := ldrop_cons z115 h0 h
    have hr : rd_T115 xs i = x := b
    obtain ⟨b1, b2, b3⟩ := hb x (by
      have : x ∈ xs.drop i.toNat := by rw [h]; exact List.mem_cons_self ..
      exact List.mem_of_mem_drop this)
    have z1 := putNumber_size x.f0 1
    have z2 := putNumber_size x.f1 1
    have z3 := putNumber_size x.f2 1
    have a1 := ba_size_append s (putNumber x.f0 1)
    have a2 := ba_size_append (s ++ putNumber x.f0 1) (putNumber x.f1 1)
    have a3 := ba_size_append (s ++ putNumber x.f0 1 ++ putNumber x.f1 1) (putNumber x.f2 1)
    have a4 := ba_size_append (putNumber x.f0 1) (putNumber x.f1 1)
    have a5 := ba_size_append (putNumber x.f0 1 ++ putNumber x.f1 1) (putNumber x.f2 1)
    obtain ⟨r, m, p1, p2, p3⟩ := ih (i + 1) (s ++ putNumber x.f0 1 ++ putNumber x.f1 1 ++ putNumber x.f2 1) (by omega) (by omega) c (by omega)
    refine ⟨r, _, Ev.step (fun _ => spec_PackAcl.l0.eq_2 ..) (Ev.pos a (Ev.pos h0 (Ev.pos a ?_))), Ev.step (fun _ => impl_PackAcl.l0.eq_2 ..) (Ev.pos a (Ev.pos h0 (Ev.pos a ?_))), p3.trans (by rw [bytesOf_append, bytesOf_append, bytesOf_append, List.append_assoc, List.append_assoc, List.append_assoc])⟩
    · rw [hr, w64 (n := i + 1) (by omega) (by omega)]
      exact Ev.bind (putNumber_spec x.f0 1 b1) (Ev.pos (by omega) (Ev.bind (putNumber_spec x.f1 1 b2) (Ev.pos (by omega) (Ev.bind (putNumber_spec x.f2 1 b3) (Ev.pos (by omega) p1)))))
    · rw [hr, w64 (n := i + 1) (by omega) (by omega)]
      rw [show s ++ putNumber x.f0 1 ++ putNumber x.f1 1 ++ putNumber x.f2 1 = s ++ (putNumber x.f0 1 ++ putNumber x.f1 1 ++ putNumber x.f2 1) by simp only [ByteArray.append_assoc]] at p2
      exact Ev.bind (putNumber_impl x.f0 1 b1) (Ev.bind (putNumber_impl x.f1 1 b2) (Ev.pos (by omega) (Ev.bind (putNumber_impl x.f2 1 b3) (Ev.pos (by omega) (Ev.pos (by omega) p2)))))
theorem packAcl_front (xs : List S115) (hx : xs.length ≤ 1048576) (hb : aclSmall xs) : ∃ r, Ev (fun k => spec_PackAcl.f k xs) r ∧ Ev (fun k => impl_PackAcl.f k xs) r ∧ (r = ⟨#[]⟩ ∨ ∃ m, bytesOf r = bytesOf (putNumber (xs.length : Int) 1) ++ m) := by
  unfold spec_PackAcl.f impl_PackAcl.f
  have h1 := isAcl_spec xs hx
  have h2 := isAcl_impl xs hx
  cases ho : isAclM xs with
  | false =>
    rw [ho] at h1 h2
    exact ⟨_, Ev.bind h1 (Ev.neg (by decide) (Ev.now _)), Ev.bind h2 (Ev.neg (by decide) (Ev.now _)), Or.inl rfl⟩
  | true =>
    rw [ho] at h1 h2
    have h6 : xs.length ≤ 6 := by
      unfold isAclM at ho
      rw [Bool.and_eq_true] at ho
      exact of_decide_eq_true ho.1
    have z := putNumber_size (xs.length : Int) 1
    obtain ⟨r, m, p1, p2, p3⟩ := pack_both xs h6 hb xs 0 (putNumber (xs.length : Int) 1) (by omega) (by omega) rfl (by omega)
    exact ⟨r, Ev.bind h1 (Ev.pos rfl (Ev.bind (putNumber_spec _ 1 (by omega)) p1)), Ev.bind h2 (Ev.pos rfl (Ev.bind (putNumber_impl _ 1 (by omega)) p2)), Or.inr ⟨m, p3⟩⟩
theorem packAcl_both (xs : List S115) (hx : xs.length ≤ 1048576) (hb : aclSmall xs) : ∃ r, Ev (fun k => spec_PackAcl.f k xs) r ∧ Ev (fun k => impl_PackAcl.f k xs) r := by
  obtain ⟨r, h1, h2, _⟩ := packAcl_front xs hx hb
  exact ⟨r, h1, h2⟩

theorem rdAcl_set (l : List S115) (i : Int) (v : S115) (h0 : 0 ≤ i) (h : i < (l.length : Int)) : rd_T115 (l.set i.toNat v) i = v := by
  show rdOf z115 (l.set i.toNat v) i = v
  unfold rdOf
  rw [List.getD_eq_getElem?_getD, List.getElem?_set_self (by omega)]
  rfl
theorem markAclEntryS_l (d : Nat) : ∀ (i k : Int) (l : List S115), 0 ≤ i → i + d = (l.length : Int) → 0 ≤ k → k + 3 * d ≤ 1152921504606846976 → (l.length : Int) ≤ 1152921504606846976 →
    ∃ l', Ev (fun n => laws_markAclEntryS.l0 n l k i) (k + 3 * d, l') ∧ l'.length = l.length ∧ (∀ j : Nat, (j : Int) < i → l'[j]? = l[j]?) ∧
      (∀ j : Nat, j < d → l'[i.toNat + j]? = some ⟨k + 3 * j, k + 3 * j + 1, k + 3 * j + 1 + 1⟩) := by
  induction d with
  | zero =>
    intro i k l h0 hd hk hk' hl
    refine ⟨l, ?_, rfl, fun _ _ => rfl, fun j hj => absurd hj (Nat.not_lt_zero _)⟩
    rw [show k + 3 * ((0 : Nat) : Int) = k by omega]
    exact Ev.step (fun _ => laws_markAclEntryS.l0.eq_2 ..) (Ev.neg (by omega) (Ev.now _))
  | succ d ih =>
    intro i k l h0 hd hk hk' hl
    obtain ⟨l', h1, h2, h3, h4⟩ := ih (i + 1) (k + 1 + 1 + 1) (l.set i.toNat ⟨k, k + 1, k + 1 + 1⟩) (by omega) (by rw [List.length_set]; omega) (by omega) (by omega) (by rw [List.length_set]; omega)
    rw [show k + 1 + 1 + 1 + 3 * (d : Int) = k + 3 * ((d + 1 : Nat) : Int) by omega] at h1
    rw [List.length_set] at h2
    refine ⟨l', Ev.step (fun _ => laws_markAclEntryS.l0.eq_2 ..) (Ev.pos (by omega) (Ev.pos h0 (Ev.bind0 rfl (Ev.bind0 rfl ?_)))), h2, ?_, ?_⟩
    · rw [rdAcl_set _ _ _ h0 (by omega), rdAcl_set _ _ _ h0 (by rw [List.length_set]; omega)]
      simp only []
      rw [List.set_set, List.set_set, w64 (n := k + 1) (by omega) (by omega), w64 (n := k + 1 + 1) (by omega) (by omega), w64 (n := k + 1 + 1 + 1) (by omega) (by omega), w64 (n := i + 1) (by omega) (by omega)]
      exact h1
    · intro j hj
      rw [h3 j (by omega), List.getElem?_set_ne (by omega)]
    · intro j hj
      cases j with
      | zero =>
        rw [h3 (i.toNat + 0) (by omega), Nat.add_zero, List.getElem?_set_self (by omega)]
        simp
      | succ j =>
        have := h4 j (by omega)
        rw [show (i + 1).toNat + j = i.toNat + (j + 1) by omega] at this
        rw [this, show k + 1 + 1 + 1 + 3 * (j : Int) = k + 3 * ((j + 1 : Nat) : Int) by omega]
theorem markAclEntryS_ex (l : List S115) (k : Int) (hk : 0 ≤ k) (h : k + 3 * (l.length : Int) ≤ 1152921504606846976) :
    ∃ l', Ev (fun n => laws_markAclEntryS.f n l k) (k + 3 * (l.length : Int), l') ∧ l'.length = l.length := by
  obtain ⟨l', h1, h2, _⟩ := markAclEntryS_l l.length 0 k l (by omega) (by omega) hk h (by omega)
  exact ⟨l', h1, h2⟩

theorem heldAclEntryS_l (d : Nat) : ∀ (i k : Int) (l : List S115), 0 ≤ i → i + d = (l.length : Int) → 0 ≤ k → k + 3 * d ≤ 1152921504606846976 → (l.length : Int) ≤ 1152921504606846976 →
    (∀ j : Nat, j < d → l[i.toNat + j]? = some ⟨k + 3 * j, k + 3 * j + 1, k + 3 * j + 1 + 1⟩) → Ev (fun n => laws_heldAclEntryS.l0 n l k i) (k + 3 * d) := by
  induction d with
  | zero =>
    intro i k l h0 hd hk hk' hl _
    rw [show k + 3 * ((0 : Nat) : Int) = k by omega]
    exact Ev.step (fun _ => laws_heldAclEntryS.l0.eq_2 ..) (Ev.neg (by omega) (Ev.now _))
  | succ d ih =>
    intro i k l h0 hd hk hk' hl h
    have e : rd_T115 l i = ⟨k, k + 1, k + 1 + 1⟩ := by
      have h' := h 0 (by omega)
      rw [Nat.add_zero] at h'
      show rdOf z115 l i = _
      unfold rdOf
      rw [List.getD_eq_getElem?_getD, h']
      simp
    have g := ih (i + 1) (k + 1 + 1 + 1) l (by omega) (by omega) (by omega) (by omega) hl (by
      intro j hj
      have := h (j + 1) (by omega)
      rw [show i.toNat + (j + 1) = (i + 1).toNat + j by omega] at this
      rw [this, show k + 1 + 1 + 1 + 3 * (j : Int) = k + 3 * ((j + 1 : Nat) : Int) by omega])
    rw [show k + 1 + 1 + 1 + 3 * (d : Int) = k + 3 * ((d + 1 : Nat) : Int) by omega] at g
    refine Ev.step (fun _ => laws_heldAclEntryS.l0.eq_2 ..) (Ev.pos (by omega) (Ev.pos h0 ?_))
    rw [e]
    simp only []
    rw [w64 (n := k + 1) (by omega) (by omega), w64 (n := k + 1 + 1) (by omega) (by omega), w64 (n := k + 1 + 1 + 1) (by omega) (by omega), w64 (n := i + 1) (by omega) (by omega)]
    exact Ev.pos (by trivial) (Ev.pos (by trivial) (Ev.pos (by trivial) g))
theorem markHeldAclEntryS_ex (l : List S115) (k : Int) (hk : 0 ≤ k) (h : k + 3 * (l.length : Int) ≤ 1152921504606846976) :
    ∃ l', Ev (fun n => laws_markAclEntryS.f n l k) (k + 3 * (l.length : Int), l') ∧ l'.length = l.length ∧ Ev (fun n => laws_heldAclEntryS.f n l' k) (k + 3 * (l.length : Int)) := by
  obtain ⟨l', h1, h2, h3, h4⟩ := markAclEntryS_l l.length 0 k l (by omega) (by omega) hk h (by omega)
  exact ⟨l', h1, h2, heldAclEntryS_l l.length 0 k l' (by omega) (by omega) hk h (by omega) h4⟩

theorem eqAclEntryS_l (d : Nat) : ∀ (i : Int) (l : List S115), 0 ≤ i → i + d = (l.length : Int) → l.length ≤ 1048576 → Ev (fun k => laws_eqAclEntryS.l0 k l l i) true := by
  induction d with
  | zero =>
    intro i l h0 hd hl
    exact Ev.step (fun _ => laws_eqAclEntryS.l0.eq_2 ..) (Ev.neg (by omega) (Ev.now _))
  | succ d ih =>
    intro i l h0 hd hl
    refine Ev.step (fun _ => laws_eqAclEntryS.l0.eq_2 ..) (Ev.pos (by omega) (Ev.pos h0 (Ev.pos (by omega) (Ev.bind0 (a := true) (by unfold laws_eqAclEntry.f; simp) (Ev.pos rfl ?_)))))
    rw [w64 (n := i + 1) (by omega) (by omega)]
    exact ih (i + 1) l (by omega) (by omega) hl
theorem eqAclEntryS_f (l : List S115) (hl : l.length ≤ 1048576) : Ev (fun k => laws_eqAclEntryS.f k l l) true := by
  unfold laws_eqAclEntryS.f
  exact Ev.pos rfl (eqAclEntryS_l l.length 0 l (by omega) (by omega) hl)

theorem bt_range {s : ByteArray} {i : Int} (h0 : 0 ≤ i) (h : i < (s.size : Int)) : 0 ≤ bt s i ∧ bt s i ≤ 255 := by
  cases hh : (bytesOf s).drop i.toNat with
  | nil => exact absurd (bdrop_nil h0 hh) (by omega)
  | cons b m =>
    obtain ⟨_, k2, _, _⟩ := bdrop_cons h0 hh
    rw [k2]
    exact bytesOf_range (List.mem_of_mem_drop (by rw [hh]; exact List.mem_cons_self ..))
/-- Both loops over the first n entries (n at most 6). -/
theorem unpack_both (s : ByteArray) (hs : (s.size : Int) = 19) (n : Int) (hn : n = bt s 0) (d : Nat) : ∀ (i : Int) (x : List S115), 0 ≤ i → i + d = n → n ≤ 6 → (x.length : Int) = i → aclSmall x →
    ∃ r, Ev (fun k => spec_UnpackAcl.l0 k s x i) r ∧ Ev (fun k => impl_UnpackAcl.l0 k s x n i) r ∧ r.1.length ≤ 6 := by
  induction d with
  | zero =>
    intro i x h0 hd h6 hx ha
    obtain ⟨r, p1, p2⟩ := packAcl_both x (by omega) ha
    have hw : wrap64 (bt s 0) = n := by rw [hn]; exact w64 (by omega) (by omega)
    by_cases e : r.toList = s.toList
    · refine ⟨(x, true), Ev.step (fun _ => spec_UnpackAcl.l0.eq_2 ..) (Ev.pos (by omega) (Ev.neg (by rw [hw]; omega) (Ev.bind p1 (Ev.pos e (Ev.now _))))), Ev.step (fun _ => impl_UnpackAcl.l0.eq_2 ..) (Ev.neg (by omega) (Ev.bind p2 (Ev.pos e (Ev.now _)))), ?_⟩
      show x.length ≤ 6
      omega
    · exact ⟨([], false), Ev.step (fun _ => spec_UnpackAcl.l0.eq_2 ..) (Ev.pos (by omega) (Ev.neg (by rw [hw]; omega) (Ev.bind p1 (Ev.neg e (Ev.now _))))), Ev.step (fun _ => impl_UnpackAcl.l0.eq_2 ..) (Ev.neg (by omega) (Ev.bind p2 (Ev.neg e (Ev.now _)))), Nat.zero_le _⟩
  | succ d ih =>
    intro i x h0 hd h6 hx ha
    have hw : wrap64 (bt s 0) = n := by rw [hn]; exact w64 (by omega) (by omega)
    have g1 := bt_range (s := s) (i := 3 * i + 1) (by omega) (by omega)
    have g2 := bt_range (s := s) (i := 3 * i + 2) (by omega) (by omega)
    have g3 := bt_range (s := s) (i := 3 * i + 3) (by omega) (by omega)
    obtain ⟨r, p1, p2, p3⟩ := ih (i + 1) (x ++ [⟨bt s (3 * i + 1), bt s (3 * i + 2), bt s (3 * i + 3)⟩]) (by omega) (by omega) h6 (by rw [List.length_append, List.length_singleton]; omega) (by
      intro y hy
      rcases List.mem_append.1 hy with h | h
      · exact ha y h
      · rw [List.mem_singleton.1 h]
        exact ⟨by simp only []; omega, by simp only []; omega, by simp only []; omega⟩)
    refine ⟨r, Ev.step (fun _ => spec_UnpackAcl.l0.eq_2 ..) (Ev.pos (by omega) ?_), Ev.step (fun _ => impl_UnpackAcl.l0.eq_2 ..) ?_, p3⟩
    · rw [hw, w64 (n := 3 * i) (by omega) (by omega), w64 (n := 3 * i + 1) (by omega) (by omega), w64 (n := 3 * i + 2) (by omega) (by omega), w64 (n := 3 * i + 3) (by omega) (by omega), w64 (n := i + 1) (by omega) (by omega), w64 (n := bt s (3 * i + 1)) (by omega) (by omega), w64 (n := bt s (3 * i + 2)) (by omega) (by omega), w64 (n := bt s (3 * i + 3)) (by omega) (by omega)]
      exact Ev.pos (by omega) (Ev.pos (by omega) (Ev.pos (by omega) (Ev.pos (by omega) (Ev.pos (by omega) (Ev.pos (by omega) (Ev.pos (by omega) (Ev.pos (by omega) (Ev.pos (by omega) p1))))))))
    · rw [w64 (n := 3 * i) (by omega) (by omega), Int.add_comm 1 (3 * i), Int.add_comm 2 (3 * i), Int.add_comm 3 (3 * i), w64 (n := 3 * i + 1) (by omega) (by omega), w64 (n := 3 * i + 2) (by omega) (by omega), w64 (n := 3 * i + 3) (by omega) (by omega), w64 (n := i + 1) (by omega) (by omega), w64 (n := bt s (3 * i + 1)) (by omega) (by omega), w64 (n := bt s (3 * i + 2)) (by omega) (by omega), w64 (n := bt s (3 * i + 3)) (by omega) (by omega)]
      exact Ev.pos (by omega) (Ev.pos (by omega) (Ev.pos (by omega) (Ev.pos (by omega) (Ev.pos (by omega) (Ev.pos (by omega) (Ev.pos (by omega) (Ev.pos (by omega) p2)))))))
/-- The first byte is greater than 6: the reference reads six entries and finds another first byte. -/
theorem unpack_big (s : ByteArray) (hs : (s.size : Int) = 19) (n : Int) (hn : n = bt s 0) (h7 : 6 < n) (d : Nat) : ∀ (i : Int) (x : List S115), 0 ≤ i → i + d = 6 → (x.length : Int) = i → aclSmall x →
    Ev (fun k => spec_UnpackAcl.l0 k s x i) ([], false) := by
  have hr := bt_range (s := s) (i := 0) (by omega) (by omega)
  induction d with
  | zero =>
    intro i x h0 hd hx ha
    obtain ⟨r, p1, p2, p3⟩ := packAcl_front x (by omega) ha
    have hw : wrap64 (bt s 0) = n := by rw [hn]; exact w64 (by omega) (by omega)
    have e : ¬ r.toList = s.toList := by
      intro h
      have h := (ba_eq_iff _ _).1 h
      subst h
      rcases p3 with h | ⟨m, h⟩
      · rw [h] at hs
        exact absurd hs (by decide)
      · rw [show (x.length : Int) = 6 by omega, show bytesOf (putNumber 6 1) = [6] by decide +kernel] at h
        obtain ⟨_, k, _⟩ := bdrop_cons (s := r) (i := 0) (x := 6) (l := m) (by omega) h
        omega
    exact Ev.step (fun _ => spec_UnpackAcl.l0.eq_2 ..) (Ev.pos (by omega) (Ev.pos (by rw [hw]; omega) (Ev.neg (by omega) (Ev.bind p1 (Ev.neg e (Ev.now _))))))
  | succ d ih =>
    intro i x h0 hd hx ha
    have hw : wrap64 (bt s 0) = n := by rw [hn]; exact w64 (by omega) (by omega)
    have g1 := bt_range (s := s) (i := 3 * i + 1) (by omega) (by omega)
    have g2 := bt_range (s := s) (i := 3 * i + 2) (by omega) (by omega)
    have g3 := bt_range (s := s) (i := 3 * i + 3) (by omega) (by omega)
    have p1 := ih (i + 1) (x ++ [⟨bt s (3 * i + 1), bt s (3 * i + 2), bt s (3 * i + 3)⟩]) (by omega) (by omega) (by rw [List.length_append, List.length_singleton]; omega) (by
      intro y hy
      rcases List.mem_append.1 hy with h | h
      · exact ha y h
      · rw [List.mem_singleton.1 h]
        exact ⟨by simp only []; omega, by simp only []; omega, by simp only []; omega⟩)
    refine Ev.step (fun _ => spec_UnpackAcl.l0.eq_2 ..) (Ev.pos (by omega) ?_)
    rw [hw, w64 (n := 3 * i) (by omega) (by omega), w64 (n := 3 * i + 1) (by omega) (by omega), w64 (n := 3 * i + 2) (by omega) (by omega), w64 (n := 3 * i + 3) (by omega) (by omega), w64 (n := i + 1) (by omega) (by omega), w64 (n := bt s (3 * i + 1)) (by omega) (by omega), w64 (n := bt s (3 * i + 2)) (by omega) (by omega), w64 (n := bt s (3 * i + 3)) (by omega) (by omega)]
    exact Ev.pos (by omega) (Ev.pos (by omega) (Ev.pos (by omega) (Ev.pos (by omega) (Ev.pos (by omega) (Ev.pos (by omega) (Ev.pos (by omega) (Ev.pos (by omega) (Ev.pos (by omega) p1))))))))
theorem unpackAcl_both (s : ByteArray) : ∃ r, Ev (fun k => spec_UnpackAcl.f k s) r ∧ Ev (fun k => impl_UnpackAcl.f k s) r ∧ r.1.length ≤ 6 := by
  unfold spec_UnpackAcl.f impl_UnpackAcl.f
  have no : Ev (fun k => impl_UnpackAcl.j0 k s true) ([], false) := Ev.step (fun _ => impl_UnpackAcl.j0.eq_2 ..) (Ev.pos rfl (Ev.now _))
  by_cases hs : (s.size : Int) = 19
  · have hr := bt_range (s := s) (i := 0) (by omega) (by omega)
    by_cases h7 : bt s 0 > 6
    · refine ⟨([], false), Ev.pos hs (unpack_big s hs _ rfl h7 6 0 [] (by omega) (by omega) rfl (fun x h => by cases h)), Ev.pos hs (Ev.pos (by omega) ?_), Nat.zero_le _⟩
      rw [show decide (bt s 0 > 6) = true from decide_eq_true h7]
      exact no
    · obtain ⟨r, p1, p2, p3⟩ := unpack_both s hs (bt s 0) rfl (bt s 0).toNat 0 [] (by omega) (by omega) (by omega) rfl (fun x h => by cases h)
      refine ⟨r, Ev.pos hs p1, Ev.pos hs (Ev.pos (by omega) ?_), p3⟩
      rw [show decide (bt s 0 > 6) = false from decide_eq_false h7]
      refine Ev.step (fun _ => impl_UnpackAcl.j0.eq_2 ..) (Ev.neg (by decide) (Ev.pos (by omega) ?_))
      rw [w64 (n := bt s 0) (by omega) (by omega)]
      exact p2
  · exact ⟨([], false), Ev.neg hs (Ev.now _), Ev.neg hs no, Nat.zero_le _⟩

theorem FnExactUnpackAcl : laws_FnExactUnpackAcl.Pure := by
  intro s hs
  apply Ev.rounds
  unfold laws_FnExactUnpackAcl.f
  by_cases hb : (s.size : Int) > 1048576
  · exact Ev.pos hb (Ev.now _)
  · obtain ⟨r, h1, h2, h3⟩ := unpackAcl_both s
    have he := eqAclEntryS_f r.1 (by omega)
    obtain ⟨l, h4, h5, h6⟩ := markHeldAclEntryS_ex r.1 1 (by omega) (by omega)
    refine Ev.neg hb (Ev.bind h1 (Ev.bind h2 (Ev.bind he (Ev.pos rfl ?_))))
    rw [bne_self_eq_false]
    refine Ev.step (fun _ => laws_FnExactUnpackAcl.j0.eq_2 ..) (Ev.neg (by decide) (Ev.bind h4 (Ev.bind h6 (Ev.neg (by omega) (Ev.pos rfl (Ev.bind h2 (Ev.bind he (Ev.pos rfl ?_))))))))
    rw [bne_self_eq_false]
    exact Ev.step (fun _ => laws_FnExactUnpackAcl.j1.eq_2 ..) (Ev.neg (by decide) (Ev.bind h6 (Ev.neg (by omega) (Ev.pos rfl (Ev.now _)))))

end Go.Proofs.Ytmnojegajblagab.Pure
