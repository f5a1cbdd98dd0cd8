/- The law FnExactFormatMode holds for every input of its kind; no further condition. -/
import Derived.Test.YtcafdolliedcaaaPFnExactFormatModex1
import Derived.Test.YtcafdolliedcaaaLibBase
import Derived.Test.YtcafdolliedcaaaLibModes
namespace Go.Proofs.Ytcafdolliedcaaa.Pure
open Go.RowKit Go.Proofs.Ytcafdolliedcaaa.PFnExactFormatMode Go.Proofs.Ytcafdolliedcaaa.Lib Go.Proofs.YtcafdolliedcaaaW.PrintWords Go.Proofs.YtcafdolliedcaaaW.PrintLast Go.Proofs.YtcafdolliedcaaaW.PrintMore
set_option linter.unusedVariables false
set_option linter.unusedSimpArgs false

theorem isMode_impl (a : Int) : impl_isMode.f a = some (decide (0 ≤ a ∧ a ≤ 2047)) := by
  unfold impl_isMode.f
  by_cases h : a ≥ 0
  · rw [if_pos h]
    simp [show 0 ≤ a from h]
  · rw [if_neg h]
    simp [show ¬ 0 ≤ a from h]

theorem formatMode_impl_l (n : Int) (h0 : 0 ≤ n) (h1 : n ≤ 2047) (l : List Int) : ∀ (i : Int) (xs : List Int), 0 ≤ i → xs.drop i.toNat = l → xs.length = 11 → Ev (fun k => impl_FormatMode.l0 k n xs 11 i) (strOfNums (xs.take i.toNat ++ fmtL l n)) := by
  induction l with
  | nil =>
    intro i xs hi h hl
    have := ldrop_nil hi h
    refine Ev.step (fun _ => impl_FormatMode.l0.eq_2 ..) (Ev.neg (by omega) ?_)
    rw [List.take_of_length_le (by omega), fmtL, List.append_nil]
    exact Ev.now _
  | cons c l ih =>
    intro i xs hi h hl
    obtain ⟨a, b, e, f⟩ := ldrop_cons (0 : Int) hi h
    have lt : i.toNat < xs.length := by omega
    have e1 : (i + 1).toNat = i.toNat + 1 := by omega
    have e2 : n / 2 ^ l.length ≤ n := Int.ediv_le_self _ h0
    have e3 : 0 ≤ n / 2 ^ l.length := Int.ediv_nonneg h0 (Int.pow_nonneg (by decide))
    have hc : xs[i.toNat] = c := by
      have := List.drop_eq_getElem_cons lt
      rw [h] at this
      injection this with this _
      exact this.symm
    refine Ev.step (fun _ => impl_FormatMode.l0.eq_2 ..) (Ev.pos (by omega) ?_)
    rw [w64 (n := 10 - i) (by omega) (by omega), w64 (n := i + 1) (by omega) (by omega), shr_at l.length (by omega) (by omega), i64_and1 e3 (by omega), fmtL]
    refine Ev.pos (by omega) ?_
    by_cases hb : n / 2 ^ l.length % 2 = 0
    · refine Ev.pos hb (Ev.pos hi (Ev.pos a ?_))
      rw [if_pos hb]
      have := ih (i + 1) (xs.set i.toNat 45) (by omega) (by rw [e1, List.drop_set_of_lt (by omega), ← e1]; exact e) (by rw [List.length_set]; exact hl)
      rw [e1, List.take_succ_eq_append_getElem (by rw [List.length_set]; exact lt), List.getElem_set_self, List.take_set_of_le (Nat.le_refl _), List.append_assoc] at this
      rw [e1] at *
      exact this
    · refine Ev.neg hb ?_
      rw [if_neg hb]
      have := ih (i + 1) xs (by omega) e hl
      rw [e1, List.take_succ_eq_append_getElem lt, hc, List.append_assoc] at this
      rw [e1] at *
      exact this
theorem formatMode_impl (n : Int) : Ev (fun k => impl_FormatMode.f k n) (formatMode n) := by
  unfold impl_FormatMode.f formatMode
  refine Ev.bind0 (isMode_impl n) ?_
  by_cases h : 0 ≤ n ∧ n ≤ 2047
  · rw [if_pos h]
    refine Ev.pos (by simpa using h) (Ev.bind0 rfl ?_)
    have := formatMode_impl_l n h.1 h.2 modeL 0 modeL (by decide) rfl rfl
    exact this
  · rw [if_neg h]
    exact Ev.neg (by simpa using h) (Ev.now _)

theorem l01In_spec (a b c : Int) : spec_l01In.f a b c = some (decide (b ≤ a ∧ a ≤ c)) := by
  unfold spec_l01In.f
  by_cases h : a ≥ b
  · rw [if_pos h]
    simp [show b ≤ a from h]
  · rw [if_neg h]
    simp [show ¬ b ≤ a from h]

theorem l06Mode_spec (a : Int) : spec_l06Mode.f a = some (decide (0 ≤ a ∧ a ≤ 2047)) := by
  unfold spec_l06Mode.f
  rw [l01In_spec]
  rfl

theorem permOf_spec_0 (m c : Int) : Ev (fun k => spec_PermOf.j0 k m c true) 0 := Ev.step (fun _ => spec_PermOf.j0.eq_2 ..) (Ev.pos rfl (Ev.now _))
theorem permOf_spec_2 (m : Int) (h0 : 0 ≤ m) : Ev (fun k => spec_PermOf.l0 k m 2) (m % 8) := by
  refine Ev.step (fun _ => spec_PermOf.l0.eq_2 ..) (Ev.neg (by decide) ?_)
  rw [Int.tmod_eq_emod_of_nonneg h0]
  exact Ev.now _
theorem permOf_spec_1 (m : Int) (h0 : 0 ≤ m) (h1 : m ≤ 2047) : Ev (fun k => spec_PermOf.l0 k m 1) (m / 8 % 8) := by
  refine Ev.step (fun _ => spec_PermOf.l0.eq_2 ..) (Ev.pos (by decide) ?_)
  rw [Int.tdiv_eq_ediv_of_nonneg h0, w64 (n := m / 8) (by omega) (by omega), show wrap64 (1 + 1) = 2 by unfold wrap64; omega]
  exact permOf_spec_2 _ (by omega)
theorem permOf_spec_zero (m : Int) (h0 : 0 ≤ m) (h1 : m ≤ 2047) : Ev (fun k => spec_PermOf.l0 k m 0) (m / 64 % 8) := by
  refine Ev.step (fun _ => spec_PermOf.l0.eq_2 ..) (Ev.pos (by decide) ?_)
  rw [Int.tdiv_eq_ediv_of_nonneg h0, w64 (n := m / 8) (by omega) (by omega), show wrap64 (0 + 1) = 1 by unfold wrap64; omega, show m / 64 = m / 8 / 8 by omega]
  exact permOf_spec_1 _ (by omega) (by omega)
theorem permOf_spec (m c : Int) : Ev (fun k => spec_PermOf.f k m c) (permOf m c) := by
  unfold spec_PermOf.f
  refine Ev.bind0 (l06Mode_spec m) ?_
  by_cases hm : 0 ≤ m ∧ m ≤ 2047
  · refine Ev.pos (by simpa using hm) (Ev.bind0 (l01In_spec c 0 2) ?_)
    by_cases hc : 0 ≤ c ∧ c ≤ 2
    · rw [show (!decide (0 ≤ c ∧ c ≤ 2)) = false by simp [hc]]
      refine Ev.step (fun _ => spec_PermOf.j0.eq_2 ..) (Ev.neg (by decide) ?_)
      unfold permOf
      rw [if_pos (show 0 ≤ m ∧ m ≤ 2047 ∧ 0 ≤ c ∧ c ≤ 2 by omega)]
      obtain rfl | rfl | rfl : c = 0 ∨ c = 1 ∨ c = 2 := by omega
      · exact permOf_spec_zero m hm.1 hm.2
      · exact permOf_spec_1 m hm.1 hm.2
      · exact permOf_spec_2 m hm.1
    · rw [show (!decide (0 ≤ c ∧ c ≤ 2)) = true by simp only [hc, decide_false, Bool.not_false]]
      unfold permOf
      rw [if_neg (by omega)]
      exact permOf_spec_0 m c
  · refine Ev.neg (by simpa using hm) ?_
    unfold permOf
    rw [if_neg (by omega)]
    exact permOf_spec_0 m c

theorem l06Bit_spec (b : Bool) (c : Int) : spec_l06Bit.f b (strOfNums [c]) = some (strOfNums [if b = false then 45 else c]) := by
  unfold spec_l06Bit.f
  cases b <;> rfl
theorem formatMode_bit {b : Bool} {q : Int} (c : Int) (h : b = !decide (q % 2 = 0)) : (if b = false then 45 else c) = (if q % 2 = 0 then 45 else c) := by
  subst h
  by_cases hq : q % 2 = 0
  · simp [hq]
  · simp [hq]
theorem formatMode_spec_step (n : Int) (h0 : 0 ≤ n) (h1 : n ≤ 2047) (c : Int) (hc : 0 ≤ c) (hc2 : c ≤ 2) (q : Int) (hq : permOf n c = q % 8) (pre : List Int) (r : ByteArray) (hp : pre.length ≤ 100)
    (h : Ev (fun k => spec_FormatMode.l0 k n (strOfNums (pre ++ [if q / 4 % 2 = 0 then 45 else 114, if q / 2 % 2 = 0 then 45 else 119, if q % 2 = 0 then 45 else 120])) (c + 1)) r) :
    Ev (fun k => spec_FormatMode.l0 k n (strOfNums pre) c) r := by
  have hr := permOf_range n c
  obtain ⟨m, hm⟩ := fin_of (m := 8) (x := permOf n c) hr.1 (by omega)
  have b4 := bit_4 m
  have b2 := bit_2 m
  have b1 := bit_1 m
  rw [hm] at b4 b2 b1
  refine Ev.step (fun _ => spec_FormatMode.l0.eq_2 ..) (Ev.pos (by omega) (Ev.bind (permOf_spec n c) ?_))
  refine Ev.bind0 (l06Bit_spec _ 114) (Ev.pos (by simp only [strOfNums_size, List.length_cons, List.length_nil]; omega) (Ev.bind0 (l06Bit_spec _ 119) ?_))
  rw [← strOfNums_append]
  refine Ev.pos (by simp only [strOfNums_size, List.length_append, List.length_cons, List.length_nil]; omega) (Ev.bind0 (l06Bit_spec _ 120) ?_)
  rw [← strOfNums_append]
  refine Ev.pos (by simp only [strOfNums_size, List.length_append, List.length_cons, List.length_nil]; omega) ?_
  rw [← strOfNums_append, w64 (n := c + 1) (by omega) (by omega)]
  rw [formatMode_bit 114 (q := permOf n c / 4) b4, formatMode_bit 119 (q := permOf n c / 2) b2, formatMode_bit 120 (q := permOf n c) b1, List.append_assoc, List.append_assoc]
  have q4 : (permOf n c / 4 % 2 = 0) = (q / 4 % 2 = 0) := by apply propext; omega
  have q2 : (permOf n c / 2 % 2 = 0) = (q / 2 % 2 = 0) := by apply propext; omega
  have q1 : (permOf n c % 2 = 0) = (q % 2 = 0) := by apply propext; omega
  simp only [q4, q2, q1]
  exact h
theorem formatMode_spec (n : Int) : Ev (fun k => spec_FormatMode.f k n) (formatMode n) := by
  unfold spec_FormatMode.f formatMode
  refine Ev.bind0 (l06Mode_spec n) ?_
  by_cases h : 0 ≤ n ∧ n ≤ 2047
  · rw [if_pos h]
    obtain ⟨m, hm⟩ := fin_of (m := 2048) (x := n) h.1 (by omega)
    have b1 := bit_1024 m
    have b2 := bit_512 m
    rw [hm] at b1 b2
    refine Ev.pos (by simpa using h) (Ev.bind0 (l06Bit_spec _ 115) (Ev.bind0 (l06Bit_spec _ 116) (Ev.pos (by simp only [strOfNums_size, List.length_cons, List.length_nil]; omega) ?_)))
    rw [← strOfNums_append, formatMode_bit 115 (q := n / 1024) b1, formatMode_bit 116 (q := n / 512) b2]
    refine formatMode_spec_step n h.1 h.2 0 (by decide) (by decide) (n / 64) ?_ _ _ (by simp) ?_
    · unfold permOf
      rw [if_pos (by omega), if_pos rfl]
    refine formatMode_spec_step n h.1 h.2 1 (by decide) (by decide) (n / 8) ?_ _ _ (by simp) ?_
    · unfold permOf
      rw [if_pos (by omega), if_neg (by decide), if_pos rfl]
    refine formatMode_spec_step n h.1 h.2 2 (by decide) (by decide) n ?_ _ _ (by simp) ?_
    · unfold permOf
      rw [if_pos (by omega), if_neg (by decide), if_neg (by decide)]
    refine Ev.step (fun _ => spec_FormatMode.l0.eq_2 ..) (Ev.neg (by decide) ?_)
    have e1 : (n / 64 / 4 % 2 = 0) = (n / 256 % 2 = 0) := by apply propext; omega
    have e2 : (n / 64 / 2 % 2 = 0) = (n / 128 % 2 = 0) := by apply propext; omega
    have e3 : (n / 8 / 4 % 2 = 0) = (n / 32 % 2 = 0) := by apply propext; omega
    have e4 : (n / 8 / 2 % 2 = 0) = (n / 16 % 2 = 0) := by apply propext; omega
    simp only [e1, e2, e3, e4]
    have : fmtL modeL n = [if n / 1024 % 2 = 0 then 45 else 115] ++ [if n / 512 % 2 = 0 then 45 else 116] ++ [if n / 256 % 2 = 0 then 45 else 114, if n / 128 % 2 = 0 then 45 else 119, if n / 64 % 2 = 0 then 45 else 120] ++
        [if n / 32 % 2 = 0 then 45 else 114, if n / 16 % 2 = 0 then 45 else 119, if n / 8 % 2 = 0 then 45 else 120] ++ [if n / 4 % 2 = 0 then 45 else 114, if n / 2 % 2 = 0 then 45 else 119, if n % 2 = 0 then 45 else 120] := by
      simp [fmtL, modeL]
    rw [this]
    exact Ev.now _
  · rw [if_neg h]
    exact Ev.neg (by simpa using h) (Ev.now _)


theorem FnExactFormatMode : laws_FnExactFormatMode.Pure := by
  intro n hn
  apply Ev.rounds
  unfold laws_FnExactFormatMode.f
  exact Ev.bind (formatMode_spec n) (Ev.bind (formatMode_impl n) (Ev.pos rfl (Ev.now _)))

end Go.Proofs.Ytcafdolliedcaaa.Pure
