/- The law FnExactParseMode holds for every input of its kind; no further condition. -/
import Derived.Test.YtcafdolliedcaaaPFnExactParseModex1
import Derived.Test.YtcafdolliedcaaaLibBase
import Derived.Test.YtcafdolliedcaaaLibParseMode
import Derived.Test.YtcafdolliedcaaaLibModes
namespace Go.Proofs.Ytcafdolliedcaaa.Pure
open Go.RowKit Go.Proofs.Ytcafdolliedcaaa.PFnExactParseMode Go.Proofs.Ytcafdolliedcaaa.Lib Go.Proofs.YtcafdolliedcaaaW.PrintWords Go.Proofs.YtcafdolliedcaaaW.PrintLast Go.Proofs.YtcafdolliedcaaaW.PrintMore
set_option linter.unusedVariables false
set_option linter.unusedSimpArgs false

theorem parseMode_impl_l {s : ByteArray} (hs : s.size = 11) (l : List Int) : ∀ (i n : Int), 0 ≤ i → (bytesOf s).drop i.toNat = l → 0 ≤ n → n < 2 ^ i.toNat →
    Ev (fun k => impl_ParseMode.l0 k s n 11 i) (if okL (modeL.drop i.toNat) l = true then (numL l n, true) else (0, false)) := by
  induction l with
  | nil =>
    intro i n h0 h hn hn'
    have := bdrop_nil h0 h
    refine Ev.step (fun _ => impl_ParseMode.l0.eq_2 ..) (Ev.neg (by omega) ?_)
    rw [List.drop_eq_nil_of_le (by simp only [modeL, List.length_cons, List.length_nil]; omega), okL, if_pos rfl]
    exact Ev.now _
  | cons x l ih =>
    intro i n h0 h hn hn'
    obtain ⟨a, b, c, e⟩ := bdrop_cons h0 h
    have hi : i.toNat ≤ 10 := by omega
    have hpow : (2 : Int) ^ i.toNat ≤ 2 ^ 10 := by exact_mod_cast Nat.pow_le_pow_right (by decide) hi
    have e1 : (i + 1).toNat = i.toNat + 1 := by omega
    have hp2 : (2 : Int) ^ (i + 1).toNat = 2 * 2 ^ i.toNat := by rw [e1, Int.pow_succ, Int.mul_comm]
    have lt : i.toNat < modeL.length := by simp only [modeL, List.length_cons, List.length_nil]; omega
    have hm := List.drop_eq_getElem_cons lt
    have hmb : bt (⟨#[115, 116, 114, 119, 120, 114, 119, 120, 114, 119, 120]⟩ : ByteArray) i = modeL[i.toNat] := by
      have e0 : bytesOf (⟨#[115, 116, 114, 119, 120, 114, 119, 120, 114, 119, 120]⟩ : ByteArray) = modeL := by decide
      rw [← rd_bytesOf, e0]
      unfold rd
      rw [List.getD_eq_getElem?_getD, List.getElem?_eq_getElem lt]
      rfl
    refine Ev.step (fun _ => impl_ParseMode.l0.eq_2 ..) (Ev.pos (by omega) (Ev.pos h0 (Ev.pos (by omega) (Ev.pos (by omega) ?_))))
    rw [hmb, b, w64 (n := n * 2) (by omega) (by omega), w64 (n := n * 2 + 1) (by omega) (by omega), w64 (n := i + 1) (by omega) (by omega), hm, okL]
    have hne : modeL[i.toNat] ≠ 45 := modeL_ne _ (List.getElem_mem lt)
    by_cases h1 : x = modeL[i.toNat]
    · refine Ev.pos h1 ?_
      have := ih (i + 1) (n * 2 + 1) (by omega) c (by omega) (by omega)
      rw [← h1] at hne ⊢
      rw [numL, if_neg hne, show 2 * n + 1 = n * 2 + 1 by omega]
      rw [e1] at this
      simpa using this
    · refine Ev.neg h1 ?_
      by_cases h2 : x = 45
      · refine Ev.pos h2 ?_
        have := ih (i + 1) (n * 2) (by omega) c (by omega) (by omega)
        rw [numL, if_pos h2, show 2 * n + 0 = n * 2 by omega]
        rw [e1] at this
        simpa [h2] using this
      · refine Ev.neg h2 ?_
        simp only [h1, h2, beq_iff_eq, Bool.or_eq_true, Bool.and_eq_true, or_self, false_and, if_false]
        exact Ev.now _
theorem parseMode_impl (s : ByteArray) : Ev (fun k => impl_ParseMode.f k s) (parseMode s) := by
  unfold impl_ParseMode.f parseMode
  by_cases h : (s.size : Int) = 11
  · refine Ev.pos h ?_
    have := parseMode_impl_l (s := s) (by omega) (bytesOf s) 0 0 (by decide) rfl (by decide) (by decide)
    rw [h]
    exact this
  · refine Ev.neg h ?_
    rw [if_neg (fun hk => h (by have := okL_length _ _ hk; rw [bytesOf_length] at this; rw [this]; rfl))]
    exact Ev.now _

theorem l01In_spec (a b c : Int) : spec_l01In.f a b c = some (decide (b ≤ a ∧ a ≤ c)) := by
  unfold spec_l01In.f
  by_cases h : a ≥ b
  · rw [if_pos h]
    simp [show b ≤ a from h]
  · rw [if_neg h]
    simp [show ¬ b ≤ a from h]

theorem l06Mode_spec (a : Int) : spec_l06Mode.f a = some (decide (0 ≤ a ∧ a ≤ 2047)) := by
  unfold spec_l06Mode.f
  rw [l01In_spec]
  rfl

theorem permOf_spec_0 (m c : Int) : Ev (fun k => spec_PermOf.j0 k m c true) 0 := Ev.step (fun _ => spec_PermOf.j0.eq_2 ..) (Ev.pos rfl (Ev.now _))
theorem permOf_spec_2 (m : Int) (h0 : 0 ≤ m) : Ev (fun k => spec_PermOf.l0 k m 2) (m % 8) := by
  refine Ev.step (fun _ => spec_PermOf.l0.eq_2 ..) (Ev.neg (by decide) ?_)
  rw [Int.tmod_eq_emod_of_nonneg h0]
  exact Ev.now _
theorem permOf_spec_1 (m : Int) (h0 : 0 ≤ m) (h1 : m ≤ 2047) : Ev (fun k => spec_PermOf.l0 k m 1) (m / 8 % 8) := by
  refine Ev.step (fun _ => spec_PermOf.l0.eq_2 ..) (Ev.pos (by decide) ?_)
  rw [Int.tdiv_eq_ediv_of_nonneg h0, w64 (n := m / 8) (by omega) (by omega), show wrap64 (1 + 1) = 2 by unfold wrap64; omega]
  exact permOf_spec_2 _ (by omega)
theorem permOf_spec_zero (m : Int) (h0 : 0 ≤ m) (h1 : m ≤ 2047) : Ev (fun k => spec_PermOf.l0 k m 0) (m / 64 % 8) := by
  refine Ev.step (fun _ => spec_PermOf.l0.eq_2 ..) (Ev.pos (by decide) ?_)
  rw [Int.tdiv_eq_ediv_of_nonneg h0, w64 (n := m / 8) (by omega) (by omega), show wrap64 (0 + 1) = 1 by unfold wrap64; omega, show m / 64 = m / 8 / 8 by omega]
  exact permOf_spec_1 _ (by omega) (by omega)
theorem permOf_spec (m c : Int) : Ev (fun k => spec_PermOf.f k m c) (permOf m c) := by
  unfold spec_PermOf.f
  refine Ev.bind0 (l06Mode_spec m) ?_
  by_cases hm : 0 ≤ m ∧ m ≤ 2047
  · refine Ev.pos (by simpa using hm) (Ev.bind0 (l01In_spec c 0 2) ?_)
    by_cases hc : 0 ≤ c ∧ c ≤ 2
    · rw [show (!decide (0 ≤ c ∧ c ≤ 2)) = false by simp [hc]]
      refine Ev.step (fun _ => spec_PermOf.j0.eq_2 ..) (Ev.neg (by decide) ?_)
      unfold permOf
      rw [if_pos (show 0 ≤ m ∧ m ≤ 2047 ∧ 0 ≤ c ∧ c ≤ 2 by omega)]
      obtain rfl | rfl | rfl : c = 0 ∨ c = 1 ∨ c = 2 := by omega
      · exact permOf_spec_zero m hm.1 hm.2
      · exact permOf_spec_1 m hm.1 hm.2
      · exact permOf_spec_2 m hm.1
    · rw [show (!decide (0 ≤ c ∧ c ≤ 2)) = true by simp only [hc, decide_false, Bool.not_false]]
      unfold permOf
      rw [if_neg (by omega)]
      exact permOf_spec_0 m c
  · refine Ev.neg (by simpa using hm) ?_
    unfold permOf
    rw [if_neg (by omega)]
    exact permOf_spec_0 m c

theorem l06Bit_spec (b : Bool) (c : Int) : spec_l06Bit.f b (strOfNums [c]) = some (strOfNums [if b = false then 45 else c]) := by
  unfold spec_l06Bit.f
  cases b <;> rfl
theorem formatMode_bit {b : Bool} {q : Int} (c : Int) (h : b = !decide (q % 2 = 0)) : (if b = false then 45 else c) = (if q % 2 = 0 then 45 else c) := by
  subst h
  by_cases hq : q % 2 = 0
  · simp [hq]
  · simp [hq]
theorem formatMode_spec_step (n : Int) (h0 : 0 ≤ n) (h1 : n ≤ 2047) (c : Int) (hc : 0 ≤ c) (hc2 : c ≤ 2) (q : Int) (hq : permOf n c = q % 8) (pre : List Int) (r : ByteArray) (hp : pre.length ≤ 100)
    (h : Ev (fun k => spec_FormatMode.l0 k n (strOfNums (pre ++ [if q / 4 % 2 = 0 then 45 else 114, if q / 2 % 2 = 0 then 45 else 119, if q % 2 = 0 then 45 else 120])) (c + 1)) r) :
    Ev (fun k => spec_FormatMode.l0 k n (strOfNums pre) c) r := by
  have hr := permOf_range n c
  obtain ⟨m, hm⟩ := fin_of (m := 8) (x := permOf n c) hr.1 (by omega)
  have b4 := bit_4 m
  have b2 := bit_2 m
  have b1 := bit_1 m
  rw [hm] at b4 b2 b1
  refine Ev.step (fun _ => spec_FormatMode.l0.eq_2 ..) (Ev.pos (by omega) (Ev.bind (permOf_spec n c) ?_))
  refine Ev.bind0 (l06Bit_spec _ 114) (Ev.pos (by simp only [strOfNums_size, List.length_cons, List.length_nil]; omega) (Ev.bind0 (l06Bit_spec _ 119) ?_))
  rw [← strOfNums_append]
  refine Ev.pos (by simp only [strOfNums_size, List.length_append, List.length_cons, List.length_nil]; omega) (Ev.bind0 (l06Bit_spec _ 120) ?_)
  rw [← strOfNums_append]
  refine Ev.pos (by simp only [strOfNums_size, List.length_append, List.length_cons, List.length_nil]; omega) ?_
  rw [← strOfNums_append, w64 (n := c + 1) (by omega) (by omega)]
  rw [formatMode_bit 114 (q := permOf n c / 4) b4, formatMode_bit 119 (q := permOf n c / 2) b2, formatMode_bit 120 (q := permOf n c) b1, List.append_assoc, List.append_assoc]
  have q4 : (permOf n c / 4 % 2 = 0) = (q / 4 % 2 = 0) := by apply propext; omega
  have q2 : (permOf n c / 2 % 2 = 0) = (q / 2 % 2 = 0) := by apply propext; omega
  have q1 : (permOf n c % 2 = 0) = (q % 2 = 0) := by apply propext; omega
  simp only [q4, q2, q1]
  exact h
theorem formatMode_spec (n : Int) : Ev (fun k => spec_FormatMode.f k n) (formatMode n) := by
  unfold spec_FormatMode.f formatMode
  refine Ev.bind0 (l06Mode_spec n) ?_
  by_cases h : 0 ≤ n ∧ n ≤ 2047
  · rw [if_pos h]
    obtain ⟨m, hm⟩ := fin_of (m := 2048) (x := n) h.1 (by omega)
    have b1 := bit_1024 m
    have b2 := bit_512 m
    rw [hm] at b1 b2
    refine Ev.pos (by simpa using h) (Ev.bind0 (l06Bit_spec _ 115) (Ev.bind0 (l06Bit_spec _ 116) (Ev.pos (by simp only [strOfNums_size, List.length_cons, List.length_nil]; omega) ?_)))
    rw [← strOfNums_append, formatMode_bit 115 (q := n / 1024) b1, formatMode_bit 116 (q := n / 512) b2]
    refine formatMode_spec_step n h.1 h.2 0 (by decide) (by decide) (n / 64) ?_ _ _ (by simp) ?_
    · unfold permOf
      rw [if_pos (by omega), if_pos rfl]
    refine formatMode_spec_step n h.1 h.2 1 (by decide) (by decide) (n / 8) ?_ _ _ (by simp) ?_
    · unfold permOf
      rw [if_pos (by omega), if_neg (by decide), if_pos rfl]
    refine formatMode_spec_step n h.1 h.2 2 (by decide) (by decide) n ?_ _ _ (by simp) ?_
    · unfold permOf
      rw [if_pos (by omega), if_neg (by decide), if_neg (by decide)]
    refine Ev.step (fun _ => spec_FormatMode.l0.eq_2 ..) (Ev.neg (by decide) ?_)
    have e1 : (n / 64 / 4 % 2 = 0) = (n / 256 % 2 = 0) := by apply propext; omega
    have e2 : (n / 64 / 2 % 2 = 0) = (n / 128 % 2 = 0) := by apply propext; omega
    have e3 : (n / 8 / 4 % 2 = 0) = (n / 32 % 2 = 0) := by apply propext; omega
    have e4 : (n / 8 / 2 % 2 = 0) = (n / 16 % 2 = 0) := by apply propext; omega
    simp only [e1, e2, e3, e4]
    have : fmtL modeL n = [if n / 1024 % 2 = 0 then 45 else 115] ++ [if n / 512 % 2 = 0 then 45 else 116] ++ [if n / 256 % 2 = 0 then 45 else 114, if n / 128 % 2 = 0 then 45 else 119, if n / 64 % 2 = 0 then 45 else 120] ++
        [if n / 32 % 2 = 0 then 45 else 114, if n / 16 % 2 = 0 then 45 else 119, if n / 8 % 2 = 0 then 45 else 120] ++ [if n / 4 % 2 = 0 then 45 else 114, if n / 2 % 2 = 0 then 45 else 119, if n % 2 = 0 then 45 else 120] := by
      simp [fmtL, modeL]
    rw [this]
    exact Ev.now _
  · rw [if_neg h]
    exact Ev.neg (by simpa using h) (Ev.now _)

theorem parseMode_spec_end {s : ByteArray} {n i : Int} (h0 : 0 ≤ n) (h1 : n ≤ 2047) (hn : n = numL ((bytesOf s).take 11) 0) : Ev (fun k => spec_ParseMode.j1 k s n i false) (parseMode s) := by
  refine Ev.step (fun _ => spec_ParseMode.j1.eq_2 ..) (Ev.neg (by decide) (Ev.bind (formatMode_spec n) ?_))
  have := parse_format h0 h1 s hn
  unfold parseMode
  by_cases h : okL modeL (bytesOf s) = true
  · rw [if_pos h]
    refine Ev.pos (by rw [this.2 h]) ?_
    have hl := okL_length _ _ h
    rw [List.take_of_length_le (by rw [hl]; decide)] at hn
    rw [hn]
    exact Ev.now _
  · rw [if_neg h]
    exact Ev.neg (fun hk => h (this.1 ((ba_eq_iff _ _).1 hk))) (Ev.now _)
theorem parseMode_spec_l {s : ByteArray} (hs : s.size ≤ 140737488351232) (l : List Int) : ∀ (i n : Int), 0 ≤ i → i ≤ 11 → ((bytesOf s).take 11).drop i.toNat = l → 0 ≤ n → n < 2 ^ i.toNat → numL l n = numL ((bytesOf s).take 11) 0 →
    Ev (fun k => spec_ParseMode.l0 k s n i) (parseMode s) := by
  have hlen : ((bytesOf s).take 11).length = min 11 s.size := by rw [List.length_take, bytesOf_length]
  induction l with
  | nil =>
    intro i n h0 h11 h hn hn' hv
    have h3 := ldrop_nil h0 h
    rw [hlen] at h3
    have hpow : (2 : Int) ^ i.toNat ≤ 2 ^ 11 := by exact_mod_cast Nat.pow_le_pow_right (by decide) (by omega)
    have hend : Ev (fun k => spec_ParseMode.j1 k s n i false) (parseMode s) := parseMode_spec_end hn (by omega) hv
    refine Ev.step (fun _ => spec_ParseMode.l0.eq_2 ..) ?_
    by_cases hlt : i < (s.size : Int)
    · refine Ev.pos hlt ?_
      rw [show decide (i < 11) = false by simp only [decide_eq_false_iff_not]; omega]
      exact hend
    · exact Ev.neg hlt hend
  | cons x l ih =>
    intro i n h0 h11 h hn hn' hv
    obtain ⟨a, b, c, e⟩ := ldrop_cons (0 : Int) h0 h
    rw [hlen] at a e
    have hb : bt s i = x := by
      rw [← rd_bytesOf, ← b]
      unfold rd rdOf
      rw [List.getD_eq_getElem?_getD, List.getD_eq_getElem?_getD, List.getElem?_take_of_lt (by omega)]
    have hi : i.toNat ≤ 10 := by omega
    have hpow : (2 : Int) ^ i.toNat ≤ 2 ^ 10 := by exact_mod_cast Nat.pow_le_pow_right (by decide) hi
    have e1 : (i + 1).toNat = i.toNat + 1 := by omega
    have hp2 : (2 : Int) ^ (i + 1).toNat = 2 * 2 ^ i.toNat := by rw [e1, Int.pow_succ, Int.mul_comm]
    refine Ev.step (fun _ => spec_ParseMode.l0.eq_2 ..) (Ev.pos (by omega) ?_)
    rw [show decide (i < 11) = true by simp only [decide_eq_true_eq]; omega]
    refine Ev.step (fun _ => spec_ParseMode.j1.eq_2 ..) (Ev.pos rfl (Ev.pos h0 (Ev.pos (by omega) ?_)))
    rw [hb, w64 (n := 2 * n) (by omega) (by omega), w64 (n := 2 * n + 1) (by omega) (by omega), w64 (n := i + 1) (by omega) (by omega)]
    rw [numL] at hv
    by_cases hx : x = 45
    · rw [if_pos hx, Int.add_zero] at hv
      exact Ev.pos hx (ih (i + 1) (2 * n) (by omega) (by omega) c (by omega) (by omega) hv)
    · rw [if_neg hx] at hv
      exact Ev.neg hx (ih (i + 1) (2 * n + 1) (by omega) (by omega) c (by omega) (by omega) hv)
theorem parseMode_spec {s : ByteArray} (hs : s.size ≤ 140737488351232) : Ev (fun k => spec_ParseMode.f k s) (parseMode s) := by
  unfold spec_ParseMode.f
  exact parseMode_spec_l hs _ 0 0 (by decide) (by decide) rfl (by decide) (by decide) rfl


theorem FnExactParseMode : laws_FnExactParseMode.Pure := by
  intro s hs
  apply Ev.rounds
  unfold laws_FnExactParseMode.f
  by_cases hn : (s.size : Int) > 1048576
  · exact Ev.pos hn (Ev.now _)
  · exact Ev.neg hn (Ev.bind (parseMode_spec hs) (Ev.bind (parseMode_impl s) (Ev.pos rfl (Ev.neg (by simp) (Ev.now _)))))

end Go.Proofs.Ytcafdolliedcaaa.Pure
