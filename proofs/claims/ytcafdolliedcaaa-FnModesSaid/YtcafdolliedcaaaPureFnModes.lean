/- The law FnModes holds for every input of its kind; no further condition. -/
import Derived.Test.YtcafdolliedcaaaPFnModesx2
import Derived.Test.YtcafdolliedcaaaLibBase
import Derived.Test.YtcafdolliedcaaaLibModes
import Derived.Test.YtcafdolliedcaaaLibParseMode
namespace Go.Proofs.Ytcafdolliedcaaa.Pure
open Go.RowKit Go.Proofs.Ytcafdolliedcaaa.PFnModes Go.Proofs.Ytcafdolliedcaaa.Lib Go.Proofs.YtcafdolliedcaaaW.PrintWords Go.Proofs.YtcafdolliedcaaaW.PrintLast Go.Proofs.YtcafdolliedcaaaW.PrintMore
set_option linter.unusedVariables false
set_option linter.unusedSimpArgs false

theorem i64_and255 (n : Int) : Go.bits .and .i64 n 255 = n % 256 := by
  have h127 : (BitVec.ofInt 64 255).toNat = 2 ^ 8 - 1 := by decide
  have key : (BitVec.ofInt 64 n &&& BitVec.ofInt 64 255).toNat = (n % ((2 ^ 64 : Nat) : Int)).toNat % 2 ^ 8 := by
    rw [BitVec.toNat_and, BitVec.toNat_ofInt, h127, Nat.and_two_pow_sub_one_eq_mod]
  show IntKind.i64.wrap ((BitVec.ofInt 64 n &&& BitVec.ofInt 64 255).toNat : Nat) = n % 256
  rw [key, IntKind.wrap_i64]
  omega
theorem l01Byte_ex (s : List Int) (i h : Int) (h0 : 0 ≤ i) (h1 : i ≤ 1048576) (hs : s.length ≤ 1048576) : ∃ v i' h', spec_l01Byte.f s i h = some (v, i', h') ∧ 0 ≤ v ∧ v ≤ 255 ∧ 0 ≤ i' ∧ i' ≤ 1048576 := by
  unfold spec_l01Byte.f
  by_cases hl : i < (s.length : Int)
  · rw [if_pos hl, if_pos h0]
    refine ⟨_, _, _, rfl, ?_, ?_, ?_, ?_⟩
    · rw [i64_and255]; omega
    · rw [i64_and255]; omega
    · rw [w64 (n := i + 1) (by omega) (by omega)]; omega
    · rw [w64 (n := i + 1) (by omega) (by omega)]; omega
  · rw [if_neg hl]
    refine ⟨_, _, _, rfl, ?_, ?_, h0, h1⟩
    · rw [i64_and255]; omega
    · rw [i64_and255]; omega
theorem l01New_ex (s : List Int) (hs : s.length ≤ 1048576) (d : Nat) : ∀ (h i : Int), 0 ≤ i → i + d = (s.length : Int) → ∃ h', Ev (fun k => spec_l01New.l0 k s h i) (s, 0, h') := by
  induction d with
  | zero =>
    intro h i h0 hd
    exact ⟨h, Ev.step (fun _ => spec_l01New.l0.eq_2 ..) (Ev.neg (by omega) (Ev.now _))⟩
  | succ d ih =>
    intro h i h0 hd
    by_cases h4 : i < 4000
    · obtain ⟨h', g⟩ := ih (Go.bits .and .i64 (wrap64 ((wrap64 ((wrap64 (h * 73)) + (wrap64 (rd s i)))) + 7)) 1073741823) (i + 1) (by omega) (by omega)
      refine ⟨h', Ev.step (fun _ => spec_l01New.l0.eq_2 ..) (Ev.pos (by omega) (Ev.pos h4 (Ev.pos h0 ?_)))⟩
      rw [w64 (n := i + 1) (by omega) (by omega)]
      exact g
    · exact ⟨h, Ev.step (fun _ => spec_l01New.l0.eq_2 ..) (Ev.pos (by omega) (Ev.neg h4 (Ev.now _)))⟩
theorem l25New_l (s : List Int) (hs : s.length ≤ 1048576) (n : Int) (hn : n ≤ 1000) (d : Nat) : ∀ (j i h : Int), 0 ≤ j → j + d = n → 0 ≤ i → i ≤ 1048576 → ∃ i' h', Ev (fun k => spec_l25New.l0 k n j s i h) (s, i', h') ∧ 0 ≤ i' ∧ i' ≤ 1048576 := by
  induction d with
  | zero =>
    intro j i h j0 hd i0 i1
    exact ⟨i, h, Ev.step (fun _ => spec_l25New.l0.eq_2 ..) (Ev.neg (by omega) (Ev.now _)), i0, i1⟩
  | succ d ih =>
    intro j i h j0 hd i0 i1
    obtain ⟨v, i2, h2, e, _, _, a, b⟩ := l01Byte_ex s i h i0 i1 hs
    obtain ⟨i', h', g, c⟩ := ih (j + 1) i2 h2 (by omega) (by omega) a b
    refine ⟨i', h', Ev.step (fun _ => spec_l25New.l0.eq_2 ..) (Ev.pos (by omega) (Ev.bind0 e ?_)), c⟩
    rw [w64 (n := j + 1) (by omega) (by omega)]
    exact g
theorem l25New_ex (s : List Int) (hs : s.length ≤ 1048576) (n : Int) (h0 : 0 ≤ n) (hn : n ≤ 1000) : ∃ i' h', Ev (fun k => spec_l25New.f k s n) (s, i', h') ∧ 0 ≤ i' ∧ i' ≤ 1048576 := by
  unfold spec_l25New.f
  obtain ⟨h, g⟩ := l01New_ex s hs s.length (wrap64 (1263 + (s.length : Int))) 0 (by omega) (by omega)
  obtain ⟨i', h', g2, c⟩ := l25New_l s hs n hn n.toNat 0 0 h (by omega) (by omega) (by omega) (by omega)
  exact ⟨i', h', Ev.bind (g := fun k => spec_l01New.f k s) g g2, c⟩

theorem makeNum_ex (s : List Int) (hs : s.length ≤ 1048576) (n : Int) (h0 : 0 ≤ n) (hn : n ≤ 1000) : ∃ v, Ev (fun k => spec_MakeNum.f k s n) v ∧ 0 ≤ v ∧ v ≤ 65535 := by
  unfold spec_MakeNum.f
  obtain ⟨i, h, g, a, b⟩ := l25New_ex s hs n h0 hn
  obtain ⟨v, i2, h2, e, v0, v1, a2, b2⟩ := l01Byte_ex s i h a b hs
  obtain ⟨u, i3, h3, e2, u0, u1, _, _⟩ := l01Byte_ex s i2 h2 a2 b2 hs
  refine ⟨_, Ev.bind g (Ev.bind0 e (Ev.bind0 e2 (Ev.now _))), ?_, ?_⟩
  · simp only []
    rw [w64 (n := v * 256) (by omega) (by omega), w64 (by omega) (by omega)]
    omega
  · simp only []
    rw [w64 (n := v * 256) (by omega) (by omega), w64 (by omega) (by omega)]
    omega

theorem isMode_impl (a : Int) : impl_isMode.f a = some (decide (0 ≤ a ∧ a ≤ 2047)) := by
  unfold impl_isMode.f
  by_cases h : a ≥ 0
  · rw [if_pos h]
    simp [show 0 ≤ a from h]
  · rw [if_neg h]
    simp [show ¬ 0 ≤ a from h]

theorem formatMode_impl_l (n : Int) (h0 : 0 ≤ n) (h1 : n ≤ 2047) (l : List Int) : ∀ (i : Int) (xs : List Int), 0 ≤ i → xs.drop i.toNat = l → xs.length = 11 → Ev (fun k => impl_FormatMode.l0 k n xs 11 i) (strOfNums (xs.take i.toNat ++ fmtL l n)) := by
  induction l with
  | nil =>
    intro i xs hi h hl
    have := ldrop_nil hi h
    refine Ev.step (fun _ => impl_FormatMode.l0.eq_2 ..) (Ev.neg (by omega) ?_)
    rw [List.take_of_length_le (by omega), fmtL, List.append_nil]
    exact Ev.now _
  | cons c l ih =>
    intro i xs hi h hl
    obtain ⟨a, b, e, f⟩ := ldrop_cons (0 : Int) hi h
    have lt : i.toNat < xs.length := by omega
    have e1 : (i + 1).toNat = i.toNat + 1 := by omega
    have e2 : n / 2 ^ l.length ≤ n := Int.ediv_le_self _ h0
    have e3 : 0 ≤ n / 2 ^ l.length := Int.ediv_nonneg h0 (Int.pow_nonneg (by decide))
    have hc : xs[i.toNat] = c := by
      have := List.drop_eq_getElem_cons lt
      rw [h] at this
      injection this with this _
      exact this.symm
    refine Ev.step (fun _ => impl_FormatMode.l0.eq_2 ..) (Ev.pos (by omega) ?_)
    rw [w64 (n := 10 - i) (by omega) (by omega), w64 (n := i + 1) (by omega) (by omega), shr_at l.length (by omega) (by omega), i64_and1 e3 (by omega), fmtL]
    refine Ev.pos (by omega) ?_
    by_cases hb : n / 2 ^ l.length % 2 = 0
    · refine Ev.pos hb (Ev.pos hi (Ev.pos a ?_))
      rw [if_pos hb]
      have := ih (i + 1) (xs.set i.toNat 45) (by omega) (by rw [e1, List.drop_set_of_lt (by omega), ← e1]; exact e) (by rw [List.length_set]; exact hl)
      rw [e1, List.take_succ_eq_append_getElem (by rw [List.length_set]; exact lt), List.getElem_set_self, List.take_set_of_le (Nat.le_refl _), List.append_assoc] at this
      rw [e1] at *
      exact this
    · refine Ev.neg hb ?_
      rw [if_neg hb]
      have := ih (i + 1) xs (by omega) e hl
      rw [e1, List.take_succ_eq_append_getElem lt, hc, List.append_assoc] at this
      rw [e1] at *
      exact this
theorem formatMode_impl (n : Int) : Ev (fun k => impl_FormatMode.f k n) (formatMode n) := by
  unfold impl_FormatMode.f formatMode
  refine Ev.bind0 (isMode_impl n) ?_
  by_cases h : 0 ≤ n ∧ n ≤ 2047
  · rw [if_pos h]
    refine Ev.pos (by simpa using h) (Ev.bind0 rfl ?_)
    have := formatMode_impl_l n h.1 h.2 modeL 0 modeL (by decide) rfl rfl
    exact this
  · rw [if_neg h]
    exact Ev.neg (by simpa using h) (Ev.now _)

theorem parseMode_impl_l {s : ByteArray} (hs : s.size = 11) (l : List Int) : ∀ (i n : Int), 0 ≤ i → (bytesOf s).drop i.toNat = l → 0 ≤ n → n < 2 ^ i.toNat →
    Ev (fun k => impl_ParseMode.l0 k s n 11 i) (if okL (modeL.drop i.toNat) l = true then (numL l n, true) else (0, false)) := by
  induction l with
  | nil =>
    intro i n h0 h hn hn'
    have := bdrop_nil h0 h
    refine Ev.step (fun _ => impl_ParseMode.l0.eq_2 ..) (Ev.neg (by omega) ?_)
    rw [List.drop_eq_nil_of_le (by simp only [modeL, List.length_cons, List.length_nil]; omega), okL, if_pos rfl]
    exact Ev.now _
  | cons x l ih =>
    intro i n h0 h hn hn'
    obtain ⟨a, b, c, e⟩ := bdrop_cons h0 h
    have hi : i.toNat ≤ 10 := by omega
    have hpow : (2 : Int) ^ i.toNat ≤ 2 ^ 10 := by exact_mod_cast Nat.pow_le_pow_right (by decide) hi
    have e1 : (i + 1).toNat = i.toNat + 1 := by omega
    have hp2 : (2 : Int) ^ (i + 1).toNat = 2 * 2 ^ i.toNat := by rw [e1, Int.pow_succ, Int.mul_comm]
    have lt : i.toNat < modeL.length := by simp only [modeL, List.length_cons, List.length_nil]; omega
    have hm := List.drop_eq_getElem_cons lt
    have hmb : bt (⟨#[115, 116, 114, 119, 120, 114, 119, 120, 114, 119, 120]⟩ : ByteArray) i = modeL[i.toNat] := by
      have e0 : bytesOf (⟨#[115, 116, 114, 119, 120, 114, 119, 120, 114, 119, 120]⟩ : ByteArray) = modeL := by decide
      rw [← rd_bytesOf, e0]
      unfold rd
      rw [List.getD_eq_getElem?_getD, List.getElem?_eq_getElem lt]
      rfl
    refine Ev.step (fun _ => impl_ParseMode.l0.eq_2 ..) (Ev.pos (by omega) (Ev.pos h0 (Ev.pos (by omega) (Ev.pos (by omega) ?_))))
    rw [hmb, b, w64 (n := n * 2) (by omega) (by omega), w64 (n := n * 2 + 1) (by omega) (by omega), w64 (n := i + 1) (by omega) (by omega), hm, okL]
    have hne : modeL[i.toNat] ≠ 45 := modeL_ne _ (List.getElem_mem lt)
    by_cases h1 : x = modeL[i.toNat]
    · refine Ev.pos h1 ?_
      have := ih (i + 1) (n * 2 + 1) (by omega) c (by omega) (by omega)
      rw [← h1] at hne ⊢
      rw [numL, if_neg hne, show 2 * n + 1 = n * 2 + 1 by omega]
      rw [e1] at this
      simpa using this
    · refine Ev.neg h1 ?_
      by_cases h2 : x = 45
      · refine Ev.pos h2 ?_
        have := ih (i + 1) (n * 2) (by omega) c (by omega) (by omega)
        rw [numL, if_pos h2, show 2 * n + 0 = n * 2 by omega]
        rw [e1] at this
        simpa [h2] using this
      · refine Ev.neg h2 ?_
        simp only [h1, h2, beq_iff_eq, Bool.or_eq_true, Bool.and_eq_true, or_self, false_and, if_false]
        exact Ev.now _
theorem parseMode_impl (s : ByteArray) : Ev (fun k => impl_ParseMode.f k s) (parseMode s) := by
  unfold impl_ParseMode.f parseMode
  by_cases h : (s.size : Int) = 11
  · refine Ev.pos h ?_
    have := parseMode_impl_l (s := s) (by omega) (bytesOf s) 0 0 (by decide) rfl (by decide) (by decide)
    rw [h]
    exact this
  · refine Ev.neg h ?_
    rw [if_neg (fun hk => h (by have := okL_length _ _ hk; rw [bytesOf_length] at this; rw [this]; rfl))]
    exact Ev.now _

theorem permOf_impl (m c : Int) : impl_PermOf.f m c = some (permOf m c) := by
  unfold impl_PermOf.f
  rw [isMode_impl]
  simp only [Option.bind_some, decide_eq_true_eq]
  by_cases hm : 0 ≤ m ∧ m ≤ 2047
  · rw [if_pos hm]
    by_cases h1 : c < 0
    · rw [if_pos h1]
      unfold permOf
      rw [if_neg (by omega)]
    · rw [if_neg h1]
      by_cases h2 : c > 2
      · rw [if_pos h2]
        unfold permOf
        rw [if_neg (by omega)]
      · rw [if_neg h2]
        unfold permOf
        rw [if_pos (show 0 ≤ m ∧ m ≤ 2047 ∧ 0 ≤ c ∧ c ≤ 2 by omega)]
        obtain rfl | rfl | rfl : c = 0 ∨ c = 1 ∨ c = 2 := by omega
        · rw [show wrap64 (6 - wrap64 (3 * 0)) = 6 by unfold wrap64; omega, if_pos (by decide), shr_at (y := 6) 6 rfl (by decide), i64_and7 (by omega) (by omega), if_pos rfl]
          rfl
        · rw [show wrap64 (6 - wrap64 (3 * 1)) = 3 by unfold wrap64; omega, if_pos (by decide), shr_at (y := 3) 3 rfl (by decide), i64_and7 (by omega) (by omega), if_neg (by decide), if_pos rfl]
          rfl
        · rw [show wrap64 (6 - wrap64 (3 * 2)) = 0 by unfold wrap64; omega, if_pos (by decide), shr_at (y := 0) 0 rfl (by decide), i64_and7 (by omega) (by omega), if_neg (by decide), if_neg (by decide)]
          simp
  · rw [if_neg hm]
    unfold permOf
    rw [if_neg (by omega)]

theorem fmt_all : ∀ m : Fin 2048, okL modeL (fmtL modeL (m.val : Int)) = true ∧ numL (fmtL modeL (m.val : Int)) 0 = (m.val : Int) := by decide +kernel
theorem parse_fmt {n : Int} (h0 : 0 ≤ n) (h1 : n ≤ 2047) : parseMode (formatMode n) = (n, true) := by
  obtain ⟨m, hm⟩ := fin_of (m := 2048) h0 (by omega)
  have h := fmt_all m
  rw [hm] at h
  have e : formatMode n = strOfNums (fmtL modeL n) := by
    unfold formatMode
    exact if_pos ⟨h0, h1⟩
  rw [e]
  unfold parseMode
  rw [bytesOf_strOfNums (fmtL_range modeL (by decide) n), if_pos h.1, h.2]
theorem FnModes : laws_FnModes.Pure := by
  intro s h1 h2 h3
  apply Ev.rounds
  unfold laws_FnModes.f
  by_cases hb : (s.length : Int) > 1048576
  · exact Ev.pos hb (Ev.now _)
  · obtain ⟨x, x1, x2, x3⟩ := makeNum_ex s (by omega) 1 (by omega) (by omega)
    have r0 : 0 ≤ Int.tmod x 2048 ∧ Int.tmod x 2048 ≤ 2047 := by
      rw [Int.tmod_eq_emod_of_nonneg x2]
      omega
    have pf := parseMode_impl (formatMode (Int.tmod x 2048))
    rw [parse_fmt r0.1 r0.2] at pf
    have pb := parseMode_impl (⟨#[114, 119, 120, 114, 119, 120, 114, 119, 120]⟩ : ByteArray)
    rw [show parseMode (⟨#[114, 119, 120, 114, 119, 120, 114, 119, 120]⟩ : ByteArray) = (0, false) by decide +kernel] at pb
    refine Ev.neg hb (Ev.bind x1 (Ev.bind (formatMode_impl _) (Ev.bind pf (Ev.bind pb (Ev.pos rfl (Ev.pos rfl (Ev.neg (by simp) (Ev.bind0 (permOf_impl _ 0) (Ev.bind0 (permOf_impl _ 1) (Ev.bind0 (permOf_impl _ 2) ?_))))))))))
    have e : (wrap64 ((wrap64 ((wrap64 (permOf (Int.tmod x 2048) 0 * 64)) + (wrap64 (permOf (Int.tmod x 2048) 1 * 8)))) + permOf (Int.tmod x 2048) 2) == Int.tmod (Int.tmod x 2048) 512) = true := by
      have g0 := permOf_range (Int.tmod x 2048) 0
      have g1 := permOf_range (Int.tmod x 2048) 1
      have g2 := permOf_range (Int.tmod x 2048) 2
      rw [w64 (n := permOf (Int.tmod x 2048) 0 * 64) (by omega) (by omega), w64 (n := permOf (Int.tmod x 2048) 1 * 8) (by omega) (by omega), w64 (n := permOf (Int.tmod x 2048) 0 * 64 + permOf (Int.tmod x 2048) 1 * 8) (by omega) (by omega), w64 (by omega) (by omega), beq_iff_eq, Int.tmod_eq_emod_of_nonneg r0.1]
      unfold permOf
      rw [if_pos (by omega), if_pos rfl, if_pos (by omega), if_neg (by decide), if_pos rfl, if_pos (by omega), if_neg (by decide), if_neg (by decide)]
      omega
    rw [e]
    exact Ev.now _

end Go.Proofs.Ytcafdolliedcaaa.Pure
