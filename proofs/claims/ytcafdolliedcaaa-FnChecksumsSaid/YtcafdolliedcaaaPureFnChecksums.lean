/- The law FnChecksums holds for every input of its kind; no further condition. -/
import Derived.Test.YtcafdolliedcaaaPFnChecksumsx1
import Derived.Test.YtcafdolliedcaaaLibBase
import Derived.Test.YtcafdolliedcaaaLibCheck
namespace Go.Proofs.Ytcafdolliedcaaa.Pure
open Go.RowKit Go.Proofs.Ytcafdolliedcaaa.PFnChecksums Go.Proofs.Ytcafdolliedcaaa.Lib Go.Proofs.YtcafdolliedcaaaW.PrintWords Go.Proofs.YtcafdolliedcaaaW.PrintLast Go.Proofs.YtcafdolliedcaaaW.PrintMore
set_option linter.unusedVariables false
set_option linter.unusedSimpArgs false

theorem i64_and255 (n : Int) : Go.bits .and .i64 n 255 = n % 256 := by
  have h127 : (BitVec.ofInt 64 255).toNat = 2 ^ 8 - 1 := by decide
  have key : (BitVec.ofInt 64 n &&& BitVec.ofInt 64 255).toNat = (n % ((2 ^ 64 : Nat) : Int)).toNat % 2 ^ 8 := by
    rw [BitVec.toNat_and, BitVec.toNat_ofInt, h127, Nat.and_two_pow_sub_one_eq_mod]
  show IntKind.i64.wrap ((BitVec.ofInt 64 n &&& BitVec.ofInt 64 255).toNat : Nat) = n % 256
  rw [key, IntKind.wrap_i64]
  omega
theorem l01Byte_ex (s : List Int) (i h : Int) (h0 : 0 ≤ i) (h1 : i ≤ 1048576) (hs : s.length ≤ 1048576) : ∃ v i' h', spec_l01Byte.f s i h = some (v, i', h') ∧ 0 ≤ v ∧ v ≤ 255 ∧ 0 ≤ i' ∧ i' ≤ 1048576 := by
  unfold spec_l01Byte.f
  by_cases hl : i < (s.length : Int)
  · rw [if_pos hl, if_pos h0]
    refine ⟨_, _, _, rfl, ?_, ?_, ?_, ?_⟩
    · rw [i64_and255]; omega
    · rw [i64_and255]; omega
    · rw [w64 (n := i + 1) (by omega) (by omega)]; omega
    · rw [w64 (n := i + 1) (by omega) (by omega)]; omega
  · rw [if_neg hl]
    refine ⟨_, _, _, rfl, ?_, ?_, h0, h1⟩
    · rw [i64_and255]; omega
    · rw [i64_and255]; omega
theorem l01New_ex (s : List Int) (hs : s.length ≤ 1048576) (d : Nat) : ∀ (h i : Int), 0 ≤ i → i + d = (s.length : Int) → ∃ h', Ev (fun k => spec_l01New.l0 k s h i) (s, 0, h') := by
  induction d with
  | zero =>
    intro h i h0 hd
    exact ⟨h, Ev.step (fun _ => spec_l01New.l0.eq_2 ..) (Ev.neg (by omega) (Ev.now _))⟩
  | succ d ih =>
    intro h i h0 hd
    by_cases h4 : i < 4000
    · obtain ⟨h', g⟩ := ih (Go.bits .and .i64 (wrap64 ((wrap64 ((wrap64 (h * 73)) + (wrap64 (rd s i)))) + 7)) 1073741823) (i + 1) (by omega) (by omega)
      refine ⟨h', Ev.step (fun _ => spec_l01New.l0.eq_2 ..) (Ev.pos (by omega) (Ev.pos h4 (Ev.pos h0 ?_)))⟩
      rw [w64 (n := i + 1) (by omega) (by omega)]
      exact g
    · exact ⟨h, Ev.step (fun _ => spec_l01New.l0.eq_2 ..) (Ev.pos (by omega) (Ev.neg h4 (Ev.now _)))⟩
theorem l25New_l (s : List Int) (hs : s.length ≤ 1048576) (n : Int) (hn : n ≤ 1000) (d : Nat) : ∀ (j i h : Int), 0 ≤ j → j + d = n → 0 ≤ i → i ≤ 1048576 → ∃ i' h', Ev (fun k => spec_l25New.l0 k n j s i h) (s, i', h') ∧ 0 ≤ i' ∧ i' ≤ 1048576 := by
  induction d with
  | zero =>
    intro j i h j0 hd i0 i1
    exact ⟨i, h, Ev.step (fun _ => spec_l25New.l0.eq_2 ..) (Ev.neg (by omega) (Ev.now _)), i0, i1⟩
  | succ d ih =>
    intro j i h j0 hd i0 i1
    obtain ⟨v, i2, h2, e, _, _, a, b⟩ := l01Byte_ex s i h i0 i1 hs
    obtain ⟨i', h', g, c⟩ := ih (j + 1) i2 h2 (by omega) (by omega) a b
    refine ⟨i', h', Ev.step (fun _ => spec_l25New.l0.eq_2 ..) (Ev.pos (by omega) (Ev.bind0 e ?_)), c⟩
    rw [w64 (n := j + 1) (by omega) (by omega)]
    exact g
theorem l25New_ex (s : List Int) (hs : s.length ≤ 1048576) (n : Int) (h0 : 0 ≤ n) (hn : n ≤ 1000) : ∃ i' h', Ev (fun k => spec_l25New.f k s n) (s, i', h') ∧ 0 ≤ i' ∧ i' ≤ 1048576 := by
  unfold spec_l25New.f
  obtain ⟨h, g⟩ := l01New_ex s hs s.length (wrap64 (1263 + (s.length : Int))) 0 (by omega) (by omega)
  obtain ⟨i', h', g2, c⟩ := l25New_l s hs n hn n.toNat 0 0 h (by omega) (by omega) (by omega) (by omega)
  exact ⟨i', h', Ev.bind (g := fun k => spec_l01New.f k s) g g2, c⟩

theorem makeNum_ex (s : List Int) (hs : s.length ≤ 1048576) (n : Int) (h0 : 0 ≤ n) (hn : n ≤ 1000) : ∃ v, Ev (fun k => spec_MakeNum.f k s n) v ∧ 0 ≤ v ∧ v ≤ 65535 := by
  unfold spec_MakeNum.f
  obtain ⟨i, h, g, a, b⟩ := l25New_ex s hs n h0 hn
  obtain ⟨v, i2, h2, e, v0, v1, a2, b2⟩ := l01Byte_ex s i h a b hs
  obtain ⟨u, i3, h3, e2, u0, u1, _, _⟩ := l01Byte_ex s i2 h2 a2 b2 hs
  refine ⟨_, Ev.bind g (Ev.bind0 e (Ev.bind0 e2 (Ev.now _))), ?_, ?_⟩
  · simp only []
    rw [w64 (n := v * 256) (by omega) (by omega), w64 (by omega) (by omega)]
    omega
  · simp only []
    rw [w64 (n := v * 256) (by omega) (by omega), w64 (by omega) (by omega)]
    omega

theorem l01Below_ex (s : List Int) (i h : Int) (h0 : 0 ≤ i) (h1 : i ≤ 1048576) (hs : s.length ≤ 1048576) (n : Int) (hn : 1 ≤ n) (hn2 : n ≤ 256) : ∃ v i' h', spec_l01Below.f s i h n = some (v, i', h') ∧ 0 ≤ v ∧ v < n ∧ 0 ≤ i' ∧ i' ≤ 1048576 := by
  obtain ⟨v, i', h', e, v0, v1, a, b⟩ := l01Byte_ex s i h h0 h1 hs
  refine ⟨Int.tmod v n, i', h', ?_, ?_, ?_, a, b⟩
  · unfold spec_l01Below.f
    rw [if_neg (by omega), if_pos hn2, e, Option.bind_some]
    simp only []
    rw [if_neg (by omega)]
  · exact Int.tmod_nonneg n v0
  · rw [Int.tmod_eq_emod_of_nonneg v0]
    exact Int.emod_lt_of_pos v (by omega)
theorem l01Pick_ex (s : List Int) (i h : Int) (h0 : 0 ≤ i) (h1 : i ≤ 1048576) (hs : s.length ≤ 1048576) (l : List Int) (hl : 1 ≤ l.length) (hl2 : l.length ≤ 256) : ∃ v i' h', spec_l01Pick.f s i h l = some (v, i', h') ∧ 0 ≤ i' ∧ i' ≤ 1048576 := by
  obtain ⟨v, i', h', e, v0, v1, a, b⟩ := l01Below_ex s i h h0 h1 hs (l.length : Int) (by omega) (by omega)
  refine ⟨rd l v, i', h', ?_, a, b⟩
  · unfold spec_l01Pick.f
    rw [e, Option.bind_some]
    simp only []
    rw [if_pos v0, if_pos v1]
theorem l02Bytes_l (s : List Int) (hs : s.length ≤ 1048576) (d : Nat) : ∀ (xs : List Int) (n i h : Int), n = d → xs.length + d ≤ 1000 → 0 ≤ i → i ≤ 1048576 → ∃ ys i' h', Ev (fun k => spec_l02Bytes.l0 k xs n s i h) (strOfNums ys, i', h') ∧ ys.length = xs.length + d := by
  induction d with
  | zero =>
    intro xs n i h hn hl h0 h1
    exact ⟨xs, i, h, Ev.step (fun _ => spec_l02Bytes.l0.eq_2 ..) (Ev.neg (by omega) (Ev.now _)), rfl⟩
  | succ d ih =>
    intro xs n i h hn hl h0 h1
    obtain ⟨v, i2, h2, e, _, _, a, b⟩ := l01Byte_ex s i h h0 h1 hs
    obtain ⟨u, i3, h3, e2, a2, b2⟩ := l01Pick_ex s i2 h2 a b hs [0, 1, 65, 97, 255, v] (by simp) (by simp)
    obtain ⟨ys, i', h', g, c⟩ := ih (xs ++ [u % 256]) (n - 1) i3 h3 (by omega) (by rw [List.length_append, List.length_singleton]; omega) a2 b2
    refine ⟨ys, i', h', Ev.step (fun _ => spec_l02Bytes.l0.eq_2 ..) (Ev.pos (by omega) (Ev.bind0 e (Ev.bind0 e2 (Ev.pos (by omega) ?_)))), ?_⟩
    · rw [w64 (n := n - 1) (by omega) (by omega)]
      exact g
    · rw [c, List.length_append, List.length_singleton]
      omega
theorem makeBytes_ex (s : List Int) (hs : s.length ≤ 1048576) (n : Int) (h0 : 0 ≤ n) (hn : n ≤ 1000) : ∃ t : ByteArray, Ev (fun k => spec_MakeBytes.f k s n) t ∧ t.size ≤ 1000 := by
  unfold spec_MakeBytes.f
  obtain ⟨i, h, g, a, b⟩ := l25New_ex s hs n h0 hn
  obtain ⟨v, i2, h2, e, v0, v1, a2, b2⟩ := l01Below_ex s i h a b hs 41 (by decide) (by decide)
  obtain ⟨ys, i3, h3, g2, c⟩ := l02Bytes_l s hs v.toNat [] v i2 h2 (by omega) (by simp only [List.length_nil]; omega) a2 b2
  refine ⟨strOfNums ys, Ev.bind g ?_, by rw [strOfNums_size, c]; simp only [List.length_nil]; omega⟩
  refine Ev.bind (g := fun k => spec_l02Bytes.f k s i h 40) (a := (strOfNums ys, i3, h3)) ?_ (Ev.now _)
  unfold spec_l02Bytes.f
  rw [w64 (n := 40 + 1) (by omega) (by omega)]
  exact Ev.bind0 e g2

theorem checksumOf_impl {s : ByteArray} (hs : s.size ≤ 140737488351232) (l : List Int) : ∀ (i a b : Int), 0 ≤ i → (bytesOf s).drop i.toNat = l → 0 ≤ a → a < 65521 → 0 ≤ b → b < 65521 →
    Ev (fun k => impl_ChecksumOf.l0 k s a b (s.size : Int) i) ((ck l a b).2 * 65536 + (ck l a b).1) := by
  induction l with
  | nil =>
    intro i a b h0 h ha ha' hb hb'
    have := bdrop_nil h0 h
    refine Ev.step (fun _ => impl_ChecksumOf.l0.eq_2 ..) (Ev.neg (by omega) ?_)
    rw [w64 (n := b * 65536) (by omega) (by omega), w64 (by omega) (by omega)]
    exact Ev.now _
  | cons x l ih =>
    intro i a b h0 h ha ha' hb hb'
    obtain ⟨h1, h2, h3, h4⟩ := bdrop_cons h0 h
    have hx := bt_range s i
    refine Ev.step (fun _ => impl_ChecksumOf.l0.eq_2 ..) (Ev.pos h1 (Ev.pos h0 (Ev.pos h1 ?_)))
    rw [w64 (n := bt s i) (by omega) (by omega), w64 (n := a + bt s i) (by omega) (by omega), Int.tmod_eq_emod_of_nonneg (show 0 ≤ a + bt s i by omega),
      w64 (n := b + (a + bt s i) % 65521) (by omega) (by omega), Int.tmod_eq_emod_of_nonneg (show 0 ≤ b + (a + bt s i) % 65521 by omega), w64 (n := i + 1) (by omega) (by omega), h2]
    rw [h2] at hx
    exact ih (i + 1) _ _ (by omega) h3 (by omega) (by omega) (by omega) (by omega)
theorem checksumOf_impl_f {s : ByteArray} (hs : s.size ≤ 140737488351232) : Ev (fun k => impl_ChecksumOf.f k s) (checksum (bytesOf s)) :=
  checksumOf_impl hs (bytesOf s) 0 1 0 (by omega) rfl (by omega) (by omega) (by omega) (by omega)

theorem ck_sum (l : List Int) : ∀ a b : Int, 0 ≤ a → a < 65521 → 0 ≤ (ck l a b).1 ∧ (ck l a b).1 < 65521 ∧ (ck l a b).1 = (a + l.sum) % 65521 := by
  induction l with
  | nil =>
    intro a b h0 h1
    refine ⟨h0, h1, ?_⟩
    show a = (a + 0) % 65521
    omega
  | cons x l ih =>
    intro a b h0 h1
    obtain ⟨i0, i1, i2⟩ := ih ((a + x) % 65521) ((b + (a + x) % 65521) % 65521) (by omega) (by omega)
    refine ⟨i0, i1, ?_⟩
    have e : (ck (x :: l) a b).1 = ((a + x) % 65521 + l.sum) % 65521 := i2
    rw [e, List.sum_cons]
    omega
theorem sum_set (l : List Int) : ∀ (i : Nat) (v : Int), i < l.length → (l.set i v).sum = l.sum - l.getD i 0 + v := by
  induction l with
  | nil =>
    intro i v h
    simp at h
  | cons x l ih =>
    intro i v h
    cases i with
    | zero =>
      simp only [List.set_cons_zero, List.sum_cons, List.getD_cons_zero]
      omega
    | succ i =>
      simp only [List.set_cons_succ, List.sum_cons, List.getD_cons_succ]
      rw [ih i v (by simp only [List.length_cons] at h; omega)]
      omega
theorem checksum_ne (l m : List Int) (h : (1 + l.sum) % 65521 ≠ (1 + m.sum) % 65521) : checksum l ≠ checksum m := by
  obtain ⟨a0, a1, a2⟩ := ck_sum l 1 0 (by decide) (by decide)
  obtain ⟨b0, b1, b2⟩ := ck_sum m 1 0 (by decide) (by decide)
  intro e
  apply h
  rw [← a2, ← b2]
  unfold checksum at e
  omega
theorem FnChecksums : laws_FnChecksums.Pure := by
  intro s h1 h2 h3
  apply Ev.rounds
  unfold laws_FnChecksums.f
  by_cases hb : (s.length : Int) > 1048576
  · exact Ev.pos hb (Ev.now _)
  · obtain ⟨t, t1, t2⟩ := makeBytes_ex s (by omega) 5 (by omega) (by omega)
    obtain ⟨n, n1, n2, n3⟩ := makeNum_ex s (by omega) 1 (by omega) (by omega)
    have hsz : (t ++ (⟨#[107]⟩ : ByteArray)).size = t.size + 1 := by
      rw [ByteArray.size_append]
      rfl
    have r0 : 0 ≤ Int.tmod n ((t.size : Int) + 1) := Int.tmod_nonneg _ n2
    have r1 : Int.tmod n ((t.size : Int) + 1) < (t.size : Int) + 1 := by
      rw [Int.tmod_eq_emod_of_nonneg n2]
      exact Int.emod_lt_of_pos n (by omega)
    have hlen : (bytesOf (t ++ (⟨#[107]⟩ : ByteArray))).length = t.size + 1 := by rw [bytesOf_length, hsz]
    have hlt : (Int.tmod n ((t.size : Int) + 1)).toNat < (bytesOf (t ++ (⟨#[107]⟩ : ByteArray))).length := by rw [hlen]; omega
    have hx : 0 ≤ (bytesOf (t ++ (⟨#[107]⟩ : ByteArray))).getD (Int.tmod n ((t.size : Int) + 1)).toNat 0 ∧ (bytesOf (t ++ (⟨#[107]⟩ : ByteArray))).getD (Int.tmod n ((t.size : Int) + 1)).toNat 0 ≤ 255 := by
      rw [List.getD_eq_getElem?_getD, List.getElem?_eq_getElem hlt]
      exact bytesOf_range (List.getElem_mem hlt)
    have hb2 : bytesOf (laws_FnChecksums.turned (t ++ (⟨#[107]⟩ : ByteArray)) (Int.tmod n ((t.size : Int) + 1))) = (bytesOf (t ++ (⟨#[107]⟩ : ByteArray))).set (Int.tmod n ((t.size : Int) + 1)).toNat (((bytesOf (t ++ (⟨#[107]⟩ : ByteArray))).getD (Int.tmod n ((t.size : Int) + 1)).toNat 0 + 1) % 256) := by
      unfold laws_FnChecksums.turned
      refine bytesOf_strOfNums fun x hx => ?_
      rcases List.mem_or_eq_of_mem_set hx with h | h
      · exact bytesOf_range h
      · omega
    have c1 := checksumOf_impl_f (s := laws_FnChecksums.turned (t ++ (⟨#[107]⟩ : ByteArray)) (Int.tmod n ((t.size : Int) + 1))) (by rw [← bytesOf_length, hb2, List.length_set, hlen]; omega)
    have c2 := checksumOf_impl_f (s := t ++ (⟨#[107]⟩ : ByteArray)) (by omega)
    have c3 := checksumOf_impl_f (s := (⟨#[]⟩ : ByteArray)) (by decide)
    refine Ev.neg hb (Ev.bind t1 (Ev.bind n1 (Ev.pos ⟨by omega, r0, r1⟩ (Ev.bind c1 (Ev.bind c2 (Ev.bind c3 (Ev.neg ?_ (Ev.pos ?_ (Ev.now _)))))))))
    · apply checksum_ne
      rw [hb2, sum_set _ _ _ hlt]
      omega
    · rfl

end Go.Proofs.Ytcafdolliedcaaa.Pure
