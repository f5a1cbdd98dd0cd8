/- The law FnWords holds for every input of its kind; no further condition. -/
import Derived.Test.YtmnojegajblagaaDoorPFnWordsx2
import Derived.Test.YtmnojegajblagaaDoorLibBase
namespace Go.Proofs.YtmnojegajblagaaDoor.Pure
open Go.RowKit Go.Proofs.YtmnojegajblagaaDoor.PFnWords Go.Proofs.YtmnojegajblagaaDoor.Lib Go.Proofs.YtmnojegajblagaaDoorW.PrintWords Go.Proofs.YtmnojegajblagaaDoorW.PrintLast Go.Proofs.YtmnojegajblagaaDoorW.PrintMore
set_option linter.unusedVariables false
set_option linter.unusedSimpArgs false

theorem i64_and255 (n : Int) : Go.bits .and .i64 n 255 = n % 256 := by
  have h127 : (BitVec.ofInt 64 255).toNat = 2 ^ 8 - 1 := by decide
  have key : (BitVec.ofInt 64 n &&& BitVec.ofInt 64 255).toNat = (n % ((2 ^ 64 : Nat) : Int)).toNat % 2 ^ 8 := by
    rw [BitVec.toNat_and, BitVec.toNat_ofInt, h127, Nat.and_two_pow_sub_one_eq_mod]
  show IntKind.i64.wrap ((BitVec.ofInt 64 n &&& BitVec.ofInt 64 255).toNat : Nat) = n % 256
  rw [key, IntKind.wrap_i64]
  omega
theorem l01Byte_ex (s : List Int) (i h : Int) (h0 : 0 ≤ i) (h1 : i ≤ 1048576) (hs : s.length ≤ 1048576) : ∃ v i' h', spec_l01Byte.f s i h = some (v, i', h') ∧ 0 ≤ v ∧ v ≤ 255 ∧ 0 ≤ i' ∧ i' ≤ 1048576 := by
  unfold spec_l01Byte.f
  by_cases hl : i < (s.length : Int)
  · rw [if_pos hl, if_pos h0]
    refine ⟨_, _, _, rfl, ?_, ?_, ?_, ?_⟩
    · rw [i64_and255]; omega
    · rw [i64_and255]; omega
    · rw [w64 (n := i + 1) (by omega) (by omega)]; omega
    · rw [w64 (n := i + 1) (by omega) (by omega)]; omega
  · rw [if_neg hl]
    refine ⟨_, _, _, rfl, ?_, ?_, h0, h1⟩
    · rw [i64_and255]; omega
    · rw [i64_and255]; omega
theorem l01New_ex (s : List Int) (hs : s.length ≤ 1048576) (d : Nat) : ∀ (h i : Int), 0 ≤ i → i + d = (s.length : Int) → ∃ h', Ev (fun k => spec_l01New.l0 k s h i) (s, 0, h') := by
  induction d with
  | zero =>
    intro h i h0 hd
    exact ⟨h, Ev.step (fun _ => spec_l01New.l0.eq_2 ..) (Ev.neg (by omega) (Ev.now _))⟩
  | succ d ih =>
    intro h i h0 hd
    by_cases h4 : i < 4000
    · obtain ⟨h', g⟩ := ih (Go.bits .and .i64 (wrap64 ((wrap64 ((wrap64 (h * 73)) + (wrap64 (rd s i)))) + 7)) 1073741823) (i + 1) (by omega) (by omega)
      refine ⟨h', Ev.step (fun _ => spec_l01New.l0.eq_2 ..) (Ev.pos (by omega) (Ev.pos h4 (Ev.pos h0 ?_)))⟩
      rw [w64 (n := i + 1) (by omega) (by omega)]
      exact g
    · exact ⟨h, Ev.step (fun _ => spec_l01New.l0.eq_2 ..) (Ev.pos (by omega) (Ev.neg h4 (Ev.now _)))⟩
theorem l25New_l (s : List Int) (hs : s.length ≤ 1048576) (n : Int) (hn : n ≤ 1000) (d : Nat) : ∀ (j i h : Int), 0 ≤ j → j + d = n → 0 ≤ i → i ≤ 1048576 → ∃ i' h', Ev (fun k => spec_l25New.l0 k n j s i h) (s, i', h') ∧ 0 ≤ i' ∧ i' ≤ 1048576 := by
  induction d with
  | zero =>
    intro j i h j0 hd i0 i1
    exact ⟨i, h, Ev.step (fun _ => spec_l25New.l0.eq_2 ..) (Ev.neg (by omega) (Ev.now _)), i0, i1⟩
  | succ d ih =>
    intro j i h j0 hd i0 i1
    obtain ⟨v, i2, h2, e, _, _, a, b⟩ := l01Byte_ex s i h i0 i1 hs
    obtain ⟨i', h', g, c⟩ := ih (j + 1) i2 h2 (by omega) (by omega) a b
    refine ⟨i', h', Ev.step (fun _ => spec_l25New.l0.eq_2 ..) (Ev.pos (by omega) (Ev.bind0 e ?_)), c⟩
    rw [w64 (n := j + 1) (by omega) (by omega)]
    exact g
theorem l25New_ex (s : List Int) (hs : s.length ≤ 1048576) (n : Int) (h0 : 0 ≤ n) (hn : n ≤ 1000) : ∃ i' h', Ev (fun k => spec_l25New.f k s n) (s, i', h') ∧ 0 ≤ i' ∧ i' ≤ 1048576 := by
  unfold spec_l25New.f
  obtain ⟨h, g⟩ := l01New_ex s hs s.length (wrap64 (1263 + (s.length : Int))) 0 (by omega) (by omega)
  obtain ⟨i', h', g2, c⟩ := l25New_l s hs n hn n.toNat 0 0 h (by omega) (by omega) (by omega) (by omega)
  exact ⟨i', h', Ev.bind (g := fun k => spec_l01New.f k s) g g2, c⟩

theorem makeNum_ex (s : List Int) (hs : s.length ≤ 1048576) (n : Int) (h0 : 0 ≤ n) (hn : n ≤ 1000) : ∃ v, Ev (fun k => spec_MakeNum.f k s n) v ∧ 0 ≤ v ∧ v ≤ 65535 := by
  unfold spec_MakeNum.f
  obtain ⟨i, h, g, a, b⟩ := l25New_ex s hs n h0 hn
  obtain ⟨v, i2, h2, e, v0, v1, a2, b2⟩ := l01Byte_ex s i h a b hs
  obtain ⟨u, i3, h3, e2, u0, u1, _, _⟩ := l01Byte_ex s i2 h2 a2 b2 hs
  refine ⟨_, Ev.bind g (Ev.bind0 e (Ev.bind0 e2 (Ev.now _))), ?_, ?_⟩
  · simp only []
    rw [w64 (n := v * 256) (by omega) (by omega), w64 (by omega) (by omega)]
    omega
  · simp only []
    rw [w64 (n := v * 256) (by omega) (by omega), w64 (by omega) (by omega)]
    omega

theorem l01Below_ex (s : List Int) (i h : Int) (h0 : 0 ≤ i) (h1 : i ≤ 1048576) (hs : s.length ≤ 1048576) (n : Int) (hn : 1 ≤ n) (hn2 : n ≤ 256) : ∃ v i' h', spec_l01Below.f s i h n = some (v, i', h') ∧ 0 ≤ v ∧ v < n ∧ 0 ≤ i' ∧ i' ≤ 1048576 := by
  obtain ⟨v, i', h', e, v0, v1, a, b⟩ := l01Byte_ex s i h h0 h1 hs
  refine ⟨Int.tmod v n, i', h', ?_, ?_, ?_, a, b⟩
  · unfold spec_l01Below.f
    rw [if_neg (by omega), if_pos hn2, e, Option.bind_some]
    simp only []
    rw [if_neg (by omega)]
  · exact Int.tmod_nonneg n v0
  · rw [Int.tmod_eq_emod_of_nonneg v0]
    exact Int.emod_lt_of_pos v (by omega)

/-- A number's decimal digits. -/
def decS (u : Nat) : ByteArray := ⟨(Go.Lib.decDigits u).toArray⟩
theorem dec_len (u : Nat) : (Go.Lib.decDigits u).length ≤ u + 1 := by
  induction u using Nat.strongRecOn with
  | _ u ih =>
    rw [Go.Lib.decDigits]
    by_cases h : u < 10
    · rw [dif_pos h, List.length_singleton]
      omega
    · rw [dif_neg h, List.length_append, List.length_singleton]
      have := ih (u / 10) (by omega)
      omega
theorem decS_size (u : Nat) : (decS u).size ≤ u + 1 := dec_len u
theorem decS_small {u : Nat} (h : u < 10) : decS u = strOfNums [(48 + (u : Int)) % 256] := by
  apply ba_ext
  rw [strOfNums_data]
  show Go.Lib.decDigits u = _
  rw [Go.Lib.decDigits, dif_pos h, List.map_singleton, show ((48 + (u : Int)) % 256).toNat = 48 + u by omega]
theorem decS_big {u : Nat} (h : ¬ u < 10) : decS u = decS (u / 10) ++ strOfNums [(48 + ((u % 10 : Nat) : Int)) % 256] := by
  apply ba_ext
  rw [ByteArray.data_append, Array.toList_append, strOfNums_data]
  show Go.Lib.decDigits u = Go.Lib.decDigits (u / 10) ++ _
  rw [Go.Lib.decDigits, dif_neg h, List.map_singleton, show ((48 + ((u % 10 : Nat) : Int)) % 256).toNat = 48 + u % 10 by omega]
theorem ba_assoc (a b c : ByteArray) : (a ++ b) ++ c = a ++ (b ++ c) := by
  apply bytesOf_inj
  rw [bytesOf_append, bytesOf_append, bytesOf_append, bytesOf_append, List.append_assoc]
/-- A number's text. -/
def itoaS (n : Int) : ByteArray := ⟨(Go.Lib.itoa n).toArray⟩

theorem digit_toNat {d : Nat} (h : d < 10) : (UInt8.ofNat (48 + d)).toNat = 48 + d := by
  rw [UInt8.toNat_ofNat']
  omega
theorem parse_dec (u : Nat) : ∀ r : List UInt8, u < 18446744073709551616 → Go.Lib.parseUint10 0 (Go.Lib.decDigits u ++ r) = Go.Lib.parseUint10 u r := by
  induction u using Nat.strongRecOn with
  | _ u ih =>
    intro r hu
    rw [Go.Lib.decDigits]
    by_cases h : u < 10
    · rw [dif_pos h, List.singleton_append, Go.Lib.parseUint10, digit_toNat h, if_pos (by omega), if_neg (by decide), if_neg (by omega), show 0 * 10 + (48 + u - 48) = u by omega]
    · have hd : u % 10 < 10 := by omega
      rw [dif_neg h, List.append_assoc, ih (u / 10) (by omega) _ (by omega), List.singleton_append, Go.Lib.parseUint10, digit_toNat hd, if_pos (by omega), if_neg (by omega), if_neg (by omega), show u / 10 * 10 + (48 + u % 10 - 48) = u by omega]
theorem dec_head (u : Nat) : ∃ c r, Go.Lib.decDigits u = c :: r ∧ 48 ≤ c.toNat ∧ c.toNat ≤ 57 := by
  induction u using Nat.strongRecOn with
  | _ u ih =>
    by_cases h : u < 10
    · refine ⟨UInt8.ofNat (48 + u), [], ?_, ?_, ?_⟩
      · rw [Go.Lib.decDigits, dif_pos h]
      · rw [digit_toNat h]
        omega
      · rw [digit_toNat h]
        omega
    · obtain ⟨c, r, e, h1, h2⟩ := ih (u / 10) (by omega)
      exact ⟨c, r ++ [UInt8.ofNat (48 + u % 10)], by rw [Go.Lib.decDigits, dif_neg h, e, List.cons_append], h1, h2⟩
theorem parseMag_dec {u : Nat} (hu : u < 18446744073709551616) : Go.Lib.parseMag (Go.Lib.decDigits u) = .ok u := by
  obtain ⟨c, r, e, _, _⟩ := dec_head u
  have h := parse_dec u [] hu
  rw [List.append_nil] at h
  unfold Go.Lib.parseMag
  rw [if_neg (by rw [e]; simp), h]
  rfl
theorem atoi_itoa (n : Int) (h0 : -9223372036854775808 ≤ n) (h1 : n ≤ 9223372036854775807) : Go.Lib.atoiAll (Go.Lib.itoa n) = .ok n := by
  unfold Go.Lib.itoa
  by_cases h : n < 0
  · rw [if_pos h, Go.Lib.atoiAll_minus, parseMag_dec (by omega)]
    show (if 9223372036854775808 < n.natAbs then _ else _) = _
    rw [if_neg (by omega), show -(n.natAbs : Int) = n by omega]
  · rw [if_neg h]
    obtain ⟨c, r, e, c1, c2⟩ := dec_head n.toNat
    rw [e, Go.Lib.atoiAll_plain c r (by omega) (by omega), ← e, parseMag_dec (by omega)]
    show (if 9223372036854775808 ≤ n.toNat then _ else _) = _
    rw [if_neg (by omega), show (n.toNat : Int) = n by omega]
theorem dec_len_k (k : Nat) : ∀ u : Nat, u < 10 ^ (k + 1) → (Go.Lib.decDigits u).length ≤ k + 1 := by
  induction k with
  | zero =>
    intro u hu
    rw [Go.Lib.decDigits, dif_pos (by omega), List.length_singleton]
    omega
  | succ k ih =>
    intro u hu
    rw [Go.Lib.decDigits]
    by_cases h : u < 10
    · rw [dif_pos h, List.length_singleton]
      omega
    · have h2 : 10 ^ (k + 1 + 1) = 10 ^ (k + 1) * 10 := Nat.pow_succ ..
      have := ih (u / 10) (by omega)
      rw [dif_neg h, List.length_append, List.length_singleton]
      omega
theorem itoaS_size (n : Int) (h0 : -9223372036854775808 ≤ n) (h1 : n ≤ 9223372036854775807) : (itoaS n).size ≤ 20 := by
  show (Go.Lib.itoa n).length ≤ 20
  unfold Go.Lib.itoa
  by_cases h : n < 0
  · rw [if_pos h, List.length_cons]
    have := dec_len_k 18 n.natAbs (by omega)
    omega
  · rw [if_neg h]
    have := dec_len_k 18 n.toNat (by omega)
    omega

theorem parseInt_itoa (n : Int) (h0 : -9223372036854775808 ≤ n) (h1 : n ≤ 9223372036854775807) : impl_ParseInt.f (itoaS n) = some (n, true) := by
  have hz := itoaS_size n h0 h1
  have ha : Go.Lib.atoiAll (itoaS n).data.toList = .ok n := atoi_itoa n h0 h1
  unfold impl_ParseInt.f
  rw [if_pos (by omega), ha]
  exact if_pos rfl

theorem formatInt_impl (n : Int) (h0 : -9223372036854775808 ≤ n) (h1 : n ≤ 9223372036854775807) : impl_FormatInt.f n = some (itoaS n) := by
  unfold impl_FormatInt.f strconv_Itoa.f
  rw [if_pos ⟨h0, h1⟩]
  rfl

theorem indexByte_mem (l : List UInt8) (c : UInt8) : Go.Lib.indexByte l c ≥ 0 ↔ c ∈ l := by
  induction l with
  | nil => simp [Go.Lib.indexByte]
  | cons b l ih =>
    unfold Go.Lib.indexByte
    have hg := Go.Lib.indexByte_ge l c
    by_cases hb : (b == c) = true
    · rw [if_pos hb]
      have : b = c := by simpa using hb
      subst this
      simp
    · rw [if_neg hb]
      have hb' : c ≠ b := fun e => hb (by rw [e]; simp)
      rw [List.mem_cons, or_iff_right hb', ← ih]
      by_cases h : (Go.Lib.indexByte l c == -1) = true
      · rw [if_pos h]
        have : Go.Lib.indexByte l c = -1 := by simpa using h
        omega
      · rw [if_neg h]
        have : Go.Lib.indexByte l c ≠ -1 := by simpa using h
        omega

theorem joinTail_cons (sep : List UInt8) (y : List UInt8) (r : List (List UInt8)) : Go.Lib.joinTail sep (y :: r) = sep ++ Go.Lib.join (y :: r) sep := by
  rw [Go.Lib.join_cons]
  show (sep ++ y) ++ Go.Lib.joinTail sep r = _
  rw [List.append_assoc]
theorem split_join (s : ByteArray) (c : UInt8) (hs : s.size ≤ 1048576) (d : Nat) : ∀ (x : List ByteArray) (a i : Int), 0 ≤ a → a ≤ i → i + d = (s.size : Int) → (x.length : Int) ≤ i →
    ∃ y : List ByteArray, y ≠ [] ∧ Ev (fun k => impl_SplitAny.l0 k s (⟨#[c]⟩ : ByteArray) x a (s.size : Int) i) (x ++ y) ∧ Go.Lib.join (y.map (·.data.toList)) [c] = s.data.toList.drop a.toNat ∧ (x ++ y).length ≤ s.size + 1 := by
  induction d with
  | zero =>
    intro x a i ha hai hd hx
    refine ⟨[s.extract a.toNat s.size], by simp, Ev.step (fun _ => impl_SplitAny.l0.eq_2 ..) (Ev.neg (by omega) (Ev.pos ha (Ev.pos (by omega) (Ev.pos (by omega) (Ev.now _))))), ?_, by rw [List.length_append, List.length_singleton]; omega⟩
    rw [List.map_singleton, Go.Lib.join_one, ByteArray.data_extract, Array.toList_extract, List.extract_eq_take_drop]
    exact List.take_of_length_le (by rw [List.length_drop]; exact Nat.le_refl _)
  | succ d ih =>
    intro x a i ha hai hd hx
    have k1 : i < (s.size : Int) := by omega
    have hlt : i.toNat < s.data.toList.length := by
      rw [Array.length_toList]
      show i.toNat < s.size
      omega
    have hbt : bt s i = (s.data.toList[i.toNat].toNat : Int) := by
      rw [← rd_bytesOf]
      show (bytesOf s).getD i.toNat 0 = _
      unfold bytesOf
      rw [List.getD_eq_getElem?_getD, List.getElem?_map, List.getElem?_eq_getElem hlt]
      rfl
    have hf : strings_IndexByte.f (⟨#[c]⟩ : ByteArray) (bt s i) = some (Go.Lib.indexByte [c] (bt s i).toNat.toUInt8) := rfl
    have hu : (bt s i).toNat.toUInt8 = s.data.toList[i.toNat] := by
      rw [hbt, Int.toNat_natCast]
      simp [Nat.toUInt8]
    have hiff := indexByte_mem [c] (bt s i).toNat.toUInt8
    rw [hu, List.mem_singleton] at hiff
    rw [hu] at hf
    by_cases hm : s.data.toList[i.toNat] = c
    · obtain ⟨y, hy, a2, a3, a4⟩ := ih (x ++ [s.extract a.toNat i.toNat]) (i + 1) (i + 1) (by omega) (by omega) (by omega) (by rw [List.length_append, List.length_singleton]; omega)
      refine ⟨s.extract a.toNat i.toNat :: y, by simp, ?_, ?_, ?_⟩
      · refine Ev.step (fun _ => impl_SplitAny.l0.eq_2 ..) (Ev.pos (by omega) (Ev.pos (by omega) (Ev.pos k1 (Ev.bind0 hf (Ev.pos (hiff.2 hm) (Ev.pos ha (Ev.pos hai (Ev.pos (by omega) (Ev.pos (by omega) ?_)))))))))
        rw [w64 (n := i + 1) (by omega) (by omega)]
        rw [List.append_assoc] at a2
        exact a2
      · cases y with
        | nil => exact absurd rfl hy
        | cons z y =>
          have a3' : Go.Lib.join (z.data.toList :: List.map (·.data.toList) y) [c] = _ := a3
          rw [List.map_cons, Go.Lib.join_cons, List.map_cons, joinTail_cons, a3', ByteArray.data_extract, Array.toList_extract, List.extract_eq_take_drop, show (i + 1).toNat = i.toNat + 1 by omega, ← hm, List.singleton_append, ← List.drop_eq_getElem_cons hlt]
          have e : i.toNat = a.toNat + (i.toNat - a.toNat) := by omega
          conv => lhs; rhs; rw [e, ← List.drop_drop]
          exact List.take_append_drop _ _
      · rw [List.length_append, List.length_append, List.length_singleton] at a4
        rw [List.length_append, List.length_cons]
        omega
    · obtain ⟨y, hy, a2, a3, a4⟩ := ih x a (i + 1) (by omega) (by omega) (by omega) (by omega)
      refine ⟨y, hy, ?_, a3, a4⟩
      refine Ev.step (fun _ => impl_SplitAny.l0.eq_2 ..) (Ev.pos (by omega) (Ev.pos (by omega) (Ev.pos k1 (Ev.bind0 hf (Ev.neg (fun h => hm (hiff.1 h)) ?_)))))
      rw [w64 (n := i + 1) (by omega) (by omega)]
      exact a2

theorem l01Str_ex (s : List Int) (i h : Int) (h0 : 0 ≤ i) (h1 : i ≤ 1048576) (hs : s.length ≤ 1048576) (l : List ByteArray) (hl : 1 ≤ l.length) (hl2 : l.length ≤ 256) (hz : ∀ x ∈ l, x.size ≤ 2) : ∃ v i' h', spec_l01Str.f s i h l = some (v, i', h') ∧ v.size ≤ 2 ∧ 0 ≤ i' ∧ i' ≤ 1048576 := by
  obtain ⟨v, i', h', e, v0, v1, a, b⟩ := l01Below_ex s i h h0 h1 hs (l.length : Int) (by omega) (by omega)
  refine ⟨rdOf ByteArray.empty l v, i', h', ?_, ?_, a, b⟩
  · unfold spec_l01Str.f
    rw [e, Option.bind_some]
    simp only []
    rw [if_pos v0, if_pos v1]
  · unfold rdOf
    have hlt : v.toNat < l.length := by omega
    rw [List.getD_eq_getElem?_getD, List.getElem?_eq_getElem hlt]
    exact hz _ (List.getElem_mem hlt)
theorem makeText_l (s : List Int) (hs : s.length ≤ 1048576) (d : Nat) : ∀ (t : ByteArray) (n i h : Int), n = d → t.size + 2 * d ≤ 1000 → 0 ≤ i → i ≤ 1048576 → ∃ r : ByteArray, Ev (fun k => spec_MakeText.l0 k t n s i h) r ∧ r.size ≤ 1000 := by
  induction d with
  | zero =>
    intro t n i h hn ht h0 h1
    exact ⟨t, Ev.step (fun _ => spec_MakeText.l0.eq_2 ..) (Ev.neg (by omega) (Ev.now _)), by omega⟩
  | succ d ih =>
    intro t n i h hn ht h0 h1
    obtain ⟨v, i2, h2, e, ev, a, b⟩ := l01Str_ex s i h h0 h1 hs [(⟨#[97]⟩ : ByteArray), (⟨#[98, 99]⟩ : ByteArray), (⟨#[32]⟩ : ByteArray), (⟨#[44]⟩ : ByteArray), (⟨#[120, 49]⟩ : ByteArray)] (by decide) (by decide) (by decide)
    have hz : (t ++ v).size = t.size + v.size := ByteArray.size_append
    obtain ⟨r, g, c⟩ := ih (t ++ v) (n - 1) i2 h2 (by omega) (by omega) a b
    refine ⟨r, Ev.step (fun _ => spec_MakeText.l0.eq_2 ..) (Ev.pos (by omega) (Ev.bind0 e (Ev.pos (by simp only []; omega) ?_))), c⟩
    rw [w64 (n := n - 1) (by omega) (by omega)]
    exact g
theorem makeText_ex (s : List Int) (hs : s.length ≤ 1048576) : ∃ t : ByteArray, Ev (fun k => spec_MakeText.f k s) t ∧ t.size ≤ 1000 := by
  obtain ⟨h, g⟩ := l01New_ex s hs s.length (wrap64 (1263 + (s.length : Int))) 0 (by omega) (by omega)
  obtain ⟨v, i2, h2, e, v0, v1, a, b⟩ := l01Below_ex s 0 h (by omega) (by omega) hs 8 (by decide) (by decide)
  obtain ⟨r, g2, c⟩ := makeText_l s hs v.toNat (⟨#[]⟩ : ByteArray) v i2 h2 (by omega) (by show 0 + 2 * v.toNat ≤ 1000; omega) a b
  refine ⟨r, ?_, c⟩
  unfold spec_MakeText.f
  exact Ev.bind (g := fun k => spec_l01New.f k s) g (Ev.bind0 e g2)
theorem isName_x1 : Ev (fun k => impl_IsName.f k (⟨#[120, 49]⟩ : ByteArray)) true := Ev.of (impl_IsName.mono (⟨#[120, 49]⟩ : ByteArray)) (k := 5) (by decide +kernel)
theorem lines_ab : ∃ l : List ByteArray, impl_SplitLines.f (⟨#[97, 10, 98, 10]⟩ : ByteArray) = some l ∧ l.length = 2 := by
  have h : (impl_SplitLines.f (⟨#[97, 10, 98, 10]⟩ : ByteArray)).map List.length = some 2 := by decide +kernel
  exact Option.map_eq_some_iff.1 h
theorem FnWords : laws_FnWords.Pure := by
  intro s h1 h2 h3
  apply Ev.rounds
  unfold laws_FnWords.f
  by_cases hb : (s.length : Int) > 1048576
  · exact Ev.pos hb (Ev.now _)
  · obtain ⟨n, n1, n2, n3⟩ := makeNum_ex s (by omega) 1 (by omega) (by omega)
    obtain ⟨t, t1, t2⟩ := makeText_ex s (by omega)
    obtain ⟨y, hy, y1, y2, y3⟩ := split_join t 32 (by omega) t.size [] 0 0 (by omega) (by omega) (by omega) (by simp)
    obtain ⟨l, l1, l2⟩ := lines_ab
    have hw : wrap64 (n - 30000) = n - 30000 := w64 (by omega) (by omega)
    rw [List.nil_append] at y1 y3
    have hj : impl_Join.f y (⟨#[32]⟩ : ByteArray) = some t := by
      unfold impl_Join.f strings_Join.f
      have e : Go.Lib.join (y.map (·.data.toList)) [32] = t.data.toList := y2
      have hz : t.data.toList.length = t.size := by rw [Array.length_toList]; rfl
      show (if y.length ≤ 140737488355328 ∧ (Go.Lib.join (y.map (·.data.toList)) [32]).length ≤ 140737488355328 then some (⟨(Go.Lib.join (y.map (·.data.toList)) [32]).toArray⟩ : ByteArray) else none).bind _ = _
      rw [e, if_pos ⟨by omega, by omega⟩, Option.bind_some, Array.toArray_toList]
    refine Ev.neg hb (Ev.bind n1 ?_)
    rw [hw]
    refine Ev.bind0 (formatInt_impl (n - 30000) (by omega) (by omega)) (Ev.bind0 (parseInt_itoa (n - 30000) (by omega) (by omega)) (Ev.bind t1 (Ev.pos rfl (Ev.pos rfl (Ev.bind (g := fun k => impl_SplitAny.f k t (⟨#[32]⟩ : ByteArray)) y1 (Ev.bind0 hj (Ev.pos rfl (Ev.bind isName_x1 (Ev.pos rfl (Ev.bind0 l1 ?_))))))))))
    rw [l2]
    exact Ev.now _

end Go.Proofs.YtmnojegajblagaaDoor.Pure
