/- The law FnExactParseInt holds for every input of its kind; no further condition. -/
import Derived.Test.YtmnojegajblagabDoorPFnExactParseIntx2
import Derived.Test.YtmnojegajblagabDoorLibBase
namespace Go.Proofs.YtmnojegajblagabDoor.Pure
open Go.RowKit Go.Proofs.YtmnojegajblagabDoor.PFnExactParseInt Go.Proofs.YtmnojegajblagabDoor.Lib Go.Proofs.YtmnojegajblagabDoorW.PrintWords Go.Proofs.YtmnojegajblagabDoorW.PrintLast Go.Proofs.YtmnojegajblagabDoorW.PrintMore
set_option linter.unusedVariables false
set_option linter.unusedSimpArgs false

/-- A number's decimal digits. -/
def decS (u : Nat) : ByteArray := ⟨(Go.Lib.decDigits u).toArray⟩
theorem dec_len (u : Nat) : (Go.Lib.decDigits u).length ≤ u + 1 := by
  induction u using Nat.strongRecOn with
  | _ u ih =>
    rw [Go.Lib.decDigits]
    by_cases h : u < 10
    · rw [dif_pos h, List.length_singleton]
      omega
    · rw [dif_neg h, List.length_append, List.length_singleton]
      have := ih (u / 10) (by omega)
      omega
theorem decS_size (u : Nat) : (decS u).size ≤ u + 1 := dec_len u
theorem decS_small {u : Nat} (h : u < 10) : decS u = strOfNums [(48 + (u : Int)) % 256] := by
  apply ba_ext
  rw [strOfNums_data]
  show Go.Lib.decDigits u = _
  rw [Go.Lib.decDigits, dif_pos h, List.map_singleton, show ((48 + (u : Int)) % 256).toNat = 48 + u by omega]
theorem decS_big {u : Nat} (h : ¬ u < 10) : decS u = decS (u / 10) ++ strOfNums [(48 + ((u % 10 : Nat) : Int)) % 256] := by
  apply ba_ext
  rw [ByteArray.data_append, Array.toList_append, strOfNums_data]
  show Go.Lib.decDigits u = Go.Lib.decDigits (u / 10) ++ _
  rw [Go.Lib.decDigits, dif_neg h, List.map_singleton, show ((48 + ((u % 10 : Nat) : Int)) % 256).toNat = 48 + u % 10 by omega]
theorem ba_assoc (a b c : ByteArray) : (a ++ b) ++ c = a ++ (b ++ c) := by
  apply bytesOf_inj
  rw [bytesOf_append, bytesOf_append, bytesOf_append, bytesOf_append, List.append_assoc]
/-- A number's text. -/
def itoaS (n : Int) : ByteArray := ⟨(Go.Lib.itoa n).toArray⟩

theorem digit_toNat {d : Nat} (h : d < 10) : (UInt8.ofNat (48 + d)).toNat = 48 + d := by
  rw [UInt8.toNat_ofNat']
  omega
theorem parse_dec (u : Nat) : ∀ r : List UInt8, u < 18446744073709551616 → Go.Lib.parseUint10 0 (Go.Lib.decDigits u ++ r) = Go.Lib.parseUint10 u r := by
  induction u using Nat.strongRecOn with
  | _ u ih =>
    intro r hu
    rw [Go.Lib.decDigits]
    by_cases h : u < 10
    · rw [dif_pos h, List.singleton_append, Go.Lib.parseUint10, digit_toNat h, if_pos (by omega), if_neg (by decide), if_neg (by omega), show 0 * 10 + (48 + u - 48) = u by omega]
    · have hd : u % 10 < 10 := by omega
      rw [dif_neg h, List.append_assoc, ih (u / 10) (by omega) _ (by omega), List.singleton_append, Go.Lib.parseUint10, digit_toNat hd, if_pos (by omega), if_neg (by omega), if_neg (by omega), show u / 10 * 10 + (48 + u % 10 - 48) = u by omega]
theorem dec_head (u : Nat) : ∃ c r, Go.Lib.decDigits u = c :: r ∧ 48 ≤ c.toNat ∧ c.toNat ≤ 57 := by
  induction u using Nat.strongRecOn with
  | _ u ih =>
    by_cases h : u < 10
    · refine ⟨UInt8.ofNat (48 + u), [], ?_, ?_, ?_⟩
      · rw [Go.Lib.decDigits, dif_pos h]
      · rw [digit_toNat h]
        omega
      · rw [digit_toNat h]
        omega
    · obtain ⟨c, r, e, h1, h2⟩ := ih (u / 10) (by omega)
      exact ⟨c, r ++ [UInt8.ofNat (48 + u % 10)], by rw [Go.Lib.decDigits, dif_neg h, e, List.cons_append], h1, h2⟩
theorem parseMag_dec {u : Nat} (hu : u < 18446744073709551616) : Go.Lib.parseMag (Go.Lib.decDigits u) = .ok u := by
  obtain ⟨c, r, e, _, _⟩ := dec_head u
  have h := parse_dec u [] hu
  rw [List.append_nil] at h
  unfold Go.Lib.parseMag
  rw [if_neg (by rw [e]; simp), h]
  rfl
theorem atoi_itoa (n : Int) (h0 : -9223372036854775808 ≤ n) (h1 : n ≤ 9223372036854775807) : Go.Lib.atoiAll (Go.Lib.itoa n) = .ok n := by
  unfold Go.Lib.itoa
  by_cases h : n < 0
  · rw [if_pos h, Go.Lib.atoiAll_minus, parseMag_dec (by omega)]
    show (if 9223372036854775808 < n.natAbs then _ else _) = _
    rw [if_neg (by omega), show -(n.natAbs : Int) = n by omega]
  · rw [if_neg h]
    obtain ⟨c, r, e, c1, c2⟩ := dec_head n.toNat
    rw [e, Go.Lib.atoiAll_plain c r (by omega) (by omega), ← e, parseMag_dec (by omega)]
    show (if 9223372036854775808 ≤ n.toNat then _ else _) = _
    rw [if_neg (by omega), show (n.toNat : Int) = n by omega]
theorem dec_len_k (k : Nat) : ∀ u : Nat, u < 10 ^ (k + 1) → (Go.Lib.decDigits u).length ≤ k + 1 := by
  induction k with
  | zero =>
    intro u hu
    rw [Go.Lib.decDigits, dif_pos (by omega), List.length_singleton]
    omega
  | succ k ih =>
    intro u hu
    rw [Go.Lib.decDigits]
    by_cases h : u < 10
    · rw [dif_pos h, List.length_singleton]
      omega
    · have h2 : 10 ^ (k + 1 + 1) = 10 ^ (k + 1) * 10 := Nat.pow_succ ..
      have := ih (u / 10) (by omega)
      rw [dif_neg h, List.length_append, List.length_singleton]
      omega
theorem itoaS_size (n : Int) (h0 : -9223372036854775808 ≤ n) (h1 : n ≤ 9223372036854775807) : (itoaS n).size ≤ 20 := by
  show (Go.Lib.itoa n).length ≤ 20
  unfold Go.Lib.itoa
  by_cases h : n < 0
  · rw [if_pos h, List.length_cons]
    have := dec_len_k 18 n.natAbs (by omega)
    omega
  · rw [if_neg h]
    have := dec_len_k 18 n.toNat (by omega)
    omega

theorem formatInt_l (u : Nat) : ∀ s : ByteArray, s.size + u ≤ 9223372036854775807 → (u = 0 → s.size = 0) → Ev (fun k => spec_FormatInt.l0 k (u : Int) s) (decS u ++ s) := by
  induction u using Nat.strongRecOn with
  | _ u ih =>
    intro s hs hz
    refine Ev.step (fun _ => spec_FormatInt.l0.eq_2 ..) ?_
    by_cases h : u < 10
    · refine Ev.neg (by omega) (Ev.bind0 rfl (Ev.pos ?_ ?_))
      · rw [strOfNums_size, List.length_singleton]
        omega
      · rw [w64 (n := 48 + (u : Int)) (by omega) (by omega), ← decS_small h]
        exact Ev.now _
    · refine Ev.pos (by omega) (Ev.bind0 rfl (Ev.pos ?_ ?_))
      · rw [strOfNums_size, List.length_singleton]
        omega
      · have e1 : Int.tdiv (u : Int) 10 = ((u / 10 : Nat) : Int) := by
          rw [Int.tdiv_eq_ediv_of_nonneg (by omega)]
          omega
        have e2 : Int.tmod (u : Int) 10 = ((u % 10 : Nat) : Int) := by
          rw [Int.tmod_eq_emod_of_nonneg (by omega)]
          omega
        rw [e1, e2, w64 (n := ((u / 10 : Nat) : Int)) (by omega) (by omega), w64 (n := 48 + ((u % 10 : Nat) : Int)) (by omega) (by omega), decS_big h, ba_assoc]
        refine ih (u / 10) (by omega) _ ?_ (by omega)
        rw [ByteArray.size_append, strOfNums_size, List.length_singleton]
        omega
theorem formatInt_neg (u : Nat) : 1 ≤ u → u ≤ 9223372036854775808 → Ev (fun k => spec_FormatInt.f k (-(u : Int))) ((⟨#[45]⟩ : ByteArray) ++ decS u) := by
  induction u using Nat.strongRecOn with
  | _ u ih =>
    intro h1 h2
    have e1 : Int.tdiv (-(u : Int)) 10 = -((u / 10 : Nat) : Int) := by
      rw [Int.neg_tdiv, Int.tdiv_eq_ediv_of_nonneg (by omega)]
      omega
    have e2 : Int.tmod (-(u : Int)) 10 = -((u % 10 : Nat) : Int) := by
      rw [Int.neg_tmod, Int.tmod_eq_emod_of_nonneg (by omega)]
      omega
    refine Ev.step (fun _ => spec_FormatInt.f.eq_2 ..) (Ev.pos (by omega) ?_)
    rw [e1, e2, w64 (n := -((u / 10 : Nat) : Int)) (by omega) (by omega)]
    by_cases h : u < 10
    · refine Ev.pos (by omega) (Ev.bind0 rfl (Ev.pos ?_ ?_))
      · rw [strOfNums_size, List.length_singleton]
        omega
      · rw [w64 (n := 48 - -(u : Int)) (by omega) (by omega), show 48 - -(u : Int) = 48 + (u : Int) by omega, ← decS_small h]
        exact Ev.now _
    · refine Ev.neg (by omega) (Ev.bind (ih (u / 10) (by omega) (by omega) (by omega)) (Ev.bind0 rfl (Ev.pos ?_ ?_)))
      · have := decS_size (u / 10)
        rw [strOfNums_size, List.length_singleton, ByteArray.size_append, show (⟨#[45]⟩ : ByteArray).size = 1 from rfl]
        omega
      · rw [w64 (n := 48 - -((u % 10 : Nat) : Int)) (by omega) (by omega), show 48 - -((u % 10 : Nat) : Int) = 48 + ((u % 10 : Nat) : Int) by omega, ba_assoc, ← decS_big h]
        exact Ev.now _
theorem formatInt_spec (n : Int) (h0 : -9223372036854775808 ≤ n) (h1 : n ≤ 9223372036854775807) : Ev (fun k => spec_FormatInt.f k n) (itoaS n) := by
  by_cases h : n < 0
  · obtain ⟨u, rfl⟩ : ∃ u : Nat, n = -(u : Int) := ⟨n.natAbs, by omega⟩
    have e : itoaS (-(u : Int)) = (⟨#[45]⟩ : ByteArray) ++ decS u := by
      apply ba_ext
      rw [ByteArray.data_append, Array.toList_append]
      show Go.Lib.itoa (-(u : Int)) = [45] ++ Go.Lib.decDigits u
      unfold Go.Lib.itoa
      rw [if_pos h, Int.natAbs_neg, Int.natAbs_natCast]
      rfl
    rw [e]
    exact formatInt_neg u (by omega) (by omega)
  · obtain ⟨u, rfl⟩ : ∃ u : Nat, n = (u : Int) := ⟨n.toNat, by omega⟩
    have e : itoaS (u : Int) = decS u ++ (⟨#[]⟩ : ByteArray) := by
      apply ba_ext
      rw [ByteArray.data_append, Array.toList_append]
      show Go.Lib.itoa (u : Int) = Go.Lib.decDigits u ++ []
      unfold Go.Lib.itoa
      rw [if_neg h, Int.toNat_natCast, List.append_nil]
    rw [e]
    exact Ev.step (fun _ => spec_FormatInt.f.eq_2 ..) (Ev.neg h (formatInt_l u _ (by show 0 + u ≤ _; omega) (fun _ => rfl)))

def valN : Int → List Int → Int
  | acc, [] => acc
  | acc, c :: l => valN (acc * 10 - (c - 48)) l
theorem valN_le (l : List Int) : ∀ acc : Int, acc ≤ 0 → (∀ c ∈ l, 48 ≤ c ∧ c ≤ 57) → valN acc l ≤ acc := by
  induction l with
  | nil => exact fun acc h _ => Int.le_refl _
  | cons c l ih =>
    intro acc h hd
    have hc := hd c (List.mem_cons_self ..)
    have := ih (acc * 10 - (c - 48)) (by omega) (fun x hx => hd x (List.mem_cons_of_mem _ hx))
    show valN (acc * 10 - (c - 48)) l ≤ acc
    omega
theorem valN_append (l : List Int) (c : Int) : ∀ acc : Int, valN acc (l ++ [c]) = valN acc l * 10 - (c - 48) := by
  induction l with
  | nil => exact fun acc => rfl
  | cons x l ih => exact fun acc => ih _
def digB (u : Nat) : List Int := (Go.Lib.decDigits u).map fun b => (b.toNat : Int)
theorem digB_small {u : Nat} (h : u < 10) : digB u = [48 + (u : Int)] := by
  unfold digB
  rw [Go.Lib.decDigits, dif_pos h, List.map_singleton, digit_toNat h]
  rfl
theorem digB_big {u : Nat} (h : ¬ u < 10) : digB u = digB (u / 10) ++ [48 + ((u % 10 : Nat) : Int)] := by
  unfold digB
  rw [Go.Lib.decDigits, dif_neg h, List.map_append, List.map_singleton, digit_toNat (by omega)]
  rfl
theorem digB_val (u : Nat) : valN 0 (digB u) = -(u : Int) ∧ (∀ c ∈ digB u, 48 ≤ c ∧ c ≤ 57) := by
  induction u using Nat.strongRecOn with
  | _ u ih =>
    by_cases h : u < 10
    · rw [digB_small h]
      refine ⟨?_, fun c hc => ?_⟩
      · show (0 : Int) * 10 - (48 + (u : Int) - 48) = _
        omega
      · rw [List.mem_singleton.1 hc]
        omega
    · obtain ⟨a, b⟩ := ih (u / 10) (by omega)
      rw [digB_big h]
      refine ⟨?_, fun c hc => ?_⟩
      · rw [valN_append, a]
        omega
      · rcases List.mem_append.1 hc with hc | hc
        · exact b c hc
        · rw [List.mem_singleton.1 hc]
          omega
theorem digB_len {u : Nat} (h : u ≤ 9223372036854775808) : 1 ≤ (digB u).length ∧ (digB u).length ≤ 19 := by
  unfold digB
  rw [List.length_map]
  obtain ⟨c, r, e, _⟩ := dec_head u
  have := dec_len_k 18 u (by omega)
  rw [e] at *
  rw [List.length_cons] at *
  omega
theorem isDigits_spec {s : ByteArray} (hs : s.size ≤ 140737488351232) (l : List Int) : ∀ (i : Int), 0 ≤ i → (bytesOf s).drop i.toNat = l →
    ∃ r, Ev (fun k => spec_IsDigits.l0 k s i) r ∧ (r = true ↔ (∀ c ∈ l, 48 ≤ c ∧ c ≤ 57) ∧ 0 < s.size) := by
  induction l with
  | nil =>
    intro i h0 h
    have := bdrop_nil h0 h
    refine ⟨decide ((s.size : Int) > 0), Ev.step (fun _ => spec_IsDigits.l0.eq_2 ..) (Ev.neg (by omega) (Ev.now _)), ?_⟩
    rw [decide_eq_true_iff]
    refine ⟨fun h => ⟨by simp, by omega⟩, fun h => by have := h.2; omega⟩
  | cons x l ih =>
    intro i h0 h
    obtain ⟨a, b, c, e⟩ := bdrop_cons h0 h
    obtain ⟨r, h1, h2⟩ := ih (i + 1) (by omega) c
    by_cases c1 : bt s i < 48
    · refine ⟨false, Ev.step (fun _ => spec_IsDigits.l0.eq_2 ..) (Ev.pos a (Ev.pos h0 (Ev.pos c1 (Ev.now _)))), ?_⟩
      refine ⟨fun h => (by cases h), fun h => ?_⟩
      have := h.1 x (List.mem_cons_self ..)
      omega
    · by_cases c2 : bt s i > 57
      · refine ⟨false, Ev.step (fun _ => spec_IsDigits.l0.eq_2 ..) (Ev.pos a (Ev.pos h0 (Ev.neg c1 (Ev.pos c2 (Ev.now _))))), ?_⟩
        refine ⟨fun h => (by cases h), fun h => ?_⟩
        have := h.1 x (List.mem_cons_self ..)
        omega
      · refine ⟨r, Ev.step (fun _ => spec_IsDigits.l0.eq_2 ..) (Ev.pos a (Ev.pos h0 (Ev.neg c1 (Ev.neg c2 ?_)))), ?_⟩
        · rw [w64 (by omega) (by omega)]
          exact h1
        · rw [h2]
          constructor
          · rintro ⟨h, h'⟩
            refine ⟨fun y hy => ?_, h'⟩
            rcases List.mem_cons.1 hy with rfl | hy
            · omega
            · exact h y hy
          · rintro ⟨h, h'⟩
            exact ⟨fun y hy => h y (List.mem_cons_of_mem _ hy), h'⟩
/-- A parse's answer: no number, or the number that the text is the numeral of. -/
def GoodN (s : ByteArray) (r : Int × Bool) : Prop := (r = (0, false) ∨ ∃ n : Int, -9223372036854775808 ≤ n ∧ n ≤ 9223372036854775807 ∧ r = (n, true) ∧ s = itoaS n) ∧ ∀ n : Int, -9223372036854775808 ≤ n → n ≤ 9223372036854775807 → s = itoaS n → r = (n, true)
theorem GoodN.uniq {s : ByteArray} {r r' : Int × Bool} (h : GoodN s r) (h' : GoodN s r') : r = r' := by
  rcases h.1 with e | ⟨n, n0, n1, e, es⟩
  · rcases h'.1 with e' | ⟨m, m0, m1, e', es⟩
    · rw [e, e']
    · rw [e', h.2 m m0 m1 es]
  · rw [e, h'.2 n n0 n1 es]
theorem parse_tail (s : ByteArray) (m : Int) (h0 : -9223372036854775808 ≤ m) (h1 : m ≤ 9223372036854775807) : ∃ r, Ev (fun k => (spec_FormatInt.f k m).bind fun t => if t.toList = s.toList then some (m, true) else some (0, false)) r ∧ (r = (0, false) ∨ r = (m, true) ∧ s = itoaS m) ∧ (s = itoaS m → r = (m, true)) := by
  by_cases h : s = itoaS m
  · refine ⟨(m, true), Ev.bind (formatInt_spec m h0 h1) (Ev.pos (by rw [h]) (Ev.now _)), Or.inr ⟨rfl, h⟩, fun _ => rfl⟩
  · refine ⟨(0, false), Ev.bind (formatInt_spec m h0 h1) (Ev.neg (fun e => h ((ba_eq_iff _ _).1 e).symm) (Ev.now _)), Or.inl rfl, fun e => absurd e h⟩
theorem parse_loop (s : ByteArray) (neg : Bool) (t : ByteArray) (ht : t.size ≤ 1048576) (l : List Int) : ∀ (acc i : Int), 0 ≤ i → (bytesOf t).drop i.toNat = l → -9223372036854775808 ≤ acc → acc ≤ 0 → (∀ c ∈ l, 48 ≤ c ∧ c ≤ 57) →
    ∃ r, Ev (fun k => spec_ParseInt.l0 k s neg t acc i) r ∧ (r = (0, false) ∨ ∃ n : Int, -9223372036854775808 ≤ n ∧ n ≤ 9223372036854775807 ∧ r = (n, true) ∧ s = itoaS n) ∧
      ∀ n : Int, -9223372036854775808 ≤ n → n ≤ 9223372036854775807 → s = itoaS n → valN acc l = (if neg = true then n else -n) → r = (n, true) := by
  induction l with
  | nil =>
    intro acc i hi h h0 h1 hd
    have hn := bdrop_nil hi h
    cases neg with
    | true =>
      obtain ⟨r, e, a, b⟩ := parse_tail s acc h0 (by omega)
      refine ⟨r, Ev.step (fun _ => spec_ParseInt.l0.eq_2 ..) (Ev.neg (by omega) (Ev.pos rfl e)), ?_, ?_⟩
      · rcases a with a | ⟨a, a'⟩
        · exact Or.inl a
        · exact Or.inr ⟨acc, h0, by omega, a, a'⟩
      · intro n n0 n1 es hv
        have hv' : acc = n := hv
        subst hv'
        exact b es
    | false =>
      by_cases hm : acc = -9223372036854775808
      · refine ⟨(0, false), Ev.step (fun _ => spec_ParseInt.l0.eq_2 ..) (Ev.neg (by omega) (Ev.neg (by decide) (Ev.pos hm (Ev.now _)))), Or.inl rfl, ?_⟩
        intro n n0 n1 es hv
        have hv' : acc = -n := hv
        omega
      · obtain ⟨r, e, a, b⟩ := parse_tail s (-acc) (by omega) (by omega)
        refine ⟨r, Ev.step (fun _ => spec_ParseInt.l0.eq_2 ..) (Ev.neg (by omega) (Ev.neg (by decide) (Ev.neg hm ?_))), ?_, ?_⟩
        · rw [w64 (n := -acc) (by omega) (by omega)]
          exact e
        · rcases a with a | ⟨a, a'⟩
          · exact Or.inl a
          · exact Or.inr ⟨-acc, by omega, by omega, a, a'⟩
        · intro n n0 n1 es hv
          have hv' : acc = -n := hv
          have : -acc = n := by omega
          rw [this] at b
          exact b es
  | cons c l ih =>
    intro acc i hi h h0 h1 hd
    obtain ⟨a, b, c', e⟩ := bdrop_cons hi h
    have hc := hd c (List.mem_cons_self ..)
    have hd' : ∀ x ∈ l, 48 ≤ x ∧ x ≤ 57 := fun x hx => hd x (List.mem_cons_of_mem _ hx)
    have ew : wrap64 (Int.tdiv (wrap64 ((-9223372036854775808) + (wrap64 ((wrap64 (bt t i)) - 48)))) 10) = -((9223372036854775808 - (c - 48)) / 10) := by
      rw [b, w64 (n := c) (by omega) (by omega), w64 (n := c - 48) (by omega) (by omega), w64 (n := -9223372036854775808 + (c - 48)) (by omega) (by omega), show -9223372036854775808 + (c - 48) = -(9223372036854775808 - (c - 48)) by omega, Int.neg_tdiv, Int.tdiv_eq_ediv_of_nonneg (by omega)]
      exact w64 (by omega) (by omega)
    by_cases hr : acc < -((9223372036854775808 - (c - 48)) / 10)
    · refine ⟨(0, false), Ev.step (fun _ => spec_ParseInt.l0.eq_2 ..) (Ev.pos a (Ev.pos hi (Ev.pos (by rw [ew]; exact hr) (Ev.now _)))), Or.inl rfl, ?_⟩
      intro n n0 n1 es hv
      have hle := valN_le l (acc * 10 - (c - 48)) (by omega) hd'
      have hv' : valN (acc * 10 - (c - 48)) l = (if neg = true then n else -n) := hv
      split at hv' <;> omega
    · obtain ⟨r, e1, e2, e3⟩ := ih (acc * 10 - (c - 48)) (i + 1) (by omega) c' (by omega) (by omega) hd'
      refine ⟨r, Ev.step (fun _ => spec_ParseInt.l0.eq_2 ..) (Ev.pos a (Ev.pos hi (Ev.neg (by rw [ew]; exact hr) ?_))), e2, e3⟩
      rw [b, w64 (n := c) (by omega) (by omega), w64 (n := c - 48) (by omega) (by omega), w64 (n := acc * 10) (by omega) (by omega), w64 (n := acc * 10 - (c - 48)) (by omega) (by omega), w64 (n := i + 1) (by omega) (by omega)]
      exact e1
theorem parse_j1 (s : ByteArray) (neg : Bool) (t : ByteArray) (ht : t.size ≤ 1048576) (hn : ∀ n : Int, -9223372036854775808 ≤ n → n ≤ 9223372036854775807 → s = itoaS n → ∃ u : Nat, u ≤ 9223372036854775808 ∧ bytesOf t = digB u ∧ -(u : Int) = (if neg = true then n else -n)) :
    ∃ r, Ev (fun k => spec_ParseInt.j1 k s neg t) r ∧ GoodN s r := by
  obtain ⟨d, d1, d2⟩ := isDigits_spec (s := t) (by omega) (bytesOf t) 0 (by omega) rfl
  have d1' : Ev (fun k => spec_IsDigits.f k t) d := d1
  have hb : (bytesOf t).length = t.size := bytesOf_length t
  cases d with
  | false =>
    refine ⟨(0, false), Ev.step (fun _ => spec_ParseInt.j1.eq_2 ..) (Ev.bind d1' (Ev.neg (by decide) (Ev.step (fun _ => spec_ParseInt.j2.eq_2 ..) (Ev.pos rfl (Ev.now _))))), Or.inl rfl, ?_⟩
    intro n n0 n1 es
    obtain ⟨u, u1, u2, u3⟩ := hn n n0 n1 es
    have := digB_val u
    have hl := digB_len u1
    rw [u2] at d2 hb
    exact absurd (d2.2 ⟨this.2, by omega⟩) (by decide)
  | true =>
    have hd := (d2.1 rfl)
    by_cases hz : (t.size : Int) > 19
    · refine ⟨(0, false), Ev.step (fun _ => spec_ParseInt.j1.eq_2 ..) (Ev.bind d1' (Ev.pos rfl (Ev.step (fun _ => spec_ParseInt.j2.eq_2 ..) (Ev.pos (decide_eq_true hz) (Ev.now _))))), Or.inl rfl, ?_⟩
      intro n n0 n1 es
      obtain ⟨u, u1, u2, u3⟩ := hn n n0 n1 es
      have hl := digB_len u1
      rw [u2] at hb
      omega
    · obtain ⟨r, e1, e2, e3⟩ := parse_loop s neg t ht (bytesOf t) 0 0 (by omega) rfl (by omega) (by omega) hd.1
      refine ⟨r, Ev.step (fun _ => spec_ParseInt.j1.eq_2 ..) (Ev.bind d1' (Ev.pos rfl (Ev.step (fun _ => spec_ParseInt.j2.eq_2 ..) (Ev.neg (by rw [decide_eq_true_iff]; exact hz) e1)))), e2, ?_⟩
      intro n n0 n1 es
      obtain ⟨u, u1, u2, u3⟩ := hn n n0 n1 es
      refine e3 n n0 n1 es ?_
      rw [u2, (digB_val u).1]
      exact u3
theorem itoaS_bytes (n : Int) : bytesOf (itoaS n) = if n < 0 then 45 :: digB n.natAbs else digB n.toNat := by
  show (Go.Lib.itoa n).map (fun b => (b.toNat : Int)) = _
  unfold Go.Lib.itoa
  by_cases h : n < 0
  · rw [if_pos h, if_pos h]
    rfl
  · rw [if_neg h, if_neg h]
    rfl
theorem parseInt_spec (s : ByteArray) (hs : s.size ≤ 1048576) : ∃ r, Ev (fun k => spec_ParseInt.f k s) r ∧ GoodN s r := by
  have hb : (bytesOf s).length = s.size := bytesOf_length s
  have h0 : 0 < s.size → ∃ c l, bytesOf s = c :: l ∧ bt s 0 = c := by
    intro h
    cases hl : bytesOf s with
    | nil =>
      rw [hl] at hb
      simp at hb
      omega
    | cons c l => exact ⟨c, l, rfl, (bdrop_cons (s := s) (i := 0) (x := c) (l := l) (by omega) hl).2.1⟩
  have hdig : ∀ u : Nat, ∃ c l, digB u = c :: l ∧ c ≠ 45 := by
    intro u
    cases hl : digB u with
    | nil =>
      exfalso
      obtain ⟨c, r, e, _⟩ := dec_head u
      unfold digB at hl
      rw [e] at hl
      cases hl
    | cons c l =>
      refine ⟨c, l, rfl, ?_⟩
      have := (digB_val u).2 c (by rw [hl]; exact List.mem_cons_self ..)
      omega
  unfold spec_ParseInt.f
  by_cases hz : (s.size : Int) > 0
  · obtain ⟨c, l, e1, e2⟩ := h0 (by omega)
    by_cases hc : c = 45
    · have ht : bytesOf (s.extract 1 s.size) = l := by
        rw [bytesOf_extract, ← bytesOf_length, List.take_length, e1]
        rfl
      obtain ⟨r, g1, g2⟩ := parse_j1 s true (s.extract 1 s.size) (by rw [← bytesOf_length, ht]; rw [e1, List.length_cons] at hb; omega) (by
        intro n n0 n1 es
        have hi := itoaS_bytes n
        rw [← es, e1] at hi
        by_cases hn : n < 0
        · rw [if_pos hn] at hi
          injection hi with _ hi
          exact ⟨n.natAbs, by omega, by rw [ht, hi], by rw [if_pos rfl]; omega⟩
        · rw [if_neg hn] at hi
          obtain ⟨c2, l2, e3, e4⟩ := hdig n.toNat
          rw [e3] at hi
          injection hi with hi _
          exact absurd (hi.symm.trans hc) e4)
      refine ⟨r, Ev.pos hz (Ev.pos (by omega) ?_), g2⟩
      rw [e2, show (c == 45) = true by rw [hc]; rfl]
      exact Ev.step (fun _ => spec_ParseInt.j0.eq_2 ..) (Ev.pos rfl (Ev.pos (by omega) g1))
    · obtain ⟨r, g1, g2⟩ := parse_j1 s false s hs (by
        intro n n0 n1 es
        have hi := itoaS_bytes n
        rw [← es] at hi
        by_cases hn : n < 0
        · rw [if_pos hn, e1] at hi
          injection hi with hi _
          exact absurd hi hc
        · rw [if_neg hn] at hi
          exact ⟨n.toNat, by omega, hi, by rw [if_neg (by decide)]; omega⟩)
      refine ⟨r, Ev.pos hz (Ev.pos (by omega) ?_), g2⟩
      rw [e2, show (c == 45) = false from beq_eq_false_iff_ne.2 hc]
      exact Ev.step (fun _ => spec_ParseInt.j0.eq_2 ..) (Ev.neg (by decide) g1)
  · obtain ⟨r, g1, g2⟩ := parse_j1 s false s hs (by
      intro n n0 n1 es
      exfalso
      have hi := itoaS_bytes n
      rw [← es] at hi
      by_cases hn : n < 0
      · rw [if_pos hn] at hi
        rw [hi, List.length_cons] at hb
        omega
      · rw [if_neg hn] at hi
        have := digB_len (u := n.toNat) (by omega)
        rw [hi] at hb
        omega)
    exact ⟨r, Ev.neg hz (Ev.step (fun _ => spec_ParseInt.j0.eq_2 ..) (Ev.neg (by decide) g1)), g2⟩

theorem parseInt_itoa (n : Int) (h0 : -9223372036854775808 ≤ n) (h1 : n ≤ 9223372036854775807) : impl_ParseInt.f (itoaS n) = some (n, true) := by
  have hz := itoaS_size n h0 h1
  have ha : Go.Lib.atoiAll (itoaS n).data.toList = .ok n := atoi_itoa n h0 h1
  unfold impl_ParseInt.f
  rw [if_pos (by omega), ha]
  exact if_pos rfl

theorem parseInt_impl (s : ByteArray) (hs : s.size ≤ 1048576) : ∃ r, impl_ParseInt.f s = some r ∧ GoodN s r := by
  unfold impl_ParseInt.f
  rw [if_pos (by omega)]
  have key : ∀ n : Int, -9223372036854775808 ≤ n → n ≤ 9223372036854775807 → s = itoaS n → Go.Lib.atoiAll s.data.toList = .ok n := by
    intro n n0 n1 es
    rw [es]
    exact atoi_itoa n n0 n1
  cases hA : Go.Lib.atoiAll s.data.toList with
  | ok v =>
    have hv := Go.Lib.atoiAll_bounds hA
    by_cases h : s = itoaS v
    · refine ⟨(v, true), if_pos (by rw [h]; rfl), Or.inr ⟨v, hv.1, hv.2, rfl, h⟩, ?_⟩
      intro n n0 n1 es
      have := key n n0 n1 es
      rw [hA] at this
      injection this with this
      rw [this]
    · refine ⟨(0, false), if_neg (fun e => h ((ba_eq_iff _ _).1 e).symm), Or.inl rfl, ?_⟩
      intro n n0 n1 es
      have := key n n0 n1 es
      rw [hA] at this
      injection this with this
      exact absurd (this ▸ es) h
  | «syntax» =>
    refine ⟨(0, false), rfl, Or.inl rfl, ?_⟩
    intro n n0 n1 es
    have := key n n0 n1 es
    rw [hA] at this
    cases this
  | range =>
    refine ⟨(0, false), rfl, Or.inl rfl, ?_⟩
    intro n n0 n1 es
    have := key n n0 n1 es
    rw [hA] at this
    cases this
theorem FnExactParseInt : laws_FnExactParseInt.Pure := by
  intro s hs
  apply Ev.rounds
  unfold laws_FnExactParseInt.f
  by_cases hb : (s.size : Int) > 1048576
  · exact Ev.pos hb (Ev.now _)
  · obtain ⟨r, e, g⟩ := parseInt_spec s (by omega)
    obtain ⟨r', e', g'⟩ := parseInt_impl s (by omega)
    have := g.uniq g'
    subst this
    exact Ev.neg hb (Ev.bind e (Ev.bind0 e' (Ev.pos rfl (Ev.neg (by simp) (Ev.now _)))))

end Go.Proofs.YtmnojegajblagabDoor.Pure
