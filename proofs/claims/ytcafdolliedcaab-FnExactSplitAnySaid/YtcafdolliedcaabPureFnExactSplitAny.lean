/- The law FnExactSplitAny holds for every input of its kind; no further condition. -/
import Derived.Test.YtcafdolliedcaabPFnExactSplitAnyx2
import Derived.Test.YtcafdolliedcaabLibBase
namespace Go.Proofs.Ytcafdolliedcaab.Pure
open Go.RowKit Go.Proofs.Ytcafdolliedcaab.PFnExactSplitAny Go.Proofs.Ytcafdolliedcaab.Lib Go.Proofs.YtcafdolliedcaabW.PrintWords Go.Proofs.YtcafdolliedcaabW.PrintLast Go.Proofs.YtcafdolliedcaabW.PrintMore
set_option linter.unusedVariables false
set_option linter.unusedSimpArgs false

theorem indexByte_mem (l : List UInt8) (c : UInt8) : Go.Lib.indexByte l c ≥ 0 ↔ c ∈ l := by
  induction l with
  | nil => simp [Go.Lib.indexByte]
  | cons b l ih =>
    unfold Go.Lib.indexByte
    have hg := Go.Lib.indexByte_ge l c
    by_cases hb : (b == c) = true
    · rw [if_pos hb]
      have : b = c := by simpa using hb
      subst this
      simp
    · rw [if_neg hb]
      have hb' : c ≠ b := fun e => hb (by rw [e]; simp)
      rw [List.mem_cons, or_iff_right hb', ← ih]
      by_cases h : (Go.Lib.indexByte l c == -1) = true
      · rw [if_pos h]
        have : Go.Lib.indexByte l c = -1 := by simpa using h
        omega
      · rw [if_neg h]
        have : Go.Lib.indexByte l c ≠ -1 := by simpa using h
        omega
theorem mem_bytesOf (s : ByteArray) (b : Int) (h0 : 0 ≤ b) (h1 : b ≤ 255) : b.toNat.toUInt8 ∈ s.data.toList ↔ b ∈ bytesOf s := by
  unfold bytesOf
  rw [List.mem_map]
  constructor
  · intro h
    refine ⟨_, h, ?_⟩
    have : (b.toNat.toUInt8).toNat = b.toNat % 256 := by simp [Nat.toUInt8]
    rw [this]
    omega
  · rintro ⟨a, h, rfl⟩
    have : (((a.toNat : Nat) : Int).toNat).toUInt8 = a := by
      rw [Int.toNat_natCast]
      simp [Nat.toUInt8]
    rw [this]
    exact h
theorem splitAny_l1 (s t : ByteArray) (x : List ByteArray) (a i : Int) (hi : 0 ≤ i) (hi2 : i < (s.size : Int)) (ha : 0 ≤ a) (ha2 : a ≤ i) (hx : x.length < 4398046511104) (hs : s.size ≤ 1048576) (ht : t.size ≤ 1048576) (m : List Int) :
    ∀ j : Int, 0 ≤ j → (bytesOf t).drop j.toNat = m →
      (bt s i ∈ m → ∀ r, Ev (fun k => spec_SplitAny.l0 k s t (x ++ [s.extract a.toNat i.toNat]) (i + 1) (i + 1)) r → Ev (fun k => spec_SplitAny.l1 k s t x a i j) r) ∧
      (bt s i ∉ m → ∀ r, Ev (fun k => spec_SplitAny.l0 k s t x a (i + 1)) r → Ev (fun k => spec_SplitAny.l1 k s t x a i j) r) := by
  induction m with
  | nil =>
    intro j hj h
    have := bdrop_nil hj h
    refine ⟨fun h => absurd h (by simp), fun _ r hr => ?_⟩
    refine Ev.step (fun _ => spec_SplitAny.l1.eq_2 ..) (Ev.neg (by omega) ?_)
    rw [w64 (n := i + 1) (by omega) (by omega)]
    exact hr
  | cons b m ih =>
    intro j hj h
    obtain ⟨h1, h2, h3, h4⟩ := bdrop_cons hj h
    obtain ⟨i1, i2⟩ := ih (j + 1) (by omega) h3
    by_cases he : bt s i = b
    · refine ⟨fun _ r hr => ?_, fun hn => absurd (List.mem_cons.2 (Or.inl he)) hn⟩
      refine Ev.step (fun _ => spec_SplitAny.l1.eq_2 ..) (Ev.pos h1 (Ev.pos hi (Ev.pos hi2 (Ev.pos hj (Ev.pos (by rw [h2]; exact he) (Ev.pos ha (Ev.pos ha2 (Ev.pos (by omega) (Ev.pos (by omega) ?_)))))))))
      rw [w64 (n := i + 1) (by omega) (by omega)]
      exact hr
    · refine ⟨fun hm r hr => ?_, fun hm r hr => ?_⟩
      · refine Ev.step (fun _ => spec_SplitAny.l1.eq_2 ..) (Ev.pos h1 (Ev.pos hi (Ev.pos hi2 (Ev.pos hj (Ev.neg (by rw [h2]; exact he) ?_)))))
        rw [w64 (n := j + 1) (by omega) (by omega)]
        exact i1 ((List.mem_cons.1 hm).resolve_left he) r hr
      · refine Ev.step (fun _ => spec_SplitAny.l1.eq_2 ..) (Ev.pos h1 (Ev.pos hi (Ev.pos hi2 (Ev.pos hj (Ev.neg (by rw [h2]; exact he) ?_)))))
        rw [w64 (n := j + 1) (by omega) (by omega)]
        exact i2 (fun h => hm (List.mem_cons_of_mem _ h)) r hr
theorem splitAny_both (s t : ByteArray) (hs : s.size ≤ 1048576) (ht : t.size ≤ 1048576) (d : Nat) : ∀ (x : List ByteArray) (a i : Int), 0 ≤ a → a ≤ i → i + d = (s.size : Int) → (x.length : Int) ≤ i →
    ∃ r, Ev (fun k => spec_SplitAny.l0 k s t x a i) r ∧ Ev (fun k => impl_SplitAny.l0 k s t x a (s.size : Int) i) r ∧ r.length ≤ s.size + 1 := by
  induction d with
  | zero =>
    intro x a i ha hai hd hx
    refine ⟨x ++ [s.extract a.toNat s.size], ?_, ?_, by rw [List.length_append, List.length_singleton]; omega⟩
    · exact Ev.step (fun _ => spec_SplitAny.l0.eq_2 ..) (Ev.neg (by omega) (Ev.pos ha (Ev.pos (by omega) (Ev.pos (by omega) (Ev.now _)))))
    · exact Ev.step (fun _ => impl_SplitAny.l0.eq_2 ..) (Ev.neg (by omega) (Ev.pos ha (Ev.pos (by omega) (Ev.pos (by omega) (Ev.now _)))))
  | succ d ih =>
    intro x a i ha hai hd hx
    have hc : ∃ b m, (bytesOf s).drop i.toNat = b :: m := by
      cases hh : (bytesOf s).drop i.toNat with
      | nil => exact absurd (bdrop_nil (by omega) hh) (by omega)
      | cons b m => exact ⟨b, m, rfl⟩
    obtain ⟨b, m, hbm⟩ := hc
    obtain ⟨k1, k2, _, _⟩ := bdrop_cons (by omega) hbm
    have hb : b ∈ bytesOf s := List.mem_of_mem_drop (by rw [hbm]; exact List.mem_cons_self ..)
    have hb := bytesOf_range hb
    obtain ⟨l1, l2⟩ := splitAny_l1 s t x a i (by omega) k1 ha hai (by omega) hs ht (bytesOf t) 0 (by omega) (by simp)
    have hf : strings_IndexByte.f t (bt s i) = some (Go.Lib.indexByte t.data.toList (bt s i).toNat.toUInt8) := rfl
    have hiff : Go.Lib.indexByte t.data.toList (bt s i).toNat.toUInt8 ≥ 0 ↔ bt s i ∈ bytesOf t := (indexByte_mem _ _).trans (mem_bytesOf t _ (by omega) (by omega))
    by_cases hm : bt s i ∈ bytesOf t
    · obtain ⟨r, a1, a2, a3⟩ := ih (x ++ [s.extract a.toNat i.toNat]) (i + 1) (i + 1) (by omega) (by omega) (by omega) (by rw [List.length_append, List.length_singleton]; omega)
      refine ⟨r, Ev.step (fun _ => spec_SplitAny.l0.eq_2 ..) (Ev.pos (by omega) (l1 hm r a1)), ?_, a3⟩
      refine Ev.step (fun _ => impl_SplitAny.l0.eq_2 ..) (Ev.pos (by omega) (Ev.pos (by omega) (Ev.pos k1 (Ev.bind0 hf (Ev.pos (hiff.2 hm) (Ev.pos ha (Ev.pos hai (Ev.pos (by omega) (Ev.pos (by omega) ?_)))))))))
      rw [w64 (n := i + 1) (by omega) (by omega)]
      exact a2
    · obtain ⟨r, a1, a2, a3⟩ := ih x a (i + 1) (by omega) (by omega) (by omega) (by omega)
      refine ⟨r, Ev.step (fun _ => spec_SplitAny.l0.eq_2 ..) (Ev.pos (by omega) (l2 hm r a1)), ?_, a3⟩
      refine Ev.step (fun _ => impl_SplitAny.l0.eq_2 ..) (Ev.pos (by omega) (Ev.pos (by omega) (Ev.pos k1 (Ev.bind0 hf (Ev.neg (fun h => hm (hiff.1 h)) ?_)))))
      rw [w64 (n := i + 1) (by omega) (by omega)]
      exact a2

theorem eqStringS_refl_l (d : Nat) : ∀ (i : Int) (l : List ByteArray), 0 ≤ i → i + d = (l.length : Int) → (l.length : Int) ≤ 4611686018427387904 → Ev (fun k => laws_eqStringS.l0 k l l i) true := by
  induction d with
  | zero =>
    intro i l h0 hd hl
    exact Ev.step (fun _ => laws_eqStringS.l0.eq_2 ..) (Ev.neg (by omega) (Ev.now _))
  | succ d ih =>
    intro i l h0 hd hl
    refine Ev.step (fun _ => laws_eqStringS.l0.eq_2 ..) (Ev.pos (by omega) (Ev.pos h0 (Ev.pos (by omega) (Ev.pos rfl ?_))))
    rw [w64 (n := i + 1) (by omega) (by omega)]
    exact ih (i + 1) l (by omega) (by omega) hl
theorem eqStringS_refl (l : List ByteArray) (hl : (l.length : Int) ≤ 4611686018427387904) : Ev (fun k => laws_eqStringS.f k l l) true := by
  unfold laws_eqStringS.f
  exact Ev.pos rfl (eqStringS_refl_l l.length 0 l (by omega) (by omega) hl)

theorem markText_l (d : Nat) : ∀ (n : Int) (t : ByteArray), n.toNat ≤ d → (t.size : Int) + n ≤ 4611686018427387904 → t.size ≤ 4611686018427387904 → ∃ r, Ev (fun k => laws_markText.l0 k n t) r := by
  induction d with
  | zero =>
    intro n t hd h1 h2
    exact ⟨_, Ev.step (fun _ => laws_markText.l0.eq_2 ..) (Ev.neg (by omega) (Ev.pos (by omega) (Ev.now _)))⟩
  | succ d ih =>
    intro n t hd h1 h2
    by_cases hn : n > 0
    · have e : Int.tdiv n 10 = n / 10 := Int.tdiv_eq_ediv_of_nonneg (by omega)
      obtain ⟨r, hr⟩ := ih (n / 10) (strOfNums [wrap64 (48 + Int.tmod n 10) % 256] ++ t) (by omega) (by rw [ba_size_append, strOfNums_size, List.length_singleton]; omega) (by rw [ba_size_append, strOfNums_size, List.length_singleton]; omega)
      refine ⟨r, Ev.step (fun _ => laws_markText.l0.eq_2 ..) (Ev.pos hn (Ev.bind0 rfl (Ev.pos ?_ ?_)))⟩
      · rw [strOfNums_size, List.length_singleton]
        omega
      · rw [e, w64 (n := n / 10) (by omega) (by omega)]
        exact hr
    · exact ⟨_, Ev.step (fun _ => laws_markText.l0.eq_2 ..) (Ev.neg (by omega) (Ev.pos (by omega) (Ev.now _)))⟩
theorem markText_ex (n : Int) (h : n ≤ 1152921504606846976) : ∃ r, Ev (fun k => laws_markText.f k n) r := by
  unfold laws_markText.f
  by_cases hn : n ≤ 0
  · exact ⟨_, Ev.pos hn (Ev.now _)⟩
  · obtain ⟨r, hr⟩ := markText_l n.toNat n ⟨#[]⟩ (by omega) (by have : (⟨#[]⟩ : ByteArray).size = 0 := rfl; omega) (by have : (⟨#[]⟩ : ByteArray).size = 0 := rfl; omega)
    exact ⟨r, Ev.neg hn hr⟩

theorem markStringS_l (d : Nat) : ∀ (i k : Int) (l : List ByteArray), 0 ≤ i → i + d = (l.length : Int) → 0 ≤ k → k + d ≤ 1152921504606846976 → (l.length : Int) ≤ 1152921504606846976 →
    ∃ l', Ev (fun n => laws_markStringS.l0 n l k i) (k + d, l') ∧ l'.length = l.length ∧ (∀ j : Nat, (j : Int) < i → l'[j]? = l[j]?) ∧ Ev (fun n => laws_heldStringS.l0 n l' k i) (k + d) := by
  induction d with
  | zero =>
    intro i k l h0 hd hk hk' hl
    refine ⟨l, ?_, rfl, fun _ _ => rfl, ?_⟩
    · rw [show k + ((0 : Nat) : Int) = k by omega]
      exact Ev.step (fun _ => laws_markStringS.l0.eq_2 ..) (Ev.neg (by omega) (Ev.now _))
    · rw [show k + ((0 : Nat) : Int) = k by omega]
      exact Ev.step (fun _ => laws_heldStringS.l0.eq_2 ..) (Ev.neg (by omega) (Ev.now _))
  | succ d ih =>
    intro i k l h0 hd hk hk' hl
    obtain ⟨t, ht⟩ := markText_ex k (by omega)
    obtain ⟨l', h1, h2, h3, h4⟩ := ih (i + 1) (k + 1) (l.set i.toNat t) (by omega) (by rw [List.length_set]; omega) (by omega) (by omega) (by rw [List.length_set]; omega)
    rw [List.length_set] at h2
    rw [show k + 1 + (d : Int) = k + ((d + 1 : Nat) : Int) by omega] at h1 h4
    refine ⟨l', ?_, h2, ?_, ?_⟩
    · refine Ev.step (fun _ => laws_markStringS.l0.eq_2 ..) (Ev.pos (by omega) (Ev.bind ht (Ev.pos h0 ?_)))
      rw [w64 (n := k + 1) (by omega) (by omega), w64 (n := i + 1) (by omega) (by omega)]
      exact h1
    · intro j hj
      rw [h3 j (by omega), List.getElem?_set_ne (by omega)]
    · refine Ev.step (fun _ => laws_heldStringS.l0.eq_2 ..) (Ev.pos (by omega) (Ev.pos h0 (Ev.bind ht (Ev.pos ?_ ?_))))
      · have := h3 i.toNat (by omega)
        rw [List.getElem?_set_self (by omega)] at this
        unfold rdOf
        rw [List.getD_eq_getElem?_getD, this]
        rfl
      · rw [w64 (n := k + 1) (by omega) (by omega), w64 (n := i + 1) (by omega) (by omega)]
        exact h4
theorem markStringS_ex (l : List ByteArray) (k : Int) (hk : 0 ≤ k) (h : k + (l.length : Int) ≤ 1152921504606846976) :
    ∃ m l', Ev (fun n => laws_markStringS.f n l k) (m, l') ∧ Ev (fun n => laws_heldStringS.f n l' k) m ∧ 0 ≤ m ∧ m = k + (l.length : Int) ∧ l'.length = l.length := by
  obtain ⟨l', h1, h2, _, h4⟩ := markStringS_l l.length 0 k l (by omega) (by omega) hk h (by omega)
  exact ⟨_, l', h1, h4, by omega, rfl, h2⟩

theorem FnExactSplitAny : laws_FnExactSplitAny.Pure := by
  intro s n hs hn
  apply Ev.rounds
  unfold laws_FnExactSplitAny.f
  by_cases hb : (s.size : Int) > 1048576
  · exact Ev.pos hb (Ev.now _)
  · by_cases hb2 : (n.size : Int) > 1048576
    · exact Ev.neg hb (Ev.pos hb2 (Ev.now _))
    · obtain ⟨r, h1, h2, h3⟩ := splitAny_both s n (by omega) (by omega) s.size [] 0 0 (by omega) (by omega) (by omega) (by simp)
      obtain ⟨m, l, h4, h5, h6, _, _⟩ := markStringS_ex r 1 (by omega) (by omega)
      have he := eqStringS_refl r (by omega)
      have h1' : Ev (fun k => spec_SplitAny.f k s n) r := h1
      have h2' : Ev (fun k => impl_SplitAny.f k s n) r := h2
      exact Ev.neg hb (Ev.neg hb2 (Ev.bind h1' (Ev.bind h2' (Ev.bind he (Ev.pos rfl (Ev.bind h4 (Ev.bind h5 (Ev.neg (by omega) (Ev.pos rfl (Ev.bind h2' (Ev.bind he (Ev.pos rfl (Ev.bind h5 (Ev.neg (by omega) (Ev.pos rfl (Ev.now _))))))))))))))))

end Go.Proofs.Ytcafdolliedcaab.Pure
