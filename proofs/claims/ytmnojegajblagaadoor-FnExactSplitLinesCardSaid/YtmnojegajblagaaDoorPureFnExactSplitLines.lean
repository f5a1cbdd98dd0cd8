/- The law FnExactSplitLines holds for every input of its kind; no further condition. -/
import Derived.Test.YtmnojegajblagaaDoorPFnExactSplitLinesx2
import Derived.Test.YtmnojegajblagaaDoorLibBase
namespace Go.Proofs.YtmnojegajblagaaDoor.Pure
open Go.RowKit Go.Proofs.YtmnojegajblagaaDoor.PFnExactSplitLines Go.Proofs.YtmnojegajblagaaDoor.Lib Go.Proofs.YtmnojegajblagaaDoorW.PrintWords Go.Proofs.YtmnojegajblagaaDoorW.PrintLast Go.Proofs.YtmnojegajblagaaDoorW.PrintMore
set_option linter.unusedVariables false
set_option linter.unusedSimpArgs false

theorem splitAny_l1 (s t : ByteArray) (x : List ByteArray) (a i : Int) (hi : 0 ≤ i) (hi2 : i < (s.size : Int)) (ha : 0 ≤ a) (ha2 : a ≤ i) (hx : x.length < 4398046511104) (hs : s.size ≤ 1048576) (ht : t.size ≤ 1048576) (m : List Int) :
    ∀ j : Int, 0 ≤ j → (bytesOf t).drop j.toNat = m →
      (bt s i ∈ m → ∀ r, Ev (fun k => spec_SplitAny.l0 k s t (x ++ [s.extract a.toNat i.toNat]) (i + 1) (i + 1)) r → Ev (fun k => spec_SplitAny.l1 k s t x a i j) r) ∧
      (bt s i ∉ m → ∀ r, Ev (fun k => spec_SplitAny.l0 k s t x a (i + 1)) r → Ev (fun k => spec_SplitAny.l1 k s t x a i j) r) := by
  induction m with
  | nil =>
    intro j hj h
    have := bdrop_nil hj h
    refine ⟨fun h => absurd h (by simp), fun _ r hr => ?_⟩
    refine Ev.step (fun _ => spec_SplitAny.l1.eq_2 ..) (Ev.neg (by omega) ?_)
    rw [w64 (n := i + 1) (by omega) (by omega)]
    exact hr
  | cons b m ih =>
    intro j hj h
    obtain ⟨h1, h2, h3, h4⟩ := bdrop_cons hj h
    obtain ⟨i1, i2⟩ := ih (j + 1) (by omega) h3
    by_cases he : bt s i = b
    · refine ⟨fun _ r hr => ?_, fun hn => absurd (List.mem_cons.2 (Or.inl he)) hn⟩
      refine Ev.step (fun _ => spec_SplitAny.l1.eq_2 ..) (Ev.pos h1 (Ev.pos hi (Ev.pos hi2 (Ev.pos hj (Ev.pos (by rw [h2]; exact he) (Ev.pos ha (Ev.pos ha2 (Ev.pos (by omega) (Ev.pos (by omega) ?_)))))))))
      rw [w64 (n := i + 1) (by omega) (by omega)]
      exact hr
    · refine ⟨fun hm r hr => ?_, fun hm r hr => ?_⟩
      · refine Ev.step (fun _ => spec_SplitAny.l1.eq_2 ..) (Ev.pos h1 (Ev.pos hi (Ev.pos hi2 (Ev.pos hj (Ev.neg (by rw [h2]; exact he) ?_)))))
        rw [w64 (n := j + 1) (by omega) (by omega)]
        exact i1 ((List.mem_cons.1 hm).resolve_left he) r hr
      · refine Ev.step (fun _ => spec_SplitAny.l1.eq_2 ..) (Ev.pos h1 (Ev.pos hi (Ev.pos hi2 (Ev.pos hj (Ev.neg (by rw [h2]; exact he) ?_)))))
        rw [w64 (n := j + 1) (by omega) (by omega)]
        exact i2 (fun h => hm (List.mem_cons_of_mem _ h)) r hr

theorem ixb_none (l : List UInt8) (h : (10 : Int) ∉ l.map fun b => (b.toNat : Int)) : Go.Lib.indexByte l 10 = -1 := by
  induction l with
  | nil => rfl
  | cons b l ih =>
    rw [List.map_cons, List.mem_cons, not_or] at h
    unfold Go.Lib.indexByte
    have hb : ¬ (b == 10) = true := by
      intro e
      have : b = 10 := by simpa using e
      subst this
      exact h.1 rfl
    rw [if_neg hb, ih h.2]
    rfl
theorem ixb_at (p : List Int) : ∀ (l : List UInt8) (q : List Int), (l.map fun b => (b.toNat : Int)) = p ++ 10 :: q → (10 : Int) ∉ p → Go.Lib.indexByte l 10 = (p.length : Int) := by
  induction p with
  | nil =>
    intro l q h _
    cases l with
    | nil => cases h
    | cons b l =>
      rw [List.map_cons, List.nil_append] at h
      injection h with h1 h2
      have : b = 10 := by
        apply UInt8.toNat_inj.1
        have e : (10 : UInt8).toNat = 10 := rfl
        omega
      subst this
      rfl
  | cons y p ih =>
    intro l q h hn
    rw [List.mem_cons, not_or] at hn
    cases l with
    | nil => cases h
    | cons b l =>
      rw [List.map_cons, List.cons_append] at h
      injection h with h1 h2
      have hb : ¬ (b == 10) = true := by
        intro e
        have : b = 10 := by simpa using e
        subst this
        exact hn.1 h1
      unfold Go.Lib.indexByte
      rw [if_neg hb, ih l q h2 hn.2, if_neg (by rw [beq_iff_eq]; omega), List.length_cons]
      omega
theorem ixB_none {S : ByteArray} (h : (10 : Int) ∉ bytesOf S) : Go.Lib.indexB S (⟨#[10]⟩ : ByteArray) = -1 := (Go.Lib.index_one _ _).trans (ixb_none _ h)
theorem ixB_at {S : ByteArray} {p q : List Int} (h : bytesOf S = p ++ 10 :: q) (hn : (10 : Int) ∉ p) : Go.Lib.indexB S (⟨#[10]⟩ : ByteArray) = ((p.length : Nat) : Int) := (Go.Lib.index_one _ _).trans (ixb_at p _ q h hn)
theorem bytesOf_from (s : ByteArray) (a : Nat) : bytesOf (s.extract a s.size) = (bytesOf s).drop a := by
  rw [bytesOf_extract, ← bytesOf_length, List.take_length]
theorem splitNl (s : ByteArray) (hs : s.size ≤ 1048576) (r : List Int) : ∀ (pre : List Int) (a : Nat) (x : List ByteArray), (bytesOf s).drop a = pre ++ r → (10 : Int) ∉ pre → a ≤ s.size → x.length ≤ a →
    Ev (fun k => spec_SplitAny.l0 k s (⟨#[10]⟩ : ByteArray) x (a : Int) ((a + pre.length : Nat) : Int)) (x ++ Go.Lib.splitB (⟨#[10]⟩ : ByteArray) 0 (Go.Lib.countB (s.extract a s.size) (⟨#[10]⟩ : ByteArray)) (s.extract a s.size)) := by
  induction r with
  | nil =>
    intro pre a x h hn ha hx
    have hl : pre.length = s.size - a := by
      have := congrArg List.length h
      rw [List.length_drop, bytesOf_length, List.append_nil] at this
      exact this.symm
    have hi : Go.Lib.indexB (s.extract a s.size) (⟨#[10]⟩ : ByteArray) = -1 := ixB_none (by rw [bytesOf_from, h, List.append_nil]; exact hn)
    rw [Go.Lib.countB_miss _ _ hi, Go.Lib.splitB_zero]
    refine Ev.step (fun _ => spec_SplitAny.l0.eq_2 ..) (Ev.neg (by omega) (Ev.pos (by omega) (Ev.pos (by omega) (Ev.pos (by omega) ?_))))
    exact Ev.now _
  | cons c r ih =>
    intro pre a x h hn ha hx
    have hl : pre.length + (r.length + 1) = s.size - a := by
      have := congrArg List.length h
      rw [List.length_drop, bytesOf_length, List.length_append, List.length_cons] at this
      exact this.symm
    have hd : (bytesOf s).drop (a + pre.length) = c :: r := by
      rw [← List.drop_drop, h, List.drop_left]
    obtain ⟨h1, h2, h3, h4⟩ := bdrop_cons (s := s) (i := ((a + pre.length : Nat) : Int)) (x := c) (l := r) (by omega) (by rw [Int.toNat_natCast]; exact hd)
    obtain ⟨m1, m2⟩ := splitAny_l1 s (⟨#[10]⟩ : ByteArray) x (a : Int) ((a + pre.length : Nat) : Int) (by omega) h1 (by omega) (by omega) (by omega) hs (by decide) [10] 0 (by decide) rfl
    have e1 : ((a + pre.length : Nat) : Int) + 1 = ((a + pre.length + 1 : Nat) : Int) := by omega
    refine Ev.step (fun _ => spec_SplitAny.l0.eq_2 ..) (Ev.pos (by omega) ?_)
    by_cases hc : c = 10
    · subst hc
      refine m1 (by rw [h2]; exact List.mem_singleton.2 rfl) _ ?_
      have hS : bytesOf (s.extract a s.size) = pre ++ 10 :: r := by rw [bytesOf_from, h]
      have hi := ixB_at hS hn
      have hx2 : (s.extract a s.size).extract (pre.length + 1) (s.extract a s.size).size = s.extract (a + pre.length + 1) s.size := by
        apply bytesOf_inj
        have l1 : List.drop (pre.length + 1) (pre ++ 10 :: r) = r := by
          rw [← List.drop_drop, List.drop_left]
          rfl
        have l2 : List.drop (a + pre.length + 1) (bytesOf s) = r := by
          rw [e1, Int.toNat_natCast] at h3
          exact h3
        rw [bytesOf_from (s.extract a s.size), hS, bytesOf_from s, l1, l2]
      have hx3 : (s.extract a s.size).extract 0 (pre.length + 0) = s.extract a (a + pre.length) := by
        apply bytesOf_inj
        rw [bytesOf_extract (s.extract a s.size), hS, bytesOf_extract s, List.drop_zero, Nat.add_zero, List.take_left' rfl, List.drop_take, show a + pre.length - a = pre.length by omega, h, List.take_left' rfl]
      have hcount := Go.Lib.countB_hit (s.extract a s.size) (⟨#[10]⟩ : ByteArray) pre.length (by decide) hi
      rw [show (⟨#[10]⟩ : ByteArray).size = 1 from rfl, hx2] at hcount
      rw [hcount, Nat.add_comm 1, Go.Lib.splitB_hit _ _ _ _ _ hi, show (⟨#[10]⟩ : ByteArray).size = 1 from rfl, hx2, hx3, e1, Int.toNat_natCast, Int.toNat_natCast]
      have g := ih [] (a + pre.length + 1) (x ++ [s.extract a (a + pre.length)]) (by rw [List.nil_append]; rw [e1, Int.toNat_natCast] at h3; exact h3) (by simp) (by omega) (by rw [List.length_append, List.length_singleton]; omega)
      rw [List.append_assoc] at g
      exact g
    · refine m2 (by rw [h2]; intro e; exact hc (List.mem_singleton.1 e)) _ ?_
      have g := ih (pre ++ [c]) a x (by rw [h, List.append_assoc]; rfl) (by rw [List.mem_append, not_or]; exact ⟨hn, fun e => hc (List.mem_singleton.1 e).symm⟩) ha hx
      rw [List.length_append, List.length_singleton] at g
      rw [e1]
      exact g
def splitN (s : ByteArray) : List ByteArray := Go.Lib.splitB (⟨#[10]⟩ : ByteArray) 0 (Go.Lib.countB s (⟨#[10]⟩ : ByteArray)) s
theorem splitN_length (s : ByteArray) : 1 ≤ (splitN s).length ∧ (splitN s).length ≤ s.size + 1 := by
  have h := Go.Lib.splitB_all (⟨#[10]⟩ : ByteArray) (by decide) 0 _ s rfl
  have h2 := Go.Lib.countB_le (⟨#[10]⟩ : ByteArray) (by decide) _ s (Nat.le_refl _)
  unfold splitN
  omega
theorem splitAny_nl (s : ByteArray) (hs : s.size ≤ 1048576) : Ev (fun k => spec_SplitAny.f k s (⟨#[10]⟩ : ByteArray)) (splitN s) := by
  have g := splitNl s hs (bytesOf s) [] 0 [] rfl (by simp) (by omega) (by simp)
  rw [ba_extract_all] at g
  exact g
/-- The lines of a text. -/
def linesOf (l : List ByteArray) : List ByteArray := if (rdOf ByteArray.empty l ((l.length : Int) - 1)).toList = [] then l.take ((l.length : Int) - 1).toNat else l
theorem splitLines_spec (s : ByteArray) (hs : s.size ≤ 1048576) : Ev (fun k => spec_SplitLines.f k s) (linesOf (splitN s)) := by
  have hl := splitN_length s
  unfold spec_SplitLines.f linesOf
  refine Ev.bind (splitAny_nl s hs) ?_
  rw [w64 (n := ((splitN s).length : Int) - 1) (by omega) (by omega)]
  refine Ev.pos (by omega) (Ev.pos (by omega) ?_)
  by_cases h : (rdOf ByteArray.empty (splitN s) (((splitN s).length : Int) - 1)).toList = []
  · rw [if_pos h, if_pos h]
    exact Ev.pos (by omega) (Ev.now _)
  · rw [if_neg h, if_neg h]
    exact Ev.now _
theorem splitLines_impl (s : ByteArray) (hs : s.size ≤ 1048576) : impl_SplitLines.f s = some (linesOf (splitN s)) := by
  have hl := splitN_length s
  unfold impl_SplitLines.f strings_Split.f linesOf
  rw [if_pos ⟨by omega, by decide⟩, Option.bind_some]
  rw [show Go.Lib.splitB (⟨#[10]⟩ : ByteArray) 0 (Go.Lib.countB s (⟨#[10]⟩ : ByteArray)) s = splitN s from rfl]
  rw [w64 (n := ((splitN s).length : Int) - 1) (by omega) (by omega), if_pos (by omega), if_pos (by omega)]
  by_cases h : (rdOf ByteArray.empty (splitN s) (((splitN s).length : Int) - 1)).toList = []
  · rw [if_pos h, if_pos h, if_pos (by omega)]
  · rw [if_neg h, if_neg h]
theorem linesOf_length (l : List ByteArray) : (linesOf l).length ≤ l.length := by
  unfold linesOf
  split
  · rw [List.length_take]
    omega
  · omega

theorem eqStringS_refl_l (d : Nat) : ∀ (i : Int) (l : List ByteArray), 0 ≤ i → i + d = (l.length : Int) → (l.length : Int) ≤ 4611686018427387904 → Ev (fun k => laws_eqStringS.l0 k l l i) true := by
  induction d with
  | zero =>
    intro i l h0 hd hl
    exact Ev.step (fun _ => laws_eqStringS.l0.eq_2 ..) (Ev.neg (by omega) (Ev.now _))
  | succ d ih =>
    intro i l h0 hd hl
    refine Ev.step (fun _ => laws_eqStringS.l0.eq_2 ..) (Ev.pos (by omega) (Ev.pos h0 (Ev.pos (by omega) (Ev.pos rfl ?_))))
    rw [w64 (n := i + 1) (by omega) (by omega)]
    exact ih (i + 1) l (by omega) (by omega) hl
theorem eqStringS_refl (l : List ByteArray) (hl : (l.length : Int) ≤ 4611686018427387904) : Ev (fun k => laws_eqStringS.f k l l) true := by
  unfold laws_eqStringS.f
  exact Ev.pos rfl (eqStringS_refl_l l.length 0 l (by omega) (by omega) hl)

theorem markText_l (d : Nat) : ∀ (n : Int) (t : ByteArray), n.toNat ≤ d → (t.size : Int) + n ≤ 4611686018427387904 → t.size ≤ 4611686018427387904 → ∃ r, Ev (fun k => laws_markText.l0 k n t) r := by
  induction d with
  | zero =>
    intro n t hd h1 h2
    exact ⟨_, Ev.step (fun _ => laws_markText.l0.eq_2 ..) (Ev.neg (by omega) (Ev.pos (by omega) (Ev.now _)))⟩
  | succ d ih =>
    intro n t hd h1 h2
    by_cases hn : n > 0
    · have e : Int.tdiv n 10 = n / 10 := Int.tdiv_eq_ediv_of_nonneg (by omega)
      obtain ⟨r, hr⟩ := ih (n / 10) (strOfNums [wrap64 (48 + Int.tmod n 10) % 256] ++ t) (by omega) (by rw [ba_size_append, strOfNums_size, List.length_singleton]; omega) (by rw [ba_size_append, strOfNums_size, List.length_singleton]; omega)
      refine ⟨r, Ev.step (fun _ => laws_markText.l0.eq_2 ..) (Ev.pos hn (Ev.bind0 rfl (Ev.pos ?_ ?_)))⟩
      · rw [strOfNums_size, List.length_singleton]
        omega
      · rw [e, w64 (n := n / 10) (by omega) (by omega)]
        exact hr
    · exact ⟨_, Ev.step (fun _ => laws_markText.l0.eq_2 ..) (Ev.neg (by omega) (Ev.pos (by omega) (Ev.now _)))⟩
theorem markText_ex (n : Int) (h : n ≤ 1152921504606846976) : ∃ r, Ev (fun k => laws_markText.f k n) r := by
  unfold laws_markText.f
  by_cases hn : n ≤ 0
  · exact ⟨_, Ev.pos hn (Ev.now _)⟩
  · obtain ⟨r, hr⟩ := markText_l n.toNat n ⟨#[]⟩ (by omega) (by have : (⟨#[]⟩ : ByteArray).size = 0 := rfl; omega) (by have : (⟨#[]⟩ : ByteArray).size = 0 := rfl; omega)
    exact ⟨r, Ev.neg hn hr⟩

theorem markStringS_l (d : Nat) : ∀ (i k : Int) (l : List ByteArray), 0 ≤ i → i + d = (l.length : Int) → 0 ≤ k → k + d ≤ 1152921504606846976 → (l.length : Int) ≤ 1152921504606846976 →
    ∃ l', Ev (fun n => laws_markStringS.l0 n l k i) (k + d, l') ∧ l'.length = l.length ∧ (∀ j : Nat, (j : Int) < i → l'[j]? = l[j]?) ∧ Ev (fun n => laws_heldStringS.l0 n l' k i) (k + d) := by
  induction d with
  | zero =>
    intro i k l h0 hd hk hk' hl
    refine ⟨l, ?_, rfl, fun _ _ => rfl, ?_⟩
    · rw [show k + ((0 : Nat) : Int) = k by omega]
      exact Ev.step (fun _ => laws_markStringS.l0.eq_2 ..) (Ev.neg (by omega) (Ev.now _))
    · rw [show k + ((0 : Nat) : Int) = k by omega]
      exact Ev.step (fun _ => laws_heldStringS.l0.eq_2 ..) (Ev.neg (by omega) (Ev.now _))
  | succ d ih =>
    intro i k l h0 hd hk hk' hl
    obtain ⟨t, ht⟩ := markText_ex k (by omega)
    obtain ⟨l', h1, h2, h3, h4⟩ := ih (i + 1) (k + 1) (l.set i.toNat t) (by omega) (by rw [List.length_set]; omega) (by omega) (by omega) (by rw [List.length_set]; omega)
    rw [List.length_set] at h2
    rw [show k + 1 + (d : Int) = k + ((d + 1 : Nat) : Int) by omega] at h1 h4
    refine ⟨l', ?_, h2, ?_, ?_⟩
    · refine Ev.step (fun _ => laws_markStringS.l0.eq_2 ..) (Ev.pos (by omega) (Ev.bind ht (Ev.pos h0 ?_)))
      rw [w64 (n := k + 1) (by omega) (by omega), w64 (n := i + 1) (by omega) (by omega)]
      exact h1
    · intro j hj
      rw [h3 j (by omega), List.getElem?_set_ne (by omega)]
    · refine Ev.step (fun _ => laws_heldStringS.l0.eq_2 ..) (Ev.pos (by omega) (Ev.pos h0 (Ev.bind ht (Ev.pos ?_ ?_))))
      · have := h3 i.toNat (by omega)
        rw [List.getElem?_set_self (by omega)] at this
        unfold rdOf
        rw [List.getD_eq_getElem?_getD, this]
        rfl
      · rw [w64 (n := k + 1) (by omega) (by omega), w64 (n := i + 1) (by omega) (by omega)]
        exact h4
theorem markStringS_ex (l : List ByteArray) (k : Int) (hk : 0 ≤ k) (h : k + (l.length : Int) ≤ 1152921504606846976) :
    ∃ m l', Ev (fun n => laws_markStringS.f n l k) (m, l') ∧ Ev (fun n => laws_heldStringS.f n l' k) m ∧ 0 ≤ m ∧ m = k + (l.length : Int) ∧ l'.length = l.length := by
  obtain ⟨l', h1, h2, _, h4⟩ := markStringS_l l.length 0 k l (by omega) (by omega) hk h (by omega)
  exact ⟨_, l', h1, h4, by omega, rfl, h2⟩

theorem FnExactSplitLines : laws_FnExactSplitLines.Pure := by
  intro s hs
  apply Ev.rounds
  unfold laws_FnExactSplitLines.f
  by_cases hb : (s.size : Int) > 1048576
  · exact Ev.pos hb (Ev.now _)
  · have h1 := splitLines_spec s (by omega)
    have h2 := splitLines_impl s (by omega)
    have hl := splitN_length s
    have hl2 := linesOf_length (splitN s)
    obtain ⟨m, l, h4, h5, h6, _, _⟩ := markStringS_ex (linesOf (splitN s)) 1 (by omega) (by omega)
    have he := eqStringS_refl (linesOf (splitN s)) (by omega)
    exact Ev.neg hb (Ev.bind h1 (Ev.bind0 h2 (Ev.bind he (Ev.pos rfl (Ev.bind h4 (Ev.bind h5 (Ev.neg (by omega) (Ev.pos rfl (Ev.bind0 h2 (Ev.bind he (Ev.pos rfl (Ev.bind h5 (Ev.neg (by omega) (Ev.pos rfl (Ev.now _)))))))))))))))

end Go.Proofs.YtmnojegajblagaaDoor.Pure
