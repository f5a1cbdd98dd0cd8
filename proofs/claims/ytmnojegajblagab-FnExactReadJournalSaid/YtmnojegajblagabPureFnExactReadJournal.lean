/- The law FnExactReadJournal holds for every input of its kind; no further condition. -/
import Derived.Test.YtmnojegajblagabPFnExactReadJournalx13
import Derived.Test.YtmnojegajblagabLibBase
import Derived.Test.YtmnojegajblagabLibOpen
import Derived.Test.YtmnojegajblagabLibNumbers
import Derived.Test.YtmnojegajblagabLibCheck
namespace Go.Proofs.Ytmnojegajblagab.Pure
open Go.RowKit Go.Proofs.Ytmnojegajblagab.PFnExactReadJournal Go.Proofs.Ytmnojegajblagab.Lib Go.Proofs.YtmnojegajblagabW.PrintWords Go.Proofs.YtmnojegajblagabW.PrintLast Go.Proofs.YtmnojegajblagabW.PrintMore
set_option linter.unusedVariables false
set_option linter.unusedSimpArgs false

theorem szStringS_l (xs : List ByteArray) (hx : xs.length ≤ 1048576) (hs : ∀ s, s ∈ xs → s.size ≤ 9223372036854775807) (l : List ByteArray) : ∀ (i left : Int), 0 ≤ i → xs.drop i.toNat = l → 0 ≤ left → left ≤ 1048576 →
    ∃ t, Ev (fun k => laws_szStringS.l0 k xs left i) t ∧ (t < 0 ∨ 0 ≤ t ∧ t ≤ left ∧ ∀ s, s ∈ l → (s.size : Int) ≤ left) := by
  induction l with
  | nil =>
    intro i left h0 h hl hl'
    have := ldrop_nil h0 h
    exact ⟨left, Ev.step (fun _ => laws_szStringS.l0.eq_2 ..) (Ev.neg (by omega) (Ev.now _)), Or.inr ⟨hl, by omega, fun s h => by cases h⟩⟩
  | cons x l ih =>
    intro i left h0 h hl hl'
    obtain ⟨a, b, c, e⟩ := ldrop_cons ByteArray.empty h0 h
    have hxs : x.size ≤ 9223372036854775807 := hs x (by
      have : x ∈ xs.drop i.toNat := by rw [h]; exact List.mem_cons_self ..
      exact List.mem_of_mem_drop this)
    by_cases hneg : left - (x.size : Int) < 0
    · refine ⟨-1, Ev.step (fun _ => laws_szStringS.l0.eq_2 ..) (Ev.pos a (Ev.pos h0 ?_)), by omega⟩
      rw [b, w64 (n := left - (x.size : Int)) (by omega) (by omega)]
      exact Ev.pos hneg (Ev.now _)
    · obtain ⟨t, h1, h2⟩ := ih (i + 1) (left - (x.size : Int)) (by omega) c (by omega) (by omega)
      refine ⟨t, Ev.step (fun _ => laws_szStringS.l0.eq_2 ..) (Ev.pos a (Ev.pos h0 ?_)), ?_⟩
      · rw [b, w64 (n := left - (x.size : Int)) (by omega) (by omega), w64 (n := i + 1) (by omega) (by omega)]
        exact Ev.neg hneg h1
      · rcases h2 with h2 | ⟨h2, h3, h4⟩
        · exact Or.inl h2
        · refine Or.inr ⟨h2, by omega, fun s hs => ?_⟩
          rcases List.mem_cons.1 hs with hs | hs
          · subst hs
            omega
          · have := h4 s hs
            omega
theorem szStringS_ex (xs : List ByteArray) (hx : xs.length ≤ 9223372036854775807) (hs : ∀ s, s ∈ xs → s.size ≤ 9223372036854775807) (left : Int) (hl : 0 ≤ left) (hl' : left ≤ 1048576) :
    ∃ t, Ev (fun k => laws_szStringS.f k xs left) t ∧ (t < 0 ∨ 0 ≤ t ∧ t ≤ left ∧ (xs.length : Int) ≤ left ∧ ∀ s, s ∈ xs → (s.size : Int) ≤ left) := by
  unfold laws_szStringS.f
  rw [w64 (n := left - (xs.length : Int)) (by omega) (by omega)]
  by_cases hneg : left - (xs.length : Int) < 0
  · exact ⟨-1, Ev.pos hneg (Ev.now _), by omega⟩
  · obtain ⟨t, h1, h2⟩ := szStringS_l xs (by omega) hs xs 0 (left - (xs.length : Int)) (by omega) rfl (by omega) (by omega)
    refine ⟨t, Ev.neg hneg h1, ?_⟩
    rcases h2 with h2 | ⟨h2, h3, h4⟩
    · exact Or.inl h2
    · exact Or.inr ⟨h2, by omega, by omega, fun s hs => by have := h4 s hs; omega⟩

theorem szWriteS_l (xs : List S99) (hx : xs.length ≤ 1048576) (hs : ∀ s, s ∈ xs → s.f1.size ≤ 9223372036854775807) (l : List S99) : ∀ (i left : Int), 0 ≤ i → xs.drop i.toNat = l → 0 ≤ left → left ≤ 1048576 →
    ∃ t, Ev (fun k => laws_szWriteS.l0 k xs left i) t ∧ (t < 0 ∨ 0 ≤ t ∧ t ≤ left ∧ ∀ s, s ∈ l → (s.f1.size : Int) ≤ left) := by
  induction l with
  | nil =>
    intro i left h0 h hl hl'
    have := ldrop_nil h0 h
    exact ⟨left, Ev.step (fun _ => laws_szWriteS.l0.eq_2 ..) (Ev.neg (by omega) (Ev.now _)), Or.inr ⟨hl, by omega, fun s h => by cases h⟩⟩
  | cons x l ih =>
    intro i left h0 h hl hl'
    obtain ⟨a, b, c, e⟩ := ldrop_cons z99 h0 h
    have hb : rd_T99 xs i = x := b
    have hxs : x.f1.size ≤ 9223372036854775807 := hs x (by
      have : x ∈ xs.drop i.toNat := by rw [h]; exact List.mem_cons_self ..
      exact List.mem_of_mem_drop this)
    by_cases hneg : left - (x.f1.size : Int) < 0
    · refine ⟨-1, Ev.step (fun _ => laws_szWriteS.l0.eq_2 ..) (Ev.pos a (Ev.pos h0 ?_)), by omega⟩
      rw [hb]
      refine Ev.bind0 (a := -1) ?_ (Ev.pos (by decide) (Ev.now _))
      unfold laws_szWrite.f
      rw [w64 (n := left - (x.f1.size : Int)) (by omega) (by omega), if_pos hneg]
    · obtain ⟨t, h1, h2⟩ := ih (i + 1) (left - (x.f1.size : Int)) (by omega) c (by omega) (by omega)
      refine ⟨t, Ev.step (fun _ => laws_szWriteS.l0.eq_2 ..) (Ev.pos a (Ev.pos h0 ?_)), ?_⟩
      · rw [hb]
        refine Ev.bind0 (a := left - (x.f1.size : Int)) ?_ (Ev.neg hneg ?_)
        · unfold laws_szWrite.f
          rw [w64 (n := left - (x.f1.size : Int)) (by omega) (by omega), if_neg hneg]
        · rw [w64 (n := i + 1) (by omega) (by omega)]
          exact h1
      · rcases h2 with h2 | ⟨h2, h3, h4⟩
        · exact Or.inl h2
        · refine Or.inr ⟨h2, by omega, fun s hs => ?_⟩
          rcases List.mem_cons.1 hs with hs | hs
          · subst hs
            omega
          · have := h4 s hs
            omega
theorem szWriteS_ex (xs : List S99) (hx : xs.length ≤ 9223372036854775807) (hs : ∀ s, s ∈ xs → s.f1.size ≤ 9223372036854775807) (left : Int) (hl : 0 ≤ left) (hl' : left ≤ 1048576) :
    ∃ t, Ev (fun k => laws_szWriteS.f k xs left) t ∧ (t < 0 ∨ 0 ≤ t ∧ t ≤ left ∧ (xs.length : Int) ≤ left ∧ ∀ s, s ∈ xs → (s.f1.size : Int) ≤ left) := by
  unfold laws_szWriteS.f
  rw [w64 (n := left - (xs.length : Int)) (by omega) (by omega)]
  by_cases hneg : left - (xs.length : Int) < 0
  · exact ⟨-1, Ev.pos hneg (Ev.now _), by omega⟩
  · obtain ⟨t, h1, h2⟩ := szWriteS_l xs (by omega) hs xs 0 (left - (xs.length : Int)) (by omega) rfl (by omega) (by omega)
    refine ⟨t, Ev.neg hneg h1, ?_⟩
    rcases h2 with h2 | ⟨h2, h3, h4⟩
    · exact Or.inl h2
    · exact Or.inr ⟨h2, by omega, by omega, fun s hs => by have := h4 s hs; omega⟩

theorem toStringS_l (xs : List ByteArray) (hx : xs.length ≤ 1048576) (l : List ByteArray) : ∀ (i : Int) (ys : List ByteArray), 0 ≤ i → xs.drop i.toNat = l → ys.length = xs.length → Ev (fun k => laws_toStringS.l0 k xs ys i) (ys.take i.toNat ++ l) := by
  induction l with
  | nil =>
    intro i ys h0 h hy
    have := ldrop_nil h0 h
    rw [List.append_nil, List.take_of_length_le (by omega)]
    exact Ev.step (fun _ => laws_toStringS.l0.eq_2 ..) (Ev.neg (by omega) (Ev.now _))
  | cons x l ih =>
    intro i ys h0 h hy
    obtain ⟨a, b, c, e⟩ := ldrop_cons ByteArray.empty h0 h
    refine Ev.step (fun _ => laws_toStringS.l0.eq_2 ..) (Ev.pos a (Ev.pos h0 (Ev.pos (by omega) ?_)))
    have := ih (i + 1) (ys.set i.toNat x) (by omega) c (by rw [List.length_set]; exact hy)
    rw [set_take _ h0 (by omega), List.append_assoc] at this
    rw [w64 (by omega) (by omega), b]
    exact this
theorem toStringS_f (xs : List ByteArray) (hx : xs.length ≤ 1048576) : Ev (fun k => laws_toStringS.f k xs) xs := by
  unfold laws_toStringS.f
  exact Ev.pos (by omega) (Ev.pos (by omega) (toStringS_l xs hx xs 0 _ (by omega) rfl (by rw [List.length_replicate]; omega)))

def wrTo (x : S99) : S102 := ⟨x.f0, x.f1⟩
theorem toWriteS_l (xs : List S99) (hx : xs.length ≤ 1048576) (l : List S99) : ∀ (i : Int) (ys : List S102), 0 ≤ i → xs.drop i.toNat = l → ys.length = xs.length → Ev (fun k => laws_toWriteS.l0 k xs ys i) (ys.take i.toNat ++ l.map wrTo) := by
  induction l with
  | nil =>
    intro i ys h0 h hy
    have := ldrop_nil h0 h
    rw [List.map_nil, List.append_nil, List.take_of_length_le (by omega)]
    exact Ev.step (fun _ => laws_toWriteS.l0.eq_2 ..) (Ev.neg (by omega) (Ev.now _))
  | cons x l ih =>
    intro i ys h0 h hy
    obtain ⟨a, b, c, e⟩ := ldrop_cons z99 h0 h
    refine Ev.step (fun _ => laws_toWriteS.l0.eq_2 ..) (Ev.pos a (Ev.pos h0 (Ev.bind0 rfl (Ev.pos (by omega) ?_))))
    have := ih (i + 1) (ys.set i.toNat (wrTo x)) (by omega) c (by rw [List.length_set]; exact hy)
    rw [set_take _ h0 (by omega), List.append_assoc] at this
    rw [w64 (by omega) (by omega), show rd_T99 xs i = x from b]
    exact this
theorem toWriteS_f (xs : List S99) (hx : xs.length ≤ 1048576) : Ev (fun k => laws_toWriteS.f k xs) (xs.map wrTo) := by
  unfold laws_toWriteS.f
  exact Ev.pos (by omega) (Ev.pos (by omega) (toWriteS_l xs hx xs 0 _ (by omega) rfl (by rw [List.length_replicate]; omega)))

theorem eqStringS_refl_l (d : Nat) : ∀ (i : Int) (l : List ByteArray), 0 ≤ i → i + d = (l.length : Int) → (l.length : Int) ≤ 4611686018427387904 → Ev (fun k => laws_eqStringS.l0 k l l i) true := by
  induction d with
  | zero =>
    intro i l h0 hd hl
    exact Ev.step (fun _ => laws_eqStringS.l0.eq_2 ..) (Ev.neg (by omega) (Ev.now _))
  | succ d ih =>
    intro i l h0 hd hl
    refine Ev.step (fun _ => laws_eqStringS.l0.eq_2 ..) (Ev.pos (by omega) (Ev.pos h0 (Ev.pos (by omega) (Ev.pos rfl ?_))))
    rw [w64 (n := i + 1) (by omega) (by omega)]
    exact ih (i + 1) l (by omega) (by omega) hl
theorem eqStringS_refl (l : List ByteArray) (hl : (l.length : Int) ≤ 4611686018427387904) : Ev (fun k => laws_eqStringS.f k l l) true := by
  unfold laws_eqStringS.f
  exact Ev.pos rfl (eqStringS_refl_l l.length 0 l (by omega) (by omega) hl)

theorem eqWriteS_l (d : Nat) : ∀ (i : Int) (l : List S102), 0 ≤ i → i + d = (l.length : Int) → (l.length : Int) ≤ 4611686018427387904 → Ev (fun k => laws_eqWriteS.l0 k l l i) true := by
  induction d with
  | zero =>
    intro i l h0 hd hl
    exact Ev.step (fun _ => laws_eqWriteS.l0.eq_2 ..) (Ev.neg (by omega) (Ev.now _))
  | succ d ih =>
    intro i l h0 hd hl
    refine Ev.step (fun _ => laws_eqWriteS.l0.eq_2 ..) (Ev.pos (by omega) (Ev.pos h0 (Ev.pos (by omega) (Ev.bind0 (a := true) (by unfold laws_eqWrite.f; simp) (Ev.pos rfl ?_)))))
    rw [w64 (n := i + 1) (by omega) (by omega)]
    exact ih (i + 1) l (by omega) (by omega) hl
theorem eqWriteS_f (l : List S102) (hl : (l.length : Int) ≤ 4611686018427387904) : Ev (fun k => laws_eqWriteS.f k l l) true := by
  unfold laws_eqWriteS.f
  exact Ev.pos rfl (eqWriteS_l l.length 0 l (by omega) (by omega) hl)

/-- What a disk's place as an argument gives. -/
def okDisk (a : List ByteArray) (b : List S99) : Prop := (a.length ≤ 9223372036854775807 ∧ ∀ s, s ∈ a → s.size ≤ 9223372036854775807) ∧ (b.length ≤ 9223372036854775807 ∧ ∀ x, x ∈ b → (Lit.int .i64 x.f0).wf = true ∧ x.f1.size ≤ 9223372036854775807)
/-- What is left of a disk's size, and what follows for its parts. -/
theorem szDisk_ex (a : List ByteArray) (b : List S99) (h : okDisk a b) (left : Int) (hl : 0 ≤ left) (hl' : left ≤ 1048576) :
    ∃ t, Ev (fun k => laws_szDisk.f k a b left) t ∧ (t < 0 ∨ 0 ≤ t ∧ t ≤ left ∧ a.length ≤ 1048576 ∧ b.length ≤ 1048576 ∧ (∀ s, s ∈ a → s.size ≤ 1048576) ∧ ∀ x, x ∈ b → x.f1.size ≤ 1048576) := by
  obtain ⟨t, h1, h2⟩ := szStringS_ex a h.1.1 h.1.2 left hl hl'
  unfold laws_szDisk.f
  by_cases ht : t < 0
  · exact ⟨-1, Ev.bind h1 (Ev.pos ht (Ev.now _)), by omega⟩
  · obtain ⟨h3, h4, h5, h6⟩ := h2.resolve_left ht
    obtain ⟨u, h7, h8⟩ := szWriteS_ex b h.2.1 (fun s hs => (h.2.2 s hs).2) t h3 (by omega)
    by_cases hu : u < 0
    · exact ⟨-1, Ev.bind h1 (Ev.neg ht (Ev.bind h7 (Ev.pos hu (Ev.now _)))), by omega⟩
    · obtain ⟨g3, g4, g5, g6⟩ := h8.resolve_left hu
      exact ⟨u, Ev.bind h1 (Ev.neg ht (Ev.bind h7 (Ev.neg hu (Ev.now _)))), Or.inr ⟨g3, by omega, by omega, by omega, fun s hs => by have := h6 s hs; omega, fun x hx => by have := g6 x hx; omega⟩⟩
theorem toDisk_f (a : List ByteArray) (b : List S99) (ha : a.length ≤ 1048576) (hb : b.length ≤ 1048576) : Ev (fun k => laws_toDisk.f k a b) (a, b.map wrTo) := by
  unfold laws_toDisk.f
  exact Ev.bind (toStringS_f a ha) (Ev.bind (toWriteS_f b hb) (Ev.now _))
theorem eqDisk_f (a : List ByteArray) (b : List S102) (ha : a.length ≤ 1048576) (hb : b.length ≤ 1048576) : Ev (fun k => laws_eqDisk.f k a b a b) true := by
  unfold laws_eqDisk.f
  exact Ev.bind (eqStringS_refl a (by omega)) (Ev.pos rfl (Ev.bind (eqWriteS_f b (by omega)) (Ev.pos rfl (Ev.now _))))

theorem l01In_spec (a b c : Int) : spec_l01In.f a b c = some (decide (b ≤ a ∧ a ≤ c)) := by
  unfold spec_l01In.f
  by_cases h : a ≥ b
  · rw [if_pos h]
    simp [show b ≤ a from h]
  · rw [if_neg h]
    simp [show ¬ b ≤ a from h]

theorem getNumber_spec_l {s : ByteArray} (hs : s.size ≤ 140737488351232) {a w : Int} (h0 : 0 ≤ a) (h1 : a + w ≤ (s.size : Int)) (h6 : w ≤ 6) (d : Nat) : ∀ (i n : Int), 0 ≤ i → i + d = w → okAcc i n →
    Ev (fun k => spec_GetNumber.l0 k s a w n i) (num256 (((bytesOf s).drop (a + i).toNat).take d) n, true) := by
  induction d with
  | zero =>
    intro i n hi hd hn
    exact Ev.step (fun _ => spec_GetNumber.l0.eq_2 ..) (Ev.neg (by omega) (Ev.now _))
  | succ d ih =>
    intro i n hi hd hn
    have hb := bt_range s (a + i)
    have hlt := okAcc_lt hn
    have hn' : n < 1099511627776 := by unfold okAcc at hn; omega
    have e : (a + i).toNat < (bytesOf s).length := by rw [bytesOf_length]; omega
    have hd0 := List.drop_eq_getElem_cons e
    obtain ⟨c1, c2, c3, c4⟩ := bdrop_cons (i := a + i) (by omega) hd0
    refine Ev.step (fun _ => spec_GetNumber.l0.eq_2 ..) (Ev.pos (by omega) ?_)
    rw [w64 (n := a + i) (by omega) (by omega), w64 (n := bt s (a + i)) (by omega) (by omega), w64 (n := 256 * n) (by omega) (by omega), w64 (n := 256 * n + bt s (a + i)) (by omega) (by omega), w64 (n := i + 1) (by omega) (by omega)]
    refine Ev.pos (by omega) (Ev.pos (by omega) ?_)
    rw [hd0, List.take_succ_cons, num256, ← c2, ← c3, show a + i + 1 = a + (i + 1) by omega]
    exact ih (i + 1) _ (by omega) (by omega) (okAcc_step hn (by omega) hb.1 hb.2)
theorem getNumber_impl_l {s : ByteArray} (hs : s.size ≤ 140737488351232) {a w : Int} (h0 : 0 ≤ a) (h1 : a + w ≤ (s.size : Int)) (h6 : w ≤ 6) (d : Nat) : ∀ (i n : Int), 0 ≤ i → i + d = w → okAcc i n →
    Ev (fun k => impl_GetNumber.l0 k s a n w i) (num256 (((bytesOf s).drop (a + i).toNat).take d) n, true) := by
  induction d with
  | zero =>
    intro i n hi hd hn
    exact Ev.step (fun _ => impl_GetNumber.l0.eq_2 ..) (Ev.neg (by omega) (Ev.now _))
  | succ d ih =>
    intro i n hi hd hn
    have hb := bt_range s (a + i)
    have hlt := okAcc_lt hn
    have hn' : n < 1099511627776 := by unfold okAcc at hn; omega
    have e : (a + i).toNat < (bytesOf s).length := by rw [bytesOf_length]; omega
    have hd0 := List.drop_eq_getElem_cons e
    obtain ⟨c1, c2, c3, c4⟩ := bdrop_cons (i := a + i) (by omega) hd0
    refine Ev.step (fun _ => impl_GetNumber.l0.eq_2 ..) (Ev.pos (by omega) ?_)
    rw [w64 (n := a + i) (by omega) (by omega), w64 (n := bt s (a + i)) (by omega) (by omega), w64 (n := n * 256) (by omega) (by omega), i64_or8 (by omega) (by omega) (by omega) (by omega) (by omega), w64 (n := i + 1) (by omega) (by omega)]
    refine Ev.pos (by omega) (Ev.pos (by omega) ?_)
    rw [hd0, List.take_succ_cons, num256, ← c2, ← c3, show a + i + 1 = a + (i + 1) by omega, Int.mul_comm n 256]
    exact ih (i + 1) _ (by omega) (by omega) (okAcc_step hn (by omega) hb.1 hb.2)
theorem getNumber_spec {s : ByteArray} (hs : s.size ≤ 140737488351232) (a w : Int) (ha : a ≤ 9223372036854775807) : Ev (fun k => spec_GetNumber.f k s a w) (getNumber s a w) := by
  unfold spec_GetNumber.f
  refine Ev.bind0 (l01In_spec w 1 6) ?_
  have no : ¬ (1 ≤ w ∧ w ≤ 6 ∧ 0 ≤ a ∧ a ≤ (s.size : Int) - w) → Ev (fun k => spec_GetNumber.j0 k s a w true) (getNumber s a w) := by
    intro h
    unfold getNumber
    rw [if_neg h]
    exact Ev.step (fun _ => spec_GetNumber.j0.eq_2 ..) (Ev.pos rfl (Ev.now _))
  by_cases hw : 1 ≤ w ∧ w ≤ 6
  · refine Ev.pos (by simpa using hw) ?_
    by_cases h0 : a < 0
    · exact Ev.pos h0 (no (by omega))
    · refine Ev.neg h0 ?_
      rw [w64 (n := (s.size : Int) - w) (by omega) (by omega)]
      by_cases h1 : a > (s.size : Int) - w
      · rw [show decide (a > (s.size : Int) - w) = true by simpa using h1]
        exact no (by omega)
      · rw [show decide (a > (s.size : Int) - w) = false by simpa using h1]
        refine Ev.step (fun _ => spec_GetNumber.j0.eq_2 ..) (Ev.neg (by decide) ?_)
        have := getNumber_spec_l hs (a := a) (w := w) (by omega) (by omega) (by omega) w.toNat 0 0 (by omega) (by omega) (by unfold okAcc; omega)
        unfold getNumber
        rw [if_pos (by omega)]
        simpa using this
  · exact Ev.neg (by simpa using hw) (no (by omega))
theorem getNumber_impl {s : ByteArray} (hs : s.size ≤ 140737488351232) (a w : Int) (ha : a ≤ 9223372036854775807) : Ev (fun k => impl_GetNumber.f k s a w) (getNumber s a w) := by
  unfold impl_GetNumber.f
  have no : ¬ (1 ≤ w ∧ w ≤ 6 ∧ 0 ≤ a ∧ a ≤ (s.size : Int) - w) → Ev (fun k => impl_GetNumber.j0 k s a w true) (getNumber s a w) := by
    intro h
    unfold getNumber
    rw [if_neg h]
    exact Ev.step (fun _ => impl_GetNumber.j0.eq_2 ..) (Ev.pos rfl (Ev.now _))
  by_cases hw : w < 1
  · exact Ev.pos hw (no (by omega))
  · refine Ev.neg hw ?_
    by_cases hw6 : w > 6
    · exact Ev.pos hw6 (no (by omega))
    · refine Ev.neg hw6 ?_
      by_cases h0 : a < 0
      · exact Ev.pos h0 (no (by omega))
      · refine Ev.neg h0 ?_
        rw [w64 (n := (s.size : Int) - w) (by omega) (by omega)]
        by_cases h1 : a > (s.size : Int) - w
        · rw [show decide (a > (s.size : Int) - w) = true by simpa using h1]
          exact no (by omega)
        · rw [show decide (a > (s.size : Int) - w) = false by simpa using h1]
          refine Ev.step (fun _ => impl_GetNumber.j0.eq_2 ..) (Ev.neg (by decide) ?_)
          have := getNumber_impl_l hs (a := a) (w := w) (by omega) (by omega) (by omega) w.toNat 0 0 (by omega) (by omega) (by unfold okAcc; omega)
          unfold getNumber
          rw [if_pos (by omega)]
          simpa using this

theorem num256_ok (l : List Int) : ∀ i n : Int, okAcc i n → (∀ x, x ∈ l → 0 ≤ x ∧ x ≤ 255) → i + (l.length : Int) ≤ 6 → okAcc (i + (l.length : Int)) (num256 l n) := by
  induction l with
  | nil =>
    intro i n h _ _
    simpa [num256] using h
  | cons x l ih =>
    intro i n h hx hl
    rw [List.length_cons] at hl ⊢
    obtain ⟨a, b⟩ := hx x (List.mem_cons_self ..)
    have := ih (i + 1) (256 * n + x) (okAcc_step h (by omega) a b) (fun y hy => hx y (List.mem_cons_of_mem _ hy)) (by omega)
    rw [show i + ((l.length + 1 : Nat) : Int) = i + 1 + (l.length : Int) by omega]
    exact this
theorem getNumber_range (s : ByteArray) (a w : Int) : 0 ≤ (getNumber s a w).1 ∧ (getNumber s a w).1 < 281474976710656 := by
  unfold getNumber
  by_cases h : 1 ≤ w ∧ w ≤ 6 ∧ 0 ≤ a ∧ a ≤ (s.size : Int) - w
  · rw [if_pos h]
    refine okAcc_lt (num256_ok _ 0 0 (by unfold okAcc; omega) ?_ ?_)
    · intro x hx
      exact bytesOf_range (List.mem_of_mem_drop (List.mem_of_mem_take hx))
    · rw [List.length_take]
      omega
  · rw [if_neg h]
    decide

def pendM (n : Int) (x : S102) : Bool := decide (0 ≤ x.f0 ∧ x.f0 < n ∧ x.f1.size = 32)
def isDiskM (a : List ByteArray) (b : List S102) : Bool := decide (a.length ≤ 400 ∧ b.length ≤ 400) && (a.all (fun s => decide (s.size = 32)) && b.all (pendM (a.length : Int)))
theorem isDisk_spec_1 (a : List ByteArray) (b : List S102) (ha : a.length ≤ 1048576) (hb : b.length ≤ 1048576) (l : List S102) : ∀ (i : Int), 0 ≤ i → b.drop i.toNat = l →
    Ev (fun k => spec_IsDisk.l1 k b (b.length : Int) i a b) (l.all (pendM (a.length : Int)) && decide (a.length ≤ 400 ∧ b.length ≤ 400)) := by
  induction l with
  | nil =>
    intro i h0 h
    have := ldrop_nil h0 h
    refine Ev.step (fun _ => spec_IsDisk.l1.eq_2 ..) (Ev.neg (by omega) ?_)
    rw [List.all_nil, Bool.true_and]
    by_cases h4 : (a.length : Int) ≤ 400
    · refine Ev.pos h4 ?_
      rw [show decide (a.length ≤ 400 ∧ b.length ≤ 400) = decide ((b.length : Int) ≤ 400) by apply decide_eq_decide.2; omega]
      exact Ev.now _
    · refine Ev.neg h4 ?_
      rw [show decide (a.length ≤ 400 ∧ b.length ≤ 400) = false by apply decide_eq_false; omega]
      exact Ev.now _
  | cons x l ih =>
    intro i h0 h
    obtain ⟨p, q, c, e⟩ := ldrop_cons z102 h0 h
    have hq : rd_T102 b i = x := q
    have := ih (i + 1) (by omega) c
    refine Ev.step (fun _ => spec_IsDisk.l1.eq_2 ..) (Ev.pos p (Ev.pos h0 (Ev.pos p ?_)))
    rw [hq, w64 (n := (a.length : Int) - 1) (by omega) (by omega), w64 (n := i + 1) (by omega) (by omega), List.all_cons]
    refine Ev.bind0 (l01In_spec _ _ _) ?_
    by_cases c1 : 0 ≤ x.f0 ∧ x.f0 ≤ (a.length : Int) - 1
    · refine Ev.pos (by simpa using c1) ?_
      by_cases c2 : (x.f1.size : Int) = 32
      · rw [show pendM (a.length : Int) x = true by unfold pendM; apply decide_eq_true; omega, Bool.true_and]
        exact Ev.pos c2 this
      · rw [show pendM (a.length : Int) x = false by unfold pendM; apply decide_eq_false; omega]
        exact Ev.neg c2 (Ev.now _)
    · rw [show pendM (a.length : Int) x = false by unfold pendM; apply decide_eq_false; omega]
      exact Ev.neg (by simpa using c1) (Ev.now _)
theorem isDisk_spec_0 (a : List ByteArray) (b : List S102) (ha : a.length ≤ 1048576) (hb : b.length ≤ 1048576) (l : List ByteArray) : ∀ (i : Int), 0 ≤ i → a.drop i.toNat = l →
    Ev (fun k => spec_IsDisk.l0 k a (a.length : Int) i a b) (l.all (fun s => decide (s.size = 32)) && (b.all (pendM (a.length : Int)) && decide (a.length ≤ 400 ∧ b.length ≤ 400))) := by
  induction l with
  | nil =>
    intro i h0 h
    have := ldrop_nil h0 h
    refine Ev.step (fun _ => spec_IsDisk.l0.eq_2 ..) (Ev.neg (by omega) ?_)
    rw [List.all_nil, Bool.true_and]
    exact isDisk_spec_1 a b ha hb b 0 (by omega) rfl
  | cons x l ih =>
    intro i h0 h
    obtain ⟨p, q, c, e⟩ := ldrop_cons ByteArray.empty h0 h
    have := ih (i + 1) (by omega) c
    refine Ev.step (fun _ => spec_IsDisk.l0.eq_2 ..) (Ev.pos p (Ev.pos h0 (Ev.pos p ?_)))
    rw [q, w64 (n := i + 1) (by omega) (by omega), List.all_cons]
    by_cases c2 : (x.size : Int) = 32
    · rw [show decide (x.size = 32) = true by apply decide_eq_true; omega, Bool.true_and]
      exact Ev.pos c2 this
    · rw [show decide (x.size = 32) = false by apply decide_eq_false; omega]
      exact Ev.neg c2 (Ev.now _)
theorem isDisk_spec (a : List ByteArray) (b : List S102) (ha : a.length ≤ 1048576) (hb : b.length ≤ 1048576) : Ev (fun k => spec_IsDisk.f k a b) (isDiskM a b) := by
  have := isDisk_spec_0 a b ha hb a 0 (by omega) rfl
  unfold isDiskM
  rw [Bool.and_comm, Bool.and_assoc]
  exact this
theorem isDisk_impl_1 (a : List ByteArray) (b : List S102) (ha : a.length ≤ 1048576) (hb : b.length ≤ 1048576) (l : List S102) : ∀ (i : Int), 0 ≤ i → b.drop i.toNat = l →
    Ev (fun k => impl_IsDisk.l1 k b (b.length : Int) i a b) (l.all (pendM (a.length : Int))) := by
  induction l with
  | nil =>
    intro i h0 h
    have := ldrop_nil h0 h
    exact Ev.step (fun _ => impl_IsDisk.l1.eq_2 ..) (Ev.neg (by omega) (Ev.now _))
  | cons x l ih =>
    intro i h0 h
    obtain ⟨p, q, c, e⟩ := ldrop_cons z102 h0 h
    have hq : rd_T102 b i = x := q
    have := ih (i + 1) (by omega) c
    refine Ev.step (fun _ => impl_IsDisk.l1.eq_2 ..) (Ev.pos p (Ev.pos h0 (Ev.pos p ?_)))
    rw [hq, w64 (n := i + 1) (by omega) (by omega), List.all_cons]
    by_cases c1 : x.f0 < 0
    · rw [show pendM (a.length : Int) x = false by unfold pendM; apply decide_eq_false; omega]
      exact Ev.pos c1 (Ev.now _)
    · refine Ev.neg c1 ?_
      by_cases c3 : x.f0 ≥ (a.length : Int)
      · rw [show pendM (a.length : Int) x = false by unfold pendM; apply decide_eq_false; omega]
        exact Ev.pos c3 (Ev.now _)
      · refine Ev.neg c3 ?_
        by_cases c2 : (x.f1.size : Int) = 32
        · rw [show pendM (a.length : Int) x = true by unfold pendM; apply decide_eq_true; omega, Bool.true_and]
          exact Ev.pos c2 this
        · rw [show pendM (a.length : Int) x = false by unfold pendM; apply decide_eq_false; omega]
          exact Ev.neg c2 (Ev.now _)
theorem isDisk_impl_0 (a : List ByteArray) (b : List S102) (ha : a.length ≤ 1048576) (hb : b.length ≤ 1048576) (l : List ByteArray) : ∀ (i : Int), 0 ≤ i → a.drop i.toNat = l →
    Ev (fun k => impl_IsDisk.l0 k a (a.length : Int) i a b) (l.all (fun s => decide (s.size = 32)) && b.all (pendM (a.length : Int))) := by
  induction l with
  | nil =>
    intro i h0 h
    have := ldrop_nil h0 h
    refine Ev.step (fun _ => impl_IsDisk.l0.eq_2 ..) (Ev.neg (by omega) ?_)
    rw [List.all_nil, Bool.true_and]
    exact isDisk_impl_1 a b ha hb b 0 (by omega) rfl
  | cons x l ih =>
    intro i h0 h
    obtain ⟨p, q, c, e⟩ := ldrop_cons ByteArray.empty h0 h
    have := ih (i + 1) (by omega) c
    refine Ev.step (fun _ => impl_IsDisk.l0.eq_2 ..) (Ev.pos p (Ev.pos h0 (Ev.pos p ?_)))
    rw [q, w64 (n := i + 1) (by omega) (by omega), List.all_cons]
    by_cases c2 : (x.size : Int) = 32
    · rw [show decide (x.size = 32) = true by apply decide_eq_true; omega, Bool.true_and]
      exact Ev.pos c2 this
    · rw [show decide (x.size = 32) = false by apply decide_eq_false; omega]
      exact Ev.neg c2 (Ev.now _)
theorem isDisk_impl (a : List ByteArray) (b : List S102) (ha : a.length ≤ 1048576) (hb : b.length ≤ 1048576) : Ev (fun k => impl_IsDisk.f k a b) (isDiskM a b) := by
  unfold impl_IsDisk.f isDiskM
  by_cases h1 : (a.length : Int) > 400
  · rw [show decide (a.length ≤ 400 ∧ b.length ≤ 400) = false by apply decide_eq_false; omega, Bool.false_and]
    exact Ev.pos h1 (Ev.step (fun _ => impl_IsDisk.j0.eq_2 ..) (Ev.pos rfl (Ev.now _)))
  · refine Ev.neg h1 (Ev.step (fun _ => impl_IsDisk.j0.eq_2 ..) ?_)
    by_cases h2 : (b.length : Int) > 400
    · rw [show decide (a.length ≤ 400 ∧ b.length ≤ 400) = false by apply decide_eq_false; omega, Bool.false_and]
      exact Ev.pos (by simpa using h2) (Ev.now _)
    · rw [show decide (a.length ≤ 400 ∧ b.length ≤ 400) = true by apply decide_eq_true; omega, Bool.true_and]
      exact Ev.neg (by simpa using h2) (isDisk_impl_0 a b ha hb a 0 (by omega) rfl)

theorem isTxn_spec_step {a : List ByteArray} {b : List S102} (ha : a.length ≤ 1048576) {xs : List S102} (hx : xs.length ≤ 1048576) {i : Int} (h0 : 0 ≤ i) (p : i < (xs.length : Int)) {x : S102} (hq : rd_T102 xs i = x) {r : Bool}
    (h1 : Ev (fun k => spec_IsTxn.l0 k xs xs (xs.length : Int) (i + 1) a b) r) :
    Ev (fun k => spec_IsTxn.l0 k xs xs (xs.length : Int) i a b) (if (0 ≤ x.f0 ∧ x.f0 ≤ (a.length : Int) - 1) ∧ ¬ (1 ≤ x.f0 ∧ x.f0 ≤ 69) ∧ (x.f1.size : Int) = 32 ∧ ¬ (i > 0 ∧ (rd_T102 xs (i - 1)).f0 ≥ x.f0) then r else false) := by
  refine Ev.step (fun _ => spec_IsTxn.l0.eq_2 ..) (Ev.pos p (Ev.pos h0 (Ev.pos p ?_)))
  rw [hq, w64 (n := (a.length : Int) - 1) (by omega) (by omega), w64 (n := i - 1) (by omega) (by omega), w64 (n := i + 1) (by omega) (by omega)]
  refine Ev.bind0 (l01In_spec _ _ _) ?_
  by_cases c1 : 0 ≤ x.f0 ∧ x.f0 ≤ (a.length : Int) - 1
  · refine Ev.pos (decide_eq_true c1) (Ev.bind0 (l01In_spec _ _ _) ?_)
    by_cases c2 : 1 ≤ x.f0 ∧ x.f0 ≤ 69
    · rw [if_neg (by omega)]
      exact Ev.pos (decide_eq_true c2) (Ev.now _)
    · refine Ev.neg (by simpa using c2) ?_
      by_cases c3 : (x.f1.size : Int) = 32 <;> by_cases c4 : i > 0 <;> by_cases c5 : (rd_T102 xs (i - 1)).f0 ≥ x.f0
      all_goals
        first | rw [if_pos (by omega)] | rw [if_neg (by omega)]
        (repeat' (first | exact Ev.now _ | exact h1 | refine Ev.pos (by first | assumption | omega) ?_ | refine Ev.neg (by first | assumption | omega) ?_))
  · rw [if_neg (fun h => c1 h.1)]
    exact Ev.neg (by simpa using c1) (Ev.now _)
theorem isTxn_impl_step {a : List ByteArray} {b : List S102} (ha : a.length ≤ 1048576) {xs : List S102} (hx : xs.length ≤ 1048576) {i : Int} (h0 : 0 ≤ i) (p : i < (xs.length : Int)) {x : S102} (hq : rd_T102 xs i = x) {r : Bool}
    (h1 : Ev (fun k => impl_IsTxn.l0 k xs xs (xs.length : Int) (i + 1) a b) r) :
    Ev (fun k => impl_IsTxn.l0 k xs xs (xs.length : Int) i a b) (if (0 ≤ x.f0 ∧ x.f0 ≤ (a.length : Int) - 1) ∧ ¬ (1 ≤ x.f0 ∧ x.f0 ≤ 69) ∧ (x.f1.size : Int) = 32 ∧ ¬ (i > 0 ∧ (rd_T102 xs (i - 1)).f0 ≥ x.f0) then r else false) := by
  refine Ev.step (fun _ => impl_IsTxn.l0.eq_2 ..) (Ev.pos p (Ev.pos h0 (Ev.pos p ?_)))
  rw [hq, w64 (n := i - 1) (by omega) (by omega), w64 (n := i + 1) (by omega) (by omega)]
  by_cases c1 : 0 ≤ x.f0 ∧ x.f0 ≤ (a.length : Int) - 1
  · refine Ev.neg (by omega) (Ev.neg (by omega) ?_)
    by_cases c2 : x.f0 ≥ 1 <;> by_cases c6 : x.f0 < 70 <;> by_cases c3 : (x.f1.size : Int) = 32 <;> by_cases c4 : i > 0 <;> by_cases c5 : (rd_T102 xs (i - 1)).f0 ≥ x.f0
    all_goals
      first
      | (exfalso; omega)
      | (first | rw [if_pos (by omega)] | rw [if_neg (by omega)]
         (repeat' (first | exact Ev.now _ | exact h1 | refine Ev.pos (by first | assumption | omega) ?_ | refine Ev.neg (by first | assumption | omega) ?_)))
  · rw [if_neg (fun h => c1 h.1)]
    by_cases c2 : x.f0 < 0
    · exact Ev.pos c2 (Ev.now _)
    · exact Ev.neg c2 (Ev.pos (by omega) (Ev.now _))
theorem isTxn_both (a : List ByteArray) (b : List S102) (ha : a.length ≤ 1048576) (xs : List S102) (hx : xs.length ≤ 1048576) (l : List S102) : ∀ (i : Int), 0 ≤ i → xs.drop i.toNat = l →
    ∃ r, Ev (fun k => spec_IsTxn.l0 k xs xs (xs.length : Int) i a b) r ∧ Ev (fun k => impl_IsTxn.l0 k xs xs (xs.length : Int) i a b) r := by
  induction l with
  | nil =>
    intro i h0 h
    have := ldrop_nil h0 h
    exact ⟨true, Ev.step (fun _ => spec_IsTxn.l0.eq_2 ..) (Ev.neg (by omega) (Ev.now _)), Ev.step (fun _ => impl_IsTxn.l0.eq_2 ..) (Ev.neg (by omega) (Ev.now _))⟩
  | cons x l ih =>
    intro i h0 h
    obtain ⟨p, q, c, e⟩ := ldrop_cons z102 h0 h
    obtain ⟨r, h1, h2⟩ := ih (i + 1) (by omega) c
    exact ⟨_, isTxn_spec_step ha hx h0 p q h1, isTxn_impl_step ha hx h0 p q h2⟩
theorem isTxn_f (a : List ByteArray) (b : List S102) (xs : List S102) (ha : a.length ≤ 1048576) (hb : b.length ≤ 1048576) (hx : xs.length ≤ 1048576) :
    ∃ r, Ev (fun k => spec_IsTxn.f k a b xs) r ∧ Ev (fun k => impl_IsTxn.f k a b xs) r := by
  unfold spec_IsTxn.f impl_IsTxn.f
  have s0 : Ev (fun k => spec_IsTxn.j0 k xs true a b) false := Ev.step (fun _ => spec_IsTxn.j0.eq_2 ..) (Ev.pos rfl (Ev.now _))
  have i0 : Ev (fun k => impl_IsTxn.j0 k xs true a b) false := Ev.step (fun _ => impl_IsTxn.j0.eq_2 ..) (Ev.pos rfl (Ev.now _))
  have hs := isDisk_spec a b ha hb
  have hi := isDisk_impl a b ha hb
  by_cases h : isDiskM a b = true
  · by_cases h70 : (a.length : Int) < 70
    · exact ⟨false, Ev.bind hs (Ev.pos h (Ev.pos h70 s0)), Ev.bind hi (Ev.pos h (Ev.pos h70 i0))⟩
    · by_cases hl : 1 ≤ (xs.length : Int) ∧ (xs.length : Int) ≤ 64
      · obtain ⟨r, h1, h2⟩ := isTxn_both a b ha xs hx xs 0 (by omega) rfl
        refine ⟨r, Ev.bind hs (Ev.pos h (Ev.neg h70 (Ev.bind0 (l01In_spec _ _ _) ?_))), Ev.bind hi (Ev.pos h (Ev.neg h70 (Ev.neg (by omega) ?_)))⟩
        · exact Ev.step (fun _ => spec_IsTxn.j0.eq_2 ..) (Ev.neg (by rw [decide_eq_true hl]; decide) h1)
        · exact Ev.step (fun _ => impl_IsTxn.j0.eq_2 ..) (Ev.neg (by simp only [decide_eq_true_eq]; omega) h2)
      · refine ⟨false, Ev.bind hs (Ev.pos h (Ev.neg h70 (Ev.bind0 (l01In_spec _ _ _) ?_))), Ev.bind hi (Ev.pos h (Ev.neg h70 ?_))⟩
        · rw [show (!decide (1 ≤ (xs.length : Int) ∧ (xs.length : Int) ≤ 64)) = true by rw [decide_eq_false hl]; rfl]
          exact s0
        · by_cases hl1 : (xs.length : Int) < 1
          · exact Ev.pos hl1 i0
          · refine Ev.neg hl1 ?_
            rw [show decide ((xs.length : Int) > 64) = true by apply decide_eq_true; omega]
            exact i0
  · exact ⟨false, Ev.bind hs (Ev.neg h s0), Ev.bind hi (Ev.neg h i0)⟩

theorem diskRead_l (a : List ByteArray) (b : List S102) (hb : b.length ≤ 1048576) (n : Int) (h0 : 0 ≤ n) (h1 : n < (a.length : Int)) (d : Nat) : ∀ i : Int, i + 1 = d → i < (b.length : Int) →
    ∃ r, Ev (fun k => spec_l03Read.l0 k n i a b) r ∧ Ev (fun k => impl_Disk_read.l0 k n i a b) r ∧ (r ∈ a ∨ ∃ x, x ∈ b ∧ r = x.f1) := by
  induction d with
  | zero =>
    intro i hi hl
    refine ⟨rdOf ByteArray.empty a n, Ev.step (fun _ => spec_l03Read.l0.eq_2 ..) (Ev.neg (by omega) (Ev.pos h0 (Ev.pos h1 (Ev.now _)))), Ev.step (fun _ => impl_Disk_read.l0.eq_2 ..) (Ev.neg (by omega) (Ev.pos h0 (Ev.pos h1 (Ev.now _)))), Or.inl ?_⟩
    unfold rdOf
    rw [List.getD_eq_getElem?_getD, List.getElem?_eq_getElem (by omega)]
    exact List.getElem_mem _
  | succ d ih =>
    intro i hi hl
    by_cases h : (rd_T102 b i).f0 = n
    · refine ⟨(rd_T102 b i).f1, Ev.step (fun _ => spec_l03Read.l0.eq_2 ..) (Ev.pos (by omega) (Ev.pos (by omega) (Ev.pos hl (Ev.pos h (Ev.now _))))), Ev.step (fun _ => impl_Disk_read.l0.eq_2 ..) (Ev.pos (by omega) (Ev.pos (by omega) (Ev.pos hl (Ev.pos h (Ev.now _))))), Or.inr ⟨rd_T102 b i, ?_, rfl⟩⟩
      show rdOf z102 b i ∈ b
      unfold rdOf
      rw [List.getD_eq_getElem?_getD, List.getElem?_eq_getElem (by omega)]
      exact List.getElem_mem _
    · obtain ⟨r, p1, p2, p3⟩ := ih (i - 1) (by omega) (by omega)
      refine ⟨r, Ev.step (fun _ => spec_l03Read.l0.eq_2 ..) (Ev.pos (by omega) (Ev.pos (by omega) (Ev.pos hl (Ev.neg h ?_)))), Ev.step (fun _ => impl_Disk_read.l0.eq_2 ..) (Ev.pos (by omega) (Ev.pos (by omega) (Ev.pos hl (Ev.neg h ?_)))), p3⟩
      · rw [w64 (n := i - 1) (by omega) (by omega)]
        exact p1
      · rw [w64 (n := i - 1) (by omega) (by omega)]
        exact p2
theorem diskRead_f (a : List ByteArray) (b : List S102) (hb : b.length ≤ 1048576) (n : Int) (h0 : 0 ≤ n) (h1 : n < (a.length : Int)) :
    ∃ r, Ev (fun k => spec_l03Read.f k a b n) r ∧ Ev (fun k => impl_Disk_read.f k a b n) r ∧ (r ∈ a ∨ ∃ x, x ∈ b ∧ r = x.f1) := by
  unfold spec_l03Read.f impl_Disk_read.f
  rw [w64 (n := (b.length : Int) - 1) (by omega) (by omega)]
  exact diskRead_l a b hb n h0 h1 b.length ((b.length : Int) - 1) (by omega) (by omega)

theorem putNumber_spec_l (d : Nat) : ∀ (n : Int) (xs : List Int), 0 ≤ n → n ≤ 9223372036854775807 → d ≤ xs.length → xs.length ≤ 6 → Ev (fun k => spec_PutNumber.l0 k n xs ((d : Int) - 1)) (strOfNums (putL d n ++ xs.drop d)) := by
  induction d with
  | zero =>
    intro n xs h0 hn h h6
    exact Ev.step (fun _ => spec_PutNumber.l0.eq_2 ..) (Ev.neg (by decide) (Ev.now _))
  | succ d ih =>
    intro n xs h0 hn h h6
    rw [show ((d + 1 : Nat) : Int) - 1 = (d : Int) by omega]
    refine Ev.step (fun _ => spec_PutNumber.l0.eq_2 ..) (Ev.pos (by omega) (Ev.pos (by omega) (Ev.pos (by omega) ?_)))
    rw [Int.tdiv_eq_ediv_of_nonneg h0, Int.tmod_eq_emod_of_nonneg h0, w64 (n := n / 256) (by omega) (by omega), w64 (n := (d : Int) - 1) (by omega) (by omega), Int.toNat_natCast, Int.emod_emod_of_dvd n (Int.dvd_refl 256)]
    have := ih (n / 256) (xs.set d (n % 256)) (by omega) (by omega) (by rw [List.length_set]; omega) (by rw [List.length_set]; omega)
    rw [set_drop (n % 256) (by omega)] at this
    rw [putL, List.append_assoc]
    exact this
theorem putNumber_impl_l (d : Nat) : ∀ (n : Int) (xs : List Int), 0 ≤ n → n ≤ 9223372036854775807 → d ≤ xs.length → xs.length ≤ 6 → Ev (fun k => impl_PutNumber.l0 k n xs ((d : Int) - 1)) (strOfNums (putL d n ++ xs.drop d)) := by
  induction d with
  | zero =>
    intro n xs h0 hn h h6
    exact Ev.step (fun _ => impl_PutNumber.l0.eq_2 ..) (Ev.neg (by decide) (Ev.now _))
  | succ d ih =>
    intro n xs h0 hn h h6
    rw [show ((d + 1 : Nat) : Int) - 1 = (d : Int) by omega]
    refine Ev.step (fun _ => impl_PutNumber.l0.eq_2 ..) (Ev.pos (by omega) (Ev.pos (by omega) (Ev.pos (by omega) ?_)))
    rw [w64 (n := (d : Int) - 1) (by omega) (by omega), Int.toNat_natCast]
    have := ih (n / 256) (xs.set d (n % 256)) (by omega) (by omega) (by rw [List.length_set]; omega) (by rw [List.length_set]; omega)
    rw [set_drop (n % 256) (by omega)] at this
    rw [putL, List.append_assoc]
    exact this
theorem putNumber_spec (n w : Int) (hn : n ≤ 9223372036854775807) : Ev (fun k => spec_PutNumber.f k n w) (putNumber n w) := by
  unfold spec_PutNumber.f
  refine Ev.bind0 (l01In_spec w 1 6) ?_
  have no : ¬ (1 ≤ w ∧ w ≤ 6 ∧ 0 ≤ n ∧ n < 256 ^ w.toNat) → Ev (fun k => spec_PutNumber.j0 k n w true) (putNumber n w) := by
    intro h
    unfold putNumber
    rw [if_neg h]
    exact Ev.step (fun _ => spec_PutNumber.j0.eq_2 ..) (Ev.pos rfl (Ev.now _))
  by_cases hw : 1 ≤ w ∧ w ≤ 6
  · refine Ev.pos (by simpa using hw) ?_
    by_cases h0 : n < 0
    · exact Ev.pos h0 (no (by omega))
    · obtain ⟨e1, e2, e3, e4⟩ := shl_put hw.1 hw.2
      refine Ev.neg h0 (Ev.pos e2 ?_)
      rw [e1]
      by_cases h1 : n ≥ 256 ^ w.toNat
      · rw [show decide (n ≥ 256 ^ w.toNat) = true by simpa using h1]
        exact no (fun h => by have := h.2.2.2; omega)
      · rw [show decide (n ≥ 256 ^ w.toNat) = false by simpa using h1]
        refine Ev.step (fun _ => spec_PutNumber.j0.eq_2 ..) (Ev.neg (by decide) (Ev.pos (by omega) (Ev.pos (by omega) ?_)))
        have := putNumber_spec_l w.toNat n (List.replicate w.toNat 0) (by omega) hn (by rw [List.length_replicate]; omega) (by rw [List.length_replicate]; omega)
        rw [List.drop_eq_nil_of_le (by rw [List.length_replicate]; omega), List.append_nil, show ((w.toNat : Nat) : Int) = w by omega] at this
        unfold putNumber
        rw [if_pos ⟨hw.1, hw.2, by omega, by omega⟩, w64 (n := w - 1) (by omega) (by omega)]
        exact this
  · exact Ev.neg (by simpa using hw) (no (fun h => hw ⟨h.1, h.2.1⟩))
theorem putNumber_impl (n w : Int) (hn : n ≤ 9223372036854775807) : Ev (fun k => impl_PutNumber.f k n w) (putNumber n w) := by
  unfold impl_PutNumber.f
  have no : ¬ (1 ≤ w ∧ w ≤ 6 ∧ 0 ≤ n ∧ n < 256 ^ w.toNat) → Ev (fun k => impl_PutNumber.j0 k n w true) (putNumber n w) := by
    intro h
    unfold putNumber
    rw [if_neg h]
    exact Ev.step (fun _ => impl_PutNumber.j0.eq_2 ..) (Ev.pos rfl (Ev.now _))
  by_cases hw : w < 1
  · exact Ev.pos hw (no (fun h => by have := h.1; omega))
  · refine Ev.neg hw ?_
    by_cases hw6 : w > 6
    · exact Ev.pos hw6 (no (fun h => by have := h.2.1; omega))
    · refine Ev.neg hw6 ?_
      by_cases h0 : n < 0
      · exact Ev.pos h0 (no (fun h => by have := h.2.2.1; omega))
      · obtain ⟨e1, e2, e3, e4⟩ := shl_put (w := w) (by omega) (by omega)
        refine Ev.neg h0 (Ev.pos e4 ?_)
        rw [e3]
        by_cases h1 : n ≥ 256 ^ w.toNat
        · rw [show decide (n ≥ 256 ^ w.toNat) = true by simpa using h1]
          exact no (fun h => by have := h.2.2.2; omega)
        · rw [show decide (n ≥ 256 ^ w.toNat) = false by simpa using h1]
          refine Ev.step (fun _ => impl_PutNumber.j0.eq_2 ..) (Ev.neg (by decide) (Ev.pos (by omega) (Ev.pos (by omega) ?_)))
          have := putNumber_impl_l w.toNat n (List.replicate w.toNat 0) (by omega) hn (by rw [List.length_replicate]; omega) (by rw [List.length_replicate]; omega)
          rw [List.drop_eq_nil_of_le (by rw [List.length_replicate]; omega), List.append_nil, show ((w.toNat : Nat) : Int) = w by omega] at this
          unfold putNumber
          rw [if_pos ⟨by omega, by omega, by omega, by omega⟩, w64 (n := w - 1) (by omega) (by omega)]
          exact this

theorem strOfNums_size (l : List Int) : (strOfNums l).size = l.length := by
  have h : (strOfNums l).data.toList.length = (strOfNums l).size := by rw [Array.length_toList]; rfl
  rw [← h, strOfNums_data, List.length_map]
theorem putNumber_size (n w : Int) : (putNumber n w).size ≤ 6 := by
  unfold putNumber
  by_cases h : 1 ≤ w ∧ w ≤ 6 ∧ 0 ≤ n ∧ n < 256 ^ w.toNat
  · rw [if_pos h, strOfNums_size, putL_length]
    omega
  · rw [if_neg h]
    exact Nat.zero_le _

theorem checksumOf_spec {s : ByteArray} (hs : s.size ≤ 140737488351232) (l : List Int) : ∀ (i a b : Int), 0 ≤ i → (bytesOf s).drop i.toNat = l → 0 ≤ a → a < 65521 → 0 ≤ b → b < 65521 →
    Ev (fun k => spec_ChecksumOf.l0 k s a b i) ((ck l a b).2 * 65536 + (ck l a b).1) := by
  induction l with
  | nil =>
    intro i a b h0 h ha ha' hb hb'
    have := bdrop_nil h0 h
    refine Ev.step (fun _ => spec_ChecksumOf.l0.eq_2 ..) (Ev.neg (by omega) ?_)
    rw [w64 (n := b * 65536) (by omega) (by omega), w64 (by omega) (by omega)]
    exact Ev.now _
  | cons x l ih =>
    intro i a b h0 h ha ha' hb hb'
    obtain ⟨h1, h2, h3, h4⟩ := bdrop_cons h0 h
    have hx := bt_range s i
    refine Ev.step (fun _ => spec_ChecksumOf.l0.eq_2 ..) (Ev.pos h1 (Ev.pos h0 ?_))
    rw [w64 (n := bt s i) (by omega) (by omega), w64 (n := a + bt s i) (by omega) (by omega), Int.tmod_eq_emod_of_nonneg (show 0 ≤ a + bt s i by omega),
      w64 (n := b + (a + bt s i) % 65521) (by omega) (by omega), Int.tmod_eq_emod_of_nonneg (show 0 ≤ b + (a + bt s i) % 65521 by omega), w64 (n := i + 1) (by omega) (by omega), h2]
    rw [h2] at hx
    exact ih (i + 1) _ _ (by omega) h3 (by omega) (by omega) (by omega) (by omega)
theorem checksumOf_impl {s : ByteArray} (hs : s.size ≤ 140737488351232) (l : List Int) : ∀ (i a b : Int), 0 ≤ i → (bytesOf s).drop i.toNat = l → 0 ≤ a → a < 65521 → 0 ≤ b → b < 65521 →
    Ev (fun k => impl_ChecksumOf.l0 k s a b (s.size : Int) i) ((ck l a b).2 * 65536 + (ck l a b).1) := by
  induction l with
  | nil =>
    intro i a b h0 h ha ha' hb hb'
    have := bdrop_nil h0 h
    refine Ev.step (fun _ => impl_ChecksumOf.l0.eq_2 ..) (Ev.neg (by omega) ?_)
    rw [w64 (n := b * 65536) (by omega) (by omega), w64 (by omega) (by omega)]
    exact Ev.now _
  | cons x l ih =>
    intro i a b h0 h ha ha' hb hb'
    obtain ⟨h1, h2, h3, h4⟩ := bdrop_cons h0 h
    have hx := bt_range s i
    refine Ev.step (fun _ => impl_ChecksumOf.l0.eq_2 ..) (Ev.pos h1 (Ev.pos h0 (Ev.pos h1 ?_)))
    rw [w64 (n := bt s i) (by omega) (by omega), w64 (n := a + bt s i) (by omega) (by omega), Int.tmod_eq_emod_of_nonneg (show 0 ≤ a + bt s i by omega),
      w64 (n := b + (a + bt s i) % 65521) (by omega) (by omega), Int.tmod_eq_emod_of_nonneg (show 0 ≤ b + (a + bt s i) % 65521 by omega), w64 (n := i + 1) (by omega) (by omega), h2]
    rw [h2] at hx
    exact ih (i + 1) _ _ (by omega) h3 (by omega) (by omega) (by omega) (by omega)
theorem checksumOf_spec_f {s : ByteArray} (hs : s.size ≤ 140737488351232) : Ev (fun k => spec_ChecksumOf.f k s) (checksum (bytesOf s)) :=
  checksumOf_spec hs (bytesOf s) 0 1 0 (by omega) rfl (by omega) (by omega) (by omega) (by omega)
theorem checksumOf_impl_f {s : ByteArray} (hs : s.size ≤ 140737488351232) : Ev (fun k => impl_ChecksumOf.f k s) (checksum (bytesOf s)) :=
  checksumOf_impl hs (bytesOf s) 0 1 0 (by omega) rfl (by omega) (by omega) (by omega) (by omega)

theorem data_eq_len (s : ByteArray) : s.data.toList.length = s.size := by rw [Array.length_toList]; rfl
theorem bytesOf_zeros (d : Nat) : bytesOf (⟨(Go.Lib.repeatL [0] d).toArray⟩ : ByteArray) = List.replicate d 0 := by
  have h := Go.Lib.repeatL_replicate 0 1 d
  rw [Nat.mul_one, show List.replicate 1 (0 : UInt8) = [0] from rfl] at h
  rw [h]
  unfold bytesOf
  rw [List.toList_toArray, List.map_replicate]
  rfl
theorem padTo_spec_l (n : Int) (hn : n ≤ 100000) (d : Nat) : ∀ (xs : List Int), (n - (xs.length : Int)).toNat = d → Ev (fun k => spec_PadTo.l0 k n xs) (strOfNums (xs ++ List.replicate d 0)) := by
  induction d with
  | zero =>
    intro xs hd
    rw [List.replicate_zero, List.append_nil]
    exact Ev.step (fun _ => spec_PadTo.l0.eq_2 ..) (Ev.neg (by omega) (Ev.now _))
  | succ d ih =>
    intro xs hd
    have := ih (xs ++ [0]) (by rw [List.length_append, List.length_singleton]; omega)
    rw [List.append_assoc, show [(0 : Int)] ++ List.replicate d 0 = List.replicate (d + 1) 0 from rfl] at this
    exact Ev.step (fun _ => spec_PadTo.l0.eq_2 ..) (Ev.pos (by omega) (Ev.pos (by omega) this))
theorem padTo_both' (s : ByteArray) (n : Int) (hs : s.size ≤ 100000) (hn : n ≤ 100000) : Ev (fun k => spec_PadTo.f k s n) (strOfNums (bytesOf s ++ List.replicate (n - ((bytesOf s).length : Int)).toNat 0)) ∧ impl_PadTo.f s n = some (strOfNums (bytesOf s ++ List.replicate (n - ((bytesOf s).length : Int)).toNat 0)) := by
  unfold spec_PadTo.f impl_PadTo.f
  refine ⟨Ev.neg (by omega) (Ev.pos (by omega) (padTo_spec_l n hn _ _ rfl)), ?_⟩
  rw [bytesOf_length]
  by_cases h : (s.size : Int) ≥ n
  · rw [if_pos h, show (n - (s.size : Int)).toNat = 0 by omega, List.replicate_zero, List.append_nil, strOfNums_bytesOf]
  · rw [if_neg h, if_neg (by omega), w64 (by omega) (by omega)]
    unfold strings_Repeat.f
    have z : (⟨#[0]⟩ : ByteArray).size = 1 := rfl
    rw [if_pos ⟨by omega, by omega, by rw [z]; omega⟩, Option.bind_some]
    have z2 : (⟨(Go.Lib.repeatL [0] (n - (s.size : Int)).toNat).toArray⟩ : ByteArray).size = (n - (s.size : Int)).toNat := by
      rw [← data_eq_len]
      simp only []
      rw [Go.Lib.repeatL_length]
      exact Nat.mul_one _
    have e : s ++ (⟨(Go.Lib.repeatL [0] (n - (s.size : Int)).toNat).toArray⟩ : ByteArray) = strOfNums (bytesOf s ++ List.replicate (n - (s.size : Int)).toNat 0) := by
      apply bytesOf_inj
      rw [bytesOf_append, bytesOf_zeros, bytesOf_strOfNums]
      intro x hx
      rcases List.mem_append.1 hx with h1 | h1
      · exact bytesOf_range h1
      · rw [List.eq_of_mem_replicate h1]
        decide
    rw [← e]
    exact if_pos (by simp only [] at z2 ⊢; rw [z2]; omega)
theorem padTo_both (s : ByteArray) (n : Int) (hs : s.size ≤ 100000) (hn : n ≤ 100000) : ∃ r, Ev (fun k => spec_PadTo.f k s n) r ∧ impl_PadTo.f s n = some r := ⟨_, padTo_both' s n hs hn⟩
theorem padTo_front (s : ByteArray) (n : Int) (hs : s.size ≤ 100000) (hn : n ≤ 100000) : ∃ r m, Ev (fun k => spec_PadTo.f k s n) r ∧ impl_PadTo.f s n = some r ∧ bytesOf r = bytesOf s ++ m := by
  obtain ⟨h1, h2⟩ := padTo_both' s n hs hn
  refine ⟨_, _, h1, h2, bytesOf_strOfNums ?_⟩
  intro x hx
  rcases List.mem_append.1 hx with h1 | h1
  · exact bytesOf_range h1
  · rw [List.eq_of_mem_replicate h1]
    decide

def okWrite (x : S102) : Bool := decide (0 ≤ x.f0 ∧ x.f0 ≤ 399)
def okWrites (l : List S102) : Bool := l.all okWrite && decide (1 ≤ l.length ∧ l.length ≤ 64)
theorem okWrites_l (xs : List S102) (hx : xs.length ≤ 1048576) (l : List S102) : ∀ i : Int, 0 ≤ i → xs.drop i.toNat = l →
    Ev (fun k => spec_l04Ok.l0 k xs xs (xs.length : Int) i) (l.all okWrite && decide (1 ≤ xs.length ∧ xs.length ≤ 64)) ∧
    Ev (fun k => impl_listed.l0 k xs xs (xs.length : Int) i) (l.all okWrite && decide (1 ≤ xs.length ∧ xs.length ≤ 64)) := by
  induction l with
  | nil =>
    intro i h0 h
    have := ldrop_nil h0 h
    rw [List.all_nil, Bool.true_and]
    refine ⟨Ev.step (fun _ => spec_l04Ok.l0.eq_2 ..) (Ev.neg (by omega) (Ev.bind0 (l01In_spec _ _ _) ?_)), Ev.step (fun _ => impl_listed.l0.eq_2 ..) (Ev.neg (by omega) ?_)⟩
    · have e : decide (1 ≤ (xs.length : Int) ∧ (xs.length : Int) ≤ 64) = decide (1 ≤ xs.length ∧ xs.length ≤ 64) := by
        rw [decide_eq_decide]
        omega
      rw [e]
      exact Ev.now _
    · by_cases h1 : (xs.length : Int) ≥ 1
      · refine Ev.pos h1 ?_
        have e : decide ((xs.length : Int) ≤ 64) = decide (1 ≤ xs.length ∧ xs.length ≤ 64) := by
          rw [decide_eq_decide]
          omega
        rw [e]
        exact Ev.now _
      · rw [show decide (1 ≤ xs.length ∧ xs.length ≤ 64) = false by rw [decide_eq_false_iff_not]; omega]
        exact Ev.neg h1 (Ev.now _)
  | cons x l ih =>
    intro i h0 h
    obtain ⟨a, b, c, e⟩ := ldrop_cons z102 h0 h
    have hb : rd_T102 xs i = x := b
    obtain ⟨i1, i2⟩ := ih (i + 1) (by omega) c
    rw [List.all_cons]
    refine ⟨Ev.step (fun _ => spec_l04Ok.l0.eq_2 ..) (Ev.pos a (Ev.pos h0 (Ev.pos a (Ev.bind0 (l01In_spec _ _ _) ?_)))), Ev.step (fun _ => impl_listed.l0.eq_2 ..) (Ev.pos a (Ev.pos h0 (Ev.pos a ?_)))⟩
    · rw [hb, w64 (n := i + 1) (by omega) (by omega)]
      by_cases hk : 0 ≤ x.f0 ∧ x.f0 ≤ 399
      · rw [show okWrite x = true from decide_eq_true hk, Bool.true_and]
        exact Ev.pos (decide_eq_true hk) i1
      · rw [show okWrite x = false from decide_eq_false hk, Bool.false_and, Bool.false_and]
        exact Ev.neg (by simpa using hk) (Ev.now _)
    · rw [hb, w64 (n := i + 1) (by omega) (by omega)]
      by_cases hk : 0 ≤ x.f0 ∧ x.f0 ≤ 399
      · rw [show okWrite x = true from decide_eq_true hk, Bool.true_and]
        exact Ev.neg (by omega) (Ev.neg (by omega) i2)
      · rw [show okWrite x = false from decide_eq_false hk, Bool.false_and, Bool.false_and]
        by_cases h1 : x.f0 < 0
        · exact Ev.pos h1 (Ev.now _)
        · exact Ev.neg h1 (Ev.pos (by omega) (Ev.now _))
theorem okWrites_spec (xs : List S102) (hx : xs.length ≤ 1048576) : Ev (fun k => spec_l04Ok.f k xs) (okWrites xs) := (okWrites_l xs hx xs 0 (by omega) rfl).1
theorem okWrites_impl (xs : List S102) (hx : xs.length ≤ 1048576) : Ev (fun k => impl_listed.f k xs) (okWrites xs) := (okWrites_l xs hx xs 0 (by omega) rfl).2

theorem head_size (s : ByteArray) : (((⟨#[74, 82, 78, 76]⟩ : ByteArray)) ++ s).size = 4 + s.size := by rw [ba_size_append]; rfl
theorem commit_both (n : Int) (xs : List S102) (hn : 0 ≤ n) (hn2 : n ≤ 1000000000) (hx : xs.length ≤ 1048576) (hb : ∀ x, x ∈ xs → x.f0 ≤ 9223372036854775807 ∧ x.f1.size ≤ 1048576) (l : List S102) : ∀ (i : Int) (s : ByteArray), 0 ≤ i → i ≤ (xs.length : Int) → xs.drop i.toNat = l → (s.size : Int) ≤ i * 1048582 →
    ∃ r, Ev (fun k => spec_CommitSector.l0 k n xs s xs (xs.length : Int) i) r ∧ Ev (fun k => impl_CommitSector.l0 k n xs s xs (xs.length : Int) i) r := by
  induction l with
  | nil =>
    intro i s h0 hi h hs
    have := ldrop_nil h0 h
    have z1 := putNumber_size n 4
    have z2 := putNumber_size (xs.length : Int) 2
    have z3 := putNumber_size (checksum (bytesOf s)) 4
    have c1 : s.size ≤ 140737488351232 := by omega
    have hc : checksum (bytesOf s) ≤ 9223372036854775807 := by
      have := checksum_le (bytesOf s)
      omega
    have a1 := head_size (putNumber n 4)
    have a2 := ba_size_append ((⟨#[74, 82, 78, 76]⟩ : ByteArray) ++ putNumber n 4) (putNumber (xs.length : Int) 2)
    have a3 := ba_size_append ((⟨#[74, 82, 78, 76]⟩ : ByteArray) ++ putNumber n 4 ++ putNumber (xs.length : Int) 2) (putNumber (checksum (bytesOf s)) 4)
    obtain ⟨r, p1, p2⟩ := padTo_both ((⟨#[74, 82, 78, 76]⟩ : ByteArray) ++ putNumber n 4 ++ putNumber (xs.length : Int) 2 ++ putNumber (checksum (bytesOf s)) 4) 32 (by omega) (by omega)
    refine ⟨r, Ev.step (fun _ => spec_CommitSector.l0.eq_2 ..) (Ev.neg (by omega) ?_), Ev.step (fun _ => impl_CommitSector.l0.eq_2 ..) (Ev.neg (by omega) ?_)⟩
    · exact Ev.bind (putNumber_spec n 4 (by omega)) (Ev.pos (by omega) (Ev.bind (putNumber_spec _ 2 (by omega)) (Ev.pos (by omega) (Ev.bind (checksumOf_spec_f c1) (Ev.bind (putNumber_spec _ 4 hc) (Ev.pos (by omega) (Ev.bind p1 (Ev.now _))))))))
    · exact Ev.bind (putNumber_impl n 4 (by omega)) (Ev.pos (by omega) (Ev.bind (putNumber_impl _ 2 (by omega)) (Ev.pos (by omega) (Ev.bind (checksumOf_impl_f c1) (Ev.bind (putNumber_impl _ 4 hc) (Ev.pos (by omega) (Ev.bind0 p2 (Ev.now _))))))))
  | cons x l ih =>
    intro i s h0 hi h hs
    obtain ⟨a, b, c, e⟩ := ldrop_cons z102 h0 h
    have hr : rd_T102 xs i = x := b
    obtain ⟨b1, b2⟩ := hb x (by
      have : x ∈ xs.drop i.toNat := by rw [h]; exact List.mem_cons_self ..
      exact List.mem_of_mem_drop this)
    have z1 := putNumber_size x.f0 2
    have a1 := ba_size_append s (putNumber x.f0 2)
    have a2 := ba_size_append (s ++ putNumber x.f0 2) x.f1
    have a3 := ba_size_append (putNumber x.f0 2) x.f1
    obtain ⟨r, p1, p2⟩ := ih (i + 1) (s ++ putNumber x.f0 2 ++ x.f1) (by omega) (by omega) c (by omega)
    refine ⟨r, Ev.step (fun _ => spec_CommitSector.l0.eq_2 ..) (Ev.pos a (Ev.pos h0 (Ev.pos a ?_))), Ev.step (fun _ => impl_CommitSector.l0.eq_2 ..) (Ev.pos a (Ev.pos h0 (Ev.pos a ?_)))⟩
    · rw [hr, w64 (n := i + 1) (by omega) (by omega)]
      exact Ev.bind (putNumber_spec x.f0 2 b1) (Ev.pos (by omega) (Ev.pos (by omega) p1))
    · rw [hr, w64 (n := i + 1) (by omega) (by omega)]
      rw [ByteArray.append_assoc] at p2
      exact Ev.bind (putNumber_impl x.f0 2 b1) (Ev.pos (by omega) (Ev.pos (by omega) p2))
theorem commit_f (n : Int) (xs : List S102) (hx : xs.length ≤ 1048576) (hb : ∀ x, x ∈ xs → x.f0 ≤ 9223372036854775807 ∧ x.f1.size ≤ 1048576) :
    ∃ r, Ev (fun k => spec_CommitSector.f k n xs) r ∧ Ev (fun k => impl_CommitSector.f k n xs) r := by
  unfold spec_CommitSector.f impl_CommitSector.f
  have no1 : Ev (fun k => spec_CommitSector.j0 k n xs true) (⟨#[]⟩ : ByteArray) := Ev.step (fun _ => spec_CommitSector.j0.eq_2 ..) (Ev.pos rfl (Ev.now _))
  have no2 : Ev (fun k => impl_CommitSector.j0 k n xs true) (⟨#[]⟩ : ByteArray) := Ev.step (fun _ => impl_CommitSector.j0.eq_2 ..) (Ev.pos rfl (Ev.now _))
  by_cases h : 0 ≤ n ∧ n ≤ 1000000000
  · cases ho : okWrites xs with
    | false =>
      refine ⟨(⟨#[]⟩ : ByteArray), Ev.bind0 (l01In_spec _ _ _) (Ev.pos (decide_eq_true h) (Ev.bind (okWrites_spec xs hx) ?_)), Ev.neg (by omega) (Ev.neg (by omega) (Ev.bind (okWrites_impl xs hx) ?_))⟩
      · rw [ho]; exact no1
      · rw [ho]; exact no2
    | true =>
      obtain ⟨r, p1, p2⟩ := commit_both n xs h.1 h.2 hx hb xs 0 (⟨#[]⟩ : ByteArray) (by omega) (by omega) rfl (by decide)
      refine ⟨r, Ev.bind0 (l01In_spec _ _ _) (Ev.pos (decide_eq_true h) (Ev.bind (okWrites_spec xs hx) ?_)), Ev.neg (by omega) (Ev.neg (by omega) (Ev.bind (okWrites_impl xs hx) ?_))⟩
      · rw [ho]; exact Ev.step (fun _ => spec_CommitSector.j0.eq_2 ..) (Ev.neg (by decide) p1)
      · rw [ho]; exact Ev.step (fun _ => impl_CommitSector.j0.eq_2 ..) (Ev.neg (by decide) p2)
  · refine ⟨_, Ev.bind0 (l01In_spec _ _ _) (Ev.neg (by simpa using h) no1), ?_⟩
    by_cases h1 : n < 0
    · exact Ev.pos h1 no2
    · exact Ev.neg h1 (Ev.pos (by omega) no2)

theorem isDiskM_parts {a : List ByteArray} {b : List S102} (h : isDiskM a b = true) : a.length ≤ 400 ∧ b.length ≤ 400 ∧ (∀ s, s ∈ a → s.size = 32) ∧ ∀ x, x ∈ b → x.f1.size = 32 := by
  unfold isDiskM at h
  rw [Bool.and_eq_true, Bool.and_eq_true, List.all_eq_true, List.all_eq_true] at h
  obtain ⟨h1, h2, h3⟩ := h
  have h1 := of_decide_eq_true h1
  refine ⟨h1.1, h1.2, fun s hs => of_decide_eq_true (h2 s hs), fun x hx => ?_⟩
  have := h3 x hx
  unfold pendM at this
  exact (of_decide_eq_true this).2.2
/-- What is read off a valid disk. -/
theorem diskRead_32 {a : List ByteArray} {b : List S102} (h : isDiskM a b = true) (n : Int) (h0 : 0 ≤ n) (h1 : n < (a.length : Int)) :
    ∃ r, Ev (fun k => spec_l03Read.f k a b n) r ∧ Ev (fun k => impl_Disk_read.f k a b n) r ∧ r.size = 32 := by
  obtain ⟨p1, p2, p3, p4⟩ := isDiskM_parts h
  obtain ⟨r, q1, q2, q3⟩ := diskRead_f a b (by omega) n h0 h1
  refine ⟨r, q1, q2, ?_⟩
  rcases q3 with q | ⟨x, hx, rfl⟩
  · exact p3 r q
  · exact p4 x hx
theorem ba_empty_ne {s : ByteArray} (h : s.size = 32) : ¬ (⟨#[]⟩ : ByteArray).toList = s.toList := by
  intro e
  rw [← (ba_eq_iff _ _).1 e] at h
  exact absurd h (by decide)
theorem readJournal_l {a : List ByteArray} {b : List S102} (h : isDiskM a b = true) (h70 : 70 ≤ (a.length : Int)) (c : ByteArray) (q n : Int) (hn : n ≤ 64) (d : Nat) : ∀ (i : Int) (x : List S102), 0 ≤ i → i + d = n → (x.length : Int) = i → (∀ y, y ∈ x → y.f0 ≤ 9223372036854775807 ∧ y.f1.size ≤ 1048576) →
    ∃ r, Ev (fun k => spec_ReadJournal.l0 k c q n x i a b) r ∧ Ev (fun k => impl_ReadJournal.l0 k c q x n i a b) r ∧ r.2.1.length ≤ 64 := by
  obtain ⟨p1, p2, p3, p4⟩ := isDiskM_parts h
  induction d with
  | zero =>
    intro i x h0 hd hx hy
    obtain ⟨t, e1, e2⟩ := isTxn_f a b x (by omega) (by omega) (by omega)
    obtain ⟨s, f1, f2⟩ := commit_f q x (by omega) hy
    cases t with
    | true =>
      by_cases hc : s.toList = c.toList
      · refine ⟨(q, x, true), Ev.step (fun _ => spec_ReadJournal.l0.eq_2 ..) (Ev.neg (by omega) (Ev.bind e1 (Ev.pos rfl (Ev.bind f1 (Ev.pos hc (Ev.now _)))))), Ev.step (fun _ => impl_ReadJournal.l0.eq_2 ..) (Ev.neg (by omega) (Ev.bind f2 (Ev.pos hc (Ev.bind e2 (Ev.pos rfl (Ev.now _)))))), ?_⟩
        show x.length ≤ 64
        omega
      · exact ⟨(0, [], false), Ev.step (fun _ => spec_ReadJournal.l0.eq_2 ..) (Ev.neg (by omega) (Ev.bind e1 (Ev.pos rfl (Ev.bind f1 (Ev.neg hc (Ev.now _)))))), Ev.step (fun _ => impl_ReadJournal.l0.eq_2 ..) (Ev.neg (by omega) (Ev.bind f2 (Ev.neg hc (Ev.now _)))), Nat.zero_le _⟩
    | false =>
      refine ⟨(0, [], false), Ev.step (fun _ => spec_ReadJournal.l0.eq_2 ..) (Ev.neg (by omega) (Ev.bind e1 (Ev.neg (by decide) (Ev.now _)))), Ev.step (fun _ => impl_ReadJournal.l0.eq_2 ..) (Ev.neg (by omega) (Ev.bind f2 ?_)), Nat.zero_le _⟩
      by_cases hc : s.toList = c.toList
      · exact Ev.pos hc (Ev.bind e2 (Ev.neg (by decide) (Ev.now _)))
      · exact Ev.neg hc (Ev.now _)
  | succ d ih =>
    intro i x h0 hd hx hy
    have hq : 0 ≤ Int.tdiv i 16 ∧ Int.tdiv i 16 ≤ 3 := by
      rw [Int.tdiv_eq_ediv_of_nonneg h0]
      omega
    have hr : 0 ≤ Int.tmod i 16 ∧ Int.tmod i 16 ≤ 15 := by
      rw [Int.tmod_eq_emod_of_nonneg h0]
      omega
    obtain ⟨s, e1, e2, e3⟩ := diskRead_32 h (2 + Int.tdiv i 16) (by omega) (by omega)
    obtain ⟨u, f1, f2, f3⟩ := diskRead_32 h (6 + i) (by omega) (by omega)
    have g := getNumber_range s (2 * Int.tmod i 16) 2
    have g1 := getNumber_spec (s := s) (by omega) (2 * Int.tmod i 16) 2 (by omega)
    have g2 := getNumber_impl (s := s) (by omega) (2 * Int.tmod i 16) 2 (by omega)
    obtain ⟨r, q1, q2, q3⟩ := ih (i + 1) (x ++ [⟨(getNumber s (2 * Int.tmod i 16) 2).1, u⟩]) (by omega) (by omega) (by rw [List.length_append, List.length_singleton]; omega) (by
      intro y hy'
      rcases List.mem_append.1 hy' with h | h
      · exact hy y h
      · rw [List.mem_singleton.1 h]
        exact ⟨by simp only []; omega, by simp only []; omega⟩)
    refine ⟨r, Ev.step (fun _ => spec_ReadJournal.l0.eq_2 ..) (Ev.pos (by omega) ?_), Ev.step (fun _ => impl_ReadJournal.l0.eq_2 ..) (Ev.pos (by omega) ?_), q3⟩
    · rw [w64 (n := Int.tdiv i 16) (by omega) (by omega), w64 (n := 2 + Int.tdiv i 16) (by omega) (by omega), w64 (n := 2 * Int.tmod i 16) (by omega) (by omega), w64 (n := 6 + i) (by omega) (by omega), w64 (n := i + 1) (by omega) (by omega)]
      exact Ev.bind e1 (Ev.bind g1 (Ev.bind f1 (Ev.pos (by omega) q1)))
    · rw [w64 (n := Int.tdiv i 16) (by omega) (by omega), w64 (n := 2 + Int.tdiv i 16) (by omega) (by omega), w64 (n := 2 * Int.tmod i 16) (by omega) (by omega), w64 (n := 6 + i) (by omega) (by omega), w64 (n := i + 1) (by omega) (by omega)]
      exact Ev.bind e2 (Ev.bind g2 (Ev.bind f2 (Ev.pos (by omega) q2)))
theorem readJournal_f (a : List ByteArray) (b : List S102) (ha : a.length ≤ 1048576) (hb : b.length ≤ 1048576) : ∃ r, Ev (fun k => spec_ReadJournal.f k a b) r ∧ Ev (fun k => impl_ReadJournal.f k a b) r ∧ r.2.1.length ≤ 64 := by
  unfold spec_ReadJournal.f impl_ReadJournal.f
  have no1 : Ev (fun k => spec_ReadJournal.j0 k true a b) (0, [], false) := Ev.step (fun _ => spec_ReadJournal.j0.eq_2 ..) (Ev.pos rfl (Ev.now _))
  have no2 : Ev (fun k => impl_ReadJournal.j0 k true a b) (0, [], false) := Ev.step (fun _ => impl_ReadJournal.j0.eq_2 ..) (Ev.pos rfl (Ev.now _))
  have h1 := isDisk_spec a b ha hb
  have h2 := isDisk_impl a b ha hb
  cases ho : isDiskM a b with
  | false =>
    rw [ho] at h1 h2
    exact ⟨_, Ev.bind h1 (Ev.neg (by decide) no1), Ev.bind h2 (Ev.neg (by decide) no2), Nat.zero_le _⟩
  | true =>
    rw [ho] at h1 h2
    by_cases h70 : (a.length : Int) < 70
    · rw [decide_eq_true h70]
      exact ⟨_, Ev.bind h1 (Ev.pos rfl no1), Ev.bind h2 (Ev.pos rfl no2), Nat.zero_le _⟩
    · rw [decide_eq_false h70]
      obtain ⟨c, e1, e2, e3⟩ := diskRead_32 ho 1 (by omega) (by omega)
      have g1 := getNumber_spec (s := c) (by omega) 4 4 (by omega)
      have g2 := getNumber_impl (s := c) (by omega) 4 4 (by omega)
      have g3 := getNumber_spec (s := c) (by omega) 8 2 (by omega)
      have g4 := getNumber_impl (s := c) (by omega) 8 2 (by omega)
      have gr := getNumber_range c 8 2
      by_cases h64 : (getNumber c 8 2).1 > 64
      · have s1 : Ev (fun k => spec_ReadJournal.j0 k false a b) (0, [], false) := Ev.step (fun _ => spec_ReadJournal.j0.eq_2 ..) (Ev.neg (by decide) (Ev.bind e1 (Ev.bind g1 (Ev.bind g3 (Ev.bind0 (l01In_spec _ _ _) (Ev.neg (by simp only [decide_eq_true_eq]; omega) (Ev.now _)))))))
        have s2 : Ev (fun k => impl_ReadJournal.j0 k false a b) (0, [], false) := Ev.step (fun _ => impl_ReadJournal.j0.eq_2 ..) (Ev.neg (by decide) (Ev.bind e2 (Ev.bind g2 (Ev.bind g4 (Ev.pos h64 (Ev.now _))))))
        exact ⟨(0, [], false), Ev.bind h1 (Ev.pos rfl s1), Ev.bind h2 (Ev.pos rfl s2), Nat.zero_le _⟩
      · obtain ⟨r, p1, p2, p3⟩ := readJournal_l ho (by omega) c (getNumber c 4 4).1 (getNumber c 8 2).1 (by omega) (getNumber c 8 2).1.toNat 0 [] (by omega) (by omega) rfl (fun y hy => by cases hy)
        have i2 : Ev (fun k => impl_ReadJournal.j0 k false a b) r := Ev.step (fun _ => impl_ReadJournal.j0.eq_2 ..) (Ev.neg (by decide) (Ev.bind e2 (Ev.bind g2 (Ev.bind g4 (Ev.neg h64 p2)))))
        by_cases hz : (getNumber c 8 2).1 = 0
        · have q2 : Ev (fun k => impl_ReadJournal.l0 k c (getNumber c 4 4).1 [] (getNumber c 8 2).1 0 a b) (0, [], false) := by
            obtain ⟨s, f1, f2⟩ := commit_f (getNumber c 4 4).1 [] (Nat.zero_le _) (fun y hy => by cases hy)
            have hs : Ev (fun k => impl_CommitSector.f k (getNumber c 4 4).1 []) (⟨#[]⟩ : ByteArray) := by
              unfold impl_CommitSector.f
              have no : Ev (fun k => impl_CommitSector.j0 k (getNumber c 4 4).1 [] true) (⟨#[]⟩ : ByteArray) := Ev.step (fun _ => impl_CommitSector.j0.eq_2 ..) (Ev.pos rfl (Ev.now _))
              by_cases z1 : (getNumber c 4 4).1 < 0
              · exact Ev.pos z1 no
              · by_cases z2 : (getNumber c 4 4).1 > 1000000000
                · exact Ev.neg z1 (Ev.pos z2 no)
                · exact Ev.neg z1 (Ev.neg z2 (Ev.bind (okWrites_impl [] (Nat.zero_le _)) no))
            exact Ev.step (fun _ => impl_ReadJournal.l0.eq_2 ..) (Ev.neg (by omega) (Ev.bind hs (Ev.neg (ba_empty_ne e3) (Ev.now _))))
          have := Ev.uniq p2 q2
          subst this
          have s1 : Ev (fun k => spec_ReadJournal.j0 k false a b) (0, [], false) := Ev.step (fun _ => spec_ReadJournal.j0.eq_2 ..) (Ev.neg (by decide) (Ev.bind e1 (Ev.bind g1 (Ev.bind g3 (Ev.bind0 (l01In_spec _ _ _) (Ev.neg (by simp only [decide_eq_true_eq]; omega) (Ev.now _)))))))
          exact ⟨(0, [], false), Ev.bind h1 (Ev.pos rfl s1), Ev.bind h2 (Ev.pos rfl i2), Nat.zero_le _⟩
        · have s1 : Ev (fun k => spec_ReadJournal.j0 k false a b) r := Ev.step (fun _ => spec_ReadJournal.j0.eq_2 ..) (Ev.neg (by decide) (Ev.bind e1 (Ev.bind g1 (Ev.bind g3 (Ev.bind0 (l01In_spec _ _ _) (Ev.pos (by simp only [decide_eq_true_eq]; omega) p1))))))
          exact ⟨r, Ev.bind h1 (Ev.pos rfl s1), Ev.bind h2 (Ev.pos rfl i2), p3⟩

theorem markText_l (d : Nat) : ∀ (n : Int) (t : ByteArray), n.toNat ≤ d → (t.size : Int) + n ≤ 4611686018427387904 → t.size ≤ 4611686018427387904 → ∃ r, Ev (fun k => laws_markText.l0 k n t) r := by
  induction d with
  | zero =>
    intro n t hd h1 h2
    exact ⟨_, Ev.step (fun _ => laws_markText.l0.eq_2 ..) (Ev.neg (by omega) (Ev.pos (by omega) (Ev.now _)))⟩
  | succ d ih =>
    intro n t hd h1 h2
    by_cases hn : n > 0
    · have e : Int.tdiv n 10 = n / 10 := Int.tdiv_eq_ediv_of_nonneg (by omega)
      obtain ⟨r, hr⟩ := ih (n / 10) (strOfNums [wrap64 (48 + Int.tmod n 10) % 256] ++ t) (by omega) (by rw [ba_size_append, strOfNums_size, List.length_singleton]; omega) (by rw [ba_size_append, strOfNums_size, List.length_singleton]; omega)
      refine ⟨r, Ev.step (fun _ => laws_markText.l0.eq_2 ..) (Ev.pos hn (Ev.bind0 rfl (Ev.pos ?_ ?_)))⟩
      · rw [strOfNums_size, List.length_singleton]
        omega
      · rw [e, w64 (n := n / 10) (by omega) (by omega)]
        exact hr
    · exact ⟨_, Ev.step (fun _ => laws_markText.l0.eq_2 ..) (Ev.neg (by omega) (Ev.pos (by omega) (Ev.now _)))⟩
theorem markText_ex (n : Int) (h : n ≤ 1152921504606846976) : ∃ r, Ev (fun k => laws_markText.f k n) r := by
  unfold laws_markText.f
  by_cases hn : n ≤ 0
  · exact ⟨_, Ev.pos hn (Ev.now _)⟩
  · obtain ⟨r, hr⟩ := markText_l n.toNat n ⟨#[]⟩ (by omega) (by have : (⟨#[]⟩ : ByteArray).size = 0 := rfl; omega) (by have : (⟨#[]⟩ : ByteArray).size = 0 := rfl; omega)
    exact ⟨r, Ev.neg hn hr⟩

theorem markStringSo_l (d : Nat) : ∀ (i k : Int) (l : List ByteArray), 0 ≤ i → i + d = (l.length : Int) → 0 ≤ k → k + d ≤ 1152921504606846976 → (l.length : Int) ≤ 1152921504606846976 →
    ∃ l', Ev (fun n => laws_markStringS.l0 n l k i) (k + d, l') ∧ l'.length = l.length := by
  induction d with
  | zero =>
    intro i k l h0 hd hk hk' hl
    refine ⟨l, ?_, rfl⟩
    rw [show k + ((0 : Nat) : Int) = k by omega]
    exact Ev.step (fun _ => laws_markStringS.l0.eq_2 ..) (Ev.neg (by omega) (Ev.now _))
  | succ d ih =>
    intro i k l h0 hd hk hk' hl
    obtain ⟨t, ht⟩ := markText_ex k (by omega)
    obtain ⟨l', h1, h2⟩ := ih (i + 1) (k + 1) (l.set i.toNat t) (by omega) (by rw [List.length_set]; omega) (by omega) (by omega) (by rw [List.length_set]; omega)
    rw [List.length_set] at h2
    rw [show k + 1 + (d : Int) = k + ((d + 1 : Nat) : Int) by omega] at h1
    refine ⟨l', Ev.step (fun _ => laws_markStringS.l0.eq_2 ..) (Ev.pos (by omega) (Ev.bind ht (Ev.pos h0 ?_))), h2⟩
    rw [w64 (n := k + 1) (by omega) (by omega), w64 (n := i + 1) (by omega) (by omega)]
    exact h1
theorem markStringSo_ex (l : List ByteArray) (k : Int) (hk : 0 ≤ k) (h : k + (l.length : Int) ≤ 1152921504606846976) :
    ∃ l', Ev (fun n => laws_markStringS.f n l k) (k + (l.length : Int), l') ∧ l'.length = l.length :=
  markStringSo_l l.length 0 k l (by omega) (by omega) hk h (by omega)

theorem markWriteSo_l (d : Nat) : ∀ (i k : Int) (l : List S102), 0 ≤ i → i + d = (l.length : Int) → 0 ≤ k → k + 2 * d ≤ 1152921504606846976 → (l.length : Int) ≤ 1152921504606846976 →
    ∃ l', Ev (fun n => laws_markWriteS.l0 n l k i) (k + 2 * d, l') ∧ l'.length = l.length := by
  induction d with
  | zero =>
    intro i k l h0 hd hk hk' hl
    refine ⟨l, ?_, rfl⟩
    rw [show k + 2 * ((0 : Nat) : Int) = k by omega]
    exact Ev.step (fun _ => laws_markWriteS.l0.eq_2 ..) (Ev.neg (by omega) (Ev.now _))
  | succ d ih =>
    intro i k l h0 hd hk hk' hl
    obtain ⟨t, ht⟩ := markText_ex (k + 1) (by omega)
    obtain ⟨l', h1, h2⟩ := ih (i + 1) (k + 1 + 1) ((l.set i.toNat ⟨k, (rd_T102 l i).f1⟩).set i.toNat ⟨(rd_T102 (l.set i.toNat ⟨k, (rd_T102 l i).f1⟩) i).f0, t⟩) (by omega) (by rw [List.length_set, List.length_set]; omega) (by omega) (by omega) (by rw [List.length_set, List.length_set]; omega)
    rw [show k + 1 + 1 + 2 * (d : Int) = k + 2 * ((d + 1 : Nat) : Int) by omega] at h1
    rw [List.length_set, List.length_set] at h2
    refine ⟨l', Ev.step (fun _ => laws_markWriteS.l0.eq_2 ..) (Ev.pos (by omega) (Ev.pos h0 (Ev.bind0 rfl ?_))), h2⟩
    rw [w64 (n := k + 1) (by omega) (by omega), w64 (n := k + 1 + 1) (by omega) (by omega), w64 (n := i + 1) (by omega) (by omega)]
    exact Ev.bind ht h1
theorem markWriteSo_ex (l : List S102) (k : Int) (hk : 0 ≤ k) (h : k + 2 * (l.length : Int) ≤ 1152921504606846976) :
    ∃ l', Ev (fun n => laws_markWriteS.f n l k) (k + 2 * (l.length : Int), l') ∧ l'.length = l.length :=
  markWriteSo_l l.length 0 k l (by omega) (by omega) hk h (by omega)

theorem markDisk_ex (a : List ByteArray) (b : List S102) (ha : a.length ≤ 1048576) (hb : b.length ≤ 1048576) : ∃ r, Ev (fun k => laws_markDisk.f k a b 1) r ∧ 0 ≤ r.1 := by
  unfold laws_markDisk.f
  obtain ⟨l, h1, _⟩ := markStringSo_ex a 1 (by omega) (by omega)
  obtain ⟨l2, h4, _⟩ := markWriteSo_ex b (1 + (a.length : Int)) (by omega) (by omega)
  exact ⟨_, Ev.bind h1 (Ev.bind h4 (Ev.now _)), by simp only []; omega⟩

theorem rdWrite_set (l : List S102) (i : Int) (v : S102) (h0 : 0 ≤ i) (h : i < (l.length : Int)) : rd_T102 (l.set i.toNat v) i = v := by
  show rdOf z102 (l.set i.toNat v) i = v
  unfold rdOf
  rw [List.getD_eq_getElem?_getD, List.getElem?_set_self (by omega)]
  rfl
theorem markWriteS_l (d : Nat) : ∀ (i k : Int) (l : List S102), 0 ≤ i → i + d = (l.length : Int) → 0 ≤ k → k + 2 * d ≤ 1152921504606846976 → (l.length : Int) ≤ 1152921504606846976 →
    ∃ l', Ev (fun n => laws_markWriteS.l0 n l k i) (k + 2 * d, l') ∧ l'.length = l.length ∧ (∀ j : Nat, (j : Int) < i → l'[j]? = l[j]?) ∧ Ev (fun n => laws_heldWriteS.l0 n l' k i) (k + 2 * d) := by
  induction d with
  | zero =>
    intro i k l h0 hd hk hk' hl
    refine ⟨l, ?_, rfl, fun _ _ => rfl, ?_⟩
    · rw [show k + 2 * ((0 : Nat) : Int) = k by omega]
      exact Ev.step (fun _ => laws_markWriteS.l0.eq_2 ..) (Ev.neg (by omega) (Ev.now _))
    · rw [show k + 2 * ((0 : Nat) : Int) = k by omega]
      exact Ev.step (fun _ => laws_heldWriteS.l0.eq_2 ..) (Ev.neg (by omega) (Ev.now _))
  | succ d ih =>
    intro i k l h0 hd hk hk' hl
    obtain ⟨t, ht⟩ := markText_ex (k + 1) (by omega)
    obtain ⟨l', h1, h2, h3, h4⟩ := ih (i + 1) (k + 1 + 1) (l.set i.toNat ⟨k, t⟩) (by omega) (by rw [List.length_set]; omega) (by omega) (by omega) (by rw [List.length_set]; omega)
    rw [show k + 1 + 1 + 2 * (d : Int) = k + 2 * ((d + 1 : Nat) : Int) by omega] at h1 h4
    rw [List.length_set] at h2
    refine ⟨l', Ev.step (fun _ => laws_markWriteS.l0.eq_2 ..) (Ev.pos (by omega) (Ev.pos h0 (Ev.bind0 rfl ?_))), h2, ?_, ?_⟩
    · rw [w64 (n := k + 1) (by omega) (by omega), w64 (n := k + 1 + 1) (by omega) (by omega), w64 (n := i + 1) (by omega) (by omega)]
      refine Ev.bind ht ?_
      rw [rdWrite_set _ _ _ h0 (by omega), List.set_set]
      exact h1
    · intro j hj
      rw [h3 j (by omega), List.getElem?_set_ne (by omega)]
    · have e : rd_T102 l' i = ⟨k, t⟩ := by
        have h' := h3 i.toNat (by omega)
        rw [List.getElem?_set_self (by omega)] at h'
        show rdOf z102 l' i = _
        unfold rdOf
        rw [List.getD_eq_getElem?_getD, h']
        rfl
      refine Ev.step (fun _ => laws_heldWriteS.l0.eq_2 ..) (Ev.pos (by omega) (Ev.pos h0 ?_))
      rw [e]
      simp only []
      rw [w64 (n := k + 1) (by omega) (by omega), w64 (n := k + 1 + 1) (by omega) (by omega), w64 (n := i + 1) (by omega) (by omega)]
      exact Ev.pos (by trivial) (Ev.bind ht (Ev.pos (by trivial) h4))
theorem markWriteS_ex (l : List S102) (k : Int) (hk : 0 ≤ k) (h : k + 2 * (l.length : Int) ≤ 1152921504606846976) :
    ∃ l', Ev (fun n => laws_markWriteS.f n l k) (k + 2 * (l.length : Int), l') ∧ l'.length = l.length ∧ Ev (fun n => laws_heldWriteS.f n l' k) (k + 2 * (l.length : Int)) := by
  obtain ⟨l', h1, h2, _, h4⟩ := markWriteS_l l.length 0 k l (by omega) (by omega) hk h (by omega)
  exact ⟨l', h1, h2, h4⟩

theorem FnExactReadJournal (a : List ByteArray) (b : List S99) (h : okDisk a b) : ∃ k, laws_FnExactReadJournal.f k a b = some true := by
  obtain ⟨t, ht, hs⟩ := szDisk_ex a b h 1048576 (by omega) (by omega)
  apply Ev.rounds
  unfold laws_FnExactReadJournal.f
  refine Ev.bind ht ?_
  by_cases hn : t < 0
  · exact Ev.pos hn (Ev.now _)
  · obtain ⟨_, _, ha, hb, _⟩ := hs.resolve_left hn
    have hm : (b.map wrTo).length ≤ 1048576 := by rw [List.length_map]; exact hb
    have c := toDisk_f a b ha hb
    obtain ⟨r, h1, h2, h3⟩ := readJournal_f a (b.map wrTo) ha hm
    have e1 := eqWriteS_f r.2.1 (by omega)
    obtain ⟨m1, g1, g2⟩ := markDisk_ex a (b.map wrTo) ha hm
    obtain ⟨m2, g4, g5, g6⟩ := markWriteS_ex r.2.1 1 (by omega) (by omega)
    refine Ev.neg hn (Ev.bind c (Ev.bind h1 (Ev.bind c (Ev.bind h2 (Ev.pos rfl (Ev.bind e1 (Ev.pos rfl ?_)))))))
    rw [bne_self_eq_false]
    refine Ev.step (fun _ => laws_FnExactReadJournal.j0.eq_2 ..) (Ev.neg (by decide) (Ev.bind c (Ev.bind (eqDisk_f a _ ha hm) (Ev.pos rfl (Ev.bind g1 (Ev.neg (by omega) (Ev.pos rfl (Ev.bind e1 (Ev.pos rfl ?_)))))))))
    rw [bne_self_eq_false]
    refine Ev.step (fun _ => laws_FnExactReadJournal.j1.eq_2 ..) (Ev.neg (by decide) (Ev.bind g4 (Ev.bind g6 (Ev.neg (by omega) (Ev.pos rfl (Ev.bind c (Ev.bind h2 (Ev.pos rfl (Ev.bind e1 (Ev.pos rfl ?_))))))))))
    rw [bne_self_eq_false]
    exact Ev.step (fun _ => laws_FnExactReadJournal.j2.eq_2 ..) (Ev.neg (by decide) (Ev.bind g6 (Ev.neg (by omega) (Ev.pos rfl (Ev.now _)))))

end Go.Proofs.Ytmnojegajblagab.Pure
