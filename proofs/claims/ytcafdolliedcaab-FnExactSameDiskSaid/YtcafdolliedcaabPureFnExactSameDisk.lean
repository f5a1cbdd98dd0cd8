/- The law FnExactSameDisk holds for every input of its kind; no further condition. -/
import Derived.Test.YtcafdolliedcaabPFnExactSameDiskx5
import Derived.Test.YtcafdolliedcaabLibBase
import Derived.Test.YtcafdolliedcaabLibOpen
import Derived.Test.YtcafdolliedcaabLibAllEq
namespace Go.Proofs.Ytcafdolliedcaab.Pure
open Go.RowKit Go.Proofs.Ytcafdolliedcaab.PFnExactSameDisk Go.Proofs.Ytcafdolliedcaab.Lib Go.Proofs.YtcafdolliedcaabW.PrintWords Go.Proofs.YtcafdolliedcaabW.PrintLast Go.Proofs.YtcafdolliedcaabW.PrintMore
set_option linter.unusedVariables false
set_option linter.unusedSimpArgs false

theorem szStringS_l (xs : List ByteArray) (hx : xs.length ≤ 1048576) (hs : ∀ s, s ∈ xs → s.size ≤ 9223372036854775807) (l : List ByteArray) : ∀ (i left : Int), 0 ≤ i → xs.drop i.toNat = l → 0 ≤ left → left ≤ 1048576 →
    ∃ t, Ev (fun k => laws_szStringS.l0 k xs left i) t ∧ (t < 0 ∨ 0 ≤ t ∧ t ≤ left ∧ ∀ s, s ∈ l → (s.size : Int) ≤ left) := by
  induction l with
  | nil =>
    intro i left h0 h hl hl'
    have := ldrop_nil h0 h
    exact ⟨left, Ev.step (fun _ => laws_szStringS.l0.eq_2 ..) (Ev.neg (by omega) (Ev.now _)), Or.inr ⟨hl, by omega, fun s h => by cases h⟩⟩
  | cons x l ih =>
    intro i left h0 h hl hl'
    obtain ⟨a, b, c, e⟩ := ldrop_cons ByteArray.empty h0 h
    have hxs : x.size ≤ 9223372036854775807 := hs x (by
      have : x ∈ xs.drop i.toNat := by rw [h]; exact List.mem_cons_self ..
      exact List.mem_of_mem_drop this)
    by_cases hneg : left - (x.size : Int) < 0
    · refine ⟨-1, Ev.step (fun _ => laws_szStringS.l0.eq_2 ..) (Ev.pos a (Ev.pos h0 ?_)), by omega⟩
      rw [b, w64 (n := left - (x.size : Int)) (by omega) (by omega)]
      exact Ev.pos hneg (Ev.now _)
    · obtain ⟨t, h1, h2⟩ := ih (i + 1) (left - (x.size : Int)) (by omega) c (by omega) (by omega)
      refine ⟨t, Ev.step (fun _ => laws_szStringS.l0.eq_2 ..) (Ev.pos a (Ev.pos h0 ?_)), ?_⟩
      · rw [b, w64 (n := left - (x.size : Int)) (by omega) (by omega), w64 (n := i + 1) (by omega) (by omega)]
        exact Ev.neg hneg h1
      · rcases h2 with h2 | ⟨h2, h3, h4⟩
        · exact Or.inl h2
        · refine Or.inr ⟨h2, by omega, fun s hs => ?_⟩
          rcases List.mem_cons.1 hs with hs | hs
          · subst hs
            omega
          · have := h4 s hs
            omega
theorem szStringS_ex (xs : List ByteArray) (hx : xs.length ≤ 9223372036854775807) (hs : ∀ s, s ∈ xs → s.size ≤ 9223372036854775807) (left : Int) (hl : 0 ≤ left) (hl' : left ≤ 1048576) :
    ∃ t, Ev (fun k => laws_szStringS.f k xs left) t ∧ (t < 0 ∨ 0 ≤ t ∧ t ≤ left ∧ (xs.length : Int) ≤ left ∧ ∀ s, s ∈ xs → (s.size : Int) ≤ left) := by
  unfold laws_szStringS.f
  rw [w64 (n := left - (xs.length : Int)) (by omega) (by omega)]
  by_cases hneg : left - (xs.length : Int) < 0
  · exact ⟨-1, Ev.pos hneg (Ev.now _), by omega⟩
  · obtain ⟨t, h1, h2⟩ := szStringS_l xs (by omega) hs xs 0 (left - (xs.length : Int)) (by omega) rfl (by omega) (by omega)
    refine ⟨t, Ev.neg hneg h1, ?_⟩
    rcases h2 with h2 | ⟨h2, h3, h4⟩
    · exact Or.inl h2
    · exact Or.inr ⟨h2, by omega, by omega, fun s hs => by have := h4 s hs; omega⟩

theorem szWriteS_l (xs : List S96) (hx : xs.length ≤ 1048576) (hs : ∀ s, s ∈ xs → s.f1.size ≤ 9223372036854775807) (l : List S96) : ∀ (i left : Int), 0 ≤ i → xs.drop i.toNat = l → 0 ≤ left → left ≤ 1048576 →
    ∃ t, Ev (fun k => laws_szWriteS.l0 k xs left i) t ∧ (t < 0 ∨ 0 ≤ t ∧ t ≤ left ∧ ∀ s, s ∈ l → (s.f1.size : Int) ≤ left) := by
  induction l with
  | nil =>
    intro i left h0 h hl hl'
    have := ldrop_nil h0 h
    exact ⟨left, Ev.step (fun _ => laws_szWriteS.l0.eq_2 ..) (Ev.neg (by omega) (Ev.now _)), Or.inr ⟨hl, by omega, fun s h => by cases h⟩⟩
  | cons x l ih =>
    intro i left h0 h hl hl'
    obtain ⟨a, b, c, e⟩ := ldrop_cons z96 h0 h
    have hb : rd_T96 xs i = x := b
    have hxs : x.f1.size ≤ 9223372036854775807 := hs x (by
      have : x ∈ xs.drop i.toNat := by rw [h]; exact List.mem_cons_self ..
      exact List.mem_of_mem_drop this)
    by_cases hneg : left - (x.f1.size : Int) < 0
    · refine ⟨-1, Ev.step (fun _ => laws_szWriteS.l0.eq_2 ..) (Ev.pos a (Ev.pos h0 ?_)), by omega⟩
      rw [hb]
      refine Ev.bind0 (a := -1) ?_ (Ev.pos (by decide) (Ev.now _))
      unfold laws_szWrite.f
      rw [w64 (n := left - (x.f1.size : Int)) (by omega) (by omega), if_pos hneg]
    · obtain ⟨t, h1, h2⟩ := ih (i + 1) (left - (x.f1.size : Int)) (by omega) c (by omega) (by omega)
      refine ⟨t, Ev.step (fun _ => laws_szWriteS.l0.eq_2 ..) (Ev.pos a (Ev.pos h0 ?_)), ?_⟩
      · rw [hb]
        refine Ev.bind0 (a := left - (x.f1.size : Int)) ?_ (Ev.neg hneg ?_)
        · unfold laws_szWrite.f
          rw [w64 (n := left - (x.f1.size : Int)) (by omega) (by omega), if_neg hneg]
        · rw [w64 (n := i + 1) (by omega) (by omega)]
          exact h1
      · rcases h2 with h2 | ⟨h2, h3, h4⟩
        · exact Or.inl h2
        · refine Or.inr ⟨h2, by omega, fun s hs => ?_⟩
          rcases List.mem_cons.1 hs with hs | hs
          · subst hs
            omega
          · have := h4 s hs
            omega
theorem szWriteS_ex (xs : List S96) (hx : xs.length ≤ 9223372036854775807) (hs : ∀ s, s ∈ xs → s.f1.size ≤ 9223372036854775807) (left : Int) (hl : 0 ≤ left) (hl' : left ≤ 1048576) :
    ∃ t, Ev (fun k => laws_szWriteS.f k xs left) t ∧ (t < 0 ∨ 0 ≤ t ∧ t ≤ left ∧ (xs.length : Int) ≤ left ∧ ∀ s, s ∈ xs → (s.f1.size : Int) ≤ left) := by
  unfold laws_szWriteS.f
  rw [w64 (n := left - (xs.length : Int)) (by omega) (by omega)]
  by_cases hneg : left - (xs.length : Int) < 0
  · exact ⟨-1, Ev.pos hneg (Ev.now _), by omega⟩
  · obtain ⟨t, h1, h2⟩ := szWriteS_l xs (by omega) hs xs 0 (left - (xs.length : Int)) (by omega) rfl (by omega) (by omega)
    refine ⟨t, Ev.neg hneg h1, ?_⟩
    rcases h2 with h2 | ⟨h2, h3, h4⟩
    · exact Or.inl h2
    · exact Or.inr ⟨h2, by omega, by omega, fun s hs => by have := h4 s hs; omega⟩

theorem toStringS_l (xs : List ByteArray) (hx : xs.length ≤ 1048576) (l : List ByteArray) : ∀ (i : Int) (ys : List ByteArray), 0 ≤ i → xs.drop i.toNat = l → ys.length = xs.length → Ev (fun k => laws_toStringS.l0 k xs ys i) (ys.take i.toNat ++ l) := by
  induction l with
  | nil =>
    intro i ys h0 h hy
    have := ldrop_nil h0 h
    rw [List.append_nil, List.take_of_length_le (by omega)]
    exact Ev.step (fun _ => laws_toStringS.l0.eq_2 ..) (Ev.neg (by omega) (Ev.now _))
  | cons x l ih =>
    intro i ys h0 h hy
    obtain ⟨a, b, c, e⟩ := ldrop_cons ByteArray.empty h0 h
    refine Ev.step (fun _ => laws_toStringS.l0.eq_2 ..) (Ev.pos a (Ev.pos h0 (Ev.pos (by omega) ?_)))
    have := ih (i + 1) (ys.set i.toNat x) (by omega) c (by rw [List.length_set]; exact hy)
    rw [set_take _ h0 (by omega), List.append_assoc] at this
    rw [w64 (by omega) (by omega), b]
    exact this
theorem toStringS_f (xs : List ByteArray) (hx : xs.length ≤ 1048576) : Ev (fun k => laws_toStringS.f k xs) xs := by
  unfold laws_toStringS.f
  exact Ev.pos (by omega) (Ev.pos (by omega) (toStringS_l xs hx xs 0 _ (by omega) rfl (by rw [List.length_replicate]; omega)))

def wrTo (x : S96) : S93 := ⟨x.f0, x.f1⟩
theorem toWriteS_l (xs : List S96) (hx : xs.length ≤ 1048576) (l : List S96) : ∀ (i : Int) (ys : List S93), 0 ≤ i → xs.drop i.toNat = l → ys.length = xs.length → Ev (fun k => laws_toWriteS.l0 k xs ys i) (ys.take i.toNat ++ l.map wrTo) := by
  induction l with
  | nil =>
    intro i ys h0 h hy
    have := ldrop_nil h0 h
    rw [List.map_nil, List.append_nil, List.take_of_length_le (by omega)]
    exact Ev.step (fun _ => laws_toWriteS.l0.eq_2 ..) (Ev.neg (by omega) (Ev.now _))
  | cons x l ih =>
    intro i ys h0 h hy
    obtain ⟨a, b, c, e⟩ := ldrop_cons z96 h0 h
    refine Ev.step (fun _ => laws_toWriteS.l0.eq_2 ..) (Ev.pos a (Ev.pos h0 (Ev.bind0 rfl (Ev.pos (by omega) ?_))))
    have := ih (i + 1) (ys.set i.toNat (wrTo x)) (by omega) c (by rw [List.length_set]; exact hy)
    rw [set_take _ h0 (by omega), List.append_assoc] at this
    rw [w64 (by omega) (by omega), show rd_T96 xs i = x from b]
    exact this
theorem toWriteS_f (xs : List S96) (hx : xs.length ≤ 1048576) : Ev (fun k => laws_toWriteS.f k xs) (xs.map wrTo) := by
  unfold laws_toWriteS.f
  exact Ev.pos (by omega) (Ev.pos (by omega) (toWriteS_l xs hx xs 0 _ (by omega) rfl (by rw [List.length_replicate]; omega)))

theorem eqStringS_refl_l (d : Nat) : ∀ (i : Int) (l : List ByteArray), 0 ≤ i → i + d = (l.length : Int) → (l.length : Int) ≤ 4611686018427387904 → Ev (fun k => laws_eqStringS.l0 k l l i) true := by
  induction d with
  | zero =>
    intro i l h0 hd hl
    exact Ev.step (fun _ => laws_eqStringS.l0.eq_2 ..) (Ev.neg (by omega) (Ev.now _))
  | succ d ih =>
    intro i l h0 hd hl
    refine Ev.step (fun _ => laws_eqStringS.l0.eq_2 ..) (Ev.pos (by omega) (Ev.pos h0 (Ev.pos (by omega) (Ev.pos rfl ?_))))
    rw [w64 (n := i + 1) (by omega) (by omega)]
    exact ih (i + 1) l (by omega) (by omega) hl
theorem eqStringS_refl (l : List ByteArray) (hl : (l.length : Int) ≤ 4611686018427387904) : Ev (fun k => laws_eqStringS.f k l l) true := by
  unfold laws_eqStringS.f
  exact Ev.pos rfl (eqStringS_refl_l l.length 0 l (by omega) (by omega) hl)

theorem eqWriteS_l (d : Nat) : ∀ (i : Int) (l : List S93), 0 ≤ i → i + d = (l.length : Int) → (l.length : Int) ≤ 4611686018427387904 → Ev (fun k => laws_eqWriteS.l0 k l l i) true := by
  induction d with
  | zero =>
    intro i l h0 hd hl
    exact Ev.step (fun _ => laws_eqWriteS.l0.eq_2 ..) (Ev.neg (by omega) (Ev.now _))
  | succ d ih =>
    intro i l h0 hd hl
    refine Ev.step (fun _ => laws_eqWriteS.l0.eq_2 ..) (Ev.pos (by omega) (Ev.pos h0 (Ev.pos (by omega) (Ev.bind0 (a := true) (by unfold laws_eqWrite.f; simp) (Ev.pos rfl ?_)))))
    rw [w64 (n := i + 1) (by omega) (by omega)]
    exact ih (i + 1) l (by omega) (by omega) hl
theorem eqWriteS_f (l : List S93) (hl : (l.length : Int) ≤ 4611686018427387904) : Ev (fun k => laws_eqWriteS.f k l l) true := by
  unfold laws_eqWriteS.f
  exact Ev.pos rfl (eqWriteS_l l.length 0 l (by omega) (by omega) hl)

/-- What a disk's place as an argument gives. -/
def okDisk (a : List ByteArray) (b : List S96) : Prop := (a.length ≤ 9223372036854775807 ∧ ∀ s, s ∈ a → s.size ≤ 9223372036854775807) ∧ (b.length ≤ 9223372036854775807 ∧ ∀ x, x ∈ b → (Lit.int .i64 x.f0).wf = true ∧ x.f1.size ≤ 9223372036854775807)
/-- What is left of a disk's size, and what follows for its parts. -/
theorem szDisk_ex (a : List ByteArray) (b : List S96) (h : okDisk a b) (left : Int) (hl : 0 ≤ left) (hl' : left ≤ 1048576) :
    ∃ t, Ev (fun k => laws_szDisk.f k a b left) t ∧ (t < 0 ∨ 0 ≤ t ∧ t ≤ left ∧ a.length ≤ 1048576 ∧ b.length ≤ 1048576 ∧ (∀ s, s ∈ a → s.size ≤ 1048576) ∧ ∀ x, x ∈ b → x.f1.size ≤ 1048576) := by
  obtain ⟨t, h1, h2⟩ := szStringS_ex a h.1.1 h.1.2 left hl hl'
  unfold laws_szDisk.f
  by_cases ht : t < 0
  · exact ⟨-1, Ev.bind h1 (Ev.pos ht (Ev.now _)), by omega⟩
  · obtain ⟨h3, h4, h5, h6⟩ := h2.resolve_left ht
    obtain ⟨u, h7, h8⟩ := szWriteS_ex b h.2.1 (fun s hs => (h.2.2 s hs).2) t h3 (by omega)
    by_cases hu : u < 0
    · exact ⟨-1, Ev.bind h1 (Ev.neg ht (Ev.bind h7 (Ev.pos hu (Ev.now _)))), by omega⟩
    · obtain ⟨g3, g4, g5, g6⟩ := h8.resolve_left hu
      exact ⟨u, Ev.bind h1 (Ev.neg ht (Ev.bind h7 (Ev.neg hu (Ev.now _)))), Or.inr ⟨g3, by omega, by omega, by omega, fun s hs => by have := h6 s hs; omega, fun x hx => by have := g6 x hx; omega⟩⟩
theorem toDisk_f (a : List ByteArray) (b : List S96) (ha : a.length ≤ 1048576) (hb : b.length ≤ 1048576) : Ev (fun k => laws_toDisk.f k a b) (a, b.map wrTo) := by
  unfold laws_toDisk.f
  exact Ev.bind (toStringS_f a ha) (Ev.bind (toWriteS_f b hb) (Ev.now _))
theorem eqDisk_f (a : List ByteArray) (b : List S93) (ha : a.length ≤ 1048576) (hb : b.length ≤ 1048576) : Ev (fun k => laws_eqDisk.f k a b a b) true := by
  unfold laws_eqDisk.f
  exact Ev.bind (eqStringS_refl a (by omega)) (Ev.pos rfl (Ev.bind (eqWriteS_f b (by omega)) (Ev.pos rfl (Ev.now _))))

theorem spec_l02Texts_l (a b : List ByteArray) (ha : a.length ≤ 1048576) (hab : a.length = b.length) (l : List ByteArray) : ∀ (i : Int) (m : List ByteArray), 0 ≤ i → a.drop i.toNat = l → b.drop i.toNat = m → Ev (fun k => spec_l02Texts.l0 k b a (a.length : Int) i) (allEq strEq l m) := by
  induction l with
  | nil =>
    intro i m h0 h h'
    have h1 := ldrop_nil h0 h
    have hm : m = [] := by rw [← h']; exact List.drop_eq_nil_of_le (by omega)
    rw [hm]
    exact Ev.step (fun _ => spec_l02Texts.l0.eq_2 ..) (Ev.neg (by omega) (Ev.now _))
  | cons x l ih =>
    intro i m h0 h h'
    obtain ⟨p, q, c, e⟩ := ldrop_cons ByteArray.empty h0 h
    cases m with
    | nil =>
      have := ldrop_nil h0 h'
      omega
    | cons y m =>
      obtain ⟨p', q', c', e'⟩ := ldrop_cons ByteArray.empty h0 h'
      have this := ih (i + 1) m (by omega) c c'
      have hq : rdOf ByteArray.empty a i = x := q
      have hq' : rdOf ByteArray.empty b i = y := q'
      refine Ev.step (fun _ => spec_l02Texts.l0.eq_2 ..) (Ev.pos p (Ev.pos h0 (Ev.pos p (Ev.pos p' ?_))))
      rw [hq, hq', w64 (n := i + 1) (by omega) (by omega), allEq]
      by_cases hxy : x.toList = y.toList
      · rw [show strEq x y = true from decide_eq_true hxy, Bool.true_and]
        exact Ev.pos hxy this
      · rw [show strEq x y = false from decide_eq_false hxy, Bool.false_and]
        exact Ev.neg hxy (Ev.now _)
theorem spec_l02Texts_f (a b : List ByteArray) (ha : a.length ≤ 1048576) : Ev (fun k => spec_l02Texts.f k a b) (allEq strEq a b) := by
  unfold spec_l02Texts.f
  by_cases h : (a.length : Int) = (b.length : Int)
  · exact Ev.pos h (spec_l02Texts_l a b ha (by omega) a 0 b (by omega) rfl rfl)
  · rw [allEq_len a b (by omega)]
    exact Ev.neg h (Ev.now _)

def wrEq (x y : S93) : Bool := decide (x.f0 = y.f0 ∧ x.f1.toList = y.f1.toList)
theorem wrEq_refl (x : S93) : wrEq x x = true := decide_eq_true ⟨rfl, rfl⟩
theorem wrEq_cond (x y : S93) : ((!(x.f0 == y.f0) || !(x.f1.toList == y.f1.toList)) = true) ↔ ¬ (wrEq x y = true) := by
  unfold wrEq
  simp only [Bool.or_eq_true, Bool.not_eq_true', beq_eq_false_iff_ne, decide_eq_true_eq, ne_eq]
  by_cases h : x.f1.toList = y.f1.toList
  · simp [h]
  · simp [h]

theorem spec_l03Writes_l (a b : List S93) (ha : a.length ≤ 1048576) (hab : a.length = b.length) (l : List S93) : ∀ (i : Int) (m : List S93), 0 ≤ i → a.drop i.toNat = l → b.drop i.toNat = m → Ev (fun k => spec_l03Writes.l0 k b a (a.length : Int) i) (allEq wrEq l m) := by
  induction l with
  | nil =>
    intro i m h0 h h'
    have h1 := ldrop_nil h0 h
    have hm : m = [] := by rw [← h']; exact List.drop_eq_nil_of_le (by omega)
    rw [hm]
    exact Ev.step (fun _ => spec_l03Writes.l0.eq_2 ..) (Ev.neg (by omega) (Ev.now _))
  | cons x l ih =>
    intro i m h0 h h'
    obtain ⟨p, q, c, e⟩ := ldrop_cons z93 h0 h
    cases m with
    | nil =>
      have := ldrop_nil h0 h'
      omega
    | cons y m =>
      obtain ⟨p', q', c', e'⟩ := ldrop_cons z93 h0 h'
      have this := ih (i + 1) m (by omega) c c'
      have hq : rd_T93 a i = x := q
      have hq' : rd_T93 b i = y := q'
      refine Ev.step (fun _ => spec_l03Writes.l0.eq_2 ..) (Ev.pos p (Ev.pos h0 (Ev.pos p (Ev.pos p' ?_))))
      rw [hq, hq', w64 (n := i + 1) (by omega) (by omega), allEq]
      by_cases hxy : wrEq x y = true
      · rw [hxy, Bool.true_and]
        exact Ev.neg (fun h => (wrEq_cond x y).1 h hxy) this
      · rw [show wrEq x y = false by simpa using hxy, Bool.false_and]
        exact Ev.pos ((wrEq_cond x y).2 hxy) (Ev.now _)
theorem spec_l03Writes_f (a b : List S93) (ha : a.length ≤ 1048576) : Ev (fun k => spec_l03Writes.f k a b) (allEq wrEq a b) := by
  unfold spec_l03Writes.f
  by_cases h : (a.length : Int) = (b.length : Int)
  · exact Ev.pos h (spec_l03Writes_l a b ha (by omega) a 0 b (by omega) rfl rfl)
  · rw [allEq_len a b (by omega)]
    exact Ev.neg h (Ev.now _)

theorem slices_Equal_string_string_l (a b : List ByteArray) (ha : a.length ≤ 1048576) (hab : a.length = b.length) (l : List ByteArray) : ∀ (i : Int) (m : List ByteArray), 0 ≤ i → a.drop i.toNat = l → b.drop i.toNat = m → Ev (fun k => slices_Equal_string_string.l0 k a b (a.length : Int) i) (allEq strEq l m) := by
  induction l with
  | nil =>
    intro i m h0 h h'
    have h1 := ldrop_nil h0 h
    have hm : m = [] := by rw [← h']; exact List.drop_eq_nil_of_le (by omega)
    rw [hm]
    exact Ev.step (fun _ => slices_Equal_string_string.l0.eq_2 ..) (Ev.neg (by omega) (Ev.now _))
  | cons x l ih =>
    intro i m h0 h h'
    obtain ⟨p, q, c, e⟩ := ldrop_cons ByteArray.empty h0 h
    cases m with
    | nil =>
      have := ldrop_nil h0 h'
      omega
    | cons y m =>
      obtain ⟨p', q', c', e'⟩ := ldrop_cons ByteArray.empty h0 h'
      have this := ih (i + 1) m (by omega) c c'
      have hq : rdOf ByteArray.empty a i = x := q
      have hq' : rdOf ByteArray.empty b i = y := q'
      refine Ev.step (fun _ => slices_Equal_string_string.l0.eq_2 ..) (Ev.pos p (Ev.pos h0 (Ev.pos p (Ev.pos p' ?_))))
      rw [hq, hq', w64 (n := i + 1) (by omega) (by omega), allEq]
      by_cases hxy : x.toList = y.toList
      · rw [show strEq x y = true from decide_eq_true hxy, Bool.true_and]
        exact Ev.pos hxy this
      · rw [show strEq x y = false from decide_eq_false hxy, Bool.false_and]
        exact Ev.neg hxy (Ev.now _)
theorem slices_Equal_string_string_f (a b : List ByteArray) (ha : a.length ≤ 1048576) : Ev (fun k => slices_Equal_string_string.f k a b) (allEq strEq a b) := by
  unfold slices_Equal_string_string.f
  by_cases h : (a.length : Int) = (b.length : Int)
  · exact Ev.pos h (slices_Equal_string_string_l a b ha (by omega) a 0 b (by omega) rfl rfl)
  · rw [allEq_len a b (by omega)]
    exact Ev.neg h (Ev.now _)

theorem impl_Write_l (a b : List S93) (ha : a.length ≤ 1048576) (hab : a.length = b.length) (l : List S93) : ∀ (i : Int) (m : List S93), 0 ≤ i → a.drop i.toNat = l → b.drop i.toNat = m → Ev (fun k => impl_Write.l0 k a b (a.length : Int) i) (allEq wrEq l m) := by
  induction l with
  | nil =>
    intro i m h0 h h'
    have h1 := ldrop_nil h0 h
    have hm : m = [] := by rw [← h']; exact List.drop_eq_nil_of_le (by omega)
    rw [hm]
    exact Ev.step (fun _ => impl_Write.l0.eq_2 ..) (Ev.neg (by omega) (Ev.now _))
  | cons x l ih =>
    intro i m h0 h h'
    obtain ⟨p, q, c, e⟩ := ldrop_cons z93 h0 h
    cases m with
    | nil =>
      have := ldrop_nil h0 h'
      omega
    | cons y m =>
      obtain ⟨p', q', c', e'⟩ := ldrop_cons z93 h0 h'
      have this := ih (i + 1) m (by omega) c c'
      have hq : rd_T93 a i = x := q
      have hq' : rd_T93 b i = y := q'
      refine Ev.step (fun _ => impl_Write.l0.eq_2 ..) (Ev.pos p (Ev.pos h0 (Ev.pos p (Ev.pos p' ?_))))
      rw [hq, hq', w64 (n := i + 1) (by omega) (by omega), allEq]
      by_cases hxy : wrEq x y = true
      · rw [hxy, Bool.true_and]
        exact Ev.neg (fun h => (wrEq_cond x y).1 h hxy) this
      · rw [show wrEq x y = false by simpa using hxy, Bool.false_and]
        exact Ev.pos ((wrEq_cond x y).2 hxy) (Ev.now _)
theorem impl_Write_f (a b : List S93) (ha : a.length ≤ 1048576) : Ev (fun k => impl_Write.f k a b) (allEq wrEq a b) := by
  unfold impl_Write.f
  by_cases h : (a.length : Int) = (b.length : Int)
  · exact Ev.pos h (impl_Write_l a b ha (by omega) a 0 b (by omega) rfl rfl)
  · rw [allEq_len a b (by omega)]
    exact Ev.neg h (Ev.now _)

def sameDiskM (a : List ByteArray) (b : List S93) (c : List ByteArray) (d : List S93) : Bool := if allEq strEq a c = true then allEq wrEq b d else false
theorem sameDisk_spec (a : List ByteArray) (b : List S93) (c : List ByteArray) (d : List S93) (ha : a.length ≤ 1048576) (hb : b.length ≤ 1048576) : Ev (fun k => spec_SameDisk.f k a b c d) (sameDiskM a b c d) := by
  unfold spec_SameDisk.f sameDiskM
  refine Ev.bind (spec_l02Texts_f a c ha) ?_
  by_cases h : allEq strEq a c = true
  · rw [if_pos h]
    exact Ev.pos h (Ev.bind (spec_l03Writes_f b d hb) (Ev.now _))
  · rw [if_neg h]
    exact Ev.neg h (Ev.now _)
theorem sameDisk_impl (a : List ByteArray) (b : List S93) (c : List ByteArray) (d : List S93) (ha : a.length ≤ 1048576) (hb : b.length ≤ 1048576) : Ev (fun k => impl_SameDisk.f k a b c d) (sameDiskM a b c d) := by
  unfold impl_SameDisk.f sameDiskM
  refine Ev.bind (slices_Equal_string_string_f a c ha) ?_
  by_cases h : allEq strEq a c = true
  · rw [if_pos h]
    exact Ev.pos h (Ev.bind (impl_Write_f b d hb) (Ev.now _))
  · rw [if_neg h]
    exact Ev.neg h (Ev.now _)

theorem FnExactSameDisk (a : List ByteArray) (b : List S96) (c : List ByteArray) (d : List S96) (h : okDisk a b) (h' : okDisk c d) : ∃ k, laws_FnExactSameDisk.f k a b c d = some true := by
  obtain ⟨t, ht, hs⟩ := szDisk_ex a b h 1048576 (by omega) (by omega)
  apply Ev.rounds
  unfold laws_FnExactSameDisk.f
  refine Ev.bind ht ?_
  by_cases hn : t < 0
  · exact Ev.pos hn (Ev.now _)
  · obtain ⟨t0, t1, ha, hb, _⟩ := hs.resolve_left hn
    obtain ⟨u, hu, hv⟩ := szDisk_ex c d h' t t0 t1
    refine Ev.neg hn (Ev.bind hu ?_)
    by_cases hm : u < 0
    · exact Ev.pos hm (Ev.now _)
    · obtain ⟨_, _, hc, hd, _⟩ := hv.resolve_left hm
      have hbm : (b.map wrTo).length ≤ 1048576 := by rw [List.length_map]; exact hb
      have hdm : (d.map wrTo).length ≤ 1048576 := by rw [List.length_map]; exact hd
      have x := toDisk_f a b ha hb
      have y := toDisk_f c d hc hd
      exact Ev.neg hm (Ev.bind x (Ev.bind y (Ev.bind (sameDisk_spec a _ c _ ha hbm) (Ev.bind x (Ev.bind y (Ev.bind (sameDisk_impl a _ c _ ha hbm) (Ev.neg (by simp) (Ev.bind x (Ev.bind (eqDisk_f a _ ha hbm) (Ev.pos rfl (Ev.bind y (Ev.bind (eqDisk_f c _ hc hdm) (Ev.pos rfl (Ev.now _))))))))))))))

end Go.Proofs.Ytcafdolliedcaab.Pure
