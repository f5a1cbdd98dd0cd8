/- The law FnExactCrashDisk holds for every input of its kind; no further condition. -/
import Derived.Test.YtnfiapcemafmiaaPFnExactCrashDiskx7
import Derived.Test.YtnfiapcemafmiaaLibBase
import Derived.Test.YtnfiapcemafmiaaLibOpen
namespace Go.Proofs.Ytnfiapcemafmiaa.Pure
open Go.RowKit Go.Proofs.Ytnfiapcemafmiaa.PFnExactCrashDisk Go.Proofs.Ytnfiapcemafmiaa.Lib Go.Proofs.YtnfiapcemafmiaaW.PrintWords Go.Proofs.YtnfiapcemafmiaaW.PrintLast Go.Proofs.YtnfiapcemafmiaaW.PrintMore
set_option linter.unusedVariables false
set_option linter.unusedSimpArgs false

theorem szStringS_l (xs : List ByteArray) (hx : xs.length ≤ 1048576) (hs : ∀ s, s ∈ xs → s.size ≤ 9223372036854775807) (l : List ByteArray) : ∀ (i left : Int), 0 ≤ i → xs.drop i.toNat = l → 0 ≤ left → left ≤ 1048576 →
    ∃ t, Ev (fun k => laws_szStringS.l0 k xs left i) t ∧ (t < 0 ∨ 0 ≤ t ∧ t ≤ left ∧ ∀ s, s ∈ l → (s.size : Int) ≤ left) := by
  induction l with
  | nil =>
    intro i left h0 h hl hl'
    have := ldrop_nil h0 h
    exact ⟨left, Ev.step (fun _ => laws_szStringS.l0.eq_2 ..) (Ev.neg (by omega) (Ev.now _)), Or.inr ⟨hl, by omega, fun s h => by cases h⟩⟩
  | cons x l ih =>
    intro i left h0 h hl hl'
    obtain ⟨a, b, c, e⟩ := ldrop_cons ByteArray.empty h0 h
    have hxs : x.size ≤ 9223372036854775807 := hs x (by
      have : x ∈ xs.drop i.toNat := by rw [h]; exact List.mem_cons_self ..
      exact List.mem_of_mem_drop this)
    by_cases hneg : left - (x.size : Int) < 0
    · refine ⟨-1, Ev.step (fun _ => laws_szStringS.l0.eq_2 ..) (Ev.pos a (Ev.pos h0 ?_)), by omega⟩
      rw [b, w64 (n := left - (x.size : Int)) (by omega) (by omega)]
      exact Ev.pos hneg (Ev.now _)
    · obtain ⟨t, h1, h2⟩ := ih (i + 1) (left - (x.size : Int)) (by omega) c (by omega) (by omega)
      refine ⟨t, Ev.step (fun _ => laws_szStringS.l0.eq_2 ..) (Ev.pos a (Ev.pos h0 ?_)), ?_⟩
      · rw [b, w64 (n := left - (x.size : Int)) (by omega) (by omega), w64 (n := i + 1) (by omega) (by omega)]
        exact Ev.neg hneg h1
      · rcases h2 with h2 | ⟨h2, h3, h4⟩
        · exact Or.inl h2
        · refine Or.inr ⟨h2, by omega, fun s hs => ?_⟩
          rcases List.mem_cons.1 hs with hs | hs
          · subst hs
            omega
          · have := h4 s hs
            omega
theorem szStringS_ex (xs : List ByteArray) (hx : xs.length ≤ 9223372036854775807) (hs : ∀ s, s ∈ xs → s.size ≤ 9223372036854775807) (left : Int) (hl : 0 ≤ left) (hl' : left ≤ 1048576) :
    ∃ t, Ev (fun k => laws_szStringS.f k xs left) t ∧ (t < 0 ∨ 0 ≤ t ∧ t ≤ left ∧ (xs.length : Int) ≤ left ∧ ∀ s, s ∈ xs → (s.size : Int) ≤ left) := by
  unfold laws_szStringS.f
  rw [w64 (n := left - (xs.length : Int)) (by omega) (by omega)]
  by_cases hneg : left - (xs.length : Int) < 0
  · exact ⟨-1, Ev.pos hneg (Ev.now _), by omega⟩
  · obtain ⟨t, h1, h2⟩ := szStringS_l xs (by omega) hs xs 0 (left - (xs.length : Int)) (by omega) rfl (by omega) (by omega)
    refine ⟨t, Ev.neg hneg h1, ?_⟩
    rcases h2 with h2 | ⟨h2, h3, h4⟩
    · exact Or.inl h2
    · exact Or.inr ⟨h2, by omega, by omega, fun s hs => by have := h4 s hs; omega⟩

theorem szWriteS_l (xs : List S130) (hx : xs.length ≤ 1048576) (hs : ∀ s, s ∈ xs → s.f1.size ≤ 9223372036854775807) (l : List S130) : ∀ (i left : Int), 0 ≤ i → xs.drop i.toNat = l → 0 ≤ left → left ≤ 1048576 →
    ∃ t, Ev (fun k => laws_szWriteS.l0 k xs left i) t ∧ (t < 0 ∨ 0 ≤ t ∧ t ≤ left ∧ ∀ s, s ∈ l → (s.f1.size : Int) ≤ left) := by
  induction l with
  | nil =>
    intro i left h0 h hl hl'
    have := ldrop_nil h0 h
    exact ⟨left, Ev.step (fun _ => laws_szWriteS.l0.eq_2 ..) (Ev.neg (by omega) (Ev.now _)), Or.inr ⟨hl, by omega, fun s h => by cases h⟩⟩
  | cons x l ih =>
    intro i left h0 h hl hl'
    obtain ⟨a, b, c, e⟩ := ldrop_cons z130 h0 h
    have hb : rd_T130 xs i = x := b
    have hxs : x.f1.size ≤ 9223372036854775807 := hs x (by
      have : x ∈ xs.drop i.toNat := by rw [h]; exact List.mem_cons_self ..
      exact List.mem_of_mem_drop this)
    by_cases hneg : left - (x.f1.size : Int) < 0
    · refine ⟨-1, Ev.step (fun _ => laws_szWriteS.l0.eq_2 ..) (Ev.pos a (Ev.pos h0 ?_)), by omega⟩
      rw [hb]
      refine Ev.bind0 (a := -1) ?_ (Ev.pos (by decide) (Ev.now _))
      unfold laws_szWrite.f
      rw [w64 (n := left - (x.f1.size : Int)) (by omega) (by omega), if_pos hneg]
    · obtain ⟨t, h1, h2⟩ := ih (i + 1) (left - (x.f1.size : Int)) (by omega) c (by omega) (by omega)
      refine ⟨t, Ev.step (fun _ => laws_szWriteS.l0.eq_2 ..) (Ev.pos a (Ev.pos h0 ?_)), ?_⟩
      · rw [hb]
        refine Ev.bind0 (a := left - (x.f1.size : Int)) ?_ (Ev.neg hneg ?_)
        · unfold laws_szWrite.f
          rw [w64 (n := left - (x.f1.size : Int)) (by omega) (by omega), if_neg hneg]
        · rw [w64 (n := i + 1) (by omega) (by omega)]
          exact h1
      · rcases h2 with h2 | ⟨h2, h3, h4⟩
        · exact Or.inl h2
        · refine Or.inr ⟨h2, by omega, fun s hs => ?_⟩
          rcases List.mem_cons.1 hs with hs | hs
          · subst hs
            omega
          · have := h4 s hs
            omega
theorem szWriteS_ex (xs : List S130) (hx : xs.length ≤ 9223372036854775807) (hs : ∀ s, s ∈ xs → s.f1.size ≤ 9223372036854775807) (left : Int) (hl : 0 ≤ left) (hl' : left ≤ 1048576) :
    ∃ t, Ev (fun k => laws_szWriteS.f k xs left) t ∧ (t < 0 ∨ 0 ≤ t ∧ t ≤ left ∧ (xs.length : Int) ≤ left ∧ ∀ s, s ∈ xs → (s.f1.size : Int) ≤ left) := by
  unfold laws_szWriteS.f
  rw [w64 (n := left - (xs.length : Int)) (by omega) (by omega)]
  by_cases hneg : left - (xs.length : Int) < 0
  · exact ⟨-1, Ev.pos hneg (Ev.now _), by omega⟩
  · obtain ⟨t, h1, h2⟩ := szWriteS_l xs (by omega) hs xs 0 (left - (xs.length : Int)) (by omega) rfl (by omega) (by omega)
    refine ⟨t, Ev.neg hneg h1, ?_⟩
    rcases h2 with h2 | ⟨h2, h3, h4⟩
    · exact Or.inl h2
    · exact Or.inr ⟨h2, by omega, by omega, fun s hs => by have := h4 s hs; omega⟩

theorem toStringS_l (xs : List ByteArray) (hx : xs.length ≤ 1048576) (l : List ByteArray) : ∀ (i : Int) (ys : List ByteArray), 0 ≤ i → xs.drop i.toNat = l → ys.length = xs.length → Ev (fun k => laws_toStringS.l0 k xs ys i) (ys.take i.toNat ++ l) := by
  induction l with
  | nil =>
    intro i ys h0 h hy
    have := ldrop_nil h0 h
    rw [List.append_nil, List.take_of_length_le (by omega)]
    exact Ev.step (fun _ => laws_toStringS.l0.eq_2 ..) (Ev.neg (by omega) (Ev.now _))
  | cons x l ih =>
    intro i ys h0 h hy
    obtain ⟨a, b, c, e⟩ := ldrop_cons ByteArray.empty h0 h
    refine Ev.step (fun _ => laws_toStringS.l0.eq_2 ..) (Ev.pos a (Ev.pos h0 (Ev.pos (by omega) ?_)))
    have := ih (i + 1) (ys.set i.toNat x) (by omega) c (by rw [List.length_set]; exact hy)
    rw [set_take _ h0 (by omega), List.append_assoc] at this
    rw [w64 (by omega) (by omega), b]
    exact this
theorem toStringS_f (xs : List ByteArray) (hx : xs.length ≤ 1048576) : Ev (fun k => laws_toStringS.f k xs) xs := by
  unfold laws_toStringS.f
  exact Ev.pos (by omega) (Ev.pos (by omega) (toStringS_l xs hx xs 0 _ (by omega) rfl (by rw [List.length_replicate]; omega)))

def wrTo (x : S130) : S131 := ⟨x.f0, x.f1⟩
theorem toWriteS_l (xs : List S130) (hx : xs.length ≤ 1048576) (l : List S130) : ∀ (i : Int) (ys : List S131), 0 ≤ i → xs.drop i.toNat = l → ys.length = xs.length → Ev (fun k => laws_toWriteS.l0 k xs ys i) (ys.take i.toNat ++ l.map wrTo) := by
  induction l with
  | nil =>
    intro i ys h0 h hy
    have := ldrop_nil h0 h
    rw [List.map_nil, List.append_nil, List.take_of_length_le (by omega)]
    exact Ev.step (fun _ => laws_toWriteS.l0.eq_2 ..) (Ev.neg (by omega) (Ev.now _))
  | cons x l ih =>
    intro i ys h0 h hy
    obtain ⟨a, b, c, e⟩ := ldrop_cons z130 h0 h
    refine Ev.step (fun _ => laws_toWriteS.l0.eq_2 ..) (Ev.pos a (Ev.pos h0 (Ev.bind0 rfl (Ev.pos (by omega) ?_))))
    have := ih (i + 1) (ys.set i.toNat (wrTo x)) (by omega) c (by rw [List.length_set]; exact hy)
    rw [set_take _ h0 (by omega), List.append_assoc] at this
    rw [w64 (by omega) (by omega), show rd_T130 xs i = x from b]
    exact this
theorem toWriteS_f (xs : List S130) (hx : xs.length ≤ 1048576) : Ev (fun k => laws_toWriteS.f k xs) (xs.map wrTo) := by
  unfold laws_toWriteS.f
  exact Ev.pos (by omega) (Ev.pos (by omega) (toWriteS_l xs hx xs 0 _ (by omega) rfl (by rw [List.length_replicate]; omega)))

theorem eqStringS_refl_l (d : Nat) : ∀ (i : Int) (l : List ByteArray), 0 ≤ i → i + d = (l.length : Int) → (l.length : Int) ≤ 4611686018427387904 → Ev (fun k => laws_eqStringS.l0 k l l i) true := by
  induction d with
  | zero =>
    intro i l h0 hd hl
    exact Ev.step (fun _ => laws_eqStringS.l0.eq_2 ..) (Ev.neg (by omega) (Ev.now _))
  | succ d ih =>
    intro i l h0 hd hl
    refine Ev.step (fun _ => laws_eqStringS.l0.eq_2 ..) (Ev.pos (by omega) (Ev.pos h0 (Ev.pos (by omega) (Ev.pos rfl ?_))))
    rw [w64 (n := i + 1) (by omega) (by omega)]
    exact ih (i + 1) l (by omega) (by omega) hl
theorem eqStringS_refl (l : List ByteArray) (hl : (l.length : Int) ≤ 4611686018427387904) : Ev (fun k => laws_eqStringS.f k l l) true := by
  unfold laws_eqStringS.f
  exact Ev.pos rfl (eqStringS_refl_l l.length 0 l (by omega) (by omega) hl)

theorem eqWriteS_l (d : Nat) : ∀ (i : Int) (l : List S131), 0 ≤ i → i + d = (l.length : Int) → (l.length : Int) ≤ 4611686018427387904 → Ev (fun k => laws_eqWriteS.l0 k l l i) true := by
  induction d with
  | zero =>
    intro i l h0 hd hl
    exact Ev.step (fun _ => laws_eqWriteS.l0.eq_2 ..) (Ev.neg (by omega) (Ev.now _))
  | succ d ih =>
    intro i l h0 hd hl
    refine Ev.step (fun _ => laws_eqWriteS.l0.eq_2 ..) (Ev.pos (by omega) (Ev.pos h0 (Ev.pos (by omega) (Ev.bind0 (a := true) (by unfold laws_eqWrite.f; simp) (Ev.pos rfl ?_)))))
    rw [w64 (n := i + 1) (by omega) (by omega)]
    exact ih (i + 1) l (by omega) (by omega) hl
theorem eqWriteS_f (l : List S131) (hl : (l.length : Int) ≤ 4611686018427387904) : Ev (fun k => laws_eqWriteS.f k l l) true := by
  unfold laws_eqWriteS.f
  exact Ev.pos rfl (eqWriteS_l l.length 0 l (by omega) (by omega) hl)

/-- What a disk's place as an argument gives. -/
def okDisk (a : List ByteArray) (b : List S130) : Prop := (a.length ≤ 9223372036854775807 ∧ ∀ s, s ∈ a → s.size ≤ 9223372036854775807) ∧ (b.length ≤ 9223372036854775807 ∧ ∀ x, x ∈ b → (Lit.int .i64 x.f0).wf = true ∧ x.f1.size ≤ 9223372036854775807)
/-- What is left of a disk's size, and what follows for its parts. -/
theorem szDisk_ex (a : List ByteArray) (b : List S130) (h : okDisk a b) (left : Int) (hl : 0 ≤ left) (hl' : left ≤ 1048576) :
    ∃ t, Ev (fun k => laws_szDisk.f k a b left) t ∧ (t < 0 ∨ 0 ≤ t ∧ t ≤ left ∧ a.length ≤ 1048576 ∧ b.length ≤ 1048576 ∧ (∀ s, s ∈ a → s.size ≤ 1048576) ∧ ∀ x, x ∈ b → x.f1.size ≤ 1048576) := by
  obtain ⟨t, h1, h2⟩ := szStringS_ex a h.1.1 h.1.2 left hl hl'
  unfold laws_szDisk.f
  by_cases ht : t < 0
  · exact ⟨-1, Ev.bind h1 (Ev.pos ht (Ev.now _)), by omega⟩
  · obtain ⟨h3, h4, h5, h6⟩ := h2.resolve_left ht
    obtain ⟨u, h7, h8⟩ := szWriteS_ex b h.2.1 (fun s hs => (h.2.2 s hs).2) t h3 (by omega)
    by_cases hu : u < 0
    · exact ⟨-1, Ev.bind h1 (Ev.neg ht (Ev.bind h7 (Ev.pos hu (Ev.now _)))), by omega⟩
    · obtain ⟨g3, g4, g5, g6⟩ := h8.resolve_left hu
      exact ⟨u, Ev.bind h1 (Ev.neg ht (Ev.bind h7 (Ev.neg hu (Ev.now _)))), Or.inr ⟨g3, by omega, by omega, by omega, fun s hs => by have := h6 s hs; omega, fun x hx => by have := g6 x hx; omega⟩⟩
theorem toDisk_f (a : List ByteArray) (b : List S130) (ha : a.length ≤ 1048576) (hb : b.length ≤ 1048576) : Ev (fun k => laws_toDisk.f k a b) (a, b.map wrTo) := by
  unfold laws_toDisk.f
  exact Ev.bind (toStringS_f a ha) (Ev.bind (toWriteS_f b hb) (Ev.now _))
theorem eqDisk_f (a : List ByteArray) (b : List S131) (ha : a.length ≤ 1048576) (hb : b.length ≤ 1048576) : Ev (fun k => laws_eqDisk.f k a b a b) true := by
  unfold laws_eqDisk.f
  exact Ev.bind (eqStringS_refl a (by omega)) (Ev.pos rfl (Ev.bind (eqWriteS_f b (by omega)) (Ev.pos rfl (Ev.now _))))

theorem l01In_spec (a b c : Int) : spec_l01In.f a b c = some (decide (b ≤ a ∧ a ≤ c)) := by
  unfold spec_l01In.f
  by_cases h : a ≥ b
  · rw [if_pos h]
    simp [show b ≤ a from h]
  · rw [if_neg h]
    simp [show ¬ b ≤ a from h]

def pendM (n : Int) (x : S131) : Bool := decide (0 ≤ x.f0 ∧ x.f0 < n ∧ x.f1.size = 32)
def isDiskM (a : List ByteArray) (b : List S131) : Bool := decide (a.length ≤ 400 ∧ b.length ≤ 400) && (a.all (fun s => decide (s.size = 32)) && b.all (pendM (a.length : Int)))
theorem isDisk_spec_1 (a : List ByteArray) (b : List S131) (ha : a.length ≤ 1048576) (hb : b.length ≤ 1048576) (l : List S131) : ∀ (i : Int), 0 ≤ i → b.drop i.toNat = l →
    Ev (fun k => spec_IsDisk.l1 k b (b.length : Int) i a b) (l.all (pendM (a.length : Int)) && decide (a.length ≤ 400 ∧ b.length ≤ 400)) := by
  induction l with
  | nil =>
    intro i h0 h
    have := ldrop_nil h0 h
    refine Ev.step (fun _ => spec_IsDisk.l1.eq_2 ..) (Ev.neg (by omega) ?_)
    rw [List.all_nil, Bool.true_and]
    by_cases h4 : (a.length : Int) ≤ 400
    · refine Ev.pos h4 ?_
      rw [show decide (a.length ≤ 400 ∧ b.length ≤ 400) = decide ((b.length : Int) ≤ 400) by apply decide_eq_decide.2; omega]
      exact Ev.now _
    · refine Ev.neg h4 ?_
      rw [show decide (a.length ≤ 400 ∧ b.length ≤ 400) = false by apply decide_eq_false; omega]
      exact Ev.now _
  | cons x l ih =>
    intro i h0 h
    obtain ⟨p, q, c, e⟩ := ldrop_cons z131 h0 h
    have hq : rd_T131 b i = x := q
    have := ih (i + 1) (by omega) c
    refine Ev.step (fun _ => spec_IsDisk.l1.eq_2 ..) (Ev.pos p (Ev.pos h0 (Ev.pos p ?_)))
    rw [hq, w64 (n := (a.length : Int) - 1) (by omega) (by omega), w64 (n := i + 1) (by omega) (by omega), List.all_cons]
    refine Ev.bind0 (l01In_spec _ _ _) ?_
    by_cases c1 : 0 ≤ x.f0 ∧ x.f0 ≤ (a.length : Int) - 1
    · refine Ev.pos (by simpa using c1) ?_
      by_cases c2 : (x.f1.size : Int) = 32
      · rw [show pendM (a.length : Int) x = true by unfold pendM; apply decide_eq_true; omega, Bool.true_and]
        exact Ev.pos c2 this
      · rw [show pendM (a.length : Int) x = false by unfold pendM; apply decide_eq_false; omega]
        exact Ev.neg c2 (Ev.now _)
    · rw [show pendM (a.length : Int) x = false by unfold pendM; apply decide_eq_false; omega]
      exact Ev.neg (by simpa using c1) (Ev.now _)
theorem isDisk_spec_0 (a : List ByteArray) (b : List S131) (ha : a.length ≤ 1048576) (hb : b.length ≤ 1048576) (l : List ByteArray) : ∀ (i : Int), 0 ≤ i → a.drop i.toNat = l →
    Ev (fun k => spec_IsDisk.l0 k a (a.length : Int) i a b) (l.all (fun s => decide (s.size = 32)) && (b.all (pendM (a.length : Int)) && decide (a.length ≤ 400 ∧ b.length ≤ 400))) := by
  induction l with
  | nil =>
    intro i h0 h
    have := ldrop_nil h0 h
    refine Ev.step (fun _ => spec_IsDisk.l0.eq_2 ..) (Ev.neg (by omega) ?_)
    rw [List.all_nil, Bool.true_and]
    exact isDisk_spec_1 a b ha hb b 0 (by omega) rfl
  | cons x l ih =>
    intro i h0 h
    obtain ⟨p, q, c, e⟩ := ldrop_cons ByteArray.empty h0 h
    have := ih (i + 1) (by omega) c
    refine Ev.step (fun _ => spec_IsDisk.l0.eq_2 ..) (Ev.pos p (Ev.pos h0 (Ev.pos p ?_)))
    rw [q, w64 (n := i + 1) (by omega) (by omega), List.all_cons]
    by_cases c2 : (x.size : Int) = 32
    · rw [show decide (x.size = 32) = true by apply decide_eq_true; omega, Bool.true_and]
      exact Ev.pos c2 this
    · rw [show decide (x.size = 32) = false by apply decide_eq_false; omega]
      exact Ev.neg c2 (Ev.now _)
theorem isDisk_spec (a : List ByteArray) (b : List S131) (ha : a.length ≤ 1048576) (hb : b.length ≤ 1048576) : Ev (fun k => spec_IsDisk.f k a b) (isDiskM a b) := by
  have := isDisk_spec_0 a b ha hb a 0 (by omega) rfl
  unfold isDiskM
  rw [Bool.and_comm, Bool.and_assoc]
  exact this
theorem isDisk_impl_1 (a : List ByteArray) (b : List S131) (ha : a.length ≤ 1048576) (hb : b.length ≤ 1048576) (l : List S131) : ∀ (i : Int), 0 ≤ i → b.drop i.toNat = l →
    Ev (fun k => impl_IsDisk.l1 k b (b.length : Int) i a b) (l.all (pendM (a.length : Int))) := by
  induction l with
  | nil =>
    intro i h0 h
    have := ldrop_nil h0 h
    exact Ev.step (fun _ => impl_IsDisk.l1.eq_2 ..) (Ev.neg (by omega) (Ev.now _))
  | cons x l ih =>
    intro i h0 h
    obtain ⟨p, q, c, e⟩ := ldrop_cons z131 h0 h
    have hq : rd_T131 b i = x := q
    have := ih (i + 1) (by omega) c
    refine Ev.step (fun _ => impl_IsDisk.l1.eq_2 ..) (Ev.pos p (Ev.pos h0 (Ev.pos p ?_)))
    rw [hq, w64 (n := i + 1) (by omega) (by omega), List.all_cons]
    by_cases c1 : x.f0 < 0
    · rw [show pendM (a.length : Int) x = false by unfold pendM; apply decide_eq_false; omega]
      exact Ev.pos c1 (Ev.now _)
    · refine Ev.neg c1 ?_
      by_cases c3 : x.f0 ≥ (a.length : Int)
      · rw [show pendM (a.length : Int) x = false by unfold pendM; apply decide_eq_false; omega]
        exact Ev.pos c3 (Ev.now _)
      · refine Ev.neg c3 ?_
        by_cases c2 : (x.f1.size : Int) = 32
        · rw [show pendM (a.length : Int) x = true by unfold pendM; apply decide_eq_true; omega, Bool.true_and]
          exact Ev.pos c2 this
        · rw [show pendM (a.length : Int) x = false by unfold pendM; apply decide_eq_false; omega]
          exact Ev.neg c2 (Ev.now _)
theorem isDisk_impl_0 (a : List ByteArray) (b : List S131) (ha : a.length ≤ 1048576) (hb : b.length ≤ 1048576) (l : List ByteArray) : ∀ (i : Int), 0 ≤ i → a.drop i.toNat = l →
    Ev (fun k => impl_IsDisk.l0 k a (a.length : Int) i a b) (l.all (fun s => decide (s.size = 32)) && b.all (pendM (a.length : Int))) := by
  induction l with
  | nil =>
    intro i h0 h
    have := ldrop_nil h0 h
    refine Ev.step (fun _ => impl_IsDisk.l0.eq_2 ..) (Ev.neg (by omega) ?_)
    rw [List.all_nil, Bool.true_and]
    exact isDisk_impl_1 a b ha hb b 0 (by omega) rfl
  | cons x l ih =>
    intro i h0 h
    obtain ⟨p, q, c, e⟩ := ldrop_cons ByteArray.empty h0 h
    have := ih (i + 1) (by omega) c
    refine Ev.step (fun _ => impl_IsDisk.l0.eq_2 ..) (Ev.pos p (Ev.pos h0 (Ev.pos p ?_)))
    rw [q, w64 (n := i + 1) (by omega) (by omega), List.all_cons]
    by_cases c2 : (x.size : Int) = 32
    · rw [show decide (x.size = 32) = true by apply decide_eq_true; omega, Bool.true_and]
      exact Ev.pos c2 this
    · rw [show decide (x.size = 32) = false by apply decide_eq_false; omega]
      exact Ev.neg c2 (Ev.now _)
theorem isDisk_impl (a : List ByteArray) (b : List S131) (ha : a.length ≤ 1048576) (hb : b.length ≤ 1048576) : Ev (fun k => impl_IsDisk.f k a b) (isDiskM a b) := by
  unfold impl_IsDisk.f isDiskM
  by_cases h1 : (a.length : Int) > 400
  · rw [show decide (a.length ≤ 400 ∧ b.length ≤ 400) = false by apply decide_eq_false; omega, Bool.false_and]
    exact Ev.pos h1 (Ev.step (fun _ => impl_IsDisk.j0.eq_2 ..) (Ev.pos rfl (Ev.now _)))
  · refine Ev.neg h1 (Ev.step (fun _ => impl_IsDisk.j0.eq_2 ..) ?_)
    by_cases h2 : (b.length : Int) > 400
    · rw [show decide (a.length ≤ 400 ∧ b.length ≤ 400) = false by apply decide_eq_false; omega, Bool.false_and]
      exact Ev.pos (by simpa using h2) (Ev.now _)
    · rw [show decide (a.length ≤ 400 ∧ b.length ≤ 400) = true by apply decide_eq_true; omega, Bool.true_and]
      exact Ev.neg (by simpa using h2) (isDisk_impl_0 a b ha hb a 0 (by omega) rfl)

theorem markText_l (d : Nat) : ∀ (n : Int) (t : ByteArray), n.toNat ≤ d → (t.size : Int) + n ≤ 4611686018427387904 → t.size ≤ 4611686018427387904 → ∃ r, Ev (fun k => laws_markText.l0 k n t) r := by
  induction d with
  | zero =>
    intro n t hd h1 h2
    exact ⟨_, Ev.step (fun _ => laws_markText.l0.eq_2 ..) (Ev.neg (by omega) (Ev.pos (by omega) (Ev.now _)))⟩
  | succ d ih =>
    intro n t hd h1 h2
    by_cases hn : n > 0
    · have e : Int.tdiv n 10 = n / 10 := Int.tdiv_eq_ediv_of_nonneg (by omega)
      obtain ⟨r, hr⟩ := ih (n / 10) (strOfNums [wrap64 (48 + Int.tmod n 10) % 256] ++ t) (by omega) (by rw [ba_size_append, strOfNums_size, List.length_singleton]; omega) (by rw [ba_size_append, strOfNums_size, List.length_singleton]; omega)
      refine ⟨r, Ev.step (fun _ => laws_markText.l0.eq_2 ..) (Ev.pos hn (Ev.bind0 rfl (Ev.pos ?_ ?_)))⟩
      · rw [strOfNums_size, List.length_singleton]
        omega
      · rw [e, w64 (n := n / 10) (by omega) (by omega)]
        exact hr
    · exact ⟨_, Ev.step (fun _ => laws_markText.l0.eq_2 ..) (Ev.neg (by omega) (Ev.pos (by omega) (Ev.now _)))⟩
theorem markText_ex (n : Int) (h : n ≤ 1152921504606846976) : ∃ r, Ev (fun k => laws_markText.f k n) r := by
  unfold laws_markText.f
  by_cases hn : n ≤ 0
  · exact ⟨_, Ev.pos hn (Ev.now _)⟩
  · obtain ⟨r, hr⟩ := markText_l n.toNat n ⟨#[]⟩ (by omega) (by have : (⟨#[]⟩ : ByteArray).size = 0 := rfl; omega) (by have : (⟨#[]⟩ : ByteArray).size = 0 := rfl; omega)
    exact ⟨r, Ev.neg hn hr⟩

theorem markStringS_l (d : Nat) : ∀ (i k : Int) (l : List ByteArray), 0 ≤ i → i + d = (l.length : Int) → 0 ≤ k → k + d ≤ 1152921504606846976 → (l.length : Int) ≤ 1152921504606846976 →
    ∃ l', Ev (fun n => laws_markStringS.l0 n l k i) (k + d, l') ∧ l'.length = l.length ∧ (∀ j : Nat, (j : Int) < i → l'[j]? = l[j]?) ∧ Ev (fun n => laws_heldStringS.l0 n l' k i) (k + d) := by
  induction d with
  | zero =>
    intro i k l h0 hd hk hk' hl
    refine ⟨l, ?_, rfl, fun _ _ => rfl, ?_⟩
    · rw [show k + ((0 : Nat) : Int) = k by omega]
      exact Ev.step (fun _ => laws_markStringS.l0.eq_2 ..) (Ev.neg (by omega) (Ev.now _))
    · rw [show k + ((0 : Nat) : Int) = k by omega]
      exact Ev.step (fun _ => laws_heldStringS.l0.eq_2 ..) (Ev.neg (by omega) (Ev.now _))
  | succ d ih =>
    intro i k l h0 hd hk hk' hl
    obtain ⟨t, ht⟩ := markText_ex k (by omega)
    obtain ⟨l', h1, h2, h3, h4⟩ := ih (i + 1) (k + 1) (l.set i.toNat t) (by omega) (by rw [List.length_set]; omega) (by omega) (by omega) (by rw [List.length_set]; omega)
    rw [List.length_set] at h2
    rw [show k + 1 + (d : Int) = k + ((d + 1 : Nat) : Int) by omega] at h1 h4
    refine ⟨l', ?_, h2, ?_, ?_⟩
    · refine Ev.step (fun _ => laws_markStringS.l0.eq_2 ..) (Ev.pos (by omega) (Ev.bind ht (Ev.pos h0 ?_)))
      rw [w64 (n := k + 1) (by omega) (by omega), w64 (n := i + 1) (by omega) (by omega)]
      exact h1
    · intro j hj
      rw [h3 j (by omega), List.getElem?_set_ne (by omega)]
    · refine Ev.step (fun _ => laws_heldStringS.l0.eq_2 ..) (Ev.pos (by omega) (Ev.pos h0 (Ev.bind ht (Ev.pos ?_ ?_))))
      · have := h3 i.toNat (by omega)
        rw [List.getElem?_set_self (by omega)] at this
        unfold rdOf
        rw [List.getD_eq_getElem?_getD, this]
        rfl
      · rw [w64 (n := k + 1) (by omega) (by omega), w64 (n := i + 1) (by omega) (by omega)]
        exact h4
theorem markStringS_ex (l : List ByteArray) (k : Int) (hk : 0 ≤ k) (h : k + (l.length : Int) ≤ 1152921504606846976) :
    ∃ m l', Ev (fun n => laws_markStringS.f n l k) (m, l') ∧ Ev (fun n => laws_heldStringS.f n l' k) m ∧ 0 ≤ m ∧ m = k + (l.length : Int) ∧ l'.length = l.length := by
  obtain ⟨l', h1, h2, _, h4⟩ := markStringS_l l.length 0 k l (by omega) (by omega) hk h (by omega)
  exact ⟨_, l', h1, h4, by omega, rfl, h2⟩

theorem rdWrite_set (l : List S131) (i : Int) (v : S131) (h0 : 0 ≤ i) (h : i < (l.length : Int)) : rd_T131 (l.set i.toNat v) i = v := by
  show rdOf z131 (l.set i.toNat v) i = v
  unfold rdOf
  rw [List.getD_eq_getElem?_getD, List.getElem?_set_self (by omega)]
  rfl
theorem markWriteS_l (d : Nat) : ∀ (i k : Int) (l : List S131), 0 ≤ i → i + d = (l.length : Int) → 0 ≤ k → k + 2 * d ≤ 1152921504606846976 → (l.length : Int) ≤ 1152921504606846976 →
    ∃ l', Ev (fun n => laws_markWriteS.l0 n l k i) (k + 2 * d, l') ∧ l'.length = l.length ∧ (∀ j : Nat, (j : Int) < i → l'[j]? = l[j]?) ∧ Ev (fun n => laws_heldWriteS.l0 n l' k i) (k + 2 * d) := by
  induction d with
  | zero =>
    intro i k l h0 hd hk hk' hl
    refine ⟨l, ?_, rfl, fun _ _ => rfl, ?_⟩
    · rw [show k + 2 * ((0 : Nat) : Int) = k by omega]
      exact Ev.step (fun _ => laws_markWriteS.l0.eq_2 ..) (Ev.neg (by omega) (Ev.now _))
    · rw [show k + 2 * ((0 : Nat) : Int) = k by omega]
      exact Ev.step (fun _ => laws_heldWriteS.l0.eq_2 ..) (Ev.neg (by omega) (Ev.now _))
  | succ d ih =>
    intro i k l h0 hd hk hk' hl
    obtain ⟨t, ht⟩ := markText_ex (k + 1) (by omega)
    obtain ⟨l', h1, h2, h3, h4⟩ := ih (i + 1) (k + 1 + 1) (l.set i.toNat ⟨k, t⟩) (by omega) (by rw [List.length_set]; omega) (by omega) (by omega) (by rw [List.length_set]; omega)
    rw [show k + 1 + 1 + 2 * (d : Int) = k + 2 * ((d + 1 : Nat) : Int) by omega] at h1 h4
    rw [List.length_set] at h2
    refine ⟨l', Ev.step (fun _ => laws_markWriteS.l0.eq_2 ..) (Ev.pos (by omega) (Ev.pos h0 (Ev.bind0 rfl ?_))), h2, ?_, ?_⟩
    · rw [w64 (n := k + 1) (by omega) (by omega), w64 (n := k + 1 + 1) (by omega) (by omega), w64 (n := i + 1) (by omega) (by omega)]
      refine Ev.bind ht ?_
      rw [rdWrite_set _ _ _ h0 (by omega), List.set_set]
      exact h1
    · intro j hj
      rw [h3 j (by omega), List.getElem?_set_ne (by omega)]
    · have e : rd_T131 l' i = ⟨k, t⟩ := by
        have h' := h3 i.toNat (by omega)
        rw [List.getElem?_set_self (by omega)] at h'
        show rdOf z131 l' i = _
        unfold rdOf
        rw [List.getD_eq_getElem?_getD, h']
        rfl
      refine Ev.step (fun _ => laws_heldWriteS.l0.eq_2 ..) (Ev.pos (by omega) (Ev.pos h0 ?_))
      rw [e]
      simp only []
      rw [w64 (n := k + 1) (by omega) (by omega), w64 (n := k + 1 + 1) (by omega) (by omega), w64 (n := i + 1) (by omega) (by omega)]
      exact Ev.pos (by trivial) (Ev.bind ht (Ev.pos (by trivial) h4))
theorem markWriteS_ex (l : List S131) (k : Int) (hk : 0 ≤ k) (h : k + 2 * (l.length : Int) ≤ 1152921504606846976) :
    ∃ l', Ev (fun n => laws_markWriteS.f n l k) (k + 2 * (l.length : Int), l') ∧ l'.length = l.length ∧ Ev (fun n => laws_heldWriteS.f n l' k) (k + 2 * (l.length : Int)) := by
  obtain ⟨l', h1, h2, _, h4⟩ := markWriteS_l l.length 0 k l (by omega) (by omega) hk h (by omega)
  exact ⟨l', h1, h2, h4⟩

/-- The writes for which p holds, stored in order. -/
def stM (p : Int → Bool) : List S131 → Int → List ByteArray → Option (List ByteArray)
  | [], _, L => some L
  | x :: l, k, L => if p k = true then (if 0 ≤ x.f0 ∧ x.f0 < (L.length : Int) then stM p l (k + 1) (L.set x.f0.toNat x.f1) else none) else stM p l (k + 1) L
theorem stM_some (p : Int → Bool) (n : Nat) : ∀ (X : List S131) (k : Int) (L : List ByteArray), L.length = n → (∀ x, x ∈ X → 0 ≤ x.f0 ∧ x.f0 < (n : Int)) → ∃ M, stM p X k L = some M ∧ M.length = n := by
  intro X
  induction X with
  | nil => exact fun k L hL _ => ⟨L, rfl, hL⟩
  | cons x l ih =>
    intro k L hL hX
    have hx := hX x (List.mem_cons_self ..)
    have hl : ∀ y, y ∈ l → 0 ≤ y.f0 ∧ y.f0 < (n : Int) := fun y hy => hX y (List.mem_cons_of_mem _ hy)
    unfold stM
    by_cases hp : p k = true
    · rw [if_pos hp, if_pos (by omega)]
      exact ih (k + 1) _ (by rw [List.length_set]; exact hL) hl
    · rw [if_neg hp]
      exact ih (k + 1) L hL hl
theorem isDiskM_in {a : List ByteArray} {b : List S131} (h : isDiskM a b = true) : ∀ x, x ∈ b → 0 ≤ x.f0 ∧ x.f0 < (a.length : Int) := by
  unfold isDiskM at h
  simp only [Bool.and_eq_true, List.all_eq_true] at h
  intro x hx
  have := h.2.2 x hx
  unfold pendM at this
  have := of_decide_eq_true this
  exact ⟨this.1, this.2.1⟩
theorem l03Store_l (F : List Bool) (all : Bool) (p : Int → Bool) (hp : ∀ i : Int, 0 ≤ i → p i = (all || (decide (i < (F.length : Int)) && rdOf false F i))) (X : List S131) (hX : X.length ≤ 1048576) (hF : F.length ≤ 1048576) (M : List ByteArray) (l : List S131) :
    ∀ (i : Int) (L : List ByteArray), 0 ≤ i → X.drop i.toNat = l → stM p l i L = some M → Ev (fun k => spec_l03Store.l0 k F all X (X.length : Int) i L) (M, []) := by
  induction l with
  | nil =>
    intro i L h0 h hs
    have := ldrop_nil h0 h
    obtain rfl := Option.some.inj hs
    exact Ev.step (fun _ => spec_l03Store.l0.eq_2 ..) (Ev.neg (by omega) (Ev.now _))
  | cons x l ih =>
    intro i L h0 h hs
    obtain ⟨q1, q2, q3, q4⟩ := ldrop_cons z131 h0 h
    have hq : rd_T131 X i = x := q2
    have hw : wrap64 (i + 1) = i + 1 := w64 (by omega) (by omega)
    refine Ev.step (fun _ => spec_l03Store.l0.eq_2 ..) (Ev.pos q1 (Ev.pos h0 (Ev.pos q1 ?_)))
    unfold stM at hs
    have hpi := hp i h0
    rw [hq, hw]
    by_cases ha : all = true
    · refine Ev.pos ha ?_
      rw [if_pos (by rw [hpi, ha]; rfl)] at hs
      by_cases hx : 0 ≤ x.f0 ∧ x.f0 < (L.length : Int)
      · rw [if_pos hx] at hs
        exact Ev.pos hx.1 (Ev.pos hx.2 (ih (i + 1) _ (by omega) q3 hs))
      · rw [if_neg hx] at hs
        cases hs
    · refine Ev.neg ha ?_
      have ha' : all = false := by simpa using ha
      rw [ha', Bool.false_or] at hpi
      by_cases hk : i < (F.length : Int)
      · refine Ev.pos hk ?_
        rw [decide_eq_true hk, Bool.true_and] at hpi
        by_cases hr : rdOf false F i = true
        · refine Ev.pos hr ?_
          rw [if_pos (by rw [hpi]; exact hr)] at hs
          by_cases hx : 0 ≤ x.f0 ∧ x.f0 < (L.length : Int)
          · rw [if_pos hx] at hs
            exact Ev.pos hx.1 (Ev.pos hx.2 (ih (i + 1) _ (by omega) q3 hs))
          · rw [if_neg hx] at hs
            cases hs
        · refine Ev.neg hr ?_
          rw [if_neg (by rw [hpi]; exact hr)] at hs
          exact ih (i + 1) _ (by omega) q3 hs
      · refine Ev.neg hk ?_
        rw [decide_eq_false hk, Bool.false_and] at hpi
        rw [if_neg (by rw [hpi]; decide)] at hs
        exact ih (i + 1) _ (by omega) q3 hs
theorem l03Store_f (F : List Bool) (all : Bool) (p : Int → Bool) (hp : ∀ i : Int, 0 ≤ i → p i = (all || (decide (i < (F.length : Int)) && rdOf false F i))) (a M : List ByteArray) (b : List S131) (ha : a.length ≤ 1048576) (hb : b.length ≤ 1048576) (hF : F.length ≤ 1048576) (h : stM p b 0 a = some M) :
    Ev (fun k => spec_l03Store.f k a b F all) (M, []) := by
  unfold spec_l03Store.f
  simp only [Option.bind_some, List.length_nil, Nat.zero_add, List.nil_append]
  exact Ev.pos (by omega) (l03Store_l F all p hp b hb hF M b 0 a (by omega) rfl h)
theorem l03Copy_f (a : List ByteArray) (b : List S131) (ha : a.length ≤ 1048576) (hb : b.length ≤ 1048576) : spec_l03Copy.f a b = some (a, b) := by
  unfold spec_l03Copy.f
  simp only [Option.bind_some, List.length_nil, Nat.zero_add, List.nil_append]
  rw [if_pos (by omega), if_pos (by omega)]
theorem copyDisk_f (a : List ByteArray) (b : List S131) (ha : a.length ≤ 1048576) (hb : b.length ≤ 1048576) : impl_copyDisk.f a b = some (a, b) := by
  have h1 : slices_Clone_string_string.f a = some a := by
    unfold slices_Clone_string_string.f
    simp only [Option.bind_some, List.length_nil, Nat.zero_add, List.nil_append]
    rw [if_pos (by omega)]
  have h2 : impl_Write.f b = some b := by
    unfold impl_Write.f
    simp only [Option.bind_some, List.length_nil, Nat.zero_add, List.nil_append]
    rw [if_pos (by omega)]
  unfold impl_copyDisk.f
  rw [h1, Option.bind_some, h2, Option.bind_some]
/-- A disk's marks, and that they are held. -/
theorem marksDisk (a : List ByteArray) (b : List S131) (ha : a.length ≤ 1048576) (hb : b.length ≤ 1048576) : ∃ m l1 l2, Ev (fun k => laws_markDisk.f k a b 1) (m, l1, l2) ∧ Ev (fun k => laws_heldDisk.f k l1 l2 1) m ∧ 0 ≤ m ∧ m ≤ 1073741824 := by
  obtain ⟨m, l', g1, g2, g3, g4, g5⟩ := markStringS_ex a 1 (by omega) (by omega)
  obtain ⟨l2, f1, f2, f3⟩ := markWriteS_ex b m (by omega) (by omega)
  refine ⟨m + 2 * (b.length : Int), l', l2, ?_, ?_, by omega, by omega⟩
  rotate_left
  · unfold laws_heldDisk.f
    exact Ev.bind g2 (Ev.neg (by omega) (Ev.bind f3 (Ev.neg (by omega) (Ev.now _))))
  · unfold laws_markDisk.f
    exact Ev.bind g1 (Ev.bind f1 (Ev.now _))

theorem keep_crash (p : Int → Bool) : ∀ (X : List S131) (k : Int) (L : List ByteArray), impl_CrashDisk.keep_st p X k L = stM p X k L := by
  intro X
  induction X with
  | nil => exact fun _ _ => rfl
  | cons x l ih =>
    intro k L
    unfold impl_CrashDisk.keep_st stM
    simp only [ih]
theorem crash_both (a : List ByteArray) (b : List S131) (F : List Bool) (ha : a.length ≤ 1048576) (hb : b.length ≤ 1048576) (hF : F.length ≤ 1048576) : ∃ M N, M.length ≤ 1048576 ∧ N.length ≤ 1048576 ∧ Ev (fun k => spec_CrashDisk.f k a b F) (M, N) ∧ Ev (fun k => impl_CrashDisk.f k a b F) (M, N) := by
  unfold spec_CrashDisk.f impl_CrashDisk.f
  cases h : isDiskM a b with
  | true =>
    obtain ⟨M, hM, hl⟩ := stM_some (fun i => decide (i < (F.length : Int)) && rdOf false F i) a.length b 0 a rfl (isDiskM_in h)
    have s := isDisk_spec a b ha hb
    have i := isDisk_impl a b ha hb
    rw [h] at s i
    refine ⟨M, [], by omega, by simp, Ev.bind s (Ev.pos rfl (Ev.bind (l03Store_f F false _ (fun _ _ => (Bool.false_or _).symm) a M b ha hb hF hM) (Ev.now _))), Ev.bind0 (copyDisk_f a b ha hb) (Ev.bind i (Ev.pos rfl (Ev.bind0 (a := M) ?_ (Ev.now _))))⟩
    rw [keep_crash]
    exact hM
  | false =>
    have s := isDisk_spec a b ha hb
    have i := isDisk_impl a b ha hb
    rw [h] at s i
    exact ⟨a, b, ha, hb, Ev.bind s (Ev.neg (by decide) (Ev.bind0 (l03Copy_f a b ha hb) (Ev.now _))), Ev.bind0 (copyDisk_f a b ha hb) (Ev.bind i (Ev.neg (by decide) (Ev.now _)))⟩
theorem toBoolS_l (xs : List Bool) (hx : xs.length ≤ 1048576) (l : List Bool) : ∀ (i : Int) (ys : List Bool), 0 ≤ i → xs.drop i.toNat = l → ys.length = xs.length → Ev (fun k => laws_toBoolS.l0 k xs ys i) (ys.take i.toNat ++ l) := by
  induction l with
  | nil =>
    intro i ys h0 h hy
    have := ldrop_nil h0 h
    rw [List.append_nil, List.take_of_length_le (by omega)]
    exact Ev.step (fun _ => laws_toBoolS.l0.eq_2 ..) (Ev.neg (by omega) (Ev.now _))
  | cons x l ih =>
    intro i ys h0 h hy
    obtain ⟨a, b, c, e⟩ := ldrop_cons false h0 h
    refine Ev.step (fun _ => laws_toBoolS.l0.eq_2 ..) (Ev.pos a (Ev.pos h0 (Ev.pos (by omega) ?_)))
    have := ih (i + 1) (ys.set i.toNat (rdOf false xs i)) (by omega) c (by rw [List.length_set]; exact hy)
    rw [set_take _ h0 (by omega), List.append_assoc, b] at this
    rw [w64 (by omega) (by omega), b]
    exact this
theorem toBoolS_f (xs : List Bool) (hx : xs.length ≤ 1048576) : Ev (fun k => laws_toBoolS.f k xs) xs := by
  unfold laws_toBoolS.f
  exact Ev.pos (by omega) (Ev.pos (by omega) (toBoolS_l xs hx xs 0 _ (by omega) rfl (by rw [List.length_replicate]; omega)))
theorem eqBoolS_l (d : Nat) : ∀ (i : Int) (l : List Bool), 0 ≤ i → i + d = (l.length : Int) → l.length ≤ 1048576 → Ev (fun k => laws_eqBoolS.l0 k l l i) true := by
  induction d with
  | zero =>
    intro i l h0 hd hl
    exact Ev.step (fun _ => laws_eqBoolS.l0.eq_2 ..) (Ev.neg (by omega) (Ev.now _))
  | succ d ih =>
    intro i l h0 hd hl
    refine Ev.step (fun _ => laws_eqBoolS.l0.eq_2 ..) (Ev.pos (by omega) (Ev.pos h0 (Ev.pos (by omega) (Ev.neg (by simp) ?_))))
    rw [w64 (n := i + 1) (by omega) (by omega)]
    exact ih (i + 1) l (by omega) (by omega) hl
theorem eqBoolS_f (l : List Bool) (hl : l.length ≤ 1048576) : Ev (fun k => laws_eqBoolS.f k l l) true := by
  unfold laws_eqBoolS.f
  exact Ev.pos rfl (eqBoolS_l l.length 0 l (by omega) (by omega) hl)
theorem markBoolS_l (d : Nat) : ∀ (i k : Int) (l : List Bool), 0 ≤ i → i + d = (l.length : Int) → 0 ≤ k → k + d ≤ 1152921504606846976 → l.length ≤ 1048576 → ∃ l', Ev (fun n => laws_markBoolS.l0 n l k i) (k + d, l') := by
  induction d with
  | zero =>
    intro i k l h0 hd hk hk' hl
    refine ⟨l, ?_⟩
    rw [show k + ((0 : Nat) : Int) = k by omega]
    exact Ev.step (fun _ => laws_markBoolS.l0.eq_2 ..) (Ev.neg (by omega) (Ev.now _))
  | succ d ih =>
    intro i k l h0 hd hk hk' hl
    obtain ⟨l', h1⟩ := ih (i + 1) (k + 1) (l.set i.toNat ((Int.tmod k 3) == 0)) (by omega) (by rw [List.length_set]; omega) (by omega) (by omega) (by rw [List.length_set]; omega)
    rw [show k + 1 + (d : Int) = k + ((d + 1 : Nat) : Int) by omega] at h1
    refine ⟨l', Ev.step (fun _ => laws_markBoolS.l0.eq_2 ..) (Ev.pos (by omega) (Ev.pos h0 ?_))⟩
    rw [w64 (n := k + 1) (by omega) (by omega), w64 (n := i + 1) (by omega) (by omega)]
    exact h1
theorem FnExactCrashDisk (a : List ByteArray) (b : List S130) (F : List Bool) (h : okDisk a b) (hF : F.length ≤ 9223372036854775807 ∧ ∀ x, x ∈ F → True) : ∃ k, laws_FnExactCrashDisk.f k a b F = some true := by
  apply Ev.rounds
  unfold laws_FnExactCrashDisk.f
  by_cases hf : (F.length : Int) > 1048576
  · exact Ev.pos hf (Ev.now _)
  refine Ev.neg hf ?_
  obtain ⟨t, ht, hs⟩ := szDisk_ex a b h 1048576 (by omega) (by omega)
  refine Ev.bind ht ?_
  by_cases hn : t < 0
  · exact Ev.pos hn (Ev.now _)
  · obtain ⟨_, _, ha, hb, _⟩ := hs.resolve_left hn
    have hm : (b.map wrTo).length ≤ 1048576 := by rw [List.length_map]; exact hb
    have c := toDisk_f a b ha hb
    have cb := toBoolS_f F (by omega)
    obtain ⟨M, N, hM, hN, s, i⟩ := crash_both a (b.map wrTo) F ha hm (by omega)
    obtain ⟨m1, k1, j1, f1, _, p1, hp⟩ := marksDisk a (b.map wrTo) ha hm
    obtain ⟨m2, k2, j2, f2, g2, p2, _⟩ := marksDisk M N hM hN
    have e := eqDisk_f M N hM hN
    obtain ⟨lb, fb⟩ := markBoolS_l F.length 0 m1 F (by omega) (by omega) p1 (by omega) (by omega)
    have fb' : Ev (fun k => laws_markBoolS.f k F m1) (m1 + (F.length : Int), lb) := by unfold laws_markBoolS.f; exact fb
    refine Ev.neg hn (Ev.bind c (Ev.bind cb (Ev.bind s (Ev.bind c (Ev.bind cb (Ev.bind i (Ev.bind e (Ev.pos rfl (Ev.bind c (Ev.bind (eqDisk_f a _ ha hm) (Ev.pos rfl (Ev.bind cb (Ev.bind (eqBoolS_f F (by omega)) (Ev.pos rfl (Ev.bind f1 (Ev.bind fb' (Ev.neg (by simp only []; omega) (Ev.bind e ?_))))))))))))))))))
    exact Ev.step (fun _ => laws_FnExactCrashDisk.j0.eq_2 ..) (Ev.neg (by decide) (Ev.bind f2 (Ev.bind g2 (Ev.neg (by omega) (Ev.pos rfl (Ev.bind c (Ev.bind cb (Ev.bind i (Ev.bind e (Ev.pos rfl (Ev.bind g2 (Ev.neg (by omega) (Ev.pos rfl (Ev.now _))))))))))))))

end Go.Proofs.Ytnfiapcemafmiaa.Pure
