/- The law FnExactReadSector holds for every input of its kind; no further condition. -/
import Derived.Test.YtmnojegajblagaaPFnExactReadSectorx4
import Derived.Test.YtmnojegajblagaaLibBase
import Derived.Test.YtmnojegajblagaaLibOpen
namespace Go.Proofs.Ytmnojegajblagaa.Pure
open Go.RowKit Go.Proofs.Ytmnojegajblagaa.PFnExactReadSector Go.Proofs.Ytmnojegajblagaa.Lib Go.Proofs.YtmnojegajblagaaW.PrintWords Go.Proofs.YtmnojegajblagaaW.PrintLast Go.Proofs.YtmnojegajblagaaW.PrintMore
set_option linter.unusedVariables false
set_option linter.unusedSimpArgs false

theorem szStringS_l (xs : List ByteArray) (hx : xs.length ≤ 1048576) (hs : ∀ s, s ∈ xs → s.size ≤ 9223372036854775807) (l : List ByteArray) : ∀ (i left : Int), 0 ≤ i → xs.drop i.toNat = l → 0 ≤ left → left ≤ 1048576 →
    ∃ t, Ev (fun k => laws_szStringS.l0 k xs left i) t ∧ (t < 0 ∨ 0 ≤ t ∧ t ≤ left ∧ ∀ s, s ∈ l → (s.size : Int) ≤ left) := by
  induction l with
  | nil =>
    intro i left h0 h hl hl'
    have := ldrop_nil h0 h
    exact ⟨left, Ev.step (fun _ => laws_szStringS.l0.eq_2 ..) (Ev.neg (by omega) (Ev.now _)), Or.inr ⟨hl, by omega, fun s h => by cases h⟩⟩
  | cons x l ih =>
    intro i left h0 h hl hl'
    obtain ⟨a, b, c, e⟩ := ldrop_cons ByteArray.empty h0 h
    have hxs : x.size ≤ 9223372036854775807 := hs x (by
      have : x ∈ xs.drop i.toNat := by rw [h]; exact List.mem_cons_self ..
      exact List.mem_of_mem_drop this)
    by_cases hneg : left - (x.size : Int) < 0
    · refine ⟨-1, Ev.step (fun _ => laws_szStringS.l0.eq_2 ..) (Ev.pos a (Ev.pos h0 ?_)), by omega⟩
      rw [b, w64 (n := left - (x.size : Int)) (by omega) (by omega)]
      exact Ev.pos hneg (Ev.now _)
    · obtain ⟨t, h1, h2⟩ := ih (i + 1) (left - (x.size : Int)) (by omega) c (by omega) (by omega)
      refine ⟨t, Ev.step (fun _ => laws_szStringS.l0.eq_2 ..) (Ev.pos a (Ev.pos h0 ?_)), ?_⟩
      · rw [b, w64 (n := left - (x.size : Int)) (by omega) (by omega), w64 (n := i + 1) (by omega) (by omega)]
        exact Ev.neg hneg h1
      · rcases h2 with h2 | ⟨h2, h3, h4⟩
        · exact Or.inl h2
        · refine Or.inr ⟨h2, by omega, fun s hs => ?_⟩
          rcases List.mem_cons.1 hs with hs | hs
          · subst hs
            omega
          · have := h4 s hs
            omega
theorem szStringS_ex (xs : List ByteArray) (hx : xs.length ≤ 9223372036854775807) (hs : ∀ s, s ∈ xs → s.size ≤ 9223372036854775807) (left : Int) (hl : 0 ≤ left) (hl' : left ≤ 1048576) :
    ∃ t, Ev (fun k => laws_szStringS.f k xs left) t ∧ (t < 0 ∨ 0 ≤ t ∧ t ≤ left ∧ (xs.length : Int) ≤ left ∧ ∀ s, s ∈ xs → (s.size : Int) ≤ left) := by
  unfold laws_szStringS.f
  rw [w64 (n := left - (xs.length : Int)) (by omega) (by omega)]
  by_cases hneg : left - (xs.length : Int) < 0
  · exact ⟨-1, Ev.pos hneg (Ev.now _), by omega⟩
  · obtain ⟨t, h1, h2⟩ := szStringS_l xs (by omega) hs xs 0 (left - (xs.length : Int)) (by omega) rfl (by omega) (by omega)
    refine ⟨t, Ev.neg hneg h1, ?_⟩
    rcases h2 with h2 | ⟨h2, h3, h4⟩
    · exact Or.inl h2
    · exact Or.inr ⟨h2, by omega, by omega, fun s hs => by have := h4 s hs; omega⟩

theorem szWriteS_l (xs : List S152) (hx : xs.length ≤ 1048576) (hs : ∀ s, s ∈ xs → s.f1.size ≤ 9223372036854775807) (l : List S152) : ∀ (i left : Int), 0 ≤ i → xs.drop i.toNat = l → 0 ≤ left → left ≤ 1048576 →
    ∃ t, Ev (fun k => laws_szWriteS.l0 k xs left i) t ∧ (t < 0 ∨ 0 ≤ t ∧ t ≤ left ∧ ∀ s, s ∈ l → (s.f1.size : Int) ≤ left) := by
  induction l with
  | nil =>
    intro i left h0 h hl hl'
    have := ldrop_nil h0 h
    exact ⟨left, Ev.step (fun _ => laws_szWriteS.l0.eq_2 ..) (Ev.neg (by omega) (Ev.now _)), Or.inr ⟨hl, by omega, fun s h => by cases h⟩⟩
  | cons x l ih =>
    intro i left h0 h hl hl'
    obtain ⟨a, b, c, e⟩ := ldrop_cons z152 h0 h
    have hb : rd_T152 xs i = x := b
    have hxs : x.f1.size ≤ 9223372036854775807 := hs x (by
      have : x ∈ xs.drop i.toNat := by rw [h]; exact List.mem_cons_self ..
      exact List.mem_of_mem_drop this)
    by_cases hneg : left - (x.f1.size : Int) < 0
    · refine ⟨-1, Ev.step (fun _ => laws_szWriteS.l0.eq_2 ..) (Ev.pos a (Ev.pos h0 ?_)), by omega⟩
      rw [hb]
      refine Ev.bind0 (a := -1) ?_ (Ev.pos (by decide) (Ev.now _))
      unfold laws_szWrite.f
      rw [w64 (n := left - (x.f1.size : Int)) (by omega) (by omega), if_pos hneg]
    · obtain ⟨t, h1, h2⟩ := ih (i + 1) (left - (x.f1.size : Int)) (by omega) c (by omega) (by omega)
      refine ⟨t, Ev.step (fun _ => laws_szWriteS.l0.eq_2 ..) (Ev.pos a (Ev.pos h0 ?_)), ?_⟩
      · rw [hb]
        refine Ev.bind0 (a := left - (x.f1.size : Int)) ?_ (Ev.neg hneg ?_)
        · unfold laws_szWrite.f
          rw [w64 (n := left - (x.f1.size : Int)) (by omega) (by omega), if_neg hneg]
        · rw [w64 (n := i + 1) (by omega) (by omega)]
          exact h1
      · rcases h2 with h2 | ⟨h2, h3, h4⟩
        · exact Or.inl h2
        · refine Or.inr ⟨h2, by omega, fun s hs => ?_⟩
          rcases List.mem_cons.1 hs with hs | hs
          · subst hs
            omega
          · have := h4 s hs
            omega
theorem szWriteS_ex (xs : List S152) (hx : xs.length ≤ 9223372036854775807) (hs : ∀ s, s ∈ xs → s.f1.size ≤ 9223372036854775807) (left : Int) (hl : 0 ≤ left) (hl' : left ≤ 1048576) :
    ∃ t, Ev (fun k => laws_szWriteS.f k xs left) t ∧ (t < 0 ∨ 0 ≤ t ∧ t ≤ left ∧ (xs.length : Int) ≤ left ∧ ∀ s, s ∈ xs → (s.f1.size : Int) ≤ left) := by
  unfold laws_szWriteS.f
  rw [w64 (n := left - (xs.length : Int)) (by omega) (by omega)]
  by_cases hneg : left - (xs.length : Int) < 0
  · exact ⟨-1, Ev.pos hneg (Ev.now _), by omega⟩
  · obtain ⟨t, h1, h2⟩ := szWriteS_l xs (by omega) hs xs 0 (left - (xs.length : Int)) (by omega) rfl (by omega) (by omega)
    refine ⟨t, Ev.neg hneg h1, ?_⟩
    rcases h2 with h2 | ⟨h2, h3, h4⟩
    · exact Or.inl h2
    · exact Or.inr ⟨h2, by omega, by omega, fun s hs => by have := h4 s hs; omega⟩

theorem toStringS_l (xs : List ByteArray) (hx : xs.length ≤ 1048576) (l : List ByteArray) : ∀ (i : Int) (ys : List ByteArray), 0 ≤ i → xs.drop i.toNat = l → ys.length = xs.length → Ev (fun k => laws_toStringS.l0 k xs ys i) (ys.take i.toNat ++ l) := by
  induction l with
  | nil =>
    intro i ys h0 h hy
    have := ldrop_nil h0 h
    rw [List.append_nil, List.take_of_length_le (by omega)]
    exact Ev.step (fun _ => laws_toStringS.l0.eq_2 ..) (Ev.neg (by omega) (Ev.now _))
  | cons x l ih =>
    intro i ys h0 h hy
    obtain ⟨a, b, c, e⟩ := ldrop_cons ByteArray.empty h0 h
    refine Ev.step (fun _ => laws_toStringS.l0.eq_2 ..) (Ev.pos a (Ev.pos h0 (Ev.pos (by omega) ?_)))
    have := ih (i + 1) (ys.set i.toNat x) (by omega) c (by rw [List.length_set]; exact hy)
    rw [set_take _ h0 (by omega), List.append_assoc] at this
    rw [w64 (by omega) (by omega), b]
    exact this
theorem toStringS_f (xs : List ByteArray) (hx : xs.length ≤ 1048576) : Ev (fun k => laws_toStringS.f k xs) xs := by
  unfold laws_toStringS.f
  exact Ev.pos (by omega) (Ev.pos (by omega) (toStringS_l xs hx xs 0 _ (by omega) rfl (by rw [List.length_replicate]; omega)))

def wrTo (x : S152) : S153 := ⟨x.f0, x.f1⟩
theorem toWriteS_l (xs : List S152) (hx : xs.length ≤ 1048576) (l : List S152) : ∀ (i : Int) (ys : List S153), 0 ≤ i → xs.drop i.toNat = l → ys.length = xs.length → Ev (fun k => laws_toWriteS.l0 k xs ys i) (ys.take i.toNat ++ l.map wrTo) := by
  induction l with
  | nil =>
    intro i ys h0 h hy
    have := ldrop_nil h0 h
    rw [List.map_nil, List.append_nil, List.take_of_length_le (by omega)]
    exact Ev.step (fun _ => laws_toWriteS.l0.eq_2 ..) (Ev.neg (by omega) (Ev.now _))
  | cons x l ih =>
    intro i ys h0 h hy
    obtain ⟨a, b, c, e⟩ := ldrop_cons z152 h0 h
    refine Ev.step (fun _ => laws_toWriteS.l0.eq_2 ..) (Ev.pos a (Ev.pos h0 (Ev.bind0 rfl (Ev.pos (by omega) ?_))))
    have := ih (i + 1) (ys.set i.toNat (wrTo x)) (by omega) c (by rw [List.length_set]; exact hy)
    rw [set_take _ h0 (by omega), List.append_assoc] at this
    rw [w64 (by omega) (by omega), show rd_T152 xs i = x from b]
    exact this
theorem toWriteS_f (xs : List S152) (hx : xs.length ≤ 1048576) : Ev (fun k => laws_toWriteS.f k xs) (xs.map wrTo) := by
  unfold laws_toWriteS.f
  exact Ev.pos (by omega) (Ev.pos (by omega) (toWriteS_l xs hx xs 0 _ (by omega) rfl (by rw [List.length_replicate]; omega)))

theorem eqStringS_refl_l (d : Nat) : ∀ (i : Int) (l : List ByteArray), 0 ≤ i → i + d = (l.length : Int) → (l.length : Int) ≤ 4611686018427387904 → Ev (fun k => laws_eqStringS.l0 k l l i) true := by
  induction d with
  | zero =>
    intro i l h0 hd hl
    exact Ev.step (fun _ => laws_eqStringS.l0.eq_2 ..) (Ev.neg (by omega) (Ev.now _))
  | succ d ih =>
    intro i l h0 hd hl
    refine Ev.step (fun _ => laws_eqStringS.l0.eq_2 ..) (Ev.pos (by omega) (Ev.pos h0 (Ev.pos (by omega) (Ev.pos rfl ?_))))
    rw [w64 (n := i + 1) (by omega) (by omega)]
    exact ih (i + 1) l (by omega) (by omega) hl
theorem eqStringS_refl (l : List ByteArray) (hl : (l.length : Int) ≤ 4611686018427387904) : Ev (fun k => laws_eqStringS.f k l l) true := by
  unfold laws_eqStringS.f
  exact Ev.pos rfl (eqStringS_refl_l l.length 0 l (by omega) (by omega) hl)

theorem eqWriteS_l (d : Nat) : ∀ (i : Int) (l : List S153), 0 ≤ i → i + d = (l.length : Int) → (l.length : Int) ≤ 4611686018427387904 → Ev (fun k => laws_eqWriteS.l0 k l l i) true := by
  induction d with
  | zero =>
    intro i l h0 hd hl
    exact Ev.step (fun _ => laws_eqWriteS.l0.eq_2 ..) (Ev.neg (by omega) (Ev.now _))
  | succ d ih =>
    intro i l h0 hd hl
    refine Ev.step (fun _ => laws_eqWriteS.l0.eq_2 ..) (Ev.pos (by omega) (Ev.pos h0 (Ev.pos (by omega) (Ev.bind0 (a := true) (by unfold laws_eqWrite.f; simp) (Ev.pos rfl ?_)))))
    rw [w64 (n := i + 1) (by omega) (by omega)]
    exact ih (i + 1) l (by omega) (by omega) hl
theorem eqWriteS_f (l : List S153) (hl : (l.length : Int) ≤ 4611686018427387904) : Ev (fun k => laws_eqWriteS.f k l l) true := by
  unfold laws_eqWriteS.f
  exact Ev.pos rfl (eqWriteS_l l.length 0 l (by omega) (by omega) hl)

/-- What a disk's place as an argument gives. -/
def okDisk (a : List ByteArray) (b : List S152) : Prop := (a.length ≤ 9223372036854775807 ∧ ∀ s, s ∈ a → s.size ≤ 9223372036854775807) ∧ (b.length ≤ 9223372036854775807 ∧ ∀ x, x ∈ b → (Lit.int .i64 x.f0).wf = true ∧ x.f1.size ≤ 9223372036854775807)
/-- What is left of a disk's size, and what follows for its parts. -/
theorem szDisk_ex (a : List ByteArray) (b : List S152) (h : okDisk a b) (left : Int) (hl : 0 ≤ left) (hl' : left ≤ 1048576) :
    ∃ t, Ev (fun k => laws_szDisk.f k a b left) t ∧ (t < 0 ∨ 0 ≤ t ∧ t ≤ left ∧ a.length ≤ 1048576 ∧ b.length ≤ 1048576 ∧ (∀ s, s ∈ a → s.size ≤ 1048576) ∧ ∀ x, x ∈ b → x.f1.size ≤ 1048576) := by
  obtain ⟨t, h1, h2⟩ := szStringS_ex a h.1.1 h.1.2 left hl hl'
  unfold laws_szDisk.f
  by_cases ht : t < 0
  · exact ⟨-1, Ev.bind h1 (Ev.pos ht (Ev.now _)), by omega⟩
  · obtain ⟨h3, h4, h5, h6⟩ := h2.resolve_left ht
    obtain ⟨u, h7, h8⟩ := szWriteS_ex b h.2.1 (fun s hs => (h.2.2 s hs).2) t h3 (by omega)
    by_cases hu : u < 0
    · exact ⟨-1, Ev.bind h1 (Ev.neg ht (Ev.bind h7 (Ev.pos hu (Ev.now _)))), by omega⟩
    · obtain ⟨g3, g4, g5, g6⟩ := h8.resolve_left hu
      exact ⟨u, Ev.bind h1 (Ev.neg ht (Ev.bind h7 (Ev.neg hu (Ev.now _)))), Or.inr ⟨g3, by omega, by omega, by omega, fun s hs => by have := h6 s hs; omega, fun x hx => by have := g6 x hx; omega⟩⟩
theorem toDisk_f (a : List ByteArray) (b : List S152) (ha : a.length ≤ 1048576) (hb : b.length ≤ 1048576) : Ev (fun k => laws_toDisk.f k a b) (a, b.map wrTo) := by
  unfold laws_toDisk.f
  exact Ev.bind (toStringS_f a ha) (Ev.bind (toWriteS_f b hb) (Ev.now _))
theorem eqDisk_f (a : List ByteArray) (b : List S153) (ha : a.length ≤ 1048576) (hb : b.length ≤ 1048576) : Ev (fun k => laws_eqDisk.f k a b a b) true := by
  unfold laws_eqDisk.f
  exact Ev.bind (eqStringS_refl a (by omega)) (Ev.pos rfl (Ev.bind (eqWriteS_f b (by omega)) (Ev.pos rfl (Ev.now _))))

theorem l01In_spec (a b c : Int) : spec_l01In.f a b c = some (decide (b ≤ a ∧ a ≤ c)) := by
  unfold spec_l01In.f
  by_cases h : a ≥ b
  · rw [if_pos h]
    simp [show b ≤ a from h]
  · rw [if_neg h]
    simp [show ¬ b ≤ a from h]

def pendM (n : Int) (x : S153) : Bool := decide (0 ≤ x.f0 ∧ x.f0 < n ∧ x.f1.size = 32)
def isDiskM (a : List ByteArray) (b : List S153) : Bool := decide (a.length ≤ 400 ∧ b.length ≤ 400) && (a.all (fun s => decide (s.size = 32)) && b.all (pendM (a.length : Int)))
theorem isDisk_spec_1 (a : List ByteArray) (b : List S153) (ha : a.length ≤ 1048576) (hb : b.length ≤ 1048576) (l : List S153) : ∀ (i : Int), 0 ≤ i → b.drop i.toNat = l →
    Ev (fun k => spec_IsDisk.l1 k b (b.length : Int) i a b) (l.all (pendM (a.length : Int)) && decide (a.length ≤ 400 ∧ b.length ≤ 400)) := by
  induction l with
  | nil =>
    intro i h0 h
    have := ldrop_nil h0 h
    refine Ev.step (fun _ => spec_IsDisk.l1.eq_2 ..) (Ev.neg (by omega) ?_)
    rw [List.all_nil, Bool.true_and]
    by_cases h4 : (a.length : Int) ≤ 400
    · refine Ev.pos h4 ?_
      rw [show decide (a.length ≤ 400 ∧ b.length ≤ 400) = decide ((b.length : Int) ≤ 400) by apply decide_eq_decide.2; omega]
      exact Ev.now _
    · refine Ev.neg h4 ?_
      rw [show decide (a.length ≤ 400 ∧ b.length ≤ 400) = false by apply decide_eq_false; omega]
      exact Ev.now _
  | cons x l ih =>
    intro i h0 h
    obtain ⟨p, q, c, e⟩ := ldrop_cons z153 h0 h
    have hq : rd_T153 b i = x := q
    have := ih (i + 1) (by omega) c
    refine Ev.step (fun _ => spec_IsDisk.l1.eq_2 ..) (Ev.pos p (Ev.pos h0 (Ev.pos p ?_)))
    rw [hq, w64 (n := (a.length : Int) - 1) (by omega) (by omega), w64 (n := i + 1) (by omega) (by omega), List.all_cons]
    refine Ev.bind0 (l01In_spec _ _ _) ?_
    by_cases c1 : 0 ≤ x.f0 ∧ x.f0 ≤ (a.length : Int) - 1
    · refine Ev.pos (by simpa using c1) ?_
      by_cases c2 : (x.f1.size : Int) = 32
      · rw [show pendM (a.length : Int) x = true by unfold pendM; apply decide_eq_true; omega, Bool.true_and]
        exact Ev.pos c2 this
      · rw [show pendM (a.length : Int) x = false by unfold pendM; apply decide_eq_false; omega]
        exact Ev.neg c2 (Ev.now _)
    · rw [show pendM (a.length : Int) x = false by unfold pendM; apply decide_eq_false; omega]
      exact Ev.neg (by simpa using c1) (Ev.now _)
theorem isDisk_spec_0 (a : List ByteArray) (b : List S153) (ha : a.length ≤ 1048576) (hb : b.length ≤ 1048576) (l : List ByteArray) : ∀ (i : Int), 0 ≤ i → a.drop i.toNat = l →
    Ev (fun k => spec_IsDisk.l0 k a (a.length : Int) i a b) (l.all (fun s => decide (s.size = 32)) && (b.all (pendM (a.length : Int)) && decide (a.length ≤ 400 ∧ b.length ≤ 400))) := by
  induction l with
  | nil =>
    intro i h0 h
    have := ldrop_nil h0 h
    refine Ev.step (fun _ => spec_IsDisk.l0.eq_2 ..) (Ev.neg (by omega) ?_)
    rw [List.all_nil, Bool.true_and]
    exact isDisk_spec_1 a b ha hb b 0 (by omega) rfl
  | cons x l ih =>
    intro i h0 h
    obtain ⟨p, q, c, e⟩ := ldrop_cons ByteArray.empty h0 h
    have := ih (i + 1) (by omega) c
    refine Ev.step (fun _ => spec_IsDisk.l0.eq_2 ..) (Ev.pos p (Ev.pos h0 (Ev.pos p ?_)))
    rw [q, w64 (n := i + 1) (by omega) (by omega), List.all_cons]
    by_cases c2 : (x.size : Int) = 32
    · rw [show decide (x.size = 32) = true by apply decide_eq_true; omega, Bool.true_and]
      exact Ev.pos c2 this
    · rw [show decide (x.size = 32) = false by apply decide_eq_false; omega]
      exact Ev.neg c2 (Ev.now _)
theorem isDisk_spec (a : List ByteArray) (b : List S153) (ha : a.length ≤ 1048576) (hb : b.length ≤ 1048576) : Ev (fun k => spec_IsDisk.f k a b) (isDiskM a b) := by
  have := isDisk_spec_0 a b ha hb a 0 (by omega) rfl
  unfold isDiskM
  rw [Bool.and_comm, Bool.and_assoc]
  exact this
theorem isDisk_impl_1 (a : List ByteArray) (b : List S153) (ha : a.length ≤ 1048576) (hb : b.length ≤ 1048576) (l : List S153) : ∀ (i : Int), 0 ≤ i → b.drop i.toNat = l →
    Ev (fun k => impl_IsDisk.l1 k b (b.length : Int) i a b) (l.all (pendM (a.length : Int))) := by
  induction l with
  | nil =>
    intro i h0 h
    have := ldrop_nil h0 h
    exact Ev.step (fun _ => impl_IsDisk.l1.eq_2 ..) (Ev.neg (by omega) (Ev.now _))
  | cons x l ih =>
    intro i h0 h
    obtain ⟨p, q, c, e⟩ := ldrop_cons z153 h0 h
    have hq : rd_T153 b i = x := q
    have := ih (i + 1) (by omega) c
    refine Ev.step (fun _ => impl_IsDisk.l1.eq_2 ..) (Ev.pos p (Ev.pos h0 (Ev.pos p ?_)))
    rw [hq, w64 (n := i + 1) (by omega) (by omega), List.all_cons]
    by_cases c1 : x.f0 < 0
    · rw [show pendM (a.length : Int) x = false by unfold pendM; apply decide_eq_false; omega]
      exact Ev.pos c1 (Ev.now _)
    · refine Ev.neg c1 ?_
      by_cases c3 : x.f0 ≥ (a.length : Int)
      · rw [show pendM (a.length : Int) x = false by unfold pendM; apply decide_eq_false; omega]
        exact Ev.pos c3 (Ev.now _)
      · refine Ev.neg c3 ?_
        by_cases c2 : (x.f1.size : Int) = 32
        · rw [show pendM (a.length : Int) x = true by unfold pendM; apply decide_eq_true; omega, Bool.true_and]
          exact Ev.pos c2 this
        · rw [show pendM (a.length : Int) x = false by unfold pendM; apply decide_eq_false; omega]
          exact Ev.neg c2 (Ev.now _)
theorem isDisk_impl_0 (a : List ByteArray) (b : List S153) (ha : a.length ≤ 1048576) (hb : b.length ≤ 1048576) (l : List ByteArray) : ∀ (i : Int), 0 ≤ i → a.drop i.toNat = l →
    Ev (fun k => impl_IsDisk.l0 k a (a.length : Int) i a b) (l.all (fun s => decide (s.size = 32)) && b.all (pendM (a.length : Int))) := by
  induction l with
  | nil =>
    intro i h0 h
    have := ldrop_nil h0 h
    refine Ev.step (fun _ => impl_IsDisk.l0.eq_2 ..) (Ev.neg (by omega) ?_)
    rw [List.all_nil, Bool.true_and]
    exact isDisk_impl_1 a b ha hb b 0 (by omega) rfl
  | cons x l ih =>
    intro i h0 h
    obtain ⟨p, q, c, e⟩ := ldrop_cons ByteArray.empty h0 h
    have := ih (i + 1) (by omega) c
    refine Ev.step (fun _ => impl_IsDisk.l0.eq_2 ..) (Ev.pos p (Ev.pos h0 (Ev.pos p ?_)))
    rw [q, w64 (n := i + 1) (by omega) (by omega), List.all_cons]
    by_cases c2 : (x.size : Int) = 32
    · rw [show decide (x.size = 32) = true by apply decide_eq_true; omega, Bool.true_and]
      exact Ev.pos c2 this
    · rw [show decide (x.size = 32) = false by apply decide_eq_false; omega]
      exact Ev.neg c2 (Ev.now _)
theorem isDisk_impl (a : List ByteArray) (b : List S153) (ha : a.length ≤ 1048576) (hb : b.length ≤ 1048576) : Ev (fun k => impl_IsDisk.f k a b) (isDiskM a b) := by
  unfold impl_IsDisk.f isDiskM
  by_cases h1 : (a.length : Int) > 400
  · rw [show decide (a.length ≤ 400 ∧ b.length ≤ 400) = false by apply decide_eq_false; omega, Bool.false_and]
    exact Ev.pos h1 (Ev.step (fun _ => impl_IsDisk.j0.eq_2 ..) (Ev.pos rfl (Ev.now _)))
  · refine Ev.neg h1 (Ev.step (fun _ => impl_IsDisk.j0.eq_2 ..) ?_)
    by_cases h2 : (b.length : Int) > 400
    · rw [show decide (a.length ≤ 400 ∧ b.length ≤ 400) = false by apply decide_eq_false; omega, Bool.false_and]
      exact Ev.pos (by simpa using h2) (Ev.now _)
    · rw [show decide (a.length ≤ 400 ∧ b.length ≤ 400) = true by apply decide_eq_true; omega, Bool.true_and]
      exact Ev.neg (by simpa using h2) (isDisk_impl_0 a b ha hb a 0 (by omega) rfl)

theorem diskRead_l (a : List ByteArray) (b : List S153) (hb : b.length ≤ 1048576) (n : Int) (h0 : 0 ≤ n) (h1 : n < (a.length : Int)) (d : Nat) : ∀ i : Int, i + 1 = d → i < (b.length : Int) →
    ∃ r, Ev (fun k => spec_l03Read.l0 k n i a b) r ∧ Ev (fun k => impl_Disk_read.l0 k n i a b) r ∧ (r ∈ a ∨ ∃ x, x ∈ b ∧ r = x.f1) := by
  induction d with
  | zero =>
    intro i hi hl
    refine ⟨rdOf ByteArray.empty a n, Ev.step (fun _ => spec_l03Read.l0.eq_2 ..) (Ev.neg (by omega) (Ev.pos h0 (Ev.pos h1 (Ev.now _)))), Ev.step (fun _ => impl_Disk_read.l0.eq_2 ..) (Ev.neg (by omega) (Ev.pos h0 (Ev.pos h1 (Ev.now _)))), Or.inl ?_⟩
    unfold rdOf
    rw [List.getD_eq_getElem?_getD, List.getElem?_eq_getElem (by omega)]
    exact List.getElem_mem _
  | succ d ih =>
    intro i hi hl
    by_cases h : (rd_T153 b i).f0 = n
    · refine ⟨(rd_T153 b i).f1, Ev.step (fun _ => spec_l03Read.l0.eq_2 ..) (Ev.pos (by omega) (Ev.pos (by omega) (Ev.pos hl (Ev.pos h (Ev.now _))))), Ev.step (fun _ => impl_Disk_read.l0.eq_2 ..) (Ev.pos (by omega) (Ev.pos (by omega) (Ev.pos hl (Ev.pos h (Ev.now _))))), Or.inr ⟨rd_T153 b i, ?_, rfl⟩⟩
      show rdOf z153 b i ∈ b
      unfold rdOf
      rw [List.getD_eq_getElem?_getD, List.getElem?_eq_getElem (by omega)]
      exact List.getElem_mem _
    · obtain ⟨r, p1, p2, p3⟩ := ih (i - 1) (by omega) (by omega)
      refine ⟨r, Ev.step (fun _ => spec_l03Read.l0.eq_2 ..) (Ev.pos (by omega) (Ev.pos (by omega) (Ev.pos hl (Ev.neg h ?_)))), Ev.step (fun _ => impl_Disk_read.l0.eq_2 ..) (Ev.pos (by omega) (Ev.pos (by omega) (Ev.pos hl (Ev.neg h ?_)))), p3⟩
      · rw [w64 (n := i - 1) (by omega) (by omega)]
        exact p1
      · rw [w64 (n := i - 1) (by omega) (by omega)]
        exact p2
theorem diskRead_f (a : List ByteArray) (b : List S153) (hb : b.length ≤ 1048576) (n : Int) (h0 : 0 ≤ n) (h1 : n < (a.length : Int)) :
    ∃ r, Ev (fun k => spec_l03Read.f k a b n) r ∧ Ev (fun k => impl_Disk_read.f k a b n) r ∧ (r ∈ a ∨ ∃ x, x ∈ b ∧ r = x.f1) := by
  unfold spec_l03Read.f impl_Disk_read.f
  rw [w64 (n := (b.length : Int) - 1) (by omega) (by omega)]
  exact diskRead_l a b hb n h0 h1 b.length ((b.length : Int) - 1) (by omega) (by omega)

theorem readSector_f (a : List ByteArray) (b : List S153) (ha : a.length ≤ 1048576) (hb : b.length ≤ 1048576) (n : Int) : ∃ r, Ev (fun k => spec_ReadSector.f k a b n) r ∧ Ev (fun k => impl_ReadSector.f k a b n) r := by
  unfold spec_ReadSector.f impl_ReadSector.f
  have h1 := isDisk_spec a b ha hb
  have h2 := isDisk_impl a b ha hb
  cases ho : isDiskM a b with
  | false =>
    rw [ho] at h1 h2
    exact ⟨_, Ev.bind h1 (Ev.neg (by decide) (Ev.now _)), Ev.bind h2 (Ev.neg (by decide) (Ev.now _))⟩
  | true =>
    rw [ho] at h1 h2
    rw [w64 (n := (a.length : Int) - 1) (by omega) (by omega)]
    by_cases hn : 0 ≤ n ∧ n ≤ (a.length : Int) - 1
    · obtain ⟨r, p1, p2, _⟩ := diskRead_f a b hb n hn.1 (by omega)
      exact ⟨r, Ev.bind h1 (Ev.pos rfl (Ev.bind0 (l01In_spec _ _ _) (Ev.pos (decide_eq_true hn) (Ev.bind p1 (Ev.now _))))), Ev.bind h2 (Ev.pos rfl (Ev.neg (by omega) (Ev.neg (by omega) (Ev.bind p2 (Ev.now _)))))⟩
    · refine ⟨⟨#[]⟩, Ev.bind h1 (Ev.pos rfl (Ev.bind0 (l01In_spec _ _ _) (Ev.neg (by simpa using hn) (Ev.now _)))), Ev.bind h2 (Ev.pos rfl ?_)⟩
      by_cases h0 : n < 0
      · exact Ev.pos h0 (Ev.now _)
      · exact Ev.neg h0 (Ev.pos (by omega) (Ev.now _))

theorem FnExactReadSector (a : List ByteArray) (b : List S152) (n : Int) (h : okDisk a b) (h0 : (Lit.int .i64 n).wf = true) : ∃ k, laws_FnExactReadSector.f k a b n = some true := by
  obtain ⟨t, ht, hs⟩ := szDisk_ex a b h 1048576 (by omega) (by omega)
  apply Ev.rounds
  unfold laws_FnExactReadSector.f
  refine Ev.bind ht ?_
  by_cases hn : t < 0
  · exact Ev.pos hn (Ev.now _)
  · obtain ⟨_, _, ha, hb, _⟩ := hs.resolve_left hn
    have hm : (b.map wrTo).length ≤ 1048576 := by rw [List.length_map]; exact hb
    have c := toDisk_f a b ha hb
    obtain ⟨r, h1, h2⟩ := readSector_f a (b.map wrTo) ha hm n
    exact Ev.neg hn (Ev.bind c (Ev.bind h1 (Ev.bind c (Ev.bind h2 (Ev.pos rfl (Ev.bind c (Ev.bind (eqDisk_f a _ ha hm) (Ev.pos rfl (Ev.now _)))))))))

end Go.Proofs.Ytmnojegajblagaa.Pure
