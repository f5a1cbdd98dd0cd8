/- The law FnExactUsedBlocks holds for every input of its kind; no further condition. -/
import Derived.Test.YtmnojegajblagaaPFnExactUsedBlocksx4
import Derived.Test.YtmnojegajblagaaLibBase
import Derived.Test.YtmnojegajblagaaLibOpen
namespace Go.Proofs.Ytmnojegajblagaa.Pure
open Go.RowKit Go.Proofs.Ytmnojegajblagaa.PFnExactUsedBlocks Go.Proofs.Ytmnojegajblagaa.Lib Go.Proofs.YtmnojegajblagaaW.PrintWords Go.Proofs.YtmnojegajblagaaW.PrintLast Go.Proofs.YtmnojegajblagaaW.PrintMore
set_option linter.unusedVariables false
set_option linter.unusedSimpArgs false

def aclTo (x : S158) : S120 := ⟨x.f0, x.f1, x.f2⟩
theorem szAclEntryS_ex (l : List S158) (hl : l.length ≤ 9223372036854775807) (n : Int) (hn : 0 ≤ n) (hn' : n ≤ 1048576) : ∃ t, laws_szAclEntryS.f l n = some t ∧ (t < 0 ∨ ((l.length : Int) ≤ n ∧ t = n - (l.length : Int))) := by
  unfold laws_szAclEntryS.f
  rw [w64 (by omega) (by omega)]
  by_cases h : n - (l.length : Int) < 0
  · rw [if_pos h]
    exact ⟨-1, by simp, by omega⟩
  · rw [if_neg h]
    exact ⟨_, rfl, by omega⟩
theorem toAclEntryS_l (xs : List S158) (hx : xs.length ≤ 1048576) (l : List S158) : ∀ (i : Int) (ys : List S120), 0 ≤ i → xs.drop i.toNat = l → ys.length = xs.length → Ev (fun k => laws_toAclEntryS.l0 k xs ys i) (ys.take i.toNat ++ l.map aclTo) := by
  induction l with
  | nil =>
    intro i ys h0 h hy
    have := ldrop_nil h0 h
    rw [List.map_nil, List.append_nil, List.take_of_length_le (by omega)]
    exact Ev.step (fun _ => laws_toAclEntryS.l0.eq_2 ..) (Ev.neg (by omega) (Ev.now _))
  | cons x l ih =>
    intro i ys h0 h hy
    obtain ⟨a, b, c, e⟩ := ldrop_cons z158 h0 h
    refine Ev.step (fun _ => laws_toAclEntryS.l0.eq_2 ..) (Ev.pos a (Ev.pos h0 (Ev.bind0 rfl (Ev.pos (by omega) ?_))))
    have := ih (i + 1) (ys.set i.toNat (aclTo x)) (by omega) c (by rw [List.length_set]; exact hy)
    rw [set_take _ h0 (by omega), List.append_assoc] at this
    rw [w64 (by omega) (by omega), show rd_T158 xs i = x from b]
    exact this
theorem toAclEntryS_f (xs : List S158) (hx : xs.length ≤ 1048576) : Ev (fun k => laws_toAclEntryS.f k xs) (xs.map aclTo) := by
  unfold laws_toAclEntryS.f
  exact Ev.pos (by omega) (Ev.pos (by omega) (toAclEntryS_l xs hx xs 0 _ (by omega) rfl (by rw [List.length_replicate]; omega)))

theorem eqAclEntryS_l (d : Nat) : ∀ (i : Int) (l : List S120), 0 ≤ i → i + d = (l.length : Int) → l.length ≤ 1048576 → Ev (fun k => laws_eqAclEntryS.l0 k l l i) true := by
  induction d with
  | zero =>
    intro i l h0 hd hl
    exact Ev.step (fun _ => laws_eqAclEntryS.l0.eq_2 ..) (Ev.neg (by omega) (Ev.now _))
  | succ d ih =>
    intro i l h0 hd hl
    refine Ev.step (fun _ => laws_eqAclEntryS.l0.eq_2 ..) (Ev.pos (by omega) (Ev.pos h0 (Ev.pos (by omega) (Ev.bind0 (a := true) (by unfold laws_eqAclEntry.f; simp) (Ev.pos rfl ?_)))))
    rw [w64 (n := i + 1) (by omega) (by omega)]
    exact ih (i + 1) l (by omega) (by omega) hl
theorem eqAclEntryS_f (l : List S120) (hl : l.length ≤ 1048576) : Ev (fun k => laws_eqAclEntryS.f k l l) true := by
  unfold laws_eqAclEntryS.f
  exact Ev.pos rfl (eqAclEntryS_l l.length 0 l (by omega) (by omega) hl)

theorem toIntS_l (xs : List Int) (hx : xs.length ≤ 1048576) (l : List Int) : ∀ (i : Int) (ys : List Int), 0 ≤ i → xs.drop i.toNat = l → ys.length = xs.length → Ev (fun k => laws_toIntS.l0 k xs ys i) (ys.take i.toNat ++ l) := by
  induction l with
  | nil =>
    intro i ys h0 h hy
    have := ldrop_nil h0 h
    rw [List.append_nil, List.take_of_length_le (by omega)]
    exact Ev.step (fun _ => laws_toIntS.l0.eq_2 ..) (Ev.neg (by omega) (Ev.now _))
  | cons x l ih =>
    intro i ys h0 h hy
    obtain ⟨a, b, c, e⟩ := ldrop_cons (0 : Int) h0 h
    refine Ev.step (fun _ => laws_toIntS.l0.eq_2 ..) (Ev.pos a (Ev.pos h0 (Ev.pos (by omega) ?_)))
    have := ih (i + 1) (ys.set i.toNat (rd xs i)) (by omega) c (by rw [List.length_set]; exact hy)
    rw [set_take _ h0 (by omega), List.append_assoc, show rd xs i = x from b] at this
    rw [w64 (by omega) (by omega), show rd xs i = x from b]
    exact this
theorem toIntS_f (xs : List Int) (hx : xs.length ≤ 1048576) : Ev (fun k => laws_toIntS.f k xs) xs := by
  unfold laws_toIntS.f
  exact Ev.pos (by omega) (Ev.pos (by omega) (toIntS_l xs hx xs 0 _ (by omega) rfl (by rw [List.length_replicate]; omega)))

theorem eqIntS_l (d : Nat) : ∀ (i : Int) (l : List Int), 0 ≤ i → i + d = (l.length : Int) → l.length ≤ 1048576 → Ev (fun k => laws_eqIntS.l0 k l l i) true := by
  induction d with
  | zero =>
    intro i l h0 hd hl
    exact Ev.step (fun _ => laws_eqIntS.l0.eq_2 ..) (Ev.neg (by omega) (Ev.now _))
  | succ d ih =>
    intro i l h0 hd hl
    refine Ev.step (fun _ => laws_eqIntS.l0.eq_2 ..) (Ev.pos (by omega) (Ev.pos h0 (Ev.pos (by omega) (Ev.pos rfl ?_))))
    rw [w64 (n := i + 1) (by omega) (by omega)]
    exact ih (i + 1) l (by omega) (by omega) hl
theorem eqIntS_f (l : List Int) (hl : l.length ≤ 1048576) : Ev (fun k => laws_eqIntS.f k l l) true := by
  unfold laws_eqIntS.f
  exact Ev.pos rfl (eqIntS_l l.length 0 l (by omega) (by omega) hl)

def okInt (l : List Int) : Prop := l.length ≤ 9223372036854775807 ∧ ∀ x, x ∈ l → (Lit.int .i64 x).wf = true
def okAcls (l : List S158) : Prop := l.length ≤ 9223372036854775807 ∧ ∀ x, x ∈ l → (Lit.int .i64 x.f0).wf = true ∧ (Lit.int .i64 x.f1).wf = true ∧ (Lit.int .i64 x.f2).wf = true
/-- What is left of an inode's size, and what follows for its parts. -/
theorem szInode_ex (a0 a1 a2 a3 a4 a5 a6 : Int) (b : List Int) (c d : List S158) (hb : b.length ≤ 9223372036854775807) (hc : c.length ≤ 9223372036854775807) (hd : d.length ≤ 9223372036854775807) (left : Int) (hl : 0 ≤ left) (hl' : left ≤ 1048576) :
    ∃ t, laws_szInode.f a0 a1 a2 a3 a4 a5 a6 b c d left = some t ∧ (t < 0 ∨ 0 ≤ t ∧ t ≤ left ∧ (b.length : Int) ≤ left ∧ (c.length : Int) ≤ left ∧ (d.length : Int) ≤ left) := by
  unfold laws_szInode.f laws_szIntS.f
  rw [w64 (by omega) (by omega)]
  by_cases h1 : left - (b.length : Int) < 0
  · rw [if_pos h1, Option.bind_some, if_pos (by decide)]
    exact ⟨-1, rfl, by omega⟩
  · rw [if_neg h1, Option.bind_some, if_neg h1]
    obtain ⟨t, h2, h3⟩ := szAclEntryS_ex c hc (left - (b.length : Int)) (by omega) (by omega)
    rw [h2, Option.bind_some]
    by_cases h4 : t < 0
    · rw [if_pos h4]
      exact ⟨-1, rfl, by omega⟩
    · rw [if_neg h4]
      obtain ⟨u, h5, h6⟩ := szAclEntryS_ex d hd t (by omega) (by omega)
      rw [h5, Option.bind_some]
      by_cases h7 : u < 0
      · rw [if_pos h7]
        exact ⟨-1, rfl, by omega⟩
      · rw [if_neg h7]
        exact ⟨u, rfl, by omega⟩
theorem toInode_f (a0 a1 a2 a3 a4 a5 a6 : Int) (b : List Int) (c d : List S158) (hb : b.length ≤ 1048576) (hc : c.length ≤ 1048576) (hd : d.length ≤ 1048576) :
    Ev (fun k => laws_toInode.f k a0 a1 a2 a3 a4 a5 a6 b c d) (a0, a1, a2, a3, a4, a5, a6, b, c.map aclTo, d.map aclTo) := by
  unfold laws_toInode.f
  exact Ev.bind (toIntS_f b hb) (Ev.bind (toAclEntryS_f c hc) (Ev.bind (toAclEntryS_f d hd) (Ev.now _)))
theorem eqInode_f (a0 a1 a2 a3 a4 a5 a6 : Int) (b : List Int) (c d : List S120) (hb : b.length ≤ 1048576) (hc : c.length ≤ 1048576) (hd : d.length ≤ 1048576) :
    Ev (fun k => laws_eqInode.f k a0 a1 a2 a3 a4 a5 a6 b c d a0 a1 a2 a3 a4 a5 a6 b c d) true := by
  unfold laws_eqInode.f
  exact Ev.pos rfl (Ev.pos rfl (Ev.pos rfl (Ev.pos rfl (Ev.pos rfl (Ev.pos rfl (Ev.pos rfl (Ev.bind (eqIntS_f b hb) (Ev.pos rfl (Ev.bind (eqAclEntryS_f c hc) (Ev.pos rfl (Ev.bind (eqAclEntryS_f d hd) (Ev.pos rfl (Ev.now _)))))))))))))

theorem markIntS_l (d : Nat) : ∀ (i k : Int) (l : List Int), 0 ≤ i → i + d = (l.length : Int) → 0 ≤ k → k + d ≤ 1152921504606846976 → (l.length : Int) ≤ 1152921504606846976 →
    ∃ l', Ev (fun n => laws_markIntS.l0 n l k i) (k + d, l') ∧ l'.length = l.length ∧ (∀ j : Nat, (j : Int) < i → l'[j]? = l[j]?) ∧ Ev (fun n => laws_heldIntS.l0 n l' k i) (k + d) := by
  induction d with
  | zero =>
    intro i k l h0 hd hk hk' hl
    refine ⟨l, ?_, rfl, fun _ _ => rfl, ?_⟩
    · rw [show k + ((0 : Nat) : Int) = k by omega]
      exact Ev.step (fun _ => laws_markIntS.l0.eq_2 ..) (Ev.neg (by omega) (Ev.now _))
    · rw [show k + ((0 : Nat) : Int) = k by omega]
      exact Ev.step (fun _ => laws_heldIntS.l0.eq_2 ..) (Ev.neg (by omega) (Ev.now _))
  | succ d ih =>
    intro i k l h0 hd hk hk' hl
    obtain ⟨l', h1, h2, h3, h4⟩ := ih (i + 1) (k + 1) (l.set i.toNat k) (by omega) (by rw [List.length_set]; omega) (by omega) (by omega) (by rw [List.length_set]; omega)
    rw [List.length_set] at h2
    rw [show k + 1 + (d : Int) = k + ((d + 1 : Nat) : Int) by omega] at h1 h4
    refine ⟨l', ?_, h2, ?_, ?_⟩
    · refine Ev.step (fun _ => laws_markIntS.l0.eq_2 ..) (Ev.pos (by omega) (Ev.pos h0 ?_))
      rw [w64 (n := k + 1) (by omega) (by omega), w64 (n := i + 1) (by omega) (by omega)]
      exact h1
    · intro j hj
      rw [h3 j (by omega), List.getElem?_set_ne (by omega)]
    · refine Ev.step (fun _ => laws_heldIntS.l0.eq_2 ..) (Ev.pos (by omega) (Ev.pos h0 (Ev.pos ?_ ?_)))
      · have := h3 i.toNat (by omega)
        rw [List.getElem?_set_self (by omega)] at this
        unfold rd
        rw [List.getD_eq_getElem?_getD, this]
        rfl
      · rw [w64 (n := k + 1) (by omega) (by omega), w64 (n := i + 1) (by omega) (by omega)]
        exact h4
theorem markIntS_ex (l : List Int) (k : Int) (hk : 0 ≤ k) (h : k + (l.length : Int) ≤ 1152921504606846976) :
    ∃ m l', Ev (fun n => laws_markIntS.f n l k) (m, l') ∧ Ev (fun n => laws_heldIntS.f n l' k) m ∧ 0 ≤ m ∧ m = k + (l.length : Int) ∧ l'.length = l.length := by
  obtain ⟨l', h1, h2, _, h4⟩ := markIntS_l l.length 0 k l (by omega) (by omega) hk h (by omega)
  exact ⟨_, l', h1, h4, by omega, rfl, h2⟩

theorem rdAcl_set (l : List S120) (i : Int) (v : S120) (h0 : 0 ≤ i) (h : i < (l.length : Int)) : rd_T120 (l.set i.toNat v) i = v := by
  show rdOf z120 (l.set i.toNat v) i = v
  unfold rdOf
  rw [List.getD_eq_getElem?_getD, List.getElem?_set_self (by omega)]
  rfl
theorem markAclEntryS_l (d : Nat) : ∀ (i k : Int) (l : List S120), 0 ≤ i → i + d = (l.length : Int) → 0 ≤ k → k + 3 * d ≤ 1152921504606846976 → (l.length : Int) ≤ 1152921504606846976 →
    ∃ l', Ev (fun n => laws_markAclEntryS.l0 n l k i) (k + 3 * d, l') ∧ l'.length = l.length ∧ (∀ j : Nat, (j : Int) < i → l'[j]? = l[j]?) ∧
      (∀ j : Nat, j < d → l'[i.toNat + j]? = some ⟨k + 3 * j, k + 3 * j + 1, k + 3 * j + 1 + 1⟩) := by
  induction d with
  | zero =>
    intro i k l h0 hd hk hk' hl
    refine ⟨l, ?_, rfl, fun _ _ => rfl, fun j hj => absurd hj (Nat.not_lt_zero _)⟩
    rw [show k + 3 * ((0 : Nat) : Int) = k by omega]
    exact Ev.step (fun _ => laws_markAclEntryS.l0.eq_2 ..) (Ev.neg (by omega) (Ev.now _))
  | succ d ih =>
    intro i k l h0 hd hk hk' hl
    obtain ⟨l', h1, h2, h3, h4⟩ := ih (i + 1) (k + 1 + 1 + 1) (l.set i.toNat ⟨k, k + 1, k + 1 + 1⟩) (by omega) (by rw [List.length_set]; omega) (by omega) (by omega) (by rw [List.length_set]; omega)
    rw [show k + 1 + 1 + 1 + 3 * (d : Int) = k + 3 * ((d + 1 : Nat) : Int) by omega] at h1
    rw [List.length_set] at h2
    refine ⟨l', Ev.step (fun _ => laws_markAclEntryS.l0.eq_2 ..) (Ev.pos (by omega) (Ev.pos h0 (Ev.bind0 rfl (Ev.bind0 rfl ?_)))), h2, ?_, ?_⟩
    · rw [rdAcl_set _ _ _ h0 (by omega), rdAcl_set _ _ _ h0 (by rw [List.length_set]; omega)]
      simp only []
      rw [List.set_set, List.set_set, w64 (n := k + 1) (by omega) (by omega), w64 (n := k + 1 + 1) (by omega) (by omega), w64 (n := k + 1 + 1 + 1) (by omega) (by omega), w64 (n := i + 1) (by omega) (by omega)]
      exact h1
    · intro j hj
      rw [h3 j (by omega), List.getElem?_set_ne (by omega)]
    · intro j hj
      cases j with
      | zero =>
        rw [h3 (i.toNat + 0) (by omega), Nat.add_zero, List.getElem?_set_self (by omega)]
        simp
      | succ j =>
        have := h4 j (by omega)
        rw [show (i + 1).toNat + j = i.toNat + (j + 1) by omega] at this
        rw [this, show k + 1 + 1 + 1 + 3 * (j : Int) = k + 3 * ((j + 1 : Nat) : Int) by omega]
theorem markAclEntryS_ex (l : List S120) (k : Int) (hk : 0 ≤ k) (h : k + 3 * (l.length : Int) ≤ 1152921504606846976) :
    ∃ l', Ev (fun n => laws_markAclEntryS.f n l k) (k + 3 * (l.length : Int), l') ∧ l'.length = l.length := by
  obtain ⟨l', h1, h2, _⟩ := markAclEntryS_l l.length 0 k l (by omega) (by omega) hk h (by omega)
  exact ⟨l', h1, h2⟩

theorem markInode_ex (a0 a1 a2 a3 a4 a5 a6 : Int) (b : List Int) (c d : List S120) (k : Int) (hk : 0 ≤ k) (h : k ≤ 1048576) (hb : b.length ≤ 1048576) (hc : c.length ≤ 1048576) (hd : d.length ≤ 1048576) :
    ∃ r, Ev (fun n => laws_markInode.f n a0 a1 a2 a3 a4 a5 a6 b c d k) r ∧ 0 ≤ r.1 := by
  unfold laws_markInode.f
  obtain ⟨m, l, h1, _, h2, h3, _⟩ := markIntS_ex b k hk (by omega)
  obtain ⟨l2, h4, _⟩ := markAclEntryS_ex c m h2 (by omega)
  obtain ⟨l3, h5, _⟩ := markAclEntryS_ex d (m + 3 * (c.length : Int)) (by omega) (by omega)
  exact ⟨_, Ev.bind h1 (Ev.bind h4 (Ev.bind h5 (Ev.now _))), by simp only; omega⟩

def usedM (l : List Int) : List Int := l.filter (fun b => !decide (b = -1))
theorem usedBlocks_spec_l (xs : List Int) (hx : xs.length ≤ 1048576) (l : List Int) : ∀ (i : Int) (out : List Int), 0 ≤ i → xs.drop i.toNat = l → (out.length : Int) ≤ i → Ev (fun k => spec_UsedBlocks.l0 k out xs (xs.length : Int) i) (out ++ usedM l) := by
  induction l with
  | nil =>
    intro i out h0 h ho
    have := ldrop_nil h0 h
    rw [usedM, List.filter_nil, List.append_nil]
    exact Ev.step (fun _ => spec_UsedBlocks.l0.eq_2 ..) (Ev.neg (by omega) (Ev.now _))
  | cons x l ih =>
    intro i out h0 h ho
    obtain ⟨p, q, c, e⟩ := ldrop_cons (0 : Int) h0 h
    refine Ev.step (fun _ => spec_UsedBlocks.l0.eq_2 ..) (Ev.pos p (Ev.pos h0 (Ev.pos p ?_)))
    rw [show rd xs i = x from q, w64 (n := i + 1) (by omega) (by omega)]
    by_cases hx1 : x = -1
    · rw [usedM, List.filter_cons_of_neg (by simpa using hx1)]
      exact Ev.pos hx1 (ih (i + 1) out (by omega) c (by omega))
    · rw [show out ++ usedM (x :: l) = out ++ [x] ++ usedM l by rw [usedM, List.filter_cons_of_pos (by simpa using hx1), List.append_assoc]; rfl]
      exact Ev.neg hx1 (Ev.pos (by omega) (ih (i + 1) (out ++ [x]) (by omega) c (by rw [List.length_append, List.length_singleton]; omega)))
theorem usedBlocks_impl_l (xs : List Int) (hx : xs.length ≤ 1048576) (l : List Int) : ∀ (i : Int) (out : List Int), 0 ≤ i → xs.drop i.toNat = l → (out.length : Int) ≤ i → Ev (fun k => impl_UsedBlocks.l0 k out xs (xs.length : Int) i) (out ++ usedM l) := by
  induction l with
  | nil =>
    intro i out h0 h ho
    have := ldrop_nil h0 h
    rw [usedM, List.filter_nil, List.append_nil]
    exact Ev.step (fun _ => impl_UsedBlocks.l0.eq_2 ..) (Ev.neg (by omega) (Ev.now _))
  | cons x l ih =>
    intro i out h0 h ho
    obtain ⟨p, q, c, e⟩ := ldrop_cons (0 : Int) h0 h
    refine Ev.step (fun _ => impl_UsedBlocks.l0.eq_2 ..) (Ev.pos p (Ev.pos h0 (Ev.pos p ?_)))
    rw [show rd xs i = x from q, w64 (n := i + 1) (by omega) (by omega)]
    by_cases hx1 : x = -1
    · rw [usedM, List.filter_cons_of_neg (by simpa using hx1)]
      exact Ev.pos hx1 (ih (i + 1) out (by omega) c (by omega))
    · rw [show out ++ usedM (x :: l) = out ++ [x] ++ usedM l by rw [usedM, List.filter_cons_of_pos (by simpa using hx1), List.append_assoc]; rfl]
      exact Ev.neg hx1 (Ev.pos (by omega) (ih (i + 1) (out ++ [x]) (by omega) c (by rw [List.length_append, List.length_singleton]; omega)))
theorem usedBlocks_spec (a0 a1 a2 a3 a4 a5 a6 : Int) (b : List Int) (c d : List S120) (hb : b.length ≤ 1048576) : Ev (fun k => spec_UsedBlocks.f k a0 a1 a2 a3 a4 a5 a6 b c d) (usedM b) := usedBlocks_spec_l b hb b 0 [] (by omega) rfl (by simp)
theorem usedBlocks_impl (a0 a1 a2 a3 a4 a5 a6 : Int) (b : List Int) (c d : List S120) (hb : b.length ≤ 1048576) : Ev (fun k => impl_UsedBlocks.f k a0 a1 a2 a3 a4 a5 a6 b c d) (usedM b) := usedBlocks_impl_l b hb b 0 [] (by omega) rfl (by simp)
theorem usedM_length (b : List Int) : (usedM b).length ≤ b.length := List.length_filter_le _ _

theorem FnExactUsedBlocks (a0 a1 a2 a3 a4 a5 a6 : Int) (b : List Int) (c d : List S158)
    (h : (Lit.int .i64 a0).wf = true ∧ (Lit.int .i64 a1).wf = true ∧ (Lit.int .i64 a2).wf = true ∧ (Lit.int .i64 a3).wf = true ∧ (Lit.int .i64 a4).wf = true ∧ (Lit.int .i64 a5).wf = true ∧ (Lit.int .i64 a6).wf = true ∧ okInt b ∧ okAcls c ∧ okAcls d) :
    ∃ k, laws_FnExactUsedBlocks.f k a0 a1 a2 a3 a4 a5 a6 b c d = some true := by
  obtain ⟨_, _, _, _, _, _, _, hb0, hc0, hd0⟩ := h
  obtain ⟨t, ht, hs⟩ := szInode_ex a0 a1 a2 a3 a4 a5 a6 b c d hb0.1 hc0.1 hd0.1 1048576 (by omega) (by omega)
  apply Ev.rounds
  unfold laws_FnExactUsedBlocks.f
  refine Ev.bind0 ht ?_
  by_cases hn : t < 0
  · exact Ev.pos hn (Ev.now _)
  · obtain ⟨t0, t1, hb, hc, hd⟩ := hs.resolve_left hn
    have hcm : (c.map aclTo).length ≤ 1048576 := by rw [List.length_map]; omega
    have hdm : (d.map aclTo).length ≤ 1048576 := by rw [List.length_map]; omega
    have hul := usedM_length b
    have p := toInode_f a0 a1 a2 a3 a4 a5 a6 b c d (by omega) (by omega) (by omega)
    have ui := usedBlocks_impl a0 a1 a2 a3 a4 a5 a6 b (c.map aclTo) (d.map aclTo) (by omega)
    have eu := eqIntS_f (usedM b) (by omega)
    obtain ⟨r, hr, hr0⟩ := markInode_ex a0 a1 a2 a3 a4 a5 a6 b (c.map aclTo) (d.map aclTo) 1 (by omega) (by omega) (by omega) hcm hdm
    obtain ⟨m, l', hm1, hm2, hm3, hm4, hm5⟩ := markIntS_ex (usedM b) 1 (by omega) (by omega)
    refine Ev.neg hn (Ev.bind p (Ev.bind (usedBlocks_spec a0 a1 a2 a3 a4 a5 a6 b _ _ (by omega)) (Ev.bind p (Ev.bind ui (Ev.bind eu (Ev.pos rfl (Ev.bind p (Ev.bind (eqInode_f a0 a1 a2 a3 a4 a5 a6 b _ _ (by omega) hcm hdm) (Ev.pos rfl
      (Ev.bind hr (Ev.neg (by omega) (Ev.bind eu ?_))))))))))))
    exact Ev.step (fun _ => laws_FnExactUsedBlocks.j0.eq_2 ..) (Ev.neg (by decide) (Ev.bind hm1 (Ev.bind hm2 (Ev.neg (by omega) (Ev.pos rfl (Ev.bind p (Ev.bind ui (Ev.bind eu (Ev.pos rfl (Ev.bind hm2 (Ev.neg (by omega) (Ev.pos rfl (Ev.now _)))))))))))))

end Go.Proofs.Ytmnojegajblagaa.Pure
