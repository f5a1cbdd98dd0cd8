/- The law FnExactNextBlock holds for every input of its kind; no further condition. -/
import Derived.Test.YtnfiapcemafmiaaPFnExactNextBlockx17
import Derived.Test.YtnfiapcemafmiaaLibBase
import Derived.Test.YtnfiapcemafmiaaLibOpen
import Derived.Test.YtnfiapcemafmiaaLibAllEq
namespace Go.Proofs.Ytnfiapcemafmiaa.Pure
open Go.RowKit Go.Proofs.Ytnfiapcemafmiaa.PFnExactNextBlock Go.Proofs.Ytnfiapcemafmiaa.Lib Go.Proofs.YtnfiapcemafmiaaW.PrintWords Go.Proofs.YtnfiapcemafmiaaW.PrintLast Go.Proofs.YtnfiapcemafmiaaW.PrintMore
set_option linter.unusedVariables false
set_option linter.unusedSimpArgs false

def aclTo (x : S165) : S107 := ⟨x.f0, x.f1, x.f2⟩
theorem szAclEntryS_ex (l : List S165) (hl : l.length ≤ 9223372036854775807) (n : Int) (hn : 0 ≤ n) (hn' : n ≤ 1048576) : ∃ t, laws_szAclEntryS.f l n = some t ∧ (t < 0 ∨ ((l.length : Int) ≤ n ∧ t = n - (l.length : Int))) := by
  unfold laws_szAclEntryS.f
  rw [w64 (by omega) (by omega)]
  by_cases h : n - (l.length : Int) < 0
  · rw [if_pos h]
    exact ⟨-1, by simp, by omega⟩
  · rw [if_neg h]
    exact ⟨_, rfl, by omega⟩
theorem toAclEntryS_l (xs : List S165) (hx : xs.length ≤ 1048576) (l : List S165) : ∀ (i : Int) (ys : List S107), 0 ≤ i → xs.drop i.toNat = l → ys.length = xs.length → Ev (fun k => laws_toAclEntryS.l0 k xs ys i) (ys.take i.toNat ++ l.map aclTo) := by
  induction l with
  | nil =>
    intro i ys h0 h hy
    have := ldrop_nil h0 h
    rw [List.map_nil, List.append_nil, List.take_of_length_le (by omega)]
    exact Ev.step (fun _ => laws_toAclEntryS.l0.eq_2 ..) (Ev.neg (by omega) (Ev.now _))
  | cons x l ih =>
    intro i ys h0 h hy
    obtain ⟨a, b, c, e⟩ := ldrop_cons z165 h0 h
    refine Ev.step (fun _ => laws_toAclEntryS.l0.eq_2 ..) (Ev.pos a (Ev.pos h0 (Ev.bind0 rfl (Ev.pos (by omega) ?_))))
    have := ih (i + 1) (ys.set i.toNat (aclTo x)) (by omega) c (by rw [List.length_set]; exact hy)
    rw [set_take _ h0 (by omega), List.append_assoc] at this
    rw [w64 (by omega) (by omega), show rd_T165 xs i = x from b]
    exact this
theorem toAclEntryS_f (xs : List S165) (hx : xs.length ≤ 1048576) : Ev (fun k => laws_toAclEntryS.f k xs) (xs.map aclTo) := by
  unfold laws_toAclEntryS.f
  exact Ev.pos (by omega) (Ev.pos (by omega) (toAclEntryS_l xs hx xs 0 _ (by omega) rfl (by rw [List.length_replicate]; omega)))

theorem eqAclEntryS_l (d : Nat) : ∀ (i : Int) (l : List S107), 0 ≤ i → i + d = (l.length : Int) → l.length ≤ 1048576 → Ev (fun k => laws_eqAclEntryS.l0 k l l i) true := by
  induction d with
  | zero =>
    intro i l h0 hd hl
    exact Ev.step (fun _ => laws_eqAclEntryS.l0.eq_2 ..) (Ev.neg (by omega) (Ev.now _))
  | succ d ih =>
    intro i l h0 hd hl
    refine Ev.step (fun _ => laws_eqAclEntryS.l0.eq_2 ..) (Ev.pos (by omega) (Ev.pos h0 (Ev.pos (by omega) (Ev.bind0 (a := true) (by unfold laws_eqAclEntry.f; simp) (Ev.pos rfl ?_)))))
    rw [w64 (n := i + 1) (by omega) (by omega)]
    exact ih (i + 1) l (by omega) (by omega) hl
theorem eqAclEntryS_f (l : List S107) (hl : l.length ≤ 1048576) : Ev (fun k => laws_eqAclEntryS.f k l l) true := by
  unfold laws_eqAclEntryS.f
  exact Ev.pos rfl (eqAclEntryS_l l.length 0 l (by omega) (by omega) hl)

theorem toIntS_l (xs : List Int) (hx : xs.length ≤ 1048576) (l : List Int) : ∀ (i : Int) (ys : List Int), 0 ≤ i → xs.drop i.toNat = l → ys.length = xs.length → Ev (fun k => laws_toIntS.l0 k xs ys i) (ys.take i.toNat ++ l) := by
  induction l with
  | nil =>
    intro i ys h0 h hy
    have := ldrop_nil h0 h
    rw [List.append_nil, List.take_of_length_le (by omega)]
    exact Ev.step (fun _ => laws_toIntS.l0.eq_2 ..) (Ev.neg (by omega) (Ev.now _))
  | cons x l ih =>
    intro i ys h0 h hy
    obtain ⟨a, b, c, e⟩ := ldrop_cons (0 : Int) h0 h
    refine Ev.step (fun _ => laws_toIntS.l0.eq_2 ..) (Ev.pos a (Ev.pos h0 (Ev.pos (by omega) ?_)))
    have := ih (i + 1) (ys.set i.toNat (rd xs i)) (by omega) c (by rw [List.length_set]; exact hy)
    rw [set_take _ h0 (by omega), List.append_assoc, show rd xs i = x from b] at this
    rw [w64 (by omega) (by omega), show rd xs i = x from b]
    exact this
theorem toIntS_f (xs : List Int) (hx : xs.length ≤ 1048576) : Ev (fun k => laws_toIntS.f k xs) xs := by
  unfold laws_toIntS.f
  exact Ev.pos (by omega) (Ev.pos (by omega) (toIntS_l xs hx xs 0 _ (by omega) rfl (by rw [List.length_replicate]; omega)))

theorem eqIntS_l (d : Nat) : ∀ (i : Int) (l : List Int), 0 ≤ i → i + d = (l.length : Int) → l.length ≤ 1048576 → Ev (fun k => laws_eqIntS.l0 k l l i) true := by
  induction d with
  | zero =>
    intro i l h0 hd hl
    exact Ev.step (fun _ => laws_eqIntS.l0.eq_2 ..) (Ev.neg (by omega) (Ev.now _))
  | succ d ih =>
    intro i l h0 hd hl
    refine Ev.step (fun _ => laws_eqIntS.l0.eq_2 ..) (Ev.pos (by omega) (Ev.pos h0 (Ev.pos (by omega) (Ev.pos rfl ?_))))
    rw [w64 (n := i + 1) (by omega) (by omega)]
    exact ih (i + 1) l (by omega) (by omega) hl
theorem eqIntS_f (l : List Int) (hl : l.length ≤ 1048576) : Ev (fun k => laws_eqIntS.f k l l) true := by
  unfold laws_eqIntS.f
  exact Ev.pos rfl (eqIntS_l l.length 0 l (by omega) (by omega) hl)

def okInt (l : List Int) : Prop := l.length ≤ 9223372036854775807 ∧ ∀ x, x ∈ l → (Lit.int .i64 x).wf = true
def okAcls (l : List S165) : Prop := l.length ≤ 9223372036854775807 ∧ ∀ x, x ∈ l → (Lit.int .i64 x.f0).wf = true ∧ (Lit.int .i64 x.f1).wf = true ∧ (Lit.int .i64 x.f2).wf = true
/-- What is left of an inode's size, and what follows for its parts. -/
theorem szInode_ex (a0 a1 a2 a3 a4 a5 a6 : Int) (b : List Int) (c d : List S165) (hb : b.length ≤ 9223372036854775807) (hc : c.length ≤ 9223372036854775807) (hd : d.length ≤ 9223372036854775807) (left : Int) (hl : 0 ≤ left) (hl' : left ≤ 1048576) :
    ∃ t, laws_szInode.f a0 a1 a2 a3 a4 a5 a6 b c d left = some t ∧ (t < 0 ∨ 0 ≤ t ∧ t ≤ left ∧ (b.length : Int) ≤ left ∧ (c.length : Int) ≤ left ∧ (d.length : Int) ≤ left) := by
  unfold laws_szInode.f laws_szIntS.f
  rw [w64 (by omega) (by omega)]
  by_cases h1 : left - (b.length : Int) < 0
  · rw [if_pos h1, Option.bind_some, if_pos (by decide)]
    exact ⟨-1, rfl, by omega⟩
  · rw [if_neg h1, Option.bind_some, if_neg h1]
    obtain ⟨t, h2, h3⟩ := szAclEntryS_ex c hc (left - (b.length : Int)) (by omega) (by omega)
    rw [h2, Option.bind_some]
    by_cases h4 : t < 0
    · rw [if_pos h4]
      exact ⟨-1, rfl, by omega⟩
    · rw [if_neg h4]
      obtain ⟨u, h5, h6⟩ := szAclEntryS_ex d hd t (by omega) (by omega)
      rw [h5, Option.bind_some]
      by_cases h7 : u < 0
      · rw [if_pos h7]
        exact ⟨-1, rfl, by omega⟩
      · rw [if_neg h7]
        exact ⟨u, rfl, by omega⟩
theorem toInode_f (a0 a1 a2 a3 a4 a5 a6 : Int) (b : List Int) (c d : List S165) (hb : b.length ≤ 1048576) (hc : c.length ≤ 1048576) (hd : d.length ≤ 1048576) :
    Ev (fun k => laws_toInode.f k a0 a1 a2 a3 a4 a5 a6 b c d) (a0, a1, a2, a3, a4, a5, a6, b, c.map aclTo, d.map aclTo) := by
  unfold laws_toInode.f
  exact Ev.bind (toIntS_f b hb) (Ev.bind (toAclEntryS_f c hc) (Ev.bind (toAclEntryS_f d hd) (Ev.now _)))
theorem eqInode_f (a0 a1 a2 a3 a4 a5 a6 : Int) (b : List Int) (c d : List S107) (hb : b.length ≤ 1048576) (hc : c.length ≤ 1048576) (hd : d.length ≤ 1048576) :
    Ev (fun k => laws_eqInode.f k a0 a1 a2 a3 a4 a5 a6 b c d a0 a1 a2 a3 a4 a5 a6 b c d) true := by
  unfold laws_eqInode.f
  exact Ev.pos rfl (Ev.pos rfl (Ev.pos rfl (Ev.pos rfl (Ev.pos rfl (Ev.pos rfl (Ev.pos rfl (Ev.bind (eqIntS_f b hb) (Ev.pos rfl (Ev.bind (eqAclEntryS_f c hc) (Ev.pos rfl (Ev.bind (eqAclEntryS_f d hd) (Ev.pos rfl (Ev.now _)))))))))))))

def inTo (x : S121) : S25 := ⟨x.f0, x.f1, x.f2, x.f3, x.f4, x.f5, x.f6, x.f7, x.f8.map aclTo, x.f9.map aclTo⟩
def okIno (x : S121) : Prop := (Lit.int .i64 x.f0).wf = true ∧ (Lit.int .i64 x.f1).wf = true ∧ (Lit.int .i64 x.f2).wf = true ∧ (Lit.int .i64 x.f3).wf = true ∧ (Lit.int .i64 x.f4).wf = true ∧ (Lit.int .i64 x.f5).wf = true ∧ (Lit.int .i64 x.f6).wf = true ∧ okInt x.f7 ∧ okAcls x.f8 ∧ okAcls x.f9
def shIn (x : S25) : Prop := x.f7.length ≤ 1048576 ∧ x.f8.length ≤ 1048576 ∧ x.f9.length ≤ 1048576
def shInL (x : S121) : Prop := x.f7.length ≤ 1048576 ∧ x.f8.length ≤ 1048576 ∧ x.f9.length ≤ 1048576
theorem shIn_to {x : S121} (h : shInL x) : shIn (inTo x) := ⟨h.1, by show (x.f8.map aclTo).length ≤ _; rw [List.length_map]; exact h.2.1, by show (x.f9.map aclTo).length ≤ _; rw [List.length_map]; exact h.2.2⟩
theorem mem_of_drop {α : Type} {xs l : List α} {x : α} {n : Nat} (h : xs.drop n = x :: l) : x ∈ xs := List.mem_of_mem_drop (by rw [h]; exact List.mem_cons_self ..)
theorem szInodeS_l (xs : List S121) (hx : xs.length ≤ 1048576) (hs : ∀ x, x ∈ xs → okIno x) (l : List S121) : ∀ (i left : Int), 0 ≤ i → xs.drop i.toNat = l → 0 ≤ left → left ≤ 1048576 →
    ∃ t, Ev (fun k => laws_szInodeS.l0 k xs left i) t ∧ (t < 0 ∨ 0 ≤ t ∧ t ≤ left ∧ ∀ x, x ∈ l → shInL x) := by
  induction l with
  | nil =>
    intro i left h0 h hl hl'
    have := ldrop_nil h0 h
    exact ⟨left, Ev.step (fun _ => laws_szInodeS.l0.eq_2 ..) (Ev.neg (by omega) (Ev.now _)), Or.inr ⟨hl, by omega, fun s h => by cases h⟩⟩
  | cons x l ih =>
    intro i left h0 h hl hl'
    obtain ⟨a, b, c, e⟩ := ldrop_cons z121 h0 h
    have hr : rd_T121 xs i = x := b
    obtain ⟨_, _, _, _, _, _, _, p, q, r⟩ := hs x (mem_of_drop h)
    obtain ⟨t, h1, h2⟩ := szInode_ex x.f0 x.f1 x.f2 x.f3 x.f4 x.f5 x.f6 x.f7 x.f8 x.f9 p.1 q.1 r.1 left hl hl'
    by_cases hneg : t < 0
    · refine ⟨-1, Ev.step (fun _ => laws_szInodeS.l0.eq_2 ..) (Ev.pos a (Ev.pos h0 ?_)), by omega⟩
      rw [hr]
      exact Ev.bind0 h1 (Ev.pos hneg (Ev.now _))
    · obtain ⟨g0, g1, g2, g3, g4⟩ := h2.resolve_left hneg
      obtain ⟨u, h3, h4⟩ := ih (i + 1) t (by omega) c g0 (by omega)
      refine ⟨u, Ev.step (fun _ => laws_szInodeS.l0.eq_2 ..) (Ev.pos a (Ev.pos h0 ?_)), ?_⟩
      · rw [hr, w64 (n := i + 1) (by omega) (by omega)]
        exact Ev.bind0 h1 (Ev.neg hneg h3)
      · rcases h4 with h4 | ⟨h4, h5, h6⟩
        · exact Or.inl h4
        · refine Or.inr ⟨h4, by omega, fun s hs => ?_⟩
          rcases List.mem_cons.1 hs with hs | hs
          · subst hs
            exact ⟨by omega, by omega, by omega⟩
          · exact h6 s hs
theorem szInodeS_ex (xs : List S121) (hx : xs.length ≤ 9223372036854775807) (hs : ∀ x, x ∈ xs → okIno x) (left : Int) (hl : 0 ≤ left) (hl' : left ≤ 1048576) :
    ∃ t, Ev (fun k => laws_szInodeS.f k xs left) t ∧ (t < 0 ∨ 0 ≤ t ∧ t ≤ left ∧ (xs.length : Int) ≤ left ∧ ∀ x, x ∈ xs → shInL x) := by
  unfold laws_szInodeS.f
  rw [w64 (n := left - (xs.length : Int)) (by omega) (by omega)]
  by_cases hneg : left - (xs.length : Int) < 0
  · exact ⟨-1, Ev.pos hneg (Ev.now _), by omega⟩
  · obtain ⟨t, h1, h2⟩ := szInodeS_l xs (by omega) hs xs 0 (left - (xs.length : Int)) (by omega) rfl (by omega) (by omega)
    refine ⟨t, Ev.neg hneg h1, ?_⟩
    rcases h2 with h2 | ⟨h2, h3, h4⟩
    · exact Or.inl h2
    · exact Or.inr ⟨h2, by omega, by omega, h4⟩
theorem toInodeS_l (xs : List S121) (hx : xs.length ≤ 1048576) (hs : ∀ x, x ∈ xs → shInL x) (l : List S121) : ∀ (i : Int) (ys : List S25), 0 ≤ i → xs.drop i.toNat = l → ys.length = xs.length → Ev (fun k => laws_toInodeS.l0 k xs ys i) (ys.take i.toNat ++ l.map inTo) := by
  induction l with
  | nil =>
    intro i ys h0 h hy
    have := ldrop_nil h0 h
    rw [List.map_nil, List.append_nil, List.take_of_length_le (by omega)]
    exact Ev.step (fun _ => laws_toInodeS.l0.eq_2 ..) (Ev.neg (by omega) (Ev.now _))
  | cons x l ih =>
    intro i ys h0 h hy
    obtain ⟨a, b, c, e⟩ := ldrop_cons z121 h0 h
    have hr : rd_T121 xs i = x := b
    obtain ⟨p, q, r⟩ := hs x (mem_of_drop h)
    have := ih (i + 1) (ys.set i.toNat (inTo x)) (by omega) c (by rw [List.length_set]; exact hy)
    rw [set_take _ h0 (by omega), List.append_assoc] at this
    refine Ev.step (fun _ => laws_toInodeS.l0.eq_2 ..) (Ev.pos a (Ev.pos h0 ?_))
    rw [hr, w64 (n := i + 1) (by omega) (by omega)]
    exact Ev.bind (toInode_f x.f0 x.f1 x.f2 x.f3 x.f4 x.f5 x.f6 x.f7 x.f8 x.f9 p q r) (Ev.pos (by omega) this)
theorem toInodeS_f (xs : List S121) (hx : xs.length ≤ 1048576) (hs : ∀ x, x ∈ xs → shInL x) : Ev (fun k => laws_toInodeS.f k xs) (xs.map inTo) := by
  unfold laws_toInodeS.f
  exact Ev.pos (by omega) (Ev.pos (by omega) (toInodeS_l xs hx hs xs 0 _ (by omega) rfl (by rw [List.length_replicate]; omega)))
theorem eqInodeS_l (xs : List S25) (hx : xs.length ≤ 1048576) (hs : ∀ x, x ∈ xs → shIn x) (l : List S25) : ∀ (i : Int), 0 ≤ i → xs.drop i.toNat = l → Ev (fun k => laws_eqInodeS.l0 k xs xs i) true := by
  induction l with
  | nil =>
    intro i h0 h
    have := ldrop_nil h0 h
    exact Ev.step (fun _ => laws_eqInodeS.l0.eq_2 ..) (Ev.neg (by omega) (Ev.now _))
  | cons x l ih =>
    intro i h0 h
    obtain ⟨a, b, c, e⟩ := ldrop_cons z25 h0 h
    have hr : rd_T25 xs i = x := b
    obtain ⟨p, q, r⟩ := hs x (mem_of_drop h)
    refine Ev.step (fun _ => laws_eqInodeS.l0.eq_2 ..) (Ev.pos a (Ev.pos h0 (Ev.pos a ?_)))
    rw [hr, w64 (n := i + 1) (by omega) (by omega)]
    exact Ev.bind (eqInode_f x.f0 x.f1 x.f2 x.f3 x.f4 x.f5 x.f6 x.f7 x.f8 x.f9 p q r) (Ev.pos rfl (ih (i + 1) (by omega) c))
theorem eqInodeS_f (xs : List S25) (hx : xs.length ≤ 1048576) (hs : ∀ x, x ∈ xs → shIn x) : Ev (fun k => laws_eqInodeS.f k xs xs) true := by
  unfold laws_eqInodeS.f
  exact Ev.pos rfl (eqInodeS_l xs hx hs xs 0 (by omega) rfl)

def quTo (x : S123) : S112 := ⟨x.f0, x.f1⟩
theorem szQuotaS_ex (l : List S123) (hl : l.length ≤ 9223372036854775807) (n : Int) (hn : 0 ≤ n) (hn' : n ≤ 1048576) : ∃ t, laws_szQuotaS.f l n = some t ∧ (t < 0 ∨ ((l.length : Int) ≤ n ∧ t = n - (l.length : Int))) := by
  unfold laws_szQuotaS.f
  rw [w64 (by omega) (by omega)]
  by_cases h : n - (l.length : Int) < 0
  · rw [if_pos h]
    exact ⟨-1, by simp, by omega⟩
  · rw [if_neg h]
    exact ⟨_, rfl, by omega⟩
theorem toQuotaS_l (xs : List S123) (hx : xs.length ≤ 1048576) (l : List S123) : ∀ (i : Int) (ys : List S112), 0 ≤ i → xs.drop i.toNat = l → ys.length = xs.length → Ev (fun k => laws_toQuotaS.l0 k xs ys i) (ys.take i.toNat ++ l.map quTo) := by
  induction l with
  | nil =>
    intro i ys h0 h hy
    have := ldrop_nil h0 h
    rw [List.map_nil, List.append_nil, List.take_of_length_le (by omega)]
    exact Ev.step (fun _ => laws_toQuotaS.l0.eq_2 ..) (Ev.neg (by omega) (Ev.now _))
  | cons x l ih =>
    intro i ys h0 h hy
    obtain ⟨a, b, c, e⟩ := ldrop_cons z123 h0 h
    refine Ev.step (fun _ => laws_toQuotaS.l0.eq_2 ..) (Ev.pos a (Ev.pos h0 (Ev.bind0 rfl (Ev.pos (by omega) ?_))))
    have := ih (i + 1) (ys.set i.toNat (quTo x)) (by omega) c (by rw [List.length_set]; exact hy)
    rw [set_take _ h0 (by omega), List.append_assoc] at this
    rw [w64 (by omega) (by omega), show rd_T123 xs i = x from b]
    exact this
theorem toQuotaS_f (xs : List S123) (hx : xs.length ≤ 1048576) : Ev (fun k => laws_toQuotaS.f k xs) (xs.map quTo) := by
  unfold laws_toQuotaS.f
  exact Ev.pos (by omega) (Ev.pos (by omega) (toQuotaS_l xs hx xs 0 _ (by omega) rfl (by rw [List.length_replicate]; omega)))
theorem eqQuotaS_l (d : Nat) : ∀ (i : Int) (l : List S112), 0 ≤ i → i + d = (l.length : Int) → (l.length : Int) ≤ 4611686018427387904 → Ev (fun k => laws_eqQuotaS.l0 k l l i) true := by
  induction d with
  | zero =>
    intro i l h0 hd hl
    exact Ev.step (fun _ => laws_eqQuotaS.l0.eq_2 ..) (Ev.neg (by omega) (Ev.now _))
  | succ d ih =>
    intro i l h0 hd hl
    refine Ev.step (fun _ => laws_eqQuotaS.l0.eq_2 ..) (Ev.pos (by omega) (Ev.pos h0 (Ev.pos (by omega) (Ev.bind0 (a := true) (by unfold laws_eqQuota.f; simp) (Ev.pos rfl ?_)))))
    rw [w64 (n := i + 1) (by omega) (by omega)]
    exact ih (i + 1) l (by omega) (by omega) hl
theorem eqQuotaS_f (l : List S112) (hl : (l.length : Int) ≤ 4611686018427387904) : Ev (fun k => laws_eqQuotaS.f k l l) true := by
  unfold laws_eqQuotaS.f
  exact Ev.pos rfl (eqQuotaS_l l.length 0 l (by omega) (by omega) hl)

theorem szStringS_l (xs : List ByteArray) (hx : xs.length ≤ 1048576) (hs : ∀ s, s ∈ xs → s.size ≤ 9223372036854775807) (l : List ByteArray) : ∀ (i left : Int), 0 ≤ i → xs.drop i.toNat = l → 0 ≤ left → left ≤ 1048576 →
    ∃ t, Ev (fun k => laws_szStringS.l0 k xs left i) t ∧ (t < 0 ∨ 0 ≤ t ∧ t ≤ left ∧ ∀ s, s ∈ l → (s.size : Int) ≤ left) := by
  induction l with
  | nil =>
    intro i left h0 h hl hl'
    have := ldrop_nil h0 h
    exact ⟨left, Ev.step (fun _ => laws_szStringS.l0.eq_2 ..) (Ev.neg (by omega) (Ev.now _)), Or.inr ⟨hl, by omega, fun s h => by cases h⟩⟩
  | cons x l ih =>
    intro i left h0 h hl hl'
    obtain ⟨a, b, c, e⟩ := ldrop_cons ByteArray.empty h0 h
    have hxs : x.size ≤ 9223372036854775807 := hs x (by
      have : x ∈ xs.drop i.toNat := by rw [h]; exact List.mem_cons_self ..
      exact List.mem_of_mem_drop this)
    by_cases hneg : left - (x.size : Int) < 0
    · refine ⟨-1, Ev.step (fun _ => laws_szStringS.l0.eq_2 ..) (Ev.pos a (Ev.pos h0 ?_)), by omega⟩
      rw [b, w64 (n := left - (x.size : Int)) (by omega) (by omega)]
      exact Ev.pos hneg (Ev.now _)
    · obtain ⟨t, h1, h2⟩ := ih (i + 1) (left - (x.size : Int)) (by omega) c (by omega) (by omega)
      refine ⟨t, Ev.step (fun _ => laws_szStringS.l0.eq_2 ..) (Ev.pos a (Ev.pos h0 ?_)), ?_⟩
      · rw [b, w64 (n := left - (x.size : Int)) (by omega) (by omega), w64 (n := i + 1) (by omega) (by omega)]
        exact Ev.neg hneg h1
      · rcases h2 with h2 | ⟨h2, h3, h4⟩
        · exact Or.inl h2
        · refine Or.inr ⟨h2, by omega, fun s hs => ?_⟩
          rcases List.mem_cons.1 hs with hs | hs
          · subst hs
            omega
          · have := h4 s hs
            omega
theorem szStringS_ex (xs : List ByteArray) (hx : xs.length ≤ 9223372036854775807) (hs : ∀ s, s ∈ xs → s.size ≤ 9223372036854775807) (left : Int) (hl : 0 ≤ left) (hl' : left ≤ 1048576) :
    ∃ t, Ev (fun k => laws_szStringS.f k xs left) t ∧ (t < 0 ∨ 0 ≤ t ∧ t ≤ left ∧ (xs.length : Int) ≤ left ∧ ∀ s, s ∈ xs → (s.size : Int) ≤ left) := by
  unfold laws_szStringS.f
  rw [w64 (n := left - (xs.length : Int)) (by omega) (by omega)]
  by_cases hneg : left - (xs.length : Int) < 0
  · exact ⟨-1, Ev.pos hneg (Ev.now _), by omega⟩
  · obtain ⟨t, h1, h2⟩ := szStringS_l xs (by omega) hs xs 0 (left - (xs.length : Int)) (by omega) rfl (by omega) (by omega)
    refine ⟨t, Ev.neg hneg h1, ?_⟩
    rcases h2 with h2 | ⟨h2, h3, h4⟩
    · exact Or.inl h2
    · exact Or.inr ⟨h2, by omega, by omega, fun s hs => by have := h4 s hs; omega⟩

theorem toStringS_l (xs : List ByteArray) (hx : xs.length ≤ 1048576) (l : List ByteArray) : ∀ (i : Int) (ys : List ByteArray), 0 ≤ i → xs.drop i.toNat = l → ys.length = xs.length → Ev (fun k => laws_toStringS.l0 k xs ys i) (ys.take i.toNat ++ l) := by
  induction l with
  | nil =>
    intro i ys h0 h hy
    have := ldrop_nil h0 h
    rw [List.append_nil, List.take_of_length_le (by omega)]
    exact Ev.step (fun _ => laws_toStringS.l0.eq_2 ..) (Ev.neg (by omega) (Ev.now _))
  | cons x l ih =>
    intro i ys h0 h hy
    obtain ⟨a, b, c, e⟩ := ldrop_cons ByteArray.empty h0 h
    refine Ev.step (fun _ => laws_toStringS.l0.eq_2 ..) (Ev.pos a (Ev.pos h0 (Ev.pos (by omega) ?_)))
    have := ih (i + 1) (ys.set i.toNat x) (by omega) c (by rw [List.length_set]; exact hy)
    rw [set_take _ h0 (by omega), List.append_assoc] at this
    rw [w64 (by omega) (by omega), b]
    exact this
theorem toStringS_f (xs : List ByteArray) (hx : xs.length ≤ 1048576) : Ev (fun k => laws_toStringS.f k xs) xs := by
  unfold laws_toStringS.f
  exact Ev.pos (by omega) (Ev.pos (by omega) (toStringS_l xs hx xs 0 _ (by omega) rfl (by rw [List.length_replicate]; omega)))

theorem eqStringS_refl_l (d : Nat) : ∀ (i : Int) (l : List ByteArray), 0 ≤ i → i + d = (l.length : Int) → (l.length : Int) ≤ 4611686018427387904 → Ev (fun k => laws_eqStringS.l0 k l l i) true := by
  induction d with
  | zero =>
    intro i l h0 hd hl
    exact Ev.step (fun _ => laws_eqStringS.l0.eq_2 ..) (Ev.neg (by omega) (Ev.now _))
  | succ d ih =>
    intro i l h0 hd hl
    refine Ev.step (fun _ => laws_eqStringS.l0.eq_2 ..) (Ev.pos (by omega) (Ev.pos h0 (Ev.pos (by omega) (Ev.pos rfl ?_))))
    rw [w64 (n := i + 1) (by omega) (by omega)]
    exact ih (i + 1) l (by omega) (by omega) hl
theorem eqStringS_refl (l : List ByteArray) (hl : (l.length : Int) ≤ 4611686018427387904) : Ev (fun k => laws_eqStringS.f k l l) true := by
  unfold laws_eqStringS.f
  exact Ev.pos rfl (eqStringS_refl_l l.length 0 l (by omega) (by omega) hl)

def okFS (t : Int) (q : List S123) (n : List S121) (d : List ByteArray) : Prop := (Lit.int .i64 t).wf = true ∧ (q.length ≤ 9223372036854775807 ∧ ∀ x, x ∈ q → (Lit.int .i64 x.f0).wf = true ∧ (Lit.int .i64 x.f1).wf = true) ∧ (n.length ≤ 9223372036854775807 ∧ ∀ x, x ∈ n → okIno x) ∧ (d.length ≤ 9223372036854775807 ∧ ∀ s, s ∈ d → s.size ≤ 9223372036854775807)
theorem szFS_ex (t : Int) (q : List S123) (n : List S121) (d : List ByteArray) (h : okFS t q n d) (left : Int) (hl : 0 ≤ left) (hl' : left ≤ 1048576) :
    ∃ u, Ev (fun k => laws_szFS.f k t q n d left) u ∧ (u < 0 ∨ 0 ≤ u ∧ u ≤ left ∧ q.length ≤ 1048576 ∧ n.length ≤ 1048576 ∧ d.length ≤ 1048576 ∧ (∀ x, x ∈ n → shInL x) ∧ ∀ s, s ∈ d → s.size ≤ 1048576) := by
  obtain ⟨_, hq, hn, hd⟩ := h
  unfold laws_szFS.f
  obtain ⟨u1, a1, b1⟩ := szQuotaS_ex q hq.1 left hl hl'
  by_cases c1 : u1 < 0
  · exact ⟨-1, Ev.bind0 a1 (Ev.pos c1 (Ev.now _)), by omega⟩
  · obtain ⟨d1, d2⟩ := b1.resolve_left c1
    obtain ⟨u2, a2, b2⟩ := szInodeS_ex n hn.1 hn.2 u1 (by omega) (by omega)
    by_cases c2 : u2 < 0
    · exact ⟨-1, Ev.bind0 a1 (Ev.neg c1 (Ev.bind a2 (Ev.pos c2 (Ev.now _)))), by omega⟩
    · obtain ⟨e1, e2, e3, e4⟩ := b2.resolve_left c2
      obtain ⟨u3, a3, b3⟩ := szStringS_ex d hd.1 hd.2 u2 e1 (by omega)
      by_cases c3 : u3 < 0
      · exact ⟨-1, Ev.bind0 a1 (Ev.neg c1 (Ev.bind a2 (Ev.neg c2 (Ev.bind a3 (Ev.pos c3 (Ev.now _)))))), by omega⟩
      · obtain ⟨f1, f2, f3, f4⟩ := b3.resolve_left c3
        exact ⟨u3, Ev.bind0 a1 (Ev.neg c1 (Ev.bind a2 (Ev.neg c2 (Ev.bind a3 (Ev.neg c3 (Ev.now _)))))), Or.inr ⟨f1, by omega, by omega, by omega, by omega, e4, fun s hs => by have := f4 s hs; omega⟩⟩
theorem toFS_f (t : Int) (q : List S123) (n : List S121) (d : List ByteArray) (hq : q.length ≤ 1048576) (hn : n.length ≤ 1048576) (hd : d.length ≤ 1048576) (hs : ∀ x, x ∈ n → shInL x) : Ev (fun k => laws_toFS.f k t q n d) (t, q.map quTo, n.map inTo, d) := by
  unfold laws_toFS.f
  exact Ev.bind (toQuotaS_f q hq) (Ev.bind (toInodeS_f n hn hs) (Ev.bind (toStringS_f d hd) (Ev.now _)))
theorem eqFS_f (t : Int) (q : List S112) (n : List S25) (d : List ByteArray) (hq : q.length ≤ 1048576) (hn : n.length ≤ 1048576) (hd : d.length ≤ 1048576) (hs : ∀ x, x ∈ n → shIn x) : Ev (fun k => laws_eqFS.f k t q n d t q n d) true := by
  unfold laws_eqFS.f
  exact Ev.pos rfl (Ev.bind (eqQuotaS_f q (by omega)) (Ev.pos rfl (Ev.bind (eqInodeS_f n hn hs) (Ev.pos rfl (Ev.bind (eqStringS_refl d (by omega)) (Ev.pos rfl (Ev.now _)))))))
theorem shIn_map {n : List S121} (hs : ∀ x, x ∈ n → shInL x) : ∀ x, x ∈ n.map inTo → shIn x := by
  intro x hx
  obtain ⟨y, hy, rfl⟩ := List.mem_map.1 hx
  exact shIn_to (hs y hy)

theorem spec_l02Same_l (a b : List Int) (ha : a.length ≤ 1048576) (hab : a.length = b.length) (l : List Int) : ∀ (i : Int) (m : List Int), 0 ≤ i → a.drop i.toNat = l → b.drop i.toNat = m → Ev (fun k => spec_l02Same.l0 k b a (a.length : Int) i) (allEq intEq l m) := by
  induction l with
  | nil =>
    intro i m h0 h h'
    have h1 := ldrop_nil h0 h
    have hm : m = [] := by rw [← h']; exact List.drop_eq_nil_of_le (by omega)
    rw [hm]
    exact Ev.step (fun _ => spec_l02Same.l0.eq_2 ..) (Ev.neg (by omega) (Ev.now _))
  | cons x l ih =>
    intro i m h0 h h'
    obtain ⟨p, q, c, e⟩ := ldrop_cons (0 : Int) h0 h
    cases m with
    | nil =>
      have := ldrop_nil h0 h'
      omega
    | cons y m =>
      obtain ⟨p', q', c', e'⟩ := ldrop_cons (0 : Int) h0 h'
      have this := ih (i + 1) m (by omega) c c'
      have hq : rd a i = x := q
      have hq' : rd b i = y := q'
      refine Ev.step (fun _ => spec_l02Same.l0.eq_2 ..) (Ev.pos p (Ev.pos h0 (Ev.pos p (Ev.pos p' ?_))))
      rw [hq, hq', w64 (n := i + 1) (by omega) (by omega), allEq]
      by_cases hxy : x = y
      · rw [show intEq x y = true from decide_eq_true hxy, Bool.true_and]
        exact Ev.pos hxy this
      · rw [show intEq x y = false from decide_eq_false hxy, Bool.false_and]
        exact Ev.neg hxy (Ev.now _)
theorem spec_l02Same_f (a b : List Int) (ha : a.length ≤ 1048576) : Ev (fun k => spec_l02Same.f k a b) (allEq intEq a b) := by
  unfold spec_l02Same.f
  by_cases h : (a.length : Int) = (b.length : Int)
  · exact Ev.pos h (spec_l02Same_l a b ha (by omega) a 0 b (by omega) rfl rfl)
  · rw [allEq_len a b (by omega)]
    exact Ev.neg h (Ev.now _)

def aclEq (x y : S107) : Bool := decide (x.f0 = y.f0 ∧ x.f1 = y.f1 ∧ x.f2 = y.f2)
theorem aclEq_refl (x : S107) : aclEq x x = true := decide_eq_true ⟨rfl, rfl, rfl⟩
theorem aclEq_cond (x y : S107) : ((!(x.f0 == y.f0) || (!(x.f1 == y.f1) || !(x.f2 == y.f2))) = true) ↔ ¬ (aclEq x y = true) := by
  unfold aclEq
  simp only [Bool.or_eq_true, Bool.not_eq_true', beq_eq_false_iff_ne, decide_eq_true_eq, ne_eq]
  omega

theorem spec_l05Same_l (a b : List S107) (ha : a.length ≤ 1048576) (hab : a.length = b.length) (l : List S107) : ∀ (i : Int) (m : List S107), 0 ≤ i → a.drop i.toNat = l → b.drop i.toNat = m → Ev (fun k => spec_l05Same.l0 k b a (a.length : Int) i) (allEq aclEq l m) := by
  induction l with
  | nil =>
    intro i m h0 h h'
    have h1 := ldrop_nil h0 h
    have hm : m = [] := by rw [← h']; exact List.drop_eq_nil_of_le (by omega)
    rw [hm]
    exact Ev.step (fun _ => spec_l05Same.l0.eq_2 ..) (Ev.neg (by omega) (Ev.now _))
  | cons x l ih =>
    intro i m h0 h h'
    obtain ⟨p, q, c, e⟩ := ldrop_cons z107 h0 h
    cases m with
    | nil =>
      have := ldrop_nil h0 h'
      omega
    | cons y m =>
      obtain ⟨p', q', c', e'⟩ := ldrop_cons z107 h0 h'
      have this := ih (i + 1) m (by omega) c c'
      have hq : rd_T107 a i = x := q
      have hq' : rd_T107 b i = y := q'
      refine Ev.step (fun _ => spec_l05Same.l0.eq_2 ..) (Ev.pos p (Ev.pos h0 (Ev.pos p (Ev.pos p' ?_))))
      rw [hq, hq', w64 (n := i + 1) (by omega) (by omega), allEq]
      by_cases hxy : aclEq x y = true
      · rw [hxy, Bool.true_and]
        exact Ev.neg (fun h => (aclEq_cond x y).1 h hxy) this
      · rw [show aclEq x y = false by simpa using hxy, Bool.false_and]
        exact Ev.pos ((aclEq_cond x y).2 hxy) (Ev.now _)
theorem spec_l05Same_f (a b : List S107) (ha : a.length ≤ 1048576) : Ev (fun k => spec_l05Same.f k a b) (allEq aclEq a b) := by
  unfold spec_l05Same.f
  by_cases h : (a.length : Int) = (b.length : Int)
  · exact Ev.pos h (spec_l05Same_l a b ha (by omega) a 0 b (by omega) rfl rfl)
  · rw [allEq_len a b (by omega)]
    exact Ev.neg h (Ev.now _)

theorem slices_Equal_int_int_l (a b : List Int) (ha : a.length ≤ 1048576) (hab : a.length = b.length) (l : List Int) : ∀ (i : Int) (m : List Int), 0 ≤ i → a.drop i.toNat = l → b.drop i.toNat = m → Ev (fun k => slices_Equal_int_int.l0 k a b (a.length : Int) i) (allEq intEq l m) := by
  induction l with
  | nil =>
    intro i m h0 h h'
    have h1 := ldrop_nil h0 h
    have hm : m = [] := by rw [← h']; exact List.drop_eq_nil_of_le (by omega)
    rw [hm]
    exact Ev.step (fun _ => slices_Equal_int_int.l0.eq_2 ..) (Ev.neg (by omega) (Ev.now _))
  | cons x l ih =>
    intro i m h0 h h'
    obtain ⟨p, q, c, e⟩ := ldrop_cons (0 : Int) h0 h
    cases m with
    | nil =>
      have := ldrop_nil h0 h'
      omega
    | cons y m =>
      obtain ⟨p', q', c', e'⟩ := ldrop_cons (0 : Int) h0 h'
      have this := ih (i + 1) m (by omega) c c'
      have hq : rd a i = x := q
      have hq' : rd b i = y := q'
      refine Ev.step (fun _ => slices_Equal_int_int.l0.eq_2 ..) (Ev.pos p (Ev.pos h0 (Ev.pos p (Ev.pos p' ?_))))
      rw [hq, hq', w64 (n := i + 1) (by omega) (by omega), allEq]
      by_cases hxy : x = y
      · rw [show intEq x y = true from decide_eq_true hxy, Bool.true_and]
        exact Ev.pos hxy this
      · rw [show intEq x y = false from decide_eq_false hxy, Bool.false_and]
        exact Ev.neg hxy (Ev.now _)
theorem slices_Equal_int_int_f (a b : List Int) (ha : a.length ≤ 1048576) : Ev (fun k => slices_Equal_int_int.f k a b) (allEq intEq a b) := by
  unfold slices_Equal_int_int.f
  by_cases h : (a.length : Int) = (b.length : Int)
  · exact Ev.pos h (slices_Equal_int_int_l a b ha (by omega) a 0 b (by omega) rfl rfl)
  · rw [allEq_len a b (by omega)]
    exact Ev.neg h (Ev.now _)

theorem impl_AclEntry_l (a b : List S107) (ha : a.length ≤ 1048576) (hab : a.length = b.length) (l : List S107) : ∀ (i : Int) (m : List S107), 0 ≤ i → a.drop i.toNat = l → b.drop i.toNat = m → Ev (fun k => impl_AclEntry.l0 k a b (a.length : Int) i) (allEq aclEq l m) := by
  induction l with
  | nil =>
    intro i m h0 h h'
    have h1 := ldrop_nil h0 h
    have hm : m = [] := by rw [← h']; exact List.drop_eq_nil_of_le (by omega)
    rw [hm]
    exact Ev.step (fun _ => impl_AclEntry.l0.eq_2 ..) (Ev.neg (by omega) (Ev.now _))
  | cons x l ih =>
    intro i m h0 h h'
    obtain ⟨p, q, c, e⟩ := ldrop_cons z107 h0 h
    cases m with
    | nil =>
      have := ldrop_nil h0 h'
      omega
    | cons y m =>
      obtain ⟨p', q', c', e'⟩ := ldrop_cons z107 h0 h'
      have this := ih (i + 1) m (by omega) c c'
      have hq : rd_T107 a i = x := q
      have hq' : rd_T107 b i = y := q'
      refine Ev.step (fun _ => impl_AclEntry.l0.eq_2 ..) (Ev.pos p (Ev.pos h0 (Ev.pos p (Ev.pos p' ?_))))
      rw [hq, hq', w64 (n := i + 1) (by omega) (by omega), allEq]
      by_cases hxy : aclEq x y = true
      · rw [hxy, Bool.true_and]
        exact Ev.neg (fun h => (aclEq_cond x y).1 h hxy) this
      · rw [show aclEq x y = false by simpa using hxy, Bool.false_and]
        exact Ev.pos ((aclEq_cond x y).2 hxy) (Ev.now _)
theorem impl_AclEntry_f (a b : List S107) (ha : a.length ≤ 1048576) : Ev (fun k => impl_AclEntry.f k a b) (allEq aclEq a b) := by
  unfold impl_AclEntry.f
  by_cases h : (a.length : Int) = (b.length : Int)
  · exact Ev.pos h (impl_AclEntry_l a b ha (by omega) a 0 b (by omega) rfl rfl)
  · rw [allEq_len a b (by omega)]
    exact Ev.neg h (Ev.now _)

def sameInodeM (a0 a1 a2 a3 a4 a5 a6 : Int) (b : List Int) (c d : List S107) (x0 x1 x2 x3 x4 x5 x6 : Int) (y : List Int) (z w : List S107) : Bool :=
  if a0 = x0 ∧ a1 = x1 ∧ a2 = x2 ∧ a3 = x3 ∧ a4 = x4 ∧ a5 = x5 ∧ a6 = x6 then (if allEq intEq b y = true then (if allEq aclEq c z = true then allEq aclEq d w else false) else false) else false
theorem sameInode_spec (a0 a1 a2 a3 a4 a5 a6 : Int) (b : List Int) (c d : List S107) (x0 x1 x2 x3 x4 x5 x6 : Int) (y : List Int) (z w : List S107) (hb : b.length ≤ 1048576) (hc : c.length ≤ 1048576) (hd : d.length ≤ 1048576) :
    Ev (fun k => spec_SameInode.f k a0 a1 a2 a3 a4 a5 a6 b c d x0 x1 x2 x3 x4 x5 x6 y z w) (sameInodeM a0 a1 a2 a3 a4 a5 a6 b c d x0 x1 x2 x3 x4 x5 x6 y z w) := by
  unfold spec_SameInode.f
  refine Ev.bind (spec_l02Same_f b y hb) (Ev.bind (spec_l05Same_f c z hc) (Ev.bind (spec_l05Same_f d w hd) (Ev.ofEq (congrArg some ?_))))
  unfold sameInodeM
  by_cases h : a0 = x0 ∧ a1 = x1 ∧ a2 = x2 ∧ a3 = x3 ∧ a4 = x4 ∧ a5 = x5 ∧ a6 = x6
  · rw [if_pos h]
    obtain ⟨rfl, rfl, rfl, rfl, rfl, rfl, rfl⟩ := h
    simp only [bne_self_eq_false]
    cases allEq intEq b y <;> cases allEq aclEq c z <;> simp
  · rw [if_neg h, show (a0 != x0 || a1 != x1 || a2 != x2 || a3 != x3 || a4 != x4 || a5 != x5 || a6 != x6) = true by simp only [Bool.or_eq_true, bne_iff_ne]; omega]
    rfl
theorem sameInode_impl (a0 a1 a2 a3 a4 a5 a6 : Int) (b : List Int) (c d : List S107) (x0 x1 x2 x3 x4 x5 x6 : Int) (y : List Int) (z w : List S107) (hb : b.length ≤ 1048576) (hc : c.length ≤ 1048576) (hd : d.length ≤ 1048576) :
    Ev (fun k => impl_SameInode.f k a0 a1 a2 a3 a4 a5 a6 b c d x0 x1 x2 x3 x4 x5 x6 y z w) (sameInodeM a0 a1 a2 a3 a4 a5 a6 b c d x0 x1 x2 x3 x4 x5 x6 y z w) := by
  unfold impl_SameInode.f
  refine Ev.bind (slices_Equal_int_int_f b y hb) (Ev.bind (impl_AclEntry_f c z hc) (Ev.bind (impl_AclEntry_f d w hd) (Ev.ofEq (congrArg some ?_))))
  unfold sameInodeM
  by_cases h : a0 = x0 ∧ a1 = x1 ∧ a2 = x2 ∧ a3 = x3 ∧ a4 = x4 ∧ a5 = x5 ∧ a6 = x6
  · rw [if_pos h]
    obtain ⟨rfl, rfl, rfl, rfl, rfl, rfl, rfl⟩ := h
    simp only [BEq.rfl]
    cases allEq intEq b y <;> cases allEq aclEq c z <;> simp
  · rw [if_neg h, show (a0 == x0 && a1 == x1 && a2 == x2 && a3 == x3 && a4 == x4 && a5 == x5 && a6 == x6) = false by
      rw [Bool.eq_false_iff]
      intro e
      simp only [Bool.and_eq_true, beq_iff_eq] at e
      omega]
    rfl

theorem l01In_spec (a b c : Int) : spec_l01In.f a b c = some (decide (b ≤ a ∧ a ≤ c)) := by
  unfold spec_l01In.f
  by_cases h : a ≥ b
  · rw [if_pos h]
    simp [show b ≤ a from h]
  · rw [if_neg h]
    simp [show ¬ b ≤ a from h]

theorem isUser_impl (a : Int) : impl_isUser.f a = some (decide (0 ≤ a ∧ a ≤ 3)) := by
  unfold impl_isUser.f
  by_cases h : a ≥ 0
  · rw [if_pos h]
    congr 1
    apply decide_eq_decide.2
    omega
  · rw [if_neg h]
    congr 1
    symm
    apply decide_eq_false
    omega

/-- One entry is well formed. -/
def entryM (x : S107) : Bool := decide (0 ≤ x.f2 ∧ x.f2 ≤ 7 ∧ ((x.f0 = 1 ∨ x.f0 = 2) ∧ 0 ≤ x.f1 ∧ x.f1 ≤ 3 ∨ x.f0 = 3 ∧ x.f1 = 0))
/-- Two neighbours rise. -/
def riseM (x y : S107) : Bool := decide (x.f0 < y.f0 ∨ x.f0 = y.f0 ∧ x.f1 < y.f1)
/-- The entries from one with a left neighbour on. -/
def aclFrom : Option S107 → List S107 → Bool
  | none, [] => true
  | some p, [] => decide (p.f0 = 3)
  | none, x :: l => entryM x && aclFrom (some x) l
  | some p, x :: l => entryM x && (riseM p x && aclFrom (some x) l)
def isAclM (l : List S107) : Bool := decide (l.length ≤ 6) && aclFrom none l
/-- What stands left of place i. -/
def leftOf (xs : List S107) (i : Int) : Option S107 := if i > 0 then some (rd_T107 xs (i - 1)) else none
theorem l05Entry_spec (a b c : Int) : Ev (fun k => spec_l05Entry.f k a b c) (entryM ⟨a, b, c⟩) := by
  unfold spec_l05Entry.f
  refine Ev.bind0 (l01In_spec c 0 7) ?_
  by_cases hc : 0 ≤ c ∧ c ≤ 7
  · refine Ev.pos (by simpa using hc) ?_
    by_cases h1 : a = 1
    · refine Ev.pos h1 (Ev.step (fun _ => spec_l05Entry.j0.eq_2 ..) (Ev.pos (by simpa using h1) (Ev.bind0 (l01In_spec b 0 3) ?_)))
      rw [show entryM ⟨a, b, c⟩ = decide (0 ≤ b ∧ b ≤ 3) by unfold entryM; apply decide_eq_decide.2; simp only; omega]
      exact Ev.now _
    · refine Ev.neg h1 (Ev.step (fun _ => spec_l05Entry.j0.eq_2 ..) ?_)
      by_cases h2 : a = 2
      · refine Ev.pos (by simpa using h2) (Ev.bind0 (l01In_spec b 0 3) ?_)
        rw [show entryM ⟨a, b, c⟩ = decide (0 ≤ b ∧ b ≤ 3) by unfold entryM; apply decide_eq_decide.2; simp only; omega]
        exact Ev.now _
      · refine Ev.neg (by simpa using h2) ?_
        by_cases h3 : a = 3
        · refine Ev.pos h3 ?_
          rw [show entryM ⟨a, b, c⟩ = (b == 0) by unfold entryM; rw [show (b == 0) = decide (b = 0) from rfl]; apply decide_eq_decide.2; simp only; omega]
          exact Ev.now _
        · refine Ev.neg h3 ?_
          rw [show entryM ⟨a, b, c⟩ = false by unfold entryM; apply decide_eq_false; simp only; omega]
          exact Ev.now _
  · refine Ev.neg (by simpa using hc) ?_
    rw [show entryM ⟨a, b, c⟩ = false by unfold entryM; apply decide_eq_false; simp only; omega]
    exact Ev.now _
theorem rd_last (xs : List S107) (i : Int) (h : (xs.length : Int) ≤ i) (h0 : 0 ≤ i) (hi : i ≤ (xs.length : Int)) : i = (xs.length : Int) := by omega
theorem isAcl_spec_l (xs : List S107) (hx : xs.length ≤ 1048576) (l : List S107) : ∀ (i : Int), 0 ≤ i → i ≤ (xs.length : Int) → xs.drop i.toNat = l →
    Ev (fun k => spec_IsAcl.l0 k xs xs (xs.length : Int) i) (aclFrom (leftOf xs i) l && decide (xs.length ≤ 6)) := by
  induction l with
  | nil =>
    intro i h0 hi h
    have h1 := ldrop_nil h0 h
    have hi' : i = (xs.length : Int) := by omega
    subst hi'
    refine Ev.step (fun _ => spec_IsAcl.l0.eq_2 ..) (Ev.neg (by omega) ?_)
    by_cases hz : (xs.length : Int) = 0
    · refine Ev.pos hz ?_
      rw [show leftOf xs (xs.length : Int) = none by unfold leftOf; rw [if_neg (by omega)], aclFrom, show decide (xs.length ≤ 6) = true by simp only [decide_eq_true_eq]; omega]
      exact Ev.now _
    · refine Ev.neg hz ?_
      rw [show leftOf xs (xs.length : Int) = some (rd_T107 xs ((xs.length : Int) - 1)) by unfold leftOf; rw [if_pos (by omega)], aclFrom, w64 (by omega) (by omega)]
      by_cases h6 : (xs.length : Int) ≤ 6
      · refine Ev.pos h6 (Ev.pos (by omega) (Ev.pos (by omega) ?_))
        rw [show decide (xs.length ≤ 6) = true by simp only [decide_eq_true_eq]; omega, Bool.and_true]
        exact Ev.now _
      · refine Ev.neg h6 ?_
        rw [show decide (xs.length ≤ 6) = false by simp only [decide_eq_false_iff_not]; omega, Bool.and_false]
        exact Ev.now _
  | cons x l ih =>
    intro i h0 hi h
    obtain ⟨p, q, c, e⟩ := ldrop_cons z107 h0 h
    have hx' : rd_T107 xs i = x := q
    have := ih (i + 1) (by omega) (by omega) c
    rw [show leftOf xs (i + 1) = some x by unfold leftOf; rw [if_pos (by omega), show i + 1 - 1 = i by omega, hx']] at this
    refine Ev.step (fun _ => spec_IsAcl.l0.eq_2 ..) (Ev.pos p (Ev.pos h0 (Ev.pos p ?_)))
    rw [hx']
    refine Ev.bind (l05Entry_spec x.f0 x.f1 x.f2) ?_
    rw [w64 (n := i + 1) (by omega) (by omega), w64 (n := i - 1) (by omega) (by omega)]
    by_cases c1 : entryM x = true
    · refine Ev.pos c1 ?_
      by_cases c2 : i > 0
      · refine Ev.pos c2 (Ev.pos (by omega) (Ev.pos (by omega) ?_))
        rw [show leftOf xs i = some (rd_T107 xs (i - 1)) by unfold leftOf; rw [if_pos c2], aclFrom, c1, Bool.true_and]
        generalize rd_T107 xs (i - 1) = y at *
        by_cases c3 : y.f0 > x.f0
        · rw [show riseM y x = false by unfold riseM; apply decide_eq_false; omega]
          exact Ev.pos c3 (Ev.now _)
        · refine Ev.neg c3 ?_
          by_cases c4 : y.f0 = x.f0
          · refine Ev.pos c4 ?_
            by_cases c5 : y.f1 ≥ x.f1
            · rw [show riseM y x = false by unfold riseM; apply decide_eq_false; omega]
              exact Ev.pos c5 (Ev.now _)
            · rw [show riseM y x = true by unfold riseM; apply decide_eq_true; omega, Bool.true_and]
              exact Ev.neg c5 this
          · rw [show riseM y x = true by unfold riseM; apply decide_eq_true; omega, Bool.true_and]
            exact Ev.neg c4 this
      · refine Ev.neg c2 ?_
        rw [show leftOf xs i = none by unfold leftOf; rw [if_neg c2], aclFrom, c1, Bool.true_and]
        exact this
    · refine Ev.neg c1 ?_
      have c1' : entryM x = false := by simpa using c1
      have : (aclFrom (leftOf xs i) (x :: l) && decide (xs.length ≤ 6)) = false := by
        cases leftOf xs i <;> simp [aclFrom, c1']
      rw [this]
      exact Ev.now _
theorem cmp_impl (a b : Int) : cmp_Compare_int.f a b = some (if a < b then -1 else if a > b then 1 else 0) := by
  unfold cmp_Compare_int.f cmp_isNaN_int.f
  simp only [bne_self_eq_false, Option.bind_some]
  rw [if_neg (by simp), if_neg (by simp)]
  repeat' split
  all_goals rfl
theorem cmpOr_impl (a b : Int) : Ev (fun k => cmp_Or_int.f k [a, b]) (if a = 0 then b else a) := by
  unfold cmp_Or_int.f
  refine Ev.step (fun _ => cmp_Or_int.l0.eq_2 ..) (Ev.pos (by simp) (Ev.pos (by decide) (Ev.pos (by simp) ?_)))
  rw [show rd [a, b] 0 = a from rfl, show wrap64 (0 + 1) = 1 by unfold wrap64; omega]
  by_cases ha : a = 0
  · refine Ev.pos ha (Ev.step (fun _ => cmp_Or_int.l0.eq_2 ..) (Ev.pos (by simp) (Ev.pos (by decide) (Ev.pos (by simp) ?_))))
    rw [show rd [a, b] 1 = b from rfl, show wrap64 (1 + 1) = 2 by unfold wrap64; omega, if_pos ha]
    by_cases hb : b = 0
    · refine Ev.pos hb (Ev.step (fun _ => cmp_Or_int.l0.eq_2 ..) (Ev.neg (by simp) ?_))
      rw [hb]
      exact Ev.now _
    · exact Ev.neg hb (Ev.now _)
  · rw [if_neg ha]
    exact Ev.neg ha (Ev.now _)
theorem isAcl_j3 {xs : List S107} (hx : xs.length ≤ 1048576) {i : Int} (h0 : 0 ≤ i) (hi : i < (xs.length : Int)) (a b c : Int) {r : Bool} {l : List S107} (he : entryM ⟨a, b, c⟩ = true) (hr : aclFrom (some ⟨a, b, c⟩) l = r) (h : Ev (fun k => impl_IsAcl.l0 k xs xs (xs.length : Int) (i + 1)) r) :
    Ev (fun k => impl_IsAcl.j3 k xs i xs (xs.length : Int) i a b c) (aclFrom (leftOf xs i) (⟨a, b, c⟩ :: l)) := by
  refine Ev.step (fun _ => impl_IsAcl.j3.eq_2 ..) ?_
  rw [w64 (n := i + 1) (by omega) (by omega), w64 (n := i - 1) (by omega) (by omega)]
  by_cases c2 : i > 0
  · rw [show leftOf xs i = some (rd_T107 xs (i - 1)) by unfold leftOf; rw [if_pos c2], aclFrom, he, Bool.true_and, hr]
    generalize rd_T107 xs (i - 1) = y at *
    refine Ev.pos c2 (Ev.pos (by omega) (Ev.pos (by omega) (Ev.bind0 (cmp_impl _ _) (Ev.bind0 (cmp_impl _ _) (Ev.bind (cmpOr_impl _ _) ?_)))))
    by_cases hc : y.f0 < a ∨ y.f0 = a ∧ y.f1 < b
    · rw [show riseM y ⟨a, b, c⟩ = true by unfold riseM; exact decide_eq_true hc, Bool.true_and]
      refine Ev.neg ?_ h
      repeat' split
      all_goals omega
    · rw [show riseM y ⟨a, b, c⟩ = false by unfold riseM; exact decide_eq_false hc, Bool.false_and]
      refine Ev.pos ?_ (Ev.now _)
      repeat' split
      all_goals omega
  · rw [show leftOf xs i = none by unfold leftOf; rw [if_neg c2], aclFrom, he, Bool.true_and, hr]
    exact Ev.neg c2 h
theorem isAcl_impl_l (xs : List S107) (hx : xs.length ≤ 1048576) (l : List S107) : ∀ (i : Int), 0 ≤ i → i ≤ (xs.length : Int) → xs.drop i.toNat = l →
    Ev (fun k => impl_IsAcl.l0 k xs xs (xs.length : Int) i) (aclFrom (leftOf xs i) l) := by
  induction l with
  | nil =>
    intro i h0 hi h
    have h1 := ldrop_nil h0 h
    have hi' : i = (xs.length : Int) := by omega
    subst hi'
    refine Ev.step (fun _ => impl_IsAcl.l0.eq_2 ..) (Ev.neg (by omega) ?_)
    by_cases hz : (xs.length : Int) = 0
    · refine Ev.pos hz ?_
      rw [show leftOf xs (xs.length : Int) = none by unfold leftOf; rw [if_neg (by omega)], aclFrom]
      exact Ev.now _
    · refine Ev.neg hz ?_
      rw [show leftOf xs (xs.length : Int) = some (rd_T107 xs ((xs.length : Int) - 1)) by unfold leftOf; rw [if_pos (by omega)], aclFrom, w64 (by omega) (by omega)]
      exact Ev.pos (by omega) (Ev.pos (by omega) (Ev.now _))
  | cons x l ih =>
    intro i h0 hi h
    obtain ⟨p, q, c, e⟩ := ldrop_cons z107 h0 h
    have hx' : rd_T107 xs i = x := q
    have := ih (i + 1) (by omega) (by omega) c
    rw [show leftOf xs (i + 1) = some x by unfold leftOf; rw [if_pos (by omega), show i + 1 - 1 = i by omega, hx']] at this
    have bad : entryM x = false → aclFrom (leftOf xs i) (x :: l) = false := by
      intro c1'
      cases leftOf xs i <;> simp [aclFrom, c1']
    refine Ev.step (fun _ => impl_IsAcl.l0.eq_2 ..) (Ev.pos p (Ev.pos h0 (Ev.pos p ?_)))
    rw [hx']
    obtain ⟨a, b, d⟩ := x
    simp only
    have j1no : Ev (fun k => impl_IsAcl.j1 k xs i xs (xs.length : Int) i true a b d) false := Ev.step (fun _ => impl_IsAcl.j1.eq_2 ..) (Ev.pos rfl (Ev.now _))
    by_cases d1 : d < 0
    · rw [bad (by unfold entryM; apply decide_eq_false; simp only; omega)]
      exact Ev.pos d1 j1no
    · refine Ev.neg d1 ?_
      by_cases d2 : d > 7
      · rw [bad (by unfold entryM; apply decide_eq_false; simp only; omega), show decide (d > 7) = true by simpa using d2]
        exact j1no
      · rw [show decide (d > 7) = false by simpa using d2]
        refine Ev.step (fun _ => impl_IsAcl.j1.eq_2 ..) (Ev.neg (by simp) ?_)
        have j2 : ∀ t : Bool, t = decide (a = 1 ∨ a = 2) → Ev (fun k => impl_IsAcl.j2 k xs i xs (xs.length : Int) i a t a b d) (aclFrom (leftOf xs i) (⟨a, b, d⟩ :: l)) := by
          intro t ht
          refine Ev.step (fun _ => impl_IsAcl.j2.eq_2 ..) ?_
          by_cases h12 : a = 1 ∨ a = 2
          · refine Ev.pos (by rw [ht]; exact decide_eq_true h12) (Ev.bind0 (isUser_impl b) ?_)
            by_cases hb : 0 ≤ b ∧ b ≤ 3
            · exact Ev.pos (by simpa using hb) (isAcl_j3 hx h0 p a b d (by unfold entryM; apply decide_eq_true; simp only; omega) rfl this)
            · rw [bad (by unfold entryM; apply decide_eq_false; simp only; omega)]
              exact Ev.neg (by simpa using hb) (Ev.now _)
          · refine Ev.neg (by rw [ht]; simpa using h12) ?_
            by_cases h3 : a = 3
            · refine Ev.pos h3 ?_
              by_cases hb : b = 0
              · exact Ev.pos hb (isAcl_j3 hx h0 p a b d (by unfold entryM; apply decide_eq_true; simp only; omega) rfl this)
              · rw [bad (by unfold entryM; apply decide_eq_false; simp only; omega)]
                exact Ev.neg hb (Ev.now _)
            · rw [bad (by unfold entryM; apply decide_eq_false; simp only; omega)]
              exact Ev.neg h3 (Ev.now _)
        by_cases h1 : a = 1
        · exact Ev.pos h1 (j2 _ (by simp [h1]))
        · exact Ev.neg h1 (j2 _ (by simp [h1]; rfl))
theorem isAcl_spec (xs : List S107) (hx : xs.length ≤ 1048576) : Ev (fun k => spec_IsAcl.f k xs) (isAclM xs) := by
  have := isAcl_spec_l xs hx xs 0 (by omega) (by omega) rfl
  unfold isAclM
  rw [Bool.and_comm]
  exact this
theorem isAcl_impl (xs : List S107) (hx : xs.length ≤ 1048576) : Ev (fun k => impl_IsAcl.f k xs) (isAclM xs) := by
  unfold impl_IsAcl.f isAclM
  by_cases h : (xs.length : Int) > 6
  · rw [show decide (xs.length ≤ 6) = false by simp only [decide_eq_false_iff_not]; omega, Bool.false_and]
    exact Ev.pos h (Ev.now _)
  · rw [show decide (xs.length ≤ 6) = true by simp only [decide_eq_true_eq]; omega, Bool.true_and]
    exact Ev.neg h (isAcl_impl_l xs hx xs 0 (by omega) (by omega) rfl)

theorem inB_not (x hi : Int) : (!Lib.inB x 0 hi) = (decide (x < 0) || decide (hi < x)) := by
  unfold Lib.inB
  by_cases h : x < 0
  · rw [if_neg (by omega), decide_eq_true h]
    rfl
  · rw [if_pos (by omega), decide_eq_false h]
    by_cases h2 : hi < x
    · rw [decide_eq_true h2, decide_eq_false (by omega)]
      rfl
    · rw [decide_eq_false h2, decide_eq_true (by omega)]
      rfl
theorem blk_same : ∀ (l pre : List Int), Lib.blkS pre l = Lib.blkFrom pre l
  | [], _ => rfl
  | b :: l, pre => by
    unfold Lib.blkS Lib.blkFrom
    rw [blk_same l]
    congr 1
    by_cases h : b = -1
    · subst h
      rfl
    · have e : Lib.inB b (-1) 999 = Lib.inB b 0 999 := by
        unfold Lib.inB
        by_cases h2 : 0 ≤ b
        · rw [if_pos (by omega), if_pos (by omega)]
        · rw [if_neg (by omega), if_neg (by omega)]
      rw [e, show (b == -1) = false from beq_eq_false_iff_ne.mpr h, show (b != -1) = true from bne_iff_ne.mpr h, Bool.true_and, Bool.false_or]
theorem chain_same (k a1 a2 a3 a4 a5 a6 n nd : Int) (t8 t9 B : Bool) (hnd : 0 ≤ nd) (h12 : k = 1 ∨ k = 2) :
    (!Lib.chainS k a1 a2 a3 a4 a5 a6 n && (B && (!Lib.tailS k a1 nd && (t8 && t9)))) = (!Lib.chainI a1 a2 a3 a4 a5 a6 n t8 t9 && (B && Lib.tailI k a1 nd)) := by
  have hk : (k != 1 && k != 2) = false := by rcases h12 with h | h <;> subst h <;> rfl
  have ht : Lib.tailI k a1 nd = !Lib.tailS k a1 nd := by
    unfold Lib.tailI Lib.tailS
    rcases h12 with h | h
    · subst h
      rw [show ((1 : Int) == 2) = false from rfl, show ((1 : Int) == 1) = true from rfl, Bool.false_or, Bool.true_and, Bool.not_or]
      congr 1
      · by_cases h0 : nd = 0
        · subst h0
          rfl
        · rw [show (nd == 0) = false from beq_eq_false_iff_ne.mpr h0, decide_eq_true (show 0 < nd by omega)]
          rfl
      · rw [bne, Bool.not_not]
    · subst h
      rfl
  unfold Lib.chainS Lib.chainI
  rw [hk, ht, inB_not a4, inB_not a5, inB_not a6]
  simp only [Bool.false_or, Bool.not_or, Bool.not_not]
  ac_rfl
theorem isInode_both (a0 a1 a2 a3 a4 a5 a6 : Int) (b : List Int) (c d : List S107) (hb : b.length ≤ 1048576) (hc : c.length ≤ 1048576) (hd : d.length ≤ 1048576) :
    ∃ r, Ev (fun k => spec_IsInode.f k a0 a1 a2 a3 a4 a5 a6 b c d) r ∧ Ev (fun k => impl_IsInode.f k a0 a1 a2 a3 a4 a5 a6 b c d) r := by
  unfold spec_IsInode.f impl_IsInode.f
  by_cases h0 : a0 = 0
  · exact ⟨_, Ev.pos h0 (sameInode_spec a0 a1 a2 a3 a4 a5 a6 b c d 0 0 0 0 0 0 0 [] [] [] hb hc hd), Ev.pos h0 (sameInode_impl a0 a1 a2 a3 a4 a5 a6 b c d 0 0 0 0 0 0 0 [] [] [] hb hc hd)⟩
  · have s1 := isAcl_spec c hc
    have s2 := isAcl_spec d hd
    have g1 := isAcl_impl c hc
    have g2 := isAcl_impl d hd
    by_cases h12 : a0 = 1 ∨ a0 = 2
    · refine ⟨_, Ev.neg h0 (Ev.bind s1 (Ev.bind s2 (Ev.pos (by omega) (Ev.now _)))), Ev.neg h0 (Ev.pos h12 (Ev.bind g1 (Ev.bind g2 (Ev.pos (by omega) ?_))))⟩
      rw [chain_same _ _ _ _ _ _ _ _ _ _ _ _ (by omega) h12, blk_same]
      exact Ev.now _
    · refine ⟨false, Ev.neg h0 (Ev.bind s1 (Ev.bind s2 (Ev.pos (by omega) ?_))), Ev.neg h0 (Ev.neg h12 (Ev.now _))⟩
      have e : Lib.chainS a0 a1 a2 a3 a4 a5 a6 (b.length : Int) = true := by
        unfold Lib.chainS
        rw [show (a0 != 1) = true from bne_iff_ne.mpr (by omega), show (a0 != 2) = true from bne_iff_ne.mpr (by omega)]
        simp
      rw [e]
      exact Ev.now _

theorem isZeroes_spec {s : ByteArray} (hs : s.size ≤ 140737488351232) (l : List Int) : ∀ (i : Int), 0 ≤ i → (bytesOf s).drop i.toNat = l → Ev (fun k => spec_IsZeroes.l0 k s i) (l.all (fun x => x == 0)) := by
  induction l with
  | nil =>
    intro i h0 h
    have := bdrop_nil h0 h
    exact Ev.step (fun _ => spec_IsZeroes.l0.eq_2 ..) (Ev.neg (by omega) (Ev.now _))
  | cons x l ih =>
    intro i h0 h
    obtain ⟨a, b, c, e⟩ := bdrop_cons h0 h
    refine Ev.step (fun _ => spec_IsZeroes.l0.eq_2 ..) (Ev.pos a (Ev.pos h0 ?_))
    rw [b, w64 (by omega) (by omega), List.all_cons]
    by_cases hx : x = 0
    · refine Ev.pos hx ?_
      rw [hx]
      exact ih (i + 1) (by omega) c
    · refine Ev.neg hx ?_
      rw [show (x == 0) = false by simpa using hx]
      exact Ev.now _
theorem isZeroes_impl {s : ByteArray} (hs : s.size ≤ 140737488351232) (l : List Int) : ∀ (i : Int), 0 ≤ i → (bytesOf s).drop i.toNat = l → Ev (fun k => impl_IsZeroes.l0 k s (s.size : Int) i) (l.all (fun x => x == 0)) := by
  induction l with
  | nil =>
    intro i h0 h
    have := bdrop_nil h0 h
    exact Ev.step (fun _ => impl_IsZeroes.l0.eq_2 ..) (Ev.neg (by omega) (Ev.now _))
  | cons x l ih =>
    intro i h0 h
    obtain ⟨a, b, c, e⟩ := bdrop_cons h0 h
    refine Ev.step (fun _ => impl_IsZeroes.l0.eq_2 ..) (Ev.pos a (Ev.pos h0 (Ev.pos a ?_)))
    rw [b, w64 (by omega) (by omega), List.all_cons]
    by_cases hx : x = 0
    · refine Ev.pos hx ?_
      rw [hx]
      exact ih (i + 1) (by omega) c
    · refine Ev.neg hx ?_
      rw [show (x == 0) = false by simpa using hx]
      exact Ev.now _
theorem isZeroes_spec_f {s : ByteArray} (hs : s.size ≤ 140737488351232) : Ev (fun k => spec_IsZeroes.f k s) ((bytesOf s).all (fun x => x == 0)) := isZeroes_spec hs (bytesOf s) 0 (by omega) rfl
theorem isZeroes_impl_f {s : ByteArray} (hs : s.size ≤ 140737488351232) : Ev (fun k => impl_IsZeroes.f k s) ((bytesOf s).all (fun x => x == 0)) := isZeroes_impl hs (bytesOf s) 0 (by omega) rfl

/-! What IsFS computes, of numbers and lists alone. -/
def zB (s : ByteArray) : Bool := (bytesOf s).all (fun x => x == 0)
def ownB (b : Int) : Int := if b < 0 then -1 else if b ≥ 56 then -1 else wrap64 (Int.tdiv b 14)
theorem own_impl (b : Int) : impl_BlockOwner.f b = some (ownB b) := by
  unfold impl_BlockOwner.f ownB
  split
  · rfl
  · split <;> rfl
theorem own_spec (b : Int) : spec_BlockOwner.f b = some (ownB b) := by
  unfold spec_BlockOwner.f spec_l01In.f ownB
  by_cases h0 : b < 0
  · rw [if_neg (show ¬ b ≥ 0 by omega), if_pos h0]
    rfl
  · rw [if_pos (show b ≥ 0 by omega), if_neg h0]
    by_cases h1 : b ≥ 56
    · rw [if_pos h1, Option.bind_some, if_neg (by simp; omega)]
    · rw [if_neg h1, Option.bind_some, if_pos (by simp; omega)]
theorem own_val (b : Int) (h0 : 0 ≤ b) (h1 : b < 56) : ownB b = b / 14 := by
  unfold ownB
  rw [if_neg (by omega), if_neg (by omega), Int.tdiv_eq_ediv_of_nonneg h0, w64 (by omega) (by omega)]
theorem own_in {b uid : Int} (h : ownB b = uid) (hu : 0 ≤ uid) : 0 ≤ b ∧ b < 56 := by
  unfold ownB at h
  split at h
  · omega
  · split at h <;> omega
/-- The blocks of one object, marked; none: one of another pool, or marked before. -/
def blkU (uid : Int) : List Int → List Bool → Option (List Bool)
  | [], u => some u
  | b :: l, u => if b = -1 then blkU uid l u else if ownB b = uid then (if u.getD b.toNat false = true then none else blkU uid l (u.set b.toNat true)) else none
def inoU : List S25 → List Bool → Option (List Bool)
  | [], u => some u
  | x :: l, u => (blkU x.f2 x.f7 u).bind (inoU l)
def extB (d : List ByteArray) (b e : Int) : ByteArray := (rdOf ByteArray.empty d b).extract e.toNat (rdOf ByteArray.empty d b).size
def tokB (size : Int) (d : List ByteArray) : Nat → List Int → Bool
  | _, [] => true
  | i, b :: l => (if b = -1 then true else if impl_IsFS.end_ size i < 32 then zB (extB d b (impl_IsFS.end_ size i)) else true) && tokB size d (i + 1) l
def datM (u : List Bool) : Nat → List ByteArray → Bool
  | _, [] => true
  | i, s :: l => (u.getD i false || zB s) && datM u (i + 1) l
theorem need_small {size : Int} (h0 : 0 ≤ size) (h1 : size ≤ 256) {i n : Nat} (h : (i : Int) + ((n + 1 : Nat) : Int) = Lib.needB size) : (i : Int) ≤ 7 ∧ (i : Int) * 32 < size ∧ (size - 1) / 32 = (i : Int) + (n : Int) := by
  unfold Lib.needB at h
  split at h
  · omega
  · rw [w64 (n := size - 1) (by omega) (by omega), Int.tdiv_eq_ediv_of_nonneg (by omega), w64 (n := (size - 1) / 32) (by omega) (by omega), w64 (by omega) (by omega)] at h
    omega
theorem end_val {size : Int} (h0 : 0 ≤ size) (h1 : size ≤ 256) {i : Nat} (h : (i : Int) ≤ 7) : impl_IsFS.end_ size i = size - (i : Int) * 32 := by
  unfold impl_IsFS.end_
  rw [w64 (n := (i : Int) * 32) (by omega) (by omega), w64 (by omega) (by omega)]
theorem rd_mem {d : List ByteArray} {b : Int} (h0 : 0 ≤ b) (h1 : b < (d.length : Int)) : rdOf ByteArray.empty d b ∈ d := by
  have h : b.toNat < d.length := by omega
  unfold rdOf
  rw [List.getD_eq_getElem?_getD, List.getElem?_eq_getElem h]
  exact List.getElem_mem h
theorem ext_size (d : List ByteArray) (hd : ∀ s, s ∈ d → s.size = 32) (b e : Int) : (extB d b e).size ≤ 140737488351232 := by
  unfold extB rdOf
  have : (d.getD b.toNat ByteArray.empty).size ≤ 32 := by
    rw [List.getD_eq_getElem?_getD]
    cases h : d[b.toNat]? with
    | none => exact Nat.zero_le _
    | some s => exact Nat.le_of_eq (hd s (List.mem_of_getElem? h))
  rw [ByteArray.size_extract]
  omega
theorem impl_blk (uid size : Int) (d : List ByteArray) (hd : ∀ s, s ∈ d → s.size = 32) (hl : d.length = 56) (hu : 0 ≤ uid) (h0 : 0 ≤ size) (h1 : size ≤ 256) : ∀ (l : List Int) (i : Nat) (u : List Bool), (i : Int) + (l.length : Int) = Lib.needB size → Ev (fun k => impl_IsFS.blk k uid size d i l u) (if tokB size d i l = true then blkU uid l u else none)
  | [], i, u, _ => Ev.now _
  | b :: l, i, u, h => by
    obtain ⟨i7, is, _⟩ := need_small h0 h1 (i := i) (n := l.length) h
    have ih := impl_blk uid size d hd hl hu h0 h1 l (i + 1)
    have hn : ((i + 1 : Nat) : Int) + (l.length : Int) = Lib.needB size := by rw [← h, List.length_cons]; omega
    show Ev (fun k => if b = -1 then _ else _) _
    unfold tokB blkU
    by_cases hb : b = -1
    · rw [if_pos hb, if_pos hb, Bool.true_and]
      exact Ev.pos hb (ih u hn)
    · rw [if_neg hb, if_neg hb]
      refine Ev.neg hb (Ev.bind0 (own_impl b) ?_)
      by_cases ho : ownB b = uid
      · obtain ⟨b0, b1⟩ := own_in ho hu
        rw [if_pos ho]
        refine Ev.pos ho (Ev.pos ⟨b0, b1⟩ ?_)
        by_cases hg : u.getD b.toNat false = true
        · rw [if_pos hg, ite_self]
          exact Ev.pos hg (Ev.now _)
        · rw [if_neg hg]
          refine Ev.neg hg ?_
          by_cases he : impl_IsFS.end_ size i < 32
          · rw [if_pos he]
            have hs : (rdOf ByteArray.empty d b).size = 32 := hd _ (rd_mem b0 (by omega))
            have hv := end_val h0 h1 i7
            refine Ev.pos he (Ev.pos ⟨by omega, by omega⟩ (Ev.bind (isZeroes_impl_f (ext_size d hd b _)) ?_))
            show Ev (fun n => if zB (extB d b (impl_IsFS.end_ size i)) = true then _ else _) _
            cases hz : zB (extB d b (impl_IsFS.end_ size i)) with
            | true =>
              rw [Bool.true_and]
              exact Ev.pos rfl (ih _ hn)
            | false =>
              rw [Bool.false_and, if_neg (by decide)]
              exact Ev.neg (by decide) (Ev.now _)
          · rw [if_neg he, Bool.true_and]
            exact Ev.neg he (ih _ hn)
      · rw [if_neg ho, ite_self]
        exact Ev.neg ho (Ev.now _)
/-! One object. -/
def okX (x : S25) : Prop := 0 ≤ x.f2 ∧ x.f2 ≤ 3 ∧ 0 ≤ x.f5 ∧ x.f5 ≤ 256 ∧ (x.f7.length : Int) = Lib.needB x.f5
theorem inB_t {a lo hi : Int} (h : Lib.inB a lo hi = true) : lo ≤ a ∧ a ≤ hi := by
  unfold Lib.inB at h
  split at h
  · exact ⟨by omega, of_decide_eq_true h⟩
  · cases h
theorem ino_ex (x : S25) (hx : shIn x) : ∃ r, Ev (fun k => spec_IsInode.f k x.f0 x.f1 x.f2 x.f3 x.f4 x.f5 x.f6 x.f7 x.f8 x.f9) r ∧ Ev (fun k => impl_IsInode.f k x.f0 x.f1 x.f2 x.f3 x.f4 x.f5 x.f6 x.f7 x.f8 x.f9) r ∧ (r = true → okX x) := by
  obtain ⟨r, h1, h2⟩ := isInode_both x.f0 x.f1 x.f2 x.f3 x.f4 x.f5 x.f6 x.f7 x.f8 x.f9 hx.1 hx.2.1 hx.2.2
  refine ⟨r, h1, h2, ?_⟩
  rintro rfl
  by_cases h0 : x.f0 = 0
  · have e := Ev.uniq h2 (Ev.congr (fun k => by unfold impl_IsInode.f; rw [if_pos h0]) (sameInode_impl x.f0 x.f1 x.f2 x.f3 x.f4 x.f5 x.f6 x.f7 x.f8 x.f9 0 0 0 0 0 0 0 [] [] [] hx.1 hx.2.1 hx.2.2))
    unfold sameInodeM at e
    split at e
    · rename_i hc
      split at e
      · rename_i h7
        have h7 := allEq_true (fun a b h => of_decide_eq_true h) _ _ h7
        refine ⟨by omega, by omega, by omega, by omega, ?_⟩
        rw [h7, show x.f5 = 0 by omega]
        rfl
      · cases e
    · cases e
  · by_cases h12 : x.f0 = 1 ∨ x.f0 = 2
    · have g1 := isAcl_impl x.f8 hx.2.1
      have g2 := isAcl_impl x.f9 hx.2.2
      have e := Ev.uniq h2 (Ev.congr (fun k => by unfold impl_IsInode.f; rw [if_neg h0, if_pos h12]) (Ev.bind g1 (Ev.bind g2 (Ev.pos (show x.f7.length ≤ 4611686018427387904 by have := hx.1; omega) (Ev.now _)))))
      have e := (Bool.and_eq_true_iff.1 e.symm).1
      unfold Lib.chainI at e
      simp only [Bool.not_eq_true', Bool.or_eq_false_iff, Bool.not_eq_false', decide_eq_false_iff_not, bne_eq_false_iff_eq] at e
      obtain ⟨⟨⟨⟨⟨⟨⟨⟨⟨⟨⟨e1, e2⟩, e3⟩, e4⟩, e5⟩, e6⟩, e7⟩, e8⟩, e9⟩, e10⟩, e11⟩, e12⟩ := e
      have := inB_t e2
      exact ⟨by omega, by omega, by omega, by omega, e10⟩
    · have e := Ev.uniq h2 (Ev.congr (fun k => by unfold impl_IsInode.f; rw [if_neg h0, if_neg h12]) (Ev.now false))
      cases e
noncomputable def inoB (x : S25) : Bool := open Classical in if h : shIn x then (ino_ex x h).choose else false
theorem inoB_spec {x : S25} (h : shIn x) : Ev (fun k => spec_IsInode.f k x.f0 x.f1 x.f2 x.f3 x.f4 x.f5 x.f6 x.f7 x.f8 x.f9) (inoB x) := by
  unfold inoB
  rw [dif_pos h]
  exact (ino_ex x h).choose_spec.1
theorem inoB_impl {x : S25} (h : shIn x) : Ev (fun k => impl_IsInode.f k x.f0 x.f1 x.f2 x.f3 x.f4 x.f5 x.f6 x.f7 x.f8 x.f9) (inoB x) := by
  unfold inoB
  rw [dif_pos h]
  exact (ino_ex x h).choose_spec.2.1
theorem inoB_ok {x : S25} (h : shIn x) (e : inoB x = true) : okX x := by
  unfold inoB at e
  rw [dif_pos h] at e
  exact (ino_ex x h).choose_spec.2.2 e
theorem impl_ino (d : List ByteArray) (hd : ∀ s, s ∈ d → s.size = 32) (hl : d.length = 56) : ∀ (l : List S25) (u : List Bool), (∀ x, x ∈ l → shIn x) → Ev (fun k => impl_IsFS.ino k d l u) (if l.all (fun x => inoB x && tokB x.f5 d 0 x.f7) = true then inoU l u else none)
  | [], u, _ => Ev.now _
  | x :: l, u, hs => by
    have hx := hs x (List.mem_cons_self ..)
    rw [List.all_cons]
    refine Ev.bind (inoB_impl hx) ?_
    cases hi : inoB x with
    | false =>
      rw [Bool.false_and, Bool.false_and, if_neg (by decide)]
      exact Ev.neg (by decide) (Ev.now _)
    | true =>
      obtain ⟨a, b, c, e, f⟩ := inoB_ok hx hi
      refine Ev.pos rfl (Ev.pos (by have := hx.1; omega) (Ev.bind (impl_blk x.f2 x.f5 d hd hl a c e x.f7 0 u (by simpa using f)) ?_))
      rw [Bool.true_and]
      cases ht : tokB x.f5 d 0 x.f7 with
      | false =>
        rw [Bool.false_and, if_neg (by decide), if_neg (by decide)]
        exact Ev.now _
      | true =>
        rw [if_pos rfl, Bool.true_and]
        unfold inoU
        cases hb : blkU x.f2 x.f7 u with
        | none =>
          rw [Option.bind_none, ite_self]
          exact Ev.now _
        | some v =>
          rw [Option.bind_some]
          exact impl_ino d hd hl l v (fun y hy => hs y (List.mem_cons_of_mem _ hy))
theorem impl_dat (u : List Bool) : ∀ (l : List ByteArray) (i : Nat), (∀ s, s ∈ l → s.size = 32) → Ev (fun k => impl_IsFS.dat k u i l) (datM u i l)
  | [], _, _ => Ev.now _
  | s :: l, i, hs => by
    have ih := impl_dat u l (i + 1) (fun y hy => hs y (List.mem_cons_of_mem _ hy))
    unfold datM
    show Ev (fun k => if u.getD i false = true then _ else _) _
    cases hg : u.getD i false with
    | true =>
      rw [Bool.true_or, Bool.true_and]
      exact Ev.pos rfl ih
    | false =>
      rw [Bool.false_or]
      refine Ev.neg (by decide) (Ev.bind (isZeroes_impl_f (by have := hs s (List.mem_cons_self ..); omega)) ?_)
      show Ev (fun n => if zB s = true then _ else _) _
      cases hz : zB s with
      | true =>
        rw [Bool.true_and]
        exact Ev.pos rfl ih
      | false =>
        rw [Bool.false_and]
        exact Ev.neg (by decide) (Ev.now _)
/-! The reference. -/
theorem spec_ino : ∀ (l : List S25), (∀ x, x ∈ l → shIn x) → Ev (fun k => spec_IsFS.ino k l) (l.all inoB)
  | [], _ => Ev.now _
  | x :: l, hs => by
    rw [List.all_cons]
    refine Ev.bind (inoB_spec (hs x (List.mem_cons_self ..))) ?_
    cases inoB x with
    | true =>
      rw [Bool.true_and]
      exact Ev.pos rfl (spec_ino l (fun y hy => hs y (List.mem_cons_of_mem _ hy)))
    | false =>
      rw [Bool.false_and]
      exact Ev.neg (by decide) (Ev.now _)
theorem spec_dat (u : List Bool) (hu : u.length = 56) : ∀ (l : List ByteArray) (i : Nat), i + l.length ≤ 56 → Ev (fun k => spec_IsFS.dat k u i l) (l.all (fun s => (s.size : Int) == 32) && datM u i l)
  | [], _, _ => Ev.now _
  | s :: l, i, hi => by
    rw [List.length_cons] at hi
    have ih := spec_dat u hu l (i + 1) (by omega)
    rw [List.all_cons]
    unfold datM
    show Ev (fun k => if (s.size : Int) = 32 then _ else _) _
    by_cases h32 : (s.size : Int) = 32
    · rw [show ((s.size : Int) == 32) = true from beq_iff_eq.mpr h32, Bool.true_and]
      refine Ev.pos h32 (Ev.pos (by omega) ?_)
      cases hg : u.getD i false with
      | true =>
        rw [Bool.true_or, Bool.true_and]
        exact Ev.pos rfl ih
      | false =>
        rw [Bool.false_or]
        refine Ev.neg (by decide) (Ev.bind (isZeroes_spec_f (by omega)) ?_)
        show Ev (fun n => if zB s = true then _ else _) _
        cases hz : zB s with
        | true =>
          rw [Bool.true_and]
          exact Ev.pos rfl ih
        | false =>
          rw [Bool.false_and, Bool.and_false]
          exact Ev.neg (by decide) (Ev.now _)
    · rw [show ((s.size : Int) == 32) = false from beq_eq_false_iff_ne.mpr h32, Bool.false_and, Bool.false_and]
      exact Ev.neg h32 (Ev.now _)
theorem blkU_len (uid : Int) : ∀ (l : List Int) (u v : List Bool), blkU uid l u = some v → v.length = u.length
  | [], u, v, h => by
    injection h with h
    rw [h]
  | b :: l, u, v, h => by
    unfold blkU at h
    split at h
    · exact blkU_len uid l u v h
    · split at h
      · split at h
        · cases h
        · rw [blkU_len uid l _ v h, List.length_set]
      · cases h
theorem l08_l1 (xs : List S25) (i : Int) (x : S25) (hx : shIn x) (hu0 : 0 ≤ x.f2) (g : List Bool → List Bool × Bool) (hg : ∀ u, u.length = 56 → Ev (fun k => spec_l08Used.l0 k u xs (xs.length : Int) (wrap64 (i + 1))) (g u)) (l : List Int) : ∀ (j : Int) (u : List Bool), 0 ≤ j → x.f7.drop j.toNat = l → u.length = 56 →
    Ev (fun k => spec_l08Used.l1 k u xs (xs.length : Int) i x.f7 (x.f7.length : Int) j x.f0 x.f1 x.f2 x.f3 x.f4 x.f5 x.f6 x.f7 x.f8 x.f9) ((blkU x.f2 l u).elim (([] : List Bool), false) g) := by
  induction l with
  | nil =>
    intro j u h0 h hu
    have := ldrop_nil h0 h
    exact Ev.step (fun _ => spec_l08Used.l1.eq_2 ..) (Ev.neg (by omega) (hg u hu))
  | cons b l ih =>
    intro j u h0 h hu
    obtain ⟨a, hb, c, e⟩ := ldrop_cons (0 : Int) h0 h
    have hr : rd x.f7 j = b := hb
    have hx7 := hx.1
    refine Ev.step (fun _ => spec_l08Used.l1.eq_2 ..) (Ev.pos a (Ev.pos h0 (Ev.pos a ?_)))
    rw [hr, w64 (n := j + 1) (by omega) (by omega)]
    unfold blkU
    by_cases hb1 : b = -1
    · rw [if_pos hb1]
      exact Ev.pos hb1 (ih (j + 1) u (by omega) c hu)
    · rw [if_neg hb1]
      refine Ev.neg hb1 (Ev.bind0 (own_spec b) ?_)
      by_cases ho : ownB b = x.f2
      · obtain ⟨b0, b1⟩ := own_in ho hu0
        rw [if_pos ho]
        refine Ev.pos ho (Ev.pos b0 (Ev.pos (by omega) ?_))
        by_cases hg1 : u.getD b.toNat false = true
        · rw [if_pos hg1]
          exact Ev.pos hg1 (Ev.now _)
        · rw [if_neg hg1]
          exact Ev.neg hg1 (ih (j + 1) _ (by omega) c (by rw [List.length_set]; exact hu))
      · rw [if_neg ho]
        exact Ev.neg ho (Ev.now _)
theorem l08_l0 (xs : List S25) (hxs : xs.length ≤ 1048576) (hs : ∀ x, x ∈ xs → shIn x ∧ 0 ≤ x.f2) (l : List S25) : ∀ (i : Int) (u : List Bool), 0 ≤ i → xs.drop i.toNat = l → u.length = 56 →
    Ev (fun k => spec_l08Used.l0 k u xs (xs.length : Int) i) ((inoU l u).elim (([] : List Bool), false) (fun v => (v, true))) := by
  induction l with
  | nil =>
    intro i u h0 h hu
    have := ldrop_nil h0 h
    exact Ev.step (fun _ => spec_l08Used.l0.eq_2 ..) (Ev.neg (by omega) (Ev.now _))
  | cons x l ih =>
    intro i u h0 h hu
    obtain ⟨a, hb, c, e⟩ := ldrop_cons z25 h0 h
    have hr : rd_T25 xs i = x := hb
    obtain ⟨hx, hu0⟩ := hs x (mem_of_drop h)
    refine Ev.step (fun _ => spec_l08Used.l0.eq_2 ..) (Ev.pos a (Ev.pos h0 (Ev.pos a ?_)))
    rw [hr]
    have := l08_l1 xs i x hx hu0 (fun v => (inoU l v).elim (([] : List Bool), false) (fun v => (v, true))) (fun v hv => by rw [w64 (n := i + 1) (by omega) (by omega)]; exact ih (i + 1) v (by omega) c hv) x.f7 0 u (by omega) rfl hu
    unfold inoU
    cases hbv : blkU x.f2 x.f7 u with
    | none =>
      rw [hbv] at this
      exact this
    | some v =>
      rw [hbv] at this
      exact this
theorem l08_f (a : Int) (l1 : List S112) (xs : List S25) (d : List ByteArray) (hxs : xs.length ≤ 1048576) (hs : ∀ x, x ∈ xs → shIn x ∧ 0 ≤ x.f2) :
    Ev (fun k => spec_l08Used.f k a l1 xs d) ((inoU xs (List.replicate 56 false)).elim (([] : List Bool), false) (fun v => (v, true))) := by
  unfold spec_l08Used.f
  exact Ev.pos (by decide) (l08_l0 xs hxs hs xs 0 _ (by omega) rfl List.length_replicate)
theorem inoU_len : ∀ (l : List S25) (u v : List Bool), inoU l u = some v → v.length = u.length
  | [], u, v, h => by
    injection h with h
    rw [h]
  | x :: l, u, v, h => by
    obtain ⟨w, h1, h2⟩ := Option.bind_eq_some_iff.1 h
    rw [inoU_len l w v h2, blkU_len _ _ _ _ h1]
theorem blkU_in {uid : Int} (hu : 0 ≤ uid) : ∀ (l : List Int) (u v : List Bool), blkU uid l u = some v → ∀ b, b ∈ l → b = -1 ∨ 0 ≤ b ∧ b < 56 ∧ ownB b = uid
  | [], _, _, _, b, hb => by cases hb
  | c :: l, u, v, h, b, hb => by
    unfold blkU at h
    split at h
    · rename_i hc
      rcases List.mem_cons.1 hb with hb | hb
      · exact Or.inl (hb.trans hc)
      · exact blkU_in hu l u v h b hb
    · split at h
      · rename_i ho
        split at h
        · cases h
        · rcases List.mem_cons.1 hb with hb | hb
          · subst hb
            obtain ⟨p, q⟩ := own_in ho hu
            exact Or.inr ⟨p, q, ho⟩
          · exact blkU_in hu l _ v h b hb
      · cases h
theorem inoU_in : ∀ (l : List S25) (u v : List Bool), (∀ x, x ∈ l → 0 ≤ x.f2) → inoU l u = some v → ∀ x, x ∈ l → ∀ b, b ∈ x.f7 → b = -1 ∨ 0 ≤ b ∧ b < 56 ∧ ownB b = x.f2
  | [], _, _, _, _, x, hx => by cases hx
  | y :: l, u, v, hs, h, x, hx => by
    obtain ⟨w, h1, h2⟩ := Option.bind_eq_some_iff.1 h
    rcases List.mem_cons.1 hx with hx | hx
    · subst hx
      exact blkU_in (hs _ (List.mem_cons_self ..)) _ _ _ h1
    · exact inoU_in l w v (fun z hz => hs z (List.mem_cons_of_mem _ hz)) h2 x hx
/-! Zeroes behind the last byte. -/
def tailS (d : List ByteArray) (x : S25) : Bool := if x.f7 = [] then true else if rd x.f7 (wrap64 ((x.f7.length : Int) - 1)) = -1 then true else zB (extB d (rd x.f7 (wrap64 ((x.f7.length : Int) - 1))) (wrap64 (x.f5 - wrap64 ((wrap64 ((x.f7.length : Int) - 1)) * 32))))
theorem rd_last_mem (l : List Int) (h : l ≠ []) : rd l ((l.length : Int) - 1) ∈ l := by
  have hn := List.length_pos_iff.mpr h
  have h : ((l.length : Int) - 1).toNat < l.length := by omega
  unfold rd
  rw [List.getD_eq_getElem?_getD, List.getElem?_eq_getElem h]
  exact List.getElem_mem h
theorem need_len {x : S25} (hv : okX x) (h : x.f7 ≠ []) : (x.f7.length : Int) ≤ 8 ∧ (x.f5 - 1) / 32 = (x.f7.length : Int) - 1 ∧ 0 < x.f5 := by
  have hn := List.length_pos_iff.mpr h
  obtain ⟨_, _, a, b, c⟩ := hv
  obtain ⟨p, q, r⟩ := need_small a b (i := 0) (n := x.f7.length - 1) (by rw [← c]; omega)
  omega
theorem spec_tail (d : List ByteArray) (hd : ∀ s, s ∈ d → s.size = 32) (hl : d.length = 56) : ∀ (l : List S25), (∀ x, x ∈ l → shIn x ∧ okX x ∧ ∀ b, b ∈ x.f7 → b = -1 ∨ 0 ≤ b ∧ b < 56) → Ev (fun k => spec_IsFS.tail k d l) (l.all (tailS d))
  | [], _ => Ev.now _
  | x :: l, hs => by
    have ih := spec_tail d hd hl l (fun y hy => hs y (List.mem_cons_of_mem _ hy))
    obtain ⟨hx, hv, hb⟩ := hs x (List.mem_cons_self ..)
    rw [List.all_cons]
    unfold tailS
    show Ev (fun k => if x.f7.length ≤ 4611686018427387904 then _ else _) _
    refine Ev.pos (by have := hx.1; omega) ?_
    by_cases h7 : x.f7 = []
    · rw [if_pos h7, Bool.true_and]
      exact Ev.pos h7 ih
    · rw [if_neg h7]
      refine Ev.neg h7 ?_
      obtain ⟨n8, ne, n0⟩ := need_len hv h7
      have hn := List.length_pos_iff.mpr h7
      have hm := rd_last_mem x.f7 h7
      have hK : wrap64 ((x.f7.length : Int) - 1) = (x.f7.length : Int) - 1 := w64 (by omega) (by omega)
      rw [hK]
      have hE : wrap64 (x.f5 - wrap64 (((x.f7.length : Int) - 1) * 32)) = x.f5 - ((x.f7.length : Int) - 1) * 32 := by
        rw [w64 (n := ((x.f7.length : Int) - 1) * 32) (by omega) (by omega)]
        exact w64 (by omega) (by obtain ⟨_, _, _, _, _⟩ := hv; omega)
      rw [hE]
      by_cases h1 : rd x.f7 ((x.f7.length : Int) - 1) = -1
      · rw [if_pos h1, Bool.true_and]
        exact Ev.pos h1 ih
      · rw [if_neg h1]
        obtain ⟨b0, b1⟩ := (hb _ hm).resolve_left h1
        have hsz : (rdOf ByteArray.empty d (rd x.f7 ((x.f7.length : Int) - 1))).size = 32 := hd _ (rd_mem b0 (by omega))
        refine Ev.neg h1 (Ev.pos ⟨b0, by omega⟩ (Ev.pos ⟨by omega, by omega⟩ (Ev.bind (isZeroes_spec_f (ext_size d hd _ _)) ?_)))
        show Ev (fun n => if zB (extB d (rd x.f7 ((x.f7.length : Int) - 1)) (x.f5 - ((x.f7.length : Int) - 1) * 32)) = true then _ else _) _
        cases zB (extB d (rd x.f7 ((x.f7.length : Int) - 1)) (x.f5 - ((x.f7.length : Int) - 1) * 32)) with
        | true =>
          rw [Bool.true_and]
          exact Ev.pos rfl ih
        | false =>
          rw [Bool.false_and]
          exact Ev.neg (by decide) (Ev.now _)
theorem zB_nil (d : List ByteArray) (hd : ∀ s, s ∈ d → s.size = 32) (b : Int) : zB (extB d b 32) = true := by
  have h : (extB d b 32).size = 0 := by
    unfold extB rdOf
    have : (d.getD b.toNat ByteArray.empty).size ≤ 32 := by
      rw [List.getD_eq_getElem?_getD]
      cases h : d[b.toNat]? with
      | none => exact Nat.zero_le _
      | some s => exact Nat.le_of_eq (hd s (List.mem_of_getElem? h))
    rw [ByteArray.size_extract, show (32 : Int).toNat = 32 from rfl]
    omega
  have h2 : bytesOf (extB d b 32) = [] := List.eq_nil_of_length_eq_zero (by rw [bytesOf_length]; exact h)
  unfold zB
  rw [h2]
  rfl
theorem tok_last (size : Int) (d : List ByteArray) (hd : ∀ s, s ∈ d → s.size = 32) (h0 : 0 ≤ size) (h1 : size ≤ 256) : ∀ (l : List Int) (i : Nat), (i : Int) + (l.length : Int) = Lib.needB size → l ≠ [] →
    tokB size d i l = (if rd l ((l.length : Int) - 1) = -1 then true else zB (extB d (rd l ((l.length : Int) - 1)) (size - ((i : Int) + (l.length : Int) - 1) * 32)))
  | [], i, h, hn => absurd rfl hn
  | [b], i, h, hn => by
    obtain ⟨i7, is, iv⟩ := need_small h0 h1 (i := i) (n := 0) h
    have hv := end_val h0 h1 i7
    unfold tokB tokB
    rw [Bool.and_true, show rd [b] ((([b] : List Int).length : Int) - 1) = b from rfl, hv]
    have hl : ((i : Int) + (([b] : List Int).length : Int) - 1) = (i : Int) := by simp
    rw [hl]
    by_cases hb : b = -1
    · rw [if_pos hb, if_pos hb]
    · rw [if_neg hb, if_neg hb]
      split
      · rfl
      · rw [show size - (i : Int) * 32 = 32 by omega]
        exact (zB_nil d hd b).symm
  | b :: c :: l, i, h, hn => by
    obtain ⟨i7, is, iv⟩ := need_small h0 h1 (i := i) (n := (c :: l).length) h
    have hv := end_val h0 h1 i7
    rw [List.length_cons] at iv
    have hq : ((i + 1 : Nat) : Int) + ((c :: l).length : Int) = Lib.needB size := by rw [← h]; simp only [List.length_cons]; omega
    have ih := tok_last size d hd h0 h1 (c :: l) (i + 1) hq (by simp)
    rw [tokB, ih]
    have e1 : (if b = -1 then true else if impl_IsFS.end_ size i < 32 then zB (extB d b (impl_IsFS.end_ size i)) else true) = true := by
      split
      · rfl
      · rw [if_neg (by omega)]
    have e2 : rd (b :: c :: l) (((b :: c :: l).length : Int) - 1) = rd (c :: l) (((c :: l).length : Int) - 1) := by
      unfold rd
      rw [show ((((b :: c :: l).length : Int) - 1)).toNat = l.length + 1 by simp only [List.length_cons]; omega, show ((((c :: l).length : Int) - 1)).toNat = l.length by simp only [List.length_cons]; omega]
      rfl
    have e3 : ((i + 1 : Nat) : Int) + ((c :: l).length : Int) - 1 = (i : Int) + ((b :: c :: l).length : Int) - 1 := by simp only [List.length_cons]; omega
    rw [e1, Bool.true_and, e2, e3]
theorem tok_tail (d : List ByteArray) (hd : ∀ s, s ∈ d → s.size = 32) (x : S25) (hv : okX x) : tokB x.f5 d 0 x.f7 = tailS d x := by
  unfold tailS
  by_cases h7 : x.f7 = []
  · rw [if_pos h7, h7]
    rfl
  · obtain ⟨n8, ne, n0⟩ := need_len hv h7
    have hn := List.length_pos_iff.mpr h7
    obtain ⟨a, b, c, e, f⟩ := hv
    rw [if_neg h7, tok_last x.f5 d hd c e x.f7 0 (by rw [← f]; simp) h7, w64 (n := (x.f7.length : Int) - 1) (by omega) (by omega), w64 (n := ((x.f7.length : Int) - 1) * 32) (by omega) (by omega), w64 (n := x.f5 - ((x.f7.length : Int) - 1) * 32) (by omega) (by omega)]
    simp
/-! Both. -/
theorem qOk_same (q : S112) : spec_IsFS.qOk q = impl_IsFS.qOk q := by
  unfold spec_IsFS.qOk impl_IsFS.qOk
  rw [inB_not, inB_not, Bool.or_assoc (decide (q.f0 < 0) || decide (5 < q.f0))]
theorem d0_same (a n1 n2 n3 : Int) : (!Lib.inB a 0 1000000000 || (n1 != 4) || (n2 != 20) || (n3 != 56)) = (decide (a < 0) || decide (1000000000 < a) || (n1 != 4) || (n2 != 20) || (n3 != 56)) := by
  rw [inB_not]
/-- What holds of a file system that IsFS lets in. -/
def okF (l1 : List S112) (l2 : List S25) (l3 : List ByteArray) : Prop := l1.length = 4 ∧ l2.length = 20 ∧ l3.length = 56 ∧ (∀ x, x ∈ l2 → shIn x ∧ okX x) ∧ ∃ u, inoU l2 (List.replicate 56 false) = some u
theorem isFS_both (a : Int) (l1 : List S112) (l2 : List S25) (l3 : List ByteArray) (hs : ∀ x, x ∈ l2 → shIn x) :
    ∃ r, Ev (fun k => spec_IsFS.f k a l1 l2 l3) r ∧ Ev (fun k => impl_IsFS.f k a l1 l2 l3) r ∧ (r = true → okF l1 l2 l3) := by
  unfold spec_IsFS.f impl_IsFS.f
  rw [d0_same, show spec_IsFS.qOk = impl_IsFS.qOk from funext qOk_same]
  cases hD : (decide (a < 0) || decide (1000000000 < a) || ((l1.length : Int) != 4) || ((l2.length : Int) != 20) || ((l3.length : Int) != 56)) with
  | true => exact ⟨false, Ev.pos rfl (Ev.now _), Ev.pos rfl (Ev.now _), fun h => by cases h⟩
  | false =>
    simp only [Bool.or_eq_false_iff, bne_eq_false_iff_eq] at hD
    obtain ⟨⟨⟨_, n1⟩, n2⟩, n3⟩ := hD
    cases hq : l1.all impl_IsFS.qOk with
    | false => exact ⟨false, Ev.neg (by decide) (Ev.neg (by decide) (Ev.now _)), Ev.neg (by decide) (Ev.neg (by decide) (Ev.now _)), fun h => by cases h⟩
    | true =>
      have hall : l3.all (fun s => !((s.size : Int) != 32)) = l3.all (fun s => (s.size : Int) == 32) := by
        congr 1
        funext s
        rw [bne, Bool.not_not]
      rw [hall]
      have si := spec_ino l2 hs
      cases hi : l2.all inoB with
      | false =>
        rw [hi] at si
        refine ⟨false, Ev.neg (by decide) (Ev.pos rfl (Ev.bind si (Ev.neg (by decide) (Ev.now _)))), Ev.neg (by decide) (Ev.pos rfl ?_), fun h => by cases h⟩
        cases h32 : l3.all (fun s => (s.size : Int) == 32) with
        | false => exact Ev.neg (by decide) (Ev.now _)
        | true =>
          have hd : ∀ s, s ∈ l3 → s.size = 32 := fun s h => by have := beq_iff_eq.1 (List.all_eq_true.1 h32 s h); omega
          have g := impl_ino l3 hd (by omega) l2 (List.replicate 56 false) hs
          rw [if_neg (by
            intro h
            have : l2.all inoB = true := List.all_eq_true.2 fun x hx => (Bool.and_eq_true_iff.1 (List.all_eq_true.1 h x hx)).1
            rw [hi] at this
            cases this)] at g
          exact Ev.pos rfl (Ev.bind g (Ev.now _))
      | true =>
        rw [hi] at si
        have hv : ∀ x, x ∈ l2 → shIn x ∧ okX x := fun x hx => ⟨hs x hx, inoB_ok (hs x hx) (List.all_eq_true.1 hi x hx)⟩
        have hU := l08_f a l1 l2 l3 (by omega) (fun x hx => ⟨(hv x hx).1, (hv x hx).2.1⟩)
        cases hu : inoU l2 (List.replicate 56 false) with
        | none =>
          rw [hu] at hU
          refine ⟨false, Ev.neg (by decide) (Ev.pos rfl (Ev.bind si (Ev.pos rfl ?_))), Ev.neg (by decide) (Ev.pos rfl ?_), fun h => by cases h⟩
          · by_cases h2 : (rd_T25 l2 0).f0 = 2
            · exact Ev.pos h2 (Ev.bind hU (Ev.neg (by decide) (Ev.now _)))
            · exact Ev.neg h2 (Ev.now _)
          · cases h32 : l3.all (fun s => (s.size : Int) == 32) with
            | false => exact Ev.neg (by decide) (Ev.now _)
            | true =>
              have hd : ∀ s, s ∈ l3 → s.size = 32 := fun s h => by have := beq_iff_eq.1 (List.all_eq_true.1 h32 s h); omega
              have g := impl_ino l3 hd (by omega) l2 (List.replicate 56 false) hs
              rw [hu, ite_self] at g
              exact Ev.pos rfl (Ev.bind g (Ev.now _))
        | some u =>
          rw [hu] at hU
          have hul : u.length = 56 := by rw [inoU_len _ _ _ hu, List.length_replicate]
          have hin := inoU_in l2 _ u (fun x hx => (hv x hx).2.1) hu
          have sd := spec_dat u hul l3 0 (by omega)
          cases h32 : l3.all (fun s => (s.size : Int) == 32) with
          | false =>
            rw [h32, Bool.false_and] at sd
            refine ⟨false, Ev.neg (by decide) (Ev.pos rfl (Ev.bind si (Ev.pos rfl ?_))), Ev.neg (by decide) (Ev.pos rfl (Ev.neg (by decide) (Ev.now _))), fun h => by cases h⟩
            by_cases h2 : (rd_T25 l2 0).f0 = 2
            · exact Ev.pos h2 (Ev.bind hU (Ev.pos rfl (Ev.bind sd (Ev.neg (by decide) (Ev.now _)))))
            · exact Ev.neg h2 (Ev.now _)
          | true =>
            rw [h32, Bool.true_and] at sd
            have hd : ∀ s, s ∈ l3 → s.size = 32 := fun s h => by have := beq_iff_eq.1 (List.all_eq_true.1 h32 s h); omega
            have g := impl_ino l3 hd (by omega) l2 (List.replicate 56 false) hs
            have ht := spec_tail l3 hd (by omega) l2 (fun x hx => ⟨(hv x hx).1, (hv x hx).2, fun b hb => by rcases hin x hx b hb with h | h; exact Or.inl h; exact Or.inr ⟨h.1, h.2.1⟩⟩)
            have hsame : l2.all (fun x => inoB x && tokB x.f5 l3 0 x.f7) = l2.all (tailS l3) := by
              rw [Bool.eq_iff_iff, List.all_eq_true, List.all_eq_true]
              exact ⟨fun h x hx => by rw [← tok_tail l3 hd x (hv x hx).2]; exact (Bool.and_eq_true_iff.1 (h x hx)).2, fun h x hx => Bool.and_eq_true_iff.2 ⟨List.all_eq_true.1 hi x hx, by rw [tok_tail l3 hd x (hv x hx).2]; exact h x hx⟩⟩
            rw [hsame, hu] at g
            have gd := impl_dat u l3 0 hd
            by_cases h2 : (rd_T25 l2 0).f0 = 2
            · refine ⟨l2.all (tailS l3) && datM u 0 l3, Ev.neg (by decide) (Ev.pos rfl (Ev.bind si (Ev.pos rfl (Ev.pos h2 (Ev.bind hU (Ev.pos rfl (Ev.bind sd ?_))))))), Ev.neg (by decide) (Ev.pos rfl (Ev.pos rfl (Ev.bind g ?_))), fun _ => ⟨by omega, by omega, by omega, hv, u, hu⟩⟩
              · cases datM u 0 l3 with
                | true =>
                  rw [Bool.and_true]
                  exact Ev.pos rfl ht
                | false =>
                  rw [Bool.and_false]
                  exact Ev.neg (by decide) (Ev.now _)
              · cases l2.all (tailS l3) with
                | true =>
                  rw [Bool.true_and, if_pos rfl]
                  refine Ev.bind gd ?_
                  rw [show ((rd_T25 l2 0).f0 == 2) = true from beq_iff_eq.mpr h2, Bool.and_true]
                  exact Ev.now _
                | false => exact Ev.now _
            · refine ⟨false, Ev.neg (by decide) (Ev.pos rfl (Ev.bind si (Ev.pos rfl (Ev.neg h2 (Ev.now _))))), Ev.neg (by decide) (Ev.pos rfl (Ev.pos rfl (Ev.bind g ?_))), fun h => by cases h⟩
              cases l2.all (tailS l3) with
              | true =>
                rw [if_pos rfl]
                refine Ev.bind gd ?_
                rw [show ((rd_T25 l2 0).f0 == 2) = false from beq_eq_false_iff_ne.mpr h2, Bool.and_false]
                exact Ev.now _
              | false => exact Ev.now _

theorem user_ex (u : Int) : ∃ r, spec_l06User.f u = some r ∧ impl_isUser.f u = some r ∧ (r = true → 0 ≤ u ∧ u ≤ 3) := by
  unfold spec_l06User.f spec_l01In.f impl_isUser.f
  by_cases h : u ≥ 0
  · rw [if_pos h, if_pos h]
    refine ⟨decide (u ≤ 3), rfl, ?_, fun e => ⟨h, of_decide_eq_true e⟩⟩
    rw [decide_eq_decide.2 (show u < 4 ↔ u ≤ 3 by omega)]
  · rw [if_neg h, if_neg h]
    exact ⟨false, rfl, rfl, fun e => by cases e⟩
/-- How many of the n inodes from i on are in use. -/
def cntI (l : List S25) : Nat → Nat → Nat
  | 0, _ => 0
  | n + 1, i => (if (rd_T25 l (i : Int)).f0 = 0 then 0 else 1) + cntI l n (i + 1)
theorem cntI_eq (l : List S25) : ∀ (n i m : Nat), m = i + n → m ≤ l.length → ((l.take m).drop i).countP (fun x => x.f0 != 0) = cntI l n i
  | 0, i, m, h, hl => by
    rw [List.drop_eq_nil_of_le (by rw [List.length_take]; omega)]
    rfl
  | n + 1, i, m, h, hl => by
    have hi : i < (l.take m).length := by rw [List.length_take]; omega
    have hg : (l.take m)[i] = rd_T25 l (i : Int) := by
      rw [List.getElem_take]
      show _ = l.getD i z25
      rw [List.getD_eq_getElem?_getD, List.getElem?_eq_getElem (by omega)]
      rfl
    rw [List.drop_eq_getElem_cons hi, List.countP_cons, cntI_eq l n (i + 1) m (by omega) hl, hg, cntI, Nat.add_comm]
    congr 1
    by_cases h0 : (rd_T25 l (i : Int)).f0 = 0
    · rw [if_pos h0, h0]
      rfl
    · rw [if_neg h0, if_pos (bne_iff_ne.mpr h0)]
theorem up5 (m n : Nat) (hm : m ≤ 3) (hn : n ≤ 100) : wrap64 (wrap64 ((m : Int) + 1) * (n : Int)) = ((m * n + n : Nat) : Int) := by
  have h : (m : Int) * (n : Int) ≤ 3 * 100 := by
    have : m * n ≤ 3 * 100 := Nat.mul_le_mul hm hn
    rw [← Int.natCast_mul]
    omega
  have h0 : 0 ≤ (m : Int) * (n : Int) := by rw [← Int.natCast_mul]; omega
  have e : ((m : Int) + 1) * (n : Int) = (m : Int) * (n : Int) + (n : Int) := by rw [Int.add_mul, Int.one_mul]
  rw [w64 (n := (m : Int) + 1) (by omega) (by omega), e, w64 (by omega) (by omega), Int.natCast_add, Int.natCast_mul]
theorem at5 (m n : Nat) (hm : m ≤ 3) (hn : n ≤ 100) : wrap64 ((m : Int) * (n : Int)) = ((m * n : Nat) : Int) := by
  have h : m * n ≤ 3 * 100 := Nat.mul_le_mul hm hn
  rw [← Int.natCast_mul, w64 (by omega) (by omega)]

def usedM (l : List Int) : List Int := l.filter (fun b => !decide (b = -1))
theorem usedBlocks_impl_l (xs : List Int) (hx : xs.length ≤ 1048576) (l : List Int) : ∀ (i : Int) (out : List Int), 0 ≤ i → xs.drop i.toNat = l → (out.length : Int) ≤ i → Ev (fun k => impl_UsedBlocks.l0 k out xs (xs.length : Int) i) (out ++ usedM l) := by
  induction l with
  | nil =>
    intro i out h0 h ho
    have := ldrop_nil h0 h
    rw [usedM, List.filter_nil, List.append_nil]
    exact Ev.step (fun _ => impl_UsedBlocks.l0.eq_2 ..) (Ev.neg (by omega) (Ev.now _))
  | cons x l ih =>
    intro i out h0 h ho
    obtain ⟨p, q, c, e⟩ := ldrop_cons (0 : Int) h0 h
    refine Ev.step (fun _ => impl_UsedBlocks.l0.eq_2 ..) (Ev.pos p (Ev.pos h0 (Ev.pos p ?_)))
    rw [show rd xs i = x from q, w64 (n := i + 1) (by omega) (by omega)]
    by_cases hx1 : x = -1
    · rw [usedM, List.filter_cons_of_neg (by simpa using hx1)]
      exact Ev.pos hx1 (ih (i + 1) out (by omega) c (by omega))
    · rw [show out ++ usedM (x :: l) = out ++ [x] ++ usedM l by rw [usedM, List.filter_cons_of_pos (by simpa using hx1), List.append_assoc]; rfl]
      exact Ev.neg hx1 (Ev.pos (by omega) (ih (i + 1) (out ++ [x]) (by omega) c (by rw [List.length_append, List.length_singleton]; omega)))
theorem usedBlocks_impl (a0 a1 a2 a3 a4 a5 a6 : Int) (b : List Int) (c d : List S107) (hb : b.length ≤ 1048576) : Ev (fun k => impl_UsedBlocks.f k a0 a1 a2 a3 a4 a5 a6 b c d) (usedM b) := usedBlocks_impl_l b hb b 0 [] (by omega) rfl (by simp)
theorem usedM_length (b : List Int) : (usedM b).length ≤ b.length := List.length_filter_le _ _

/-! The blocks of a pool. -/
def cntB (m : Int) (l : List Int) : Nat := l.countP (fun b => b != -1 && ownB b == m)
def totB (m : Int) : List S25 → Nat
  | [] => 0
  | x :: l => cntB m x.f7 + totB m l
theorem cntB_cons (m b : Int) (l : List Int) : cntB m (b :: l) = cntB m l + (if (b != -1 && ownB b == m) = true then 1 else 0) := List.countP_cons
theorem totB_le (m : Int) : ∀ (l : List S25), (∀ x, x ∈ l → okX x) → totB m l ≤ 8 * l.length
  | [], _ => Nat.zero_le _
  | x :: l, h => by
    have ih := totB_le m l (fun y hy => h y (List.mem_cons_of_mem _ hy))
    have h8 : x.f7.length ≤ 8 := by
      by_cases h7 : x.f7 = []
      · rw [h7]
        exact Nat.zero_le _
      · have := (need_len (h x (List.mem_cons_self ..)) h7).1
        omega
    have hc : cntB m x.f7 ≤ x.f7.length := List.countP_le_length
    rw [List.length_cons, totB]
    omega
theorem spec_blocks_l1 (m : Int) (xs : List S25) (i : Int) (N : Nat) (hN : N ≤ 1000000) (g : Nat → Int) (hg : ∀ c : Nat, c ≤ N → Ev (fun k => spec_l08Blocks.l0 k m (c : Int) xs (xs.length : Int) (wrap64 (i + 1))) (g c)) (bs : List Int) (hb : bs.length ≤ 1048576) (l : List Int) : ∀ (j : Int) (c : Nat), 0 ≤ j → bs.drop j.toNat = l → c + cntB m l ≤ N →
    Ev (fun k => spec_l08Blocks.l1 k m (c : Int) xs (xs.length : Int) i bs (bs.length : Int) j) (g (c + cntB m l)) := by
  induction l with
  | nil =>
    intro j c h0 h hc
    have := ldrop_nil h0 h
    exact Ev.step (fun _ => spec_l08Blocks.l1.eq_2 ..) (Ev.neg (by omega) (hg c hc))
  | cons b l ih =>
    intro j c h0 h hc
    obtain ⟨p, q, e, f⟩ := ldrop_cons (0 : Int) h0 h
    have hr : rd bs j = b := q
    refine Ev.step (fun _ => spec_l08Blocks.l1.eq_2 ..) (Ev.pos p (Ev.pos h0 (Ev.pos p ?_)))
    rw [cntB_cons] at hc ⊢
    rw [hr, w64 (n := j + 1) (by omega) (by omega)]
    by_cases h1 : b = -1
    · rw [show (b != -1 && ownB b == m) = false by rw [bne_eq_false_iff_eq.mpr h1]; rfl, if_neg (by decide), Nat.add_zero] at hc ⊢
      exact Ev.pos h1 (ih (j + 1) c (by omega) e hc)
    · refine Ev.neg h1 (Ev.bind0 (own_spec b) ?_)
      by_cases h2 : ownB b = m
      · rw [show (b != -1 && ownB b == m) = true by rw [bne_iff_ne.mpr h1, beq_iff_eq.mpr h2]; rfl, if_pos rfl] at hc ⊢
        rw [show wrap64 ((c : Int) + 1) = ((c + 1 : Nat) : Int) by rw [w64 (by omega) (by omega)]; omega, show c + (cntB m l + 1) = c + 1 + cntB m l by omega]
        exact Ev.pos h2 (ih (j + 1) (c + 1) (by omega) e (by omega))
      · rw [show (b != -1 && ownB b == m) = false by rw [beq_eq_false_iff_ne.mpr h2, Bool.and_false], if_neg (by decide), Nat.add_zero] at hc ⊢
        exact Ev.neg h2 (ih (j + 1) c (by omega) e hc)
theorem spec_blocks_l0 (m : Int) (xs : List S25) (hx : xs.length ≤ 1048576) (hs : ∀ x, x ∈ xs → shIn x) (l : List S25) : ∀ (i : Int) (c : Nat), 0 ≤ i → xs.drop i.toNat = l → c + totB m l ≤ 1000000 →
    Ev (fun k => spec_l08Blocks.l0 k m (c : Int) xs (xs.length : Int) i) ((c + totB m l : Nat) : Int) := by
  induction l with
  | nil =>
    intro i c h0 h hc
    have := ldrop_nil h0 h
    exact Ev.step (fun _ => spec_l08Blocks.l0.eq_2 ..) (Ev.neg (by omega) (Ev.now _))
  | cons x l ih =>
    intro i c h0 h hc
    obtain ⟨p, q, e, f⟩ := ldrop_cons z25 h0 h
    have hr : rd_T25 xs i = x := q
    rw [totB] at hc ⊢
    refine Ev.step (fun _ => spec_l08Blocks.l0.eq_2 ..) (Ev.pos p (Ev.pos h0 (Ev.pos p ?_)))
    rw [hr, ← Nat.add_assoc]
    exact spec_blocks_l1 m xs i (1000000 - totB m l) (by omega) (fun c => ((c + totB m l : Nat) : Int)) (fun c hc => by rw [w64 (n := i + 1) (by omega) (by omega)]; exact ih (i + 1) c (by omega) e (by omega)) x.f7 (hs x (mem_of_drop h)).1 x.f7 0 c (by omega) rfl (by omega)
theorem spec_blocks (m a : Int) (l1 : List S112) (xs : List S25) (d : List ByteArray) (hx : xs.length = 20) (hs : ∀ x, x ∈ xs → shIn x ∧ okX x) : Ev (fun k => spec_l08Blocks.f k a l1 xs d m) ((totB m xs : Nat) : Int) := by
  have hl := totB_le m xs (fun x hx => (hs x hx).2)
  have h := spec_blocks_l0 m xs (by omega) (fun x hx => (hs x hx).1) xs 0 0 (by omega) rfl (by omega)
  rw [Nat.zero_add] at h
  exact h
/-! The program's list of what is taken. -/
theorem usedM_one (l : List Int) : usedM (-1 :: l) = usedM l := List.filter_cons_of_neg (by decide)
theorem usedM_cons {b : Int} (h : ¬ b = -1) (l : List Int) : usedM (b :: l) = b :: usedM l := List.filter_cons_of_pos (by simpa using h)
theorem mark_blkU {uid : Int} (hu : 0 ≤ uid) : ∀ (l : List Int) (u v : List Bool), blkU uid l u = some v → impl_FS_taken.mark (usedM l) u = some v
  | [], u, v, h => h
  | b :: l, u, v, h => by
    unfold blkU at h
    by_cases hb : b = -1
    · subst hb
      rw [if_pos rfl] at h
      rw [usedM_one]
      exact mark_blkU hu l u v h
    · rw [if_neg hb] at h
      by_cases ho : ownB b = uid
      · rw [if_pos ho] at h
        split at h
        · cases h
        · rw [usedM_cons hb, impl_FS_taken.mark, if_pos (own_in ho hu)]
          exact mark_blkU hu l _ v h
      · rw [if_neg ho] at h
        cases h
theorem taken_all : ∀ (l : List S25) (u v : List Bool), (∀ x, x ∈ l → shIn x ∧ 0 ≤ x.f2) → inoU l u = some v → Ev (fun k => impl_FS_taken.all k l u) v
  | [], u, v, _, h => by
    injection h with h
    subst h
    exact Ev.now _
  | x :: l, u, v, hs, h => by
    obtain ⟨w, h1, h2⟩ := Option.bind_eq_some_iff.1 h
    obtain ⟨hx, hu⟩ := hs x (List.mem_cons_self ..)
    exact Ev.bind (usedBlocks_impl x.f0 x.f1 x.f2 x.f3 x.f4 x.f5 x.f6 x.f7 x.f8 x.f9 hx.1) (Ev.bind0 (mark_blkU hu _ _ _ h1) (taken_all l w v (fun y hy => hs y (List.mem_cons_of_mem _ hy)) h2))
theorem taken_f (a : Int) (l1 : List S112) (xs : List S25) (d : List ByteArray) (hx : xs.length = 20) (hs : ∀ x, x ∈ xs → shIn x ∧ okX x) {U : List Bool} (h : inoU xs (List.replicate 56 false) = some U) : Ev (fun k => impl_FS_taken.f k a l1 xs d) U := by
  unfold impl_FS_taken.f
  exact Ev.pos hx (taken_all xs _ U (fun x hx => ⟨(hs x hx).1, (hs x hx).2.1⟩) h)
/-! How many of the n blocks from i on are taken. -/
def cntW (u : List Bool) : Nat → Nat → Nat
  | 0, _ => 0
  | n + 1, i => (if u.getD i false = true then 1 else 0) + cntW u n (i + 1)
theorem cntW_eq (l : List Bool) : ∀ (n i m : Nat), m = i + n → m ≤ l.length → ((l.take m).drop i).countP (fun b => b) = cntW l n i
  | 0, i, m, h, hl => by
    rw [List.drop_eq_nil_of_le (by rw [List.length_take]; omega)]
    rfl
  | n + 1, i, m, h, hl => by
    have hi : i < (l.take m).length := by rw [List.length_take]; omega
    have hg : (l.take m)[i] = l.getD i false := by
      rw [List.getElem_take, List.getD_eq_getElem?_getD, List.getElem?_eq_getElem (by omega)]
      rfl
    rw [List.drop_eq_getElem_cons hi, List.countP_cons, cntW_eq l n (i + 1) m (by omega) hl, hg, cntW, Nat.add_comm]
theorem getD_set (u : List Bool) (b i : Nat) (hb : b < u.length) : (u.set b true).getD i false = (if b = i then true else u.getD i false) := by
  rw [List.getD_eq_getElem?_getD, List.getElem?_set, List.getD_eq_getElem?_getD]
  by_cases h : b = i
  · subst h
    rw [if_pos rfl, if_pos hb, if_pos rfl]
    rfl
  · rw [if_neg h, if_neg h]
theorem cntW_set (u : List Bool) (b : Nat) (hb : b < u.length) (h : u.getD b false = false) : ∀ (n i : Nat), cntW (u.set b true) n i = cntW u n i + (if i ≤ b ∧ b < i + n then 1 else 0)
  | 0, i => by
    rw [if_neg (by omega)]
    rfl
  | n + 1, i => by
    rw [cntW, cntW, cntW_set u b hb h n (i + 1), getD_set u b i hb]
    by_cases e : b = i
    · subst e
      rw [if_pos rfl, h, if_pos rfl, if_neg (show ¬ (false = true) by decide), if_neg (show ¬ (b + 1 ≤ b ∧ b < b + 1 + n) by omega), if_pos (show b ≤ b ∧ b < b + (n + 1) by omega)]
      omega
    · rw [if_neg e]
      by_cases c : i + 1 ≤ b ∧ b < i + 1 + n
      · rw [if_pos c, if_pos (show i ≤ b ∧ b < i + (n + 1) by omega)]
        omega
      · rw [if_neg c, if_neg (show ¬ (i ≤ b ∧ b < i + (n + 1)) by omega)]
        simp only [Nat.add_zero]
theorem cntW_none : ∀ (n i : Nat), cntW (List.replicate 56 false) n i = 0
  | 0, _ => rfl
  | n + 1, i => by
    have h : (List.replicate 56 false).getD i false = false := by
      rw [List.getD_eq_getElem?_getD, List.getElem?_replicate]
      split <;> rfl
    rw [cntW, cntW_none n (i + 1), h]
    rfl
theorem cntW_blkU (m : Nat) {uid : Int} (hu : 0 ≤ uid) : ∀ (l : List Int) (u v : List Bool), u.length = 56 → blkU uid l u = some v → cntW v 14 (m * 14) = cntW u 14 (m * 14) + cntB (m : Int) l
  | [], u, v, _, h => by
    injection h with h
    subst h
    rfl
  | b :: l, u, v, hl, h => by
    unfold blkU at h
    rw [cntB_cons]
    by_cases hb : b = -1
    · rw [if_pos hb] at h
      rw [cntW_blkU m hu l u v hl h, show (b != -1 && ownB b == (m : Int)) = false by rw [bne_eq_false_iff_eq.mpr hb]; rfl, if_neg (by decide), Nat.add_zero]
    · rw [if_neg hb] at h
      by_cases ho : ownB b = uid
      · rw [if_pos ho] at h
        obtain ⟨b0, b1⟩ := own_in ho hu
        split at h
        · cases h
        · rename_i hf
          have hf : u.getD b.toNat false = false := by
            cases h_ : u.getD b.toNat false with
            | true => exact absurd h_ hf
            | false => rfl
          rw [cntW_blkU m hu l _ v (by rw [List.length_set]; exact hl) h, cntW_set u b.toNat (by omega) hf]
          have hv := own_val b b0 b1
          have e : (if m * 14 ≤ b.toNat ∧ b.toNat < m * 14 + 14 then 1 else 0 : Nat) = (if (b != -1 && ownB b == (m : Int)) = true then 1 else 0) := by
            rw [bne_iff_ne.mpr hb, Bool.true_and, hv]
            by_cases c : m * 14 ≤ b.toNat ∧ b.toNat < m * 14 + 14
            · rw [if_pos c, if_pos (beq_iff_eq.mpr (by omega))]
            · rw [if_neg c, if_neg (by rw [beq_iff_eq]; omega)]
          rw [e]
          omega
      · rw [if_neg ho] at h
        cases h
theorem cntW_inoU (m : Nat) : ∀ (l : List S25) (u v : List Bool), (∀ x, x ∈ l → 0 ≤ x.f2) → u.length = 56 → inoU l u = some v → cntW v 14 (m * 14) = cntW u 14 (m * 14) + totB (m : Int) l
  | [], u, v, _, _, h => by
    injection h with h
    subst h
    rfl
  | x :: l, u, v, hs, hl, h => by
    obtain ⟨w, h1, h2⟩ := Option.bind_eq_some_iff.1 h
    rw [cntW_inoU m l w v (fun y hy => hs y (List.mem_cons_of_mem _ hy)) (by rw [blkU_len _ _ _ _ h1]; exact hl) h2, cntW_blkU m (hs x (List.mem_cons_self ..)) x.f7 u w hl h1, totB]
    omega
theorem impl_blocks (m : Nat) (hm : m ≤ 3) (a : Int) (l1 : List S112) (xs : List S25) (d : List ByteArray) (hx : xs.length = 20) (hs : ∀ x, x ∈ xs → shIn x ∧ okX x) {U : List Bool} (h : inoU xs (List.replicate 56 false) = some U) : Ev (fun k => impl_FS_blocks.f k a l1 xs d (m : Int)) ((totB (m : Int) xs : Nat) : Int) := by
  have hU : U.length = 56 := by rw [inoU_len _ _ _ h, List.length_replicate]
  have hc := cntW_inoU m xs _ U (fun x hx => (hs x hx).2.1) List.length_replicate h
  rw [cntW_none, Nat.zero_add] at hc
  unfold impl_FS_blocks.f
  refine Ev.pos ⟨by omega, by omega⟩ (Ev.bind (taken_f a l1 xs d hx hs h) (Ev.pos hU ?_))
  rw [Int.toNat_natCast, cntW_eq U 14 (m * 14) _ rfl (by omega), hc]
  exact Ev.now _

theorem spec_nextBlock_l (m : Nat) (hm : m ≤ 3) (U : List Bool) (hU : U.length = 56) : ∀ (n i : Nat), i + n = m * 14 + 14 → Ev (fun k => spec_l08NextBlock.l0 k (m : Int) U (i : Int)) (impl_FS_nextBlock.scan U n i)
  | 0, i, h => by
    refine Ev.step (fun _ => spec_l08NextBlock.l0.eq_2 ..) ?_
    rw [show wrap64 (wrap64 ((m : Int) + 1) * 14) = ((m * 14 + 14 : Nat) : Int) from up5 m 14 hm (by omega)]
    exact Ev.neg (by omega) (Ev.step (fun _ => spec_l08NextBlock.j1.eq_2 ..) (Ev.neg (by decide) (Ev.now _)))
  | n + 1, i, h => by
    refine Ev.step (fun _ => spec_l08NextBlock.l0.eq_2 ..) ?_
    rw [show wrap64 (wrap64 ((m : Int) + 1) * 14) = ((m * 14 + 14 : Nat) : Int) from up5 m 14 hm (by omega), show decide ((i : Int) < (U.length : Int)) = true from decide_eq_true (by omega)]
    refine Ev.pos (by omega) (Ev.step (fun _ => spec_l08NextBlock.j1.eq_2 ..) (Ev.pos rfl (Ev.pos (by omega) (Ev.pos (by omega) ?_))))
    rw [show wrap64 ((i : Int) + 1) = ((i + 1 : Nat) : Int) by rw [w64 (by omega) (by omega)]; omega]
    unfold impl_FS_nextBlock.scan
    cases h0 : rdOf false U (i : Int) with
    | true =>
      rw [if_pos rfl]
      exact Ev.pos rfl (spec_nextBlock_l m hm U hU n (i + 1) (by omega))
    | false =>
      rw [if_neg (by decide)]
      exact Ev.neg (by decide) (Ev.now _)
theorem nextBlock_both (a : Int) (l1 : List S112) (l2 : List S25) (l3 : List ByteArray) (hs : ∀ x, x ∈ l2 → shIn x) (u : Int) :
    ∃ r, Ev (fun k => spec_NextBlock.f k a l1 l2 l3 u) r ∧ Ev (fun k => impl_NextBlock.f k a l1 l2 l3 u) r := by
  obtain ⟨r, s, i, ok⟩ := isFS_both a l1 l2 l3 hs
  obtain ⟨t, us, ui, uk⟩ := user_ex u
  unfold spec_NextBlock.f impl_NextBlock.f
  cases r with
  | false => exact ⟨(0, 1), Ev.bind s (Ev.neg (by decide) (Ev.now _)), Ev.bind i (Ev.neg (by decide) (Ev.now _))⟩
  | true =>
    cases t with
    | false => exact ⟨(0, 1), Ev.bind s (Ev.pos rfl (Ev.bind0 us (Ev.neg (by decide) (Ev.now _)))), Ev.bind i (Ev.pos rfl (Ev.bind0 ui (Ev.neg (by decide) (Ev.now _))))⟩
    | true =>
      obtain ⟨u0, u1⟩ := uk rfl
      obtain ⟨n1, n2, n3, hx, U, hU⟩ := ok rfl
      obtain ⟨m, rfl⟩ : ∃ m : Nat, u = (m : Int) := ⟨u.toNat, by omega⟩
      have hm : m ≤ 3 := by omega
      have hUl : U.length = 56 := by rw [inoU_len _ _ _ hU, List.length_replicate]
      have sb := spec_blocks (m : Int) a l1 l2 l3 n2 hx
      have ib := impl_blocks m hm a l1 l2 l3 n2 hx hU
      have su := l08_f a l1 l2 l3 (by omega) (fun x h => ⟨(hx x h).1, (hx x h).2.1⟩)
      rw [hU] at su
      have iu := taken_f a l1 l2 l3 n2 hx hU
      by_cases hq : ((totB (m : Int) l2 : Nat) : Int) ≥ (rd_T112 l1 (m : Int)).f1
      · have hi : Ev (fun k => impl_FS_nextBlock.f k a l1 l2 l3 (m : Int)) (0, 7) := by
          unfold impl_FS_nextBlock.f
          exact Ev.pos ⟨u0, u1, n1⟩ (Ev.bind ib (Ev.pos hq (Ev.now _)))
        have hs : Ev (fun k => spec_l08NextBlock.f k a l1 l2 l3 (m : Int)) (0, 7) := by
          unfold spec_l08NextBlock.f
          exact Ev.bind sb (Ev.pos u0 (Ev.pos (by omega) (Ev.pos hq (Ev.now _))))
        exact ⟨_, Ev.bind s (Ev.pos rfl (Ev.bind0 us (Ev.pos rfl (Ev.bind hs (Ev.now _))))), Ev.bind i (Ev.pos rfl (Ev.bind0 ui (Ev.pos rfl (Ev.bind hi (Ev.now _)))))⟩
      · have hi : Ev (fun k => impl_FS_nextBlock.f k a l1 l2 l3 (m : Int)) (impl_FS_nextBlock.scan U 14 (m * 14)) := by
          unfold impl_FS_nextBlock.f
          rw [Int.toNat_natCast]
          exact Ev.pos ⟨u0, u1, n1⟩ (Ev.bind ib (Ev.neg hq (Ev.bind iu (Ev.pos hUl (Ev.now _)))))
        have hs : Ev (fun k => spec_l08NextBlock.f k a l1 l2 l3 (m : Int)) (impl_FS_nextBlock.scan U 14 (m * 14)) := by
          unfold spec_l08NextBlock.f
          rw [show wrap64 ((m : Int) * 14) = ((m * 14 : Nat) : Int) from at5 m 14 hm (by omega)]
          exact Ev.bind sb (Ev.pos u0 (Ev.pos (by omega) (Ev.neg hq (Ev.bind su (spec_nextBlock_l m hm U hUl 14 (m * 14) rfl)))))
        exact ⟨_, Ev.bind s (Ev.pos rfl (Ev.bind0 us (Ev.pos rfl (Ev.bind hs (Ev.now _))))), Ev.bind i (Ev.pos rfl (Ev.bind0 ui (Ev.pos rfl (Ev.bind hi (Ev.now _)))))⟩
theorem FnExactNextBlock (t : Int) (q : List S123) (n : List S121) (d : List ByteArray) (v : Int) (h : okFS t q n d) (hv : (Lit.int .i64 v).wf = true) :
    ∃ k, laws_FnExactNextBlock.f k t q n d v = some true := by
  obtain ⟨u, hu, hv⟩ := szFS_ex t q n d h 1048576 (by omega) (by omega)
  apply Ev.rounds
  unfold laws_FnExactNextBlock.f
  refine Ev.bind hu ?_
  by_cases c1 : u < 0
  · exact Ev.pos c1 (Ev.now _)
  · obtain ⟨g0, g1, hq, hn, hd, hs, _⟩ := hv.resolve_left c1
    have hqm : (q.map quTo).length ≤ 1048576 := by rw [List.length_map]; exact hq
    have hnm : (n.map inTo).length ≤ 1048576 := by rw [List.length_map]; exact hn
    have p := toFS_f t q n d hq hn hd hs
    have e := eqFS_f t (q.map quTo) (n.map inTo) d hqm hnm hd (shIn_map hs)
    obtain ⟨r, s, i⟩ := nextBlock_both t (q.map quTo) (n.map inTo) d (shIn_map hs) v
    refine Ev.neg c1 (Ev.bind p (Ev.bind s (Ev.bind p (Ev.bind i (Ev.pos rfl ?_)))))
    exact Ev.step (fun _ => laws_FnExactNextBlock.j0.eq_2 ..) (Ev.neg (by simp) (Ev.bind p (Ev.bind e (Ev.pos rfl (Ev.now _)))))

end Go.Proofs.Ytnfiapcemafmiaa.Pure
