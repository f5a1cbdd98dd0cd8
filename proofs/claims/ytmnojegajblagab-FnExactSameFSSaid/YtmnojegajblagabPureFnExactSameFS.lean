/- The law FnExactSameFS holds for every input of its kind; no further condition. -/
import Derived.Test.YtmnojegajblagabPFnExactSameFSx12
import Derived.Test.YtmnojegajblagabLibBase
import Derived.Test.YtmnojegajblagabLibOpen
import Derived.Test.YtmnojegajblagabLibAllEq
namespace Go.Proofs.Ytmnojegajblagab.Pure
open Go.RowKit Go.Proofs.Ytmnojegajblagab.PFnExactSameFS Go.Proofs.Ytmnojegajblagab.Lib Go.Proofs.YtmnojegajblagabW.PrintWords Go.Proofs.YtmnojegajblagabW.PrintLast Go.Proofs.YtmnojegajblagabW.PrintMore
set_option linter.unusedVariables false
set_option linter.unusedSimpArgs false

def aclTo (x : S117) : S115 := ⟨x.f0, x.f1, x.f2⟩
theorem szAclEntryS_ex (l : List S117) (hl : l.length ≤ 9223372036854775807) (n : Int) (hn : 0 ≤ n) (hn' : n ≤ 1048576) : ∃ t, laws_szAclEntryS.f l n = some t ∧ (t < 0 ∨ ((l.length : Int) ≤ n ∧ t = n - (l.length : Int))) := by
  unfold laws_szAclEntryS.f
  rw [w64 (by omega) (by omega)]
  by_cases h : n - (l.length : Int) < 0
  · rw [if_pos h]
    exact ⟨-1, by simp, by omega⟩
  · rw [if_neg h]
    exact ⟨_, rfl, by omega⟩
theorem toAclEntryS_l (xs : List S117) (hx : xs.length ≤ 1048576) (l : List S117) : ∀ (i : Int) (ys : List S115), 0 ≤ i → xs.drop i.toNat = l → ys.length = xs.length → Ev (fun k => laws_toAclEntryS.l0 k xs ys i) (ys.take i.toNat ++ l.map aclTo) := by
  induction l with
  | nil =>
    intro i ys h0 h hy
    have := ldrop_nil h0 h
    rw [List.map_nil, List.append_nil, List.take_of_length_le (by omega)]
    exact Ev.step (fun _ => laws_toAclEntryS.l0.eq_2 ..) (Ev.neg (by omega) (Ev.now _))
  | cons x l ih =>
    intro i ys h0 h hy
    obtain ⟨a, b, c, e⟩ := ldrop_cons z117 h0 h
    refine Ev.step (fun _ => laws_toAclEntryS.l0.eq_2 ..) (Ev.pos a (Ev.pos h0 (Ev.bind0 rfl (Ev.pos (by omega) ?_))))
    have := ih (i + 1) (ys.set i.toNat (aclTo x)) (by omega) c (by rw [List.length_set]; exact hy)
    rw [set_take _ h0 (by omega), List.append_assoc] at this
    rw [w64 (by omega) (by omega), show rd_T117 xs i = x from b]
    exact this
theorem toAclEntryS_f (xs : List S117) (hx : xs.length ≤ 1048576) : Ev (fun k => laws_toAclEntryS.f k xs) (xs.map aclTo) := by
  unfold laws_toAclEntryS.f
  exact Ev.pos (by omega) (Ev.pos (by omega) (toAclEntryS_l xs hx xs 0 _ (by omega) rfl (by rw [List.length_replicate]; omega)))

theorem eqAclEntryS_l (d : Nat) : ∀ (i : Int) (l : List S115), 0 ≤ i → i + d = (l.length : Int) → l.length ≤ 1048576 → Ev (fun k => laws_eqAclEntryS.l0 k l l i) true := by
  induction d with
  | zero =>
    intro i l h0 hd hl
    exact Ev.step (fun _ => laws_eqAclEntryS.l0.eq_2 ..) (Ev.neg (by omega) (Ev.now _))
  | succ d ih =>
    intro i l h0 hd hl
    refine Ev.step (fun _ => laws_eqAclEntryS.l0.eq_2 ..) (Ev.pos (by omega) (Ev.pos h0 (Ev.pos (by omega) (Ev.bind0 (a := true) (by unfold laws_eqAclEntry.f; simp) (Ev.pos rfl ?_)))))
    rw [w64 (n := i + 1) (by omega) (by omega)]
    exact ih (i + 1) l (by omega) (by omega) hl
theorem eqAclEntryS_f (l : List S115) (hl : l.length ≤ 1048576) : Ev (fun k => laws_eqAclEntryS.f k l l) true := by
  unfold laws_eqAclEntryS.f
  exact Ev.pos rfl (eqAclEntryS_l l.length 0 l (by omega) (by omega) hl)

theorem toIntS_l (xs : List Int) (hx : xs.length ≤ 1048576) (l : List Int) : ∀ (i : Int) (ys : List Int), 0 ≤ i → xs.drop i.toNat = l → ys.length = xs.length → Ev (fun k => laws_toIntS.l0 k xs ys i) (ys.take i.toNat ++ l) := by
  induction l with
  | nil =>
    intro i ys h0 h hy
    have := ldrop_nil h0 h
    rw [List.append_nil, List.take_of_length_le (by omega)]
    exact Ev.step (fun _ => laws_toIntS.l0.eq_2 ..) (Ev.neg (by omega) (Ev.now _))
  | cons x l ih =>
    intro i ys h0 h hy
    obtain ⟨a, b, c, e⟩ := ldrop_cons (0 : Int) h0 h
    refine Ev.step (fun _ => laws_toIntS.l0.eq_2 ..) (Ev.pos a (Ev.pos h0 (Ev.pos (by omega) ?_)))
    have := ih (i + 1) (ys.set i.toNat (rd xs i)) (by omega) c (by rw [List.length_set]; exact hy)
    rw [set_take _ h0 (by omega), List.append_assoc, show rd xs i = x from b] at this
    rw [w64 (by omega) (by omega), show rd xs i = x from b]
    exact this
theorem toIntS_f (xs : List Int) (hx : xs.length ≤ 1048576) : Ev (fun k => laws_toIntS.f k xs) xs := by
  unfold laws_toIntS.f
  exact Ev.pos (by omega) (Ev.pos (by omega) (toIntS_l xs hx xs 0 _ (by omega) rfl (by rw [List.length_replicate]; omega)))

theorem eqIntS_l (d : Nat) : ∀ (i : Int) (l : List Int), 0 ≤ i → i + d = (l.length : Int) → l.length ≤ 1048576 → Ev (fun k => laws_eqIntS.l0 k l l i) true := by
  induction d with
  | zero =>
    intro i l h0 hd hl
    exact Ev.step (fun _ => laws_eqIntS.l0.eq_2 ..) (Ev.neg (by omega) (Ev.now _))
  | succ d ih =>
    intro i l h0 hd hl
    refine Ev.step (fun _ => laws_eqIntS.l0.eq_2 ..) (Ev.pos (by omega) (Ev.pos h0 (Ev.pos (by omega) (Ev.pos rfl ?_))))
    rw [w64 (n := i + 1) (by omega) (by omega)]
    exact ih (i + 1) l (by omega) (by omega) hl
theorem eqIntS_f (l : List Int) (hl : l.length ≤ 1048576) : Ev (fun k => laws_eqIntS.f k l l) true := by
  unfold laws_eqIntS.f
  exact Ev.pos rfl (eqIntS_l l.length 0 l (by omega) (by omega) hl)

def okInt (l : List Int) : Prop := l.length ≤ 9223372036854775807 ∧ ∀ x, x ∈ l → (Lit.int .i64 x).wf = true
def okAcls (l : List S117) : Prop := l.length ≤ 9223372036854775807 ∧ ∀ x, x ∈ l → (Lit.int .i64 x.f0).wf = true ∧ (Lit.int .i64 x.f1).wf = true ∧ (Lit.int .i64 x.f2).wf = true
/-- What is left of an inode's size, and what follows for its parts. -/
theorem szInode_ex (a0 a1 a2 a3 a4 a5 a6 : Int) (b : List Int) (c d : List S117) (hb : b.length ≤ 9223372036854775807) (hc : c.length ≤ 9223372036854775807) (hd : d.length ≤ 9223372036854775807) (left : Int) (hl : 0 ≤ left) (hl' : left ≤ 1048576) :
    ∃ t, laws_szInode.f a0 a1 a2 a3 a4 a5 a6 b c d left = some t ∧ (t < 0 ∨ 0 ≤ t ∧ t ≤ left ∧ (b.length : Int) ≤ left ∧ (c.length : Int) ≤ left ∧ (d.length : Int) ≤ left) := by
  unfold laws_szInode.f laws_szIntS.f
  rw [w64 (by omega) (by omega)]
  by_cases h1 : left - (b.length : Int) < 0
  · rw [if_pos h1, Option.bind_some, if_pos (by decide)]
    exact ⟨-1, rfl, by omega⟩
  · rw [if_neg h1, Option.bind_some, if_neg h1]
    obtain ⟨t, h2, h3⟩ := szAclEntryS_ex c hc (left - (b.length : Int)) (by omega) (by omega)
    rw [h2, Option.bind_some]
    by_cases h4 : t < 0
    · rw [if_pos h4]
      exact ⟨-1, rfl, by omega⟩
    · rw [if_neg h4]
      obtain ⟨u, h5, h6⟩ := szAclEntryS_ex d hd t (by omega) (by omega)
      rw [h5, Option.bind_some]
      by_cases h7 : u < 0
      · rw [if_pos h7]
        exact ⟨-1, rfl, by omega⟩
      · rw [if_neg h7]
        exact ⟨u, rfl, by omega⟩
theorem toInode_f (a0 a1 a2 a3 a4 a5 a6 : Int) (b : List Int) (c d : List S117) (hb : b.length ≤ 1048576) (hc : c.length ≤ 1048576) (hd : d.length ≤ 1048576) :
    Ev (fun k => laws_toInode.f k a0 a1 a2 a3 a4 a5 a6 b c d) (a0, a1, a2, a3, a4, a5, a6, b, c.map aclTo, d.map aclTo) := by
  unfold laws_toInode.f
  exact Ev.bind (toIntS_f b hb) (Ev.bind (toAclEntryS_f c hc) (Ev.bind (toAclEntryS_f d hd) (Ev.now _)))
theorem eqInode_f (a0 a1 a2 a3 a4 a5 a6 : Int) (b : List Int) (c d : List S115) (hb : b.length ≤ 1048576) (hc : c.length ≤ 1048576) (hd : d.length ≤ 1048576) :
    Ev (fun k => laws_eqInode.f k a0 a1 a2 a3 a4 a5 a6 b c d a0 a1 a2 a3 a4 a5 a6 b c d) true := by
  unfold laws_eqInode.f
  exact Ev.pos rfl (Ev.pos rfl (Ev.pos rfl (Ev.pos rfl (Ev.pos rfl (Ev.pos rfl (Ev.pos rfl (Ev.bind (eqIntS_f b hb) (Ev.pos rfl (Ev.bind (eqAclEntryS_f c hc) (Ev.pos rfl (Ev.bind (eqAclEntryS_f d hd) (Ev.pos rfl (Ev.now _)))))))))))))

def inTo (x : S32) : S37 := ⟨x.f0, x.f1, x.f2, x.f3, x.f4, x.f5, x.f6, x.f7, x.f8.map aclTo, x.f9.map aclTo⟩
def okIno (x : S32) : Prop := (Lit.int .i64 x.f0).wf = true ∧ (Lit.int .i64 x.f1).wf = true ∧ (Lit.int .i64 x.f2).wf = true ∧ (Lit.int .i64 x.f3).wf = true ∧ (Lit.int .i64 x.f4).wf = true ∧ (Lit.int .i64 x.f5).wf = true ∧ (Lit.int .i64 x.f6).wf = true ∧ okInt x.f7 ∧ okAcls x.f8 ∧ okAcls x.f9
def shIn (x : S37) : Prop := x.f7.length ≤ 1048576 ∧ x.f8.length ≤ 1048576 ∧ x.f9.length ≤ 1048576
def shInL (x : S32) : Prop := x.f7.length ≤ 1048576 ∧ x.f8.length ≤ 1048576 ∧ x.f9.length ≤ 1048576
theorem shIn_to {x : S32} (h : shInL x) : shIn (inTo x) := ⟨h.1, by show (x.f8.map aclTo).length ≤ _; rw [List.length_map]; exact h.2.1, by show (x.f9.map aclTo).length ≤ _; rw [List.length_map]; exact h.2.2⟩
theorem mem_of_drop {α : Type} {xs l : List α} {x : α} {n : Nat} (h : xs.drop n = x :: l) : x ∈ xs := List.mem_of_mem_drop (by rw [h]; exact List.mem_cons_self ..)
theorem szInodeS_l (xs : List S32) (hx : xs.length ≤ 1048576) (hs : ∀ x, x ∈ xs → okIno x) (l : List S32) : ∀ (i left : Int), 0 ≤ i → xs.drop i.toNat = l → 0 ≤ left → left ≤ 1048576 →
    ∃ t, Ev (fun k => laws_szInodeS.l0 k xs left i) t ∧ (t < 0 ∨ 0 ≤ t ∧ t ≤ left ∧ ∀ x, x ∈ l → shInL x) := by
  induction l with
  | nil =>
    intro i left h0 h hl hl'
    have := ldrop_nil h0 h
    exact ⟨left, Ev.step (fun _ => laws_szInodeS.l0.eq_2 ..) (Ev.neg (by omega) (Ev.now _)), Or.inr ⟨hl, by omega, fun s h => by cases h⟩⟩
  | cons x l ih =>
    intro i left h0 h hl hl'
    obtain ⟨a, b, c, e⟩ := ldrop_cons z32 h0 h
    have hr : rd_T32 xs i = x := b
    obtain ⟨_, _, _, _, _, _, _, p, q, r⟩ := hs x (mem_of_drop h)
    obtain ⟨t, h1, h2⟩ := szInode_ex x.f0 x.f1 x.f2 x.f3 x.f4 x.f5 x.f6 x.f7 x.f8 x.f9 p.1 q.1 r.1 left hl hl'
    by_cases hneg : t < 0
    · refine ⟨-1, Ev.step (fun _ => laws_szInodeS.l0.eq_2 ..) (Ev.pos a (Ev.pos h0 ?_)), by omega⟩
      rw [hr]
      exact Ev.bind0 h1 (Ev.pos hneg (Ev.now _))
    · obtain ⟨g0, g1, g2, g3, g4⟩ := h2.resolve_left hneg
      obtain ⟨u, h3, h4⟩ := ih (i + 1) t (by omega) c g0 (by omega)
      refine ⟨u, Ev.step (fun _ => laws_szInodeS.l0.eq_2 ..) (Ev.pos a (Ev.pos h0 ?_)), ?_⟩
      · rw [hr, w64 (n := i + 1) (by omega) (by omega)]
        exact Ev.bind0 h1 (Ev.neg hneg h3)
      · rcases h4 with h4 | ⟨h4, h5, h6⟩
        · exact Or.inl h4
        · refine Or.inr ⟨h4, by omega, fun s hs => ?_⟩
          rcases List.mem_cons.1 hs with hs | hs
          · subst hs
            exact ⟨by omega, by omega, by omega⟩
          · exact h6 s hs
theorem szInodeS_ex (xs : List S32) (hx : xs.length ≤ 9223372036854775807) (hs : ∀ x, x ∈ xs → okIno x) (left : Int) (hl : 0 ≤ left) (hl' : left ≤ 1048576) :
    ∃ t, Ev (fun k => laws_szInodeS.f k xs left) t ∧ (t < 0 ∨ 0 ≤ t ∧ t ≤ left ∧ (xs.length : Int) ≤ left ∧ ∀ x, x ∈ xs → shInL x) := by
  unfold laws_szInodeS.f
  rw [w64 (n := left - (xs.length : Int)) (by omega) (by omega)]
  by_cases hneg : left - (xs.length : Int) < 0
  · exact ⟨-1, Ev.pos hneg (Ev.now _), by omega⟩
  · obtain ⟨t, h1, h2⟩ := szInodeS_l xs (by omega) hs xs 0 (left - (xs.length : Int)) (by omega) rfl (by omega) (by omega)
    refine ⟨t, Ev.neg hneg h1, ?_⟩
    rcases h2 with h2 | ⟨h2, h3, h4⟩
    · exact Or.inl h2
    · exact Or.inr ⟨h2, by omega, by omega, h4⟩
theorem toInodeS_l (xs : List S32) (hx : xs.length ≤ 1048576) (hs : ∀ x, x ∈ xs → shInL x) (l : List S32) : ∀ (i : Int) (ys : List S37), 0 ≤ i → xs.drop i.toNat = l → ys.length = xs.length → Ev (fun k => laws_toInodeS.l0 k xs ys i) (ys.take i.toNat ++ l.map inTo) := by
  induction l with
  | nil =>
    intro i ys h0 h hy
    have := ldrop_nil h0 h
    rw [List.map_nil, List.append_nil, List.take_of_length_le (by omega)]
    exact Ev.step (fun _ => laws_toInodeS.l0.eq_2 ..) (Ev.neg (by omega) (Ev.now _))
  | cons x l ih =>
    intro i ys h0 h hy
    obtain ⟨a, b, c, e⟩ := ldrop_cons z32 h0 h
    have hr : rd_T32 xs i = x := b
    obtain ⟨p, q, r⟩ := hs x (mem_of_drop h)
    have := ih (i + 1) (ys.set i.toNat (inTo x)) (by omega) c (by rw [List.length_set]; exact hy)
    rw [set_take _ h0 (by omega), List.append_assoc] at this
    refine Ev.step (fun _ => laws_toInodeS.l0.eq_2 ..) (Ev.pos a (Ev.pos h0 ?_))
    rw [hr, w64 (n := i + 1) (by omega) (by omega)]
    exact Ev.bind (toInode_f x.f0 x.f1 x.f2 x.f3 x.f4 x.f5 x.f6 x.f7 x.f8 x.f9 p q r) (Ev.pos (by omega) this)
theorem toInodeS_f (xs : List S32) (hx : xs.length ≤ 1048576) (hs : ∀ x, x ∈ xs → shInL x) : Ev (fun k => laws_toInodeS.f k xs) (xs.map inTo) := by
  unfold laws_toInodeS.f
  exact Ev.pos (by omega) (Ev.pos (by omega) (toInodeS_l xs hx hs xs 0 _ (by omega) rfl (by rw [List.length_replicate]; omega)))
theorem eqInodeS_l (xs : List S37) (hx : xs.length ≤ 1048576) (hs : ∀ x, x ∈ xs → shIn x) (l : List S37) : ∀ (i : Int), 0 ≤ i → xs.drop i.toNat = l → Ev (fun k => laws_eqInodeS.l0 k xs xs i) true := by
  induction l with
  | nil =>
    intro i h0 h
    have := ldrop_nil h0 h
    exact Ev.step (fun _ => laws_eqInodeS.l0.eq_2 ..) (Ev.neg (by omega) (Ev.now _))
  | cons x l ih =>
    intro i h0 h
    obtain ⟨a, b, c, e⟩ := ldrop_cons z37 h0 h
    have hr : rd_T37 xs i = x := b
    obtain ⟨p, q, r⟩ := hs x (mem_of_drop h)
    refine Ev.step (fun _ => laws_eqInodeS.l0.eq_2 ..) (Ev.pos a (Ev.pos h0 (Ev.pos a ?_)))
    rw [hr, w64 (n := i + 1) (by omega) (by omega)]
    exact Ev.bind (eqInode_f x.f0 x.f1 x.f2 x.f3 x.f4 x.f5 x.f6 x.f7 x.f8 x.f9 p q r) (Ev.pos rfl (ih (i + 1) (by omega) c))
theorem eqInodeS_f (xs : List S37) (hx : xs.length ≤ 1048576) (hs : ∀ x, x ∈ xs → shIn x) : Ev (fun k => laws_eqInodeS.f k xs xs) true := by
  unfold laws_eqInodeS.f
  exact Ev.pos rfl (eqInodeS_l xs hx hs xs 0 (by omega) rfl)

def quTo (x : S158) : S134 := ⟨x.f0, x.f1⟩
theorem szQuotaS_ex (l : List S158) (hl : l.length ≤ 9223372036854775807) (n : Int) (hn : 0 ≤ n) (hn' : n ≤ 1048576) : ∃ t, laws_szQuotaS.f l n = some t ∧ (t < 0 ∨ ((l.length : Int) ≤ n ∧ t = n - (l.length : Int))) := by
  unfold laws_szQuotaS.f
  rw [w64 (by omega) (by omega)]
  by_cases h : n - (l.length : Int) < 0
  · rw [if_pos h]
    exact ⟨-1, by simp, by omega⟩
  · rw [if_neg h]
    exact ⟨_, rfl, by omega⟩
theorem toQuotaS_l (xs : List S158) (hx : xs.length ≤ 1048576) (l : List S158) : ∀ (i : Int) (ys : List S134), 0 ≤ i → xs.drop i.toNat = l → ys.length = xs.length → Ev (fun k => laws_toQuotaS.l0 k xs ys i) (ys.take i.toNat ++ l.map quTo) := by
  induction l with
  | nil =>
    intro i ys h0 h hy
    have := ldrop_nil h0 h
    rw [List.map_nil, List.append_nil, List.take_of_length_le (by omega)]
    exact Ev.step (fun _ => laws_toQuotaS.l0.eq_2 ..) (Ev.neg (by omega) (Ev.now _))
  | cons x l ih =>
    intro i ys h0 h hy
    obtain ⟨a, b, c, e⟩ := ldrop_cons z158 h0 h
    refine Ev.step (fun _ => laws_toQuotaS.l0.eq_2 ..) (Ev.pos a (Ev.pos h0 (Ev.bind0 rfl (Ev.pos (by omega) ?_))))
    have := ih (i + 1) (ys.set i.toNat (quTo x)) (by omega) c (by rw [List.length_set]; exact hy)
    rw [set_take _ h0 (by omega), List.append_assoc] at this
    rw [w64 (by omega) (by omega), show rd_T158 xs i = x from b]
    exact this
theorem toQuotaS_f (xs : List S158) (hx : xs.length ≤ 1048576) : Ev (fun k => laws_toQuotaS.f k xs) (xs.map quTo) := by
  unfold laws_toQuotaS.f
  exact Ev.pos (by omega) (Ev.pos (by omega) (toQuotaS_l xs hx xs 0 _ (by omega) rfl (by rw [List.length_replicate]; omega)))
theorem eqQuotaS_l (d : Nat) : ∀ (i : Int) (l : List S134), 0 ≤ i → i + d = (l.length : Int) → (l.length : Int) ≤ 4611686018427387904 → Ev (fun k => laws_eqQuotaS.l0 k l l i) true := by
  induction d with
  | zero =>
    intro i l h0 hd hl
    exact Ev.step (fun _ => laws_eqQuotaS.l0.eq_2 ..) (Ev.neg (by omega) (Ev.now _))
  | succ d ih =>
    intro i l h0 hd hl
    refine Ev.step (fun _ => laws_eqQuotaS.l0.eq_2 ..) (Ev.pos (by omega) (Ev.pos h0 (Ev.pos (by omega) (Ev.bind0 (a := true) (by unfold laws_eqQuota.f; simp) (Ev.pos rfl ?_)))))
    rw [w64 (n := i + 1) (by omega) (by omega)]
    exact ih (i + 1) l (by omega) (by omega) hl
theorem eqQuotaS_f (l : List S134) (hl : (l.length : Int) ≤ 4611686018427387904) : Ev (fun k => laws_eqQuotaS.f k l l) true := by
  unfold laws_eqQuotaS.f
  exact Ev.pos rfl (eqQuotaS_l l.length 0 l (by omega) (by omega) hl)

theorem szStringS_l (xs : List ByteArray) (hx : xs.length ≤ 1048576) (hs : ∀ s, s ∈ xs → s.size ≤ 9223372036854775807) (l : List ByteArray) : ∀ (i left : Int), 0 ≤ i → xs.drop i.toNat = l → 0 ≤ left → left ≤ 1048576 →
    ∃ t, Ev (fun k => laws_szStringS.l0 k xs left i) t ∧ (t < 0 ∨ 0 ≤ t ∧ t ≤ left ∧ ∀ s, s ∈ l → (s.size : Int) ≤ left) := by
  induction l with
  | nil =>
    intro i left h0 h hl hl'
    have := ldrop_nil h0 h
    exact ⟨left, Ev.step (fun _ => laws_szStringS.l0.eq_2 ..) (Ev.neg (by omega) (Ev.now _)), Or.inr ⟨hl, by omega, fun s h => by cases h⟩⟩
  | cons x l ih =>
    intro i left h0 h hl hl'
    obtain ⟨a, b, c, e⟩ := ldrop_cons ByteArray.empty h0 h
    have hxs : x.size ≤ 9223372036854775807 := hs x (by
      have : x ∈ xs.drop i.toNat := by rw [h]; exact List.mem_cons_self ..
      exact List.mem_of_mem_drop this)
    by_cases hneg : left - (x.size : Int) < 0
    · refine ⟨-1, Ev.step (fun _ => laws_szStringS.l0.eq_2 ..) (Ev.pos a (Ev.pos h0 ?_)), by omega⟩
      rw [b, w64 (n := left - (x.size : Int)) (by omega) (by omega)]
      exact Ev.pos hneg (Ev.now _)
    · obtain ⟨t, h1, h2⟩ := ih (i + 1) (left - (x.size : Int)) (by omega) c (by omega) (by omega)
      refine ⟨t, Ev.step (fun _ => laws_szStringS.l0.eq_2 ..) (Ev.pos a (Ev.pos h0 ?_)), ?_⟩
      · rw [b, w64 (n := left - (x.size : Int)) (by omega) (by omega), w64 (n := i + 1) (by omega) (by omega)]
        exact Ev.neg hneg h1
      · rcases h2 with h2 | ⟨h2, h3, h4⟩
        · exact Or.inl h2
        · refine Or.inr ⟨h2, by omega, fun s hs => ?_⟩
          rcases List.mem_cons.1 hs with hs | hs
          · subst hs
            omega
          · have := h4 s hs
            omega
theorem szStringS_ex (xs : List ByteArray) (hx : xs.length ≤ 9223372036854775807) (hs : ∀ s, s ∈ xs → s.size ≤ 9223372036854775807) (left : Int) (hl : 0 ≤ left) (hl' : left ≤ 1048576) :
    ∃ t, Ev (fun k => laws_szStringS.f k xs left) t ∧ (t < 0 ∨ 0 ≤ t ∧ t ≤ left ∧ (xs.length : Int) ≤ left ∧ ∀ s, s ∈ xs → (s.size : Int) ≤ left) := by
  unfold laws_szStringS.f
  rw [w64 (n := left - (xs.length : Int)) (by omega) (by omega)]
  by_cases hneg : left - (xs.length : Int) < 0
  · exact ⟨-1, Ev.pos hneg (Ev.now _), by omega⟩
  · obtain ⟨t, h1, h2⟩ := szStringS_l xs (by omega) hs xs 0 (left - (xs.length : Int)) (by omega) rfl (by omega) (by omega)
    refine ⟨t, Ev.neg hneg h1, ?_⟩
    rcases h2 with h2 | ⟨h2, h3, h4⟩
    · exact Or.inl h2
    · exact Or.inr ⟨h2, by omega, by omega, fun s hs => by have := h4 s hs; omega⟩

theorem toStringS_l (xs : List ByteArray) (hx : xs.length ≤ 1048576) (l : List ByteArray) : ∀ (i : Int) (ys : List ByteArray), 0 ≤ i → xs.drop i.toNat = l → ys.length = xs.length → Ev (fun k => laws_toStringS.l0 k xs ys i) (ys.take i.toNat ++ l) := by
  induction l with
  | nil =>
    intro i ys h0 h hy
    have := ldrop_nil h0 h
    rw [List.append_nil, List.take_of_length_le (by omega)]
    exact Ev.step (fun _ => laws_toStringS.l0.eq_2 ..) (Ev.neg (by omega) (Ev.now _))
  | cons x l ih =>
    intro i ys h0 h hy
    obtain ⟨a, b, c, e⟩ := ldrop_cons ByteArray.empty h0 h
    refine Ev.step (fun _ => laws_toStringS.l0.eq_2 ..) (Ev.pos a (Ev.pos h0 (Ev.pos (by omega) ?_)))
    have := ih (i + 1) (ys.set i.toNat x) (by omega) c (by rw [List.length_set]; exact hy)
    rw [set_take _ h0 (by omega), List.append_assoc] at this
    rw [w64 (by omega) (by omega), b]
    exact this
theorem toStringS_f (xs : List ByteArray) (hx : xs.length ≤ 1048576) : Ev (fun k => laws_toStringS.f k xs) xs := by
  unfold laws_toStringS.f
  exact Ev.pos (by omega) (Ev.pos (by omega) (toStringS_l xs hx xs 0 _ (by omega) rfl (by rw [List.length_replicate]; omega)))

theorem eqStringS_refl_l (d : Nat) : ∀ (i : Int) (l : List ByteArray), 0 ≤ i → i + d = (l.length : Int) → (l.length : Int) ≤ 4611686018427387904 → Ev (fun k => laws_eqStringS.l0 k l l i) true := by
  induction d with
  | zero =>
    intro i l h0 hd hl
    exact Ev.step (fun _ => laws_eqStringS.l0.eq_2 ..) (Ev.neg (by omega) (Ev.now _))
  | succ d ih =>
    intro i l h0 hd hl
    refine Ev.step (fun _ => laws_eqStringS.l0.eq_2 ..) (Ev.pos (by omega) (Ev.pos h0 (Ev.pos (by omega) (Ev.pos rfl ?_))))
    rw [w64 (n := i + 1) (by omega) (by omega)]
    exact ih (i + 1) l (by omega) (by omega) hl
theorem eqStringS_refl (l : List ByteArray) (hl : (l.length : Int) ≤ 4611686018427387904) : Ev (fun k => laws_eqStringS.f k l l) true := by
  unfold laws_eqStringS.f
  exact Ev.pos rfl (eqStringS_refl_l l.length 0 l (by omega) (by omega) hl)

def okFS (t : Int) (q : List S158) (n : List S32) (d : List ByteArray) : Prop := (Lit.int .i64 t).wf = true ∧ (q.length ≤ 9223372036854775807 ∧ ∀ x, x ∈ q → (Lit.int .i64 x.f0).wf = true ∧ (Lit.int .i64 x.f1).wf = true) ∧ (n.length ≤ 9223372036854775807 ∧ ∀ x, x ∈ n → okIno x) ∧ (d.length ≤ 9223372036854775807 ∧ ∀ s, s ∈ d → s.size ≤ 9223372036854775807)
theorem szFS_ex (t : Int) (q : List S158) (n : List S32) (d : List ByteArray) (h : okFS t q n d) (left : Int) (hl : 0 ≤ left) (hl' : left ≤ 1048576) :
    ∃ u, Ev (fun k => laws_szFS.f k t q n d left) u ∧ (u < 0 ∨ 0 ≤ u ∧ u ≤ left ∧ q.length ≤ 1048576 ∧ n.length ≤ 1048576 ∧ d.length ≤ 1048576 ∧ (∀ x, x ∈ n → shInL x) ∧ ∀ s, s ∈ d → s.size ≤ 1048576) := by
  obtain ⟨_, hq, hn, hd⟩ := h
  unfold laws_szFS.f
  obtain ⟨u1, a1, b1⟩ := szQuotaS_ex q hq.1 left hl hl'
  by_cases c1 : u1 < 0
  · exact ⟨-1, Ev.bind0 a1 (Ev.pos c1 (Ev.now _)), by omega⟩
  · obtain ⟨d1, d2⟩ := b1.resolve_left c1
    obtain ⟨u2, a2, b2⟩ := szInodeS_ex n hn.1 hn.2 u1 (by omega) (by omega)
    by_cases c2 : u2 < 0
    · exact ⟨-1, Ev.bind0 a1 (Ev.neg c1 (Ev.bind a2 (Ev.pos c2 (Ev.now _)))), by omega⟩
    · obtain ⟨e1, e2, e3, e4⟩ := b2.resolve_left c2
      obtain ⟨u3, a3, b3⟩ := szStringS_ex d hd.1 hd.2 u2 e1 (by omega)
      by_cases c3 : u3 < 0
      · exact ⟨-1, Ev.bind0 a1 (Ev.neg c1 (Ev.bind a2 (Ev.neg c2 (Ev.bind a3 (Ev.pos c3 (Ev.now _)))))), by omega⟩
      · obtain ⟨f1, f2, f3, f4⟩ := b3.resolve_left c3
        exact ⟨u3, Ev.bind0 a1 (Ev.neg c1 (Ev.bind a2 (Ev.neg c2 (Ev.bind a3 (Ev.neg c3 (Ev.now _)))))), Or.inr ⟨f1, by omega, by omega, by omega, by omega, e4, fun s hs => by have := f4 s hs; omega⟩⟩
theorem toFS_f (t : Int) (q : List S158) (n : List S32) (d : List ByteArray) (hq : q.length ≤ 1048576) (hn : n.length ≤ 1048576) (hd : d.length ≤ 1048576) (hs : ∀ x, x ∈ n → shInL x) : Ev (fun k => laws_toFS.f k t q n d) (t, q.map quTo, n.map inTo, d) := by
  unfold laws_toFS.f
  exact Ev.bind (toQuotaS_f q hq) (Ev.bind (toInodeS_f n hn hs) (Ev.bind (toStringS_f d hd) (Ev.now _)))
theorem eqFS_f (t : Int) (q : List S134) (n : List S37) (d : List ByteArray) (hq : q.length ≤ 1048576) (hn : n.length ≤ 1048576) (hd : d.length ≤ 1048576) (hs : ∀ x, x ∈ n → shIn x) : Ev (fun k => laws_eqFS.f k t q n d t q n d) true := by
  unfold laws_eqFS.f
  exact Ev.pos rfl (Ev.bind (eqQuotaS_f q (by omega)) (Ev.pos rfl (Ev.bind (eqInodeS_f n hn hs) (Ev.pos rfl (Ev.bind (eqStringS_refl d (by omega)) (Ev.pos rfl (Ev.now _)))))))
theorem shIn_map {n : List S32} (hs : ∀ x, x ∈ n → shInL x) : ∀ x, x ∈ n.map inTo → shIn x := by
  intro x hx
  obtain ⟨y, hy, rfl⟩ := List.mem_map.1 hx
  exact shIn_to (hs y hy)

theorem spec_l02Same_l (a b : List Int) (ha : a.length ≤ 1048576) (hab : a.length = b.length) (l : List Int) : ∀ (i : Int) (m : List Int), 0 ≤ i → a.drop i.toNat = l → b.drop i.toNat = m → Ev (fun k => spec_l02Same.l0 k b a (a.length : Int) i) (allEq intEq l m) := by
  induction l with
  | nil =>
    intro i m h0 h h'
    have h1 := ldrop_nil h0 h
    have hm : m = [] := by rw [← h']; exact List.drop_eq_nil_of_le (by omega)
    rw [hm]
    exact Ev.step (fun _ => spec_l02Same.l0.eq_2 ..) (Ev.neg (by omega) (Ev.now _))
  | cons x l ih =>
    intro i m h0 h h'
    obtain ⟨p, q, c, e⟩ := ldrop_cons (0 : Int) h0 h
    cases m with
    | nil =>
      have := ldrop_nil h0 h'
      omega
    | cons y m =>
      obtain ⟨p', q', c', e'⟩ := ldrop_cons (0 : Int) h0 h'
      have this := ih (i + 1) m (by omega) c c'
      have hq : rd a i = x := q
      have hq' : rd b i = y := q'
      refine Ev.step (fun _ => spec_l02Same.l0.eq_2 ..) (Ev.pos p (Ev.pos h0 (Ev.pos p (Ev.pos p' ?_))))
      rw [hq, hq', w64 (n := i + 1) (by omega) (by omega), allEq]
      by_cases hxy : x = y
      · rw [show intEq x y = true from decide_eq_true hxy, Bool.true_and]
        exact Ev.pos hxy this
      · rw [show intEq x y = false from decide_eq_false hxy, Bool.false_and]
        exact Ev.neg hxy (Ev.now _)
theorem spec_l02Same_f (a b : List Int) (ha : a.length ≤ 1048576) : Ev (fun k => spec_l02Same.f k a b) (allEq intEq a b) := by
  unfold spec_l02Same.f
  by_cases h : (a.length : Int) = (b.length : Int)
  · exact Ev.pos h (spec_l02Same_l a b ha (by omega) a 0 b (by omega) rfl rfl)
  · rw [allEq_len a b (by omega)]
    exact Ev.neg h (Ev.now _)

def aclEq (x y : S115) : Bool := decide (x.f0 = y.f0 ∧ x.f1 = y.f1 ∧ x.f2 = y.f2)
theorem aclEq_refl (x : S115) : aclEq x x = true := decide_eq_true ⟨rfl, rfl, rfl⟩
theorem aclEq_cond (x y : S115) : ((!(x.f0 == y.f0) || (!(x.f1 == y.f1) || !(x.f2 == y.f2))) = true) ↔ ¬ (aclEq x y = true) := by
  unfold aclEq
  simp only [Bool.or_eq_true, Bool.not_eq_true', beq_eq_false_iff_ne, decide_eq_true_eq, ne_eq]
  omega

theorem spec_l05Same_l (a b : List S115) (ha : a.length ≤ 1048576) (hab : a.length = b.length) (l : List S115) : ∀ (i : Int) (m : List S115), 0 ≤ i → a.drop i.toNat = l → b.drop i.toNat = m → Ev (fun k => spec_l05Same.l0 k b a (a.length : Int) i) (allEq aclEq l m) := by
  induction l with
  | nil =>
    intro i m h0 h h'
    have h1 := ldrop_nil h0 h
    have hm : m = [] := by rw [← h']; exact List.drop_eq_nil_of_le (by omega)
    rw [hm]
    exact Ev.step (fun _ => spec_l05Same.l0.eq_2 ..) (Ev.neg (by omega) (Ev.now _))
  | cons x l ih =>
    intro i m h0 h h'
    obtain ⟨p, q, c, e⟩ := ldrop_cons z115 h0 h
    cases m with
    | nil =>
      have := ldrop_nil h0 h'
      omega
    | cons y m =>
      obtain ⟨p', q', c', e'⟩ := ldrop_cons z115 h0 h'
      have this := ih (i + 1) m (by omega) c c'
      have hq : rd_T115 a i = x := q
      have hq' : rd_T115 b i = y := q'
      refine Ev.step (fun _ => spec_l05Same.l0.eq_2 ..) (Ev.pos p (Ev.pos h0 (Ev.pos p (Ev.pos p' ?_))))
      rw [hq, hq', w64 (n := i + 1) (by omega) (by omega), allEq]
      by_cases hxy : aclEq x y = true
      · rw [hxy, Bool.true_and]
        exact Ev.neg (fun h => (aclEq_cond x y).1 h hxy) this
      · rw [show aclEq x y = false by simpa using hxy, Bool.false_and]
        exact Ev.pos ((aclEq_cond x y).2 hxy) (Ev.now _)
theorem spec_l05Same_f (a b : List S115) (ha : a.length ≤ 1048576) : Ev (fun k => spec_l05Same.f k a b) (allEq aclEq a b) := by
  unfold spec_l05Same.f
  by_cases h : (a.length : Int) = (b.length : Int)
  · exact Ev.pos h (spec_l05Same_l a b ha (by omega) a 0 b (by omega) rfl rfl)
  · rw [allEq_len a b (by omega)]
    exact Ev.neg h (Ev.now _)

theorem slices_Equal_int_int_l (a b : List Int) (ha : a.length ≤ 1048576) (hab : a.length = b.length) (l : List Int) : ∀ (i : Int) (m : List Int), 0 ≤ i → a.drop i.toNat = l → b.drop i.toNat = m → Ev (fun k => slices_Equal_int_int.l0 k a b (a.length : Int) i) (allEq intEq l m) := by
  induction l with
  | nil =>
    intro i m h0 h h'
    have h1 := ldrop_nil h0 h
    have hm : m = [] := by rw [← h']; exact List.drop_eq_nil_of_le (by omega)
    rw [hm]
    exact Ev.step (fun _ => slices_Equal_int_int.l0.eq_2 ..) (Ev.neg (by omega) (Ev.now _))
  | cons x l ih =>
    intro i m h0 h h'
    obtain ⟨p, q, c, e⟩ := ldrop_cons (0 : Int) h0 h
    cases m with
    | nil =>
      have := ldrop_nil h0 h'
      omega
    | cons y m =>
      obtain ⟨p', q', c', e'⟩ := ldrop_cons (0 : Int) h0 h'
      have this := ih (i + 1) m (by omega) c c'
      have hq : rd a i = x := q
      have hq' : rd b i = y := q'
      refine Ev.step (fun _ => slices_Equal_int_int.l0.eq_2 ..) (Ev.pos p (Ev.pos h0 (Ev.pos p (Ev.pos p' ?_))))
      rw [hq, hq', w64 (n := i + 1) (by omega) (by omega), allEq]
      by_cases hxy : x = y
      · rw [show intEq x y = true from decide_eq_true hxy, Bool.true_and]
        exact Ev.pos hxy this
      · rw [show intEq x y = false from decide_eq_false hxy, Bool.false_and]
        exact Ev.neg hxy (Ev.now _)
theorem slices_Equal_int_int_f (a b : List Int) (ha : a.length ≤ 1048576) : Ev (fun k => slices_Equal_int_int.f k a b) (allEq intEq a b) := by
  unfold slices_Equal_int_int.f
  by_cases h : (a.length : Int) = (b.length : Int)
  · exact Ev.pos h (slices_Equal_int_int_l a b ha (by omega) a 0 b (by omega) rfl rfl)
  · rw [allEq_len a b (by omega)]
    exact Ev.neg h (Ev.now _)

theorem impl_AclEntry_l (a b : List S115) (ha : a.length ≤ 1048576) (hab : a.length = b.length) (l : List S115) : ∀ (i : Int) (m : List S115), 0 ≤ i → a.drop i.toNat = l → b.drop i.toNat = m → Ev (fun k => impl_AclEntry.l0 k a b (a.length : Int) i) (allEq aclEq l m) := by
  induction l with
  | nil =>
    intro i m h0 h h'
    have h1 := ldrop_nil h0 h
    have hm : m = [] := by rw [← h']; exact List.drop_eq_nil_of_le (by omega)
    rw [hm]
    exact Ev.step (fun _ => impl_AclEntry.l0.eq_2 ..) (Ev.neg (by omega) (Ev.now _))
  | cons x l ih =>
    intro i m h0 h h'
    obtain ⟨p, q, c, e⟩ := ldrop_cons z115 h0 h
    cases m with
    | nil =>
      have := ldrop_nil h0 h'
      omega
    | cons y m =>
      obtain ⟨p', q', c', e'⟩ := ldrop_cons z115 h0 h'
      have this := ih (i + 1) m (by omega) c c'
      have hq : rd_T115 a i = x := q
      have hq' : rd_T115 b i = y := q'
      refine Ev.step (fun _ => impl_AclEntry.l0.eq_2 ..) (Ev.pos p (Ev.pos h0 (Ev.pos p (Ev.pos p' ?_))))
      rw [hq, hq', w64 (n := i + 1) (by omega) (by omega), allEq]
      by_cases hxy : aclEq x y = true
      · rw [hxy, Bool.true_and]
        exact Ev.neg (fun h => (aclEq_cond x y).1 h hxy) this
      · rw [show aclEq x y = false by simpa using hxy, Bool.false_and]
        exact Ev.pos ((aclEq_cond x y).2 hxy) (Ev.now _)
theorem impl_AclEntry_f (a b : List S115) (ha : a.length ≤ 1048576) : Ev (fun k => impl_AclEntry.f k a b) (allEq aclEq a b) := by
  unfold impl_AclEntry.f
  by_cases h : (a.length : Int) = (b.length : Int)
  · exact Ev.pos h (impl_AclEntry_l a b ha (by omega) a 0 b (by omega) rfl rfl)
  · rw [allEq_len a b (by omega)]
    exact Ev.neg h (Ev.now _)

def sameInodeM (a0 a1 a2 a3 a4 a5 a6 : Int) (b : List Int) (c d : List S115) (x0 x1 x2 x3 x4 x5 x6 : Int) (y : List Int) (z w : List S115) : Bool :=
  if a0 = x0 ∧ a1 = x1 ∧ a2 = x2 ∧ a3 = x3 ∧ a4 = x4 ∧ a5 = x5 ∧ a6 = x6 then (if allEq intEq b y = true then (if allEq aclEq c z = true then allEq aclEq d w else false) else false) else false
theorem sameInode_spec (a0 a1 a2 a3 a4 a5 a6 : Int) (b : List Int) (c d : List S115) (x0 x1 x2 x3 x4 x5 x6 : Int) (y : List Int) (z w : List S115) (hb : b.length ≤ 1048576) (hc : c.length ≤ 1048576) (hd : d.length ≤ 1048576) :
    Ev (fun k => spec_SameInode.f k a0 a1 a2 a3 a4 a5 a6 b c d x0 x1 x2 x3 x4 x5 x6 y z w) (sameInodeM a0 a1 a2 a3 a4 a5 a6 b c d x0 x1 x2 x3 x4 x5 x6 y z w) := by
  unfold spec_SameInode.f
  have j : ∀ t : Bool, t = !decide (a0 = x0 ∧ a1 = x1 ∧ a2 = x2 ∧ a3 = x3 ∧ a4 = x4 ∧ a5 = x5 ∧ a6 = x6) →
      Ev (fun k => spec_SameInode.j0 k t a0 a1 a2 a3 a4 a5 a6 b c d x0 x1 x2 x3 x4 x5 x6 y z w) (sameInodeM a0 a1 a2 a3 a4 a5 a6 b c d x0 x1 x2 x3 x4 x5 x6 y z w) := by
    intro t ht
    refine Ev.step (fun _ => spec_SameInode.j0.eq_2 ..) ?_
    unfold sameInodeM
    by_cases hall : a0 = x0 ∧ a1 = x1 ∧ a2 = x2 ∧ a3 = x3 ∧ a4 = x4 ∧ a5 = x5 ∧ a6 = x6
    · rw [if_pos hall]
      refine Ev.neg (by rw [ht, decide_eq_true hall]; decide) (Ev.bind (spec_l02Same_f b y hb) ?_)
      by_cases h1 : allEq intEq b y = true
      · rw [if_pos h1]
        refine Ev.pos h1 (Ev.bind (spec_l05Same_f c z hc) ?_)
        by_cases h2 : allEq aclEq c z = true
        · rw [if_pos h2]
          exact Ev.pos h2 (Ev.bind (spec_l05Same_f d w hd) (Ev.now _))
        · rw [if_neg h2]
          exact Ev.neg h2 (Ev.now _)
      · rw [if_neg h1]
        exact Ev.neg h1 (Ev.now _)
    · rw [if_neg hall]
      exact Ev.pos (by rw [ht, decide_eq_false hall]; decide) (Ev.now _)
  have no : ¬ (a0 = x0 ∧ a1 = x1 ∧ a2 = x2 ∧ a3 = x3 ∧ a4 = x4 ∧ a5 = x5 ∧ a6 = x6) → Ev (fun k => spec_SameInode.j0 k true a0 a1 a2 a3 a4 a5 a6 b c d x0 x1 x2 x3 x4 x5 x6 y z w) (sameInodeM a0 a1 a2 a3 a4 a5 a6 b c d x0 x1 x2 x3 x4 x5 x6 y z w) := fun h => j true (by rw [decide_eq_false h]; rfl)
  by_cases e0 : a0 = x0
  · refine Ev.pos e0 ?_
    by_cases e1 : a1 = x1
    · refine Ev.pos e1 ?_
      by_cases e2 : a2 = x2
      · refine Ev.pos e2 ?_
        by_cases e3 : a3 = x3
        · refine Ev.pos e3 ?_
          by_cases e4 : a4 = x4
          · refine Ev.pos e4 ?_
            by_cases e5 : a5 = x5
            · refine Ev.pos e5 (j _ ?_)
              by_cases e6 : a6 = x6
              · rw [decide_eq_true ⟨e0, e1, e2, e3, e4, e5, e6⟩]
                simp [e6]
              · rw [decide_eq_false (fun h => e6 h.2.2.2.2.2.2)]
                simp [e6]
            · exact Ev.neg e5 (no (fun h => e5 h.2.2.2.2.2.1))
          · exact Ev.neg e4 (no (fun h => e4 h.2.2.2.2.1))
        · exact Ev.neg e3 (no (fun h => e3 h.2.2.2.1))
      · exact Ev.neg e2 (no (fun h => e2 h.2.2.1))
    · exact Ev.neg e1 (no (fun h => e1 h.2.1))
  · exact Ev.neg e0 (no (fun h => e0 h.1))
theorem sameInode_impl (a0 a1 a2 a3 a4 a5 a6 : Int) (b : List Int) (c d : List S115) (x0 x1 x2 x3 x4 x5 x6 : Int) (y : List Int) (z w : List S115) (hb : b.length ≤ 1048576) (hc : c.length ≤ 1048576) (hd : d.length ≤ 1048576) :
    Ev (fun k => impl_SameInode.f k a0 a1 a2 a3 a4 a5 a6 b c d x0 x1 x2 x3 x4 x5 x6 y z w) (sameInodeM a0 a1 a2 a3 a4 a5 a6 b c d x0 x1 x2 x3 x4 x5 x6 y z w) := by
  unfold impl_SameInode.f sameInodeM
  by_cases hall : a0 = x0 ∧ a1 = x1 ∧ a2 = x2 ∧ a3 = x3 ∧ a4 = x4 ∧ a5 = x5 ∧ a6 = x6
  · rw [if_pos hall]
    obtain ⟨e0, e1, e2, e3, e4, e5, e6⟩ := hall
    refine Ev.pos e0 (Ev.pos e1 (Ev.pos e2 (Ev.pos e3 (Ev.pos e4 (Ev.pos e5 (Ev.pos e6 (Ev.bind (slices_Equal_int_int_f b y hb) ?_)))))))
    by_cases h1 : allEq intEq b y = true
    · rw [if_pos h1]
      refine Ev.pos h1 (Ev.bind (impl_AclEntry_f c z hc) ?_)
      by_cases h2 : allEq aclEq c z = true
      · rw [if_pos h2]
        exact Ev.pos h2 (Ev.bind (impl_AclEntry_f d w hd) (Ev.now _))
      · rw [if_neg h2]
        exact Ev.neg h2 (Ev.now _)
    · rw [if_neg h1]
      exact Ev.neg h1 (Ev.now _)
  · rw [if_neg hall]
    by_cases e0 : a0 = x0
    · refine Ev.pos e0 ?_
      by_cases e1 : a1 = x1
      · refine Ev.pos e1 ?_
        by_cases e2 : a2 = x2
        · refine Ev.pos e2 ?_
          by_cases e3 : a3 = x3
          · refine Ev.pos e3 ?_
            by_cases e4 : a4 = x4
            · refine Ev.pos e4 ?_
              by_cases e5 : a5 = x5
              · exact Ev.pos e5 (Ev.neg (fun e6 => hall ⟨e0, e1, e2, e3, e4, e5, e6⟩) (Ev.now _))
              · exact Ev.neg e5 (Ev.now _)
            · exact Ev.neg e4 (Ev.now _)
          · exact Ev.neg e3 (Ev.now _)
        · exact Ev.neg e2 (Ev.now _)
      · exact Ev.neg e1 (Ev.now _)
    · exact Ev.neg e0 (Ev.now _)

theorem spec_l02Texts_l (a b : List ByteArray) (ha : a.length ≤ 1048576) (hab : a.length = b.length) (l : List ByteArray) : ∀ (i : Int) (m : List ByteArray), 0 ≤ i → a.drop i.toNat = l → b.drop i.toNat = m → Ev (fun k => spec_l02Texts.l0 k b a (a.length : Int) i) (allEq strEq l m) := by
  induction l with
  | nil =>
    intro i m h0 h h'
    have h1 := ldrop_nil h0 h
    have hm : m = [] := by rw [← h']; exact List.drop_eq_nil_of_le (by omega)
    rw [hm]
    exact Ev.step (fun _ => spec_l02Texts.l0.eq_2 ..) (Ev.neg (by omega) (Ev.now _))
  | cons x l ih =>
    intro i m h0 h h'
    obtain ⟨p, q, c, e⟩ := ldrop_cons ByteArray.empty h0 h
    cases m with
    | nil =>
      have := ldrop_nil h0 h'
      omega
    | cons y m =>
      obtain ⟨p', q', c', e'⟩ := ldrop_cons ByteArray.empty h0 h'
      have this := ih (i + 1) m (by omega) c c'
      have hq : rdOf ByteArray.empty a i = x := q
      have hq' : rdOf ByteArray.empty b i = y := q'
      refine Ev.step (fun _ => spec_l02Texts.l0.eq_2 ..) (Ev.pos p (Ev.pos h0 (Ev.pos p (Ev.pos p' ?_))))
      rw [hq, hq', w64 (n := i + 1) (by omega) (by omega), allEq]
      by_cases hxy : x.toList = y.toList
      · rw [show strEq x y = true from decide_eq_true hxy, Bool.true_and]
        exact Ev.pos hxy this
      · rw [show strEq x y = false from decide_eq_false hxy, Bool.false_and]
        exact Ev.neg hxy (Ev.now _)
theorem spec_l02Texts_f (a b : List ByteArray) (ha : a.length ≤ 1048576) : Ev (fun k => spec_l02Texts.f k a b) (allEq strEq a b) := by
  unfold spec_l02Texts.f
  by_cases h : (a.length : Int) = (b.length : Int)
  · exact Ev.pos h (spec_l02Texts_l a b ha (by omega) a 0 b (by omega) rfl rfl)
  · rw [allEq_len a b (by omega)]
    exact Ev.neg h (Ev.now _)

theorem slices_Equal_string_string_l (a b : List ByteArray) (ha : a.length ≤ 1048576) (hab : a.length = b.length) (l : List ByteArray) : ∀ (i : Int) (m : List ByteArray), 0 ≤ i → a.drop i.toNat = l → b.drop i.toNat = m → Ev (fun k => slices_Equal_string_string.l0 k a b (a.length : Int) i) (allEq strEq l m) := by
  induction l with
  | nil =>
    intro i m h0 h h'
    have h1 := ldrop_nil h0 h
    have hm : m = [] := by rw [← h']; exact List.drop_eq_nil_of_le (by omega)
    rw [hm]
    exact Ev.step (fun _ => slices_Equal_string_string.l0.eq_2 ..) (Ev.neg (by omega) (Ev.now _))
  | cons x l ih =>
    intro i m h0 h h'
    obtain ⟨p, q, c, e⟩ := ldrop_cons ByteArray.empty h0 h
    cases m with
    | nil =>
      have := ldrop_nil h0 h'
      omega
    | cons y m =>
      obtain ⟨p', q', c', e'⟩ := ldrop_cons ByteArray.empty h0 h'
      have this := ih (i + 1) m (by omega) c c'
      have hq : rdOf ByteArray.empty a i = x := q
      have hq' : rdOf ByteArray.empty b i = y := q'
      refine Ev.step (fun _ => slices_Equal_string_string.l0.eq_2 ..) (Ev.pos p (Ev.pos h0 (Ev.pos p (Ev.pos p' ?_))))
      rw [hq, hq', w64 (n := i + 1) (by omega) (by omega), allEq]
      by_cases hxy : x.toList = y.toList
      · rw [show strEq x y = true from decide_eq_true hxy, Bool.true_and]
        exact Ev.pos hxy this
      · rw [show strEq x y = false from decide_eq_false hxy, Bool.false_and]
        exact Ev.neg hxy (Ev.now _)
theorem slices_Equal_string_string_f (a b : List ByteArray) (ha : a.length ≤ 1048576) : Ev (fun k => slices_Equal_string_string.f k a b) (allEq strEq a b) := by
  unfold slices_Equal_string_string.f
  by_cases h : (a.length : Int) = (b.length : Int)
  · exact Ev.pos h (slices_Equal_string_string_l a b ha (by omega) a 0 b (by omega) rfl rfl)
  · rw [allEq_len a b (by omega)]
    exact Ev.neg h (Ev.now _)

def quEq (x y : S134) : Bool := decide (x.f0 = y.f0 ∧ x.f1 = y.f1)
theorem quEq_refl (x : S134) : quEq x x = true := decide_eq_true ⟨rfl, rfl⟩
theorem quEq_cond (x y : S134) : ((!(x.f0 == y.f0) || !(x.f1 == y.f1)) = true) ↔ ¬ (quEq x y = true) := by
  unfold quEq
  simp only [Bool.or_eq_true, Bool.not_eq_true', beq_eq_false_iff_ne, decide_eq_true_eq, ne_eq]
  omega

theorem impl_Quota_l (a b : List S134) (ha : a.length ≤ 1048576) (hab : a.length = b.length) (l : List S134) : ∀ (i : Int) (m : List S134), 0 ≤ i → a.drop i.toNat = l → b.drop i.toNat = m → Ev (fun k => impl_Quota.l0 k a b (a.length : Int) i) (allEq quEq l m) := by
  induction l with
  | nil =>
    intro i m h0 h h'
    have h1 := ldrop_nil h0 h
    have hm : m = [] := by rw [← h']; exact List.drop_eq_nil_of_le (by omega)
    rw [hm]
    exact Ev.step (fun _ => impl_Quota.l0.eq_2 ..) (Ev.neg (by omega) (Ev.now _))
  | cons x l ih =>
    intro i m h0 h h'
    obtain ⟨p, q, c, e⟩ := ldrop_cons z134 h0 h
    cases m with
    | nil =>
      have := ldrop_nil h0 h'
      omega
    | cons y m =>
      obtain ⟨p', q', c', e'⟩ := ldrop_cons z134 h0 h'
      have this := ih (i + 1) m (by omega) c c'
      have hq : rd_T134 a i = x := q
      have hq' : rd_T134 b i = y := q'
      refine Ev.step (fun _ => impl_Quota.l0.eq_2 ..) (Ev.pos p (Ev.pos h0 (Ev.pos p (Ev.pos p' ?_))))
      rw [hq, hq', w64 (n := i + 1) (by omega) (by omega), allEq]
      by_cases hxy : quEq x y = true
      · rw [hxy, Bool.true_and]
        exact Ev.neg (fun h => (quEq_cond x y).1 h hxy) this
      · rw [show quEq x y = false by simpa using hxy, Bool.false_and]
        exact Ev.pos ((quEq_cond x y).2 hxy) (Ev.now _)
theorem impl_Quota_f (a b : List S134) (ha : a.length ≤ 1048576) : Ev (fun k => impl_Quota.f k a b) (allEq quEq a b) := by
  unfold impl_Quota.f
  by_cases h : (a.length : Int) = (b.length : Int)
  · exact Ev.pos h (impl_Quota_l a b ha (by omega) a 0 b (by omega) rfl rfl)
  · rw [allEq_len a b (by omega)]
    exact Ev.neg h (Ev.now _)

def inoEq (x y : S37) : Bool := sameInodeM x.f0 x.f1 x.f2 x.f3 x.f4 x.f5 x.f6 x.f7 x.f8 x.f9 y.f0 y.f1 y.f2 y.f3 y.f4 y.f5 y.f6 y.f7 y.f8 y.f9
theorem impl_Inode_l (a b : List S37) (ha : a.length ≤ 1048576) (hab : a.length = b.length) (hs : ∀ x, x ∈ a → shIn x) (l : List S37) : ∀ (i : Int) (m : List S37), 0 ≤ i → a.drop i.toNat = l → b.drop i.toNat = m → Ev (fun k => impl_Inode.l0 k b a (a.length : Int) i) (allEq inoEq l m) := by
  induction l with
  | nil =>
    intro i m h0 h h'
    have h1 := ldrop_nil h0 h
    have hm : m = [] := by rw [← h']; exact List.drop_eq_nil_of_le (by omega)
    rw [hm]
    exact Ev.step (fun _ => impl_Inode.l0.eq_2 ..) (Ev.neg (by omega) (Ev.now _))
  | cons x l ih =>
    intro i m h0 h h'
    obtain ⟨p, q, c, e⟩ := ldrop_cons z37 h0 h
    cases m with
    | nil =>
      have := ldrop_nil h0 h'
      omega
    | cons y m =>
      obtain ⟨p', q', c', e'⟩ := ldrop_cons z37 h0 h'
      have this := ih (i + 1) m (by omega) c c'
      have hq : rd_T37 a i = x := q
      have hq' : rd_T37 b i = y := q'
      obtain ⟨s1, s2, s3⟩ := hs x (mem_of_drop h)
      refine Ev.step (fun _ => impl_Inode.l0.eq_2 ..) (Ev.pos p (Ev.pos h0 (Ev.pos p (Ev.pos p' ?_))))
      rw [hq, hq', w64 (n := i + 1) (by omega) (by omega), allEq]
      refine Ev.bind (sameInode_impl x.f0 x.f1 x.f2 x.f3 x.f4 x.f5 x.f6 x.f7 x.f8 x.f9 y.f0 y.f1 y.f2 y.f3 y.f4 y.f5 y.f6 y.f7 y.f8 y.f9 s1 s2 s3) ?_
      by_cases hxy : inoEq x y = true
      · rw [hxy, Bool.true_and]
        exact Ev.pos hxy this
      · rw [show inoEq x y = false by simpa using hxy, Bool.false_and]
        exact Ev.neg hxy (Ev.now _)
theorem impl_Inode_f (a b : List S37) (ha : a.length ≤ 1048576) (hs : ∀ x, x ∈ a → shIn x) : Ev (fun k => impl_Inode.f k a b) (allEq inoEq a b) := by
  unfold impl_Inode.f
  by_cases h : (a.length : Int) = (b.length : Int)
  · exact Ev.pos h (impl_Inode_l a b ha (by omega) hs a 0 b (by omega) rfl rfl)
  · rw [allEq_len a b (by omega)]
    exact Ev.neg h (Ev.now _)
theorem spec_SameFS_l1 (t : Int) (e : List S134) (d : List ByteArray) (a b : List S37) (ha : a.length ≤ 1048576) (hab : a.length = b.length) (hs : ∀ x, x ∈ a → shIn x) (l : List S37) : ∀ (i : Int) (m : List S37), 0 ≤ i → a.drop i.toNat = l → b.drop i.toNat = m → Ev (fun k => spec_SameFS.l1 k a (a.length : Int) i t e b d) (allEq inoEq l m) := by
  induction l with
  | nil =>
    intro i m h0 h h'
    have h1 := ldrop_nil h0 h
    have hm : m = [] := by rw [← h']; exact List.drop_eq_nil_of_le (by omega)
    rw [hm]
    exact Ev.step (fun _ => spec_SameFS.l1.eq_2 ..) (Ev.neg (by omega) (Ev.now _))
  | cons x l ih =>
    intro i m h0 h h'
    obtain ⟨p, q, c, e⟩ := ldrop_cons z37 h0 h
    cases m with
    | nil =>
      have := ldrop_nil h0 h'
      omega
    | cons y m =>
      obtain ⟨p', q', c', e'⟩ := ldrop_cons z37 h0 h'
      have this := ih (i + 1) m (by omega) c c'
      have hq : rd_T37 a i = x := q
      have hq' : rd_T37 b i = y := q'
      obtain ⟨s1, s2, s3⟩ := hs x (mem_of_drop h)
      refine Ev.step (fun _ => spec_SameFS.l1.eq_2 ..) (Ev.pos p (Ev.pos h0 (Ev.pos p (Ev.pos p' ?_))))
      rw [hq, hq', w64 (n := i + 1) (by omega) (by omega), allEq]
      refine Ev.bind (sameInode_spec x.f0 x.f1 x.f2 x.f3 x.f4 x.f5 x.f6 x.f7 x.f8 x.f9 y.f0 y.f1 y.f2 y.f3 y.f4 y.f5 y.f6 y.f7 y.f8 y.f9 s1 s2 s3) ?_
      by_cases hxy : inoEq x y = true
      · rw [hxy, Bool.true_and]
        exact Ev.pos hxy this
      · rw [show inoEq x y = false by simpa using hxy, Bool.false_and]
        exact Ev.neg hxy (Ev.now _)
theorem spec_SameFS_l0 (t t' : Int) (n n' : List S37) (d d' : List ByteArray) (a b : List S134) (ha : a.length ≤ 1048576) (hab : a.length = b.length) (hn : n.length ≤ 1048576) (hnn : n.length = n'.length) (hs : ∀ x, x ∈ n → shIn x) (l : List S134) : ∀ (i : Int) (m : List S134), 0 ≤ i → a.drop i.toNat = l → b.drop i.toNat = m →
    Ev (fun k => spec_SameFS.l0 k a (a.length : Int) i t a n d t' b n' d') (allEq quEq l m && allEq inoEq n n') := by
  induction l with
  | nil =>
    intro i m h0 h h'
    have h1 := ldrop_nil h0 h
    have hm : m = [] := by rw [← h']; exact List.drop_eq_nil_of_le (by omega)
    rw [hm, allEq, Bool.true_and]
    exact Ev.step (fun _ => spec_SameFS.l0.eq_2 ..) (Ev.neg (by omega) (spec_SameFS_l1 t' b d' n n' hn hnn hs n 0 n' (by omega) rfl rfl))
  | cons x l ih =>
    intro i m h0 h h'
    obtain ⟨p, q, c, e⟩ := ldrop_cons z134 h0 h
    cases m with
    | nil =>
      have := ldrop_nil h0 h'
      omega
    | cons y m =>
      obtain ⟨p', q', c', e'⟩ := ldrop_cons z134 h0 h'
      have this := ih (i + 1) m (by omega) c c'
      have hq : rd_T134 a i = x := q
      have hq' : rd_T134 b i = y := q'
      refine Ev.step (fun _ => spec_SameFS.l0.eq_2 ..) (Ev.pos p (Ev.pos h0 (Ev.pos p (Ev.pos p' ?_))))
      rw [hq, hq', w64 (n := i + 1) (by omega) (by omega), allEq]
      by_cases hxy : quEq x y = true
      · rw [hxy, Bool.true_and]
        exact Ev.neg (fun h => (quEq_cond x y).1 h hxy) this
      · rw [show quEq x y = false by simpa using hxy, Bool.false_and, Bool.false_and]
        exact Ev.pos ((quEq_cond x y).2 hxy) (Ev.now _)
def sameFSM (t : Int) (q : List S134) (n : List S37) (d : List ByteArray) (t' : Int) (q' : List S134) (n' : List S37) (d' : List ByteArray) : Bool := decide (t = t') && ((allEq quEq q q' && allEq inoEq n n') && allEq strEq d d')
theorem spec_SameFS_f (t : Int) (q : List S134) (n : List S37) (d : List ByteArray) (t' : Int) (q' : List S134) (n' : List S37) (d' : List ByteArray) (hq : q.length ≤ 1048576) (hn : n.length ≤ 1048576) (hd : d.length ≤ 1048576) (hs : ∀ x, x ∈ n → shIn x) :
    Ev (fun k => spec_SameFS.f k t q n d t' q' n' d') (sameFSM t q n d t' q' n' d') := by
  unfold spec_SameFS.f sameFSM
  have no : Ev (fun k => spec_SameFS.j0 k true t q n d t' q' n' d') false := Ev.step (fun _ => spec_SameFS.j0.eq_2 ..) (Ev.pos rfl (Ev.now _))
  by_cases h0 : t = t'
  · refine Ev.pos h0 ?_
    rw [decide_eq_true h0, Bool.true_and]
    by_cases h1 : (q.length : Int) = (q'.length : Int)
    · refine Ev.pos h1 ?_
      by_cases h2 : (n.length : Int) = (n'.length : Int)
      · refine Ev.pos h2 (Ev.bind (spec_l02Texts_f d d' hd) ?_)
        cases h3 : allEq strEq d d' with
        | false =>
          rw [Bool.and_false]
          exact no
        | true =>
          rw [Bool.and_true]
          exact Ev.step (fun _ => spec_SameFS.j0.eq_2 ..) (Ev.neg (by decide) (spec_SameFS_l0 t t' n n' d d' q q' hq (by omega) hn (by omega) hs q 0 q' (by omega) rfl rfl))
      · rw [allEq_len n n' (by omega), Bool.and_false, Bool.false_and]
        exact Ev.neg h2 no
    · rw [allEq_len q q' (by omega), Bool.false_and, Bool.false_and]
      exact Ev.neg h1 no
  · rw [decide_eq_false h0, Bool.false_and]
    exact Ev.neg h0 no
theorem impl_SameFS_f (t : Int) (q : List S134) (n : List S37) (d : List ByteArray) (t' : Int) (q' : List S134) (n' : List S37) (d' : List ByteArray) (hq : q.length ≤ 1048576) (hn : n.length ≤ 1048576) (hd : d.length ≤ 1048576) (hs : ∀ x, x ∈ n → shIn x) :
    Ev (fun k => impl_SameFS.f k t q n d t' q' n' d') (sameFSM t q n d t' q' n' d') := by
  unfold impl_SameFS.f sameFSM
  by_cases h0 : t = t'
  · refine Ev.pos h0 (Ev.bind (impl_Quota_f q q' hq) ?_)
    rw [decide_eq_true h0, Bool.true_and]
    cases h1 : allEq quEq q q' with
    | false => exact Ev.neg (by decide) (Ev.now _)
    | true =>
      refine Ev.pos rfl (Ev.bind (impl_Inode_f n n' hn hs) ?_)
      cases h2 : allEq inoEq n n' with
      | false => exact Ev.neg (by decide) (Ev.now _)
      | true => exact Ev.pos rfl (Ev.bind (slices_Equal_string_string_f d d' hd) (by rw [Bool.and_true, Bool.true_and]; exact Ev.now _))
  · rw [decide_eq_false h0, Bool.false_and]
    exact Ev.neg h0 (Ev.now _)

theorem FnExactSameFS (t : Int) (q : List S158) (n : List S32) (d : List ByteArray) (t' : Int) (q' : List S158) (n' : List S32) (d' : List ByteArray) (h : okFS t q n d) (h' : okFS t' q' n' d') :
    ∃ k, laws_FnExactSameFS.f k t q n d t' q' n' d' = some true := by
  obtain ⟨u, hu, hv⟩ := szFS_ex t q n d h 1048576 (by omega) (by omega)
  apply Ev.rounds
  unfold laws_FnExactSameFS.f
  refine Ev.bind hu ?_
  by_cases c1 : u < 0
  · exact Ev.pos c1 (Ev.now _)
  · obtain ⟨g0, g1, hq, hn, hd, hs, _⟩ := hv.resolve_left c1
    obtain ⟨u', hu', hv'⟩ := szFS_ex t' q' n' d' h' u g0 g1
    refine Ev.neg c1 (Ev.bind hu' ?_)
    by_cases c2 : u' < 0
    · exact Ev.pos c2 (Ev.now _)
    · obtain ⟨_, _, hq', hn', hd', hs', _⟩ := hv'.resolve_left c2
      have hqm : (q.map quTo).length ≤ 1048576 := by rw [List.length_map]; exact hq
      have hnm : (n.map inTo).length ≤ 1048576 := by rw [List.length_map]; exact hn
      have hqm' : (q'.map quTo).length ≤ 1048576 := by rw [List.length_map]; exact hq'
      have hnm' : (n'.map inTo).length ≤ 1048576 := by rw [List.length_map]; exact hn'
      have p := toFS_f t q n d hq hn hd hs
      have p' := toFS_f t' q' n' d' hq' hn' hd' hs'
      have s := spec_SameFS_f t (q.map quTo) (n.map inTo) d t' (q'.map quTo) (n'.map inTo) d' hqm hnm hd (shIn_map hs)
      have i := impl_SameFS_f t (q.map quTo) (n.map inTo) d t' (q'.map quTo) (n'.map inTo) d' hqm hnm hd (shIn_map hs)
      have e := eqFS_f t (q.map quTo) (n.map inTo) d hqm hnm hd (shIn_map hs)
      have e' := eqFS_f t' (q'.map quTo) (n'.map inTo) d' hqm' hnm' hd' (shIn_map hs')
      exact Ev.neg c2 (Ev.bind p (Ev.bind p' (Ev.bind s (Ev.bind p (Ev.bind p' (Ev.bind i (Ev.neg (by simp) (Ev.bind p (Ev.bind e (Ev.pos rfl (Ev.bind p' (Ev.bind e' (Ev.pos rfl (Ev.now _))))))))))))))

end Go.Proofs.Ytmnojegajblagab.Pure
