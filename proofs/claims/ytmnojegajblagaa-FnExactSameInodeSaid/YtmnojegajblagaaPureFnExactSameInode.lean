/- The law FnExactSameInode holds for every input of its kind; no further condition. -/
import Derived.Test.YtmnojegajblagaaPFnExactSameInodex6
import Derived.Test.YtmnojegajblagaaLibBase
import Derived.Test.YtmnojegajblagaaLibOpen
import Derived.Test.YtmnojegajblagaaLibAllEq
namespace Go.Proofs.Ytmnojegajblagaa.Pure
open Go.RowKit Go.Proofs.Ytmnojegajblagaa.PFnExactSameInode Go.Proofs.Ytmnojegajblagaa.Lib Go.Proofs.YtmnojegajblagaaW.PrintWords Go.Proofs.YtmnojegajblagaaW.PrintLast Go.Proofs.YtmnojegajblagaaW.PrintMore
set_option linter.unusedVariables false
set_option linter.unusedSimpArgs false

def aclTo (x : S158) : S120 := ⟨x.f0, x.f1, x.f2⟩
theorem szAclEntryS_ex (l : List S158) (hl : l.length ≤ 9223372036854775807) (n : Int) (hn : 0 ≤ n) (hn' : n ≤ 1048576) : ∃ t, laws_szAclEntryS.f l n = some t ∧ (t < 0 ∨ ((l.length : Int) ≤ n ∧ t = n - (l.length : Int))) := by
  unfold laws_szAclEntryS.f
  rw [w64 (by omega) (by omega)]
  by_cases h : n - (l.length : Int) < 0
  · rw [if_pos h]
    exact ⟨-1, by simp, by omega⟩
  · rw [if_neg h]
    exact ⟨_, rfl, by omega⟩
theorem toAclEntryS_l (xs : List S158) (hx : xs.length ≤ 1048576) (l : List S158) : ∀ (i : Int) (ys : List S120), 0 ≤ i → xs.drop i.toNat = l → ys.length = xs.length → Ev (fun k => laws_toAclEntryS.l0 k xs ys i) (ys.take i.toNat ++ l.map aclTo) := by
  induction l with
  | nil =>
    intro i ys h0 h hy
    have := ldrop_nil h0 h
    rw [List.map_nil, List.append_nil, List.take_of_length_le (by omega)]
    exact Ev.step (fun _ => laws_toAclEntryS.l0.eq_2 ..) (Ev.neg (by omega) (Ev.now _))
  | cons x l ih =>
    intro i ys h0 h hy
    obtain ⟨a, b, c, e⟩ := ldrop_cons z158 h0 h
    refine Ev.step (fun _ => laws_toAclEntryS.l0.eq_2 ..) (Ev.pos a (Ev.pos h0 (Ev.bind0 rfl (Ev.pos (by omega) ?_))))
    have := ih (i + 1) (ys.set i.toNat (aclTo x)) (by omega) c (by rw [List.length_set]; exact hy)
    rw [set_take _ h0 (by omega), List.append_assoc] at this
    rw [w64 (by omega) (by omega), show rd_T158 xs i = x from b]
    exact this
theorem toAclEntryS_f (xs : List S158) (hx : xs.length ≤ 1048576) : Ev (fun k => laws_toAclEntryS.f k xs) (xs.map aclTo) := by
  unfold laws_toAclEntryS.f
  exact Ev.pos (by omega) (Ev.pos (by omega) (toAclEntryS_l xs hx xs 0 _ (by omega) rfl (by rw [List.length_replicate]; omega)))

theorem eqAclEntryS_l (d : Nat) : ∀ (i : Int) (l : List S120), 0 ≤ i → i + d = (l.length : Int) → l.length ≤ 1048576 → Ev (fun k => laws_eqAclEntryS.l0 k l l i) true := by
  induction d with
  | zero =>
    intro i l h0 hd hl
    exact Ev.step (fun _ => laws_eqAclEntryS.l0.eq_2 ..) (Ev.neg (by omega) (Ev.now _))
  | succ d ih =>
    intro i l h0 hd hl
    refine Ev.step (fun _ => laws_eqAclEntryS.l0.eq_2 ..) (Ev.pos (by omega) (Ev.pos h0 (Ev.pos (by omega) (Ev.bind0 (a := true) (by unfold laws_eqAclEntry.f; simp) (Ev.pos rfl ?_)))))
    rw [w64 (n := i + 1) (by omega) (by omega)]
    exact ih (i + 1) l (by omega) (by omega) hl
theorem eqAclEntryS_f (l : List S120) (hl : l.length ≤ 1048576) : Ev (fun k => laws_eqAclEntryS.f k l l) true := by
  unfold laws_eqAclEntryS.f
  exact Ev.pos rfl (eqAclEntryS_l l.length 0 l (by omega) (by omega) hl)

theorem toIntS_l (xs : List Int) (hx : xs.length ≤ 1048576) (l : List Int) : ∀ (i : Int) (ys : List Int), 0 ≤ i → xs.drop i.toNat = l → ys.length = xs.length → Ev (fun k => laws_toIntS.l0 k xs ys i) (ys.take i.toNat ++ l) := by
  induction l with
  | nil =>
    intro i ys h0 h hy
    have := ldrop_nil h0 h
    rw [List.append_nil, List.take_of_length_le (by omega)]
    exact Ev.step (fun _ => laws_toIntS.l0.eq_2 ..) (Ev.neg (by omega) (Ev.now _))
  | cons x l ih =>
    intro i ys h0 h hy
    obtain ⟨a, b, c, e⟩ := ldrop_cons (0 : Int) h0 h
    refine Ev.step (fun _ => laws_toIntS.l0.eq_2 ..) (Ev.pos a (Ev.pos h0 (Ev.pos (by omega) ?_)))
    have := ih (i + 1) (ys.set i.toNat (rd xs i)) (by omega) c (by rw [List.length_set]; exact hy)
    rw [set_take _ h0 (by omega), List.append_assoc, show rd xs i = x from b] at this
    rw [w64 (by omega) (by omega), show rd xs i = x from b]
    exact this
theorem toIntS_f (xs : List Int) (hx : xs.length ≤ 1048576) : Ev (fun k => laws_toIntS.f k xs) xs := by
  unfold laws_toIntS.f
  exact Ev.pos (by omega) (Ev.pos (by omega) (toIntS_l xs hx xs 0 _ (by omega) rfl (by rw [List.length_replicate]; omega)))

theorem eqIntS_l (d : Nat) : ∀ (i : Int) (l : List Int), 0 ≤ i → i + d = (l.length : Int) → l.length ≤ 1048576 → Ev (fun k => laws_eqIntS.l0 k l l i) true := by
  induction d with
  | zero =>
    intro i l h0 hd hl
    exact Ev.step (fun _ => laws_eqIntS.l0.eq_2 ..) (Ev.neg (by omega) (Ev.now _))
  | succ d ih =>
    intro i l h0 hd hl
    refine Ev.step (fun _ => laws_eqIntS.l0.eq_2 ..) (Ev.pos (by omega) (Ev.pos h0 (Ev.pos (by omega) (Ev.pos rfl ?_))))
    rw [w64 (n := i + 1) (by omega) (by omega)]
    exact ih (i + 1) l (by omega) (by omega) hl
theorem eqIntS_f (l : List Int) (hl : l.length ≤ 1048576) : Ev (fun k => laws_eqIntS.f k l l) true := by
  unfold laws_eqIntS.f
  exact Ev.pos rfl (eqIntS_l l.length 0 l (by omega) (by omega) hl)

def okInt (l : List Int) : Prop := l.length ≤ 9223372036854775807 ∧ ∀ x, x ∈ l → (Lit.int .i64 x).wf = true
def okAcls (l : List S158) : Prop := l.length ≤ 9223372036854775807 ∧ ∀ x, x ∈ l → (Lit.int .i64 x.f0).wf = true ∧ (Lit.int .i64 x.f1).wf = true ∧ (Lit.int .i64 x.f2).wf = true
/-- What is left of an inode's size, and what follows for its parts. -/
theorem szInode_ex (a0 a1 a2 a3 a4 a5 a6 : Int) (b : List Int) (c d : List S158) (hb : b.length ≤ 9223372036854775807) (hc : c.length ≤ 9223372036854775807) (hd : d.length ≤ 9223372036854775807) (left : Int) (hl : 0 ≤ left) (hl' : left ≤ 1048576) :
    ∃ t, laws_szInode.f a0 a1 a2 a3 a4 a5 a6 b c d left = some t ∧ (t < 0 ∨ 0 ≤ t ∧ t ≤ left ∧ (b.length : Int) ≤ left ∧ (c.length : Int) ≤ left ∧ (d.length : Int) ≤ left) := by
  unfold laws_szInode.f laws_szIntS.f
  rw [w64 (by omega) (by omega)]
  by_cases h1 : left - (b.length : Int) < 0
  · rw [if_pos h1, Option.bind_some, if_pos (by decide)]
    exact ⟨-1, rfl, by omega⟩
  · rw [if_neg h1, Option.bind_some, if_neg h1]
    obtain ⟨t, h2, h3⟩ := szAclEntryS_ex c hc (left - (b.length : Int)) (by omega) (by omega)
    rw [h2, Option.bind_some]
    by_cases h4 : t < 0
    · rw [if_pos h4]
      exact ⟨-1, rfl, by omega⟩
    · rw [if_neg h4]
      obtain ⟨u, h5, h6⟩ := szAclEntryS_ex d hd t (by omega) (by omega)
      rw [h5, Option.bind_some]
      by_cases h7 : u < 0
      · rw [if_pos h7]
        exact ⟨-1, rfl, by omega⟩
      · rw [if_neg h7]
        exact ⟨u, rfl, by omega⟩
theorem toInode_f (a0 a1 a2 a3 a4 a5 a6 : Int) (b : List Int) (c d : List S158) (hb : b.length ≤ 1048576) (hc : c.length ≤ 1048576) (hd : d.length ≤ 1048576) :
    Ev (fun k => laws_toInode.f k a0 a1 a2 a3 a4 a5 a6 b c d) (a0, a1, a2, a3, a4, a5, a6, b, c.map aclTo, d.map aclTo) := by
  unfold laws_toInode.f
  exact Ev.bind (toIntS_f b hb) (Ev.bind (toAclEntryS_f c hc) (Ev.bind (toAclEntryS_f d hd) (Ev.now _)))
theorem eqInode_f (a0 a1 a2 a3 a4 a5 a6 : Int) (b : List Int) (c d : List S120) (hb : b.length ≤ 1048576) (hc : c.length ≤ 1048576) (hd : d.length ≤ 1048576) :
    Ev (fun k => laws_eqInode.f k a0 a1 a2 a3 a4 a5 a6 b c d a0 a1 a2 a3 a4 a5 a6 b c d) true := by
  unfold laws_eqInode.f
  exact Ev.pos rfl (Ev.pos rfl (Ev.pos rfl (Ev.pos rfl (Ev.pos rfl (Ev.pos rfl (Ev.pos rfl (Ev.bind (eqIntS_f b hb) (Ev.pos rfl (Ev.bind (eqAclEntryS_f c hc) (Ev.pos rfl (Ev.bind (eqAclEntryS_f d hd) (Ev.pos rfl (Ev.now _)))))))))))))

theorem spec_l02Same_l (a b : List Int) (ha : a.length ≤ 1048576) (hab : a.length = b.length) (l : List Int) : ∀ (i : Int) (m : List Int), 0 ≤ i → a.drop i.toNat = l → b.drop i.toNat = m → Ev (fun k => spec_l02Same.l0 k b a (a.length : Int) i) (allEq intEq l m) := by
  induction l with
  | nil =>
    intro i m h0 h h'
    have h1 := ldrop_nil h0 h
    have hm : m = [] := by rw [← h']; exact List.drop_eq_nil_of_le (by omega)
    rw [hm]
    exact Ev.step (fun _ => spec_l02Same.l0.eq_2 ..) (Ev.neg (by omega) (Ev.now _))
  | cons x l ih =>
    intro i m h0 h h'
    obtain ⟨p, q, c, e⟩ := ldrop_cons (0 : Int) h0 h
    cases m with
    | nil =>
      have := ldrop_nil h0 h'
      omega
    | cons y m =>
      obtain ⟨p', q', c', e'⟩ := ldrop_cons (0 : Int) h0 h'
      have this := ih (i + 1) m (by omega) c c'
      have hq : rd a i = x := q
      have hq' : rd b i = y := q'
      refine Ev.step (fun _ => spec_l02Same.l0.eq_2 ..) (Ev.pos p (Ev.pos h0 (Ev.pos p (Ev.pos p' ?_))))
      rw [hq, hq', w64 (n := i + 1) (by omega) (by omega), allEq]
      by_cases hxy : x = y
      · rw [show intEq x y = true from decide_eq_true hxy, Bool.true_and]
        exact Ev.pos hxy this
      · rw [show intEq x y = false from decide_eq_false hxy, Bool.false_and]
        exact Ev.neg hxy (Ev.now _)
theorem spec_l02Same_f (a b : List Int) (ha : a.length ≤ 1048576) : Ev (fun k => spec_l02Same.f k a b) (allEq intEq a b) := by
  unfold spec_l02Same.f
  by_cases h : (a.length : Int) = (b.length : Int)
  · exact Ev.pos h (spec_l02Same_l a b ha (by omega) a 0 b (by omega) rfl rfl)
  · rw [allEq_len a b (by omega)]
    exact Ev.neg h (Ev.now _)

def aclEq (x y : S120) : Bool := decide (x.f0 = y.f0 ∧ x.f1 = y.f1 ∧ x.f2 = y.f2)
theorem aclEq_refl (x : S120) : aclEq x x = true := decide_eq_true ⟨rfl, rfl, rfl⟩
theorem aclEq_cond (x y : S120) : ((!(x.f0 == y.f0) || (!(x.f1 == y.f1) || !(x.f2 == y.f2))) = true) ↔ ¬ (aclEq x y = true) := by
  unfold aclEq
  simp only [Bool.or_eq_true, Bool.not_eq_true', beq_eq_false_iff_ne, decide_eq_true_eq, ne_eq]
  omega

theorem spec_l05Same_l (a b : List S120) (ha : a.length ≤ 1048576) (hab : a.length = b.length) (l : List S120) : ∀ (i : Int) (m : List S120), 0 ≤ i → a.drop i.toNat = l → b.drop i.toNat = m → Ev (fun k => spec_l05Same.l0 k b a (a.length : Int) i) (allEq aclEq l m) := by
  induction l with
  | nil =>
    intro i m h0 h h'
    have h1 := ldrop_nil h0 h
    have hm : m = [] := by rw [← h']; exact List.drop_eq_nil_of_le (by omega)
    rw [hm]
    exact Ev.step (fun _ => spec_l05Same.l0.eq_2 ..) (Ev.neg (by omega) (Ev.now _))
  | cons x l ih =>
    intro i m h0 h h'
    obtain ⟨p, q, c, e⟩ := ldrop_cons z120 h0 h
    cases m with
    | nil =>
      have := ldrop_nil h0 h'
      omega
    | cons y m =>
      obtain ⟨p', q', c', e'⟩ := ldrop_cons z120 h0 h'
      have this := ih (i + 1) m (by omega) c c'
      have hq : rd_T120 a i = x := q
      have hq' : rd_T120 b i = y := q'
      refine Ev.step (fun _ => spec_l05Same.l0.eq_2 ..) (Ev.pos p (Ev.pos h0 (Ev.pos p (Ev.pos p' ?_))))
      rw [hq, hq', w64 (n := i + 1) (by omega) (by omega), allEq]
      by_cases hxy : aclEq x y = true
      · rw [hxy, Bool.true_and]
        exact Ev.neg (fun h => (aclEq_cond x y).1 h hxy) this
      · rw [show aclEq x y = false by simpa using hxy, Bool.false_and]
        exact Ev.pos ((aclEq_cond x y).2 hxy) (Ev.now _)
theorem spec_l05Same_f (a b : List S120) (ha : a.length ≤ 1048576) : Ev (fun k => spec_l05Same.f k a b) (allEq aclEq a b) := by
  unfold spec_l05Same.f
  by_cases h : (a.length : Int) = (b.length : Int)
  · exact Ev.pos h (spec_l05Same_l a b ha (by omega) a 0 b (by omega) rfl rfl)
  · rw [allEq_len a b (by omega)]
    exact Ev.neg h (Ev.now _)

theorem slices_Equal_int_int_l (a b : List Int) (ha : a.length ≤ 1048576) (hab : a.length = b.length) (l : List Int) : ∀ (i : Int) (m : List Int), 0 ≤ i → a.drop i.toNat = l → b.drop i.toNat = m → Ev (fun k => slices_Equal_int_int.l0 k a b (a.length : Int) i) (allEq intEq l m) := by
  induction l with
  | nil =>
    intro i m h0 h h'
    have h1 := ldrop_nil h0 h
    have hm : m = [] := by rw [← h']; exact List.drop_eq_nil_of_le (by omega)
    rw [hm]
    exact Ev.step (fun _ => slices_Equal_int_int.l0.eq_2 ..) (Ev.neg (by omega) (Ev.now _))
  | cons x l ih =>
    intro i m h0 h h'
    obtain ⟨p, q, c, e⟩ := ldrop_cons (0 : Int) h0 h
    cases m with
    | nil =>
      have := ldrop_nil h0 h'
      omega
    | cons y m =>
      obtain ⟨p', q', c', e'⟩ := ldrop_cons (0 : Int) h0 h'
      have this := ih (i + 1) m (by omega) c c'
      have hq : rd a i = x := q
      have hq' : rd b i = y := q'
      refine Ev.step (fun _ => slices_Equal_int_int.l0.eq_2 ..) (Ev.pos p (Ev.pos h0 (Ev.pos p (Ev.pos p' ?_))))
      rw [hq, hq', w64 (n := i + 1) (by omega) (by omega), allEq]
      by_cases hxy : x = y
      · rw [show intEq x y = true from decide_eq_true hxy, Bool.true_and]
        exact Ev.pos hxy this
      · rw [show intEq x y = false from decide_eq_false hxy, Bool.false_and]
        exact Ev.neg hxy (Ev.now _)
theorem slices_Equal_int_int_f (a b : List Int) (ha : a.length ≤ 1048576) : Ev (fun k => slices_Equal_int_int.f k a b) (allEq intEq a b) := by
  unfold slices_Equal_int_int.f
  by_cases h : (a.length : Int) = (b.length : Int)
  · exact Ev.pos h (slices_Equal_int_int_l a b ha (by omega) a 0 b (by omega) rfl rfl)
  · rw [allEq_len a b (by omega)]
    exact Ev.neg h (Ev.now _)

theorem impl_AclEntry_l (a b : List S120) (ha : a.length ≤ 1048576) (hab : a.length = b.length) (l : List S120) : ∀ (i : Int) (m : List S120), 0 ≤ i → a.drop i.toNat = l → b.drop i.toNat = m → Ev (fun k => impl_AclEntry.l0 k a b (a.length : Int) i) (allEq aclEq l m) := by
  induction l with
  | nil =>
    intro i m h0 h h'
    have h1 := ldrop_nil h0 h
    have hm : m = [] := by rw [← h']; exact List.drop_eq_nil_of_le (by omega)
    rw [hm]
    exact Ev.step (fun _ => impl_AclEntry.l0.eq_2 ..) (Ev.neg (by omega) (Ev.now _))
  | cons x l ih =>
    intro i m h0 h h'
    obtain ⟨p, q, c, e⟩ := ldrop_cons z120 h0 h
    cases m with
    | nil =>
      have := ldrop_nil h0 h'
      omega
    | cons y m =>
      obtain ⟨p', q', c', e'⟩ := ldrop_cons z120 h0 h'
      have this := ih (i + 1) m (by omega) c c'
      have hq : rd_T120 a i = x := q
      have hq' : rd_T120 b i = y := q'
      refine Ev.step (fun _ => impl_AclEntry.l0.eq_2 ..) (Ev.pos p (Ev.pos h0 (Ev.pos p (Ev.pos p' ?_))))
      rw [hq, hq', w64 (n := i + 1) (by omega) (by omega), allEq]
      by_cases hxy : aclEq x y = true
      · rw [hxy, Bool.true_and]
        exact Ev.neg (fun h => (aclEq_cond x y).1 h hxy) this
      · rw [show aclEq x y = false by simpa using hxy, Bool.false_and]
        exact Ev.pos ((aclEq_cond x y).2 hxy) (Ev.now _)
theorem impl_AclEntry_f (a b : List S120) (ha : a.length ≤ 1048576) : Ev (fun k => impl_AclEntry.f k a b) (allEq aclEq a b) := by
  unfold impl_AclEntry.f
  by_cases h : (a.length : Int) = (b.length : Int)
  · exact Ev.pos h (impl_AclEntry_l a b ha (by omega) a 0 b (by omega) rfl rfl)
  · rw [allEq_len a b (by omega)]
    exact Ev.neg h (Ev.now _)

def sameInodeM (a0 a1 a2 a3 a4 a5 a6 : Int) (b : List Int) (c d : List S120) (x0 x1 x2 x3 x4 x5 x6 : Int) (y : List Int) (z w : List S120) : Bool :=
  if a0 = x0 ∧ a1 = x1 ∧ a2 = x2 ∧ a3 = x3 ∧ a4 = x4 ∧ a5 = x5 ∧ a6 = x6 then (if allEq intEq b y = true then (if allEq aclEq c z = true then allEq aclEq d w else false) else false) else false
theorem sameInode_spec (a0 a1 a2 a3 a4 a5 a6 : Int) (b : List Int) (c d : List S120) (x0 x1 x2 x3 x4 x5 x6 : Int) (y : List Int) (z w : List S120) (hb : b.length ≤ 1048576) (hc : c.length ≤ 1048576) (hd : d.length ≤ 1048576) :
    Ev (fun k => spec_SameInode.f k a0 a1 a2 a3 a4 a5 a6 b c d x0 x1 x2 x3 x4 x5 x6 y z w) (sameInodeM a0 a1 a2 a3 a4 a5 a6 b c d x0 x1 x2 x3 x4 x5 x6 y z w) := by
  unfold spec_SameInode.f
  have j : ∀ t : Bool, t = !decide (a0 = x0 ∧ a1 = x1 ∧ a2 = x2 ∧ a3 = x3 ∧ a4 = x4 ∧ a5 = x5 ∧ a6 = x6) →
      Ev (fun k => spec_SameInode.j0 k t a0 a1 a2 a3 a4 a5 a6 b c d x0 x1 x2 x3 x4 x5 x6 y z w) (sameInodeM a0 a1 a2 a3 a4 a5 a6 b c d x0 x1 x2 x3 x4 x5 x6 y z w) := by
    intro t ht
    refine Ev.step (fun _ => spec_SameInode.j0.eq_2 ..) ?_
    unfold sameInodeM
    by_cases hall : a0 = x0 ∧ a1 = x1 ∧ a2 = x2 ∧ a3 = x3 ∧ a4 = x4 ∧ a5 = x5 ∧ a6 = x6
    · rw [if_pos hall]
      refine Ev.neg (by rw [ht, decide_eq_true hall]; decide) (Ev.bind (spec_l02Same_f b y hb) ?_)
      by_cases h1 : allEq intEq b y = true
      · rw [if_pos h1]
        refine Ev.pos h1 (Ev.bind (spec_l05Same_f c z hc) ?_)
        by_cases h2 : allEq aclEq c z = true
        · rw [if_pos h2]
          exact Ev.pos h2 (Ev.bind (spec_l05Same_f d w hd) (Ev.now _))
        · rw [if_neg h2]
          exact Ev.neg h2 (Ev.now _)
      · rw [if_neg h1]
        exact Ev.neg h1 (Ev.now _)
    · rw [if_neg hall]
      exact Ev.pos (by rw [ht, decide_eq_false hall]; decide) (Ev.now _)
  have no : ¬ (a0 = x0 ∧ a1 = x1 ∧ a2 = x2 ∧ a3 = x3 ∧ a4 = x4 ∧ a5 = x5 ∧ a6 = x6) → Ev (fun k => spec_SameInode.j0 k true a0 a1 a2 a3 a4 a5 a6 b c d x0 x1 x2 x3 x4 x5 x6 y z w) (sameInodeM a0 a1 a2 a3 a4 a5 a6 b c d x0 x1 x2 x3 x4 x5 x6 y z w) := fun h => j true (by rw [decide_eq_false h]; rfl)
  by_cases e0 : a0 = x0
  · refine Ev.pos e0 ?_
    by_cases e1 : a1 = x1
    · refine Ev.pos e1 ?_
      by_cases e2 : a2 = x2
      · refine Ev.pos e2 ?_
        by_cases e3 : a3 = x3
        · refine Ev.pos e3 ?_
          by_cases e4 : a4 = x4
          · refine Ev.pos e4 ?_
            by_cases e5 : a5 = x5
            · refine Ev.pos e5 (j _ ?_)
              by_cases e6 : a6 = x6
              · rw [decide_eq_true ⟨e0, e1, e2, e3, e4, e5, e6⟩]
                simp [e6]
              · rw [decide_eq_false (fun h => e6 h.2.2.2.2.2.2)]
                simp [e6]
            · exact Ev.neg e5 (no (fun h => e5 h.2.2.2.2.2.1))
          · exact Ev.neg e4 (no (fun h => e4 h.2.2.2.2.1))
        · exact Ev.neg e3 (no (fun h => e3 h.2.2.2.1))
      · exact Ev.neg e2 (no (fun h => e2 h.2.2.1))
    · exact Ev.neg e1 (no (fun h => e1 h.2.1))
  · exact Ev.neg e0 (no (fun h => e0 h.1))
theorem sameInode_impl (a0 a1 a2 a3 a4 a5 a6 : Int) (b : List Int) (c d : List S120) (x0 x1 x2 x3 x4 x5 x6 : Int) (y : List Int) (z w : List S120) (hb : b.length ≤ 1048576) (hc : c.length ≤ 1048576) (hd : d.length ≤ 1048576) :
    Ev (fun k => impl_SameInode.f k a0 a1 a2 a3 a4 a5 a6 b c d x0 x1 x2 x3 x4 x5 x6 y z w) (sameInodeM a0 a1 a2 a3 a4 a5 a6 b c d x0 x1 x2 x3 x4 x5 x6 y z w) := by
  unfold impl_SameInode.f sameInodeM
  by_cases hall : a0 = x0 ∧ a1 = x1 ∧ a2 = x2 ∧ a3 = x3 ∧ a4 = x4 ∧ a5 = x5 ∧ a6 = x6
  · rw [if_pos hall]
    obtain ⟨e0, e1, e2, e3, e4, e5, e6⟩ := hall
    refine Ev.pos e0 (Ev.pos e1 (Ev.pos e2 (Ev.pos e3 (Ev.pos e4 (Ev.pos e5 (Ev.pos e6 (Ev.bind (slices_Equal_int_int_f b y hb) ?_)))))))
    by_cases h1 : allEq intEq b y = true
    · rw [if_pos h1]
      refine Ev.pos h1 (Ev.bind (impl_AclEntry_f c z hc) ?_)
      by_cases h2 : allEq aclEq c z = true
      · rw [if_pos h2]
        exact Ev.pos h2 (Ev.bind (impl_AclEntry_f d w hd) (Ev.now _))
      · rw [if_neg h2]
        exact Ev.neg h2 (Ev.now _)
    · rw [if_neg h1]
      exact Ev.neg h1 (Ev.now _)
  · rw [if_neg hall]
    by_cases e0 : a0 = x0
    · refine Ev.pos e0 ?_
      by_cases e1 : a1 = x1
      · refine Ev.pos e1 ?_
        by_cases e2 : a2 = x2
        · refine Ev.pos e2 ?_
          by_cases e3 : a3 = x3
          · refine Ev.pos e3 ?_
            by_cases e4 : a4 = x4
            · refine Ev.pos e4 ?_
              by_cases e5 : a5 = x5
              · exact Ev.pos e5 (Ev.neg (fun e6 => hall ⟨e0, e1, e2, e3, e4, e5, e6⟩) (Ev.now _))
              · exact Ev.neg e5 (Ev.now _)
            · exact Ev.neg e4 (Ev.now _)
          · exact Ev.neg e3 (Ev.now _)
        · exact Ev.neg e2 (Ev.now _)
      · exact Ev.neg e1 (Ev.now _)
    · exact Ev.neg e0 (Ev.now _)

theorem FnExactSameInode (a0 a1 a2 a3 a4 a5 a6 : Int) (b : List Int) (c d : List S158) (x0 x1 x2 x3 x4 x5 x6 : Int) (y : List Int) (z w : List S158)
    (h : (Lit.int .i64 a0).wf = true ∧ (Lit.int .i64 a1).wf = true ∧ (Lit.int .i64 a2).wf = true ∧ (Lit.int .i64 a3).wf = true ∧ (Lit.int .i64 a4).wf = true ∧ (Lit.int .i64 a5).wf = true ∧ (Lit.int .i64 a6).wf = true ∧ okInt b ∧ okAcls c ∧ okAcls d)
    (h' : (Lit.int .i64 x0).wf = true ∧ (Lit.int .i64 x1).wf = true ∧ (Lit.int .i64 x2).wf = true ∧ (Lit.int .i64 x3).wf = true ∧ (Lit.int .i64 x4).wf = true ∧ (Lit.int .i64 x5).wf = true ∧ (Lit.int .i64 x6).wf = true ∧ okInt y ∧ okAcls z ∧ okAcls w) :
    ∃ k, laws_FnExactSameInode.f k a0 a1 a2 a3 a4 a5 a6 b c d x0 x1 x2 x3 x4 x5 x6 y z w = some true := by
  obtain ⟨_, _, _, _, _, _, _, hb0, hc0, hd0⟩ := h
  obtain ⟨_, _, _, _, _, _, _, hy0, hz0, hw0⟩ := h'
  obtain ⟨t, ht, hs⟩ := szInode_ex a0 a1 a2 a3 a4 a5 a6 b c d hb0.1 hc0.1 hd0.1 1048576 (by omega) (by omega)
  apply Ev.rounds
  unfold laws_FnExactSameInode.f
  refine Ev.bind0 ht ?_
  by_cases hn : t < 0
  · exact Ev.pos hn (Ev.now _)
  · obtain ⟨t0, t1, hb, hc, hd⟩ := hs.resolve_left hn
    obtain ⟨u, hu, hv⟩ := szInode_ex x0 x1 x2 x3 x4 x5 x6 y z w hy0.1 hz0.1 hw0.1 t t0 t1
    refine Ev.neg hn (Ev.bind0 hu ?_)
    by_cases hm : u < 0
    · exact Ev.pos hm (Ev.now _)
    · obtain ⟨_, _, hy, hz, hw⟩ := hv.resolve_left hm
      have hcm : (c.map aclTo).length ≤ 1048576 := by rw [List.length_map]; omega
      have hdm : (d.map aclTo).length ≤ 1048576 := by rw [List.length_map]; omega
      have hzm : (z.map aclTo).length ≤ 1048576 := by rw [List.length_map]; omega
      have hwm : (w.map aclTo).length ≤ 1048576 := by rw [List.length_map]; omega
      have p := toInode_f a0 a1 a2 a3 a4 a5 a6 b c d (by omega) (by omega) (by omega)
      have q := toInode_f x0 x1 x2 x3 x4 x5 x6 y z w (by omega) (by omega) (by omega)
      exact Ev.neg hm (Ev.bind p (Ev.bind q (Ev.bind (sameInode_spec a0 a1 a2 a3 a4 a5 a6 b _ _ x0 x1 x2 x3 x4 x5 x6 y _ _ (by omega) hcm hdm) (Ev.bind p (Ev.bind q (Ev.bind (sameInode_impl a0 a1 a2 a3 a4 a5 a6 b _ _ x0 x1 x2 x3 x4 x5 x6 y _ _ (by omega) hcm hdm)
        (Ev.neg (by simp) (Ev.bind p (Ev.bind (eqInode_f a0 a1 a2 a3 a4 a5 a6 b _ _ (by omega) hcm hdm) (Ev.pos rfl (Ev.bind q (Ev.bind (eqInode_f x0 x1 x2 x3 x4 x5 x6 y _ _ (by omega) hzm hwm) (Ev.pos rfl (Ev.now _))))))))))))))

end Go.Proofs.Ytmnojegajblagaa.Pure
