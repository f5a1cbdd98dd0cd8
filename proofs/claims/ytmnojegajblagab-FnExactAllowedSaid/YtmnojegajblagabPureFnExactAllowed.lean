/- The law FnExactAllowed holds for every input of its kind; no further condition. -/
import Derived.Test.YtmnojegajblagabPFnExactAllowedx10
import Derived.Test.YtmnojegajblagabLibBase
import Derived.Test.YtmnojegajblagabLibOpen
import Derived.Test.YtmnojegajblagabLibModes
namespace Go.Proofs.Ytmnojegajblagab.Pure
open Go.RowKit Go.Proofs.Ytmnojegajblagab.PFnExactAllowed Go.Proofs.Ytmnojegajblagab.Lib Go.Proofs.YtmnojegajblagabW.PrintWords Go.Proofs.YtmnojegajblagabW.PrintLast Go.Proofs.YtmnojegajblagabW.PrintMore
set_option linter.unusedVariables false
set_option linter.unusedSimpArgs false

theorem toIntS_l (xs : List Int) (hx : xs.length ≤ 1048576) (l : List Int) : ∀ (i : Int) (ys : List Int), 0 ≤ i → xs.drop i.toNat = l → ys.length = xs.length → Ev (fun k => laws_toIntS.l0 k xs ys i) (ys.take i.toNat ++ l) := by
  induction l with
  | nil =>
    intro i ys h0 h hy
    have := ldrop_nil h0 h
    rw [List.append_nil, List.take_of_length_le (by omega)]
    exact Ev.step (fun _ => laws_toIntS.l0.eq_2 ..) (Ev.neg (by omega) (Ev.now _))
  | cons x l ih =>
    intro i ys h0 h hy
    obtain ⟨a, b, c, e⟩ := ldrop_cons (0 : Int) h0 h
    refine Ev.step (fun _ => laws_toIntS.l0.eq_2 ..) (Ev.pos a (Ev.pos h0 (Ev.pos (by omega) ?_)))
    have := ih (i + 1) (ys.set i.toNat (rd xs i)) (by omega) c (by rw [List.length_set]; exact hy)
    rw [set_take _ h0 (by omega), List.append_assoc, show rd xs i = x from b] at this
    rw [w64 (by omega) (by omega), show rd xs i = x from b]
    exact this
theorem toIntS_f (xs : List Int) (hx : xs.length ≤ 1048576) : Ev (fun k => laws_toIntS.f k xs) xs := by
  unfold laws_toIntS.f
  exact Ev.pos (by omega) (Ev.pos (by omega) (toIntS_l xs hx xs 0 _ (by omega) rfl (by rw [List.length_replicate]; omega)))

theorem eqIntS_l (d : Nat) : ∀ (i : Int) (l : List Int), 0 ≤ i → i + d = (l.length : Int) → l.length ≤ 1048576 → Ev (fun k => laws_eqIntS.l0 k l l i) true := by
  induction d with
  | zero =>
    intro i l h0 hd hl
    exact Ev.step (fun _ => laws_eqIntS.l0.eq_2 ..) (Ev.neg (by omega) (Ev.now _))
  | succ d ih =>
    intro i l h0 hd hl
    refine Ev.step (fun _ => laws_eqIntS.l0.eq_2 ..) (Ev.pos (by omega) (Ev.pos h0 (Ev.pos (by omega) (Ev.pos rfl ?_))))
    rw [w64 (n := i + 1) (by omega) (by omega)]
    exact ih (i + 1) l (by omega) (by omega) hl
theorem eqIntS_f (l : List Int) (hl : l.length ≤ 1048576) : Ev (fun k => laws_eqIntS.f k l l) true := by
  unfold laws_eqIntS.f
  exact Ev.pos rfl (eqIntS_l l.length 0 l (by omega) (by omega) hl)

theorem szCred_ex (a b : Int) (l : List Int) (hl : l.length ≤ 9223372036854775807) : ∃ t, laws_szCred.f a b l 1048576 = some t ∧ (t < 0 ∨ l.length ≤ 1048576) := by
  unfold laws_szCred.f laws_szIntS.f
  rw [w64 (by omega) (by omega)]
  by_cases h : 1048576 - (l.length : Int) < 0
  · rw [if_pos h]
    exact ⟨-1, by simp, by omega⟩
  · rw [if_neg h, Option.bind_some, if_neg h]
    exact ⟨_, rfl, by omega⟩
theorem toCred_f (a b : Int) (xs : List Int) (hx : xs.length ≤ 1048576) : Ev (fun k => laws_toCred.f k a b xs) (a, b, xs) := by
  unfold laws_toCred.f
  exact Ev.bind (toIntS_f xs hx) (Ev.now _)
theorem eqCred_f (a b : Int) (l : List Int) (hl : l.length ≤ 1048576) : Ev (fun k => laws_eqCred.f k a b l a b l) true := by
  unfold laws_eqCred.f
  exact Ev.pos rfl (Ev.pos rfl (Ev.bind (eqIntS_f l hl) (Ev.pos rfl (Ev.now _))))

def aclTo (x : S117) : S115 := ⟨x.f0, x.f1, x.f2⟩
theorem szAclEntryS_ex (l : List S117) (hl : l.length ≤ 9223372036854775807) (n : Int) (hn : 0 ≤ n) (hn' : n ≤ 1048576) : ∃ t, laws_szAclEntryS.f l n = some t ∧ (t < 0 ∨ ((l.length : Int) ≤ n ∧ t = n - (l.length : Int))) := by
  unfold laws_szAclEntryS.f
  rw [w64 (by omega) (by omega)]
  by_cases h : n - (l.length : Int) < 0
  · rw [if_pos h]
    exact ⟨-1, by simp, by omega⟩
  · rw [if_neg h]
    exact ⟨_, rfl, by omega⟩
theorem toAclEntryS_l (xs : List S117) (hx : xs.length ≤ 1048576) (l : List S117) : ∀ (i : Int) (ys : List S115), 0 ≤ i → xs.drop i.toNat = l → ys.length = xs.length → Ev (fun k => laws_toAclEntryS.l0 k xs ys i) (ys.take i.toNat ++ l.map aclTo) := by
  induction l with
  | nil =>
    intro i ys h0 h hy
    have := ldrop_nil h0 h
    rw [List.map_nil, List.append_nil, List.take_of_length_le (by omega)]
    exact Ev.step (fun _ => laws_toAclEntryS.l0.eq_2 ..) (Ev.neg (by omega) (Ev.now _))
  | cons x l ih =>
    intro i ys h0 h hy
    obtain ⟨a, b, c, e⟩ := ldrop_cons z117 h0 h
    refine Ev.step (fun _ => laws_toAclEntryS.l0.eq_2 ..) (Ev.pos a (Ev.pos h0 (Ev.bind0 rfl (Ev.pos (by omega) ?_))))
    have := ih (i + 1) (ys.set i.toNat (aclTo x)) (by omega) c (by rw [List.length_set]; exact hy)
    rw [set_take _ h0 (by omega), List.append_assoc] at this
    rw [w64 (by omega) (by omega), show rd_T117 xs i = x from b]
    exact this
theorem toAclEntryS_f (xs : List S117) (hx : xs.length ≤ 1048576) : Ev (fun k => laws_toAclEntryS.f k xs) (xs.map aclTo) := by
  unfold laws_toAclEntryS.f
  exact Ev.pos (by omega) (Ev.pos (by omega) (toAclEntryS_l xs hx xs 0 _ (by omega) rfl (by rw [List.length_replicate]; omega)))

theorem eqAclEntryS_l (d : Nat) : ∀ (i : Int) (l : List S115), 0 ≤ i → i + d = (l.length : Int) → l.length ≤ 1048576 → Ev (fun k => laws_eqAclEntryS.l0 k l l i) true := by
  induction d with
  | zero =>
    intro i l h0 hd hl
    exact Ev.step (fun _ => laws_eqAclEntryS.l0.eq_2 ..) (Ev.neg (by omega) (Ev.now _))
  | succ d ih =>
    intro i l h0 hd hl
    refine Ev.step (fun _ => laws_eqAclEntryS.l0.eq_2 ..) (Ev.pos (by omega) (Ev.pos h0 (Ev.pos (by omega) (Ev.bind0 (a := true) (by unfold laws_eqAclEntry.f; simp) (Ev.pos rfl ?_)))))
    rw [w64 (n := i + 1) (by omega) (by omega)]
    exact ih (i + 1) l (by omega) (by omega) hl
theorem eqAclEntryS_f (l : List S115) (hl : l.length ≤ 1048576) : Ev (fun k => laws_eqAclEntryS.f k l l) true := by
  unfold laws_eqAclEntryS.f
  exact Ev.pos rfl (eqAclEntryS_l l.length 0 l (by omega) (by omega) hl)

theorem l01In_spec (a b c : Int) : spec_l01In.f a b c = some (decide (b ≤ a ∧ a ≤ c)) := by
  unfold spec_l01In.f
  by_cases h : a ≥ b
  · rw [if_pos h]
    simp [show b ≤ a from h]
  · rw [if_neg h]
    simp [show ¬ b ≤ a from h]

theorem isUser_impl (a : Int) : impl_isUser.f a = some (decide (0 ≤ a ∧ a ≤ 3)) := by
  unfold impl_isUser.f
  by_cases h : a ≥ 0
  · rw [if_pos h]
    congr 1
    apply decide_eq_decide.2
    omega
  · rw [if_neg h]
    congr 1
    symm
    apply decide_eq_false
    omega

theorem isMode_impl (a : Int) : impl_isMode.f a = some (decide (0 ≤ a ∧ a ≤ 2047)) := by
  unfold impl_isMode.f
  by_cases h : a ≥ 0
  · rw [if_pos h]
    simp [show 0 ≤ a from h]
  · rw [if_neg h]
    simp [show ¬ 0 ≤ a from h]

theorem l06User_spec (a : Int) : spec_l06User.f a = some (decide (0 ≤ a ∧ a ≤ 3)) := by
  unfold spec_l06User.f
  rw [l01In_spec]
  rfl

theorem l06Mode_spec (a : Int) : spec_l06Mode.f a = some (decide (0 ≤ a ∧ a ≤ 2047)) := by
  unfold spec_l06Mode.f
  rw [l01In_spec]
  rfl

theorem isCred_both (a b : Int) (xs : List Int) (hx : xs.length ≤ 1048576) (l : List Int) : ∀ (i : Int), 0 ≤ i → xs.drop i.toNat = l →
    ∃ r, Ev (fun k => spec_IsCred.l0 k xs (xs.length : Int) i a b xs) r ∧ Ev (fun k => impl_IsCred.l0 k xs (xs.length : Int) i a b xs) r := by
  induction l with
  | nil =>
    intro i h0 h
    have := ldrop_nil h0 h
    by_cases c : 0 ≤ a ∧ a ≤ 3
    all_goals
      refine ⟨?_, Ev.step (fun _ => spec_IsCred.l0.eq_2 ..) (Ev.neg (by omega) ?_), Ev.step (fun _ => impl_IsCred.l0.eq_2 ..) (Ev.neg (by omega) ?_)⟩
      rotate_left
      · simp only [l06User_spec, Option.bind_some, decide_eq_true_eq]
        (repeat' (first | exact Ev.now _ | refine Ev.pos (by first | assumption | omega) ?_ | refine Ev.neg (by first | assumption | omega) ?_))
      · simp only [isUser_impl, Option.bind_some, decide_eq_true_eq]
        (repeat' (first | exact Ev.now _ | refine Ev.pos (by first | assumption | omega) ?_ | refine Ev.neg (by first | assumption | omega) ?_))
  | cons x l ih =>
    intro i h0 h
    obtain ⟨p, q, c, e⟩ := ldrop_cons (0 : Int) h0 h
    obtain ⟨r, h1, h2⟩ := ih (i + 1) (by omega) c
    by_cases c1 : 0 ≤ rd xs i ∧ rd xs i ≤ 3 <;> by_cases c2 : i > 0 <;> by_cases c3 : rd xs (i - 1) ≥ rd xs i
    all_goals
      refine ⟨?_, Ev.step (fun _ => spec_IsCred.l0.eq_2 ..) ?_, Ev.step (fun _ => impl_IsCred.l0.eq_2 ..) ?_⟩
      rotate_left
      · simp (disch := omega) only [l06User_spec, Option.bind_some, decide_eq_true_eq, w64]
        (repeat' (first | exact Ev.now _ | exact h1 | refine Ev.pos (by first | assumption | omega) ?_ | refine Ev.neg (by first | assumption | omega) ?_))
      · simp (disch := omega) only [isUser_impl, Option.bind_some, decide_eq_true_eq, w64]
        (repeat' (first | exact Ev.now _ | exact h2 | refine Ev.pos (by first | assumption | omega) ?_ | refine Ev.neg (by first | assumption | omega) ?_))
theorem isCred_f (a b : Int) (xs : List Int) (hx : xs.length ≤ 1048576) : ∃ r, Ev (fun k => spec_IsCred.f k a b xs) r ∧ Ev (fun k => impl_IsCred.f k a b xs) r := isCred_both a b xs hx xs 0 (by omega) rfl

/-- One entry is well formed. -/
def entryM (x : S115) : Bool := decide (0 ≤ x.f2 ∧ x.f2 ≤ 7 ∧ ((x.f0 = 1 ∨ x.f0 = 2) ∧ 0 ≤ x.f1 ∧ x.f1 ≤ 3 ∨ x.f0 = 3 ∧ x.f1 = 0))
/-- Two neighbours rise. -/
def riseM (x y : S115) : Bool := decide (x.f0 < y.f0 ∨ x.f0 = y.f0 ∧ x.f1 < y.f1)
/-- The entries from one with a left neighbour on. -/
def aclFrom : Option S115 → List S115 → Bool
  | none, [] => true
  | some p, [] => decide (p.f0 = 3)
  | none, x :: l => entryM x && aclFrom (some x) l
  | some p, x :: l => entryM x && (riseM p x && aclFrom (some x) l)
def isAclM (l : List S115) : Bool := decide (l.length ≤ 6) && aclFrom none l
/-- What stands left of place i. -/
def leftOf (xs : List S115) (i : Int) : Option S115 := if i > 0 then some (rd_T115 xs (i - 1)) else none
theorem l05Entry_spec (a b c : Int) : Ev (fun k => spec_l05Entry.f k a b c) (entryM ⟨a, b, c⟩) := by
  unfold spec_l05Entry.f
  refine Ev.bind0 (l01In_spec c 0 7) ?_
  by_cases hc : 0 ≤ c ∧ c ≤ 7
  · refine Ev.pos (by simpa using hc) ?_
    by_cases h1 : a = 1
    · refine Ev.pos h1 (Ev.step (fun _ => spec_l05Entry.j0.eq_2 ..) (Ev.pos (by simpa using h1) (Ev.bind0 (l01In_spec b 0 3) ?_)))
      rw [show entryM ⟨a, b, c⟩ = decide (0 ≤ b ∧ b ≤ 3) by unfold entryM; apply decide_eq_decide.2; simp only; omega]
      exact Ev.now _
    · refine Ev.neg h1 (Ev.step (fun _ => spec_l05Entry.j0.eq_2 ..) ?_)
      by_cases h2 : a = 2
      · refine Ev.pos (by simpa using h2) (Ev.bind0 (l01In_spec b 0 3) ?_)
        rw [show entryM ⟨a, b, c⟩ = decide (0 ≤ b ∧ b ≤ 3) by unfold entryM; apply decide_eq_decide.2; simp only; omega]
        exact Ev.now _
      · refine Ev.neg (by simpa using h2) ?_
        by_cases h3 : a = 3
        · refine Ev.pos h3 ?_
          rw [show entryM ⟨a, b, c⟩ = (b == 0) by unfold entryM; rw [show (b == 0) = decide (b = 0) from rfl]; apply decide_eq_decide.2; simp only; omega]
          exact Ev.now _
        · refine Ev.neg h3 ?_
          rw [show entryM ⟨a, b, c⟩ = false by unfold entryM; apply decide_eq_false; simp only; omega]
          exact Ev.now _
  · refine Ev.neg (by simpa using hc) ?_
    rw [show entryM ⟨a, b, c⟩ = false by unfold entryM; apply decide_eq_false; simp only; omega]
    exact Ev.now _
theorem rd_last (xs : List S115) (i : Int) (h : (xs.length : Int) ≤ i) (h0 : 0 ≤ i) (hi : i ≤ (xs.length : Int)) : i = (xs.length : Int) := by omega
theorem isAcl_spec_l (xs : List S115) (hx : xs.length ≤ 1048576) (l : List S115) : ∀ (i : Int), 0 ≤ i → i ≤ (xs.length : Int) → xs.drop i.toNat = l →
    Ev (fun k => spec_IsAcl.l0 k xs xs (xs.length : Int) i) (aclFrom (leftOf xs i) l && decide (xs.length ≤ 6)) := by
  induction l with
  | nil =>
    intro i h0 hi h
    have h1 := ldrop_nil h0 h
    have hi' : i = (xs.length : Int) := by omega
    subst hi'
    refine Ev.step (fun _ => spec_IsAcl.l0.eq_2 ..) (Ev.neg (by omega) ?_)
    by_cases hz : (xs.length : Int) = 0
    · refine Ev.pos hz ?_
      rw [show leftOf xs (xs.length : Int) = none by unfold leftOf; rw [if_neg (by omega)], aclFrom, show decide (xs.length ≤ 6) = true by simp only [decide_eq_true_eq]; omega]
      exact Ev.now _
    · refine Ev.neg hz ?_
      rw [show leftOf xs (xs.length : Int) = some (rd_T115 xs ((xs.length : Int) - 1)) by unfold leftOf; rw [if_pos (by omega)], aclFrom, w64 (by omega) (by omega)]
      by_cases h6 : (xs.length : Int) ≤ 6
      · refine Ev.pos h6 (Ev.pos (by omega) (Ev.pos (by omega) ?_))
        rw [show decide (xs.length ≤ 6) = true by simp only [decide_eq_true_eq]; omega, Bool.and_true]
        exact Ev.now _
      · refine Ev.neg h6 ?_
        rw [show decide (xs.length ≤ 6) = false by simp only [decide_eq_false_iff_not]; omega, Bool.and_false]
        exact Ev.now _
  | cons x l ih =>
    intro i h0 hi h
    obtain ⟨p, q, c, e⟩ := ldrop_cons z115 h0 h
    have hx' : rd_T115 xs i = x := q
    have := ih (i + 1) (by omega) (by omega) c
    rw [show leftOf xs (i + 1) = some x by unfold leftOf; rw [if_pos (by omega), show i + 1 - 1 = i by omega, hx']] at this
    refine Ev.step (fun _ => spec_IsAcl.l0.eq_2 ..) (Ev.pos p (Ev.pos h0 (Ev.pos p ?_)))
    rw [hx']
    refine Ev.bind (l05Entry_spec x.f0 x.f1 x.f2) ?_
    rw [w64 (n := i + 1) (by omega) (by omega), w64 (n := i - 1) (by omega) (by omega)]
    by_cases c1 : entryM x = true
    · refine Ev.pos c1 ?_
      by_cases c2 : i > 0
      · refine Ev.pos c2 (Ev.pos (by omega) (Ev.pos (by omega) ?_))
        rw [show leftOf xs i = some (rd_T115 xs (i - 1)) by unfold leftOf; rw [if_pos c2], aclFrom, c1, Bool.true_and]
        generalize rd_T115 xs (i - 1) = y at *
        by_cases c3 : y.f0 > x.f0
        · rw [show riseM y x = false by unfold riseM; apply decide_eq_false; omega]
          exact Ev.pos c3 (Ev.now _)
        · refine Ev.neg c3 ?_
          by_cases c4 : y.f0 = x.f0
          · refine Ev.pos c4 ?_
            by_cases c5 : y.f1 ≥ x.f1
            · rw [show riseM y x = false by unfold riseM; apply decide_eq_false; omega]
              exact Ev.pos c5 (Ev.now _)
            · rw [show riseM y x = true by unfold riseM; apply decide_eq_true; omega, Bool.true_and]
              exact Ev.neg c5 this
          · rw [show riseM y x = true by unfold riseM; apply decide_eq_true; omega, Bool.true_and]
            exact Ev.neg c4 this
      · refine Ev.neg c2 ?_
        rw [show leftOf xs i = none by unfold leftOf; rw [if_neg c2], aclFrom, c1, Bool.true_and]
        exact this
    · refine Ev.neg c1 ?_
      have c1' : entryM x = false := by simpa using c1
      have : (aclFrom (leftOf xs i) (x :: l) && decide (xs.length ≤ 6)) = false := by
        cases leftOf xs i <;> simp [aclFrom, c1']
      rw [this]
      exact Ev.now _
theorem cmp_impl (a b : Int) : cmp_Compare_int.f a b = some (if a < b then -1 else if a > b then 1 else 0) := by
  unfold cmp_Compare_int.f cmp_isNaN_int.f
  simp only [bne_self_eq_false, Option.bind_some]
  rw [if_neg (by simp), if_neg (by simp)]
  repeat' split
  all_goals rfl
theorem cmpOr_impl (a b : Int) : Ev (fun k => cmp_Or_int.f k [a, b]) (if a = 0 then b else a) := by
  unfold cmp_Or_int.f
  refine Ev.step (fun _ => cmp_Or_int.l0.eq_2 ..) (Ev.pos (by simp) (Ev.pos (by decide) (Ev.pos (by simp) ?_)))
  rw [show rd [a, b] 0 = a from rfl, show wrap64 (0 + 1) = 1 by unfold wrap64; omega]
  by_cases ha : a = 0
  · refine Ev.pos ha (Ev.step (fun _ => cmp_Or_int.l0.eq_2 ..) (Ev.pos (by simp) (Ev.pos (by decide) (Ev.pos (by simp) ?_))))
    rw [show rd [a, b] 1 = b from rfl, show wrap64 (1 + 1) = 2 by unfold wrap64; omega, if_pos ha]
    by_cases hb : b = 0
    · refine Ev.pos hb (Ev.step (fun _ => cmp_Or_int.l0.eq_2 ..) (Ev.neg (by simp) ?_))
      rw [hb]
      exact Ev.now _
    · exact Ev.neg hb (Ev.now _)
  · rw [if_neg ha]
    exact Ev.neg ha (Ev.now _)
theorem isAcl_j3 {xs : List S115} (hx : xs.length ≤ 1048576) {i : Int} (h0 : 0 ≤ i) (hi : i < (xs.length : Int)) (a b c : Int) {r : Bool} {l : List S115} (he : entryM ⟨a, b, c⟩ = true) (hr : aclFrom (some ⟨a, b, c⟩) l = r) (h : Ev (fun k => impl_IsAcl.l0 k xs xs (xs.length : Int) (i + 1)) r) :
    Ev (fun k => impl_IsAcl.j3 k xs i xs (xs.length : Int) i a b c) (aclFrom (leftOf xs i) (⟨a, b, c⟩ :: l)) := by
  refine Ev.step (fun _ => impl_IsAcl.j3.eq_2 ..) ?_
  rw [w64 (n := i + 1) (by omega) (by omega), w64 (n := i - 1) (by omega) (by omega)]
  by_cases c2 : i > 0
  · rw [show leftOf xs i = some (rd_T115 xs (i - 1)) by unfold leftOf; rw [if_pos c2], aclFrom, he, Bool.true_and, hr]
    generalize rd_T115 xs (i - 1) = y at *
    refine Ev.pos c2 (Ev.pos (by omega) (Ev.pos (by omega) (Ev.bind0 (cmp_impl _ _) (Ev.bind0 (cmp_impl _ _) (Ev.bind (cmpOr_impl _ _) ?_)))))
    by_cases hc : y.f0 < a ∨ y.f0 = a ∧ y.f1 < b
    · rw [show riseM y ⟨a, b, c⟩ = true by unfold riseM; exact decide_eq_true hc, Bool.true_and]
      refine Ev.neg ?_ h
      repeat' split
      all_goals omega
    · rw [show riseM y ⟨a, b, c⟩ = false by unfold riseM; exact decide_eq_false hc, Bool.false_and]
      refine Ev.pos ?_ (Ev.now _)
      repeat' split
      all_goals omega
  · rw [show leftOf xs i = none by unfold leftOf; rw [if_neg c2], aclFrom, he, Bool.true_and, hr]
    exact Ev.neg c2 h
theorem isAcl_impl_l (xs : List S115) (hx : xs.length ≤ 1048576) (l : List S115) : ∀ (i : Int), 0 ≤ i → i ≤ (xs.length : Int) → xs.drop i.toNat = l →
    Ev (fun k => impl_IsAcl.l0 k xs xs (xs.length : Int) i) (aclFrom (leftOf xs i) l) := by
  induction l with
  | nil =>
    intro i h0 hi h
    have h1 := ldrop_nil h0 h
    have hi' : i = (xs.length : Int) := by omega
    subst hi'
    refine Ev.step (fun _ => impl_IsAcl.l0.eq_2 ..) (Ev.neg (by omega) ?_)
    by_cases hz : (xs.length : Int) = 0
    · refine Ev.pos hz ?_
      rw [show leftOf xs (xs.length : Int) = none by unfold leftOf; rw [if_neg (by omega)], aclFrom]
      exact Ev.now _
    · refine Ev.neg hz ?_
      rw [show leftOf xs (xs.length : Int) = some (rd_T115 xs ((xs.length : Int) - 1)) by unfold leftOf; rw [if_pos (by omega)], aclFrom, w64 (by omega) (by omega)]
      exact Ev.pos (by omega) (Ev.pos (by omega) (Ev.now _))
  | cons x l ih =>
    intro i h0 hi h
    obtain ⟨p, q, c, e⟩ := ldrop_cons z115 h0 h
    have hx' : rd_T115 xs i = x := q
    have := ih (i + 1) (by omega) (by omega) c
    rw [show leftOf xs (i + 1) = some x by unfold leftOf; rw [if_pos (by omega), show i + 1 - 1 = i by omega, hx']] at this
    have bad : entryM x = false → aclFrom (leftOf xs i) (x :: l) = false := by
      intro c1'
      cases leftOf xs i <;> simp [aclFrom, c1']
    refine Ev.step (fun _ => impl_IsAcl.l0.eq_2 ..) (Ev.pos p (Ev.pos h0 (Ev.pos p ?_)))
    rw [hx']
    obtain ⟨a, b, d⟩ := x
    simp only
    have j1no : Ev (fun k => impl_IsAcl.j1 k xs i xs (xs.length : Int) i true a b d) false := Ev.step (fun _ => impl_IsAcl.j1.eq_2 ..) (Ev.pos rfl (Ev.now _))
    by_cases d1 : d < 0
    · rw [bad (by unfold entryM; apply decide_eq_false; simp only; omega)]
      exact Ev.pos d1 j1no
    · refine Ev.neg d1 ?_
      by_cases d2 : d > 7
      · rw [bad (by unfold entryM; apply decide_eq_false; simp only; omega), show decide (d > 7) = true by simpa using d2]
        exact j1no
      · rw [show decide (d > 7) = false by simpa using d2]
        refine Ev.step (fun _ => impl_IsAcl.j1.eq_2 ..) (Ev.neg (by simp) ?_)
        have j2 : ∀ t : Bool, t = decide (a = 1 ∨ a = 2) → Ev (fun k => impl_IsAcl.j2 k xs i xs (xs.length : Int) i a t a b d) (aclFrom (leftOf xs i) (⟨a, b, d⟩ :: l)) := by
          intro t ht
          refine Ev.step (fun _ => impl_IsAcl.j2.eq_2 ..) ?_
          by_cases h12 : a = 1 ∨ a = 2
          · refine Ev.pos (by rw [ht]; exact decide_eq_true h12) (Ev.bind0 (isUser_impl b) ?_)
            by_cases hb : 0 ≤ b ∧ b ≤ 3
            · exact Ev.pos (by simpa using hb) (isAcl_j3 hx h0 p a b d (by unfold entryM; apply decide_eq_true; simp only; omega) rfl this)
            · rw [bad (by unfold entryM; apply decide_eq_false; simp only; omega)]
              exact Ev.neg (by simpa using hb) (Ev.now _)
          · refine Ev.neg (by rw [ht]; simpa using h12) ?_
            by_cases h3 : a = 3
            · refine Ev.pos h3 ?_
              by_cases hb : b = 0
              · exact Ev.pos hb (isAcl_j3 hx h0 p a b d (by unfold entryM; apply decide_eq_true; simp only; omega) rfl this)
              · rw [bad (by unfold entryM; apply decide_eq_false; simp only; omega)]
                exact Ev.neg hb (Ev.now _)
            · rw [bad (by unfold entryM; apply decide_eq_false; simp only; omega)]
              exact Ev.neg h3 (Ev.now _)
        by_cases h1 : a = 1
        · exact Ev.pos h1 (j2 _ (by simp [h1]))
        · exact Ev.neg h1 (j2 _ (by simp [h1]; rfl))
theorem isAcl_spec (xs : List S115) (hx : xs.length ≤ 1048576) : Ev (fun k => spec_IsAcl.f k xs) (isAclM xs) := by
  have := isAcl_spec_l xs hx xs 0 (by omega) (by omega) rfl
  unfold isAclM
  rw [Bool.and_comm]
  exact this
theorem isAcl_impl (xs : List S115) (hx : xs.length ≤ 1048576) : Ev (fun k => impl_IsAcl.f k xs) (isAclM xs) := by
  unfold impl_IsAcl.f isAclM
  by_cases h : (xs.length : Int) > 6
  · rw [show decide (xs.length ≤ 6) = false by simp only [decide_eq_false_iff_not]; omega, Bool.false_and]
    exact Ev.pos h (Ev.now _)
  · rw [show decide (xs.length ≤ 6) = true by simp only [decide_eq_true_eq]; omega, Bool.true_and]
    exact Ev.neg h (isAcl_impl_l xs hx xs 0 (by omega) (by omega) rfl)

theorem permOf_impl (m c : Int) : impl_PermOf.f m c = some (permOf m c) := by
  unfold impl_PermOf.f
  rw [isMode_impl]
  simp only [Option.bind_some, decide_eq_true_eq]
  by_cases hm : 0 ≤ m ∧ m ≤ 2047
  · rw [if_pos hm]
    by_cases h1 : c < 0
    · rw [if_pos h1]
      unfold permOf
      rw [if_neg (by omega)]
    · rw [if_neg h1]
      by_cases h2 : c > 2
      · rw [if_pos h2]
        unfold permOf
        rw [if_neg (by omega)]
      · rw [if_neg h2]
        unfold permOf
        rw [if_pos (show 0 ≤ m ∧ m ≤ 2047 ∧ 0 ≤ c ∧ c ≤ 2 by omega)]
        obtain rfl | rfl | rfl : c = 0 ∨ c = 1 ∨ c = 2 := by omega
        · rw [show wrap64 (6 - wrap64 (3 * 0)) = 6 by unfold wrap64; omega, if_pos (by decide), shr_at (y := 6) 6 rfl (by decide), i64_and7 (by omega) (by omega), if_pos rfl]
          rfl
        · rw [show wrap64 (6 - wrap64 (3 * 1)) = 3 by unfold wrap64; omega, if_pos (by decide), shr_at (y := 3) 3 rfl (by decide), i64_and7 (by omega) (by omega), if_neg (by decide), if_pos rfl]
          rfl
        · rw [show wrap64 (6 - wrap64 (3 * 2)) = 0 by unfold wrap64; omega, if_pos (by decide), shr_at (y := 0) 0 rfl (by decide), i64_and7 (by omega) (by omega), if_neg (by decide), if_neg (by decide)]
          simp
  · rw [if_neg hm]
    unfold permOf
    rw [if_neg (by omega)]

theorem permOf_spec_0 (m c : Int) : Ev (fun k => spec_PermOf.j0 k m c true) 0 := Ev.step (fun _ => spec_PermOf.j0.eq_2 ..) (Ev.pos rfl (Ev.now _))
theorem permOf_spec_2 (m : Int) (h0 : 0 ≤ m) : Ev (fun k => spec_PermOf.l0 k m 2) (m % 8) := by
  refine Ev.step (fun _ => spec_PermOf.l0.eq_2 ..) (Ev.neg (by decide) ?_)
  rw [Int.tmod_eq_emod_of_nonneg h0]
  exact Ev.now _
theorem permOf_spec_1 (m : Int) (h0 : 0 ≤ m) (h1 : m ≤ 2047) : Ev (fun k => spec_PermOf.l0 k m 1) (m / 8 % 8) := by
  refine Ev.step (fun _ => spec_PermOf.l0.eq_2 ..) (Ev.pos (by decide) ?_)
  rw [Int.tdiv_eq_ediv_of_nonneg h0, w64 (n := m / 8) (by omega) (by omega), show wrap64 (1 + 1) = 2 by unfold wrap64; omega]
  exact permOf_spec_2 _ (by omega)
theorem permOf_spec_zero (m : Int) (h0 : 0 ≤ m) (h1 : m ≤ 2047) : Ev (fun k => spec_PermOf.l0 k m 0) (m / 64 % 8) := by
  refine Ev.step (fun _ => spec_PermOf.l0.eq_2 ..) (Ev.pos (by decide) ?_)
  rw [Int.tdiv_eq_ediv_of_nonneg h0, w64 (n := m / 8) (by omega) (by omega), show wrap64 (0 + 1) = 1 by unfold wrap64; omega, show m / 64 = m / 8 / 8 by omega]
  exact permOf_spec_1 _ (by omega) (by omega)
theorem permOf_spec (m c : Int) : Ev (fun k => spec_PermOf.f k m c) (permOf m c) := by
  unfold spec_PermOf.f
  refine Ev.bind0 (l06Mode_spec m) ?_
  by_cases hm : 0 ≤ m ∧ m ≤ 2047
  · refine Ev.pos (by simpa using hm) (Ev.bind0 (l01In_spec c 0 2) ?_)
    by_cases hc : 0 ≤ c ∧ c ≤ 2
    · rw [show (!decide (0 ≤ c ∧ c ≤ 2)) = false by simp [hc]]
      refine Ev.step (fun _ => spec_PermOf.j0.eq_2 ..) (Ev.neg (by decide) ?_)
      unfold permOf
      rw [if_pos (show 0 ≤ m ∧ m ≤ 2047 ∧ 0 ≤ c ∧ c ≤ 2 by omega)]
      obtain rfl | rfl | rfl : c = 0 ∨ c = 1 ∨ c = 2 := by omega
      · exact permOf_spec_zero m hm.1 hm.2
      · exact permOf_spec_1 m hm.1 hm.2
      · exact permOf_spec_2 m hm.1
    · rw [show (!decide (0 ≤ c ∧ c ≤ 2)) = true by simp only [hc, decide_false, Bool.not_false]]
      unfold permOf
      rw [if_neg (by omega)]
      exact permOf_spec_0 m c
  · refine Ev.neg (by simpa using hm) ?_
    unfold permOf
    rw [if_neg (by omega)]
    exact permOf_spec_0 m c


def maskM : List S115 → Int
  | [] => 7
  | x :: l => if x.f0 = 3 then x.f2 else maskM l
theorem maskOf_spec_l (xs : List S115) (hx : xs.length ≤ 1048576) (l : List S115) : ∀ (i : Int), 0 ≤ i → xs.drop i.toNat = l → Ev (fun k => spec_MaskOf.l0 k xs (xs.length : Int) i) (maskM l) := by
  induction l with
  | nil =>
    intro i h0 h
    have := ldrop_nil h0 h
    exact Ev.step (fun _ => spec_MaskOf.l0.eq_2 ..) (Ev.neg (by omega) (Ev.now _))
  | cons x l ih =>
    intro i h0 h
    obtain ⟨p, q, c, e⟩ := ldrop_cons z115 h0 h
    refine Ev.step (fun _ => spec_MaskOf.l0.eq_2 ..) (Ev.pos p (Ev.pos h0 (Ev.pos p ?_)))
    rw [show rd_T115 xs i = x from q, w64 (by omega) (by omega), maskM]
    by_cases c1 : x.f0 = 3
    · rw [if_pos c1]
      exact Ev.pos c1 (Ev.now _)
    · rw [if_neg c1]
      exact Ev.neg c1 (ih (i + 1) (by omega) c)
theorem maskOf_impl_l (xs : List S115) (hx : xs.length ≤ 1048576) (l : List S115) : ∀ (i : Int), 0 ≤ i → xs.drop i.toNat = l → Ev (fun k => impl_MaskOf.l0 k xs (xs.length : Int) i) (maskM l) := by
  induction l with
  | nil =>
    intro i h0 h
    have := ldrop_nil h0 h
    exact Ev.step (fun _ => impl_MaskOf.l0.eq_2 ..) (Ev.neg (by omega) (Ev.now _))
  | cons x l ih =>
    intro i h0 h
    obtain ⟨p, q, c, e⟩ := ldrop_cons z115 h0 h
    refine Ev.step (fun _ => impl_MaskOf.l0.eq_2 ..) (Ev.pos p (Ev.pos h0 (Ev.pos p ?_)))
    rw [show rd_T115 xs i = x from q, w64 (by omega) (by omega), maskM]
    by_cases c1 : x.f0 = 3
    · rw [if_pos c1]
      exact Ev.pos c1 (Ev.now _)
    · rw [if_neg c1]
      exact Ev.neg c1 (ih (i + 1) (by omega) c)
theorem maskOf_spec (xs : List S115) (hx : xs.length ≤ 1048576) : Ev (fun k => spec_MaskOf.f k xs) (maskM xs) := maskOf_spec_l xs hx xs 0 (by omega) rfl
theorem maskOf_impl (xs : List S115) (hx : xs.length ≤ 1048576) : Ev (fun k => impl_MaskOf.f k xs) (maskM xs) := maskOf_impl_l xs hx xs 0 (by omega) rfl

def permM (t i : Int) : List S115 → Int × Bool
  | [] => (0, false)
  | x :: l => if x.f0 = t ∧ x.f1 = i then (x.f2, true) else permM t i l
theorem aclPerm_spec_l (t u : Int) (xs : List S115) (hx : xs.length ≤ 1048576) (l : List S115) : ∀ (i : Int), 0 ≤ i → xs.drop i.toNat = l → Ev (fun k => spec_AclPerm.l0 k t u xs (xs.length : Int) i) (permM t u l) := by
  induction l with
  | nil =>
    intro i h0 h
    have := ldrop_nil h0 h
    exact Ev.step (fun _ => spec_AclPerm.l0.eq_2 ..) (Ev.neg (by omega) (Ev.now _))
  | cons x l ih =>
    intro i h0 h
    obtain ⟨p, q, c, e⟩ := ldrop_cons z115 h0 h
    have := ih (i + 1) (by omega) c
    refine Ev.step (fun _ => spec_AclPerm.l0.eq_2 ..) (Ev.pos p (Ev.pos h0 (Ev.pos p ?_)))
    rw [show rd_T115 xs i = x from q, w64 (by omega) (by omega), permM]
    by_cases c1 : x.f0 = t <;> by_cases c2 : x.f1 = u
    · rw [if_pos ⟨c1, c2⟩]
      exact Ev.pos c1 (Ev.pos c2 (Ev.now _))
    · rw [if_neg (fun h => c2 h.2)]
      exact Ev.pos c1 (Ev.neg c2 this)
    · rw [if_neg (fun h => c1 h.1)]
      exact Ev.neg c1 this
    · rw [if_neg (fun h => c1 h.1)]
      exact Ev.neg c1 this
theorem aclPerm_impl_l (t u : Int) (xs : List S115) (hx : xs.length ≤ 1048576) (l : List S115) : ∀ (i : Int), 0 ≤ i → xs.drop i.toNat = l → Ev (fun k => impl_AclPerm.l0 k t u xs (xs.length : Int) i) (permM t u l) := by
  induction l with
  | nil =>
    intro i h0 h
    have := ldrop_nil h0 h
    exact Ev.step (fun _ => impl_AclPerm.l0.eq_2 ..) (Ev.neg (by omega) (Ev.now _))
  | cons x l ih =>
    intro i h0 h
    obtain ⟨p, q, c, e⟩ := ldrop_cons z115 h0 h
    have := ih (i + 1) (by omega) c
    refine Ev.step (fun _ => impl_AclPerm.l0.eq_2 ..) (Ev.pos p (Ev.pos h0 (Ev.pos p ?_)))
    rw [show rd_T115 xs i = x from q, w64 (by omega) (by omega), permM]
    by_cases c1 : x.f0 = t <;> by_cases c2 : x.f1 = u
    · rw [if_pos ⟨c1, c2⟩]
      exact Ev.pos c1 (Ev.pos c2 (Ev.now _))
    · rw [if_neg (fun h => c2 h.2)]
      exact Ev.pos c1 (Ev.neg c2 this)
    · rw [if_neg (fun h => c1 h.1)]
      exact Ev.neg c1 this
    · rw [if_neg (fun h => c1 h.1)]
      exact Ev.neg c1 this
theorem aclPerm_spec (xs : List S115) (t u : Int) (hx : xs.length ≤ 1048576) : Ev (fun k => spec_AclPerm.f k xs t u) (permM t u xs) := aclPerm_spec_l t u xs hx xs 0 (by omega) rfl
theorem aclPerm_impl (xs : List S115) (t u : Int) (hx : xs.length ≤ 1048576) : Ev (fun k => impl_AclPerm.f k xs t u) (permM t u xs) := aclPerm_impl_l t u xs hx xs 0 (by omega) rfl

theorem l02Has_index (v : Int) (xs : List Int) (hx : xs.length ≤ 1048576) (l : List Int) : ∀ (i : Int), 0 ≤ i → xs.drop i.toNat = l →
    ∃ j, Ev (fun k => spec_l02Has.l0 k v xs (xs.length : Int) i) (decide (j ≥ 0)) ∧ Ev (fun k => slices_Index_int_int.l0 k xs v (xs.length : Int) i) j := by
  induction l with
  | nil =>
    intro i h0 h
    have := ldrop_nil h0 h
    exact ⟨-1, Ev.step (fun _ => spec_l02Has.l0.eq_2 ..) (Ev.neg (by omega) (Ev.now _)), Ev.step (fun _ => slices_Index_int_int.l0.eq_2 ..) (Ev.neg (by omega) (Ev.now _))⟩
  | cons x l ih =>
    intro i h0 h
    obtain ⟨p, q, c, e⟩ := ldrop_cons (0 : Int) h0 h
    obtain ⟨j, h1, h2⟩ := ih (i + 1) (by omega) c
    by_cases c1 : rd xs i = v
    · refine ⟨i, Ev.step (fun _ => spec_l02Has.l0.eq_2 ..) ?_, Ev.step (fun _ => slices_Index_int_int.l0.eq_2 ..) ?_⟩
      · rw [show decide (i ≥ 0) = true by simpa using h0]
        (repeat' (first | exact Ev.now _ | refine Ev.pos (by first | assumption | omega) ?_ | refine Ev.neg (by first | assumption | omega) ?_))
      · (repeat' (first | exact Ev.now _ | refine Ev.pos (by first | assumption | omega) ?_ | refine Ev.neg (by first | assumption | omega) ?_))
    · refine ⟨j, Ev.step (fun _ => spec_l02Has.l0.eq_2 ..) ?_, Ev.step (fun _ => slices_Index_int_int.l0.eq_2 ..) ?_⟩
      · simp (disch := omega) only [w64]
        (repeat' (first | exact Ev.now _ | exact h1 | refine Ev.pos (by first | assumption | omega) ?_ | refine Ev.neg (by first | assumption | omega) ?_))
      · simp (disch := omega) only [w64]
        (repeat' (first | exact Ev.now _ | exact h2 | refine Ev.pos (by first | assumption | omega) ?_ | refine Ev.neg (by first | assumption | omega) ?_))

theorem inGroup_f (a b : Int) (l : List Int) (g : Int) (hl : l.length ≤ 1048576) : ∃ r, Ev (fun k => spec_InGroup.f k a b l g) r ∧ Ev (fun k => impl_InGroup.f k a b l g) r := by
  unfold spec_InGroup.f impl_InGroup.f
  by_cases h : b = g
  · exact ⟨true, Ev.pos h (Ev.now _), Ev.pos h.symm (Ev.now _)⟩
  · obtain ⟨j, h1, h2⟩ := l02Has_index g l hl l 0 (by omega) rfl
    refine ⟨_, Ev.neg h (Ev.bind (g := fun k => spec_l02Has.f k l g) h1 (Ev.now _)), Ev.neg (fun e => h e.symm) ?_⟩
    refine Ev.bind (g := fun k => slices_Contains_int_int.f k l g) (a := decide (j ≥ 0)) ?_ (Ev.now _)
    unfold slices_Contains_int_int.f
    exact Ev.bind (g := fun k => slices_Index_int_int.f k l g) h2 (Ev.now _)

def covM (w x : Int) : Bool := (Go.bits .and .i64 x w) == w
theorem cov_spec (x w : Int) : spec_l06Covers.f x w = some (covM w x) := rfl
theorem cov_impl (x w : Int) : impl_Allowed_1.f x w = some (covM w x) := rfl
theorem contains_impl (ps : List Int) (w : Int) (h : ps.length ≤ 1048577) : slices_ContainsFunc_int_int.f ps w = some (ps.any (covM w)) := by
  unfold slices_ContainsFunc_int_int.f
  rw [if_pos (by omega)]
  rfl
theorem allowed_l (m w msk a b : Int) (G : List Int) (hG : G.length ≤ 1048576) (xs : List S115) (hx : xs.length ≤ 1048576) (l : List S115) : ∀ (i : Int) (ps : List Int), 0 ≤ i → i ≤ (xs.length : Int) → xs.drop i.toNat = l → (ps.length : Int) ≤ i + 1 →
    ∃ r, Ev (fun k => spec_Allowed.l0 k m w msk (decide (0 < ps.length)) (ps.any (covM w)) xs (xs.length : Int) i a b G) r ∧ Ev (fun k => impl_Allowed.l0 k m msk ps xs (xs.length : Int) i a b G w) r := by
  induction l with
  | nil =>
    intro i ps h0 hi h hp
    have h1 := ldrop_nil h0 h
    by_cases hc : 0 < ps.length
    · rw [decide_eq_true hc]
      refine ⟨ps.any (covM w) && covM w msk, Ev.step (fun _ => spec_Allowed.l0.eq_2 ..) (Ev.neg (by omega) (Ev.pos rfl ?_)), Ev.step (fun _ => impl_Allowed.l0.eq_2 ..) (Ev.neg (by omega) (Ev.pos (by omega) (Ev.bind0 (cov_impl msk w) ?_)))⟩
      · cases ps.any (covM w) with
        | true => exact Ev.pos rfl (Ev.bind0 (cov_spec msk w) (Ev.now _))
        | false => exact Ev.neg (by decide) (Ev.now _)
      · cases covM w msk with
        | true => exact Ev.pos rfl (Ev.bind0 (contains_impl ps w (by omega)) (by rw [Bool.and_true]; exact Ev.now _))
        | false => rw [Bool.and_false]; exact Ev.neg (by decide) (Ev.now _)
    · rw [decide_eq_false hc]
      exact ⟨covM w (permOf m 2), Ev.step (fun _ => spec_Allowed.l0.eq_2 ..) (Ev.neg (by omega) (Ev.neg (by decide) (Ev.bind (permOf_spec m 2) (Ev.bind0 (cov_spec _ w) (Ev.now _))))), Ev.step (fun _ => impl_Allowed.l0.eq_2 ..) (Ev.neg (by omega) (Ev.neg (by omega) (Ev.bind0 (permOf_impl m 2) (Ev.bind0 (cov_impl _ w) (Ev.now _)))))⟩
  | cons x l ih =>
    intro i ps h0 hi h hp
    obtain ⟨p, q, c, e⟩ := ldrop_cons z115 h0 h
    have hr : rd_T115 xs i = x := q
    by_cases h2 : x.f0 = 2
    · obtain ⟨g, g1, g2⟩ := inGroup_f a b G x.f1 hG
      cases g with
      | true =>
        obtain ⟨r, r1, r2⟩ := ih (i + 1) (ps ++ [x.f2]) (by omega) (by omega) c (by rw [List.length_append, List.length_singleton]; omega)
        rw [decide_eq_true (by rw [List.length_append, List.length_singleton]; omega), List.any_append, List.any_cons, List.any_nil, Bool.or_false] at r1
        refine ⟨r, Ev.step (fun _ => spec_Allowed.l0.eq_2 ..) (Ev.pos p (Ev.pos h0 (Ev.pos p ?_))), Ev.step (fun _ => impl_Allowed.l0.eq_2 ..) (Ev.pos p (Ev.pos h0 (Ev.pos p ?_)))⟩
        · rw [hr, w64 (n := i + 1) (by omega) (by omega)]
          refine Ev.pos h2 (Ev.bind g1 (Ev.pos rfl ?_))
          cases hf : ps.any (covM w) with
          | true =>
            rw [hf, Bool.true_or] at r1
            exact Ev.pos rfl r1
          | false =>
            rw [hf, Bool.false_or] at r1
            exact Ev.neg (by decide) (Ev.bind0 (cov_spec x.f2 w) r1)
        · rw [hr, w64 (n := i + 1) (by omega) (by omega)]
          exact Ev.pos h2 (Ev.bind g2 (Ev.pos rfl (Ev.pos (by omega) r2)))
      | false =>
        obtain ⟨r, r1, r2⟩ := ih (i + 1) ps (by omega) (by omega) c (by omega)
        refine ⟨r, Ev.step (fun _ => spec_Allowed.l0.eq_2 ..) (Ev.pos p (Ev.pos h0 (Ev.pos p ?_))), Ev.step (fun _ => impl_Allowed.l0.eq_2 ..) (Ev.pos p (Ev.pos h0 (Ev.pos p ?_)))⟩
        · rw [hr, w64 (n := i + 1) (by omega) (by omega)]
          exact Ev.pos h2 (Ev.bind g1 (Ev.neg (by decide) r1))
        · rw [hr, w64 (n := i + 1) (by omega) (by omega)]
          exact Ev.pos h2 (Ev.bind g2 (Ev.neg (by decide) r2))
    · obtain ⟨r, r1, r2⟩ := ih (i + 1) ps (by omega) (by omega) c (by omega)
      refine ⟨r, Ev.step (fun _ => spec_Allowed.l0.eq_2 ..) (Ev.pos p (Ev.pos h0 (Ev.pos p ?_))), Ev.step (fun _ => impl_Allowed.l0.eq_2 ..) (Ev.pos p (Ev.pos h0 (Ev.pos p ?_)))⟩
      · rw [hr, w64 (n := i + 1) (by omega) (by omega)]
        exact Ev.neg h2 r1
      · rw [hr, w64 (n := i + 1) (by omega) (by omega)]
        exact Ev.neg h2 r2
theorem allowed_j (a b : Int) (G : List Int) (u g m w : Int) (xs : List S115) (hG : G.length ≤ 1048576) (hx : xs.length ≤ 1048576) :
    ∃ r, Ev (fun k => spec_Allowed.j0 k u g m xs w false a b G) r ∧ Ev (fun k => impl_Allowed.j0 k u g m xs false a b G w) r := by
  by_cases h0 : a = 0
  · exact ⟨true, Ev.step (fun _ => spec_Allowed.j0.eq_2 ..) (Ev.neg (by decide) (Ev.pos h0 (Ev.now _))), Ev.step (fun _ => impl_Allowed.j0.eq_2 ..) (Ev.neg (by decide) (Ev.pos h0 (Ev.now _)))⟩
  by_cases h1 : a = u
  · exact ⟨covM w (permOf m 0), Ev.step (fun _ => spec_Allowed.j0.eq_2 ..) (Ev.neg (by decide) (Ev.neg h0 (Ev.pos h1 (Ev.bind (permOf_spec m 0) (Ev.bind0 (cov_spec _ w) (Ev.now _)))))), Ev.step (fun _ => impl_Allowed.j0.eq_2 ..) (Ev.neg (by decide) (Ev.neg h0 (Ev.pos h1 (Ev.bind0 (permOf_impl m 0) (Ev.bind0 (cov_impl _ w) (Ev.now _))))))⟩
  suffices hs : ∃ r, Ev (fun k => if (permM 1 a xs).2 = true then ((spec_l06Covers.f (Go.bits .and .i64 (permM 1 a xs).1 (maskM xs)) w).bind fun t158 => (some t158)) else ((spec_InGroup.f k a b G g).bind fun t159 => (if t159 = true then ((spec_PermOf.f k m 1).bind fun t160 => ((spec_l06Covers.f t160 w).bind fun t161 => (spec_Allowed.j1 k m xs w (maskM xs) true t161 a b G))) else (spec_Allowed.j1 k m xs w (maskM xs) false false a b G)))) r ∧
      Ev (fun k => if (permM 1 a xs).2 = true then ((impl_Allowed_1.f (Go.bits .and .i64 (permM 1 a xs).1 (maskM xs)) w).bind fun t222 => (some t222)) else ((some (([] : List Int) : List Int)).bind fun y223 => ((impl_InGroup.f k a b G g).bind fun t226 => (if t226 = true then ((impl_PermOf.f m 1).bind fun t227 => (if y223.length < 17592186044416 then (impl_Allowed.j1 k m xs (maskM xs) (y223 ++ [t227]) a b G w) else (none))) else (impl_Allowed.j1 k m xs (maskM xs) y223 a b G w))))) r by
    obtain ⟨r, r1, r2⟩ := hs
    exact ⟨r, Ev.step (fun _ => spec_Allowed.j0.eq_2 ..) (Ev.neg (by decide) (Ev.neg h0 (Ev.neg h1 (Ev.bind (maskOf_spec xs hx) (Ev.bind (aclPerm_spec xs 1 a hx) r1))))), Ev.step (fun _ => impl_Allowed.j0.eq_2 ..) (Ev.neg (by decide) (Ev.neg h0 (Ev.neg h1 (Ev.bind (maskOf_impl xs hx) (Ev.bind (aclPerm_impl xs 1 a hx) r2)))))⟩
  by_cases h2 : (permM 1 a xs).2 = true
  · exact ⟨covM w (Go.bits .and .i64 (permM 1 a xs).1 (maskM xs)), Ev.pos h2 (Ev.bind0 (cov_spec _ w) (Ev.now _)), Ev.pos h2 (Ev.bind0 (cov_impl _ w) (Ev.now _))⟩
  · obtain ⟨t, g1, g2⟩ := inGroup_f a b G g hG
    cases t with
    | true =>
      obtain ⟨r, r1, r2⟩ := allowed_l m w (maskM xs) a b G hG xs hx xs 0 [permOf m 1] (by omega) (by omega) rfl (by rw [List.length_singleton]; omega)
      rw [List.any_cons, List.any_nil, Bool.or_false] at r1
      exact ⟨r, Ev.neg h2 (Ev.bind g1 (Ev.pos rfl (Ev.bind (permOf_spec m 1) (Ev.bind0 (cov_spec _ w) (Ev.step (fun _ => spec_Allowed.j1.eq_2 ..) r1))))), Ev.neg h2 (Ev.bind0 rfl (Ev.bind g2 (Ev.pos rfl (Ev.bind0 (permOf_impl m 1) (Ev.pos (by decide) (Ev.step (fun _ => impl_Allowed.j1.eq_2 ..) r2))))))⟩
    | false =>
      obtain ⟨r, r1, r2⟩ := allowed_l m w (maskM xs) a b G hG xs hx xs 0 [] (by omega) (by omega) rfl (by decide)
      exact ⟨r, Ev.neg h2 (Ev.bind g1 (Ev.neg (by decide) (Ev.step (fun _ => spec_Allowed.j1.eq_2 ..) r1))), Ev.neg h2 (Ev.bind0 rfl (Ev.bind g2 (Ev.neg (by decide) (Ev.step (fun _ => impl_Allowed.j1.eq_2 ..) r2))))⟩
theorem allowed_f (a b : Int) (G : List Int) (u g m w : Int) (xs : List S115) (hG : G.length ≤ 1048576) (hx : xs.length ≤ 1048576) :
    ∃ r, Ev (fun k => spec_Allowed.f k a b G u g m xs w) r ∧ Ev (fun k => impl_Allowed.f k a b G u g m xs w) r := by
  unfold spec_Allowed.f impl_Allowed.f
  have n1 : Ev (fun k => spec_Allowed.j0 k u g m xs w true a b G) false := Ev.step (fun _ => spec_Allowed.j0.eq_2 ..) (Ev.pos rfl (Ev.now _))
  have n2 : Ev (fun k => impl_Allowed.j0 k u g m xs true a b G w) false := Ev.step (fun _ => impl_Allowed.j0.eq_2 ..) (Ev.pos rfl (Ev.now _))
  obtain ⟨t, c1, c2⟩ := isCred_f a b G hG
  cases t with
  | false => exact ⟨false, Ev.bind c1 (Ev.neg (by decide) n1), Ev.bind c2 (Ev.neg (by decide) n2)⟩
  | true =>
  have d1 := isAcl_spec xs hx
  have d2 := isAcl_impl xs hx
  cases hA : isAclM xs with
  | false =>
    rw [hA] at d1 d2
    exact ⟨false, Ev.bind c1 (Ev.pos rfl (Ev.bind d1 (Ev.neg (by decide) n1))), Ev.bind c2 (Ev.pos rfl (Ev.bind d2 (Ev.neg (by decide) n2)))⟩
  | true =>
  rw [hA] at d1 d2
  by_cases hu : 0 ≤ u ∧ u ≤ 3
  case neg => exact ⟨false, Ev.bind c1 (Ev.pos rfl (Ev.bind d1 (Ev.pos rfl (Ev.bind0 (l06User_spec u) (Ev.neg (by simpa using hu) n1))))), Ev.bind c2 (Ev.pos rfl (Ev.bind d2 (Ev.pos rfl (Ev.bind0 (isUser_impl u) (Ev.neg (by simpa using hu) n2)))))⟩
  by_cases hg : 0 ≤ g ∧ g ≤ 3
  case neg => exact ⟨false, Ev.bind c1 (Ev.pos rfl (Ev.bind d1 (Ev.pos rfl (Ev.bind0 (l06User_spec u) (Ev.pos (decide_eq_true hu) (Ev.bind0 (l06User_spec g) (Ev.neg (by simpa using hg) n1))))))), Ev.bind c2 (Ev.pos rfl (Ev.bind d2 (Ev.pos rfl (Ev.bind0 (isUser_impl u) (Ev.pos (decide_eq_true hu) (Ev.bind0 (isUser_impl g) (Ev.neg (by simpa using hg) n2)))))))⟩
  by_cases hm : 0 ≤ m ∧ m ≤ 2047
  case neg => exact ⟨false, Ev.bind c1 (Ev.pos rfl (Ev.bind d1 (Ev.pos rfl (Ev.bind0 (l06User_spec u) (Ev.pos (decide_eq_true hu) (Ev.bind0 (l06User_spec g) (Ev.pos (decide_eq_true hg) (Ev.bind0 (l06Mode_spec m) (Ev.neg (by simpa using hm) n1))))))))), Ev.bind c2 (Ev.pos rfl (Ev.bind d2 (Ev.pos rfl (Ev.bind0 (isUser_impl u) (Ev.pos (decide_eq_true hu) (Ev.bind0 (isUser_impl g) (Ev.pos (decide_eq_true hg) (Ev.bind0 (isMode_impl m) (Ev.neg (by simpa using hm) n2)))))))))⟩
  suffices hs : ∃ r, Ev (fun k => spec_Allowed.j0 k u g m xs w (!(decide (0 ≤ w ∧ w ≤ 7))) a b G) r ∧ Ev (fun k => if w < 0 then (impl_Allowed.j0 k u g m xs true a b G w) else (impl_Allowed.j0 k u g m xs (decide (w > 7)) a b G w)) r by
    obtain ⟨r, r1, r2⟩ := hs
    exact ⟨r, Ev.bind c1 (Ev.pos rfl (Ev.bind d1 (Ev.pos rfl (Ev.bind0 (l06User_spec u) (Ev.pos (decide_eq_true hu) (Ev.bind0 (l06User_spec g) (Ev.pos (decide_eq_true hg) (Ev.bind0 (l06Mode_spec m) (Ev.pos (decide_eq_true hm) (Ev.bind0 (l01In_spec w 0 7) r1)))))))))), Ev.bind c2 (Ev.pos rfl (Ev.bind d2 (Ev.pos rfl (Ev.bind0 (isUser_impl u) (Ev.pos (decide_eq_true hu) (Ev.bind0 (isUser_impl g) (Ev.pos (decide_eq_true hg) (Ev.bind0 (isMode_impl m) (Ev.pos (decide_eq_true hm) r2)))))))))⟩
  by_cases hw : 0 ≤ w ∧ w ≤ 7
  · obtain ⟨r, r1, r2⟩ := allowed_j a b G u g m w xs hG hx
    refine ⟨r, ?_, Ev.neg (by omega) ?_⟩
    · rw [decide_eq_true hw]
      exact r1
    · rw [decide_eq_false (show ¬ w > 7 by omega)]
      exact r2
  · refine ⟨false, ?_, ?_⟩
    · rw [decide_eq_false hw]
      exact n1
    · by_cases h1 : w < 0
      · exact Ev.pos h1 n2
      · refine Ev.neg h1 ?_
        rw [decide_eq_true (show w > 7 by omega)]
        exact n2

theorem szCred_ex2 (a b : Int) (l : List Int) (hl : l.length ≤ 9223372036854775807) : ∃ t, laws_szCred.f a b l 1048576 = some t ∧ (t < 0 ∨ 0 ≤ t ∧ t ≤ 1048576 ∧ l.length ≤ 1048576) := by
  unfold laws_szCred.f laws_szIntS.f
  rw [w64 (by omega) (by omega)]
  by_cases h : 1048576 - (l.length : Int) < 0
  · rw [if_pos h]
    exact ⟨-1, by simp, by omega⟩
  · rw [if_neg h, Option.bind_some, if_neg h]
    exact ⟨_, rfl, by omega⟩
theorem FnExactAllowed (a b : Int) (G : List Int) (u g m : Int) (xs : List S117) (w : Int)
    (h : (Lit.int .i64 a).wf = true ∧ (Lit.int .i64 b).wf = true ∧ G.length ≤ 9223372036854775807 ∧ ∀ x, x ∈ G → (Lit.int .i64 x).wf = true) (hu : (Lit.int .i64 u).wf = true) (hg : (Lit.int .i64 g).wf = true) (hm : (Lit.int .i64 m).wf = true)
    (hx : xs.length ≤ 9223372036854775807 ∧ ∀ x, x ∈ xs → (Lit.int .i64 x.f0).wf = true ∧ (Lit.int .i64 x.f1).wf = true ∧ (Lit.int .i64 x.f2).wf = true) (hw : (Lit.int .i64 w).wf = true) :
    ∃ k, laws_FnExactAllowed.f k a b G u g m xs w = some true := by
  obtain ⟨t, ht, hs⟩ := szCred_ex2 a b G h.2.2.1
  apply Ev.rounds
  unfold laws_FnExactAllowed.f
  refine Ev.bind0 ht ?_
  by_cases hn : t < 0
  · exact Ev.pos hn (Ev.now _)
  · obtain ⟨t0, t1, hG⟩ := hs.resolve_left hn
    obtain ⟨v, hv, hz⟩ := szAclEntryS_ex xs hx.1 t t0 t1
    refine Ev.neg hn (Ev.bind0 hv ?_)
    by_cases hv0 : v < 0
    · exact Ev.pos hv0 (Ev.now _)
    · obtain ⟨z0, z1⟩ := hz.resolve_left hv0
      have hl : xs.length ≤ 1048576 := by omega
      have hlm : (xs.map aclTo).length ≤ 1048576 := by rw [List.length_map]; exact hl
      have c := toCred_f a b G hG
      have d := toAclEntryS_f xs hl
      obtain ⟨r, r1, r2⟩ := allowed_f a b G u g m w (xs.map aclTo) hG hlm
      exact Ev.neg hv0 (Ev.bind c (Ev.bind d (Ev.bind r1 (Ev.bind c (Ev.bind d (Ev.bind r2 (Ev.neg (by simp) (Ev.bind c (Ev.bind (eqCred_f a b G hG) (Ev.pos rfl (Ev.bind d (Ev.bind (eqAclEntryS_f _ hlm) (Ev.pos rfl (Ev.now _))))))))))))))

end Go.Proofs.Ytmnojegajblagab.Pure
