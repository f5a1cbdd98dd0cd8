/- The law FnExactFormatAcl holds for every input of its kind; no further condition. -/
import Derived.Test.YtmnojegajblagabDoorPFnExactFormatAclx8
import Derived.Test.YtmnojegajblagabDoorLibBase
import Derived.Test.YtmnojegajblagabDoorLibOpen
namespace Go.Proofs.YtmnojegajblagabDoor.Pure
open Go.RowKit Go.Proofs.YtmnojegajblagabDoor.PFnExactFormatAcl Go.Proofs.YtmnojegajblagabDoor.Lib Go.Proofs.YtmnojegajblagabDoorW.PrintWords Go.Proofs.YtmnojegajblagabDoorW.PrintLast Go.Proofs.YtmnojegajblagabDoorW.PrintMore
set_option linter.unusedVariables false
set_option linter.unusedSimpArgs false

def aclTo (x : S39) : S35 := ⟨x.f0, x.f1, x.f2⟩
theorem szAclEntryS_ex (l : List S39) (hl : l.length ≤ 9223372036854775807) (n : Int) (hn : 0 ≤ n) (hn' : n ≤ 1048576) : ∃ t, laws_szAclEntryS.f l n = some t ∧ (t < 0 ∨ ((l.length : Int) ≤ n ∧ t = n - (l.length : Int))) := by
  unfold laws_szAclEntryS.f
  rw [w64 (by omega) (by omega)]
  by_cases h : n - (l.length : Int) < 0
  · rw [if_pos h]
    exact ⟨-1, by simp, by omega⟩
  · rw [if_neg h]
    exact ⟨_, rfl, by omega⟩
theorem toAclEntryS_l (xs : List S39) (hx : xs.length ≤ 1048576) (l : List S39) : ∀ (i : Int) (ys : List S35), 0 ≤ i → xs.drop i.toNat = l → ys.length = xs.length → Ev (fun k => laws_toAclEntryS.l0 k xs ys i) (ys.take i.toNat ++ l.map aclTo) := by
  induction l with
  | nil =>
    intro i ys h0 h hy
    have := ldrop_nil h0 h
    rw [List.map_nil, List.append_nil, List.take_of_length_le (by omega)]
    exact Ev.step (fun _ => laws_toAclEntryS.l0.eq_2 ..) (Ev.neg (by omega) (Ev.now _))
  | cons x l ih =>
    intro i ys h0 h hy
    obtain ⟨a, b, c, e⟩ := ldrop_cons z39 h0 h
    refine Ev.step (fun _ => laws_toAclEntryS.l0.eq_2 ..) (Ev.pos a (Ev.pos h0 (Ev.bind0 rfl (Ev.pos (by omega) ?_))))
    have := ih (i + 1) (ys.set i.toNat (aclTo x)) (by omega) c (by rw [List.length_set]; exact hy)
    rw [set_take _ h0 (by omega), List.append_assoc] at this
    rw [w64 (by omega) (by omega), show rd_T39 xs i = x from b]
    exact this
theorem toAclEntryS_f (xs : List S39) (hx : xs.length ≤ 1048576) : Ev (fun k => laws_toAclEntryS.f k xs) (xs.map aclTo) := by
  unfold laws_toAclEntryS.f
  exact Ev.pos (by omega) (Ev.pos (by omega) (toAclEntryS_l xs hx xs 0 _ (by omega) rfl (by rw [List.length_replicate]; omega)))

theorem eqAclEntryS_l (d : Nat) : ∀ (i : Int) (l : List S35), 0 ≤ i → i + d = (l.length : Int) → l.length ≤ 1048576 → Ev (fun k => laws_eqAclEntryS.l0 k l l i) true := by
  induction d with
  | zero =>
    intro i l h0 hd hl
    exact Ev.step (fun _ => laws_eqAclEntryS.l0.eq_2 ..) (Ev.neg (by omega) (Ev.now _))
  | succ d ih =>
    intro i l h0 hd hl
    refine Ev.step (fun _ => laws_eqAclEntryS.l0.eq_2 ..) (Ev.pos (by omega) (Ev.pos h0 (Ev.pos (by omega) (Ev.bind0 (a := true) (by unfold laws_eqAclEntry.f; simp) (Ev.pos rfl ?_)))))
    rw [w64 (n := i + 1) (by omega) (by omega)]
    exact ih (i + 1) l (by omega) (by omega) hl
theorem eqAclEntryS_f (l : List S35) (hl : l.length ≤ 1048576) : Ev (fun k => laws_eqAclEntryS.f k l l) true := by
  unfold laws_eqAclEntryS.f
  exact Ev.pos rfl (eqAclEntryS_l l.length 0 l (by omega) (by omega) hl)

theorem l01In_spec (a b c : Int) : spec_l01In.f a b c = some (decide (b ≤ a ∧ a ≤ c)) := by
  unfold spec_l01In.f
  by_cases h : a ≥ b
  · rw [if_pos h]
    simp [show b ≤ a from h]
  · rw [if_neg h]
    simp [show ¬ b ≤ a from h]

theorem isUser_impl (a : Int) : impl_isUser.f a = some (decide (0 ≤ a ∧ a ≤ 3)) := by
  unfold impl_isUser.f
  by_cases h : a ≥ 0
  · rw [if_pos h]
    congr 1
    apply decide_eq_decide.2
    omega
  · rw [if_neg h]
    congr 1
    symm
    apply decide_eq_false
    omega

/-- One entry is well formed. -/
def entryM (x : S35) : Bool := decide (0 ≤ x.f2 ∧ x.f2 ≤ 7 ∧ ((x.f0 = 1 ∨ x.f0 = 2) ∧ 0 ≤ x.f1 ∧ x.f1 ≤ 3 ∨ x.f0 = 3 ∧ x.f1 = 0))
/-- Two neighbours rise. -/
def riseM (x y : S35) : Bool := decide (x.f0 < y.f0 ∨ x.f0 = y.f0 ∧ x.f1 < y.f1)
/-- The entries from one with a left neighbour on. -/
def aclFrom : Option S35 → List S35 → Bool
  | none, [] => true
  | some p, [] => decide (p.f0 = 3)
  | none, x :: l => entryM x && aclFrom (some x) l
  | some p, x :: l => entryM x && (riseM p x && aclFrom (some x) l)
def isAclM (l : List S35) : Bool := decide (l.length ≤ 6) && aclFrom none l
/-- What stands left of place i. -/
def leftOf (xs : List S35) (i : Int) : Option S35 := if i > 0 then some (rd_T35 xs (i - 1)) else none
theorem l05Entry_spec (a b c : Int) : Ev (fun k => spec_l05Entry.f k a b c) (entryM ⟨a, b, c⟩) := by
  unfold spec_l05Entry.f
  refine Ev.bind0 (l01In_spec c 0 7) ?_
  by_cases hc : 0 ≤ c ∧ c ≤ 7
  · refine Ev.pos (by simpa using hc) ?_
    by_cases h1 : a = 1
    · refine Ev.pos h1 (Ev.step (fun _ => spec_l05Entry.j0.eq_2 ..) (Ev.pos (by simpa using h1) (Ev.bind0 (l01In_spec b 0 3) ?_)))
      rw [show entryM ⟨a, b, c⟩ = decide (0 ≤ b ∧ b ≤ 3) by unfold entryM; apply decide_eq_decide.2; simp only; omega]
      exact Ev.now _
    · refine Ev.neg h1 (Ev.step (fun _ => spec_l05Entry.j0.eq_2 ..) ?_)
      by_cases h2 : a = 2
      · refine Ev.pos (by simpa using h2) (Ev.bind0 (l01In_spec b 0 3) ?_)
        rw [show entryM ⟨a, b, c⟩ = decide (0 ≤ b ∧ b ≤ 3) by unfold entryM; apply decide_eq_decide.2; simp only; omega]
        exact Ev.now _
      · refine Ev.neg (by simpa using h2) ?_
        by_cases h3 : a = 3
        · refine Ev.pos h3 ?_
          rw [show entryM ⟨a, b, c⟩ = (b == 0) by unfold entryM; rw [show (b == 0) = decide (b = 0) from rfl]; apply decide_eq_decide.2; simp only; omega]
          exact Ev.now _
        · refine Ev.neg h3 ?_
          rw [show entryM ⟨a, b, c⟩ = false by unfold entryM; apply decide_eq_false; simp only; omega]
          exact Ev.now _
  · refine Ev.neg (by simpa using hc) ?_
    rw [show entryM ⟨a, b, c⟩ = false by unfold entryM; apply decide_eq_false; simp only; omega]
    exact Ev.now _
theorem rd_last (xs : List S35) (i : Int) (h : (xs.length : Int) ≤ i) (h0 : 0 ≤ i) (hi : i ≤ (xs.length : Int)) : i = (xs.length : Int) := by omega
theorem isAcl_spec_l (xs : List S35) (hx : xs.length ≤ 1048576) (l : List S35) : ∀ (i : Int), 0 ≤ i → i ≤ (xs.length : Int) → xs.drop i.toNat = l →
    Ev (fun k => spec_IsAcl.l0 k xs xs (xs.length : Int) i) (aclFrom (leftOf xs i) l && decide (xs.length ≤ 6)) := by
  induction l with
  | nil =>
    intro i h0 hi h
    have h1 := ldrop_nil h0 h
    have hi' : i = (xs.length : Int) := by omega
    subst hi'
    refine Ev.step (fun _ => spec_IsAcl.l0.eq_2 ..) (Ev.neg (by omega) ?_)
    by_cases hz : (xs.length : Int) = 0
    · refine Ev.pos hz ?_
      rw [show leftOf xs (xs.length : Int) = none by unfold leftOf; rw [if_neg (by omega)], aclFrom, show decide (xs.length ≤ 6) = true by simp only [decide_eq_true_eq]; omega]
      exact Ev.now _
    · refine Ev.neg hz ?_
      rw [show leftOf xs (xs.length : Int) = some (rd_T35 xs ((xs.length : Int) - 1)) by unfold leftOf; rw [if_pos (by omega)], aclFrom, w64 (by omega) (by omega)]
      by_cases h6 : (xs.length : Int) ≤ 6
      · refine Ev.pos h6 (Ev.pos (by omega) (Ev.pos (by omega) ?_))
        rw [show decide (xs.length ≤ 6) = true by simp only [decide_eq_true_eq]; omega, Bool.and_true]
        exact Ev.now _
      · refine Ev.neg h6 ?_
        rw [show decide (xs.length ≤ 6) = false by simp only [decide_eq_false_iff_not]; omega, Bool.and_false]
        exact Ev.now _
  | cons x l ih =>
    intro i h0 hi h
    obtain ⟨p, q, c, e⟩ := ldrop_cons z35 h0 h
    have hx' : rd_T35 xs i = x := q
    have := ih (i + 1) (by omega) (by omega) c
    rw [show leftOf xs (i + 1) = some x by unfold leftOf; rw [if_pos (by omega), show i + 1 - 1 = i by omega, hx']] at this
    refine Ev.step (fun _ => spec_IsAcl.l0.eq_2 ..) (Ev.pos p (Ev.pos h0 (Ev.pos p ?_)))
    rw [hx']
    refine Ev.bind (l05Entry_spec x.f0 x.f1 x.f2) ?_
    rw [w64 (n := i + 1) (by omega) (by omega), w64 (n := i - 1) (by omega) (by omega)]
    by_cases c1 : entryM x = true
    · refine Ev.pos c1 ?_
      by_cases c2 : i > 0
      · refine Ev.pos c2 (Ev.pos (by omega) (Ev.pos (by omega) ?_))
        rw [show leftOf xs i = some (rd_T35 xs (i - 1)) by unfold leftOf; rw [if_pos c2], aclFrom, c1, Bool.true_and]
        generalize rd_T35 xs (i - 1) = y at *
        by_cases c3 : y.f0 > x.f0
        · rw [show riseM y x = false by unfold riseM; apply decide_eq_false; omega]
          exact Ev.pos c3 (Ev.now _)
        · refine Ev.neg c3 ?_
          by_cases c4 : y.f0 = x.f0
          · refine Ev.pos c4 ?_
            by_cases c5 : y.f1 ≥ x.f1
            · rw [show riseM y x = false by unfold riseM; apply decide_eq_false; omega]
              exact Ev.pos c5 (Ev.now _)
            · rw [show riseM y x = true by unfold riseM; apply decide_eq_true; omega, Bool.true_and]
              exact Ev.neg c5 this
          · rw [show riseM y x = true by unfold riseM; apply decide_eq_true; omega, Bool.true_and]
            exact Ev.neg c4 this
      · refine Ev.neg c2 ?_
        rw [show leftOf xs i = none by unfold leftOf; rw [if_neg c2], aclFrom, c1, Bool.true_and]
        exact this
    · refine Ev.neg c1 ?_
      have c1' : entryM x = false := by simpa using c1
      have : (aclFrom (leftOf xs i) (x :: l) && decide (xs.length ≤ 6)) = false := by
        cases leftOf xs i <;> simp [aclFrom, c1']
      rw [this]
      exact Ev.now _
theorem cmp_impl (a b : Int) : cmp_Compare_int.f a b = some (if a < b then -1 else if a > b then 1 else 0) := by
  unfold cmp_Compare_int.f cmp_isNaN_int.f
  simp only [bne_self_eq_false, Option.bind_some]
  rw [if_neg (by simp), if_neg (by simp)]
  repeat' split
  all_goals rfl
theorem cmpOr_impl (a b : Int) : Ev (fun k => cmp_Or_int.f k [a, b]) (if a = 0 then b else a) := by
  unfold cmp_Or_int.f
  refine Ev.step (fun _ => cmp_Or_int.l0.eq_2 ..) (Ev.pos (by simp) (Ev.pos (by decide) (Ev.pos (by simp) ?_)))
  rw [show rd [a, b] 0 = a from rfl, show wrap64 (0 + 1) = 1 by unfold wrap64; omega]
  by_cases ha : a = 0
  · refine Ev.pos ha (Ev.step (fun _ => cmp_Or_int.l0.eq_2 ..) (Ev.pos (by simp) (Ev.pos (by decide) (Ev.pos (by simp) ?_))))
    rw [show rd [a, b] 1 = b from rfl, show wrap64 (1 + 1) = 2 by unfold wrap64; omega, if_pos ha]
    by_cases hb : b = 0
    · refine Ev.pos hb (Ev.step (fun _ => cmp_Or_int.l0.eq_2 ..) (Ev.neg (by simp) ?_))
      rw [hb]
      exact Ev.now _
    · exact Ev.neg hb (Ev.now _)
  · rw [if_neg ha]
    exact Ev.neg ha (Ev.now _)
theorem isAcl_j3 {xs : List S35} (hx : xs.length ≤ 1048576) {i : Int} (h0 : 0 ≤ i) (hi : i < (xs.length : Int)) (a b c : Int) {r : Bool} {l : List S35} (he : entryM ⟨a, b, c⟩ = true) (hr : aclFrom (some ⟨a, b, c⟩) l = r) (h : Ev (fun k => impl_IsAcl.l0 k xs xs (xs.length : Int) (i + 1)) r) :
    Ev (fun k => impl_IsAcl.j3 k xs i xs (xs.length : Int) i a b c) (aclFrom (leftOf xs i) (⟨a, b, c⟩ :: l)) := by
  refine Ev.step (fun _ => impl_IsAcl.j3.eq_2 ..) ?_
  rw [w64 (n := i + 1) (by omega) (by omega), w64 (n := i - 1) (by omega) (by omega)]
  by_cases c2 : i > 0
  · rw [show leftOf xs i = some (rd_T35 xs (i - 1)) by unfold leftOf; rw [if_pos c2], aclFrom, he, Bool.true_and, hr]
    generalize rd_T35 xs (i - 1) = y at *
    refine Ev.pos c2 (Ev.pos (by omega) (Ev.pos (by omega) (Ev.bind0 (cmp_impl _ _) (Ev.bind0 (cmp_impl _ _) (Ev.bind (cmpOr_impl _ _) ?_)))))
    by_cases hc : y.f0 < a ∨ y.f0 = a ∧ y.f1 < b
    · rw [show riseM y ⟨a, b, c⟩ = true by unfold riseM; exact decide_eq_true hc, Bool.true_and]
      refine Ev.neg ?_ h
      repeat' split
      all_goals omega
    · rw [show riseM y ⟨a, b, c⟩ = false by unfold riseM; exact decide_eq_false hc, Bool.false_and]
      refine Ev.pos ?_ (Ev.now _)
      repeat' split
      all_goals omega
  · rw [show leftOf xs i = none by unfold leftOf; rw [if_neg c2], aclFrom, he, Bool.true_and, hr]
    exact Ev.neg c2 h
theorem isAcl_impl_l (xs : List S35) (hx : xs.length ≤ 1048576) (l : List S35) : ∀ (i : Int), 0 ≤ i → i ≤ (xs.length : Int) → xs.drop i.toNat = l →
    Ev (fun k => impl_IsAcl.l0 k xs xs (xs.length : Int) i) (aclFrom (leftOf xs i) l) := by
  induction l with
  | nil =>
    intro i h0 hi h
    have h1 := ldrop_nil h0 h
    have hi' : i = (xs.length : Int) := by omega
    subst hi'
    refine Ev.step (fun _ => impl_IsAcl.l0.eq_2 ..) (Ev.neg (by omega) ?_)
    by_cases hz : (xs.length : Int) = 0
    · refine Ev.pos hz ?_
      rw [show leftOf xs (xs.length : Int) = none by unfold leftOf; rw [if_neg (by omega)], aclFrom]
      exact Ev.now _
    · refine Ev.neg hz ?_
      rw [show leftOf xs (xs.length : Int) = some (rd_T35 xs ((xs.length : Int) - 1)) by unfold leftOf; rw [if_pos (by omega)], aclFrom, w64 (by omega) (by omega)]
      exact Ev.pos (by omega) (Ev.pos (by omega) (Ev.now _))
  | cons x l ih =>
    intro i h0 hi h
    obtain ⟨p, q, c, e⟩ := ldrop_cons z35 h0 h
    have hx' : rd_T35 xs i = x := q
    have := ih (i + 1) (by omega) (by omega) c
    rw [show leftOf xs (i + 1) = some x by unfold leftOf; rw [if_pos (by omega), show i + 1 - 1 = i by omega, hx']] at this
    have bad : entryM x = false → aclFrom (leftOf xs i) (x :: l) = false := by
      intro c1'
      cases leftOf xs i <;> simp [aclFrom, c1']
    refine Ev.step (fun _ => impl_IsAcl.l0.eq_2 ..) (Ev.pos p (Ev.pos h0 (Ev.pos p ?_)))
    rw [hx']
    obtain ⟨a, b, d⟩ := x
    simp only
    have j1no : Ev (fun k => impl_IsAcl.j1 k xs i xs (xs.length : Int) i true a b d) false := Ev.step (fun _ => impl_IsAcl.j1.eq_2 ..) (Ev.pos rfl (Ev.now _))
    by_cases d1 : d < 0
    · rw [bad (by unfold entryM; apply decide_eq_false; simp only; omega)]
      exact Ev.pos d1 j1no
    · refine Ev.neg d1 ?_
      by_cases d2 : d > 7
      · rw [bad (by unfold entryM; apply decide_eq_false; simp only; omega), show decide (d > 7) = true by simpa using d2]
        exact j1no
      · rw [show decide (d > 7) = false by simpa using d2]
        refine Ev.step (fun _ => impl_IsAcl.j1.eq_2 ..) (Ev.neg (by simp) ?_)
        have j2 : ∀ t : Bool, t = decide (a = 1 ∨ a = 2) → Ev (fun k => impl_IsAcl.j2 k xs i xs (xs.length : Int) i a t a b d) (aclFrom (leftOf xs i) (⟨a, b, d⟩ :: l)) := by
          intro t ht
          refine Ev.step (fun _ => impl_IsAcl.j2.eq_2 ..) ?_
          by_cases h12 : a = 1 ∨ a = 2
          · refine Ev.pos (by rw [ht]; exact decide_eq_true h12) (Ev.bind0 (isUser_impl b) ?_)
            by_cases hb : 0 ≤ b ∧ b ≤ 3
            · exact Ev.pos (by simpa using hb) (isAcl_j3 hx h0 p a b d (by unfold entryM; apply decide_eq_true; simp only; omega) rfl this)
            · rw [bad (by unfold entryM; apply decide_eq_false; simp only; omega)]
              exact Ev.neg (by simpa using hb) (Ev.now _)
          · refine Ev.neg (by rw [ht]; simpa using h12) ?_
            by_cases h3 : a = 3
            · refine Ev.pos h3 ?_
              by_cases hb : b = 0
              · exact Ev.pos hb (isAcl_j3 hx h0 p a b d (by unfold entryM; apply decide_eq_true; simp only; omega) rfl this)
              · rw [bad (by unfold entryM; apply decide_eq_false; simp only; omega)]
                exact Ev.neg hb (Ev.now _)
            · rw [bad (by unfold entryM; apply decide_eq_false; simp only; omega)]
              exact Ev.neg h3 (Ev.now _)
        by_cases h1 : a = 1
        · exact Ev.pos h1 (j2 _ (by simp [h1]))
        · exact Ev.neg h1 (j2 _ (by simp [h1]; rfl))
theorem isAcl_spec (xs : List S35) (hx : xs.length ≤ 1048576) : Ev (fun k => spec_IsAcl.f k xs) (isAclM xs) := by
  have := isAcl_spec_l xs hx xs 0 (by omega) (by omega) rfl
  unfold isAclM
  rw [Bool.and_comm]
  exact this
theorem isAcl_impl (xs : List S35) (hx : xs.length ≤ 1048576) : Ev (fun k => impl_IsAcl.f k xs) (isAclM xs) := by
  unfold impl_IsAcl.f isAclM
  by_cases h : (xs.length : Int) > 6
  · rw [show decide (xs.length ≤ 6) = false by simp only [decide_eq_false_iff_not]; omega, Bool.false_and]
    exact Ev.pos h (Ev.now _)
  · rw [show decide (xs.length ≤ 6) = true by simp only [decide_eq_true_eq]; omega, Bool.true_and]
    exact Ev.neg h (isAcl_impl_l xs hx xs 0 (by omega) (by omega) rfl)

/-- A number's decimal digits. -/
def decS (u : Nat) : ByteArray := ⟨(Go.Lib.decDigits u).toArray⟩
theorem dec_len (u : Nat) : (Go.Lib.decDigits u).length ≤ u + 1 := by
  induction u using Nat.strongRecOn with
  | _ u ih =>
    rw [Go.Lib.decDigits]
    by_cases h : u < 10
    · rw [dif_pos h, List.length_singleton]
      omega
    · rw [dif_neg h, List.length_append, List.length_singleton]
      have := ih (u / 10) (by omega)
      omega
theorem decS_size (u : Nat) : (decS u).size ≤ u + 1 := dec_len u
theorem decS_small {u : Nat} (h : u < 10) : decS u = strOfNums [(48 + (u : Int)) % 256] := by
  apply ba_ext
  rw [strOfNums_data]
  show Go.Lib.decDigits u = _
  rw [Go.Lib.decDigits, dif_pos h, List.map_singleton, show ((48 + (u : Int)) % 256).toNat = 48 + u by omega]
theorem decS_big {u : Nat} (h : ¬ u < 10) : decS u = decS (u / 10) ++ strOfNums [(48 + ((u % 10 : Nat) : Int)) % 256] := by
  apply ba_ext
  rw [ByteArray.data_append, Array.toList_append, strOfNums_data]
  show Go.Lib.decDigits u = Go.Lib.decDigits (u / 10) ++ _
  rw [Go.Lib.decDigits, dif_neg h, List.map_singleton, show ((48 + ((u % 10 : Nat) : Int)) % 256).toNat = 48 + u % 10 by omega]
theorem ba_assoc (a b c : ByteArray) : (a ++ b) ++ c = a ++ (b ++ c) := by
  apply bytesOf_inj
  rw [bytesOf_append, bytesOf_append, bytesOf_append, bytesOf_append, List.append_assoc]
/-- A number's text. -/
def itoaS (n : Int) : ByteArray := ⟨(Go.Lib.itoa n).toArray⟩

theorem formatInt_l (u : Nat) : ∀ s : ByteArray, s.size + u ≤ 9223372036854775807 → (u = 0 → s.size = 0) → Ev (fun k => spec_FormatInt.l0 k (u : Int) s) (decS u ++ s) := by
  induction u using Nat.strongRecOn with
  | _ u ih =>
    intro s hs hz
    refine Ev.step (fun _ => spec_FormatInt.l0.eq_2 ..) ?_
    by_cases h : u < 10
    · refine Ev.neg (by omega) (Ev.bind0 rfl (Ev.pos ?_ ?_))
      · rw [strOfNums_size, List.length_singleton]
        omega
      · rw [w64 (n := 48 + (u : Int)) (by omega) (by omega), ← decS_small h]
        exact Ev.now _
    · refine Ev.pos (by omega) (Ev.bind0 rfl (Ev.pos ?_ ?_))
      · rw [strOfNums_size, List.length_singleton]
        omega
      · have e1 : Int.tdiv (u : Int) 10 = ((u / 10 : Nat) : Int) := by
          rw [Int.tdiv_eq_ediv_of_nonneg (by omega)]
          omega
        have e2 : Int.tmod (u : Int) 10 = ((u % 10 : Nat) : Int) := by
          rw [Int.tmod_eq_emod_of_nonneg (by omega)]
          omega
        rw [e1, e2, w64 (n := ((u / 10 : Nat) : Int)) (by omega) (by omega), w64 (n := 48 + ((u % 10 : Nat) : Int)) (by omega) (by omega), decS_big h, ba_assoc]
        refine ih (u / 10) (by omega) _ ?_ (by omega)
        rw [ByteArray.size_append, strOfNums_size, List.length_singleton]
        omega
theorem formatInt_neg (u : Nat) : 1 ≤ u → u ≤ 9223372036854775808 → Ev (fun k => spec_FormatInt.f k (-(u : Int))) ((⟨#[45]⟩ : ByteArray) ++ decS u) := by
  induction u using Nat.strongRecOn with
  | _ u ih =>
    intro h1 h2
    have e1 : Int.tdiv (-(u : Int)) 10 = -((u / 10 : Nat) : Int) := by
      rw [Int.neg_tdiv, Int.tdiv_eq_ediv_of_nonneg (by omega)]
      omega
    have e2 : Int.tmod (-(u : Int)) 10 = -((u % 10 : Nat) : Int) := by
      rw [Int.neg_tmod, Int.tmod_eq_emod_of_nonneg (by omega)]
      omega
    refine Ev.step (fun _ => spec_FormatInt.f.eq_2 ..) (Ev.pos (by omega) ?_)
    rw [e1, e2, w64 (n := -((u / 10 : Nat) : Int)) (by omega) (by omega)]
    by_cases h : u < 10
    · refine Ev.pos (by omega) (Ev.bind0 rfl (Ev.pos ?_ ?_))
      · rw [strOfNums_size, List.length_singleton]
        omega
      · rw [w64 (n := 48 - -(u : Int)) (by omega) (by omega), show 48 - -(u : Int) = 48 + (u : Int) by omega, ← decS_small h]
        exact Ev.now _
    · refine Ev.neg (by omega) (Ev.bind (ih (u / 10) (by omega) (by omega) (by omega)) (Ev.bind0 rfl (Ev.pos ?_ ?_)))
      · have := decS_size (u / 10)
        rw [strOfNums_size, List.length_singleton, ByteArray.size_append, show (⟨#[45]⟩ : ByteArray).size = 1 from rfl]
        omega
      · rw [w64 (n := 48 - -((u % 10 : Nat) : Int)) (by omega) (by omega), show 48 - -((u % 10 : Nat) : Int) = 48 + ((u % 10 : Nat) : Int) by omega, ba_assoc, ← decS_big h]
        exact Ev.now _
theorem formatInt_spec (n : Int) (h0 : -9223372036854775808 ≤ n) (h1 : n ≤ 9223372036854775807) : Ev (fun k => spec_FormatInt.f k n) (itoaS n) := by
  by_cases h : n < 0
  · obtain ⟨u, rfl⟩ : ∃ u : Nat, n = -(u : Int) := ⟨n.natAbs, by omega⟩
    have e : itoaS (-(u : Int)) = (⟨#[45]⟩ : ByteArray) ++ decS u := by
      apply ba_ext
      rw [ByteArray.data_append, Array.toList_append]
      show Go.Lib.itoa (-(u : Int)) = [45] ++ Go.Lib.decDigits u
      unfold Go.Lib.itoa
      rw [if_pos h, Int.natAbs_neg, Int.natAbs_natCast]
      rfl
    rw [e]
    exact formatInt_neg u (by omega) (by omega)
  · obtain ⟨u, rfl⟩ : ∃ u : Nat, n = (u : Int) := ⟨n.toNat, by omega⟩
    have e : itoaS (u : Int) = decS u ++ (⟨#[]⟩ : ByteArray) := by
      apply ba_ext
      rw [ByteArray.data_append, Array.toList_append]
      show Go.Lib.itoa (u : Int) = Go.Lib.decDigits u ++ []
      unfold Go.Lib.itoa
      rw [if_neg h, Int.toNat_natCast, List.append_nil]
    rw [e]
    exact Ev.step (fun _ => spec_FormatInt.f.eq_2 ..) (Ev.neg h (formatInt_l u _ (by show 0 + u ≤ _; omega) (fun _ => rfl)))

theorem formatInt_impl (n : Int) (h0 : -9223372036854775808 ≤ n) (h1 : n ≤ 9223372036854775807) : impl_FormatInt.f n = some (itoaS n) := by
  unfold impl_FormatInt.f strconv_Itoa.f
  rw [if_pos ⟨h0, h1⟩]
  rfl

theorem digit_toNat {d : Nat} (h : d < 10) : (UInt8.ofNat (48 + d)).toNat = 48 + d := by
  rw [UInt8.toNat_ofNat']
  omega
theorem parse_dec (u : Nat) : ∀ r : List UInt8, u < 18446744073709551616 → Go.Lib.parseUint10 0 (Go.Lib.decDigits u ++ r) = Go.Lib.parseUint10 u r := by
  induction u using Nat.strongRecOn with
  | _ u ih =>
    intro r hu
    rw [Go.Lib.decDigits]
    by_cases h : u < 10
    · rw [dif_pos h, List.singleton_append, Go.Lib.parseUint10, digit_toNat h, if_pos (by omega), if_neg (by decide), if_neg (by omega), show 0 * 10 + (48 + u - 48) = u by omega]
    · have hd : u % 10 < 10 := by omega
      rw [dif_neg h, List.append_assoc, ih (u / 10) (by omega) _ (by omega), List.singleton_append, Go.Lib.parseUint10, digit_toNat hd, if_pos (by omega), if_neg (by omega), if_neg (by omega), show u / 10 * 10 + (48 + u % 10 - 48) = u by omega]
theorem dec_head (u : Nat) : ∃ c r, Go.Lib.decDigits u = c :: r ∧ 48 ≤ c.toNat ∧ c.toNat ≤ 57 := by
  induction u using Nat.strongRecOn with
  | _ u ih =>
    by_cases h : u < 10
    · refine ⟨UInt8.ofNat (48 + u), [], ?_, ?_, ?_⟩
      · rw [Go.Lib.decDigits, dif_pos h]
      · rw [digit_toNat h]
        omega
      · rw [digit_toNat h]
        omega
    · obtain ⟨c, r, e, h1, h2⟩ := ih (u / 10) (by omega)
      exact ⟨c, r ++ [UInt8.ofNat (48 + u % 10)], by rw [Go.Lib.decDigits, dif_neg h, e, List.cons_append], h1, h2⟩
theorem parseMag_dec {u : Nat} (hu : u < 18446744073709551616) : Go.Lib.parseMag (Go.Lib.decDigits u) = .ok u := by
  obtain ⟨c, r, e, _, _⟩ := dec_head u
  have h := parse_dec u [] hu
  rw [List.append_nil] at h
  unfold Go.Lib.parseMag
  rw [if_neg (by rw [e]; simp), h]
  rfl
theorem atoi_itoa (n : Int) (h0 : -9223372036854775808 ≤ n) (h1 : n ≤ 9223372036854775807) : Go.Lib.atoiAll (Go.Lib.itoa n) = .ok n := by
  unfold Go.Lib.itoa
  by_cases h : n < 0
  · rw [if_pos h, Go.Lib.atoiAll_minus, parseMag_dec (by omega)]
    show (if 9223372036854775808 < n.natAbs then _ else _) = _
    rw [if_neg (by omega), show -(n.natAbs : Int) = n by omega]
  · rw [if_neg h]
    obtain ⟨c, r, e, c1, c2⟩ := dec_head n.toNat
    rw [e, Go.Lib.atoiAll_plain c r (by omega) (by omega), ← e, parseMag_dec (by omega)]
    show (if 9223372036854775808 ≤ n.toNat then _ else _) = _
    rw [if_neg (by omega), show (n.toNat : Int) = n by omega]
theorem dec_len_k (k : Nat) : ∀ u : Nat, u < 10 ^ (k + 1) → (Go.Lib.decDigits u).length ≤ k + 1 := by
  induction k with
  | zero =>
    intro u hu
    rw [Go.Lib.decDigits, dif_pos (by omega), List.length_singleton]
    omega
  | succ k ih =>
    intro u hu
    rw [Go.Lib.decDigits]
    by_cases h : u < 10
    · rw [dif_pos h, List.length_singleton]
      omega
    · have h2 : 10 ^ (k + 1 + 1) = 10 ^ (k + 1) * 10 := Nat.pow_succ ..
      have := ih (u / 10) (by omega)
      rw [dif_neg h, List.length_append, List.length_singleton]
      omega
theorem itoaS_size (n : Int) (h0 : -9223372036854775808 ≤ n) (h1 : n ≤ 9223372036854775807) : (itoaS n).size ≤ 20 := by
  show (Go.Lib.itoa n).length ≤ 20
  unfold Go.Lib.itoa
  by_cases h : n < 0
  · rw [if_pos h, List.length_cons]
    have := dec_len_k 18 n.natAbs (by omega)
    omega
  · rw [if_neg h]
    have := dec_len_k 18 n.toNat (by omega)
    omega

theorem join_spec_l (xs : List ByteArray) (sep : ByteArray) (hx : xs.length ≤ 1048576) (hp : sep.size ≤ 1048576) (hs : ∀ x, x ∈ xs → x.size ≤ 1048576) (l : List ByteArray) : ∀ (i : Int) (s : ByteArray), 1 ≤ i → i ≤ (xs.length : Int) → xs.drop i.toNat = l → (s.size : Int) ≤ i * 2097152 →
    ∃ r, Ev (fun k => spec_Join.l0 k sep s xs (xs.length : Int) i) r ∧ r.data.toList = s.data.toList ++ Go.Lib.joinTail sep.data.toList (l.map (·.data.toList)) ∧ (r.size : Int) ≤ (xs.length : Int) * 2097152 := by
  induction l with
  | nil =>
    intro i s h1 hi h hz
    have := ldrop_nil (by omega) h
    refine ⟨s, Ev.step (fun _ => spec_Join.l0.eq_2 ..) (Ev.neg (by omega) (Ev.now _)), ?_, by omega⟩
    rw [List.map_nil, show Go.Lib.joinTail sep.data.toList [] = [] from rfl, List.append_nil]
  | cons x l ih =>
    intro i s h1 hi h hz
    obtain ⟨a, b, c, e⟩ := ldrop_cons ByteArray.empty (by omega) h
    have hxs := hs x (by
      have : x ∈ xs.drop i.toNat := by rw [h]; exact List.mem_cons_self ..
      exact List.mem_of_mem_drop this)
    have z1 := ba_size_append s sep
    have z2 := ba_size_append (s ++ sep) x
    obtain ⟨r, p1, p2, p3⟩ := ih (i + 1) (s ++ sep ++ x) (by omega) (by omega) c (by omega)
    refine ⟨r, Ev.step (fun _ => spec_Join.l0.eq_2 ..) (Ev.pos a (Ev.pos (by omega) (Ev.pos a (Ev.pos (by omega) (Ev.pos (by omega) ?_))))), ?_, p3⟩
    · rw [b, w64 (n := i + 1) (by omega) (by omega)]
      exact Ev.pos (by omega) p1
    · rw [p2, ByteArray.data_append, Array.toList_append, ByteArray.data_append, Array.toList_append, List.map_cons, show ∀ r, Go.Lib.joinTail sep.data.toList (x.data.toList :: r) = (sep.data.toList ++ x.data.toList) ++ Go.Lib.joinTail sep.data.toList r from fun _ => rfl, List.append_assoc, List.append_assoc, List.append_assoc]
theorem join_both (xs : List ByteArray) (sep : ByteArray) (hx : xs.length ≤ 1048576) (hp : sep.size ≤ 1048576) (hs : ∀ x, x ∈ xs → x.size ≤ 1048576) : ∃ r, Ev (fun k => spec_Join.f k xs sep) r ∧ impl_Join.f xs sep = some r := by
  unfold spec_Join.f impl_Join.f strings_Join.f
  cases xs with
  | nil =>
    refine ⟨⟨#[]⟩, Ev.step (fun _ => spec_Join.l0.eq_2 ..) (Ev.neg (by decide) (Ev.now _)), ?_⟩
    rw [if_pos ⟨Nat.zero_le _, Nat.zero_le _⟩]
    rfl
  | cons x l =>
    have e0 : (⟨#[]⟩ : ByteArray) ++ x = x := by
      apply ba_ext
      rw [ByteArray.data_append, Array.toList_append]
      rfl
    have h0 := hs x (List.mem_cons_self ..)
    have hb : (⟨#[]⟩ : ByteArray).size = 0 := rfl
    rw [List.length_cons] at hx
    obtain ⟨r, p1, p2, p3⟩ := join_spec_l (x :: l) sep (by rw [List.length_cons]; exact hx) hp hs l 1 x (by omega) (by rw [List.length_cons]; omega) rfl (by omega)
    have hr : Go.Lib.join ((x :: l).map (·.data.toList)) sep.data.toList = r.data.toList := by
      rw [List.map_cons, Go.Lib.join_cons, p2]
    have hz : r.data.toList.length = r.size := by rw [Array.length_toList]; rfl
    rw [List.length_cons] at p3
    refine ⟨r, Ev.step (fun _ => spec_Join.l0.eq_2 ..) (Ev.pos (by rw [List.length_cons]; omega) (Ev.pos (by omega) (Ev.pos (by rw [List.length_cons]; omega) (Ev.neg (by omega) ?_)))), ?_⟩
    · rw [show rdOf ByteArray.empty (x :: l) 0 = x from rfl, e0, hb, w64 (n := 0 + 1) (by omega) (by omega)]
      exact Ev.pos (by omega) p1
    · rw [hr, if_pos ⟨by rw [List.length_cons]; omega, by rw [hz]; omega⟩, Option.bind_some]

theorem aclFrom_all (l : List S35) : ∀ o, aclFrom o l = true → ∀ x ∈ l, entryM x = true := by
  induction l with
  | nil =>
    intro o _ x hx
    cases hx
  | cons y l ih =>
    intro o h x hx
    have h' : entryM y = true ∧ aclFrom (some y) l = true := by
      cases o <;> simp [aclFrom] at h <;> simp [h]
    rcases List.mem_cons.1 hx with rfl | hx
    · exact h'.1
    · exact ih _ h'.2 x hx
def letS (n : Int) : ByteArray := (⟨#[63, 117, 103, 109]⟩ : ByteArray).extract n.toNat (n + 1).toNat
theorem letS_impl {n : Int} (h : n = 1 ∨ n = 2 ∨ n = 3) : (⟨#[117, 103, 109]⟩ : ByteArray).extract (n - 1).toNat n.toNat = letS n := by
  rcases h with rfl | rfl | rfl <;> rfl
theorem letS_size {n : Int} (h : n = 1 ∨ n = 2 ∨ n = 3) : (letS n).size = 1 := by
  rcases h with rfl | rfl | rfl <;> rfl
def entS (x : S35) : ByteArray := ((letS x.f0 ++ itoaS x.f1) ++ (⟨#[58]⟩ : ByteArray)) ++ itoaS x.f2
theorem entry_facts {x : S35} (h : entryM x = true) : (x.f0 = 1 ∨ x.f0 = 2 ∨ x.f0 = 3) ∧ 0 ≤ x.f1 ∧ x.f1 ≤ 3 ∧ 0 ≤ x.f2 ∧ x.f2 ≤ 7 := by
  have := of_decide_eq_true h
  omega
theorem formatAcl_l (xs : List S35) (hx : xs.length ≤ 6) (hp : 0 < xs.length) (he : ∀ x ∈ xs, entryM x = true) (l : List S35) : ∀ (i : Int) (ys : List ByteArray), 0 ≤ i → i ≤ (xs.length : Int) → xs.drop i.toNat = l → (ys.length : Int) = i → (∀ y ∈ ys, y.size ≤ 1048576) →
    ∃ r, Ev (fun k => spec_FormatAcl.l0 k ys xs (xs.length : Int) i) r ∧ Ev (fun k => impl_FormatAcl.l0 k ys xs (xs.length : Int) i) r := by
  induction l with
  | nil =>
    intro i ys h0 hi h hl hs
    have := ldrop_nil h0 h
    obtain ⟨r, p1, p2⟩ := join_both ys (⟨#[44]⟩ : ByteArray) (by omega) (by decide) hs
    exact ⟨r, Ev.step (fun _ => spec_FormatAcl.l0.eq_2 ..) (Ev.neg (by omega) (Ev.neg (by omega) (Ev.bind p1 (Ev.now _)))), Ev.step (fun _ => impl_FormatAcl.l0.eq_2 ..) (Ev.neg (by omega) (Ev.bind0 p2 (Ev.now _)))⟩
  | cons x l ih =>
    intro i ys h0 hi h hl hs
    obtain ⟨a, b, c, e⟩ := ldrop_cons z35 h0 h
    have hr : rd_T35 xs i = x := b
    obtain ⟨e1, e2, e3, e4, e5⟩ := entry_facts (he x (by
      have : x ∈ xs.drop i.toNat := by rw [h]; exact List.mem_cons_self ..
      exact List.mem_of_mem_drop this))
    have z0 := letS_size e1
    have z1 := itoaS_size x.f1 (by omega) (by omega)
    have z2 := itoaS_size x.f2 (by omega) (by omega)
    have a1 := ba_size_append (letS x.f0) (itoaS x.f1)
    have a2 := ba_size_append (letS x.f0 ++ itoaS x.f1) (⟨#[58]⟩ : ByteArray)
    have a3 := ba_size_append ((letS x.f0 ++ itoaS x.f1) ++ (⟨#[58]⟩ : ByteArray)) (itoaS x.f2)
    have a4 : (⟨#[58]⟩ : ByteArray).size = 1 := rfl
    obtain ⟨r, p1, p2⟩ := ih (i + 1) (ys ++ [entS x]) (by omega) (by omega) c (by rw [List.length_append, List.length_singleton]; omega) (by
      intro y hy
      rcases List.mem_append.1 hy with hy | hy
      · exact hs y hy
      · rw [List.mem_singleton.1 hy]
        unfold entS
        omega)
    refine ⟨r, Ev.step (fun _ => spec_FormatAcl.l0.eq_2 ..) (Ev.pos a (Ev.pos h0 (Ev.pos a ?_))), Ev.step (fun _ => impl_FormatAcl.l0.eq_2 ..) (Ev.pos a (Ev.pos h0 (Ev.pos a ?_)))⟩
    · rw [hr, w64 (n := i + 1) (by omega) (by omega), w64 (n := x.f0 + 1) (by omega) (by omega)]
      refine Ev.pos (by omega) (Ev.pos (by omega) (Ev.pos (by omega) (Ev.bind (formatInt_spec x.f1 (by omega) (by omega)) ?_)))
      refine Ev.pos (show (letS x.f0).size + (itoaS x.f1).size ≤ _ by omega) (Ev.pos (show (letS x.f0 ++ itoaS x.f1).size + 1 ≤ _ by omega) (Ev.bind (formatInt_spec x.f2 (by omega) (by omega)) ?_))
      exact Ev.pos (show ((letS x.f0 ++ itoaS x.f1) ++ (⟨#[58]⟩ : ByteArray)).size + (itoaS x.f2).size ≤ _ by omega) (Ev.pos (by omega) p1)
    · rw [hr, w64 (n := i + 1) (by omega) (by omega), w64 (n := x.f0 - 1) (by omega) (by omega), letS_impl e1]
      refine Ev.pos (by omega) (Ev.pos (by omega) (Ev.pos (by omega) (Ev.bind0 (formatInt_impl x.f1 (by omega) (by omega)) ?_)))
      refine Ev.pos (show (letS x.f0).size + (itoaS x.f1).size ≤ _ by omega) (Ev.pos (show (letS x.f0 ++ itoaS x.f1).size + 1 ≤ _ by omega) (Ev.bind0 (formatInt_impl x.f2 (by omega) (by omega)) ?_))
      exact Ev.pos (show ((letS x.f0 ++ itoaS x.f1) ++ (⟨#[58]⟩ : ByteArray)).size + (itoaS x.f2).size ≤ _ by omega) (Ev.pos (by omega) p2)
theorem formatAcl_both (xs : List S35) (hx : xs.length ≤ 1048576) : ∃ r, Ev (fun k => spec_FormatAcl.f k xs) r ∧ Ev (fun k => impl_FormatAcl.f k xs) r := by
  unfold spec_FormatAcl.f impl_FormatAcl.f
  have h1 := isAcl_spec xs hx
  have h2 := isAcl_impl xs hx
  cases ho : isAclM xs with
  | false =>
    rw [ho] at h1 h2
    exact ⟨_, Ev.bind h1 (Ev.neg (by decide) (Ev.now _)), Ev.bind h2 (Ev.neg (by decide) (Ev.now _))⟩
  | true =>
    rw [ho] at h1 h2
    unfold isAclM at ho
    rw [Bool.and_eq_true] at ho
    have h6 := of_decide_eq_true ho.1
    by_cases hz : (xs.length : Int) = 0
    · have hn : xs = [] := List.eq_nil_of_length_eq_zero (by omega)
      subst hn
      exact ⟨⟨#[45]⟩, Ev.bind h1 (Ev.pos rfl (Ev.step (fun _ => spec_FormatAcl.l0.eq_2 ..) (Ev.neg (by decide) (Ev.pos rfl (Ev.now _))))), Ev.bind h2 (Ev.pos rfl (Ev.pos hz (Ev.now _)))⟩
    · obtain ⟨r, p1, p2⟩ := formatAcl_l xs h6 (by omega) (aclFrom_all xs none ho.2) xs 0 [] (by omega) (by omega) rfl rfl (by simp)
      exact ⟨r, Ev.bind h1 (Ev.pos rfl p1), Ev.bind h2 (Ev.pos rfl (Ev.neg hz p2))⟩

theorem FnExactFormatAcl (l : List S39) (h : l.length ≤ 9223372036854775807 ∧ ∀ x, x ∈ l → (Lit.int .i64 x.f0).wf = true ∧ (Lit.int .i64 x.f1).wf = true ∧ (Lit.int .i64 x.f2).wf = true) : ∃ k, laws_FnExactFormatAcl.f k l = some true := by
  obtain ⟨t, ht, hs⟩ := szAclEntryS_ex l h.1 1048576 (by omega) (by omega)
  apply Ev.rounds
  unfold laws_FnExactFormatAcl.f
  refine Ev.bind0 ht ?_
  by_cases hn : t < 0
  · exact Ev.pos hn (Ev.now _)
  · have hl : l.length ≤ 1048576 := by omega
    have hm : (l.map aclTo).length ≤ 1048576 := by rw [List.length_map]; exact hl
    have c := toAclEntryS_f l hl
    obtain ⟨r, h1, h2⟩ := formatAcl_both (l.map aclTo) hm
    exact Ev.neg hn (Ev.bind c (Ev.bind h1 (Ev.bind c (Ev.bind h2 (Ev.pos rfl (Ev.bind c (Ev.bind (eqAclEntryS_f _ hm) (Ev.pos rfl (Ev.now _)))))))))

end Go.Proofs.YtmnojegajblagabDoor.Pure
