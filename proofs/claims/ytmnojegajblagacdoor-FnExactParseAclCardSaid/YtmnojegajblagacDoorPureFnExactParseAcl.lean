/- The law FnExactParseAcl holds for every input of its kind; no further condition. -/
import Derived.Test.YtmnojegajblagacDoorPFnExactParseAclx12
import Derived.Test.YtmnojegajblagacDoorLibBase
namespace Go.Proofs.YtmnojegajblagacDoor.Pure
open Go.RowKit Go.Proofs.YtmnojegajblagacDoor.PFnExactParseAcl Go.Proofs.YtmnojegajblagacDoor.Lib Go.Proofs.YtmnojegajblagacDoorW.PrintWords Go.Proofs.YtmnojegajblagacDoorW.PrintLast Go.Proofs.YtmnojegajblagacDoorW.PrintMore
set_option linter.unusedVariables false
set_option linter.unusedSimpArgs false

theorem l01In_spec (a b c : Int) : spec_l01In.f a b c = some (decide (b ≤ a ∧ a ≤ c)) := by
  unfold spec_l01In.f
  by_cases h : a ≥ b
  · rw [if_pos h]
    simp [show b ≤ a from h]
  · rw [if_neg h]
    simp [show ¬ b ≤ a from h]

theorem isUser_impl (a : Int) : impl_isUser.f a = some (decide (0 ≤ a ∧ a ≤ 3)) := by
  unfold impl_isUser.f
  by_cases h : a ≥ 0
  · rw [if_pos h]
    congr 1
    apply decide_eq_decide.2
    omega
  · rw [if_neg h]
    congr 1
    symm
    apply decide_eq_false
    omega

/-- One entry is well formed. -/
def entryM (x : S33) : Bool := decide (0 ≤ x.f2 ∧ x.f2 ≤ 7 ∧ ((x.f0 = 1 ∨ x.f0 = 2) ∧ 0 ≤ x.f1 ∧ x.f1 ≤ 3 ∨ x.f0 = 3 ∧ x.f1 = 0))
/-- Two neighbours rise. -/
def riseM (x y : S33) : Bool := decide (x.f0 < y.f0 ∨ x.f0 = y.f0 ∧ x.f1 < y.f1)
/-- The entries from one with a left neighbour on. -/
def aclFrom : Option S33 → List S33 → Bool
  | none, [] => true
  | some p, [] => decide (p.f0 = 3)
  | none, x :: l => entryM x && aclFrom (some x) l
  | some p, x :: l => entryM x && (riseM p x && aclFrom (some x) l)
def isAclM (l : List S33) : Bool := decide (l.length ≤ 6) && aclFrom none l
/-- What stands left of place i. -/
def leftOf (xs : List S33) (i : Int) : Option S33 := if i > 0 then some (rd_T33 xs (i - 1)) else none
theorem l05Entry_spec (a b c : Int) : Ev (fun k => spec_l05Entry.f k a b c) (entryM ⟨a, b, c⟩) := by
  unfold spec_l05Entry.f
  refine Ev.bind0 (l01In_spec c 0 7) ?_
  by_cases hc : 0 ≤ c ∧ c ≤ 7
  · refine Ev.pos (by simpa using hc) ?_
    by_cases h1 : a = 1
    · refine Ev.pos h1 (Ev.step (fun _ => spec_l05Entry.j0.eq_2 ..) (Ev.pos (by simpa using h1) (Ev.bind0 (l01In_spec b 0 3) ?_)))
      rw [show entryM ⟨a, b, c⟩ = decide (0 ≤ b ∧ b ≤ 3) by unfold entryM; apply decide_eq_decide.2; simp only; omega]
      exact Ev.now _
    · refine Ev.neg h1 (Ev.step (fun _ => spec_l05Entry.j0.eq_2 ..) ?_)
      by_cases h2 : a = 2
      · refine Ev.pos (by simpa using h2) (Ev.bind0 (l01In_spec b 0 3) ?_)
        rw [show entryM ⟨a, b, c⟩ = decide (0 ≤ b ∧ b ≤ 3) by unfold entryM; apply decide_eq_decide.2; simp only; omega]
        exact Ev.now _
      · refine Ev.neg (by simpa using h2) ?_
        by_cases h3 : a = 3
        · refine Ev.pos h3 ?_
          rw [show entryM ⟨a, b, c⟩ = (b == 0) by unfold entryM; rw [show (b == 0) = decide (b = 0) from rfl]; apply decide_eq_decide.2; simp only; omega]
          exact Ev.now _
        · refine Ev.neg h3 ?_
          rw [show entryM ⟨a, b, c⟩ = false by unfold entryM; apply decide_eq_false; simp only; omega]
          exact Ev.now _
  · refine Ev.neg (by simpa using hc) ?_
    rw [show entryM ⟨a, b, c⟩ = false by unfold entryM; apply decide_eq_false; simp only; omega]
    exact Ev.now _
theorem rd_last (xs : List S33) (i : Int) (h : (xs.length : Int) ≤ i) (h0 : 0 ≤ i) (hi : i ≤ (xs.length : Int)) : i = (xs.length : Int) := by omega
theorem isAcl_spec_l (xs : List S33) (hx : xs.length ≤ 1048576) (l : List S33) : ∀ (i : Int), 0 ≤ i → i ≤ (xs.length : Int) → xs.drop i.toNat = l →
    Ev (fun k => spec_IsAcl.l0 k xs xs (xs.length : Int) i) (aclFrom (leftOf xs i) l && decide (xs.length ≤ 6)) := by
  induction l with
  | nil =>
    intro i h0 hi h
    have h1 := ldrop_nil h0 h
    have hi' : i = (xs.length : Int) := by omega
    subst hi'
    refine Ev.step (fun _ => spec_IsAcl.l0.eq_2 ..) (Ev.neg (by omega) ?_)
    by_cases hz : (xs.length : Int) = 0
    · refine Ev.pos hz ?_
      rw [show leftOf xs (xs.length : Int) = none by unfold leftOf; rw [if_neg (by omega)], aclFrom, show decide (xs.length ≤ 6) = true by simp only [decide_eq_true_eq]; omega]
      exact Ev.now _
    · refine Ev.neg hz ?_
      rw [show leftOf xs (xs.length : Int) = some (rd_T33 xs ((xs.length : Int) - 1)) by unfold leftOf; rw [if_pos (by omega)], aclFrom, w64 (by omega) (by omega)]
      by_cases h6 : (xs.length : Int) ≤ 6
      · refine Ev.pos h6 (Ev.pos (by omega) (Ev.pos (by omega) ?_))
        rw [show decide (xs.length ≤ 6) = true by simp only [decide_eq_true_eq]; omega, Bool.and_true]
        exact Ev.now _
      · refine Ev.neg h6 ?_
        rw [show decide (xs.length ≤ 6) = false by simp only [decide_eq_false_iff_not]; omega, Bool.and_false]
        exact Ev.now _
  | cons x l ih =>
    intro i h0 hi h
    obtain ⟨p, q, c, e⟩ := ldrop_cons z33 h0 h
    have hx' : rd_T33 xs i = x := q
    have := ih (i + 1) (by omega) (by omega) c
    rw [show leftOf xs (i + 1) = some x by unfold leftOf; rw [if_pos (by omega), show i + 1 - 1 = i by omega, hx']] at this
    refine Ev.step (fun _ => spec_IsAcl.l0.eq_2 ..) (Ev.pos p (Ev.pos h0 (Ev.pos p ?_)))
    rw [hx']
    refine Ev.bind (l05Entry_spec x.f0 x.f1 x.f2) ?_
    rw [w64 (n := i + 1) (by omega) (by omega), w64 (n := i - 1) (by omega) (by omega)]
    by_cases c1 : entryM x = true
    · refine Ev.pos c1 ?_
      by_cases c2 : i > 0
      · refine Ev.pos c2 (Ev.pos (by omega) (Ev.pos (by omega) ?_))
        rw [show leftOf xs i = some (rd_T33 xs (i - 1)) by unfold leftOf; rw [if_pos c2], aclFrom, c1, Bool.true_and]
        generalize rd_T33 xs (i - 1) = y at *
        by_cases c3 : y.f0 > x.f0
        · rw [show riseM y x = false by unfold riseM; apply decide_eq_false; omega]
          exact Ev.pos c3 (Ev.now _)
        · refine Ev.neg c3 ?_
          by_cases c4 : y.f0 = x.f0
          · refine Ev.pos c4 ?_
            by_cases c5 : y.f1 ≥ x.f1
            · rw [show riseM y x = false by unfold riseM; apply decide_eq_false; omega]
              exact Ev.pos c5 (Ev.now _)
            · rw [show riseM y x = true by unfold riseM; apply decide_eq_true; omega, Bool.true_and]
              exact Ev.neg c5 this
          · rw [show riseM y x = true by unfold riseM; apply decide_eq_true; omega, Bool.true_and]
            exact Ev.neg c4 this
      · refine Ev.neg c2 ?_
        rw [show leftOf xs i = none by unfold leftOf; rw [if_neg c2], aclFrom, c1, Bool.true_and]
        exact this
    · refine Ev.neg c1 ?_
      have c1' : entryM x = false := by simpa using c1
      have : (aclFrom (leftOf xs i) (x :: l) && decide (xs.length ≤ 6)) = false := by
        cases leftOf xs i <;> simp [aclFrom, c1']
      rw [this]
      exact Ev.now _
theorem cmp_impl (a b : Int) : cmp_Compare_int.f a b = some (if a < b then -1 else if a > b then 1 else 0) := by
  unfold cmp_Compare_int.f cmp_isNaN_int.f
  simp only [bne_self_eq_false, Option.bind_some]
  rw [if_neg (by simp), if_neg (by simp)]
  repeat' split
  all_goals rfl
theorem cmpOr_impl (a b : Int) : Ev (fun k => cmp_Or_int.f k [a, b]) (if a = 0 then b else a) := by
  unfold cmp_Or_int.f
  refine Ev.step (fun _ => cmp_Or_int.l0.eq_2 ..) (Ev.pos (by simp) (Ev.pos (by decide) (Ev.pos (by simp) ?_)))
  rw [show rd [a, b] 0 = a from rfl, show wrap64 (0 + 1) = 1 by unfold wrap64; omega]
  by_cases ha : a = 0
  · refine Ev.pos ha (Ev.step (fun _ => cmp_Or_int.l0.eq_2 ..) (Ev.pos (by simp) (Ev.pos (by decide) (Ev.pos (by simp) ?_))))
    rw [show rd [a, b] 1 = b from rfl, show wrap64 (1 + 1) = 2 by unfold wrap64; omega, if_pos ha]
    by_cases hb : b = 0
    · refine Ev.pos hb (Ev.step (fun _ => cmp_Or_int.l0.eq_2 ..) (Ev.neg (by simp) ?_))
      rw [hb]
      exact Ev.now _
    · exact Ev.neg hb (Ev.now _)
  · rw [if_neg ha]
    exact Ev.neg ha (Ev.now _)
theorem isAcl_j3 {xs : List S33} (hx : xs.length ≤ 1048576) {i : Int} (h0 : 0 ≤ i) (hi : i < (xs.length : Int)) (a b c : Int) {r : Bool} {l : List S33} (he : entryM ⟨a, b, c⟩ = true) (hr : aclFrom (some ⟨a, b, c⟩) l = r) (h : Ev (fun k => impl_IsAcl.l0 k xs xs (xs.length : Int) (i + 1)) r) :
    Ev (fun k => impl_IsAcl.j3 k xs i xs (xs.length : Int) i a b c) (aclFrom (leftOf xs i) (⟨a, b, c⟩ :: l)) := by
  refine Ev.step (fun _ => impl_IsAcl.j3.eq_2 ..) ?_
  rw [w64 (n := i + 1) (by omega) (by omega), w64 (n := i - 1) (by omega) (by omega)]
  by_cases c2 : i > 0
  · rw [show leftOf xs i = some (rd_T33 xs (i - 1)) by unfold leftOf; rw [if_pos c2], aclFrom, he, Bool.true_and, hr]
    generalize rd_T33 xs (i - 1) = y at *
    refine Ev.pos c2 (Ev.pos (by omega) (Ev.pos (by omega) (Ev.bind0 (cmp_impl _ _) (Ev.bind0 (cmp_impl _ _) (Ev.bind (cmpOr_impl _ _) ?_)))))
    by_cases hc : y.f0 < a ∨ y.f0 = a ∧ y.f1 < b
    · rw [show riseM y ⟨a, b, c⟩ = true by unfold riseM; exact decide_eq_true hc, Bool.true_and]
      refine Ev.neg ?_ h
      repeat' split
      all_goals omega
    · rw [show riseM y ⟨a, b, c⟩ = false by unfold riseM; exact decide_eq_false hc, Bool.false_and]
      refine Ev.pos ?_ (Ev.now _)
      repeat' split
      all_goals omega
  · rw [show leftOf xs i = none by unfold leftOf; rw [if_neg c2], aclFrom, he, Bool.true_and, hr]
    exact Ev.neg c2 h
theorem isAcl_impl_l (xs : List S33) (hx : xs.length ≤ 1048576) (l : List S33) : ∀ (i : Int), 0 ≤ i → i ≤ (xs.length : Int) → xs.drop i.toNat = l →
    Ev (fun k => impl_IsAcl.l0 k xs xs (xs.length : Int) i) (aclFrom (leftOf xs i) l) := by
  induction l with
  | nil =>
    intro i h0 hi h
    have h1 := ldrop_nil h0 h
    have hi' : i = (xs.length : Int) := by omega
    subst hi'
    refine Ev.step (fun _ => impl_IsAcl.l0.eq_2 ..) (Ev.neg (by omega) ?_)
    by_cases hz : (xs.length : Int) = 0
    · refine Ev.pos hz ?_
      rw [show leftOf xs (xs.length : Int) = none by unfold leftOf; rw [if_neg (by omega)], aclFrom]
      exact Ev.now _
    · refine Ev.neg hz ?_
      rw [show leftOf xs (xs.length : Int) = some (rd_T33 xs ((xs.length : Int) - 1)) by unfold leftOf; rw [if_pos (by omega)], aclFrom, w64 (by omega) (by omega)]
      exact Ev.pos (by omega) (Ev.pos (by omega) (Ev.now _))
  | cons x l ih =>
    intro i h0 hi h
    obtain ⟨p, q, c, e⟩ := ldrop_cons z33 h0 h
    have hx' : rd_T33 xs i = x := q
    have := ih (i + 1) (by omega) (by omega) c
    rw [show leftOf xs (i + 1) = some x by unfold leftOf; rw [if_pos (by omega), show i + 1 - 1 = i by omega, hx']] at this
    have bad : entryM x = false → aclFrom (leftOf xs i) (x :: l) = false := by
      intro c1'
      cases leftOf xs i <;> simp [aclFrom, c1']
    refine Ev.step (fun _ => impl_IsAcl.l0.eq_2 ..) (Ev.pos p (Ev.pos h0 (Ev.pos p ?_)))
    rw [hx']
    obtain ⟨a, b, d⟩ := x
    simp only
    have j1no : Ev (fun k => impl_IsAcl.j1 k xs i xs (xs.length : Int) i true a b d) false := Ev.step (fun _ => impl_IsAcl.j1.eq_2 ..) (Ev.pos rfl (Ev.now _))
    by_cases d1 : d < 0
    · rw [bad (by unfold entryM; apply decide_eq_false; simp only; omega)]
      exact Ev.pos d1 j1no
    · refine Ev.neg d1 ?_
      by_cases d2 : d > 7
      · rw [bad (by unfold entryM; apply decide_eq_false; simp only; omega), show decide (d > 7) = true by simpa using d2]
        exact j1no
      · rw [show decide (d > 7) = false by simpa using d2]
        refine Ev.step (fun _ => impl_IsAcl.j1.eq_2 ..) (Ev.neg (by simp) ?_)
        have j2 : ∀ t : Bool, t = decide (a = 1 ∨ a = 2) → Ev (fun k => impl_IsAcl.j2 k xs i xs (xs.length : Int) i a t a b d) (aclFrom (leftOf xs i) (⟨a, b, d⟩ :: l)) := by
          intro t ht
          refine Ev.step (fun _ => impl_IsAcl.j2.eq_2 ..) ?_
          by_cases h12 : a = 1 ∨ a = 2
          · refine Ev.pos (by rw [ht]; exact decide_eq_true h12) (Ev.bind0 (isUser_impl b) ?_)
            by_cases hb : 0 ≤ b ∧ b ≤ 3
            · exact Ev.pos (by simpa using hb) (isAcl_j3 hx h0 p a b d (by unfold entryM; apply decide_eq_true; simp only; omega) rfl this)
            · rw [bad (by unfold entryM; apply decide_eq_false; simp only; omega)]
              exact Ev.neg (by simpa using hb) (Ev.now _)
          · refine Ev.neg (by rw [ht]; simpa using h12) ?_
            by_cases h3 : a = 3
            · refine Ev.pos h3 ?_
              by_cases hb : b = 0
              · exact Ev.pos hb (isAcl_j3 hx h0 p a b d (by unfold entryM; apply decide_eq_true; simp only; omega) rfl this)
              · rw [bad (by unfold entryM; apply decide_eq_false; simp only; omega)]
                exact Ev.neg hb (Ev.now _)
            · rw [bad (by unfold entryM; apply decide_eq_false; simp only; omega)]
              exact Ev.neg h3 (Ev.now _)
        by_cases h1 : a = 1
        · exact Ev.pos h1 (j2 _ (by simp [h1]))
        · exact Ev.neg h1 (j2 _ (by simp [h1]; rfl))
theorem isAcl_spec (xs : List S33) (hx : xs.length ≤ 1048576) : Ev (fun k => spec_IsAcl.f k xs) (isAclM xs) := by
  have := isAcl_spec_l xs hx xs 0 (by omega) (by omega) rfl
  unfold isAclM
  rw [Bool.and_comm]
  exact this
theorem isAcl_impl (xs : List S33) (hx : xs.length ≤ 1048576) : Ev (fun k => impl_IsAcl.f k xs) (isAclM xs) := by
  unfold impl_IsAcl.f isAclM
  by_cases h : (xs.length : Int) > 6
  · rw [show decide (xs.length ≤ 6) = false by simp only [decide_eq_false_iff_not]; omega, Bool.false_and]
    exact Ev.pos h (Ev.now _)
  · rw [show decide (xs.length ≤ 6) = true by simp only [decide_eq_true_eq]; omega, Bool.true_and]
    exact Ev.neg h (isAcl_impl_l xs hx xs 0 (by omega) (by omega) rfl)

/-- A number's decimal digits. -/
def decS (u : Nat) : ByteArray := ⟨(Go.Lib.decDigits u).toArray⟩
theorem dec_len (u : Nat) : (Go.Lib.decDigits u).length ≤ u + 1 := by
  induction u using Nat.strongRecOn with
  | _ u ih =>
    rw [Go.Lib.decDigits]
    by_cases h : u < 10
    · rw [dif_pos h, List.length_singleton]
      omega
    · rw [dif_neg h, List.length_append, List.length_singleton]
      have := ih (u / 10) (by omega)
      omega
theorem decS_size (u : Nat) : (decS u).size ≤ u + 1 := dec_len u
theorem decS_small {u : Nat} (h : u < 10) : decS u = strOfNums [(48 + (u : Int)) % 256] := by
  apply ba_ext
  rw [strOfNums_data]
  show Go.Lib.decDigits u = _
  rw [Go.Lib.decDigits, dif_pos h, List.map_singleton, show ((48 + (u : Int)) % 256).toNat = 48 + u by omega]
theorem decS_big {u : Nat} (h : ¬ u < 10) : decS u = decS (u / 10) ++ strOfNums [(48 + ((u % 10 : Nat) : Int)) % 256] := by
  apply ba_ext
  rw [ByteArray.data_append, Array.toList_append, strOfNums_data]
  show Go.Lib.decDigits u = Go.Lib.decDigits (u / 10) ++ _
  rw [Go.Lib.decDigits, dif_neg h, List.map_singleton, show ((48 + ((u % 10 : Nat) : Int)) % 256).toNat = 48 + u % 10 by omega]
theorem ba_assoc (a b c : ByteArray) : (a ++ b) ++ c = a ++ (b ++ c) := by
  apply bytesOf_inj
  rw [bytesOf_append, bytesOf_append, bytesOf_append, bytesOf_append, List.append_assoc]
/-- A number's text. -/
def itoaS (n : Int) : ByteArray := ⟨(Go.Lib.itoa n).toArray⟩

theorem formatInt_l (u : Nat) : ∀ s : ByteArray, s.size + u ≤ 9223372036854775807 → (u = 0 → s.size = 0) → Ev (fun k => spec_FormatInt.l0 k (u : Int) s) (decS u ++ s) := by
  induction u using Nat.strongRecOn with
  | _ u ih =>
    intro s hs hz
    refine Ev.step (fun _ => spec_FormatInt.l0.eq_2 ..) ?_
    by_cases h : u < 10
    · refine Ev.neg (by omega) (Ev.bind0 rfl (Ev.pos ?_ ?_))
      · rw [strOfNums_size, List.length_singleton]
        omega
      · rw [w64 (n := 48 + (u : Int)) (by omega) (by omega), ← decS_small h]
        exact Ev.now _
    · refine Ev.pos (by omega) (Ev.bind0 rfl (Ev.pos ?_ ?_))
      · rw [strOfNums_size, List.length_singleton]
        omega
      · have e1 : Int.tdiv (u : Int) 10 = ((u / 10 : Nat) : Int) := by
          rw [Int.tdiv_eq_ediv_of_nonneg (by omega)]
          omega
        have e2 : Int.tmod (u : Int) 10 = ((u % 10 : Nat) : Int) := by
          rw [Int.tmod_eq_emod_of_nonneg (by omega)]
          omega
        rw [e1, e2, w64 (n := ((u / 10 : Nat) : Int)) (by omega) (by omega), w64 (n := 48 + ((u % 10 : Nat) : Int)) (by omega) (by omega), decS_big h, ba_assoc]
        refine ih (u / 10) (by omega) _ ?_ (by omega)
        rw [ByteArray.size_append, strOfNums_size, List.length_singleton]
        omega
theorem formatInt_neg (u : Nat) : 1 ≤ u → u ≤ 9223372036854775808 → Ev (fun k => spec_FormatInt.f k (-(u : Int))) ((⟨#[45]⟩ : ByteArray) ++ decS u) := by
  induction u using Nat.strongRecOn with
  | _ u ih =>
    intro h1 h2
    have e1 : Int.tdiv (-(u : Int)) 10 = -((u / 10 : Nat) : Int) := by
      rw [Int.neg_tdiv, Int.tdiv_eq_ediv_of_nonneg (by omega)]
      omega
    have e2 : Int.tmod (-(u : Int)) 10 = -((u % 10 : Nat) : Int) := by
      rw [Int.neg_tmod, Int.tmod_eq_emod_of_nonneg (by omega)]
      omega
    refine Ev.step (fun _ => spec_FormatInt.f.eq_2 ..) (Ev.pos (by omega) ?_)
    rw [e1, e2, w64 (n := -((u / 10 : Nat) : Int)) (by omega) (by omega)]
    by_cases h : u < 10
    · refine Ev.pos (by omega) (Ev.bind0 rfl (Ev.pos ?_ ?_))
      · rw [strOfNums_size, List.length_singleton]
        omega
      · rw [w64 (n := 48 - -(u : Int)) (by omega) (by omega), show 48 - -(u : Int) = 48 + (u : Int) by omega, ← decS_small h]
        exact Ev.now _
    · refine Ev.neg (by omega) (Ev.bind (ih (u / 10) (by omega) (by omega) (by omega)) (Ev.bind0 rfl (Ev.pos ?_ ?_)))
      · have := decS_size (u / 10)
        rw [strOfNums_size, List.length_singleton, ByteArray.size_append, show (⟨#[45]⟩ : ByteArray).size = 1 from rfl]
        omega
      · rw [w64 (n := 48 - -((u % 10 : Nat) : Int)) (by omega) (by omega), show 48 - -((u % 10 : Nat) : Int) = 48 + ((u % 10 : Nat) : Int) by omega, ba_assoc, ← decS_big h]
        exact Ev.now _
theorem formatInt_spec (n : Int) (h0 : -9223372036854775808 ≤ n) (h1 : n ≤ 9223372036854775807) : Ev (fun k => spec_FormatInt.f k n) (itoaS n) := by
  by_cases h : n < 0
  · obtain ⟨u, rfl⟩ : ∃ u : Nat, n = -(u : Int) := ⟨n.natAbs, by omega⟩
    have e : itoaS (-(u : Int)) = (⟨#[45]⟩ : ByteArray) ++ decS u := by
      apply ba_ext
      rw [ByteArray.data_append, Array.toList_append]
      show Go.Lib.itoa (-(u : Int)) = [45] ++ Go.Lib.decDigits u
      unfold Go.Lib.itoa
      rw [if_pos h, Int.natAbs_neg, Int.natAbs_natCast]
      rfl
    rw [e]
    exact formatInt_neg u (by omega) (by omega)
  · obtain ⟨u, rfl⟩ : ∃ u : Nat, n = (u : Int) := ⟨n.toNat, by omega⟩
    have e : itoaS (u : Int) = decS u ++ (⟨#[]⟩ : ByteArray) := by
      apply ba_ext
      rw [ByteArray.data_append, Array.toList_append]
      show Go.Lib.itoa (u : Int) = Go.Lib.decDigits u ++ []
      unfold Go.Lib.itoa
      rw [if_neg h, Int.toNat_natCast, List.append_nil]
    rw [e]
    exact Ev.step (fun _ => spec_FormatInt.f.eq_2 ..) (Ev.neg h (formatInt_l u _ (by show 0 + u ≤ _; omega) (fun _ => rfl)))

theorem formatInt_impl (n : Int) (h0 : -9223372036854775808 ≤ n) (h1 : n ≤ 9223372036854775807) : impl_FormatInt.f n = some (itoaS n) := by
  unfold impl_FormatInt.f strconv_Itoa.f
  rw [if_pos ⟨h0, h1⟩]
  rfl

theorem digit_toNat {d : Nat} (h : d < 10) : (UInt8.ofNat (48 + d)).toNat = 48 + d := by
  rw [UInt8.toNat_ofNat']
  omega
theorem dec_head (u : Nat) : ∃ c r, Go.Lib.decDigits u = c :: r ∧ 48 ≤ c.toNat ∧ c.toNat ≤ 57 := by
  induction u using Nat.strongRecOn with
  | _ u ih =>
    by_cases h : u < 10
    · refine ⟨UInt8.ofNat (48 + u), [], ?_, ?_, ?_⟩
      · rw [Go.Lib.decDigits, dif_pos h]
      · rw [digit_toNat h]
        omega
      · rw [digit_toNat h]
        omega
    · obtain ⟨c, r, e, h1, h2⟩ := ih (u / 10) (by omega)
      exact ⟨c, r ++ [UInt8.ofNat (48 + u % 10)], by rw [Go.Lib.decDigits, dif_neg h, e, List.cons_append], h1, h2⟩
theorem dec_len_k (k : Nat) : ∀ u : Nat, u < 10 ^ (k + 1) → (Go.Lib.decDigits u).length ≤ k + 1 := by
  induction k with
  | zero =>
    intro u hu
    rw [Go.Lib.decDigits, dif_pos (by omega), List.length_singleton]
    omega
  | succ k ih =>
    intro u hu
    rw [Go.Lib.decDigits]
    by_cases h : u < 10
    · rw [dif_pos h, List.length_singleton]
      omega
    · have h2 : 10 ^ (k + 1 + 1) = 10 ^ (k + 1) * 10 := Nat.pow_succ ..
      have := ih (u / 10) (by omega)
      rw [dif_neg h, List.length_append, List.length_singleton]
      omega
theorem itoaS_size (n : Int) (h0 : -9223372036854775808 ≤ n) (h1 : n ≤ 9223372036854775807) : (itoaS n).size ≤ 20 := by
  show (Go.Lib.itoa n).length ≤ 20
  unfold Go.Lib.itoa
  by_cases h : n < 0
  · rw [if_pos h, List.length_cons]
    have := dec_len_k 18 n.natAbs (by omega)
    omega
  · rw [if_neg h]
    have := dec_len_k 18 n.toNat (by omega)
    omega

theorem join_spec_l (xs : List ByteArray) (sep : ByteArray) (hx : xs.length ≤ 1048576) (hp : sep.size ≤ 1048576) (hs : ∀ x, x ∈ xs → x.size ≤ 1048576) (l : List ByteArray) : ∀ (i : Int) (s : ByteArray), 1 ≤ i → i ≤ (xs.length : Int) → xs.drop i.toNat = l → (s.size : Int) ≤ i * 2097152 →
    ∃ r, Ev (fun k => spec_Join.l0 k sep s xs (xs.length : Int) i) r ∧ r.data.toList = s.data.toList ++ Go.Lib.joinTail sep.data.toList (l.map (·.data.toList)) ∧ (r.size : Int) ≤ (xs.length : Int) * 2097152 := by
  induction l with
  | nil =>
    intro i s h1 hi h hz
    have := ldrop_nil (by omega) h
    refine ⟨s, Ev.step (fun _ => spec_Join.l0.eq_2 ..) (Ev.neg (by omega) (Ev.now _)), ?_, by omega⟩
    rw [List.map_nil, show Go.Lib.joinTail sep.data.toList [] = [] from rfl, List.append_nil]
  | cons x l ih =>
    intro i s h1 hi h hz
    obtain ⟨a, b, c, e⟩ := ldrop_cons ByteArray.empty (by omega) h
    have hxs := hs x (by
      have : x ∈ xs.drop i.toNat := by rw [h]; exact List.mem_cons_self ..
      exact List.mem_of_mem_drop this)
    have z1 := ba_size_append s sep
    have z2 := ba_size_append (s ++ sep) x
    obtain ⟨r, p1, p2, p3⟩ := ih (i + 1) (s ++ sep ++ x) (by omega) (by omega) c (by omega)
    refine ⟨r, Ev.step (fun _ => spec_Join.l0.eq_2 ..) (Ev.pos a (Ev.pos (by omega) (Ev.pos a (Ev.pos (by omega) (Ev.pos (by omega) ?_))))), ?_, p3⟩
    · rw [b, w64 (n := i + 1) (by omega) (by omega)]
      exact Ev.pos (by omega) p1
    · rw [p2, ByteArray.data_append, Array.toList_append, ByteArray.data_append, Array.toList_append, List.map_cons, show ∀ r, Go.Lib.joinTail sep.data.toList (x.data.toList :: r) = (sep.data.toList ++ x.data.toList) ++ Go.Lib.joinTail sep.data.toList r from fun _ => rfl, List.append_assoc, List.append_assoc, List.append_assoc]
theorem join_both (xs : List ByteArray) (sep : ByteArray) (hx : xs.length ≤ 1048576) (hp : sep.size ≤ 1048576) (hs : ∀ x, x ∈ xs → x.size ≤ 1048576) : ∃ r, Ev (fun k => spec_Join.f k xs sep) r ∧ impl_Join.f xs sep = some r := by
  unfold spec_Join.f impl_Join.f strings_Join.f
  cases xs with
  | nil =>
    refine ⟨⟨#[]⟩, Ev.step (fun _ => spec_Join.l0.eq_2 ..) (Ev.neg (by decide) (Ev.now _)), ?_⟩
    rw [if_pos ⟨Nat.zero_le _, Nat.zero_le _⟩]
    rfl
  | cons x l =>
    have e0 : (⟨#[]⟩ : ByteArray) ++ x = x := by
      apply ba_ext
      rw [ByteArray.data_append, Array.toList_append]
      rfl
    have h0 := hs x (List.mem_cons_self ..)
    have hb : (⟨#[]⟩ : ByteArray).size = 0 := rfl
    rw [List.length_cons] at hx
    obtain ⟨r, p1, p2, p3⟩ := join_spec_l (x :: l) sep (by rw [List.length_cons]; exact hx) hp hs l 1 x (by omega) (by rw [List.length_cons]; omega) rfl (by omega)
    have hr : Go.Lib.join ((x :: l).map (·.data.toList)) sep.data.toList = r.data.toList := by
      rw [List.map_cons, Go.Lib.join_cons, p2]
    have hz : r.data.toList.length = r.size := by rw [Array.length_toList]; rfl
    rw [List.length_cons] at p3
    refine ⟨r, Ev.step (fun _ => spec_Join.l0.eq_2 ..) (Ev.pos (by rw [List.length_cons]; omega) (Ev.pos (by omega) (Ev.pos (by rw [List.length_cons]; omega) (Ev.neg (by omega) ?_)))), ?_⟩
    · rw [show rdOf ByteArray.empty (x :: l) 0 = x from rfl, e0, hb, w64 (n := 0 + 1) (by omega) (by omega)]
      exact Ev.pos (by omega) p1
    · rw [hr, if_pos ⟨by rw [List.length_cons]; omega, by rw [hz]; omega⟩, Option.bind_some]

theorem aclFrom_all (l : List S33) : ∀ o, aclFrom o l = true → ∀ x ∈ l, entryM x = true := by
  induction l with
  | nil =>
    intro o _ x hx
    cases hx
  | cons y l ih =>
    intro o h x hx
    have h' : entryM y = true ∧ aclFrom (some y) l = true := by
      cases o <;> simp [aclFrom] at h <;> simp [h]
    rcases List.mem_cons.1 hx with rfl | hx
    · exact h'.1
    · exact ih _ h'.2 x hx
def letS (n : Int) : ByteArray := (⟨#[63, 117, 103, 109]⟩ : ByteArray).extract n.toNat (n + 1).toNat
theorem letS_impl {n : Int} (h : n = 1 ∨ n = 2 ∨ n = 3) : (⟨#[117, 103, 109]⟩ : ByteArray).extract (n - 1).toNat n.toNat = letS n := by
  rcases h with rfl | rfl | rfl <;> rfl
theorem letS_size {n : Int} (h : n = 1 ∨ n = 2 ∨ n = 3) : (letS n).size = 1 := by
  rcases h with rfl | rfl | rfl <;> rfl
def entS (x : S33) : ByteArray := ((letS x.f0 ++ itoaS x.f1) ++ (⟨#[58]⟩ : ByteArray)) ++ itoaS x.f2
theorem entry_facts {x : S33} (h : entryM x = true) : (x.f0 = 1 ∨ x.f0 = 2 ∨ x.f0 = 3) ∧ 0 ≤ x.f1 ∧ x.f1 ≤ 3 ∧ 0 ≤ x.f2 ∧ x.f2 ≤ 7 := by
  have := of_decide_eq_true h
  omega
def joinS (ys : List ByteArray) : ByteArray := ⟨(Go.Lib.join (ys.map (·.data.toList)) [44]).toArray⟩
theorem join_val {ys : List ByteArray} {r : ByteArray} (h : impl_Join.f ys (⟨#[44]⟩ : ByteArray) = some r) : r = joinS ys := by
  unfold impl_Join.f strings_Join.f at h
  by_cases hc : ys.length ≤ 140737488355328 ∧ (Go.Lib.join (ys.map (·.data.toList)) (⟨#[44]⟩ : ByteArray).data.toList).length ≤ 140737488355328
  · rw [if_pos hc, Option.bind_some] at h
    exact (Option.some.inj h).symm
  · rw [if_neg hc] at h
    cases h
theorem formatAcl_l (xs : List S33) (hx : xs.length ≤ 6) (hp : 0 < xs.length) (he : ∀ x ∈ xs, entryM x = true) (l : List S33) : ∀ (i : Int) (ys : List ByteArray), 0 ≤ i → i ≤ (xs.length : Int) → xs.drop i.toNat = l → (ys.length : Int) = i → (∀ y ∈ ys, y.size ≤ 1048576) →
    ∃ r, Ev (fun k => spec_FormatAcl.l0 k ys xs (xs.length : Int) i) r ∧ Ev (fun k => impl_FormatAcl.l0 k ys xs (xs.length : Int) i) r ∧ r = joinS (ys ++ l.map entS) := by
  induction l with
  | nil =>
    intro i ys h0 hi h hl hs
    have := ldrop_nil h0 h
    obtain ⟨r, p1, p2⟩ := join_both ys (⟨#[44]⟩ : ByteArray) (by omega) (by decide) hs
    exact ⟨r, Ev.step (fun _ => spec_FormatAcl.l0.eq_2 ..) (Ev.neg (by omega) (Ev.neg (by omega) (Ev.bind p1 (Ev.now _)))), Ev.step (fun _ => impl_FormatAcl.l0.eq_2 ..) (Ev.neg (by omega) (Ev.bind0 p2 (Ev.now _))), by rw [List.map_nil, List.append_nil]; exact join_val p2⟩
  | cons x l ih =>
    intro i ys h0 hi h hl hs
    obtain ⟨a, b, c, e⟩ := ldrop_cons z33 h0 h
    have hr : rd_T33 xs i = x := b
    obtain ⟨e1, e2, e3, e4, e5⟩ := entry_facts (he x (by
      have : x ∈ xs.drop i.toNat := by rw [h]; exact List.mem_cons_self ..
      exact List.mem_of_mem_drop this))
    have z0 := letS_size e1
    have z1 := itoaS_size x.f1 (by omega) (by omega)
    have z2 := itoaS_size x.f2 (by omega) (by omega)
    have a1 := ba_size_append (letS x.f0) (itoaS x.f1)
    have a2 := ba_size_append (letS x.f0 ++ itoaS x.f1) (⟨#[58]⟩ : ByteArray)
    have a3 := ba_size_append ((letS x.f0 ++ itoaS x.f1) ++ (⟨#[58]⟩ : ByteArray)) (itoaS x.f2)
    have a4 : (⟨#[58]⟩ : ByteArray).size = 1 := rfl
    obtain ⟨r, p1, p2, p3⟩ := ih (i + 1) (ys ++ [entS x]) (by omega) (by omega) c (by rw [List.length_append, List.length_singleton]; omega) (by
      intro y hy
      rcases List.mem_append.1 hy with hy | hy
      · exact hs y hy
      · rw [List.mem_singleton.1 hy]
        unfold entS
        omega)
    refine ⟨r, Ev.step (fun _ => spec_FormatAcl.l0.eq_2 ..) (Ev.pos a (Ev.pos h0 (Ev.pos a ?_))), Ev.step (fun _ => impl_FormatAcl.l0.eq_2 ..) (Ev.pos a (Ev.pos h0 (Ev.pos a ?_))), by rw [p3, List.append_assoc]; rfl⟩
    · rw [hr, w64 (n := i + 1) (by omega) (by omega), w64 (n := x.f0 + 1) (by omega) (by omega)]
      refine Ev.pos (by omega) (Ev.pos (by omega) (Ev.pos (by omega) (Ev.bind (formatInt_spec x.f1 (by omega) (by omega)) ?_)))
      refine Ev.pos (show (letS x.f0).size + (itoaS x.f1).size ≤ _ by omega) (Ev.pos (show (letS x.f0 ++ itoaS x.f1).size + 1 ≤ _ by omega) (Ev.bind (formatInt_spec x.f2 (by omega) (by omega)) ?_))
      exact Ev.pos (show ((letS x.f0 ++ itoaS x.f1) ++ (⟨#[58]⟩ : ByteArray)).size + (itoaS x.f2).size ≤ _ by omega) (Ev.pos (by omega) p1)
    · rw [hr, w64 (n := i + 1) (by omega) (by omega), w64 (n := x.f0 - 1) (by omega) (by omega), letS_impl e1]
      refine Ev.pos (by omega) (Ev.pos (by omega) (Ev.pos (by omega) (Ev.bind0 (formatInt_impl x.f1 (by omega) (by omega)) ?_)))
      refine Ev.pos (show (letS x.f0).size + (itoaS x.f1).size ≤ _ by omega) (Ev.pos (show (letS x.f0 ++ itoaS x.f1).size + 1 ≤ _ by omega) (Ev.bind0 (formatInt_impl x.f2 (by omega) (by omega)) ?_))
      exact Ev.pos (show ((letS x.f0 ++ itoaS x.f1) ++ (⟨#[58]⟩ : ByteArray)).size + (itoaS x.f2).size ≤ _ by omega) (Ev.pos (by omega) p2)
/-- A list's text. -/
def fmtAcl (xs : List S33) : ByteArray := if isAclM xs = true then (if (xs.length : Int) = 0 then (⟨#[45]⟩ : ByteArray) else joinS (xs.map entS)) else ⟨#[]⟩
theorem formatAcl_val (xs : List S33) (hx : xs.length ≤ 1048576) : Ev (fun k => spec_FormatAcl.f k xs) (fmtAcl xs) ∧ Ev (fun k => impl_FormatAcl.f k xs) (fmtAcl xs) := by
  unfold spec_FormatAcl.f impl_FormatAcl.f fmtAcl
  have h1 := isAcl_spec xs hx
  have h2 := isAcl_impl xs hx
  cases ho : isAclM xs with
  | false =>
    rw [ho] at h1 h2
    exact ⟨Ev.bind h1 (Ev.neg (by decide) (Ev.now _)), Ev.bind h2 (Ev.neg (by decide) (Ev.now _))⟩
  | true =>
    rw [ho] at h1 h2
    rw [if_pos rfl]
    unfold isAclM at ho
    rw [Bool.and_eq_true] at ho
    have h6 := of_decide_eq_true ho.1
    by_cases hz : (xs.length : Int) = 0
    · rw [if_pos hz]
      have hn : xs = [] := List.eq_nil_of_length_eq_zero (by omega)
      subst hn
      exact ⟨Ev.bind h1 (Ev.pos rfl (Ev.step (fun _ => spec_FormatAcl.l0.eq_2 ..) (Ev.neg (by decide) (Ev.pos rfl (Ev.now _))))), Ev.bind h2 (Ev.pos rfl (Ev.pos hz (Ev.now _)))⟩
    · rw [if_neg hz]
      obtain ⟨r, p1, p2, p3⟩ := formatAcl_l xs h6 (by omega) (aclFrom_all xs none ho.2) xs 0 [] (by omega) (by omega) rfl rfl (by simp)
      rw [List.nil_append] at p3
      subst p3
      exact ⟨Ev.bind h1 (Ev.pos rfl p1), Ev.bind h2 (Ev.pos rfl (Ev.neg hz p2))⟩
theorem formatAcl_both (xs : List S33) (hx : xs.length ≤ 1048576) : ∃ r, Ev (fun k => spec_FormatAcl.f k xs) r ∧ Ev (fun k => impl_FormatAcl.f k xs) r := ⟨_, (formatAcl_val xs hx).1, (formatAcl_val xs hx).2⟩

def digB (u : Nat) : List Int := (Go.Lib.decDigits u).map fun b => (b.toNat : Int)
theorem digB_small {u : Nat} (h : u < 10) : digB u = [48 + (u : Int)] := by
  unfold digB
  rw [Go.Lib.decDigits, dif_pos h, List.map_singleton, digit_toNat h]
  rfl
theorem digB_big {u : Nat} (h : ¬ u < 10) : digB u = digB (u / 10) ++ [48 + ((u % 10 : Nat) : Int)] := by
  unfold digB
  rw [Go.Lib.decDigits, dif_neg h, List.map_append, List.map_singleton, digit_toNat (by omega)]
  rfl
theorem itoaS_bytes (n : Int) : bytesOf (itoaS n) = if n < 0 then 45 :: digB n.natAbs else digB n.toNat := by
  show (Go.Lib.itoa n).map (fun b => (b.toNat : Int)) = _
  unfold Go.Lib.itoa
  by_cases h : n < 0
  · rw [if_pos h, if_pos h]
    rfl
  · rw [if_neg h, if_neg h]
    rfl

/-- Bytes split at a byte. -/
def spl (c : Int) : List Int → List Int → List (List Int)
  | cur, [] => [cur]
  | cur, b :: r => if b = c then cur :: spl c [] r else spl c (cur ++ [b]) r
def joinB (c : Int) : List (List Int) → List Int
  | [] => []
  | [e] => e
  | e :: f :: es => e ++ c :: joinB c (f :: es)
theorem spl_through (c : Int) (e : List Int) : ∀ (cur r : List Int), c ∉ e → spl c cur (e ++ r) = spl c (cur ++ e) r := by
  induction e with
  | nil => intro cur r _; simp
  | cons b e ih =>
    intro cur r h
    rw [List.mem_cons, not_or] at h
    rw [List.cons_append]
    show (if b = c then cur :: spl c [] (e ++ r) else spl c (cur ++ [b]) (e ++ r)) = _
    rw [if_neg (fun x => h.1 x.symm), ih (cur ++ [b]) r h.2, List.append_assoc]
    rfl
theorem spl_join (c : Int) (es : List (List Int)) : es ≠ [] → (∀ e ∈ es, c ∉ e) → spl c [] (joinB c es) = es := by
  induction es with
  | nil => exact fun h _ => absurd rfl h
  | cons e es ih =>
    intro _ h
    have he := h e (List.mem_cons_self ..)
    cases es with
    | nil =>
      have := spl_through c e [] [] he
      rw [List.append_nil, List.nil_append] at this
      exact this
    | cons f es =>
      show spl c [] (e ++ c :: joinB c (f :: es)) = _
      rw [spl_through c e [] _ he, List.nil_append]
      show (if c = c then e :: spl c [] (joinB c (f :: es)) else _) = _
      rw [if_pos rfl, ih (by simp) (fun x hx => h x (List.mem_cons_of_mem _ hx))]
theorem spl_length (c : Int) (r : List Int) : ∀ cur, 1 ≤ (spl c cur r).length ∧ (spl c cur r).length ≤ r.length + 1 := by
  induction r with
  | nil => exact fun cur => ⟨Nat.le_refl _, Nat.le_refl _⟩
  | cons b r ih =>
    intro cur
    show 1 ≤ (if b = c then cur :: spl c [] r else spl c (cur ++ [b]) r).length ∧ (if b = c then cur :: spl c [] r else spl c (cur ++ [b]) r).length ≤ r.length + 1 + 1
    by_cases h : b = c
    · rw [if_pos h, List.length_cons]
      have := ih []
      omega
    · rw [if_neg h]
      have := ih (cur ++ [b])
      omega
theorem spl_mem (c : Int) (r : List Int) : ∀ cur, ∀ e ∈ spl c cur r, e.length ≤ cur.length + r.length ∧ ∀ x ∈ e, x ∈ cur ∨ x ∈ r := by
  induction r with
  | nil =>
    intro cur e he
    rw [List.mem_singleton.1 he]
    exact ⟨Nat.le_refl _, fun x hx => Or.inl hx⟩
  | cons b r ih =>
    intro cur e he
    have he' : e ∈ (if b = c then cur :: spl c [] r else spl c (cur ++ [b]) r) := he
    by_cases h : b = c
    · rw [if_pos h] at he'
      rcases List.mem_cons.1 he' with rfl | he'
      · exact ⟨by omega, fun x hx => Or.inl hx⟩
      · obtain ⟨a, d⟩ := ih [] e he'
        have a' : e.length ≤ 0 + r.length := a
        refine ⟨by rw [List.length_cons]; omega, fun x hx => ?_⟩
        rcases d x hx with d | d
        · cases d
        · exact Or.inr (List.mem_cons_of_mem _ d)
    · rw [if_neg h] at he'
      obtain ⟨a, d⟩ := ih (cur ++ [b]) e he'
      rw [List.length_append, List.length_singleton] at a
      refine ⟨by rw [List.length_cons]; omega, fun x hx => ?_⟩
      rcases d x hx with d | d
      · rcases List.mem_append.1 d with d | d
        · exact Or.inl d
        · exact Or.inr (by rw [List.mem_singleton.1 d]; exact List.mem_cons_self ..)
      · exact Or.inr (List.mem_cons_of_mem _ d)
theorem spl_first (c : Int) (r : List Int) : ∀ cur, ∃ e es, spl c cur r = e :: es ∧ es.length + e.length ≤ r.length + cur.length := by
  induction r with
  | nil => exact fun cur => ⟨cur, [], rfl, by simp⟩
  | cons b r ih =>
    intro cur
    show ∃ e es, (if b = c then cur :: spl c [] r else spl c (cur ++ [b]) r) = e :: es ∧ es.length + e.length ≤ r.length + 1 + cur.length
    by_cases h : b = c
    · rw [if_pos h]
      have := (spl_length c r []).2
      exact ⟨cur, _, rfl, by omega⟩
    · rw [if_neg h]
      obtain ⟨e, es, h1, h2⟩ := ih (cur ++ [b])
      rw [List.length_append, List.length_singleton] at h2
      exact ⟨e, es, h1, by omega⟩
/-- A piece of a text, out of its bytes. -/
theorem piece_str {s : ByteArray} {a i : Nat} {cur r : List Int} (h : (bytesOf s).drop a = cur ++ r) (hi : i = a + cur.length) : s.extract a i = strOfNums cur := by
  subst hi
  rw [← strOfNums_bytesOf (s.extract a (a + cur.length)), bytesOf_extract, List.drop_take, show a + cur.length - a = cur.length by omega, h, List.take_left' rfl]

theorem joinTail_cons (sep : List UInt8) (y : List UInt8) (r : List (List UInt8)) : Go.Lib.joinTail sep (y :: r) = sep ++ Go.Lib.join (y :: r) sep := by
  rw [Go.Lib.join_cons]
  show (sep ++ y) ++ Go.Lib.joinTail sep r = _
  rw [List.append_assoc]

theorem tl0 : (⟨#[]⟩ : ByteArray).toList = ([] : List UInt8) := by decide +kernel
theorem tl45 : (⟨#[45]⟩ : ByteArray).toList = ([45] : List UInt8) := by decide +kernel
theorem itoaS_digit {n : Int} (h0 : 0 ≤ n) (h1 : n ≤ 9) : bytesOf (itoaS n) = [48 + n] := by
  rw [itoaS_bytes, if_neg (by omega), digB_small (by omega), show ((n.toNat : Nat) : Int) = n by omega]
def letB (n : Int) : Int := if n = 1 then 117 else if n = 2 then 103 else 109
theorem letS_bytes {n : Int} (h : n = 1 ∨ n = 2 ∨ n = 3) : bytesOf (letS n) = [letB n] := by
  rcases h with rfl | rfl | rfl <;> decide +kernel
theorem entS_bytes {x : S33} (h : entryM x = true) : bytesOf (entS x) = [letB x.f0, 48 + x.f1, 58, 48 + x.f2] := by
  obtain ⟨e1, e2, e3, e4, e5⟩ := entry_facts h
  unfold entS
  rw [bytesOf_append, bytesOf_append, bytesOf_append, letS_bytes e1, itoaS_digit e2 (by omega), itoaS_digit e4 (by omega)]
  rfl
theorem letB_cases (n : Int) : letB n = 117 ∨ letB n = 103 ∨ letB n = 109 := by
  unfold letB
  split
  · exact Or.inl rfl
  · split
    · exact Or.inr (Or.inl rfl)
    · exact Or.inr (Or.inr rfl)
theorem entS_size {x : S33} (h : entryM x = true) : (entS x).size = 4 := by
  rw [← bytesOf_length, entS_bytes h]
  rfl
theorem joinS_bytes (ys : List ByteArray) : bytesOf (joinS ys) = joinB 44 (ys.map bytesOf) := by
  show (Go.Lib.join (ys.map (·.data.toList)) [44]).map (fun b => (b.toNat : Int)) = _
  induction ys with
  | nil => rfl
  | cons y ys ih =>
    cases ys with
    | nil =>
      rw [List.map_singleton, Go.Lib.join_one, List.map_singleton]
      rfl
    | cons z ys =>
      rw [List.map_cons, Go.Lib.join_cons, List.map_cons, joinTail_cons, List.map_append, List.map_append]
      have ih' : (Go.Lib.join (z.data.toList :: List.map (·.data.toList) ys) [44]).map (fun b => (b.toNat : Int)) = joinB 44 ((z :: ys).map bytesOf) := ih
      rw [ih']
      rfl
theorem isAcl_len {xs : List S33} (h : isAclM xs = true) : xs.length ≤ 6 ∧ ∀ x ∈ xs, entryM x = true := by
  unfold isAclM at h
  rw [Bool.and_eq_true] at h
  exact ⟨of_decide_eq_true h.1, aclFrom_all xs none h.2⟩
/-- A text of a list, split at its commas. -/
theorem fmt_split {xs : List S33} (h : isAclM xs = true) (hn : xs ≠ []) : (spl 44 [] (bytesOf (fmtAcl xs))).map strOfNums = xs.map entS := by
  obtain ⟨h6, he⟩ := isAcl_len h
  unfold fmtAcl
  rw [if_pos h, if_neg (by
    intro e
    exact hn (List.eq_nil_of_length_eq_zero (by omega))), joinS_bytes, spl_join]
  · rw [List.map_map, List.map_map]
    apply List.map_congr_left
    intro x _
    exact strOfNums_bytesOf _
  · intro e
    rw [List.map_map, List.map_eq_nil_iff] at e
    exact hn e
  · intro e hm
    rw [List.map_map] at hm
    obtain ⟨x, hx, rfl⟩ := List.mem_map.1 hm
    obtain ⟨e1, e2, e3, e4, e5⟩ := entry_facts (he x hx)
    show (44 : Int) ∉ bytesOf (entS x)
    rw [entS_bytes (he x hx)]
    have := letB_cases x.f0
    simp only [List.mem_cons, List.not_mem_nil, or_false, not_or]
    omega
theorem fmt_long {xs : List S33} (h : isAclM xs = true) (hn : xs ≠ []) : fmtAcl xs ≠ (⟨#[45]⟩ : ByteArray) := by
  intro e
  have hs := fmt_split h hn
  rw [e] at hs
  cases xs with
  | nil => exact hn rfl
  | cons x xs =>
    have : [strOfNums [45]] = (x :: xs).map entS := hs
    rw [List.map_cons] at this
    injection this with h1 h2
    have := entS_size ((isAcl_len h).2 x (List.mem_cons_self ..))
    rw [← h1, strOfNums_size] at this
    exact absurd this (by decide)
/-- A parse's answer: no list, or the list that the text is the text of. -/
def GoodL (t : ByteArray) (r : List S33 × Bool) : Prop := (r = ([], false) ∨ ∃ l, isAclM l = true ∧ r = (l, true) ∧ t = fmtAcl l) ∧ ∀ l, isAclM l = true → t = fmtAcl l → r = (l, true)
theorem GoodL.uniq {t : ByteArray} {r r' : List S33 × Bool} (h : GoodL t r) (h' : GoodL t r') : r = r' := by
  rcases h.1 with e | ⟨n, n0, e, es⟩
  · rcases h'.1 with e' | ⟨m, m0, e', es⟩
    · rw [e, e']
    · rw [e', h.2 m m0 es]
  · rw [e, h'.2 n n0 es]
theorem GoodL.len {t : ByteArray} {r : List S33 × Bool} (h : GoodL t r) : r.1.length ≤ 6 := by
  rcases h.1 with e | ⟨n, n0, e, es⟩
  · rw [e]
    exact Nat.zero_le _
  · rw [e]
    exact (isAcl_len n0).1
theorem fmt_empty {xs : List S33} (h : ¬ isAclM xs = true) : fmtAcl xs = (⟨#[]⟩ : ByteArray) := by
  unfold fmtAcl
  exact if_neg h
/-- A text whose first piece is empty is no list's. -/
theorem no_list {t : ByteArray} (hd : t ≠ (⟨#[45]⟩ : ByteArray)) {es : List (List Int)} (h : spl 44 [] (bytesOf t) = [] :: es) (l : List S33) (hl : isAclM l = true) (ht : t = fmtAcl l) : False := by
  by_cases hn : l = []
  · rw [hn] at ht
    exact hd (ht.trans rfl)
  · have h2 := fmt_split hl hn
    rw [← ht, h] at h2
    cases l with
    | nil => exact hn rfl
    | cons x l =>
      rw [List.map_cons, List.map_cons] at h2
      injection h2 with h1 _
      have := entS_size ((isAcl_len hl).2 x (List.mem_cons_self ..))
      rw [← h1, strOfNums_size] at this
      exact absurd this (by decide)

theorem splitAny_l1 (s t : ByteArray) (x : List ByteArray) (a i : Int) (hi : 0 ≤ i) (hi2 : i < (s.size : Int)) (ha : 0 ≤ a) (ha2 : a ≤ i) (hx : x.length < 4398046511104) (hs : s.size ≤ 1048576) (ht : t.size ≤ 1048576) (m : List Int) :
    ∀ j : Int, 0 ≤ j → (bytesOf t).drop j.toNat = m →
      (bt s i ∈ m → ∀ r, Ev (fun k => spec_SplitAny.l0 k s t (x ++ [s.extract a.toNat i.toNat]) (i + 1) (i + 1)) r → Ev (fun k => spec_SplitAny.l1 k s t x a i j) r) ∧
      (bt s i ∉ m → ∀ r, Ev (fun k => spec_SplitAny.l0 k s t x a (i + 1)) r → Ev (fun k => spec_SplitAny.l1 k s t x a i j) r) := by
  induction m with
  | nil =>
    intro j hj h
    have := bdrop_nil hj h
    refine ⟨fun h => absurd h (by simp), fun _ r hr => ?_⟩
    refine Ev.step (fun _ => spec_SplitAny.l1.eq_2 ..) (Ev.neg (by omega) ?_)
    rw [w64 (n := i + 1) (by omega) (by omega)]
    exact hr
  | cons b m ih =>
    intro j hj h
    obtain ⟨h1, h2, h3, h4⟩ := bdrop_cons hj h
    obtain ⟨i1, i2⟩ := ih (j + 1) (by omega) h3
    by_cases he : bt s i = b
    · refine ⟨fun _ r hr => ?_, fun hn => absurd (List.mem_cons.2 (Or.inl he)) hn⟩
      refine Ev.step (fun _ => spec_SplitAny.l1.eq_2 ..) (Ev.pos h1 (Ev.pos hi (Ev.pos hi2 (Ev.pos hj (Ev.pos (by rw [h2]; exact he) (Ev.pos ha (Ev.pos ha2 (Ev.pos (by omega) (Ev.pos (by omega) ?_)))))))))
      rw [w64 (n := i + 1) (by omega) (by omega)]
      exact hr
    · refine ⟨fun hm r hr => ?_, fun hm r hr => ?_⟩
      · refine Ev.step (fun _ => spec_SplitAny.l1.eq_2 ..) (Ev.pos h1 (Ev.pos hi (Ev.pos hi2 (Ev.pos hj (Ev.neg (by rw [h2]; exact he) ?_)))))
        rw [w64 (n := j + 1) (by omega) (by omega)]
        exact i1 ((List.mem_cons.1 hm).resolve_left he) r hr
      · refine Ev.step (fun _ => spec_SplitAny.l1.eq_2 ..) (Ev.pos h1 (Ev.pos hi (Ev.pos hi2 (Ev.pos hj (Ev.neg (by rw [h2]; exact he) ?_)))))
        rw [w64 (n := j + 1) (by omega) (by omega)]
        exact i2 (fun h => hm (List.mem_cons_of_mem _ h)) r hr

theorem spl_spec (s : ByteArray) (c : UInt8) (hs : s.size ≤ 1048576) (r : List Int) : ∀ (cur : List Int) (a : Nat) (x : List ByteArray), (bytesOf s).drop a = cur ++ r → a ≤ s.size → x.length ≤ a →
    Ev (fun k => spec_SplitAny.l0 k s (⟨#[c]⟩ : ByteArray) x (a : Int) ((a + cur.length : Nat) : Int)) (x ++ (spl (c.toNat : Int) cur r).map strOfNums) := by
  induction r with
  | nil =>
    intro cur a x h ha hx
    have hl : cur.length = s.size - a := by
      have := congrArg List.length h
      rw [List.length_drop, bytesOf_length, List.append_nil] at this
      exact this.symm
    refine Ev.step (fun _ => spec_SplitAny.l0.eq_2 ..) (Ev.neg (by omega) (Ev.pos (by omega) (Ev.pos (by omega) (Ev.pos (by omega) ?_))))
    rw [Int.toNat_natCast, piece_str h (by omega)]
    exact Ev.now _
  | cons b r ih =>
    intro cur a x h ha hx
    have hl : cur.length + (r.length + 1) = s.size - a := by
      have := congrArg List.length h
      rw [List.length_drop, bytesOf_length, List.length_append, List.length_cons] at this
      exact this.symm
    have hd : (bytesOf s).drop (a + cur.length) = b :: r := by rw [← List.drop_drop, h, List.drop_left]
    obtain ⟨h1, h2, h3, h4⟩ := bdrop_cons (s := s) (i := ((a + cur.length : Nat) : Int)) (x := b) (l := r) (by omega) (by rw [Int.toNat_natCast]; exact hd)
    obtain ⟨m1, m2⟩ := splitAny_l1 s (⟨#[c]⟩ : ByteArray) x (a : Int) ((a + cur.length : Nat) : Int) (by omega) h1 (by omega) (by omega) (by omega) hs (by show 1 ≤ _; omega) [(c.toNat : Int)] 0 (by decide) rfl
    have e1 : ((a + cur.length : Nat) : Int) + 1 = ((a + cur.length + 1 : Nat) : Int) := by omega
    refine Ev.step (fun _ => spec_SplitAny.l0.eq_2 ..) (Ev.pos (by omega) ?_)
    show Ev _ (x ++ List.map strOfNums (if b = (c.toNat : Int) then cur :: spl (c.toNat : Int) [] r else spl (c.toNat : Int) (cur ++ [b]) r))
    by_cases hc : b = (c.toNat : Int)
    · rw [if_pos hc]
      refine m1 (by rw [h2]; exact List.mem_singleton.2 hc) _ ?_
      rw [Int.toNat_natCast, Int.toNat_natCast, piece_str h rfl, e1]
      have g := ih [] (a + cur.length + 1) (x ++ [strOfNums cur]) (by rw [List.nil_append]; rw [e1, Int.toNat_natCast] at h3; exact h3) (by omega) (by rw [List.length_append, List.length_singleton]; omega)
      rw [List.append_assoc] at g
      exact g
    · rw [if_neg hc]
      refine m2 (by rw [h2]; intro e; exact hc (List.mem_singleton.1 e)) _ ?_
      have g := ih (cur ++ [b]) a x (by rw [h, List.append_assoc]; rfl) ha hx
      rw [List.length_append, List.length_singleton] at g
      rw [e1]
      exact g
theorem splitAny_spec (s : ByteArray) (c : UInt8) (hs : s.size ≤ 1048576) : Ev (fun k => spec_SplitAny.f k s (⟨#[c]⟩ : ByteArray)) ((spl (c.toNat : Int) [] (bytesOf s)).map strOfNums) :=
  spl_spec s c hs (bytesOf s) [] 0 [] rfl (by omega) (by simp)

def valN : Int → List Int → Int
  | acc, [] => acc
  | acc, c :: l => valN (acc * 10 - (c - 48)) l
theorem valN_le (l : List Int) : ∀ acc : Int, acc ≤ 0 → (∀ c ∈ l, 48 ≤ c ∧ c ≤ 57) → valN acc l ≤ acc := by
  induction l with
  | nil => exact fun acc h _ => Int.le_refl _
  | cons c l ih =>
    intro acc h hd
    have hc := hd c (List.mem_cons_self ..)
    have := ih (acc * 10 - (c - 48)) (by omega) (fun x hx => hd x (List.mem_cons_of_mem _ hx))
    show valN (acc * 10 - (c - 48)) l ≤ acc
    omega
theorem valN_append (l : List Int) (c : Int) : ∀ acc : Int, valN acc (l ++ [c]) = valN acc l * 10 - (c - 48) := by
  induction l with
  | nil => exact fun acc => rfl
  | cons x l ih => exact fun acc => ih _
theorem digB_val (u : Nat) : valN 0 (digB u) = -(u : Int) ∧ (∀ c ∈ digB u, 48 ≤ c ∧ c ≤ 57) := by
  induction u using Nat.strongRecOn with
  | _ u ih =>
    by_cases h : u < 10
    · rw [digB_small h]
      refine ⟨?_, fun c hc => ?_⟩
      · show (0 : Int) * 10 - (48 + (u : Int) - 48) = _
        omega
      · rw [List.mem_singleton.1 hc]
        omega
    · obtain ⟨a, b⟩ := ih (u / 10) (by omega)
      rw [digB_big h]
      refine ⟨?_, fun c hc => ?_⟩
      · rw [valN_append, a]
        omega
      · rcases List.mem_append.1 hc with hc | hc
        · exact b c hc
        · rw [List.mem_singleton.1 hc]
          omega
theorem digB_len {u : Nat} (h : u ≤ 9223372036854775808) : 1 ≤ (digB u).length ∧ (digB u).length ≤ 19 := by
  unfold digB
  rw [List.length_map]
  obtain ⟨c, r, e, _⟩ := dec_head u
  have := dec_len_k 18 u (by omega)
  rw [e] at *
  rw [List.length_cons] at *
  omega
theorem isDigits_spec {s : ByteArray} (hs : s.size ≤ 140737488351232) (l : List Int) : ∀ (i : Int), 0 ≤ i → (bytesOf s).drop i.toNat = l →
    ∃ r, Ev (fun k => spec_IsDigits.l0 k s i) r ∧ (r = true ↔ (∀ c ∈ l, 48 ≤ c ∧ c ≤ 57) ∧ 0 < s.size) := by
  induction l with
  | nil =>
    intro i h0 h
    have := bdrop_nil h0 h
    refine ⟨decide ((s.size : Int) > 0), Ev.step (fun _ => spec_IsDigits.l0.eq_2 ..) (Ev.neg (by omega) (Ev.now _)), ?_⟩
    rw [decide_eq_true_iff]
    refine ⟨fun h => ⟨by simp, by omega⟩, fun h => by have := h.2; omega⟩
  | cons x l ih =>
    intro i h0 h
    obtain ⟨a, b, c, e⟩ := bdrop_cons h0 h
    obtain ⟨r, h1, h2⟩ := ih (i + 1) (by omega) c
    by_cases c1 : bt s i < 48
    · refine ⟨false, Ev.step (fun _ => spec_IsDigits.l0.eq_2 ..) (Ev.pos a (Ev.pos h0 (Ev.pos c1 (Ev.now _)))), ?_⟩
      refine ⟨fun h => (by cases h), fun h => ?_⟩
      have := h.1 x (List.mem_cons_self ..)
      omega
    · by_cases c2 : bt s i > 57
      · refine ⟨false, Ev.step (fun _ => spec_IsDigits.l0.eq_2 ..) (Ev.pos a (Ev.pos h0 (Ev.neg c1 (Ev.pos c2 (Ev.now _))))), ?_⟩
        refine ⟨fun h => (by cases h), fun h => ?_⟩
        have := h.1 x (List.mem_cons_self ..)
        omega
      · refine ⟨r, Ev.step (fun _ => spec_IsDigits.l0.eq_2 ..) (Ev.pos a (Ev.pos h0 (Ev.neg c1 (Ev.neg c2 ?_)))), ?_⟩
        · rw [w64 (by omega) (by omega)]
          exact h1
        · rw [h2]
          constructor
          · rintro ⟨h, h'⟩
            refine ⟨fun y hy => ?_, h'⟩
            rcases List.mem_cons.1 hy with rfl | hy
            · omega
            · exact h y hy
          · rintro ⟨h, h'⟩
            exact ⟨fun y hy => h y (List.mem_cons_of_mem _ hy), h'⟩
/-- A parse's answer: no number, or the number that the text is the numeral of. -/
def GoodN (s : ByteArray) (r : Int × Bool) : Prop := (r = (0, false) ∨ ∃ n : Int, -9223372036854775808 ≤ n ∧ n ≤ 9223372036854775807 ∧ r = (n, true) ∧ s = itoaS n) ∧ ∀ n : Int, -9223372036854775808 ≤ n → n ≤ 9223372036854775807 → s = itoaS n → r = (n, true)
theorem GoodN.uniq {s : ByteArray} {r r' : Int × Bool} (h : GoodN s r) (h' : GoodN s r') : r = r' := by
  rcases h.1 with e | ⟨n, n0, n1, e, es⟩
  · rcases h'.1 with e' | ⟨m, m0, m1, e', es⟩
    · rw [e, e']
    · rw [e', h.2 m m0 m1 es]
  · rw [e, h'.2 n n0 n1 es]
theorem parse_tail (s : ByteArray) (m : Int) (h0 : -9223372036854775808 ≤ m) (h1 : m ≤ 9223372036854775807) : ∃ r, Ev (fun k => (spec_FormatInt.f k m).bind fun t => if t.toList = s.toList then some (m, true) else some (0, false)) r ∧ (r = (0, false) ∨ r = (m, true) ∧ s = itoaS m) ∧ (s = itoaS m → r = (m, true)) := by
  by_cases h : s = itoaS m
  · refine ⟨(m, true), Ev.bind (formatInt_spec m h0 h1) (Ev.pos (by rw [h]) (Ev.now _)), Or.inr ⟨rfl, h⟩, fun _ => rfl⟩
  · refine ⟨(0, false), Ev.bind (formatInt_spec m h0 h1) (Ev.neg (fun e => h ((ba_eq_iff _ _).1 e).symm) (Ev.now _)), Or.inl rfl, fun e => absurd e h⟩
theorem parse_loop (s : ByteArray) (neg : Bool) (t : ByteArray) (ht : t.size ≤ 1048576) (l : List Int) : ∀ (acc i : Int), 0 ≤ i → (bytesOf t).drop i.toNat = l → -9223372036854775808 ≤ acc → acc ≤ 0 → (∀ c ∈ l, 48 ≤ c ∧ c ≤ 57) →
    ∃ r, Ev (fun k => spec_ParseInt.l0 k s neg t acc i) r ∧ (r = (0, false) ∨ ∃ n : Int, -9223372036854775808 ≤ n ∧ n ≤ 9223372036854775807 ∧ r = (n, true) ∧ s = itoaS n) ∧
      ∀ n : Int, -9223372036854775808 ≤ n → n ≤ 9223372036854775807 → s = itoaS n → valN acc l = (if neg = true then n else -n) → r = (n, true) := by
  induction l with
  | nil =>
    intro acc i hi h h0 h1 hd
    have hn := bdrop_nil hi h
    cases neg with
    | true =>
      obtain ⟨r, e, a, b⟩ := parse_tail s acc h0 (by omega)
      refine ⟨r, Ev.step (fun _ => spec_ParseInt.l0.eq_2 ..) (Ev.neg (by omega) (Ev.pos rfl e)), ?_, ?_⟩
      · rcases a with a | ⟨a, a'⟩
        · exact Or.inl a
        · exact Or.inr ⟨acc, h0, by omega, a, a'⟩
      · intro n n0 n1 es hv
        have hv' : acc = n := hv
        subst hv'
        exact b es
    | false =>
      by_cases hm : acc = -9223372036854775808
      · refine ⟨(0, false), Ev.step (fun _ => spec_ParseInt.l0.eq_2 ..) (Ev.neg (by omega) (Ev.neg (by decide) (Ev.pos hm (Ev.now _)))), Or.inl rfl, ?_⟩
        intro n n0 n1 es hv
        have hv' : acc = -n := hv
        omega
      · obtain ⟨r, e, a, b⟩ := parse_tail s (-acc) (by omega) (by omega)
        refine ⟨r, Ev.step (fun _ => spec_ParseInt.l0.eq_2 ..) (Ev.neg (by omega) (Ev.neg (by decide) (Ev.neg hm ?_))), ?_, ?_⟩
        · rw [w64 (n := -acc) (by omega) (by omega)]
          exact e
        · rcases a with a | ⟨a, a'⟩
          · exact Or.inl a
          · exact Or.inr ⟨-acc, by omega, by omega, a, a'⟩
        · intro n n0 n1 es hv
          have hv' : acc = -n := hv
          have : -acc = n := by omega
          rw [this] at b
          exact b es
  | cons c l ih =>
    intro acc i hi h h0 h1 hd
    obtain ⟨a, b, c', e⟩ := bdrop_cons hi h
    have hc := hd c (List.mem_cons_self ..)
    have hd' : ∀ x ∈ l, 48 ≤ x ∧ x ≤ 57 := fun x hx => hd x (List.mem_cons_of_mem _ hx)
    have ew : wrap64 (Int.tdiv (wrap64 ((-9223372036854775808) + (wrap64 ((wrap64 (bt t i)) - 48)))) 10) = -((9223372036854775808 - (c - 48)) / 10) := by
      rw [b, w64 (n := c) (by omega) (by omega), w64 (n := c - 48) (by omega) (by omega), w64 (n := -9223372036854775808 + (c - 48)) (by omega) (by omega), show -9223372036854775808 + (c - 48) = -(9223372036854775808 - (c - 48)) by omega, Int.neg_tdiv, Int.tdiv_eq_ediv_of_nonneg (by omega)]
      exact w64 (by omega) (by omega)
    by_cases hr : acc < -((9223372036854775808 - (c - 48)) / 10)
    · refine ⟨(0, false), Ev.step (fun _ => spec_ParseInt.l0.eq_2 ..) (Ev.pos a (Ev.pos hi (Ev.pos (by rw [ew]; exact hr) (Ev.now _)))), Or.inl rfl, ?_⟩
      intro n n0 n1 es hv
      have hle := valN_le l (acc * 10 - (c - 48)) (by omega) hd'
      have hv' : valN (acc * 10 - (c - 48)) l = (if neg = true then n else -n) := hv
      split at hv' <;> omega
    · obtain ⟨r, e1, e2, e3⟩ := ih (acc * 10 - (c - 48)) (i + 1) (by omega) c' (by omega) (by omega) hd'
      refine ⟨r, Ev.step (fun _ => spec_ParseInt.l0.eq_2 ..) (Ev.pos a (Ev.pos hi (Ev.neg (by rw [ew]; exact hr) ?_))), e2, e3⟩
      rw [b, w64 (n := c) (by omega) (by omega), w64 (n := c - 48) (by omega) (by omega), w64 (n := acc * 10) (by omega) (by omega), w64 (n := acc * 10 - (c - 48)) (by omega) (by omega), w64 (n := i + 1) (by omega) (by omega)]
      exact e1
theorem parse_j1 (s : ByteArray) (neg : Bool) (t : ByteArray) (ht : t.size ≤ 1048576) (hn : ∀ n : Int, -9223372036854775808 ≤ n → n ≤ 9223372036854775807 → s = itoaS n → ∃ u : Nat, u ≤ 9223372036854775808 ∧ bytesOf t = digB u ∧ -(u : Int) = (if neg = true then n else -n)) :
    ∃ r, Ev (fun k => spec_ParseInt.j1 k s neg t) r ∧ GoodN s r := by
  obtain ⟨d, d1, d2⟩ := isDigits_spec (s := t) (by omega) (bytesOf t) 0 (by omega) rfl
  have d1' : Ev (fun k => spec_IsDigits.f k t) d := d1
  have hb : (bytesOf t).length = t.size := bytesOf_length t
  cases d with
  | false =>
    refine ⟨(0, false), Ev.step (fun _ => spec_ParseInt.j1.eq_2 ..) (Ev.bind d1' (Ev.neg (by decide) (Ev.step (fun _ => spec_ParseInt.j2.eq_2 ..) (Ev.pos rfl (Ev.now _))))), Or.inl rfl, ?_⟩
    intro n n0 n1 es
    obtain ⟨u, u1, u2, u3⟩ := hn n n0 n1 es
    have := digB_val u
    have hl := digB_len u1
    rw [u2] at d2 hb
    exact absurd (d2.2 ⟨this.2, by omega⟩) (by decide)
  | true =>
    have hd := (d2.1 rfl)
    by_cases hz : (t.size : Int) > 19
    · refine ⟨(0, false), Ev.step (fun _ => spec_ParseInt.j1.eq_2 ..) (Ev.bind d1' (Ev.pos rfl (Ev.step (fun _ => spec_ParseInt.j2.eq_2 ..) (Ev.pos (decide_eq_true hz) (Ev.now _))))), Or.inl rfl, ?_⟩
      intro n n0 n1 es
      obtain ⟨u, u1, u2, u3⟩ := hn n n0 n1 es
      have hl := digB_len u1
      rw [u2] at hb
      omega
    · obtain ⟨r, e1, e2, e3⟩ := parse_loop s neg t ht (bytesOf t) 0 0 (by omega) rfl (by omega) (by omega) hd.1
      refine ⟨r, Ev.step (fun _ => spec_ParseInt.j1.eq_2 ..) (Ev.bind d1' (Ev.pos rfl (Ev.step (fun _ => spec_ParseInt.j2.eq_2 ..) (Ev.neg (by rw [decide_eq_true_iff]; exact hz) e1)))), e2, ?_⟩
      intro n n0 n1 es
      obtain ⟨u, u1, u2, u3⟩ := hn n n0 n1 es
      refine e3 n n0 n1 es ?_
      rw [u2, (digB_val u).1]
      exact u3
theorem parseInt_spec (s : ByteArray) (hs : s.size ≤ 1048576) : ∃ r, Ev (fun k => spec_ParseInt.f k s) r ∧ GoodN s r := by
  have hb : (bytesOf s).length = s.size := bytesOf_length s
  have h0 : 0 < s.size → ∃ c l, bytesOf s = c :: l ∧ bt s 0 = c := by
    intro h
    cases hl : bytesOf s with
    | nil =>
      rw [hl] at hb
      simp at hb
      omega
    | cons c l => exact ⟨c, l, rfl, (bdrop_cons (s := s) (i := 0) (x := c) (l := l) (by omega) hl).2.1⟩
  have hdig : ∀ u : Nat, ∃ c l, digB u = c :: l ∧ c ≠ 45 := by
    intro u
    cases hl : digB u with
    | nil =>
      exfalso
      obtain ⟨c, r, e, _⟩ := dec_head u
      unfold digB at hl
      rw [e] at hl
      cases hl
    | cons c l =>
      refine ⟨c, l, rfl, ?_⟩
      have := (digB_val u).2 c (by rw [hl]; exact List.mem_cons_self ..)
      omega
  unfold spec_ParseInt.f
  by_cases hz : (s.size : Int) > 0
  · obtain ⟨c, l, e1, e2⟩ := h0 (by omega)
    by_cases hc : c = 45
    · have ht : bytesOf (s.extract 1 s.size) = l := by
        rw [bytesOf_extract, ← bytesOf_length, List.take_length, e1]
        rfl
      obtain ⟨r, g1, g2⟩ := parse_j1 s true (s.extract 1 s.size) (by rw [← bytesOf_length, ht]; rw [e1, List.length_cons] at hb; omega) (by
        intro n n0 n1 es
        have hi := itoaS_bytes n
        rw [← es, e1] at hi
        by_cases hn : n < 0
        · rw [if_pos hn] at hi
          injection hi with _ hi
          exact ⟨n.natAbs, by omega, by rw [ht, hi], by rw [if_pos rfl]; omega⟩
        · rw [if_neg hn] at hi
          obtain ⟨c2, l2, e3, e4⟩ := hdig n.toNat
          rw [e3] at hi
          injection hi with hi _
          exact absurd (hi.symm.trans hc) e4)
      refine ⟨r, Ev.pos hz (Ev.pos (by omega) ?_), g2⟩
      rw [e2, show (c == 45) = true by rw [hc]; rfl]
      exact Ev.step (fun _ => spec_ParseInt.j0.eq_2 ..) (Ev.pos rfl (Ev.pos (by omega) g1))
    · obtain ⟨r, g1, g2⟩ := parse_j1 s false s hs (by
        intro n n0 n1 es
        have hi := itoaS_bytes n
        rw [← es] at hi
        by_cases hn : n < 0
        · rw [if_pos hn, e1] at hi
          injection hi with hi _
          exact absurd hi hc
        · rw [if_neg hn] at hi
          exact ⟨n.toNat, by omega, hi, by rw [if_neg (by decide)]; omega⟩)
      refine ⟨r, Ev.pos hz (Ev.pos (by omega) ?_), g2⟩
      rw [e2, show (c == 45) = false from beq_eq_false_iff_ne.2 hc]
      exact Ev.step (fun _ => spec_ParseInt.j0.eq_2 ..) (Ev.neg (by decide) g1)
  · obtain ⟨r, g1, g2⟩ := parse_j1 s false s hs (by
      intro n n0 n1 es
      exfalso
      have hi := itoaS_bytes n
      rw [← es] at hi
      by_cases hn : n < 0
      · rw [if_pos hn] at hi
        rw [hi, List.length_cons] at hb
        omega
      · rw [if_neg hn] at hi
        have := digB_len (u := n.toNat) (by omega)
        rw [hi] at hb
        omega)
    exact ⟨r, Ev.neg hz (Ev.step (fun _ => spec_ParseInt.j0.eq_2 ..) (Ev.neg (by decide) g1)), g2⟩

theorem rd0 {α : Type} (d : α) (x : α) (l : List α) : rdOf d (x :: l) 0 = x := rfl
theorem rd1 {α : Type} (d : α) (x y : α) (l : List α) : rdOf d (x :: y :: l) 1 = y := rfl
theorem parseAcl_j2 (t : ByteArray) (out : List S33) (hz : out.length ≤ 1048576) :
    ∃ r, Ev (fun k => spec_ParseAcl.j2 k t out) r ∧ (r = ([], false) ∨ ∃ o, isAclM o = true ∧ r = (o, true) ∧ t = fmtAcl o) ∧ (t ≠ (⟨#[]⟩ : ByteArray) → t = fmtAcl out → r = (out, true)) := by
  obtain ⟨f1, _⟩ := formatAcl_val out hz
  by_cases h0 : fmtAcl out = (⟨#[]⟩ : ByteArray)
  · refine ⟨([], false), Ev.step (fun _ => spec_ParseAcl.j2.eq_2 ..) (Ev.bind f1 (Ev.pos (by rw [h0]; exact tl0) (Ev.now _))), Or.inl rfl, ?_⟩
    intro hn ht
    exact absurd (ht.trans h0) hn
  · have h0' : ¬ (fmtAcl out).toList = ([] : List UInt8) := fun e => h0 ((ba_eq_iff (fmtAcl out) (⟨#[]⟩ : ByteArray)).1 (e.trans tl0.symm))
    by_cases e : t = fmtAcl out
    · refine ⟨(out, true), Ev.step (fun _ => spec_ParseAcl.j2.eq_2 ..) (Ev.bind f1 (Ev.neg h0' (Ev.bind f1 (Ev.pos (by rw [← e]) (Ev.now _))))), Or.inr ⟨out, ?_, rfl, e⟩, fun _ _ => rfl⟩
      by_cases ho : isAclM out = true
      · exact ho
      · exact absurd (fmt_empty ho) h0
    · exact ⟨([], false), Ev.step (fun _ => spec_ParseAcl.j2.eq_2 ..) (Ev.bind f1 (Ev.neg h0' (Ev.bind f1 (Ev.neg (fun h => e ((ba_eq_iff _ _).1 h).symm) (Ev.now _))))), Or.inl rfl, fun _ h => absurd h e⟩
theorem parse_digit {d : ByteArray} {n : Int} (h0 : 0 ≤ n) (h1 : n ≤ 9) (hd : bytesOf d = [48 + n]) {r : Int × Bool} (g : GoodN d r) : r.1 = n := by
  have e : d = itoaS n := bytesOf_inj (by rw [hd, itoaS_digit h0 h1])
  rw [g.2 n (by omega) (by omega) e]
theorem parseAcl_round (t : ByteArray) (ht : t ≠ (⟨#[45]⟩ : ByteArray)) (ps : List ByteArray) (p : ByteArray) (hp : p.size ≤ 1048576) (i : Int) (h0 : 0 ≤ i) (a : i < (ps.length : Int)) (hps : ps.length ≤ 1048576) (hb : rdOf ByteArray.empty ps i = p) (out : List S33) (hz : out.length ≤ 1048576) :
    ∃ oe : Option S33, (oe = none → Ev (fun k => spec_ParseAcl.l0 k t out ps (ps.length : Int) i) ([], false)) ∧
      (∀ e, oe = some e → ∀ r, Ev (fun k => spec_ParseAcl.l0 k t (out ++ [e]) ps (ps.length : Int) (i + 1)) r → Ev (fun k => spec_ParseAcl.l0 k t out ps (ps.length : Int) i) r) ∧
      (∀ x, entryM x = true → p = entS x → oe = some x) := by
  have ht' : ¬ t.toList = ([45] : List UInt8) := fun e => ht ((ba_eq_iff t (⟨#[45]⟩ : ByteArray)).1 (e.trans tl45.symm))
  have hsp := splitAny_spec p 58 hp
  have hpl : (bytesOf p).length = p.size := bytesOf_length p
  -- what the entry's text splits into
  have hent : ∀ x, entryM x = true → p = entS x → spl ((58 : UInt8).toNat : Int) [] (bytesOf p) = [[letB x.f0, 48 + x.f1], [48 + x.f2]] := by
    intro x hx e
    obtain ⟨e1, e2, e3, e4, e5⟩ := entry_facts hx
    have hl := letB_cases x.f0
    rw [e, entS_bytes hx]
    show spl 58 [] (joinB 58 [[letB x.f0, 48 + x.f1], [48 + x.f2]]) = _
    apply spl_join
    · simp
    · intro y hy
      simp only [List.mem_cons, List.not_mem_nil, or_false] at hy
      rcases hy with rfl | rfl
      · simp only [List.mem_cons, List.not_mem_nil, or_false, not_or]
        omega
      · simp only [List.mem_cons, List.not_mem_nil, or_false]
        omega
  have hmem := spl_mem ((58 : UInt8).toNat : Int) (bytesOf p) []
  generalize hw : spl ((58 : UInt8).toNat : Int) [] (bytesOf p) = w at hsp hent hmem
  have open_ : ∀ {b : Bool} {r : List S33 × Bool}, ((w.map strOfNums).length : Int) = 2 → b = decide (((rdOf ByteArray.empty (w.map strOfNums) 0).size : Int) < 2) → Ev (fun k => spec_ParseAcl.j1 k t out (w.map strOfNums) ps (ps.length : Int) i b) r → Ev (fun k => spec_ParseAcl.l0 k t out ps (ps.length : Int) i) r := by
    intro b r h2 hbb h
    refine Ev.step (fun _ => spec_ParseAcl.l0.eq_2 ..) (Ev.pos a (Ev.pos h0 (Ev.pos a ?_)))
    rw [hb]
    refine Ev.bind hsp (Ev.neg ht' (Ev.pos h2 (Ev.pos (by omega) ?_)))
    rw [← hbb]
    exact h
  rcases w with _ | ⟨w0, _ | ⟨w1, _ | ⟨w2, ws⟩⟩⟩
  case cons.cons.nil =>
    have m0 := hmem w0 (by simp)
    have m1 := hmem w1 (by simp)
    have z0 : (strOfNums w0).size = w0.length := strOfNums_size w0
    have z1 : (strOfNums w1).size = w1.length := strOfNums_size w1
    have r0 : rdOf ByteArray.empty ([w0, w1].map strOfNums) 0 = strOfNums w0 := rfl
    have r1 : rdOf ByteArray.empty ([w0, w1].map strOfNums) 1 = strOfNums w1 := rfl
    have hl2 : (([w0, w1].map strOfNums).length : Int) = 2 := rfl
    simp only [List.length_nil] at m0 m1
    have rng : ∀ x ∈ w0, 0 ≤ x ∧ x ≤ 255 := by
      intro x hx
      rcases m0.2 x hx with h | h
      · cases h
      · exact bytesOf_range h
    have b0 : bytesOf (strOfNums w0) = w0 := bytesOf_strOfNums rng
    by_cases h2 : ((strOfNums w0).size : Int) < 2
    · refine ⟨none, fun _ => open_ hl2 rfl (Ev.step (fun _ => spec_ParseAcl.j1.eq_2 ..) (Ev.pos (by rw [r0]; exact decide_eq_true h2) (Ev.now _))), fun e he => (by cases he), ?_⟩
      intro x hx e
      have := hent x hx e
      injection this with h _
      have h3 : w0.length = 2 := by rw [h]; rfl
      omega
    · obtain ⟨ra, pa, ga⟩ := parseInt_spec ((strOfNums w0).extract 1 (strOfNums w0).size) (by rw [← bytesOf_length, bytesOf_extract, List.length_drop, List.length_take, bytesOf_length]; omega)
      obtain ⟨rb, pb, gb⟩ := parseInt_spec (strOfNums w1) (by omega)
      have hx0 : (bytesOf ((strOfNums w0).extract 1 (strOfNums w0).size)) = w0.drop 1 := by
        rw [bytesOf_extract, ← bytesOf_length, List.take_length, b0]
      have hx1 : bytesOf (strOfNums w1) = w1 := by
        apply bytesOf_strOfNums
        intro x hx
        rcases m1.2 x hx with h | h
        · cases h
        · exact bytesOf_range h
      have tail_ : ∀ (g : Int) {r : List S33 × Bool}, Ev (fun k => spec_ParseAcl.l0 k t (out ++ [(⟨g, ra.1, rb.1⟩ : S33)]) ps (ps.length : Int) (i + 1)) r →
          Ev (fun k => if 1 ≤ ((strOfNums w0).size : Int) then ((spec_ParseInt.f k ((strOfNums w0).extract 1 (strOfNums w0).size)).bind fun a => (if 1 < (([w0, w1].map strOfNums).length : Int) then ((spec_ParseInt.f k (strOfNums w1)).bind fun b => (if out.length < 5864062014805 then spec_ParseAcl.l0 k t (out ++ [(⟨g, a.1, b.1⟩ : S33)]) ps (ps.length : Int) (wrap64 (i + 1)) else none)) else none)) else none) r := by
        intro g r h
        rw [w64 (n := i + 1) (by omega) (by omega)]
        exact Ev.pos (by omega) (Ev.bind pa (Ev.pos (by rw [hl2]; decide) (Ev.bind pb (Ev.pos (by omega) h))))
      have third : ∀ (g c : Int), bt (strOfNums w0) 0 = c → (∀ x, entryM x = true → letB x.f0 = c → x.f0 = g) → ∀ x, entryM x = true → p = entS x → (some (⟨g, ra.1, rb.1⟩ : S33)) = some x := by
        intro g c hc hg x hx e
        obtain ⟨e1, e2, e3, e4, e5⟩ := entry_facts hx
        have hh := hent x hx e
        injection hh with hh1 hh2
        injection hh2 with hh2 _
        subst hh1 hh2
        have q := (bdrop_cons (s := strOfNums [letB x.f0, 48 + x.f1]) (i := 0) (x := letB x.f0) (l := [48 + x.f1]) (by omega) (by rw [b0]; rfl)).2.1
        have ea := parse_digit e2 (by omega) (show _ = [48 + x.f1] from hx0) ga
        have eb := parse_digit e4 (by omega) hx1 gb
        have eg := hg x hx (q.symm.trans hc)
        rw [ea, eb, ← eg]
      have pre_of : ∀ {x e : S33} {r : List S33 × Bool}, some x = some e → (Ev (fun k => spec_ParseAcl.l0 k t (out ++ [x]) ps (ps.length : Int) (i + 1)) r → Ev (fun k => spec_ParseAcl.l0 k t out ps (ps.length : Int) i) r) → Ev (fun k => spec_ParseAcl.l0 k t (out ++ [e]) ps (ps.length : Int) (i + 1)) r → Ev (fun k => spec_ParseAcl.l0 k t out ps (ps.length : Int) i) r := by
        intro x e r he f h
        rw [← Option.some.inj he] at h
        exact f h
      have pre_ : ∀ {r : List S33 × Bool}, Ev (fun k => if bt (strOfNums w0) 0 = 117 then (if 1 ≤ ((strOfNums w0).size : Int) then ((spec_ParseInt.f k ((strOfNums w0).extract 1 (strOfNums w0).size)).bind fun a => (if 1 < (([w0, w1].map strOfNums).length : Int) then ((spec_ParseInt.f k (strOfNums w1)).bind fun b => (if out.length < 5864062014805 then spec_ParseAcl.l0 k t (out ++ [(⟨1, a.1, b.1⟩ : S33)]) ps (ps.length : Int) (wrap64 (i + 1)) else none)) else none)) else none) else (if bt (strOfNums w0) 0 = 103 then (if 1 ≤ ((strOfNums w0).size : Int) then ((spec_ParseInt.f k ((strOfNums w0).extract 1 (strOfNums w0).size)).bind fun a => (if 1 < (([w0, w1].map strOfNums).length : Int) then ((spec_ParseInt.f k (strOfNums w1)).bind fun b => (if out.length < 5864062014805 then spec_ParseAcl.l0 k t (out ++ [(⟨2, a.1, b.1⟩ : S33)]) ps (ps.length : Int) (wrap64 (i + 1)) else none)) else none)) else none) else (if bt (strOfNums w0) 0 = 109 then (if 1 ≤ ((strOfNums w0).size : Int) then ((spec_ParseInt.f k ((strOfNums w0).extract 1 (strOfNums w0).size)).bind fun a => (if 1 < (([w0, w1].map strOfNums).length : Int) then ((spec_ParseInt.f k (strOfNums w1)).bind fun b => (if out.length < 5864062014805 then spec_ParseAcl.l0 k t (out ++ [(⟨3, a.1, b.1⟩ : S33)]) ps (ps.length : Int) (wrap64 (i + 1)) else none)) else none)) else none) else (if 1 ≤ ((strOfNums w0).size : Int) then ((spec_ParseInt.f k ((strOfNums w0).extract 1 (strOfNums w0).size)).bind fun a => (if 1 < (([w0, w1].map strOfNums).length : Int) then ((spec_ParseInt.f k (strOfNums w1)).bind fun b => (if out.length < 5864062014805 then spec_ParseAcl.l0 k t (out ++ [(⟨0, a.1, b.1⟩ : S33)]) ps (ps.length : Int) (wrap64 (i + 1)) else none)) else none)) else none)))) r → Ev (fun k => spec_ParseAcl.l0 k t out ps (ps.length : Int) i) r := by
        intro r h
        refine open_ hl2 rfl (Ev.step (fun _ => spec_ParseAcl.j1.eq_2 ..) (Ev.neg (by rw [r0, decide_eq_true_iff]; exact h2) (Ev.pos (by rw [hl2]; decide) ?_)))
        rw [r0, r1]
        exact Ev.pos (by omega) h
      by_cases c1 : bt (strOfNums w0) 0 = 117
      · exact ⟨some ⟨1, ra.1, rb.1⟩, fun e => (by cases e), fun e he r h => pre_of he (fun h => pre_ (Ev.pos c1 (tail_ 1 h))) h, third 1 117 c1 (by
            intro x hx hl
            obtain ⟨e1, _⟩ := entry_facts hx
            rcases e1 with e | e | e
            · exact e
            · rw [e] at hl
              exact absurd hl (by decide)
            · rw [e] at hl
              exact absurd hl (by decide))⟩
      · by_cases c2 : bt (strOfNums w0) 0 = 103
        · exact ⟨some ⟨2, ra.1, rb.1⟩, fun e => (by cases e), fun e he r h => pre_of he (fun h => pre_ (Ev.neg c1 (Ev.pos c2 (tail_ 2 h)))) h, third 2 103 c2 (by
              intro x hx hl
              obtain ⟨e1, _⟩ := entry_facts hx
              rcases e1 with e | e | e
              · rw [e] at hl
                exact absurd hl (by decide)
              · exact e
              · rw [e] at hl
                exact absurd hl (by decide))⟩
        · by_cases c3 : bt (strOfNums w0) 0 = 109
          · exact ⟨some ⟨3, ra.1, rb.1⟩, fun e => (by cases e), fun e he r h => pre_of he (fun h => pre_ (Ev.neg c1 (Ev.neg c2 (Ev.pos c3 (tail_ 3 h))))) h, third 3 109 c3 (by
                intro x hx hl
                obtain ⟨e1, _⟩ := entry_facts hx
                rcases e1 with e | e | e
                · rw [e] at hl
                  exact absurd hl (by decide)
                · rw [e] at hl
                  exact absurd hl (by decide)
                · exact e)⟩
          · refine ⟨some ⟨0, ra.1, rb.1⟩, fun e => (by cases e), fun e he r h => ?_, ?_⟩
            · rw [← Option.some.inj he] at h
              exact pre_ (Ev.neg c1 (Ev.neg c2 (Ev.neg c3 (tail_ 0 h))))
            · intro x hx e
              exfalso
              have hh := hent x hx e
              injection hh with hh1 _
              subst hh1
              have q := (bdrop_cons (s := strOfNums [letB x.f0, 48 + x.f1]) (i := 0) (x := letB x.f0) (l := [48 + x.f1]) (by omega) (by rw [b0]; rfl)).2.1
              have := letB_cases x.f0
              omega
  case nil =>
    exact absurd (spl_length ((58 : UInt8).toNat : Int) (bytesOf p) []).1 (by rw [hw]; decide)
  case cons.nil =>
    refine ⟨none, fun _ => ?_, fun e he => (by cases he), fun x hx e => (by have := hent x hx e; injection this with _ h; cases h)⟩
    refine Ev.step (fun _ => spec_ParseAcl.l0.eq_2 ..) (Ev.pos a (Ev.pos h0 (Ev.pos a ?_)))
    rw [hb]
    exact Ev.bind hsp (Ev.neg ht' (Ev.neg (by show ¬ ((1 : Nat) : Int) = 2; decide) (Ev.step (fun _ => spec_ParseAcl.j1.eq_2 ..) (Ev.pos rfl (Ev.now _)))))
  case cons.cons.cons =>
    refine ⟨none, fun _ => ?_, fun e he => (by cases he), fun x hx e => (by have := hent x hx e; injection this with _ h; injection h with _ h; cases h)⟩
    refine Ev.step (fun _ => spec_ParseAcl.l0.eq_2 ..) (Ev.pos a (Ev.pos h0 (Ev.pos a ?_)))
    rw [hb]
    exact Ev.bind hsp (Ev.neg ht' (Ev.neg (by simp only [List.map_cons, List.length_cons]; omega) (Ev.step (fun _ => spec_ParseAcl.j1.eq_2 ..) (Ev.pos rfl (Ev.now _)))))
theorem parseAcl_spec_l (t : ByteArray) (ht : t ≠ (⟨#[45]⟩ : ByteArray)) (ps : List ByteArray) (hp : ps.length ≤ 1048576) (hz : ∀ p ∈ ps, p.size ≤ 1048576) (l : List ByteArray) : ∀ (i : Int) (out : List S33), 0 ≤ i → ps.drop i.toNat = l → (out.length : Int) = i → out.length ≤ 1048576 →
    ∃ r, Ev (fun k => spec_ParseAcl.l0 k t out ps (ps.length : Int) i) r ∧ (r = ([], false) ∨ ∃ o, isAclM o = true ∧ r = (o, true) ∧ t = fmtAcl o) ∧ ∀ m, l = m.map entS → (∀ x ∈ m, entryM x = true) → t ≠ (⟨#[]⟩ : ByteArray) → t = fmtAcl (out ++ m) → r = (out ++ m, true) := by
  induction l with
  | nil =>
    intro i out h0 h hl hz2
    have hn := ldrop_nil h0 h
    obtain ⟨r, j1, j2, j3⟩ := parseAcl_j2 t out hz2
    refine ⟨r, Ev.step (fun _ => spec_ParseAcl.l0.eq_2 ..) (Ev.neg (by omega) j1), j2, ?_⟩
    intro m hm _ hne hf
    have : m = [] := List.map_eq_nil_iff.1 hm.symm
    rw [this, List.append_nil] at hf ⊢
    exact j3 hne hf
  | cons p l ih =>
    intro i out h0 h hl hz2
    obtain ⟨a, b, c, e⟩ := ldrop_cons ByteArray.empty h0 h
    obtain ⟨oe, o1, o2, o3⟩ := parseAcl_round t ht ps p (hz p (by
      have : p ∈ ps.drop i.toNat := by rw [h]; exact List.mem_cons_self ..
      exact List.mem_of_mem_drop this)) i h0 a hp b out hz2
    cases oe with
    | none =>
      refine ⟨([], false), o1 rfl, Or.inl rfl, ?_⟩
      intro m hm he _ _
      cases m with
      | nil => cases hm
      | cons x m =>
        rw [List.map_cons] at hm
        injection hm with hm1 _
        have := o3 x (he x (List.mem_cons_self ..)) hm1
        cases this
    | some x0 =>
      by_cases hz3 : out.length < 1048576
      · obtain ⟨r, p1, p2, p3⟩ := ih (i + 1) (out ++ [x0]) (by omega) c (by rw [List.length_append, List.length_singleton]; omega) (by rw [List.length_append, List.length_singleton]; omega)
        refine ⟨r, o2 x0 rfl r p1, p2, ?_⟩
        intro m hm he hne hf
        cases m with
        | nil => cases hm
        | cons x m =>
          rw [List.map_cons] at hm
          injection hm with hm1 hm2
          have hx := o3 x (he x (List.mem_cons_self ..)) hm1
          have hx' : x0 = x := Option.some.inj hx
          subst hx'
          have := p3 m hm2 (fun y hy => he y (List.mem_cons_of_mem _ hy)) hne
          rw [List.append_assoc] at this
          exact this hf
      · omega
theorem parseAcl_spec (t : ByteArray) (hs : t.size ≤ 1048576) : ∃ r, Ev (fun k => spec_ParseAcl.f k t) r ∧ GoodL t r := by
  have hsp := splitAny_spec t 44 (by omega)
  unfold spec_ParseAcl.f
  by_cases hd : t = (⟨#[45]⟩ : ByteArray)
  · obtain ⟨r, j1, j2, j3⟩ := parseAcl_j2 t [] (by simp)
    have hr : r = ([], true) := j3 (by rw [hd]; decide) (by rw [hd]; rfl)
    refine ⟨r, Ev.bind hsp ?_, ?_⟩
    · have e : (spl ((44 : UInt8).toNat : Int) [] (bytesOf t)).map strOfNums = [(⟨#[45]⟩ : ByteArray)] := by rw [hd]; rfl
      rw [e]
      refine Ev.step (fun _ => spec_ParseAcl.l0.eq_2 ..) (Ev.pos (by decide) (Ev.pos (by decide) (Ev.pos (by decide) (Ev.bind (splitAny_spec _ 58 (by decide)) (Ev.pos (by rw [hd]; exact tl45) j1)))))
    · rw [hr]
      refine ⟨Or.inr ⟨[], by decide, rfl, by rw [hd]; rfl⟩, ?_⟩
      intro l hl ht
      by_cases hn : l = []
      · rw [hn]
      · exact absurd (ht.symm.trans hd) (fmt_long hl hn)
  · have hd' : ¬ t.toList = ([45] : List UInt8) := fun e => hd ((ba_eq_iff t (⟨#[45]⟩ : ByteArray)).1 (e.trans tl45.symm))
    obtain ⟨e, es, h1, h2⟩ := spl_first 44 (bytesOf t) []
    rw [bytesOf_length] at h2
    by_cases he : e = []
    · subst he
      refine ⟨([], false), Ev.bind hsp ?_, Or.inl rfl, fun l hl ht => (no_list hd h1 l hl ht).elim⟩
      show Ev (fun k => spec_ParseAcl.l0 k t [] ((spl 44 [] (bytesOf t)).map strOfNums) (((spl 44 [] (bytesOf t)).map strOfNums).length : Int) 0) _
      rw [h1, List.map_cons]
      exact Ev.step (fun _ => spec_ParseAcl.l0.eq_2 ..) (Ev.pos (by rw [List.length_cons]; omega) (Ev.pos (by decide) (Ev.pos (by rw [List.length_cons]; omega) (Ev.bind (splitAny_spec (strOfNums []) 58 (by decide)) (Ev.neg hd' (Ev.neg (by decide) (Ev.step (fun _ => spec_ParseAcl.j1.eq_2 ..) (Ev.pos rfl (Ev.now _)))))))))
    · have hlen : (spl 44 [] (bytesOf t)).length ≤ 1048576 := by
        rw [h1, List.length_cons]
        have : 0 < e.length := List.length_pos_iff.2 he
        simp only [List.length_nil] at h2
        omega
      obtain ⟨r, p1, p2, p3⟩ := parseAcl_spec_l t hd ((spl 44 [] (bytesOf t)).map strOfNums) (by rw [List.length_map]; exact hlen) (by
        intro p hp
        obtain ⟨e, he, rfl⟩ := List.mem_map.1 hp
        have := (spl_mem 44 (bytesOf t) [] e he).1
        rw [strOfNums_size]
        rw [bytesOf_length] at this
        simp only [List.length_nil] at this
        omega) _ 0 [] (by omega) rfl rfl (by simp)
      refine ⟨r, Ev.bind hsp p1, p2, ?_⟩
      intro l hl ht
      have hn : l ≠ [] := by
        intro e
        rw [e] at ht
        exact hd (ht.trans rfl)
      have hne : t ≠ (⟨#[]⟩ : ByteArray) := by
        intro hz
        rw [hz] at h1
        have h3 : [] :: [] = e :: es := h1
        injection h3 with h3 _
        exact he h3.symm
      have := p3 l (by rw [ht]; exact fmt_split hl hn) (isAcl_len hl).2 hne (by rw [List.nil_append]; exact ht)
      rw [List.nil_append] at this
      exact this

theorem indexByte_mem (l : List UInt8) (c : UInt8) : Go.Lib.indexByte l c ≥ 0 ↔ c ∈ l := by
  induction l with
  | nil => simp [Go.Lib.indexByte]
  | cons b l ih =>
    unfold Go.Lib.indexByte
    have hg := Go.Lib.indexByte_ge l c
    by_cases hb : (b == c) = true
    · rw [if_pos hb]
      have : b = c := by simpa using hb
      subst this
      simp
    · rw [if_neg hb]
      have hb' : c ≠ b := fun e => hb (by rw [e]; simp)
      rw [List.mem_cons, or_iff_right hb', ← ih]
      by_cases h : (Go.Lib.indexByte l c == -1) = true
      · rw [if_pos h]
        have : Go.Lib.indexByte l c = -1 := by simpa using h
        omega
      · rw [if_neg h]
        have : Go.Lib.indexByte l c ≠ -1 := by simpa using h
        omega
theorem mem_bytesOf (s : ByteArray) (b : Int) (h0 : 0 ≤ b) (h1 : b ≤ 255) : b.toNat.toUInt8 ∈ s.data.toList ↔ b ∈ bytesOf s := by
  unfold bytesOf
  rw [List.mem_map]
  constructor
  · intro h
    refine ⟨_, h, ?_⟩
    have : (b.toNat.toUInt8).toNat = b.toNat % 256 := by simp [Nat.toUInt8]
    rw [this]
    omega
  · rintro ⟨a, h, rfl⟩
    have : (((a.toNat : Nat) : Int).toNat).toUInt8 = a := by
      rw [Int.toNat_natCast]
      simp [Nat.toUInt8]
    rw [this]
    exact h

theorem spl_impl (s : ByteArray) (c : UInt8) (hs : s.size ≤ 1048576) (r : List Int) : ∀ (cur : List Int) (a : Nat) (x : List ByteArray), (bytesOf s).drop a = cur ++ r → a ≤ s.size → x.length ≤ a →
    Ev (fun k => impl_SplitAny.l0 k s (⟨#[c]⟩ : ByteArray) x (a : Int) (s.size : Int) ((a + cur.length : Nat) : Int)) (x ++ (spl (c.toNat : Int) cur r).map strOfNums) := by
  induction r with
  | nil =>
    intro cur a x h ha hx
    have hl : cur.length = s.size - a := by
      have := congrArg List.length h
      rw [List.length_drop, bytesOf_length, List.append_nil] at this
      exact this.symm
    refine Ev.step (fun _ => impl_SplitAny.l0.eq_2 ..) (Ev.neg (by omega) (Ev.pos (by omega) (Ev.pos (by omega) (Ev.pos (by omega) ?_))))
    rw [Int.toNat_natCast, piece_str h (by omega)]
    exact Ev.now _
  | cons b r ih =>
    intro cur a x h ha hx
    have hl : cur.length + (r.length + 1) = s.size - a := by
      have := congrArg List.length h
      rw [List.length_drop, bytesOf_length, List.length_append, List.length_cons] at this
      exact this.symm
    have hd : (bytesOf s).drop (a + cur.length) = b :: r := by rw [← List.drop_drop, h, List.drop_left]
    obtain ⟨h1, h2, h3, h4⟩ := bdrop_cons (s := s) (i := ((a + cur.length : Nat) : Int)) (x := b) (l := r) (by omega) (by rw [Int.toNat_natCast]; exact hd)
    have e1 : ((a + cur.length : Nat) : Int) + 1 = ((a + cur.length + 1 : Nat) : Int) := by omega
    have hb := bytesOf_range (s := s) (x := b) (List.mem_of_mem_drop (by rw [hd]; exact List.mem_cons_self ..))
    have hf : strings_IndexByte.f (⟨#[c]⟩ : ByteArray) (bt s ((a + cur.length : Nat) : Int)) = some (Go.Lib.indexByte [c] (bt s ((a + cur.length : Nat) : Int)).toNat.toUInt8) := rfl
    have hiff : Go.Lib.indexByte [c] (bt s ((a + cur.length : Nat) : Int)).toNat.toUInt8 ≥ 0 ↔ b = (c.toNat : Int) := by
      have m := mem_bytesOf (⟨#[c]⟩ : ByteArray) b hb.1 hb.2
      rw [indexByte_mem, h2]
      refine m.trans ?_
      show b ∈ [(c.toNat : Int)] ↔ _
      exact List.mem_singleton
    refine Ev.step (fun _ => impl_SplitAny.l0.eq_2 ..) (Ev.pos (by omega) (Ev.pos (by omega) (Ev.pos h1 (Ev.bind0 hf ?_))))
    show Ev _ (x ++ List.map strOfNums (if b = (c.toNat : Int) then cur :: spl (c.toNat : Int) [] r else spl (c.toNat : Int) (cur ++ [b]) r))
    rw [w64 (n := ((a + cur.length : Nat) : Int) + 1) (by omega) (by omega), e1]
    by_cases hc : b = (c.toNat : Int)
    · rw [if_pos hc]
      refine Ev.pos (hiff.2 hc) (Ev.pos (by omega) (Ev.pos (by omega) (Ev.pos (by omega) (Ev.pos (by omega) ?_))))
      rw [Int.toNat_natCast, Int.toNat_natCast, piece_str h rfl]
      have g := ih [] (a + cur.length + 1) (x ++ [strOfNums cur]) (by rw [List.nil_append]; rw [e1, Int.toNat_natCast] at h3; exact h3) (by omega) (by rw [List.length_append, List.length_singleton]; omega)
      rw [List.append_assoc] at g
      exact g
    · rw [if_neg hc]
      refine Ev.neg (fun e => hc (hiff.1 e)) ?_
      have g := ih (cur ++ [b]) a x (by rw [h, List.append_assoc]; rfl) ha hx
      rw [List.length_append, List.length_singleton] at g
      exact g
theorem splitAny_impl (s : ByteArray) (c : UInt8) (hs : s.size ≤ 1048576) : Ev (fun k => impl_SplitAny.f k s (⟨#[c]⟩ : ByteArray)) ((spl (c.toNat : Int) [] (bytesOf s)).map strOfNums) :=
  spl_impl s c hs (bytesOf s) [] 0 [] rfl (by omega) (by simp)

theorem ugm_at {n : Int} (h : n = 1 ∨ n = 2 ∨ n = 3) : Go.Lib.indexByte (⟨#[117, 103, 109]⟩ : ByteArray).data.toList (letB n).toNat.toUInt8 = n - 1 := by
  rcases h with rfl | rfl | rfl <;> decide +kernel
theorem ugm_range (c : UInt8) : -1 ≤ Go.Lib.indexByte (⟨#[117, 103, 109]⟩ : ByteArray).data.toList c ∧ Go.Lib.indexByte (⟨#[117, 103, 109]⟩ : ByteArray).data.toList c ≤ 2 := by
  refine ⟨Go.Lib.indexByte_ge _ _, ?_⟩
  show Go.Lib.indexByte [117, 103, 109] c ≤ 2
  unfold Go.Lib.indexByte Go.Lib.indexByte Go.Lib.indexByte Go.Lib.indexByte
  repeat' split
  all_goals first
    | omega
    | decide
theorem bt_ent {x : S33} (h : entryM x = true) : bt (entS x) 0 = letB x.f0 ∧ bt (entS x) 1 = 48 + x.f1 ∧ bt (entS x) 3 = 48 + x.f2 := by
  have hb := entS_bytes h
  refine ⟨?_, ?_, ?_⟩
  · exact (bdrop_cons (s := entS x) (i := 0) (x := letB x.f0) (l := [48 + x.f1, 58, 48 + x.f2]) (by omega) (by rw [hb]; rfl)).2.1
  · exact (bdrop_cons (s := entS x) (i := 1) (x := 48 + x.f1) (l := [58, 48 + x.f2]) (by omega) (by rw [hb]; rfl)).2.1
  · exact (bdrop_cons (s := entS x) (i := 3) (x := 48 + x.f2) (l := []) (by omega) (by rw [hb]; rfl)).2.1
theorem bt_lt {s : ByteArray} {i : Int} (h0 : 0 ≤ i) (h : i < (s.size : Int)) : 0 ≤ bt s i ∧ bt s i ≤ 255 := by
  cases hh : (bytesOf s).drop i.toNat with
  | nil => exact absurd (bdrop_nil h0 hh) (by omega)
  | cons b m =>
    obtain ⟨_, k2, _, _⟩ := bdrop_cons h0 hh
    rw [k2]
    exact bytesOf_range (List.mem_of_mem_drop (by rw [hh]; exact List.mem_cons_self ..))
theorem parseAcl_impl_l (t : ByteArray) (ps : List ByteArray) (hp : ps.length ≤ 1048576) (l : List ByteArray) : ∀ (i : Int) (out : List S33), 0 ≤ i → ps.drop i.toNat = l → (out.length : Int) = i → out.length ≤ 1048576 →
    ∃ r, Ev (fun k => impl_ParseAcl.l0 k t out ps (ps.length : Int) i) r ∧ (r = ([], false) ∨ ∃ o, r = (o, true) ∧ t = fmtAcl o) ∧ ∀ m, l = m.map entS → (∀ x ∈ m, entryM x = true) → t = fmtAcl (out ++ m) → r = (out ++ m, true) := by
  induction l with
  | nil =>
    intro i out h0 h hl hz
    have hn := ldrop_nil h0 h
    obtain ⟨_, f2⟩ := formatAcl_val out hz
    by_cases e : t = fmtAcl out
    · refine ⟨(out, true), Ev.step (fun _ => impl_ParseAcl.l0.eq_2 ..) (Ev.neg (by omega) (Ev.bind f2 (Ev.pos (by rw [← e]) (Ev.now _)))), Or.inr ⟨out, rfl, e⟩, ?_⟩
      intro m hm _ _
      have : m = [] := List.map_eq_nil_iff.1 hm.symm
      rw [this, List.append_nil]
    · refine ⟨([], false), Ev.step (fun _ => impl_ParseAcl.l0.eq_2 ..) (Ev.neg (by omega) (Ev.bind f2 (Ev.neg (fun h => e ((ba_eq_iff _ _).1 h).symm) (Ev.now _)))), Or.inl rfl, ?_⟩
      intro m hm _ ht
      have : m = [] := List.map_eq_nil_iff.1 hm.symm
      rw [this, List.append_nil] at ht
      exact absurd ht e
  | cons p l ih =>
    intro i out h0 h hl hz
    obtain ⟨a, b, c, e⟩ := ldrop_cons ByteArray.empty h0 h
    by_cases h4 : (p.size : Int) = 4
    · have b0 := bt_lt (s := p) (i := 0) (by omega) (by omega)
      have b1 := bt_lt (s := p) (i := 1) (by omega) (by omega)
      have b3 := bt_lt (s := p) (i := 3) (by omega) (by omega)
      have hr := ugm_range (bt p 0).toNat.toUInt8
      by_cases hz2 : out.length < 1048576
      · obtain ⟨r, p1, p2, p3⟩ := ih (i + 1) (out ++ [⟨1 + Go.Lib.indexByte (⟨#[117, 103, 109]⟩ : ByteArray).data.toList (bt p 0).toNat.toUInt8, bt p 1 - 48, bt p 3 - 48⟩]) (by omega) c (by rw [List.length_append, List.length_singleton]; omega) (by rw [List.length_append, List.length_singleton]; omega)
        refine ⟨r, Ev.step (fun _ => impl_ParseAcl.l0.eq_2 ..) (Ev.pos a (Ev.pos h0 (Ev.pos a ?_))), p2, ?_⟩
        · rw [b]
          refine Ev.pos h4 (Ev.pos (by omega) (Ev.bind0 rfl (Ev.pos (by omega) (Ev.pos (by omega) (Ev.pos (by omega) ?_)))))
          rw [w64 (n := bt p 1) (by omega) (by omega), w64 (n := bt p 3) (by omega) (by omega), w64 (n := bt p 1 - 48) (by omega) (by omega), w64 (n := bt p 3 - 48) (by omega) (by omega), w64 (n := 1 + Go.Lib.indexByte (⟨#[117, 103, 109]⟩ : ByteArray).data.toList (bt p 0).toNat.toUInt8) (by omega) (by omega), w64 (n := i + 1) (by omega) (by omega)]
          exact p1
        · intro m hm he ht
          cases m with
          | nil => cases hm
          | cons x m =>
            rw [List.map_cons] at hm
            injection hm with hm1 hm2
            have hx := he x (List.mem_cons_self ..)
            obtain ⟨t0, t1, t3⟩ := bt_ent hx
            obtain ⟨e1, _⟩ := entry_facts hx
            have hent : (⟨1 + Go.Lib.indexByte (⟨#[117, 103, 109]⟩ : ByteArray).data.toList (bt p 0).toNat.toUInt8, bt p 1 - 48, bt p 3 - 48⟩ : S33) = x := by
              rw [hm1, t0, t1, t3, ugm_at e1, show 1 + (x.f0 - 1) = x.f0 by omega, show 48 + x.f1 - 48 = x.f1 by omega, show 48 + x.f2 - 48 = x.f2 by omega]
            rw [hent] at p3
            have := p3 m hm2 (fun y hy => he y (List.mem_cons_of_mem _ hy))
            rw [List.append_assoc] at this
            exact this ht
      · omega
    · refine ⟨([], false), Ev.step (fun _ => impl_ParseAcl.l0.eq_2 ..) (Ev.pos a (Ev.pos h0 (Ev.pos a (Ev.neg (by rw [b]; exact h4) (Ev.now _))))), Or.inl rfl, ?_⟩
      intro m hm he ht
      cases m with
      | nil => cases hm
      | cons x m =>
        rw [List.map_cons] at hm
        injection hm with hm1 hm2
        have := entS_size (he x (List.mem_cons_self ..))
        rw [hm1] at h4
        omega
theorem parseAcl_impl (t : ByteArray) (hs : t.size ≤ 1048576) : ∃ r, Ev (fun k => impl_ParseAcl.f k t) r ∧ GoodL t r := by
  unfold impl_ParseAcl.f
  by_cases hd : t = (⟨#[45]⟩ : ByteArray)
  · refine ⟨([], true), Ev.pos (by rw [hd]; exact tl45) (Ev.now _), Or.inr ⟨[], by decide, rfl, by rw [hd]; rfl⟩, ?_⟩
    intro l hl ht
    by_cases hn : l = []
    · rw [hn]
    · exact absurd (ht.symm.trans hd) (fmt_long hl hn)
  · have hd' : ¬ t.toList = ([45] : List UInt8) := fun e => hd ((ba_eq_iff t (⟨#[45]⟩ : ByteArray)).1 (e.trans tl45.symm))
    have hsp := splitAny_impl t 44 (by omega)
    obtain ⟨e, es, h1, h2⟩ := spl_first 44 (bytesOf t) []
    rw [bytesOf_length] at h2
    by_cases he : e = []
    · subst he
      refine ⟨([], false), Ev.neg hd' (Ev.bind hsp ?_), Or.inl rfl, fun l hl ht => (no_list hd h1 l hl ht).elim⟩
      show Ev (fun k => impl_ParseAcl.l0 k t [] ((spl 44 [] (bytesOf t)).map strOfNums) (((spl 44 [] (bytesOf t)).map strOfNums).length : Int) 0) _
      rw [h1, List.map_cons]
      exact Ev.step (fun _ => impl_ParseAcl.l0.eq_2 ..) (Ev.pos (by rw [List.length_cons]; omega) (Ev.pos (by decide) (Ev.pos (by rw [List.length_cons]; omega) (Ev.neg (by show ¬ ((0 : Nat) : Int) = 4; decide) (Ev.now _)))))
    · have hlen : (spl 44 [] (bytesOf t)).length ≤ 1048576 := by
        rw [h1, List.length_cons]
        have : 0 < e.length := List.length_pos_iff.2 he
        simp only [List.length_nil] at h2
        omega
      obtain ⟨r, p1, p2, p3⟩ := parseAcl_impl_l t ((spl 44 [] (bytesOf t)).map strOfNums) (by rw [List.length_map]; exact hlen) _ 0 [] (by omega) rfl rfl (by simp)
      refine ⟨r, Ev.neg hd' (Ev.bind hsp p1), ?_, ?_⟩
      · rcases p2 with p2 | ⟨o, p2, e'⟩
        · exact Or.inl p2
        · refine Or.inr ⟨o, ?_, p2, e'⟩
          by_cases ho : isAclM o = true
          · exact ho
          · rw [fmt_empty ho] at e'
            subst e'
            have h3 : [] :: [] = e :: es := h1
            injection h3 with h3 _
            exact absurd h3.symm he
      · intro l hl ht
        have hn : l ≠ [] := by
          intro e
          rw [e] at ht
          exact hd (ht.trans rfl)
        have := p3 l (by rw [ht]; exact fmt_split hl hn) (isAcl_len hl).2 (by rw [List.nil_append]; exact ht)
        rw [List.nil_append] at this
        exact this

theorem eqAclEntryS_l (d : Nat) : ∀ (i : Int) (l : List S33), 0 ≤ i → i + d = (l.length : Int) → l.length ≤ 1048576 → Ev (fun k => laws_eqAclEntryS.l0 k l l i) true := by
  induction d with
  | zero =>
    intro i l h0 hd hl
    exact Ev.step (fun _ => laws_eqAclEntryS.l0.eq_2 ..) (Ev.neg (by omega) (Ev.now _))
  | succ d ih =>
    intro i l h0 hd hl
    refine Ev.step (fun _ => laws_eqAclEntryS.l0.eq_2 ..) (Ev.pos (by omega) (Ev.pos h0 (Ev.pos (by omega) (Ev.bind0 (a := true) (by unfold laws_eqAclEntry.f; simp) (Ev.pos rfl ?_)))))
    rw [w64 (n := i + 1) (by omega) (by omega)]
    exact ih (i + 1) l (by omega) (by omega) hl
theorem eqAclEntryS_f (l : List S33) (hl : l.length ≤ 1048576) : Ev (fun k => laws_eqAclEntryS.f k l l) true := by
  unfold laws_eqAclEntryS.f
  exact Ev.pos rfl (eqAclEntryS_l l.length 0 l (by omega) (by omega) hl)

theorem rdAcl_set (l : List S33) (i : Int) (v : S33) (h0 : 0 ≤ i) (h : i < (l.length : Int)) : rd_T33 (l.set i.toNat v) i = v := by
  show rdOf z33 (l.set i.toNat v) i = v
  unfold rdOf
  rw [List.getD_eq_getElem?_getD, List.getElem?_set_self (by omega)]
  rfl
theorem markAclEntryS_l (d : Nat) : ∀ (i k : Int) (l : List S33), 0 ≤ i → i + d = (l.length : Int) → 0 ≤ k → k + 3 * d ≤ 1152921504606846976 → (l.length : Int) ≤ 1152921504606846976 →
    ∃ l', Ev (fun n => laws_markAclEntryS.l0 n l k i) (k + 3 * d, l') ∧ l'.length = l.length ∧ (∀ j : Nat, (j : Int) < i → l'[j]? = l[j]?) ∧
      (∀ j : Nat, j < d → l'[i.toNat + j]? = some ⟨k + 3 * j, k + 3 * j + 1, k + 3 * j + 1 + 1⟩) := by
  induction d with
  | zero =>
    intro i k l h0 hd hk hk' hl
    refine ⟨l, ?_, rfl, fun _ _ => rfl, fun j hj => absurd hj (Nat.not_lt_zero _)⟩
    rw [show k + 3 * ((0 : Nat) : Int) = k by omega]
    exact Ev.step (fun _ => laws_markAclEntryS.l0.eq_2 ..) (Ev.neg (by omega) (Ev.now _))
  | succ d ih =>
    intro i k l h0 hd hk hk' hl
    obtain ⟨l', h1, h2, h3, h4⟩ := ih (i + 1) (k + 1 + 1 + 1) (l.set i.toNat ⟨k, k + 1, k + 1 + 1⟩) (by omega) (by rw [List.length_set]; omega) (by omega) (by omega) (by rw [List.length_set]; omega)
    rw [show k + 1 + 1 + 1 + 3 * (d : Int) = k + 3 * ((d + 1 : Nat) : Int) by omega] at h1
    rw [List.length_set] at h2
    refine ⟨l', Ev.step (fun _ => laws_markAclEntryS.l0.eq_2 ..) (Ev.pos (by omega) (Ev.pos h0 (Ev.bind0 rfl (Ev.bind0 rfl ?_)))), h2, ?_, ?_⟩
    · rw [rdAcl_set _ _ _ h0 (by omega), rdAcl_set _ _ _ h0 (by rw [List.length_set]; omega)]
      simp only []
      rw [List.set_set, List.set_set, w64 (n := k + 1) (by omega) (by omega), w64 (n := k + 1 + 1) (by omega) (by omega), w64 (n := k + 1 + 1 + 1) (by omega) (by omega), w64 (n := i + 1) (by omega) (by omega)]
      exact h1
    · intro j hj
      rw [h3 j (by omega), List.getElem?_set_ne (by omega)]
    · intro j hj
      cases j with
      | zero =>
        rw [h3 (i.toNat + 0) (by omega), Nat.add_zero, List.getElem?_set_self (by omega)]
        simp
      | succ j =>
        have := h4 j (by omega)
        rw [show (i + 1).toNat + j = i.toNat + (j + 1) by omega] at this
        rw [this, show k + 1 + 1 + 1 + 3 * (j : Int) = k + 3 * ((j + 1 : Nat) : Int) by omega]
theorem markAclEntryS_ex (l : List S33) (k : Int) (hk : 0 ≤ k) (h : k + 3 * (l.length : Int) ≤ 1152921504606846976) :
    ∃ l', Ev (fun n => laws_markAclEntryS.f n l k) (k + 3 * (l.length : Int), l') ∧ l'.length = l.length := by
  obtain ⟨l', h1, h2, _⟩ := markAclEntryS_l l.length 0 k l (by omega) (by omega) hk h (by omega)
  exact ⟨l', h1, h2⟩

theorem heldAclEntryS_l (d : Nat) : ∀ (i k : Int) (l : List S33), 0 ≤ i → i + d = (l.length : Int) → 0 ≤ k → k + 3 * d ≤ 1152921504606846976 → (l.length : Int) ≤ 1152921504606846976 →
    (∀ j : Nat, j < d → l[i.toNat + j]? = some ⟨k + 3 * j, k + 3 * j + 1, k + 3 * j + 1 + 1⟩) → Ev (fun n => laws_heldAclEntryS.l0 n l k i) (k + 3 * d) := by
  induction d with
  | zero =>
    intro i k l h0 hd hk hk' hl _
    rw [show k + 3 * ((0 : Nat) : Int) = k by omega]
    exact Ev.step (fun _ => laws_heldAclEntryS.l0.eq_2 ..) (Ev.neg (by omega) (Ev.now _))
  | succ d ih =>
    intro i k l h0 hd hk hk' hl h
    have e : rd_T33 l i = ⟨k, k + 1, k + 1 + 1⟩ := by
      have h' := h 0 (by omega)
      rw [Nat.add_zero] at h'
      show rdOf z33 l i = _
      unfold rdOf
      rw [List.getD_eq_getElem?_getD, h']
      simp
    have g := ih (i + 1) (k + 1 + 1 + 1) l (by omega) (by omega) (by omega) (by omega) hl (by
      intro j hj
      have := h (j + 1) (by omega)
      rw [show i.toNat + (j + 1) = (i + 1).toNat + j by omega] at this
      rw [this, show k + 1 + 1 + 1 + 3 * (j : Int) = k + 3 * ((j + 1 : Nat) : Int) by omega])
    rw [show k + 1 + 1 + 1 + 3 * (d : Int) = k + 3 * ((d + 1 : Nat) : Int) by omega] at g
    refine Ev.step (fun _ => laws_heldAclEntryS.l0.eq_2 ..) (Ev.pos (by omega) (Ev.pos h0 ?_))
    rw [e]
    simp only []
    rw [w64 (n := k + 1) (by omega) (by omega), w64 (n := k + 1 + 1) (by omega) (by omega), w64 (n := k + 1 + 1 + 1) (by omega) (by omega), w64 (n := i + 1) (by omega) (by omega)]
    exact Ev.pos (by trivial) (Ev.pos (by trivial) (Ev.pos (by trivial) g))
theorem markHeldAclEntryS_ex (l : List S33) (k : Int) (hk : 0 ≤ k) (h : k + 3 * (l.length : Int) ≤ 1152921504606846976) :
    ∃ l', Ev (fun n => laws_markAclEntryS.f n l k) (k + 3 * (l.length : Int), l') ∧ l'.length = l.length ∧ Ev (fun n => laws_heldAclEntryS.f n l' k) (k + 3 * (l.length : Int)) := by
  obtain ⟨l', h1, h2, h3, h4⟩ := markAclEntryS_l l.length 0 k l (by omega) (by omega) hk h (by omega)
  exact ⟨l', h1, h2, heldAclEntryS_l l.length 0 k l' (by omega) (by omega) hk h (by omega) h4⟩

theorem FnExactParseAcl : laws_FnExactParseAcl.Pure := by
  intro s hs
  apply Ev.rounds
  unfold laws_FnExactParseAcl.f
  by_cases hb : (s.size : Int) > 1048576
  · exact Ev.pos hb (Ev.now _)
  · obtain ⟨r, h1, g1⟩ := parseAcl_spec s (by omega)
    obtain ⟨r', h2, g2⟩ := parseAcl_impl s (by omega)
    have hr := g1.uniq g2
    subst hr
    have h3 := g1.len
    have he := eqAclEntryS_f r.1 (by omega)
    obtain ⟨l, h4, h5, h6⟩ := markHeldAclEntryS_ex r.1 1 (by omega) (by omega)
    refine Ev.neg hb (Ev.bind h1 (Ev.bind h2 (Ev.bind he (Ev.pos rfl ?_))))
    rw [bne_self_eq_false]
    refine Ev.step (fun _ => laws_FnExactParseAcl.j0.eq_2 ..) (Ev.neg (by decide) (Ev.bind h4 (Ev.bind h6 (Ev.neg (by omega) (Ev.pos rfl (Ev.bind h2 (Ev.bind he (Ev.pos rfl ?_))))))))
    rw [bne_self_eq_false]
    exact Ev.step (fun _ => laws_FnExactParseAcl.j1.eq_2 ..) (Ev.neg (by decide) (Ev.bind h6 (Ev.neg (by omega) (Ev.pos rfl (Ev.now _)))))

end Go.Proofs.YtmnojegajblagacDoor.Pure
