/- The law FnExactIsAcl holds for every input of its kind; no further condition. -/
import Derived.Test.YtcafdolliedcaabPFnExactIsAclx5
import Derived.Test.YtcafdolliedcaabLibBase
import Derived.Test.YtcafdolliedcaabLibOpen
namespace Go.Proofs.Ytcafdolliedcaab.Pure
open Go.RowKit Go.Proofs.Ytcafdolliedcaab.PFnExactIsAcl Go.Proofs.Ytcafdolliedcaab.Lib Go.Proofs.YtcafdolliedcaabW.PrintWords Go.Proofs.YtcafdolliedcaabW.PrintLast Go.Proofs.YtcafdolliedcaabW.PrintMore
set_option linter.unusedVariables false
set_option linter.unusedSimpArgs false

def aclTo (x : S88) : S85 := ⟨x.f0, x.f1, x.f2⟩
theorem szAclEntryS_ex (l : List S88) (hl : l.length ≤ 9223372036854775807) (n : Int) (hn : 0 ≤ n) (hn' : n ≤ 1048576) : ∃ t, laws_szAclEntryS.f l n = some t ∧ (t < 0 ∨ ((l.length : Int) ≤ n ∧ t = n - (l.length : Int))) := by
  unfold laws_szAclEntryS.f
  rw [w64 (by omega) (by omega)]
  by_cases h : n - (l.length : Int) < 0
  · rw [if_pos h]
    exact ⟨-1, by simp, by omega⟩
  · rw [if_neg h]
    exact ⟨_, rfl, by omega⟩
theorem toAclEntryS_l (xs : List S88) (hx : xs.length ≤ 1048576) (l : List S88) : ∀ (i : Int) (ys : List S85), 0 ≤ i → xs.drop i.toNat = l → ys.length = xs.length → Ev (fun k => laws_toAclEntryS.l0 k xs ys i) (ys.take i.toNat ++ l.map aclTo) := by
  induction l with
  | nil =>
    intro i ys h0 h hy
    have := ldrop_nil h0 h
    rw [List.map_nil, List.append_nil, List.take_of_length_le (by omega)]
    exact Ev.step (fun _ => laws_toAclEntryS.l0.eq_2 ..) (Ev.neg (by omega) (Ev.now _))
  | cons x l ih =>
    intro i ys h0 h hy
    obtain ⟨a, b, c, e⟩ := ldrop_cons z88 h0 h
    refine Ev.step (fun _ => laws_toAclEntryS.l0.eq_2 ..) (Ev.pos a (Ev.pos h0 (Ev.bind0 rfl (Ev.pos (by omega) ?_))))
    have := ih (i + 1) (ys.set i.toNat (aclTo x)) (by omega) c (by rw [List.length_set]; exact hy)
    rw [set_take _ h0 (by omega), List.append_assoc] at this
    rw [w64 (by omega) (by omega), show rd_T88 xs i = x from b]
    exact this
theorem toAclEntryS_f (xs : List S88) (hx : xs.length ≤ 1048576) : Ev (fun k => laws_toAclEntryS.f k xs) (xs.map aclTo) := by
  unfold laws_toAclEntryS.f
  exact Ev.pos (by omega) (Ev.pos (by omega) (toAclEntryS_l xs hx xs 0 _ (by omega) rfl (by rw [List.length_replicate]; omega)))

theorem eqAclEntryS_l (d : Nat) : ∀ (i : Int) (l : List S85), 0 ≤ i → i + d = (l.length : Int) → l.length ≤ 1048576 → Ev (fun k => laws_eqAclEntryS.l0 k l l i) true := by
  induction d with
  | zero =>
    intro i l h0 hd hl
    exact Ev.step (fun _ => laws_eqAclEntryS.l0.eq_2 ..) (Ev.neg (by omega) (Ev.now _))
  | succ d ih =>
    intro i l h0 hd hl
    refine Ev.step (fun _ => laws_eqAclEntryS.l0.eq_2 ..) (Ev.pos (by omega) (Ev.pos h0 (Ev.pos (by omega) (Ev.bind0 (a := true) (by unfold laws_eqAclEntry.f; simp) (Ev.pos rfl ?_)))))
    rw [w64 (n := i + 1) (by omega) (by omega)]
    exact ih (i + 1) l (by omega) (by omega) hl
theorem eqAclEntryS_f (l : List S85) (hl : l.length ≤ 1048576) : Ev (fun k => laws_eqAclEntryS.f k l l) true := by
  unfold laws_eqAclEntryS.f
  exact Ev.pos rfl (eqAclEntryS_l l.length 0 l (by omega) (by omega) hl)

theorem l01In_spec (a b c : Int) : spec_l01In.f a b c = some (decide (b ≤ a ∧ a ≤ c)) := by
  unfold spec_l01In.f
  by_cases h : a ≥ b
  · rw [if_pos h]
    simp [show b ≤ a from h]
  · rw [if_neg h]
    simp [show ¬ b ≤ a from h]

theorem isUser_impl (a : Int) : impl_isUser.f a = some (decide (0 ≤ a ∧ a ≤ 3)) := by
  unfold impl_isUser.f
  by_cases h : a ≥ 0
  · rw [if_pos h]
    congr 1
    apply decide_eq_decide.2
    omega
  · rw [if_neg h]
    congr 1
    symm
    apply decide_eq_false
    omega

/-- One entry is well formed. -/
def entryM (x : S85) : Bool := decide (0 ≤ x.f2 ∧ x.f2 ≤ 7 ∧ ((x.f0 = 1 ∨ x.f0 = 2) ∧ 0 ≤ x.f1 ∧ x.f1 ≤ 3 ∨ x.f0 = 3 ∧ x.f1 = 0))
/-- Two neighbours rise. -/
def riseM (x y : S85) : Bool := decide (x.f0 < y.f0 ∨ x.f0 = y.f0 ∧ x.f1 < y.f1)
/-- The entries from one with a left neighbour on. -/
def aclFrom : Option S85 → List S85 → Bool
  | none, [] => true
  | some p, [] => decide (p.f0 = 3)
  | none, x :: l => entryM x && aclFrom (some x) l
  | some p, x :: l => entryM x && (riseM p x && aclFrom (some x) l)
def isAclM (l : List S85) : Bool := decide (l.length ≤ 6) && aclFrom none l
/-- What stands left of place i. -/
def leftOf (xs : List S85) (i : Int) : Option S85 := if i > 0 then some (rd_T85 xs (i - 1)) else none
theorem l05Entry_spec (a b c : Int) : Ev (fun k => spec_l05Entry.f k a b c) (entryM ⟨a, b, c⟩) := by
  unfold spec_l05Entry.f
  refine Ev.bind0 (l01In_spec c 0 7) ?_
  by_cases hc : 0 ≤ c ∧ c ≤ 7
  · refine Ev.pos (by simpa using hc) ?_
    by_cases h1 : a = 1
    · refine Ev.pos h1 (Ev.step (fun _ => spec_l05Entry.j0.eq_2 ..) (Ev.pos (by simpa using h1) (Ev.bind0 (l01In_spec b 0 3) ?_)))
      rw [show entryM ⟨a, b, c⟩ = decide (0 ≤ b ∧ b ≤ 3) by unfold entryM; apply decide_eq_decide.2; simp only; omega]
      exact Ev.now _
    · refine Ev.neg h1 (Ev.step (fun _ => spec_l05Entry.j0.eq_2 ..) ?_)
      by_cases h2 : a = 2
      · refine Ev.pos (by simpa using h2) (Ev.bind0 (l01In_spec b 0 3) ?_)
        rw [show entryM ⟨a, b, c⟩ = decide (0 ≤ b ∧ b ≤ 3) by unfold entryM; apply decide_eq_decide.2; simp only; omega]
        exact Ev.now _
      · refine Ev.neg (by simpa using h2) ?_
        by_cases h3 : a = 3
        · refine Ev.pos h3 ?_
          rw [show entryM ⟨a, b, c⟩ = (b == 0) by unfold entryM; rw [show (b == 0) = decide (b = 0) from rfl]; apply decide_eq_decide.2; simp only; omega]
          exact Ev.now _
        · refine Ev.neg h3 ?_
          rw [show entryM ⟨a, b, c⟩ = false by unfold entryM; apply decide_eq_false; simp only; omega]
          exact Ev.now _
  · refine Ev.neg (by simpa using hc) ?_
    rw [show entryM ⟨a, b, c⟩ = false by unfold entryM; apply decide_eq_false; simp only; omega]
    exact Ev.now _
theorem rd_last (xs : List S85) (i : Int) (h : (xs.length : Int) ≤ i) (h0 : 0 ≤ i) (hi : i ≤ (xs.length : Int)) : i = (xs.length : Int) := by omega
theorem isAcl_spec_l (xs : List S85) (hx : xs.length ≤ 1048576) (l : List S85) : ∀ (i : Int), 0 ≤ i → i ≤ (xs.length : Int) → xs.drop i.toNat = l →
    Ev (fun k => spec_IsAcl.l0 k xs xs (xs.length : Int) i) (aclFrom (leftOf xs i) l && decide (xs.length ≤ 6)) := by
  induction l with
  | nil =>
    intro i h0 hi h
    have h1 := ldrop_nil h0 h
    have hi' : i = (xs.length : Int) := by omega
    subst hi'
    refine Ev.step (fun _ => spec_IsAcl.l0.eq_2 ..) (Ev.neg (by omega) ?_)
    by_cases hz : (xs.length : Int) = 0
    · refine Ev.pos hz ?_
      rw [show leftOf xs (xs.length : Int) = none by unfold leftOf; rw [if_neg (by omega)], aclFrom, show decide (xs.length ≤ 6) = true by simp only [decide_eq_true_eq]; omega]
      exact Ev.now _
    · refine Ev.neg hz ?_
      rw [show leftOf xs (xs.length : Int) = some (rd_T85 xs ((xs.length : Int) - 1)) by unfold leftOf; rw [if_pos (by omega)], aclFrom, w64 (by omega) (by omega)]
      by_cases h6 : (xs.length : Int) ≤ 6
      · refine Ev.pos h6 (Ev.pos (by omega) (Ev.pos (by omega) ?_))
        rw [show decide (xs.length ≤ 6) = true by simp only [decide_eq_true_eq]; omega, Bool.and_true]
        exact Ev.now _
      · refine Ev.neg h6 ?_
        rw [show decide (xs.length ≤ 6) = false by simp only [decide_eq_false_iff_not]; omega, Bool.and_false]
        exact Ev.now _
  | cons x l ih =>
    intro i h0 hi h
    obtain ⟨p, q, c, e⟩ := ldrop_cons z85 h0 h
    have hx' : rd_T85 xs i = x := q
    have := ih (i + 1) (by omega) (by omega) c
    rw [show leftOf xs (i + 1) = some x by unfold leftOf; rw [if_pos (by omega), show i + 1 - 1 = i by omega, hx']] at this
    refine Ev.step (fun _ => spec_IsAcl.l0.eq_2 ..) (Ev.pos p (Ev.pos h0 (Ev.pos p ?_)))
    rw [hx']
    refine Ev.bind (l05Entry_spec x.f0 x.f1 x.f2) ?_
    rw [w64 (n := i + 1) (by omega) (by omega), w64 (n := i - 1) (by omega) (by omega)]
    by_cases c1 : entryM x = true
    · refine Ev.pos c1 ?_
      by_cases c2 : i > 0
      · refine Ev.pos c2 (Ev.pos (by omega) (Ev.pos (by omega) ?_))
        rw [show leftOf xs i = some (rd_T85 xs (i - 1)) by unfold leftOf; rw [if_pos c2], aclFrom, c1, Bool.true_and]
        generalize rd_T85 xs (i - 1) = y at *
        by_cases c3 : y.f0 > x.f0
        · rw [show riseM y x = false by unfold riseM; apply decide_eq_false; omega]
          exact Ev.pos c3 (Ev.now _)
        · refine Ev.neg c3 ?_
          by_cases c4 : y.f0 = x.f0
          · refine Ev.pos c4 ?_
            by_cases c5 : y.f1 ≥ x.f1
            · rw [show riseM y x = false by unfold riseM; apply decide_eq_false; omega]
              exact Ev.pos c5 (Ev.now _)
            · rw [show riseM y x = true by unfold riseM; apply decide_eq_true; omega, Bool.true_and]
              exact Ev.neg c5 this
          · rw [show riseM y x = true by unfold riseM; apply decide_eq_true; omega, Bool.true_and]
            exact Ev.neg c4 this
      · refine Ev.neg c2 ?_
        rw [show leftOf xs i = none by unfold leftOf; rw [if_neg c2], aclFrom, c1, Bool.true_and]
        exact this
    · refine Ev.neg c1 ?_
      have c1' : entryM x = false := by simpa using c1
      have : (aclFrom (leftOf xs i) (x :: l) && decide (xs.length ≤ 6)) = false := by
        cases leftOf xs i <;> simp [aclFrom, c1']
      rw [this]
      exact Ev.now _
theorem cmp_impl (a b : Int) : cmp_Compare_int.f a b = some (if a < b then -1 else if a > b then 1 else 0) := by
  unfold cmp_Compare_int.f cmp_isNaN_int.f
  simp only [bne_self_eq_false, Option.bind_some]
  rw [if_neg (by simp), if_neg (by simp)]
  repeat' split
  all_goals rfl
theorem cmpOr_impl (a b : Int) : Ev (fun k => cmp_Or_int.f k [a, b]) (if a = 0 then b else a) := by
  unfold cmp_Or_int.f
  refine Ev.step (fun _ => cmp_Or_int.l0.eq_2 ..) (Ev.pos (by simp) (Ev.pos (by decide) (Ev.pos (by simp) ?_)))
  rw [show rd [a, b] 0 = a from rfl, show wrap64 (0 + 1) = 1 by unfold wrap64; omega]
  by_cases ha : a = 0
  · refine Ev.pos ha (Ev.step (fun _ => cmp_Or_int.l0.eq_2 ..) (Ev.pos (by simp) (Ev.pos (by decide) (Ev.pos (by simp) ?_))))
    rw [show rd [a, b] 1 = b from rfl, show wrap64 (1 + 1) = 2 by unfold wrap64; omega, if_pos ha]
    by_cases hb : b = 0
    · refine Ev.pos hb (Ev.step (fun _ => cmp_Or_int.l0.eq_2 ..) (Ev.neg (by simp) ?_))
      rw [hb]
      exact Ev.now _
    · exact Ev.neg hb (Ev.now _)
  · rw [if_neg ha]
    exact Ev.neg ha (Ev.now _)
theorem isAcl_j3 {xs : List S85} (hx : xs.length ≤ 1048576) {i : Int} (h0 : 0 ≤ i) (hi : i < (xs.length : Int)) (a b c : Int) {r : Bool} {l : List S85} (he : entryM ⟨a, b, c⟩ = true) (hr : aclFrom (some ⟨a, b, c⟩) l = r) (h : Ev (fun k => impl_IsAcl.l0 k xs xs (xs.length : Int) (i + 1)) r) :
    Ev (fun k => impl_IsAcl.j3 k xs i xs (xs.length : Int) i a b c) (aclFrom (leftOf xs i) (⟨a, b, c⟩ :: l)) := by
  refine Ev.step (fun _ => impl_IsAcl.j3.eq_2 ..) ?_
  rw [w64 (n := i + 1) (by omega) (by omega), w64 (n := i - 1) (by omega) (by omega)]
  by_cases c2 : i > 0
  · rw [show leftOf xs i = some (rd_T85 xs (i - 1)) by unfold leftOf; rw [if_pos c2], aclFrom, he, Bool.true_and, hr]
    generalize rd_T85 xs (i - 1) = y at *
    refine Ev.pos c2 (Ev.pos (by omega) (Ev.pos (by omega) (Ev.bind0 (cmp_impl _ _) (Ev.bind0 (cmp_impl _ _) (Ev.bind (cmpOr_impl _ _) ?_)))))
    by_cases hc : y.f0 < a ∨ y.f0 = a ∧ y.f1 < b
    · rw [show riseM y ⟨a, b, c⟩ = true by unfold riseM; exact decide_eq_true hc, Bool.true_and]
      refine Ev.neg ?_ h
      repeat' split
      all_goals omega
    · rw [show riseM y ⟨a, b, c⟩ = false by unfold riseM; exact decide_eq_false hc, Bool.false_and]
      refine Ev.pos ?_ (Ev.now _)
      repeat' split
      all_goals omega
  · rw [show leftOf xs i = none by unfold leftOf; rw [if_neg c2], aclFrom, he, Bool.true_and, hr]
    exact Ev.neg c2 h
theorem isAcl_impl_l (xs : List S85) (hx : xs.length ≤ 1048576) (l : List S85) : ∀ (i : Int), 0 ≤ i → i ≤ (xs.length : Int) → xs.drop i.toNat = l →
    Ev (fun k => impl_IsAcl.l0 k xs xs (xs.length : Int) i) (aclFrom (leftOf xs i) l) := by
  induction l with
  | nil =>
    intro i h0 hi h
    have h1 := ldrop_nil h0 h
    have hi' : i = (xs.length : Int) := by omega
    subst hi'
    refine Ev.step (fun _ => impl_IsAcl.l0.eq_2 ..) (Ev.neg (by omega) ?_)
    by_cases hz : (xs.length : Int) = 0
    · refine Ev.pos hz ?_
      rw [show leftOf xs (xs.length : Int) = none by unfold leftOf; rw [if_neg (by omega)], aclFrom]
      exact Ev.now _
    · refine Ev.neg hz ?_
      rw [show leftOf xs (xs.length : Int) = some (rd_T85 xs ((xs.length : Int) - 1)) by unfold leftOf; rw [if_pos (by omega)], aclFrom, w64 (by omega) (by omega)]
      exact Ev.pos (by omega) (Ev.pos (by omega) (Ev.now _))
  | cons x l ih =>
    intro i h0 hi h
    obtain ⟨p, q, c, e⟩ := ldrop_cons z85 h0 h
    have hx' : rd_T85 xs i = x := q
    have := ih (i + 1) (by omega) (by omega) c
    rw [show leftOf xs (i + 1) = some x by unfold leftOf; rw [if_pos (by omega), show i + 1 - 1 = i by omega, hx']] at this
    have bad : entryM x = false → aclFrom (leftOf xs i) (x :: l) = false := by
      intro c1'
      cases leftOf xs i <;> simp [aclFrom, c1']
    refine Ev.step (fun _ => impl_IsAcl.l0.eq_2 ..) (Ev.pos p (Ev.pos h0 (Ev.pos p ?_)))
    rw [hx']
    obtain ⟨a, b, d⟩ := x
    simp only
    have j1no : Ev (fun k => impl_IsAcl.j1 k xs i xs (xs.length : Int) i true a b d) false := Ev.step (fun _ => impl_IsAcl.j1.eq_2 ..) (Ev.pos rfl (Ev.now _))
    by_cases d1 : d < 0
    · rw [bad (by unfold entryM; apply decide_eq_false; simp only; omega)]
      exact Ev.pos d1 j1no
    · refine Ev.neg d1 ?_
      by_cases d2 : d > 7
      · rw [bad (by unfold entryM; apply decide_eq_false; simp only; omega), show decide (d > 7) = true by simpa using d2]
        exact j1no
      · rw [show decide (d > 7) = false by simpa using d2]
        refine Ev.step (fun _ => impl_IsAcl.j1.eq_2 ..) (Ev.neg (by simp) ?_)
        have j2 : ∀ t : Bool, t = decide (a = 1 ∨ a = 2) → Ev (fun k => impl_IsAcl.j2 k xs i xs (xs.length : Int) i a t a b d) (aclFrom (leftOf xs i) (⟨a, b, d⟩ :: l)) := by
          intro t ht
          refine Ev.step (fun _ => impl_IsAcl.j2.eq_2 ..) ?_
          by_cases h12 : a = 1 ∨ a = 2
          · refine Ev.pos (by rw [ht]; exact decide_eq_true h12) (Ev.bind0 (isUser_impl b) ?_)
            by_cases hb : 0 ≤ b ∧ b ≤ 3
            · exact Ev.pos (by simpa using hb) (isAcl_j3 hx h0 p a b d (by unfold entryM; apply decide_eq_true; simp only; omega) rfl this)
            · rw [bad (by unfold entryM; apply decide_eq_false; simp only; omega)]
              exact Ev.neg (by simpa using hb) (Ev.now _)
          · refine Ev.neg (by rw [ht]; simpa using h12) ?_
            by_cases h3 : a = 3
            · refine Ev.pos h3 ?_
              by_cases hb : b = 0
              · exact Ev.pos hb (isAcl_j3 hx h0 p a b d (by unfold entryM; apply decide_eq_true; simp only; omega) rfl this)
              · rw [bad (by unfold entryM; apply decide_eq_false; simp only; omega)]
                exact Ev.neg hb (Ev.now _)
            · rw [bad (by unfold entryM; apply decide_eq_false; simp only; omega)]
              exact Ev.neg h3 (Ev.now _)
        by_cases h1 : a = 1
        · exact Ev.pos h1 (j2 _ (by simp [h1]))
        · exact Ev.neg h1 (j2 _ (by simp [h1]; rfl))
theorem isAcl_spec (xs : List S85) (hx : xs.length ≤ 1048576) : Ev (fun k => spec_IsAcl.f k xs) (isAclM xs) := by
  have := isAcl_spec_l xs hx xs 0 (by omega) (by omega) rfl
  unfold isAclM
  rw [Bool.and_comm]
  exact this
theorem isAcl_impl (xs : List S85) (hx : xs.length ≤ 1048576) : Ev (fun k => impl_IsAcl.f k xs) (isAclM xs) := by
  unfold impl_IsAcl.f isAclM
  by_cases h : (xs.length : Int) > 6
  · rw [show decide (xs.length ≤ 6) = false by simp only [decide_eq_false_iff_not]; omega, Bool.false_and]
    exact Ev.pos h (Ev.now _)
  · rw [show decide (xs.length ≤ 6) = true by simp only [decide_eq_true_eq]; omega, Bool.true_and]
    exact Ev.neg h (isAcl_impl_l xs hx xs 0 (by omega) (by omega) rfl)

theorem FnExactIsAcl (l : List S88) (h : l.length ≤ 9223372036854775807 ∧ ∀ x, x ∈ l → (Lit.int .i64 x.f0).wf = true ∧ (Lit.int .i64 x.f1).wf = true ∧ (Lit.int .i64 x.f2).wf = true) : ∃ k, laws_FnExactIsAcl.f k l = some true := by
  obtain ⟨t, ht, hs⟩ := szAclEntryS_ex l h.1 1048576 (by omega) (by omega)
  apply Ev.rounds
  unfold laws_FnExactIsAcl.f
  refine Ev.bind0 ht ?_
  by_cases hn : t < 0
  · exact Ev.pos hn (Ev.now _)
  · have hl : l.length ≤ 1048576 := by omega
    have hm : (l.map aclTo).length ≤ 1048576 := by rw [List.length_map]; exact hl
    have c := toAclEntryS_f l hl
    exact Ev.neg hn (Ev.bind c (Ev.bind (isAcl_spec _ hm) (Ev.bind c (Ev.bind (isAcl_impl _ hm) (Ev.neg (by simp) (Ev.bind c (Ev.bind (eqAclEntryS_f _ hm) (Ev.pos rfl (Ev.now _)))))))))

end Go.Proofs.Ytcafdolliedcaab.Pure
