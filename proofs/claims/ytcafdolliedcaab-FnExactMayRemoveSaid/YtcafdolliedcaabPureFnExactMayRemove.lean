/- The law FnExactMayRemove holds for every input of its kind; no further condition. -/
import Derived.Test.YtcafdolliedcaabPFnExactMayRemovex2
import Derived.Test.YtcafdolliedcaabLibBase
import Derived.Test.YtcafdolliedcaabLibOpen
namespace Go.Proofs.Ytcafdolliedcaab.Pure
open Go.RowKit Go.Proofs.Ytcafdolliedcaab.PFnExactMayRemove Go.Proofs.Ytcafdolliedcaab.Lib Go.Proofs.YtcafdolliedcaabW.PrintWords Go.Proofs.YtcafdolliedcaabW.PrintLast Go.Proofs.YtcafdolliedcaabW.PrintMore
set_option linter.unusedVariables false
set_option linter.unusedSimpArgs false

theorem l01In_spec (a b c : Int) : spec_l01In.f a b c = some (decide (b ≤ a ∧ a ≤ c)) := by
  unfold spec_l01In.f
  by_cases h : a ≥ b
  · rw [if_pos h]
    simp [show b ≤ a from h]
  · rw [if_neg h]
    simp [show ¬ b ≤ a from h]

theorem l06User_spec (a : Int) : spec_l06User.f a = some (decide (0 ≤ a ∧ a ≤ 3)) := by
  unfold spec_l06User.f
  rw [l01In_spec]
  rfl

theorem isUser_impl (a : Int) : impl_isUser.f a = some (decide (0 ≤ a ∧ a ≤ 3)) := by
  unfold impl_isUser.f
  by_cases h : a ≥ 0
  · rw [if_pos h]
    congr 1
    apply decide_eq_decide.2
    omega
  · rw [if_neg h]
    congr 1
    symm
    apply decide_eq_false
    omega

theorem isCred_both (a b : Int) (xs : List Int) (hx : xs.length ≤ 1048576) (l : List Int) : ∀ (i : Int), 0 ≤ i → xs.drop i.toNat = l →
    ∃ r, Ev (fun k => spec_IsCred.l0 k xs (xs.length : Int) i a b xs) r ∧ Ev (fun k => impl_IsCred.l0 k xs (xs.length : Int) i a b xs) r := by
  induction l with
  | nil =>
    intro i h0 h
    have := ldrop_nil h0 h
    by_cases c : 0 ≤ a ∧ a ≤ 3
    all_goals
      refine ⟨?_, Ev.step (fun _ => spec_IsCred.l0.eq_2 ..) (Ev.neg (by omega) ?_), Ev.step (fun _ => impl_IsCred.l0.eq_2 ..) (Ev.neg (by omega) ?_)⟩
      rotate_left
      · simp only [l06User_spec, Option.bind_some, decide_eq_true_eq]
        (repeat' (first | exact Ev.now _ | refine Ev.pos (by first | assumption | omega) ?_ | refine Ev.neg (by first | assumption | omega) ?_))
      · simp only [isUser_impl, Option.bind_some, decide_eq_true_eq]
        (repeat' (first | exact Ev.now _ | refine Ev.pos (by first | assumption | omega) ?_ | refine Ev.neg (by first | assumption | omega) ?_))
  | cons x l ih =>
    intro i h0 h
    obtain ⟨p, q, c, e⟩ := ldrop_cons (0 : Int) h0 h
    obtain ⟨r, h1, h2⟩ := ih (i + 1) (by omega) c
    by_cases c1 : 0 ≤ rd xs i ∧ rd xs i ≤ 3 <;> by_cases c2 : i > 0 <;> by_cases c3 : rd xs (i - 1) ≥ rd xs i
    all_goals
      refine ⟨?_, Ev.step (fun _ => spec_IsCred.l0.eq_2 ..) ?_, Ev.step (fun _ => impl_IsCred.l0.eq_2 ..) ?_⟩
      rotate_left
      · simp (disch := omega) only [l06User_spec, Option.bind_some, decide_eq_true_eq, w64]
        (repeat' (first | exact Ev.now _ | exact h1 | refine Ev.pos (by first | assumption | omega) ?_ | refine Ev.neg (by first | assumption | omega) ?_))
      · simp (disch := omega) only [isUser_impl, Option.bind_some, decide_eq_true_eq, w64]
        (repeat' (first | exact Ev.now _ | exact h2 | refine Ev.pos (by first | assumption | omega) ?_ | refine Ev.neg (by first | assumption | omega) ?_))
theorem isCred_f (a b : Int) (xs : List Int) (hx : xs.length ≤ 1048576) : ∃ r, Ev (fun k => spec_IsCred.f k a b xs) r ∧ Ev (fun k => impl_IsCred.f k a b xs) r := isCred_both a b xs hx xs 0 (by omega) rfl

theorem isMode_impl (a : Int) : impl_isMode.f a = some (decide (0 ≤ a ∧ a ≤ 2047)) := by
  unfold impl_isMode.f
  by_cases h : a ≥ 0
  · rw [if_pos h]
    simp [show 0 ≤ a from h]
  · rw [if_neg h]
    simp [show ¬ 0 ≤ a from h]

theorem l06Mode_spec (a : Int) : spec_l06Mode.f a = some (decide (0 ≤ a ∧ a ≤ 2047)) := by
  unfold spec_l06Mode.f
  rw [l01In_spec]
  rfl

def mayRemoveM (a d m u : Int) (r : Bool) : Bool := if r = true then (if 0 ≤ m ∧ m ≤ 2047 then (if Go.bits .and .i64 m 512 = 0 then true else if a = 0 then true else if a = d then true else (a == u)) else false) else false
theorem mayRemove_impl {a b d m u : Int} {l : List Int} {r : Bool} (h : Ev (fun k => impl_IsCred.f k a b l) r) : Ev (fun k => impl_MayRemove.f k a b l d m u) (mayRemoveM a d m u r) := by
  unfold impl_MayRemove.f mayRemoveM
  refine Ev.bind h ?_
  simp only [isMode_impl, Option.bind_some, decide_eq_true_eq]
  repeat' split
  all_goals exact Ev.now _
theorem mayRemove_spec {a b d m u : Int} {l : List Int} {r : Bool} (h : Ev (fun k => spec_IsCred.f k a b l) r) : Ev (fun k => spec_MayRemove.f k a b l d m u) (mayRemoveM a d m u r) := by
  unfold spec_MayRemove.f mayRemoveM
  refine Ev.bind h ?_
  simp only [l06Mode_spec, Option.bind_some, decide_eq_true_eq]
  repeat' split
  all_goals exact Ev.now _

theorem szCred_ex (a b : Int) (l : List Int) (hl : l.length ≤ 9223372036854775807) : ∃ t, laws_szCred.f a b l 1048576 = some t ∧ (t < 0 ∨ l.length ≤ 1048576) := by
  unfold laws_szCred.f laws_szIntS.f
  rw [w64 (by omega) (by omega)]
  by_cases h : 1048576 - (l.length : Int) < 0
  · rw [if_pos h]
    exact ⟨-1, by simp, by omega⟩
  · rw [if_neg h, Option.bind_some, if_neg h]
    exact ⟨_, rfl, by omega⟩
theorem toIntS_l (xs : List Int) (hx : xs.length ≤ 1048576) (l : List Int) : ∀ (i : Int) (ys : List Int), 0 ≤ i → xs.drop i.toNat = l → ys.length = xs.length → Ev (fun k => laws_toIntS.l0 k xs ys i) (ys.take i.toNat ++ l) := by
  induction l with
  | nil =>
    intro i ys h0 h hy
    have := ldrop_nil h0 h
    rw [List.append_nil, List.take_of_length_le (by omega)]
    exact Ev.step (fun _ => laws_toIntS.l0.eq_2 ..) (Ev.neg (by omega) (Ev.now _))
  | cons x l ih =>
    intro i ys h0 h hy
    obtain ⟨a, b, c, e⟩ := ldrop_cons (0 : Int) h0 h
    refine Ev.step (fun _ => laws_toIntS.l0.eq_2 ..) (Ev.pos a (Ev.pos h0 (Ev.pos (by omega) ?_)))
    have := ih (i + 1) (ys.set i.toNat (rd xs i)) (by omega) c (by rw [List.length_set]; exact hy)
    rw [set_take _ h0 (by omega), List.append_assoc, show rd xs i = x from b] at this
    rw [w64 (by omega) (by omega), show rd xs i = x from b]
    exact this
theorem toIntS_f (xs : List Int) (hx : xs.length ≤ 1048576) : Ev (fun k => laws_toIntS.f k xs) xs := by
  unfold laws_toIntS.f
  exact Ev.pos (by omega) (Ev.pos (by omega) (toIntS_l xs hx xs 0 _ (by omega) rfl (by rw [List.length_replicate]; omega)))
theorem toCred_f (a b : Int) (xs : List Int) (hx : xs.length ≤ 1048576) : Ev (fun k => laws_toCred.f k a b xs) (a, b, xs) := by
  unfold laws_toCred.f
  exact Ev.bind (toIntS_f xs hx) (Ev.now _)
theorem eqIntS_l (d : Nat) : ∀ (i : Int) (l : List Int), 0 ≤ i → i + d = (l.length : Int) → l.length ≤ 1048576 → Ev (fun k => laws_eqIntS.l0 k l l i) true := by
  induction d with
  | zero =>
    intro i l h0 hd hl
    exact Ev.step (fun _ => laws_eqIntS.l0.eq_2 ..) (Ev.neg (by omega) (Ev.now _))
  | succ d ih =>
    intro i l h0 hd hl
    refine Ev.step (fun _ => laws_eqIntS.l0.eq_2 ..) (Ev.pos (by omega) (Ev.pos h0 (Ev.pos (by omega) (Ev.pos rfl ?_))))
    rw [w64 (n := i + 1) (by omega) (by omega)]
    exact ih (i + 1) l (by omega) (by omega) hl
theorem eqIntS_f (l : List Int) (hl : l.length ≤ 1048576) : Ev (fun k => laws_eqIntS.f k l l) true := by
  unfold laws_eqIntS.f
  exact Ev.pos rfl (eqIntS_l l.length 0 l (by omega) (by omega) hl)
theorem eqCred_f (a b : Int) (l : List Int) (hl : l.length ≤ 1048576) : Ev (fun k => laws_eqCred.f k a b l a b l) true := by
  unfold laws_eqCred.f
  exact Ev.pos rfl (Ev.pos rfl (Ev.bind (eqIntS_f l hl) (Ev.pos rfl (Ev.now _))))

theorem FnExactMayRemove (a b : Int) (l : List Int) (d m u : Int) (h : (Lit.int .i64 a).wf = true ∧ (Lit.int .i64 b).wf = true ∧ l.length ≤ 9223372036854775807 ∧ ∀ x, x ∈ l → (Lit.int .i64 x).wf = true) (hd : (Lit.int .i64 d).wf = true) (hm : (Lit.int .i64 m).wf = true) (hu : (Lit.int .i64 u).wf = true) :
    ∃ k, laws_FnExactMayRemove.f k a b l d m u = some true := by
  obtain ⟨t, ht, hs⟩ := szCred_ex a b l h.2.2.1
  apply Ev.rounds
  unfold laws_FnExactMayRemove.f
  refine Ev.bind0 ht ?_
  by_cases hn : t < 0
  · exact Ev.pos hn (Ev.now _)
  · have hl : l.length ≤ 1048576 := by omega
    obtain ⟨r, h1, h2⟩ := isCred_f a b l hl
    have c := toCred_f a b l hl
    exact Ev.neg hn (Ev.bind c (Ev.bind (mayRemove_spec h1) (Ev.bind c (Ev.bind (mayRemove_impl h2) (Ev.neg (by simp) (Ev.bind c (Ev.bind (eqCred_f a b l hl) (Ev.pos rfl (Ev.now _)))))))))

end Go.Proofs.Ytcafdolliedcaab.Pure
