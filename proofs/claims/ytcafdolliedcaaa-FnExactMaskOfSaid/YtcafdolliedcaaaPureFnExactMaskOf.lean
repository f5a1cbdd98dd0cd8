/- The law FnExactMaskOf holds for every input of its kind; no further condition. -/
import Derived.Test.YtcafdolliedcaaaPFnExactMaskOfx2
import Derived.Test.YtcafdolliedcaaaLibBase
import Derived.Test.YtcafdolliedcaaaLibOpen
namespace Go.Proofs.Ytcafdolliedcaaa.Pure
open Go.RowKit Go.Proofs.Ytcafdolliedcaaa.PFnExactMaskOf Go.Proofs.Ytcafdolliedcaaa.Lib Go.Proofs.YtcafdolliedcaaaW.PrintWords Go.Proofs.YtcafdolliedcaaaW.PrintLast Go.Proofs.YtcafdolliedcaaaW.PrintMore
set_option linter.unusedVariables false
set_option linter.unusedSimpArgs false

def aclTo (x : S61) : S59 := ⟨x.f0, x.f1, x.f2⟩
theorem szAclEntryS_ex (l : List S61) (hl : l.length ≤ 9223372036854775807) (n : Int) (hn : 0 ≤ n) (hn' : n ≤ 1048576) : ∃ t, laws_szAclEntryS.f l n = some t ∧ (t < 0 ∨ ((l.length : Int) ≤ n ∧ t = n - (l.length : Int))) := by
  unfold laws_szAclEntryS.f
  rw [w64 (by omega) (by omega)]
  by_cases h : n - (l.length : Int) < 0
  · rw [if_pos h]
    exact ⟨-1, by simp, by omega⟩
  · rw [if_neg h]
    exact ⟨_, rfl, by omega⟩
theorem toAclEntryS_l (xs : List S61) (hx : xs.length ≤ 1048576) (l : List S61) : ∀ (i : Int) (ys : List S59), 0 ≤ i → xs.drop i.toNat = l → ys.length = xs.length → Ev (fun k => laws_toAclEntryS.l0 k xs ys i) (ys.take i.toNat ++ l.map aclTo) := by
  induction l with
  | nil =>
    intro i ys h0 h hy
    have := ldrop_nil h0 h
    rw [List.map_nil, List.append_nil, List.take_of_length_le (by omega)]
    exact Ev.step (fun _ => laws_toAclEntryS.l0.eq_2 ..) (Ev.neg (by omega) (Ev.now _))
  | cons x l ih =>
    intro i ys h0 h hy
    obtain ⟨a, b, c, e⟩ := ldrop_cons z61 h0 h
    refine Ev.step (fun _ => laws_toAclEntryS.l0.eq_2 ..) (Ev.pos a (Ev.pos h0 (Ev.bind0 rfl (Ev.pos (by omega) ?_))))
    have := ih (i + 1) (ys.set i.toNat (aclTo x)) (by omega) c (by rw [List.length_set]; exact hy)
    rw [set_take _ h0 (by omega), List.append_assoc] at this
    rw [w64 (by omega) (by omega), show rd_T61 xs i = x from b]
    exact this
theorem toAclEntryS_f (xs : List S61) (hx : xs.length ≤ 1048576) : Ev (fun k => laws_toAclEntryS.f k xs) (xs.map aclTo) := by
  unfold laws_toAclEntryS.f
  exact Ev.pos (by omega) (Ev.pos (by omega) (toAclEntryS_l xs hx xs 0 _ (by omega) rfl (by rw [List.length_replicate]; omega)))

theorem eqAclEntryS_l (d : Nat) : ∀ (i : Int) (l : List S59), 0 ≤ i → i + d = (l.length : Int) → l.length ≤ 1048576 → Ev (fun k => laws_eqAclEntryS.l0 k l l i) true := by
  induction d with
  | zero =>
    intro i l h0 hd hl
    exact Ev.step (fun _ => laws_eqAclEntryS.l0.eq_2 ..) (Ev.neg (by omega) (Ev.now _))
  | succ d ih =>
    intro i l h0 hd hl
    refine Ev.step (fun _ => laws_eqAclEntryS.l0.eq_2 ..) (Ev.pos (by omega) (Ev.pos h0 (Ev.pos (by omega) (Ev.bind0 (a := true) (by unfold laws_eqAclEntry.f; simp) (Ev.pos rfl ?_)))))
    rw [w64 (n := i + 1) (by omega) (by omega)]
    exact ih (i + 1) l (by omega) (by omega) hl
theorem eqAclEntryS_f (l : List S59) (hl : l.length ≤ 1048576) : Ev (fun k => laws_eqAclEntryS.f k l l) true := by
  unfold laws_eqAclEntryS.f
  exact Ev.pos rfl (eqAclEntryS_l l.length 0 l (by omega) (by omega) hl)

def maskM : List S59 → Int
  | [] => 7
  | x :: l => if x.f0 = 3 then x.f2 else maskM l
theorem maskOf_spec_l (xs : List S59) (hx : xs.length ≤ 1048576) (l : List S59) : ∀ (i : Int), 0 ≤ i → xs.drop i.toNat = l → Ev (fun k => spec_MaskOf.l0 k xs (xs.length : Int) i) (maskM l) := by
  induction l with
  | nil =>
    intro i h0 h
    have := ldrop_nil h0 h
    exact Ev.step (fun _ => spec_MaskOf.l0.eq_2 ..) (Ev.neg (by omega) (Ev.now _))
  | cons x l ih =>
    intro i h0 h
    obtain ⟨p, q, c, e⟩ := ldrop_cons z59 h0 h
    refine Ev.step (fun _ => spec_MaskOf.l0.eq_2 ..) (Ev.pos p (Ev.pos h0 (Ev.pos p ?_)))
    rw [show rd_T59 xs i = x from q, w64 (by omega) (by omega), maskM]
    by_cases c1 : x.f0 = 3
    · rw [if_pos c1]
      exact Ev.pos c1 (Ev.now _)
    · rw [if_neg c1]
      exact Ev.neg c1 (ih (i + 1) (by omega) c)
theorem maskOf_impl_l (xs : List S59) (hx : xs.length ≤ 1048576) (l : List S59) : ∀ (i : Int), 0 ≤ i → xs.drop i.toNat = l → Ev (fun k => impl_MaskOf.l0 k xs (xs.length : Int) i) (maskM l) := by
  induction l with
  | nil =>
    intro i h0 h
    have := ldrop_nil h0 h
    exact Ev.step (fun _ => impl_MaskOf.l0.eq_2 ..) (Ev.neg (by omega) (Ev.now _))
  | cons x l ih =>
    intro i h0 h
    obtain ⟨p, q, c, e⟩ := ldrop_cons z59 h0 h
    refine Ev.step (fun _ => impl_MaskOf.l0.eq_2 ..) (Ev.pos p (Ev.pos h0 (Ev.pos p ?_)))
    rw [show rd_T59 xs i = x from q, w64 (by omega) (by omega), maskM]
    by_cases c1 : x.f0 = 3
    · rw [if_pos c1]
      exact Ev.pos c1 (Ev.now _)
    · rw [if_neg c1]
      exact Ev.neg c1 (ih (i + 1) (by omega) c)
theorem maskOf_spec (xs : List S59) (hx : xs.length ≤ 1048576) : Ev (fun k => spec_MaskOf.f k xs) (maskM xs) := maskOf_spec_l xs hx xs 0 (by omega) rfl
theorem maskOf_impl (xs : List S59) (hx : xs.length ≤ 1048576) : Ev (fun k => impl_MaskOf.f k xs) (maskM xs) := maskOf_impl_l xs hx xs 0 (by omega) rfl

theorem FnExactMaskOf (l : List S61) (h : l.length ≤ 9223372036854775807 ∧ ∀ x, x ∈ l → (Lit.int .i64 x.f0).wf = true ∧ (Lit.int .i64 x.f1).wf = true ∧ (Lit.int .i64 x.f2).wf = true) : ∃ k, laws_FnExactMaskOf.f k l = some true := by
  obtain ⟨t, ht, hs⟩ := szAclEntryS_ex l h.1 1048576 (by omega) (by omega)
  apply Ev.rounds
  unfold laws_FnExactMaskOf.f
  refine Ev.bind0 ht ?_
  by_cases hn : t < 0
  · exact Ev.pos hn (Ev.now _)
  · have hl : l.length ≤ 1048576 := by omega
    have hm : (l.map aclTo).length ≤ 1048576 := by rw [List.length_map]; exact hl
    have c := toAclEntryS_f l hl
    exact Ev.neg hn (Ev.bind c (Ev.bind (maskOf_spec _ hm) (Ev.bind c (Ev.bind (maskOf_impl _ hm) (Ev.pos rfl (Ev.bind c (Ev.bind (eqAclEntryS_f _ hm) (Ev.pos rfl (Ev.now _)))))))))

end Go.Proofs.Ytcafdolliedcaaa.Pure
