/- The law FnExactIsZeroes holds for every input of its kind; no further condition. -/
import Derived.Test.YtpcbmbmiilfpeabPFnExactIsZeroesx1
import Derived.Test.YtpcbmbmiilfpeabLibBase
namespace Go.Proofs.Ytpcbmbmiilfpeab.Pure
open Go.RowKit Go.Proofs.Ytpcbmbmiilfpeab.PFnExactIsZeroes Go.Proofs.Ytpcbmbmiilfpeab.Lib Go.Proofs.YtpcbmbmiilfpeabW.PrintWords Go.Proofs.YtpcbmbmiilfpeabW.PrintLast Go.Proofs.YtpcbmbmiilfpeabW.PrintMore
set_option linter.unusedVariables false
set_option linter.unusedSimpArgs false

theorem isZeroes_spec {s : ByteArray} (hs : s.size ≤ 140737488351232) (l : List Int) : ∀ (i : Int), 0 ≤ i → (bytesOf s).drop i.toNat = l → Ev (fun k => spec_IsZeroes.l0 k s i) (l.all (fun x => x == 0)) := by
  induction l with
  | nil =>
    intro i h0 h
    have := bdrop_nil h0 h
    exact Ev.step (fun _ => spec_IsZeroes.l0.eq_2 ..) (Ev.neg (by omega) (Ev.now _))
  | cons x l ih =>
    intro i h0 h
    obtain ⟨a, b, c, e⟩ := bdrop_cons h0 h
    refine Ev.step (fun _ => spec_IsZeroes.l0.eq_2 ..) (Ev.pos a (Ev.pos h0 ?_))
    rw [b, w64 (by omega) (by omega), List.all_cons]
    by_cases hx : x = 0
    · refine Ev.pos hx ?_
      rw [hx]
      exact ih (i + 1) (by omega) c
    · refine Ev.neg hx ?_
      rw [show (x == 0) = false by simpa using hx]
      exact Ev.now _
theorem isZeroes_impl {s : ByteArray} (hs : s.size ≤ 140737488351232) (l : List Int) : ∀ (i : Int), 0 ≤ i → (bytesOf s).drop i.toNat = l → Ev (fun k => impl_IsZeroes.l0 k s (s.size : Int) i) (l.all (fun x => x == 0)) := by
  induction l with
  | nil =>
    intro i h0 h
    have := bdrop_nil h0 h
    exact Ev.step (fun _ => impl_IsZeroes.l0.eq_2 ..) (Ev.neg (by omega) (Ev.now _))
  | cons x l ih =>
    intro i h0 h
    obtain ⟨a, b, c, e⟩ := bdrop_cons h0 h
    refine Ev.step (fun _ => impl_IsZeroes.l0.eq_2 ..) (Ev.pos a (Ev.pos h0 (Ev.pos a ?_)))
    rw [b, w64 (by omega) (by omega), List.all_cons]
    by_cases hx : x = 0
    · refine Ev.pos hx ?_
      rw [hx]
      exact ih (i + 1) (by omega) c
    · refine Ev.neg hx ?_
      rw [show (x == 0) = false by simpa using hx]
      exact Ev.now _
theorem isZeroes_spec_f {s : ByteArray} (hs : s.size ≤ 140737488351232) : Ev (fun k => spec_IsZeroes.f k s) ((bytesOf s).all (fun x => x == 0)) := isZeroes_spec hs (bytesOf s) 0 (by omega) rfl
theorem isZeroes_impl_f {s : ByteArray} (hs : s.size ≤ 140737488351232) : Ev (fun k => impl_IsZeroes.f k s) ((bytesOf s).all (fun x => x == 0)) := isZeroes_impl hs (bytesOf s) 0 (by omega) rfl

theorem FnExactIsZeroes : laws_FnExactIsZeroes.Pure := by
  intro s hs
  apply Ev.rounds
  unfold laws_FnExactIsZeroes.f
  by_cases hn : (s.size : Int) > 1048576
  · exact Ev.pos hn (Ev.now _)
  · refine Ev.neg hn (Ev.bind (isZeroes_spec_f hs) (Ev.bind (isZeroes_impl_f hs) ?_))
    exact Ev.neg (by simp) (Ev.now _)

end Go.Proofs.Ytpcbmbmiilfpeab.Pure
