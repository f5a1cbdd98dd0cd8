/- The law FnExactIsDigits holds for every input of its kind; no further condition. -/
import Derived.Test.YtpcbmbmiilfpeaaPFnExactIsDigitsx1
import Derived.Test.YtpcbmbmiilfpeaaLibBase
namespace Go.Proofs.Ytpcbmbmiilfpeaa.Pure
open Go.RowKit Go.Proofs.Ytpcbmbmiilfpeaa.PFnExactIsDigits Go.Proofs.Ytpcbmbmiilfpeaa.Lib Go.Proofs.YtpcbmbmiilfpeaaW.PrintWords Go.Proofs.YtpcbmbmiilfpeaaW.PrintLast Go.Proofs.YtpcbmbmiilfpeaaW.PrintMore
set_option linter.unusedVariables false
set_option linter.unusedSimpArgs false


theorem isDigits_both {s : ByteArray} (hs : s.size ≤ 140737488351232) (l : List Int) : ∀ (i : Int), 0 ≤ i → (bytesOf s).drop i.toNat = l →
    ∃ r, Ev (fun k => spec_IsDigits.l0 k s i) r ∧ Ev (fun k => impl_IsDigits.l0 k s (s.size : Int) i) r := by
  induction l with
  | nil =>
    intro i h0 h
    have := bdrop_nil h0 h
    exact ⟨_, Ev.step (fun _ => spec_IsDigits.l0.eq_2 ..) (Ev.neg (by omega) (Ev.now _)), Ev.step (fun _ => impl_IsDigits.l0.eq_2 ..) (Ev.neg (by omega) (Ev.now _))⟩
  | cons x l ih =>
    intro i h0 h
    obtain ⟨a, b, c, e⟩ := bdrop_cons h0 h
    obtain ⟨r, h1, h2⟩ := ih (i + 1) (by omega) c
    by_cases c1 : bt s i < 48
    · exact ⟨false, Ev.step (fun _ => spec_IsDigits.l0.eq_2 ..) (Ev.pos a (Ev.pos h0 (Ev.pos c1 (Ev.now _)))),
        Ev.step (fun _ => impl_IsDigits.l0.eq_2 ..) (Ev.pos a (Ev.pos h0 (Ev.pos a (Ev.pos c1 (Ev.now _)))))⟩
    · by_cases c2 : bt s i > 57
      · exact ⟨false, Ev.step (fun _ => spec_IsDigits.l0.eq_2 ..) (Ev.pos a (Ev.pos h0 (Ev.neg c1 (Ev.pos c2 (Ev.now _))))),
          Ev.step (fun _ => impl_IsDigits.l0.eq_2 ..) (Ev.pos a (Ev.pos h0 (Ev.pos a (Ev.neg c1 (Ev.pos c2 (Ev.now _))))))⟩
      · refine ⟨r, Ev.step (fun _ => spec_IsDigits.l0.eq_2 ..) (Ev.pos a (Ev.pos h0 (Ev.neg c1 (Ev.neg c2 ?_)))),
          Ev.step (fun _ => impl_IsDigits.l0.eq_2 ..) (Ev.pos a (Ev.pos h0 (Ev.pos a (Ev.neg c1 (Ev.neg c2 ?_)))))⟩
        · rw [w64 (by omega) (by omega)]
          exact h1
        · rw [w64 (by omega) (by omega)]
          exact h2

theorem FnExactIsDigits : laws_FnExactIsDigits.Pure := by
  intro s hs
  apply Ev.rounds
  unfold laws_FnExactIsDigits.f
  by_cases hn : (s.size : Int) > 1048576
  · exact Ev.pos hn (Ev.now _)
  · obtain ⟨r, h1, h2⟩ := isDigits_both hs (bytesOf s) 0 (by omega) rfl
    refine Ev.neg hn (Ev.bind h1 (Ev.bind h2 ?_))
    exact Ev.neg (by simp) (Ev.now _)

end Go.Proofs.Ytpcbmbmiilfpeaa.Pure
