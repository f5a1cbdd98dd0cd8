/- The law FnExactIsName holds for every input of its kind; no further condition. -/
import Derived.Test.YtcafdolliedcaaaPFnExactIsNamex1
import Derived.Test.YtcafdolliedcaaaLibBase
namespace Go.Proofs.Ytcafdolliedcaaa.Pure
open Go.RowKit Go.Proofs.Ytcafdolliedcaaa.PFnExactIsName Go.Proofs.Ytcafdolliedcaaa.Lib Go.Proofs.YtcafdolliedcaaaW.PrintWords Go.Proofs.YtcafdolliedcaaaW.PrintLast Go.Proofs.YtcafdolliedcaaaW.PrintMore
set_option linter.unusedVariables false
set_option linter.unusedSimpArgs false

theorem isName_both {s : ByteArray} (hs : s.size ≤ 140737488351232) (l : List Int) : ∀ (i : Int), 0 ≤ i → (bytesOf s).drop i.toNat = l →
    ∃ r, Ev (fun k => spec_IsName.l0 k s i) r ∧ Ev (fun k => impl_IsName.l0 k s (s.size : Int) i) r := by
  induction l with
  | nil =>
    intro i h0 h
    have := bdrop_nil h0 h
    by_cases c : (s.size : Int) ≥ 1
    · exact ⟨_, Ev.step (fun _ => spec_IsName.l0.eq_2 ..) (Ev.neg (by omega) (Ev.bind0 (if_pos c) (Ev.now _))), Ev.step (fun _ => impl_IsName.l0.eq_2 ..) (Ev.neg (by omega) (Ev.pos c (Ev.now _)))⟩
    · exact ⟨_, Ev.step (fun _ => spec_IsName.l0.eq_2 ..) (Ev.neg (by omega) (Ev.bind0 (if_neg c) (Ev.now _))), Ev.step (fun _ => impl_IsName.l0.eq_2 ..) (Ev.neg (by omega) (Ev.neg c (Ev.now _)))⟩
  | cons x l ih =>
    intro i h0 h
    obtain ⟨a, b, c, e⟩ := bdrop_cons h0 h
    obtain ⟨r, h1, h2⟩ := ih (i + 1) (by omega) c
    have w : wrap64 (i + 1) = i + 1 := w64 (by omega) (by omega)
    have s0 : ∀ r, Ev (fun k => if bt s i ≥ 97 then (if bt s i ≤ 122 then spec_IsName.l0 k s (i + 1) else (if i = 0 then some false else (if bt s i < 48 then some false else (if bt s i > 57 then some false else spec_IsName.l0 k s (i + 1))))) else (if i = 0 then some false else (if bt s i < 48 then some false else (if bt s i > 57 then some false else spec_IsName.l0 k s (i + 1))))) r → Ev (fun k => spec_IsName.l0 k s i) r := by
      intro r hr
      refine Ev.step (fun _ => spec_IsName.l0.eq_2 ..) (Ev.pos a (Ev.pos h0 ?_))
      rw [w]
      exact hr
    have i0 : ∀ r, Ev (fun k => if bt s i ≥ 97 then (if bt s i ≥ 48 then (if bt s i ≤ 122 then impl_IsName.l0 k s (s.size : Int) (i + 1) else (if i = 0 then some false else (if bt s i ≤ 57 then impl_IsName.l0 k s (s.size : Int) (i + 1) else some false))) else (if bt s i ≤ 122 then impl_IsName.l0 k s (s.size : Int) (i + 1) else (if i = 0 then some false else some false))) else (if bt s i ≥ 48 then (if i = 0 then some false else (if bt s i ≤ 57 then impl_IsName.l0 k s (s.size : Int) (i + 1) else some false)) else (if i = 0 then some false else some false))) r → Ev (fun k => impl_IsName.l0 k s (s.size : Int) i) r := by
      intro r hr
      refine Ev.step (fun _ => impl_IsName.l0.eq_2 ..) (Ev.pos a (Ev.pos h0 (Ev.pos a ?_)))
      rw [w]
      exact hr
    by_cases c1 : bt s i ≥ 97
    · by_cases c2 : bt s i ≤ 122
      · exact ⟨r, s0 r (Ev.pos c1 (Ev.pos c2 h1)), i0 r (Ev.pos c1 (Ev.pos (by omega) (Ev.pos c2 h2)))⟩
      · refine ⟨false, s0 false (Ev.pos c1 (Ev.neg c2 ?_)), i0 false (Ev.pos c1 (Ev.pos (by omega) (Ev.neg c2 ?_)))⟩
        · by_cases c3 : i = 0
          · exact Ev.pos c3 (Ev.now _)
          · exact Ev.neg c3 (Ev.neg (by omega) (Ev.pos (by omega) (Ev.now _)))
        · by_cases c3 : i = 0
          · exact Ev.pos c3 (Ev.now _)
          · exact Ev.neg c3 (Ev.neg (by omega) (Ev.now _))
    · by_cases c3 : i = 0
      · refine ⟨false, s0 false (Ev.neg c1 (Ev.pos c3 (Ev.now _))), i0 false (Ev.neg c1 ?_)⟩
        by_cases c4 : bt s i ≥ 48
        · exact Ev.pos c4 (Ev.pos c3 (Ev.now _))
        · exact Ev.neg c4 (Ev.pos c3 (Ev.now _))
      · by_cases c4 : bt s i ≥ 48
        · by_cases c5 : bt s i ≤ 57
          · exact ⟨r, s0 r (Ev.neg c1 (Ev.neg c3 (Ev.neg (by omega) (Ev.neg (by omega) h1)))), i0 r (Ev.neg c1 (Ev.pos c4 (Ev.neg c3 (Ev.pos c5 h2))))⟩
          · exact ⟨false, s0 false (Ev.neg c1 (Ev.neg c3 (Ev.neg (by omega) (Ev.pos (by omega) (Ev.now _))))), i0 false (Ev.neg c1 (Ev.pos c4 (Ev.neg c3 (Ev.neg c5 (Ev.now _)))))⟩
        · exact ⟨false, s0 false (Ev.neg c1 (Ev.neg c3 (Ev.pos (by omega) (Ev.now _)))), i0 false (Ev.neg c1 (Ev.neg c4 (Ev.neg c3 (Ev.now _))))⟩

theorem FnExactIsName : laws_FnExactIsName.Pure := by
  intro s hs
  apply Ev.rounds
  unfold laws_FnExactIsName.f
  by_cases hn : (s.size : Int) > 1048576
  · exact Ev.pos hn (Ev.now _)
  · obtain ⟨r, h1, h2⟩ := isName_both hs (bytesOf s) 0 (by omega) rfl
    refine Ev.neg hn (Ev.bind h1 (Ev.bind h2 ?_))
    exact Ev.neg (by simp) (Ev.now _)

end Go.Proofs.Ytcafdolliedcaaa.Pure
