/- The law FnExactHexOf holds for every input of its kind; no further condition. -/
import Derived.Test.YtpcbmbmiilfpeaaPFnExactHexOfx1
import Derived.Test.YtpcbmbmiilfpeaaLibBase
namespace Go.Proofs.Ytpcbmbmiilfpeaa.Pure
open Go.RowKit Go.Proofs.Ytpcbmbmiilfpeaa.PFnExactHexOf Go.Proofs.Ytpcbmbmiilfpeaa.Lib Go.Proofs.YtpcbmbmiilfpeaaW.PrintWords Go.Proofs.YtpcbmbmiilfpeaaW.PrintLast Go.Proofs.YtpcbmbmiilfpeaaW.PrintMore
set_option linter.unusedVariables false
set_option linter.unusedSimpArgs false


theorem hexOf_both {s : ByteArray} (hs : s.size ≤ 1048576) (l : List Int) : ∀ (i : Int) (x : List Int), 0 ≤ i → (bytesOf s).drop i.toNat = l → (x.length : Int) ≤ 2 * i →
    ∃ r, Ev (fun k => spec_HexOf.l0 k s x i) r ∧ Ev (fun k => impl_HexOf.l0 k s x (s.size : Int) i) r := by
  induction l with
  | nil =>
    intro i x h0 h hx
    have := bdrop_nil h0 h
    exact ⟨strOfNums x, Ev.step (fun _ => spec_HexOf.l0.eq_2 ..) (Ev.neg (by omega) (Ev.now _)), Ev.step (fun _ => impl_HexOf.l0.eq_2 ..) (Ev.neg (by omega) (Ev.now _))⟩
  | cons y l ih =>
    intro i x h0 h hx
    obtain ⟨a, b, c, e⟩ := bdrop_cons h0 h
    have hb := bt_range s i
    have e1 : Int.tdiv (bt s i) 16 = bt s i / 16 := Int.tdiv_eq_ediv_of_nonneg hb.1
    have e2 : Int.tmod (bt s i) 16 = bt s i % 16 := Int.tmod_eq_emod_of_nonneg hb.1
    have e3 : bt s i / 16 % 256 = bt s i / 16 := by omega
    have e4 := u8_and15 _ hb.1 (show bt s i < 256 by omega)
    have hl : ∀ p q : Int, x.length + [p, q].length < 140737488355328 := by
      intro p q
      simp only [List.length_cons, List.length_nil]
      omega
    obtain ⟨r, h1, h2⟩ := ih (i + 1) (x ++ [bt (⟨#[48, 49, 50, 51, 52, 53, 54, 55, 56, 57, 97, 98, 99, 100, 101, 102]⟩ : ByteArray) (bt s i / 16), bt (⟨#[48, 49, 50, 51, 52, 53, 54, 55, 56, 57, 97, 98, 99, 100, 101, 102]⟩ : ByteArray) (bt s i % 16)]) (by omega) c (by simp only [List.length_append, List.length_cons, List.length_nil]; omega)
    refine ⟨r, Ev.step (fun _ => spec_HexOf.l0.eq_2 ..) (Ev.pos a (Ev.pos h0 ?_)), Ev.step (fun _ => impl_HexOf.l0.eq_2 ..) (Ev.pos a (Ev.pos h0 (Ev.pos a ?_)))⟩
    · rw [e1, e2, e3, w64 (n := i + 1) (by omega) (by omega)]
      exact Ev.pos (by omega) (Ev.pos (by omega) (Ev.pos (by omega) (Ev.pos (by omega) (Ev.bind0 rfl (Ev.pos (hl _ _) h1)))))
    · rw [e4, w64 (n := i + 1) (by omega) (by omega)]
      exact Ev.pos (by omega) (Ev.pos (by omega) (Ev.pos (by omega) (Ev.pos (by omega) (Ev.bind0 rfl (Ev.pos (hl _ _) h2)))))
theorem FnExactHexOf : laws_FnExactHexOf.Pure := by
  intro s hs
  apply Ev.rounds
  unfold laws_FnExactHexOf.f
  by_cases hn : (s.size : Int) > 1048576
  · exact Ev.pos hn (Ev.now _)
  · obtain ⟨r, h1, h2⟩ := hexOf_both (s := s) (by omega) (bytesOf s) 0 [] (by omega) rfl (by simp)
    exact Ev.neg hn (Ev.bind h1 (Ev.bind h2 (Ev.pos rfl (Ev.now _))))

end Go.Proofs.Ytpcbmbmiilfpeaa.Pure
