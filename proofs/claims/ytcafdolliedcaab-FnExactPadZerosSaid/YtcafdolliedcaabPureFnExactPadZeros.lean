/- The law FnExactPadZeros holds for every input of its kind; no further condition. -/
import Derived.Test.YtcafdolliedcaabPFnExactPadZerosx1
import Derived.Test.YtcafdolliedcaabLibBase
namespace Go.Proofs.Ytcafdolliedcaab.Pure
open Go.RowKit Go.Proofs.Ytcafdolliedcaab.PFnExactPadZeros Go.Proofs.Ytcafdolliedcaab.Lib Go.Proofs.YtcafdolliedcaabW.PrintWords Go.Proofs.YtcafdolliedcaabW.PrintLast Go.Proofs.YtcafdolliedcaabW.PrintMore
set_option linter.unusedVariables false
set_option linter.unusedSimpArgs false

theorem ba_size0 (s : ByteArray) : s.data.size = s.size := rfl
theorem data_eq_len (s : ByteArray) : s.data.toList.length = s.size := by rw [Array.length_toList]; rfl
theorem padZeros_spec (d : Nat) : ∀ (s : ByteArray) (n : Int), (n - (s.size : Int)).toNat = d → n ≤ 2000 → s.size ≤ 1048576 →
    Ev (fun k => spec_PadZeros.l0 k s n) (⟨(Go.Lib.repeatL [48] d).toArray⟩ ++ s) := by
  induction d with
  | zero =>
    intro s n hd hn hs
    have e : (⟨(Go.Lib.repeatL [48] 0).toArray⟩ ++ s : ByteArray) = s := by
      apply ba_ext
      rw [ByteArray.data_append, Array.toList_append]
      rfl
    rw [e]
    exact Ev.step (fun _ => spec_PadZeros.l0.eq_2 ..) (Ev.neg (by omega) (Ev.now _))
  | succ d ih =>
    intro s n hd hn hs
    have h1 : ((⟨#[48]⟩ : ByteArray) ++ s).size = 1 + s.size := by rw [ba_size_append]; rfl
    have e : (⟨(Go.Lib.repeatL [48] (d + 1)).toArray⟩ ++ s : ByteArray) = ⟨(Go.Lib.repeatL [48] d).toArray⟩ ++ ((⟨#[48]⟩ : ByteArray) ++ s) := by
      apply ba_ext
      have r := Go.Lib.repeatL_add [48] d 1
      rw [Go.Lib.repeatL_one] at r
      rw [ByteArray.data_append, Array.toList_append, ByteArray.data_append, Array.toList_append, ByteArray.data_append, Array.toList_append, r, List.append_assoc]
    rw [e]
    exact Ev.step (fun _ => spec_PadZeros.l0.eq_2 ..) (Ev.pos (by omega) (Ev.pos (by omega) (ih _ n (by omega) hn (by omega))))
theorem padZeros_both (s : ByteArray) (n : Int) (hs : s.size ≤ 1048576) : ∃ r, Ev (fun k => spec_PadZeros.f k s n) r ∧ impl_PadZeros.f s n = some r := by
  unfold spec_PadZeros.f impl_PadZeros.f
  by_cases h1 : n > 2000
  · refine ⟨s, Ev.pos h1 (Ev.now _), ?_⟩
    by_cases h2 : (s.size : Int) ≥ n
    · rw [if_pos h2]
    · rw [if_neg h2, if_pos h1]
  · refine ⟨_, Ev.neg h1 (padZeros_spec _ s n rfl (by omega) hs), ?_⟩
    by_cases h2 : (s.size : Int) ≥ n
    · rw [if_pos h2, show (n - (s.size : Int)).toNat = 0 by omega]
      congr 1
    · rw [if_neg h2, if_neg h1, w64 (by omega) (by omega)]
      unfold strings_Repeat.f
      have z : (⟨#[48]⟩ : ByteArray).size = 1 := rfl
      rw [if_pos ⟨by omega, by omega, by rw [z]; omega⟩, Option.bind_some]
      have z2 : (⟨(Go.Lib.repeatL [48] (n - (s.size : Int)).toNat).toArray⟩ : ByteArray).size = (n - (s.size : Int)).toNat := by
        rw [← data_eq_len]
        simp only []
        rw [Go.Lib.repeatL_length]
        exact Nat.mul_one _
      exact if_pos (by simp only [] at z2 ⊢; rw [z2]; omega)

theorem FnExactPadZeros : laws_FnExactPadZeros.Pure := by
  intro s n hs hn
  apply Ev.rounds
  unfold laws_FnExactPadZeros.f
  by_cases hb : (s.size : Int) > 1048576
  · exact Ev.pos hb (Ev.now _)
  · obtain ⟨r, h1, h2⟩ := padZeros_both s n (by omega)
    exact Ev.neg hb (Ev.bind h1 (Ev.bind0 h2 (Ev.pos rfl (Ev.now _))))

end Go.Proofs.Ytcafdolliedcaab.Pure
