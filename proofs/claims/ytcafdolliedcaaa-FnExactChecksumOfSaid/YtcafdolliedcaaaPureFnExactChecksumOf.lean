/- The law FnExactChecksumOf holds for every input of its kind; no further condition. -/
import Derived.Test.YtcafdolliedcaaaPFnExactChecksumOfx1
import Derived.Test.YtcafdolliedcaaaLibBase
import Derived.Test.YtcafdolliedcaaaLibCheck
namespace Go.Proofs.Ytcafdolliedcaaa.Pure
open Go.RowKit Go.Proofs.Ytcafdolliedcaaa.PFnExactChecksumOf Go.Proofs.Ytcafdolliedcaaa.Lib Go.Proofs.YtcafdolliedcaaaW.PrintWords Go.Proofs.YtcafdolliedcaaaW.PrintLast Go.Proofs.YtcafdolliedcaaaW.PrintMore
set_option linter.unusedVariables false
set_option linter.unusedSimpArgs false

theorem checksumOf_spec {s : ByteArray} (hs : s.size ≤ 140737488351232) (l : List Int) : ∀ (i a b : Int), 0 ≤ i → (bytesOf s).drop i.toNat = l → 0 ≤ a → a < 65521 → 0 ≤ b → b < 65521 →
    Ev (fun k => spec_ChecksumOf.l0 k s a b i) ((ck l a b).2 * 65536 + (ck l a b).1) := by
  induction l with
  | nil =>
    intro i a b h0 h ha ha' hb hb'
    have := bdrop_nil h0 h
    refine Ev.step (fun _ => spec_ChecksumOf.l0.eq_2 ..) (Ev.neg (by omega) ?_)
    rw [w64 (n := b * 65536) (by omega) (by omega), w64 (by omega) (by omega)]
    exact Ev.now _
  | cons x l ih =>
    intro i a b h0 h ha ha' hb hb'
    obtain ⟨h1, h2, h3, h4⟩ := bdrop_cons h0 h
    have hx := bt_range s i
    refine Ev.step (fun _ => spec_ChecksumOf.l0.eq_2 ..) (Ev.pos h1 (Ev.pos h0 ?_))
    rw [w64 (n := bt s i) (by omega) (by omega), w64 (n := a + bt s i) (by omega) (by omega), Int.tmod_eq_emod_of_nonneg (show 0 ≤ a + bt s i by omega),
      w64 (n := b + (a + bt s i) % 65521) (by omega) (by omega), Int.tmod_eq_emod_of_nonneg (show 0 ≤ b + (a + bt s i) % 65521 by omega), w64 (n := i + 1) (by omega) (by omega), h2]
    rw [h2] at hx
    exact ih (i + 1) _ _ (by omega) h3 (by omega) (by omega) (by omega) (by omega)
theorem checksumOf_impl {s : ByteArray} (hs : s.size ≤ 140737488351232) (l : List Int) : ∀ (i a b : Int), 0 ≤ i → (bytesOf s).drop i.toNat = l → 0 ≤ a → a < 65521 → 0 ≤ b → b < 65521 →
    Ev (fun k => impl_ChecksumOf.l0 k s a b (s.size : Int) i) ((ck l a b).2 * 65536 + (ck l a b).1) := by
  induction l with
  | nil =>
    intro i a b h0 h ha ha' hb hb'
    have := bdrop_nil h0 h
    refine Ev.step (fun _ => impl_ChecksumOf.l0.eq_2 ..) (Ev.neg (by omega) ?_)
    rw [w64 (n := b * 65536) (by omega) (by omega), w64 (by omega) (by omega)]
    exact Ev.now _
  | cons x l ih =>
    intro i a b h0 h ha ha' hb hb'
    obtain ⟨h1, h2, h3, h4⟩ := bdrop_cons h0 h
    have hx := bt_range s i
    refine Ev.step (fun _ => impl_ChecksumOf.l0.eq_2 ..) (Ev.pos h1 (Ev.pos h0 (Ev.pos h1 ?_)))
    rw [w64 (n := bt s i) (by omega) (by omega), w64 (n := a + bt s i) (by omega) (by omega), Int.tmod_eq_emod_of_nonneg (show 0 ≤ a + bt s i by omega),
      w64 (n := b + (a + bt s i) % 65521) (by omega) (by omega), Int.tmod_eq_emod_of_nonneg (show 0 ≤ b + (a + bt s i) % 65521 by omega), w64 (n := i + 1) (by omega) (by omega), h2]
    rw [h2] at hx
    exact ih (i + 1) _ _ (by omega) h3 (by omega) (by omega) (by omega) (by omega)
theorem checksumOf_spec_f {s : ByteArray} (hs : s.size ≤ 140737488351232) : Ev (fun k => spec_ChecksumOf.f k s) (checksum (bytesOf s)) :=
  checksumOf_spec hs (bytesOf s) 0 1 0 (by omega) rfl (by omega) (by omega) (by omega) (by omega)
theorem checksumOf_impl_f {s : ByteArray} (hs : s.size ≤ 140737488351232) : Ev (fun k => impl_ChecksumOf.f k s) (checksum (bytesOf s)) :=
  checksumOf_impl hs (bytesOf s) 0 1 0 (by omega) rfl (by omega) (by omega) (by omega) (by omega)

theorem FnExactChecksumOf : laws_FnExactChecksumOf.Pure := by
  intro s hs
  apply Ev.rounds
  unfold laws_FnExactChecksumOf.f
  by_cases hn : (s.size : Int) > 1048576
  · exact Ev.pos hn (Ev.now _)
  · exact Ev.neg hn (Ev.bind (checksumOf_spec_f hs) (Ev.bind (checksumOf_impl_f hs) (Ev.pos rfl (Ev.now _))))

end Go.Proofs.Ytcafdolliedcaaa.Pure
