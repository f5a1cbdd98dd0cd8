/- The law FnExactFormatInt holds for every input of its kind; no further condition. -/
import Derived.Test.YtmnojegajblagaaDoorPFnExactFormatIntx1
import Derived.Test.YtmnojegajblagaaDoorLibBase
namespace Go.Proofs.YtmnojegajblagaaDoor.Pure
open Go.RowKit Go.Proofs.YtmnojegajblagaaDoor.PFnExactFormatInt Go.Proofs.YtmnojegajblagaaDoor.Lib Go.Proofs.YtmnojegajblagaaDoorW.PrintWords Go.Proofs.YtmnojegajblagaaDoorW.PrintLast Go.Proofs.YtmnojegajblagaaDoorW.PrintMore
set_option linter.unusedVariables false
set_option linter.unusedSimpArgs false

/-- A number's decimal digits. -/
def decS (u : Nat) : ByteArray := ⟨(Go.Lib.decDigits u).toArray⟩
theorem dec_len (u : Nat) : (Go.Lib.decDigits u).length ≤ u + 1 := by
  induction u using Nat.strongRecOn with
  | _ u ih =>
    rw [Go.Lib.decDigits]
    by_cases h : u < 10
    · rw [dif_pos h, List.length_singleton]
      omega
    · rw [dif_neg h, List.length_append, List.length_singleton]
      have := ih (u / 10) (by omega)
      omega
theorem decS_size (u : Nat) : (decS u).size ≤ u + 1 := dec_len u
theorem decS_small {u : Nat} (h : u < 10) : decS u = strOfNums [(48 + (u : Int)) % 256] := by
  apply ba_ext
  rw [strOfNums_data]
  show Go.Lib.decDigits u = _
  rw [Go.Lib.decDigits, dif_pos h, List.map_singleton, show ((48 + (u : Int)) % 256).toNat = 48 + u by omega]
theorem decS_big {u : Nat} (h : ¬ u < 10) : decS u = decS (u / 10) ++ strOfNums [(48 + ((u % 10 : Nat) : Int)) % 256] := by
  apply ba_ext
  rw [ByteArray.data_append, Array.toList_append, strOfNums_data]
  show Go.Lib.decDigits u = Go.Lib.decDigits (u / 10) ++ _
  rw [Go.Lib.decDigits, dif_neg h, List.map_singleton, show ((48 + ((u % 10 : Nat) : Int)) % 256).toNat = 48 + u % 10 by omega]
theorem ba_assoc (a b c : ByteArray) : (a ++ b) ++ c = a ++ (b ++ c) := by
  apply bytesOf_inj
  rw [bytesOf_append, bytesOf_append, bytesOf_append, bytesOf_append, List.append_assoc]
theorem formatInt_l (u : Nat) : ∀ s : ByteArray, s.size + u ≤ 9223372036854775807 → (u = 0 → s.size = 0) → Ev (fun k => spec_FormatInt.l0 k (u : Int) s) (decS u ++ s) := by
  induction u using Nat.strongRecOn with
  | _ u ih =>
    intro s hs hz
    refine Ev.step (fun _ => spec_FormatInt.l0.eq_2 ..) ?_
    by_cases h : u < 10
    · refine Ev.neg (by omega) (Ev.bind0 rfl (Ev.pos ?_ ?_))
      · rw [strOfNums_size, List.length_singleton]
        omega
      · rw [w64 (n := 48 + (u : Int)) (by omega) (by omega), ← decS_small h]
        exact Ev.now _
    · refine Ev.pos (by omega) (Ev.bind0 rfl (Ev.pos ?_ ?_))
      · rw [strOfNums_size, List.length_singleton]
        omega
      · have e1 : Int.tdiv (u : Int) 10 = ((u / 10 : Nat) : Int) := by
          rw [Int.tdiv_eq_ediv_of_nonneg (by omega)]
          omega
        have e2 : Int.tmod (u : Int) 10 = ((u % 10 : Nat) : Int) := by
          rw [Int.tmod_eq_emod_of_nonneg (by omega)]
          omega
        rw [e1, e2, w64 (n := ((u / 10 : Nat) : Int)) (by omega) (by omega), w64 (n := 48 + ((u % 10 : Nat) : Int)) (by omega) (by omega), decS_big h, ba_assoc]
        refine ih (u / 10) (by omega) _ ?_ (by omega)
        rw [ByteArray.size_append, strOfNums_size, List.length_singleton]
        omega
theorem formatInt_neg (u : Nat) : 1 ≤ u → u ≤ 9223372036854775808 → Ev (fun k => spec_FormatInt.f k (-(u : Int))) ((⟨#[45]⟩ : ByteArray) ++ decS u) := by
  induction u using Nat.strongRecOn with
  | _ u ih =>
    intro h1 h2
    have e1 : Int.tdiv (-(u : Int)) 10 = -((u / 10 : Nat) : Int) := by
      rw [Int.neg_tdiv, Int.tdiv_eq_ediv_of_nonneg (by omega)]
      omega
    have e2 : Int.tmod (-(u : Int)) 10 = -((u % 10 : Nat) : Int) := by
      rw [Int.neg_tmod, Int.tmod_eq_emod_of_nonneg (by omega)]
      omega
    refine Ev.step (fun _ => spec_FormatInt.f.eq_2 ..) (Ev.pos (by omega) ?_)
    rw [e1, e2, w64 (n := -((u / 10 : Nat) : Int)) (by omega) (by omega)]
    by_cases h : u < 10
    · refine Ev.pos (by omega) (Ev.bind0 rfl (Ev.pos ?_ ?_))
      · rw [strOfNums_size, List.length_singleton]
        omega
      · rw [w64 (n := 48 - -(u : Int)) (by omega) (by omega), show 48 - -(u : Int) = 48 + (u : Int) by omega, ← decS_small h]
        exact Ev.now _
    · refine Ev.neg (by omega) (Ev.bind (ih (u / 10) (by omega) (by omega) (by omega)) (Ev.bind0 rfl (Ev.pos ?_ ?_)))
      · have := decS_size (u / 10)
        rw [strOfNums_size, List.length_singleton, ByteArray.size_append, show (⟨#[45]⟩ : ByteArray).size = 1 from rfl]
        omega
      · rw [w64 (n := 48 - -((u % 10 : Nat) : Int)) (by omega) (by omega), show 48 - -((u % 10 : Nat) : Int) = 48 + ((u % 10 : Nat) : Int) by omega, ba_assoc, ← decS_big h]
        exact Ev.now _
/-- A number's text. -/
def itoaS (n : Int) : ByteArray := ⟨(Go.Lib.itoa n).toArray⟩
theorem formatInt_spec (n : Int) (h0 : -9223372036854775808 ≤ n) (h1 : n ≤ 9223372036854775807) : Ev (fun k => spec_FormatInt.f k n) (itoaS n) := by
  by_cases h : n < 0
  · obtain ⟨u, rfl⟩ : ∃ u : Nat, n = -(u : Int) := ⟨n.natAbs, by omega⟩
    have e : itoaS (-(u : Int)) = (⟨#[45]⟩ : ByteArray) ++ decS u := by
      apply ba_ext
      rw [ByteArray.data_append, Array.toList_append]
      show Go.Lib.itoa (-(u : Int)) = [45] ++ Go.Lib.decDigits u
      unfold Go.Lib.itoa
      rw [if_pos h, Int.natAbs_neg, Int.natAbs_natCast]
      rfl
    rw [e]
    exact formatInt_neg u (by omega) (by omega)
  · obtain ⟨u, rfl⟩ : ∃ u : Nat, n = (u : Int) := ⟨n.toNat, by omega⟩
    have e : itoaS (u : Int) = decS u ++ (⟨#[]⟩ : ByteArray) := by
      apply ba_ext
      rw [ByteArray.data_append, Array.toList_append]
      show Go.Lib.itoa (u : Int) = Go.Lib.decDigits u ++ []
      unfold Go.Lib.itoa
      rw [if_neg h, Int.toNat_natCast, List.append_nil]
    rw [e]
    exact Ev.step (fun _ => spec_FormatInt.f.eq_2 ..) (Ev.neg h (formatInt_l u _ (by show 0 + u ≤ _; omega) (fun _ => rfl)))

theorem formatInt_impl (n : Int) (h0 : -9223372036854775808 ≤ n) (h1 : n ≤ 9223372036854775807) : impl_FormatInt.f n = some (itoaS n) := by
  unfold impl_FormatInt.f strconv_Itoa.f
  rw [if_pos ⟨h0, h1⟩]
  rfl

theorem FnExactFormatInt : laws_FnExactFormatInt.Pure := by
  intro n hn
  have := i64_range hn
  apply Ev.rounds
  unfold laws_FnExactFormatInt.f
  exact Ev.bind (formatInt_spec n this.1 this.2) (Ev.bind0 (formatInt_impl n this.1 this.2) (Ev.pos rfl (Ev.now _)))

end Go.Proofs.YtmnojegajblagaaDoor.Pure
