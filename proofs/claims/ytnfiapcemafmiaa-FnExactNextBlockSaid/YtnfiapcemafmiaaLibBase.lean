/- Lemmas on numbers and lists that the proofs of this seat share; no condition. -/
import Derived.Test.YtnfiapcemafmiaaWMore
namespace Go.Proofs.Ytnfiapcemafmiaa.Lib
open Go.RowKit Go.Proofs.YtnfiapcemafmiaaW.PrintWords Go.Proofs.YtnfiapcemafmiaaW.PrintLast Go.Proofs.YtnfiapcemafmiaaW.PrintMore
set_option linter.unusedVariables false
set_option linter.unusedSimpArgs false

theorem w64 {n : Int} (h0 : -9223372036854775808 ≤ n) (h1 : n ≤ 9223372036854775807) : wrap64 n = n := by
  unfold wrap64
  omega

theorem Ev.pos {α : Type} {c : Prop} [Decidable c] {f g : Nat → Option α} {r : α} (h : c) (k : Ev f r) : Ev (fun n => if c then f n else g n) r := by
  simpa only [if_pos h] using k
theorem Ev.neg {α : Type} {c : Prop} [Decidable c] {f g : Nat → Option α} {r : α} (h : ¬ c) (k : Ev g r) : Ev (fun n => if c then f n else g n) r := by
  simpa only [if_neg h] using k
theorem Ev.some {α : Type} (r : α) : Ev (fun _ => Option.some r) r := Ev.now r
theorem Ev.ofEq {α : Type} {o : Option α} {r : α} (h : o = Option.some r) : Ev (fun _ => o) r := ⟨0, fun _ _ => h⟩
theorem Ev.bind0 {α β : Type} {o : Option α} {f : Nat → α → Option β} {a : α} {r : β} (h : o = Option.some a) (k : Ev (fun n => f n a) r) : Ev (fun n => o.bind (f n)) r := by
  subst h
  exact k
theorem Ev.uniq {α : Type} {g : Nat → Option α} {r s : α} (h : Ev g r) (k : Ev g s) : r = s := by
  obtain ⟨K, h⟩ := h
  obtain ⟨L, k⟩ := k
  have h1 := h (max K L) (by omega)
  have h2 := k (max K L) (by omega)
  rw [h1] at h2
  exact Option.some.inj h2

theorem ldrop_nil {α : Type} {xs : List α} {i : Int} (h0 : 0 ≤ i) (h : xs.drop i.toNat = []) : (xs.length : Int) ≤ i := by
  have := List.drop_eq_nil_iff.1 h
  omega
theorem ldrop_cons {α : Type} (d : α) {xs : List α} {i : Int} {x : α} {l : List α} (h0 : 0 ≤ i) (h : xs.drop i.toNat = x :: l) :
    i < (xs.length : Int) ∧ rdOf d xs i = x ∧ xs.drop (i + 1).toNat = l ∧ (xs.length : Int) = i + 1 + (l.length : Int) := by
  have hl : i.toNat < xs.length := by
    rcases Nat.lt_or_ge i.toNat xs.length with h' | h'
    · exact h'
    · rw [List.drop_eq_nil_of_le h'] at h
      cases h
  rw [List.drop_eq_getElem_cons hl] at h
  injection h with h1 h2
  have e : (i + 1).toNat = i.toNat + 1 := by omega
  refine ⟨by omega, ?_, by rw [e]; exact h2, ?_⟩
  · unfold rdOf
    rw [List.getD_eq_getElem?_getD, List.getElem?_eq_getElem hl]
    exact h1
  · rw [← h2, List.length_drop]
    omega
theorem bdrop_nil {s : ByteArray} {i : Int} (h0 : 0 ≤ i) (h : (bytesOf s).drop i.toNat = []) : (s.size : Int) ≤ i := by
  have := ldrop_nil h0 h
  rw [bytesOf_length] at this
  exact this
theorem bdrop_cons {s : ByteArray} {i : Int} {x : Int} {l : List Int} (h0 : 0 ≤ i) (h : (bytesOf s).drop i.toNat = x :: l) :
    i < (s.size : Int) ∧ bt s i = x ∧ (bytesOf s).drop (i + 1).toNat = l ∧ (s.size : Int) = i + 1 + (l.length : Int) := by
  have := ldrop_cons (0 : Int) h0 h
  rw [bytesOf_length] at this
  obtain ⟨a, b, c, e⟩ := this
  refine ⟨a, ?_, c, e⟩
  rw [← rd_bytesOf]
  exact b
theorem set_take {α : Type} {xs : List α} {i : Int} (v : α) (h0 : 0 ≤ i) (h : i < (xs.length : Int)) : (xs.set i.toNat v).take (i + 1).toNat = xs.take i.toNat ++ [v] := by
  have e : (i + 1).toNat = i.toNat + 1 := by omega
  have lt : i.toNat < xs.length := by omega
  rw [e, List.take_succ_eq_append_getElem (by rw [List.length_set]; exact lt), List.getElem_set_self, List.take_set_of_le (Nat.le_refl _)]

end Go.Proofs.Ytnfiapcemafmiaa.Lib
