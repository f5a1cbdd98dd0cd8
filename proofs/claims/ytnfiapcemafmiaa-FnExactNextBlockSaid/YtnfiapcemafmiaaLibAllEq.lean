/- Lemmas on numbers and lists that the proofs of this seat share; no condition. -/
import Derived.Test.YtnfiapcemafmiaaWMore
import Derived.Test.YtnfiapcemafmiaaLibBase
namespace Go.Proofs.Ytnfiapcemafmiaa.Lib
open Go.RowKit Go.Proofs.YtnfiapcemafmiaaW.PrintWords Go.Proofs.YtnfiapcemafmiaaW.PrintLast Go.Proofs.YtnfiapcemafmiaaW.PrintMore
set_option linter.unusedVariables false
set_option linter.unusedSimpArgs false

def allEq {α : Type} (f : α → α → Bool) : List α → List α → Bool
  | [], [] => true
  | x :: xs, y :: ys => f x y && allEq f xs ys
  | _, _ => false
theorem allEq_len {α : Type} {f : α → α → Bool} (a : List α) : ∀ b : List α, a.length ≠ b.length → allEq f a b = false := by
  induction a with
  | nil =>
    intro b h
    cases b with
    | nil => exact absurd rfl h
    | cons y b => rfl
  | cons x a ih =>
    intro b h
    cases b with
    | nil => rfl
    | cons y b => rw [allEq, ih b (fun e => h (by rw [List.length_cons, List.length_cons, e])), Bool.and_false]
theorem allEq_true {α : Type} {f : α → α → Bool} (hf : ∀ x y, f x y = true → x = y) (a : List α) : ∀ b : List α, allEq f a b = true → a = b := by
  induction a with
  | nil =>
    intro b h
    cases b with
    | nil => rfl
    | cons y b => simp [allEq] at h
  | cons x a ih =>
    intro b h
    cases b with
    | nil => simp [allEq] at h
    | cons y b =>
      rw [allEq, Bool.and_eq_true] at h
      rw [hf x y h.1, ih b h.2]
def intEq (x y : Int) : Bool := decide (x = y)
end Go.Proofs.Ytnfiapcemafmiaa.Lib
