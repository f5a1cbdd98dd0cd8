/- Lemmas on numbers and lists that the proofs of this seat share; no condition. -/
import Derived.Test.YtcafdolliedcaaaWMore
import Derived.Test.YtcafdolliedcaaaLibModes
namespace Go.Proofs.Ytcafdolliedcaaa.Lib
open Go.RowKit Go.Proofs.YtcafdolliedcaaaW.PrintWords Go.Proofs.YtcafdolliedcaaaW.PrintLast Go.Proofs.YtcafdolliedcaaaW.PrintMore
set_option linter.unusedVariables false
set_option linter.unusedSimpArgs false

/-- A mode's number from its letters. -/
def numL : List Int → Int → Int
  | [], n => n
  | x :: l, n => numL l (2 * n + (if x = 45 then 0 else 1))
/-- Each letter is its place's own or '-'. -/
def okL : List Int → List Int → Bool
  | [], [] => true
  | c :: cs, x :: xs => (x == c || x == 45) && okL cs xs
  | _, _ => false
theorem fmtL_length (cs : List Int) (n : Int) : (fmtL cs n).length = cs.length := by
  induction cs with
  | nil => rfl
  | cons c cs ih => rw [fmtL, List.length_cons, ih, List.length_cons]
theorem numL_range (xs : List Int) : ∀ n : Int, n * 2 ^ xs.length ≤ numL xs n ∧ numL xs n < (n + 1) * 2 ^ xs.length := by
  induction xs with
  | nil =>
    intro n
    simp only [numL, List.length_nil, Int.pow_zero]
    omega
  | cons x xs ih =>
    intro n
    have hp : (0 : Int) < 2 ^ xs.length := Int.pow_pos (by decide)
    have e1 : (2 : Int) ^ (x :: xs).length = 2 * 2 ^ xs.length := by rw [List.length_cons, Int.pow_succ, Int.mul_comm]
    have h := ih (2 * n + (if x = 45 then 0 else 1))
    rw [numL, e1]
    generalize hP : (2 : Int) ^ xs.length = P at *
    by_cases hx : x = 45
    · simp only [if_pos hx] at *
      have a1 : n * (2 * P) = (2 * n + 0) * P := by rw [← Int.mul_assoc, Int.mul_comm n 2, Int.add_zero]
      have a2 : (2 * n + 0 + 1) * P ≤ (n + 1) * (2 * P) := by
        rw [← Int.mul_assoc]
        exact Int.mul_le_mul_of_nonneg_right (by omega) (by omega)
      omega
    · simp only [if_neg hx] at *
      have a1 : n * (2 * P) ≤ (2 * n + 1) * P := by
        rw [← Int.mul_assoc]
        exact Int.mul_le_mul_of_nonneg_right (by omega) (by omega)
      have a2 : (2 * n + 1 + 1) * P = (n + 1) * (2 * P) := by
        rw [← Int.mul_assoc]
        congr 1
        omega
      omega
/-- Only the low bits count. -/
theorem fmtL_mod (cs : List Int) : ∀ a n : Int, fmtL cs (a * 2 ^ cs.length + n) = fmtL cs n := by
  induction cs with
  | nil => exact fun _ _ => rfl
  | cons c cs ih =>
    intro a n
    have e1 : a * (2 : Int) ^ (c :: cs).length = (2 * a) * 2 ^ cs.length := by rw [List.length_cons, Int.pow_succ, Int.mul_comm (2 ^ cs.length) 2, ← Int.mul_assoc, Int.mul_comm a 2]
    rw [e1, fmtL, fmtL, ih (2 * a) n]
    congr 1
    have hp : (2 : Int) ^ cs.length ≠ 0 := Int.ne_of_gt (Int.pow_pos (by decide))
    rw [Int.add_comm, Int.add_mul_ediv_right _ _ hp]
    have : (n / 2 ^ cs.length + 2 * a) % 2 = n / 2 ^ cs.length % 2 := by omega
    rw [this]
theorem numL_split (xs : List Int) : ∀ n : Int, numL xs n = n * 2 ^ xs.length + numL xs 0 := by
  induction xs with
  | nil =>
    intro n
    simp [numL]
  | cons x xs ih =>
    intro n
    rw [numL, ih, numL, ih (2 * 0 + _)]
    have e1 : n * (2 : Int) ^ (x :: xs).length = (2 * n) * 2 ^ xs.length := by rw [List.length_cons, Int.pow_succ, Int.mul_comm (2 ^ xs.length) 2, ← Int.mul_assoc, Int.mul_comm n 2]
    rw [e1, Int.add_mul, Int.add_mul]
    omega
theorem fmt_num (cs : List Int) : ∀ xs : List Int, xs.length = cs.length → (∀ c, c ∈ cs → c ≠ 45) → (okL cs xs = true ↔ fmtL cs (numL xs 0) = xs) := by
  induction cs with
  | nil =>
    intro xs h _
    have : xs = [] := List.eq_nil_of_length_eq_zero h
    subst this
    simp [okL, fmtL]
  | cons c cs ih =>
    intro xs h hc
    cases xs with
    | nil => simp at h
    | cons x xs =>
      have hl : xs.length = cs.length := by simpa using h
      have hcc := hc c (List.mem_cons_self ..)
      have hp : (2 : Int) ^ cs.length ≠ 0 := Int.ne_of_gt (Int.pow_pos (by decide))
      have hr := numL_range xs 0
      rw [hl] at hr
      have e : numL (x :: xs) 0 = (if x = 45 then 0 else 1) * 2 ^ cs.length + numL xs 0 := by
        rw [numL, numL_split, hl]
        congr 2
        omega
      have e2 : numL xs 0 / 2 ^ cs.length = 0 := Int.ediv_eq_zero_of_lt (by omega) (by omega)
      rw [okL, e, fmtL, fmtL_mod, Int.add_comm, Int.add_mul_ediv_right _ _ hp, e2, Bool.and_eq_true, ih xs hl (fun c h => hc c (List.mem_cons_of_mem _ h)), List.cons.injEq]
      by_cases hx : x = 45
      · simp [hx]
      · have e3 : ((x == c || x == 45) = true) ↔ c = x := by
          rw [Bool.or_eq_true, beq_iff_eq, beq_iff_eq]
          omega
        rw [if_neg hx, e3, if_neg (by omega)]
theorem okL_length (cs : List Int) : ∀ xs, okL cs xs = true → xs.length = cs.length := by
  induction cs with
  | nil =>
    intro xs h
    cases xs with
    | nil => rfl
    | cons x xs => simp [okL] at h
  | cons c cs ih =>
    intro xs h
    cases xs with
    | nil => simp [okL] at h
    | cons x xs =>
      rw [okL, Bool.and_eq_true] at h
      rw [List.length_cons, List.length_cons, ih xs h.2]
theorem modeL_ne : ∀ c, c ∈ modeL → c ≠ 45 := by decide
theorem fmtL_range (cs : List Int) (h : ∀ c, c ∈ cs → 0 ≤ c ∧ c ≤ 255) (n : Int) : ∀ x, x ∈ fmtL cs n → 0 ≤ x ∧ x ≤ 255 := by
  induction cs with
  | nil =>
    intro x hx
    cases hx
  | cons c cs ih =>
    intro x hx
    rw [fmtL, List.mem_cons] at hx
    have hc := h c (List.mem_cons_self ..)
    rcases hx with hx | hx
    · subst hx
      split <;> omega
    · exact ih (fun c hc => h c (List.mem_cons_of_mem _ hc)) x hx
def parseMode (t : ByteArray) : Int × Bool := if okL modeL (bytesOf t) = true then (numL (bytesOf t) 0, true) else (0, false)
theorem parse_format {n : Int} (h0 : 0 ≤ n) (h1 : n ≤ 2047) (t : ByteArray) (hn : n = numL ((bytesOf t).take 11) 0) : formatMode n = t ↔ okL modeL (bytesOf t) = true := by
  unfold formatMode
  rw [if_pos ⟨h0, h1⟩]
  have hr := fmtL_range modeL (by decide) n
  constructor
  · intro h
    have hb : bytesOf t = fmtL modeL n := by rw [← h, bytesOf_strOfNums hr]
    have hl : (bytesOf t).length = modeL.length := by rw [hb, fmtL_length]
    rw [List.take_of_length_le (by rw [hl]; decide)] at hn
    refine (fmt_num modeL (bytesOf t) hl modeL_ne).2 ?_
    rw [← hn]
    exact hb.symm
  · intro h
    have hl := okL_length _ _ h
    rw [List.take_of_length_le (by rw [hl]; decide)] at hn
    have := (fmt_num modeL (bytesOf t) hl modeL_ne).1 h
    rw [← hn] at this
    rw [this, strOfNums_bytesOf]

end Go.Proofs.Ytcafdolliedcaaa.Lib
