/- Lemmas on numbers and lists that the proofs of this seat share; no condition. -/
import Derived.Test.YtbgkeeaccfabaaaWMore
import Derived.Test.YtbgkeeaccfabaaaLibBase
namespace Go.Proofs.Ytbgkeeaccfabaaa.Lib
open Go.RowKit Go.Proofs.YtbgkeeaccfabaaaW.PrintWords Go.Proofs.YtbgkeeaccfabaaaW.PrintLast Go.Proofs.YtbgkeeaccfabaaaW.PrintMore
set_option linter.unusedVariables false
set_option linter.unusedSimpArgs false

/-- A number from its bytes, the greatest first. -/
def num256 : List Int → Int → Int
  | [], n => n
  | x :: l, n => num256 l (256 * n + x)
def getNumber (s : ByteArray) (a w : Int) : Int × Bool :=
  if 1 ≤ w ∧ w ≤ 6 ∧ 0 ≤ a ∧ a ≤ (s.size : Int) - w then (num256 (((bytesOf s).drop a.toNat).take w.toNat) 0, true) else (0, false)
/-- What i bytes may make at most. -/
def okAcc (i n : Int) : Prop := 0 ≤ n ∧ ((i = 0 ∧ n < 1) ∨ (i = 1 ∧ n < 256) ∨ (i = 2 ∧ n < 65536) ∨ (i = 3 ∧ n < 16777216) ∨ (i = 4 ∧ n < 4294967296) ∨ (i = 5 ∧ n < 1099511627776) ∨ (i = 6 ∧ n < 281474976710656))
theorem okAcc_step {i n x : Int} (h : okAcc i n) (hi : i < 6) (h0 : 0 ≤ x) (h1 : x ≤ 255) : okAcc (i + 1) (256 * n + x) := by
  unfold okAcc at *
  omega
theorem okAcc_lt {i n : Int} (h : okAcc i n) : 0 ≤ n ∧ n < 281474976710656 := by
  unfold okAcc at h
  omega
/-- The w bytes of a number, the greatest first. -/
def putL : Nat → Int → List Int
  | 0, _ => []
  | w + 1, n => putL w (n / 256) ++ [n % 256]
theorem putL_length (w : Nat) : ∀ n : Int, (putL w n).length = w := by
  induction w with
  | zero => exact fun _ => rfl
  | succ w ih => exact fun n => by rw [putL, List.length_append, ih]; rfl
theorem putL_range (w : Nat) : ∀ (n x : Int), x ∈ putL w n → 0 ≤ x ∧ x ≤ 255 := by
  induction w with
  | zero =>
    intro n x h
    cases h
  | succ w ih =>
    intro n x h
    rw [putL, List.mem_append] at h
    rcases h with h | h
    · exact ih _ _ h
    · rw [List.mem_singleton] at h
      omega
def putNumber (n w : Int) : ByteArray := if 1 ≤ w ∧ w ≤ 6 ∧ 0 ≤ n ∧ n < 256 ^ w.toNat then strOfNums (putL w.toNat n) else ⟨#[]⟩
theorem shl_put {w : Int} (h1 : 1 ≤ w) (h6 : w ≤ 6) : shl .i64 1 (IntKind.u64.wrap (8 * IntKind.u64.wrap w)) = 256 ^ w.toNat ∧ 0 ≤ IntKind.u64.wrap (8 * IntKind.u64.wrap w) ∧
    shl .i64 1 (wrap64 (8 * w)) = 256 ^ w.toNat ∧ 0 ≤ wrap64 (8 * w) := by
  obtain rfl | rfl | rfl | rfl | rfl | rfl : w = 1 ∨ w = 2 ∨ w = 3 ∨ w = 4 ∨ w = 5 ∨ w = 6 := by omega
  all_goals decide +kernel
theorem set_drop {xs : List Int} {d : Nat} (v : Int) (h : d < xs.length) : (xs.set d v).drop d = v :: xs.drop (d + 1) := by
  rw [List.drop_eq_getElem_cons (by rw [List.length_set]; exact h), List.getElem_set_self, List.drop_set_of_lt (by omega)]

end Go.Proofs.Ytbgkeeaccfabaaa.Lib
