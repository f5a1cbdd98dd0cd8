/- Lemmas on numbers and lists that the proofs of this seat share; no condition. -/
import Derived.Test.YtmnojegajblagaaWMore
import Derived.Test.YtmnojegajblagaaLibBase
namespace Go.Proofs.Ytmnojegajblagaa.Lib
open Go.RowKit Go.Proofs.YtmnojegajblagaaW.PrintWords Go.Proofs.YtmnojegajblagaaW.PrintLast Go.Proofs.YtmnojegajblagaaW.PrintMore
set_option linter.unusedVariables false
set_option linter.unusedSimpArgs false

/-- The permission of a class. -/
def permOf (m c : Int) : Int := if 0 ≤ m ∧ m ≤ 2047 ∧ 0 ≤ c ∧ c ≤ 2 then (if c = 0 then m / 64 % 8 else if c = 1 then m / 8 % 8 else m % 8) else 0
theorem permOf_range (m c : Int) : 0 ≤ permOf m c ∧ permOf m c ≤ 7 := by
  unfold permOf
  repeat' split
  all_goals omega
theorem shr_at {x y : Int} (n : Nat) (h : y = (n : Int)) (hn : n ≤ 64) : shr .i64 x y = x / 2 ^ n := by
  subst h
  unfold shr
  rw [Int.toNat_natCast, show IntKind.i64.bits = 64 from rfl, Nat.min_eq_left hn]
/-- A mode's letters: c where its bit is set, '-' else. -/
def fmtL : List Int → Int → List Int
  | [], _ => []
  | c :: cs, n => (if n / 2 ^ cs.length % 2 = 0 then 45 else c) :: fmtL cs n
def modeL : List Int := [115, 116, 114, 119, 120, 114, 119, 120, 114, 119, 120]
def formatMode (n : Int) : ByteArray := if 0 ≤ n ∧ n ≤ 2047 then strOfNums (fmtL modeL n) else ByteArray.empty
theorem strOfNums_append (l m : List Int) : strOfNums (l ++ m) = strOfNums l ++ strOfNums m := by
  apply ba_ext
  rw [ByteArray.data_append, Array.toList_append, strOfNums_data, strOfNums_data, strOfNums_data, List.map_append]
theorem bit_1024 : ∀ n : Fin 2048, (Go.bits .and .i64 (n.val : Int) 1024 != 0) = !decide ((n.val : Int) / 1024 % 2 = 0) := by decide +kernel
theorem bit_512 : ∀ n : Fin 2048, (Go.bits .and .i64 (n.val : Int) 512 != 0) = !decide ((n.val : Int) / 512 % 2 = 0) := by decide +kernel
theorem bit_4 : ∀ n : Fin 8, (Go.bits .and .i64 (n.val : Int) 4 != 0) = !decide ((n.val : Int) / 4 % 2 = 0) := by decide +kernel
theorem bit_2 : ∀ n : Fin 8, (Go.bits .and .i64 (n.val : Int) 2 != 0) = !decide ((n.val : Int) / 2 % 2 = 0) := by decide +kernel
theorem bit_1 : ∀ n : Fin 8, (Go.bits .and .i64 (n.val : Int) 1 != 0) = !decide ((n.val : Int) % 2 = 0) := by decide +kernel
theorem fin_of {m : Nat} {x : Int} (h0 : 0 ≤ x) (h1 : x < (m : Int)) : ∃ n : Fin m, (n.val : Int) = x := ⟨⟨x.toNat, by omega⟩, by simp only; omega⟩

end Go.Proofs.Ytmnojegajblagaa.Lib
