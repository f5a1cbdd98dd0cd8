/- Steps through a region that draws, in short words; no condition. -/
import Derived.Test.YtmnojegajblagabWTab
namespace Go.Proofs.Ytmnojegajblagab.Lib
open Go.Proofs.YtmnojegajblagabW.PrintLast
open Go.Proofs.YtmnojegajblagabW.PrintWords (Aside0)
def trL : Bool → List Nat → List Bool
  | _, [] => []
  | b, n :: l => List.replicate n b ++ trL (!b) l
/-- So many true, so many false, so many true .. -/
def tr (l : List Nat) : Array Bool := ⟨trL true l⟩
theorem pw (xs : List Value) (df : List Deferred) (d : Tmp) (v : Value) : Act.put ⟨xs.toArray, df⟩ (some d) v = ⟨(xs.set d v).toArray, df⟩ := by
  show (⟨xs.toArray.setIfInBounds d v, df⟩ : Act) = _
  rw [List.setIfInBounds_toArray]
theorem px {α : Type} (x y : α) (l : List α) : (x :: l).set 0 y = y :: l := rfl
theorem py {α : Type} (x y : α) (l : List α) (n : Nat) : (x :: l).set (n + 1) y = x :: l.set n y := rfl
section
variable {P : Program} {ops : Array Oper} {Q : Exit → Act → World → Prop} {md : Region.Mode} {S : World → Prop} {ds : List Nat} {T : Bool × List (List Nat × List Nat)} {B : List Nat} {oi : Oper} {fuel : Nat} {l : Array Bool} {a : Act} {w : World}
/-- An operation that yields in every world. -/
theorem pa (v : Value) (i d : Nat) (s : List Nat) (hT : Aside0 (rtab md ops = T)) (hi : ops[i]? = some oi) (hN : oi.dst = some d) (h : anyT T l.toList (tr s).toList i = true) (hQ : ∀ c a w, Q (.panic c) (a.put oi.dst v) w → Q (.panic c) a w)
    (hw : Region.wanted oi (yielded ops a.tmps) = true) (hy : ∀ w, (execOp a.eval oi).run P w = .ok (.value v) w) (a' : Act) (ha : a.put (some d) v = a') (hn : wpAnyLast P md ops Q S ds fuel (tr s) a' w) : wpAnyLast P md ops Q S ds (fuel + 1) l a w :=
  pure_ (tr s) hi hN (any_of hT.out h) hQ (Or.inl ⟨hw, hy⟩) ha hn
/-- An operation that is passed by. -/
theorem pu (i d : Nat) (s : List Nat) (hT : Aside0 (rtab md ops = T)) (hi : ops[i]? = some oi) (hN : oi.dst = some d) (h : anyT T l.toList (tr s).toList i = true) (hQ : ∀ c a w, Q (.panic c) (a.put oi.dst undef) w → Q (.panic c) a w)
    (hw : Region.wanted oi (yielded ops a.tmps) = false) (a' : Act) (ha : a.put (some d) undef = a') (hn : wpAnyLast P md ops Q S ds fuel (tr s) a' w) : wpAnyLast P md ops Q S ds (fuel + 1) l a w :=
  pure_ (tr s) hi hN (any_of hT.out h) hQ (Or.inr ⟨hw, rfl⟩) ha hn
/-- An operation that yields where S holds. -/
theorem pt (v : Value) (i d : Nat) (s : List Nat) (hT : Aside0 (rtab md ops = T)) (hB : Aside0 (waitsOk T.2 B = true)) (hi : ops[i]? = some oi) (hN : oi.dst = some d) (h : takeW T B ds l.toList (tr s).toList i = true) (hQ : ∀ c a w, Q (.panic c) (a.put oi.dst v) w → Q (.panic c) a w)
    (hw : Region.wanted oi (yielded ops a.tmps) = true) (hy : ∀ w, S w → (execOp a.eval oi).run P w = .ok (.value v) w) (hS : S w) (a' : Act) (ha : a.put (some d) v = a') (hn : wpAnyLast P md ops Q S ds fuel (tr s) a' w) : wpAnyLast P md ops Q S ds (fuel + 1) l a w :=
  take_ (tr s) hi hN (take_ofW hT.out hB.out h) hQ (Or.inl ⟨hw, hy⟩) hS ha hn
end
end Go.Proofs.Ytmnojegajblagab.Lib
