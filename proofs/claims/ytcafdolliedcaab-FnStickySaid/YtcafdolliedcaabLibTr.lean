/- Steps through a region that draws, in short words; no condition. -/
import Derived.Test.YtcafdolliedcaabWTab
namespace Go.Proofs.Ytcafdolliedcaab.Lib
open Go.Proofs.YtcafdolliedcaabW.PrintLast
open Go.Proofs.YtcafdolliedcaabW.PrintWords (Aside0 blk_cell blk_frozen)
def trL : Bool → List Nat → List Bool
  | _, [] => []
  | b, n :: l => List.replicate n b ++ trL (!b) l
/-- So many true, so many false, so many true .. -/
def tr (l : List Nat) : Array Bool := ⟨trL true l⟩
theorem pw (xs : List Value) (df : List Deferred) (d : Tmp) (v : Value) : Act.put ⟨xs.toArray, df⟩ (some d) v = ⟨(xs.set d v).toArray, df⟩ := by
  show (⟨xs.toArray.setIfInBounds d v, df⟩ : Act) = _
  rw [List.setIfInBounds_toArray]
theorem px {α : Type} (x y : α) (l : List α) : (x :: l).set 0 y = y :: l := rfl
theorem py {α : Type} (x y : α) (l : List α) (n : Nat) : (x :: l).set (n + 1) y = x :: l.set n y := rfl
section
variable {P : Program} {ops : Array Oper} {Q : Exit → Act → World → Prop} {md : Region.Mode} {S : World → Prop} {ds : List Nat} {T : Bool × List (List Nat × List Nat)} {B : List Nat} {oi : Oper} {fuel : Nat} {l : Array Bool} {a : Act} {w : World}
/-- An operation that yields in every world. -/
theorem pa (v : Value) (i d : Nat) (s : List Nat) (hT : Aside0 (rtab md ops = T)) (hi : ops[i]? = some oi) (hN : oi.dst = some d) (h : anyT T l.toList (tr s).toList i = true) (hQ : ∀ c a w, Q (.panic c) (a.put oi.dst v) w → Q (.panic c) a w)
    (hw : Region.wanted oi (yielded ops a.tmps) = true) (hy : ∀ w, (execOp a.eval oi).run P w = .ok (.value v) w) (a' : Act) (ha : a.put (some d) v = a') (hn : wpAnyLast P md ops Q S ds fuel (tr s) a' w) : wpAnyLast P md ops Q S ds (fuel + 1) l a w :=
  pure_ (tr s) hi hN (any_of hT.out h) hQ (Or.inl ⟨hw, hy⟩) ha hn
/-- An operation that is passed by. -/
theorem pu (i d : Nat) (s : List Nat) (hT : Aside0 (rtab md ops = T)) (hi : ops[i]? = some oi) (hN : oi.dst = some d) (h : anyT T l.toList (tr s).toList i = true) (hQ : ∀ c a w, Q (.panic c) (a.put oi.dst undef) w → Q (.panic c) a w)
    (hw : Region.wanted oi (yielded ops a.tmps) = false) (a' : Act) (ha : a.put (some d) undef = a') (hn : wpAnyLast P md ops Q S ds fuel (tr s) a' w) : wpAnyLast P md ops Q S ds (fuel + 1) l a w :=
  pure_ (tr s) hi hN (any_of hT.out h) hQ (Or.inr ⟨hw, rfl⟩) ha hn
/-- An operation that yields where S holds. -/
theorem pt (v : Value) (i d : Nat) (s : List Nat) (hT : Aside0 (rtab md ops = T)) (hB : Aside0 (waitsOk T.2 B = true)) (hi : ops[i]? = some oi) (hN : oi.dst = some d) (h : takeW T B ds l.toList (tr s).toList i = true) (hQ : ∀ c a w, Q (.panic c) (a.put oi.dst v) w → Q (.panic c) a w)
    (hw : Region.wanted oi (yielded ops a.tmps) = true) (hy : ∀ w, S w → (execOp a.eval oi).run P w = .ok (.value v) w) (hS : S w) (a' : Act) (ha : a.put (some d) v = a') (hn : wpAnyLast P md ops Q S ds fuel (tr s) a' w) : wpAnyLast P md ops Q S ds (fuel + 1) l a w :=
  take_ (tr s) hi hN (take_ofW hT.out hB.out h) hQ (Or.inl ⟨hw, hy⟩) hS ha hn
def putU : Act → Nat → Nat → Act
  | a, 0, _ => a
  | a, k + 1, d => putU (a.put (some d) undef) k (d + 1)
def skipB (ops : Array Oper) (T : Bool × List (List Nat × List Nat)) : Nat → Act → Nat → Nat → List Bool → List Bool → Bool
  | 0, _, _, _, l, l' => l == l'
  | k + 1, a, i, d, l, l' => (match ops[i]? with | some o => decide (o.dst = some d) && !Region.wanted o (yielded ops a.tmps) | none => false) && (T.1 && freeT T.2 l i && readyAt T.2 l i) && skipB ops T k (a.put (some d) undef) (i + 1) (d + 1) (l.set i true) l'
theorem pus_ (hT : rtab md ops = T) (hQ : ∀ d v c a w, Q (.panic c) (Act.put a d v) w → Q (.panic c) a w) (l' : Array Bool) (k : Nat) : ∀ (i d : Nat) (l : Array Bool) (a : Act), skipB ops T k a i d l.toList l'.toList = true →
    wpAnyLast P md ops Q S ds fuel l' (putU a k d) w → wpAnyLast P md ops Q S ds (fuel + k) l a w := by
  induction k with
  | zero =>
    intro i d l a h hn
    have e : l = l' := Array.ext' (by simpa [skipB] using h)
    subst e
    exact hn
  | succ k ih =>
    intro i d l a h hn
    simp only [skipB, Bool.and_eq_true] at h
    obtain ⟨⟨h1, h2⟩, h3⟩ := h
    cases hi : ops[i]? with
    | none => rw [hi] at h1; cases h1
    | some o =>
      rw [hi] at h1
      simp only [Bool.and_eq_true, decide_eq_true_eq, Bool.not_eq_true'] at h1
      refine pure_ (N := some d) (v := undef) (l.setIfInBounds i true) hi h1.1 (any_of hT ?_) (fun c a w => hQ _ _ c a w) (Or.inr ⟨h1.2, rfl⟩) rfl (ih (i + 1) (d + 1) _ _ ?_ hn)
      · simp only [anyT, Bool.and_eq_true, Array.toList_setIfInBounds, beq_self_eq_true, and_true]
        exact ⟨⟨h2.1.1, h2.1.2⟩, h2.2⟩
      · rw [Array.toList_setIfInBounds]
        exact h3
/-- Operations that are passed by, k of them, one behind the other. -/
theorem pus (k i d : Nat) (s : List Nat) (hT : Aside0 (rtab md ops = T)) (h : skipB ops T k a i d l.toList (tr s).toList = true) (hQ : ∀ d v c a w, Q (.panic c) (Act.put a d v) w → Q (.panic c) a w) (a' : Act) (ha : putU a k d = a') (hn : wpAnyLast P md ops Q S ds fuel (tr s) a' w) : wpAnyLast P md ops Q S ds (fuel + k) l a w :=
  pus_ hT.out hQ (tr s) k i d l a h (by rw [ha]; exact hn)
end
theorem cel2 {W : World} {g : Nat} {t : TypeId} {v0 v1 : Value} (h : W.heap[g]? = some (.cells #[v0, v1] t (0, 0))) : W.cell? ⟨g, 0, none⟩ = some v0 ∧ W.cell? ⟨g, 1, none⟩ = some v1 ∧ W.frozen? ⟨g, 0, none⟩ = false ∧ W.frozen? ⟨g, 1, none⟩ = false :=
  ⟨blk_cell h 0, blk_cell h 1, blk_frozen h 0, blk_frozen h 1⟩
theorem cel3 {W : World} {g : Nat} {t : TypeId} {v0 v1 v2 : Value} (h : W.heap[g]? = some (.cells #[v0, v1, v2] t (0, 0))) : W.cell? ⟨g, 0, none⟩ = some v0 ∧ W.cell? ⟨g, 1, none⟩ = some v1 ∧ W.cell? ⟨g, 2, none⟩ = some v2 ∧ W.frozen? ⟨g, 0, none⟩ = false ∧ W.frozen? ⟨g, 1, none⟩ = false ∧ W.frozen? ⟨g, 2, none⟩ = false :=
  ⟨blk_cell h 0, blk_cell h 1, blk_cell h 2, blk_frozen h 0, blk_frozen h 1, blk_frozen h 2⟩
theorem cel4 {W : World} {g : Nat} {t : TypeId} {v0 v1 v2 v3 : Value} (h : W.heap[g]? = some (.cells #[v0, v1, v2, v3] t (0, 0))) : W.cell? ⟨g, 0, none⟩ = some v0 ∧ W.cell? ⟨g, 1, none⟩ = some v1 ∧ W.cell? ⟨g, 2, none⟩ = some v2 ∧ W.cell? ⟨g, 3, none⟩ = some v3 ∧ W.frozen? ⟨g, 0, none⟩ = false ∧ W.frozen? ⟨g, 1, none⟩ = false ∧ W.frozen? ⟨g, 2, none⟩ = false ∧ W.frozen? ⟨g, 3, none⟩ = false :=
  ⟨blk_cell h 0, blk_cell h 1, blk_cell h 2, blk_cell h 3, blk_frozen h 0, blk_frozen h 1, blk_frozen h 2, blk_frozen h 3⟩
theorem cel10 {W : World} {g : Nat} {t : TypeId} {v0 v1 v2 v3 v4 v5 v6 v7 v8 v9 : Value} (h : W.heap[g]? = some (.cells #[v0, v1, v2, v3, v4, v5, v6, v7, v8, v9] t (0, 0))) : W.cell? ⟨g, 0, none⟩ = some v0 ∧ W.cell? ⟨g, 1, none⟩ = some v1 ∧ W.cell? ⟨g, 2, none⟩ = some v2 ∧ W.cell? ⟨g, 3, none⟩ = some v3 ∧ W.cell? ⟨g, 4, none⟩ = some v4 ∧ W.cell? ⟨g, 5, none⟩ = some v5 ∧ W.cell? ⟨g, 6, none⟩ = some v6 ∧ W.cell? ⟨g, 7, none⟩ = some v7 ∧ W.cell? ⟨g, 8, none⟩ = some v8 ∧ W.cell? ⟨g, 9, none⟩ = some v9 ∧ W.frozen? ⟨g, 0, none⟩ = false ∧ W.frozen? ⟨g, 1, none⟩ = false ∧ W.frozen? ⟨g, 2, none⟩ = false ∧ W.frozen? ⟨g, 3, none⟩ = false ∧ W.frozen? ⟨g, 4, none⟩ = false ∧ W.frozen? ⟨g, 5, none⟩ = false ∧ W.frozen? ⟨g, 6, none⟩ = false ∧ W.frozen? ⟨g, 7, none⟩ = false ∧ W.frozen? ⟨g, 8, none⟩ = false ∧ W.frozen? ⟨g, 9, none⟩ = false :=
  ⟨blk_cell h 0, blk_cell h 1, blk_cell h 2, blk_cell h 3, blk_cell h 4, blk_cell h 5, blk_cell h 6, blk_cell h 7, blk_cell h 8, blk_cell h 9, blk_frozen h 0, blk_frozen h 1, blk_frozen h 2, blk_frozen h 3, blk_frozen h 4, blk_frozen h 5, blk_frozen h 6, blk_frozen h 7, blk_frozen h 8, blk_frozen h 9⟩
end Go.Proofs.Ytcafdolliedcaab.Lib
