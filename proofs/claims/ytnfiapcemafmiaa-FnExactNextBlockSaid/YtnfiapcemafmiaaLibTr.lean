/- Steps through a region that draws, in short words; no condition. -/
import Derived.Test.YtnfiapcemafmiaaWTab
namespace Go.Proofs.Ytnfiapcemafmiaa.Lib
open Go.Proofs.YtnfiapcemafmiaaW.PrintLast
open Go.Proofs.YtnfiapcemafmiaaW.PrintWords (Aside0 blk_cell blk_frozen)
def trL : Bool → List Nat → List Bool
  | _, [] => []
  | b, n :: l => List.replicate n b ++ trL (!b) l
def tr (l : List Nat) : Array Bool := ⟨trL true l⟩
theorem pw (xs : List Value) (df : List Deferred) (d : Tmp) (v : Value) : Act.put ⟨xs.toArray, df⟩ (some d) v = ⟨(xs.set d v).toArray, df⟩ := by
  show (⟨xs.toArray.setIfInBounds d v, df⟩ : Act) = _
  rw [List.setIfInBounds_toArray]
theorem px {α : Type} (x y : α) (l : List α) : (x :: l).set 0 y = y :: l := rfl
theorem py {α : Type} (x y : α) (l : List α) (n : Nat) : (x :: l).set (n + 1) y = x :: l.set n y := rfl
section
variable {P : Program} {ops : Array Oper} {Q : Exit → Act → World → Prop} {md : Region.Mode} {S : World → Prop} {ds : List Nat} {T : Bool × List (List Nat × List Nat)} {B : List Nat} {oi : Oper} {fuel : Nat} {l : Array Bool} {a : Act} {w : World}
theorem pa (v : Value) (i d : Nat) (s : List Nat) (hT : Aside0 (rtab md ops = T)) (hi : ops[i]? = some oi) (hN : oi.dst = some d) (h : anyT T l.toList (tr s).toList i = true) (hQ : ∀ c a w, Q (.panic c) (a.put oi.dst v) w → Q (.panic c) a w)
    (hw : Region.wanted oi (yielded ops a.tmps) = true) (hy : ∀ w, (execOp a.eval oi).run P w = .ok (.value v) w) (a' : Act) (ha : a.put (some d) v = a') (hn : wpAnyLast P md ops Q S ds fuel (tr s) a' w) : wpAnyLast P md ops Q S ds (fuel + 1) l a w :=
  pure_ (tr s) hi hN (any_of hT.out h) hQ (Or.inl ⟨hw, hy⟩) ha hn
theorem pu (i d : Nat) (s : List Nat) (hT : Aside0 (rtab md ops = T)) (hi : ops[i]? = some oi) (hN : oi.dst = some d) (h : anyT T l.toList (tr s).toList i = true) (hQ : ∀ c a w, Q (.panic c) (a.put oi.dst undef) w → Q (.panic c) a w)
    (hw : Region.wanted oi (yielded ops a.tmps) = false) (a' : Act) (ha : a.put (some d) undef = a') (hn : wpAnyLast P md ops Q S ds fuel (tr s) a' w) : wpAnyLast P md ops Q S ds (fuel + 1) l a w :=
  pure_ (tr s) hi hN (any_of hT.out h) hQ (Or.inr ⟨hw, rfl⟩) ha hn
theorem pt (v : Value) (i d : Nat) (s : List Nat) (hT : Aside0 (rtab md ops = T)) (hB : Aside0 (waitsOk T.2 B = true)) (hi : ops[i]? = some oi) (hN : oi.dst = some d) (h : takeW T B ds l.toList (tr s).toList i = true) (hQ : ∀ c a w, Q (.panic c) (a.put oi.dst v) w → Q (.panic c) a w)
    (hw : Region.wanted oi (yielded ops a.tmps) = true) (hy : ∀ w, S w → (execOp a.eval oi).run P w = .ok (.value v) w) (hS : S w) (a' : Act) (ha : a.put (some d) v = a') (hn : wpAnyLast P md ops Q S ds fuel (tr s) a' w) : wpAnyLast P md ops Q S ds (fuel + 1) l a w :=
  take_ (tr s) hi hN (take_ofW hT.out hB.out h) hQ (Or.inl ⟨hw, hy⟩) hS ha hn
end
theorem cel2 {W : World} {g : Nat} {t : TypeId} {v0 v1 : Value} (h : W.heap[g]? = some (.cells #[v0, v1] t (0, 0))) : W.cell? ⟨g, 0, none⟩ = some v0 ∧ W.cell? ⟨g, 1, none⟩ = some v1 ∧ W.frozen? ⟨g, 0, none⟩ = false ∧ W.frozen? ⟨g, 1, none⟩ = false :=
  ⟨blk_cell h 0, blk_cell h 1, blk_frozen h 0, blk_frozen h 1⟩
theorem cel3 {W : World} {g : Nat} {t : TypeId} {v0 v1 v2 : Value} (h : W.heap[g]? = some (.cells #[v0, v1, v2] t (0, 0))) : W.cell? ⟨g, 0, none⟩ = some v0 ∧ W.cell? ⟨g, 1, none⟩ = some v1 ∧ W.cell? ⟨g, 2, none⟩ = some v2 ∧ W.frozen? ⟨g, 0, none⟩ = false ∧ W.frozen? ⟨g, 1, none⟩ = false ∧ W.frozen? ⟨g, 2, none⟩ = false :=
  ⟨blk_cell h 0, blk_cell h 1, blk_cell h 2, blk_frozen h 0, blk_frozen h 1, blk_frozen h 2⟩
theorem cel4 {W : World} {g : Nat} {t : TypeId} {v0 v1 v2 v3 : Value} (h : W.heap[g]? = some (.cells #[v0, v1, v2, v3] t (0, 0))) : W.cell? ⟨g, 0, none⟩ = some v0 ∧ W.cell? ⟨g, 1, none⟩ = some v1 ∧ W.cell? ⟨g, 2, none⟩ = some v2 ∧ W.cell? ⟨g, 3, none⟩ = some v3 ∧ W.frozen? ⟨g, 0, none⟩ = false ∧ W.frozen? ⟨g, 1, none⟩ = false ∧ W.frozen? ⟨g, 2, none⟩ = false ∧ W.frozen? ⟨g, 3, none⟩ = false :=
  ⟨blk_cell h 0, blk_cell h 1, blk_cell h 2, blk_cell h 3, blk_frozen h 0, blk_frozen h 1, blk_frozen h 2, blk_frozen h 3⟩
theorem cel10 {W : World} {g : Nat} {t : TypeId} {v0 v1 v2 v3 v4 v5 v6 v7 v8 v9 : Value} (h : W.heap[g]? = some (.cells #[v0, v1, v2, v3, v4, v5, v6, v7, v8, v9] t (0, 0))) : W.cell? ⟨g, 0, none⟩ = some v0 ∧ W.cell? ⟨g, 1, none⟩ = some v1 ∧ W.cell? ⟨g, 2, none⟩ = some v2 ∧ W.cell? ⟨g, 3, none⟩ = some v3 ∧ W.cell? ⟨g, 4, none⟩ = some v4 ∧ W.cell? ⟨g, 5, none⟩ = some v5 ∧ W.cell? ⟨g, 6, none⟩ = some v6 ∧ W.cell? ⟨g, 7, none⟩ = some v7 ∧ W.cell? ⟨g, 8, none⟩ = some v8 ∧ W.cell? ⟨g, 9, none⟩ = some v9 ∧ W.frozen? ⟨g, 0, none⟩ = false ∧ W.frozen? ⟨g, 1, none⟩ = false ∧ W.frozen? ⟨g, 2, none⟩ = false ∧ W.frozen? ⟨g, 3, none⟩ = false ∧ W.frozen? ⟨g, 4, none⟩ = false ∧ W.frozen? ⟨g, 5, none⟩ = false ∧ W.frozen? ⟨g, 6, none⟩ = false ∧ W.frozen? ⟨g, 7, none⟩ = false ∧ W.frozen? ⟨g, 8, none⟩ = false ∧ W.frozen? ⟨g, 9, none⟩ = false :=
  ⟨blk_cell h 0, blk_cell h 1, blk_cell h 2, blk_cell h 3, blk_cell h 4, blk_cell h 5, blk_cell h 6, blk_cell h 7, blk_cell h 8, blk_cell h 9, blk_frozen h 0, blk_frozen h 1, blk_frozen h 2, blk_frozen h 3, blk_frozen h 4, blk_frozen h 5, blk_frozen h 6, blk_frozen h 7, blk_frozen h 8, blk_frozen h 9⟩
section
open Go.RowKit Go.Proofs.YtnfiapcemafmiaaW.PrintWords
theorem od {p : Prop} [Decidable p] (h : decide p = true := by first | (with_reducible assumption) | assumption) : p := of_decide_eq_true h
def Ex (W0 W : World) : Prop := Below W0.heap.size W0 W
theorem ex0 (W : World) : Ex W W := Below.refl _ _
theorem exa {W0 W : World} (h : Ex W0 W) (o : Obj) : Ex W0 (W.alloc o) := below_alloc h o
theorem exd {W0 W : World} (h : Ex W0 W) : Ex W0 W.drew := below_drew1 h
theorem exn {W0 W : World} (h : Ex W0 W) (n : Nat) : Ex W0 (W.drewN n) := pw_below_drewN h n
theorem bw {w W0 W : World} (h : Below w.heap.size w W0) (k : Ex W0 W := by (with_reducible repeat (first | exact Lib.ex0 _ | apply Lib.exa | apply Lib.exn | apply Lib.exd))) : Below w.heap.size w W := below_step h k
def Ey (g : Nat) (W0 W : World) : Prop := ∀ w : World, Below w.heap.size w W0 → w.heap.size ≤ g → Below w.heap.size w W
theorem ey0 (g : Nat) (W : World) : Ey g W W := fun _ h _ => h
theorem eya {g : Nat} {W0 W : World} (h : Ey g W0 W) (o : Obj) : Ey g W0 (W.alloc o) := fun w a b => below_alloc (h w a b) o
theorem eyd {g : Nat} {W0 W : World} (h : Ey g W0 W) : Ey g W0 W.drew := fun w a b => below_drew1 (h w a b)
theorem eyn {g : Nat} {W0 W : World} (h : Ey g W0 W) (n : Nat) : Ey g W0 (W.drewN n) := fun w a b => pw_below_drewN (h w a b) n
theorem eys {g : Nat} {W0 W : World} (h : Ey g W0 W) (j : Nat) (v : Value) : Ey g W0 (W.setCell ⟨g, j, none⟩ v) := fun w a b => below_set (h w a b) b
theorem bs {w W0 W : World} {g : Nat} (h : Below w.heap.size w W0) (hg : w.heap.size ≤ g) (k : Ey g W0 W := by (with_reducible repeat (first | exact Lib.ey0 _ _ | apply Lib.eya | apply Lib.eyn | apply Lib.eyd | apply Lib.eys))) : Below w.heap.size w W := k w h hg
theorem bk {W0 W : World} {g : Nat} {o : Obj} (h : W0.heap[g]? = some o) (k : Ex W0 W := by (with_reducible repeat (first | exact Lib.ex0 _ | apply Lib.exa | apply Lib.exn | apply Lib.exd))) : W.heap[g]? = some o := blk_below h k
theorem cr {α : Type} {d : Kd α} {e : Nat} {W0 W : World} {base : Nat} {ok : Nat → Prop} {v : Value} {xs : List α} (h : d.R e W0 base ok v xs) (k : Ex W0 W := by (with_reducible repeat (first | exact Lib.ex0 _ | apply Lib.exa | apply Lib.exn | apply Lib.exd))) : d.R e W base ok v xs := Kd.R_below h k
theorem cx {α : Type} {d : Kd α} {W0 W : World} {xs : List α} {A : Option Addr} {n : Nat} (h : d.C W0 A n xs) (k : Ex W0 W := by (with_reducible repeat (first | exact Lib.ex0 _ | apply Lib.exa | apply Lib.exn | apply Lib.exd))) : d.C W A n xs := Kd.C_below h k
end
section
variable {P : Program} {ops : Array Oper} {Q : Exit → Act → World → Prop}
end
end Go.Proofs.Ytnfiapcemafmiaa.Lib
