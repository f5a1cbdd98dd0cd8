/- Steps through a region that draws, in short words; no condition. -/
import Derived.Test.YtnfiapcemafmiaaWTab
namespace Go.Proofs.Ytnfiapcemafmiaa.Lib
open Go.Proofs.YtnfiapcemafmiaaW.PrintLast
open Go.Proofs.YtnfiapcemafmiaaW.PrintWords (Aside0 blk_cell blk_frozen)
def trL : Bool → List Nat → List Bool
  | _, [] => []
  | b, n :: l => List.replicate n b ++ trL (!b) l
/-- So many true, so many false, so many true .. -/
def tr (l : List Nat) : Array Bool := ⟨trL true l⟩
theorem pw (xs : List Value) (df : List Deferred) (d : Tmp) (v : Value) : Act.put ⟨xs.toArray, df⟩ (some d) v = ⟨(xs.set d v).toArray, df⟩ := by
  show (⟨xs.toArray.setIfInBounds d v, df⟩ : Act) = _
  rw [List.setIfInBounds_toArray]
theorem px {α : Type} (x y : α) (l : List α) : (x :: l).set 0 y = y :: l := rfl
theorem py {α : Type} (x y : α) (l : List α) (n : Nat) : (x :: l).set (n + 1) y = x :: l.set n y := rfl
section
variable {P : Program} {ops : Array Oper} {Q : Exit → Act → World → Prop} {md : Region.Mode} {S : World → Prop} {ds : List Nat} {T : Bool × List (List Nat × List Nat)} {B : List Nat} {oi : Oper} {fuel : Nat} {l : Array Bool} {a : Act} {w : World}
/-- An operation that yields in every world. -/
theorem pa (v : Value) (i d : Nat) (s : List Nat) (hT : Aside0 (rtab md ops = T)) (hi : ops[i]? = some oi) (hN : oi.dst = some d) (h : anyT T l.toList (tr s).toList i = true) (hQ : ∀ c a w, Q (.panic c) (a.put oi.dst v) w → Q (.panic c) a w)
    (hw : Region.wanted oi (yielded ops a.tmps) = true) (hy : ∀ w, (execOp a.eval oi).run P w = .ok (.value v) w) (a' : Act) (ha : a.put (some d) v = a') (hn : wpAnyLast P md ops Q S ds fuel (tr s) a' w) : wpAnyLast P md ops Q S ds (fuel + 1) l a w :=
  pure_ (tr s) hi hN (any_of hT.out h) hQ (Or.inl ⟨hw, hy⟩) ha hn
/-- An operation that is passed by. -/
theorem pu (i d : Nat) (s : List Nat) (hT : Aside0 (rtab md ops = T)) (hi : ops[i]? = some oi) (hN : oi.dst = some d) (h : anyT T l.toList (tr s).toList i = true) (hQ : ∀ c a w, Q (.panic c) (a.put oi.dst undef) w → Q (.panic c) a w)
    (hw : Region.wanted oi (yielded ops a.tmps) = false) (a' : Act) (ha : a.put (some d) undef = a') (hn : wpAnyLast P md ops Q S ds fuel (tr s) a' w) : wpAnyLast P md ops Q S ds (fuel + 1) l a w :=
  pure_ (tr s) hi hN (any_of hT.out h) hQ (Or.inr ⟨hw, rfl⟩) ha hn
/-- An operation that yields where S holds. -/
theorem pt (v : Value) (i d : Nat) (s : List Nat) (hT : Aside0 (rtab md ops = T)) (hB : Aside0 (waitsOk T.2 B = true)) (hi : ops[i]? = some oi) (hN : oi.dst = some d) (h : takeW T B ds l.toList (tr s).toList i = true) (hQ : ∀ c a w, Q (.panic c) (a.put oi.dst v) w → Q (.panic c) a w)
    (hw : Region.wanted oi (yielded ops a.tmps) = true) (hy : ∀ w, S w → (execOp a.eval oi).run P w = .ok (.value v) w) (hS : S w) (a' : Act) (ha : a.put (some d) v = a') (hn : wpAnyLast P md ops Q S ds fuel (tr s) a' w) : wpAnyLast P md ops Q S ds (fuel + 1) l a w :=
  take_ (tr s) hi hN (take_ofW hT.out hB.out h) hQ (Or.inl ⟨hw, hy⟩) hS ha hn
def putU : Act → Nat → Nat → Act
  | a, 0, _ => a
  | a, k + 1, d => putU (a.put (some d) undef) k (d + 1)
def skipB (ops : Array Oper) (T : Bool × List (List Nat × List Nat)) : Nat → Act → Nat → Nat → List Bool → List Bool → Bool
  | 0, _, _, _, l, l' => l == l'
  | k + 1, a, i, d, l, l' => (match ops[i]? with | some o => decide (o.dst = some d) && !Region.wanted o (yielded ops a.tmps) | none => false) && (T.1 && freeT T.2 l i && readyAt T.2 l i) && skipB ops T k (a.put (some d) undef) (i + 1) (d + 1) (l.set i true) l'
theorem pus_ (hT : rtab md ops = T) (hQ : ∀ (d : Tmp) v c a w, Q (.panic c) (Act.put a (some d) v) w → Q (.panic c) a w) (l' : Array Bool) (k : Nat) : ∀ (i d : Nat) (l : Array Bool) (a : Act), skipB ops T k a i d l.toList l'.toList = true →
    wpAnyLast P md ops Q S ds fuel l' (putU a k d) w → wpAnyLast P md ops Q S ds (fuel + k) l a w := by
  induction k with
  | zero =>
    intro i d l a h hn
    have e : l = l' := Array.ext' (by simpa [skipB] using h)
    subst e
    exact hn
  | succ k ih =>
    intro i d l a h hn
    simp only [skipB, Bool.and_eq_true] at h
    obtain ⟨⟨h1, h2⟩, h3⟩ := h
    cases hi : ops[i]? with
    | none => rw [hi] at h1; cases h1
    | some o =>
      rw [hi] at h1
      simp only [Bool.and_eq_true, decide_eq_true_eq, Bool.not_eq_true'] at h1
      refine pure_ (N := some d) (v := undef) (l.setIfInBounds i true) hi h1.1 (any_of hT ?_) (fun c a w => by rw [h1.1]; exact hQ d _ c a w) (Or.inr ⟨h1.2, rfl⟩) rfl (ih (i + 1) (d + 1) _ _ ?_ hn)
      · simp only [anyT, Bool.and_eq_true, Array.toList_setIfInBounds, beq_self_eq_true, and_true]
        exact ⟨⟨h2.1.1, h2.1.2⟩, h2.2⟩
      · rw [Array.toList_setIfInBounds]
        exact h3
/-- Operations that are passed by, k of them, one behind the other. -/
theorem pus (k i d : Nat) (s : List Nat) (hT : Aside0 (rtab md ops = T)) (h : skipB ops T k a i d l.toList (tr s).toList = true) (hQ : ∀ (d : Tmp) v c a w, Q (.panic c) (Act.put a (some d) v) w → Q (.panic c) a w) (a' : Act) (ha : putU a k d = a') (hn : wpAnyLast P md ops Q S ds fuel (tr s) a' w) : wpAnyLast P md ops Q S ds (fuel + k) l a w :=
  pus_ hT.out hQ (tr s) k i d l a h (by rw [ha]; exact hn)
end
theorem cel2 {W : World} {g : Nat} {t : TypeId} {v0 v1 : Value} (h : W.heap[g]? = some (.cells #[v0, v1] t (0, 0))) : W.cell? ⟨g, 0, none⟩ = some v0 ∧ W.cell? ⟨g, 1, none⟩ = some v1 ∧ W.frozen? ⟨g, 0, none⟩ = false ∧ W.frozen? ⟨g, 1, none⟩ = false :=
  ⟨blk_cell h 0, blk_cell h 1, blk_frozen h 0, blk_frozen h 1⟩
theorem cel3 {W : World} {g : Nat} {t : TypeId} {v0 v1 v2 : Value} (h : W.heap[g]? = some (.cells #[v0, v1, v2] t (0, 0))) : W.cell? ⟨g, 0, none⟩ = some v0 ∧ W.cell? ⟨g, 1, none⟩ = some v1 ∧ W.cell? ⟨g, 2, none⟩ = some v2 ∧ W.frozen? ⟨g, 0, none⟩ = false ∧ W.frozen? ⟨g, 1, none⟩ = false ∧ W.frozen? ⟨g, 2, none⟩ = false :=
  ⟨blk_cell h 0, blk_cell h 1, blk_cell h 2, blk_frozen h 0, blk_frozen h 1, blk_frozen h 2⟩
theorem cel4 {W : World} {g : Nat} {t : TypeId} {v0 v1 v2 v3 : Value} (h : W.heap[g]? = some (.cells #[v0, v1, v2, v3] t (0, 0))) : W.cell? ⟨g, 0, none⟩ = some v0 ∧ W.cell? ⟨g, 1, none⟩ = some v1 ∧ W.cell? ⟨g, 2, none⟩ = some v2 ∧ W.cell? ⟨g, 3, none⟩ = some v3 ∧ W.frozen? ⟨g, 0, none⟩ = false ∧ W.frozen? ⟨g, 1, none⟩ = false ∧ W.frozen? ⟨g, 2, none⟩ = false ∧ W.frozen? ⟨g, 3, none⟩ = false :=
  ⟨blk_cell h 0, blk_cell h 1, blk_cell h 2, blk_cell h 3, blk_frozen h 0, blk_frozen h 1, blk_frozen h 2, blk_frozen h 3⟩
theorem cel10 {W : World} {g : Nat} {t : TypeId} {v0 v1 v2 v3 v4 v5 v6 v7 v8 v9 : Value} (h : W.heap[g]? = some (.cells #[v0, v1, v2, v3, v4, v5, v6, v7, v8, v9] t (0, 0))) : W.cell? ⟨g, 0, none⟩ = some v0 ∧ W.cell? ⟨g, 1, none⟩ = some v1 ∧ W.cell? ⟨g, 2, none⟩ = some v2 ∧ W.cell? ⟨g, 3, none⟩ = some v3 ∧ W.cell? ⟨g, 4, none⟩ = some v4 ∧ W.cell? ⟨g, 5, none⟩ = some v5 ∧ W.cell? ⟨g, 6, none⟩ = some v6 ∧ W.cell? ⟨g, 7, none⟩ = some v7 ∧ W.cell? ⟨g, 8, none⟩ = some v8 ∧ W.cell? ⟨g, 9, none⟩ = some v9 ∧ W.frozen? ⟨g, 0, none⟩ = false ∧ W.frozen? ⟨g, 1, none⟩ = false ∧ W.frozen? ⟨g, 2, none⟩ = false ∧ W.frozen? ⟨g, 3, none⟩ = false ∧ W.frozen? ⟨g, 4, none⟩ = false ∧ W.frozen? ⟨g, 5, none⟩ = false ∧ W.frozen? ⟨g, 6, none⟩ = false ∧ W.frozen? ⟨g, 7, none⟩ = false ∧ W.frozen? ⟨g, 8, none⟩ = false ∧ W.frozen? ⟨g, 9, none⟩ = false :=
  ⟨blk_cell h 0, blk_cell h 1, blk_cell h 2, blk_cell h 3, blk_cell h 4, blk_cell h 5, blk_cell h 6, blk_cell h 7, blk_cell h 8, blk_cell h 9, blk_frozen h 0, blk_frozen h 1, blk_frozen h 2, blk_frozen h 3, blk_frozen h 4, blk_frozen h 5, blk_frozen h 6, blk_frozen h 7, blk_frozen h 8, blk_frozen h 9⟩
section
open Go.RowKit Go.Proofs.YtnfiapcemafmiaaW.PrintWords
theorem od {p : Prop} [Decidable p] (h : decide p = true := by first | (with_reducible assumption) | assumption) : p := of_decide_eq_true h
/-- W is W0 with new blocks and draws. -/
def Ex (W0 W : World) : Prop := Below W0.heap.size W0 W
theorem ex0 (W : World) : Ex W W := Below.refl _ _
theorem exa {W0 W : World} (h : Ex W0 W) (o : Obj) : Ex W0 (W.alloc o) := below_alloc h o
theorem exd {W0 W : World} (h : Ex W0 W) : Ex W0 W.drew := below_drew1 h
theorem exn {W0 W : World} (h : Ex W0 W) (n : Nat) : Ex W0 (W.drewN n) := pw_below_drewN h n
theorem bw {w W0 W : World} (h : Below w.heap.size w W0) (k : Ex W0 W := by (with_reducible repeat (first | exact Lib.ex0 _ | apply Lib.exa | apply Lib.exn | apply Lib.exd))) : Below w.heap.size w W := below_step h k
/-- W is W0 with new blocks and draws, and stores into block g. -/
def Ey (g : Nat) (W0 W : World) : Prop := ∀ w : World, Below w.heap.size w W0 → w.heap.size ≤ g → Below w.heap.size w W
theorem ey0 (g : Nat) (W : World) : Ey g W W := fun _ h _ => h
theorem eya {g : Nat} {W0 W : World} (h : Ey g W0 W) (o : Obj) : Ey g W0 (W.alloc o) := fun w a b => below_alloc (h w a b) o
theorem eyd {g : Nat} {W0 W : World} (h : Ey g W0 W) : Ey g W0 W.drew := fun w a b => below_drew1 (h w a b)
theorem eyn {g : Nat} {W0 W : World} (h : Ey g W0 W) (n : Nat) : Ey g W0 (W.drewN n) := fun w a b => pw_below_drewN (h w a b) n
theorem eys {g : Nat} {W0 W : World} (h : Ey g W0 W) (j : Nat) (v : Value) : Ey g W0 (W.setCell ⟨g, j, none⟩ v) := fun w a b => below_set (h w a b) b
theorem bs {w W0 W : World} {g : Nat} (h : Below w.heap.size w W0) (hg : w.heap.size ≤ g) (k : Ey g W0 W := by (with_reducible repeat (first | exact Lib.ey0 _ _ | apply Lib.eya | apply Lib.eyn | apply Lib.eyd | apply Lib.eys))) : Below w.heap.size w W := k w h hg
theorem bk {W0 W : World} {g : Nat} {o : Obj} (h : W0.heap[g]? = some o) (k : Ex W0 W := by (with_reducible repeat (first | exact Lib.ex0 _ | apply Lib.exa | apply Lib.exn | apply Lib.exd))) : W.heap[g]? = some o := blk_below h k
theorem cr {α : Type} {d : Kd α} {e : Nat} {W0 W : World} {base : Nat} {ok : Nat → Prop} {v : Value} {xs : List α} (h : d.R e W0 base ok v xs) (k : Ex W0 W := by (with_reducible repeat (first | exact Lib.ex0 _ | apply Lib.exa | apply Lib.exn | apply Lib.exd))) : d.R e W base ok v xs := Kd.R_below h k
theorem cx {α : Type} {d : Kd α} {W0 W : World} {xs : List α} {A : Option Addr} {n : Nat} (h : d.C W0 A n xs) (k : Ex W0 W := by (with_reducible repeat (first | exact Lib.ex0 _ | apply Lib.exa | apply Lib.exn | apply Lib.exd))) : d.C W A n xs := Kd.C_below h k
end
section
variable {P : Program} {ops : Array Oper} {Q : Exit → Act → World → Prop}
/-- The operation is a call of a function that lies in a slot. -/
theorem gate_slot {rest : List Oper} {oi : Oper} {a : Act} {w : World} {s : Tmp} {as : Array Operand} {ts : Array TypeId} (_ho : oi.op = .call { callee := .value (.tmp s), args := as, argTypes := ts }) (h : wpList P ops Q (oi :: rest) a w) : wpList P ops Q (oi :: rest) a w := h
/-- A call of a function that lies in a slot, at its contract. -/
theorem goesSlot_ {rest : List Oper} {oi : Oper} {a : Act} {w : World} (cv : Operand) {f : FuncId} (hcv : a.eval cv = .func (.func f) #[] #[]) (N : Option Tmp) (hd : oi.dst = N) (hg : oi.guard = none) {fn : Func} {as : Array Operand} {ts : Array TypeId} (hf : P.funcs[f]? = some fn) (hname : (fn.name == "runtime.NumGoroutine") = false) (hb : fn.body.isSome = true) (args : Array Value)
    (hop : oi.op = .call { callee := .value cv, args := as, argTypes := ts }) (hargs : as.map a.eval = args)
    (h : Calls P f args w fun e w' => ∃ v, e = .returned v ∧ wpList P ops Q rest (a.put N v) w') : wpList P ops Q (oi :: rest) a w := by
  refine wpList_plain hg fun K hK => ?_
  have he := enters_ hf hname hb args w
  have hrun : (execOp a.eval oi).run P w = .ok (.enter f args) w := by
    unfold execOp
    simp [hop, resolve, Deferred.ofValue, invoke, hcv, hargs, he]
  unfold Oper.wp
  rw [hrun, Oper.upon_enter]
  refine h.mono fun e w'' hh => ?_
  obtain ⟨v, rfl, hk⟩ := hh
  subst hd
  exact hK _ _ hk
/-- A call of a closure that lies in a slot, at its contract: what it has captured stands behind its arguments. -/
theorem goesClos_ {rest : List Oper} {oi : Oper} {a : Act} {w : World} (cv : Operand) {f : FuncId} {cap : Array Value} (hcv : a.eval cv = .func (.func f) #[] cap) (N : Option Tmp) (hd : oi.dst = N) (hg : oi.guard = none) {fn : Func} {as : Array Operand} {ts : Array TypeId} (hf : P.funcs[f]? = some fn) (hname : (fn.name == "runtime.NumGoroutine") = false) (hb : fn.body.isSome = true) (args : Array Value)
    (hop : oi.op = .call { callee := .value cv, args := as, argTypes := ts }) (hargs : as.map a.eval ++ cap = args)
    (h : Calls P f args w fun e w' => ∃ v, e = .returned v ∧ wpList P ops Q rest (a.put N v) w') : wpList P ops Q (oi :: rest) a w := by
  refine wpList_plain hg fun K hK => ?_
  have he := enters_ hf hname hb args w
  have hrun : (execOp a.eval oi).run P w = .ok (.enter f args) w := by
    unfold execOp
    simp [hop, resolve, Deferred.ofValue, invoke, hcv, hargs, he]
  unfold Oper.wp
  rw [hrun, Oper.upon_enter]
  refine h.mono fun e w'' hh => ?_
  obtain ⟨v, rfl, hk⟩ := hh
  subst hd
  exact hK _ _ hk
end
end Go.Proofs.Ytnfiapcemafmiaa.Lib
