/- A region that draws its order and only reads, makes and calls: walked once, in the text's order; no condition. -/
import Derived.Deep.Quiet
import Derived.WalkKit
import Derived.Test.YtnfiapcemafmiaaLibTr
import Derived.Test.YtnfiapcemafmiaaWMore
namespace Go.Proofs.Ytnfiapcemafmiaa.Lib
open Go.RowKit Go.Proofs.YtnfiapcemafmiaaW.PrintWords Go.Proofs.YtnfiapcemafmiaaW.PrintLast Go.Proofs.YtnfiapcemafmiaaW.PrintMore
set_option linter.unusedVariables false
set_option linter.unusedSimpArgs false
open Go.Proofs.YtnfiapcemafmiaaW.PrintLast (opsOf)
def vif (c : Bool) (v : Value) : Value := if c = true then v else undef
theorem args1 {x u : Value} (h : x = u) : #[x] = #[u] := by rw [h]
theorem args2 {x y u v : Value} (h : x = u) (k : y = v) : #[x, y] = #[u, v] := by rw [h, k]
theorem args3 {x y z u v t : Value} (h : x = u) (k : y = v) (m : z = t) : #[x, y, z] = #[u, v, t] := by rw [h, k, m]
theorem vif_true (v : Value) : vif true v = v := rfl
theorem vif_on {c : Bool} {v : Value} (h : c = true) : vif c v = v := if_pos h
theorem vif_and {c d : Bool} {v : Value} (h : (c && d) = true) : vif c v = v := if_pos (by revert h; cases c <;> simp)
section
variable {P : Program} {f : Func} {id : Nat} {w0 : World} {Q : Act → Prop} {l : List Oper} {a a' : Act} {o : Oper} {c : Bool} {v : Value}
def Wq (P : Program) (f : Func) (id : Nat) (w0 : World) (Q : Act → Prop) (l : List Oper) (a : Act) : Prop :=
  wpQuiet P (opsOf f id) (fun w => Below w0.heap.size w0 w) Q l a
theorem q_start {Q : Exit → Act → World → Prop} {w : World} (w0 : World) (f : Func) (hm : P.follows .mixedOrders = true) (hops : l.toArray = opsOf f id) (hB : Region.lexB .any (opsOf f id) = true) (hb : Below w0.heap.size w0 w)
    (h : Wq P f id w0 (fun a' => ∀ w', Below w0.heap.size w0 w' → Q .normal a' w') l a) : (Code.region id l.toArray true).wp P Q a w := by
  unfold Wq at h
  rw [← hops] at h hB
  exact wp_region_quiet (C := fun w => Below w0.heap.size w0 w) hm hB (below_drew1 hb) (by simpa using h)
theorem list_quiet {ops : Array Oper} {C : World → Prop} {Qa : Act → Prop} {Q : Exit → Act → World → Prop} (hQ : ∀ a w, C w → Qa a → Q .normal a w) : ∀ (l : List Oper) (a : Act) (w : World), C w → wpQuiet P ops C Qa l a → wpList P ops Q l a w
  | [], a, w, hw, h => hQ a w hw h
  | o :: l, a, w, hw, h => by
    unfold wpQuiet at h
    unfold wpList
    split
    · rename_i hc
      rw [if_pos hc] at h
      exact .inl (Oper.wp_of_quiet hw (fun a' w' hw' hk => list_quiet hQ l a' w' hw' hk) h)
    · rename_i hc
      rw [if_neg hc] at h
      exact list_quiet hQ l _ w hw h
theorem q_plain {Q : Exit → Act → World → Prop} {w : World} (w0 : World) (f : Func) (hops : l.toArray = opsOf f id) (hb : Below w0.heap.size w0 w)
    (h : Wq P f id w0 (fun a' => ∀ w', Below w0.heap.size w0 w' → Q .normal a' w') l a) : (Code.region id l.toArray false).wp P Q a w := by
  unfold Wq at h
  rw [← hops] at h
  exact wp_region_lit (list_quiet (C := fun w => Below w0.heap.size w0 w) (fun a w hw hk => hk w hw) l a w hb h)
theorem q_done (h : Q a) : Wq P f id w0 Q [] a := h
theorem q_raw (hw : Region.wanted o (yielded (opsOf f id) a.tmps) = c) (hy : c = true → ∀ w, Below w0.heap.size w0 w → o.quietAt P a (fun w => Below w0.heap.size w0 w) w v) (ha : a.put o.dst (vif c v) = a') (h : Wq P f id w0 Q l a') : Wq P f id w0 Q (o :: l) a := by
  subst ha
  unfold Wq at h ⊢
  show if Region.wanted o (yielded (opsOf f id) a.tmps) = true then _ else _
  rw [hw]
  cases c with
  | true => exact ⟨v, hy rfl, h⟩
  | false => exact h
theorem want_n {ops : Array Oper} {ts : Array Value} (hg : o.guard = none) : Region.wanted o (yielded ops ts) = true := by simp [Region.wanted, hg]
section
variable {ops : Array Oper} {ts : Array Value} {oj : Oper} {j d : Nat} {b : Bool}
theorem want_f (hg : o.guard = some (j, false)) (hj : ops[j]? = some oj) (hd : oj.dst = some d) (hv : ts[d]? = some (.bool b)) : Region.wanted o (yielded ops ts) = !b := by cases b <;> simp [Region.wanted, hg, yielded, hj, hd, hv]
theorem want_t (hg : o.guard = some (j, true)) (hj : ops[j]? = some oj) (hd : oj.dst = some d) (hv : ts[d]? = some (.bool b)) : Region.wanted o (yielded ops ts) = b := by simp [Region.wanted, hg, yielded, hj, hd, hv]
theorem want_vf (hg : o.guard = some (j, false)) (hj : ops[j]? = some oj) (hd : oj.dst = some d) (hv : ts[d]? = some (vif c (.bool b))) : Region.wanted o (yielded ops ts) = (c && !b) := by
  cases c with
  | true => cases b <;> simp [Region.wanted, hg, yielded, hj, hd, hv, vif]
  | false => simp [Region.wanted, hg, yielded, hj, hd, hv, vif, undef]
theorem want_vt (hg : o.guard = some (j, true)) (hj : ops[j]? = some oj) (hd : oj.dst = some d) (hv : ts[d]? = some (vif c (.bool b))) : Region.wanted o (yielded ops ts) = (c && b) := by
  cases c with
  | true => simp [Region.wanted, hg, yielded, hj, hd, hv, vif]
  | false => simp [Region.wanted, hg, yielded, hj, hd, hv, vif, undef]
end
theorem q (x y : Operand) {u1 u2 : Value} {S : World → Prop} {g : Option Tmp}
    (hw : Region.wanted o (yielded (opsOf f id) a.tmps) = c := by first | exact Lib.want_n rfl | exact Lib.want_f rfl rfl rfl rfl | exact Lib.want_t rfl rfl rfl rfl | exact Lib.want_vf rfl rfl rfl rfl | exact Lib.want_vt rfl rfl rfl rfl)
    (hx : c = true → a.eval x = u1 := by first | exact fun h => Lib.vif_on h | exact fun h => Lib.vif_and h | exact fun _ => rfl) (hy : c = true → a.eval y = u2 := by first | exact fun h => Lib.vif_on h | exact fun h => Lib.vif_and h | exact fun _ => rfl)
    (hS : ∀ w, Below w0.heap.size w0 w → S w := by assumption)
    (hr : c = true → ∀ ρ : Operand → Value, ρ x = u1 → ρ y = u2 → (∀ k, ρ (.const k) = k) → ∀ w, S w → (execOp ρ o).run P w = .ok (.value v) w := by intro hc ρ h1 h2 hk w hw; first | (go_simp; with_reducible rfl) | (simp only [h1, h2, hk]; go_simp; with_reducible rfl))
    (hd : o.dst = g := by rfl) (ha : a.put g (vif c v) = a' := by simp only [Lib.pw, Lib.px, Lib.py, Lib.vif_true]; rfl) (h : Wq P f id w0 Q l a') : Wq P f id w0 Q (o :: l) a := by
  subst hd
  refine q_raw hw (fun hc w hb => ?_) ha h
  unfold Oper.quietAt
  rw [hr hc a.eval (hx hc) (hy hc) (fun _ => rfl) w (hS w hb)]
  exact ⟨rfl, rfl⟩
theorem q_or (x y : Operand) {b z c2 : Bool} {g : Option Tmp}
    (hop : o.op = .pick x (.const (.bool true)) y := by rfl)
    (hw : Region.wanted o (yielded (opsOf f id) a.tmps) = c := by first | exact Lib.want_n rfl | exact Lib.want_f rfl rfl rfl rfl | exact Lib.want_t rfl rfl rfl rfl | exact Lib.want_vf rfl rfl rfl rfl | exact Lib.want_vt rfl rfl rfl rfl)
    (hx : c = true → a.eval x = .bool b := by first | exact fun h => Lib.vif_on h | exact fun _ => rfl) (hy : a.eval y = vif c2 (.bool z) := by rfl)
    (hc : c2 = (!b) ∨ c2 = (c && !b) := by with_reducible first | exact Or.inl rfl | exact Or.inr rfl)
    (hd : o.dst = g := by rfl) (ha : a.put g (vif c (.bool (b || z))) = a' := by simp only [Lib.pw, Lib.px, Lib.py, Lib.vif_true]; rfl) (h : Wq P f id w0 Q l a') : Wq P f id w0 Q (o :: l) a := by
  subst hd
  refine q_raw hw (fun hc' w hb => ?_) ha h
  unfold Oper.quietAt execOp
  rw [hop]
  cases b with
  | true => simp [hx hc', hy, asBool, Oper.quietUpon]; rfl
  | false =>
    have hk : c2 = true := by rcases hc with h | h <;> simp [h, hc']
    simp [hx hc', hy, hk, vif, asBool, Oper.quietUpon]
theorem q_and (x y : Operand) {b z c2 : Bool} {g : Option Tmp}
    (hop : o.op = .pick x y (.const (.bool false)) := by rfl)
    (hw : Region.wanted o (yielded (opsOf f id) a.tmps) = c := by first | exact Lib.want_n rfl | exact Lib.want_f rfl rfl rfl rfl | exact Lib.want_t rfl rfl rfl rfl | exact Lib.want_vf rfl rfl rfl rfl | exact Lib.want_vt rfl rfl rfl rfl)
    (hx : c = true → a.eval x = .bool b := by first | exact fun h => Lib.vif_on h | exact fun _ => rfl) (hy : a.eval y = vif c2 (.bool z) := by rfl)
    (hc : c2 = b ∨ c2 = (c && b) := by with_reducible first | exact Or.inl rfl | exact Or.inr rfl)
    (hd : o.dst = g := by rfl) (ha : a.put g (vif c (.bool (b && z))) = a' := by simp only [Lib.pw, Lib.px, Lib.py, Lib.vif_true]; rfl) (h : Wq P f id w0 Q l a') : Wq P f id w0 Q (o :: l) a := by
  subst hd
  refine q_raw hw (fun hc' w hb => ?_) ha h
  unfold Oper.quietAt execOp
  rw [hop]
  cases b with
  | false => simp [hx hc', hy, asBool, Oper.quietUpon]; rfl
  | true =>
    have hk : c2 = true := by rcases hc with h | h <;> simp [h, hc']
    simp [hx hc', hy, hk, vif, asBool, Oper.quietUpon]
theorem q_call {fid : FuncId} {fn : Func} {as : Array Operand} {ts : Array TypeId} (v : Value) (args : Array Value) {g : Option Tmp} (hf : P.funcs[fid]? = some fn)
    (hop : o.op = .call { callee := .value (.func fid), args := as, argTypes := ts } := by rfl) (hname : (fn.name == "runtime.NumGoroutine") = false := by kernel_rfl) (hb : fn.body.isSome = true := by rfl)
    (hw : Region.wanted o (yielded (opsOf f id) a.tmps) = c := by first | exact Lib.want_n rfl | exact Lib.want_f rfl rfl rfl rfl | exact Lib.want_t rfl rfl rfl rfl | exact Lib.want_vf rfl rfl rfl rfl | exact Lib.want_vt rfl rfl rfl rfl)
    (hargs : c = true → as.map a.eval = args := by intro hc; simp only [List.map_toArray, List.map_cons, List.map_nil]; first | exact Lib.args1 (by first | exact Lib.vif_on hc | exact Lib.vif_and hc | rfl) | exact Lib.args2 (by first | exact Lib.vif_on hc | exact Lib.vif_and hc | rfl) (by first | exact Lib.vif_on hc | exact Lib.vif_and hc | rfl) | exact Lib.args3 (by first | exact Lib.vif_on hc | exact Lib.vif_and hc | rfl) (by first | exact Lib.vif_on hc | exact Lib.vif_and hc | rfl) (by first | exact Lib.vif_on hc | exact Lib.vif_and hc | rfl) | rfl)
    (hcl : c = true → ∀ w, Below w0.heap.size w0 w → Calls P fid args w fun e w' => e = .returned v ∧ Below w.heap.size w w')
    (hd : o.dst = g := by rfl) (ha : a.put g (vif c v) = a' := by simp only [Lib.pw, Lib.px, Lib.py, Lib.vif_true]; rfl) (h : Wq P f id w0 Q l a') : Wq P f id w0 Q (o :: l) a := by
  subst hd
  refine q_raw hw (fun hc w hb' => ?_) ha h
  have he := enters_ hf hname hb args w
  have hrun : (execOp a.eval o).run P w = .ok (.enter fid args) w := by
    unfold execOp
    simp [hop, resolve, Deferred.ofValue, invoke, Act.eval, hargs hc, he]
  unfold Oper.quietAt
  rw [hrun]
  refine ⟨rfl, (hcl hc w hb').mono ?_⟩
  rintro e w' ⟨h1, h2⟩
  exact ⟨h1, below_step hb' h2⟩
end
theorem of_drawn {P : Program} {fid : FuncId} {args : Array Value} {w : World} {v : Value} (h : Calls P fid args w fun e w' => e = .returned v ∧ Drawn0 w w') : Calls P fid args w fun e w' => e = .returned v ∧ Below w.heap.size w w' :=
  h.mono fun _ _ ⟨a, b⟩ => ⟨a, b.below⟩
theorem drop_rd {α : Type} (d : α) (l : List α) (i : Nat) (h : i < l.length) : l.drop i = l.getD i d :: l.drop (i + 1) := by
  rw [List.drop_eq_getElem_cons h, List.getD_eq_getElem?_getD, List.getElem?_eq_getElem h]
  rfl
theorem take_rd {α : Type} (d : α) (l : List α) (i : Nat) (h : i < l.length) : l.take (i + 1) = l.take i ++ [l.getD i d] := by
  rw [List.take_succ_eq_append_getElem h, List.getD_eq_getElem?_getD, List.getElem?_eq_getElem h]
  rfl
def needB (a : Int) : Int := if a ≤ 0 then 0 else wrap64 ((wrap64 (Int.tdiv (wrap64 (a - 1)) 32)) + 1)
def inB (a lo hi : Int) : Bool := if a ≥ lo then decide (a ≤ hi) else false
def blkFrom (pre : List Int) : List Int → Bool
  | [] => true
  | b :: l => (b == -1 || (inB b 0 999 && !(pre.any (· == b)))) && blkFrom (pre ++ [b]) l
def chainI (mode uid gid links size tick len : Int) (t8 t9 : Bool) : Bool :=
  !inB mode 0 2047 || !inB uid 0 3 || !inB gid 0 3 || decide (links < 0) || decide (1000 < links) || decide (size < 0) || decide (256 < size) || decide (tick < 0) || decide (1000000000 < tick) || (len != needB size) || !t8 || !t9
def tailI (kind mode nd : Int) : Bool := kind == 2 || (nd == 0 && (Go.bits .and .i64 mode 512) == 0)
theorem blk_x (b : Int) (p : Bool) : (b == -1 || (inB b 0 999 && !p)) = !(b != -1 && ((decide (b < 0) || decide (999 < b)) || p)) := by
  unfold inB
  by_cases h1 : b = -1
  · subst h1
    rfl
  · rw [show (b == -1) = false from beq_eq_false_iff_ne.mpr h1, show (b != -1) = true from bne_iff_ne.mpr h1]
    by_cases h2 : b < 0
    · rw [if_neg (by omega), decide_eq_true h2]
      rfl
    · rw [if_pos (by omega), decide_eq_false h2]
      by_cases h3 : 999 < b
      · rw [decide_eq_true h3, decide_eq_false (by omega)]
        rfl
      · rw [decide_eq_false h3, decide_eq_true (by omega)]
        cases p <;> rfl
def blkS (pre : List Int) : List Int → Bool
  | [] => true
  | b :: l => (inB b (-1) 999 && !(b != -1 && pre.any (· == b))) && blkS (pre ++ [b]) l
def chainS (kind mode uid gid links size tick len : Int) : Bool :=
  kind != 1 && kind != 2 || !inB mode 0 2047 || !inB uid 0 3 || !inB gid 0 3 || !inB links 0 1000 || !inB size 0 256 || !inB tick 0 1000000000 || (len != needB size)
def tailS (kind mode nd : Int) : Bool := kind == 1 && (decide (0 < nd) || (Go.bits .and .i64 mode 512) != 0)
theorem blkS_x (b : Int) (p : Bool) : (inB b (-1) 999 && !(b != -1 && p)) = !(!inB b (-1) 999 || (b != -1 && p)) := by
  cases inB b (-1) 999 <;> cases (b != -1) <;> cases p <;> rfl

end Go.Proofs.Ytnfiapcemafmiaa.Lib
