/- Arguments read as data are rows of plain Lean values, for whatever type they have; no condition. -/
import Derived.Test.YtnfiapcemafmiaaWMore
import Derived.Test.YtnfiapcemafmiaaLibBase
namespace Go.Proofs.Ytnfiapcemafmiaa.Lib
open Go.RowKit Go.Proofs.YtnfiapcemafmiaaW.PrintWords Go.Proofs.YtnfiapcemafmiaaW.PrintLast Go.Proofs.YtnfiapcemafmiaaW.PrintMore
set_option linter.unusedVariables false
set_option linter.unusedSimpArgs false

def Opens {α : Type} (P : Program) (t : TypeId) (d : Kd α) (ok : α → Prop) : Prop :=
  ∀ (H : Type) (enc : TypeId × Value → H) (w : World) (fuel : Nat) (cs : List Value) (x : DataW H × List MemPlace),
    DataW.trod enc P w 0 (fun _ => true) true fuel t cs = some x → ∃ v : α, d.K w v cs ∧ ok v

section
variable {P : Program} {t : TypeId}
theorem Opens.int {k : IntKind} (ht : P.underlying t = some (.int k)) : Opens P t (Kd.int k) (fun n => (Lit.int k n).wf = true) := by
  intro H enc w fuel cs x h
  obtain ⟨n, rfl, _, hw⟩ := DataW.trod_int ht h
  exact ⟨n, rfl, hw⟩
theorem Opens.str (ht : P.underlying t = some .string) : Opens P t Kd.string (fun s => s.size ≤ 9223372036854775807) := by
  intro H enc w fuel cs x h
  obtain ⟨s, rfl, _, hs⟩ := DataW.trod_string ht h
  exact ⟨s, rfl, hs⟩
theorem Opens.bool (ht : P.underlying t = some .bool) : Opens P t Kd.bool (fun _ => True) := by
  intro H enc w fuel cs x h
  obtain ⟨b, rfl, _⟩ := DataW.trod_bool ht h
  exact ⟨b, rfl, trivial⟩
theorem Opens.slice {α : Type} {d : Kd α} {ok : α → Prop} {e : TypeId} (e' : Nat) (ht : P.underlying t = some (.slice e)) (hc : P.cellsOf e = d.sz) (he : Opens P e d ok) :
    Opens P t (Kd.slice e' d) (fun xs => xs.length ≤ 9223372036854775807 ∧ ∀ x, x ∈ xs → ok x) := by
  intro H enc w fuel cs x h
  rcases DataW.trod_slice ht h with ⟨rfl, _⟩ | ⟨a, len, cap, elems, rest, n, _, rfl, _, hb, hl, hm, hlen, hel, _, _⟩
  · refine ⟨[], ⟨none, 0, rfl, Nat.le_refl _, ⟨rfl, by simp, fun h => absurd h (by simp)⟩⟩, by simp, fun x hx => by cases hx⟩
  · have key : ∀ m, m ≤ len → ∃ vs : List α, vs.length = m ∧ (∀ x, x ∈ vs → ok x) ∧ ∀ j p, vs[j]? = some p → ∃ c, c.length = d.sz ∧ d.K w p c ∧ ∀ i u, c[i]? = some u → w.cell? (a.add (j * d.sz + i)) = some u := by
      intro m
      induction m with
      | zero =>
        intro _
        refine ⟨[], rfl, fun x hx => (List.not_mem_nil hx).elim, fun j p hj => ?_⟩
        rw [List.getElem?_nil] at hj
        cases hj
      | succ m ih =>
        intro hm'
        obtain ⟨vs, h1, h2, h3⟩ := ih (by omega)
        have hy := hel m (by omega)
        rw [List.getElem?_eq_getElem (by omega), hc, Option.bind_eq_some_iff] at hy
        obtain ⟨c, hcs, hy⟩ := hy
        obtain ⟨_, c1, c2⟩ := World.cells?_some hcs
        obtain ⟨v, hv, hok⟩ := he H enc w n c _ hy
        refine ⟨vs ++ [v], by simp [h1], ?_, ?_⟩
        · intro x hx
          rw [List.mem_append, List.mem_singleton] at hx
          rcases hx with hx | hx
          · exact h2 x hx
          · rw [hx]
            exact hok
        · intro j p hj
          by_cases hjm : j < vs.length
          · rw [List.getElem?_append_left hjm] at hj
            exact h3 j p hj
          · have hjl : j < (vs ++ [v]).length := (List.getElem?_eq_some_iff.1 hj).1
            rw [List.length_append, List.length_singleton] at hjl
            have hje : j = vs.length := by omega
            subst hje
            have hp : v = p := by simpa using hj
            subst hp
            refine ⟨c, c1, hv, fun i u hu => ?_⟩
            have hi : i < d.sz := by
              have := (List.getElem?_eq_some_iff.1 hu).1
              omega
            have := c2 i hi
            rw [Addr.add_add, hu, ← h1] at this
            exact this
    obtain ⟨vs, h1, h2, h3⟩ := key len (Nat.le_refl _)
    have hm' : cap ≤ 9223372036854775807 := hm
    exact ⟨vs, ⟨some a, cap, by rw [h1], by omega, ⟨rfl, by omega, fun _ => ⟨a, rfl, h3⟩⟩⟩, by omega, h2⟩
theorem Opens.iso {α β : Type} {d : Kd α} {ok : α → Prop} (f : β → α) (g : α → β) (hf : ∀ a, f (g a) = a) (h : Opens P t d ok) : Opens P t (Kd.iso d f) (fun b => ok (f b)) := by
  intro H enc w fuel cs x hx
  obtain ⟨v, hv, hok⟩ := h H enc w fuel cs x hx
  refine ⟨g v, ?_, ?_⟩
  · show d.K w (f (g v)) cs
    rw [hf]
    exact hv
  · show ok (f (g v))
    rw [hf]
    exact hok
def OpensAt {α : Type} (P : Program) (off : Nat) (fs : List Field) (d : Kd α) (ok : α → Prop) : Prop :=
  ∀ (H : Type) (enc : TypeId × Value → H) (w : World) (n : Nat) (cs : List Value),
    (∀ (i : Nat) (f : Field), fs[i]? = some f → ∃ y, DataW.trod enc P w 0 (fun _ => true) true n f.type ((cs.drop f.offset).take (P.cellsOf f.type)) = some y) → ∃ v : α, d.K w v ((cs.drop off).take d.sz) ∧ ok v
theorem OpensAt.one {α : Type} {d : Kd α} {ok : α → Prop} {f : Field} {off : Nat} (ho : f.offset = off) (hc : P.cellsOf f.type = d.sz) (h : Opens P f.type d ok) : OpensAt P off [f] d ok := by
  intro H enc w n cs hy
  obtain ⟨y, hy⟩ := hy 0 f rfl
  rw [ho, hc] at hy
  exact h H enc w n _ _ hy
theorem OpensAt.cons {α β : Type} {d : Kd α} {ok : α → Prop} {d' : Kd β} {ok' : β → Prop} {f : Field} {fs : List Field} {off : Nat} (ho : f.offset = off) (hc : P.cellsOf f.type = d.sz) (h : Opens P f.type d ok)
    (h' : OpensAt P (off + d.sz) fs d' ok') : OpensAt P off (f :: fs) (Kd.pair d d') (fun x => ok x.1 ∧ ok' x.2) := by
  intro H enc w n cs hy
  obtain ⟨y, hy0⟩ := hy 0 f rfl
  rw [ho, hc] at hy0
  obtain ⟨v, hv, hok⟩ := h H enc w n _ _ hy0
  obtain ⟨v', hv', hok'⟩ := h' H enc w n cs (fun i g hg => hy (i + 1) g (by simpa using hg))
  refine ⟨(v, v'), ⟨_, _, ?_, hv, hv'⟩, hok, hok'⟩
  show (cs.drop off).take (d.sz + d'.sz) = _
  rw [List.take_add, List.drop_drop]
theorem Opens.struct {α : Type} {d : Kd α} {ok : α → Prop} {fs : Array Field} (ht : P.underlying t = some (.struct fs)) (hc : P.cellsOf t = d.sz) (h : OpensAt P 0 fs.toList d ok) : Opens P t d ok := by
  intro H enc w fuel cs x hx
  obtain ⟨xs, n, _, _, hl, hlen, hf⟩ := DataW.trod_struct ht hx
  obtain ⟨v, hv, hok⟩ := h H enc w n cs (fun i f hf' => by
    have hfi : fs[i]? = some f := by simpa using hf'
    have hi : i < fs.size := (Array.getElem?_eq_some_iff.1 hfi).1
    exact ⟨xs[i], by rw [hf i f hfi, List.getElem?_eq_getElem (by omega)]⟩)
  refine ⟨v, ?_, hok⟩
  rw [List.drop_zero, List.take_of_length_le (by omega)] at hv
  exact hv
end
end Go.Proofs.Ytnfiapcemafmiaa.Lib
