/- A row of bytes that the call has made by a conversion of a string, appended to, stored into and read; no condition. -/
import Derived.Lib.SlBytesConst
import Derived.Laws.CopyOwn
import Derived.Deep.RegionLaw
import Derived.Lib.SliceRun
import Derived.StillTailTactics
import Derived.Laws.MakeOwn
import Derived.Test.YtnfiapcemafmiaaWMore
import Derived.Test.YtnfiapcemafmiaaLibBase
namespace Go.Proofs.Ytnfiapcemafmiaa.Lib
open Go.RowKit Go.Proofs.YtnfiapcemafmiaaW.PrintWords Go.Proofs.YtnfiapcemafmiaaW.PrintLast Go.Proofs.YtnfiapcemafmiaaW.PrintMore
set_option linter.unusedVariables false
set_option linter.unusedSimpArgs false

section
variable {P : Program}
/-- Cells are stored into a block whose mark lies behind its last cell. -/
theorem run_storeCells_atE (P : Program) (g o : Nat) (t : TypeId) (fz : Nat × Nat) : ∀ (vs : List Value) (i : Nat) (cur : Array Value) (w : World), w.heap[g]? = some (.cells cur t fz) → (cur.size ≤ fz.1 ∨ fz.2 = 0) → o + i + vs.length ≤ cur.size → (∀ v ∈ vs, v.oneCell' = true) →
    (storeCells ⟨g, o, none⟩ vs i).run P w = .ok () (w.setRow g (cur.toList.take (o + i) ++ vs ++ cur.toList.drop (o + i + vs.length)).toArray)
  | [], i, cur, w, hg, _, _, _ => by
    simp only [storeCells, List.append_nil, List.length_nil, Nat.add_zero, List.take_append_drop, Array.toArray_toList]
    rw [setRow_self w g cur t fz hg]
    rfl
  | v :: rest, i, cur, w, hg, hfz, hl, h1 => by
    have hi : o + i < cur.size := by simp at hl; omega
    have hadd : (⟨g, o, none⟩ : Addr).add i = ⟨g, o + i, none⟩ := by unfold Addr.add; split <;> simp_all
    have hcell : w.cell? ⟨g, o + i, none⟩ = some cur[o + i] := by simp [World.cell?, hg, hi]
    have hfro : w.frozen? ⟨g, o + i, none⟩ = false := by
      obtain ⟨lo, hi'⟩ := fz
      simp only [World.frozen?, hg, Bool.and_eq_false_iff, decide_eq_false_iff_not]
      simp only at hfz
      omega
    have hst : (store ((⟨g, o, none⟩ : Addr).add i) v).run P w = .ok () (w.setRow g (cur.setIfInBounds (o + i) v)) := by
      rw [hadd, run_store P w _ v _ (h1 v (by simp)), hcell]
      simp [hfro, setCell_eq_setRow w g (o + i) cur t fz v hg]
    have ih := run_storeCells_atE P g o t fz rest (i + 1) (cur.setIfInBounds (o + i) v) (w.setRow g (cur.setIfInBounds (o + i) v)) (setRow_heap w g cur _ t _ hg) (by simpa using hfz) (by simp at hl ⊢; omega) (fun x hx => h1 x (by simp [hx]))
    simp only [storeCells, Sem.run_bind, hst, Result.andThen_ok, ih, setRow_setRow]
    congr 3
    have e := list_seg_step cur.toList (o + i) v rest (by simp at hl ⊢; omega)
    simpa [Array.toList_setIfInBounds, Nat.add_assoc] using e

/-- A row of bytes of the call's own; its block may bear a mark behind the last cell. -/
def MRow (e : TypeId) (w : World) (base : Nat) (v : Value) (xs : List Int) : Prop :=
  ∃ g cap cur fz, v = .slice (some ⟨g, 0, none⟩) xs.length cap ∧ base ≤ g ∧ w.heap[g]? = some (.cells cur e fz) ∧ (cur.size ≤ fz.1 ∨ fz.2 = 0) ∧ xs.length ≤ cap ∧ cap ≤ maxLen ∧ cur.size = cap ∧ cur.toList.take xs.length = nums .u8 xs
theorem MRow.slice {e : TypeId} {w : World} {base : Nat} {v : Value} {xs : List Int} (h : MRow e w base v xs) : ∃ A c, v = .slice A xs.length c := by
  obtain ⟨g, cap, cur, fz, rfl, _⟩ := h
  exact ⟨_, cap, rfl⟩
theorem MRow.small {e : TypeId} {w : World} {base : Nat} {v : Value} {xs : List Int} (h : MRow e w base v xs) : xs.length ≤ 9223372036854775807 := by
  obtain ⟨g, cap, cur, fz, rfl, _, _, _, h1, h2, _⟩ := h
  have : cap ≤ 9223372036854775807 := h2
  omega
theorem MRow.kept {e : TypeId} {w w' : World} {base : Nat} {v : Value} {xs : List Int} (h : MRow e w base v xs) (hb : ∀ g, g < w.heap.size → base ≤ g → w'.heap[g]? = w.heap[g]?) : MRow e w' base v xs := by
  obtain ⟨g, cap, cur, fz, rfl, h1, h2, r⟩ := h
  exact ⟨g, cap, cur, fz, rfl, h1, (hb g (Array.getElem?_eq_some_iff.1 h2).1 h1).trans h2, r⟩
theorem MRow.alloc {e : TypeId} {w : World} {base : Nat} {v : Value} {xs : List Int} (h : MRow e w base v xs) (o : Obj) : MRow e (w.alloc o) base v xs :=
  h.kept (fun g hg _ => heap_alloc_old w o hg)
theorem MRow.drew {e : TypeId} {w : World} {base : Nat} {v : Value} {xs : List Int} (h : MRow e w base v xs) : MRow e w.drew base v xs := h
theorem MRow.drewN {e : TypeId} {w : World} {base : Nat} {v : Value} {xs : List Int} (h : MRow e w base v xs) (n : Nat) : MRow e (w.drewN n) base v xs := h
theorem MRow.cell {e : TypeId} {w : World} {g n c : Nat} {base : Nat} {xs : List Int} (h : MRow e w base (.slice (some ⟨g, 0, none⟩) n c) xs) : ∀ j u, (nums .u8 xs)[j]? = some u → w.cell? ((⟨g, 0, none⟩ : Addr).add j) = some u := by
  intro j u hu
  obtain ⟨g', cap, cur, fz, he, _, hg, _, _, _, _, ht⟩ := h
  injection he with he _ _
  injection he with he
  injection he with he _ _
  subst he
  rw [add_plain, cell_of_row w g j cur e fz hg]
  rw [← ht, List.getElem?_take] at hu
  split at hu
  · simpa using hu
  · cases hu
/-- What a conversion of a string makes. -/
theorem MRow.conv (W : World) (e : TypeId) (s : ByteArray) (base : Nat) (hb : base ≤ W.heap.size) (hs : s.size ≤ maxLen) :
    MRow e (Go.Lib.bytesWorld W e s) base (.slice (some ⟨W.heap.size, 0, none⟩) s.size (grownCap W s.size 0 e)) (bytesOf s) := by
  have hsz : (Go.Lib.bytesCells W e s).size = grownCap W s.size 0 e := by
    have := grownCap_ge W s.size 0 e
    simp only [Go.Lib.bytesCells, Array.size_append, Array.size_map, Array.size_replicate]
    have h2 : s.data.size = s.size := rfl
    omega
  refine ⟨W.heap.size, grownCap W s.size 0 e, Go.Lib.bytesCells W e s, _, by rw [bytesOf_length], hb, Go.Lib.bytesWorld_at_new W e s, Or.inl (Nat.le_refl _), ?_, grownCap_le_maxLen W s.size 0 e hs, hsz, ?_⟩
  · rw [bytesOf_length]
    exact grownCap_ge W s.size 0 e
  · rw [bytesOf_length]
    simp only [Go.Lib.bytesCells, Array.toList_append, Array.toList_map]
    rw [List.take_left' (by rw [List.length_map, Array.length_toList]; rfl)]
    unfold nums bytesOf
    rw [List.map_map]
    rfl
/-- string(b). -/
theorem MRow.string {src dst e : TypeId} (hs : P.underlying src = some (.slice e)) (he : P.underlying e = some (.int .u8)) (hd : P.underlying dst = some .string) {w : World} {base : Nat} {e' : TypeId} {v : Value} {xs : List Int}
    (h : MRow e' w base v xs) : (convert src dst v).run P w = .ok (.string (strOfNums xs)) w := by
  obtain ⟨A, c, rfl⟩ := h.slice
  obtain ⟨g, cap, cur, fz, hv, _⟩ := id h
  injection hv with hv _ hc
  subst hv
  refine run_convert_bytes_arg w src e hs he g 0 xs.length c xs rfl (fun i hi => ?_) dst hd
  have := h.cell i (.int .u8 (xs.getD i 0)) (by simp [nums, List.getElem?_eq_getElem (show i < xs.length by omega), List.getD_eq_getElem?_getD])
  rw [add_plain] at this
  rw [Nat.zero_add]
  exact this
/-- append(b, c). -/
theorem MRow.append {ops : Array Oper} {rest : List Oper} {o : Oper} {a : Act} {Q : Exit → Act → World → Prop} {w0 W : World} (base : Nat) (hgd : o.guard = none) (s x : Operand) (t e : TypeId)
    (ho : o.op = .call { callee := .builtin .append, args := #[s, x], argTypes := #[t, t] })
    (ht : P.underlying t = some (.slice e)) (hinfo : (P.info? e).map (fun i => (i.zero, i.size, i.bytes)) = some (some (.int .u8 0), 1, 1))
    (v : Value) (xs : List Int) (c : Int) (hs : a.eval s = v) (hx : a.eval x = .slice (some ⟨W.heap.size, 0, none⟩) 1 1)
    (HO : MRow e W base v xs) (HB : Below base w0 W) (hbase : base ≤ W.heap.size) (hl : xs.length < 140737488355328)
    (h : ∀ v1 w1, MRow e w1 base v1 (xs ++ [c]) → Below base w0 w1 → wpList P ops Q rest (a.put o.dst v1) w1) :
    wpList P ops Q (o :: rest) a (W.alloc (.cells #[.int .u8 c] e)) := by
  obtain ⟨i, hi, hzz⟩ := Option.map_eq_some_iff.1 hinfo
  simp only [Prod.mk.injEq] at hzz
  obtain ⟨hz0, hz1, hz2⟩ := hzz
  have HO' := HO.alloc (.cells #[.int .u8 c] e)
  have HB' : Below base w0 (W.alloc (.cells #[.int .u8 c] e)) := HB.alloc hbase _
  have hnews : ∀ (j : Nat) u, ([.int .u8 c] : List Value)[j]? = some u → (W.alloc (.cells #[.int .u8 c] e)).cell? ((⟨W.heap.size, 0, none⟩ : Addr).add j) = some u := by
    simpa using World.news_of_block (cs := #[.int .u8 c]) (t := e) (fr := (0, 0)) (heap_alloc_new W (.cells #[.int .u8 c] e))
  have hone : ∀ u ∈ ([.int .u8 c] : List Value), u.oneCell' = true := by
    intro u hu
    rw [List.mem_singleton.1 hu]
    rfl
  have hlen : (nums .u8 (xs ++ [c])).length = xs.length + 1 := by rw [nums_length, List.length_append, List.length_singleton]
  have happ : nums .u8 (xs ++ [c]) = nums .u8 xs ++ [.int .u8 c] := nums_append _ _ _
  generalize hW : W.alloc (.cells #[.int .u8 c] e) = W1 at HO' HB' hnews ⊢
  have hsize : base ≤ W1.heap.size := by rw [← hW]; simp; omega
  refine wpList_plain hgd fun K hK => ?_
  have hcell := HO'.slice
  obtain ⟨g, cap, cur, fz, rfl, hbg, hg, hfz, hnc, hcm, hcs, htake⟩ := id HO'
  have hxl : (nums .u8 xs).length = xs.length * i.size := by rw [nums_length, hz1, Nat.mul_one]
  unfold Oper.wp execOp
  simp only [ho, resolve, invoke, builtin, Sem.run_bind, Sem.run_pure, Result.andThen_ok, List.map_toArray, List.map_cons, List.map_nil, hs, hx]
  by_cases hroom : xs.length + 1 ≤ cap
  · have hf := run_firstCells_some (P := P) W1 i.size 1 ⟨W.heap.size, 0, none⟩ 1 1 [.int .u8 c] (by rw [hz1]; rfl) hnews
    rw [hz1] at hf
    have hst := run_storeCells_atE P g xs.length e fz [.int .u8 c] 0 cur W1 hg hfz (by simp only [List.length_singleton]; omega) hone
    simp only [Nat.add_zero, List.length_singleton] at hst
    have hr : (Builtin.append_ #[t, t] o.type #[.slice (some ⟨g, 0, none⟩) xs.length cap, .slice (some ⟨W.heap.size, 0, none⟩) 1 1]).run P W1 =
        .ok (.slice (some ⟨g, 0, none⟩) (xs.length + 1) cap) (W1.setRow g (cur.toList.take xs.length ++ [(.int .u8 c : Value)] ++ cur.toList.drop (xs.length + 1)).toArray) := by
      simp [Builtin.append_, run_underlying ht, sizeOf, typeInfo, hi, hz1, Builtin.lenOf, hroom, hf, Addr.add_lit, hst]
    rw [hr]
    simp only [Result.andThen_ok]
    refine hK _ _ (h _ _ ⟨g, cap, _, fz, by rw [List.length_append, List.length_singleton], hbg, setRow_heap W1 g cur _ e _ hg, ?_, by rw [List.length_append, List.length_singleton]; exact hroom, hcm, ?_, ?_⟩ ?_)
    · simp only [List.size_toArray, List.length_append, List.length_take, List.length_drop, List.length_singleton, Array.length_toList]
      omega
    · simp only [List.size_toArray, List.length_append, List.length_take, List.length_drop, List.length_singleton, Array.length_toList]
      omega
    · rw [happ, htake, List.length_append, List.length_singleton]
      simp only []
      exact List.take_left' (by simp [nums_length])
    · exact ⟨HB'.os, HB'.tape, HB'.output, by simpa using HB'.size, fun k hk => (setRow_other W1 g k _ (by omega)).trans (HB'.block k hk)⟩
  · have hr := run_append_grow (P := P) W1 t o.type e i (.int .u8 0) ht hi hz0 ⟨g, 0, none⟩ xs.length cap (nums .u8 xs) hxl HO'.cell ⟨W.heap.size, 0, none⟩ 1 1 [.int .u8 c] (by rw [hz1]; rfl) hnews (by omega) (by omega) (by rw [hz2]; exact growslice_fits (by omega) (by omega))
    rw [hr]
    simp only [Result.andThen_ok]
    have hge := grownCap_ge W1 (xs.length + 1) cap e
    have hcm2 : grownCap W1 (xs.length + 1) cap e ≤ maxLen := grownCap_le_maxLen W1 (xs.length + 1) cap e (by simp only [maxLen]; omega)
    refine hK _ _ (h _ _ ⟨W1.heap.size, _, _, (0, 0), by rw [List.length_append, List.length_singleton], hsize, heap_alloc_new W1.drew _, Or.inr rfl, by rw [List.length_append, List.length_singleton]; exact hge, hcm2, ?_, ?_⟩ ?_)
    · simp only [Array.size_append, List.size_toArray, size_zeroCells, nums_length, List.length_singleton, hz1]
      have hc1 : (Value.int IntKind.u8 0).cells.size = 1 := rfl
      rw [hc1]
      omega
    · rw [happ]
      simp only [Array.toList_append, List.append_assoc]
      rw [← List.append_assoc]
      exact List.take_left' (by simp [nums_length])
    · exact ⟨HB'.os, HB'.tape, HB'.output, by simp; have := HB'.size; omega, fun k hk => (heap_alloc_old W1.drew _ (by have := HB'.size; simp; omega)).trans (HB'.block k hk)⟩
/-- b[i] = c. -/
theorem MRow.put {e : TypeId} {W : World} {base g n c : Nat} {xs : List Int} (h : MRow e W base (.slice (some ⟨g, 0, none⟩) n c) xs) (i : Nat) (hi : i < xs.length) (x : Int) :
    W.cell? ⟨g, i, none⟩ = some (.int .u8 (xs.getD i 0)) ∧ W.frozen? ⟨g, i, none⟩ = false ∧ base ≤ g ∧ MRow e (W.setCell ⟨g, i, none⟩ (.int .u8 x)) base (.slice (some ⟨g, 0, none⟩) n c) (xs.set i x) := by
  have hc := h.cell i (.int .u8 (xs.getD i 0)) (by simp [nums, List.getElem?_eq_getElem hi, List.getD_eq_getElem?_getD])
  rw [add_plain] at hc
  obtain ⟨g', cap, cur, fz, he, hb, hg, hfz, hl, hm, hs, ht⟩ := h
  injection he with he hn hc'
  injection he with he
  injection he with he _ _
  subst he hn hc'
  refine ⟨hc, ?_, hb, ?_⟩
  · obtain ⟨lo, hi'⟩ := fz
    simp only [World.frozen?, hg, Bool.and_eq_false_iff, decide_eq_false_iff_not]
    simp only at hfz
    omega
  · rw [setCell_eq_setRow W g i cur e fz _ hg]
    refine ⟨g, c, _, fz, by rw [List.length_set], hb, setRow_heap W g cur _ e _ hg, by simpa using hfz, by rw [List.length_set]; exact hl, hm, by simpa using hs, ?_⟩
    rw [List.length_set, Array.toList_setIfInBounds, List.take_set, ht]
    unfold nums
    rw [List.map_set]
theorem MRow.len {e : TypeId} {W : World} {base n c : Nat} {A : Option Addr} {xs : List Int} (h : MRow e W base (.slice A n c) xs) : xs.length = n := by
  obtain ⟨g', cap, cur, fz, he, _⟩ := h
  injection he with _ hn _
  exact hn.symm
/-- '[]byte("..")' of a constant: the row, where it is laid at g. -/
theorem constAt (w : World) (t e : TypeId) (C : Array Value) (n c g : Nat) (hg : g = w.heap.size) (ht : P.underlying t = some (.slice e)) (he : P.underlying e = some (.int .u8)) :
    (convert t t (.slice (some ⟨g, 0, none⟩) n c)).run P (w.alloc (.cells C e)) = .ok (.slice (some ⟨g, 0, none⟩) n c) (w.alloc (.cells C e (C.size, C.size + 1))) := by
  subst hg; exact Go.Lib.run_convert_bytes_const w t e C n c ht he
theorem MRow.const {e : TypeId} {W : World} {base g n : Nat} {C : Array Value} {xs : List Int} {fz : Nat × Nat} (hg : g = W.heap.size) (hb : base ≤ W.heap.size) (hC : C.toList = nums .u8 xs) (hn : n = xs.length) (hm : xs.length ≤ maxLen) (hf : fz.1 = C.size) : MRow e (W.alloc (.cells C e fz)) base (.slice (some ⟨g, 0, none⟩) n n) xs := by
  subst hg hn
  have hs : C.size = xs.length := by rw [← Array.length_toList, hC, nums_length]
  exact ⟨_, xs.length, C, fz, rfl, hb, heap_alloc_new W _, Or.inl (by omega), Nat.le_refl _, hm, hs, by rw [hC]; exact List.take_of_length_le (by rw [nums_length]; exact Nat.le_refl _)⟩
end

end Go.Proofs.Ytnfiapcemafmiaa.Lib
