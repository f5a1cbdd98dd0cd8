-- Written by a program of this session over Lean's own print of the program.
import Derived.Test.YtnfiapcemafmiaaPFnExactNextBlockx0
import Derived.Test.YtnfiapcemafmiaaPFnExactNextBlockx1
import Derived.Test.YtnfiapcemafmiaaPFnExactNextBlockx2
namespace Go.Proofs.Ytnfiapcemafmiaa.PFnExactNextBlock
open Go.RowKit Go.Proofs.YtnfiapcemafmiaaW.PrintWords Go.Proofs.YtnfiapcemafmiaaW.PrintLast Go.Proofs.YtnfiapcemafmiaaW.PrintMore
attribute [local go_sem] max2_int min2_int max_two min_two max_three min_three max_four min_four   -- for this text's walks alone
set_option linter.unusedVariables false
set_option linter.unusedSimpArgs false

attribute [local go_sem high] eqA107
/-! ### spec_l05Same: function 154 -/
def spec_l05Same.l0 : Nat → List (S107) → List (S107) → Int → Int → Option (Bool)
 | 0, _, _, _, _ => none
 | k + 1, x1, x12, x13, x14 => if x14 < x13 then (if 0 ≤ x14 then (if x14 < (x12.length : Int) then (if x14 < (x1.length : Int) then (if (!(((rd_T107 x12 x14).f0) == ((rd_T107 x1 x14).f0)) || (!(((rd_T107 x12 x14).f1) == ((rd_T107 x1 x14).f1)) || (!(((rd_T107 x12 x14).f2) == ((rd_T107 x1 x14).f2))))) = true then (some false) else (spec_l05Same.l0 k x1 x12 x13 (wrap64 (x14 + 1)))) else (none)) else (none)) else (none)) else (some true)
def spec_l05Same.f (k : Nat) (l0 : List (S107)) (l1 : List (S107)) : Option (Bool) := if (l0.length : Int) = (l1.length : Int) then (spec_l05Same.l0 k l1 l0 (l0.length : Int) 0) else (some false)
theorem spec_l05Same.mono_l : ∀ k, (∀ y0 y1 y2 y3, LeO (spec_l05Same.l0 k y0 y1 y2 y3) (spec_l05Same.l0 (k + 1) y0 y1 y2 y3))
 | 0 => fun _ _ _ _ r h => by simp [spec_l05Same.l0] at h
 | k + 1 => by
  have ih0 := spec_l05Same.mono_l k
  ·
   intro y0 y1 y2 y3
   unfold spec_l05Same.l0
   repeat' first
   | (with_reducible exact ih0 _ _ _ _)
   | (with_reducible exact LeO.refl _)
   | (with_reducible exact LeO.none _)
   | (with_reducible refine LeO.ite ?_ ?_)
   | (with_reducible refine LeO.bind ?_ (fun _ => ?_))
   | exact ih0 _ _ _ _
   | exact LeO.none _
   | refine LeO.ite ?_ ?_
   | refine LeO.bind ?_ (fun _ => ?_)
theorem spec_l05Same.mono : ∀ a0 a1 k, LeO (spec_l05Same.f k a0 a1) (spec_l05Same.f (k + 1) a0 a1) := by
 intro a0 a1 k
 have ih0 := spec_l05Same.mono_l k
 unfold spec_l05Same.f
 repeat' first
  | (with_reducible exact ih0 _ _ _ _)
  | (with_reducible exact LeO.refl _)
  | (with_reducible exact LeO.none _)
  | (with_reducible refine LeO.ite ?_ ?_)
  | (with_reducible refine LeO.bind ?_ (fun _ => ?_))
  | exact ih0 _ _ _ _
  | exact LeO.none _
  | refine LeO.ite ?_ ?_
  | refine LeO.bind ?_ (fun _ => ?_)
set_option maxHeartbeats 8000000 in
set_option maxRecDepth 100000 in
theorem spec_l05Same.calls (k : Nat) (A0 : Option Addr) (c0 : Nat) (l0 : List (S107)) (A1 : Option Addr) (c1 : Nat) (l1 : List (S107)) (r : Bool) (w : World) (hr0 : Kd.C k107 w A0 l0.length l0) (hc0 : l0.length ≤ c0) (hr1 : Kd.C k107 w A1 l1.length l1) (hc1 : l1.length ≤ c1) (h : spec_l05Same.f k l0 l1 = some r) :
 Calls Try.prog 154 #[.slice A0 l0.length c0, .slice A1 l1.length c1] w fun e w' => e = .returned (.bool r) ∧ Below w.heap.size w w' := by
 have hu107 := Try.underlying107
 have HR0 := Aside0.mk hr0
 have HC0 := Aside0.mk hc0
 clear hr0 hc0
 have HR1 := Aside0.mk hr1
 have HC1 := Aside0.mk hc1
 clear hr1 hc1
 have HB := Aside0.mk (Below.refl w.heap.size w)
 have H : (if (l0.length : Int) = (l1.length : Int) then (spec_l05Same.l0 k l1 l0 (l0.length : Int) 0) else (some false)) = some r := h
 clear h
 by_cases c3 : (l0.length : Int) = (l1.length : Int)
 ·
  rw [if_pos c3] at H
  have c3b0 : ((l0.length : Int) == (l1.length : Int)) = true := beq_iff_eq.mpr c3
  have c3b1 : ((l0.length : Int) != (l1.length : Int)) = false := bne_eq_false_iff_eq.mpr c3
  have c3b2 : (l0.length == l1.length) = true := by first | simpa using c3 | (simp at c3 ⊢; omega)
  clear c3
  have H' := Aside0.mk H
  clear H
  go_enter Try.func154, Try.ntmps154
  go_wp2
  repeat (go_quiet (fail); try go_wp2)
  go_loopg [14] k (fun kq v14 w' => ∃ (x14_1 : Int), v14 = .int .i64 x14_1 ∧ Aside0 (spec_l05Same.l0 kq l1 l0 (l0.length : Int) x14_1 = some r) ∧ Aside0 (kq ≤ k) ∧ Aside0 (Below w.heap.size w w'))
  case atStart => exact ⟨(0), (by first | rfl | (simp; done) | (simp [*]; done)), H', ⟨Nat.le_refl _⟩, ⟨by exact Lib.bw HB.out⟩⟩
  case round =>
   clear H'
   try clear c1
   try clear p2
   try clear c3
   try clear c3b0
   try clear c3b1
   try clear c3b2
   obtain ⟨x14_1, rfl, HA, HK1, HB⟩ := hrel
   cases gk with
   | zero => exact absurd HA.out (by simp [spec_l05Same.l0])
   | succ k1 =>
    have H := HA.out
    clear HA
    simp only [spec_l05Same.l0] at H
    by_cases c4 : x14_1 < (l0.length : Int)
    ·
     rw [if_pos c4] at H
     have c4b0 : decide (x14_1 < (l0.length : Int)) = true := decide_eq_true c4
     clear c4
     by_cases c5 : 0 ≤ x14_1
     ·
      rw [if_pos c5] at H
      have c5b0 : decide (0 ≤ x14_1) = true := decide_eq_true c5
      clear c5
      by_cases c6 : x14_1 < (l0.length : Int)
      ·
       rw [if_pos c6] at H
       have c6b0 : decide (x14_1 < (l0.length : Int)) = true := decide_eq_true c6
       clear c6
       by_cases c7 : x14_1 < (l1.length : Int)
       ·
        rw [if_pos c7] at H
        have c7b0 : decide (x14_1 < (l1.length : Int)) = true := decide_eq_true c7
        clear c7
        by_cases c8 : (!(((rd_T107 l0 x14_1).f0) == ((rd_T107 l1 x14_1).f0)) || (!(((rd_T107 l0 x14_1).f1) == ((rd_T107 l1 x14_1).f1)) || (!(((rd_T107 l0 x14_1).f2) == ((rd_T107 l1 x14_1).f2))))) = true
        ·
         rw [if_pos c8] at H
         have c8b0 : (!(((rd_T107 l0 x14_1).f0) == ((rd_T107 l1 x14_1).f0)) || (!(((rd_T107 l0 x14_1).f1) == ((rd_T107 l1 x14_1).f1)) || (!(((rd_T107 l0 x14_1).f2) == ((rd_T107 l1 x14_1).f2))))) = true := c8
         clear c8
         obtain rfl := Option.some.inj H
         have p115 : 0 ≤ (x14_1 : Int) := Lib.od
         have q115 : x14_1 < (l0.length : Int) := Lib.od
         obtain ⟨ad115, e115, hx115_0, hx115_1, hx115_2⟩ := at_T107 HR0.out x14_1 p115 q115
         cases e115
         replace hx115_0 := (HB.out.cell (World.block_lt_of_cell? w _ hx115_0)).trans hx115_0
         replace hx115_1 := (HB.out.cell (World.block_lt_of_cell? w _ hx115_1)).trans hx115_1
         replace hx115_2 := (HB.out.cell (World.block_lt_of_cell? w _ hx115_2)).trans hx115_2
         replace p115 := eq_true p115
         replace q115 := eq_true q115
         go_wp2_with (first | ((with_reducible refine gate_dst (N := 6) rfl ?_); refine box_event ?hg (N := 6) ?hd (cs := #[.int .i64 0, .int .i64 0, .int .i64 0]) (t := 107) ?hr ?_; (case hd => rfl); (case hg => rfl); (case hr => first | (go_simp; done) | (go_simp; rfl)); intro gb116 hg w9 hbox hb; have n0_ := Aside0.mk (below_step (by exact Lib.bw HB.out) hb); have n1_ := Aside0.mk (hbox); have n2_ := Aside0.mk ((by rw [hg]; exact (below_size (by exact Lib.bw HB.out)) : w.heap.size ≤ gb116)); have n3_ := Aside0.mk ((by rw [hg]; exact (below_size (by exact Lib.bw HB.out)) : w.heap.size ≤ gb116)); clear HB; have HB := n0_; have BK116 := n1_; have GW116 := n2_; have GE116 := n3_; clear n0_ n1_ n2_ n3_; clear hb hbox hg; obtain ⟨hcz10_0, hcz10_1, hcz10_2, hfz10_0, hfz10_1, hfz10_2⟩ := Lib.cel3 (W := w9) BK116.out; have p117 : 0 ≤ (x14_1 : Int) := Lib.od; have q117 : x14_1 < (l1.length : Int) := Lib.od; obtain ⟨ad117, e117, hx117_0, hx117_1, hx117_2⟩ := at_T107 HR1.out x14_1 p117 q117; cases e117; have hn117_0 : ad117.block ≠ gb116 := Nat.ne_of_lt (Nat.lt_of_lt_of_le (by have := World.block_lt_of_cell? _ _ hx117_0; first | rwa [add_block] at this | exact this) GW116.out); have hn117_1 : ad117.block ≠ gb116 := Nat.ne_of_lt (Nat.lt_of_lt_of_le (by have := World.block_lt_of_cell? _ _ hx117_0; first | rwa [add_block] at this | exact this) GW116.out); have hn117_2 : ad117.block ≠ gb116 := Nat.ne_of_lt (Nat.lt_of_lt_of_le (by have := World.block_lt_of_cell? _ _ hx117_0; first | rwa [add_block] at this | exact this) GW116.out); replace hx117_0 := (HB.out.cell (World.block_lt_of_cell? w _ hx117_0)).trans hx117_0; replace hx117_1 := (HB.out.cell (World.block_lt_of_cell? w _ hx117_1)).trans hx117_1; replace hx117_2 := (HB.out.cell (World.block_lt_of_cell? w _ hx117_2)).trans hx117_2; replace hx117_0 := (cell_far (p := ⟨gb116, 0, none⟩) (by first | (rw [add_block]; exact hn117_0) | (show (Addr.add _ _).block ≠ _; rw [add_block]; exact hn117_0) | exact hn117_0) (.int .i64 ((rd_T107 l0 x14_1).f0))).trans hx117_0; replace hx117_1 := (cell_far (p := ⟨gb116, 0, none⟩) (by first | (rw [add_block]; exact hn117_0) | (show (Addr.add _ _).block ≠ _; rw [add_block]; exact hn117_0) | exact hn117_0) (.int .i64 ((rd_T107 l0 x14_1).f0))).trans hx117_1; replace hx117_2 := (cell_far (p := ⟨gb116, 0, none⟩) (by first | (rw [add_block]; exact hn117_0) | (show (Addr.add _ _).block ≠ _; rw [add_block]; exact hn117_0) | exact hn117_0) (.int .i64 ((rd_T107 l0 x14_1).f0))).trans hx117_2; replace hx117_0 := (cell_far (p := ⟨gb116, 1, none⟩) (by first | (rw [add_block]; exact hn117_1) | (show (Addr.add _ _).block ≠ _; rw [add_block]; exact hn117_1) | exact hn117_1) (.int .i64 ((rd_T107 l0 x14_1).f1))).trans hx117_0; replace hx117_1 := (cell_far (p := ⟨gb116, 1, none⟩) (by first | (rw [add_block]; exact hn117_1) | (show (Addr.add _ _).block ≠ _; rw [add_block]; exact hn117_1) | exact hn117_1) (.int .i64 ((rd_T107 l0 x14_1).f1))).trans hx117_1; replace hx117_2 := (cell_far (p := ⟨gb116, 1, none⟩) (by first | (rw [add_block]; exact hn117_1) | (show (Addr.add _ _).block ≠ _; rw [add_block]; exact hn117_1) | exact hn117_1) (.int .i64 ((rd_T107 l0 x14_1).f1))).trans hx117_2; replace hx117_0 := (cell_far (p := ⟨gb116, 2, none⟩) (by first | (rw [add_block]; exact hn117_2) | (show (Addr.add _ _).block ≠ _; rw [add_block]; exact hn117_2) | exact hn117_2) (.int .i64 ((rd_T107 l0 x14_1).f2))).trans hx117_0; replace hx117_1 := (cell_far (p := ⟨gb116, 2, none⟩) (by first | (rw [add_block]; exact hn117_2) | (show (Addr.add _ _).block ≠ _; rw [add_block]; exact hn117_2) | exact hn117_2) (.int .i64 ((rd_T107 l0 x14_1).f2))).trans hx117_1; replace hx117_2 := (cell_far (p := ⟨gb116, 2, none⟩) (by first | (rw [add_block]; exact hn117_2) | (show (Addr.add _ _).block ≠ _; rw [add_block]; exact hn117_2) | exact hn117_2) (.int .i64 ((rd_T107 l0 x14_1).f2))).trans hx117_2; (try have hy117_0 := fun (n_ : Nat) => (show (((((w9.drewN n_).setCell ⟨gb116, 0, none⟩ (.int .i64 ((rd_T107 l0 x14_1).f0))).setCell ⟨gb116, 1, none⟩ (.int .i64 ((rd_T107 l0 x14_1).f1))).setCell ⟨gb116, 2, none⟩ (.int .i64 ((rd_T107 l0 x14_1).f2)))).cell? _ = some _ from hx117_0)); (try have hy117_1 := fun (n_ : Nat) => (show (((((w9.drewN n_).setCell ⟨gb116, 0, none⟩ (.int .i64 ((rd_T107 l0 x14_1).f0))).setCell ⟨gb116, 1, none⟩ (.int .i64 ((rd_T107 l0 x14_1).f1))).setCell ⟨gb116, 2, none⟩ (.int .i64 ((rd_T107 l0 x14_1).f2)))).cell? _ = some _ from hx117_1)); (try have hy117_2 := fun (n_ : Nat) => (show (((((w9.drewN n_).setCell ⟨gb116, 0, none⟩ (.int .i64 ((rd_T107 l0 x14_1).f0))).setCell ⟨gb116, 1, none⟩ (.int .i64 ((rd_T107 l0 x14_1).f1))).setCell ⟨gb116, 2, none⟩ (.int .i64 ((rd_T107 l0 x14_1).f2)))).cell? _ = some _ from hx117_2)); clear hn117_0; clear hn117_1; clear hn117_2; replace p117 := eq_true p117; replace q117 := eq_true q117))
         repeat (go_quiet (first | ((with_reducible refine gate_dst (N := 6) rfl ?_); refine box_event ?hg (N := 6) ?hd (cs := #[.int .i64 0, .int .i64 0, .int .i64 0]) (t := 107) ?hr ?_; (case hd => rfl); (case hg => rfl); (case hr => first | (go_simp; done) | (go_simp; rfl)); intro gb116 hg w9 hbox hb; have n0_ := Aside0.mk (below_step (by exact Lib.bw HB.out) hb); have n1_ := Aside0.mk (hbox); have n2_ := Aside0.mk ((by rw [hg]; exact (below_size (by exact Lib.bw HB.out)) : w.heap.size ≤ gb116)); have n3_ := Aside0.mk ((by rw [hg]; exact (below_size (by exact Lib.bw HB.out)) : w.heap.size ≤ gb116)); clear HB; have HB := n0_; have BK116 := n1_; have GW116 := n2_; have GE116 := n3_; clear n0_ n1_ n2_ n3_; clear hb hbox hg; obtain ⟨hcz10_0, hcz10_1, hcz10_2, hfz10_0, hfz10_1, hfz10_2⟩ := Lib.cel3 (W := w9) BK116.out; have p117 : 0 ≤ (x14_1 : Int) := Lib.od; have q117 : x14_1 < (l1.length : Int) := Lib.od; obtain ⟨ad117, e117, hx117_0, hx117_1, hx117_2⟩ := at_T107 HR1.out x14_1 p117 q117; cases e117; have hn117_0 : ad117.block ≠ gb116 := Nat.ne_of_lt (Nat.lt_of_lt_of_le (by have := World.block_lt_of_cell? _ _ hx117_0; first | rwa [add_block] at this | exact this) GW116.out); have hn117_1 : ad117.block ≠ gb116 := Nat.ne_of_lt (Nat.lt_of_lt_of_le (by have := World.block_lt_of_cell? _ _ hx117_0; first | rwa [add_block] at this | exact this) GW116.out); have hn117_2 : ad117.block ≠ gb116 := Nat.ne_of_lt (Nat.lt_of_lt_of_le (by have := World.block_lt_of_cell? _ _ hx117_0; first | rwa [add_block] at this | exact this) GW116.out); replace hx117_0 := (HB.out.cell (World.block_lt_of_cell? w _ hx117_0)).trans hx117_0; replace hx117_1 := (HB.out.cell (World.block_lt_of_cell? w _ hx117_1)).trans hx117_1; replace hx117_2 := (HB.out.cell (World.block_lt_of_cell? w _ hx117_2)).trans hx117_2; replace hx117_0 := (cell_far (p := ⟨gb116, 0, none⟩) (by first | (rw [add_block]; exact hn117_0) | (show (Addr.add _ _).block ≠ _; rw [add_block]; exact hn117_0) | exact hn117_0) (.int .i64 ((rd_T107 l0 x14_1).f0))).trans hx117_0; replace hx117_1 := (cell_far (p := ⟨gb116, 0, none⟩) (by first | (rw [add_block]; exact hn117_0) | (show (Addr.add _ _).block ≠ _; rw [add_block]; exact hn117_0) | exact hn117_0) (.int .i64 ((rd_T107 l0 x14_1).f0))).trans hx117_1; replace hx117_2 := (cell_far (p := ⟨gb116, 0, none⟩) (by first | (rw [add_block]; exact hn117_0) | (show (Addr.add _ _).block ≠ _; rw [add_block]; exact hn117_0) | exact hn117_0) (.int .i64 ((rd_T107 l0 x14_1).f0))).trans hx117_2; replace hx117_0 := (cell_far (p := ⟨gb116, 1, none⟩) (by first | (rw [add_block]; exact hn117_1) | (show (Addr.add _ _).block ≠ _; rw [add_block]; exact hn117_1) | exact hn117_1) (.int .i64 ((rd_T107 l0 x14_1).f1))).trans hx117_0; replace hx117_1 := (cell_far (p := ⟨gb116, 1, none⟩) (by first | (rw [add_block]; exact hn117_1) | (show (Addr.add _ _).block ≠ _; rw [add_block]; exact hn117_1) | exact hn117_1) (.int .i64 ((rd_T107 l0 x14_1).f1))).trans hx117_1; replace hx117_2 := (cell_far (p := ⟨gb116, 1, none⟩) (by first | (rw [add_block]; exact hn117_1) | (show (Addr.add _ _).block ≠ _; rw [add_block]; exact hn117_1) | exact hn117_1) (.int .i64 ((rd_T107 l0 x14_1).f1))).trans hx117_2; replace hx117_0 := (cell_far (p := ⟨gb116, 2, none⟩) (by first | (rw [add_block]; exact hn117_2) | (show (Addr.add _ _).block ≠ _; rw [add_block]; exact hn117_2) | exact hn117_2) (.int .i64 ((rd_T107 l0 x14_1).f2))).trans hx117_0; replace hx117_1 := (cell_far (p := ⟨gb116, 2, none⟩) (by first | (rw [add_block]; exact hn117_2) | (show (Addr.add _ _).block ≠ _; rw [add_block]; exact hn117_2) | exact hn117_2) (.int .i64 ((rd_T107 l0 x14_1).f2))).trans hx117_1; replace hx117_2 := (cell_far (p := ⟨gb116, 2, none⟩) (by first | (rw [add_block]; exact hn117_2) | (show (Addr.add _ _).block ≠ _; rw [add_block]; exact hn117_2) | exact hn117_2) (.int .i64 ((rd_T107 l0 x14_1).f2))).trans hx117_2; (try have hy117_0 := fun (n_ : Nat) => (show (((((w9.drewN n_).setCell ⟨gb116, 0, none⟩ (.int .i64 ((rd_T107 l0 x14_1).f0))).setCell ⟨gb116, 1, none⟩ (.int .i64 ((rd_T107 l0 x14_1).f1))).setCell ⟨gb116, 2, none⟩ (.int .i64 ((rd_T107 l0 x14_1).f2)))).cell? _ = some _ from hx117_0)); (try have hy117_1 := fun (n_ : Nat) => (show (((((w9.drewN n_).setCell ⟨gb116, 0, none⟩ (.int .i64 ((rd_T107 l0 x14_1).f0))).setCell ⟨gb116, 1, none⟩ (.int .i64 ((rd_T107 l0 x14_1).f1))).setCell ⟨gb116, 2, none⟩ (.int .i64 ((rd_T107 l0 x14_1).f2)))).cell? _ = some _ from hx117_1)); (try have hy117_2 := fun (n_ : Nat) => (show (((((w9.drewN n_).setCell ⟨gb116, 0, none⟩ (.int .i64 ((rd_T107 l0 x14_1).f0))).setCell ⟨gb116, 1, none⟩ (.int .i64 ((rd_T107 l0 x14_1).f1))).setCell ⟨gb116, 2, none⟩ (.int .i64 ((rd_T107 l0 x14_1).f2)))).cell? _ = some _ from hx117_2)); clear hn117_0; clear hn117_1; clear hn117_2; replace p117 := eq_true p117; replace q117 := eq_true q117)); try go_wp2_with (first | ((with_reducible refine gate_dst (N := 6) rfl ?_); refine box_event ?hg (N := 6) ?hd (cs := #[.int .i64 0, .int .i64 0, .int .i64 0]) (t := 107) ?hr ?_; (case hd => rfl); (case hg => rfl); (case hr => first | (go_simp; done) | (go_simp; rfl)); intro gb116 hg w9 hbox hb; have n0_ := Aside0.mk (below_step (by exact Lib.bw HB.out) hb); have n1_ := Aside0.mk (hbox); have n2_ := Aside0.mk ((by rw [hg]; exact (below_size (by exact Lib.bw HB.out)) : w.heap.size ≤ gb116)); have n3_ := Aside0.mk ((by rw [hg]; exact (below_size (by exact Lib.bw HB.out)) : w.heap.size ≤ gb116)); clear HB; have HB := n0_; have BK116 := n1_; have GW116 := n2_; have GE116 := n3_; clear n0_ n1_ n2_ n3_; clear hb hbox hg; obtain ⟨hcz10_0, hcz10_1, hcz10_2, hfz10_0, hfz10_1, hfz10_2⟩ := Lib.cel3 (W := w9) BK116.out; have p117 : 0 ≤ (x14_1 : Int) := Lib.od; have q117 : x14_1 < (l1.length : Int) := Lib.od; obtain ⟨ad117, e117, hx117_0, hx117_1, hx117_2⟩ := at_T107 HR1.out x14_1 p117 q117; cases e117; have hn117_0 : ad117.block ≠ gb116 := Nat.ne_of_lt (Nat.lt_of_lt_of_le (by have := World.block_lt_of_cell? _ _ hx117_0; first | rwa [add_block] at this | exact this) GW116.out); have hn117_1 : ad117.block ≠ gb116 := Nat.ne_of_lt (Nat.lt_of_lt_of_le (by have := World.block_lt_of_cell? _ _ hx117_0; first | rwa [add_block] at this | exact this) GW116.out); have hn117_2 : ad117.block ≠ gb116 := Nat.ne_of_lt (Nat.lt_of_lt_of_le (by have := World.block_lt_of_cell? _ _ hx117_0; first | rwa [add_block] at this | exact this) GW116.out); replace hx117_0 := (HB.out.cell (World.block_lt_of_cell? w _ hx117_0)).trans hx117_0; replace hx117_1 := (HB.out.cell (World.block_lt_of_cell? w _ hx117_1)).trans hx117_1; replace hx117_2 := (HB.out.cell (World.block_lt_of_cell? w _ hx117_2)).trans hx117_2; replace hx117_0 := (cell_far (p := ⟨gb116, 0, none⟩) (by first | (rw [add_block]; exact hn117_0) | (show (Addr.add _ _).block ≠ _; rw [add_block]; exact hn117_0) | exact hn117_0) (.int .i64 ((rd_T107 l0 x14_1).f0))).trans hx117_0; replace hx117_1 := (cell_far (p := ⟨gb116, 0, none⟩) (by first | (rw [add_block]; exact hn117_0) | (show (Addr.add _ _).block ≠ _; rw [add_block]; exact hn117_0) | exact hn117_0) (.int .i64 ((rd_T107 l0 x14_1).f0))).trans hx117_1; replace hx117_2 := (cell_far (p := ⟨gb116, 0, none⟩) (by first | (rw [add_block]; exact hn117_0) | (show (Addr.add _ _).block ≠ _; rw [add_block]; exact hn117_0) | exact hn117_0) (.int .i64 ((rd_T107 l0 x14_1).f0))).trans hx117_2; replace hx117_0 := (cell_far (p := ⟨gb116, 1, none⟩) (by first | (rw [add_block]; exact hn117_1) | (show (Addr.add _ _).block ≠ _; rw [add_block]; exact hn117_1) | exact hn117_1) (.int .i64 ((rd_T107 l0 x14_1).f1))).trans hx117_0; replace hx117_1 := (cell_far (p := ⟨gb116, 1, none⟩) (by first | (rw [add_block]; exact hn117_1) | (show (Addr.add _ _).block ≠ _; rw [add_block]; exact hn117_1) | exact hn117_1) (.int .i64 ((rd_T107 l0 x14_1).f1))).trans hx117_1; replace hx117_2 := (cell_far (p := ⟨gb116, 1, none⟩) (by first | (rw [add_block]; exact hn117_1) | (show (Addr.add _ _).block ≠ _; rw [add_block]; exact hn117_1) | exact hn117_1) (.int .i64 ((rd_T107 l0 x14_1).f1))).trans hx117_2; replace hx117_0 := (cell_far (p := ⟨gb116, 2, none⟩) (by first | (rw [add_block]; exact hn117_2) | (show (Addr.add _ _).block ≠ _; rw [add_block]; exact hn117_2) | exact hn117_2) (.int .i64 ((rd_T107 l0 x14_1).f2))).trans hx117_0; replace hx117_1 := (cell_far (p := ⟨gb116, 2, none⟩) (by first | (rw [add_block]; exact hn117_2) | (show (Addr.add _ _).block ≠ _; rw [add_block]; exact hn117_2) | exact hn117_2) (.int .i64 ((rd_T107 l0 x14_1).f2))).trans hx117_1; replace hx117_2 := (cell_far (p := ⟨gb116, 2, none⟩) (by first | (rw [add_block]; exact hn117_2) | (show (Addr.add _ _).block ≠ _; rw [add_block]; exact hn117_2) | exact hn117_2) (.int .i64 ((rd_T107 l0 x14_1).f2))).trans hx117_2; (try have hy117_0 := fun (n_ : Nat) => (show (((((w9.drewN n_).setCell ⟨gb116, 0, none⟩ (.int .i64 ((rd_T107 l0 x14_1).f0))).setCell ⟨gb116, 1, none⟩ (.int .i64 ((rd_T107 l0 x14_1).f1))).setCell ⟨gb116, 2, none⟩ (.int .i64 ((rd_T107 l0 x14_1).f2)))).cell? _ = some _ from hx117_0)); (try have hy117_1 := fun (n_ : Nat) => (show (((((w9.drewN n_).setCell ⟨gb116, 0, none⟩ (.int .i64 ((rd_T107 l0 x14_1).f0))).setCell ⟨gb116, 1, none⟩ (.int .i64 ((rd_T107 l0 x14_1).f1))).setCell ⟨gb116, 2, none⟩ (.int .i64 ((rd_T107 l0 x14_1).f2)))).cell? _ = some _ from hx117_1)); (try have hy117_2 := fun (n_ : Nat) => (show (((((w9.drewN n_).setCell ⟨gb116, 0, none⟩ (.int .i64 ((rd_T107 l0 x14_1).f0))).setCell ⟨gb116, 1, none⟩ (.int .i64 ((rd_T107 l0 x14_1).f1))).setCell ⟨gb116, 2, none⟩ (.int .i64 ((rd_T107 l0 x14_1).f2)))).cell? _ = some _ from hx117_2)); clear hn117_0; clear hn117_1; clear hn117_2; replace p117 := eq_true p117; replace q117 := eq_true q117)))
         go_ret
         exact ⟨by first | rfl | (simp [errW_none, errW_some] <;> rfl) | (simp [*, errW_none, errW_some] <;> rfl), by exact Lib.bs HB.out GE116.out⟩
        ·
         rw [if_neg c8] at H
         have c8b0 : (!(((rd_T107 l0 x14_1).f0) == ((rd_T107 l1 x14_1).f0)) || (!(((rd_T107 l0 x14_1).f1) == ((rd_T107 l1 x14_1).f1)) || (!(((rd_T107 l0 x14_1).f2) == ((rd_T107 l1 x14_1).f2))))) = false := by simpa using c8
         clear c8
         have H' := Aside0.mk H
         clear H
         have p115 : 0 ≤ (x14_1 : Int) := Lib.od
         have q115 : x14_1 < (l0.length : Int) := Lib.od
         obtain ⟨ad115, e115, hx115_0, hx115_1, hx115_2⟩ := at_T107 HR0.out x14_1 p115 q115
         cases e115
         replace hx115_0 := (HB.out.cell (World.block_lt_of_cell? w _ hx115_0)).trans hx115_0
         replace hx115_1 := (HB.out.cell (World.block_lt_of_cell? w _ hx115_1)).trans hx115_1
         replace hx115_2 := (HB.out.cell (World.block_lt_of_cell? w _ hx115_2)).trans hx115_2
         replace p115 := eq_true p115
         replace q115 := eq_true q115
         go_wp2_with (first | ((with_reducible refine gate_dst (N := 6) rfl ?_); refine box_event ?hg (N := 6) ?hd (cs := #[.int .i64 0, .int .i64 0, .int .i64 0]) (t := 107) ?hr ?_; (case hd => rfl); (case hg => rfl); (case hr => first | (go_simp; done) | (go_simp; rfl)); intro gb116 hg w11 hbox hb; have n0_ := Aside0.mk (below_step (by exact Lib.bw HB.out) hb); have n1_ := Aside0.mk (hbox); have n2_ := Aside0.mk ((by rw [hg]; exact (below_size (by exact Lib.bw HB.out)) : w.heap.size ≤ gb116)); have n3_ := Aside0.mk ((by rw [hg]; exact (below_size (by exact Lib.bw HB.out)) : w.heap.size ≤ gb116)); clear HB; have HB := n0_; have BK116 := n1_; have GW116 := n2_; have GE116 := n3_; clear n0_ n1_ n2_ n3_; clear hb hbox hg; obtain ⟨hcz12_0, hcz12_1, hcz12_2, hfz12_0, hfz12_1, hfz12_2⟩ := Lib.cel3 (W := w11) BK116.out; have p117 : 0 ≤ (x14_1 : Int) := Lib.od; have q117 : x14_1 < (l1.length : Int) := Lib.od; obtain ⟨ad117, e117, hx117_0, hx117_1, hx117_2⟩ := at_T107 HR1.out x14_1 p117 q117; cases e117; have hn117_0 : ad117.block ≠ gb116 := Nat.ne_of_lt (Nat.lt_of_lt_of_le (by have := World.block_lt_of_cell? _ _ hx117_0; first | rwa [add_block] at this | exact this) GW116.out); have hn117_1 : ad117.block ≠ gb116 := Nat.ne_of_lt (Nat.lt_of_lt_of_le (by have := World.block_lt_of_cell? _ _ hx117_0; first | rwa [add_block] at this | exact this) GW116.out); have hn117_2 : ad117.block ≠ gb116 := Nat.ne_of_lt (Nat.lt_of_lt_of_le (by have := World.block_lt_of_cell? _ _ hx117_0; first | rwa [add_block] at this | exact this) GW116.out); replace hx117_0 := (HB.out.cell (World.block_lt_of_cell? w _ hx117_0)).trans hx117_0; replace hx117_1 := (HB.out.cell (World.block_lt_of_cell? w _ hx117_1)).trans hx117_1; replace hx117_2 := (HB.out.cell (World.block_lt_of_cell? w _ hx117_2)).trans hx117_2; replace hx117_0 := (cell_far (p := ⟨gb116, 0, none⟩) (by first | (rw [add_block]; exact hn117_0) | (show (Addr.add _ _).block ≠ _; rw [add_block]; exact hn117_0) | exact hn117_0) (.int .i64 ((rd_T107 l0 x14_1).f0))).trans hx117_0; replace hx117_1 := (cell_far (p := ⟨gb116, 0, none⟩) (by first | (rw [add_block]; exact hn117_0) | (show (Addr.add _ _).block ≠ _; rw [add_block]; exact hn117_0) | exact hn117_0) (.int .i64 ((rd_T107 l0 x14_1).f0))).trans hx117_1; replace hx117_2 := (cell_far (p := ⟨gb116, 0, none⟩) (by first | (rw [add_block]; exact hn117_0) | (show (Addr.add _ _).block ≠ _; rw [add_block]; exact hn117_0) | exact hn117_0) (.int .i64 ((rd_T107 l0 x14_1).f0))).trans hx117_2; replace hx117_0 := (cell_far (p := ⟨gb116, 1, none⟩) (by first | (rw [add_block]; exact hn117_1) | (show (Addr.add _ _).block ≠ _; rw [add_block]; exact hn117_1) | exact hn117_1) (.int .i64 ((rd_T107 l0 x14_1).f1))).trans hx117_0; replace hx117_1 := (cell_far (p := ⟨gb116, 1, none⟩) (by first | (rw [add_block]; exact hn117_1) | (show (Addr.add _ _).block ≠ _; rw [add_block]; exact hn117_1) | exact hn117_1) (.int .i64 ((rd_T107 l0 x14_1).f1))).trans hx117_1; replace hx117_2 := (cell_far (p := ⟨gb116, 1, none⟩) (by first | (rw [add_block]; exact hn117_1) | (show (Addr.add _ _).block ≠ _; rw [add_block]; exact hn117_1) | exact hn117_1) (.int .i64 ((rd_T107 l0 x14_1).f1))).trans hx117_2; replace hx117_0 := (cell_far (p := ⟨gb116, 2, none⟩) (by first | (rw [add_block]; exact hn117_2) | (show (Addr.add _ _).block ≠ _; rw [add_block]; exact hn117_2) | exact hn117_2) (.int .i64 ((rd_T107 l0 x14_1).f2))).trans hx117_0; replace hx117_1 := (cell_far (p := ⟨gb116, 2, none⟩) (by first | (rw [add_block]; exact hn117_2) | (show (Addr.add _ _).block ≠ _; rw [add_block]; exact hn117_2) | exact hn117_2) (.int .i64 ((rd_T107 l0 x14_1).f2))).trans hx117_1; replace hx117_2 := (cell_far (p := ⟨gb116, 2, none⟩) (by first | (rw [add_block]; exact hn117_2) | (show (Addr.add _ _).block ≠ _; rw [add_block]; exact hn117_2) | exact hn117_2) (.int .i64 ((rd_T107 l0 x14_1).f2))).trans hx117_2; (try have hy117_0 := fun (n_ : Nat) => (show (((((w11.drewN n_).setCell ⟨gb116, 0, none⟩ (.int .i64 ((rd_T107 l0 x14_1).f0))).setCell ⟨gb116, 1, none⟩ (.int .i64 ((rd_T107 l0 x14_1).f1))).setCell ⟨gb116, 2, none⟩ (.int .i64 ((rd_T107 l0 x14_1).f2)))).cell? _ = some _ from hx117_0)); (try have hy117_1 := fun (n_ : Nat) => (show (((((w11.drewN n_).setCell ⟨gb116, 0, none⟩ (.int .i64 ((rd_T107 l0 x14_1).f0))).setCell ⟨gb116, 1, none⟩ (.int .i64 ((rd_T107 l0 x14_1).f1))).setCell ⟨gb116, 2, none⟩ (.int .i64 ((rd_T107 l0 x14_1).f2)))).cell? _ = some _ from hx117_1)); (try have hy117_2 := fun (n_ : Nat) => (show (((((w11.drewN n_).setCell ⟨gb116, 0, none⟩ (.int .i64 ((rd_T107 l0 x14_1).f0))).setCell ⟨gb116, 1, none⟩ (.int .i64 ((rd_T107 l0 x14_1).f1))).setCell ⟨gb116, 2, none⟩ (.int .i64 ((rd_T107 l0 x14_1).f2)))).cell? _ = some _ from hx117_2)); clear hn117_0; clear hn117_1; clear hn117_2; replace p117 := eq_true p117; replace q117 := eq_true q117))
         repeat (go_quiet (first | ((with_reducible refine gate_dst (N := 6) rfl ?_); refine box_event ?hg (N := 6) ?hd (cs := #[.int .i64 0, .int .i64 0, .int .i64 0]) (t := 107) ?hr ?_; (case hd => rfl); (case hg => rfl); (case hr => first | (go_simp; done) | (go_simp; rfl)); intro gb116 hg w11 hbox hb; have n0_ := Aside0.mk (below_step (by exact Lib.bw HB.out) hb); have n1_ := Aside0.mk (hbox); have n2_ := Aside0.mk ((by rw [hg]; exact (below_size (by exact Lib.bw HB.out)) : w.heap.size ≤ gb116)); have n3_ := Aside0.mk ((by rw [hg]; exact (below_size (by exact Lib.bw HB.out)) : w.heap.size ≤ gb116)); clear HB; have HB := n0_; have BK116 := n1_; have GW116 := n2_; have GE116 := n3_; clear n0_ n1_ n2_ n3_; clear hb hbox hg; obtain ⟨hcz12_0, hcz12_1, hcz12_2, hfz12_0, hfz12_1, hfz12_2⟩ := Lib.cel3 (W := w11) BK116.out; have p117 : 0 ≤ (x14_1 : Int) := Lib.od; have q117 : x14_1 < (l1.length : Int) := Lib.od; obtain ⟨ad117, e117, hx117_0, hx117_1, hx117_2⟩ := at_T107 HR1.out x14_1 p117 q117; cases e117; have hn117_0 : ad117.block ≠ gb116 := Nat.ne_of_lt (Nat.lt_of_lt_of_le (by have := World.block_lt_of_cell? _ _ hx117_0; first | rwa [add_block] at this | exact this) GW116.out); have hn117_1 : ad117.block ≠ gb116 := Nat.ne_of_lt (Nat.lt_of_lt_of_le (by have := World.block_lt_of_cell? _ _ hx117_0; first | rwa [add_block] at this | exact this) GW116.out); have hn117_2 : ad117.block ≠ gb116 := Nat.ne_of_lt (Nat.lt_of_lt_of_le (by have := World.block_lt_of_cell? _ _ hx117_0; first | rwa [add_block] at this | exact this) GW116.out); replace hx117_0 := (HB.out.cell (World.block_lt_of_cell? w _ hx117_0)).trans hx117_0; replace hx117_1 := (HB.out.cell (World.block_lt_of_cell? w _ hx117_1)).trans hx117_1; replace hx117_2 := (HB.out.cell (World.block_lt_of_cell? w _ hx117_2)).trans hx117_2; replace hx117_0 := (cell_far (p := ⟨gb116, 0, none⟩) (by first | (rw [add_block]; exact hn117_0) | (show (Addr.add _ _).block ≠ _; rw [add_block]; exact hn117_0) | exact hn117_0) (.int .i64 ((rd_T107 l0 x14_1).f0))).trans hx117_0; replace hx117_1 := (cell_far (p := ⟨gb116, 0, none⟩) (by first | (rw [add_block]; exact hn117_0) | (show (Addr.add _ _).block ≠ _; rw [add_block]; exact hn117_0) | exact hn117_0) (.int .i64 ((rd_T107 l0 x14_1).f0))).trans hx117_1; replace hx117_2 := (cell_far (p := ⟨gb116, 0, none⟩) (by first | (rw [add_block]; exact hn117_0) | (show (Addr.add _ _).block ≠ _; rw [add_block]; exact hn117_0) | exact hn117_0) (.int .i64 ((rd_T107 l0 x14_1).f0))).trans hx117_2; replace hx117_0 := (cell_far (p := ⟨gb116, 1, none⟩) (by first | (rw [add_block]; exact hn117_1) | (show (Addr.add _ _).block ≠ _; rw [add_block]; exact hn117_1) | exact hn117_1) (.int .i64 ((rd_T107 l0 x14_1).f1))).trans hx117_0; replace hx117_1 := (cell_far (p := ⟨gb116, 1, none⟩) (by first | (rw [add_block]; exact hn117_1) | (show (Addr.add _ _).block ≠ _; rw [add_block]; exact hn117_1) | exact hn117_1) (.int .i64 ((rd_T107 l0 x14_1).f1))).trans hx117_1; replace hx117_2 := (cell_far (p := ⟨gb116, 1, none⟩) (by first | (rw [add_block]; exact hn117_1) | (show (Addr.add _ _).block ≠ _; rw [add_block]; exact hn117_1) | exact hn117_1) (.int .i64 ((rd_T107 l0 x14_1).f1))).trans hx117_2; replace hx117_0 := (cell_far (p := ⟨gb116, 2, none⟩) (by first | (rw [add_block]; exact hn117_2) | (show (Addr.add _ _).block ≠ _; rw [add_block]; exact hn117_2) | exact hn117_2) (.int .i64 ((rd_T107 l0 x14_1).f2))).trans hx117_0; replace hx117_1 := (cell_far (p := ⟨gb116, 2, none⟩) (by first | (rw [add_block]; exact hn117_2) | (show (Addr.add _ _).block ≠ _; rw [add_block]; exact hn117_2) | exact hn117_2) (.int .i64 ((rd_T107 l0 x14_1).f2))).trans hx117_1; replace hx117_2 := (cell_far (p := ⟨gb116, 2, none⟩) (by first | (rw [add_block]; exact hn117_2) | (show (Addr.add _ _).block ≠ _; rw [add_block]; exact hn117_2) | exact hn117_2) (.int .i64 ((rd_T107 l0 x14_1).f2))).trans hx117_2; (try have hy117_0 := fun (n_ : Nat) => (show (((((w11.drewN n_).setCell ⟨gb116, 0, none⟩ (.int .i64 ((rd_T107 l0 x14_1).f0))).setCell ⟨gb116, 1, none⟩ (.int .i64 ((rd_T107 l0 x14_1).f1))).setCell ⟨gb116, 2, none⟩ (.int .i64 ((rd_T107 l0 x14_1).f2)))).cell? _ = some _ from hx117_0)); (try have hy117_1 := fun (n_ : Nat) => (show (((((w11.drewN n_).setCell ⟨gb116, 0, none⟩ (.int .i64 ((rd_T107 l0 x14_1).f0))).setCell ⟨gb116, 1, none⟩ (.int .i64 ((rd_T107 l0 x14_1).f1))).setCell ⟨gb116, 2, none⟩ (.int .i64 ((rd_T107 l0 x14_1).f2)))).cell? _ = some _ from hx117_1)); (try have hy117_2 := fun (n_ : Nat) => (show (((((w11.drewN n_).setCell ⟨gb116, 0, none⟩ (.int .i64 ((rd_T107 l0 x14_1).f0))).setCell ⟨gb116, 1, none⟩ (.int .i64 ((rd_T107 l0 x14_1).f1))).setCell ⟨gb116, 2, none⟩ (.int .i64 ((rd_T107 l0 x14_1).f2)))).cell? _ = some _ from hx117_2)); clear hn117_0; clear hn117_1; clear hn117_2; replace p117 := eq_true p117; replace q117 := eq_true q117)); try go_wp2_with (first | ((with_reducible refine gate_dst (N := 6) rfl ?_); refine box_event ?hg (N := 6) ?hd (cs := #[.int .i64 0, .int .i64 0, .int .i64 0]) (t := 107) ?hr ?_; (case hd => rfl); (case hg => rfl); (case hr => first | (go_simp; done) | (go_simp; rfl)); intro gb116 hg w11 hbox hb; have n0_ := Aside0.mk (below_step (by exact Lib.bw HB.out) hb); have n1_ := Aside0.mk (hbox); have n2_ := Aside0.mk ((by rw [hg]; exact (below_size (by exact Lib.bw HB.out)) : w.heap.size ≤ gb116)); have n3_ := Aside0.mk ((by rw [hg]; exact (below_size (by exact Lib.bw HB.out)) : w.heap.size ≤ gb116)); clear HB; have HB := n0_; have BK116 := n1_; have GW116 := n2_; have GE116 := n3_; clear n0_ n1_ n2_ n3_; clear hb hbox hg; obtain ⟨hcz12_0, hcz12_1, hcz12_2, hfz12_0, hfz12_1, hfz12_2⟩ := Lib.cel3 (W := w11) BK116.out; have p117 : 0 ≤ (x14_1 : Int) := Lib.od; have q117 : x14_1 < (l1.length : Int) := Lib.od; obtain ⟨ad117, e117, hx117_0, hx117_1, hx117_2⟩ := at_T107 HR1.out x14_1 p117 q117; cases e117; have hn117_0 : ad117.block ≠ gb116 := Nat.ne_of_lt (Nat.lt_of_lt_of_le (by have := World.block_lt_of_cell? _ _ hx117_0; first | rwa [add_block] at this | exact this) GW116.out); have hn117_1 : ad117.block ≠ gb116 := Nat.ne_of_lt (Nat.lt_of_lt_of_le (by have := World.block_lt_of_cell? _ _ hx117_0; first | rwa [add_block] at this | exact this) GW116.out); have hn117_2 : ad117.block ≠ gb116 := Nat.ne_of_lt (Nat.lt_of_lt_of_le (by have := World.block_lt_of_cell? _ _ hx117_0; first | rwa [add_block] at this | exact this) GW116.out); replace hx117_0 := (HB.out.cell (World.block_lt_of_cell? w _ hx117_0)).trans hx117_0; replace hx117_1 := (HB.out.cell (World.block_lt_of_cell? w _ hx117_1)).trans hx117_1; replace hx117_2 := (HB.out.cell (World.block_lt_of_cell? w _ hx117_2)).trans hx117_2; replace hx117_0 := (cell_far (p := ⟨gb116, 0, none⟩) (by first | (rw [add_block]; exact hn117_0) | (show (Addr.add _ _).block ≠ _; rw [add_block]; exact hn117_0) | exact hn117_0) (.int .i64 ((rd_T107 l0 x14_1).f0))).trans hx117_0; replace hx117_1 := (cell_far (p := ⟨gb116, 0, none⟩) (by first | (rw [add_block]; exact hn117_0) | (show (Addr.add _ _).block ≠ _; rw [add_block]; exact hn117_0) | exact hn117_0) (.int .i64 ((rd_T107 l0 x14_1).f0))).trans hx117_1; replace hx117_2 := (cell_far (p := ⟨gb116, 0, none⟩) (by first | (rw [add_block]; exact hn117_0) | (show (Addr.add _ _).block ≠ _; rw [add_block]; exact hn117_0) | exact hn117_0) (.int .i64 ((rd_T107 l0 x14_1).f0))).trans hx117_2; replace hx117_0 := (cell_far (p := ⟨gb116, 1, none⟩) (by first | (rw [add_block]; exact hn117_1) | (show (Addr.add _ _).block ≠ _; rw [add_block]; exact hn117_1) | exact hn117_1) (.int .i64 ((rd_T107 l0 x14_1).f1))).trans hx117_0; replace hx117_1 := (cell_far (p := ⟨gb116, 1, none⟩) (by first | (rw [add_block]; exact hn117_1) | (show (Addr.add _ _).block ≠ _; rw [add_block]; exact hn117_1) | exact hn117_1) (.int .i64 ((rd_T107 l0 x14_1).f1))).trans hx117_1; replace hx117_2 := (cell_far (p := ⟨gb116, 1, none⟩) (by first | (rw [add_block]; exact hn117_1) | (show (Addr.add _ _).block ≠ _; rw [add_block]; exact hn117_1) | exact hn117_1) (.int .i64 ((rd_T107 l0 x14_1).f1))).trans hx117_2; replace hx117_0 := (cell_far (p := ⟨gb116, 2, none⟩) (by first | (rw [add_block]; exact hn117_2) | (show (Addr.add _ _).block ≠ _; rw [add_block]; exact hn117_2) | exact hn117_2) (.int .i64 ((rd_T107 l0 x14_1).f2))).trans hx117_0; replace hx117_1 := (cell_far (p := ⟨gb116, 2, none⟩) (by first | (rw [add_block]; exact hn117_2) | (show (Addr.add _ _).block ≠ _; rw [add_block]; exact hn117_2) | exact hn117_2) (.int .i64 ((rd_T107 l0 x14_1).f2))).trans hx117_1; replace hx117_2 := (cell_far (p := ⟨gb116, 2, none⟩) (by first | (rw [add_block]; exact hn117_2) | (show (Addr.add _ _).block ≠ _; rw [add_block]; exact hn117_2) | exact hn117_2) (.int .i64 ((rd_T107 l0 x14_1).f2))).trans hx117_2; (try have hy117_0 := fun (n_ : Nat) => (show (((((w11.drewN n_).setCell ⟨gb116, 0, none⟩ (.int .i64 ((rd_T107 l0 x14_1).f0))).setCell ⟨gb116, 1, none⟩ (.int .i64 ((rd_T107 l0 x14_1).f1))).setCell ⟨gb116, 2, none⟩ (.int .i64 ((rd_T107 l0 x14_1).f2)))).cell? _ = some _ from hx117_0)); (try have hy117_1 := fun (n_ : Nat) => (show (((((w11.drewN n_).setCell ⟨gb116, 0, none⟩ (.int .i64 ((rd_T107 l0 x14_1).f0))).setCell ⟨gb116, 1, none⟩ (.int .i64 ((rd_T107 l0 x14_1).f1))).setCell ⟨gb116, 2, none⟩ (.int .i64 ((rd_T107 l0 x14_1).f2)))).cell? _ = some _ from hx117_1)); (try have hy117_2 := fun (n_ : Nat) => (show (((((w11.drewN n_).setCell ⟨gb116, 0, none⟩ (.int .i64 ((rd_T107 l0 x14_1).f0))).setCell ⟨gb116, 1, none⟩ (.int .i64 ((rd_T107 l0 x14_1).f1))).setCell ⟨gb116, 2, none⟩ (.int .i64 ((rd_T107 l0 x14_1).f2)))).cell? _ = some _ from hx117_2)); clear hn117_0; clear hn117_1; clear hn117_2; replace p117 := eq_true p117; replace q117 := eq_true q117)))
         go_roundg k1
         case measure => have := HK1.out; omega
         case rel => exact ⟨(wrap64 (x14_1 + 1)), (by first | rfl | (simp; done) | (simp [*]; done)), H', ⟨by have := HK1.out; omega⟩, ⟨by exact Lib.bs HB.out GE116.out⟩⟩
       ·
        rw [if_neg c7] at H
        exact absurd H (by simp)
      ·
       rw [if_neg c6] at H
       exact absurd H (by simp)
     ·
      rw [if_neg c5] at H
      exact absurd H (by simp)
    ·
     rw [if_neg c4] at H
     have c4b0 : decide (x14_1 < (l0.length : Int)) = false := decide_eq_false c4
     clear c4
     obtain rfl := Option.some.inj H
     go_wp2
     repeat (go_quiet (fail); try go_wp2)
     go_ret
     exact ⟨by first | rfl | (simp [errW_none, errW_some] <;> rfl) | (simp [*, errW_none, errW_some] <;> rfl), by exact Lib.bw HB.out⟩
 ·
  rw [if_neg c3] at H
  have c3b0 : ((l0.length : Int) == (l1.length : Int)) = false := beq_eq_false_iff_ne.mpr c3
  have c3b1 : ((l0.length : Int) != (l1.length : Int)) = true := bne_iff_ne.mpr c3
  have c3b2 : (l0.length == l1.length) = false := by first | simpa using c3 | (simp at c3 ⊢; omega)
  obtain rfl := Option.some.inj H
  go_enter Try.func154, Try.ntmps154
  go_wp2
  repeat (go_quiet (fail); try go_wp2)
  go_ret
  exact ⟨by first | rfl | (simp [errW_none, errW_some] <;> rfl) | (simp [*, errW_none, errW_some] <;> rfl), by exact Lib.bw HB.out⟩

/-! ### spec_SameInode: function 134 -/
/-- spec.SameInode. -/
def spec_SameInode.f (k : Nat) (a0_0 a0_1 a0_2 a0_3 a0_4 a0_5 a0_6 : Int) (l0_7 : List Int) (l0_8 : List (S107)) (l0_9 : List (S107)) (a1_0 a1_1 a1_2 a1_3 a1_4 a1_5 a1_6 : Int) (l1_7 : List Int) (l1_8 : List (S107)) (l1_9 : List (S107)) : Option Bool := (spec_l02Same.f k l0_7 l1_7).bind fun t7 => (spec_l05Same.f k l0_8 l1_8).bind fun t8 => (spec_l05Same.f k l0_9 l1_9).bind fun t9 => some (!(((((((a0_0 != a1_0) || (a0_1 != a1_1)) || (a0_2 != a1_2)) || (a0_3 != a1_3)) || (a0_4 != a1_4)) || (a0_5 != a1_5)) || (a0_6 != a1_6)) && ((t7 && t8) && t9))
theorem spec_SameInode.mono : ∀ a0 a1 a2 a3 a4 a5 a6 a7 a8 a9 a10 a11 a12 a13 a14 a15 a16 a17 a18 a19 k, LeO (spec_SameInode.f k a0 a1 a2 a3 a4 a5 a6 a7 a8 a9 a10 a11 a12 a13 a14 a15 a16 a17 a18 a19) (spec_SameInode.f (k + 1) a0 a1 a2 a3 a4 a5 a6 a7 a8 a9 a10 a11 a12 a13 a14 a15 a16 a17 a18 a19) := by
 intro a0 a1 a2 a3 a4 a5 a6 a7 a8 a9 a10 a11 a12 a13 a14 a15 a16 a17 a18 a19 k
 unfold spec_SameInode.f
 exact LeO.bind (spec_l02Same.mono _ _ _) fun _ => LeO.bind (spec_l05Same.mono _ _ _) fun _ => LeO.bind (spec_l05Same.mono _ _ _) fun _ => LeO.refl _
theorem spec_SameInode.newblk0 (w : World) (o p : Obj) : ((w.alloc o).alloc p).heap[w.heap.size]? = some o := by
 show ((w.heap.push o).push p)[w.heap.size]? = some o
 rw [Array.getElem?_push_lt (by rw [Array.size_push]; omega)]
 simp
theorem spec_SameInode.newblk1 (w : World) (o p : Obj) : ((w.alloc o).alloc p).heap[w.heap.size + 1]? = some p := by
 show ((w.heap.push o).push p)[w.heap.size + 1]? = some p
 rw [← Array.size_push (xs := w.heap) o, Array.getElem?_push_size]
set_option maxHeartbeats 8000000 in
set_option maxRecDepth 100000 in
theorem spec_SameInode.calls (k : Nat) (a0_0 a0_1 a0_2 a0_3 a0_4 a0_5 a0_6 : Int) (A0_7 : Option Addr) (c0_7 : Nat) (l0_7 : List Int) (A0_8 : Option Addr) (c0_8 : Nat) (l0_8 : List (S107)) (A0_9 : Option Addr) (c0_9 : Nat) (l0_9 : List (S107)) (a1_0 a1_1 a1_2 a1_3 a1_4 a1_5 a1_6 : Int) (A1_7 : Option Addr) (c1_7 : Nat) (l1_7 : List Int) (A1_8 : Option Addr) (c1_8 : Nat) (l1_8 : List (S107)) (A1_9 : Option Addr) (c1_9 : Nat) (l1_9 : List (S107)) (r : Bool) (w : World) (hr0_7 : Kd.C (Kd.int .i64) w A0_7 l0_7.length l0_7) (hc0_7 : l0_7.length ≤ c0_7) (hr0_8 : Kd.C k107 w A0_8 l0_8.length l0_8) (hc0_8 : l0_8.length ≤ c0_8) (hr0_9 : Kd.C k107 w A0_9 l0_9.length l0_9) (hc0_9 : l0_9.length ≤ c0_9) (hr1_7 : Kd.C (Kd.int .i64) w A1_7 l1_7.length l1_7) (hc1_7 : l1_7.length ≤ c1_7) (hr1_8 : Kd.C k107 w A1_8 l1_8.length l1_8) (hc1_8 : l1_8.length ≤ c1_8) (hr1_9 : Kd.C k107 w A1_9 l1_9.length l1_9) (hc1_9 : l1_9.length ≤ c1_9) (h : spec_SameInode.f k a0_0 a0_1 a0_2 a0_3 a0_4 a0_5 a0_6 l0_7 l0_8 l0_9 a1_0 a1_1 a1_2 a1_3 a1_4 a1_5 a1_6 l1_7 l1_8 l1_9 = some r) :
 Calls Try.prog 134 #[.agg #[.int .i64 a0_0, .int .i64 a0_1, .int .i64 a0_2, .int .i64 a0_3, .int .i64 a0_4, .int .i64 a0_5, .int .i64 a0_6, .slice A0_7 l0_7.length c0_7, .slice A0_8 l0_8.length c0_8, .slice A0_9 l0_9.length c0_9], .agg #[.int .i64 a1_0, .int .i64 a1_1, .int .i64 a1_2, .int .i64 a1_3, .int .i64 a1_4, .int .i64 a1_5, .int .i64 a1_6, .slice A1_7 l1_7.length c1_7, .slice A1_8 l1_8.length c1_8, .slice A1_9 l1_9.length c1_9]] w fun e w' => e = .returned (.bool r) ∧ Below w.heap.size w w' := by
 have hu := Try.underlying25
 have HR0_7 := Aside0.mk hr0_7
 have HC0_7 := Aside0.mk hc0_7
 clear hr0_7 hc0_7
 have HR0_8 := Aside0.mk hr0_8
 have HC0_8 := Aside0.mk hc0_8
 clear hr0_8 hc0_8
 have HR0_9 := Aside0.mk hr0_9
 have HC0_9 := Aside0.mk hc0_9
 clear hr0_9 hc0_9
 have HR1_7 := Aside0.mk hr1_7
 have HC1_7 := Aside0.mk hc1_7
 clear hr1_7 hc1_7
 have HR1_8 := Aside0.mk hr1_8
 have HC1_8 := Aside0.mk hc1_8
 clear hr1_8 hc1_8
 have HR1_9 := Aside0.mk hr1_9
 have HC1_9 := Aside0.mk hc1_9
 clear hr1_9 hc1_9
 unfold spec_SameInode.f at h
 obtain ⟨t7, h7, h_⟩ := Option.bind_eq_some_iff.1 h
 clear h
 have h := h_
 clear h_
 obtain ⟨t8, h8, h_⟩ := Option.bind_eq_some_iff.1 h
 clear h
 have h := h_
 clear h_
 obtain ⟨t9, h9, h_⟩ := Option.bind_eq_some_iff.1 h
 clear h
 have h := h_
 clear h_
 obtain rfl := Option.some.inj h
 have H7 := Aside0.mk h7
 have H8 := Aside0.mk h8
 have H9 := Aside0.mk h9
 clear h7 h8 h9 h
 go_enter Try.func134, Try.ntmps134
 go_upto_region 1 with (fail)
 obtain ⟨w2, hw2⟩ : ∃ W, W = (w.alloc (.cells #[.int .i64 a0_0, .int .i64 a0_1, .int .i64 a0_2, .int .i64 a0_3, .int .i64 a0_4, .int .i64 a0_5, .int .i64 a0_6, .slice A0_7 l0_7.length c0_7, .slice A0_8 l0_8.length c0_8, .slice A0_9 l0_9.length c0_9] 25 (0, 0))).alloc (.cells #[.int .i64 a1_0, .int .i64 a1_1, .int .i64 a1_2, .int .i64 a1_3, .int .i64 a1_4, .int .i64 a1_5, .int .i64 a1_6, .slice A1_7 l1_7.length c1_7, .slice A1_8 l1_8.length c1_8, .slice A1_9 l1_9.length c1_9] 25 (0, 0)) := ⟨_, rfl⟩
 rw [← hw2]
 have BK0 : Aside0 (w2.heap[w.heap.size]? = some (.cells #[.int .i64 a0_0, .int .i64 a0_1, .int .i64 a0_2, .int .i64 a0_3, .int .i64 a0_4, .int .i64 a0_5, .int .i64 a0_6, .slice A0_7 l0_7.length c0_7, .slice A0_8 l0_8.length c0_8, .slice A0_9 l0_9.length c0_9] 25 (0, 0))) := ⟨by rw [hw2]; exact spec_SameInode.newblk0 _ _ _⟩
 have BK1 : Aside0 (w2.heap[w.heap.size + 1]? = some (.cells #[.int .i64 a1_0, .int .i64 a1_1, .int .i64 a1_2, .int .i64 a1_3, .int .i64 a1_4, .int .i64 a1_5, .int .i64 a1_6, .slice A1_7 l1_7.length c1_7, .slice A1_8 l1_8.length c1_8, .slice A1_9 l1_9.length c1_9] 25 (0, 0))) := ⟨by rw [hw2]; exact spec_SameInode.newblk1 _ _ _⟩
 have HB : Aside0 (Below w.heap.size w w2) := ⟨by rw [hw2]; exact below_alloc (below_alloc (Below.refl _ _) _) _⟩
 clear hw2
 go_cut [51] (fun v wc => v = .bool (((((((a0_0 != a1_0) || (a0_1 != a1_1)) || (a0_2 != a1_2)) || (a0_3 != a1_3)) || (a0_4 != a1_4)) || (a0_5 != a1_5)) || (a0_6 != a1_6)) ∧ Aside0 (wc.heap[w.heap.size]? = some (.cells #[.int .i64 a0_0, .int .i64 a0_1, .int .i64 a0_2, .int .i64 a0_3, .int .i64 a0_4, .int .i64 a0_5, .int .i64 a0_6, .slice A0_7 l0_7.length c0_7, .slice A0_8 l0_8.length c0_8, .slice A0_9 l0_9.length c0_9] 25 (0, 0))) ∧ Aside0 (wc.heap[w.heap.size + 1]? = some (.cells #[.int .i64 a1_0, .int .i64 a1_1, .int .i64 a1_2, .int .i64 a1_3, .int .i64 a1_4, .int .i64 a1_5, .int .i64 a1_6, .slice A1_7 l1_7.length c1_7, .slice A1_8 l1_8.length c1_8, .slice A1_9 l1_9.length c1_9] 25 (0, 0))) ∧ Aside0 (Below w.heap.size w wc))
 case first =>
  have HM : ∀ W, Below w2.heap.size w2 W → (W.cell? ⟨w.heap.size, 0, none⟩ = some (.int .i64 a0_0) ∧ W.cell? ⟨w.heap.size + 1, 0, none⟩ = some (.int .i64 a1_0) ∧ W.cell? ⟨w.heap.size, 1, none⟩ = some (.int .i64 a0_1) ∧ W.cell? ⟨w.heap.size + 1, 1, none⟩ = some (.int .i64 a1_1) ∧ W.cell? ⟨w.heap.size, 2, none⟩ = some (.int .i64 a0_2) ∧ W.cell? ⟨w.heap.size + 1, 2, none⟩ = some (.int .i64 a1_2) ∧ W.cell? ⟨w.heap.size, 3, none⟩ = some (.int .i64 a0_3) ∧ W.cell? ⟨w.heap.size + 1, 3, none⟩ = some (.int .i64 a1_3) ∧ W.cell? ⟨w.heap.size, 4, none⟩ = some (.int .i64 a0_4) ∧ W.cell? ⟨w.heap.size + 1, 4, none⟩ = some (.int .i64 a1_4) ∧ W.cell? ⟨w.heap.size, 5, none⟩ = some (.int .i64 a0_5) ∧ W.cell? ⟨w.heap.size + 1, 5, none⟩ = some (.int .i64 a1_5) ∧ W.cell? ⟨w.heap.size, 6, none⟩ = some (.int .i64 a0_6) ∧ W.cell? ⟨w.heap.size + 1, 6, none⟩ = some (.int .i64 a1_6)) := fun W hb => ⟨(blk_cell (blk_below BK0.out hb) 0).trans rfl, (blk_cell (blk_below BK1.out hb) 0).trans rfl, (blk_cell (blk_below BK0.out hb) 1).trans rfl, (blk_cell (blk_below BK1.out hb) 1).trans rfl, (blk_cell (blk_below BK0.out hb) 2).trans rfl, (blk_cell (blk_below BK1.out hb) 2).trans rfl, (blk_cell (blk_below BK0.out hb) 3).trans rfl, (blk_cell (blk_below BK1.out hb) 3).trans rfl, (blk_cell (blk_below BK0.out hb) 4).trans rfl, (blk_cell (blk_below BK1.out hb) 4).trans rfl, (blk_cell (blk_below BK0.out hb) 5).trans rfl, (blk_cell (blk_below BK1.out hb) 5).trans rfl, (blk_cell (blk_below BK0.out hb) 6).trans rfl, (blk_cell (blk_below BK1.out hb) 6).trans rfl⟩
  refine Lib.q_plain w2 Try.f134 rfl (Below.refl _ _) ?_
  refine Lib.q (.tmp 2) (.tmp 2) (h := ?_)
  refine Lib.q (.tmp 5) (.tmp 5) (h := ?_)
  refine Lib.q (.tmp 3) (.tmp 3) (h := ?_)
  refine Lib.q (.tmp 7) (.tmp 7) (h := ?_)
  refine Lib.q (.tmp 6) (.tmp 8) (h := ?_)
  refine Lib.q (.tmp 9) (.tmp 9) (h := ?_)
  refine Lib.q (.tmp 2) (.tmp 2) (h := ?_)
  refine Lib.q (.tmp 11) (.tmp 11) (h := ?_)
  refine Lib.q (.tmp 3) (.tmp 3) (h := ?_)
  refine Lib.q (.tmp 13) (.tmp 13) (h := ?_)
  refine Lib.q (.tmp 12) (.tmp 14) (h := ?_)
  refine Lib.q_or (.tmp 10) (.tmp 15) (h := ?_)
  refine Lib.q (.tmp 16) (.tmp 16) (h := ?_)
  refine Lib.q (.tmp 2) (.tmp 2) (h := ?_)
  refine Lib.q (.tmp 18) (.tmp 18) (h := ?_)
  refine Lib.q (.tmp 3) (.tmp 3) (h := ?_)
  refine Lib.q (.tmp 20) (.tmp 20) (h := ?_)
  refine Lib.q (.tmp 19) (.tmp 21) (h := ?_)
  refine Lib.q_or (.tmp 17) (.tmp 22) (h := ?_)
  refine Lib.q (.tmp 23) (.tmp 23) (h := ?_)
  refine Lib.q (.tmp 2) (.tmp 2) (h := ?_)
  refine Lib.q (.tmp 25) (.tmp 25) (h := ?_)
  refine Lib.q (.tmp 3) (.tmp 3) (h := ?_)
  refine Lib.q (.tmp 27) (.tmp 27) (h := ?_)
  refine Lib.q (.tmp 26) (.tmp 28) (h := ?_)
  refine Lib.q_or (.tmp 24) (.tmp 29) (h := ?_)
  refine Lib.q (.tmp 30) (.tmp 30) (h := ?_)
  refine Lib.q (.tmp 2) (.tmp 2) (h := ?_)
  refine Lib.q (.tmp 32) (.tmp 32) (h := ?_)
  refine Lib.q (.tmp 3) (.tmp 3) (h := ?_)
  refine Lib.q (.tmp 34) (.tmp 34) (h := ?_)
  refine Lib.q (.tmp 33) (.tmp 35) (h := ?_)
  refine Lib.q_or (.tmp 31) (.tmp 36) (h := ?_)
  refine Lib.q (.tmp 37) (.tmp 37) (h := ?_)
  refine Lib.q (.tmp 2) (.tmp 2) (h := ?_)
  refine Lib.q (.tmp 39) (.tmp 39) (h := ?_)
  refine Lib.q (.tmp 3) (.tmp 3) (h := ?_)
  refine Lib.q (.tmp 41) (.tmp 41) (h := ?_)
  refine Lib.q (.tmp 40) (.tmp 42) (h := ?_)
  refine Lib.q_or (.tmp 38) (.tmp 43) (h := ?_)
  refine Lib.q (.tmp 44) (.tmp 44) (h := ?_)
  refine Lib.q (.tmp 2) (.tmp 2) (h := ?_)
  refine Lib.q (.tmp 46) (.tmp 46) (h := ?_)
  refine Lib.q (.tmp 3) (.tmp 3) (h := ?_)
  refine Lib.q (.tmp 48) (.tmp 48) (h := ?_)
  refine Lib.q (.tmp 47) (.tmp 49) (h := ?_)
  refine Lib.q_or (.tmp 45) (.tmp 50) (h := ?_)
  refine Lib.q_done (fun W hb => ?_)
  try go_wp2
  go_meet
  case rel => exact ⟨rfl, ⟨blk_below BK0.out hb⟩, ⟨blk_below BK1.out hb⟩, ⟨below_step HB.out hb⟩⟩
 case rest =>
  clear BK0 BK1 HB
  obtain ⟨rfl, BK0, BK1, HB⟩ := hcut
  cases hD : (((((((a0_0 != a1_0) || (a0_1 != a1_1)) || (a0_2 != a1_2)) || (a0_3 != a1_3)) || (a0_4 != a1_4)) || (a0_5 != a1_5)) || (a0_6 != a1_6)) with
  | true =>
   go_wp2
   go_ret
   exact ⟨by first | rfl | (rw [hD]; rfl), HB.out⟩
  | false =>
   go_upto_region 3 with (fail)
   have HM : ∀ W, Below wc.heap.size wc W → (W.cell? ⟨w.heap.size, 7, none⟩ = some (.slice A0_7 l0_7.length c0_7) ∧ W.cell? ⟨w.heap.size + 1, 7, none⟩ = some (.slice A1_7 l1_7.length c1_7) ∧ W.cell? ⟨w.heap.size, 8, none⟩ = some (.slice A0_8 l0_8.length c0_8) ∧ W.cell? ⟨w.heap.size + 1, 8, none⟩ = some (.slice A1_8 l1_8.length c1_8) ∧ W.cell? ⟨w.heap.size, 9, none⟩ = some (.slice A0_9 l0_9.length c0_9) ∧ W.cell? ⟨w.heap.size + 1, 9, none⟩ = some (.slice A1_9 l1_9.length c1_9)) := fun W hb => ⟨(blk_cell (blk_below BK0.out hb) 7).trans rfl, (blk_cell (blk_below BK1.out hb) 7).trans rfl, (blk_cell (blk_below BK0.out hb) 8).trans rfl, (blk_cell (blk_below BK1.out hb) 8).trans rfl, (blk_cell (blk_below BK0.out hb) 9).trans rfl, (blk_cell (blk_below BK1.out hb) 9).trans rfl⟩
   refine Lib.q_plain wc Try.f134 rfl (Below.refl _ _) ?_
   refine Lib.q (.tmp 2) (.tmp 2) (h := ?_)
   refine Lib.q (.tmp 52) (.tmp 52) (h := ?_)
   refine Lib.q (.tmp 3) (.tmp 3) (h := ?_)
   refine Lib.q (.tmp 54) (.tmp 54) (h := ?_)
   refine Lib.q_call (.bool t7) #[.slice A0_7 l0_7.length c0_7, .slice A1_7 l1_7.length c1_7] Try.func153 (hcl := ?_) (h := ?_)
   ·
    exact fun _ W hb => Lib.of_drawn (spec_l02Same.calls k _ _ l0_7 _ _ l1_7 t7 W (Kd.C_below HR0_7.out (below_step HB.out hb)) HC0_7.out (Kd.C_below HR1_7.out (below_step HB.out hb)) HC1_7.out H7.out)
   refine Lib.q (.tmp 56) (.tmp 56) (h := ?_)
   refine Lib.q (.tmp 2) (.tmp 2) (h := ?_)
   refine Lib.q (.tmp 58) (.tmp 58) (h := ?_)
   refine Lib.q (.tmp 3) (.tmp 3) (h := ?_)
   refine Lib.q (.tmp 60) (.tmp 60) (h := ?_)
   refine Lib.q_call (.bool t8) #[.slice A0_8 l0_8.length c0_8, .slice A1_8 l1_8.length c1_8] Try.func154 (hcl := ?_) (h := ?_)
   ·
    exact fun _ W hb => (spec_l05Same.calls k _ _ l0_8 _ _ l1_8 t8 W (Kd.C_below HR0_8.out (below_step HB.out hb)) HC0_8.out (Kd.C_below HR1_8.out (below_step HB.out hb)) HC1_8.out H8.out)
   refine Lib.q_and (.tmp 57) (.tmp 62) (h := ?_)
   refine Lib.q (.tmp 63) (.tmp 63) (h := ?_)
   refine Lib.q (.tmp 2) (.tmp 2) (h := ?_)
   refine Lib.q (.tmp 65) (.tmp 65) (h := ?_)
   refine Lib.q (.tmp 3) (.tmp 3) (h := ?_)
   refine Lib.q (.tmp 67) (.tmp 67) (h := ?_)
   refine Lib.q_call (.bool t9) #[.slice A0_9 l0_9.length c0_9, .slice A1_9 l1_9.length c1_9] Try.func154 (hcl := ?_) (h := ?_)
   ·
    exact fun _ W hb => (spec_l05Same.calls k _ _ l0_9 _ _ l1_9 t9 W (Kd.C_below HR0_9.out (below_step HB.out hb)) HC0_9.out (Kd.C_below HR1_9.out (below_step HB.out hb)) HC1_9.out H9.out)
   refine Lib.q_and (.tmp 64) (.tmp 69) (h := ?_)
   refine Lib.q (.tmp 70) (.tmp 70) (h := ?_)
   refine Lib.q_done (fun W hb => ?_)
   go_wp2
   go_ret
   exact ⟨by first | rfl | (rw [hD]; rfl), below_step HB.out hb⟩

/-! ### spec_l06Mode: function 135 -/
def spec_l06Mode.f (a0 : Int) : Option (Bool) := (spec_l01In.f a0 0 2047).bind fun t118 => (some t118)
set_option maxHeartbeats 8000000 in
set_option maxRecDepth 100000 in
theorem spec_l06Mode.calls (a0 : Int) (r : Bool) (w : World) (h : spec_l06Mode.f a0 = some r) :
 Calls Try.prog 135 #[.int .i64 a0] w fun e w' => e = .returned (.bool r) ∧ Drawn0 w w' := by
 have H : ((spec_l01In.f a0 0 2047).bind fun t118 => (some t118)) = some r := h
 clear h
 replace H := Option.bind_eq_some_iff.mp H
 obtain ⟨t118, A20, H⟩ := H
 replace H : (some t118) = some r := H
 have A2 := Aside0.mk A20
 clear A20
 obtain rfl := Option.some.inj H
 go_enter Try.func135, Try.ntmps135
 go_wp2_with (first | ((with_reducible refine gate_callee (f := 99) rfl ?_); refine goesL_ (some 4) rfl rfl Try.func99 (by kernel_rfl) rfl #[.int .i64 a0, .int .i64 0, .int .i64 2047] rfl (by (try simp only [List.map_toArray, List.map_cons, List.map_nil]); first | done | rfl | (simp only [List.length_drop, List.length_take]; rfl)) ?_; (with_reducible refine (spec_l01In.calls a0 0 2047 t118 _ A2.out).mono ?_); rintro e w' ⟨rfl, ⟨nd, rfl⟩⟩; refine ⟨_, rfl, ?_⟩))
 go_ret
 exact ⟨by first | rfl | (simp; done) | (simp [*]; done), by repeat (first | exact Drawn0.refl _ | apply Drawn0.step)⟩

/-! ### spec_l02Has: function 136 -/
/-- spec.l02Has: is the number there. -/
def spec_l02Has.f (l0 : List Int) (a1 : Int) : Option Bool := if l0.length ≤ 4611686018427387904 then some (l0.any (· == a1)) else none
set_option maxHeartbeats 8000000 in
set_option maxRecDepth 100000 in
theorem spec_l02Has.calls (A0 : Option Addr) (c0 : Nat) (l0 : List Int) (a1 : Int) (r : Bool) (w : World) (hr0 : Kd.C (Kd.int .i64) w A0 l0.length l0) (hc0 : l0.length ≤ c0) (h : spec_l02Has.f l0 a1 = some r) :
 Calls Try.prog 136 #[.slice A0 l0.length c0, .int .i64 a1] w fun e w' => e = .returned (.bool r) ∧ Below w.heap.size w w' := by
 unfold spec_l02Has.f at h
 by_cases hl : l0.length ≤ 4611686018427387904
 case neg =>
  rw [if_neg hl] at h
  cases h
 rw [if_pos hl] at h
 obtain rfl := Option.some.inj h
 have HR := Aside0.mk hr0
 have HL := Aside0.mk hl
 clear hr0 hl h hc0
 go_enter Try.func136, Try.ntmps136
 go_wp2
 go_loopg [9] (l0.length + 1) (fun kq v9 w' => ∃ i : Nat, v9 = .int .i64 (i : Int) ∧ Aside0 (i ≤ l0.length ∧ l0.length - i < kq) ∧ Aside0 ((l0.drop i).any (· == a1) = l0.any (· == a1)) ∧ w = w')
 case atStart => exact ⟨0, rfl, ⟨by omega⟩, ⟨rfl⟩, rfl⟩
 case round =>
  obtain ⟨i, rfl, HM, HJ, rfl⟩ := hrel
  cases gk with
  | zero => exact absurd HM.out.2 (by omega)
  | succ k1 =>
   by_cases c : i < l0.length
   ·
    have HD : Aside0 (l0.drop i = rd l0 i :: l0.drop (i + 1)) := ⟨by
     rw [List.drop_eq_getElem_cons c]
     congr 1
     show _ = l0.getD ((i : Int)).toNat 0
     rw [List.getD_eq_getElem?_getD, Int.toNat_natCast, List.getElem?_eq_getElem c]
     rfl⟩
    obtain ⟨ad, e0, hx⟩ := Kd.at_int HR.out (i : Int) (by omega) (by omega)
    cases e0
    simp only [Int.toNat_natCast] at hx
    have b0 : decide ((i : Int) < (l0.length : Int)) = true := decide_eq_true (by omega)
    have b1 := eq_true (show (i : Int) < (l0.length : Int) by omega)
    have b2 := eq_true (show 0 ≤ (i : Int) by omega)
    cases hP : (rd l0 i == a1) with
    | true =>
     go_wp2
     go_ret
     exact ⟨by rw [← HJ.out, HD.out, List.any_cons, hP, Bool.true_or]; rfl, Below.refl _ _⟩
    | false =>
     go_wp2
     go_roundg k1
     case measure => exact Nat.lt_succ_self _
     case rel => exact ⟨i + 1, by rw [show wrap64 ((i : Int) + 1) = ((i + 1 : Nat) : Int) by have := HL.out; unfold wrap64; omega], ⟨by have := HM.out; omega⟩, ⟨by rw [← HJ.out, HD.out, List.any_cons, hP, Bool.false_or]⟩, rfl⟩
   ·
    have b0 : decide ((i : Int) < (l0.length : Int)) = false := decide_eq_false (by omega)
    have b1 := eq_false (show ¬ (i : Int) < (l0.length : Int) by omega)
    go_wp2
    go_ret
    exact ⟨by rw [← HJ.out, List.drop_eq_nil_of_le (by omega)]; rfl, Below.refl _ _⟩

/-! ### spec_l05Entry: function 155 -/
def spec_l05Entry.j0 : Nat → Int → Bool → Int → Int → Int → Option (Bool)
 | 0, _, _, _, _, _ => none
 | k + 1, x8, x9, x120000, x120001, x120002 => if x9 = true then ((spec_l01In.f x120001 0 3).bind fun t121 => (some t121)) else (if x8 = 3 then (some (x120001 == 0)) else (some false))
def spec_l05Entry.f (k : Nat) (a0_0 : Int) (a0_1 : Int) (a0_2 : Int) : Option (Bool) := (spec_l01In.f a0_2 0 7).bind fun t120 => (if t120 = true then (if a0_0 = 1 then (spec_l05Entry.j0 k a0_0 (a0_0 == 1) a0_0 a0_1 a0_2) else (spec_l05Entry.j0 k a0_0 (a0_0 == 2) a0_0 a0_1 a0_2)) else (some false))
theorem spec_l05Entry.mono_l : ∀ k, (∀ y0 y1 y2 y3 y4, LeO (spec_l05Entry.j0 k y0 y1 y2 y3 y4) (spec_l05Entry.j0 (k + 1) y0 y1 y2 y3 y4))
 | 0 => fun _ _ _ _ _ r h => by simp [spec_l05Entry.j0] at h
 | k + 1 => by
  have ih0 := spec_l05Entry.mono_l k
  ·
   intro y0 y1 y2 y3 y4
   unfold spec_l05Entry.j0
   repeat' first
   | (with_reducible exact ih0 _ _ _ _ _)
   | (with_reducible exact LeO.refl _)
   | (with_reducible exact LeO.none _)
   | (with_reducible refine LeO.ite ?_ ?_)
   | (with_reducible refine LeO.bind ?_ (fun _ => ?_))
   | exact ih0 _ _ _ _ _
   | exact LeO.none _
   | refine LeO.ite ?_ ?_
   | refine LeO.bind ?_ (fun _ => ?_)
theorem spec_l05Entry.mono : ∀ a0 a1 a2 k, LeO (spec_l05Entry.f k a0 a1 a2) (spec_l05Entry.f (k + 1) a0 a1 a2) := by
 intro a0 a1 a2 k
 have ih0 := spec_l05Entry.mono_l k
 unfold spec_l05Entry.f
 repeat' first
  | (with_reducible exact ih0 _ _ _ _ _)
  | (with_reducible exact LeO.refl _)
  | (with_reducible exact LeO.none _)
  | (with_reducible refine LeO.ite ?_ ?_)
  | (with_reducible refine LeO.bind ?_ (fun _ => ?_))
  | exact ih0 _ _ _ _ _
  | exact LeO.none _
  | refine LeO.ite ?_ ?_
  | refine LeO.bind ?_ (fun _ => ?_)
set_option maxHeartbeats 8000000 in
set_option maxRecDepth 100000 in
theorem spec_l05Entry.calls (k : Nat) (a0_0 : Int) (a0_1 : Int) (a0_2 : Int) (r : Bool) (w : World) (h : spec_l05Entry.f k a0_0 a0_1 a0_2 = some r) :
 Calls Try.prog 155 #[.agg #[.int .i64 a0_0, .int .i64 a0_1, .int .i64 a0_2]] w fun e w' => e = .returned (.bool r) ∧ Below w.heap.size w w' := by
 have hu107 := Try.underlying107
 have HB := Aside0.mk (Below.refl w.heap.size w)
 have H : ((spec_l01In.f a0_2 0 7).bind fun t120 => (if t120 = true then (if a0_0 = 1 then (spec_l05Entry.j0 k a0_0 (a0_0 == 1) a0_0 a0_1 a0_2) else (spec_l05Entry.j0 k a0_0 (a0_0 == 2) a0_0 a0_1 a0_2)) else (some false))) = some r := h
 clear h
 replace H := Option.bind_eq_some_iff.mp H
 obtain ⟨t120, A20, H⟩ := H
 try dsimp only at H
 have A2 := Aside0.mk A20
 clear A20
 by_cases c3 : t120 = true
 ·
  subst c3
  have H1 : (if a0_0 = 1 then (spec_l05Entry.j0 k a0_0 (a0_0 == 1) a0_0 a0_1 a0_2) else (spec_l05Entry.j0 k a0_0 (a0_0 == 2) a0_0 a0_1 a0_2)) = some r := by rw [if_pos rfl] at H; exact H
  clear H
  have H := H1
  clear H1
  have HC4 := Aside0.mk H
  clear H
  go_enter Try.func155, Try.ntmps155
  go_upto_if 9 with (first | ((with_reducible refine gate_dst (N := 1) rfl ?_); refine box_event ?hg (N := 1) ?hd (cs := #[.int .i64 a0_0, .int .i64 a0_1, .int .i64 a0_2]) (t := 107) ?hr ?_; (case hd => rfl); (case hg => rfl); (case hr => first | (go_simp; done) | (go_simp; rfl)); intro gb119 hg w5 hbox hb; have n0_ := Aside0.mk (below_step (by exact Lib.bw HB.out) hb); have n1_ := Aside0.mk (hbox); have n2_ := Aside0.mk ((by rw [hg]; exact (below_size (by exact Lib.bw HB.out)) : w.heap.size ≤ gb119)); have n3_ := Aside0.mk ((by rw [hg]; exact (below_size (by exact Lib.bw HB.out)) : w.heap.size ≤ gb119)); clear HB; have HB := n0_; have BK119 := n1_; have GW119 := n2_; have GE119 := n3_; clear n0_ n1_ n2_ n3_; clear hb hbox hg; obtain ⟨hcz6_0, hcz6_1, hcz6_2, hfz6_0, hfz6_1, hfz6_2⟩ := Lib.cel3 (W := w5) BK119.out) | ((with_reducible refine gate_callee (f := 99) rfl ?_); refine goesL_ (some 5) rfl rfl Try.func99 (by kernel_rfl) rfl #[.int .i64 a0_2, .int .i64 0, .int .i64 7] rfl (by (try simp only [List.map_toArray, List.map_cons, List.map_nil]); first | done | rfl | (simp only [List.length_drop, List.length_take]; rfl)) ?_; (with_reducible refine (spec_l01In.calls a0_2 0 7 true _ A2.out).mono ?_); rintro e w' ⟨rfl, ⟨nd, rfl⟩⟩; refine ⟨_, rfl, ?_⟩))
  (try simp only [Act.put, List.setIfInBounds_toArray, List.set_cons_zero, List.set_cons_succ])
  go_cut [9] (fun v9 wc => ∃ (kq : Nat) (x9_3 : Bool), v9 = .bool x9_3 ∧ Aside0 (spec_l05Entry.j0 kq a0_0 x9_3 a0_0 a0_1 a0_2 = some r) ∧ Aside0 (kq ≤ k) ∧ Aside0 (wc.heap[gb119]? = some (.cells #[.int .i64 a0_0, .int .i64 a0_1, .int .i64 a0_2] 107 (0, 0))) ∧ Aside0 (Below w.heap.size w wc))
  case first =>
   have H := HC4.out
   clear HC4
   by_cases c7 : a0_0 = 1
   ·
    rw [if_pos c7] at H
    have c7b0 : (a0_0 == 1) = true := beq_iff_eq.mpr c7
    have c7b1 : (a0_0 != 1) = false := bne_eq_false_iff_eq.mpr c7
    clear c7
    (first | rw [c7b0] | (simp only [i64_w, i32_w]; rw [c7b0]) | skip)
    have H' := Aside0.mk H
    clear H
    go_wp2
    go_meet
    case rel => exact ⟨_, ((a0_0 == 1)), (by first | rfl | (simp; done) | (simp [*]; done)), H', ⟨by first | omega | exact Nat.le_refl _⟩, ⟨by exact Lib.bk BK119.out⟩, ⟨by exact Lib.bs HB.out GE119.out⟩⟩
   ·
    rw [if_neg c7] at H
    have c7b0 : (a0_0 == 1) = false := beq_eq_false_iff_ne.mpr c7
    have c7b1 : (a0_0 != 1) = true := bne_iff_ne.mpr c7
    (first | rw [c7b0] | (simp only [i64_w, i32_w]; rw [c7b0]) | skip)
    have H' := Aside0.mk H
    clear H
    go_wp2
    go_meet
    case rel => exact ⟨_, ((a0_0 == 2)), (by first | rfl | (simp; done) | (simp [*]; done)), H', ⟨by first | omega | exact Nat.le_refl _⟩, ⟨by exact Lib.bk BK119.out⟩, ⟨by exact Lib.bs HB.out GE119.out⟩⟩
  case rest =>
   clear HC4
   try clear c1
   try clear p2
   try clear c3
   try clear c7
   try clear c7b0
   try clear c7b1
   try clear hcz6_0
   try clear hcz6_1
   try clear hcz6_2
   try clear hfz6_0
   try clear hfz6_1
   try clear hfz6_2
   obtain ⟨kq, x9_3, rfl, HA, HJ3, BK119, HB⟩ := hcut
   cases kq with
   | zero => exact absurd HA.out (by simp [spec_l05Entry.j0])
   | succ kj3 =>
    have H := HA.out
    clear HA
    simp only [spec_l05Entry.j0] at H
    by_cases c8 : x9_3 = true
    ·
     subst c8
     have H1 : ((spec_l01In.f a0_1 0 3).bind fun t121 => (some t121)) = some r := by rw [if_pos rfl] at H; exact H
     clear H
     have H := H1
     clear H1
     replace H := Option.bind_eq_some_iff.mp H
     obtain ⟨t121, A90, H⟩ := H
     replace H : (some t121) = some r := H
     have A9 := Aside0.mk A90
     clear A90
     obtain rfl := Option.some.inj H
     obtain ⟨hcz10_0, hcz10_1, hcz10_2, hfz10_0, hfz10_1, hfz10_2⟩ := Lib.cel3 (W := wc) BK119.out
     go_wp2_with (first | ((with_reducible refine gate_callee (f := 99) rfl ?_); refine goesL_ (some 14) rfl rfl Try.func99 (by kernel_rfl) rfl #[.int .i64 a0_1, .int .i64 0, .int .i64 3] rfl (by (try simp only [List.map_toArray, List.map_cons, List.map_nil]); first | done | rfl | (simp only [List.length_drop, List.length_take]; rfl)) ?_; (with_reducible refine (spec_l01In.calls a0_1 0 3 t121 _ A9.out).mono ?_); rintro e w' ⟨rfl, ⟨nd, rfl⟩⟩; refine ⟨_, rfl, ?_⟩))
     go_ret
     exact ⟨by first | rfl | (simp [errW_none, errW_some] <;> rfl) | (simp [*, errW_none, errW_some] <;> rfl), by exact Lib.bs HB.out GE119.out⟩
    ·
     replace c8 := Bool.eq_false_iff.mpr c8
     subst c8
     have H1 : (if a0_0 = 3 then (some (a0_1 == 0)) else (some false)) = some r := by rw [if_neg (show ¬ (false = true) by decide)] at H; exact H
     clear H
     have H := H1
     clear H1
     by_cases c11 : a0_0 = 3
     ·
      rw [if_pos c11] at H
      have c11b0 : (a0_0 == 3) = true := beq_iff_eq.mpr c11
      have c11b1 : (a0_0 != 3) = false := bne_eq_false_iff_eq.mpr c11
      clear c11
      obtain rfl := Option.some.inj H
      obtain ⟨hcz12_0, hcz12_1, hcz12_2, hfz12_0, hfz12_1, hfz12_2⟩ := Lib.cel3 (W := wc) BK119.out
      go_wp2
      go_ret
      exact ⟨by first | rfl | (simp [errW_none, errW_some] <;> rfl) | (simp [*, errW_none, errW_some] <;> rfl), by exact Lib.bs HB.out GE119.out⟩
     ·
      rw [if_neg c11] at H
      have c11b0 : (a0_0 == 3) = false := beq_eq_false_iff_ne.mpr c11
      have c11b1 : (a0_0 != 3) = true := bne_iff_ne.mpr c11
      obtain rfl := Option.some.inj H
      go_wp2
      go_ret
      exact ⟨by first | rfl | (simp [errW_none, errW_some] <;> rfl) | (simp [*, errW_none, errW_some] <;> rfl), by exact Lib.bs HB.out GE119.out⟩
 ·
  replace c3 := Bool.eq_false_iff.mpr c3
  subst c3
  have H1 : (some false) = some r := by rw [if_neg (show ¬ (false = true) by decide)] at H; exact H
  clear H
  have H := H1
  clear H1
  obtain rfl := Option.some.inj H
  go_enter Try.func155, Try.ntmps155
  go_wp2_with (first | ((with_reducible refine gate_dst (N := 1) rfl ?_); refine box_event ?hg (N := 1) ?hd (cs := #[.int .i64 a0_0, .int .i64 a0_1, .int .i64 a0_2]) (t := 107) ?hr ?_; (case hd => rfl); (case hg => rfl); (case hr => first | (go_simp; done) | (go_simp; rfl)); intro gb119 hg w13 hbox hb; have n0_ := Aside0.mk (below_step (by exact Lib.bw HB.out) hb); have n1_ := Aside0.mk (hbox); have n2_ := Aside0.mk ((by rw [hg]; exact (below_size (by exact Lib.bw HB.out)) : w.heap.size ≤ gb119)); have n3_ := Aside0.mk ((by rw [hg]; exact (below_size (by exact Lib.bw HB.out)) : w.heap.size ≤ gb119)); clear HB; have HB := n0_; have BK119 := n1_; have GW119 := n2_; have GE119 := n3_; clear n0_ n1_ n2_ n3_; clear hb hbox hg; obtain ⟨hcz14_0, hcz14_1, hcz14_2, hfz14_0, hfz14_1, hfz14_2⟩ := Lib.cel3 (W := w13) BK119.out) | ((with_reducible refine gate_callee (f := 99) rfl ?_); refine goesL_ (some 5) rfl rfl Try.func99 (by kernel_rfl) rfl #[.int .i64 a0_2, .int .i64 0, .int .i64 7] rfl (by (try simp only [List.map_toArray, List.map_cons, List.map_nil]); first | done | rfl | (simp only [List.length_drop, List.length_take]; rfl)) ?_; (with_reducible refine (spec_l01In.calls a0_2 0 7 false _ A2.out).mono ?_); rintro e w' ⟨rfl, ⟨nd, rfl⟩⟩; refine ⟨_, rfl, ?_⟩))
  go_ret
  exact ⟨by first | rfl | (simp [errW_none, errW_some] <;> rfl) | (simp [*, errW_none, errW_some] <;> rfl), by exact Lib.bs HB.out GE119.out⟩

end Go.Proofs.Ytnfiapcemafmiaa.PFnExactNextBlock
