-- Written by a program of this session over Lean's own print of the program.
import Derived.Test.YtnfiapcemafmiaaPFnExactNextBlockx0
import Derived.Test.YtnfiapcemafmiaaPFnExactNextBlockx9
namespace Go.Proofs.Ytnfiapcemafmiaa.PFnExactNextBlock
open Go.RowKit Go.Proofs.YtnfiapcemafmiaaW.PrintWords Go.Proofs.YtnfiapcemafmiaaW.PrintLast Go.Proofs.YtnfiapcemafmiaaW.PrintMore
attribute [local go_sem] max2_int min2_int max_two min_two max_three min_three max_four min_four   -- for this text's walks alone
set_option linter.unusedVariables false
set_option linter.unusedSimpArgs false

/-! ### impl_IsAcl: function 97 -/
mutual
def impl_IsAcl.l0 : Nat → List (S107) → List (S107) → Int → Int → Option (Bool)
 | 0, _, _, _, _ => none
 | k + 1, x0, x8, x9, x10 => if x10 < x9 then (if 0 ≤ x10 then (if x10 < (x8.length : Int) then (if ((rd_T107 x8 x10).f2) < 0 then (impl_IsAcl.j1 k x0 x10 x8 x9 x10 true ((rd_T107 x8 x10).f0) ((rd_T107 x8 x10).f1) ((rd_T107 x8 x10).f2)) else (impl_IsAcl.j1 k x0 x10 x8 x9 x10 (decide (((rd_T107 x8 x10).f2) > 7)) ((rd_T107 x8 x10).f0) ((rd_T107 x8 x10).f1) ((rd_T107 x8 x10).f2))) else (none)) else (none)) else (if (x0.length : Int) = 0 then (some true) else (if 0 ≤ (wrap64 ((x0.length : Int) - 1)) then (if (wrap64 ((x0.length : Int) - 1)) < (x0.length : Int) then (some (((rd_T107 x0 (wrap64 ((x0.length : Int) - 1))).f0) == 3)) else (none)) else (none)))
def impl_IsAcl.j1 : Nat → List (S107) → Int → List (S107) → Int → Int → Bool → Int → Int → Int → Option (Bool)
 | 0, _, _, _, _, _, _, _, _, _ => none
 | k + 1, x0, x3, x8, x9, x10, x22, x244000, x244001, x244002 => if x22 = true then (some false) else (if x244000 = 1 then (impl_IsAcl.j2 k x0 x3 x8 x9 x10 x244000 (x244000 == 1) x244000 x244001 x244002) else (impl_IsAcl.j2 k x0 x3 x8 x9 x10 x244000 (x244000 == 2) x244000 x244001 x244002))
def impl_IsAcl.j3 : Nat → List (S107) → Int → List (S107) → Int → Int → Int → Int → Int → Option (Bool)
 | 0, _, _, _, _, _, _, _, _ => none
 | k + 1, x0, x3, x8, x9, x10, x244000, x244001, x244002 => if x3 > 0 then (if 0 ≤ (wrap64 (x3 - 1)) then (if (wrap64 (x3 - 1)) < (x0.length : Int) then ((cmp_Compare_int.f ((rd_T107 x0 (wrap64 (x3 - 1))).f0) x244000).bind fun t246 => ((cmp_Compare_int.f ((rd_T107 x0 (wrap64 (x3 - 1))).f1) x244001).bind fun t248 => ((cmp_Or_int.f k (([t246, t248] : List Int))).bind fun t252 => (if t252 ≥ 0 then (some false) else (impl_IsAcl.l0 k x0 x8 x9 (wrap64 (x10 + 1))))))) else (none)) else (none)) else (impl_IsAcl.l0 k x0 x8 x9 (wrap64 (x10 + 1)))
def impl_IsAcl.j2 : Nat → List (S107) → Int → List (S107) → Int → Int → Int → Bool → Int → Int → Int → Option (Bool)
 | 0, _, _, _, _, _, _, _, _, _, _ => none
 | k + 1, x0, x3, x8, x9, x10, x24, x25, x244000, x244001, x244002 => if x25 = true then ((impl_isUser.f x244001).bind fun t244 => (if t244 = true then (impl_IsAcl.j3 k x0 x3 x8 x9 x10 x244000 x244001 x244002) else (some false))) else (if x24 = 3 then (if x244001 = 0 then (impl_IsAcl.j3 k x0 x3 x8 x9 x10 x244000 x244001 x244002) else (some false)) else (some false))
end
def impl_IsAcl.f (k : Nat) (l0 : List (S107)) : Option (Bool) := if (l0.length : Int) > 6 then (some false) else (impl_IsAcl.l0 k l0 l0 (l0.length : Int) 0)
theorem impl_IsAcl.mono_l : ∀ k, (∀ y0 y1 y2 y3, LeO (impl_IsAcl.l0 k y0 y1 y2 y3) (impl_IsAcl.l0 (k + 1) y0 y1 y2 y3)) ∧ (∀ y0 y1 y2 y3 y4 y5 y6 y7 y8, LeO (impl_IsAcl.j1 k y0 y1 y2 y3 y4 y5 y6 y7 y8) (impl_IsAcl.j1 (k + 1) y0 y1 y2 y3 y4 y5 y6 y7 y8)) ∧ (∀ y0 y1 y2 y3 y4 y5 y6 y7, LeO (impl_IsAcl.j3 k y0 y1 y2 y3 y4 y5 y6 y7) (impl_IsAcl.j3 (k + 1) y0 y1 y2 y3 y4 y5 y6 y7)) ∧ (∀ y0 y1 y2 y3 y4 y5 y6 y7 y8 y9, LeO (impl_IsAcl.j2 k y0 y1 y2 y3 y4 y5 y6 y7 y8 y9) (impl_IsAcl.j2 (k + 1) y0 y1 y2 y3 y4 y5 y6 y7 y8 y9))
 | 0 => ⟨fun _ _ _ _ r h => by simp [impl_IsAcl.l0] at h, fun _ _ _ _ _ _ _ _ _ r h => by simp [impl_IsAcl.j1] at h, fun _ _ _ _ _ _ _ _ r h => by simp [impl_IsAcl.j3] at h, fun _ _ _ _ _ _ _ _ _ _ r h => by simp [impl_IsAcl.j2] at h⟩
 | k + 1 => by
  obtain ⟨ih0, ih1, ih2, ih3⟩ := impl_IsAcl.mono_l k
  refine ⟨?_, ?_, ?_, ?_⟩
  ·
   intro y0 y1 y2 y3
   unfold impl_IsAcl.l0
   repeat' first
   | (with_reducible exact ih0 _ _ _ _)
   | (with_reducible exact ih1 _ _ _ _ _ _ _ _ _)
   | (with_reducible exact ih2 _ _ _ _ _ _ _ _)
   | (with_reducible exact ih3 _ _ _ _ _ _ _ _ _ _)
   | (with_reducible exact cmp_Or_int.mono _ _)
   | (with_reducible exact LeO.refl _)
   | (with_reducible exact LeO.none _)
   | (with_reducible refine LeO.ite ?_ ?_)
   | (with_reducible refine LeO.bind ?_ (fun _ => ?_))
   | exact ih0 _ _ _ _
   | exact ih1 _ _ _ _ _ _ _ _ _
   | exact ih2 _ _ _ _ _ _ _ _
   | exact ih3 _ _ _ _ _ _ _ _ _ _
   | exact cmp_Or_int.mono _ _
   | exact LeO.none _
   | refine LeO.ite ?_ ?_
   | refine LeO.bind ?_ (fun _ => ?_)
  ·
   intro y0 y1 y2 y3 y4 y5 y6 y7 y8
   unfold impl_IsAcl.j1
   repeat' first
   | (with_reducible exact ih0 _ _ _ _)
   | (with_reducible exact ih1 _ _ _ _ _ _ _ _ _)
   | (with_reducible exact ih2 _ _ _ _ _ _ _ _)
   | (with_reducible exact ih3 _ _ _ _ _ _ _ _ _ _)
   | (with_reducible exact cmp_Or_int.mono _ _)
   | (with_reducible exact LeO.refl _)
   | (with_reducible exact LeO.none _)
   | (with_reducible refine LeO.ite ?_ ?_)
   | (with_reducible refine LeO.bind ?_ (fun _ => ?_))
   | exact ih0 _ _ _ _
   | exact ih1 _ _ _ _ _ _ _ _ _
   | exact ih2 _ _ _ _ _ _ _ _
   | exact ih3 _ _ _ _ _ _ _ _ _ _
   | exact cmp_Or_int.mono _ _
   | exact LeO.none _
   | refine LeO.ite ?_ ?_
   | refine LeO.bind ?_ (fun _ => ?_)
  ·
   intro y0 y1 y2 y3 y4 y5 y6 y7
   unfold impl_IsAcl.j3
   repeat' first
   | (with_reducible exact ih0 _ _ _ _)
   | (with_reducible exact ih1 _ _ _ _ _ _ _ _ _)
   | (with_reducible exact ih2 _ _ _ _ _ _ _ _)
   | (with_reducible exact ih3 _ _ _ _ _ _ _ _ _ _)
   | (with_reducible exact cmp_Or_int.mono _ _)
   | (with_reducible exact LeO.refl _)
   | (with_reducible exact LeO.none _)
   | (with_reducible refine LeO.ite ?_ ?_)
   | (with_reducible refine LeO.bind ?_ (fun _ => ?_))
   | exact ih0 _ _ _ _
   | exact ih1 _ _ _ _ _ _ _ _ _
   | exact ih2 _ _ _ _ _ _ _ _
   | exact ih3 _ _ _ _ _ _ _ _ _ _
   | exact cmp_Or_int.mono _ _
   | exact LeO.none _
   | refine LeO.ite ?_ ?_
   | refine LeO.bind ?_ (fun _ => ?_)
  ·
   intro y0 y1 y2 y3 y4 y5 y6 y7 y8 y9
   unfold impl_IsAcl.j2
   repeat' first
   | (with_reducible exact ih0 _ _ _ _)
   | (with_reducible exact ih1 _ _ _ _ _ _ _ _ _)
   | (with_reducible exact ih2 _ _ _ _ _ _ _ _)
   | (with_reducible exact ih3 _ _ _ _ _ _ _ _ _ _)
   | (with_reducible exact cmp_Or_int.mono _ _)
   | (with_reducible exact LeO.refl _)
   | (with_reducible exact LeO.none _)
   | (with_reducible refine LeO.ite ?_ ?_)
   | (with_reducible refine LeO.bind ?_ (fun _ => ?_))
   | exact ih0 _ _ _ _
   | exact ih1 _ _ _ _ _ _ _ _ _
   | exact ih2 _ _ _ _ _ _ _ _
   | exact ih3 _ _ _ _ _ _ _ _ _ _
   | exact cmp_Or_int.mono _ _
   | exact LeO.none _
   | refine LeO.ite ?_ ?_
   | refine LeO.bind ?_ (fun _ => ?_)
theorem impl_IsAcl.mono : ∀ a0 k, LeO (impl_IsAcl.f k a0) (impl_IsAcl.f (k + 1) a0) := by
 intro a0 k
 obtain ⟨ih0, ih1, ih2, ih3⟩ := impl_IsAcl.mono_l k
 unfold impl_IsAcl.f
 repeat' first
  | (with_reducible exact ih0 _ _ _ _)
  | (with_reducible exact ih1 _ _ _ _ _ _ _ _ _)
  | (with_reducible exact ih2 _ _ _ _ _ _ _ _)
  | (with_reducible exact ih3 _ _ _ _ _ _ _ _ _ _)
  | (with_reducible exact cmp_Or_int.mono _ _)
  | (with_reducible exact LeO.refl _)
  | (with_reducible exact LeO.none _)
  | (with_reducible refine LeO.ite ?_ ?_)
  | (with_reducible refine LeO.bind ?_ (fun _ => ?_))
  | exact ih0 _ _ _ _
  | exact ih1 _ _ _ _ _ _ _ _ _
  | exact ih2 _ _ _ _ _ _ _ _
  | exact ih3 _ _ _ _ _ _ _ _ _ _
  | exact cmp_Or_int.mono _ _
  | exact LeO.none _
  | refine LeO.ite ?_ ?_
  | refine LeO.bind ?_ (fun _ => ?_)
def impl_IsAcl.T17 : Bool × List (List Nat × List Nat) := (true, [([], []), ([0], [0]), ([1], [1]), ([2], [2]), ([2], [2]), ([4, 2], [2, 4]), ([3, 5, 2], [2, 3, 5]), ([6, 2], [2, 6]), ([7, 2], [2, 7]), ([2], [2]), ([9, 2], [2, 9]), ([8, 10, 2, 2], [2, 8, 10]), ([2], [2]), ([2], [2]), ([13, 2], [2, 13]), ([12, 14, 2], [2, 12, 14]), ([15, 2], [2, 15]), ([16, 2], [2, 16]), ([2], [2]), ([18, 2], [2, 18]), ([17, 19, 11, 2], [2, 17, 19]), ([11, 20, 2], [2, 11, 20]), ([21, 20, 2], [2, 21]), ([22, 2], [2, 22]), ([2, 23], [2, 23])])
def impl_IsAcl.B17 : List Nat := [0, 1, 3, 7, 7, 23, 63, 127, 255, 7, 519, 2047, 7, 7, 8199, 28679, 61447, 126983, 7, 262151, 1048575, 2097151, 4194303, 8388607, 16777215]
theorem impl_IsAcl.tab17 : rtab .any (opsOf Try.f97 17) = impl_IsAcl.T17 := by kernel_rfl
theorem impl_IsAcl.bits17 : waitsOk impl_IsAcl.T17.2 impl_IsAcl.B17 = true := by kernel_rfl
set_option maxHeartbeats 8000000 in
set_option maxRecDepth 100000 in
theorem impl_IsAcl.calls (k : Nat) (A0 : Option Addr) (c0 : Nat) (l0 : List (S107)) (r : Bool) (w : World) (hr0 : Kd.C k107 w A0 l0.length l0) (hc0 : l0.length ≤ c0) (h : impl_IsAcl.f k l0 = some r) :
 Calls Try.prog 97 #[.slice A0 l0.length c0] w fun e w' => e = .returned (.bool r) ∧ Below w.heap.size w w' := by
 have hu107 := Try.underlying107
 have HR0 := Aside0.mk hr0
 have HC0 := Aside0.mk hc0
 clear hr0 hc0
 have HB := Aside0.mk (Below.refl w.heap.size w)
 have H : (if (l0.length : Int) > 6 then (some false) else (impl_IsAcl.l0 k l0 l0 (l0.length : Int) 0)) = some r := h
 clear h
 by_cases c2 : (l0.length : Int) > 6
 ·
  rw [if_pos c2] at H
  have c2b0 : decide (6 < (l0.length : Int)) = true := decide_eq_true c2
  have c2b1 : decide (6 < l0.length) = true := decide_eq_true (by omega)
  clear c2
  obtain rfl := Option.some.inj H
  go_enter Try.func97, Try.ntmps97
  go_wp2
  go_ret
  exact ⟨by first | rfl | (simp [errW_none, errW_some] <;> rfl) | (simp [*, errW_none, errW_some] <;> rfl), by exact Lib.bw HB.out⟩
 ·
  rw [if_neg c2] at H
  have c2b0 : decide (6 < (l0.length : Int)) = false := decide_eq_false c2
  have c2b1 : decide (6 < l0.length) = false := decide_eq_false (by omega)
  clear c2
  have H' := Aside0.mk H
  clear H
  go_enter Try.func97, Try.ntmps97
  go_wp2
  go_loopg [10] k (fun kq v10 w' => ∃ (x10_1 : Int), v10 = .int .i64 x10_1 ∧ Aside0 (impl_IsAcl.l0 kq l0 l0 (l0.length : Int) x10_1 = some r) ∧ Aside0 (kq ≤ k) ∧ Aside0 (Below w.heap.size w w'))
  case atStart => exact ⟨(0), (by first | rfl | (simp; done) | (simp [*]; done)), H', ⟨Nat.le_refl _⟩, ⟨by exact Lib.bw HB.out⟩⟩
  case round =>
   clear H'
   try clear c2
   try clear c2b0
   try clear c2b1
   try clear p2
   obtain ⟨x10_1, rfl, HA, HK1, HB⟩ := hrel
   cases gk with
   | zero => exact absurd HA.out (by simp [impl_IsAcl.l0])
   | succ k1 =>
    have H := HA.out
    clear HA
    simp only [impl_IsAcl.l0] at H
    by_cases c3 : x10_1 < (l0.length : Int)
    ·
     rw [if_pos c3] at H
     have c3b0 : decide (x10_1 < (l0.length : Int)) = true := decide_eq_true c3
     clear c3
     by_cases c4 : 0 ≤ x10_1
     ·
      rw [if_pos c4] at H
      have c4b0 : decide (0 ≤ x10_1) = true := decide_eq_true c4
      clear c4
      by_cases c5 : x10_1 < (l0.length : Int)
      ·
       rw [if_pos c5] at H
       have c5b0 : decide (x10_1 < (l0.length : Int)) = true := decide_eq_true c5
       clear c5
       have HC6 := Aside0.mk H
       clear H
       have p242 : 0 ≤ (x10_1 : Int) := Lib.od
       have q242 : x10_1 < (l0.length : Int) := Lib.od
       obtain ⟨ad242, e242, hx242_0, hx242_1, hx242_2⟩ := at_T107 HR0.out x10_1 p242 q242
       cases e242
       replace hx242_0 := (HB.out.cell (World.block_lt_of_cell? w _ hx242_0)).trans hx242_0
       replace hx242_1 := (HB.out.cell (World.block_lt_of_cell? w _ hx242_1)).trans hx242_1
       replace hx242_2 := (HB.out.cell (World.block_lt_of_cell? w _ hx242_2)).trans hx242_2
       replace p242 := eq_true p242
       replace q242 := eq_true q242
       go_upto_region 6 with (first | ((with_reducible refine gate_dst (N := 4) rfl ?_); (try (refine gate_guard (by rfl) ?_; dsimp only)); refine box_event ?hg (N := 4) ?hd (cs := #[.int .i64 0, .int .i64 0, .int .i64 0]) (t := 107) ?hr ?_; (case hd => rfl); (case hg => rfl); (case hr => first | (go_simp; done) | (go_simp; rfl)); intro gb243 hg w7 hbox hb; have n0_ := Aside0.mk (below_step (by exact Lib.bw HB.out) hb); have n1_ := Aside0.mk (hbox); have n2_ := Aside0.mk ((by rw [hg]; exact (below_size (by exact Lib.bw HB.out)) : w.heap.size ≤ gb243)); have n3_ := Aside0.mk ((by rw [hg]; exact (below_size (by exact Lib.bw HB.out)) : w.heap.size ≤ gb243)); clear HB; have HB := n0_; have BK243 := n1_; have GW243 := n2_; have GE243 := n3_; clear n0_ n1_ n2_ n3_; clear hb hbox hg; obtain ⟨hcz8_0, hcz8_1, hcz8_2, hfz8_0, hfz8_1, hfz8_2⟩ := Lib.cel3 (W := w7) BK243.out))
       (try simp only [Act.put, List.setIfInBounds_toArray, List.set_cons_zero, List.set_cons_succ])
       go_cut [22] (fun v22 wc => ∃ (kq : Nat) (x22_5 : Bool), v22 = .bool x22_5 ∧ Aside0 (impl_IsAcl.j1 kq l0 x10_1 l0 (l0.length : Int) x10_1 x22_5 ((rd_T107 l0 x10_1).f0) ((rd_T107 l0 x10_1).f1) ((rd_T107 l0 x10_1).f2) = some r) ∧ Aside0 (kq ≤ k1) ∧ Aside0 (wc.heap[gb243]? = some (.cells #[.int .i64 ((rd_T107 l0 x10_1).f0), .int .i64 ((rd_T107 l0 x10_1).f1), .int .i64 ((rd_T107 l0 x10_1).f2)] 107 (0, 0))) ∧ Aside0 (Below w.heap.size w wc))
       case first =>
        have H := HC6.out
        clear HC6
        by_cases c9 : ((rd_T107 l0 x10_1).f2) < 0
        ·
         rw [if_pos c9] at H
         have c9b0 : decide (((rd_T107 l0 x10_1).f2) < 0) = true := decide_eq_true c9
         clear c9
         (first | rw [c9b0] | (simp only [i64_w, i32_w]; rw [c9b0]) | skip)
         have H' := Aside0.mk H
         clear H
         obtain ⟨hcz10_0, hcz10_1, hcz10_2, hfz10_0, hfz10_1, hfz10_2⟩ := Lib.cel3 (W := w7) BK243.out
         go_wp2
         go_meet
         case rel => exact ⟨_, (true), (by first | rfl | (simp; done) | (simp [*]; done)), H', ⟨by have := HK1.out; first | omega | exact Nat.le_refl _⟩, ⟨by (with_reducible repeat (first | refine blk_drewN ?_ _ | refine blk_drew ?_ | refine blk_alloc ?_ _)); refine blk_put (cs := #[.int .i64 ((rd_T107 l0 x10_1).f0), .int .i64 ((rd_T107 l0 x10_1).f1), .int .i64 0]) ?_ 2 _ rfl; (with_reducible repeat (first | refine blk_drewN ?_ _ | refine blk_drew ?_ | refine blk_alloc ?_ _)); refine blk_put (cs := #[.int .i64 ((rd_T107 l0 x10_1).f0), .int .i64 0, .int .i64 0]) ?_ 1 _ rfl; (with_reducible repeat (first | refine blk_drewN ?_ _ | refine blk_drew ?_ | refine blk_alloc ?_ _)); refine blk_put (cs := #[.int .i64 0, .int .i64 0, .int .i64 0]) ?_ 0 _ rfl; (with_reducible repeat (first | refine blk_drewN ?_ _ | refine blk_drew ?_ | refine blk_alloc ?_ _)); exact BK243.out⟩, ⟨by exact Lib.bs HB.out GE243.out⟩⟩
        ·
         rw [if_neg c9] at H
         have c9b0 : decide (((rd_T107 l0 x10_1).f2) < 0) = false := decide_eq_false c9
         clear c9
         (first | rw [c9b0] | (simp only [i64_w, i32_w]; rw [c9b0]) | skip)
         have H' := Aside0.mk H
         clear H
         obtain ⟨hcz11_0, hcz11_1, hcz11_2, hfz11_0, hfz11_1, hfz11_2⟩ := Lib.cel3 (W := w7) BK243.out
         go_wp2
         go_meet
         case rel => exact ⟨_, (decide (((rd_T107 l0 x10_1).f2) > 7)), (by first | rfl | (simp; done) | (simp [*]; done)), H', ⟨by have := HK1.out; first | omega | exact Nat.le_refl _⟩, ⟨by (with_reducible repeat (first | refine blk_drewN ?_ _ | refine blk_drew ?_ | refine blk_alloc ?_ _)); refine blk_put (cs := #[.int .i64 ((rd_T107 l0 x10_1).f0), .int .i64 ((rd_T107 l0 x10_1).f1), .int .i64 0]) ?_ 2 _ rfl; (with_reducible repeat (first | refine blk_drewN ?_ _ | refine blk_drew ?_ | refine blk_alloc ?_ _)); refine blk_put (cs := #[.int .i64 ((rd_T107 l0 x10_1).f0), .int .i64 0, .int .i64 0]) ?_ 1 _ rfl; (with_reducible repeat (first | refine blk_drewN ?_ _ | refine blk_drew ?_ | refine blk_alloc ?_ _)); refine blk_put (cs := #[.int .i64 0, .int .i64 0, .int .i64 0]) ?_ 0 _ rfl; (with_reducible repeat (first | refine blk_drewN ?_ _ | refine blk_drew ?_ | refine blk_alloc ?_ _)); exact BK243.out⟩, ⟨by exact Lib.bs HB.out GE243.out⟩⟩
       case rest =>
        clear HC6
        try clear c2
        try clear c2b0
        try clear c2b1
        try clear p2
        try clear q2
        try clear hx2
        try clear c3
        try clear c3b0
        try clear c4
        try clear c4b0
        try clear c5
        try clear c5b0
        try clear c9
        try clear c9b0
        try clear hcz10_0
        try clear hcz10_1
        try clear hcz10_2
        try clear hcz11_0
        try clear hcz11_1
        try clear hcz11_2
        try clear hcz8_0
        try clear hcz8_1
        try clear hcz8_2
        try clear hfz10_0
        try clear hfz10_1
        try clear hfz10_2
        try clear hfz11_0
        try clear hfz11_1
        try clear hfz11_2
        try clear hfz8_0
        try clear hfz8_1
        try clear hfz8_2
        try clear hx242_0
        try clear hx242_1
        try clear hx242_2
        try clear p2
        try clear p242
        try clear q242
        obtain ⟨kq, x22_5, rfl, HA, HJ5, BK243, HB⟩ := hcut
        cases kq with
        | zero => exact absurd HA.out (by simp [impl_IsAcl.j1])
        | succ kj5 =>
         have H := HA.out
         clear HA
         simp only [impl_IsAcl.j1] at H
         by_cases c12 : x22_5 = true
         ·
          subst c12
          have H1 : (some false) = some r := by rw [if_pos rfl] at H; exact H
          clear H
          have H := H1
          clear H1
          obtain rfl := Option.some.inj H
          go_wp2
          go_ret
          exact ⟨by first | rfl | (simp [errW_none, errW_some] <;> rfl) | (simp [*, errW_none, errW_some] <;> rfl), by exact Lib.bs HB.out GE243.out⟩
         ·
          replace c12 := Bool.eq_false_iff.mpr c12
          subst c12
          have H1 : (if ((rd_T107 l0 x10_1).f0) = 1 then (impl_IsAcl.j2 kj5 l0 x10_1 l0 (l0.length : Int) x10_1 ((rd_T107 l0 x10_1).f0) (((rd_T107 l0 x10_1).f0) == 1) ((rd_T107 l0 x10_1).f0) ((rd_T107 l0 x10_1).f1) ((rd_T107 l0 x10_1).f2)) else (impl_IsAcl.j2 kj5 l0 x10_1 l0 (l0.length : Int) x10_1 ((rd_T107 l0 x10_1).f0) (((rd_T107 l0 x10_1).f0) == 2) ((rd_T107 l0 x10_1).f0) ((rd_T107 l0 x10_1).f1) ((rd_T107 l0 x10_1).f2))) = some r := by rw [if_neg (show ¬ (false = true) by decide)] at H; exact H
          clear H
          have H := H1
          clear H1
          have HC13 := Aside0.mk H
          clear H
          obtain ⟨hcz14_0, hcz14_1, hcz14_2, hfz14_0, hfz14_1, hfz14_2⟩ := Lib.cel3 (W := wc) BK243.out
          go_upto_block 2 with (fail)
          go_cut [] (fun wc => ∃ (kq : Nat), Aside0 (impl_IsAcl.j3 kq l0 x10_1 l0 (l0.length : Int) x10_1 ((rd_T107 l0 x10_1).f0) ((rd_T107 l0 x10_1).f1) ((rd_T107 l0 x10_1).f2) = some r) ∧ Aside0 (kq ≤ kj5) ∧ Aside0 (wc.heap[gb243]? = some (.cells #[.int .i64 ((rd_T107 l0 x10_1).f0), .int .i64 ((rd_T107 l0 x10_1).f1), .int .i64 ((rd_T107 l0 x10_1).f2)] 107 (0, 0))) ∧ Aside0 (Below w.heap.size w wc))
          case first =>
           have H := HC13.out
           clear HC13
           have HC15 := Aside0.mk H
           clear H
           go_upto_if 25 with (fail)
           go_cut [25] (fun v25 wc => ∃ (kq : Nat) (x25_14 : Bool), v25 = .bool x25_14 ∧ Aside0 (impl_IsAcl.j2 kq l0 x10_1 l0 (l0.length : Int) x10_1 ((rd_T107 l0 x10_1).f0) x25_14 ((rd_T107 l0 x10_1).f0) ((rd_T107 l0 x10_1).f1) ((rd_T107 l0 x10_1).f2) = some r) ∧ Aside0 (kq ≤ kj5) ∧ Aside0 (wc.heap[gb243]? = some (.cells #[.int .i64 ((rd_T107 l0 x10_1).f0), .int .i64 ((rd_T107 l0 x10_1).f1), .int .i64 ((rd_T107 l0 x10_1).f2)] 107 (0, 0))) ∧ Aside0 (Below w.heap.size w wc))
           case first =>
            have H := HC15.out
            clear HC15
            by_cases c16 : ((rd_T107 l0 x10_1).f0) = 1
            ·
             rw [if_pos c16] at H
             have c16b0 : (((rd_T107 l0 x10_1).f0) == 1) = true := beq_iff_eq.mpr c16
             have c16b1 : (((rd_T107 l0 x10_1).f0) != 1) = false := bne_eq_false_iff_eq.mpr c16
             clear c16
             (first | rw [c16b0] | (simp only [i64_w, i32_w]; rw [c16b0]) | skip)
             have H' := Aside0.mk H
             clear H
             go_wp2
             go_meet
             case rel => exact ⟨_, ((((rd_T107 l0 x10_1).f0) == 1)), (by first | rfl | (simp; done) | (simp [*]; done)), H', ⟨by have := HK1.out; have := HJ5.out; first | omega | exact Nat.le_refl _⟩, ⟨by exact Lib.bk BK243.out⟩, ⟨by exact Lib.bs HB.out GE243.out⟩⟩
            ·
             rw [if_neg c16] at H
             have c16b0 : (((rd_T107 l0 x10_1).f0) == 1) = false := beq_eq_false_iff_ne.mpr c16
             have c16b1 : (((rd_T107 l0 x10_1).f0) != 1) = true := bne_iff_ne.mpr c16
             (first | rw [c16b0] | (simp only [i64_w, i32_w]; rw [c16b0]) | skip)
             have H' := Aside0.mk H
             clear H
             go_wp2
             go_meet
             case rel => exact ⟨_, ((((rd_T107 l0 x10_1).f0) == 2)), (by first | rfl | (simp; done) | (simp [*]; done)), H', ⟨by have := HK1.out; have := HJ5.out; first | omega | exact Nat.le_refl _⟩, ⟨by exact Lib.bk BK243.out⟩, ⟨by exact Lib.bs HB.out GE243.out⟩⟩
           case rest =>
            clear HC15
            try clear c1
            try clear c2
            try clear c2b0
            try clear c2b1
            try clear p2
            try clear q2
            try clear hx2
            try clear c3
            try clear c3b0
            try clear c4
            try clear c4b0
            try clear c5
            try clear c5b0
            try clear c9
            try clear c9b0
            try clear c12
            try clear c16
            try clear c16b0
            try clear c16b1
            try clear hcz10_0
            try clear hcz10_1
            try clear hcz10_2
            try clear hcz11_0
            try clear hcz11_1
            try clear hcz11_2
            try clear hcz14_0
            try clear hcz14_1
            try clear hcz14_2
            try clear hcz8_0
            try clear hcz8_1
            try clear hcz8_2
            try clear hfz10_0
            try clear hfz10_1
            try clear hfz10_2
            try clear hfz11_0
            try clear hfz11_1
            try clear hfz11_2
            try clear hfz14_0
            try clear hfz14_1
            try clear hfz14_2
            try clear hfz8_0
            try clear hfz8_1
            try clear hfz8_2
            try clear hx242_0
            try clear hx242_1
            try clear hx242_2
            try clear p2
            try clear p242
            try clear q2
            try clear q242
            obtain ⟨kq, x25_14, rfl, HA, HJ14, BK243, HB⟩ := hcut
            cases kq with
            | zero => exact absurd HA.out (by simp [impl_IsAcl.j2])
            | succ kj14 =>
             have H := HA.out
             clear HA
             simp only [impl_IsAcl.j2] at H
             by_cases c17 : x25_14 = true
             ·
              subst c17
              have H1 : ((impl_isUser.f ((rd_T107 l0 x10_1).f1)).bind fun t244 => (if t244 = true then (impl_IsAcl.j3 kj14 l0 x10_1 l0 (l0.length : Int) x10_1 ((rd_T107 l0 x10_1).f0) ((rd_T107 l0 x10_1).f1) ((rd_T107 l0 x10_1).f2)) else (some false))) = some r := by rw [if_pos rfl] at H; exact H
              clear H
              have H := H1
              clear H1
              replace H := Option.bind_eq_some_iff.mp H
              obtain ⟨t244, A180, H⟩ := H
              try dsimp only at H
              have A18 := Aside0.mk A180
              clear A180
              by_cases c19 : t244 = true
              ·
               subst c19
               have H1 : (impl_IsAcl.j3 kj14 l0 x10_1 l0 (l0.length : Int) x10_1 ((rd_T107 l0 x10_1).f0) ((rd_T107 l0 x10_1).f1) ((rd_T107 l0 x10_1).f2)) = some r := by rw [if_pos rfl] at H; exact H
               clear H
               have H := H1
               clear H1
               have H' := Aside0.mk H
               clear H
               obtain ⟨hcz20_0, hcz20_1, hcz20_2, hfz20_0, hfz20_1, hfz20_2⟩ := Lib.cel3 (W := wc) BK243.out
               go_wp2_with (first | ((with_reducible refine gate_callee (f := 69) rfl ?_); refine goesL_ (some 30) rfl rfl Try.func69 (by kernel_rfl) rfl #[.int .i64 ((rd_T107 l0 x10_1).f1)] rfl (by (try simp only [List.map_toArray, List.map_cons, List.map_nil]); first | done | rfl | (simp only [List.length_drop, List.length_take]; rfl)) ?_; (with_reducible refine (impl_isUser.calls ((rd_T107 l0 x10_1).f1) true _ A18.out).mono ?_); rintro e w' ⟨rfl, ⟨nd, rfl⟩⟩; refine ⟨_, rfl, ?_⟩))
               go_meet
               case rel => exact ⟨_, H', ⟨by have := HK1.out; have := HJ5.out; have := HJ14.out; first | omega | exact Nat.le_refl _⟩, ⟨by exact Lib.bk BK243.out⟩, ⟨by exact Lib.bs HB.out GE243.out⟩⟩
              ·
               replace c19 := Bool.eq_false_iff.mpr c19
               subst c19
               have H1 : (some false) = some r := by rw [if_neg (show ¬ (false = true) by decide)] at H; exact H
               clear H
               have H := H1
               clear H1
               obtain rfl := Option.some.inj H
               obtain ⟨hcz21_0, hcz21_1, hcz21_2, hfz21_0, hfz21_1, hfz21_2⟩ := Lib.cel3 (W := wc) BK243.out
               go_wp2_with (first | ((with_reducible refine gate_callee (f := 69) rfl ?_); refine goesL_ (some 30) rfl rfl Try.func69 (by kernel_rfl) rfl #[.int .i64 ((rd_T107 l0 x10_1).f1)] rfl (by (try simp only [List.map_toArray, List.map_cons, List.map_nil]); first | done | rfl | (simp only [List.length_drop, List.length_take]; rfl)) ?_; (with_reducible refine (impl_isUser.calls ((rd_T107 l0 x10_1).f1) false _ A18.out).mono ?_); rintro e w' ⟨rfl, ⟨nd, rfl⟩⟩; refine ⟨_, rfl, ?_⟩))
               go_ret
               exact ⟨by first | rfl | (simp [errW_none, errW_some] <;> rfl) | (simp [*, errW_none, errW_some] <;> rfl), by exact Lib.bs HB.out GE243.out⟩
             ·
              replace c17 := Bool.eq_false_iff.mpr c17
              subst c17
              have H1 : (if ((rd_T107 l0 x10_1).f0) = 3 then (if ((rd_T107 l0 x10_1).f1) = 0 then (impl_IsAcl.j3 kj14 l0 x10_1 l0 (l0.length : Int) x10_1 ((rd_T107 l0 x10_1).f0) ((rd_T107 l0 x10_1).f1) ((rd_T107 l0 x10_1).f2)) else (some false)) else (some false)) = some r := by rw [if_neg (show ¬ (false = true) by decide)] at H; exact H
              clear H
              have H := H1
              clear H1
              by_cases c22 : ((rd_T107 l0 x10_1).f0) = 3
              ·
               rw [if_pos c22] at H
               have c22b0 : (((rd_T107 l0 x10_1).f0) == 3) = true := beq_iff_eq.mpr c22
               have c22b1 : (((rd_T107 l0 x10_1).f0) != 3) = false := bne_eq_false_iff_eq.mpr c22
               clear c22
               by_cases c23 : ((rd_T107 l0 x10_1).f1) = 0
               ·
                rw [if_pos c23] at H
                have c23b0 : (((rd_T107 l0 x10_1).f1) == 0) = true := beq_iff_eq.mpr c23
                have c23b1 : (((rd_T107 l0 x10_1).f1) != 0) = false := bne_eq_false_iff_eq.mpr c23
                clear c23
                have H' := Aside0.mk H
                clear H
                obtain ⟨hcz24_0, hcz24_1, hcz24_2, hfz24_0, hfz24_1, hfz24_2⟩ := Lib.cel3 (W := wc) BK243.out
                go_wp2
                go_meet
                case rel => exact ⟨_, H', ⟨by have := HK1.out; have := HJ5.out; have := HJ14.out; first | omega | exact Nat.le_refl _⟩, ⟨by exact Lib.bk BK243.out⟩, ⟨by exact Lib.bs HB.out GE243.out⟩⟩
               ·
                rw [if_neg c23] at H
                have c23b0 : (((rd_T107 l0 x10_1).f1) == 0) = false := beq_eq_false_iff_ne.mpr c23
                have c23b1 : (((rd_T107 l0 x10_1).f1) != 0) = true := bne_iff_ne.mpr c23
                obtain rfl := Option.some.inj H
                obtain ⟨hcz25_0, hcz25_1, hcz25_2, hfz25_0, hfz25_1, hfz25_2⟩ := Lib.cel3 (W := wc) BK243.out
                go_wp2
                go_ret
                exact ⟨by first | rfl | (simp [errW_none, errW_some] <;> rfl) | (simp [*, errW_none, errW_some] <;> rfl), by exact Lib.bs HB.out GE243.out⟩
              ·
               rw [if_neg c22] at H
               have c22b0 : (((rd_T107 l0 x10_1).f0) == 3) = false := beq_eq_false_iff_ne.mpr c22
               have c22b1 : (((rd_T107 l0 x10_1).f0) != 3) = true := bne_iff_ne.mpr c22
               obtain rfl := Option.some.inj H
               go_wp2
               go_ret
               exact ⟨by first | rfl | (simp [errW_none, errW_some] <;> rfl) | (simp [*, errW_none, errW_some] <;> rfl), by exact Lib.bs HB.out GE243.out⟩
          case rest =>
           clear HC13
           try clear c1
           try clear c2
           try clear c2b0
           try clear c2b1
           try clear p2
           try clear q2
           try clear hx2
           try clear c3
           try clear c3b0
           try clear c4
           try clear c4b0
           try clear c5
           try clear c5b0
           try clear c6
           try clear c9
           try clear c9b0
           try clear c12
           try clear c16
           try clear c16b0
           try clear c16b1
           try clear c17
           try clear c19
           try clear c22
           try clear c22b0
           try clear c22b1
           try clear c23
           try clear c23b0
           try clear c23b1
           try clear p24
           try clear q24
           try clear hx24
           try clear hcz10_0
           try clear hcz10_1
           try clear hcz10_2
           try clear hcz11_0
           try clear hcz11_1
           try clear hcz11_2
           try clear hcz14_0
           try clear hcz14_1
           try clear hcz14_2
           try clear hcz20_0
           try clear hcz20_1
           try clear hcz20_2
           try clear hcz21_0
           try clear hcz21_1
           try clear hcz21_2
           try clear hcz24_0
           try clear hcz24_1
           try clear hcz24_2
           try clear hcz25_0
           try clear hcz25_1
           try clear hcz25_2
           try clear hcz8_0
           try clear hcz8_1
           try clear hcz8_2
           try clear hfz10_0
           try clear hfz10_1
           try clear hfz10_2
           try clear hfz11_0
           try clear hfz11_1
           try clear hfz11_2
           try clear hfz14_0
           try clear hfz14_1
           try clear hfz14_2
           try clear hfz20_0
           try clear hfz20_1
           try clear hfz20_2
           try clear hfz21_0
           try clear hfz21_1
           try clear hfz21_2
           try clear hfz24_0
           try clear hfz24_1
           try clear hfz24_2
           try clear hfz25_0
           try clear hfz25_1
           try clear hfz25_2
           try clear hfz8_0
           try clear hfz8_1
           try clear hfz8_2
           try clear hx242_0
           try clear hx242_1
           try clear hx242_2
           try clear p2
           try clear p242
           try clear q2
           try clear q242
           obtain ⟨kq, HA, HJ12, BK243, HB⟩ := hcut
           cases kq with
           | zero => exact absurd HA.out (by simp [impl_IsAcl.j3])
           | succ kj12 =>
            have H := HA.out
            clear HA
            simp only [impl_IsAcl.j3] at H
            by_cases c26 : x10_1 > 0
            ·
             rw [if_pos c26] at H
             have c26b0 : decide (0 < x10_1) = true := decide_eq_true c26
             clear c26
             obtain ⟨ji27, hji27⟩ : ∃ j_ : Int, (wrap64 (x10_1 - 1)) = j_ := ⟨_, rfl⟩
             replace H : (if 0 ≤ (ji27) then (if (ji27) < (l0.length : Int) then ((cmp_Compare_int.f ((rd_T107 l0 (ji27)).f0) ((rd_T107 l0 x10_1).f0)).bind fun t246 => ((cmp_Compare_int.f ((rd_T107 l0 (ji27)).f1) ((rd_T107 l0 x10_1).f1)).bind fun t248 => ((cmp_Or_int.f kj12 (([t246, t248] : List Int))).bind fun t252 => (if t252 ≥ 0 then (some false) else (impl_IsAcl.l0 kj12 l0 l0 (l0.length : Int) (wrap64 (x10_1 + 1))))))) else (none)) else (none)) = some r := by first | (rw [hji27] at H; exact H) | (simp only [hji27] at H ⊢; exact H)
             have hji27w : (IntKind.i64.wrap (x10_1 - 1)) = ji27 := (i64_w _).trans hji27
             by_cases c28 : 0 ≤ (ji27)
             ·
              rw [if_pos c28] at H
              have c28b0 : decide (0 ≤ (ji27)) = true := decide_eq_true c28
              clear c28
              by_cases c29 : (ji27) < (l0.length : Int)
              ·
               rw [if_pos c29] at H
               have c29b0 : decide ((ji27) < (l0.length : Int)) = true := decide_eq_true c29
               clear c29
               replace H := Option.bind_eq_some_iff.mp H
               obtain ⟨t246, A300, H⟩ := H
               try dsimp only at H
               have A30 := Aside0.mk A300
               clear A300
               replace H := Option.bind_eq_some_iff.mp H
               obtain ⟨t248, A310, H⟩ := H
               try dsimp only at H
               have A31 := Aside0.mk A310
               clear A310
               obtain ⟨y249, hy249⟩ : ∃ y_ : List Int, y_ = (([t246, t248] : List Int)) := ⟨_, rfl⟩
               replace H : ((cmp_Or_int.f kj12 y249).bind fun t252 => (if t252 ≥ 0 then (some false) else (impl_IsAcl.l0 kj12 l0 l0 (l0.length : Int) (wrap64 (x10_1 + 1))))) = some r := by first | (rw [hy249]; with_reducible exact H) | (have H2_ := (Option.bind_some _ _).symm.trans H; rw [hy249]; with_reducible exact H2_) | (have H2_ := (Option.bind_some _ _).symm.trans H; with_reducible exact H2_) | with_reducible exact H | (rw [hy249]; exact H) | exact H
               have Ny249 := Aside0.mk hy249
               clear hy249
               replace H := Option.bind_eq_some_iff.mp H
               obtain ⟨t252, A320, H⟩ := H
               replace H : (if t252 ≥ 0 then (some false) else (impl_IsAcl.l0 kj12 l0 l0 (l0.length : Int) (wrap64 (x10_1 + 1)))) = some r := H
               have A32 := Aside0.mk A320
               clear A320
               try go_wp2
               have n0_ := Aside0.mk (blk_drew BK243.out)
               have n1_ := Aside0.mk (below_drew1 HB.out)
               clear BK243
               clear HB
               have BK243 := n0_
               have HB := n1_
               clear n0_ n1_
               have p245 : 0 ≤ ((ji27) : Int) := Lib.od
               have q245 : (ji27) < (l0.length : Int) := Lib.od
               obtain ⟨ad245, e245, hx245_0, hx245_1, hx245_2⟩ := at_T107 HR0.out (ji27) p245 q245
               have hw245_2 := hx245_2
               have hw245_1 := hx245_1
               have hw245_0 := hx245_0
               obtain rfl : ad242 = ad245 := (by injection e245)
               replace hx245_0 := (HB.out.cell (World.block_lt_of_cell? w _ hx245_0)).trans hx245_0
               replace hx245_1 := (HB.out.cell (World.block_lt_of_cell? w _ hx245_1)).trans hx245_1
               replace hx245_2 := (HB.out.cell (World.block_lt_of_cell? w _ hx245_2)).trans hx245_2
               replace p245 := eq_true p245
               replace q245 := eq_true q245
               have p247 : 0 ≤ ((ji27) : Int) := Lib.od
               have q247 : (ji27) < (l0.length : Int) := Lib.od
               obtain ⟨ad247, e247, hx247_0, hx247_1, hx247_2⟩ := at_T107 HR0.out (ji27) p247 q247
               have hw247_2 := hx247_2
               have hw247_1 := hx247_1
               have hw247_0 := hx247_0
               obtain rfl : ad242 = ad247 := (by injection e247)
               replace hx247_0 := (HB.out.cell (World.block_lt_of_cell? w _ hx247_0)).trans hx247_0
               replace hx247_1 := (HB.out.cell (World.block_lt_of_cell? w _ hx247_1)).trans hx247_1
               replace hx247_2 := (HB.out.cell (World.block_lt_of_cell? w _ hx247_2)).trans hx247_2
               replace p247 := eq_true p247
               replace q247 := eq_true q247
               refine start_ (n := 25) (S := fun w' => w'.cell? ⟨gb243, 0, none⟩ = some (.int .i64 ((rd_T107 l0 x10_1).f0)) ∧ w'.cell? ⟨gb243, 1, none⟩ = some (.int .i64 ((rd_T107 l0 x10_1).f1)) ∧ w'.cell? ⟨gb243, 2, none⟩ = some (.int .i64 ((rd_T107 l0 x10_1).f2)) ∧ w'.cell? (ad242.add (((ji27)).toNat * 3)) = some (.int .i64 ((rd_T107 l0 (ji27)).f0)) ∧ w'.cell? ⟨(ad242.add (((ji27)).toNat * 3)).block, (ad242.add (((ji27)).toNat * 3)).off + 1, none⟩ = some (.int .i64 ((rd_T107 l0 (ji27)).f1)) ∧ w'.cell? ⟨(ad242.add (((ji27)).toNat * 3)).block, (ad242.add (((ji27)).toNat * 3)).off + 2, none⟩ = some (.int .i64 ((rd_T107 l0 (ji27)).f2)) ∧ w'.cell? (ad242.add (((ji27)).toNat * 3)) = some (.int .i64 ((rd_T107 l0 (ji27)).f0)) ∧ w'.cell? ⟨(ad242.add (((ji27)).toNat * 3)).block, (ad242.add (((ji27)).toNat * 3)).off + 1, none⟩ = some (.int .i64 ((rd_T107 l0 (ji27)).f1)) ∧ w'.cell? ⟨(ad242.add (((ji27)).toNat * 3)).block, (ad242.add (((ji27)).toNat * 3)).off + 2, none⟩ = some (.int .i64 ((rd_T107 l0 (ji27)).f2))) (ds := []) (Lib.tr [0, 25]) (by kernel_rfl) rfl rfl ⟨(blk_cell BK243.out 0).trans rfl, (blk_cell BK243.out 1).trans rfl, (blk_cell BK243.out 2).trans rfl, ((HB.out.cell (World.block_lt_of_cell? w _ hw245_0)).trans hw245_0), ((HB.out.cell (World.block_lt_of_cell? w _ hw245_1)).trans hw245_1), ((HB.out.cell (World.block_lt_of_cell? w _ hw245_2)).trans hw245_2), ((HB.out.cell (World.block_lt_of_cell? w _ hw247_0)).trans hw247_0), ((HB.out.cell (World.block_lt_of_cell? w _ hw247_1)).trans hw247_1), ((HB.out.cell (World.block_lt_of_cell? w _ hw247_2)).trans hw247_2)⟩ (fun hHeld => ?_); refine with_tabW impl_IsAcl.tab17 impl_IsAcl.bits17 (fun HT_ HW_ => ?_)
               generalize wc.drew = w34 at BK243 HB hx245_0 hx245_1 hx245_2 hx247_0 hx247_1 hx247_2 hHeld ⊢
               refine Lib.pa ?_ 0 37 [1, 24] HT_ rfl rfl (by kernel_rfl) (fun _ _ _ h => h) (by rfl) ?_ ?_ ?_ ?_; rotate_left; (· intro w'; go_simp; with_reducible rfl); rotate_left; (· simp only [Lib.pw, Lib.px, Lib.py, i64_w, i32_w]; rfl)
               refine Lib.pa ?_ 1 38 [2, 23] HT_ rfl rfl (by kernel_rfl) (fun _ _ _ h => h) (by rfl) ?_ ?_ ?_ ?_; rotate_left; (· intro w'; go_simp; with_reducible rfl); rotate_left; (· simp only [Lib.pw, Lib.px, Lib.py, i64_w, i32_w]; rfl)
               refine Lib.pa ?_ 2 39 [3, 22] HT_ rfl rfl (by kernel_rfl) (fun _ _ _ h => h) (by rfl) ?_ ?_ ?_ ?_; rotate_left; (· intro w'; go_simp; with_reducible rfl); rotate_left; (· simp only [Lib.pw, Lib.px, Lib.py, i64_w, i32_w]; rfl)
               refine Lib.pa ?_ 3 40 [4, 21] HT_ rfl rfl (by kernel_rfl) (fun _ _ _ h => h) (by rfl) ?_ ?_ ?_ ?_; rotate_left; (· intro w'; go_simp; with_reducible rfl); rotate_left; (· simp only [Lib.pw, Lib.px, Lib.py, i64_w, i32_w]; rfl)
               refine Lib.pa ?_ 4 41 [5, 20] HT_ rfl rfl (by kernel_rfl) (fun _ _ _ h => h) (by rfl) ?_ ?_ ?_ ?_; rotate_left; (· intro w'; go_simp; with_reducible rfl); rotate_left; (· simp only [Lib.pw, Lib.px, Lib.py, i64_w, i32_w]; rfl)
               refine Lib.pa ?_ 5 42 [6, 19] HT_ rfl rfl (by kernel_rfl) (fun _ _ _ h => h) (by rfl) ?_ ?_ ?_ ?_; rotate_left; (· intro w'; go_simp; with_reducible rfl); rotate_left; (· simp only [Lib.pw, Lib.px, Lib.py, i64_w, i32_w]; rfl)
               refine Lib.pa ?_ 6 43 [7, 18] HT_ rfl rfl (by kernel_rfl) (fun _ _ _ h => h) (by rfl) ?_ ?_ ?_ ?_; rotate_left; (· intro w'; go_simp; with_reducible rfl); rotate_left; (· simp only [Lib.pw, Lib.px, Lib.py, i64_w, i32_w]; rfl)
               refine Lib.pa ?_ 7 44 [8, 17] HT_ rfl rfl (by kernel_rfl) (fun _ _ _ h => h) (by rfl) ?_ ?_ ?_ ?_; rotate_left; (· intro w'; go_simp; with_reducible rfl); rotate_left; (· simp only [Lib.pw, Lib.px, Lib.py, i64_w, i32_w]; rfl)
               refine Lib.pa ?_ 9 46 [8, 1, 1, 15] HT_ rfl rfl (by kernel_rfl) (fun _ _ _ h => h) (by rfl) ?_ ?_ ?_ ?_; rotate_left; (· intro w'; go_simp; with_reducible rfl); rotate_left; (· simp only [Lib.pw, Lib.px, Lib.py, i64_w, i32_w]; rfl)
               refine Lib.pa ?_ 12 49 [8, 1, 1, 2, 1, 12] HT_ rfl rfl (by kernel_rfl) (fun _ _ _ h => h) (by rfl) ?_ ?_ ?_ ?_; rotate_left; (· intro w'; go_simp; with_reducible rfl); rotate_left; (· simp only [Lib.pw, Lib.px, Lib.py, i64_w, i32_w]; rfl)
               refine Lib.pa ?_ 13 50 [8, 1, 1, 2, 2, 11] HT_ rfl rfl (by kernel_rfl) (fun _ _ _ h => h) (by rfl) ?_ ?_ ?_ ?_; rotate_left; (· intro w'; go_simp; with_reducible rfl); rotate_left; (· simp only [Lib.pw, Lib.px, Lib.py, i64_w, i32_w]; rfl)
               refine Lib.pa ?_ 14 51 [8, 1, 1, 2, 3, 10] HT_ rfl rfl (by kernel_rfl) (fun _ _ _ h => h) (by rfl) ?_ ?_ ?_ ?_; rotate_left; (· intro w'; go_simp; with_reducible rfl); rotate_left; (· simp only [Lib.pw, Lib.px, Lib.py, i64_w, i32_w]; rfl)
               refine Lib.pa ?_ 15 52 [8, 1, 1, 2, 4, 9] HT_ rfl rfl (by kernel_rfl) (fun _ _ _ h => h) (by rfl) ?_ ?_ ?_ ?_; rotate_left; (· intro w'; go_simp; with_reducible rfl); rotate_left; (· simp only [Lib.pw, Lib.px, Lib.py, i64_w, i32_w]; rfl)
               refine Lib.pa ?_ 16 53 [8, 1, 1, 2, 5, 8] HT_ rfl rfl (by kernel_rfl) (fun _ _ _ h => h) (by rfl) ?_ ?_ ?_ ?_; rotate_left; (· intro w'; go_simp; with_reducible rfl); rotate_left; (· simp only [Lib.pw, Lib.px, Lib.py, i64_w, i32_w]; rfl)
               refine Lib.pa ?_ 18 55 [8, 1, 1, 2, 5, 1, 1, 6] HT_ rfl rfl (by kernel_rfl) (fun _ _ _ h => h) (by rfl) ?_ ?_ ?_ ?_; rotate_left; (· intro w'; go_simp; with_reducible rfl); rotate_left; (· simp only [Lib.pw, Lib.px, Lib.py, i64_w, i32_w]; rfl)
               refine Lib.pt ?_ 8 45 [10, 2, 5, 1, 1, 6] HT_ HW_ rfl rfl (by kernel_rfl) (fun _ _ _ h => h) (by rfl) ?_ hHeld ?_ ?_ ?_; rotate_left; (· rintro w' ⟨s0, s1, s2, s3, s4, s5, s6, s7, s8⟩; go_simp; with_reducible rfl); rotate_left; (· simp only [Lib.pw, Lib.px, Lib.py, i64_w, i32_w]; rfl)
               refine Lib.pt ?_ 10 47 [11, 1, 5, 1, 1, 6] HT_ HW_ rfl rfl (by kernel_rfl) (fun _ _ _ h => h) (by rfl) ?_ hHeld ?_ ?_ ?_; rotate_left; (· rintro w' ⟨s0, s1, s2, s3, s4, s5, s6, s7, s8⟩; go_simp; with_reducible rfl); rotate_left; (· simp only [Lib.pw, Lib.px, Lib.py, i64_w, i32_w]; rfl)
               refine Lib.pt ?_ 17 54 [11, 1, 7, 6] HT_ HW_ rfl rfl (by kernel_rfl) (fun _ _ _ h => h) (by rfl) ?_ hHeld ?_ ?_ ?_; rotate_left; (· rintro w' ⟨s0, s1, s2, s3, s4, s5, s6, s7, s8⟩; go_simp; with_reducible rfl); rotate_left; (· simp only [Lib.pw, Lib.px, Lib.py, i64_w, i32_w]; rfl)
               refine Lib.pt ?_ 19 56 [11, 1, 8, 5] HT_ HW_ rfl rfl (by kernel_rfl) (fun _ _ _ h => h) (by rfl) ?_ hHeld ?_ ?_ ?_; rotate_left; (· rintro w' ⟨s0, s1, s2, s3, s4, s5, s6, s7, s8⟩; go_simp; with_reducible rfl); rotate_left; (· simp only [Lib.pw, Lib.px, Lib.py, i64_w, i32_w]; rfl)
               refine one_ (i := 11) (N := some 48) (Lib.tr [20, 5]) rfl rfl (one_of HT_.out (by kernel_rfl)) (by decide) (fun K hK => ?_)
               refine goes_ Try.func132 (by kernel_rfl) rfl #[.int .i64 ((rd_T107 l0 (ji27)).f0), .int .i64 ((rd_T107 l0 x10_1).f0)] (by rfl) rfl rfl (by (try simp only [List.map_toArray, List.map_cons, List.map_nil]); first | done | (simp only [hji27]; rfl) | rfl | (simp only [List.length_drop, List.length_take]; rfl)) ?_
               with_reducible refine (cmp_Compare_int.calls ((rd_T107 l0 (ji27)).f0) ((rd_T107 l0 x10_1).f0) t246 _ A30.out).mono ?_
               rintro e w' ⟨rfl, ⟨nd, rfl⟩⟩
               refine ⟨_, rfl, ?_⟩
               refine hK.out _ _ ⟨(blk_cell BK243.out 0).trans rfl, (blk_cell BK243.out 1).trans rfl, (blk_cell BK243.out 2).trans rfl, ((HB.out.cell (World.block_lt_of_cell? w _ hw245_0)).trans hw245_0), ((HB.out.cell (World.block_lt_of_cell? w _ hw245_1)).trans hw245_1), ((HB.out.cell (World.block_lt_of_cell? w _ hw245_2)).trans hw245_2), ((HB.out.cell (World.block_lt_of_cell? w _ hw247_0)).trans hw247_0), ((HB.out.cell (World.block_lt_of_cell? w _ hw247_1)).trans hw247_1), ((HB.out.cell (World.block_lt_of_cell? w _ hw247_2)).trans hw247_2)⟩ (fun hHeld => ?_)
               clear hK K
               refine norm_ (a' := ?_) ?_ ?_
               rotate_left
               ·
                show Act.put _ (some 48) _ = _
                simp only [Lib.pw, Lib.px, Lib.py, i64_w, i32_w]
                rfl
               refine one_ (i := 20) (N := some 57) (Lib.tr [21, 4]) rfl rfl (one_of HT_.out (by kernel_rfl)) (by decide) (fun K hK => ?_)
               refine goes_ Try.func132 (by kernel_rfl) rfl #[.int .i64 ((rd_T107 l0 (ji27)).f1), .int .i64 ((rd_T107 l0 x10_1).f1)] (by rfl) rfl rfl (by (try simp only [List.map_toArray, List.map_cons, List.map_nil]); first | done | (simp only [hji27]; rfl) | rfl | (simp only [List.length_drop, List.length_take]; rfl)) ?_
               with_reducible refine (cmp_Compare_int.calls ((rd_T107 l0 (ji27)).f1) ((rd_T107 l0 x10_1).f1) t248 _ A31.out).mono ?_
               rintro e w' ⟨rfl, ⟨nd, rfl⟩⟩
               refine ⟨_, rfl, ?_⟩
               refine hK.out _ _ ⟨(blk_cell BK243.out 0).trans rfl, (blk_cell BK243.out 1).trans rfl, (blk_cell BK243.out 2).trans rfl, ((HB.out.cell (World.block_lt_of_cell? w _ hw245_0)).trans hw245_0), ((HB.out.cell (World.block_lt_of_cell? w _ hw245_1)).trans hw245_1), ((HB.out.cell (World.block_lt_of_cell? w _ hw245_2)).trans hw245_2), ((HB.out.cell (World.block_lt_of_cell? w _ hw247_0)).trans hw247_0), ((HB.out.cell (World.block_lt_of_cell? w _ hw247_1)).trans hw247_1), ((HB.out.cell (World.block_lt_of_cell? w _ hw247_2)).trans hw247_2)⟩ (fun hHeld => ?_)
               clear hK K
               refine norm_ (a' := ?_) ?_ ?_
               rotate_left
               ·
                show Act.put _ (some 57) _ = _
                simp only [Lib.pw, Lib.px, Lib.py, i64_w, i32_w]
                rfl
               by_cases c33 : t252 ≥ 0
               ·
                rw [if_pos c33] at H
                have c33b0 : decide (0 ≤ t252) = true := decide_eq_true c33
                clear c33
                obtain rfl := Option.some.inj H
                (try simp only [c33b0])
                refine one_ (i := 21) (N := some 58) (Lib.tr [22, 3]) rfl rfl (one_of HT_.out (by kernel_rfl)) (by decide) (fun K hK => ?_)
                refine Kd.R_lit_step (Kd.int .i64) _ 3 ?hg (N := 58) ?hd (xs := ([t246, t248] : List Int)) (inner := [.int .i64 t246, .int .i64 t248]) (ok := fun _ => True) (okp := fun _ => True) ?hr ?hp (fun _ hk => hk) trivial (Below.refl _ _) (Nat.le_refl _) (by simp) ?_; (case hd => rfl); (case hg => rfl); (case hr => first | (go_simp; done) | (go_simp; rfl)); (case hp => exact (Reps.one (show Kd.M (Kd.int .i64) _ _ _ t246 [.int .i64 t246] from rfl) (Reps.one (show Kd.M (Kd.int .i64) _ _ _ t248 [.int .i64 t248] from rfl) (Reps.none _ _))))
                intro v250 w35 ho36 hb hg_ hnew_
                clear hg_ hnew_
                (first | rw [← Ny249.out] at ho36 | (simp only [Int.reduceToNat] at ho36; rw [← Ny249.out] at ho36))
                have n0_ := Aside0.mk (Kd.R_lower ho36 (below_size (by exact Lib.bs HB.out GE243.out)))
                have n1_ := Aside0.mk (blk_below (g := gb243) (o := .cells #[.int .i64 ((rd_T107 l0 x10_1).f0), .int .i64 ((rd_T107 l0 x10_1).f1), .int .i64 ((rd_T107 l0 x10_1).f2)] 107 (0, 0)) (by exact Lib.bk BK243.out) hb)
                have n2_ := Aside0.mk (below_step (by exact Lib.bs HB.out GE243.out) hb)
                clear BK243
                clear HB
                have HO251 := n0_
                have BK243 := n1_
                have HB := n2_
                clear n0_ n1_ n2_
                clear hb ho36
                obtain ⟨Ao37, co37, eo37⟩ := Kd.R_slice HO251.out
                (first | subst eo37 | (injection eo37 with f1_ f2_ f3_; have f4_ := f1_.symm; have f5_ := f3_.symm; clear f1_ f2_ f3_; subst f4_; subst f5_))
                refine hK.out _ _ ⟨(blk_cell BK243.out 0).trans rfl, (blk_cell BK243.out 1).trans rfl, (blk_cell BK243.out 2).trans rfl, ((HB.out.cell (World.block_lt_of_cell? w _ hw245_0)).trans hw245_0), ((HB.out.cell (World.block_lt_of_cell? w _ hw245_1)).trans hw245_1), ((HB.out.cell (World.block_lt_of_cell? w _ hw245_2)).trans hw245_2), ((HB.out.cell (World.block_lt_of_cell? w _ hw247_0)).trans hw247_0), ((HB.out.cell (World.block_lt_of_cell? w _ hw247_1)).trans hw247_1), ((HB.out.cell (World.block_lt_of_cell? w _ hw247_2)).trans hw247_2)⟩ (fun hHeld => ?_)
                clear hK K
                refine norm_ (a' := ?_) ?_ ?_
                rotate_left
                ·
                 show Act.put _ (some 58) _ = _
                 simp only [Lib.pw, Lib.px, Lib.py, i64_w, i32_w]
                 rfl
                refine one_ (i := 22) (N := some 59) (Lib.tr [23, 2]) rfl rfl (one_of HT_.out (by kernel_rfl)) (by decide) (fun K hK => ?_)
                refine goes_ Try.func131 (by kernel_rfl) rfl #[.slice Ao37 y249.length co37] (by rfl) rfl rfl (by (try simp only [List.map_toArray, List.map_cons, List.map_nil]); first | done | rfl | (simp only [List.length_drop, List.length_take]; rfl)) ?_
                with_reducible refine (cmp_Or_int.calls kj12 _ _ y249 t252 _ ?side1 ?side2 A32.out).mono ?_
                (case side1 => repeat (first | exact (Kd.R_reads' HO251.out).2.2 | (with_reducible refine Kd.C_alloc ?_ _) | (with_reducible refine Kd.C_drewN ?_ _) | (with_reducible refine Kd.C_drew ?_)))
                (case side2 => exact (Kd.R_reads' HO251.out).2.1)
                rintro e w' ⟨rfl, ⟨nd, rfl⟩⟩
                refine ⟨_, rfl, ?_⟩
                refine hK.out _ _ ⟨(blk_cell BK243.out 0).trans rfl, (blk_cell BK243.out 1).trans rfl, (blk_cell BK243.out 2).trans rfl, ((HB.out.cell (World.block_lt_of_cell? w _ hw245_0)).trans hw245_0), ((HB.out.cell (World.block_lt_of_cell? w _ hw245_1)).trans hw245_1), ((HB.out.cell (World.block_lt_of_cell? w _ hw245_2)).trans hw245_2), ((HB.out.cell (World.block_lt_of_cell? w _ hw247_0)).trans hw247_0), ((HB.out.cell (World.block_lt_of_cell? w _ hw247_1)).trans hw247_1), ((HB.out.cell (World.block_lt_of_cell? w _ hw247_2)).trans hw247_2)⟩ (fun hHeld => ?_)
                clear hK K
                refine norm_ (a' := ?_) ?_ ?_
                rotate_left
                ·
                 show Act.put _ (some 59) _ = _
                 simp only [Lib.pw, Lib.px, Lib.py, i64_w, i32_w]
                 rfl
                refine Lib.pa ?_ 23 60 [24, 1] HT_ rfl rfl (by kernel_rfl) (fun _ _ _ h => h) (by rfl) ?_ ?_ ?_ ?_; rotate_left; (· intro w'; go_simp; with_reducible rfl); rotate_left; (· simp only [Lib.pw, Lib.px, Lib.py, i64_w, i32_w]; rfl)
                refine Lib.pa ?_ 24 61 [25] HT_ rfl rfl (by kernel_rfl) (fun _ _ _ h => h) (by rfl) ?_ ?_ ?_ ?_; rotate_left; (· intro w'; go_simp; with_reducible rfl); rotate_left; (· simp only [Lib.pw, Lib.px, Lib.py, i64_w, i32_w]; rfl)
                refine done_ (done_of HT_.out (by kernel_rfl)) ?_
                try go_wp2
                go_ret
                exact ⟨by first | rfl | (simp [errW_none, errW_some] <;> rfl) | (simp only [← hji27]; first | rfl | (simp [errW_none, errW_some] <;> rfl)) | (simp [*, errW_none, errW_some] <;> rfl), by exact Lib.bs HB.out GE243.out⟩
               ·
                rw [if_neg c33] at H
                have c33b0 : decide (0 ≤ t252) = false := decide_eq_false c33
                clear c33
                have H' := Aside0.mk H
                clear H
                (try simp only [c33b0])
                refine one_ (i := 21) (N := some 58) (Lib.tr [22, 3]) rfl rfl (one_of HT_.out (by kernel_rfl)) (by decide) (fun K hK => ?_)
                refine Kd.R_lit_step (Kd.int .i64) _ 3 ?hg (N := 58) ?hd (xs := ([t246, t248] : List Int)) (inner := [.int .i64 t246, .int .i64 t248]) (ok := fun _ => True) (okp := fun _ => True) ?hr ?hp (fun _ hk => hk) trivial (Below.refl _ _) (Nat.le_refl _) (by simp) ?_; (case hd => rfl); (case hg => rfl); (case hr => first | (go_simp; done) | (go_simp; rfl)); (case hp => exact (Reps.one (show Kd.M (Kd.int .i64) _ _ _ t246 [.int .i64 t246] from rfl) (Reps.one (show Kd.M (Kd.int .i64) _ _ _ t248 [.int .i64 t248] from rfl) (Reps.none _ _))))
                intro v250 w39 ho40 hb hg_ hnew_
                clear hg_ hnew_
                (first | rw [← Ny249.out] at ho40 | (simp only [Int.reduceToNat] at ho40; rw [← Ny249.out] at ho40))
                have n0_ := Aside0.mk (Kd.R_lower ho40 (below_size (by exact Lib.bs HB.out GE243.out)))
                have n1_ := Aside0.mk (blk_below (g := gb243) (o := .cells #[.int .i64 ((rd_T107 l0 x10_1).f0), .int .i64 ((rd_T107 l0 x10_1).f1), .int .i64 ((rd_T107 l0 x10_1).f2)] 107 (0, 0)) (by exact Lib.bk BK243.out) hb)
                have n2_ := Aside0.mk (below_step (by exact Lib.bs HB.out GE243.out) hb)
                clear BK243
                clear HB
                have HO251 := n0_
                have BK243 := n1_
                have HB := n2_
                clear n0_ n1_ n2_
                clear hb ho40
                obtain ⟨Ao41, co41, eo41⟩ := Kd.R_slice HO251.out
                (first | subst eo41 | (injection eo41 with f1_ f2_ f3_; have f4_ := f1_.symm; have f5_ := f3_.symm; clear f1_ f2_ f3_; subst f4_; subst f5_))
                refine hK.out _ _ ⟨(blk_cell BK243.out 0).trans rfl, (blk_cell BK243.out 1).trans rfl, (blk_cell BK243.out 2).trans rfl, ((HB.out.cell (World.block_lt_of_cell? w _ hw245_0)).trans hw245_0), ((HB.out.cell (World.block_lt_of_cell? w _ hw245_1)).trans hw245_1), ((HB.out.cell (World.block_lt_of_cell? w _ hw245_2)).trans hw245_2), ((HB.out.cell (World.block_lt_of_cell? w _ hw247_0)).trans hw247_0), ((HB.out.cell (World.block_lt_of_cell? w _ hw247_1)).trans hw247_1), ((HB.out.cell (World.block_lt_of_cell? w _ hw247_2)).trans hw247_2)⟩ (fun hHeld => ?_)
                clear hK K
                refine norm_ (a' := ?_) ?_ ?_
                rotate_left
                ·
                 show Act.put _ (some 58) _ = _
                 simp only [Lib.pw, Lib.px, Lib.py, i64_w, i32_w]
                 rfl
                refine one_ (i := 22) (N := some 59) (Lib.tr [23, 2]) rfl rfl (one_of HT_.out (by kernel_rfl)) (by decide) (fun K hK => ?_)
                refine goes_ Try.func131 (by kernel_rfl) rfl #[.slice Ao41 y249.length co41] (by rfl) rfl rfl (by (try simp only [List.map_toArray, List.map_cons, List.map_nil]); first | done | rfl | (simp only [List.length_drop, List.length_take]; rfl)) ?_
                with_reducible refine (cmp_Or_int.calls kj12 _ _ y249 t252 _ ?side1 ?side2 A32.out).mono ?_
                (case side1 => repeat (first | exact (Kd.R_reads' HO251.out).2.2 | (with_reducible refine Kd.C_alloc ?_ _) | (with_reducible refine Kd.C_drewN ?_ _) | (with_reducible refine Kd.C_drew ?_)))
                (case side2 => exact (Kd.R_reads' HO251.out).2.1)
                rintro e w' ⟨rfl, ⟨nd, rfl⟩⟩
                refine ⟨_, rfl, ?_⟩
                refine hK.out _ _ ⟨(blk_cell BK243.out 0).trans rfl, (blk_cell BK243.out 1).trans rfl, (blk_cell BK243.out 2).trans rfl, ((HB.out.cell (World.block_lt_of_cell? w _ hw245_0)).trans hw245_0), ((HB.out.cell (World.block_lt_of_cell? w _ hw245_1)).trans hw245_1), ((HB.out.cell (World.block_lt_of_cell? w _ hw245_2)).trans hw245_2), ((HB.out.cell (World.block_lt_of_cell? w _ hw247_0)).trans hw247_0), ((HB.out.cell (World.block_lt_of_cell? w _ hw247_1)).trans hw247_1), ((HB.out.cell (World.block_lt_of_cell? w _ hw247_2)).trans hw247_2)⟩ (fun hHeld => ?_)
                clear hK K
                refine norm_ (a' := ?_) ?_ ?_
                rotate_left
                ·
                 show Act.put _ (some 59) _ = _
                 simp only [Lib.pw, Lib.px, Lib.py, i64_w, i32_w]
                 rfl
                refine Lib.pa ?_ 23 60 [24, 1] HT_ rfl rfl (by kernel_rfl) (fun _ _ _ h => h) (by rfl) ?_ ?_ ?_ ?_; rotate_left; (· intro w'; go_simp; with_reducible rfl); rotate_left; (· simp only [Lib.pw, Lib.px, Lib.py, i64_w, i32_w]; rfl)
                refine Lib.pa ?_ 24 61 [25] HT_ rfl rfl (by kernel_rfl) (fun _ _ _ h => h) (by rfl) ?_ ?_ ?_ ?_; rotate_left; (· intro w'; go_simp; with_reducible rfl); rotate_left; (· simp only [Lib.pw, Lib.px, Lib.py, i64_w, i32_w]; rfl)
                refine done_ (done_of HT_.out (by kernel_rfl)) ?_
                try go_wp2
                go_roundg kj12
                case measure => have := HK1.out; have := HJ5.out; have := HJ12.out; omega
                case rel => exact ⟨(wrap64 (x10_1 + 1)), (by first | rfl | (simp; done) | (simp [*]; done)), H', ⟨by have := HK1.out; have := HJ5.out; have := HJ12.out; omega⟩, ⟨by exact Lib.bs HB.out GE243.out⟩⟩
              ·
               rw [if_neg c29] at H
               exact absurd H (by simp)
             ·
              rw [if_neg c28] at H
              exact absurd H (by simp)
            ·
             rw [if_neg c26] at H
             have c26b0 : decide (0 < x10_1) = false := decide_eq_false c26
             clear c26
             have H' := Aside0.mk H
             clear H
             try go_wp2
             have n0_ := Aside0.mk (blk_drew BK243.out)
             have n1_ := Aside0.mk (below_drew1 HB.out)
             clear BK243
             clear HB
             have BK243 := n0_
             have HB := n1_
             clear n0_ n1_
             refine start_ (n := 25) (S := fun w' => True) (ds := []) (Lib.tr [0, 25]) (by kernel_rfl) rfl rfl trivial (fun hHeld => ?_); refine with_tabW impl_IsAcl.tab17 impl_IsAcl.bits17 (fun HT_ HW_ => ?_)
             generalize wc.drew = w42 at BK243 HB hHeld ⊢
             refine Lib.pa ?_ 0 37 [1, 24] HT_ rfl rfl (by kernel_rfl) (fun _ _ _ h => h) (by rfl) ?_ ?_ ?_ ?_; rotate_left; (· intro w'; go_simp; with_reducible rfl); rotate_left; (· simp only [Lib.pw, Lib.px, Lib.py, i64_w, i32_w]; rfl)
             refine Lib.pa ?_ 1 38 [2, 23] HT_ rfl rfl (by kernel_rfl) (fun _ _ _ h => h) (by rfl) ?_ ?_ ?_ ?_; rotate_left; (· intro w'; go_simp; with_reducible rfl); rotate_left; (· simp only [Lib.pw, Lib.px, Lib.py, i64_w, i32_w]; rfl)
             refine Lib.pa ?_ 2 39 [3, 22] HT_ rfl rfl (by kernel_rfl) (fun _ _ _ h => h) (by rfl) ?_ ?_ ?_ ?_; rotate_left; (· intro w'; go_simp; with_reducible rfl); rotate_left; (· simp only [Lib.pw, Lib.px, Lib.py, i64_w, i32_w]; rfl)
             refine Lib.pu 3 40 [4, 21] HT_ rfl rfl (by kernel_rfl) (fun _ _ _ h => h) (by rfl) ?_ ?_ ?_; rotate_left; (· simp only [Lib.pw, Lib.px, Lib.py, i64_w, i32_w]; rfl)
             refine Lib.pu 4 41 [5, 20] HT_ rfl rfl (by kernel_rfl) (fun _ _ _ h => h) (by rfl) ?_ ?_ ?_; rotate_left; (· simp only [Lib.pw, Lib.px, Lib.py, i64_w, i32_w]; rfl)
             refine Lib.pu 5 42 [6, 19] HT_ rfl rfl (by kernel_rfl) (fun _ _ _ h => h) (by rfl) ?_ ?_ ?_; rotate_left; (· simp only [Lib.pw, Lib.px, Lib.py, i64_w, i32_w]; rfl)
             refine Lib.pu 6 43 [7, 18] HT_ rfl rfl (by kernel_rfl) (fun _ _ _ h => h) (by rfl) ?_ ?_ ?_; rotate_left; (· simp only [Lib.pw, Lib.px, Lib.py, i64_w, i32_w]; rfl)
             refine Lib.pu 7 44 [8, 17] HT_ rfl rfl (by kernel_rfl) (fun _ _ _ h => h) (by rfl) ?_ ?_ ?_; rotate_left; (· simp only [Lib.pw, Lib.px, Lib.py, i64_w, i32_w]; rfl)
             refine Lib.pu 8 45 [9, 16] HT_ rfl rfl (by kernel_rfl) (fun _ _ _ h => h) (by rfl) ?_ ?_ ?_; rotate_left; (· simp only [Lib.pw, Lib.px, Lib.py, i64_w, i32_w]; rfl)
             refine Lib.pu 9 46 [10, 15] HT_ rfl rfl (by kernel_rfl) (fun _ _ _ h => h) (by rfl) ?_ ?_ ?_; rotate_left; (· simp only [Lib.pw, Lib.px, Lib.py, i64_w, i32_w]; rfl)
             refine Lib.pu 10 47 [11, 14] HT_ rfl rfl (by kernel_rfl) (fun _ _ _ h => h) (by rfl) ?_ ?_ ?_; rotate_left; (· simp only [Lib.pw, Lib.px, Lib.py, i64_w, i32_w]; rfl)
             refine Lib.pu 11 48 [12, 13] HT_ rfl rfl (by kernel_rfl) (fun _ _ _ h => h) (by rfl) ?_ ?_ ?_; rotate_left; (· simp only [Lib.pw, Lib.px, Lib.py, i64_w, i32_w]; rfl)
             refine Lib.pu 12 49 [13, 12] HT_ rfl rfl (by kernel_rfl) (fun _ _ _ h => h) (by rfl) ?_ ?_ ?_; rotate_left; (· simp only [Lib.pw, Lib.px, Lib.py, i64_w, i32_w]; rfl)
             refine Lib.pu 13 50 [14, 11] HT_ rfl rfl (by kernel_rfl) (fun _ _ _ h => h) (by rfl) ?_ ?_ ?_; rotate_left; (· simp only [Lib.pw, Lib.px, Lib.py, i64_w, i32_w]; rfl)
             refine Lib.pu 14 51 [15, 10] HT_ rfl rfl (by kernel_rfl) (fun _ _ _ h => h) (by rfl) ?_ ?_ ?_; rotate_left; (· simp only [Lib.pw, Lib.px, Lib.py, i64_w, i32_w]; rfl)
             refine Lib.pu 15 52 [16, 9] HT_ rfl rfl (by kernel_rfl) (fun _ _ _ h => h) (by rfl) ?_ ?_ ?_; rotate_left; (· simp only [Lib.pw, Lib.px, Lib.py, i64_w, i32_w]; rfl)
             refine Lib.pu 16 53 [17, 8] HT_ rfl rfl (by kernel_rfl) (fun _ _ _ h => h) (by rfl) ?_ ?_ ?_; rotate_left; (· simp only [Lib.pw, Lib.px, Lib.py, i64_w, i32_w]; rfl)
             refine Lib.pu 17 54 [18, 7] HT_ rfl rfl (by kernel_rfl) (fun _ _ _ h => h) (by rfl) ?_ ?_ ?_; rotate_left; (· simp only [Lib.pw, Lib.px, Lib.py, i64_w, i32_w]; rfl)
             refine Lib.pu 18 55 [19, 6] HT_ rfl rfl (by kernel_rfl) (fun _ _ _ h => h) (by rfl) ?_ ?_ ?_; rotate_left; (· simp only [Lib.pw, Lib.px, Lib.py, i64_w, i32_w]; rfl)
             refine Lib.pu 19 56 [20, 5] HT_ rfl rfl (by kernel_rfl) (fun _ _ _ h => h) (by rfl) ?_ ?_ ?_; rotate_left; (· simp only [Lib.pw, Lib.px, Lib.py, i64_w, i32_w]; rfl)
             refine Lib.pu 20 57 [21, 4] HT_ rfl rfl (by kernel_rfl) (fun _ _ _ h => h) (by rfl) ?_ ?_ ?_; rotate_left; (· simp only [Lib.pw, Lib.px, Lib.py, i64_w, i32_w]; rfl)
             refine Lib.pu 21 58 [22, 3] HT_ rfl rfl (by kernel_rfl) (fun _ _ _ h => h) (by rfl) ?_ ?_ ?_; rotate_left; (· simp only [Lib.pw, Lib.px, Lib.py, i64_w, i32_w]; rfl)
             refine Lib.pu 22 59 [23, 2] HT_ rfl rfl (by kernel_rfl) (fun _ _ _ h => h) (by rfl) ?_ ?_ ?_; rotate_left; (· simp only [Lib.pw, Lib.px, Lib.py, i64_w, i32_w]; rfl)
             refine Lib.pu 23 60 [24, 1] HT_ rfl rfl (by kernel_rfl) (fun _ _ _ h => h) (by rfl) ?_ ?_ ?_; rotate_left; (· simp only [Lib.pw, Lib.px, Lib.py, i64_w, i32_w]; rfl)
             refine Lib.pa ?_ 24 61 [25] HT_ rfl rfl (by kernel_rfl) (fun _ _ _ h => h) (by rfl) ?_ ?_ ?_ ?_; rotate_left; (· intro w'; go_simp; with_reducible rfl); rotate_left; (· simp only [Lib.pw, Lib.px, Lib.py, i64_w, i32_w]; rfl)
             refine done_ (done_of HT_.out (by kernel_rfl)) ?_
             try go_wp2
             go_roundg kj12
             case measure => have := HK1.out; have := HJ5.out; have := HJ12.out; omega
             case rel => exact ⟨(wrap64 (x10_1 + 1)), (by first | rfl | (simp; done) | (simp [*]; done)), H', ⟨by have := HK1.out; have := HJ5.out; have := HJ12.out; omega⟩, ⟨by exact Lib.bs HB.out GE243.out⟩⟩
      ·
       rw [if_neg c5] at H
       exact absurd H (by simp)
     ·
      rw [if_neg c4] at H
      exact absurd H (by simp)
    ·
     rw [if_neg c3] at H
     have c3b0 : decide (x10_1 < (l0.length : Int)) = false := decide_eq_false c3
     clear c3
     by_cases c43 : (l0.length : Int) = 0
     ·
      rw [if_pos c43] at H
      have c43b0 : ((l0.length : Int) == 0) = true := beq_iff_eq.mpr c43
      have c43b1 : ((l0.length : Int) != 0) = false := bne_eq_false_iff_eq.mpr c43
      clear c43
      obtain rfl := Option.some.inj H
      go_wp2
      go_ret
      exact ⟨by first | rfl | (simp [errW_none, errW_some] <;> rfl) | (simp [*, errW_none, errW_some] <;> rfl), by exact Lib.bw HB.out⟩
     ·
      rw [if_neg c43] at H
      have c43b0 : ((l0.length : Int) == 0) = false := beq_eq_false_iff_ne.mpr c43
      have c43b1 : ((l0.length : Int) != 0) = true := bne_iff_ne.mpr c43
      have c43b2 : ¬ (l0 = []) := fun h_ => c43 (by rw [h_]; rfl)
      obtain ⟨ji44, hji44⟩ : ∃ j_ : Int, (wrap64 ((l0.length : Int) - 1)) = j_ := ⟨_, rfl⟩
      replace H : (if 0 ≤ (ji44) then (if (ji44) < (l0.length : Int) then (some (((rd_T107 l0 (ji44)).f0) == 3)) else (none)) else (none)) = some r := by first | (rw [hji44] at H; exact H) | (simp only [hji44] at H ⊢; exact H)
      have hji44w : (IntKind.i64.wrap ((l0.length : Int) - 1)) = ji44 := (i64_w _).trans hji44
      by_cases c45 : 0 ≤ (ji44)
      ·
       rw [if_pos c45] at H
       have c45b0 : decide (0 ≤ (ji44)) = true := decide_eq_true c45
       clear c45
       by_cases c46 : (ji44) < (l0.length : Int)
       ·
        rw [if_pos c46] at H
        have c46b0 : decide ((ji44) < (l0.length : Int)) = true := decide_eq_true c46
        clear c46
        obtain rfl := Option.some.inj H
        have p241 : 0 ≤ ((ji44) : Int) := Lib.od
        have q241 : (ji44) < (l0.length : Int) := Lib.od
        obtain ⟨ad241, e241, hx241_0, hx241_1, hx241_2⟩ := at_T107 HR0.out (ji44) p241 q241
        cases e241
        replace hx241_0 := (HB.out.cell (World.block_lt_of_cell? w _ hx241_0)).trans hx241_0
        replace hx241_1 := (HB.out.cell (World.block_lt_of_cell? w _ hx241_1)).trans hx241_1
        replace hx241_2 := (HB.out.cell (World.block_lt_of_cell? w _ hx241_2)).trans hx241_2
        replace p241 := eq_true p241
        replace q241 := eq_true q241
        go_wp2
        go_ret
        exact ⟨by first | rfl | (simp [errW_none, errW_some] <;> rfl) | (simp only [← hji44]; first | rfl | (simp [errW_none, errW_some] <;> rfl)) | (simp [*, errW_none, errW_some] <;> rfl), by exact Lib.bw HB.out⟩
       ·
        rw [if_neg c46] at H
        exact absurd H (by simp)
      ·
       rw [if_neg c45] at H
       exact absurd H (by simp)

end Go.Proofs.Ytnfiapcemafmiaa.PFnExactNextBlock
