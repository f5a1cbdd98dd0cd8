-- Written by a program of this session over Lean's own print of the program.
import Derived.Test.YtnfiapcemafmiaaPFnExactCrashDiskx0
import Derived.Test.YtnfiapcemafmiaaPFnExactCrashDiskx5
namespace Go.Proofs.Ytnfiapcemafmiaa.PFnExactCrashDisk
open Go.RowKit Go.Proofs.YtnfiapcemafmiaaW.PrintWords Go.Proofs.YtnfiapcemafmiaaW.PrintLast Go.Proofs.YtnfiapcemafmiaaW.PrintMore
attribute [local go_sem] max2_int min2_int max_two min_two max_three min_three max_four min_four   -- for this text's walks alone
set_option linter.unusedVariables false
set_option linter.unusedSimpArgs false

/-! ### impl_IsDisk: function 80 -/
mutual
def impl_IsDisk.j0 : Nat → Bool → List ByteArray → List (S131) → Option (Bool)
  | 0, _, _, _ => none
  | k + 1, x16, x226000, x226001 => if x16 = true then (some false) else (impl_IsDisk.l0 k x226000 (x226000.length : Int) 0 x226000 x226001)
def impl_IsDisk.l0 : Nat → List ByteArray → Int → Int → List ByteArray → List (S131) → Option (Bool)
  | 0, _, _, _, _, _ => none
  | k + 1, x18, x19, x20, x226000, x226001 => if x20 < x19 then (if 0 ≤ x20 then (if x20 < (x18.length : Int) then (if ((rdOf ByteArray.empty x18 x20).size : Int) = 32 then (impl_IsDisk.l0 k x18 x19 (wrap64 (x20 + 1)) x226000 x226001) else (some false)) else (none)) else (none)) else (impl_IsDisk.l1 k x226001 (x226001.length : Int) 0 x226000 x226001)
def impl_IsDisk.l1 : Nat → List (S131) → Int → Int → List ByteArray → List (S131) → Option (Bool)
  | 0, _, _, _, _, _ => none
  | k + 1, x29, x30, x31, x226000, x226001 => if x31 < x30 then (if 0 ≤ x31 then (if x31 < (x29.length : Int) then (if ((rd_T131 x29 x31).f0) < 0 then (some false) else (if ((rd_T131 x29 x31).f0) ≥ (x226000.length : Int) then (some false) else (if (((rd_T131 x29 x31).f1).size : Int) = 32 then (impl_IsDisk.l1 k x29 x30 (wrap64 (x31 + 1)) x226000 x226001) else (some false)))) else (none)) else (none)) else (some true)
end
def impl_IsDisk.f (k : Nat) (l0_0 : List ByteArray) (l0_1 : List (S131)) : Option (Bool) := if (l0_0.length : Int) > 400 then (impl_IsDisk.j0 k true l0_0 l0_1) else (impl_IsDisk.j0 k (decide ((l0_1.length : Int) > 400)) l0_0 l0_1)
theorem impl_IsDisk.mono_l : ∀ k, (∀ y0 y1 y2, LeO (impl_IsDisk.j0 k y0 y1 y2) (impl_IsDisk.j0 (k + 1) y0 y1 y2)) ∧ (∀ y0 y1 y2 y3 y4, LeO (impl_IsDisk.l0 k y0 y1 y2 y3 y4) (impl_IsDisk.l0 (k + 1) y0 y1 y2 y3 y4)) ∧ (∀ y0 y1 y2 y3 y4, LeO (impl_IsDisk.l1 k y0 y1 y2 y3 y4) (impl_IsDisk.l1 (k + 1) y0 y1 y2 y3 y4))
  | 0 => ⟨fun _ _ _ r h => by simp [impl_IsDisk.j0] at h, fun _ _ _ _ _ r h => by simp [impl_IsDisk.l0] at h, fun _ _ _ _ _ r h => by simp [impl_IsDisk.l1] at h⟩
  | k + 1 => by
    obtain ⟨ih0, ih1, ih2⟩ := impl_IsDisk.mono_l k
    refine ⟨?_, ?_, ?_⟩
    · intro y0 y1 y2
      unfold impl_IsDisk.j0
      repeat' first
      | (with_reducible exact ih0 _ _ _)
      | (with_reducible exact ih1 _ _ _ _ _)
      | (with_reducible exact ih2 _ _ _ _ _)
      | (with_reducible exact LeO.refl _)
      | (with_reducible exact LeO.none _)
      | (with_reducible refine LeO.ite ?_ ?_)
      | (with_reducible refine LeO.bind ?_ (fun _ => ?_))
      | exact ih0 _ _ _
      | exact ih1 _ _ _ _ _
      | exact ih2 _ _ _ _ _
      | exact LeO.none _
      | refine LeO.ite ?_ ?_
      | refine LeO.bind ?_ (fun _ => ?_)
    · intro y0 y1 y2 y3 y4
      unfold impl_IsDisk.l0
      repeat' first
      | (with_reducible exact ih0 _ _ _)
      | (with_reducible exact ih1 _ _ _ _ _)
      | (with_reducible exact ih2 _ _ _ _ _)
      | (with_reducible exact LeO.refl _)
      | (with_reducible exact LeO.none _)
      | (with_reducible refine LeO.ite ?_ ?_)
      | (with_reducible refine LeO.bind ?_ (fun _ => ?_))
      | exact ih0 _ _ _
      | exact ih1 _ _ _ _ _
      | exact ih2 _ _ _ _ _
      | exact LeO.none _
      | refine LeO.ite ?_ ?_
      | refine LeO.bind ?_ (fun _ => ?_)
    · intro y0 y1 y2 y3 y4
      unfold impl_IsDisk.l1
      repeat' first
      | (with_reducible exact ih0 _ _ _)
      | (with_reducible exact ih1 _ _ _ _ _)
      | (with_reducible exact ih2 _ _ _ _ _)
      | (with_reducible exact LeO.refl _)
      | (with_reducible exact LeO.none _)
      | (with_reducible refine LeO.ite ?_ ?_)
      | (with_reducible refine LeO.bind ?_ (fun _ => ?_))
      | exact ih0 _ _ _
      | exact ih1 _ _ _ _ _
      | exact ih2 _ _ _ _ _
      | exact LeO.none _
      | refine LeO.ite ?_ ?_
      | refine LeO.bind ?_ (fun _ => ?_)
theorem impl_IsDisk.mono : ∀ a0 a1 k, LeO (impl_IsDisk.f k a0 a1) (impl_IsDisk.f (k + 1) a0 a1) := by
  intro a0 a1 k
  obtain ⟨ih0, ih1, ih2⟩ := impl_IsDisk.mono_l k
  unfold impl_IsDisk.f
  repeat' first
      | (with_reducible exact ih0 _ _ _)
      | (with_reducible exact ih1 _ _ _ _ _)
      | (with_reducible exact ih2 _ _ _ _ _)
      | (with_reducible exact LeO.refl _)
      | (with_reducible exact LeO.none _)
      | (with_reducible refine LeO.ite ?_ ?_)
      | (with_reducible refine LeO.bind ?_ (fun _ => ?_))
      | exact ih0 _ _ _
      | exact ih1 _ _ _ _ _
      | exact ih2 _ _ _ _ _
      | exact LeO.none _
      | refine LeO.ite ?_ ?_
      | refine LeO.bind ?_ (fun _ => ?_)
set_option maxHeartbeats 8000000 in
set_option maxRecDepth 100000 in
theorem impl_IsDisk.calls (k : Nat) (A0_0 : Option Addr) (c0_0 : Nat) (l0_0 : List ByteArray) (A0_1 : Option Addr) (c0_1 : Nat) (l0_1 : List (S131)) (r : Bool) (w : World) (hr0_0 : Kd.C Kd.string w A0_0 l0_0.length l0_0) (hc0_0 : l0_0.length ≤ c0_0) (hr0_1 : Kd.C k131 w A0_1 l0_1.length l0_1) (hc0_1 : l0_1.length ≤ c0_1) (h : impl_IsDisk.f k l0_0 l0_1 = some r) :
    Calls Try.prog 80 #[.agg #[.slice A0_0 l0_0.length c0_0, .slice A0_1 l0_1.length c0_1]] w fun e w' => e = .returned (.bool r) ∧ Below w.heap.size w w' := by
  have hu52 := Try.underlying52
  have hu131 := Try.underlying131
  have HR0_0 := Aside0.mk hr0_0
  have HC0_0 := Aside0.mk hc0_0
  clear hr0_0 hc0_0
  have HR0_1 := Aside0.mk hr0_1
  have HC0_1 := Aside0.mk hc0_1
  clear hr0_1 hc0_1
  have HB := Aside0.mk (Below.refl w.heap.size w)
  have H : (if (l0_0.length : Int) > 400 then (impl_IsDisk.j0 k true l0_0 l0_1) else (impl_IsDisk.j0 k (decide ((l0_1.length : Int) > 400)) l0_0 l0_1)) = some r := h
  clear h
  have HC2 := Aside0.mk H
  clear H
  go_enter Try.func80, Try.ntmps80
  go_upto_region 1 with (first | ((with_reducible refine gate_dst (N := 1) rfl ?_); (try (refine gate_guard (by rfl) ?_; dsimp only)); refine box_event ?hg (N := 1) ?hd (cs := #[.slice A0_0 l0_0.length c0_0, .slice A0_1 l0_1.length c0_1]) (t := 52) ?hr ?_; (case hd => rfl); (case hg => rfl); (case hr => first | (go_simp; done) | (go_simp; rfl)); intro gb225 hg w3 hbox hb; have n0_ := Aside0.mk (below_step (by repeat (first | (with_reducible first | exact HB.out | apply below_alloc | apply pw_below_drewN | apply below_drew1) | exact HB.out)) hb); have n1_ := Aside0.mk (hbox); have n2_ := Aside0.mk ((by rw [hg]; exact (below_size (by repeat (first | (with_reducible first | exact HB.out | apply below_alloc | apply pw_below_drewN | apply below_drew1) | exact HB.out))) : w.heap.size ≤ gb225)); have n3_ := Aside0.mk ((by rw [hg]; exact (below_size (by repeat (first | (with_reducible first | exact HB.out | apply below_alloc | apply pw_below_drewN | apply below_drew1) | exact HB.out))) : w.heap.size ≤ gb225)); clear HB; have HB := n0_; have BK225 := n1_; have GW225 := n2_; have GE225 := n3_; clear n0_ n1_ n2_ n3_; clear hb hbox hg))
  (try simp only [Act.put, List.setIfInBounds_toArray, List.set_cons_zero, List.set_cons_succ])
  go_cut [16] (fun v16 wc => ∃ (kq : Nat) (x16_1 : Bool), v16 = .bool x16_1 ∧ Aside0 (impl_IsDisk.j0 kq x16_1 l0_0 l0_1 = some r) ∧ Aside0 (kq ≤ k) ∧ Aside0 (wc.heap[gb225]? = some (.cells #[(.slice A0_0 l0_0.length c0_0), (.slice A0_1 l0_1.length c0_1)] 52 (0, 0))) ∧ Aside0 (Below w.heap.size w wc))
  case first =>
    have H := HC2.out
    clear HC2
    by_cases c4 : (l0_0.length : Int) > 400
    · rw [if_pos c4] at H
      have c4b0 : decide (400 < (l0_0.length : Int)) = true := decide_eq_true c4
      have c4b1 : decide (400 < l0_0.length) = true := decide_eq_true (by omega)
      clear c4
      (first | rw [c4b0] | (simp only [i64_w, i32_w]; rw [c4b0]) | skip)
      have H' := Aside0.mk H
      clear H
      have hcz5_0 : w3.cell? ⟨gb225, 0, none⟩ = some (.slice A0_0 l0_0.length c0_0) := (blk_cell BK225.out 0).trans rfl
      have hcz5_1 : w3.cell? ⟨gb225, 1, none⟩ = some (.slice A0_1 l0_1.length c0_1) := (blk_cell BK225.out 1).trans rfl
      have hfz5_0 := blk_frozen BK225.out 0
      have hfz5_1 := blk_frozen BK225.out 1
      go_wp2
      go_meet
      case rel => exact ⟨_, (true), (by first | rfl | (simp; done) | (simp [*]; done)), H', ⟨by first | omega | exact Nat.le_refl _⟩, ⟨by (with_reducible repeat (first | refine blk_drewN ?_ _ | refine blk_drew ?_ | refine blk_alloc ?_ _)); exact BK225.out⟩, ⟨by repeat (first | (with_reducible first | exact HB.out | apply below_alloc | apply pw_below_drewN | apply below_drew1 | refine below_set ?_ GE225.out) | exact HB.out)⟩⟩
    · rw [if_neg c4] at H
      have c4b0 : decide (400 < (l0_0.length : Int)) = false := decide_eq_false c4
      have c4b1 : decide (400 < l0_0.length) = false := decide_eq_false (by omega)
      clear c4
      (first | rw [c4b0] | (simp only [i64_w, i32_w]; rw [c4b0]) | skip)
      have H' := Aside0.mk H
      clear H
      have hcz6_0 : w3.cell? ⟨gb225, 0, none⟩ = some (.slice A0_0 l0_0.length c0_0) := (blk_cell BK225.out 0).trans rfl
      have hcz6_1 : w3.cell? ⟨gb225, 1, none⟩ = some (.slice A0_1 l0_1.length c0_1) := (blk_cell BK225.out 1).trans rfl
      have hfz6_0 := blk_frozen BK225.out 0
      have hfz6_1 := blk_frozen BK225.out 1
      go_wp2
      go_meet
      case rel => exact ⟨_, (decide ((l0_1.length : Int) > 400)), (by first | rfl | (simp; done) | (simp [*]; done)), H', ⟨by first | omega | exact Nat.le_refl _⟩, ⟨by (with_reducible repeat (first | refine blk_drewN ?_ _ | refine blk_drew ?_ | refine blk_alloc ?_ _)); exact BK225.out⟩, ⟨by repeat (first | (with_reducible first | exact HB.out | apply below_alloc | apply pw_below_drewN | apply below_drew1 | refine below_set ?_ GE225.out) | exact HB.out)⟩⟩
  case rest =>
    clear HC2
    try clear p2
    try clear c4
    try clear c4b0
    try clear c4b1
    try clear hcz5_0
    try clear hcz5_1
    try clear hcz6_0
    try clear hcz6_1
    try clear hfz5_0
    try clear hfz5_1
    try clear hfz6_0
    try clear hfz6_1
    obtain ⟨kq, x16_1, rfl, HA, HJ1, BK225, HB⟩ := hcut
    cases kq with
    | zero => exact absurd HA.out (by simp [impl_IsDisk.j0])
    | succ kj1 =>
      have H := HA.out
      clear HA
      simp only [impl_IsDisk.j0] at H
      by_cases c7 : x16_1 = true
      · subst c7
        have H1 : (some false) = some r := by rw [if_pos rfl] at H; exact H
        clear H
        have H := H1
        clear H1
        obtain rfl := Option.some.inj H
        go_wp2
        go_ret
        exact ⟨by first | rfl | (simp [errW_none, errW_some] <;> rfl) | (simp [*, errW_none, errW_some] <;> rfl), by repeat (first | (with_reducible first | exact HB.out | apply below_alloc | apply pw_below_drewN | apply below_drew1 | refine below_set ?_ GE225.out) | exact HB.out)⟩
      · replace c7 := Bool.eq_false_iff.mpr c7
        subst c7
        have H1 : (impl_IsDisk.l0 kj1 l0_0 (l0_0.length : Int) 0 l0_0 l0_1) = some r := by rw [if_neg (show ¬ (false = true) by decide)] at H; exact H
        clear H
        have H := H1
        clear H1
        have H' := Aside0.mk H
        clear H
        have hcz8_0 : wc.cell? ⟨gb225, 0, none⟩ = some (.slice A0_0 l0_0.length c0_0) := (blk_cell BK225.out 0).trans rfl
        have hcz8_1 : wc.cell? ⟨gb225, 1, none⟩ = some (.slice A0_1 l0_1.length c0_1) := (blk_cell BK225.out 1).trans rfl
        have hfz8_0 := blk_frozen BK225.out 0
        have hfz8_1 := blk_frozen BK225.out 1
        go_wp2
        go_loopg [20] kj1 (fun kq v20 w' => ∃ (x20_2 : Int), v20 = .int .i64 x20_2 ∧ Aside0 (impl_IsDisk.l0 kq l0_0 (l0_0.length : Int) x20_2 l0_0 l0_1 = some r) ∧ Aside0 (kq ≤ kj1) ∧ Aside0 (w'.heap[gb225]? = some (.cells #[(.slice A0_0 l0_0.length c0_0), (.slice A0_1 l0_1.length c0_1)] 52 (0, 0))) ∧ Aside0 (Below w.heap.size w w'))
        case atStart => exact ⟨(0), (by first | rfl | (simp; done) | (simp [*]; done)), H', ⟨Nat.le_refl _⟩, ⟨by (with_reducible repeat (first | refine blk_drewN ?_ _ | refine blk_drew ?_ | refine blk_alloc ?_ _)); exact BK225.out⟩, ⟨by repeat (first | (with_reducible first | exact HB.out | apply below_alloc | apply pw_below_drewN | apply below_drew1 | refine below_set ?_ GE225.out) | exact HB.out)⟩⟩
        case round =>
          clear H'
          try clear p2
          try clear c4
          try clear c4b0
          try clear c4b1
          try clear c7
          try clear c8
          try clear hcz5_0
          try clear hcz5_1
          try clear hcz6_0
          try clear hcz6_1
          try clear hcz8_0
          try clear hcz8_1
          try clear hfz5_0
          try clear hfz5_1
          try clear hfz6_0
          try clear hfz6_1
          try clear hfz8_0
          try clear hfz8_1
          try clear p2
          obtain ⟨x20_2, rfl, HA, HK2, BK225, HB⟩ := hrel
          cases gk with
          | zero => exact absurd HA.out (by simp [impl_IsDisk.l0])
          | succ k2 =>
            have H := HA.out
            clear HA
            simp only [impl_IsDisk.l0] at H
            by_cases c9 : x20_2 < (l0_0.length : Int)
            · rw [if_pos c9] at H
              have c9b0 : decide (x20_2 < (l0_0.length : Int)) = true := decide_eq_true c9
              clear c9
              by_cases c10 : 0 ≤ x20_2
              · rw [if_pos c10] at H
                have c10b0 : decide (0 ≤ x20_2) = true := decide_eq_true c10
                clear c10
                by_cases c11 : x20_2 < (l0_0.length : Int)
                · rw [if_pos c11] at H
                  have c11b0 : decide (x20_2 < (l0_0.length : Int)) = true := decide_eq_true c11
                  clear c11
                  by_cases c12 : ((rdOf ByteArray.empty l0_0 x20_2).size : Int) = 32
                  · rw [if_pos c12] at H
                    have c12b0 : (((rdOf ByteArray.empty l0_0 x20_2).size : Int) == 32) = true := beq_iff_eq.mpr c12
                    have c12b1 : (((rdOf ByteArray.empty l0_0 x20_2).size : Int) != 32) = false := bne_eq_false_iff_eq.mpr c12
                    clear c12
                    have H' := Aside0.mk H
                    clear H
                    have p226 : 0 ≤ (x20_2 : Int) := of_decide_eq_true (by first | (with_reducible assumption) | assumption)
                    have q226 : x20_2 < (l0_0.length : Int) := of_decide_eq_true (by first | (with_reducible assumption) | assumption)
                    obtain ⟨ad226, e226, hx226_0⟩ := Kd.at_string HR0_0.out x20_2 p226 q226
                    cases e226
                    replace hx226_0 := (HB.out.cell (World.block_lt_of_cell? w _ hx226_0)).trans hx226_0
                    replace p226 := eq_true p226
                    replace q226 := eq_true q226
                    go_wp2
                    go_roundg k2
                    case measure => have := HJ1.out; have := HK2.out; omega
                    case rel => exact ⟨(wrap64 (x20_2 + 1)), (by first | rfl | (simp; done) | (simp [*]; done)), H', ⟨by have := HJ1.out; have := HK2.out; omega⟩, ⟨by (with_reducible repeat (first | refine blk_drewN ?_ _ | refine blk_drew ?_ | refine blk_alloc ?_ _)); exact BK225.out⟩, ⟨by repeat (first | (with_reducible first | exact HB.out | apply below_alloc | apply pw_below_drewN | apply below_drew1 | refine below_set ?_ GE225.out) | exact HB.out)⟩⟩
                  · rw [if_neg c12] at H
                    have c12b0 : (((rdOf ByteArray.empty l0_0 x20_2).size : Int) == 32) = false := beq_eq_false_iff_ne.mpr c12
                    have c12b1 : (((rdOf ByteArray.empty l0_0 x20_2).size : Int) != 32) = true := bne_iff_ne.mpr c12
                    obtain rfl := Option.some.inj H
                    have p226 : 0 ≤ (x20_2 : Int) := of_decide_eq_true (by first | (with_reducible assumption) | assumption)
                    have q226 : x20_2 < (l0_0.length : Int) := of_decide_eq_true (by first | (with_reducible assumption) | assumption)
                    obtain ⟨ad226, e226, hx226_0⟩ := Kd.at_string HR0_0.out x20_2 p226 q226
                    cases e226
                    replace hx226_0 := (HB.out.cell (World.block_lt_of_cell? w _ hx226_0)).trans hx226_0
                    replace p226 := eq_true p226
                    replace q226 := eq_true q226
                    go_wp2
                    go_ret
                    exact ⟨by first | rfl | (simp [errW_none, errW_some] <;> rfl) | (simp [*, errW_none, errW_some] <;> rfl), by repeat (first | (with_reducible first | exact HB.out | apply below_alloc | apply pw_below_drewN | apply below_drew1 | refine below_set ?_ GE225.out) | exact HB.out)⟩
                · rw [if_neg c11] at H
                  exact absurd H (by simp)
              · rw [if_neg c10] at H
                exact absurd H (by simp)
            · rw [if_neg c9] at H
              have c9b0 : decide (x20_2 < (l0_0.length : Int)) = false := decide_eq_false c9
              clear c9
              have H' := Aside0.mk H
              clear H
              have hcz13_0 : wr.cell? ⟨gb225, 0, none⟩ = some (.slice A0_0 l0_0.length c0_0) := (blk_cell BK225.out 0).trans rfl
              have hcz13_1 : wr.cell? ⟨gb225, 1, none⟩ = some (.slice A0_1 l0_1.length c0_1) := (blk_cell BK225.out 1).trans rfl
              have hfz13_0 := blk_frozen BK225.out 0
              have hfz13_1 := blk_frozen BK225.out 1
              go_wp2
              go_loopg [31] k2 (fun kq v31 w' => ∃ (x31_3 : Int), v31 = .int .i64 x31_3 ∧ Aside0 (impl_IsDisk.l1 kq l0_1 (l0_1.length : Int) x31_3 l0_0 l0_1 = some r) ∧ Aside0 (kq ≤ k2) ∧ Aside0 (w'.heap[gb225]? = some (.cells #[(.slice A0_0 l0_0.length c0_0), (.slice A0_1 l0_1.length c0_1)] 52 (0, 0))) ∧ Aside0 (Below w.heap.size w w'))
              case atStart => exact ⟨(0), (by first | rfl | (simp; done) | (simp [*]; done)), H', ⟨Nat.le_refl _⟩, ⟨by (with_reducible repeat (first | refine blk_drewN ?_ _ | refine blk_drew ?_ | refine blk_alloc ?_ _)); exact BK225.out⟩, ⟨by repeat (first | (with_reducible first | exact HB.out | apply below_alloc | apply pw_below_drewN | apply below_drew1 | refine below_set ?_ GE225.out) | exact HB.out)⟩⟩
              case round =>
                clear H'
                try clear c1
                try clear p2
                try clear q2
                try clear hx2
                try clear c4
                try clear c4b0
                try clear c4b1
                try clear p6
                try clear c7
                try clear c8
                try clear c9
                try clear c9b0
                try clear c10
                try clear c10b0
                try clear c11
                try clear c11b0
                try clear c12
                try clear c12b0
                try clear c12b1
                try clear hcz13_0
                try clear hcz13_1
                try clear hcz5_0
                try clear hcz5_1
                try clear hcz6_0
                try clear hcz6_1
                try clear hcz8_0
                try clear hcz8_1
                try clear hfz13_0
                try clear hfz13_1
                try clear hfz5_0
                try clear hfz5_1
                try clear hfz6_0
                try clear hfz6_1
                try clear hfz8_0
                try clear hfz8_1
                try clear hx226_0
                try clear p2
                try clear p226
                try clear q226
                obtain ⟨x31_3, rfl, HA, HK3, BK225, HB⟩ := hrel
                cases gk with
                | zero => exact absurd HA.out (by simp [impl_IsDisk.l1])
                | succ k3 =>
                  have H := HA.out
                  clear HA
                  simp only [impl_IsDisk.l1] at H
                  by_cases c14 : x31_3 < (l0_1.length : Int)
                  · rw [if_pos c14] at H
                    have c14b0 : decide (x31_3 < (l0_1.length : Int)) = true := decide_eq_true c14
                    clear c14
                    by_cases c15 : 0 ≤ x31_3
                    · rw [if_pos c15] at H
                      have c15b0 : decide (0 ≤ x31_3) = true := decide_eq_true c15
                      clear c15
                      by_cases c16 : x31_3 < (l0_1.length : Int)
                      · rw [if_pos c16] at H
                        have c16b0 : decide (x31_3 < (l0_1.length : Int)) = true := decide_eq_true c16
                        clear c16
                        by_cases c17 : ((rd_T131 l0_1 x31_3).f0) < 0
                        · rw [if_pos c17] at H
                          have c17b0 : decide (((rd_T131 l0_1 x31_3).f0) < 0) = true := decide_eq_true c17
                          clear c17
                          obtain rfl := Option.some.inj H
                          have p227 : 0 ≤ (x31_3 : Int) := of_decide_eq_true (by first | (with_reducible assumption) | assumption)
                          have q227 : x31_3 < (l0_1.length : Int) := of_decide_eq_true (by first | (with_reducible assumption) | assumption)
                          obtain ⟨ad227, e227, hx227_0, hx227_1⟩ := at_T131 HR0_1.out x31_3 p227 q227
                          cases e227
                          replace hx227_0 := (HB.out.cell (World.block_lt_of_cell? w _ hx227_0)).trans hx227_0
                          replace hx227_1 := (HB.out.cell (World.block_lt_of_cell? w _ hx227_1)).trans hx227_1
                          replace p227 := eq_true p227
                          replace q227 := eq_true q227
                          go_wp2_with (first | ((with_reducible refine gate_dst (N := 6) rfl ?_); (try (refine gate_guard (by rfl) ?_; dsimp only)); refine box_event ?hg (N := 6) ?hd (cs := #[.int .i64 0, .string (⟨#[]⟩ : ByteArray)]) (t := 131) ?hr ?_; (case hd => rfl); (case hg => rfl); (case hr => first | (go_simp; done) | (go_simp; rfl)); intro gb228 hg w18 hbox hb; have n0_ := Aside0.mk (blk_below (g := gb225) (o := .cells #[.slice A0_0 l0_0.length c0_0, .slice (some ad227) l0_1.length c0_1] 52 (0, 0)) (by (with_reducible repeat (first | refine blk_drewN ?_ _ | refine blk_drew ?_ | refine blk_alloc ?_ _)); exact BK225.out) hb); have n1_ := Aside0.mk (below_step (by repeat (first | (with_reducible first | exact HB.out | apply below_alloc | apply pw_below_drewN | apply below_drew1 | refine below_set ?_ GE225.out) | exact HB.out)) hb); have n2_ := Aside0.mk (hbox); have n3_ := Aside0.mk ((by rw [hg]; exact (below_size (by repeat (first | (with_reducible first | exact HB.out | apply below_alloc | apply pw_below_drewN | apply below_drew1 | refine below_set ?_ GE225.out) | exact HB.out))) : w.heap.size ≤ gb228)); have n4_ := Aside0.mk ((by rw [hg]; exact (below_size (by repeat (first | (with_reducible first | exact HB.out | apply below_alloc | apply pw_below_drewN | apply below_drew1 | refine below_set ?_ GE225.out) | exact HB.out))) : w.heap.size ≤ gb228)); have n5_ := Aside0.mk ((by rw [hg]; exact Nat.ne_of_lt (blk_lt (g := gb225) (o := .cells #[.slice A0_0 l0_0.length c0_0, .slice (some ad227) l0_1.length c0_1] 52 (0, 0)) (by (with_reducible repeat (first | refine blk_drewN ?_ _ | refine blk_drew ?_ | refine blk_alloc ?_ _)); exact BK225.out)) : gb225 ≠ gb228)); have n6_ := Aside0.mk ((by rw [hg]; exact Nat.ne_of_gt (blk_lt (g := gb225) (o := .cells #[.slice A0_0 l0_0.length c0_0, .slice (some ad227) l0_1.length c0_1] 52 (0, 0)) (by (with_reducible repeat (first | refine blk_drewN ?_ _ | refine blk_drew ?_ | refine blk_alloc ?_ _)); exact BK225.out)) : gb228 ≠ gb225)); clear BK225; clear HB; have BK225 := n0_; have HB := n1_; have BK228 := n2_; have GW228 := n3_; have GE228 := n4_; have NB225_228 := n5_; have NB228_225 := n6_; clear n0_ n1_ n2_ n3_ n4_ n5_ n6_; clear hb hbox hg; have hnb19 := NB228_225.out; have hnc19 := NB225_228.out; have hcz20_0 : w18.cell? ⟨gb228, 0, none⟩ = some (.int .i64 0) := (blk_cell BK228.out 0).trans rfl; have hcz20_1 : w18.cell? ⟨gb228, 1, none⟩ = some (.string (⟨#[]⟩ : ByteArray)) := (blk_cell BK228.out 1).trans rfl; have hfz20_0 := blk_frozen BK228.out 0; have hfz20_1 := blk_frozen BK228.out 1))
                          go_ret
                          exact ⟨by first | rfl | (simp [errW_none, errW_some] <;> rfl) | (simp [*, errW_none, errW_some] <;> rfl), by repeat (first | (with_reducible first | exact HB.out | apply below_alloc | apply pw_below_drewN | apply below_drew1 | refine below_set ?_ GE225.out | refine below_set ?_ GE228.out) | exact HB.out)⟩
                        · rw [if_neg c17] at H
                          have c17b0 : decide (((rd_T131 l0_1 x31_3).f0) < 0) = false := decide_eq_false c17
                          clear c17
                          by_cases c21 : ((rd_T131 l0_1 x31_3).f0) ≥ (l0_0.length : Int)
                          · rw [if_pos c21] at H
                            have c21b0 : decide ((l0_0.length : Int) ≤ ((rd_T131 l0_1 x31_3).f0)) = true := decide_eq_true c21
                            clear c21
                            obtain rfl := Option.some.inj H
                            have p227 : 0 ≤ (x31_3 : Int) := of_decide_eq_true (by first | (with_reducible assumption) | assumption)
                            have q227 : x31_3 < (l0_1.length : Int) := of_decide_eq_true (by first | (with_reducible assumption) | assumption)
                            obtain ⟨ad227, e227, hx227_0, hx227_1⟩ := at_T131 HR0_1.out x31_3 p227 q227
                            cases e227
                            replace hx227_0 := (HB.out.cell (World.block_lt_of_cell? w _ hx227_0)).trans hx227_0
                            replace hx227_1 := (HB.out.cell (World.block_lt_of_cell? w _ hx227_1)).trans hx227_1
                            replace p227 := eq_true p227
                            replace q227 := eq_true q227
                            go_wp2_with (first | ((with_reducible refine gate_dst (N := 6) rfl ?_); (try (refine gate_guard (by rfl) ?_; dsimp only)); refine box_event ?hg (N := 6) ?hd (cs := #[.int .i64 0, .string (⟨#[]⟩ : ByteArray)]) (t := 131) ?hr ?_; (case hd => rfl); (case hg => rfl); (case hr => first | (go_simp; done) | (go_simp; rfl)); intro gb228 hg w22 hbox hb; have n0_ := Aside0.mk (blk_below (g := gb225) (o := .cells #[.slice A0_0 l0_0.length c0_0, .slice (some ad227) l0_1.length c0_1] 52 (0, 0)) (by (with_reducible repeat (first | refine blk_drewN ?_ _ | refine blk_drew ?_ | refine blk_alloc ?_ _)); exact BK225.out) hb); have n1_ := Aside0.mk (below_step (by repeat (first | (with_reducible first | exact HB.out | apply below_alloc | apply pw_below_drewN | apply below_drew1 | refine below_set ?_ GE225.out) | exact HB.out)) hb); have n2_ := Aside0.mk (hbox); have n3_ := Aside0.mk ((by rw [hg]; exact (below_size (by repeat (first | (with_reducible first | exact HB.out | apply below_alloc | apply pw_below_drewN | apply below_drew1 | refine below_set ?_ GE225.out) | exact HB.out))) : w.heap.size ≤ gb228)); have n4_ := Aside0.mk ((by rw [hg]; exact (below_size (by repeat (first | (with_reducible first | exact HB.out | apply below_alloc | apply pw_below_drewN | apply below_drew1 | refine below_set ?_ GE225.out) | exact HB.out))) : w.heap.size ≤ gb228)); have n5_ := Aside0.mk ((by rw [hg]; exact Nat.ne_of_lt (blk_lt (g := gb225) (o := .cells #[.slice A0_0 l0_0.length c0_0, .slice (some ad227) l0_1.length c0_1] 52 (0, 0)) (by (with_reducible repeat (first | refine blk_drewN ?_ _ | refine blk_drew ?_ | refine blk_alloc ?_ _)); exact BK225.out)) : gb225 ≠ gb228)); have n6_ := Aside0.mk ((by rw [hg]; exact Nat.ne_of_gt (blk_lt (g := gb225) (o := .cells #[.slice A0_0 l0_0.length c0_0, .slice (some ad227) l0_1.length c0_1] 52 (0, 0)) (by (with_reducible repeat (first | refine blk_drewN ?_ _ | refine blk_drew ?_ | refine blk_alloc ?_ _)); exact BK225.out)) : gb228 ≠ gb225)); clear BK225; clear HB; have BK225 := n0_; have HB := n1_; have BK228 := n2_; have GW228 := n3_; have GE228 := n4_; have NB225_228 := n5_; have NB228_225 := n6_; clear n0_ n1_ n2_ n3_ n4_ n5_ n6_; clear hb hbox hg; have hnb23 := NB228_225.out; have hnc23 := NB225_228.out; have hcz24_0 : w22.cell? ⟨gb228, 0, none⟩ = some (.int .i64 0) := (blk_cell BK228.out 0).trans rfl; have hcz24_1 : w22.cell? ⟨gb228, 1, none⟩ = some (.string (⟨#[]⟩ : ByteArray)) := (blk_cell BK228.out 1).trans rfl; have hfz24_0 := blk_frozen BK228.out 0; have hfz24_1 := blk_frozen BK228.out 1; have hcz25_0 : w22.cell? ⟨gb225, 0, none⟩ = some (.slice A0_0 l0_0.length c0_0) := (blk_cell BK225.out 0).trans rfl; have hcz25_1 : w22.cell? ⟨gb225, 1, none⟩ = some (.slice (some ad227) l0_1.length c0_1) := (blk_cell BK225.out 1).trans rfl; have hfz25_0 := blk_frozen BK225.out 0; have hfz25_1 := blk_frozen BK225.out 1))
                            go_ret
                            exact ⟨by first | rfl | (simp [errW_none, errW_some] <;> rfl) | (simp [*, errW_none, errW_some] <;> rfl), by repeat (first | (with_reducible first | exact HB.out | apply below_alloc | apply pw_below_drewN | apply below_drew1 | refine below_set ?_ GE225.out | refine below_set ?_ GE228.out) | exact HB.out)⟩
                          · rw [if_neg c21] at H
                            have c21b0 : decide ((l0_0.length : Int) ≤ ((rd_T131 l0_1 x31_3).f0)) = false := decide_eq_false c21
                            clear c21
                            by_cases c26 : (((rd_T131 l0_1 x31_3).f1).size : Int) = 32
                            · rw [if_pos c26] at H
                              have c26b0 : ((((rd_T131 l0_1 x31_3).f1).size : Int) == 32) = true := beq_iff_eq.mpr c26
                              have c26b1 : ((((rd_T131 l0_1 x31_3).f1).size : Int) != 32) = false := bne_eq_false_iff_eq.mpr c26
                              clear c26
                              have H' := Aside0.mk H
                              clear H
                              have p227 : 0 ≤ (x31_3 : Int) := of_decide_eq_true (by first | (with_reducible assumption) | assumption)
                              have q227 : x31_3 < (l0_1.length : Int) := of_decide_eq_true (by first | (with_reducible assumption) | assumption)
                              obtain ⟨ad227, e227, hx227_0, hx227_1⟩ := at_T131 HR0_1.out x31_3 p227 q227
                              cases e227
                              replace hx227_0 := (HB.out.cell (World.block_lt_of_cell? w _ hx227_0)).trans hx227_0
                              replace hx227_1 := (HB.out.cell (World.block_lt_of_cell? w _ hx227_1)).trans hx227_1
                              replace p227 := eq_true p227
                              replace q227 := eq_true q227
                              go_wp2_with (first | ((with_reducible refine gate_dst (N := 6) rfl ?_); (try (refine gate_guard (by rfl) ?_; dsimp only)); refine box_event ?hg (N := 6) ?hd (cs := #[.int .i64 0, .string (⟨#[]⟩ : ByteArray)]) (t := 131) ?hr ?_; (case hd => rfl); (case hg => rfl); (case hr => first | (go_simp; done) | (go_simp; rfl)); intro gb228 hg w27 hbox hb; have n0_ := Aside0.mk (blk_below (g := gb225) (o := .cells #[.slice A0_0 l0_0.length c0_0, .slice (some ad227) l0_1.length c0_1] 52 (0, 0)) (by (with_reducible repeat (first | refine blk_drewN ?_ _ | refine blk_drew ?_ | refine blk_alloc ?_ _)); exact BK225.out) hb); have n1_ := Aside0.mk (below_step (by repeat (first | (with_reducible first | exact HB.out | apply below_alloc | apply pw_below_drewN | apply below_drew1 | refine below_set ?_ GE225.out) | exact HB.out)) hb); have n2_ := Aside0.mk (hbox); have n3_ := Aside0.mk ((by rw [hg]; exact (below_size (by repeat (first | (with_reducible first | exact HB.out | apply below_alloc | apply pw_below_drewN | apply below_drew1 | refine below_set ?_ GE225.out) | exact HB.out))) : w.heap.size ≤ gb228)); have n4_ := Aside0.mk ((by rw [hg]; exact (below_size (by repeat (first | (with_reducible first | exact HB.out | apply below_alloc | apply pw_below_drewN | apply below_drew1 | refine below_set ?_ GE225.out) | exact HB.out))) : w.heap.size ≤ gb228)); have n5_ := Aside0.mk ((by rw [hg]; exact Nat.ne_of_lt (blk_lt (g := gb225) (o := .cells #[.slice A0_0 l0_0.length c0_0, .slice (some ad227) l0_1.length c0_1] 52 (0, 0)) (by (with_reducible repeat (first | refine blk_drewN ?_ _ | refine blk_drew ?_ | refine blk_alloc ?_ _)); exact BK225.out)) : gb225 ≠ gb228)); have n6_ := Aside0.mk ((by rw [hg]; exact Nat.ne_of_gt (blk_lt (g := gb225) (o := .cells #[.slice A0_0 l0_0.length c0_0, .slice (some ad227) l0_1.length c0_1] 52 (0, 0)) (by (with_reducible repeat (first | refine blk_drewN ?_ _ | refine blk_drew ?_ | refine blk_alloc ?_ _)); exact BK225.out)) : gb228 ≠ gb225)); clear BK225; clear HB; have BK225 := n0_; have HB := n1_; have BK228 := n2_; have GW228 := n3_; have GE228 := n4_; have NB225_228 := n5_; have NB228_225 := n6_; clear n0_ n1_ n2_ n3_ n4_ n5_ n6_; clear hb hbox hg; have hnb28 := NB228_225.out; have hnc28 := NB225_228.out; have hcz29_0 : w27.cell? ⟨gb228, 0, none⟩ = some (.int .i64 0) := (blk_cell BK228.out 0).trans rfl; have hcz29_1 : w27.cell? ⟨gb228, 1, none⟩ = some (.string (⟨#[]⟩ : ByteArray)) := (blk_cell BK228.out 1).trans rfl; have hfz29_0 := blk_frozen BK228.out 0; have hfz29_1 := blk_frozen BK228.out 1; have hcz30_0 : w27.cell? ⟨gb225, 0, none⟩ = some (.slice A0_0 l0_0.length c0_0) := (blk_cell BK225.out 0).trans rfl; have hcz30_1 : w27.cell? ⟨gb225, 1, none⟩ = some (.slice (some ad227) l0_1.length c0_1) := (blk_cell BK225.out 1).trans rfl; have hfz30_0 := blk_frozen BK225.out 0; have hfz30_1 := blk_frozen BK225.out 1))
                              go_roundg k3
                              case measure => have := HJ1.out; have := HK2.out; have := HK3.out; omega
                              case rel => exact ⟨(wrap64 (x31_3 + 1)), (by first | rfl | (simp; done) | (simp [*]; done)), H', ⟨by have := HJ1.out; have := HK2.out; have := HK3.out; omega⟩, ⟨by (with_reducible repeat (first | refine blk_drewN ?_ _ | refine blk_drew ?_ | refine blk_alloc ?_ _)); refine blk_far ?_ NB225_228.out _; (with_reducible repeat (first | refine blk_drewN ?_ _ | refine blk_drew ?_ | refine blk_alloc ?_ _)); refine blk_far ?_ NB225_228.out _; (with_reducible repeat (first | refine blk_drewN ?_ _ | refine blk_drew ?_ | refine blk_alloc ?_ _)); exact BK225.out⟩, ⟨by repeat (first | (with_reducible first | exact HB.out | apply below_alloc | apply pw_below_drewN | apply below_drew1 | refine below_set ?_ GE225.out | refine below_set ?_ GE228.out) | exact HB.out)⟩⟩
                            · rw [if_neg c26] at H
                              have c26b0 : ((((rd_T131 l0_1 x31_3).f1).size : Int) == 32) = false := beq_eq_false_iff_ne.mpr c26
                              have c26b1 : ((((rd_T131 l0_1 x31_3).f1).size : Int) != 32) = true := bne_iff_ne.mpr c26
                              obtain rfl := Option.some.inj H
                              have p227 : 0 ≤ (x31_3 : Int) := of_decide_eq_true (by first | (with_reducible assumption) | assumption)
                              have q227 : x31_3 < (l0_1.length : Int) := of_decide_eq_true (by first | (with_reducible assumption) | assumption)
                              obtain ⟨ad227, e227, hx227_0, hx227_1⟩ := at_T131 HR0_1.out x31_3 p227 q227
                              cases e227
                              replace hx227_0 := (HB.out.cell (World.block_lt_of_cell? w _ hx227_0)).trans hx227_0
                              replace hx227_1 := (HB.out.cell (World.block_lt_of_cell? w _ hx227_1)).trans hx227_1
                              replace p227 := eq_true p227
                              replace q227 := eq_true q227
                              go_wp2_with (first | ((with_reducible refine gate_dst (N := 6) rfl ?_); (try (refine gate_guard (by rfl) ?_; dsimp only)); refine box_event ?hg (N := 6) ?hd (cs := #[.int .i64 0, .string (⟨#[]⟩ : ByteArray)]) (t := 131) ?hr ?_; (case hd => rfl); (case hg => rfl); (case hr => first | (go_simp; done) | (go_simp; rfl)); intro gb228 hg w31 hbox hb; have n0_ := Aside0.mk (blk_below (g := gb225) (o := .cells #[.slice A0_0 l0_0.length c0_0, .slice (some ad227) l0_1.length c0_1] 52 (0, 0)) (by (with_reducible repeat (first | refine blk_drewN ?_ _ | refine blk_drew ?_ | refine blk_alloc ?_ _)); exact BK225.out) hb); have n1_ := Aside0.mk (below_step (by repeat (first | (with_reducible first | exact HB.out | apply below_alloc | apply pw_below_drewN | apply below_drew1 | refine below_set ?_ GE225.out) | exact HB.out)) hb); have n2_ := Aside0.mk (hbox); have n3_ := Aside0.mk ((by rw [hg]; exact (below_size (by repeat (first | (with_reducible first | exact HB.out | apply below_alloc | apply pw_below_drewN | apply below_drew1 | refine below_set ?_ GE225.out) | exact HB.out))) : w.heap.size ≤ gb228)); have n4_ := Aside0.mk ((by rw [hg]; exact (below_size (by repeat (first | (with_reducible first | exact HB.out | apply below_alloc | apply pw_below_drewN | apply below_drew1 | refine below_set ?_ GE225.out) | exact HB.out))) : w.heap.size ≤ gb228)); have n5_ := Aside0.mk ((by rw [hg]; exact Nat.ne_of_lt (blk_lt (g := gb225) (o := .cells #[.slice A0_0 l0_0.length c0_0, .slice (some ad227) l0_1.length c0_1] 52 (0, 0)) (by (with_reducible repeat (first | refine blk_drewN ?_ _ | refine blk_drew ?_ | refine blk_alloc ?_ _)); exact BK225.out)) : gb225 ≠ gb228)); have n6_ := Aside0.mk ((by rw [hg]; exact Nat.ne_of_gt (blk_lt (g := gb225) (o := .cells #[.slice A0_0 l0_0.length c0_0, .slice (some ad227) l0_1.length c0_1] 52 (0, 0)) (by (with_reducible repeat (first | refine blk_drewN ?_ _ | refine blk_drew ?_ | refine blk_alloc ?_ _)); exact BK225.out)) : gb228 ≠ gb225)); clear BK225; clear HB; have BK225 := n0_; have HB := n1_; have BK228 := n2_; have GW228 := n3_; have GE228 := n4_; have NB225_228 := n5_; have NB228_225 := n6_; clear n0_ n1_ n2_ n3_ n4_ n5_ n6_; clear hb hbox hg; have hnb32 := NB228_225.out; have hnc32 := NB225_228.out; have hcz33_0 : w31.cell? ⟨gb228, 0, none⟩ = some (.int .i64 0) := (blk_cell BK228.out 0).trans rfl; have hcz33_1 : w31.cell? ⟨gb228, 1, none⟩ = some (.string (⟨#[]⟩ : ByteArray)) := (blk_cell BK228.out 1).trans rfl; have hfz33_0 := blk_frozen BK228.out 0; have hfz33_1 := blk_frozen BK228.out 1; have hcz34_0 : w31.cell? ⟨gb225, 0, none⟩ = some (.slice A0_0 l0_0.length c0_0) := (blk_cell BK225.out 0).trans rfl; have hcz34_1 : w31.cell? ⟨gb225, 1, none⟩ = some (.slice (some ad227) l0_1.length c0_1) := (blk_cell BK225.out 1).trans rfl; have hfz34_0 := blk_frozen BK225.out 0; have hfz34_1 := blk_frozen BK225.out 1))
                              go_ret
                              exact ⟨by first | rfl | (simp [errW_none, errW_some] <;> rfl) | (simp [*, errW_none, errW_some] <;> rfl), by repeat (first | (with_reducible first | exact HB.out | apply below_alloc | apply pw_below_drewN | apply below_drew1 | refine below_set ?_ GE225.out | refine below_set ?_ GE228.out) | exact HB.out)⟩
                      · rw [if_neg c16] at H
                        exact absurd H (by simp)
                    · rw [if_neg c15] at H
                      exact absurd H (by simp)
                  · rw [if_neg c14] at H
                    have c14b0 : decide (x31_3 < (l0_1.length : Int)) = false := decide_eq_false c14
                    clear c14
                    obtain rfl := Option.some.inj H
                    go_wp2
                    go_ret
                    exact ⟨by first | rfl | (simp [errW_none, errW_some] <;> rfl) | (simp [*, errW_none, errW_some] <;> rfl), by repeat (first | (with_reducible first | exact HB.out | apply below_alloc | apply pw_below_drewN | apply below_drew1 | refine below_set ?_ GE225.out) | exact HB.out)⟩

/-! ### impl_CrashDisk: function 31 -/
def impl_CrashDisk.keep_st (p : Int → Bool) : List (S131) → Int → List ByteArray → Option (List ByteArray)
  | [], _, L => some L
  | x :: l, k, L => if p k = true then (if 0 ≤ x.f0 ∧ x.f0 < (L.length : Int) then impl_CrashDisk.keep_st p l (k + 1) (L.set x.f0.toNat x.f1) else none) else impl_CrashDisk.keep_st p l (k + 1) L
/-- Nothing but block g and the row's block has changed. -/
def impl_CrashDisk.keep_far (g : Nat) (v : Value) (w w' : World) : Prop := w.heap.size ≤ w'.heap.size ∧ ∀ k, k ≠ g → some k ≠ v.ownBlock → k < w.heap.size → w'.heap[k]? = w.heap[k]?
theorem impl_CrashDisk.keep_far_below {g : Nat} {v : Value} {w w1 w2 : World} (h : impl_CrashDisk.keep_far g v w w1) (hb : Below w1.heap.size w1 w2) : impl_CrashDisk.keep_far g v w w2 := ⟨Nat.le_trans h.1 hb.size, fun k h1 h2 h3 => (hb.block k (Nat.lt_of_lt_of_le h3 h.1)).trans (h.2 k h1 h2 h3)⟩
theorem impl_CrashDisk.keep_far_refl (g : Nat) (v : Value) (w : World) : impl_CrashDisk.keep_far g v w w := ⟨Nat.le_refl _, fun _ _ _ _ => rfl⟩
theorem impl_CrashDisk.keep_far_set {g : Nat} {v : Value} {w w1 : World} (h : impl_CrashDisk.keep_far g v w w1) (p : Addr) (hp : some p.block = v.ownBlock ∨ p.block = g) (u : Value) : impl_CrashDisk.keep_far g v w (w1.setCell p u) :=
  ⟨by simpa [World.setCell] using h.1, fun k h1 h2 h3 => (Below.heap_setCell w1 p u k (by rintro rfl; rcases hp with hp | hp; exact h2 hp; exact h1 hp)).trans (h.2 k h1 h2 h3)⟩
set_option maxHeartbeats 8000000 in
set_option maxRecDepth 100000 in
theorem impl_CrashDisk.keep_calls {g : Nat} (f : FuncId) (fn : Func) (cap : Array Value) (hf : Try.prog.funcs[f]? = some fn) (hname : (fn.name == "runtime.NumGoroutine") = false) (hbody : fn.body.isSome = true) (p : Int → Bool) (I : World → Prop)
    (vS : Value) (L : List ByteArray) (A1 : Option Addr) (c1 : Nat) (X : List (S131)) (r : List ByteArray) (w0 w : World)
    (hI : I w) (hIk : ∀ W W', I W → impl_CrashDisk.keep_far g vS W W' → I W') (hp : ∀ W (k : Nat), I W → Calls Try.prog f (#[.int .i64 (k : Int)] ++ cap) W fun e W' => e = .returned (.bool (p (k : Int))) ∧ W = W')
    (hS : Kd.R Kd.string 9 w w0.heap.size (fun _ => True) vS L) (hP : Kd.R k131 131 w w0.heap.size (fun _ => True) (.slice A1 X.length c1) X)
    (hbx : w.heap[g]? = some (.cells #[vS, .slice A1 X.length c1] 52 (0, 0))) (hg : w0.heap.size ≤ g) (HB : Below w0.heap.size w0 w) (h : impl_CrashDisk.keep_st p X 0 L = some r) :
    Calls Try.prog 81 #[.pointer (some ⟨g, 0, none⟩), .func (.func f) #[] cap] w fun e w' => e = .returned (.tuple #[]) ∧ Kd.R Kd.string 9 w' w0.heap.size (fun _ => True) vS r ∧ w'.heap[g]? = some (.cells #[vS, .slice none 0 0] 52 (0, 0)) ∧ Below w0.heap.size w0 w' ∧ impl_CrashDisk.keep_far g vS w w' := by
  have hXm : (X.length : Int) ≤ 9223372036854775807 := by
    obtain ⟨_, _, hC⟩ := Kd.R_reads' hP
    have := hC.2.1
    omega
  have hcz0 : w.cell? ⟨g, 0, none⟩ = some vS := (blk_cell hbx 0).trans rfl
  have hcz1 : w.cell? ⟨g, 1, none⟩ = some (.slice A1 X.length c1) := (blk_cell hbx 1).trans rfl
  have hX := Aside0.mk hXm
  have HS := Aside0.mk hS
  have HP := Aside0.mk hP
  have BK := Aside0.mk hbx
  have HB' := Aside0.mk HB
  have HI := Aside0.mk hI
  have HIk := Aside0.mk hIk
  have Hp := Aside0.mk hp
  have HH := Aside0.mk h
  have GE := Aside0.mk hg
  have HN := Aside0.mk hname
  have HF := Aside0.mk hf
  have HY := Aside0.mk hbody
  clear hXm hS hP hbx HB hI hIk hp h hg hname hf hbody
  go_enter Try.func81, Try.ntmps81
  go_wp2
  go_loopg [11] (X.length + 1) (fun kq v11 w' => ∃ (i : Nat) (M : List ByteArray), v11 = .int .i64 (i : Int) ∧ Aside0 (i ≤ X.length ∧ X.length - i < kq) ∧ Aside0 (impl_CrashDisk.keep_st p (X.drop i) i M = some r) ∧ Aside0 (Kd.R Kd.string 9 w' w0.heap.size (fun _ => True) vS M) ∧ Aside0 (Kd.R k131 131 w' w0.heap.size (fun _ => True) (.slice A1 X.length c1) X) ∧ Aside0 (w'.heap[g]? = some (.cells #[vS, .slice A1 X.length c1] 52 (0, 0))) ∧ Aside0 (Below w0.heap.size w0 w') ∧ Aside0 (I w') ∧ Aside0 (impl_CrashDisk.keep_far g vS w w'))
  case atStart => exact ⟨0, L, rfl, ⟨Nat.zero_le _, by omega⟩, HH, HS, HP, BK, HB', HI, ⟨impl_CrashDisk.keep_far_refl _ _ _⟩⟩
  case round =>
    clear hcz0 hcz1 HS HP BK HB' HI HH
    obtain ⟨i, M, rfl, HM, HH, HS, HP, BK, HB, HI, HR⟩ := hrel
    cases gk with
    | zero => exact absurd HM.out.2 (by omega)
    | succ k1 =>
      by_cases c : i < X.length
      · have hd : X.drop i = rd_T131 X i :: X.drop (i + 1) := by
          rw [List.drop_eq_getElem_cons c]
          congr 1
          show _ = X.getD ((i : Int)).toNat z131
          rw [List.getD_eq_getElem?_getD, Int.toNat_natCast, List.getElem?_eq_getElem c]
          rfl
        have hH := HH.out
        rw [hd] at hH
        clear hd HH
        have b0 : decide ((i : Int) < (X.length : Int)) = true := decide_eq_true (by omega)
        have b1 := eq_true (show (i : Int) < (X.length : Int) by omega)
        have b2 := eq_true (show 0 ≤ (i : Int) by omega)
        obtain ⟨_, _, hC⟩ := Kd.R_reads' HP.out
        obtain ⟨ad, e0, hx0, hx1⟩ := at_T131 hC (i : Int) (by omega) (by omega)
        cases e0
        have hH' := Aside0.mk hH
        simp only [Int.toNat_natCast] at hx0 hx1
        clear hC hH
        have hw : wrap64 ((i : Int) + 1) = ((i + 1 : Nat) : Int) := by have := hX.out; unfold wrap64; omega
        have HWR := Aside0.mk hw
        clear hw
        cases hpi : p i with
        | false =>
          go_wp2_with (first | ((with_reducible refine gate_dst (N := 5) rfl ?_); refine box_event rfl (N := 5) rfl (cs := #[.int .i64 0, .string (⟨#[]⟩ : ByteArray)]) (t := 131) (by first | (go_simp; done) | (go_simp; rfl)) ?_; intro gb hgb w1 hbox hb; have hc0 := blk_cell hbox 0; have hc1 := blk_cell hbox 1; have hf0 := blk_frozen hbox 0; have hf1 := blk_frozen hbox 1; have HGB := Aside0.mk hgb; have HBX := Aside0.mk hbox; have HBB := Aside0.mk hb; clear hgb hbox hb) | ((with_reducible refine gate_store (t := 131) (p := 5) rfl ?_); refine store_event (t := 131) (p := 5) (v := _) (w1 := ((w1.setCell ⟨gb, 0, none⟩ (.int .i64 (rd_T131 X i).f0)).setCell ⟨gb, 1, none⟩ (.string (rd_T131 X i).f1))) rfl rfl rfl (by first | (go_simp; done) | (go_simp; rfl)) ?_; intro w2 hw; have HW : Aside0 (w2.heap[gb]? = some (.cells #[.int .i64 (rd_T131 X i).f0, .string (rd_T131 X i).f1] 131 (0, 0)) ∧ Below wr.heap.size wr w2) := ⟨by rw [hw]; exact ⟨blk_put (cs := #[.int .i64 (rd_T131 X i).f0, .string (⟨#[]⟩ : ByteArray)]) (blk_put (cs := #[.int .i64 0, .string (⟨#[]⟩ : ByteArray)]) HBX.out 0 _ rfl) 1 _ rfl, below_set (below_set HBB.out (by rw [HGB.out]; exact Nat.le_refl _)) (by rw [HGB.out]; exact Nat.le_refl _)⟩⟩; clear hw hc0 hc1 hf0 hf1) | ((with_reducible refine Lib.gate_slot (s := 16) rfl ?_); refine Lib.goesClos_ (.tmp 16) rfl (some 18) rfl rfl HF.out HN.out HY.out (#[.int .i64 i] ++ cap) rfl (by simp only [List.map_toArray, List.map_cons, List.map_nil]; rfl) ?_; refine (Hp.out w2 i (HIk.out _ _ HI.out (impl_CrashDisk.keep_far_below (impl_CrashDisk.keep_far_refl _ _ _) HW.out.2))).mono ?_; rintro e w' ⟨rfl, rfl⟩; rw [hpi]; refine ⟨_, rfl, ?_⟩))
          go_roundg k1
          case measure => exact Nat.lt_succ_self _
          case rel =>
            have hh := hH'.out
            unfold impl_CrashDisk.keep_st at hh
            rw [if_neg (by rw [hpi]; decide)] at hh
            exact ⟨i + 1, M, by rw [HWR.out], ⟨by have := HM.out; omega⟩, ⟨by first | exact hh | (rw [show ((i + 1 : Nat) : Int) = (i : Int) + 1 by omega]; exact hh)⟩, ⟨Kd.R_below HS.out HW.out.2⟩, ⟨Kd.R_below HP.out HW.out.2⟩, ⟨blk_below BK.out HW.out.2⟩, ⟨below_step HB.out HW.out.2⟩, ⟨HIk.out _ _ HI.out (impl_CrashDisk.keep_far_below (impl_CrashDisk.keep_far_refl _ _ _) HW.out.2)⟩, ⟨impl_CrashDisk.keep_far_below HR.out HW.out.2⟩⟩
        | true =>
          have hh := hH'.out
          unfold impl_CrashDisk.keep_st at hh
          rw [if_pos hpi] at hh
          by_cases hz : 0 ≤ (rd_T131 X i).f0 ∧ (rd_T131 X i).f0 < (M.length : Int)
          case neg =>
            rw [if_neg hz] at hh
            cases hh
          rw [if_pos hz] at hh
          have HH := Aside0.mk hh
          clear hh hH'
          obtain ⟨g1, cp, rfl, hb1, hlt1, cells, hcl⟩ := Kd.R_form HS.out (by omega)
          have HL := Aside0.mk hb1
          have HCL := Aside0.mk hcl
          have NE : Aside0 (g ≠ g1) := ⟨by rintro rfl; have := HCL.out.symm.trans BK.out; injection this with this; injection this with _ this; exact absurd this (by decide)⟩
          have HP1 : Aside0 (Kd.R k131 131 wr w0.heap.size (fun k => True ∧ k ≠ g1) (.slice (some ad) X.length c1) X) := ⟨Kd.R_types HP.out HCL.out (by decide)⟩
          clear hb1 hlt1 hcl
          have hz0 := decide_eq_true hz.1
          have hz1 := decide_eq_true hz.2
          have hz2 := eq_true hz.1
          have hz3 := eq_true hz.2
          have HZ := Aside0.mk hz
          clear hz
          go_wp2_with (first | ((with_reducible refine gate_dst (N := 5) rfl ?_); refine box_event rfl (N := 5) rfl (cs := #[.int .i64 0, .string (⟨#[]⟩ : ByteArray)]) (t := 131) (by first | (go_simp; done) | (go_simp; rfl)) ?_; intro gb hgb w1 hbox hb; have hc0 := blk_cell hbox 0; have hc1 := blk_cell hbox 1; have hf0 := blk_frozen hbox 0; have hf1 := blk_frozen hbox 1; have HGB := Aside0.mk hgb; have HBX := Aside0.mk hbox; have HBB := Aside0.mk hb; clear hgb hbox hb) | ((with_reducible refine gate_store (t := 131) (p := 5) rfl ?_); refine store_event (t := 131) (p := 5) (v := _) (w1 := ((w1.setCell ⟨gb, 0, none⟩ (.int .i64 (rd_T131 X i).f0)).setCell ⟨gb, 1, none⟩ (.string (rd_T131 X i).f1))) rfl rfl rfl (by first | (go_simp; done) | (go_simp; rfl)) ?_; intro w2 hw; have HW : Aside0 (w2.heap[gb]? = some (.cells #[.int .i64 (rd_T131 X i).f0, .string (rd_T131 X i).f1] 131 (0, 0)) ∧ Below wr.heap.size wr w2) := ⟨by rw [hw]; exact ⟨blk_put (cs := #[.int .i64 (rd_T131 X i).f0, .string (⟨#[]⟩ : ByteArray)]) (blk_put (cs := #[.int .i64 0, .string (⟨#[]⟩ : ByteArray)]) HBX.out 0 _ rfl) 1 _ rfl, below_set (below_set HBB.out (by rw [HGB.out]; exact Nat.le_refl _)) (by rw [HGB.out]; exact Nat.le_refl _)⟩⟩; clear hw hc0 hc1 hf0 hf1) | ((with_reducible refine Lib.gate_slot (s := 16) rfl ?_); refine Lib.goesClos_ (.tmp 16) rfl (some 18) rfl rfl HF.out HN.out HY.out (#[.int .i64 i] ++ cap) rfl (by simp only [List.map_toArray, List.map_cons, List.map_nil]; rfl) ?_; refine (Hp.out w2 i (HIk.out _ _ HI.out (impl_CrashDisk.keep_far_below (impl_CrashDisk.keep_far_refl _ _ _) HW.out.2))).mono ?_; rintro e w' ⟨rfl, rfl⟩; rw [hpi]; refine ⟨_, rfl, ?_⟩))
          have q0 : w2.cell? ⟨g, 0, none⟩ = some (.slice (some ⟨g1, 0, none⟩) M.length cp) := (blk_cell (blk_below BK.out HW.out.2) 0).trans rfl
          have q1 : w2.cell? ⟨gb, 0, none⟩ = some (.int .i64 (rd_T131 X i).f0) := (blk_cell HW.out.1 0).trans rfl
          have q2 : w2.cell? ⟨gb, 1, none⟩ = some (.string (rd_T131 X i).f1) := (blk_cell HW.out.1 1).trans rfl
          obtain ⟨q3, q4⟩ := Kd.R_celln ByteArray.empty (Kd.R_below HS.out HW.out.2) (rd_T131 X i).f0 HZ.out.1 HZ.out.2
          go_still_tail 9, (by kernel_rfl)
          go_wp2
          have HE := Aside0.mk (Kd.R_putg (Kd.R_below HS.out HW.out.2) (rd_T131 X i).f0 (rd_T131 X i).f1)
          have HFS := Aside0.mk (impl_CrashDisk.keep_far_set (impl_CrashDisk.keep_far_below HR.out HW.out.2) ⟨g1, (rd_T131 X i).f0.toNat, none⟩ (Or.inl rfl) (.string (rd_T131 X i).f1))
          go_roundg k1
          case measure => exact Nat.lt_succ_self _
          case rel =>
            exact ⟨i + 1, M.set (rd_T131 X i).f0.toNat (rd_T131 X i).f1, by rw [HWR.out], ⟨by have := HM.out; omega⟩, ⟨by first | exact HH.out | (rw [show ((i + 1 : Nat) : Int) = (i : Int) + 1 by omega]; exact HH.out)⟩, ⟨HE.out.1⟩, ⟨Kd.R_mono (Kd.R_far (p := ⟨g1, (rd_T131 X i).f0.toNat, none⟩) (Kd.R_below HP1.out HW.out.2) (fun _ hk => hk.2) (.string (rd_T131 X i).f1)) (fun _ _ => trivial)⟩, ⟨blk_far (blk_below BK.out HW.out.2) NE.out _⟩, ⟨below_drew1 (below_set (below_step HB.out HW.out.2) HL.out)⟩, ⟨HIk.out _ _ HI.out (impl_CrashDisk.keep_far_set (impl_CrashDisk.keep_far_below (impl_CrashDisk.keep_far_refl _ _ _) HW.out.2) ⟨g1, (rd_T131 X i).f0.toNat, none⟩ (Or.inl rfl) (.string (rd_T131 X i).f1))⟩, ⟨HFS.out⟩⟩
      · obtain rfl : i = X.length := by have := HM.out.1; omega
        have b0 : decide ((X.length : Int) < (X.length : Int)) = false := decide_eq_false (by omega)
        have hh := HH.out
        rw [List.drop_length] at hh
        obtain rfl := Option.some.inj hh
        have hcz0 : wr.cell? ⟨g, 0, none⟩ = some vS := (blk_cell BK.out 0).trans rfl
        have hcz1 : wr.cell? ⟨g, 1, none⟩ = some (.slice A1 X.length c1) := (blk_cell BK.out 1).trans rfl
        have hfz1 := blk_frozen BK.out 1
        clear hh
        go_wp2
        go_end0
        exact ⟨rfl, Kd.R_mono (Kd.R_far (p := ⟨g, 1, none⟩) (Kd.R_types HS.out BK.out (by decide)) (fun _ hk => hk.2) (.slice none 0 0)) (fun _ _ => trivial), blk_put BK.out 1 _ rfl, below_set HB.out GE.out, impl_CrashDisk.keep_far_set HR.out ⟨g, 1, none⟩ (Or.inr rfl) _⟩
/-- The closure of impl.CrashDisk. -/
theorem impl_CrashDisk.clos_calls {gk : Nat} (A2 : Option Addr) (c2 : Nat) (l2 : List Bool) (w W : World) (k : Nat) (hC : Kd.C Kd.bool w A2 l2.length l2) (hk : W.heap[gk]? = some (.cells #[.slice A2 l2.length c2] 58 (0, 0))) (hW : ∀ b, b < w.heap.size → W.heap[b]? = w.heap[b]?) :
    Calls Try.prog 88 #[.int .i64 (k : Int), .pointer (some ⟨gk, 0, none⟩)] W fun e W' => e = .returned (.bool (decide ((k : Int) < (l2.length : Int)) && rdOf false l2 k)) ∧ W = W' := by
  have hcz : W.cell? ⟨gk, 0, none⟩ = some (.slice A2 l2.length c2) := (blk_cell hk 0).trans rfl
  have hm : (l2.length : Int) ≤ 9223372036854775807 := by have := hC.2.1; omega
  by_cases c : k < l2.length
  · obtain ⟨ad, rfl, hc⟩ := (Kd.reads_of_C (enc := Value.bool) (d := false) (h1 := fun _ => rfl) hC).2.2 (by omega)
    have hx : W.cell? (ad.add k) = some (.bool (rdOf false l2 (k : Int))) := by
      have h1 := hc k c
      have h2 := World.block_lt_of_cell? w _ h1
      rw [add_block] at h2
      rw [show W.cell? (ad.add k) = w.cell? (ad.add k) by simp only [World.cell?, add_block, hW _ h2], h1]
      rfl
    have b0 : decide ((k : Int) < (l2.length : Int)) = true := decide_eq_true (by omega)
    have b1 := eq_true (show (k : Int) < (l2.length : Int) by omega)
    have b2 := eq_true (show 0 ≤ (k : Int) by omega)
    have b3 := eq_true c
    rw [b0, Bool.true_and]
    clear hC hk hW hc
    go_enter Try.func88, Try.ntmps88
    go_wp2
    go_ret
    exact ⟨by first | rfl | simp, rfl⟩
  · have b0 : decide ((k : Int) < (l2.length : Int)) = false := decide_eq_false (by omega)
    have b1 := eq_false (show ¬ (k : Int) < (l2.length : Int) by omega)
    have b3 := eq_false c
    rw [b0, Bool.false_and]
    clear hC hk hW
    go_enter Try.func88, Try.ntmps88
    go_wp2
    go_ret
    exact ⟨by first | rfl | simp, rfl⟩
def impl_CrashDisk.f (k : Nat) (l0_0 : List ByteArray) (l0_1 : List (S131)) (l1 : List Bool) : Option (List ByteArray × List (S131)) := (impl_copyDisk.f l0_0 l0_1).bind fun c => (impl_IsDisk.f k l0_0 l0_1).bind fun b => if b = true then (impl_CrashDisk.keep_st (fun i => decide (i < (l1.length : Int)) && rdOf false l1 i) c.2 0 c.1).bind fun M => some (M, []) else some (c.1, c.2)
theorem impl_CrashDisk.mono : ∀ a0 a1 a2 k, LeO (impl_CrashDisk.f k a0 a1 a2) (impl_CrashDisk.f (k + 1) a0 a1 a2) := by
  intro a0 a1 a2 k
  unfold impl_CrashDisk.f
  exact LeO.bind (LeO.refl _) fun _ => LeO.bind (impl_IsDisk.mono _ _ _) fun _ => LeO.refl _
set_option maxHeartbeats 8000000 in
set_option maxRecDepth 100000 in
theorem impl_CrashDisk.calls (k : Nat) (A0_0 : Option Addr) (c0_0 : Nat) (l0_0 : List ByteArray) (A0_1 : Option Addr) (c0_1 : Nat) (l0_1 : List (S131)) (A1 : Option Addr) (c1 : Nat) (l1 : List Bool) (r1 : List ByteArray) (r2 : List (S131)) (w : World) (hr0_0 : Kd.C Kd.string w A0_0 l0_0.length l0_0) (hc0_0 : l0_0.length ≤ c0_0) (hr0_1 : Kd.C k131 w A0_1 l0_1.length l0_1) (hc0_1 : l0_1.length ≤ c0_1) (hr1 : Kd.C Kd.bool w A1 l1.length l1) (hc1 : l1.length ≤ c1) (h : impl_CrashDisk.f k l0_0 l0_1 l1 = some (r1, r2)) :
    Calls Try.prog 31 #[.agg #[.slice A0_0 l0_0.length c0_0, .slice A0_1 l0_1.length c0_1], .slice A1 l1.length c1] w fun e w' => ∃ v0_ v1_ : Value, e = .returned (.agg #[v0_, v1_]) ∧ Kd.R Kd.string 9 w' w.heap.size (fun _ => True) v0_ r1 ∧ Kd.R k131 131 w' w.heap.size (fun _ => True) v1_ r2 ∧ Below w.heap.size w w' := by
  have hud := Try.underlying52
  have hmf : ∀ (fn : Fn) (first cap : Array Value) (w : World), (Instr.makeFunc fn first cap).run Try.prog w = .ok (.func fn first cap) w := fun _ _ _ _ => rfl
  obtain ⟨c, hc, h⟩ := Option.bind_eq_some_iff.1 h
  obtain ⟨b, hb, h⟩ := Option.bind_eq_some_iff.1 h
  obtain ⟨x1, x2⟩ := c
  have HC0 := Aside0.mk hr0_0
  have HC1 := Aside0.mk hr0_1
  have HL0 := Aside0.mk hc0_0
  have HL1 := Aside0.mk hc0_1
  have HC := Aside0.mk hc
  have HBd := Aside0.mk hb
  have HCb := Aside0.mk hr1
  clear hr1 hc1
  clear hr0_0 hc0_0 hr0_1 hc0_1 hc hb
  cases b with
  | true =>
    obtain ⟨M, hM, h⟩ := Option.bind_eq_some_iff.1 h
    obtain ⟨rfl, rfl⟩ := Prod.mk.inj (Option.some.inj h)
    have HM := Aside0.mk hM
    clear hM h
    go_enter Try.func31, Try.ntmps31
    go_wp2_with (first | ((with_reducible refine gate_dst (N := 2) rfl ?_); refine box_event rfl (N := 2) rfl (cs := #[.slice A0_0 l0_0.length c0_0, .slice A0_1 l0_1.length c0_1]) (t := 52) (by first | (go_simp; done) | (go_simp; rfl)) ?_; intro g1 hg1 w1 hx hb; have BK1 := Aside0.mk hx; have HB1 := Aside0.mk hb; clear hg1 hx hb) | ((with_reducible refine gate_dst (N := 3) rfl ?_); refine box_event rfl (N := 3) rfl (cs := #[.slice A1 l1.length c1]) (t := 58) (by first | (go_simp; done) | (go_simp; rfl)) ?_; intro gk hgk wk hx hb; have HB1 := Aside0.mk (below_step HB1.out hb); have BK1 := Aside0.mk (blk_below BK1.out hb); have BKk := Aside0.mk hx; clear hgk hx hb) | ((with_reducible refine gate_dst (N := 4) rfl ?_); refine box_event rfl (N := 4) rfl (cs := #[.slice none 0 0, .slice none 0 0]) (t := 52) (by first | (go_simp; done) | (go_simp; rfl)) ?_; intro g2 hg2 w2 hx hb; have HG2 : Aside0 (w.heap.size ≤ g2) := ⟨by rw [hg2]; exact HB1.out.size⟩; have HB2 := Aside0.mk (below_step HB1.out hb); have BK1 := Aside0.mk (blk_below BK1.out hb); have BKk := Aside0.mk (blk_below BKk.out hb); have BK2 := Aside0.mk hx; have p0 := (blk_cell BK1.out 0).trans rfl; have p1 := (blk_cell BK1.out 1).trans rfl; clear hg2 hx hb) | ((with_reducible refine gate_callee (f := 79) rfl ?_); refine goesL_ (some 7) rfl rfl Try.func79 (by kernel_rfl) rfl #[.agg #[.slice A0_0 l0_0.length c0_0, .slice A0_1 l0_1.length c0_1]] rfl (by simp only [List.map_toArray, List.map_cons, List.map_nil]; rfl) ?_; refine (impl_copyDisk.calls _ _ l0_0 _ _ l0_1 x1 x2 w2 (Kd.C_below HC0.out HB2.out) HL0.out (Kd.C_below HC1.out HB2.out) HL1.out HC.out).mono ?_; rintro e w3 ⟨v0, v1, rfl, h0, h1, hb3⟩; refine ⟨_, rfl, ?_⟩; clear p0 p1; have H0 := Aside0.mk (Kd.R_lower h0 HB2.out.size); have H1 := Aside0.mk (Kd.R_lower h1 HB2.out.size); have BK1 := Aside0.mk (blk_below BK1.out hb3); have BKk := Aside0.mk (blk_below BKk.out hb3); have BK2 := Aside0.mk (blk_below BK2.out hb3); have HB3 := Aside0.mk (below_step HB2.out hb3); clear h0 h1 hb3) | ((with_reducible refine gate_dst (N := 5) rfl ?_); refine box_event rfl (N := 5) rfl (cs := #[.slice none 0 0, .slice none 0 0]) (t := 52) (by first | (go_simp; done) | (go_simp; rfl)) ?_; intro g3 hg3 w4 hx hb; have HG3 := Aside0.mk hg3; have BK3 := Aside0.mk hx; have HB4 := Aside0.mk hb; obtain ⟨Av0, cv0, e0⟩ := Kd.R_slice H0.out; obtain ⟨Av1, cv1, e1⟩ := Kd.R_slice H1.out; subst e0; subst e1; have p0 := (blk_cell hx 0).trans rfl; have p1 := (blk_cell hx 1).trans rfl; have q0 := blk_frozen hx 0; have q1 := blk_frozen hx 1; clear hg3 hx hb) | ((with_reducible refine gate_store (t := 52) (p := 5) rfl ?_); refine store_event (t := 52) (p := 5) (v := _) (w1 := ((w4.setCell ⟨g3, 0, none⟩ (.slice Av0 x1.length cv0)).setCell ⟨g3, 1, none⟩ (.slice Av1 x2.length cv1))) rfl rfl rfl (by first | (go_simp; done) | (go_simp; rfl)) ?_; intro w5 hw; have hb5 : Below w3.heap.size w3 w5 := (by rw [hw]; exact below_set (below_set HB4.out (by rw [HG3.out]; exact Nat.le_refl _)) (by rw [HG3.out]; exact Nat.le_refl _)); have hx5 : w5.heap[g3]? = some (.cells #[.slice Av0 x1.length cv0, .slice Av1 x2.length cv1] 52 (0, 0)) := (by rw [hw]; exact blk_put (blk_put BK3.out 0 _ rfl) 1 _ rfl); clear hw p0 p1 q0 q1; have H0 := Aside0.mk (Kd.R_below H0.out hb5); have H1 := Aside0.mk (Kd.R_below H1.out hb5); have HN1 : Aside0 (g1 ≠ g3 ∧ g2 ≠ g3 ∧ gk ≠ g3) := ⟨by rw [HG3.out]; exact ⟨Nat.ne_of_lt (blk_lt BK1.out), Nat.ne_of_lt (blk_lt BK2.out), Nat.ne_of_lt (blk_lt BKk.out)⟩⟩; have HG3 : Aside0 (w.heap.size ≤ g3) := ⟨by rw [HG3.out]; exact HB3.out.size⟩; have BK1 := Aside0.mk (blk_below BK1.out hb5); have BKk := Aside0.mk (blk_below BKk.out hb5); have BK2 := Aside0.mk (blk_below BK2.out hb5); have BK3 := Aside0.mk hx5; have HB5 := Aside0.mk (below_step HB3.out hb5); have p0 := (blk_cell BK1.out 0).trans rfl; have p1 := (blk_cell BK1.out 1).trans rfl; clear hb5 hx5) | ((with_reducible refine gate_callee (f := 80) rfl ?_); refine goesL_ (some 9) rfl rfl Try.func80 (by kernel_rfl) rfl #[.agg #[.slice A0_0 l0_0.length c0_0, .slice A0_1 l0_1.length c0_1]] rfl (by simp only [List.map_toArray, List.map_cons, List.map_nil]; rfl) ?_; refine (impl_IsDisk.calls k _ _ l0_0 _ _ l0_1 true w5 (Kd.C_below HC0.out HB5.out) HL0.out (Kd.C_below HC1.out HB5.out) HL1.out HBd.out).mono ?_; rintro e w6 ⟨rfl, hb6⟩; refine ⟨_, rfl, ?_⟩; clear p0 p1; have H0 := Aside0.mk (Kd.R_below H0.out hb6); have H1 := Aside0.mk (Kd.R_below H1.out hb6); have BKk := Aside0.mk (blk_below BKk.out hb6); have BK2 := Aside0.mk (blk_below BK2.out hb6); have BK3 := Aside0.mk (blk_below BK3.out hb6); have HB6 := Aside0.mk (below_step HB5.out hb6); clear hb6) | ((with_reducible refine gate_callee (f := 81) rfl ?_); refine goesL_ (some 11) rfl rfl Try.func81 (by kernel_rfl) rfl #[.pointer (some ⟨g3, 0, none⟩), .func (.func 88) #[] #[.pointer (some ⟨gk, 0, none⟩)]] rfl (by simp only [List.map_toArray, List.map_cons, List.map_nil]; rfl) ?_; have NVk : Aside0 (some gk ≠ (Value.slice Av0 x1.length cv0).ownBlock) := ⟨fun e => by obtain ⟨inner, ho⟩ := Kd.R_own H0.out; obtain ⟨cells, hc⟩ := own_typed ho gk e.symm; rw [BKk.out] at hc; injection hc with hc; injection hc with _ hc; exact absurd hc (by decide)⟩; refine (impl_CrashDisk.keep_calls (g := g3) 88 _ #[.pointer (some ⟨gk, 0, none⟩)] Try.func88 (by kernel_rfl) rfl (fun i => decide (i < (l1.length : Int)) && rdOf false l1 i) (fun W => W.heap[gk]? = some (.cells #[.slice A1 l1.length c1] 58 (0, 0)) ∧ ∀ b, b < w.heap.size → W.heap[b]? = w.heap[b]?) _ x1 _ _ x2 M w w6 ⟨BKk.out, fun b hb => HB6.out.block b hb⟩ (fun W W' h f => ⟨(f.2 gk HN1.out.2.2 NVk.out (blk_lt h.1)).trans h.1, fun b hb => (f.2 b (by have := HG3.out; omega) (fun e => by obtain ⟨inner, ho⟩ := Kd.R_own H0.out; have := own_base ho b e.symm; omega) (heap_lt (h.2 b hb) hb)).trans (h.2 b hb)⟩) (fun W k h => impl_CrashDisk.clos_calls A1 c1 l1 w W k HCb.out h.1 h.2) H0.out H1.out BK3.out HG3.out HB6.out HM.out).mono ?_; rintro e w7 ⟨rfl, hs, hx7, hb7, hf7⟩; refine ⟨_, rfl, ?_⟩; have H7 := Aside0.mk hs; have BK3 := Aside0.mk hx7; have HB7 := Aside0.mk hb7; have NV : Aside0 (some g2 ≠ (Value.slice Av0 x1.length cv0).ownBlock) := ⟨fun e => by obtain ⟨inner, ho⟩ := Kd.R_own H0.out; obtain ⟨cells, hc⟩ := own_typed ho g2 e.symm; rw [BK2.out] at hc; injection hc with hc; injection hc with _ hc; exact absurd hc (by decide)⟩; have BK2 := Aside0.mk ((hf7.2 g2 HN1.out.2.1 NV.out (blk_lt BK2.out)).trans BK2.out); clear hs hx7 hb7 hf7; have p0 := (blk_cell BK3.out 0).trans rfl; have p1 := (blk_cell BK3.out 1).trans rfl; have q0 := blk_frozen BK2.out 0; have q1 := blk_frozen BK2.out 1; have s0 := (blk_cell BK2.out 0).trans rfl; have s1 := (blk_cell BK2.out 1).trans rfl))
    refine bodyPost_ret (results_cell_row rfl _ _ g2 52 #[.slice Av0 x1.length cv0, .slice none 0 0] (0, 0) _ rfl (by exact blk_put (blk_put BK2.out 0 _ rfl) 1 _ rfl) Try.underlying52 rfl (by kernel_rfl)) rfl ?_
    exact ⟨_, _, rfl, Kd.R_mono (Kd.R_far (p := ⟨g2, 1, none⟩) (Kd.R_far (p := ⟨g2, 0, none⟩) (Kd.R_types H7.out BK2.out (by decide)) (fun _ hk => hk.2) _) (fun _ hk => hk.2) _) (fun _ _ => trivial), Kd.R_nil _ _ _ _ _, below_set (below_set HB7.out HG2.out) HG2.out⟩
  | false =>
    obtain ⟨rfl, rfl⟩ := Prod.mk.inj (Option.some.inj h)
    clear h
    go_enter Try.func31, Try.ntmps31
    go_wp2_with (first | ((with_reducible refine gate_dst (N := 2) rfl ?_); refine box_event rfl (N := 2) rfl (cs := #[.slice A0_0 l0_0.length c0_0, .slice A0_1 l0_1.length c0_1]) (t := 52) (by first | (go_simp; done) | (go_simp; rfl)) ?_; intro g1 hg1 w1 hx hb; have BK1 := Aside0.mk hx; have HB1 := Aside0.mk hb; clear hg1 hx hb) | ((with_reducible refine gate_dst (N := 3) rfl ?_); refine box_event rfl (N := 3) rfl (cs := #[.slice A1 l1.length c1]) (t := 58) (by first | (go_simp; done) | (go_simp; rfl)) ?_; intro gk hgk wk hx hb; have HB1 := Aside0.mk (below_step HB1.out hb); have BK1 := Aside0.mk (blk_below BK1.out hb); have BKk := Aside0.mk hx; clear hgk hx hb) | ((with_reducible refine gate_dst (N := 4) rfl ?_); refine box_event rfl (N := 4) rfl (cs := #[.slice none 0 0, .slice none 0 0]) (t := 52) (by first | (go_simp; done) | (go_simp; rfl)) ?_; intro g2 hg2 w2 hx hb; have HG2 : Aside0 (w.heap.size ≤ g2) := ⟨by rw [hg2]; exact HB1.out.size⟩; have HB2 := Aside0.mk (below_step HB1.out hb); have BK1 := Aside0.mk (blk_below BK1.out hb); have BKk := Aside0.mk (blk_below BKk.out hb); have BK2 := Aside0.mk hx; have p0 := (blk_cell BK1.out 0).trans rfl; have p1 := (blk_cell BK1.out 1).trans rfl; clear hg2 hx hb) | ((with_reducible refine gate_callee (f := 79) rfl ?_); refine goesL_ (some 7) rfl rfl Try.func79 (by kernel_rfl) rfl #[.agg #[.slice A0_0 l0_0.length c0_0, .slice A0_1 l0_1.length c0_1]] rfl (by simp only [List.map_toArray, List.map_cons, List.map_nil]; rfl) ?_; refine (impl_copyDisk.calls _ _ l0_0 _ _ l0_1 x1 x2 w2 (Kd.C_below HC0.out HB2.out) HL0.out (Kd.C_below HC1.out HB2.out) HL1.out HC.out).mono ?_; rintro e w3 ⟨v0, v1, rfl, h0, h1, hb3⟩; refine ⟨_, rfl, ?_⟩; clear p0 p1; have H0 := Aside0.mk (Kd.R_lower h0 HB2.out.size); have H1 := Aside0.mk (Kd.R_lower h1 HB2.out.size); have BK1 := Aside0.mk (blk_below BK1.out hb3); have BKk := Aside0.mk (blk_below BKk.out hb3); have BK2 := Aside0.mk (blk_below BK2.out hb3); have HB3 := Aside0.mk (below_step HB2.out hb3); clear h0 h1 hb3) | ((with_reducible refine gate_dst (N := 5) rfl ?_); refine box_event rfl (N := 5) rfl (cs := #[.slice none 0 0, .slice none 0 0]) (t := 52) (by first | (go_simp; done) | (go_simp; rfl)) ?_; intro g3 hg3 w4 hx hb; have HG3 := Aside0.mk hg3; have BK3 := Aside0.mk hx; have HB4 := Aside0.mk hb; obtain ⟨Av0, cv0, e0⟩ := Kd.R_slice H0.out; obtain ⟨Av1, cv1, e1⟩ := Kd.R_slice H1.out; subst e0; subst e1; have p0 := (blk_cell hx 0).trans rfl; have p1 := (blk_cell hx 1).trans rfl; have q0 := blk_frozen hx 0; have q1 := blk_frozen hx 1; clear hg3 hx hb) | ((with_reducible refine gate_store (t := 52) (p := 5) rfl ?_); refine store_event (t := 52) (p := 5) (v := _) (w1 := ((w4.setCell ⟨g3, 0, none⟩ (.slice Av0 x1.length cv0)).setCell ⟨g3, 1, none⟩ (.slice Av1 x2.length cv1))) rfl rfl rfl (by first | (go_simp; done) | (go_simp; rfl)) ?_; intro w5 hw; have hb5 : Below w3.heap.size w3 w5 := (by rw [hw]; exact below_set (below_set HB4.out (by rw [HG3.out]; exact Nat.le_refl _)) (by rw [HG3.out]; exact Nat.le_refl _)); have hx5 : w5.heap[g3]? = some (.cells #[.slice Av0 x1.length cv0, .slice Av1 x2.length cv1] 52 (0, 0)) := (by rw [hw]; exact blk_put (blk_put BK3.out 0 _ rfl) 1 _ rfl); clear hw p0 p1 q0 q1; have H0 := Aside0.mk (Kd.R_below H0.out hb5); have H1 := Aside0.mk (Kd.R_below H1.out hb5); have HN1 : Aside0 (g1 ≠ g3 ∧ g2 ≠ g3 ∧ gk ≠ g3) := ⟨by rw [HG3.out]; exact ⟨Nat.ne_of_lt (blk_lt BK1.out), Nat.ne_of_lt (blk_lt BK2.out), Nat.ne_of_lt (blk_lt BKk.out)⟩⟩; have HG3 : Aside0 (w.heap.size ≤ g3) := ⟨by rw [HG3.out]; exact HB3.out.size⟩; have BK1 := Aside0.mk (blk_below BK1.out hb5); have BKk := Aside0.mk (blk_below BKk.out hb5); have BK2 := Aside0.mk (blk_below BK2.out hb5); have BK3 := Aside0.mk hx5; have HB5 := Aside0.mk (below_step HB3.out hb5); have p0 := (blk_cell BK1.out 0).trans rfl; have p1 := (blk_cell BK1.out 1).trans rfl; clear hb5 hx5) | ((with_reducible refine gate_callee (f := 80) rfl ?_); refine goesL_ (some 9) rfl rfl Try.func80 (by kernel_rfl) rfl #[.agg #[.slice A0_0 l0_0.length c0_0, .slice A0_1 l0_1.length c0_1]] rfl (by simp only [List.map_toArray, List.map_cons, List.map_nil]; rfl) ?_; refine (impl_IsDisk.calls k _ _ l0_0 _ _ l0_1 false w5 (Kd.C_below HC0.out HB5.out) HL0.out (Kd.C_below HC1.out HB5.out) HL1.out HBd.out).mono ?_; rintro e w6 ⟨rfl, hb6⟩; refine ⟨_, rfl, ?_⟩; clear p0 p1; have H0 := Aside0.mk (Kd.R_below H0.out hb6); have H1 := Aside0.mk (Kd.R_below H1.out hb6); have BKk := Aside0.mk (blk_below BKk.out hb6); have BK2 := Aside0.mk (blk_below BK2.out hb6); have BK3 := Aside0.mk (blk_below BK3.out hb6); have HB6 := Aside0.mk (below_step HB5.out hb6); clear hb6; have p0 := (blk_cell BK3.out 0).trans rfl; have p1 := (blk_cell BK3.out 1).trans rfl; have q0 := blk_frozen BK2.out 0; have q1 := blk_frozen BK2.out 1; have s0 := (blk_cell BK2.out 0).trans rfl; have s1 := (blk_cell BK2.out 1).trans rfl))
    refine bodyPost_ret (results_cell_row rfl _ _ g2 52 #[.slice Av0 x1.length cv0, .slice Av1 x2.length cv1] (0, 0) _ rfl (by exact blk_put (blk_put BK2.out 0 _ rfl) 1 _ rfl) Try.underlying52 rfl (by kernel_rfl)) rfl ?_
    exact ⟨_, _, rfl, Kd.R_mono (Kd.R_far (p := ⟨g2, 1, none⟩) (Kd.R_far (p := ⟨g2, 0, none⟩) (Kd.R_types H0.out BK2.out (by decide)) (fun _ hk => hk.2) _) (fun _ hk => hk.2) _) (fun _ _ => trivial), Kd.R_mono (Kd.R_far (p := ⟨g2, 1, none⟩) (Kd.R_far (p := ⟨g2, 0, none⟩) (Kd.R_types H1.out BK2.out (by decide)) (fun _ hk => hk.2) _) (fun _ hk => hk.2) _) (fun _ _ => trivial), below_set (below_set HB6.out HG2.out) HG2.out⟩

/-! ### laws_eqBoolS: function 32 -/
def laws_eqBoolS.l0 : Nat → List Bool → List Bool → Int → Option (Bool)
  | 0, _, _, _ => none
  | k + 1, x0, x1, x5 => if x5 < (x0.length : Int) then (if 0 ≤ x5 then (if x5 < (x1.length : Int) then (if ((rdOf false x0 x5) != (rdOf false x1 x5)) = true then (some false) else (laws_eqBoolS.l0 k x0 x1 (wrap64 (x5 + 1)))) else (none)) else (none)) else (some true)
def laws_eqBoolS.f (k : Nat) (l0 : List Bool) (l1 : List Bool) : Option (Bool) := if (l0.length : Int) = (l1.length : Int) then (laws_eqBoolS.l0 k l0 l1 0) else (some false)
theorem laws_eqBoolS.mono_l : ∀ k, (∀ y0 y1 y2, LeO (laws_eqBoolS.l0 k y0 y1 y2) (laws_eqBoolS.l0 (k + 1) y0 y1 y2))
  | 0 => fun _ _ _ r h => by simp [laws_eqBoolS.l0] at h
  | k + 1 => by
    have ih0 := laws_eqBoolS.mono_l k
    · intro y0 y1 y2
      unfold laws_eqBoolS.l0
      repeat' first
      | (with_reducible exact ih0 _ _ _)
      | (with_reducible exact LeO.refl _)
      | (with_reducible exact LeO.none _)
      | (with_reducible refine LeO.ite ?_ ?_)
      | (with_reducible refine LeO.bind ?_ (fun _ => ?_))
      | exact ih0 _ _ _
      | exact LeO.none _
      | refine LeO.ite ?_ ?_
      | refine LeO.bind ?_ (fun _ => ?_)
theorem laws_eqBoolS.mono : ∀ a0 a1 k, LeO (laws_eqBoolS.f k a0 a1) (laws_eqBoolS.f (k + 1) a0 a1) := by
  intro a0 a1 k
  have ih0 := laws_eqBoolS.mono_l k
  unfold laws_eqBoolS.f
  repeat' first
      | (with_reducible exact ih0 _ _ _)
      | (with_reducible exact LeO.refl _)
      | (with_reducible exact LeO.none _)
      | (with_reducible refine LeO.ite ?_ ?_)
      | (with_reducible refine LeO.bind ?_ (fun _ => ?_))
      | exact ih0 _ _ _
      | exact LeO.none _
      | refine LeO.ite ?_ ?_
      | refine LeO.bind ?_ (fun _ => ?_)
set_option maxHeartbeats 8000000 in
set_option maxRecDepth 100000 in
theorem laws_eqBoolS.calls (k : Nat) (A0 : Option Addr) (c0 : Nat) (l0 : List Bool) (A1 : Option Addr) (c1 : Nat) (l1 : List Bool) (r : Bool) (w : World) (hr0 : Kd.C Kd.bool w A0 l0.length l0) (hc0 : l0.length ≤ c0) (hr1 : Kd.C Kd.bool w A1 l1.length l1) (hc1 : l1.length ≤ c1) (h : laws_eqBoolS.f k l0 l1 = some r) :
    Calls Try.prog 32 #[.slice A0 l0.length c0, .slice A1 l1.length c1] w fun e w' => e = .returned (.bool r) ∧ Drawn0 w w' := by
  have HR0 := Aside0.mk hr0
  have HC0 := Aside0.mk hc0
  clear hr0 hc0
  have HR1 := Aside0.mk hr1
  have HC1 := Aside0.mk hc1
  clear hr1 hc1
  have H : (if (l0.length : Int) = (l1.length : Int) then (laws_eqBoolS.l0 k l0 l1 0) else (some false)) = some r := h
  clear h
  by_cases c3 : (l0.length : Int) = (l1.length : Int)
  · rw [if_pos c3] at H
    have c3b0 : ((l0.length : Int) == (l1.length : Int)) = true := beq_iff_eq.mpr c3
    have c3b1 : ((l0.length : Int) != (l1.length : Int)) = false := bne_eq_false_iff_eq.mpr c3
    have c3b2 : (l0.length == l1.length) = true := by first | simpa using c3 | (simp at c3 ⊢; omega)
    clear c3
    have H' := Aside0.mk H
    clear H
    go_enter Try.func32, Try.ntmps32
    go_wp2
    repeat (go_quiet (fail); try go_wp2)
    go_loopg [5] k (fun kq v5 w' => ∃ (x5_1 : Int), v5 = .int .i64 x5_1 ∧ Aside0 (laws_eqBoolS.l0 kq l0 l1 x5_1 = some r) ∧ Aside0 (kq ≤ k) ∧ Drawn0 w w')
    case atStart => exact ⟨(0), (by first | rfl | (simp; done) | (simp [*]; done)), H', ⟨Nat.le_refl _⟩, by repeat (first | exact Drawn0.refl _ | apply Drawn0.step)⟩
    case round =>
      clear H'
      try clear c1
      try clear p2
      try clear c3
      try clear c3b0
      try clear c3b1
      try clear c3b2
      obtain ⟨x5_1, rfl, HA, HK1, ⟨m1, rfl⟩⟩ := hrel
      cases gk with
      | zero => exact absurd HA.out (by simp [laws_eqBoolS.l0])
      | succ k1 =>
        have H := HA.out
        clear HA
        simp only [laws_eqBoolS.l0] at H
        by_cases c4 : x5_1 < (l0.length : Int)
        · rw [if_pos c4] at H
          have c4b0 : decide (x5_1 < (l0.length : Int)) = true := decide_eq_true c4
          clear c4
          by_cases c5 : 0 ≤ x5_1
          · rw [if_pos c5] at H
            have c5b0 : decide (0 ≤ x5_1) = true := decide_eq_true c5
            clear c5
            by_cases c6 : x5_1 < (l1.length : Int)
            · rw [if_pos c6] at H
              have c6b0 : decide (x5_1 < (l1.length : Int)) = true := decide_eq_true c6
              clear c6
              by_cases c7 : ((rdOf false l0 x5_1) != (rdOf false l1 x5_1)) = true
              · rw [if_pos c7] at H
                have c7b0 : ((rdOf false l0 x5_1) != (rdOf false l1 x5_1)) = true := c7
                (try (have c7b1 : decide ((rdOf false l0 x5_1) = (rdOf false l1 x5_1)) = false := by simpa using c7))
                (try (have c7b2 : ((rdOf false l0 x5_1) == (rdOf false l1 x5_1)) = false := by simpa using c7))
                (try (have c7b3 : ¬ ((rdOf false l0 x5_1) = (rdOf false l1 x5_1)) := by simpa using c7))
                clear c7
                obtain rfl := Option.some.inj H
                have p229 : 0 ≤ (x5_1 : Int) := of_decide_eq_true (by first | (with_reducible assumption) | assumption)
                have q229 : x5_1 < (l0.length : Int) := of_decide_eq_true (by first | (with_reducible assumption) | assumption)
                obtain ⟨ad229, e229, hx229_0⟩ := Kd.at_bool HR0.out x5_1 p229 q229
                cases e229
                replace p229 := eq_true p229
                replace q229 := eq_true q229
                have p230 : 0 ≤ (x5_1 : Int) := of_decide_eq_true (by first | (with_reducible assumption) | assumption)
                have q230 : x5_1 < (l1.length : Int) := of_decide_eq_true (by first | (with_reducible assumption) | assumption)
                obtain ⟨ad230, e230, hx230_0⟩ := Kd.at_bool HR1.out x5_1 p230 q230
                cases e230
                replace p230 := eq_true p230
                replace q230 := eq_true q230
                go_wp2
                repeat (go_quiet (fail); try go_wp2)
                go_ret
                exact ⟨by first | rfl | (simp; done) | (simp [*]; done), by repeat (first | exact Drawn0.refl _ | apply Drawn0.step)⟩
              · rw [if_neg c7] at H
                have c7b0 : ((rdOf false l0 x5_1) != (rdOf false l1 x5_1)) = false := by simpa using c7
                (try (have c7b1 : decide ((rdOf false l0 x5_1) = (rdOf false l1 x5_1)) = true := by simpa using c7))
                (try (have c7b2 : ((rdOf false l0 x5_1) == (rdOf false l1 x5_1)) = true := by simpa using c7))
                clear c7
                have H' := Aside0.mk H
                clear H
                have p229 : 0 ≤ (x5_1 : Int) := of_decide_eq_true (by first | (with_reducible assumption) | assumption)
                have q229 : x5_1 < (l0.length : Int) := of_decide_eq_true (by first | (with_reducible assumption) | assumption)
                obtain ⟨ad229, e229, hx229_0⟩ := Kd.at_bool HR0.out x5_1 p229 q229
                cases e229
                replace p229 := eq_true p229
                replace q229 := eq_true q229
                have p230 : 0 ≤ (x5_1 : Int) := of_decide_eq_true (by first | (with_reducible assumption) | assumption)
                have q230 : x5_1 < (l1.length : Int) := of_decide_eq_true (by first | (with_reducible assumption) | assumption)
                obtain ⟨ad230, e230, hx230_0⟩ := Kd.at_bool HR1.out x5_1 p230 q230
                cases e230
                replace p230 := eq_true p230
                replace q230 := eq_true q230
                go_wp2
                repeat (go_quiet (fail); try go_wp2)
                go_roundg k1
                case measure => have := HK1.out; omega
                case rel => exact ⟨(wrap64 (x5_1 + 1)), (by first | rfl | (simp; done) | (simp [*]; done)), H', ⟨by have := HK1.out; omega⟩, by repeat (first | exact Drawn0.refl _ | apply Drawn0.step)⟩
            · rw [if_neg c6] at H
              exact absurd H (by simp)
          · rw [if_neg c5] at H
            exact absurd H (by simp)
        · rw [if_neg c4] at H
          have c4b0 : decide (x5_1 < (l0.length : Int)) = false := decide_eq_false c4
          clear c4
          obtain rfl := Option.some.inj H
          go_wp2
          repeat (go_quiet (fail); try go_wp2)
          go_ret
          exact ⟨by first | rfl | (simp; done) | (simp [*]; done), by repeat (first | exact Drawn0.refl _ | apply Drawn0.step)⟩
  · rw [if_neg c3] at H
    have c3b0 : ((l0.length : Int) == (l1.length : Int)) = false := beq_eq_false_iff_ne.mpr c3
    have c3b1 : ((l0.length : Int) != (l1.length : Int)) = true := bne_iff_ne.mpr c3
    have c3b2 : (l0.length == l1.length) = false := by first | simpa using c3 | (simp at c3 ⊢; omega)
    obtain rfl := Option.some.inj H
    go_enter Try.func32, Try.ntmps32
    go_wp2
    repeat (go_quiet (fail); try go_wp2)
    go_ret
    exact ⟨by first | rfl | (simp; done) | (simp [*]; done), by repeat (first | exact Drawn0.refl _ | apply Drawn0.step)⟩

/-! ### laws_markBoolS: function 33 -/
def laws_markBoolS.l0 : Nat → List Bool → Int → Int → Option (Int × List Bool)
  | 0, _, _, _ => none
  | k + 1, x0, x1, x5 => if x5 < (x0.length : Int) then (if 0 ≤ x5 then (laws_markBoolS.l0 k (x0.set (x5 : Int).toNat ((Int.tmod x1 3) == 0)) (wrap64 (x1 + 1)) (wrap64 (x5 + 1))) else (none)) else (some (x1, x0))
def laws_markBoolS.f (k : Nat) (l0 : List Bool) (a1 : Int) : Option (Int × List Bool) := laws_markBoolS.l0 k l0 a1 0
theorem laws_markBoolS.mono_l : ∀ k, (∀ y0 y1 y2, LeO (laws_markBoolS.l0 k y0 y1 y2) (laws_markBoolS.l0 (k + 1) y0 y1 y2))
  | 0 => fun _ _ _ r h => by simp [laws_markBoolS.l0] at h
  | k + 1 => by
    have ih0 := laws_markBoolS.mono_l k
    · intro y0 y1 y2
      unfold laws_markBoolS.l0
      repeat' first
      | (with_reducible exact ih0 _ _ _)
      | (with_reducible exact LeO.refl _)
      | (with_reducible exact LeO.none _)
      | (with_reducible refine LeO.ite ?_ ?_)
      | (with_reducible refine LeO.bind ?_ (fun _ => ?_))
      | exact ih0 _ _ _
      | exact LeO.none _
      | refine LeO.ite ?_ ?_
      | refine LeO.bind ?_ (fun _ => ?_)
theorem laws_markBoolS.mono : ∀ a0 a1 k, LeO (laws_markBoolS.f k a0 a1) (laws_markBoolS.f (k + 1) a0 a1) := by
  intro a0 a1 k
  have ih0 := laws_markBoolS.mono_l k
  unfold laws_markBoolS.f
  repeat' first
      | (with_reducible exact ih0 _ _ _)
      | (with_reducible exact LeO.refl _)
      | (with_reducible exact LeO.none _)
      | (with_reducible refine LeO.ite ?_ ?_)
      | (with_reducible refine LeO.bind ?_ (fun _ => ?_))
      | exact ih0 _ _ _
      | exact LeO.none _
      | refine LeO.ite ?_ ?_
      | refine LeO.bind ?_ (fun _ => ?_)
set_option maxHeartbeats 8000000 in
set_option maxRecDepth 100000 in
theorem laws_markBoolS.calls (k : Nat) (P0_ : Nat → Prop) (u9000_ : Value) (l0 : List Bool) (a1 : Int) (r1 : Int) (r2 : List Bool) (w0 w : World) (hB : Below w0.heap.size w0 w) (ho0 : Kd.R Kd.bool 4 w w0.heap.size P0_ u9000_ l0) (h : laws_markBoolS.f k l0 a1 = some (r1, r2)) :
    Calls Try.prog 33 #[u9000_, .int .i64 a1] w fun e w' => e = .returned (.int .i64 r1) ∧ Kd.R Kd.bool 4 w' w0.heap.size (fun k_ => (P0_ k_ ∨ w.heap.size ≤ k_)) u9000_ r2 ∧ Below w0.heap.size w0 w' ∧ Kept w w' (fun k_ => P0_ k_) := by
  have HO0 := Aside0.mk (show Kd.R Kd.bool 4 w w0.heap.size (fun k_ => (P0_ k_ ∨ w.heap.size ≤ k_)) u9000_ l0 from Kd.R_mono ho0 (fun k_ hk => (.inl hk)))
  have HK := Aside0.mk (Kept.refl w (fun k_ => P0_ k_))
  have HW0 := Aside0.mk hB.size
  have HB := Aside0.mk hB
  clear hB
  have H : (laws_markBoolS.l0 k l0 a1 0) = some (r1, r2) := h
  clear h
  have H' := Aside0.mk H
  clear H
  go_enter Try.func33, Try.ntmps33
  go_wp2
  go_loopg [1, 5] k (fun kq v1 v5 w' => ∃ (x0_1 : List Bool) (x1_1 : Int) (x5_1 : Int), v1 = .int .i64 x1_1 ∧ v5 = .int .i64 x5_1 ∧ Aside0 (laws_markBoolS.l0 kq x0_1 x1_1 x5_1 = some (r1, r2)) ∧ Aside0 (kq ≤ k) ∧ Aside0 (Kd.R Kd.bool 4 w' w0.heap.size (fun k_ => (P0_ k_ ∨ w.heap.size ≤ k_)) u9000_ x0_1) ∧ Aside0 (Kept w w' (fun k_ => P0_ k_)) ∧ Aside0 (Below w0.heap.size w0 w'))
  case atStart => exact ⟨(l0), (a1), (0), (by first | rfl | (simp; done) | (simp [*]; done)), (by first | rfl | (simp; done) | (simp [*]; done)), H', ⟨Nat.le_refl _⟩, ⟨by (with_reducible repeat (first | apply Kd.R_alloc | apply Kd.R_drewN | apply Kd.R_drew)); exact HO0.out⟩, ⟨by repeat (first | (with_reducible first | exact HK.out | apply Kept.alloc | apply Kept.drewN | apply Kept.drew) | exact HK.out)⟩, ⟨by repeat (first | (with_reducible first | exact HB.out | apply below_alloc | apply pw_below_drewN | apply below_drew1) | exact HB.out)⟩⟩
  case round =>
    clear H'
    try clear p2
    obtain ⟨x0_1, x1_1, x5_1, rfl, rfl, HA, HK1, HO_0, HK, HB⟩ := hrel
    cases gk with
    | zero => exact absurd HA.out (by simp [laws_markBoolS.l0])
    | succ k1 =>
      have H := HA.out
      clear HA
      simp only [laws_markBoolS.l0] at H
      by_cases c3 : x5_1 < (x0_1.length : Int)
      · rw [if_pos c3] at H
        have c3b0 : decide (x5_1 < (x0_1.length : Int)) = true := decide_eq_true c3
        clear c3
        by_cases c4 : 0 ≤ x5_1
        · rw [if_pos c4] at H
          have c4b0 : decide (0 ≤ x5_1) = true := decide_eq_true c4
          clear c4
          obtain ⟨y231, hy231⟩ : ∃ y_ : List Bool, y_ = (x0_1.set (x5_1 : Int).toNat ((Int.tmod x1_1 3) == 0)) := ⟨_, rfl⟩
          replace H : (laws_markBoolS.l0 k1 y231 (wrap64 (x1_1 + 1)) (wrap64 (x5_1 + 1))) = some (r1, r2) := by first | (rw [hy231]; with_reducible exact H) | (have H2_ := (Option.bind_some _ _).symm.trans H; rw [hy231]; with_reducible exact H2_) | (have H2_ := (Option.bind_some _ _).symm.trans H; with_reducible exact H2_) | with_reducible exact H | (rw [hy231]; exact H) | exact H
          have Ny231 := Aside0.mk hy231
          clear hy231
          have H' := Aside0.mk H
          clear H
          obtain ⟨Ao6, co6, eo6⟩ := Kd.R_slice HO_0.out
          subst eo6
          have p5 : 0 ≤ (x5_1 : Int) := of_decide_eq_true (by first | (with_reducible assumption) | assumption)
          have q5 : (x5_1 : Int) < ((x0_1.length : Int) : Int) := of_decide_eq_true (by first | (with_reducible assumption) | assumption)
          obtain ⟨go5, co5, eo5, gb5, gl5, cl5, HG5⟩ := Kd.R_form HO_0.out (by omega)
          (first | cases eo5 | (injection eo5 with ea_ en_ ec_; (first | subst ea_ | (injection ea_ with ea_; subst ea_)); subst ec_; clear en_))
          have GB5 := Aside0.mk gb5
          have GG5 := Aside0.mk HG5
          clear gb5 gl5 HG5
          have HMgo5 := Aside0.mk (show (P0_ go5 ∨ w.heap.size ≤ go5) from (HO_0.out.1 _ rfl))
          obtain ⟨hx5_0, hf5_0⟩ := Kd.R_celln false HO_0.out (x5_1 : Int) p5 q5
          replace p5 := eq_true p5
          replace q5 := eq_true q5
          have HP7 := Kd.R_putg HO_0.out (x5_1 : Int) ((Int.tmod x1_1 3) == 0)
          go_wp2_with (first | ((with_reducible refine gate_store (t := 4) (p := 17) rfl ?_); refine store_event (t := 4) (p := 17) (v := ?vo_w8) (w1 := (wr.setCell ⟨go5, (x5_1 : Int).toNat, none⟩ (.bool ((Int.tmod x1_1 3) == 0)))) ?hg ?ho ?hn ?hr ?_; (case ho => rfl); (case hg => rfl); (case hn => rfl); (case hr => first | (go_simp; done) | (go_simp; rfl)); intro w8 hw; have hg : wr.grownBy w8 (some go5) := (by rw [hw]; exact HP7.2); have hp_ : Kd.R Kd.bool 4 w8 w0.heap.size (fun k_ => (P0_ k_ ∨ w.heap.size ≤ k_)) (.slice (some ⟨go5, 0, none⟩) x0_1.length co6) y231 := (by rw [hw, Ny231.out]; exact HP7.1); clear HP7; have n0_ := Aside0.mk (hp_); have n1_ := Aside0.mk ((by rw [hw]; exact below_set (HB.out) GB5.out : Below w0.heap.size w0 w8)); have n2_ := Aside0.mk (Kept.of_grown (S := (fun k_ => P0_ k_)) hg (by repeat (first | (with_reducible first | exact HK.out | apply Kept.alloc | apply Kept.drewN | apply Kept.drew) | exact HK.out)) (fun k_ e_ => (HO_0.out.1 k_ e_))); clear HO_0; clear HB; clear HK; have HO_0 := n0_; have HB := n1_; have HK := n2_; clear n0_ n1_ n2_; clear hg hw hp_))
          go_roundg k1
          case measure => have := HK1.out; omega
          case rel => exact ⟨(y231), (wrap64 (x1_1 + 1)), (wrap64 (x5_1 + 1)), (by first | rfl | (simp; done) | (simp [*]; done)), (by first | rfl | (simp; done) | (simp [*]; done)), H', ⟨by have := HK1.out; omega⟩, ⟨by (with_reducible repeat (first | apply Kd.R_alloc | apply Kd.R_drewN | apply Kd.R_drew)); exact HO_0.out⟩, ⟨by repeat (first | (with_reducible first | exact HK.out | apply Kept.alloc | apply Kept.drewN | apply Kept.drew) | exact HK.out)⟩, ⟨by repeat (first | (with_reducible first | exact HB.out | apply below_alloc | apply pw_below_drewN | apply below_drew1) | exact HB.out)⟩⟩
        · rw [if_neg c4] at H
          exact absurd H (by simp)
      · rw [if_neg c3] at H
        have c3b0 : decide (x5_1 < (x0_1.length : Int)) = false := decide_eq_false c3
        clear c3
        simp only [Option.some.injEq, Prod.mk.injEq] at H
        obtain ⟨rfl, rfl⟩ := H
        obtain ⟨Ao9, co9, eo9⟩ := Kd.R_slice HO_0.out
        subst eo9
        go_wp2
        go_ret
        exact ⟨by first | rfl | (simp [errW_none, errW_some] <;> rfl) | (simp [*, errW_none, errW_some] <;> rfl), by (with_reducible repeat (first | apply Kd.R_alloc | apply Kd.R_drewN | apply Kd.R_drew)); exact HO_0.out, by repeat (first | (with_reducible first | exact HB.out | apply below_alloc | apply pw_below_drewN | apply below_drew1) | exact HB.out), by repeat (first | (with_reducible first | exact HK.out | apply Kept.alloc | apply Kept.drewN | apply Kept.drew) | exact HK.out)⟩

end Go.Proofs.Ytnfiapcemafmiaa.PFnExactCrashDisk
