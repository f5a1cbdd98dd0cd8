-- Written by a program of this session over Lean's own print of the program.
import Derived.Test.YtnfiapcemafmiaaPFnExactNextBlockx0
import Derived.Test.YtnfiapcemafmiaaPFnExactNextBlockx2
import Derived.Test.YtnfiapcemafmiaaPFnExactNextBlockx3
import Derived.Test.YtnfiapcemafmiaaPFnExactNextBlockx4
namespace Go.Proofs.Ytnfiapcemafmiaa.PFnExactNextBlock
open Go.RowKit Go.Proofs.YtnfiapcemafmiaaW.PrintWords Go.Proofs.YtnfiapcemafmiaaW.PrintLast Go.Proofs.YtnfiapcemafmiaaW.PrintMore
attribute [local go_sem] max2_int min2_int max_two min_two max_three min_three max_four min_four   -- for this text's walks alone
set_option linter.unusedVariables false
set_option linter.unusedSimpArgs false

/-! ### spec_IsInode: function 100 -/
/-- spec.IsInode. -/
def spec_IsInode.f (k : Nat) (a0_0 a0_1 a0_2 a0_3 a0_4 a0_5 a0_6 : Int) (l0_7 : List Int) (l0_8 : List (S107)) (l0_9 : List (S107)) : Option Bool := if a0_0 = 0 then spec_SameInode.f k a0_0 a0_1 a0_2 a0_3 a0_4 a0_5 a0_6 l0_7 l0_8 l0_9 0 0 0 0 0 0 0 [] [] [] else (spec_IsAcl.f k l0_8).bind fun t8 => (spec_IsAcl.f k l0_9).bind fun t9 => if l0_7.length ≤ 4611686018427387904 then some (!(Lib.chainS a0_0 a0_1 a0_2 a0_3 a0_4 a0_5 a0_6 (l0_7.length : Int)) && (Lib.blkS [] l0_7 && (!Lib.tailS a0_0 a0_1 (l0_9.length : Int) && (t8 && t9)))) else none
theorem spec_IsInode.mono : ∀ a0 a1 a2 a3 a4 a5 a6 a7 a8 a9 k, LeO (spec_IsInode.f k a0 a1 a2 a3 a4 a5 a6 a7 a8 a9) (spec_IsInode.f (k + 1) a0 a1 a2 a3 a4 a5 a6 a7 a8 a9) := by
 intro a0 a1 a2 a3 a4 a5 a6 a7 a8 a9 k
 unfold spec_IsInode.f
 exact LeO.ite (spec_SameInode.mono _ _ _ _ _ _ _ _ _ _ _ _ _ _ _ _ _ _ _ _ _) (LeO.bind (spec_IsAcl.mono _ _) fun _ => LeO.bind (spec_IsAcl.mono _ _) fun _ => LeO.refl _)
set_option maxHeartbeats 8000000 in
set_option maxRecDepth 100000 in
theorem spec_IsInode.calls (k : Nat) (a0_0 a0_1 a0_2 a0_3 a0_4 a0_5 a0_6 : Int) (A0_7 : Option Addr) (c0_7 : Nat) (l0_7 : List Int) (A0_8 : Option Addr) (c0_8 : Nat) (l0_8 : List (S107)) (A0_9 : Option Addr) (c0_9 : Nat) (l0_9 : List (S107)) (r : Bool) (w : World) (hr0_7 : Kd.C (Kd.int .i64) w A0_7 l0_7.length l0_7) (hc0_7 : l0_7.length ≤ c0_7) (hr0_8 : Kd.C k107 w A0_8 l0_8.length l0_8) (hc0_8 : l0_8.length ≤ c0_8) (hr0_9 : Kd.C k107 w A0_9 l0_9.length l0_9) (hc0_9 : l0_9.length ≤ c0_9) (h : spec_IsInode.f k a0_0 a0_1 a0_2 a0_3 a0_4 a0_5 a0_6 l0_7 l0_8 l0_9 = some r) :
 Calls Try.prog 100 #[.agg #[.int .i64 a0_0, .int .i64 a0_1, .int .i64 a0_2, .int .i64 a0_3, .int .i64 a0_4, .int .i64 a0_5, .int .i64 a0_6, .slice A0_7 l0_7.length c0_7, .slice A0_8 l0_8.length c0_8, .slice A0_9 l0_9.length c0_9]] w fun e w' => e = .returned (.bool r) ∧ Below w.heap.size w w' := by
 have hu := Try.underlying25
 have HR7 := Aside0.mk hr0_7
 have HC7 := Aside0.mk hc0_7
 clear hr0_7 hc0_7
 have HR8 := Aside0.mk hr0_8
 have HC8 := Aside0.mk hc0_8
 clear hr0_8 hc0_8
 have HR9 := Aside0.mk hr0_9
 have HC9 := Aside0.mk hc0_9
 clear hr0_9 hc0_9
 unfold spec_IsInode.f at h
 by_cases c0 : a0_0 = 0
 ·
  rw [if_pos c0] at h
  have HH := Aside0.mk h
  have b0 : (a0_0 == 0) = true := beq_iff_eq.mpr c0
  clear c0 h
  go_enter Try.func100, Try.ntmps100
  go_wp2_with (first | ((with_reducible refine gate_dst (N := 1) rfl ?_); refine box_event rfl (N := 1) rfl (cs := #[.int .i64 a0_0, .int .i64 a0_1, .int .i64 a0_2, .int .i64 a0_3, .int .i64 a0_4, .int .i64 a0_5, .int .i64 a0_6, .slice A0_7 l0_7.length c0_7, .slice A0_8 l0_8.length c0_8, .slice A0_9 l0_9.length c0_9]) (t := 25) (by first | (go_simp; done) | (go_simp; rfl)) ?_; intro gb hg w1 hbox hb; have BK := Aside0.mk hbox; have HB := Aside0.mk hb; have HG : Aside0 (w.heap.size ≤ gb) := ⟨by rw [hg]; exact Nat.le_refl _⟩; have z0 := (blk_cell BK.out 0).trans rfl; have z1 := (blk_cell BK.out 1).trans rfl; have z2 := (blk_cell BK.out 2).trans rfl; have z3 := (blk_cell BK.out 3).trans rfl; have z4 := (blk_cell BK.out 4).trans rfl; have z5 := (blk_cell BK.out 5).trans rfl; have z6 := (blk_cell BK.out 6).trans rfl; have z7 := (blk_cell BK.out 7).trans rfl; have z8 := (blk_cell BK.out 8).trans rfl; have z9 := (blk_cell BK.out 9).trans rfl; clear hg hbox hb) | ((with_reducible refine gate_callee (f := 134) rfl ?_); refine goesL_ (some 10) rfl rfl Try.func134 (by kernel_rfl) rfl #[.agg #[.int .i64 a0_0, .int .i64 a0_1, .int .i64 a0_2, .int .i64 a0_3, .int .i64 a0_4, .int .i64 a0_5, .int .i64 a0_6, .slice A0_7 l0_7.length c0_7, .slice A0_8 l0_8.length c0_8, .slice A0_9 l0_9.length c0_9], .agg #[.int .i64 0, .int .i64 0, .int .i64 0, .int .i64 0, .int .i64 0, .int .i64 0, .int .i64 0, .slice none 0 0, .slice none 0 0, .slice none 0 0]] rfl (by simp only [List.map_toArray, List.map_cons, List.map_nil]; rfl) ?_; refine (spec_SameInode.calls k a0_0 a0_1 a0_2 a0_3 a0_4 a0_5 a0_6 _ _ l0_7 _ _ l0_8 _ _ l0_9 0 0 0 0 0 0 0 _ _ ([] : List Int) _ _ ([] : List (S107)) _ _ ([] : List (S107)) r w1 (Kd.C_below HR7.out HB.out) HC7.out (Kd.C_below HR8.out HB.out) HC8.out (Kd.C_below HR9.out HB.out) HC9.out (Kd.C_nil _ _) (Nat.zero_le _) (Kd.C_nil _ _) (Nat.zero_le _) (Kd.C_nil _ _) (Nat.zero_le _) HH.out).mono ?_; rintro e w2 ⟨rfl, hb⟩; refine ⟨_, rfl, ?_⟩; have HB := Aside0.mk (below_step HB.out hb); clear hb))
  go_ret
  exact ⟨rfl, HB.out⟩
 rw [if_neg c0] at h
 have b0 : (a0_0 == 0) = false := beq_eq_false_iff_ne.mpr c0
 obtain ⟨t8, h8, h⟩ := Option.bind_eq_some_iff.1 h
 obtain ⟨t9, h9, h⟩ := Option.bind_eq_some_iff.1 h
 by_cases hl : l0_7.length ≤ 4611686018427387904
 rotate_left
 ·
  rw [if_neg hl] at h
  cases h
 rw [if_pos hl] at h
 obtain rfl := Option.some.inj h
 have H8 := Aside0.mk h8
 have H9 := Aside0.mk h9
 have HL := Aside0.mk hl
 clear h8 h9 hl h
 go_enter Try.func100, Try.ntmps100
 go_upto_region 3 with (first | ((with_reducible refine gate_dst (N := 1) rfl ?_); refine box_event rfl (N := 1) rfl (cs := #[.int .i64 a0_0, .int .i64 a0_1, .int .i64 a0_2, .int .i64 a0_3, .int .i64 a0_4, .int .i64 a0_5, .int .i64 a0_6, .slice A0_7 l0_7.length c0_7, .slice A0_8 l0_8.length c0_8, .slice A0_9 l0_9.length c0_9]) (t := 25) (by first | (go_simp; done) | (go_simp; rfl)) ?_; intro gb hg w1 hbox hb; have BK := Aside0.mk hbox; have HB := Aside0.mk hb; have HG : Aside0 (w.heap.size ≤ gb) := ⟨by rw [hg]; exact Nat.le_refl _⟩; have z0 := (blk_cell BK.out 0).trans rfl; have z1 := (blk_cell BK.out 1).trans rfl; have z2 := (blk_cell BK.out 2).trans rfl; have z3 := (blk_cell BK.out 3).trans rfl; have z4 := (blk_cell BK.out 4).trans rfl; have z5 := (blk_cell BK.out 5).trans rfl; have z6 := (blk_cell BK.out 6).trans rfl; have z7 := (blk_cell BK.out 7).trans rfl; have z8 := (blk_cell BK.out 8).trans rfl; have z9 := (blk_cell BK.out 9).trans rfl; clear hg hbox hb))
 (try simp only [Act.put, List.setIfInBounds_toArray, List.set_cons_zero, List.set_cons_succ])
 clear b0 c0
 try clear z0 z1 z2 z3 z4 z5 z6 z7 z8 z9
 go_cut [63] (fun v wc => v = .bool (Lib.chainS a0_0 a0_1 a0_2 a0_3 a0_4 a0_5 a0_6 (l0_7.length : Int)) ∧ Aside0 (wc.heap[gb]? = some (.cells #[.int .i64 a0_0, .int .i64 a0_1, .int .i64 a0_2, .int .i64 a0_3, .int .i64 a0_4, .int .i64 a0_5, .int .i64 a0_6, .slice A0_7 l0_7.length c0_7, .slice A0_8 l0_8.length c0_8, .slice A0_9 l0_9.length c0_9] 25 (0, 0))) ∧ Aside0 (Below w.heap.size w wc))
 case first =>
  have HM : ∀ W, Below w1.heap.size w1 W → (W.cell? ⟨gb, 0, none⟩ = some (.int .i64 a0_0) ∧ W.cell? ⟨gb, 1, none⟩ = some (.int .i64 a0_1) ∧ W.cell? ⟨gb, 2, none⟩ = some (.int .i64 a0_2) ∧ W.cell? ⟨gb, 3, none⟩ = some (.int .i64 a0_3) ∧ W.cell? ⟨gb, 4, none⟩ = some (.int .i64 a0_4) ∧ W.cell? ⟨gb, 5, none⟩ = some (.int .i64 a0_5) ∧ W.cell? ⟨gb, 6, none⟩ = some (.int .i64 a0_6) ∧ W.cell? ⟨gb, 7, none⟩ = some (.slice A0_7 l0_7.length c0_7)) := fun W hb => ⟨(blk_cell (blk_below BK.out hb) 0).trans rfl, (blk_cell (blk_below BK.out hb) 1).trans rfl, (blk_cell (blk_below BK.out hb) 2).trans rfl, (blk_cell (blk_below BK.out hb) 3).trans rfl, (blk_cell (blk_below BK.out hb) 4).trans rfl, (blk_cell (blk_below BK.out hb) 5).trans rfl, (blk_cell (blk_below BK.out hb) 6).trans rfl, (blk_cell (blk_below BK.out hb) 7).trans rfl⟩
  refine Lib.q_start w1 Try.f100 (by kernel_rfl) rfl (by kernel_rfl) (Below.refl _ _) ?_
  refine Lib.q (.tmp 1) (.tmp 1) (h := ?_)
  refine Lib.q (.tmp 11) (.tmp 11) (h := ?_)
  refine Lib.q (.tmp 12) (.tmp 12) (h := ?_)
  refine Lib.q (.tmp 13) (.tmp 13) (h := ?_)
  refine Lib.q (.tmp 1) (.tmp 1) (h := ?_)
  refine Lib.q (.tmp 15) (.tmp 15) (h := ?_)
  refine Lib.q (.tmp 16) (.tmp 16) (h := ?_)
  refine Lib.q_and (.tmp 14) (.tmp 17) (h := ?_)
  refine Lib.q (.tmp 18) (.tmp 18) (h := ?_)
  refine Lib.q (.tmp 1) (.tmp 1) (h := ?_)
  refine Lib.q (.tmp 20) (.tmp 20) (h := ?_)
  refine Lib.q_call (.bool (Lib.inB a0_1 0 2047)) #[.int .i64 a0_1] Try.func135 (hcl := ?_) (h := ?_)
  ·
   exact fun _ W hb => Lib.of_drawn (spec_l06Mode.calls a0_1 _ W (by unfold spec_l06Mode.f spec_l01In.f Lib.inB; split <;> rfl))
  refine Lib.q (.tmp 22) (.tmp 22) (h := ?_)
  refine Lib.q_or (.tmp 19) (.tmp 23) (h := ?_)
  refine Lib.q (.tmp 24) (.tmp 24) (h := ?_)
  refine Lib.q (.tmp 1) (.tmp 1) (h := ?_)
  refine Lib.q (.tmp 26) (.tmp 26) (h := ?_)
  refine Lib.q_call (.bool (Lib.inB a0_2 0 3)) #[.int .i64 a0_2] Try.func64 (hcl := ?_) (h := ?_)
  ·
   exact fun _ W hb => Lib.of_drawn (spec_l06User.calls a0_2 _ W (by unfold spec_l06User.f spec_l01In.f Lib.inB; split <;> rfl))
  refine Lib.q (.tmp 28) (.tmp 28) (h := ?_)
  refine Lib.q_or (.tmp 25) (.tmp 29) (h := ?_)
  refine Lib.q (.tmp 30) (.tmp 30) (h := ?_)
  refine Lib.q (.tmp 1) (.tmp 1) (h := ?_)
  refine Lib.q (.tmp 32) (.tmp 32) (h := ?_)
  refine Lib.q_call (.bool (Lib.inB a0_3 0 3)) #[.int .i64 a0_3] Try.func64 (hcl := ?_) (h := ?_)
  ·
   exact fun _ W hb => Lib.of_drawn (spec_l06User.calls a0_3 _ W (by unfold spec_l06User.f spec_l01In.f Lib.inB; split <;> rfl))
  refine Lib.q (.tmp 34) (.tmp 34) (h := ?_)
  refine Lib.q_or (.tmp 31) (.tmp 35) (h := ?_)
  refine Lib.q (.tmp 36) (.tmp 36) (h := ?_)
  refine Lib.q (.tmp 1) (.tmp 1) (h := ?_)
  refine Lib.q (.tmp 38) (.tmp 38) (h := ?_)
  refine Lib.q_call (.bool (Lib.inB a0_4 0 1000)) #[.int .i64 a0_4, .int .i64 0, .int .i64 1000] Try.func99 (hcl := ?_) (h := ?_)
  ·
   exact fun _ W hb => Lib.of_drawn (spec_l01In.calls _ _ _ _ W (by unfold spec_l01In.f Lib.inB; split <;> rfl))
  refine Lib.q (.tmp 40) (.tmp 40) (h := ?_)
  refine Lib.q_or (.tmp 37) (.tmp 41) (h := ?_)
  refine Lib.q (.tmp 42) (.tmp 42) (h := ?_)
  refine Lib.q (.tmp 1) (.tmp 1) (h := ?_)
  refine Lib.q (.tmp 44) (.tmp 44) (h := ?_)
  refine Lib.q_call (.bool (Lib.inB a0_5 0 256)) #[.int .i64 a0_5, .int .i64 0, .int .i64 256] Try.func99 (hcl := ?_) (h := ?_)
  ·
   exact fun _ W hb => Lib.of_drawn (spec_l01In.calls _ _ _ _ W (by unfold spec_l01In.f Lib.inB; split <;> rfl))
  refine Lib.q (.tmp 46) (.tmp 46) (h := ?_)
  refine Lib.q_or (.tmp 43) (.tmp 47) (h := ?_)
  refine Lib.q (.tmp 48) (.tmp 48) (h := ?_)
  refine Lib.q (.tmp 1) (.tmp 1) (h := ?_)
  refine Lib.q (.tmp 50) (.tmp 50) (h := ?_)
  refine Lib.q_call (.bool (Lib.inB a0_6 0 1000000000)) #[.int .i64 a0_6, .int .i64 0, .int .i64 1000000000] Try.func99 (hcl := ?_) (h := ?_)
  ·
   exact fun _ W hb => Lib.of_drawn (spec_l01In.calls _ _ _ _ W (by unfold spec_l01In.f Lib.inB; split <;> rfl))
  refine Lib.q (.tmp 52) (.tmp 52) (h := ?_)
  refine Lib.q_or (.tmp 49) (.tmp 53) (h := ?_)
  refine Lib.q (.tmp 54) (.tmp 54) (h := ?_)
  refine Lib.q (.tmp 1) (.tmp 1) (h := ?_)
  refine Lib.q (.tmp 56) (.tmp 56) (h := ?_)
  refine Lib.q (.tmp 57) (.tmp 57) (h := ?_)
  refine Lib.q (.tmp 1) (.tmp 1) (h := ?_)
  refine Lib.q (.tmp 59) (.tmp 59) (h := ?_)
  refine Lib.q_call (.int .i64 (Lib.needB a0_5)) #[.int .i64 a0_5] Try.func49 (hcl := ?_) (h := ?_)
  ·
   exact fun _ W hb => Lib.of_drawn (spec_BlocksNeeded.calls a0_5 _ W (by unfold spec_BlocksNeeded.f Lib.needB; split <;> rfl))
  refine Lib.q (.tmp 58) (.tmp 61) (h := ?_)
  refine Lib.q_or (.tmp 55) (.tmp 62) (h := ?_)
  refine Lib.q_done (fun W hb => ?_)
  try go_wp2
  go_meet
  case rel => exact ⟨rfl, ⟨blk_below BK.out hb⟩, ⟨below_step HB.out hb⟩⟩
 case rest =>
  clear BK HB
  obtain ⟨rfl, BK, HB⟩ := hcut
  cases hch : (Lib.chainS a0_0 a0_1 a0_2 a0_3 a0_4 a0_5 a0_6 (l0_7.length : Int)) with
  | true =>
   go_wp2
   go_ret
   exact ⟨by rw [hch]; rfl, HB.out⟩
  | false =>
   have z7 : wc.cell? ⟨gb, 7, none⟩ = some (.slice A0_7 l0_7.length c0_7) := (blk_cell BK.out 7).trans rfl
   go_wp2
   go_loopg [67] (l0_7.length + 1) (fun kq v w' => ∃ i : Nat, v = .int .i64 (i : Int) ∧ Aside0 (i ≤ l0_7.length ∧ l0_7.length - i < kq) ∧ Aside0 (Lib.blkS (l0_7.take i) (l0_7.drop i) = Lib.blkS [] l0_7) ∧ Aside0 (w'.heap[gb]? = some (.cells #[.int .i64 a0_0, .int .i64 a0_1, .int .i64 a0_2, .int .i64 a0_3, .int .i64 a0_4, .int .i64 a0_5, .int .i64 a0_6, .slice A0_7 l0_7.length c0_7, .slice A0_8 l0_8.length c0_8, .slice A0_9 l0_9.length c0_9] 25 (0, 0))) ∧ Aside0 (Below w.heap.size w w'))
   case atStart => exact ⟨0, rfl, ⟨by omega⟩, ⟨rfl⟩, BK, HB⟩
   case round =>
    clear z7 BK HB
    obtain ⟨i, rfl, HX, HJ, BK, HB⟩ := hrel
    cases gk with
    | zero => exact absurd HX.out.2 (by omega)
    | succ k1 =>
     by_cases c : i < l0_7.length
     ·
      have HI := Aside0.mk c
      have hD := Lib.drop_rd (0 : Int) l0_7 i c
      have hT := Lib.take_rd (0 : Int) l0_7 i c
      have HD : Aside0 (Lib.blkS (l0_7.take i) (l0_7.drop i) = ((Lib.inB (rd l0_7 i) (-1) 999 && !(rd l0_7 i != -1 && (l0_7.take i).any (· == rd l0_7 i))) && Lib.blkS (l0_7.take (i + 1)) (l0_7.drop (i + 1)))) := ⟨by rw [hD, hT]; rfl⟩
      clear hD hT
      obtain ⟨ad, e0, hx⟩ := Kd.at_int (Kd.C_below HR7.out HB.out) (i : Int) (by omega) (by omega)
      cases e0
      simp only [Int.toNat_natCast] at hx
      have b4 : decide ((i : Int) < (l0_7.length : Int)) = true := decide_eq_true (by omega)
      have b5 := eq_true (show (i : Int) < (l0_7.length : Int) by omega)
      have b6 := eq_true (show 0 ≤ (i : Int) by omega)
      go_upto_region 8 with (fail)
      go_cut [86] (fun v wc => v = .bool (!Lib.inB (rd l0_7 i) (-1) 999 || (rd l0_7 i != -1 && (l0_7.take i).any (· == rd l0_7 i))) ∧ Aside0 (wc.heap[gb]? = some (.cells #[.int .i64 a0_0, .int .i64 a0_1, .int .i64 a0_2, .int .i64 a0_3, .int .i64 a0_4, .int .i64 a0_5, .int .i64 a0_6, .slice (some ad) l0_7.length c0_7, .slice A0_8 l0_8.length c0_8, .slice A0_9 l0_9.length c0_9] 25 (0, 0))) ∧ Aside0 (Below w.heap.size w wc))
      case first =>
       obtain ⟨ti, hti, htz⟩ := Option.map_eq_some_iff.1 (show (Try.prog.info? 3).map (fun i => i.size) = some 1 by kernel_rfl)
       obtain ⟨hcut, _, _⟩ := print_take_of (P := Try.prog) (Value.int .i64) 0 22 3 .i64 Try.underlying22 hti htz (some ad) c0_7 l0_7 (i : Int) (by omega) (by omega) HC7.out
       have hlt : (l0_7.take i).length = i := by rw [List.length_take]; omega
       simp only [Int.toNat_natCast, hlt] at hcut
       have HLT := Aside0.mk hlt
       clear hlt
       have HM : ∀ W, Below wr.heap.size wr W → (W.cell? ⟨gb, 7, none⟩ = some (.slice (some ad) l0_7.length c0_7)) := fun W hb => (blk_cell (blk_below BK.out hb) 7).trans rfl
       refine Lib.q_plain wr Try.f100 rfl (Below.refl _ _) ?_
       refine Lib.q (.tmp 4) (.tmp 4) (h := ?_)
       refine Lib.q_call (.bool (Lib.inB (rd l0_7 i) (-1) 999)) #[.int .i64 (rd l0_7 i), .int .i64 (-1), .int .i64 999] Try.func99 (hcl := ?_) (h := ?_)
       ·
        exact fun _ W hb => Lib.of_drawn (spec_l01In.calls _ _ _ _ W (by unfold spec_l01In.f Lib.inB; split <;> rfl))
       refine Lib.q (.tmp 73) (.tmp 73) (h := ?_)
       refine Lib.q (.tmp 74) (.tmp 74) (h := ?_)
       refine Lib.q (.tmp 4) (.tmp 4) (h := ?_)
       refine Lib.q (.tmp 76) (.tmp 76) (h := ?_)
       refine Lib.q (.tmp 77) (.tmp 77) (h := ?_)
       refine Lib.q (.tmp 1) (.tmp 1) (h := ?_)
       refine Lib.q (.tmp 79) (.tmp 79) (h := ?_)
       refine Lib.q (.tmp 3) (.tmp 3) (h := ?_)
       refine Lib.q (.tmp 80) (.tmp 81) (h := ?_)
       refine Lib.q (.tmp 4) (.tmp 4) (h := ?_)
       refine Lib.q_call (.bool ((l0_7.take i).any (· == rd l0_7 i))) #[.slice (some ad) i c0_7, .int .i64 (rd l0_7 i)] Try.func136 (hcl := ?_) (h := ?_)
       ·
        exact fun _ W hb => by have hh := spec_l02Has.calls (some ad) c0_7 (l0_7.take i) (rd l0_7 i) _ W (Kd.C_take (Kd.C_below HR7.out (below_step HB.out hb)) (Nat.le_of_lt HI.out)) (by rw [List.length_take]; have := HC7.out; omega) (if_pos (by rw [List.length_take]; have := HL.out; omega)); rw [HLT.out] at hh; exact hh
       refine Lib.q_and (.tmp 78) (.tmp 84) (h := ?_)
       refine Lib.q_or (.tmp 75) (.tmp 85) (h := ?_)
       refine Lib.q_done (fun W hb => ?_)
       try go_wp2
       go_meet
       case rel => exact ⟨rfl, ⟨blk_below BK.out hb⟩, ⟨below_step HB.out hb⟩⟩
      case rest =>
       clear BK HB
       obtain ⟨rfl, BK, HB⟩ := hcut
       have hX := Lib.blkS_x (rd l0_7 i) ((l0_7.take i).any (· == rd l0_7 i))
       cases hv : (!Lib.inB (rd l0_7 i) (-1) 999 || (rd l0_7 i != -1 && (l0_7.take i).any (· == rd l0_7 i))) with
       | true =>
        have hF : Lib.blkS [] l0_7 = false := by rw [← HJ.out, HD.out, hX, hv]; rfl
        clear hX hv
        go_wp2
        go_ret
        exact ⟨by rw [hch, hF]; rfl, HB.out⟩
       | false =>
        have HF : Aside0 (Lib.blkS (l0_7.take (i + 1)) (l0_7.drop (i + 1)) = Lib.blkS [] l0_7) := ⟨by rw [← HJ.out, HD.out, hX, hv]; rfl⟩
        clear hX hv
        go_wp2
        go_roundg k1
        case measure => exact Nat.lt_succ_self _
        case rel => exact ⟨i + 1, by rw [show wrap64 ((i : Int) + 1) = ((i + 1 : Nat) : Int) by have := HL.out; unfold wrap64; omega], ⟨by have := HX.out; omega⟩, HF, BK, HB⟩
     ·
      have hF : Lib.blkS [] l0_7 = true := by rw [← HJ.out, List.drop_eq_nil_of_le (by omega)]; rfl
      have HF := Aside0.mk hF
      clear hF
      have b4 : decide ((i : Int) < (l0_7.length : Int)) = false := decide_eq_false (by omega)
      have b5 := eq_false (show ¬ (i : Int) < (l0_7.length : Int) by omega)
      go_upto_region 11 with (fail)
      go_cut [102] (fun v wc => v = .bool (Lib.tailS a0_0 a0_1 (l0_9.length : Int)) ∧ Aside0 (wc.heap[gb]? = some (.cells #[.int .i64 a0_0, .int .i64 a0_1, .int .i64 a0_2, .int .i64 a0_3, .int .i64 a0_4, .int .i64 a0_5, .int .i64 a0_6, .slice A0_7 l0_7.length c0_7, .slice A0_8 l0_8.length c0_8, .slice A0_9 l0_9.length c0_9] 25 (0, 0))) ∧ Aside0 (Below w.heap.size w wc))
      case first =>
       have HM : ∀ W, Below wr.heap.size wr W → (W.cell? ⟨gb, 0, none⟩ = some (.int .i64 a0_0) ∧ W.cell? ⟨gb, 1, none⟩ = some (.int .i64 a0_1) ∧ W.cell? ⟨gb, 9, none⟩ = some (.slice A0_9 l0_9.length c0_9)) := fun W hb => ⟨(blk_cell (blk_below BK.out hb) 0).trans rfl, (blk_cell (blk_below BK.out hb) 1).trans rfl, (blk_cell (blk_below BK.out hb) 9).trans rfl⟩
       refine Lib.q_plain wr Try.f100 rfl (Below.refl _ _) ?_
       refine Lib.q (.tmp 1) (.tmp 1) (h := ?_)
       refine Lib.q (.tmp 88) (.tmp 88) (h := ?_)
       refine Lib.q (.tmp 89) (.tmp 89) (h := ?_)
       refine Lib.q (.tmp 90) (.tmp 90) (h := ?_)
       refine Lib.q (.tmp 1) (.tmp 1) (h := ?_)
       refine Lib.q (.tmp 92) (.tmp 92) (h := ?_)
       refine Lib.q (.tmp 93) (.tmp 93) (h := ?_)
       refine Lib.q (.tmp 94) (.tmp 94) (h := ?_)
       refine Lib.q (.tmp 95) (.tmp 95) (h := ?_)
       refine Lib.q (.tmp 1) (.tmp 1) (h := ?_)
       refine Lib.q (.tmp 97) (.tmp 97) (h := ?_)
       refine Lib.q (.tmp 98) (.tmp 98) (h := ?_)
       refine Lib.q (.tmp 99) (.tmp 99) (h := ?_)
       refine Lib.q_or (.tmp 96) (.tmp 100) (h := ?_)
       refine Lib.q_and (.tmp 91) (.tmp 101) (h := ?_)
       refine Lib.q_done (fun W hb => ?_)
       try go_wp2
       go_meet
       case rel => exact ⟨by rw [show decide (0 < l0_9.length) = decide (0 < (l0_9.length : Int)) from decide_eq_decide.2 (by omega)]; rfl, ⟨blk_below BK.out hb⟩, ⟨below_step HB.out hb⟩⟩
      case rest =>
       clear BK HB
       obtain ⟨rfl, BK, HB⟩ := hcut
       cases ht : Lib.tailS a0_0 a0_1 (l0_9.length : Int) with
       | true =>
        go_wp2
        go_ret
        exact ⟨by rw [hch, HF.out, ht]; rfl, HB.out⟩
       | false =>
        go_upto_region 13 with (fail)
        have HM : ∀ W, Below wc.heap.size wc W → (W.cell? ⟨gb, 8, none⟩ = some (.slice A0_8 l0_8.length c0_8) ∧ W.cell? ⟨gb, 9, none⟩ = some (.slice A0_9 l0_9.length c0_9)) := fun W hb => ⟨(blk_cell (blk_below BK.out hb) 8).trans rfl, (blk_cell (blk_below BK.out hb) 9).trans rfl⟩
        refine Lib.q_plain wc Try.f100 rfl (Below.refl _ _) ?_
        refine Lib.q (.tmp 1) (.tmp 1) (h := ?_)
        refine Lib.q (.tmp 103) (.tmp 103) (h := ?_)
        refine Lib.q_call (.bool t8) #[.slice A0_8 l0_8.length c0_8] Try.func137 (hcl := ?_) (h := ?_)
        ·
         exact fun _ W hb => spec_IsAcl.calls k _ _ l0_8 t8 W (Kd.C_below HR8.out (below_step HB.out hb)) HC8.out H8.out
        refine Lib.q (.tmp 105) (.tmp 105) (h := ?_)
        refine Lib.q (.tmp 1) (.tmp 1) (h := ?_)
        refine Lib.q (.tmp 107) (.tmp 107) (h := ?_)
        refine Lib.q_call (.bool t9) #[.slice A0_9 l0_9.length c0_9] Try.func137 (hcl := ?_) (h := ?_)
        ·
         exact fun _ W hb => spec_IsAcl.calls k _ _ l0_9 t9 W (Kd.C_below HR9.out (below_step HB.out hb)) HC9.out H9.out
        refine Lib.q_and (.tmp 106) (.tmp 109) (h := ?_)
        refine Lib.q (.tmp 110) (.tmp 110) (h := ?_)
        refine Lib.q_done (fun W hb => ?_)
        go_wp2
        go_ret
        exact ⟨by rw [hch, HF.out, ht]; rfl, below_step HB.out hb⟩

/-! ### spec_BlockOwner: function 138 -/
def spec_BlockOwner.f (a0 : Int) : Option (Int) := (spec_l01In.f a0 0 55).bind fun t129 => (if t129 = true then (some (wrap64 (Int.tdiv a0 14))) else (some (-1)))
set_option maxHeartbeats 8000000 in
set_option maxRecDepth 100000 in
theorem spec_BlockOwner.calls (a0 : Int) (r : Int) (w : World) (h : spec_BlockOwner.f a0 = some r) :
 Calls Try.prog 138 #[.int .i64 a0] w fun e w' => e = .returned (.int .i64 r) ∧ Drawn0 w w' := by
 have H : ((spec_l01In.f a0 0 55).bind fun t129 => (if t129 = true then (some (wrap64 (Int.tdiv a0 14))) else (some (-1)))) = some r := h
 clear h
 replace H := Option.bind_eq_some_iff.mp H
 obtain ⟨t129, A20, H⟩ := H
 replace H : (if t129 = true then (some (wrap64 (Int.tdiv a0 14))) else (some (-1))) = some r := H
 have A2 := Aside0.mk A20
 clear A20
 by_cases c3 : t129 = true
 ·
  subst c3
  have H1 : (some (wrap64 (Int.tdiv a0 14))) = some r := by rw [if_pos rfl] at H; exact H
  clear H
  have H := H1
  clear H1
  obtain rfl := Option.some.inj H
  go_enter Try.func138, Try.ntmps138
  go_wp2_with (first | ((with_reducible refine gate_callee (f := 99) rfl ?_); refine goesL_ (some 4) rfl rfl Try.func99 (by kernel_rfl) rfl #[.int .i64 a0, .int .i64 0, .int .i64 55] rfl (by (try simp only [List.map_toArray, List.map_cons, List.map_nil]); first | done | rfl | (simp only [List.length_drop, List.length_take]; rfl)) ?_; (with_reducible refine (spec_l01In.calls a0 0 55 true _ A2.out).mono ?_); rintro e w' ⟨rfl, ⟨nd, rfl⟩⟩; refine ⟨_, rfl, ?_⟩))
  go_ret
  exact ⟨by first | rfl | (simp; done) | (simp [*]; done), by repeat (first | exact Drawn0.refl _ | apply Drawn0.step)⟩
 ·
  replace c3 := Bool.eq_false_iff.mpr c3
  subst c3
  have H1 : (some (-1)) = some r := by rw [if_neg (show ¬ (false = true) by decide)] at H; exact H
  clear H
  have H := H1
  clear H1
  obtain rfl := Option.some.inj H
  go_enter Try.func138, Try.ntmps138
  go_wp2_with (first | ((with_reducible refine gate_callee (f := 99) rfl ?_); refine goesL_ (some 4) rfl rfl Try.func99 (by kernel_rfl) rfl #[.int .i64 a0, .int .i64 0, .int .i64 55] rfl (by (try simp only [List.map_toArray, List.map_cons, List.map_nil]); first | done | rfl | (simp only [List.length_drop, List.length_take]; rfl)) ?_; (with_reducible refine (spec_l01In.calls a0 0 55 false _ A2.out).mono ?_); rintro e w' ⟨rfl, ⟨nd, rfl⟩⟩; refine ⟨_, rfl, ?_⟩))
  go_ret
  exact ⟨by first | rfl | (simp; done) | (simp [*]; done), by repeat (first | exact Drawn0.refl _ | apply Drawn0.step)⟩

/-! ### spec_l08Used: function 101 -/
mutual
def spec_l08Used.l0 : Nat → List Bool → List (S25) → Int → Int → Option (List Bool × Bool)
 | 0, _, _, _, _ => none
 | k + 1, x4, x11, x12, x13 => if x13 < x12 then (if 0 ≤ x13 then (if x13 < (x11.length : Int) then (spec_l08Used.l1 k x4 x11 x12 x13 ((rd_T25 x11 x13).f7) (((rd_T25 x11 x13).f7).length : Int) 0 ((rd_T25 x11 x13).f0) ((rd_T25 x11 x13).f1) ((rd_T25 x11 x13).f2) ((rd_T25 x11 x13).f3) ((rd_T25 x11 x13).f4) ((rd_T25 x11 x13).f5) ((rd_T25 x11 x13).f6) ((rd_T25 x11 x13).f7) ((rd_T25 x11 x13).f8) ((rd_T25 x11 x13).f9)) else (none)) else (none)) else (some (x4, true))
def spec_l08Used.l1 : Nat → List Bool → List (S25) → Int → Int → List Int → Int → Int → Int → Int → Int → Int → Int → Int → Int → List Int → List (S107) → List (S107) → Option (List Bool × Bool)
 | 0, _, _, _, _, _, _, _, _, _, _, _, _, _, _, _, _, _ => none
 | k + 1, x4, x11, x12, x13, x18, x19, x20, x136000, x136001, x136002, x136003, x136004, x136005, x136006, x136007, x136008, x136009 => if x20 < x19 then (if 0 ≤ x20 then (if x20 < (x18.length : Int) then (if (rd x18 x20) = (-1) then (spec_l08Used.l1 k x4 x11 x12 x13 x18 x19 (wrap64 (x20 + 1)) x136000 x136001 x136002 x136003 x136004 x136005 x136006 x136007 x136008 x136009) else ((spec_BlockOwner.f (rd x18 x20)).bind fun t137 => (if t137 = x136002 then (if 0 ≤ (rd x18 x20) then (if (rd x18 x20) < (x4.length : Int) then (if rdOf false x4 (rd x18 x20) = true then (some (([] : List Bool), false)) else (spec_l08Used.l1 k (x4.set ((rd x18 x20) : Int).toNat true) x11 x12 x13 x18 x19 (wrap64 (x20 + 1)) x136000 x136001 x136002 x136003 x136004 x136005 x136006 x136007 x136008 x136009)) else (none)) else (none)) else (some (([] : List Bool), false))))) else (none)) else (none)) else (spec_l08Used.l0 k x4 x11 x12 (wrap64 (x13 + 1)))
end
def spec_l08Used.f (k : Nat) (a0_0 : Int) (l0_1 : List (S112)) (l0_2 : List (S25)) (l0_3 : List ByteArray) : Option (List Bool × Bool) := if 56 ≤ 281474976710656 then (spec_l08Used.l0 k (List.replicate 56 false) l0_2 (l0_2.length : Int) 0) else (none)
theorem spec_l08Used.mono_l : ∀ k, (∀ y0 y1 y2 y3, LeO (spec_l08Used.l0 k y0 y1 y2 y3) (spec_l08Used.l0 (k + 1) y0 y1 y2 y3)) ∧ (∀ y0 y1 y2 y3 y4 y5 y6 y7 y8 y9 y10 y11 y12 y13 y14 y15 y16, LeO (spec_l08Used.l1 k y0 y1 y2 y3 y4 y5 y6 y7 y8 y9 y10 y11 y12 y13 y14 y15 y16) (spec_l08Used.l1 (k + 1) y0 y1 y2 y3 y4 y5 y6 y7 y8 y9 y10 y11 y12 y13 y14 y15 y16))
 | 0 => ⟨fun _ _ _ _ r h => by simp [spec_l08Used.l0] at h, fun _ _ _ _ _ _ _ _ _ _ _ _ _ _ _ _ _ r h => by simp [spec_l08Used.l1] at h⟩
 | k + 1 => by
  obtain ⟨ih0, ih1⟩ := spec_l08Used.mono_l k
  refine ⟨?_, ?_⟩
  ·
   intro y0 y1 y2 y3
   unfold spec_l08Used.l0
   repeat' first
   | (with_reducible exact ih0 _ _ _ _)
   | (with_reducible exact ih1 _ _ _ _ _ _ _ _ _ _ _ _ _ _ _ _ _)
   | (with_reducible exact LeO.refl _)
   | (with_reducible exact LeO.none _)
   | (with_reducible refine LeO.ite ?_ ?_)
   | (with_reducible refine LeO.bind ?_ (fun _ => ?_))
   | exact ih0 _ _ _ _
   | exact ih1 _ _ _ _ _ _ _ _ _ _ _ _ _ _ _ _ _
   | exact LeO.none _
   | refine LeO.ite ?_ ?_
   | refine LeO.bind ?_ (fun _ => ?_)
  ·
   intro y0 y1 y2 y3 y4 y5 y6 y7 y8 y9 y10 y11 y12 y13 y14 y15 y16
   unfold spec_l08Used.l1
   repeat' first
   | (with_reducible exact ih0 _ _ _ _)
   | (with_reducible exact ih1 _ _ _ _ _ _ _ _ _ _ _ _ _ _ _ _ _)
   | (with_reducible exact LeO.refl _)
   | (with_reducible exact LeO.none _)
   | (with_reducible refine LeO.ite ?_ ?_)
   | (with_reducible refine LeO.bind ?_ (fun _ => ?_))
   | exact ih0 _ _ _ _
   | exact ih1 _ _ _ _ _ _ _ _ _ _ _ _ _ _ _ _ _
   | exact LeO.none _
   | refine LeO.ite ?_ ?_
   | refine LeO.bind ?_ (fun _ => ?_)
theorem spec_l08Used.mono : ∀ a0 a1 a2 a3 k, LeO (spec_l08Used.f k a0 a1 a2 a3) (spec_l08Used.f (k + 1) a0 a1 a2 a3) := by
 intro a0 a1 a2 a3 k
 obtain ⟨ih0, ih1⟩ := spec_l08Used.mono_l k
 unfold spec_l08Used.f
 repeat' first
  | (with_reducible exact ih0 _ _ _ _)
  | (with_reducible exact ih1 _ _ _ _ _ _ _ _ _ _ _ _ _ _ _ _ _)
  | (with_reducible exact LeO.refl _)
  | (with_reducible exact LeO.none _)
  | (with_reducible refine LeO.ite ?_ ?_)
  | (with_reducible refine LeO.bind ?_ (fun _ => ?_))
  | exact ih0 _ _ _ _
  | exact ih1 _ _ _ _ _ _ _ _ _ _ _ _ _ _ _ _ _
  | exact LeO.none _
  | refine LeO.ite ?_ ?_
  | refine LeO.bind ?_ (fun _ => ?_)
set_option maxHeartbeats 8000000 in
set_option maxRecDepth 100000 in
theorem spec_l08Used.calls (k : Nat) (a0_0 : Int) (A0_1 : Option Addr) (c0_1 : Nat) (l0_1 : List (S112)) (A0_2 : Option Addr) (c0_2 : Nat) (l0_2 : List (S25)) (A0_3 : Option Addr) (c0_3 : Nat) (l0_3 : List ByteArray) (r1 : List Bool) (r2 : Bool) (w : World) (hr0_1 : Kd.C k112 w A0_1 l0_1.length l0_1) (hc0_1 : l0_1.length ≤ c0_1) (hr0_2 : Kd.C k25 w A0_2 l0_2.length l0_2) (hc0_2 : l0_2.length ≤ c0_2) (hr0_3 : Kd.C Kd.string w A0_3 l0_3.length l0_3) (hc0_3 : l0_3.length ≤ c0_3) (h : spec_l08Used.f k a0_0 l0_1 l0_2 l0_3 = some (r1, r2)) :
 Calls Try.prog 101 #[.agg #[.int .i64 a0_0, .slice A0_1 l0_1.length c0_1, .slice A0_2 l0_2.length c0_2, .slice A0_3 l0_3.length c0_3]] w fun e w' => ∃ v0_ : Value, e = .returned (.tuple #[v0_, .bool r2]) ∧ Kd.R Kd.bool 4 w' w.heap.size (fun _ => True) v0_ r1 ∧ Below w.heap.size w w' := by
 have hu42 := Try.underlying42
 have hu25 := Try.underlying25
 have HR0_1 := Aside0.mk hr0_1
 have HC0_1 := Aside0.mk hc0_1
 clear hr0_1 hc0_1
 have HR0_2 := Aside0.mk hr0_2
 have HC0_2 := Aside0.mk hc0_2
 clear hr0_2 hc0_2
 have HR0_3 := Aside0.mk hr0_3
 have HC0_3 := Aside0.mk hc0_3
 clear hr0_3 hc0_3
 have HB := Aside0.mk (Below.refl w.heap.size w)
 have H : (if 56 ≤ 281474976710656 then (spec_l08Used.l0 k (List.replicate 56 false) l0_2 (l0_2.length : Int) 0) else (none)) = some (r1, r2) := h
 clear h
 by_cases c2 : 56 ≤ 281474976710656
 ·
  rw [if_pos c2] at H
  have c2b0 := eq_true c2
  have c2b1 : decide (56 ≤ 281474976710656) = true := decide_eq_true c2
  clear c2
  obtain ⟨y131, hy131⟩ : ∃ y_ : List Bool, y_ = (List.replicate 56 false) := ⟨_, rfl⟩
  replace H : (spec_l08Used.l0 k y131 l0_2 (l0_2.length : Int) 0) = some (r1, r2) := by first | (rw [hy131]; with_reducible exact H) | (have H2_ := (Option.bind_some _ _).symm.trans H; rw [hy131]; with_reducible exact H2_) | (have H2_ := (Option.bind_some _ _).symm.trans H; with_reducible exact H2_) | with_reducible exact H | (rw [hy131]; exact H) | exact H
  have Ny131 := Aside0.mk hy131
  clear hy131
  have H' := Aside0.mk H
  clear H
  go_enter Try.func101, Try.ntmps101
  go_wp2_with (first | ((with_reducible refine gate_dst (N := 1) rfl ?_); refine box_event ?hg (N := 1) ?hd (cs := #[.int .i64 a0_0, .slice A0_1 l0_1.length c0_1, .slice A0_2 l0_2.length c0_2, .slice A0_3 l0_3.length c0_3]) (t := 42) ?hr ?_; (case hd => rfl); (case hg => rfl); (case hr => first | (go_simp; done) | (go_simp; rfl)); intro gb130 hg w3 hbox hb; have n0_ := Aside0.mk (below_step (by exact Lib.bw HB.out) hb); have n1_ := Aside0.mk (hbox); have n2_ := Aside0.mk ((by rw [hg]; exact (below_size (by exact Lib.bw HB.out)) : w.heap.size ≤ gb130)); have n3_ := Aside0.mk ((by rw [hg]; exact (below_size (by exact Lib.bw HB.out)) : w.heap.size ≤ gb130)); clear HB; have HB := n0_; have BK130 := n1_; have GW130 := n2_; have GE130 := n3_; clear n0_ n1_ n2_ n3_; clear hb hbox hg) | ((with_reducible refine gate_dst (N := 9) rfl ?_); refine Kd.R_make Kd.bool _ 4 rfl (N := 9) rfl 58 _ _ rfl 56 rfl rfl Try.underlying58 (.bool false) 1 info4 rfl (by decide) (by omega) false (ok := fun _ => True) (okp := fun _ => True) rfl (fun _ hk => hk) trivial (by omega) (by omega) (Below.refl _ _) (Nat.le_refl _) ?_; intro v132 w4 ho5 hb hg_ hnew_; clear hg_ hnew_; (first | rw [← Ny131.out] at ho5 | (simp only [Int.reduceToNat] at ho5; rw [← Ny131.out] at ho5)); have n0_ := Aside0.mk (Kd.R_lower ho5 (below_size (by exact Lib.bs HB.out GE130.out))); have n1_ := Aside0.mk (blk_below (g := gb130) (o := .cells #[.int .i64 a0_0, .slice A0_1 l0_1.length c0_1, .slice A0_2 l0_2.length c0_2, .slice A0_3 l0_3.length c0_3] 42 (0, 0)) (by exact Lib.bk BK130.out) hb); have n2_ := Aside0.mk (below_step (by exact Lib.bs HB.out GE130.out) hb); clear BK130; clear HB; have HO133 := n0_; have BK130 := n1_; have HB := n2_; clear n0_ n1_ n2_; clear hb ho5; obtain ⟨hcz6_0, hcz6_1, hcz6_2, hcz6_3, hfz6_0, hfz6_1, hfz6_2, hfz6_3⟩ := Lib.cel4 (W := w4) BK130.out))
  repeat (go_quiet (first | ((with_reducible refine gate_dst (N := 1) rfl ?_); refine box_event ?hg (N := 1) ?hd (cs := #[.int .i64 a0_0, .slice A0_1 l0_1.length c0_1, .slice A0_2 l0_2.length c0_2, .slice A0_3 l0_3.length c0_3]) (t := 42) ?hr ?_; (case hd => rfl); (case hg => rfl); (case hr => first | (go_simp; done) | (go_simp; rfl)); intro gb130 hg w3 hbox hb; have n0_ := Aside0.mk (below_step (by exact Lib.bw HB.out) hb); have n1_ := Aside0.mk (hbox); have n2_ := Aside0.mk ((by rw [hg]; exact (below_size (by exact Lib.bw HB.out)) : w.heap.size ≤ gb130)); have n3_ := Aside0.mk ((by rw [hg]; exact (below_size (by exact Lib.bw HB.out)) : w.heap.size ≤ gb130)); clear HB; have HB := n0_; have BK130 := n1_; have GW130 := n2_; have GE130 := n3_; clear n0_ n1_ n2_ n3_; clear hb hbox hg) | ((with_reducible refine gate_dst (N := 9) rfl ?_); refine Kd.R_make Kd.bool _ 4 rfl (N := 9) rfl 58 _ _ rfl 56 rfl rfl Try.underlying58 (.bool false) 1 info4 rfl (by decide) (by omega) false (ok := fun _ => True) (okp := fun _ => True) rfl (fun _ hk => hk) trivial (by omega) (by omega) (Below.refl _ _) (Nat.le_refl _) ?_; intro v132 w4 ho5 hb hg_ hnew_; clear hg_ hnew_; (first | rw [← Ny131.out] at ho5 | (simp only [Int.reduceToNat] at ho5; rw [← Ny131.out] at ho5)); have n0_ := Aside0.mk (Kd.R_lower ho5 (below_size (by exact Lib.bs HB.out GE130.out))); have n1_ := Aside0.mk (blk_below (g := gb130) (o := .cells #[.int .i64 a0_0, .slice A0_1 l0_1.length c0_1, .slice A0_2 l0_2.length c0_2, .slice A0_3 l0_3.length c0_3] 42 (0, 0)) (by exact Lib.bk BK130.out) hb); have n2_ := Aside0.mk (below_step (by exact Lib.bs HB.out GE130.out) hb); clear BK130; clear HB; have HO133 := n0_; have BK130 := n1_; have HB := n2_; clear n0_ n1_ n2_; clear hb ho5; obtain ⟨hcz6_0, hcz6_1, hcz6_2, hcz6_3, hfz6_0, hfz6_1, hfz6_2, hfz6_3⟩ := Lib.cel4 (W := w4) BK130.out)); try go_wp2_with (first | ((with_reducible refine gate_dst (N := 1) rfl ?_); refine box_event ?hg (N := 1) ?hd (cs := #[.int .i64 a0_0, .slice A0_1 l0_1.length c0_1, .slice A0_2 l0_2.length c0_2, .slice A0_3 l0_3.length c0_3]) (t := 42) ?hr ?_; (case hd => rfl); (case hg => rfl); (case hr => first | (go_simp; done) | (go_simp; rfl)); intro gb130 hg w3 hbox hb; have n0_ := Aside0.mk (below_step (by exact Lib.bw HB.out) hb); have n1_ := Aside0.mk (hbox); have n2_ := Aside0.mk ((by rw [hg]; exact (below_size (by exact Lib.bw HB.out)) : w.heap.size ≤ gb130)); have n3_ := Aside0.mk ((by rw [hg]; exact (below_size (by exact Lib.bw HB.out)) : w.heap.size ≤ gb130)); clear HB; have HB := n0_; have BK130 := n1_; have GW130 := n2_; have GE130 := n3_; clear n0_ n1_ n2_ n3_; clear hb hbox hg) | ((with_reducible refine gate_dst (N := 9) rfl ?_); refine Kd.R_make Kd.bool _ 4 rfl (N := 9) rfl 58 _ _ rfl 56 rfl rfl Try.underlying58 (.bool false) 1 info4 rfl (by decide) (by omega) false (ok := fun _ => True) (okp := fun _ => True) rfl (fun _ hk => hk) trivial (by omega) (by omega) (Below.refl _ _) (Nat.le_refl _) ?_; intro v132 w4 ho5 hb hg_ hnew_; clear hg_ hnew_; (first | rw [← Ny131.out] at ho5 | (simp only [Int.reduceToNat] at ho5; rw [← Ny131.out] at ho5)); have n0_ := Aside0.mk (Kd.R_lower ho5 (below_size (by exact Lib.bs HB.out GE130.out))); have n1_ := Aside0.mk (blk_below (g := gb130) (o := .cells #[.int .i64 a0_0, .slice A0_1 l0_1.length c0_1, .slice A0_2 l0_2.length c0_2, .slice A0_3 l0_3.length c0_3] 42 (0, 0)) (by exact Lib.bk BK130.out) hb); have n2_ := Aside0.mk (below_step (by exact Lib.bs HB.out GE130.out) hb); clear BK130; clear HB; have HO133 := n0_; have BK130 := n1_; have HB := n2_; clear n0_ n1_ n2_; clear hb ho5; obtain ⟨hcz6_0, hcz6_1, hcz6_2, hcz6_3, hfz6_0, hfz6_1, hfz6_2, hfz6_3⟩ := Lib.cel4 (W := w4) BK130.out)))
  go_loopg [13] k (fun kq v13 w' => ∃ (x4_1 : List Bool) (x13_1 : Int), v13 = .int .i64 x13_1 ∧ Aside0 (spec_l08Used.l0 kq x4_1 l0_2 (l0_2.length : Int) x13_1 = some (r1, r2)) ∧ Aside0 (kq ≤ k) ∧ Aside0 (Kd.R Kd.bool 4 w' w.heap.size (fun _ => True) v132 x4_1) ∧ Aside0 (w'.heap[gb130]? = some (.cells #[.int .i64 a0_0, (.slice A0_1 l0_1.length c0_1), (.slice A0_2 l0_2.length c0_2), (.slice A0_3 l0_3.length c0_3)] 42 (0, 0))) ∧ Aside0 (Below w.heap.size w w'))
  case atStart => exact ⟨(y131), (0), (by first | rfl | (simp; done) | (simp [*]; done)), H', ⟨Nat.le_refl _⟩, ⟨by exact Lib.cr HO133.out⟩, ⟨by exact Lib.bk BK130.out⟩, ⟨by exact Lib.bs HB.out GE130.out⟩⟩
  case round =>
   clear H'
   try clear c1
   try clear c2
   try clear c2b0
   try clear c2b1
   try clear p2
   try clear hcz6_0
   try clear hcz6_1
   try clear hcz6_2
   try clear hcz6_3
   try clear hfz6_0
   try clear hfz6_1
   try clear hfz6_2
   try clear hfz6_3
   obtain ⟨x4_1, x13_1, rfl, HA, HK1, HO_4, BK130, HB⟩ := hrel
   cases gk with
   | zero => exact absurd HA.out (by simp [spec_l08Used.l0])
   | succ k1 =>
    have H := HA.out
    clear HA
    simp only [spec_l08Used.l0] at H
    by_cases c7 : x13_1 < (l0_2.length : Int)
    ·
     rw [if_pos c7] at H
     have c7b0 : decide (x13_1 < (l0_2.length : Int)) = true := decide_eq_true c7
     clear c7
     by_cases c8 : 0 ≤ x13_1
     ·
      rw [if_pos c8] at H
      have c8b0 : decide (0 ≤ x13_1) = true := decide_eq_true c8
      clear c8
      by_cases c9 : x13_1 < (l0_2.length : Int)
      ·
       rw [if_pos c9] at H
       have c9b0 : decide (x13_1 < (l0_2.length : Int)) = true := decide_eq_true c9
       clear c9
       have H' := Aside0.mk H
       clear H
       have p134 : 0 ≤ (x13_1 : Int) := Lib.od
       have q134 : x13_1 < (l0_2.length : Int) := Lib.od
       obtain ⟨ad134, A134_7, c134_7, A134_8, c134_8, A134_9, c134_9, e134, hx134_0, hx134_1, hx134_2, hx134_3, hx134_4, hx134_5, hx134_6, hx134_7, hx134_8, hx134_9, hl134_7, hi134_7, hl134_8, hi134_8, hl134_9, hi134_9⟩ := at_T25 HR0_2.out x13_1 p134 q134
       cases e134
       replace hx134_0 := (HB.out.cell (World.block_lt_of_cell? w _ hx134_0)).trans hx134_0
       replace hx134_1 := (HB.out.cell (World.block_lt_of_cell? w _ hx134_1)).trans hx134_1
       replace hx134_2 := (HB.out.cell (World.block_lt_of_cell? w _ hx134_2)).trans hx134_2
       replace hx134_3 := (HB.out.cell (World.block_lt_of_cell? w _ hx134_3)).trans hx134_3
       replace hx134_4 := (HB.out.cell (World.block_lt_of_cell? w _ hx134_4)).trans hx134_4
       replace hx134_5 := (HB.out.cell (World.block_lt_of_cell? w _ hx134_5)).trans hx134_5
       replace hx134_6 := (HB.out.cell (World.block_lt_of_cell? w _ hx134_6)).trans hx134_6
       replace hx134_7 := (HB.out.cell (World.block_lt_of_cell? w _ hx134_7)).trans hx134_7
       replace hx134_8 := (HB.out.cell (World.block_lt_of_cell? w _ hx134_8)).trans hx134_8
       replace hx134_9 := (HB.out.cell (World.block_lt_of_cell? w _ hx134_9)).trans hx134_9
       have HR134_7 := Aside0.mk hi134_7
       have HC134_7 := Aside0.mk hl134_7
       clear hi134_7 hl134_7
       have HR134_8 := Aside0.mk hi134_8
       have HC134_8 := Aside0.mk hl134_8
       clear hi134_8 hl134_8
       have HR134_9 := Aside0.mk hi134_9
       have HC134_9 := Aside0.mk hl134_9
       clear hi134_9 hl134_9
       replace p134 := eq_true p134
       replace q134 := eq_true q134
       go_wp2_with (first | ((with_reducible refine gate_dst (N := 6) rfl ?_); refine box_event ?hg (N := 6) ?hd (cs := #[.int .i64 0, .int .i64 0, .int .i64 0, .int .i64 0, .int .i64 0, .int .i64 0, .int .i64 0, .slice none 0 0, .slice none 0 0, .slice none 0 0]) (t := 25) ?hr ?_; (case hd => rfl); (case hg => rfl); (case hr => first | (go_simp; done) | (go_simp; rfl)); intro gb135 hg w10 hbox hb; have n0_ := Aside0.mk (Kd.R_below (by exact Lib.cr HO_4.out) hb); have n1_ := Aside0.mk (blk_below (g := gb130) (o := .cells #[.int .i64 a0_0, .slice A0_1 l0_1.length c0_1, .slice (some ad134) l0_2.length c0_2, .slice A0_3 l0_3.length c0_3] 42 (0, 0)) (by exact Lib.bk BK130.out) hb); have n2_ := Aside0.mk (below_step (by exact Lib.bs HB.out GE130.out) hb); have n3_ := Aside0.mk (hbox); have n4_ := Aside0.mk ((by rw [hg]; exact (below_size (by exact Lib.bs HB.out GE130.out)) : w.heap.size ≤ gb135)); have n5_ := Aside0.mk ((by rw [hg]; exact (below_size (by exact Lib.bs HB.out GE130.out)) : w.heap.size ≤ gb135)); have n6_ := Aside0.mk ((by rw [hg]; exact Nat.ne_of_lt (blk_lt (g := gb130) (o := .cells #[.int .i64 a0_0, .slice A0_1 l0_1.length c0_1, .slice (some ad134) l0_2.length c0_2, .slice A0_3 l0_3.length c0_3] 42 (0, 0)) (by exact Lib.bk BK130.out)) : gb130 ≠ gb135)); have n7_ := Aside0.mk ((by rw [hg]; exact Nat.ne_of_gt (blk_lt (g := gb130) (o := .cells #[.int .i64 a0_0, .slice A0_1 l0_1.length c0_1, .slice (some ad134) l0_2.length c0_2, .slice A0_3 l0_3.length c0_3] 42 (0, 0)) (by exact Lib.bk BK130.out)) : gb135 ≠ gb130)); clear HO_4; clear BK130; clear HB; have HO_4 := n0_; have BK130 := n1_; have HB := n2_; have BK135 := n3_; have GW135 := n4_; have GE135 := n5_; have NB130_135 := n6_; have NB135_130 := n7_; clear n0_ n1_ n2_ n3_ n4_ n5_ n6_ n7_; clear hb hbox hg; have hnb11 := NB135_130.out; have hnc11 := NB130_135.out; obtain ⟨hcz12_0, hcz12_1, hcz12_2, hcz12_3, hcz12_4, hcz12_5, hcz12_6, hcz12_7, hcz12_8, hcz12_9, hfz12_0, hfz12_1, hfz12_2, hfz12_3, hfz12_4, hfz12_5, hfz12_6, hfz12_7, hfz12_8, hfz12_9⟩ := Lib.cel10 (W := w10) BK135.out))
       repeat (go_quiet (first | ((with_reducible refine gate_dst (N := 6) rfl ?_); refine box_event ?hg (N := 6) ?hd (cs := #[.int .i64 0, .int .i64 0, .int .i64 0, .int .i64 0, .int .i64 0, .int .i64 0, .int .i64 0, .slice none 0 0, .slice none 0 0, .slice none 0 0]) (t := 25) ?hr ?_; (case hd => rfl); (case hg => rfl); (case hr => first | (go_simp; done) | (go_simp; rfl)); intro gb135 hg w10 hbox hb; have n0_ := Aside0.mk (Kd.R_below (by exact Lib.cr HO_4.out) hb); have n1_ := Aside0.mk (blk_below (g := gb130) (o := .cells #[.int .i64 a0_0, .slice A0_1 l0_1.length c0_1, .slice (some ad134) l0_2.length c0_2, .slice A0_3 l0_3.length c0_3] 42 (0, 0)) (by exact Lib.bk BK130.out) hb); have n2_ := Aside0.mk (below_step (by exact Lib.bs HB.out GE130.out) hb); have n3_ := Aside0.mk (hbox); have n4_ := Aside0.mk ((by rw [hg]; exact (below_size (by exact Lib.bs HB.out GE130.out)) : w.heap.size ≤ gb135)); have n5_ := Aside0.mk ((by rw [hg]; exact (below_size (by exact Lib.bs HB.out GE130.out)) : w.heap.size ≤ gb135)); have n6_ := Aside0.mk ((by rw [hg]; exact Nat.ne_of_lt (blk_lt (g := gb130) (o := .cells #[.int .i64 a0_0, .slice A0_1 l0_1.length c0_1, .slice (some ad134) l0_2.length c0_2, .slice A0_3 l0_3.length c0_3] 42 (0, 0)) (by exact Lib.bk BK130.out)) : gb130 ≠ gb135)); have n7_ := Aside0.mk ((by rw [hg]; exact Nat.ne_of_gt (blk_lt (g := gb130) (o := .cells #[.int .i64 a0_0, .slice A0_1 l0_1.length c0_1, .slice (some ad134) l0_2.length c0_2, .slice A0_3 l0_3.length c0_3] 42 (0, 0)) (by exact Lib.bk BK130.out)) : gb135 ≠ gb130)); clear HO_4; clear BK130; clear HB; have HO_4 := n0_; have BK130 := n1_; have HB := n2_; have BK135 := n3_; have GW135 := n4_; have GE135 := n5_; have NB130_135 := n6_; have NB135_130 := n7_; clear n0_ n1_ n2_ n3_ n4_ n5_ n6_ n7_; clear hb hbox hg; have hnb11 := NB135_130.out; have hnc11 := NB130_135.out; obtain ⟨hcz12_0, hcz12_1, hcz12_2, hcz12_3, hcz12_4, hcz12_5, hcz12_6, hcz12_7, hcz12_8, hcz12_9, hfz12_0, hfz12_1, hfz12_2, hfz12_3, hfz12_4, hfz12_5, hfz12_6, hfz12_7, hfz12_8, hfz12_9⟩ := Lib.cel10 (W := w10) BK135.out)); try go_wp2_with (first | ((with_reducible refine gate_dst (N := 6) rfl ?_); refine box_event ?hg (N := 6) ?hd (cs := #[.int .i64 0, .int .i64 0, .int .i64 0, .int .i64 0, .int .i64 0, .int .i64 0, .int .i64 0, .slice none 0 0, .slice none 0 0, .slice none 0 0]) (t := 25) ?hr ?_; (case hd => rfl); (case hg => rfl); (case hr => first | (go_simp; done) | (go_simp; rfl)); intro gb135 hg w10 hbox hb; have n0_ := Aside0.mk (Kd.R_below (by exact Lib.cr HO_4.out) hb); have n1_ := Aside0.mk (blk_below (g := gb130) (o := .cells #[.int .i64 a0_0, .slice A0_1 l0_1.length c0_1, .slice (some ad134) l0_2.length c0_2, .slice A0_3 l0_3.length c0_3] 42 (0, 0)) (by exact Lib.bk BK130.out) hb); have n2_ := Aside0.mk (below_step (by exact Lib.bs HB.out GE130.out) hb); have n3_ := Aside0.mk (hbox); have n4_ := Aside0.mk ((by rw [hg]; exact (below_size (by exact Lib.bs HB.out GE130.out)) : w.heap.size ≤ gb135)); have n5_ := Aside0.mk ((by rw [hg]; exact (below_size (by exact Lib.bs HB.out GE130.out)) : w.heap.size ≤ gb135)); have n6_ := Aside0.mk ((by rw [hg]; exact Nat.ne_of_lt (blk_lt (g := gb130) (o := .cells #[.int .i64 a0_0, .slice A0_1 l0_1.length c0_1, .slice (some ad134) l0_2.length c0_2, .slice A0_3 l0_3.length c0_3] 42 (0, 0)) (by exact Lib.bk BK130.out)) : gb130 ≠ gb135)); have n7_ := Aside0.mk ((by rw [hg]; exact Nat.ne_of_gt (blk_lt (g := gb130) (o := .cells #[.int .i64 a0_0, .slice A0_1 l0_1.length c0_1, .slice (some ad134) l0_2.length c0_2, .slice A0_3 l0_3.length c0_3] 42 (0, 0)) (by exact Lib.bk BK130.out)) : gb135 ≠ gb130)); clear HO_4; clear BK130; clear HB; have HO_4 := n0_; have BK130 := n1_; have HB := n2_; have BK135 := n3_; have GW135 := n4_; have GE135 := n5_; have NB130_135 := n6_; have NB135_130 := n7_; clear n0_ n1_ n2_ n3_ n4_ n5_ n6_ n7_; clear hb hbox hg; have hnb11 := NB135_130.out; have hnc11 := NB130_135.out; obtain ⟨hcz12_0, hcz12_1, hcz12_2, hcz12_3, hcz12_4, hcz12_5, hcz12_6, hcz12_7, hcz12_8, hcz12_9, hfz12_0, hfz12_1, hfz12_2, hfz12_3, hfz12_4, hfz12_5, hfz12_6, hfz12_7, hfz12_8, hfz12_9⟩ := Lib.cel10 (W := w10) BK135.out)))
       go_loopg [20] k1 (fun kq v20 w' => ∃ (x4_2 : List Bool) (x20_2 : Int), v20 = .int .i64 x20_2 ∧ Aside0 (spec_l08Used.l1 kq x4_2 l0_2 (l0_2.length : Int) x13_1 ((rd_T25 l0_2 x13_1).f7) (((rd_T25 l0_2 x13_1).f7).length : Int) x20_2 ((rd_T25 l0_2 x13_1).f0) ((rd_T25 l0_2 x13_1).f1) ((rd_T25 l0_2 x13_1).f2) ((rd_T25 l0_2 x13_1).f3) ((rd_T25 l0_2 x13_1).f4) ((rd_T25 l0_2 x13_1).f5) ((rd_T25 l0_2 x13_1).f6) ((rd_T25 l0_2 x13_1).f7) ((rd_T25 l0_2 x13_1).f8) ((rd_T25 l0_2 x13_1).f9) = some (r1, r2)) ∧ Aside0 (kq ≤ k1) ∧ Aside0 (Kd.R Kd.bool 4 w' w.heap.size (fun _ => True) v132 x4_2) ∧ Aside0 (w'.heap[gb130]? = some (.cells #[.int .i64 a0_0, (.slice A0_1 l0_1.length c0_1), (.slice (some ad134) l0_2.length c0_2), (.slice A0_3 l0_3.length c0_3)] 42 (0, 0))) ∧ Aside0 (w'.heap[gb135]? = some (.cells #[.int .i64 ((rd_T25 l0_2 x13_1).f0), .int .i64 ((rd_T25 l0_2 x13_1).f1), .int .i64 ((rd_T25 l0_2 x13_1).f2), .int .i64 ((rd_T25 l0_2 x13_1).f3), .int .i64 ((rd_T25 l0_2 x13_1).f4), .int .i64 ((rd_T25 l0_2 x13_1).f5), .int .i64 ((rd_T25 l0_2 x13_1).f6), (.slice A134_7 ((rd_T25 l0_2 x13_1).f7).length c134_7), (.slice A134_8 ((rd_T25 l0_2 x13_1).f8).length c134_8), (.slice A134_9 ((rd_T25 l0_2 x13_1).f9).length c134_9)] 25 (0, 0))) ∧ Aside0 (Below w.heap.size w w'))
       case atStart => exact ⟨(x4_1), (0), (by first | rfl | (simp; done) | (simp [*]; done)), H', ⟨Nat.le_refl _⟩, ⟨by (with_reducible repeat (first | apply Kd.R_alloc | apply Kd.R_drewN | apply Kd.R_drew)); exact Kd.R_mono (Kd.R_far (p := ⟨gb135, 9, none⟩) (Kd.R_far (p := ⟨gb135, 8, none⟩) (Kd.R_far (p := ⟨gb135, 7, none⟩) (Kd.R_far (p := ⟨gb135, 6, none⟩) (Kd.R_far (p := ⟨gb135, 5, none⟩) (Kd.R_far (p := ⟨gb135, 4, none⟩) (Kd.R_far (p := ⟨gb135, 3, none⟩) (Kd.R_far (p := ⟨gb135, 2, none⟩) (Kd.R_far (p := ⟨gb135, 1, none⟩) (Kd.R_far (p := ⟨gb135, 0, none⟩) (Kd.R_types HO_4.out BK135.out (by decide)) (fun _ hk => hk.2) (.int .i64 ((rd_T25 l0_2 x13_1).f0))) (fun _ hk => hk.2) (.int .i64 ((rd_T25 l0_2 x13_1).f1))) (fun _ hk => hk.2) (.int .i64 ((rd_T25 l0_2 x13_1).f2))) (fun _ hk => hk.2) (.int .i64 ((rd_T25 l0_2 x13_1).f3))) (fun _ hk => hk.2) (.int .i64 ((rd_T25 l0_2 x13_1).f4))) (fun _ hk => hk.2) (.int .i64 ((rd_T25 l0_2 x13_1).f5))) (fun _ hk => hk.2) (.int .i64 ((rd_T25 l0_2 x13_1).f6))) (fun _ hk => hk.2) (.slice A134_7 ((rd_T25 l0_2 x13_1).f7).length c134_7)) (fun _ hk => hk.2) (.slice A134_8 ((rd_T25 l0_2 x13_1).f8).length c134_8)) (fun _ hk => hk.2) (.slice A134_9 ((rd_T25 l0_2 x13_1).f9).length c134_9)) (fun _ hk => trivial)⟩, ⟨by (with_reducible repeat (first | refine blk_drewN ?_ _ | refine blk_drew ?_ | refine blk_alloc ?_ _)); refine blk_far ?_ NB130_135.out _; (with_reducible repeat (first | refine blk_drewN ?_ _ | refine blk_drew ?_ | refine blk_alloc ?_ _)); refine blk_far ?_ NB130_135.out _; (with_reducible repeat (first | refine blk_drewN ?_ _ | refine blk_drew ?_ | refine blk_alloc ?_ _)); refine blk_far ?_ NB130_135.out _; (with_reducible repeat (first | refine blk_drewN ?_ _ | refine blk_drew ?_ | refine blk_alloc ?_ _)); refine blk_far ?_ NB130_135.out _; (with_reducible repeat (first | refine blk_drewN ?_ _ | refine blk_drew ?_ | refine blk_alloc ?_ _)); refine blk_far ?_ NB130_135.out _; (with_reducible repeat (first | refine blk_drewN ?_ _ | refine blk_drew ?_ | refine blk_alloc ?_ _)); refine blk_far ?_ NB130_135.out _; (with_reducible repeat (first | refine blk_drewN ?_ _ | refine blk_drew ?_ | refine blk_alloc ?_ _)); refine blk_far ?_ NB130_135.out _; (with_reducible repeat (first | refine blk_drewN ?_ _ | refine blk_drew ?_ | refine blk_alloc ?_ _)); refine blk_far ?_ NB130_135.out _; (with_reducible repeat (first | refine blk_drewN ?_ _ | refine blk_drew ?_ | refine blk_alloc ?_ _)); refine blk_far ?_ NB130_135.out _; (with_reducible repeat (first | refine blk_drewN ?_ _ | refine blk_drew ?_ | refine blk_alloc ?_ _)); refine blk_far ?_ NB130_135.out _; (with_reducible repeat (first | refine blk_drewN ?_ _ | refine blk_drew ?_ | refine blk_alloc ?_ _)); exact BK130.out⟩, ⟨by (with_reducible repeat (first | refine blk_drewN ?_ _ | refine blk_drew ?_ | refine blk_alloc ?_ _)); refine blk_put (cs := #[.int .i64 ((rd_T25 l0_2 x13_1).f0), .int .i64 ((rd_T25 l0_2 x13_1).f1), .int .i64 ((rd_T25 l0_2 x13_1).f2), .int .i64 ((rd_T25 l0_2 x13_1).f3), .int .i64 ((rd_T25 l0_2 x13_1).f4), .int .i64 ((rd_T25 l0_2 x13_1).f5), .int .i64 ((rd_T25 l0_2 x13_1).f6), .slice A134_7 ((rd_T25 l0_2 x13_1).f7).length c134_7, .slice A134_8 ((rd_T25 l0_2 x13_1).f8).length c134_8, .slice none 0 0]) ?_ 9 _ rfl; (with_reducible repeat (first | refine blk_drewN ?_ _ | refine blk_drew ?_ | refine blk_alloc ?_ _)); refine blk_put (cs := #[.int .i64 ((rd_T25 l0_2 x13_1).f0), .int .i64 ((rd_T25 l0_2 x13_1).f1), .int .i64 ((rd_T25 l0_2 x13_1).f2), .int .i64 ((rd_T25 l0_2 x13_1).f3), .int .i64 ((rd_T25 l0_2 x13_1).f4), .int .i64 ((rd_T25 l0_2 x13_1).f5), .int .i64 ((rd_T25 l0_2 x13_1).f6), .slice A134_7 ((rd_T25 l0_2 x13_1).f7).length c134_7, .slice none 0 0, .slice none 0 0]) ?_ 8 _ rfl; (with_reducible repeat (first | refine blk_drewN ?_ _ | refine blk_drew ?_ | refine blk_alloc ?_ _)); refine blk_put (cs := #[.int .i64 ((rd_T25 l0_2 x13_1).f0), .int .i64 ((rd_T25 l0_2 x13_1).f1), .int .i64 ((rd_T25 l0_2 x13_1).f2), .int .i64 ((rd_T25 l0_2 x13_1).f3), .int .i64 ((rd_T25 l0_2 x13_1).f4), .int .i64 ((rd_T25 l0_2 x13_1).f5), .int .i64 ((rd_T25 l0_2 x13_1).f6), .slice none 0 0, .slice none 0 0, .slice none 0 0]) ?_ 7 _ rfl; (with_reducible repeat (first | refine blk_drewN ?_ _ | refine blk_drew ?_ | refine blk_alloc ?_ _)); refine blk_put (cs := #[.int .i64 ((rd_T25 l0_2 x13_1).f0), .int .i64 ((rd_T25 l0_2 x13_1).f1), .int .i64 ((rd_T25 l0_2 x13_1).f2), .int .i64 ((rd_T25 l0_2 x13_1).f3), .int .i64 ((rd_T25 l0_2 x13_1).f4), .int .i64 ((rd_T25 l0_2 x13_1).f5), .int .i64 0, .slice none 0 0, .slice none 0 0, .slice none 0 0]) ?_ 6 _ rfl; (with_reducible repeat (first | refine blk_drewN ?_ _ | refine blk_drew ?_ | refine blk_alloc ?_ _)); refine blk_put (cs := #[.int .i64 ((rd_T25 l0_2 x13_1).f0), .int .i64 ((rd_T25 l0_2 x13_1).f1), .int .i64 ((rd_T25 l0_2 x13_1).f2), .int .i64 ((rd_T25 l0_2 x13_1).f3), .int .i64 ((rd_T25 l0_2 x13_1).f4), .int .i64 0, .int .i64 0, .slice none 0 0, .slice none 0 0, .slice none 0 0]) ?_ 5 _ rfl; (with_reducible repeat (first | refine blk_drewN ?_ _ | refine blk_drew ?_ | refine blk_alloc ?_ _)); refine blk_put (cs := #[.int .i64 ((rd_T25 l0_2 x13_1).f0), .int .i64 ((rd_T25 l0_2 x13_1).f1), .int .i64 ((rd_T25 l0_2 x13_1).f2), .int .i64 ((rd_T25 l0_2 x13_1).f3), .int .i64 0, .int .i64 0, .int .i64 0, .slice none 0 0, .slice none 0 0, .slice none 0 0]) ?_ 4 _ rfl; (with_reducible repeat (first | refine blk_drewN ?_ _ | refine blk_drew ?_ | refine blk_alloc ?_ _)); refine blk_put (cs := #[.int .i64 ((rd_T25 l0_2 x13_1).f0), .int .i64 ((rd_T25 l0_2 x13_1).f1), .int .i64 ((rd_T25 l0_2 x13_1).f2), .int .i64 0, .int .i64 0, .int .i64 0, .int .i64 0, .slice none 0 0, .slice none 0 0, .slice none 0 0]) ?_ 3 _ rfl; (with_reducible repeat (first | refine blk_drewN ?_ _ | refine blk_drew ?_ | refine blk_alloc ?_ _)); refine blk_put (cs := #[.int .i64 ((rd_T25 l0_2 x13_1).f0), .int .i64 ((rd_T25 l0_2 x13_1).f1), .int .i64 0, .int .i64 0, .int .i64 0, .int .i64 0, .int .i64 0, .slice none 0 0, .slice none 0 0, .slice none 0 0]) ?_ 2 _ rfl; (with_reducible repeat (first | refine blk_drewN ?_ _ | refine blk_drew ?_ | refine blk_alloc ?_ _)); refine blk_put (cs := #[.int .i64 ((rd_T25 l0_2 x13_1).f0), .int .i64 0, .int .i64 0, .int .i64 0, .int .i64 0, .int .i64 0, .int .i64 0, .slice none 0 0, .slice none 0 0, .slice none 0 0]) ?_ 1 _ rfl; (with_reducible repeat (first | refine blk_drewN ?_ _ | refine blk_drew ?_ | refine blk_alloc ?_ _)); refine blk_put (cs := #[.int .i64 0, .int .i64 0, .int .i64 0, .int .i64 0, .int .i64 0, .int .i64 0, .int .i64 0, .slice none 0 0, .slice none 0 0, .slice none 0 0]) ?_ 0 _ rfl; (with_reducible repeat (first | refine blk_drewN ?_ _ | refine blk_drew ?_ | refine blk_alloc ?_ _)); exact BK135.out⟩, ⟨by repeat (first | (with_reducible first | exact HB.out | apply below_alloc | apply pw_below_drewN | apply below_drew1 | refine below_set ?_ GE130.out | refine below_set ?_ GE135.out) | exact HB.out)⟩⟩
       case round =>
        clear H'
        try clear c1
        try clear p1
        try clear q1
        try clear hx1
        try clear c2
        try clear c2b0
        try clear c2b1
        try clear p2
        try clear c7
        try clear c7b0
        try clear c8
        try clear c8b0
        try clear c9
        try clear c9b0
        try clear c10
        try clear c11
        try clear hcz12_0
        try clear hcz12_1
        try clear hcz12_2
        try clear hcz12_3
        try clear hcz12_4
        try clear hcz12_5
        try clear hcz12_6
        try clear hcz12_7
        try clear hcz12_8
        try clear hcz12_9
        try clear hcz6_0
        try clear hcz6_1
        try clear hcz6_2
        try clear hcz6_3
        try clear hfz12_0
        try clear hfz12_1
        try clear hfz12_2
        try clear hfz12_3
        try clear hfz12_4
        try clear hfz12_5
        try clear hfz12_6
        try clear hfz12_7
        try clear hfz12_8
        try clear hfz12_9
        try clear hfz6_0
        try clear hfz6_1
        try clear hfz6_2
        try clear hfz6_3
        try clear hx134_0
        try clear hx134_1
        try clear hx134_2
        try clear hx134_3
        try clear hx134_4
        try clear hx134_5
        try clear hx134_6
        try clear hx134_7
        try clear hx134_8
        try clear hx134_9
        try clear p134
        try clear p2
        try clear q134
        obtain ⟨x4_2, x20_2, rfl, HA, HK2, HO_4, BK130, BK135, HB⟩ := hrel
        cases gk with
        | zero => exact absurd HA.out (by simp [spec_l08Used.l1])
        | succ k2 =>
         have H := HA.out
         clear HA
         simp only [spec_l08Used.l1] at H
         by_cases c13 : x20_2 < (((rd_T25 l0_2 x13_1).f7).length : Int)
         ·
          rw [if_pos c13] at H
          have c13b0 : decide (x20_2 < (((rd_T25 l0_2 x13_1).f7).length : Int)) = true := decide_eq_true c13
          clear c13
          by_cases c14 : 0 ≤ x20_2
          ·
           rw [if_pos c14] at H
           have c14b0 : decide (0 ≤ x20_2) = true := decide_eq_true c14
           clear c14
           by_cases c15 : x20_2 < (((rd_T25 l0_2 x13_1).f7).length : Int)
           ·
            rw [if_pos c15] at H
            have c15b0 : decide (x20_2 < (((rd_T25 l0_2 x13_1).f7).length : Int)) = true := decide_eq_true c15
            clear c15
            by_cases c16 : (rd ((rd_T25 l0_2 x13_1).f7) x20_2) = (-1)
            ·
             rw [if_pos c16] at H
             have c16b0 : ((rd ((rd_T25 l0_2 x13_1).f7) x20_2) == (-1)) = true := beq_iff_eq.mpr c16
             have c16b1 : ((rd ((rd_T25 l0_2 x13_1).f7) x20_2) != (-1)) = false := bne_eq_false_iff_eq.mpr c16
             clear c16
             have H' := Aside0.mk H
             clear H
             have p136 : 0 ≤ (x20_2 : Int) := Lib.od
             have q136 : x20_2 < (((rd_T25 l0_2 x13_1).f7).length : Int) := Lib.od
             obtain ⟨ad136, e136, hx136_0⟩ := Kd.at_int HR134_7.out x20_2 p136 q136
             cases e136
             replace hx136_0 := (HB.out.cell (World.block_lt_of_cell? w _ hx136_0)).trans hx136_0
             replace p136 := eq_true p136
             replace q136 := eq_true q136
             go_wp2
             repeat (go_quiet (fail); try go_wp2)
             go_roundg k2
             case measure => have := HK1.out; have := HK2.out; omega
             case rel => exact ⟨(x4_2), (wrap64 (x20_2 + 1)), (by first | rfl | (simp; done) | (simp [*]; done)), H', ⟨by have := HK1.out; have := HK2.out; omega⟩, ⟨by exact Lib.cr HO_4.out⟩, ⟨by exact Lib.bk BK130.out⟩, ⟨by exact Lib.bk BK135.out⟩, ⟨by repeat (first | (with_reducible first | exact HB.out | apply below_alloc | apply pw_below_drewN | apply below_drew1 | refine below_set ?_ GE130.out | refine below_set ?_ GE135.out) | exact HB.out)⟩⟩
            ·
             rw [if_neg c16] at H
             have c16b0 : ((rd ((rd_T25 l0_2 x13_1).f7) x20_2) == (-1)) = false := beq_eq_false_iff_ne.mpr c16
             have c16b1 : ((rd ((rd_T25 l0_2 x13_1).f7) x20_2) != (-1)) = true := bne_iff_ne.mpr c16
             replace H := Option.bind_eq_some_iff.mp H
             obtain ⟨t137, A170, H⟩ := H
             try dsimp only at H
             have A17 := Aside0.mk A170
             clear A170
             by_cases c18 : t137 = ((rd_T25 l0_2 x13_1).f2)
             ·
              rw [if_pos c18] at H
              have c18b0 : (t137 == ((rd_T25 l0_2 x13_1).f2)) = true := beq_iff_eq.mpr c18
              have c18b1 : (t137 != ((rd_T25 l0_2 x13_1).f2)) = false := bne_eq_false_iff_eq.mpr c18
              clear c18
              by_cases c19 : 0 ≤ (rd ((rd_T25 l0_2 x13_1).f7) x20_2)
              ·
               rw [if_pos c19] at H
               have c19b0 : decide (0 ≤ (rd ((rd_T25 l0_2 x13_1).f7) x20_2)) = true := decide_eq_true c19
               clear c19
               by_cases c20 : (rd ((rd_T25 l0_2 x13_1).f7) x20_2) < (x4_2.length : Int)
               ·
                rw [if_pos c20] at H
                have c20b0 : decide ((rd ((rd_T25 l0_2 x13_1).f7) x20_2) < (x4_2.length : Int)) = true := decide_eq_true c20
                clear c20
                obtain ⟨bq21, hbq21⟩ : ∃ b_ : Bool, b_ = (rdOf false x4_2 (rd ((rd_T25 l0_2 x13_1).f7) x20_2)) := ⟨_, rfl⟩
                replace H : (if bq21 = true then (some (([] : List Bool), false)) else (spec_l08Used.l1 k2 (x4_2.set ((rd ((rd_T25 l0_2 x13_1).f7) x20_2) : Int).toNat true) l0_2 (l0_2.length : Int) x13_1 ((rd_T25 l0_2 x13_1).f7) (((rd_T25 l0_2 x13_1).f7).length : Int) (wrap64 (x20_2 + 1)) ((rd_T25 l0_2 x13_1).f0) ((rd_T25 l0_2 x13_1).f1) ((rd_T25 l0_2 x13_1).f2) ((rd_T25 l0_2 x13_1).f3) ((rd_T25 l0_2 x13_1).f4) ((rd_T25 l0_2 x13_1).f5) ((rd_T25 l0_2 x13_1).f6) ((rd_T25 l0_2 x13_1).f7) ((rd_T25 l0_2 x13_1).f8) ((rd_T25 l0_2 x13_1).f9))) = some (r1, r2) := by rw [← hbq21] at H; exact H
                have Nbq21 := Aside0.mk hbq21
                clear hbq21
                by_cases c22 : bq21 = true
                ·
                 subst c22
                 have H1 : (some (([] : List Bool), false)) = some (r1, r2) := by rw [if_pos rfl] at H; exact H
                 clear H
                 have H := H1
                 clear H1
                 simp only [Option.some.injEq, Prod.mk.injEq] at H
                 obtain ⟨rfl, rfl⟩ := H
                 have p136 : 0 ≤ (x20_2 : Int) := Lib.od
                 have q136 : x20_2 < (((rd_T25 l0_2 x13_1).f7).length : Int) := Lib.od
                 obtain ⟨ad136, e136, hx136_0⟩ := Kd.at_int HR134_7.out x20_2 p136 q136
                 cases e136
                 replace hx136_0 := (HB.out.cell (World.block_lt_of_cell? w _ hx136_0)).trans hx136_0
                 replace p136 := eq_true p136
                 replace q136 := eq_true q136
                 go_wp2_with (first | (go_at_call 138; (with_reducible refine (spec_BlockOwner.calls (rd ((rd_T25 l0_2 x13_1).f7) x20_2) t137 _ A17.out).mono ?_); rintro e w' ⟨rfl, ⟨nd, rfl⟩⟩; (try first | exact ⟨rfl, _, World.drewN_drewN _ _ _⟩ | exact ⟨rfl, _, Eq.trans (World.drewN_drewN _ _ _) (congrArg (World.drewN _) (Nat.add_assoc _ _ _))⟩); have hnb23 := NB135_130.out; have hnc23 := NB130_135.out; obtain ⟨hcz24_0, hcz24_1, hcz24_2, hcz24_3, hcz24_4, hcz24_5, hcz24_6, hcz24_7, hcz24_8, hcz24_9, hfz24_0, hfz24_1, hfz24_2, hfz24_3, hfz24_4, hfz24_5, hfz24_6, hfz24_7, hfz24_8, hfz24_9⟩ := Lib.cel10 (W := wr) BK135.out; obtain ⟨Ao25, co25, eo25⟩ := Kd.R_slice HO_4.out; subst eo25; have p138 : 0 ≤ ((rd ((rd_T25 l0_2 x13_1).f7) x20_2) : Int) := Lib.od; have q138 : (rd ((rd_T25 l0_2 x13_1).f7) x20_2) < (x4_2.length : Int) := Lib.od; obtain ⟨ad138, e138, hx138_0⟩ := Kd.at_bool (Kd.R_reads' HO_4.out).2.2 (rd ((rd_T25 l0_2 x13_1).f7) x20_2) p138 q138; (try rw [← Nbq21.out] at hx138_0); cases e138; replace p138 := eq_true p138; replace q138 := eq_true q138))
                 repeat (go_quiet (first | (go_at_call 138; (with_reducible refine (spec_BlockOwner.calls (rd ((rd_T25 l0_2 x13_1).f7) x20_2) t137 _ A17.out).mono ?_); rintro e w' ⟨rfl, ⟨nd, rfl⟩⟩; (try first | exact ⟨rfl, _, World.drewN_drewN _ _ _⟩ | exact ⟨rfl, _, Eq.trans (World.drewN_drewN _ _ _) (congrArg (World.drewN _) (Nat.add_assoc _ _ _))⟩); have hnb23 := NB135_130.out; have hnc23 := NB130_135.out; obtain ⟨hcz24_0, hcz24_1, hcz24_2, hcz24_3, hcz24_4, hcz24_5, hcz24_6, hcz24_7, hcz24_8, hcz24_9, hfz24_0, hfz24_1, hfz24_2, hfz24_3, hfz24_4, hfz24_5, hfz24_6, hfz24_7, hfz24_8, hfz24_9⟩ := Lib.cel10 (W := wr) BK135.out; obtain ⟨Ao25, co25, eo25⟩ := Kd.R_slice HO_4.out; subst eo25; have p138 : 0 ≤ ((rd ((rd_T25 l0_2 x13_1).f7) x20_2) : Int) := Lib.od; have q138 : (rd ((rd_T25 l0_2 x13_1).f7) x20_2) < (x4_2.length : Int) := Lib.od; obtain ⟨ad138, e138, hx138_0⟩ := Kd.at_bool (Kd.R_reads' HO_4.out).2.2 (rd ((rd_T25 l0_2 x13_1).f7) x20_2) p138 q138; (try rw [← Nbq21.out] at hx138_0); cases e138; replace p138 := eq_true p138; replace q138 := eq_true q138)); try go_wp2_with (first | (go_at_call 138; (with_reducible refine (spec_BlockOwner.calls (rd ((rd_T25 l0_2 x13_1).f7) x20_2) t137 _ A17.out).mono ?_); rintro e w' ⟨rfl, ⟨nd, rfl⟩⟩; (try first | exact ⟨rfl, _, World.drewN_drewN _ _ _⟩ | exact ⟨rfl, _, Eq.trans (World.drewN_drewN _ _ _) (congrArg (World.drewN _) (Nat.add_assoc _ _ _))⟩); have hnb23 := NB135_130.out; have hnc23 := NB130_135.out; obtain ⟨hcz24_0, hcz24_1, hcz24_2, hcz24_3, hcz24_4, hcz24_5, hcz24_6, hcz24_7, hcz24_8, hcz24_9, hfz24_0, hfz24_1, hfz24_2, hfz24_3, hfz24_4, hfz24_5, hfz24_6, hfz24_7, hfz24_8, hfz24_9⟩ := Lib.cel10 (W := wr) BK135.out; obtain ⟨Ao25, co25, eo25⟩ := Kd.R_slice HO_4.out; subst eo25; have p138 : 0 ≤ ((rd ((rd_T25 l0_2 x13_1).f7) x20_2) : Int) := Lib.od; have q138 : (rd ((rd_T25 l0_2 x13_1).f7) x20_2) < (x4_2.length : Int) := Lib.od; obtain ⟨ad138, e138, hx138_0⟩ := Kd.at_bool (Kd.R_reads' HO_4.out).2.2 (rd ((rd_T25 l0_2 x13_1).f7) x20_2) p138 q138; (try rw [← Nbq21.out] at hx138_0); cases e138; replace p138 := eq_true p138; replace q138 := eq_true q138)))
                 go_ret2
                 exact ⟨_, by first | rfl | (simp [errW_none, errW_some] <;> rfl) | (simp [*, errW_none, errW_some] <;> rfl), by first | exact Kd.R_nil _ _ _ _ _ | exact Kd.N_nil _ _ _ _ _ | exact Kd.V_nil _ _ _ _ _ | exact Kd.Q_nil _ _ _ _ _ | exact Kd.S_nil _ _ _ _ _, by repeat (first | (with_reducible first | exact HB.out | apply below_alloc | apply pw_below_drewN | apply below_drew1 | refine below_set ?_ GE130.out | refine below_set ?_ GE135.out) | exact HB.out)⟩
                ·
                 replace c22 := Bool.eq_false_iff.mpr c22
                 subst c22
                 have H1 : (spec_l08Used.l1 k2 (x4_2.set ((rd ((rd_T25 l0_2 x13_1).f7) x20_2) : Int).toNat true) l0_2 (l0_2.length : Int) x13_1 ((rd_T25 l0_2 x13_1).f7) (((rd_T25 l0_2 x13_1).f7).length : Int) (wrap64 (x20_2 + 1)) ((rd_T25 l0_2 x13_1).f0) ((rd_T25 l0_2 x13_1).f1) ((rd_T25 l0_2 x13_1).f2) ((rd_T25 l0_2 x13_1).f3) ((rd_T25 l0_2 x13_1).f4) ((rd_T25 l0_2 x13_1).f5) ((rd_T25 l0_2 x13_1).f6) ((rd_T25 l0_2 x13_1).f7) ((rd_T25 l0_2 x13_1).f8) ((rd_T25 l0_2 x13_1).f9)) = some (r1, r2) := by rw [if_neg (show ¬ (false = true) by decide)] at H; exact H
                 clear H
                 have H := H1
                 clear H1
                 obtain ⟨y139, hy139⟩ : ∃ y_ : List Bool, y_ = (x4_2.set ((rd ((rd_T25 l0_2 x13_1).f7) x20_2) : Int).toNat true) := ⟨_, rfl⟩
                 replace H : (spec_l08Used.l1 k2 y139 l0_2 (l0_2.length : Int) x13_1 ((rd_T25 l0_2 x13_1).f7) (((rd_T25 l0_2 x13_1).f7).length : Int) (wrap64 (x20_2 + 1)) ((rd_T25 l0_2 x13_1).f0) ((rd_T25 l0_2 x13_1).f1) ((rd_T25 l0_2 x13_1).f2) ((rd_T25 l0_2 x13_1).f3) ((rd_T25 l0_2 x13_1).f4) ((rd_T25 l0_2 x13_1).f5) ((rd_T25 l0_2 x13_1).f6) ((rd_T25 l0_2 x13_1).f7) ((rd_T25 l0_2 x13_1).f8) ((rd_T25 l0_2 x13_1).f9)) = some (r1, r2) := by first | (rw [hy139]; with_reducible exact H) | (have H2_ := (Option.bind_some _ _).symm.trans H; rw [hy139]; with_reducible exact H2_) | (have H2_ := (Option.bind_some _ _).symm.trans H; with_reducible exact H2_) | with_reducible exact H | (rw [hy139]; exact H) | exact H
                 have Ny139 := Aside0.mk hy139
                 clear hy139
                 have H' := Aside0.mk H
                 clear H
                 have p136 : 0 ≤ (x20_2 : Int) := Lib.od
                 have q136 : x20_2 < (((rd_T25 l0_2 x13_1).f7).length : Int) := Lib.od
                 obtain ⟨ad136, e136, hx136_0⟩ := Kd.at_int HR134_7.out x20_2 p136 q136
                 cases e136
                 replace hx136_0 := (HB.out.cell (World.block_lt_of_cell? w _ hx136_0)).trans hx136_0
                 replace p136 := eq_true p136
                 replace q136 := eq_true q136
                 go_wp2_with (first | (go_at_call 138; (with_reducible refine (spec_BlockOwner.calls (rd ((rd_T25 l0_2 x13_1).f7) x20_2) t137 _ A17.out).mono ?_); rintro e w' ⟨rfl, ⟨nd, rfl⟩⟩; (try first | exact ⟨rfl, _, World.drewN_drewN _ _ _⟩ | exact ⟨rfl, _, Eq.trans (World.drewN_drewN _ _ _) (congrArg (World.drewN _) (Nat.add_assoc _ _ _))⟩); have hnb27 := NB135_130.out; have hnc27 := NB130_135.out; obtain ⟨hcz28_0, hcz28_1, hcz28_2, hcz28_3, hcz28_4, hcz28_5, hcz28_6, hcz28_7, hcz28_8, hcz28_9, hfz28_0, hfz28_1, hfz28_2, hfz28_3, hfz28_4, hfz28_5, hfz28_6, hfz28_7, hfz28_8, hfz28_9⟩ := Lib.cel10 (W := wr) BK135.out; obtain ⟨Ao29, co29, eo29⟩ := Kd.R_slice HO_4.out; subst eo29; have p138 : 0 ≤ ((rd ((rd_T25 l0_2 x13_1).f7) x20_2) : Int) := Lib.od; have q138 : (rd ((rd_T25 l0_2 x13_1).f7) x20_2) < (x4_2.length : Int) := Lib.od; obtain ⟨ad138, e138, hx138_0⟩ := Kd.at_bool (Kd.R_reads' HO_4.out).2.2 (rd ((rd_T25 l0_2 x13_1).f7) x20_2) p138 q138; (try rw [← Nbq21.out] at hx138_0); cases e138; replace p138 := eq_true p138; replace q138 := eq_true q138; have p26 : 0 ≤ ((rd ((rd_T25 l0_2 x13_1).f7) x20_2) : Int) := Lib.od; have q26 : ((rd ((rd_T25 l0_2 x13_1).f7) x20_2) : Int) < ((x4_2.length : Int) : Int) := Lib.od; obtain ⟨go26, co26, eo26, gb26, gl26, cl26, HG26⟩ := Kd.R_form HO_4.out (by omega); (first | cases eo26 | (injection eo26 with ea_ en_ ec_; (first | subst ea_ | (injection ea_ with ea_; subst ea_)); subst ec_; clear en_)); have GB26 := Aside0.mk gb26; have GG26 := Aside0.mk HG26; clear gb26 gl26 HG26; (first | simp only [add_plain] at hx138_0 | skip); obtain ⟨hx26_0, hf26_0⟩ := Kd.R_celln false HO_4.out ((rd ((rd_T25 l0_2 x13_1).f7) x20_2) : Int) p26 q26; replace p26 := eq_true p26; replace q26 := eq_true q26; obtain ⟨hy30_, hz30_⟩ := Kd.R_celln false HO_4.out ((rd ((rd_T25 l0_2 x13_1).f7) x20_2) : Int) (Lib.od) (Lib.od); have HP30 := Kd.R_putg HO_4.out ((rd ((rd_T25 l0_2 x13_1).f7) x20_2) : Int) true) | ((with_reducible refine gate_store (t := 4) (p := 39) rfl ?_); (try (rw [drewN_self wr]; generalize hq_ : World.drewN wr _ = wr; have n0_ := Aside0.mk (Kd.R_at hq_ HO_4.out); have n1_ := Aside0.mk (blk_at hq_ BK130.out); have n2_ := Aside0.mk (blk_at hq_ BK135.out); have n3_ := Aside0.mk (below_at hq_ HB.out); clear hq_ HO_4 BK130 BK135 HB; have HO_4 := n0_; have BK130 := n1_; have BK135 := n2_; have HB := n3_; clear n0_ n1_ n2_ n3_; (try (obtain ⟨hy30_, hz30_⟩ := Kd.R_celln false HO_4.out ((rd ((rd_T25 l0_2 x13_1).f7) x20_2) : Int) (Lib.od) (Lib.od))); (try (have HP30 := Kd.R_putg HO_4.out ((rd ((rd_T25 l0_2 x13_1).f7) x20_2) : Int) true)))); refine store_event (t := 4) (p := 39) (v := ?vo_w31) (w1 := (wr.setCell ⟨go26, ((rd ((rd_T25 l0_2 x13_1).f7) x20_2) : Int).toNat, none⟩ (.bool true))) ?hg ?ho ?hn ?hr ?_; (case ho => rfl); (case hg => rfl); (case hn => rfl); (case hr => first | (go_simp; done) | (go_simp; rfl)); intro w31 hw; have hg : wr.grownBy w31 (some go26) := (by rw [hw]; exact HP30.2); have hp_ : Kd.R Kd.bool 4 w31 w.heap.size (fun _ => True) (.slice (some ⟨go26, 0, none⟩) x4_2.length co29) y139 := (by rw [hw, Ny139.out]; exact HP30.1); clear HP30; have n0_ := Aside0.mk (hp_); have n1_ := Aside0.mk (blk_grown (g := gb130) (o := .cells #[.int .i64 a0_0, .slice A0_1 l0_1.length c0_1, .slice (some ad134) l0_2.length c0_2, .slice A0_3 l0_3.length c0_3] 42 (0, 0)) (by exact Lib.bk BK130.out) hg (Kd.R_ne HO_4.out BK130.out (by decide))); have n2_ := Aside0.mk (blk_grown (g := gb135) (o := .cells #[.int .i64 ((rd_T25 l0_2 x13_1).f0), .int .i64 ((rd_T25 l0_2 x13_1).f1), .int .i64 ((rd_T25 l0_2 x13_1).f2), .int .i64 ((rd_T25 l0_2 x13_1).f3), .int .i64 ((rd_T25 l0_2 x13_1).f4), .int .i64 ((rd_T25 l0_2 x13_1).f5), .int .i64 ((rd_T25 l0_2 x13_1).f6), .slice (some ad136) ((rd_T25 l0_2 x13_1).f7).length c134_7, .slice A134_8 ((rd_T25 l0_2 x13_1).f8).length c134_8, .slice A134_9 ((rd_T25 l0_2 x13_1).f9).length c134_9] 25 (0, 0)) (by exact Lib.bk BK135.out) hg (Kd.R_ne HO_4.out BK135.out (by decide))); have n3_ := Aside0.mk ((by rw [hw]; exact below_set (HB.out) GB26.out : Below w.heap.size w w31)); clear HO_4; clear BK130; clear BK135; clear HB; have HO_4 := n0_; have BK130 := n1_; have BK135 := n2_; have HB := n3_; clear n0_ n1_ n2_ n3_; clear hg hw hp_))
                 repeat (go_quiet (first | (go_at_call 138; (with_reducible refine (spec_BlockOwner.calls (rd ((rd_T25 l0_2 x13_1).f7) x20_2) t137 _ A17.out).mono ?_); rintro e w' ⟨rfl, ⟨nd, rfl⟩⟩; (try first | exact ⟨rfl, _, World.drewN_drewN _ _ _⟩ | exact ⟨rfl, _, Eq.trans (World.drewN_drewN _ _ _) (congrArg (World.drewN _) (Nat.add_assoc _ _ _))⟩); have hnb27 := NB135_130.out; have hnc27 := NB130_135.out; obtain ⟨hcz28_0, hcz28_1, hcz28_2, hcz28_3, hcz28_4, hcz28_5, hcz28_6, hcz28_7, hcz28_8, hcz28_9, hfz28_0, hfz28_1, hfz28_2, hfz28_3, hfz28_4, hfz28_5, hfz28_6, hfz28_7, hfz28_8, hfz28_9⟩ := Lib.cel10 (W := wr) BK135.out; obtain ⟨Ao29, co29, eo29⟩ := Kd.R_slice HO_4.out; subst eo29; have p138 : 0 ≤ ((rd ((rd_T25 l0_2 x13_1).f7) x20_2) : Int) := Lib.od; have q138 : (rd ((rd_T25 l0_2 x13_1).f7) x20_2) < (x4_2.length : Int) := Lib.od; obtain ⟨ad138, e138, hx138_0⟩ := Kd.at_bool (Kd.R_reads' HO_4.out).2.2 (rd ((rd_T25 l0_2 x13_1).f7) x20_2) p138 q138; (try rw [← Nbq21.out] at hx138_0); cases e138; replace p138 := eq_true p138; replace q138 := eq_true q138; have p26 : 0 ≤ ((rd ((rd_T25 l0_2 x13_1).f7) x20_2) : Int) := Lib.od; have q26 : ((rd ((rd_T25 l0_2 x13_1).f7) x20_2) : Int) < ((x4_2.length : Int) : Int) := Lib.od; obtain ⟨go26, co26, eo26, gb26, gl26, cl26, HG26⟩ := Kd.R_form HO_4.out (by omega); (first | cases eo26 | (injection eo26 with ea_ en_ ec_; (first | subst ea_ | (injection ea_ with ea_; subst ea_)); subst ec_; clear en_)); have GB26 := Aside0.mk gb26; have GG26 := Aside0.mk HG26; clear gb26 gl26 HG26; (first | simp only [add_plain] at hx138_0 | skip); obtain ⟨hx26_0, hf26_0⟩ := Kd.R_celln false HO_4.out ((rd ((rd_T25 l0_2 x13_1).f7) x20_2) : Int) p26 q26; replace p26 := eq_true p26; replace q26 := eq_true q26; obtain ⟨hy30_, hz30_⟩ := Kd.R_celln false HO_4.out ((rd ((rd_T25 l0_2 x13_1).f7) x20_2) : Int) (Lib.od) (Lib.od); have HP30 := Kd.R_putg HO_4.out ((rd ((rd_T25 l0_2 x13_1).f7) x20_2) : Int) true) | ((with_reducible refine gate_store (t := 4) (p := 39) rfl ?_); (try (rw [drewN_self wr]; generalize hq_ : World.drewN wr _ = wr; have n0_ := Aside0.mk (Kd.R_at hq_ HO_4.out); have n1_ := Aside0.mk (blk_at hq_ BK130.out); have n2_ := Aside0.mk (blk_at hq_ BK135.out); have n3_ := Aside0.mk (below_at hq_ HB.out); clear hq_ HO_4 BK130 BK135 HB; have HO_4 := n0_; have BK130 := n1_; have BK135 := n2_; have HB := n3_; clear n0_ n1_ n2_ n3_; (try (obtain ⟨hy30_, hz30_⟩ := Kd.R_celln false HO_4.out ((rd ((rd_T25 l0_2 x13_1).f7) x20_2) : Int) (Lib.od) (Lib.od))); (try (have HP30 := Kd.R_putg HO_4.out ((rd ((rd_T25 l0_2 x13_1).f7) x20_2) : Int) true)))); refine store_event (t := 4) (p := 39) (v := ?vo_w31) (w1 := (wr.setCell ⟨go26, ((rd ((rd_T25 l0_2 x13_1).f7) x20_2) : Int).toNat, none⟩ (.bool true))) ?hg ?ho ?hn ?hr ?_; (case ho => rfl); (case hg => rfl); (case hn => rfl); (case hr => first | (go_simp; done) | (go_simp; rfl)); intro w31 hw; have hg : wr.grownBy w31 (some go26) := (by rw [hw]; exact HP30.2); have hp_ : Kd.R Kd.bool 4 w31 w.heap.size (fun _ => True) (.slice (some ⟨go26, 0, none⟩) x4_2.length co29) y139 := (by rw [hw, Ny139.out]; exact HP30.1); clear HP30; have n0_ := Aside0.mk (hp_); have n1_ := Aside0.mk (blk_grown (g := gb130) (o := .cells #[.int .i64 a0_0, .slice A0_1 l0_1.length c0_1, .slice (some ad134) l0_2.length c0_2, .slice A0_3 l0_3.length c0_3] 42 (0, 0)) (by exact Lib.bk BK130.out) hg (Kd.R_ne HO_4.out BK130.out (by decide))); have n2_ := Aside0.mk (blk_grown (g := gb135) (o := .cells #[.int .i64 ((rd_T25 l0_2 x13_1).f0), .int .i64 ((rd_T25 l0_2 x13_1).f1), .int .i64 ((rd_T25 l0_2 x13_1).f2), .int .i64 ((rd_T25 l0_2 x13_1).f3), .int .i64 ((rd_T25 l0_2 x13_1).f4), .int .i64 ((rd_T25 l0_2 x13_1).f5), .int .i64 ((rd_T25 l0_2 x13_1).f6), .slice (some ad136) ((rd_T25 l0_2 x13_1).f7).length c134_7, .slice A134_8 ((rd_T25 l0_2 x13_1).f8).length c134_8, .slice A134_9 ((rd_T25 l0_2 x13_1).f9).length c134_9] 25 (0, 0)) (by exact Lib.bk BK135.out) hg (Kd.R_ne HO_4.out BK135.out (by decide))); have n3_ := Aside0.mk ((by rw [hw]; exact below_set (HB.out) GB26.out : Below w.heap.size w w31)); clear HO_4; clear BK130; clear BK135; clear HB; have HO_4 := n0_; have BK130 := n1_; have BK135 := n2_; have HB := n3_; clear n0_ n1_ n2_ n3_; clear hg hw hp_)); try go_wp2_with (first | (go_at_call 138; (with_reducible refine (spec_BlockOwner.calls (rd ((rd_T25 l0_2 x13_1).f7) x20_2) t137 _ A17.out).mono ?_); rintro e w' ⟨rfl, ⟨nd, rfl⟩⟩; (try first | exact ⟨rfl, _, World.drewN_drewN _ _ _⟩ | exact ⟨rfl, _, Eq.trans (World.drewN_drewN _ _ _) (congrArg (World.drewN _) (Nat.add_assoc _ _ _))⟩); have hnb27 := NB135_130.out; have hnc27 := NB130_135.out; obtain ⟨hcz28_0, hcz28_1, hcz28_2, hcz28_3, hcz28_4, hcz28_5, hcz28_6, hcz28_7, hcz28_8, hcz28_9, hfz28_0, hfz28_1, hfz28_2, hfz28_3, hfz28_4, hfz28_5, hfz28_6, hfz28_7, hfz28_8, hfz28_9⟩ := Lib.cel10 (W := wr) BK135.out; obtain ⟨Ao29, co29, eo29⟩ := Kd.R_slice HO_4.out; subst eo29; have p138 : 0 ≤ ((rd ((rd_T25 l0_2 x13_1).f7) x20_2) : Int) := Lib.od; have q138 : (rd ((rd_T25 l0_2 x13_1).f7) x20_2) < (x4_2.length : Int) := Lib.od; obtain ⟨ad138, e138, hx138_0⟩ := Kd.at_bool (Kd.R_reads' HO_4.out).2.2 (rd ((rd_T25 l0_2 x13_1).f7) x20_2) p138 q138; (try rw [← Nbq21.out] at hx138_0); cases e138; replace p138 := eq_true p138; replace q138 := eq_true q138; have p26 : 0 ≤ ((rd ((rd_T25 l0_2 x13_1).f7) x20_2) : Int) := Lib.od; have q26 : ((rd ((rd_T25 l0_2 x13_1).f7) x20_2) : Int) < ((x4_2.length : Int) : Int) := Lib.od; obtain ⟨go26, co26, eo26, gb26, gl26, cl26, HG26⟩ := Kd.R_form HO_4.out (by omega); (first | cases eo26 | (injection eo26 with ea_ en_ ec_; (first | subst ea_ | (injection ea_ with ea_; subst ea_)); subst ec_; clear en_)); have GB26 := Aside0.mk gb26; have GG26 := Aside0.mk HG26; clear gb26 gl26 HG26; (first | simp only [add_plain] at hx138_0 | skip); obtain ⟨hx26_0, hf26_0⟩ := Kd.R_celln false HO_4.out ((rd ((rd_T25 l0_2 x13_1).f7) x20_2) : Int) p26 q26; replace p26 := eq_true p26; replace q26 := eq_true q26; obtain ⟨hy30_, hz30_⟩ := Kd.R_celln false HO_4.out ((rd ((rd_T25 l0_2 x13_1).f7) x20_2) : Int) (Lib.od) (Lib.od); have HP30 := Kd.R_putg HO_4.out ((rd ((rd_T25 l0_2 x13_1).f7) x20_2) : Int) true) | ((with_reducible refine gate_store (t := 4) (p := 39) rfl ?_); (try (rw [drewN_self wr]; generalize hq_ : World.drewN wr _ = wr; have n0_ := Aside0.mk (Kd.R_at hq_ HO_4.out); have n1_ := Aside0.mk (blk_at hq_ BK130.out); have n2_ := Aside0.mk (blk_at hq_ BK135.out); have n3_ := Aside0.mk (below_at hq_ HB.out); clear hq_ HO_4 BK130 BK135 HB; have HO_4 := n0_; have BK130 := n1_; have BK135 := n2_; have HB := n3_; clear n0_ n1_ n2_ n3_; (try (obtain ⟨hy30_, hz30_⟩ := Kd.R_celln false HO_4.out ((rd ((rd_T25 l0_2 x13_1).f7) x20_2) : Int) (Lib.od) (Lib.od))); (try (have HP30 := Kd.R_putg HO_4.out ((rd ((rd_T25 l0_2 x13_1).f7) x20_2) : Int) true)))); refine store_event (t := 4) (p := 39) (v := ?vo_w31) (w1 := (wr.setCell ⟨go26, ((rd ((rd_T25 l0_2 x13_1).f7) x20_2) : Int).toNat, none⟩ (.bool true))) ?hg ?ho ?hn ?hr ?_; (case ho => rfl); (case hg => rfl); (case hn => rfl); (case hr => first | (go_simp; done) | (go_simp; rfl)); intro w31 hw; have hg : wr.grownBy w31 (some go26) := (by rw [hw]; exact HP30.2); have hp_ : Kd.R Kd.bool 4 w31 w.heap.size (fun _ => True) (.slice (some ⟨go26, 0, none⟩) x4_2.length co29) y139 := (by rw [hw, Ny139.out]; exact HP30.1); clear HP30; have n0_ := Aside0.mk (hp_); have n1_ := Aside0.mk (blk_grown (g := gb130) (o := .cells #[.int .i64 a0_0, .slice A0_1 l0_1.length c0_1, .slice (some ad134) l0_2.length c0_2, .slice A0_3 l0_3.length c0_3] 42 (0, 0)) (by exact Lib.bk BK130.out) hg (Kd.R_ne HO_4.out BK130.out (by decide))); have n2_ := Aside0.mk (blk_grown (g := gb135) (o := .cells #[.int .i64 ((rd_T25 l0_2 x13_1).f0), .int .i64 ((rd_T25 l0_2 x13_1).f1), .int .i64 ((rd_T25 l0_2 x13_1).f2), .int .i64 ((rd_T25 l0_2 x13_1).f3), .int .i64 ((rd_T25 l0_2 x13_1).f4), .int .i64 ((rd_T25 l0_2 x13_1).f5), .int .i64 ((rd_T25 l0_2 x13_1).f6), .slice (some ad136) ((rd_T25 l0_2 x13_1).f7).length c134_7, .slice A134_8 ((rd_T25 l0_2 x13_1).f8).length c134_8, .slice A134_9 ((rd_T25 l0_2 x13_1).f9).length c134_9] 25 (0, 0)) (by exact Lib.bk BK135.out) hg (Kd.R_ne HO_4.out BK135.out (by decide))); have n3_ := Aside0.mk ((by rw [hw]; exact below_set (HB.out) GB26.out : Below w.heap.size w w31)); clear HO_4; clear BK130; clear BK135; clear HB; have HO_4 := n0_; have BK130 := n1_; have BK135 := n2_; have HB := n3_; clear n0_ n1_ n2_ n3_; clear hg hw hp_)))
                 go_roundg k2
                 case measure => have := HK1.out; have := HK2.out; omega
                 case rel => exact ⟨(y139), (wrap64 (x20_2 + 1)), (by first | rfl | (simp; done) | (simp [*]; done)), H', ⟨by have := HK1.out; have := HK2.out; omega⟩, ⟨by exact Lib.cr HO_4.out⟩, ⟨by exact Lib.bk BK130.out⟩, ⟨by exact Lib.bk BK135.out⟩, ⟨by repeat (first | (with_reducible first | exact HB.out | apply below_alloc | apply pw_below_drewN | apply below_drew1 | refine below_set ?_ GE130.out | refine below_set ?_ GE135.out) | exact HB.out)⟩⟩
               ·
                rw [if_neg c20] at H
                exact absurd H (by simp)
              ·
               rw [if_neg c19] at H
               exact absurd H (by simp)
             ·
              rw [if_neg c18] at H
              have c18b0 : (t137 == ((rd_T25 l0_2 x13_1).f2)) = false := beq_eq_false_iff_ne.mpr c18
              have c18b1 : (t137 != ((rd_T25 l0_2 x13_1).f2)) = true := bne_iff_ne.mpr c18
              simp only [Option.some.injEq, Prod.mk.injEq] at H
              obtain ⟨rfl, rfl⟩ := H
              have p136 : 0 ≤ (x20_2 : Int) := Lib.od
              have q136 : x20_2 < (((rd_T25 l0_2 x13_1).f7).length : Int) := Lib.od
              obtain ⟨ad136, e136, hx136_0⟩ := Kd.at_int HR134_7.out x20_2 p136 q136
              cases e136
              replace hx136_0 := (HB.out.cell (World.block_lt_of_cell? w _ hx136_0)).trans hx136_0
              replace p136 := eq_true p136
              replace q136 := eq_true q136
              go_wp2_with (first | (go_at_call 138; (with_reducible refine (spec_BlockOwner.calls (rd ((rd_T25 l0_2 x13_1).f7) x20_2) t137 _ A17.out).mono ?_); rintro e w' ⟨rfl, ⟨nd, rfl⟩⟩; (try first | exact ⟨rfl, _, World.drewN_drewN _ _ _⟩ | exact ⟨rfl, _, Eq.trans (World.drewN_drewN _ _ _) (congrArg (World.drewN _) (Nat.add_assoc _ _ _))⟩); have hnb32 := NB135_130.out; have hnc32 := NB130_135.out; obtain ⟨hcz33_0, hcz33_1, hcz33_2, hcz33_3, hcz33_4, hcz33_5, hcz33_6, hcz33_7, hcz33_8, hcz33_9, hfz33_0, hfz33_1, hfz33_2, hfz33_3, hfz33_4, hfz33_5, hfz33_6, hfz33_7, hfz33_8, hfz33_9⟩ := Lib.cel10 (W := wr) BK135.out))
              repeat (go_quiet (first | (go_at_call 138; (with_reducible refine (spec_BlockOwner.calls (rd ((rd_T25 l0_2 x13_1).f7) x20_2) t137 _ A17.out).mono ?_); rintro e w' ⟨rfl, ⟨nd, rfl⟩⟩; (try first | exact ⟨rfl, _, World.drewN_drewN _ _ _⟩ | exact ⟨rfl, _, Eq.trans (World.drewN_drewN _ _ _) (congrArg (World.drewN _) (Nat.add_assoc _ _ _))⟩); have hnb32 := NB135_130.out; have hnc32 := NB130_135.out; obtain ⟨hcz33_0, hcz33_1, hcz33_2, hcz33_3, hcz33_4, hcz33_5, hcz33_6, hcz33_7, hcz33_8, hcz33_9, hfz33_0, hfz33_1, hfz33_2, hfz33_3, hfz33_4, hfz33_5, hfz33_6, hfz33_7, hfz33_8, hfz33_9⟩ := Lib.cel10 (W := wr) BK135.out)); try go_wp2_with (first | (go_at_call 138; (with_reducible refine (spec_BlockOwner.calls (rd ((rd_T25 l0_2 x13_1).f7) x20_2) t137 _ A17.out).mono ?_); rintro e w' ⟨rfl, ⟨nd, rfl⟩⟩; (try first | exact ⟨rfl, _, World.drewN_drewN _ _ _⟩ | exact ⟨rfl, _, Eq.trans (World.drewN_drewN _ _ _) (congrArg (World.drewN _) (Nat.add_assoc _ _ _))⟩); have hnb32 := NB135_130.out; have hnc32 := NB130_135.out; obtain ⟨hcz33_0, hcz33_1, hcz33_2, hcz33_3, hcz33_4, hcz33_5, hcz33_6, hcz33_7, hcz33_8, hcz33_9, hfz33_0, hfz33_1, hfz33_2, hfz33_3, hfz33_4, hfz33_5, hfz33_6, hfz33_7, hfz33_8, hfz33_9⟩ := Lib.cel10 (W := wr) BK135.out)))
              go_ret2
              exact ⟨_, by first | rfl | (simp [errW_none, errW_some] <;> rfl) | (simp [*, errW_none, errW_some] <;> rfl), by first | exact Kd.R_nil _ _ _ _ _ | exact Kd.N_nil _ _ _ _ _ | exact Kd.V_nil _ _ _ _ _ | exact Kd.Q_nil _ _ _ _ _ | exact Kd.S_nil _ _ _ _ _, by repeat (first | (with_reducible first | exact HB.out | apply below_alloc | apply pw_below_drewN | apply below_drew1 | refine below_set ?_ GE130.out | refine below_set ?_ GE135.out) | exact HB.out)⟩
           ·
            rw [if_neg c15] at H
            exact absurd H (by simp)
          ·
           rw [if_neg c14] at H
           exact absurd H (by simp)
         ·
          rw [if_neg c13] at H
          have c13b0 : decide (x20_2 < (((rd_T25 l0_2 x13_1).f7).length : Int)) = false := decide_eq_false c13
          clear c13
          have H' := Aside0.mk H
          clear H
          go_wp2
          repeat (go_quiet (fail); try go_wp2)
          go_roundg k2
          case measure => have := HK1.out; have := HK2.out; omega
          case rel => exact ⟨(x4_2), (wrap64 (x13_1 + 1)), (by first | rfl | (simp; done) | (simp [*]; done)), H', ⟨by have := HK1.out; have := HK2.out; omega⟩, ⟨by exact Lib.cr HO_4.out⟩, ⟨by exact Lib.bk BK130.out⟩, ⟨by repeat (first | (with_reducible first | exact HB.out | apply below_alloc | apply pw_below_drewN | apply below_drew1 | refine below_set ?_ GE130.out | refine below_set ?_ GE135.out) | exact HB.out)⟩⟩
      ·
       rw [if_neg c9] at H
       exact absurd H (by simp)
     ·
      rw [if_neg c8] at H
      exact absurd H (by simp)
    ·
     rw [if_neg c7] at H
     have c7b0 : decide (x13_1 < (l0_2.length : Int)) = false := decide_eq_false c7
     clear c7
     simp only [Option.some.injEq, Prod.mk.injEq] at H
     obtain ⟨rfl, rfl⟩ := H
     go_wp2
     repeat (go_quiet (fail); try go_wp2)
     go_ret2
     exact ⟨_, by first | rfl | (simp [errW_none, errW_some] <;> rfl) | (simp [*, errW_none, errW_some] <;> rfl), by exact Lib.cr HO_4.out, by exact Lib.bs HB.out GE130.out⟩
 ·
  rw [if_neg c2] at H
  exact absurd H (by simp)

/-! ### spec_IsZeroes: function 102 -/
def spec_IsZeroes.l0 : Nat → ByteArray → Int → Option (Bool)
 | 0, _, _ => none
 | k + 1, x0, x3 => if x3 < (x0.size : Int) then (if 0 ≤ x3 then (if (bt x0 x3) = 0 then (spec_IsZeroes.l0 k x0 (wrap64 (x3 + 1))) else (some false)) else (none)) else (some true)
def spec_IsZeroes.f (k : Nat) (a0 : ByteArray) : Option (Bool) := spec_IsZeroes.l0 k a0 0
theorem spec_IsZeroes.mono_l : ∀ k, (∀ y0 y1, LeO (spec_IsZeroes.l0 k y0 y1) (spec_IsZeroes.l0 (k + 1) y0 y1))
 | 0 => fun _ _ r h => by simp [spec_IsZeroes.l0] at h
 | k + 1 => by
  have ih0 := spec_IsZeroes.mono_l k
  ·
   intro y0 y1
   unfold spec_IsZeroes.l0
   repeat' first
   | (with_reducible exact ih0 _ _)
   | (with_reducible exact LeO.refl _)
   | (with_reducible exact LeO.none _)
   | (with_reducible refine LeO.ite ?_ ?_)
   | (with_reducible refine LeO.bind ?_ (fun _ => ?_))
   | exact ih0 _ _
   | exact LeO.none _
   | refine LeO.ite ?_ ?_
   | refine LeO.bind ?_ (fun _ => ?_)
theorem spec_IsZeroes.mono : ∀ a0 k, LeO (spec_IsZeroes.f k a0) (spec_IsZeroes.f (k + 1) a0) := by
 intro a0 k
 have ih0 := spec_IsZeroes.mono_l k
 unfold spec_IsZeroes.f
 repeat' first
  | (with_reducible exact ih0 _ _)
  | (with_reducible exact LeO.refl _)
  | (with_reducible exact LeO.none _)
  | (with_reducible refine LeO.ite ?_ ?_)
  | (with_reducible refine LeO.bind ?_ (fun _ => ?_))
  | exact ih0 _ _
  | exact LeO.none _
  | refine LeO.ite ?_ ?_
  | refine LeO.bind ?_ (fun _ => ?_)
set_option maxHeartbeats 8000000 in
set_option maxRecDepth 100000 in
theorem spec_IsZeroes.calls (k : Nat) (a0 : ByteArray) (r : Bool) (w : World) (h : spec_IsZeroes.f k a0 = some r) :
 Calls Try.prog 102 #[.string a0] w fun e w' => e = .returned (.bool r) ∧ Drawn0 w w' := by
 have H : (spec_IsZeroes.l0 k a0 0) = some r := h
 clear h
 have H' := Aside0.mk H
 clear H
 go_enter Try.func102, Try.ntmps102
 go_wp2
 go_loopg [3] k (fun kq v3 w' => ∃ (x3_1 : Int), v3 = .int .i64 x3_1 ∧ Aside0 (spec_IsZeroes.l0 kq a0 x3_1 = some r) ∧ Aside0 (kq ≤ k) ∧ Drawn0 w w')
 case atStart => exact ⟨(0), (by first | rfl | (simp; done) | (simp [*]; done)), H', ⟨Nat.le_refl _⟩, by repeat (first | exact Drawn0.refl _ | apply Drawn0.step)⟩
 case round =>
  clear H'
  try clear c1
  obtain ⟨x3_1, rfl, HA, HK1, ⟨m1, rfl⟩⟩ := hrel
  cases gk with
  | zero => exact absurd HA.out (by simp [spec_IsZeroes.l0])
  | succ k1 =>
   have H := HA.out
   clear HA
   simp only [spec_IsZeroes.l0] at H
   by_cases c2 : x3_1 < (a0.size : Int)
   ·
    rw [if_pos c2] at H
    have c2b0 : decide (x3_1 < (a0.size : Int)) = true := decide_eq_true c2
    clear c2
    by_cases c3 : 0 ≤ x3_1
    ·
     rw [if_pos c3] at H
     have c3b0 : decide (0 ≤ x3_1) = true := decide_eq_true c3
     clear c3
     by_cases c5 : (bt a0 x3_1) = 0
     ·
      rw [if_pos c5] at H
      have c5b0 : ((bt a0 x3_1) == 0) = true := beq_iff_eq.mpr c5
      have c5b1 : ((bt a0 x3_1) != 0) = false := bne_eq_false_iff_eq.mpr c5
      clear c5
      have H' := Aside0.mk H
      clear H
      have p4 : 0 ≤ (x3_1 : Int) := Lib.od
      have q4 : x3_1 < (a0.size : Int) := Lib.od
      have hx4 := bt_at a0 x3_1
      replace p4 := eq_true p4
      replace q4 := eq_true q4
      go_wp2
      go_roundg k1
      case measure => have := HK1.out; omega
      case rel => exact ⟨(wrap64 (x3_1 + 1)), (by first | rfl | (simp; done) | (simp [*]; done)), H', ⟨by have := HK1.out; omega⟩, by repeat (first | exact Drawn0.refl _ | apply Drawn0.step)⟩
     ·
      rw [if_neg c5] at H
      have c5b0 : ((bt a0 x3_1) == 0) = false := beq_eq_false_iff_ne.mpr c5
      have c5b1 : ((bt a0 x3_1) != 0) = true := bne_iff_ne.mpr c5
      obtain rfl := Option.some.inj H
      have p4 : 0 ≤ (x3_1 : Int) := Lib.od
      have q4 : x3_1 < (a0.size : Int) := Lib.od
      have hx4 := bt_at a0 x3_1
      replace p4 := eq_true p4
      replace q4 := eq_true q4
      go_wp2
      go_ret
      exact ⟨by first | rfl | (simp; done) | (simp [*]; done), by repeat (first | exact Drawn0.refl _ | apply Drawn0.step)⟩
    ·
     rw [if_neg c3] at H
     exact absurd H (by simp)
   ·
    rw [if_neg c2] at H
    have c2b0 : decide (x3_1 < (a0.size : Int)) = false := decide_eq_false c2
    clear c2
    obtain rfl := Option.some.inj H
    go_wp2
    go_ret
    exact ⟨by first | rfl | (simp; done) | (simp [*]; done), by repeat (first | exact Drawn0.refl _ | apply Drawn0.step)⟩

end Go.Proofs.Ytnfiapcemafmiaa.PFnExactNextBlock
