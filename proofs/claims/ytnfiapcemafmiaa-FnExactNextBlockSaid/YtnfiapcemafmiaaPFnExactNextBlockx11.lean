-- Written by a program of this session over Lean's own print of the program.
import Derived.Test.YtnfiapcemafmiaaPFnExactNextBlockx0
import Derived.Test.YtnfiapcemafmiaaPFnExactNextBlockx9
import Derived.Test.YtnfiapcemafmiaaPFnExactNextBlockx10
namespace Go.Proofs.Ytnfiapcemafmiaa.PFnExactNextBlock
open Go.RowKit Go.Proofs.YtnfiapcemafmiaaW.PrintWords Go.Proofs.YtnfiapcemafmiaaW.PrintLast Go.Proofs.YtnfiapcemafmiaaW.PrintMore
attribute [local go_sem] max2_int min2_int max_two min_two max_three min_three max_four min_four   -- for this text's walks alone
set_option linter.unusedVariables false
set_option linter.unusedSimpArgs false

/-! ### slices_Contains_int_int: function 98 -/
/-- slices.Contains of numbers. -/
def slices_Contains_int_int.f (l0 : List Int) (a1 : Int) : Option Bool := if l0.length ≤ 4611686018427387904 then some (l0.any (· == a1)) else none
set_option maxHeartbeats 8000000 in
set_option maxRecDepth 100000 in
theorem slices_Contains_int_int.index (A0 : Option Addr) (c0 : Nat) (l0 : List Int) (a1 : Int) (w : World) (hr0 : Kd.C (Kd.int .i64) w A0 l0.length l0) (hl : l0.length ≤ 4611686018427387904) :
 Calls Try.prog 133 #[.slice A0 l0.length c0, .int .i64 a1] w fun e w' => ∃ i : Int, e = .returned (.int .i64 i) ∧ decide (i ≥ 0) = (l0.any (· == a1)) ∧ w = w' := by
 have HR := Aside0.mk hr0
 have HL := Aside0.mk hl
 clear hr0 hl
 go_enter Try.func133, Try.ntmps133
 go_wp2
 go_loopg [8] (l0.length + 1) (fun kq v8 w' => ∃ i : Nat, v8 = .int .i64 (i : Int) ∧ Aside0 (i ≤ l0.length ∧ l0.length - i < kq) ∧ Aside0 ((l0.drop i).any (· == a1) = l0.any (· == a1)) ∧ w = w')
 case atStart => exact ⟨0, rfl, ⟨by omega⟩, ⟨rfl⟩, rfl⟩
 case round =>
  obtain ⟨i, rfl, HM, HJ, rfl⟩ := hrel
  cases gk with
  | zero => exact absurd HM.out.2 (by omega)
  | succ k1 =>
   by_cases c : i < l0.length
   ·
    have HD : Aside0 (l0.drop i = rd l0 i :: l0.drop (i + 1)) := ⟨by
     rw [List.drop_eq_getElem_cons c]
     congr 1
     show _ = l0.getD ((i : Int)).toNat 0
     rw [List.getD_eq_getElem?_getD, Int.toNat_natCast, List.getElem?_eq_getElem c]
     rfl⟩
    obtain ⟨ad, e0, hx⟩ := Kd.at_int HR.out (i : Int) (by omega) (by omega)
    cases e0
    simp only [Int.toNat_natCast] at hx
    have b0 : decide ((i : Int) < (l0.length : Int)) = true := decide_eq_true (by omega)
    have b1 := eq_true (show (i : Int) < (l0.length : Int) by omega)
    have b2 := eq_true (show 0 ≤ (i : Int) by omega)
    cases hP : (rd l0 i == a1) with
    | true =>
     have hQ : (a1 == rd l0 i) = true := by rw [beq_iff_eq] at hP ⊢; exact hP.symm
     go_wp2
     go_ret
     exact ⟨i, rfl, by rw [← HJ.out, HD.out, List.any_cons, hP, Bool.true_or]; exact decide_eq_true (by omega), rfl⟩
    | false =>
     have hQ : (a1 == rd l0 i) = false := by rw [beq_eq_false_iff_ne] at hP ⊢; exact fun e => hP e.symm
     go_wp2
     go_roundg k1
     case measure => exact Nat.lt_succ_self _
     case rel => exact ⟨i + 1, by rw [show wrap64 ((i : Int) + 1) = ((i + 1 : Nat) : Int) by have := HL.out; unfold wrap64; omega], ⟨by have := HM.out; omega⟩, ⟨by rw [← HJ.out, HD.out, List.any_cons, hP, Bool.false_or]⟩, rfl⟩
   ·
    have b0 : decide ((i : Int) < (l0.length : Int)) = false := decide_eq_false (by omega)
    have b1 := eq_false (show ¬ (i : Int) < (l0.length : Int) by omega)
    go_wp2
    go_ret
    exact ⟨-1, rfl, by rw [← HJ.out, List.drop_eq_nil_of_le (by omega)]; rfl, rfl⟩
theorem slices_Contains_int_int.calls (A0 : Option Addr) (c0 : Nat) (l0 : List Int) (a1 : Int) (r : Bool) (w : World) (hr0 : Kd.C (Kd.int .i64) w A0 l0.length l0) (hc0 : l0.length ≤ c0) (h : slices_Contains_int_int.f l0 a1 = some r) :
 Calls Try.prog 98 #[.slice A0 l0.length c0, .int .i64 a1] w fun e w' => e = .returned (.bool r) ∧ Below w.heap.size w w' := by
 unfold slices_Contains_int_int.f at h
 by_cases hl : l0.length ≤ 4611686018427387904
 case neg =>
  rw [if_neg hl] at h
  cases h
 rw [if_pos hl] at h
 obtain rfl := Option.some.inj h
 have HI := Aside0.mk (slices_Contains_int_int.index A0 c0 l0 a1 w hr0 hl)
 clear hr0 hl h hc0
 go_enter Try.func98, Try.ntmps98
 go_wp2_with (first | ((with_reducible refine gate_callee (f := 133) rfl ?_); refine goesL_ (some 7) rfl rfl Try.func133 (by kernel_rfl) rfl #[.slice A0 l0.length c0, .int .i64 a1] rfl (by simp only [List.map_toArray, List.map_cons, List.map_nil]; rfl) ?_; refine HI.out.mono ?_; rintro e w' ⟨i, rfl, hi, rfl⟩; refine ⟨_, rfl, ?_⟩))
 go_ret
 exact ⟨by rw [← hi]; rfl, Below.refl _ _⟩

/-! ### impl_IsInode: function 37 -/
/-- impl.IsInode. -/
def impl_IsInode.f (k : Nat) (a0_0 a0_1 a0_2 a0_3 a0_4 a0_5 a0_6 : Int) (l0_7 : List Int) (l0_8 : List (S107)) (l0_9 : List (S107)) : Option Bool := if a0_0 = 0 then impl_SameInode.f k a0_0 a0_1 a0_2 a0_3 a0_4 a0_5 a0_6 l0_7 l0_8 l0_9 0 0 0 0 0 0 0 [] [] [] else if a0_0 = 1 ∨ a0_0 = 2 then (impl_IsAcl.f k l0_8).bind fun t8 => (impl_IsAcl.f k l0_9).bind fun t9 => if l0_7.length ≤ 4611686018427387904 then some (!(Lib.chainI a0_1 a0_2 a0_3 a0_4 a0_5 a0_6 (l0_7.length : Int) t8 t9) && (Lib.blkFrom [] l0_7 && Lib.tailI a0_0 a0_1 (l0_9.length : Int))) else none else some false
theorem impl_IsInode.mono : ∀ a0 a1 a2 a3 a4 a5 a6 a7 a8 a9 k, LeO (impl_IsInode.f k a0 a1 a2 a3 a4 a5 a6 a7 a8 a9) (impl_IsInode.f (k + 1) a0 a1 a2 a3 a4 a5 a6 a7 a8 a9) := by
 intro a0 a1 a2 a3 a4 a5 a6 a7 a8 a9 k
 unfold impl_IsInode.f
 exact LeO.ite (impl_SameInode.mono _ _ _ _ _ _ _ _ _ _ _ _ _ _ _ _ _ _ _ _ _) (LeO.ite (LeO.bind (impl_IsAcl.mono _ _) fun _ => LeO.bind (impl_IsAcl.mono _ _) fun _ => LeO.refl _) (LeO.refl _))
theorem impl_IsInode.user (a : Int) : impl_isUser.f a = some (Lib.inB a 0 3) := by
 unfold impl_isUser.f Lib.inB
 split
 ·
  rw [show decide (a < 4) = decide (a ≤ 3) from decide_eq_decide.2 (by omega)]
 ·
  rfl
set_option maxHeartbeats 8000000 in
set_option maxRecDepth 100000 in
theorem impl_IsInode.calls (k : Nat) (a0_0 a0_1 a0_2 a0_3 a0_4 a0_5 a0_6 : Int) (A0_7 : Option Addr) (c0_7 : Nat) (l0_7 : List Int) (A0_8 : Option Addr) (c0_8 : Nat) (l0_8 : List (S107)) (A0_9 : Option Addr) (c0_9 : Nat) (l0_9 : List (S107)) (r : Bool) (w : World) (hr0_7 : Kd.C (Kd.int .i64) w A0_7 l0_7.length l0_7) (hc0_7 : l0_7.length ≤ c0_7) (hr0_8 : Kd.C k107 w A0_8 l0_8.length l0_8) (hc0_8 : l0_8.length ≤ c0_8) (hr0_9 : Kd.C k107 w A0_9 l0_9.length l0_9) (hc0_9 : l0_9.length ≤ c0_9) (h : impl_IsInode.f k a0_0 a0_1 a0_2 a0_3 a0_4 a0_5 a0_6 l0_7 l0_8 l0_9 = some r) :
 Calls Try.prog 37 #[.agg #[.int .i64 a0_0, .int .i64 a0_1, .int .i64 a0_2, .int .i64 a0_3, .int .i64 a0_4, .int .i64 a0_5, .int .i64 a0_6, .slice A0_7 l0_7.length c0_7, .slice A0_8 l0_8.length c0_8, .slice A0_9 l0_9.length c0_9]] w fun e w' => e = .returned (.bool r) ∧ Below w.heap.size w w' := by
 have hu := Try.underlying25
 have HR7 := Aside0.mk hr0_7
 have HC7 := Aside0.mk hc0_7
 clear hr0_7 hc0_7
 have HR8 := Aside0.mk hr0_8
 have HC8 := Aside0.mk hc0_8
 clear hr0_8 hc0_8
 have HR9 := Aside0.mk hr0_9
 have HC9 := Aside0.mk hc0_9
 clear hr0_9 hc0_9
 unfold impl_IsInode.f at h
 by_cases c0 : a0_0 = 0
 ·
  rw [if_pos c0] at h
  have HH := Aside0.mk h
  have b0 : (a0_0 == 0) = true := beq_iff_eq.mpr c0
  clear c0 h
  go_enter Try.func37, Try.ntmps37
  go_wp2_with (first | ((with_reducible refine gate_dst (N := 1) rfl ?_); refine box_event rfl (N := 1) rfl (cs := #[.int .i64 a0_0, .int .i64 a0_1, .int .i64 a0_2, .int .i64 a0_3, .int .i64 a0_4, .int .i64 a0_5, .int .i64 a0_6, .slice A0_7 l0_7.length c0_7, .slice A0_8 l0_8.length c0_8, .slice A0_9 l0_9.length c0_9]) (t := 25) (by first | (go_simp; done) | (go_simp; rfl)) ?_; intro gb hg w1 hbox hb; have BK := Aside0.mk hbox; have HB := Aside0.mk hb; have HG : Aside0 (w.heap.size ≤ gb) := ⟨by rw [hg]; exact Nat.le_refl _⟩; have z0 := (blk_cell BK.out 0).trans rfl; have z1 := (blk_cell BK.out 1).trans rfl; have z2 := (blk_cell BK.out 2).trans rfl; have z3 := (blk_cell BK.out 3).trans rfl; have z4 := (blk_cell BK.out 4).trans rfl; have z5 := (blk_cell BK.out 5).trans rfl; have z6 := (blk_cell BK.out 6).trans rfl; have z7 := (blk_cell BK.out 7).trans rfl; have z8 := (blk_cell BK.out 8).trans rfl; have z9 := (blk_cell BK.out 9).trans rfl; clear hg hbox hb) | ((with_reducible refine gate_callee (f := 36) rfl ?_); refine goesL_ (some 11) rfl rfl Try.func36 (by kernel_rfl) rfl #[.agg #[.int .i64 a0_0, .int .i64 a0_1, .int .i64 a0_2, .int .i64 a0_3, .int .i64 a0_4, .int .i64 a0_5, .int .i64 a0_6, .slice A0_7 l0_7.length c0_7, .slice A0_8 l0_8.length c0_8, .slice A0_9 l0_9.length c0_9], .agg #[.int .i64 0, .int .i64 0, .int .i64 0, .int .i64 0, .int .i64 0, .int .i64 0, .int .i64 0, .slice none 0 0, .slice none 0 0, .slice none 0 0]] rfl (by simp only [List.map_toArray, List.map_cons, List.map_nil]; rfl) ?_; refine (impl_SameInode.calls k a0_0 a0_1 a0_2 a0_3 a0_4 a0_5 a0_6 _ _ l0_7 _ _ l0_8 _ _ l0_9 0 0 0 0 0 0 0 _ _ ([] : List Int) _ _ ([] : List (S107)) _ _ ([] : List (S107)) r w1 (Kd.C_below HR7.out HB.out) HC7.out (Kd.C_below HR8.out HB.out) HC8.out (Kd.C_below HR9.out HB.out) HC9.out (Kd.C_nil _ _) (Nat.zero_le _) (Kd.C_nil _ _) (Nat.zero_le _) (Kd.C_nil _ _) (Nat.zero_le _) HH.out).mono ?_; rintro e w2 ⟨rfl, hb⟩; refine ⟨_, rfl, ?_⟩; have HB := Aside0.mk (below_step HB.out hb); clear hb))
  go_ret
  exact ⟨rfl, HB.out⟩
 rw [if_neg c0] at h
 have b0 : (a0_0 == 0) = false := beq_eq_false_iff_ne.mpr c0
 by_cases c12 : a0_0 = 1 ∨ a0_0 = 2
 rotate_left
 ·
  rw [if_neg c12] at h
  obtain rfl := Option.some.inj h
  have b1 : (a0_0 == 1) = false := beq_eq_false_iff_ne.mpr (by omega)
  have b2 : (a0_0 == 2) = false := beq_eq_false_iff_ne.mpr (by omega)
  clear c12 c0 h
  go_enter Try.func37, Try.ntmps37
  go_wp2_with (first | ((with_reducible refine gate_dst (N := 1) rfl ?_); refine box_event rfl (N := 1) rfl (cs := #[.int .i64 a0_0, .int .i64 a0_1, .int .i64 a0_2, .int .i64 a0_3, .int .i64 a0_4, .int .i64 a0_5, .int .i64 a0_6, .slice A0_7 l0_7.length c0_7, .slice A0_8 l0_8.length c0_8, .slice A0_9 l0_9.length c0_9]) (t := 25) (by first | (go_simp; done) | (go_simp; rfl)) ?_; intro gb hg w1 hbox hb; have BK := Aside0.mk hbox; have HB := Aside0.mk hb; have HG : Aside0 (w.heap.size ≤ gb) := ⟨by rw [hg]; exact Nat.le_refl _⟩; have z0 := (blk_cell BK.out 0).trans rfl; have z1 := (blk_cell BK.out 1).trans rfl; have z2 := (blk_cell BK.out 2).trans rfl; have z3 := (blk_cell BK.out 3).trans rfl; have z4 := (blk_cell BK.out 4).trans rfl; have z5 := (blk_cell BK.out 5).trans rfl; have z6 := (blk_cell BK.out 6).trans rfl; have z7 := (blk_cell BK.out 7).trans rfl; have z8 := (blk_cell BK.out 8).trans rfl; have z9 := (blk_cell BK.out 9).trans rfl; clear hg hbox hb))
  go_ret
  exact ⟨rfl, HB.out⟩
 rw [if_pos c12] at h
 obtain ⟨t8, h8, h⟩ := Option.bind_eq_some_iff.1 h
 obtain ⟨t9, h9, h⟩ := Option.bind_eq_some_iff.1 h
 by_cases hl : l0_7.length ≤ 4611686018427387904
 rotate_left
 ·
  rw [if_neg hl] at h
  cases h
 rw [if_pos hl] at h
 obtain rfl := Option.some.inj h
 have H8 := Aside0.mk h8
 have H9 := Aside0.mk h9
 have HL := Aside0.mk hl
 clear h8 h9 hl h
 have C12 := Aside0.mk c12
 clear c12
 go_enter Try.func37, Try.ntmps37
 go_upto_block 0 with (first | ((with_reducible refine gate_dst (N := 1) rfl ?_); refine box_event rfl (N := 1) rfl (cs := #[.int .i64 a0_0, .int .i64 a0_1, .int .i64 a0_2, .int .i64 a0_3, .int .i64 a0_4, .int .i64 a0_5, .int .i64 a0_6, .slice A0_7 l0_7.length c0_7, .slice A0_8 l0_8.length c0_8, .slice A0_9 l0_9.length c0_9]) (t := 25) (by first | (go_simp; done) | (go_simp; rfl)) ?_; intro gb hg w1 hbox hb; have BK := Aside0.mk hbox; have HB := Aside0.mk hb; have HG : Aside0 (w.heap.size ≤ gb) := ⟨by rw [hg]; exact Nat.le_refl _⟩; have z0 := (blk_cell BK.out 0).trans rfl; have z1 := (blk_cell BK.out 1).trans rfl; have z2 := (blk_cell BK.out 2).trans rfl; have z3 := (blk_cell BK.out 3).trans rfl; have z4 := (blk_cell BK.out 4).trans rfl; have z5 := (blk_cell BK.out 5).trans rfl; have z6 := (blk_cell BK.out 6).trans rfl; have z7 := (blk_cell BK.out 7).trans rfl; have z8 := (blk_cell BK.out 8).trans rfl; have z9 := (blk_cell BK.out 9).trans rfl; clear hg hbox hb))
 (try simp only [Act.put, List.setIfInBounds_toArray, List.set_cons_zero, List.set_cons_succ])
 go_cut [] (fun wc => Aside0 (wc.heap[gb]? = some (.cells #[.int .i64 a0_0, .int .i64 a0_1, .int .i64 a0_2, .int .i64 a0_3, .int .i64 a0_4, .int .i64 a0_5, .int .i64 a0_6, .slice A0_7 l0_7.length c0_7, .slice A0_8 l0_8.length c0_8, .slice A0_9 l0_9.length c0_9] 25 (0, 0))) ∧ Aside0 (Below w.heap.size w wc))
 case first =>
  rcases C12.out with c | c
  ·
   have b1 : (a0_0 == 1) = true := beq_iff_eq.mpr c
   clear c
   go_wp2
   go_meet
   case rel => exact ⟨BK, HB⟩
  ·
   have b1 : (a0_0 == 1) = false := beq_eq_false_iff_ne.mpr (by omega)
   have b2 : (a0_0 == 2) = true := beq_iff_eq.mpr c
   clear c
   go_wp2
   go_meet
   case rel => exact ⟨BK, HB⟩
 case rest =>
  clear BK HB b0 c0
  try clear z0 z1 z2 z3 z4 z5 z6 z7 z8 z9
  obtain ⟨BK, HB⟩ := hcut
  go_upto_region 7 with (fail)
  go_cut [81] (fun v wc => v = .bool (Lib.chainI a0_1 a0_2 a0_3 a0_4 a0_5 a0_6 (l0_7.length : Int) t8 t9) ∧ Aside0 (wc.heap[gb]? = some (.cells #[.int .i64 a0_0, .int .i64 a0_1, .int .i64 a0_2, .int .i64 a0_3, .int .i64 a0_4, .int .i64 a0_5, .int .i64 a0_6, .slice A0_7 l0_7.length c0_7, .slice A0_8 l0_8.length c0_8, .slice A0_9 l0_9.length c0_9] 25 (0, 0))) ∧ Aside0 (Below w.heap.size w wc))
  case first =>
   have HM : ∀ W, Below wc.heap.size wc W → (W.cell? ⟨gb, 1, none⟩ = some (.int .i64 a0_1) ∧ W.cell? ⟨gb, 2, none⟩ = some (.int .i64 a0_2) ∧ W.cell? ⟨gb, 3, none⟩ = some (.int .i64 a0_3) ∧ W.cell? ⟨gb, 4, none⟩ = some (.int .i64 a0_4) ∧ W.cell? ⟨gb, 5, none⟩ = some (.int .i64 a0_5) ∧ W.cell? ⟨gb, 6, none⟩ = some (.int .i64 a0_6) ∧ W.cell? ⟨gb, 7, none⟩ = some (.slice A0_7 l0_7.length c0_7) ∧ W.cell? ⟨gb, 8, none⟩ = some (.slice A0_8 l0_8.length c0_8) ∧ W.cell? ⟨gb, 9, none⟩ = some (.slice A0_9 l0_9.length c0_9)) := fun W hb => ⟨(blk_cell (blk_below BK.out hb) 1).trans rfl, (blk_cell (blk_below BK.out hb) 2).trans rfl, (blk_cell (blk_below BK.out hb) 3).trans rfl, (blk_cell (blk_below BK.out hb) 4).trans rfl, (blk_cell (blk_below BK.out hb) 5).trans rfl, (blk_cell (blk_below BK.out hb) 6).trans rfl, (blk_cell (blk_below BK.out hb) 7).trans rfl, (blk_cell (blk_below BK.out hb) 8).trans rfl, (blk_cell (blk_below BK.out hb) 9).trans rfl⟩
   refine Lib.q_start wc Try.f37 (by kernel_rfl) rfl (by kernel_rfl) (Below.refl _ _) ?_
   refine Lib.q (.tmp 1) (.tmp 1) (h := ?_)
   refine Lib.q (.tmp 15) (.tmp 15) (h := ?_)
   refine Lib.q_call (.bool (Lib.inB a0_1 0 2047)) #[.int .i64 a0_1] Try.func96 (hcl := ?_) (h := ?_)
   ·
    exact fun _ W hb => Lib.of_drawn (impl_isMode.calls a0_1 _ W (by unfold impl_isMode.f Lib.inB; split <;> rfl))
   refine Lib.q (.tmp 17) (.tmp 17) (h := ?_)
   refine Lib.q (.tmp 18) (.tmp 18) (h := ?_)
   refine Lib.q (.tmp 1) (.tmp 1) (h := ?_)
   refine Lib.q (.tmp 20) (.tmp 20) (h := ?_)
   refine Lib.q_call (.bool (Lib.inB a0_2 0 3)) #[.int .i64 a0_2] Try.func69 (hcl := ?_) (h := ?_)
   ·
    exact fun _ W hb => Lib.of_drawn (impl_isUser.calls a0_2 _ W (impl_IsInode.user a0_2))
   refine Lib.q (.tmp 22) (.tmp 22) (h := ?_)
   refine Lib.q_or (.tmp 19) (.tmp 23) (h := ?_)
   refine Lib.q (.tmp 24) (.tmp 24) (h := ?_)
   refine Lib.q (.tmp 1) (.tmp 1) (h := ?_)
   refine Lib.q (.tmp 26) (.tmp 26) (h := ?_)
   refine Lib.q_call (.bool (Lib.inB a0_3 0 3)) #[.int .i64 a0_3] Try.func69 (hcl := ?_) (h := ?_)
   ·
    exact fun _ W hb => Lib.of_drawn (impl_isUser.calls a0_3 _ W (impl_IsInode.user a0_3))
   refine Lib.q (.tmp 28) (.tmp 28) (h := ?_)
   refine Lib.q_or (.tmp 25) (.tmp 29) (h := ?_)
   refine Lib.q (.tmp 30) (.tmp 30) (h := ?_)
   refine Lib.q (.tmp 1) (.tmp 1) (h := ?_)
   refine Lib.q (.tmp 32) (.tmp 32) (h := ?_)
   refine Lib.q (.tmp 33) (.tmp 33) (h := ?_)
   refine Lib.q_or (.tmp 31) (.tmp 34) (h := ?_)
   refine Lib.q (.tmp 35) (.tmp 35) (h := ?_)
   refine Lib.q (.tmp 1) (.tmp 1) (h := ?_)
   refine Lib.q (.tmp 37) (.tmp 37) (h := ?_)
   refine Lib.q (.tmp 38) (.tmp 38) (h := ?_)
   refine Lib.q_or (.tmp 36) (.tmp 39) (h := ?_)
   refine Lib.q (.tmp 40) (.tmp 40) (h := ?_)
   refine Lib.q (.tmp 1) (.tmp 1) (h := ?_)
   refine Lib.q (.tmp 42) (.tmp 42) (h := ?_)
   refine Lib.q (.tmp 43) (.tmp 43) (h := ?_)
   refine Lib.q_or (.tmp 41) (.tmp 44) (h := ?_)
   refine Lib.q (.tmp 45) (.tmp 45) (h := ?_)
   refine Lib.q (.tmp 1) (.tmp 1) (h := ?_)
   refine Lib.q (.tmp 47) (.tmp 47) (h := ?_)
   refine Lib.q (.tmp 48) (.tmp 48) (h := ?_)
   refine Lib.q_or (.tmp 46) (.tmp 49) (h := ?_)
   refine Lib.q (.tmp 50) (.tmp 50) (h := ?_)
   refine Lib.q (.tmp 1) (.tmp 1) (h := ?_)
   refine Lib.q (.tmp 52) (.tmp 52) (h := ?_)
   refine Lib.q (.tmp 53) (.tmp 53) (h := ?_)
   refine Lib.q_or (.tmp 51) (.tmp 54) (h := ?_)
   refine Lib.q (.tmp 55) (.tmp 55) (h := ?_)
   refine Lib.q (.tmp 1) (.tmp 1) (h := ?_)
   refine Lib.q (.tmp 57) (.tmp 57) (h := ?_)
   refine Lib.q (.tmp 58) (.tmp 58) (h := ?_)
   refine Lib.q_or (.tmp 56) (.tmp 59) (h := ?_)
   refine Lib.q (.tmp 60) (.tmp 60) (h := ?_)
   refine Lib.q (.tmp 1) (.tmp 1) (h := ?_)
   refine Lib.q (.tmp 62) (.tmp 62) (h := ?_)
   refine Lib.q (.tmp 63) (.tmp 63) (h := ?_)
   refine Lib.q (.tmp 1) (.tmp 1) (h := ?_)
   refine Lib.q (.tmp 65) (.tmp 65) (h := ?_)
   refine Lib.q_call (.int .i64 (Lib.needB a0_5)) #[.int .i64 a0_5] Try.func39 (hcl := ?_) (h := ?_)
   ·
    exact fun _ W hb => Lib.of_drawn (impl_BlocksNeeded.calls a0_5 _ W (by unfold impl_BlocksNeeded.f Lib.needB; split <;> rfl))
   refine Lib.q (.tmp 64) (.tmp 67) (h := ?_)
   refine Lib.q_or (.tmp 61) (.tmp 68) (h := ?_)
   refine Lib.q (.tmp 69) (.tmp 69) (h := ?_)
   refine Lib.q (.tmp 1) (.tmp 1) (h := ?_)
   refine Lib.q (.tmp 71) (.tmp 71) (h := ?_)
   refine Lib.q_call (.bool t8) #[.slice A0_8 l0_8.length c0_8] Try.func97 (hcl := ?_) (h := ?_)
   ·
    exact fun _ W hb => impl_IsAcl.calls k _ _ l0_8 t8 W (Kd.C_below HR8.out (below_step HB.out hb)) HC8.out H8.out
   refine Lib.q (.tmp 73) (.tmp 73) (h := ?_)
   refine Lib.q_or (.tmp 70) (.tmp 74) (h := ?_)
   refine Lib.q (.tmp 75) (.tmp 75) (h := ?_)
   refine Lib.q (.tmp 1) (.tmp 1) (h := ?_)
   refine Lib.q (.tmp 77) (.tmp 77) (h := ?_)
   refine Lib.q_call (.bool t9) #[.slice A0_9 l0_9.length c0_9] Try.func97 (hcl := ?_) (h := ?_)
   ·
    exact fun _ W hb => impl_IsAcl.calls k _ _ l0_9 t9 W (Kd.C_below HR9.out (below_step HB.out hb)) HC9.out H9.out
   refine Lib.q (.tmp 79) (.tmp 79) (h := ?_)
   refine Lib.q_or (.tmp 76) (.tmp 80) (h := ?_)
   refine Lib.q_done (fun W hb => ?_)
   try go_wp2
   go_meet
   case rel => exact ⟨rfl, ⟨blk_below BK.out hb⟩, ⟨below_step HB.out hb⟩⟩
  case rest =>
   clear BK HB
   obtain ⟨rfl, BK, HB⟩ := hcut
   cases hch : (Lib.chainI a0_1 a0_2 a0_3 a0_4 a0_5 a0_6 (l0_7.length : Int) t8 t9) with
   | true =>
    go_wp2
    go_ret
    exact ⟨by rw [hch]; rfl, HB.out⟩
   | false =>
    have z7 : wc.cell? ⟨gb, 7, none⟩ = some (.slice A0_7 l0_7.length c0_7) := (blk_cell BK.out 7).trans rfl
    go_wp2
    go_loopg [85] (l0_7.length + 1) (fun kq v w' => ∃ i : Nat, v = .int .i64 (i : Int) ∧ Aside0 (i ≤ l0_7.length ∧ l0_7.length - i < kq) ∧ Aside0 (Lib.blkFrom (l0_7.take i) (l0_7.drop i) = Lib.blkFrom [] l0_7) ∧ Aside0 (w'.heap[gb]? = some (.cells #[.int .i64 a0_0, .int .i64 a0_1, .int .i64 a0_2, .int .i64 a0_3, .int .i64 a0_4, .int .i64 a0_5, .int .i64 a0_6, .slice A0_7 l0_7.length c0_7, .slice A0_8 l0_8.length c0_8, .slice A0_9 l0_9.length c0_9] 25 (0, 0))) ∧ Aside0 (Below w.heap.size w w'))
    case atStart => exact ⟨0, rfl, ⟨by omega⟩, ⟨rfl⟩, BK, HB⟩
    case round =>
     clear z7 BK HB
     obtain ⟨i, rfl, HX, HJ, BK, HB⟩ := hrel
     cases gk with
     | zero => exact absurd HX.out.2 (by omega)
     | succ k1 =>
      by_cases c : i < l0_7.length
      ·
       have HI := Aside0.mk c
       have hD := Lib.drop_rd (0 : Int) l0_7 i c
       have hT := Lib.take_rd (0 : Int) l0_7 i c
       have HD : Aside0 (Lib.blkFrom (l0_7.take i) (l0_7.drop i) = ((rd l0_7 i == -1 || (Lib.inB (rd l0_7 i) 0 999 && !((l0_7.take i).any (· == rd l0_7 i)))) && Lib.blkFrom (l0_7.take (i + 1)) (l0_7.drop (i + 1)))) := ⟨by rw [hD, hT]; rfl⟩
       clear hD hT
       obtain ⟨ad, e0, hx⟩ := Kd.at_int (Kd.C_below HR7.out HB.out) (i : Int) (by omega) (by omega)
       cases e0
       simp only [Int.toNat_natCast] at hx
       have b4 : decide ((i : Int) < (l0_7.length : Int)) = true := decide_eq_true (by omega)
       have b5 := eq_true (show (i : Int) < (l0_7.length : Int) by omega)
       have b6 := eq_true (show 0 ≤ (i : Int) by omega)
       go_upto_region 12 with (fail)
       go_cut [107] (fun v wc => v = .bool (rd l0_7 i != -1 && ((decide (rd l0_7 i < 0) || decide (999 < rd l0_7 i)) || (l0_7.take i).any (· == rd l0_7 i))) ∧ Aside0 (wc.heap[gb]? = some (.cells #[.int .i64 a0_0, .int .i64 a0_1, .int .i64 a0_2, .int .i64 a0_3, .int .i64 a0_4, .int .i64 a0_5, .int .i64 a0_6, .slice (some ad) l0_7.length c0_7, .slice A0_8 l0_8.length c0_8, .slice A0_9 l0_9.length c0_9] 25 (0, 0))) ∧ Aside0 (Below w.heap.size w wc))
       case first =>
        have hB7 := (blk_cell BK.out 7).trans rfl
        obtain ⟨ti, hti, htz⟩ := Option.map_eq_some_iff.1 (show (Try.prog.info? 3).map (fun i => i.size) = some 1 by kernel_rfl)
        obtain ⟨hcut, _, _⟩ := print_take_of (P := Try.prog) (Value.int .i64) 0 22 3 .i64 Try.underlying22 hti htz (some ad) c0_7 l0_7 (i : Int) (by omega) (by omega) HC7.out
        have hlt : (l0_7.take i).length = i := by rw [List.length_take]; omega
        simp only [Int.toNat_natCast, hlt] at hcut
        have HLT := Aside0.mk hlt
        clear hlt
        have HM : ∀ W, Below wr.heap.size wr W → (W.cell? ⟨gb, 7, none⟩ = some (.slice (some ad) l0_7.length c0_7)) := fun W hb => (blk_cell (blk_below BK.out hb) 7).trans rfl
        refine Lib.q_plain wr Try.f37 rfl (Below.refl _ _) ?_
        refine Lib.q (.tmp 4) (.tmp 4) (h := ?_)
        refine Lib.q (.tmp 90) (.tmp 90) (h := ?_)
        refine Lib.q (.tmp 91) (.tmp 91) (h := ?_)
        refine Lib.q (.tmp 4) (.tmp 4) (h := ?_)
        refine Lib.q (.tmp 93) (.tmp 93) (h := ?_)
        refine Lib.q (.tmp 94) (.tmp 94) (h := ?_)
        refine Lib.q (.tmp 4) (.tmp 4) (h := ?_)
        refine Lib.q (.tmp 96) (.tmp 96) (h := ?_)
        refine Lib.q_or (.tmp 95) (.tmp 97) (h := ?_)
        refine Lib.q (.tmp 98) (.tmp 98) (h := ?_)
        refine Lib.q (.tmp 1) (.tmp 1) (h := ?_)
        refine Lib.q (.tmp 100) (.tmp 100) (h := ?_)
        refine Lib.q (.tmp 3) (.tmp 3) (h := ?_)
        refine Lib.q (.tmp 101) (.tmp 102) (h := ?_)
        refine Lib.q (.tmp 4) (.tmp 4) (h := ?_)
        refine Lib.q_call (.bool ((l0_7.take i).any (· == rd l0_7 i))) #[.slice (some ad) i c0_7, .int .i64 (rd l0_7 i)] Try.func98 (hcl := ?_) (h := ?_)
        ·
         exact fun _ W hb => by have hh := slices_Contains_int_int.calls (some ad) c0_7 (l0_7.take i) (rd l0_7 i) _ W (Kd.C_take (Kd.C_below HR7.out (below_step HB.out hb)) (Nat.le_of_lt HI.out)) (by rw [List.length_take]; have := HC7.out; omega) (if_pos (by rw [List.length_take]; have := HL.out; omega)); rw [HLT.out] at hh; exact hh
        refine Lib.q_or (.tmp 99) (.tmp 105) (h := ?_)
        refine Lib.q_and (.tmp 92) (.tmp 106) (h := ?_)
        refine Lib.q_done (fun W hb => ?_)
        try go_wp2
        go_meet
        case rel => exact ⟨rfl, ⟨blk_below BK.out hb⟩, ⟨below_step HB.out hb⟩⟩
       case rest =>
        clear BK HB
        obtain ⟨rfl, BK, HB⟩ := hcut
        have hX := Lib.blk_x (rd l0_7 i) ((l0_7.take i).any (· == rd l0_7 i))
        cases hv : (rd l0_7 i != -1 && ((decide (rd l0_7 i < 0) || decide (999 < rd l0_7 i)) || (l0_7.take i).any (· == rd l0_7 i))) with
        | true =>
         have hF : Lib.blkFrom [] l0_7 = false := by rw [← HJ.out, HD.out, hX, hv]; rfl
         clear hX hv
         go_wp2
         go_ret
         exact ⟨by rw [hch, hF]; rfl, HB.out⟩
        | false =>
         have HF : Aside0 (Lib.blkFrom (l0_7.take (i + 1)) (l0_7.drop (i + 1)) = Lib.blkFrom [] l0_7) := ⟨by rw [← HJ.out, HD.out, hX, hv]; rfl⟩
         clear hX hv
         go_wp2
         go_roundg k1
         case measure => exact Nat.lt_succ_self _
         case rel => exact ⟨i + 1, by rw [show wrap64 ((i : Int) + 1) = ((i + 1 : Nat) : Int) by have := HL.out; unfold wrap64; omega], ⟨by have := HX.out; omega⟩, HF, BK, HB⟩
      ·
       have hF : Lib.blkFrom [] l0_7 = true := by rw [← HJ.out, List.drop_eq_nil_of_le (by omega)]; rfl
       have HF := Aside0.mk hF
       clear hF
       have b4 : decide ((i : Int) < (l0_7.length : Int)) = false := decide_eq_false (by omega)
       have b5 := eq_false (show ¬ (i : Int) < (l0_7.length : Int) by omega)
       go_upto_region 15 with (fail)
       have HM : ∀ W, Below wr.heap.size wr W → (W.cell? ⟨gb, 0, none⟩ = some (.int .i64 a0_0) ∧ W.cell? ⟨gb, 1, none⟩ = some (.int .i64 a0_1) ∧ W.cell? ⟨gb, 9, none⟩ = some (.slice A0_9 l0_9.length c0_9)) := fun W hb => ⟨(blk_cell (blk_below BK.out hb) 0).trans rfl, (blk_cell (blk_below BK.out hb) 1).trans rfl, (blk_cell (blk_below BK.out hb) 9).trans rfl⟩
       refine Lib.q_plain wr Try.f37 rfl (Below.refl _ _) ?_
       refine Lib.q (.tmp 1) (.tmp 1) (h := ?_)
       refine Lib.q (.tmp 109) (.tmp 109) (h := ?_)
       refine Lib.q (.tmp 110) (.tmp 110) (h := ?_)
       refine Lib.q (.tmp 111) (.tmp 111) (h := ?_)
       refine Lib.q (.tmp 1) (.tmp 1) (h := ?_)
       refine Lib.q (.tmp 113) (.tmp 113) (h := ?_)
       refine Lib.q (.tmp 114) (.tmp 114) (h := ?_)
       refine Lib.q (.tmp 115) (.tmp 115) (h := ?_)
       refine Lib.q (.tmp 116) (.tmp 116) (h := ?_)
       refine Lib.q (.tmp 1) (.tmp 1) (h := ?_)
       refine Lib.q (.tmp 118) (.tmp 118) (h := ?_)
       refine Lib.q (.tmp 119) (.tmp 119) (h := ?_)
       refine Lib.q (.tmp 120) (.tmp 120) (h := ?_)
       refine Lib.q_and (.tmp 117) (.tmp 121) (h := ?_)
       refine Lib.q_or (.tmp 112) (.tmp 122) (h := ?_)
       refine Lib.q (.tmp 123) (.tmp 123) (h := ?_)
       refine Lib.q_done (fun W hb => ?_)
       go_wp2
       go_ret
       exact ⟨by rw [hch, HF.out]; rfl, below_step HB.out hb⟩

/-! ### impl_BlockOwner: function 103 -/
def impl_BlockOwner.f (a0 : Int) : Option (Int) := if a0 < 0 then (some (-1)) else (if a0 ≥ 56 then (some (-1)) else (some (wrap64 (Int.tdiv a0 14))))
set_option maxHeartbeats 8000000 in
set_option maxRecDepth 100000 in
theorem impl_BlockOwner.calls (a0 : Int) (r : Int) (w : World) (h : impl_BlockOwner.f a0 = some r) :
 Calls Try.prog 103 #[.int .i64 a0] w fun e w' => e = .returned (.int .i64 r) ∧ Drawn0 w w' := by
 have H : (if a0 < 0 then (some (-1)) else (if a0 ≥ 56 then (some (-1)) else (some (wrap64 (Int.tdiv a0 14))))) = some r := h
 clear h
 by_cases c2 : a0 < 0
 ·
  rw [if_pos c2] at H
  have c2b0 : decide (a0 < 0) = true := decide_eq_true c2
  clear c2
  obtain rfl := Option.some.inj H
  go_enter Try.func103, Try.ntmps103
  go_wp2
  go_ret
  exact ⟨by first | rfl | (simp; done) | (simp [*]; done), by repeat (first | exact Drawn0.refl _ | apply Drawn0.step)⟩
 ·
  rw [if_neg c2] at H
  have c2b0 : decide (a0 < 0) = false := decide_eq_false c2
  clear c2
  by_cases c3 : a0 ≥ 56
  ·
   rw [if_pos c3] at H
   have c3b0 : decide (56 ≤ a0) = true := decide_eq_true c3
   clear c3
   obtain rfl := Option.some.inj H
   go_enter Try.func103, Try.ntmps103
   go_wp2
   go_ret
   exact ⟨by first | rfl | (simp; done) | (simp [*]; done), by repeat (first | exact Drawn0.refl _ | apply Drawn0.step)⟩
  ·
   rw [if_neg c3] at H
   have c3b0 : decide (56 ≤ a0) = false := decide_eq_false c3
   clear c3
   obtain rfl := Option.some.inj H
   go_enter Try.func103, Try.ntmps103
   go_wp2
   go_ret
   exact ⟨by first | rfl | (simp; done) | (simp [*]; done), by repeat (first | exact Drawn0.refl _ | apply Drawn0.step)⟩

/-! ### impl_IsZeroes: function 104 -/
def impl_IsZeroes.l0 : Nat → ByteArray → Int → Int → Option (Bool)
 | 0, _, _, _ => none
 | k + 1, x0, x5, x6 => if x6 < x5 then (if 0 ≤ x6 then (if x6 < (x0.size : Int) then (if (bt x0 x6) = 0 then (impl_IsZeroes.l0 k x0 x5 (wrap64 (x6 + 1))) else (some false)) else (none)) else (none)) else (some true)
def impl_IsZeroes.f (k : Nat) (a0 : ByteArray) : Option (Bool) := impl_IsZeroes.l0 k a0 (a0.size : Int) 0
theorem impl_IsZeroes.mono_l : ∀ k, (∀ y0 y1 y2, LeO (impl_IsZeroes.l0 k y0 y1 y2) (impl_IsZeroes.l0 (k + 1) y0 y1 y2))
 | 0 => fun _ _ _ r h => by simp [impl_IsZeroes.l0] at h
 | k + 1 => by
  have ih0 := impl_IsZeroes.mono_l k
  ·
   intro y0 y1 y2
   unfold impl_IsZeroes.l0
   repeat' first
   | (with_reducible exact ih0 _ _ _)
   | (with_reducible exact LeO.refl _)
   | (with_reducible exact LeO.none _)
   | (with_reducible refine LeO.ite ?_ ?_)
   | (with_reducible refine LeO.bind ?_ (fun _ => ?_))
   | exact ih0 _ _ _
   | exact LeO.none _
   | refine LeO.ite ?_ ?_
   | refine LeO.bind ?_ (fun _ => ?_)
theorem impl_IsZeroes.mono : ∀ a0 k, LeO (impl_IsZeroes.f k a0) (impl_IsZeroes.f (k + 1) a0) := by
 intro a0 k
 have ih0 := impl_IsZeroes.mono_l k
 unfold impl_IsZeroes.f
 repeat' first
  | (with_reducible exact ih0 _ _ _)
  | (with_reducible exact LeO.refl _)
  | (with_reducible exact LeO.none _)
  | (with_reducible refine LeO.ite ?_ ?_)
  | (with_reducible refine LeO.bind ?_ (fun _ => ?_))
  | exact ih0 _ _ _
  | exact LeO.none _
  | refine LeO.ite ?_ ?_
  | refine LeO.bind ?_ (fun _ => ?_)
set_option maxHeartbeats 8000000 in
set_option maxRecDepth 100000 in
theorem impl_IsZeroes.calls (k : Nat) (a0 : ByteArray) (r : Bool) (w : World) (h : impl_IsZeroes.f k a0 = some r) :
 Calls Try.prog 104 #[.string a0] w fun e w' => e = .returned (.bool r) ∧ Drawn0 w w' := by
 have H : (impl_IsZeroes.l0 k a0 (a0.size : Int) 0) = some r := h
 clear h
 have H' := Aside0.mk H
 clear H
 go_enter Try.func104, Try.ntmps104
 go_wp2
 go_loopg [6] k (fun kq v6 w' => ∃ (x6_1 : Int), v6 = .int .i64 x6_1 ∧ Aside0 (impl_IsZeroes.l0 kq a0 (a0.size : Int) x6_1 = some r) ∧ Aside0 (kq ≤ k) ∧ Drawn0 w w')
 case atStart => exact ⟨(0), (by first | rfl | (simp; done) | (simp [*]; done)), H', ⟨Nat.le_refl _⟩, by repeat (first | exact Drawn0.refl _ | apply Drawn0.step)⟩
 case round =>
  clear H'
  try clear c1
  obtain ⟨x6_1, rfl, HA, HK1, ⟨m1, rfl⟩⟩ := hrel
  cases gk with
  | zero => exact absurd HA.out (by simp [impl_IsZeroes.l0])
  | succ k1 =>
   have H := HA.out
   clear HA
   simp only [impl_IsZeroes.l0] at H
   by_cases c2 : x6_1 < (a0.size : Int)
   ·
    rw [if_pos c2] at H
    have c2b0 : decide (x6_1 < (a0.size : Int)) = true := decide_eq_true c2
    clear c2
    by_cases c3 : 0 ≤ x6_1
    ·
     rw [if_pos c3] at H
     have c3b0 : decide (0 ≤ x6_1) = true := decide_eq_true c3
     clear c3
     by_cases c4 : x6_1 < (a0.size : Int)
     ·
      rw [if_pos c4] at H
      have c4b0 : decide (x6_1 < (a0.size : Int)) = true := decide_eq_true c4
      clear c4
      by_cases c6 : (bt a0 x6_1) = 0
      ·
       rw [if_pos c6] at H
       have c6b0 : ((bt a0 x6_1) == 0) = true := beq_iff_eq.mpr c6
       have c6b1 : ((bt a0 x6_1) != 0) = false := bne_eq_false_iff_eq.mpr c6
       clear c6
       have H' := Aside0.mk H
       clear H
       have p5 : 0 ≤ (x6_1 : Int) := Lib.od
       have q5 : x6_1 < (a0.size : Int) := Lib.od
       have hx5 := bt_at a0 x6_1
       replace p5 := eq_true p5
       replace q5 := eq_true q5
       go_wp2
       go_roundg k1
       case measure => have := HK1.out; omega
       case rel => exact ⟨(wrap64 (x6_1 + 1)), (by first | rfl | (simp; done) | (simp [*]; done)), H', ⟨by have := HK1.out; omega⟩, by repeat (first | exact Drawn0.refl _ | apply Drawn0.step)⟩
      ·
       rw [if_neg c6] at H
       have c6b0 : ((bt a0 x6_1) == 0) = false := beq_eq_false_iff_ne.mpr c6
       have c6b1 : ((bt a0 x6_1) != 0) = true := bne_iff_ne.mpr c6
       obtain rfl := Option.some.inj H
       have p5 : 0 ≤ (x6_1 : Int) := Lib.od
       have q5 : x6_1 < (a0.size : Int) := Lib.od
       have hx5 := bt_at a0 x6_1
       replace p5 := eq_true p5
       replace q5 := eq_true q5
       go_wp2
       go_ret
       exact ⟨by first | rfl | (simp; done) | (simp [*]; done), by repeat (first | exact Drawn0.refl _ | apply Drawn0.step)⟩
     ·
      rw [if_neg c4] at H
      exact absurd H (by simp)
    ·
     rw [if_neg c3] at H
     exact absurd H (by simp)
   ·
    rw [if_neg c2] at H
    have c2b0 : decide (x6_1 < (a0.size : Int)) = false := decide_eq_false c2
    clear c2
    obtain rfl := Option.some.inj H
    go_wp2
    go_ret
    exact ⟨by first | rfl | (simp; done) | (simp [*]; done), by repeat (first | exact Drawn0.refl _ | apply Drawn0.step)⟩

end Go.Proofs.Ytnfiapcemafmiaa.PFnExactNextBlock
