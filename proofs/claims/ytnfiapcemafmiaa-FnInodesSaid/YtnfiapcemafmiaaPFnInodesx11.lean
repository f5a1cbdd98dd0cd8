-- Written by a program of this session over Lean's own print of the program.
import Derived.Test.YtnfiapcemafmiaaPFnInodesx0
import Derived.Test.YtnfiapcemafmiaaPFnInodesx2
import Derived.Test.YtnfiapcemafmiaaPFnInodesx4
import Derived.Test.YtnfiapcemafmiaaPFnInodesx6
import Derived.Test.YtnfiapcemafmiaaPFnInodesx8
import Derived.Test.YtnfiapcemafmiaaPFnInodesx10
namespace Go.Proofs.Ytnfiapcemafmiaa.PFnInodes
open Go.RowKit Go.Proofs.YtnfiapcemafmiaaW.PrintWords Go.Proofs.YtnfiapcemafmiaaW.PrintLast Go.Proofs.YtnfiapcemafmiaaW.PrintMore
attribute [local go_sem] max2_int min2_int max_two min_two max_three min_three max_four min_four   -- for this text's walks alone
set_option linter.unusedVariables false
set_option linter.unusedSimpArgs false

/-! ### laws_FnInodes: function 7 -/
def laws_FnInodes.f (k : Nat) (l0 : List Int) : Option (Bool) := if (l0.length : Int) > 1048576 then (some true) else ((spec_MakeInode.f k l0).bind fun bt318 => ((impl_PackInode.f k bt318.1 bt318.2.1 bt318.2.2.1 bt318.2.2.2.1 bt318.2.2.2.2.1 bt318.2.2.2.2.2.1 bt318.2.2.2.2.2.2.1 bt318.2.2.2.2.2.2.2.1 bt318.2.2.2.2.2.2.2.2.1 bt318.2.2.2.2.2.2.2.2.2).bind fun t335 => ((impl_UnpackInode.f k t335).bind fun bt336 => (if bt336.2.2.2.2.2.2.2.2.2.2 = true then ((impl_SameInode.f k bt336.1 bt336.2.1 bt336.2.2.1 bt336.2.2.2.1 bt336.2.2.2.2.1 bt336.2.2.2.2.2.1 bt336.2.2.2.2.2.2.1 bt336.2.2.2.2.2.2.2.1 bt336.2.2.2.2.2.2.2.2.1 bt336.2.2.2.2.2.2.2.2.2.1 bt318.1 bt318.2.1 bt318.2.2.1 bt318.2.2.2.1 bt318.2.2.2.2.1 bt318.2.2.2.2.2.1 bt318.2.2.2.2.2.2.1 bt318.2.2.2.2.2.2.2.1 bt318.2.2.2.2.2.2.2.2.1 bt318.2.2.2.2.2.2.2.2.2).bind fun t354 => (if t354 = true then ((impl_IsInode.f k bt318.1 bt318.2.1 bt318.2.2.1 bt318.2.2.2.1 bt318.2.2.2.2.1 bt318.2.2.2.2.2.1 bt318.2.2.2.2.2.2.1 bt318.2.2.2.2.2.2.2.1 bt318.2.2.2.2.2.2.2.2.1 bt318.2.2.2.2.2.2.2.2.2).bind fun t355 => (if t355 = true then ((impl_PackInode.f k bt318.1 bt318.2.1 bt318.2.2.1 bt318.2.2.2.1 bt318.2.2.2.2.1 bt318.2.2.2.2.2.1 bt318.2.2.2.2.2.2.1 bt318.2.2.2.2.2.2.2.1 bt318.2.2.2.2.2.2.2.2.1 bt318.2.2.2.2.2.2.2.2.2).bind fun t356 => (if (t356.size : Int) = 96 then ((impl_UsedBlocks.f k bt318.1 bt318.2.1 bt318.2.2.1 bt318.2.2.2.1 bt318.2.2.2.2.1 bt318.2.2.2.2.2.1 bt318.2.2.2.2.2.2.1 bt318.2.2.2.2.2.2.2.1 bt318.2.2.2.2.2.2.2.2.1 bt318.2.2.2.2.2.2.2.2.2).bind fun t357 => (if (t357.length : Int) ≤ (bt318.2.2.2.2.2.2.2.1.length : Int) then ((impl_BlocksNeeded.f bt318.2.2.2.2.2.1).bind fun t360 => (some (t360 == (bt318.2.2.2.2.2.2.2.1.length : Int)))) else (some false))) else (some false))) else (some false))) else (some false))) else (some false)))))
theorem laws_FnInodes.mono : ∀ a0 k, LeO (laws_FnInodes.f k a0) (laws_FnInodes.f (k + 1) a0) := by
 intro a0 k
 unfold laws_FnInodes.f
 repeat' first
  | (with_reducible exact impl_IsInode.mono _ _ _ _ _ _ _ _ _ _ _)
  | (with_reducible exact impl_PackInode.mono _ _ _ _ _ _ _ _ _ _ _)
  | (with_reducible exact impl_SameInode.mono _ _ _ _ _ _ _ _ _ _ _ _ _ _ _ _ _ _ _ _ _)
  | (with_reducible exact impl_UnpackInode.mono _ _)
  | (with_reducible exact impl_UsedBlocks.mono _ _ _ _ _ _ _ _ _ _ _)
  | (with_reducible exact spec_MakeInode.mono _ _)
  | (with_reducible exact LeO.refl _)
  | (with_reducible exact LeO.none _)
  | (with_reducible refine LeO.ite ?_ ?_)
  | (with_reducible refine LeO.bind ?_ (fun _ => ?_))
  | exact impl_IsInode.mono _ _ _ _ _ _ _ _ _ _ _
  | exact impl_PackInode.mono _ _ _ _ _ _ _ _ _ _ _
  | exact impl_SameInode.mono _ _ _ _ _ _ _ _ _ _ _ _ _ _ _ _ _ _ _ _ _
  | exact impl_UnpackInode.mono _ _
  | exact impl_UsedBlocks.mono _ _ _ _ _ _ _ _ _ _ _
  | exact spec_MakeInode.mono _ _
  | exact LeO.none _
  | refine LeO.ite ?_ ?_
  | refine LeO.bind ?_ (fun _ => ?_)
def laws_FnInodes.T5 : Bool × List (List Nat × List Nat) := (true, [([], []), ([0], [0]), ([1], [1]), ([1], [1]), ([2, 3, 1, 1], [1, 2, 3]), ([1, 4], [1, 4]), ([5, 4], [5]), ([6], [6]), ([7, 6, 6], [6, 7]), ([6, 8], [6, 8]), ([9, 8], [9]), ([10], [10]), ([11, 10, 10], [10, 11]), ([12, 10], [10, 12]), ([13, 10], [10, 13]), ([10, 14], [10, 14]), ([15, 12], [15]), ([16], [16]), ([17, 16, 16], [16, 17]), ([18, 16], [16, 18]), ([16], [16]), ([20, 16], [16, 20]), ([21, 16], [16, 21]), ([19, 22, 16], [16, 19, 22]), ([16, 23], [16, 23]), ([24, 18], [24]), ([25], [25]), ([26, 25], [25, 26]), ([27, 25, 25], [25, 27]), ([25], [25]), ([29, 25], [25, 29]), ([30, 25], [25, 30]), ([28, 31, 25], [25, 28, 31]), ([25, 32], [25, 32]), ([33, 28, 0, 1, 2, 3, 4, 5, 6, 7, 8, 9, 10, 11, 12, 13, 14, 15, 16, 17, 18, 19, 20, 21, 22, 23, 24, 25, 26, 27, 28, 29, 30, 31, 32, 33], [33])])
def laws_FnInodes.B5 : List Nat := [0, 1, 3, 3, 15, 31, 63, 127, 255, 511, 1023, 2047, 4095, 8191, 16383, 32767, 65535, 131071, 262143, 524287, 131071, 1179647, 3276799, 8388607, 16777215, 33554431, 67108863, 134217727, 268435455, 67108863, 603979775, 1677721599, 4294967295, 8589934591, 17179869183]
theorem laws_FnInodes.tab5 : rtab .any (opsOf Try.f7 5) = laws_FnInodes.T5 := by kernel_rfl
theorem laws_FnInodes.bits5 : waitsOk laws_FnInodes.T5.2 laws_FnInodes.B5 = true := by kernel_rfl
set_option maxHeartbeats 8000000 in
set_option maxRecDepth 100000 in
theorem laws_FnInodes.calls (k : Nat) (A0 : Option Addr) (c0 : Nat) (l0 : List Int) (w : World) (hr0 : Kd.C (Kd.int .u8) w A0 l0.length l0) (hc0 : l0.length ≤ c0) (h : laws_FnInodes.f k l0 = some true) :
 Calls Try.prog 7 #[.slice A0 l0.length c0] w fun e w' => e = .returned (.bool true) ∧ Below w.heap.size w w' := by
 have hu25 := Try.underlying25
 have HR0 := Aside0.mk hr0
 have HC0 := Aside0.mk hc0
 clear hr0 hc0
 have HB := Aside0.mk (Below.refl w.heap.size w)
 have H : (if (l0.length : Int) > 1048576 then (some true) else ((spec_MakeInode.f k l0).bind fun bt318 => ((impl_PackInode.f k bt318.1 bt318.2.1 bt318.2.2.1 bt318.2.2.2.1 bt318.2.2.2.2.1 bt318.2.2.2.2.2.1 bt318.2.2.2.2.2.2.1 bt318.2.2.2.2.2.2.2.1 bt318.2.2.2.2.2.2.2.2.1 bt318.2.2.2.2.2.2.2.2.2).bind fun t335 => ((impl_UnpackInode.f k t335).bind fun bt336 => (if bt336.2.2.2.2.2.2.2.2.2.2 = true then ((impl_SameInode.f k bt336.1 bt336.2.1 bt336.2.2.1 bt336.2.2.2.1 bt336.2.2.2.2.1 bt336.2.2.2.2.2.1 bt336.2.2.2.2.2.2.1 bt336.2.2.2.2.2.2.2.1 bt336.2.2.2.2.2.2.2.2.1 bt336.2.2.2.2.2.2.2.2.2.1 bt318.1 bt318.2.1 bt318.2.2.1 bt318.2.2.2.1 bt318.2.2.2.2.1 bt318.2.2.2.2.2.1 bt318.2.2.2.2.2.2.1 bt318.2.2.2.2.2.2.2.1 bt318.2.2.2.2.2.2.2.2.1 bt318.2.2.2.2.2.2.2.2.2).bind fun t354 => (if t354 = true then ((impl_IsInode.f k bt318.1 bt318.2.1 bt318.2.2.1 bt318.2.2.2.1 bt318.2.2.2.2.1 bt318.2.2.2.2.2.1 bt318.2.2.2.2.2.2.1 bt318.2.2.2.2.2.2.2.1 bt318.2.2.2.2.2.2.2.2.1 bt318.2.2.2.2.2.2.2.2.2).bind fun t355 => (if t355 = true then ((impl_PackInode.f k bt318.1 bt318.2.1 bt318.2.2.1 bt318.2.2.2.1 bt318.2.2.2.2.1 bt318.2.2.2.2.2.1 bt318.2.2.2.2.2.2.1 bt318.2.2.2.2.2.2.2.1 bt318.2.2.2.2.2.2.2.2.1 bt318.2.2.2.2.2.2.2.2.2).bind fun t356 => (if (t356.size : Int) = 96 then ((impl_UsedBlocks.f k bt318.1 bt318.2.1 bt318.2.2.1 bt318.2.2.2.1 bt318.2.2.2.2.1 bt318.2.2.2.2.2.1 bt318.2.2.2.2.2.2.1 bt318.2.2.2.2.2.2.2.1 bt318.2.2.2.2.2.2.2.2.1 bt318.2.2.2.2.2.2.2.2.2).bind fun t357 => (if (t357.length : Int) ≤ (bt318.2.2.2.2.2.2.2.1.length : Int) then ((impl_BlocksNeeded.f bt318.2.2.2.2.2.1).bind fun t360 => (some (t360 == (bt318.2.2.2.2.2.2.2.1.length : Int)))) else (some false))) else (some false))) else (some false))) else (some false))) else (some false)))))) = some true := h
 clear h
 by_cases c2 : (l0.length : Int) > 1048576
 ·
  rw [if_pos c2] at H
  have c2b0 : decide (1048576 < (l0.length : Int)) = true := decide_eq_true c2
  have c2b1 : decide (1048576 < l0.length) = true := decide_eq_true (by omega)
  clear c2
  have hE_ := Option.some.inj H
  go_enter Try.func7, Try.ntmps7
  go_wp2
  go_ret
  exact ⟨by first | rfl | (simp [errW_none, errW_some] <;> rfl) | (simp at hE_ ⊢; exact hE_) | (simp [*, errW_none, errW_some] <;> rfl), by exact Lib.bw HB.out⟩
 ·
  rw [if_neg c2] at H
  have c2b0 : decide (1048576 < (l0.length : Int)) = false := decide_eq_false c2
  have c2b1 : decide (1048576 < l0.length) = false := decide_eq_false (by omega)
  clear c2
  replace H := Option.bind_eq_some_iff.mp H
  obtain ⟨⟨t318, t319, t320, t321, t322, t323, t324, t325, t328, t331⟩, A30, H⟩ := H
  try dsimp only at H
  have A3 := Aside0.mk A30
  clear A30
  replace H := Option.bind_eq_some_iff.mp H
  obtain ⟨t335, A40, H⟩ := H
  try dsimp only at H
  have A4 := Aside0.mk A40
  clear A40
  replace H := Option.bind_eq_some_iff.mp H
  obtain ⟨⟨t336, t337, t338, t339, t340, t341, t342, t343, t346, t349, t352⟩, A50, H⟩ := H
  try dsimp only at H
  have A5 := Aside0.mk A50
  clear A50
  by_cases c6 : t352 = true
  ·
   subst c6
   have H1 : ((impl_SameInode.f k t336 t337 t338 t339 t340 t341 t342 t343 t346 t349 t318 t319 t320 t321 t322 t323 t324 t325 t328 t331).bind fun t354 => (if t354 = true then ((impl_IsInode.f k t318 t319 t320 t321 t322 t323 t324 t325 t328 t331).bind fun t355 => (if t355 = true then ((impl_PackInode.f k t318 t319 t320 t321 t322 t323 t324 t325 t328 t331).bind fun t356 => (if (t356.size : Int) = 96 then ((impl_UsedBlocks.f k t318 t319 t320 t321 t322 t323 t324 t325 t328 t331).bind fun t357 => (if (t357.length : Int) ≤ (t325.length : Int) then ((impl_BlocksNeeded.f t323).bind fun t360 => (some (t360 == (t325.length : Int)))) else (some false))) else (some false))) else (some false))) else (some false))) = some true := by rw [if_pos rfl] at H; exact H
   clear H
   have H := H1
   clear H1
   replace H := Option.bind_eq_some_iff.mp H
   obtain ⟨t354, A70, H⟩ := H
   try dsimp only at H
   have A7 := Aside0.mk A70
   clear A70
   by_cases c8 : t354 = true
   ·
    subst c8
    have H1 : ((impl_IsInode.f k t318 t319 t320 t321 t322 t323 t324 t325 t328 t331).bind fun t355 => (if t355 = true then ((impl_PackInode.f k t318 t319 t320 t321 t322 t323 t324 t325 t328 t331).bind fun t356 => (if (t356.size : Int) = 96 then ((impl_UsedBlocks.f k t318 t319 t320 t321 t322 t323 t324 t325 t328 t331).bind fun t357 => (if (t357.length : Int) ≤ (t325.length : Int) then ((impl_BlocksNeeded.f t323).bind fun t360 => (some (t360 == (t325.length : Int)))) else (some false))) else (some false))) else (some false))) = some true := by rw [if_pos rfl] at H; exact H
    clear H
    have H := H1
    clear H1
    replace H := Option.bind_eq_some_iff.mp H
    obtain ⟨t355, A90, H⟩ := H
    try dsimp only at H
    have A9 := Aside0.mk A90
    clear A90
    by_cases c10 : t355 = true
    ·
     subst c10
     have H1 : ((impl_PackInode.f k t318 t319 t320 t321 t322 t323 t324 t325 t328 t331).bind fun t356 => (if (t356.size : Int) = 96 then ((impl_UsedBlocks.f k t318 t319 t320 t321 t322 t323 t324 t325 t328 t331).bind fun t357 => (if (t357.length : Int) ≤ (t325.length : Int) then ((impl_BlocksNeeded.f t323).bind fun t360 => (some (t360 == (t325.length : Int)))) else (some false))) else (some false))) = some true := by rw [if_pos rfl] at H; exact H
     clear H
     have H := H1
     clear H1
     replace H := Option.bind_eq_some_iff.mp H
     obtain ⟨t356, A110, H⟩ := H
     try dsimp only at H
     have A11 := Aside0.mk A110
     clear A110
     by_cases c12 : (t356.size : Int) = 96
     ·
      rw [if_pos c12] at H
      have c12b0 : ((t356.size : Int) == 96) = true := beq_iff_eq.mpr c12
      have c12b1 : ((t356.size : Int) != 96) = false := bne_eq_false_iff_eq.mpr c12
      clear c12
      replace H := Option.bind_eq_some_iff.mp H
      obtain ⟨t357, A130, H⟩ := H
      try dsimp only at H
      have A13 := Aside0.mk A130
      clear A130
      by_cases c14 : (t357.length : Int) ≤ (t325.length : Int)
      ·
       rw [if_pos c14] at H
       have c14b0 : decide ((t357.length : Int) ≤ (t325.length : Int)) = true := decide_eq_true c14
       have c14b1 : decide (t357.length ≤ t325.length) = true := decide_eq_true (Int.ofNat_le.mp c14)
       clear c14
       replace H := Option.bind_eq_some_iff.mp H
       obtain ⟨t360, A150, H⟩ := H
       replace H : (some (t360 == (t325.length : Int))) = some true := H
       have A15 := Aside0.mk A150
       clear A150
       have hE_ := Option.some.inj H
       go_enter Try.func7, Try.ntmps7
       try go_wp2_with (first | ((with_reducible refine gate_callee (f := 34) rfl ?_); refine goesL_ (some 10) rfl rfl Try.func34 (by kernel_rfl) rfl #[.slice A0 l0.length c0] rfl (by (try simp only [List.map_toArray, List.map_cons, List.map_nil]); first | done | rfl | (simp only [List.length_drop, List.length_take]; rfl)) ?_; (with_reducible refine (spec_MakeInode.calls k _ _ l0 t318 t319 t320 t321 t322 t323 t324 t325 t328 t331 _ ?side1 ?side2 A3.out).mono ?_); (case side1 => repeat (first | exact HR0.out | (with_reducible refine Kd.C_alloc ?_ _) | (with_reducible refine Kd.C_drewN ?_ _) | (with_reducible refine Kd.C_drew ?_))); (case side2 => exact HC0.out); rintro e w16 ⟨v326, v329, v332, rfl, ho0, ho1, ho2, hb⟩; refine ⟨_, rfl, ?_⟩; have n0_ := Aside0.mk (Kd.R_lower ho0 (below_size (by exact Lib.bw HB.out))); have n1_ := Aside0.mk (Kd.R_lower ho1 (below_size (by exact Lib.bw HB.out))); have n2_ := Aside0.mk (Kd.R_lower ho2 (below_size (by exact Lib.bw HB.out))); have n3_ := Aside0.mk (below_step (by exact Lib.bw HB.out) hb); clear HB; have HO327 := n0_; have HO330 := n1_; have HO333 := n2_; have HB := n3_; clear n0_ n1_ n2_ n3_; (try clear hb); (try clear hb2); (try clear hk); (try clear hi); (try clear ho0); (try clear ho1); (try clear ho2)) | ((with_reducible refine gate_dst (N := 3) rfl ?_); (try (refine gate_guard (by rfl) ?_; dsimp only)); refine box_event ?hg (N := 3) ?hd (cs := #[.int .i64 0, .int .i64 0, .int .i64 0, .int .i64 0, .int .i64 0, .int .i64 0, .int .i64 0, .slice none 0 0, .slice none 0 0, .slice none 0 0]) (t := 25) ?hr ?_; (case hd => rfl); (case hg => rfl); (case hr => first | (go_simp; done) | (go_simp; rfl)); intro gb334 hg w17 hbox hb; have n0_ := Aside0.mk (Kd.R_below (by exact Lib.cr HO327.out) hb); have n1_ := Aside0.mk (Kd.R_below (by exact Lib.cr HO330.out) hb); have n2_ := Aside0.mk (Kd.R_below (by exact Lib.cr HO333.out) hb); have n3_ := Aside0.mk (below_step (by exact Lib.bw HB.out) hb); have n4_ := Aside0.mk (hbox); have n5_ := Aside0.mk ((by rw [hg]; exact (below_size (by exact Lib.bw HB.out)) : w.heap.size ≤ gb334)); have n6_ := Aside0.mk ((by rw [hg]; exact (below_size (by exact Lib.bw HB.out)) : w.heap.size ≤ gb334)); clear HO327; clear HO330; clear HO333; clear HB; have HO327 := n0_; have HO330 := n1_; have HO333 := n2_; have HB := n3_; have BK334 := n4_; have GW334 := n5_; have GE334 := n6_; clear n0_ n1_ n2_ n3_ n4_ n5_ n6_; clear hb hbox hg; obtain ⟨hcz18_0, hcz18_1, hcz18_2, hcz18_3, hcz18_4, hcz18_5, hcz18_6, hcz18_7, hcz18_8, hcz18_9, hfz18_0, hfz18_1, hfz18_2, hfz18_3, hfz18_4, hfz18_5, hfz18_6, hfz18_7, hfz18_8, hfz18_9⟩ := Lib.cel10 (W := w17) BK334.out; obtain ⟨Ao19, co19, eo19⟩ := Kd.R_slice HO327.out; subst eo19; obtain ⟨Ao20, co20, eo20⟩ := Kd.R_slice HO330.out; subst eo20; obtain ⟨Ao21, co21, eo21⟩ := Kd.R_slice HO333.out; subst eo21) | ((with_reducible refine gate_callee (f := 35) rfl ?_); refine goesL_ (some 13) rfl rfl Try.func35 (by kernel_rfl) rfl #[.agg #[.int .i64 t318, .int .i64 t319, .int .i64 t320, .int .i64 t321, .int .i64 t322, .int .i64 t323, .int .i64 t324, .slice Ao19 t325.length co19, .slice Ao20 t328.length co20, .slice Ao21 t331.length co21]] rfl (by (try simp only [List.map_toArray, List.map_cons, List.map_nil]); first | done | rfl | (simp only [List.length_drop, List.length_take]; rfl)) ?_; (with_reducible refine (impl_PackInode.calls k t318 t319 t320 t321 t322 t323 t324 _ _ t325 _ _ t328 _ _ t331 t335 _ ?side1 ?side2 ?side3 ?side4 ?side5 ?side6 A4.out).mono ?_); (case side1 => refine (Kd.R_reads' (e := 3) (base := w.heap.size) (ok := fun k_ => True) (n := t325.length) (c := co19) ?_).2.2; exact (by (with_reducible repeat (first | apply Kd.R_alloc | apply Kd.R_drewN | apply Kd.R_drew)); exact (Kd.R_mono (Kd.R_far (p := ⟨gb334, 9, none⟩) (Kd.R_far (p := ⟨gb334, 8, none⟩) (Kd.R_far (p := ⟨gb334, 7, none⟩) (Kd.R_far (p := ⟨gb334, 6, none⟩) (Kd.R_far (p := ⟨gb334, 5, none⟩) (Kd.R_far (p := ⟨gb334, 4, none⟩) (Kd.R_far (p := ⟨gb334, 3, none⟩) (Kd.R_far (p := ⟨gb334, 2, none⟩) (Kd.R_far (p := ⟨gb334, 1, none⟩) (Kd.R_far (p := ⟨gb334, 0, none⟩) (Kd.R_types HO327.out BK334.out (by decide)) (fun _ hk => hk.2) (.int .i64 t318)) (fun _ hk => hk.2) (.int .i64 t319)) (fun _ hk => hk.2) (.int .i64 t320)) (fun _ hk => hk.2) (.int .i64 t321)) (fun _ hk => hk.2) (.int .i64 t322)) (fun _ hk => hk.2) (.int .i64 t323)) (fun _ hk => hk.2) (.int .i64 t324)) (fun _ hk => hk.2) (.slice Ao19 t325.length co19)) (fun _ hk => hk.2) (.slice Ao20 t328.length co20)) (fun _ hk => hk.2) (.slice Ao21 t331.length co21)) (fun _ h_ => h_.1)))); (case side2 => exact (Kd.R_reads' HO327.out).2.1); (case side3 => refine (Kd.R_reads' (e := 107) (base := w.heap.size) (ok := fun k_ => some k_ ≠ (.slice Ao21 t331.length co21 : Value).ownBlock) (n := t328.length) (c := co20) ?_).2.2; exact (by (with_reducible repeat (first | apply Kd.R_alloc | apply Kd.R_drewN | apply Kd.R_drew)); exact (Kd.R_mono (Kd.R_far (p := ⟨gb334, 9, none⟩) (Kd.R_far (p := ⟨gb334, 8, none⟩) (Kd.R_far (p := ⟨gb334, 7, none⟩) (Kd.R_far (p := ⟨gb334, 6, none⟩) (Kd.R_far (p := ⟨gb334, 5, none⟩) (Kd.R_far (p := ⟨gb334, 4, none⟩) (Kd.R_far (p := ⟨gb334, 3, none⟩) (Kd.R_far (p := ⟨gb334, 2, none⟩) (Kd.R_far (p := ⟨gb334, 1, none⟩) (Kd.R_far (p := ⟨gb334, 0, none⟩) (Kd.R_types HO330.out BK334.out (by decide)) (fun _ hk => hk.2) (.int .i64 t318)) (fun _ hk => hk.2) (.int .i64 t319)) (fun _ hk => hk.2) (.int .i64 t320)) (fun _ hk => hk.2) (.int .i64 t321)) (fun _ hk => hk.2) (.int .i64 t322)) (fun _ hk => hk.2) (.int .i64 t323)) (fun _ hk => hk.2) (.int .i64 t324)) (fun _ hk => hk.2) (.slice Ao19 t325.length co19)) (fun _ hk => hk.2) (.slice Ao20 t328.length co20)) (fun _ hk => hk.2) (.slice Ao21 t331.length co21)) (fun _ h_ => h_.1)))); (case side4 => exact (Kd.R_reads' HO330.out).2.1); (case side5 => refine (Kd.R_reads' (e := 107) (base := w.heap.size) (ok := fun k_ => some k_ ≠ (.slice Ao20 t328.length co20 : Value).ownBlock) (n := t331.length) (c := co21) ?_).2.2; exact (by (with_reducible repeat (first | apply Kd.R_alloc | apply Kd.R_drewN | apply Kd.R_drew)); exact (Kd.R_mono (Kd.R_far (p := ⟨gb334, 9, none⟩) (Kd.R_far (p := ⟨gb334, 8, none⟩) (Kd.R_far (p := ⟨gb334, 7, none⟩) (Kd.R_far (p := ⟨gb334, 6, none⟩) (Kd.R_far (p := ⟨gb334, 5, none⟩) (Kd.R_far (p := ⟨gb334, 4, none⟩) (Kd.R_far (p := ⟨gb334, 3, none⟩) (Kd.R_far (p := ⟨gb334, 2, none⟩) (Kd.R_far (p := ⟨gb334, 1, none⟩) (Kd.R_far (p := ⟨gb334, 0, none⟩) (Kd.R_types HO333.out BK334.out (by decide)) (fun _ hk => hk.2) (.int .i64 t318)) (fun _ hk => hk.2) (.int .i64 t319)) (fun _ hk => hk.2) (.int .i64 t320)) (fun _ hk => hk.2) (.int .i64 t321)) (fun _ hk => hk.2) (.int .i64 t322)) (fun _ hk => hk.2) (.int .i64 t323)) (fun _ hk => hk.2) (.int .i64 t324)) (fun _ hk => hk.2) (.slice Ao19 t325.length co19)) (fun _ hk => hk.2) (.slice Ao20 t328.length co20)) (fun _ hk => hk.2) (.slice Ao21 t331.length co21)) (fun _ h_ => h_.1)))); (case side6 => exact (Kd.R_reads' HO333.out).2.1); rintro e w22 ⟨rfl, hb⟩; refine ⟨_, rfl, ?_⟩; have n0_ := Aside0.mk (Kd.R_below (by (with_reducible repeat (first | apply Kd.R_alloc | apply Kd.R_drewN | apply Kd.R_drew)); exact (Kd.R_mono (Kd.R_far (p := ⟨gb334, 9, none⟩) (Kd.R_far (p := ⟨gb334, 8, none⟩) (Kd.R_far (p := ⟨gb334, 7, none⟩) (Kd.R_far (p := ⟨gb334, 6, none⟩) (Kd.R_far (p := ⟨gb334, 5, none⟩) (Kd.R_far (p := ⟨gb334, 4, none⟩) (Kd.R_far (p := ⟨gb334, 3, none⟩) (Kd.R_far (p := ⟨gb334, 2, none⟩) (Kd.R_far (p := ⟨gb334, 1, none⟩) (Kd.R_far (p := ⟨gb334, 0, none⟩) (Kd.R_types HO327.out BK334.out (by decide)) (fun _ hk => hk.2) (.int .i64 t318)) (fun _ hk => hk.2) (.int .i64 t319)) (fun _ hk => hk.2) (.int .i64 t320)) (fun _ hk => hk.2) (.int .i64 t321)) (fun _ hk => hk.2) (.int .i64 t322)) (fun _ hk => hk.2) (.int .i64 t323)) (fun _ hk => hk.2) (.int .i64 t324)) (fun _ hk => hk.2) (.slice Ao19 t325.length co19)) (fun _ hk => hk.2) (.slice Ao20 t328.length co20)) (fun _ hk => hk.2) (.slice Ao21 t331.length co21)) (fun _ h_ => h_.1))) hb); have n1_ := Aside0.mk (Kd.R_below (by (with_reducible repeat (first | apply Kd.R_alloc | apply Kd.R_drewN | apply Kd.R_drew)); exact (Kd.R_mono (Kd.R_far (p := ⟨gb334, 9, none⟩) (Kd.R_far (p := ⟨gb334, 8, none⟩) (Kd.R_far (p := ⟨gb334, 7, none⟩) (Kd.R_far (p := ⟨gb334, 6, none⟩) (Kd.R_far (p := ⟨gb334, 5, none⟩) (Kd.R_far (p := ⟨gb334, 4, none⟩) (Kd.R_far (p := ⟨gb334, 3, none⟩) (Kd.R_far (p := ⟨gb334, 2, none⟩) (Kd.R_far (p := ⟨gb334, 1, none⟩) (Kd.R_far (p := ⟨gb334, 0, none⟩) (Kd.R_types HO330.out BK334.out (by decide)) (fun _ hk => hk.2) (.int .i64 t318)) (fun _ hk => hk.2) (.int .i64 t319)) (fun _ hk => hk.2) (.int .i64 t320)) (fun _ hk => hk.2) (.int .i64 t321)) (fun _ hk => hk.2) (.int .i64 t322)) (fun _ hk => hk.2) (.int .i64 t323)) (fun _ hk => hk.2) (.int .i64 t324)) (fun _ hk => hk.2) (.slice Ao19 t325.length co19)) (fun _ hk => hk.2) (.slice Ao20 t328.length co20)) (fun _ hk => hk.2) (.slice Ao21 t331.length co21)) (fun _ h_ => h_.1))) hb); have n2_ := Aside0.mk (Kd.R_below (by (with_reducible repeat (first | apply Kd.R_alloc | apply Kd.R_drewN | apply Kd.R_drew)); exact (Kd.R_mono (Kd.R_far (p := ⟨gb334, 9, none⟩) (Kd.R_far (p := ⟨gb334, 8, none⟩) (Kd.R_far (p := ⟨gb334, 7, none⟩) (Kd.R_far (p := ⟨gb334, 6, none⟩) (Kd.R_far (p := ⟨gb334, 5, none⟩) (Kd.R_far (p := ⟨gb334, 4, none⟩) (Kd.R_far (p := ⟨gb334, 3, none⟩) (Kd.R_far (p := ⟨gb334, 2, none⟩) (Kd.R_far (p := ⟨gb334, 1, none⟩) (Kd.R_far (p := ⟨gb334, 0, none⟩) (Kd.R_types HO333.out BK334.out (by decide)) (fun _ hk => hk.2) (.int .i64 t318)) (fun _ hk => hk.2) (.int .i64 t319)) (fun _ hk => hk.2) (.int .i64 t320)) (fun _ hk => hk.2) (.int .i64 t321)) (fun _ hk => hk.2) (.int .i64 t322)) (fun _ hk => hk.2) (.int .i64 t323)) (fun _ hk => hk.2) (.int .i64 t324)) (fun _ hk => hk.2) (.slice Ao19 t325.length co19)) (fun _ hk => hk.2) (.slice Ao20 t328.length co20)) (fun _ hk => hk.2) (.slice Ao21 t331.length co21)) (fun _ h_ => h_.1))) hb); have n3_ := Aside0.mk (blk_below (g := gb334) (o := .cells #[.int .i64 t318, .int .i64 t319, .int .i64 t320, .int .i64 t321, .int .i64 t322, .int .i64 t323, .int .i64 t324, .slice Ao19 t325.length co19, .slice Ao20 t328.length co20, .slice Ao21 t331.length co21] 25 (0, 0)) (by (with_reducible repeat (first | refine blk_drewN ?_ _ | refine blk_drew ?_ | refine blk_alloc ?_ _)); refine blk_put (cs := #[.int .i64 t318, .int .i64 t319, .int .i64 t320, .int .i64 t321, .int .i64 t322, .int .i64 t323, .int .i64 t324, .slice Ao19 t325.length co19, .slice Ao20 t328.length co20, .slice none 0 0]) ?_ 9 _ rfl; (with_reducible repeat (first | refine blk_drewN ?_ _ | refine blk_drew ?_ | refine blk_alloc ?_ _)); refine blk_put (cs := #[.int .i64 t318, .int .i64 t319, .int .i64 t320, .int .i64 t321, .int .i64 t322, .int .i64 t323, .int .i64 t324, .slice Ao19 t325.length co19, .slice none 0 0, .slice none 0 0]) ?_ 8 _ rfl; (with_reducible repeat (first | refine blk_drewN ?_ _ | refine blk_drew ?_ | refine blk_alloc ?_ _)); refine blk_put (cs := #[.int .i64 t318, .int .i64 t319, .int .i64 t320, .int .i64 t321, .int .i64 t322, .int .i64 t323, .int .i64 t324, .slice none 0 0, .slice none 0 0, .slice none 0 0]) ?_ 7 _ rfl; (with_reducible repeat (first | refine blk_drewN ?_ _ | refine blk_drew ?_ | refine blk_alloc ?_ _)); refine blk_put (cs := #[.int .i64 t318, .int .i64 t319, .int .i64 t320, .int .i64 t321, .int .i64 t322, .int .i64 t323, .int .i64 0, .slice none 0 0, .slice none 0 0, .slice none 0 0]) ?_ 6 _ rfl; (with_reducible repeat (first | refine blk_drewN ?_ _ | refine blk_drew ?_ | refine blk_alloc ?_ _)); refine blk_put (cs := #[.int .i64 t318, .int .i64 t319, .int .i64 t320, .int .i64 t321, .int .i64 t322, .int .i64 0, .int .i64 0, .slice none 0 0, .slice none 0 0, .slice none 0 0]) ?_ 5 _ rfl; (with_reducible repeat (first | refine blk_drewN ?_ _ | refine blk_drew ?_ | refine blk_alloc ?_ _)); refine blk_put (cs := #[.int .i64 t318, .int .i64 t319, .int .i64 t320, .int .i64 t321, .int .i64 0, .int .i64 0, .int .i64 0, .slice none 0 0, .slice none 0 0, .slice none 0 0]) ?_ 4 _ rfl; (with_reducible repeat (first | refine blk_drewN ?_ _ | refine blk_drew ?_ | refine blk_alloc ?_ _)); refine blk_put (cs := #[.int .i64 t318, .int .i64 t319, .int .i64 t320, .int .i64 0, .int .i64 0, .int .i64 0, .int .i64 0, .slice none 0 0, .slice none 0 0, .slice none 0 0]) ?_ 3 _ rfl; (with_reducible repeat (first | refine blk_drewN ?_ _ | refine blk_drew ?_ | refine blk_alloc ?_ _)); refine blk_put (cs := #[.int .i64 t318, .int .i64 t319, .int .i64 0, .int .i64 0, .int .i64 0, .int .i64 0, .int .i64 0, .slice none 0 0, .slice none 0 0, .slice none 0 0]) ?_ 2 _ rfl; (with_reducible repeat (first | refine blk_drewN ?_ _ | refine blk_drew ?_ | refine blk_alloc ?_ _)); refine blk_put (cs := #[.int .i64 t318, .int .i64 0, .int .i64 0, .int .i64 0, .int .i64 0, .int .i64 0, .int .i64 0, .slice none 0 0, .slice none 0 0, .slice none 0 0]) ?_ 1 _ rfl; (with_reducible repeat (first | refine blk_drewN ?_ _ | refine blk_drew ?_ | refine blk_alloc ?_ _)); refine blk_put (cs := #[.int .i64 0, .int .i64 0, .int .i64 0, .int .i64 0, .int .i64 0, .int .i64 0, .int .i64 0, .slice none 0 0, .slice none 0 0, .slice none 0 0]) ?_ 0 _ rfl; (with_reducible repeat (first | refine blk_drewN ?_ _ | refine blk_drew ?_ | refine blk_alloc ?_ _)); exact BK334.out) hb); have n4_ := Aside0.mk (below_step (by exact Lib.bs HB.out GE334.out) hb); clear HO327; clear HO330; clear HO333; clear BK334; clear HB; have HO327 := n0_; have HO330 := n1_; have HO333 := n2_; have BK334 := n3_; have HB := n4_; clear n0_ n1_ n2_ n3_ n4_; (try clear hb); (try clear hb2); (try clear hk); (try clear hi)) | ((with_reducible refine gate_callee (f := 13) rfl ?_); refine goesL_ (some 14) rfl rfl Try.func13 (by kernel_rfl) rfl #[.string t335] rfl (by (try simp only [List.map_toArray, List.map_cons, List.map_nil]); first | done | rfl | (simp only [List.length_drop, List.length_take]; rfl)) ?_; (with_reducible refine (impl_UnpackInode.calls k t335 t336 t337 t338 t339 t340 t341 t342 t343 t346 t349 true _ A5.out).mono ?_); rintro e w23 ⟨v344, v347, v350, rfl, ho0, ho1, ho2, hb⟩; refine ⟨_, rfl, ?_⟩; have n0_ := Aside0.mk (Kd.R_elder' (by exact Lib.cr HO327.out) (Kd.R_base ho0) hb); have n1_ := Aside0.mk (Kd.R_mono (Kd.R_told (Kd.R_told (Kd.R_old (by exact Lib.cr HO330.out) hb) (Kd.R_base ho1)) (Kd.R_base ho2)) (fun _ h_ => h_.1)); have n2_ := Aside0.mk (Kd.R_mono (Kd.R_told (Kd.R_told (Kd.R_old (by exact Lib.cr HO333.out) hb) (Kd.R_base ho1)) (Kd.R_base ho2)) (fun _ h_ => h_.1)); have n3_ := Aside0.mk (Kd.R_lower (Kd.R_new' ho0 (Kd.R_lt (by exact Lib.cr HO327.out))) (below_size (by exact Lib.bs HB.out GE334.out))); have n4_ := Aside0.mk (Kd.R_lower (Kd.R_new' (Kd.R_new' ho1 (Kd.R_lt (by exact Lib.cr HO330.out))) (Kd.R_lt (by exact Lib.cr HO333.out))) (below_size (by exact Lib.bs HB.out GE334.out))); have n5_ := Aside0.mk (Kd.R_lower (Kd.R_new' (Kd.R_new' ho2 (Kd.R_lt (by exact Lib.cr HO330.out))) (Kd.R_lt (by exact Lib.cr HO333.out))) (below_size (by exact Lib.bs HB.out GE334.out))); have n6_ := Aside0.mk (blk_below (g := gb334) (o := .cells #[.int .i64 t318, .int .i64 t319, .int .i64 t320, .int .i64 t321, .int .i64 t322, .int .i64 t323, .int .i64 t324, .slice Ao19 t325.length co19, .slice Ao20 t328.length co20, .slice Ao21 t331.length co21] 25 (0, 0)) (by exact Lib.bk BK334.out) hb); have n7_ := Aside0.mk (below_step (by exact Lib.bs HB.out GE334.out) hb); clear HO327; clear HO330; clear HO333; clear BK334; clear HB; have HO327 := n0_; have HO330 := n1_; have HO333 := n2_; have HO345 := n3_; have HO348 := n4_; have HO351 := n5_; have BK334 := n6_; have HB := n7_; clear n0_ n1_ n2_ n3_ n4_ n5_ n6_ n7_; (try clear hb); (try clear hb2); (try clear hk); (try clear hi); (try clear ho0); (try clear ho1); (try clear ho2)) | ((with_reducible refine gate_dst (N := 4) rfl ?_); (try (refine gate_guard (by rfl) ?_; dsimp only)); refine box_event ?hg (N := 4) ?hd (cs := #[.int .i64 0, .int .i64 0, .int .i64 0, .int .i64 0, .int .i64 0, .int .i64 0, .int .i64 0, .slice none 0 0, .slice none 0 0, .slice none 0 0]) (t := 25) ?hr ?_; (case hd => rfl); (case hg => rfl); (case hr => first | (go_simp; done) | (go_simp; rfl)); intro gb353 hg w24 hbox hb; have n0_ := Aside0.mk (Kd.R_below (by exact Lib.cr HO327.out) hb); have n1_ := Aside0.mk (Kd.R_below (by exact Lib.cr HO330.out) hb); have n2_ := Aside0.mk (Kd.R_below (by exact Lib.cr HO333.out) hb); have n3_ := Aside0.mk (Kd.R_below (by exact Lib.cr HO345.out) hb); have n4_ := Aside0.mk (Kd.R_below (by exact Lib.cr HO348.out) hb); have n5_ := Aside0.mk (Kd.R_below (by exact Lib.cr HO351.out) hb); have n6_ := Aside0.mk (blk_below (g := gb334) (o := .cells #[.int .i64 t318, .int .i64 t319, .int .i64 t320, .int .i64 t321, .int .i64 t322, .int .i64 t323, .int .i64 t324, .slice Ao19 t325.length co19, .slice Ao20 t328.length co20, .slice Ao21 t331.length co21] 25 (0, 0)) (by exact Lib.bk BK334.out) hb); have n7_ := Aside0.mk (below_step (by exact Lib.bs HB.out GE334.out) hb); have n8_ := Aside0.mk (hbox); have n9_ := Aside0.mk ((by rw [hg]; exact (below_size (by exact Lib.bs HB.out GE334.out)) : w.heap.size ≤ gb353)); have n10_ := Aside0.mk ((by rw [hg]; exact (below_size (by exact Lib.bs HB.out GE334.out)) : w.heap.size ≤ gb353)); have n11_ := Aside0.mk ((by rw [hg]; exact Nat.ne_of_lt (blk_lt (g := gb334) (o := .cells #[.int .i64 t318, .int .i64 t319, .int .i64 t320, .int .i64 t321, .int .i64 t322, .int .i64 t323, .int .i64 t324, .slice Ao19 t325.length co19, .slice Ao20 t328.length co20, .slice Ao21 t331.length co21] 25 (0, 0)) (by exact Lib.bk BK334.out)) : gb334 ≠ gb353)); have n12_ := Aside0.mk ((by rw [hg]; exact Nat.ne_of_gt (blk_lt (g := gb334) (o := .cells #[.int .i64 t318, .int .i64 t319, .int .i64 t320, .int .i64 t321, .int .i64 t322, .int .i64 t323, .int .i64 t324, .slice Ao19 t325.length co19, .slice Ao20 t328.length co20, .slice Ao21 t331.length co21] 25 (0, 0)) (by exact Lib.bk BK334.out)) : gb353 ≠ gb334)); clear HO327; clear HO330; clear HO333; clear HO345; clear HO348; clear HO351; clear BK334; clear HB; have HO327 := n0_; have HO330 := n1_; have HO333 := n2_; have HO345 := n3_; have HO348 := n4_; have HO351 := n5_; have BK334 := n6_; have HB := n7_; have BK353 := n8_; have GW353 := n9_; have GE353 := n10_; have NB334_353 := n11_; have NB353_334 := n12_; clear n0_ n1_ n2_ n3_ n4_ n5_ n6_ n7_ n8_ n9_ n10_ n11_ n12_; clear hb hbox hg; have hnb25 := NB353_334.out; have hnc25 := NB334_353.out; obtain ⟨hcz26_0, hcz26_1, hcz26_2, hcz26_3, hcz26_4, hcz26_5, hcz26_6, hcz26_7, hcz26_8, hcz26_9, hfz26_0, hfz26_1, hfz26_2, hfz26_3, hfz26_4, hfz26_5, hfz26_6, hfz26_7, hfz26_8, hfz26_9⟩ := Lib.cel10 (W := w24) BK353.out; obtain ⟨Ao27, co27, eo27⟩ := Kd.R_slice HO345.out; subst eo27; obtain ⟨Ao28, co28, eo28⟩ := Kd.R_slice HO348.out; subst eo28; obtain ⟨Ao29, co29, eo29⟩ := Kd.R_slice HO351.out; subst eo29))
       have n0_ : Aside0 (Kd.R (Kd.int .i64) 3 ((((((((((w24.setCell ⟨gb353, 0, none⟩ (.int .i64 t336)).setCell ⟨gb353, 1, none⟩ (.int .i64 t337)).setCell ⟨gb353, 2, none⟩ (.int .i64 t338)).setCell ⟨gb353, 3, none⟩ (.int .i64 t339)).setCell ⟨gb353, 4, none⟩ (.int .i64 t340)).setCell ⟨gb353, 5, none⟩ (.int .i64 t341)).setCell ⟨gb353, 6, none⟩ (.int .i64 t342)).setCell ⟨gb353, 7, none⟩ (.slice Ao27 t343.length co27)).setCell ⟨gb353, 8, none⟩ (.slice Ao28 t346.length co28)).setCell ⟨gb353, 9, none⟩ (.slice Ao29 t349.length co29)) w.heap.size (fun k_ => some k_ ≠ (.slice Ao27 t343.length co27 : Value).ownBlock) (.slice Ao19 t325.length co19) t325) := ⟨by (with_reducible repeat (first | apply Kd.R_alloc | apply Kd.R_drewN | apply Kd.R_drew)); exact Kd.R_mono (Kd.R_far (p := ⟨gb353, 9, none⟩) (Kd.R_far (p := ⟨gb353, 8, none⟩) (Kd.R_far (p := ⟨gb353, 7, none⟩) (Kd.R_far (p := ⟨gb353, 6, none⟩) (Kd.R_far (p := ⟨gb353, 5, none⟩) (Kd.R_far (p := ⟨gb353, 4, none⟩) (Kd.R_far (p := ⟨gb353, 3, none⟩) (Kd.R_far (p := ⟨gb353, 2, none⟩) (Kd.R_far (p := ⟨gb353, 1, none⟩) (Kd.R_far (p := ⟨gb353, 0, none⟩) (Kd.R_types HO327.out BK353.out (by decide)) (fun _ hk => hk.2) (.int .i64 t336)) (fun _ hk => hk.2) (.int .i64 t337)) (fun _ hk => hk.2) (.int .i64 t338)) (fun _ hk => hk.2) (.int .i64 t339)) (fun _ hk => hk.2) (.int .i64 t340)) (fun _ hk => hk.2) (.int .i64 t341)) (fun _ hk => hk.2) (.int .i64 t342)) (fun _ hk => hk.2) (.slice Ao27 t343.length co27)) (fun _ hk => hk.2) (.slice Ao28 t346.length co28)) (fun _ hk => hk.2) (.slice Ao29 t349.length co29)) (fun _ hk => hk.1.2)⟩
       have n1_ : Aside0 (Kd.R k107 107 ((((((((((w24.setCell ⟨gb353, 0, none⟩ (.int .i64 t336)).setCell ⟨gb353, 1, none⟩ (.int .i64 t337)).setCell ⟨gb353, 2, none⟩ (.int .i64 t338)).setCell ⟨gb353, 3, none⟩ (.int .i64 t339)).setCell ⟨gb353, 4, none⟩ (.int .i64 t340)).setCell ⟨gb353, 5, none⟩ (.int .i64 t341)).setCell ⟨gb353, 6, none⟩ (.int .i64 t342)).setCell ⟨gb353, 7, none⟩ (.slice Ao27 t343.length co27)).setCell ⟨gb353, 8, none⟩ (.slice Ao28 t346.length co28)).setCell ⟨gb353, 9, none⟩ (.slice Ao29 t349.length co29)) w.heap.size (fun k_ => some k_ ≠ (.slice Ao21 t331.length co21 : Value).ownBlock ∧ some k_ ≠ (.slice Ao28 t346.length co28 : Value).ownBlock ∧ some k_ ≠ (.slice Ao29 t349.length co29 : Value).ownBlock) (.slice Ao20 t328.length co20) t328) := ⟨by (with_reducible repeat (first | apply Kd.R_alloc | apply Kd.R_drewN | apply Kd.R_drew)); exact Kd.R_mono (Kd.R_far (p := ⟨gb353, 9, none⟩) (Kd.R_far (p := ⟨gb353, 8, none⟩) (Kd.R_far (p := ⟨gb353, 7, none⟩) (Kd.R_far (p := ⟨gb353, 6, none⟩) (Kd.R_far (p := ⟨gb353, 5, none⟩) (Kd.R_far (p := ⟨gb353, 4, none⟩) (Kd.R_far (p := ⟨gb353, 3, none⟩) (Kd.R_far (p := ⟨gb353, 2, none⟩) (Kd.R_far (p := ⟨gb353, 1, none⟩) (Kd.R_far (p := ⟨gb353, 0, none⟩) (Kd.R_types HO330.out BK353.out (by decide)) (fun _ hk => hk.2) (.int .i64 t336)) (fun _ hk => hk.2) (.int .i64 t337)) (fun _ hk => hk.2) (.int .i64 t338)) (fun _ hk => hk.2) (.int .i64 t339)) (fun _ hk => hk.2) (.int .i64 t340)) (fun _ hk => hk.2) (.int .i64 t341)) (fun _ hk => hk.2) (.int .i64 t342)) (fun _ hk => hk.2) (.slice Ao27 t343.length co27)) (fun _ hk => hk.2) (.slice Ao28 t346.length co28)) (fun _ hk => hk.2) (.slice Ao29 t349.length co29)) (fun _ hk => ⟨hk.1.1.1, ⟨hk.1.1.2, hk.1.2⟩⟩)⟩
       have n2_ : Aside0 (Kd.R k107 107 ((((((((((w24.setCell ⟨gb353, 0, none⟩ (.int .i64 t336)).setCell ⟨gb353, 1, none⟩ (.int .i64 t337)).setCell ⟨gb353, 2, none⟩ (.int .i64 t338)).setCell ⟨gb353, 3, none⟩ (.int .i64 t339)).setCell ⟨gb353, 4, none⟩ (.int .i64 t340)).setCell ⟨gb353, 5, none⟩ (.int .i64 t341)).setCell ⟨gb353, 6, none⟩ (.int .i64 t342)).setCell ⟨gb353, 7, none⟩ (.slice Ao27 t343.length co27)).setCell ⟨gb353, 8, none⟩ (.slice Ao28 t346.length co28)).setCell ⟨gb353, 9, none⟩ (.slice Ao29 t349.length co29)) w.heap.size (fun k_ => some k_ ≠ (.slice Ao20 t328.length co20 : Value).ownBlock ∧ some k_ ≠ (.slice Ao28 t346.length co28 : Value).ownBlock ∧ some k_ ≠ (.slice Ao29 t349.length co29 : Value).ownBlock) (.slice Ao21 t331.length co21) t331) := ⟨by (with_reducible repeat (first | apply Kd.R_alloc | apply Kd.R_drewN | apply Kd.R_drew)); exact Kd.R_mono (Kd.R_far (p := ⟨gb353, 9, none⟩) (Kd.R_far (p := ⟨gb353, 8, none⟩) (Kd.R_far (p := ⟨gb353, 7, none⟩) (Kd.R_far (p := ⟨gb353, 6, none⟩) (Kd.R_far (p := ⟨gb353, 5, none⟩) (Kd.R_far (p := ⟨gb353, 4, none⟩) (Kd.R_far (p := ⟨gb353, 3, none⟩) (Kd.R_far (p := ⟨gb353, 2, none⟩) (Kd.R_far (p := ⟨gb353, 1, none⟩) (Kd.R_far (p := ⟨gb353, 0, none⟩) (Kd.R_types HO333.out BK353.out (by decide)) (fun _ hk => hk.2) (.int .i64 t336)) (fun _ hk => hk.2) (.int .i64 t337)) (fun _ hk => hk.2) (.int .i64 t338)) (fun _ hk => hk.2) (.int .i64 t339)) (fun _ hk => hk.2) (.int .i64 t340)) (fun _ hk => hk.2) (.int .i64 t341)) (fun _ hk => hk.2) (.int .i64 t342)) (fun _ hk => hk.2) (.slice Ao27 t343.length co27)) (fun _ hk => hk.2) (.slice Ao28 t346.length co28)) (fun _ hk => hk.2) (.slice Ao29 t349.length co29)) (fun _ hk => ⟨hk.1.1.1, ⟨hk.1.1.2, hk.1.2⟩⟩)⟩
       have n3_ : Aside0 (Kd.R (Kd.int .i64) 3 ((((((((((w24.setCell ⟨gb353, 0, none⟩ (.int .i64 t336)).setCell ⟨gb353, 1, none⟩ (.int .i64 t337)).setCell ⟨gb353, 2, none⟩ (.int .i64 t338)).setCell ⟨gb353, 3, none⟩ (.int .i64 t339)).setCell ⟨gb353, 4, none⟩ (.int .i64 t340)).setCell ⟨gb353, 5, none⟩ (.int .i64 t341)).setCell ⟨gb353, 6, none⟩ (.int .i64 t342)).setCell ⟨gb353, 7, none⟩ (.slice Ao27 t343.length co27)).setCell ⟨gb353, 8, none⟩ (.slice Ao28 t346.length co28)).setCell ⟨gb353, 9, none⟩ (.slice Ao29 t349.length co29)) w.heap.size (fun k_ => some k_ ≠ (.slice Ao19 t325.length co19 : Value).ownBlock) (.slice Ao27 t343.length co27) t343) := ⟨by (with_reducible repeat (first | apply Kd.R_alloc | apply Kd.R_drewN | apply Kd.R_drew)); exact Kd.R_mono (Kd.R_far (p := ⟨gb353, 9, none⟩) (Kd.R_far (p := ⟨gb353, 8, none⟩) (Kd.R_far (p := ⟨gb353, 7, none⟩) (Kd.R_far (p := ⟨gb353, 6, none⟩) (Kd.R_far (p := ⟨gb353, 5, none⟩) (Kd.R_far (p := ⟨gb353, 4, none⟩) (Kd.R_far (p := ⟨gb353, 3, none⟩) (Kd.R_far (p := ⟨gb353, 2, none⟩) (Kd.R_far (p := ⟨gb353, 1, none⟩) (Kd.R_far (p := ⟨gb353, 0, none⟩) (Kd.R_types HO345.out BK353.out (by decide)) (fun _ hk => hk.2) (.int .i64 t336)) (fun _ hk => hk.2) (.int .i64 t337)) (fun _ hk => hk.2) (.int .i64 t338)) (fun _ hk => hk.2) (.int .i64 t339)) (fun _ hk => hk.2) (.int .i64 t340)) (fun _ hk => hk.2) (.int .i64 t341)) (fun _ hk => hk.2) (.int .i64 t342)) (fun _ hk => hk.2) (.slice Ao27 t343.length co27)) (fun _ hk => hk.2) (.slice Ao28 t346.length co28)) (fun _ hk => hk.2) (.slice Ao29 t349.length co29)) (fun _ hk => hk.1.2)⟩
       have n4_ : Aside0 (Kd.R k107 107 ((((((((((w24.setCell ⟨gb353, 0, none⟩ (.int .i64 t336)).setCell ⟨gb353, 1, none⟩ (.int .i64 t337)).setCell ⟨gb353, 2, none⟩ (.int .i64 t338)).setCell ⟨gb353, 3, none⟩ (.int .i64 t339)).setCell ⟨gb353, 4, none⟩ (.int .i64 t340)).setCell ⟨gb353, 5, none⟩ (.int .i64 t341)).setCell ⟨gb353, 6, none⟩ (.int .i64 t342)).setCell ⟨gb353, 7, none⟩ (.slice Ao27 t343.length co27)).setCell ⟨gb353, 8, none⟩ (.slice Ao28 t346.length co28)).setCell ⟨gb353, 9, none⟩ (.slice Ao29 t349.length co29)) w.heap.size (fun k_ => some k_ ≠ (.slice Ao20 t328.length co20 : Value).ownBlock ∧ some k_ ≠ (.slice Ao21 t331.length co21 : Value).ownBlock ∧ some k_ ≠ (.slice Ao29 t349.length co29 : Value).ownBlock) (.slice Ao28 t346.length co28) t346) := ⟨by (with_reducible repeat (first | apply Kd.R_alloc | apply Kd.R_drewN | apply Kd.R_drew)); exact Kd.R_mono (Kd.R_far (p := ⟨gb353, 9, none⟩) (Kd.R_far (p := ⟨gb353, 8, none⟩) (Kd.R_far (p := ⟨gb353, 7, none⟩) (Kd.R_far (p := ⟨gb353, 6, none⟩) (Kd.R_far (p := ⟨gb353, 5, none⟩) (Kd.R_far (p := ⟨gb353, 4, none⟩) (Kd.R_far (p := ⟨gb353, 3, none⟩) (Kd.R_far (p := ⟨gb353, 2, none⟩) (Kd.R_far (p := ⟨gb353, 1, none⟩) (Kd.R_far (p := ⟨gb353, 0, none⟩) (Kd.R_types HO348.out BK353.out (by decide)) (fun _ hk => hk.2) (.int .i64 t336)) (fun _ hk => hk.2) (.int .i64 t337)) (fun _ hk => hk.2) (.int .i64 t338)) (fun _ hk => hk.2) (.int .i64 t339)) (fun _ hk => hk.2) (.int .i64 t340)) (fun _ hk => hk.2) (.int .i64 t341)) (fun _ hk => hk.2) (.int .i64 t342)) (fun _ hk => hk.2) (.slice Ao27 t343.length co27)) (fun _ hk => hk.2) (.slice Ao28 t346.length co28)) (fun _ hk => hk.2) (.slice Ao29 t349.length co29)) (fun _ hk => ⟨hk.1.1.2, ⟨hk.1.2, hk.1.1.1⟩⟩)⟩
       have n5_ : Aside0 (Kd.R k107 107 ((((((((((w24.setCell ⟨gb353, 0, none⟩ (.int .i64 t336)).setCell ⟨gb353, 1, none⟩ (.int .i64 t337)).setCell ⟨gb353, 2, none⟩ (.int .i64 t338)).setCell ⟨gb353, 3, none⟩ (.int .i64 t339)).setCell ⟨gb353, 4, none⟩ (.int .i64 t340)).setCell ⟨gb353, 5, none⟩ (.int .i64 t341)).setCell ⟨gb353, 6, none⟩ (.int .i64 t342)).setCell ⟨gb353, 7, none⟩ (.slice Ao27 t343.length co27)).setCell ⟨gb353, 8, none⟩ (.slice Ao28 t346.length co28)).setCell ⟨gb353, 9, none⟩ (.slice Ao29 t349.length co29)) w.heap.size (fun k_ => some k_ ≠ (.slice Ao20 t328.length co20 : Value).ownBlock ∧ some k_ ≠ (.slice Ao21 t331.length co21 : Value).ownBlock ∧ some k_ ≠ (.slice Ao28 t346.length co28 : Value).ownBlock) (.slice Ao29 t349.length co29) t349) := ⟨by (with_reducible repeat (first | apply Kd.R_alloc | apply Kd.R_drewN | apply Kd.R_drew)); exact Kd.R_mono (Kd.R_far (p := ⟨gb353, 9, none⟩) (Kd.R_far (p := ⟨gb353, 8, none⟩) (Kd.R_far (p := ⟨gb353, 7, none⟩) (Kd.R_far (p := ⟨gb353, 6, none⟩) (Kd.R_far (p := ⟨gb353, 5, none⟩) (Kd.R_far (p := ⟨gb353, 4, none⟩) (Kd.R_far (p := ⟨gb353, 3, none⟩) (Kd.R_far (p := ⟨gb353, 2, none⟩) (Kd.R_far (p := ⟨gb353, 1, none⟩) (Kd.R_far (p := ⟨gb353, 0, none⟩) (Kd.R_types HO351.out BK353.out (by decide)) (fun _ hk => hk.2) (.int .i64 t336)) (fun _ hk => hk.2) (.int .i64 t337)) (fun _ hk => hk.2) (.int .i64 t338)) (fun _ hk => hk.2) (.int .i64 t339)) (fun _ hk => hk.2) (.int .i64 t340)) (fun _ hk => hk.2) (.int .i64 t341)) (fun _ hk => hk.2) (.int .i64 t342)) (fun _ hk => hk.2) (.slice Ao27 t343.length co27)) (fun _ hk => hk.2) (.slice Ao28 t346.length co28)) (fun _ hk => hk.2) (.slice Ao29 t349.length co29)) (fun _ hk => ⟨hk.1.1.2, ⟨hk.1.2, hk.1.1.1⟩⟩)⟩
       have n6_ : Aside0 (((((((((((w24.setCell ⟨gb353, 0, none⟩ (.int .i64 t336)).setCell ⟨gb353, 1, none⟩ (.int .i64 t337)).setCell ⟨gb353, 2, none⟩ (.int .i64 t338)).setCell ⟨gb353, 3, none⟩ (.int .i64 t339)).setCell ⟨gb353, 4, none⟩ (.int .i64 t340)).setCell ⟨gb353, 5, none⟩ (.int .i64 t341)).setCell ⟨gb353, 6, none⟩ (.int .i64 t342)).setCell ⟨gb353, 7, none⟩ (.slice Ao27 t343.length co27)).setCell ⟨gb353, 8, none⟩ (.slice Ao28 t346.length co28)).setCell ⟨gb353, 9, none⟩ (.slice Ao29 t349.length co29)).heap[gb334]? = some (.cells #[.int .i64 t318, .int .i64 t319, .int .i64 t320, .int .i64 t321, .int .i64 t322, .int .i64 t323, .int .i64 t324, .slice Ao19 t325.length co19, .slice Ao20 t328.length co20, .slice Ao21 t331.length co21] 25 (0, 0))) := ⟨by (with_reducible repeat (first | refine blk_drewN ?_ _ | refine blk_drew ?_ | refine blk_alloc ?_ _)); refine blk_far ?_ NB334_353.out _; (with_reducible repeat (first | refine blk_drewN ?_ _ | refine blk_drew ?_ | refine blk_alloc ?_ _)); refine blk_far ?_ NB334_353.out _; (with_reducible repeat (first | refine blk_drewN ?_ _ | refine blk_drew ?_ | refine blk_alloc ?_ _)); refine blk_far ?_ NB334_353.out _; (with_reducible repeat (first | refine blk_drewN ?_ _ | refine blk_drew ?_ | refine blk_alloc ?_ _)); refine blk_far ?_ NB334_353.out _; (with_reducible repeat (first | refine blk_drewN ?_ _ | refine blk_drew ?_ | refine blk_alloc ?_ _)); refine blk_far ?_ NB334_353.out _; (with_reducible repeat (first | refine blk_drewN ?_ _ | refine blk_drew ?_ | refine blk_alloc ?_ _)); refine blk_far ?_ NB334_353.out _; (with_reducible repeat (first | refine blk_drewN ?_ _ | refine blk_drew ?_ | refine blk_alloc ?_ _)); refine blk_far ?_ NB334_353.out _; (with_reducible repeat (first | refine blk_drewN ?_ _ | refine blk_drew ?_ | refine blk_alloc ?_ _)); refine blk_far ?_ NB334_353.out _; (with_reducible repeat (first | refine blk_drewN ?_ _ | refine blk_drew ?_ | refine blk_alloc ?_ _)); refine blk_far ?_ NB334_353.out _; (with_reducible repeat (first | refine blk_drewN ?_ _ | refine blk_drew ?_ | refine blk_alloc ?_ _)); refine blk_far ?_ NB334_353.out _; (with_reducible repeat (first | refine blk_drewN ?_ _ | refine blk_drew ?_ | refine blk_alloc ?_ _)); exact BK334.out⟩
       have n7_ : Aside0 (((((((((((w24.setCell ⟨gb353, 0, none⟩ (.int .i64 t336)).setCell ⟨gb353, 1, none⟩ (.int .i64 t337)).setCell ⟨gb353, 2, none⟩ (.int .i64 t338)).setCell ⟨gb353, 3, none⟩ (.int .i64 t339)).setCell ⟨gb353, 4, none⟩ (.int .i64 t340)).setCell ⟨gb353, 5, none⟩ (.int .i64 t341)).setCell ⟨gb353, 6, none⟩ (.int .i64 t342)).setCell ⟨gb353, 7, none⟩ (.slice Ao27 t343.length co27)).setCell ⟨gb353, 8, none⟩ (.slice Ao28 t346.length co28)).setCell ⟨gb353, 9, none⟩ (.slice Ao29 t349.length co29)).heap[gb353]? = some (.cells #[.int .i64 t336, .int .i64 t337, .int .i64 t338, .int .i64 t339, .int .i64 t340, .int .i64 t341, .int .i64 t342, .slice Ao27 t343.length co27, .slice Ao28 t346.length co28, .slice Ao29 t349.length co29] 25 (0, 0))) := ⟨by (with_reducible repeat (first | refine blk_drewN ?_ _ | refine blk_drew ?_ | refine blk_alloc ?_ _)); refine blk_put (cs := #[.int .i64 t336, .int .i64 t337, .int .i64 t338, .int .i64 t339, .int .i64 t340, .int .i64 t341, .int .i64 t342, .slice Ao27 t343.length co27, .slice Ao28 t346.length co28, .slice none 0 0]) ?_ 9 _ rfl; (with_reducible repeat (first | refine blk_drewN ?_ _ | refine blk_drew ?_ | refine blk_alloc ?_ _)); refine blk_put (cs := #[.int .i64 t336, .int .i64 t337, .int .i64 t338, .int .i64 t339, .int .i64 t340, .int .i64 t341, .int .i64 t342, .slice Ao27 t343.length co27, .slice none 0 0, .slice none 0 0]) ?_ 8 _ rfl; (with_reducible repeat (first | refine blk_drewN ?_ _ | refine blk_drew ?_ | refine blk_alloc ?_ _)); refine blk_put (cs := #[.int .i64 t336, .int .i64 t337, .int .i64 t338, .int .i64 t339, .int .i64 t340, .int .i64 t341, .int .i64 t342, .slice none 0 0, .slice none 0 0, .slice none 0 0]) ?_ 7 _ rfl; (with_reducible repeat (first | refine blk_drewN ?_ _ | refine blk_drew ?_ | refine blk_alloc ?_ _)); refine blk_put (cs := #[.int .i64 t336, .int .i64 t337, .int .i64 t338, .int .i64 t339, .int .i64 t340, .int .i64 t341, .int .i64 0, .slice none 0 0, .slice none 0 0, .slice none 0 0]) ?_ 6 _ rfl; (with_reducible repeat (first | refine blk_drewN ?_ _ | refine blk_drew ?_ | refine blk_alloc ?_ _)); refine blk_put (cs := #[.int .i64 t336, .int .i64 t337, .int .i64 t338, .int .i64 t339, .int .i64 t340, .int .i64 0, .int .i64 0, .slice none 0 0, .slice none 0 0, .slice none 0 0]) ?_ 5 _ rfl; (with_reducible repeat (first | refine blk_drewN ?_ _ | refine blk_drew ?_ | refine blk_alloc ?_ _)); refine blk_put (cs := #[.int .i64 t336, .int .i64 t337, .int .i64 t338, .int .i64 t339, .int .i64 0, .int .i64 0, .int .i64 0, .slice none 0 0, .slice none 0 0, .slice none 0 0]) ?_ 4 _ rfl; (with_reducible repeat (first | refine blk_drewN ?_ _ | refine blk_drew ?_ | refine blk_alloc ?_ _)); refine blk_put (cs := #[.int .i64 t336, .int .i64 t337, .int .i64 t338, .int .i64 0, .int .i64 0, .int .i64 0, .int .i64 0, .slice none 0 0, .slice none 0 0, .slice none 0 0]) ?_ 3 _ rfl; (with_reducible repeat (first | refine blk_drewN ?_ _ | refine blk_drew ?_ | refine blk_alloc ?_ _)); refine blk_put (cs := #[.int .i64 t336, .int .i64 t337, .int .i64 0, .int .i64 0, .int .i64 0, .int .i64 0, .int .i64 0, .slice none 0 0, .slice none 0 0, .slice none 0 0]) ?_ 2 _ rfl; (with_reducible repeat (first | refine blk_drewN ?_ _ | refine blk_drew ?_ | refine blk_alloc ?_ _)); refine blk_put (cs := #[.int .i64 t336, .int .i64 0, .int .i64 0, .int .i64 0, .int .i64 0, .int .i64 0, .int .i64 0, .slice none 0 0, .slice none 0 0, .slice none 0 0]) ?_ 1 _ rfl; (with_reducible repeat (first | refine blk_drewN ?_ _ | refine blk_drew ?_ | refine blk_alloc ?_ _)); refine blk_put (cs := #[.int .i64 0, .int .i64 0, .int .i64 0, .int .i64 0, .int .i64 0, .int .i64 0, .int .i64 0, .slice none 0 0, .slice none 0 0, .slice none 0 0]) ?_ 0 _ rfl; (with_reducible repeat (first | refine blk_drewN ?_ _ | refine blk_drew ?_ | refine blk_alloc ?_ _)); exact BK353.out⟩
       have n8_ : Aside0 (Below w.heap.size w ((((((((((w24.setCell ⟨gb353, 0, none⟩ (.int .i64 t336)).setCell ⟨gb353, 1, none⟩ (.int .i64 t337)).setCell ⟨gb353, 2, none⟩ (.int .i64 t338)).setCell ⟨gb353, 3, none⟩ (.int .i64 t339)).setCell ⟨gb353, 4, none⟩ (.int .i64 t340)).setCell ⟨gb353, 5, none⟩ (.int .i64 t341)).setCell ⟨gb353, 6, none⟩ (.int .i64 t342)).setCell ⟨gb353, 7, none⟩ (.slice Ao27 t343.length co27)).setCell ⟨gb353, 8, none⟩ (.slice Ao28 t346.length co28)).setCell ⟨gb353, 9, none⟩ (.slice Ao29 t349.length co29))) := ⟨by repeat (first | (with_reducible first | exact HB.out | apply below_alloc | apply pw_below_drewN | apply below_drew1 | refine below_set ?_ GE334.out | refine below_set ?_ GE353.out) | exact HB.out)⟩
       (try clear HO327)
       (try clear HO330)
       (try clear HO333)
       (try clear HO345)
       (try clear HO348)
       (try clear HO351)
       (try clear BK334)
       (try clear BK353)
       (try clear HB)
       generalize ((((((((((w24.setCell ⟨gb353, 0, none⟩ (.int .i64 t336)).setCell ⟨gb353, 1, none⟩ (.int .i64 t337)).setCell ⟨gb353, 2, none⟩ (.int .i64 t338)).setCell ⟨gb353, 3, none⟩ (.int .i64 t339)).setCell ⟨gb353, 4, none⟩ (.int .i64 t340)).setCell ⟨gb353, 5, none⟩ (.int .i64 t341)).setCell ⟨gb353, 6, none⟩ (.int .i64 t342)).setCell ⟨gb353, 7, none⟩ (.slice Ao27 t343.length co27)).setCell ⟨gb353, 8, none⟩ (.slice Ao28 t346.length co28)).setCell ⟨gb353, 9, none⟩ (.slice Ao29 t349.length co29)) = w30 at n0_ n1_ n2_ n3_ n4_ n5_ n6_ n7_ n8_ ⊢
       have HO327 := n0_
       have HO330 := n1_
       have HO333 := n2_
       have HO345 := n3_
       have HO348 := n4_
       have HO351 := n5_
       have BK334 := n6_
       have BK353 := n7_
       have HB := n8_
       clear n0_ n1_ n2_ n3_ n4_ n5_ n6_ n7_ n8_
       have n0_ := Aside0.mk (Kd.R_drew HO327.out)
       have n1_ := Aside0.mk (Kd.R_drew HO330.out)
       have n2_ := Aside0.mk (Kd.R_drew HO333.out)
       have n3_ := Aside0.mk (Kd.R_drew HO345.out)
       have n4_ := Aside0.mk (Kd.R_drew HO348.out)
       have n5_ := Aside0.mk (Kd.R_drew HO351.out)
       have n6_ := Aside0.mk (blk_drew BK334.out)
       have n7_ := Aside0.mk (blk_drew BK353.out)
       have n8_ := Aside0.mk (below_drew1 HB.out)
       clear HO327
       clear HO330
       clear HO333
       clear HO345
       clear HO348
       clear HO351
       clear BK334
       clear BK353
       clear HB
       have HO327 := n0_
       have HO330 := n1_
       have HO333 := n2_
       have HO345 := n3_
       have HO348 := n4_
       have HO351 := n5_
       have BK334 := n6_
       have BK353 := n7_
       have HB := n8_
       clear n0_ n1_ n2_ n3_ n4_ n5_ n6_ n7_ n8_
       refine start_ (n := 35) (S := fun w' => w'.cell? ⟨gb353, 0, none⟩ = some (.int .i64 t336) ∧ w'.cell? ⟨gb353, 1, none⟩ = some (.int .i64 t337) ∧ w'.cell? ⟨gb353, 2, none⟩ = some (.int .i64 t338) ∧ w'.cell? ⟨gb353, 3, none⟩ = some (.int .i64 t339) ∧ w'.cell? ⟨gb353, 4, none⟩ = some (.int .i64 t340) ∧ w'.cell? ⟨gb353, 5, none⟩ = some (.int .i64 t341) ∧ w'.cell? ⟨gb353, 6, none⟩ = some (.int .i64 t342) ∧ w'.cell? ⟨gb353, 7, none⟩ = some (.slice Ao27 t343.length co27) ∧ w'.cell? ⟨gb353, 8, none⟩ = some (.slice Ao28 t346.length co28) ∧ w'.cell? ⟨gb353, 9, none⟩ = some (.slice Ao29 t349.length co29) ∧ w'.cell? ⟨gb334, 0, none⟩ = some (.int .i64 t318) ∧ w'.cell? ⟨gb334, 1, none⟩ = some (.int .i64 t319) ∧ w'.cell? ⟨gb334, 2, none⟩ = some (.int .i64 t320) ∧ w'.cell? ⟨gb334, 3, none⟩ = some (.int .i64 t321) ∧ w'.cell? ⟨gb334, 4, none⟩ = some (.int .i64 t322) ∧ w'.cell? ⟨gb334, 5, none⟩ = some (.int .i64 t323) ∧ w'.cell? ⟨gb334, 6, none⟩ = some (.int .i64 t324) ∧ w'.cell? ⟨gb334, 7, none⟩ = some (.slice Ao19 t325.length co19) ∧ w'.cell? ⟨gb334, 8, none⟩ = some (.slice Ao20 t328.length co20) ∧ w'.cell? ⟨gb334, 9, none⟩ = some (.slice Ao21 t331.length co21)) (ds := []) (Lib.tr [0, 35]) (by kernel_rfl) rfl rfl ⟨(blk_cell BK353.out 0).trans rfl, (blk_cell BK353.out 1).trans rfl, (blk_cell BK353.out 2).trans rfl, (blk_cell BK353.out 3).trans rfl, (blk_cell BK353.out 4).trans rfl, (blk_cell BK353.out 5).trans rfl, (blk_cell BK353.out 6).trans rfl, (blk_cell BK353.out 7).trans rfl, (blk_cell BK353.out 8).trans rfl, (blk_cell BK353.out 9).trans rfl, (blk_cell BK334.out 0).trans rfl, (blk_cell BK334.out 1).trans rfl, (blk_cell BK334.out 2).trans rfl, (blk_cell BK334.out 3).trans rfl, (blk_cell BK334.out 4).trans rfl, (blk_cell BK334.out 5).trans rfl, (blk_cell BK334.out 6).trans rfl, (blk_cell BK334.out 7).trans rfl, (blk_cell BK334.out 8).trans rfl, (blk_cell BK334.out 9).trans rfl⟩ (fun hHeld => ?_); refine with_tabW laws_FnInodes.tab5 laws_FnInodes.bits5 (fun HT_ HW_ => ?_)
       generalize w30.drew = w31 at HO327 HO330 HO333 HO345 HO348 HO351 BK334 BK353 HB hHeld ⊢
       refine Lib.pa ?_ 0 17 [1, 34] HT_ rfl rfl (by kernel_rfl) (fun _ _ _ h => h) (by rfl) ?_ ?_ ?_ ?_; rotate_left; (· intro w'; go_simp; with_reducible rfl); rotate_left; (· simp only [Lib.pw, Lib.px, Lib.py, i64_w, i32_w]; rfl)
       refine Lib.pa ?_ 1 18 [2, 33] HT_ rfl rfl (by kernel_rfl) (fun _ _ _ h => h) (by rfl) ?_ ?_ ?_ ?_; rotate_left; (· intro w'; go_simp; with_reducible rfl); rotate_left; (· simp only [Lib.pw, Lib.px, Lib.py, i64_w, i32_w]; rfl)
       refine Lib.pt ?_ 2 19 [3, 32] HT_ HW_ rfl rfl (by kernel_rfl) (fun _ _ _ h => h) (by rfl) ?_ hHeld ?_ ?_ ?_; rotate_left; (· rintro w' ⟨s0, s1, s2, s3, s4, s5, s6, s7, s8, s9, s10, s11, s12, s13, s14, s15, s16, s17, s18, s19⟩; go_simp; with_reducible rfl); rotate_left; (· simp only [Lib.pw, Lib.px, Lib.py, i64_w, i32_w]; rfl)
       refine Lib.pt ?_ 3 20 [4, 31] HT_ HW_ rfl rfl (by kernel_rfl) (fun _ _ _ h => h) (by rfl) ?_ hHeld ?_ ?_ ?_; rotate_left; (· rintro w' ⟨s0, s1, s2, s3, s4, s5, s6, s7, s8, s9, s10, s11, s12, s13, s14, s15, s16, s17, s18, s19⟩; go_simp; with_reducible rfl); rotate_left; (· simp only [Lib.pw, Lib.px, Lib.py, i64_w, i32_w]; rfl)
       refine one_ (i := 4) (N := some 21) (Lib.tr [5, 30]) rfl rfl (one_of HT_.out (by kernel_rfl)) (by decide) (fun K hK => ?_)
       refine goes_ Try.func36 (by kernel_rfl) rfl #[.agg #[.int .i64 t336, .int .i64 t337, .int .i64 t338, .int .i64 t339, .int .i64 t340, .int .i64 t341, .int .i64 t342, .slice Ao27 t343.length co27, .slice Ao28 t346.length co28, .slice Ao29 t349.length co29], .agg #[.int .i64 t318, .int .i64 t319, .int .i64 t320, .int .i64 t321, .int .i64 t322, .int .i64 t323, .int .i64 t324, .slice Ao19 t325.length co19, .slice Ao20 t328.length co20, .slice Ao21 t331.length co21]] (by rfl) rfl rfl (by (try simp only [List.map_toArray, List.map_cons, List.map_nil]); first | done | rfl | (simp only [List.length_drop, List.length_take]; rfl)) ?_
       with_reducible refine (impl_SameInode.calls k t336 t337 t338 t339 t340 t341 t342 _ _ t343 _ _ t346 _ _ t349 t318 t319 t320 t321 t322 t323 t324 _ _ t325 _ _ t328 _ _ t331 true _ ?side1 ?side2 ?side3 ?side4 ?side5 ?side6 ?side7 ?side8 ?side9 ?side10 ?side11 ?side12 A7.out).mono ?_
       (case side1 => repeat (first | exact (Kd.R_reads' HO345.out).2.2 | (with_reducible refine Kd.C_alloc ?_ _) | (with_reducible refine Kd.C_drewN ?_ _) | (with_reducible refine Kd.C_drew ?_)))
       (case side2 => exact (Kd.R_reads' HO345.out).2.1)
       (case side3 => repeat (first | exact (Kd.R_reads' HO348.out).2.2 | (with_reducible refine Kd.C_alloc ?_ _) | (with_reducible refine Kd.C_drewN ?_ _) | (with_reducible refine Kd.C_drew ?_)))
       (case side4 => exact (Kd.R_reads' HO348.out).2.1)
       (case side5 => repeat (first | exact (Kd.R_reads' HO351.out).2.2 | (with_reducible refine Kd.C_alloc ?_ _) | (with_reducible refine Kd.C_drewN ?_ _) | (with_reducible refine Kd.C_drew ?_)))
       (case side6 => exact (Kd.R_reads' HO351.out).2.1)
       (case side7 => repeat (first | exact (Kd.R_reads' HO327.out).2.2 | (with_reducible refine Kd.C_alloc ?_ _) | (with_reducible refine Kd.C_drewN ?_ _) | (with_reducible refine Kd.C_drew ?_)))
       (case side8 => exact (Kd.R_reads' HO327.out).2.1)
       (case side9 => repeat (first | exact (Kd.R_reads' HO330.out).2.2 | (with_reducible refine Kd.C_alloc ?_ _) | (with_reducible refine Kd.C_drewN ?_ _) | (with_reducible refine Kd.C_drew ?_)))
       (case side10 => exact (Kd.R_reads' HO330.out).2.1)
       (case side11 => repeat (first | exact (Kd.R_reads' HO333.out).2.2 | (with_reducible refine Kd.C_alloc ?_ _) | (with_reducible refine Kd.C_drewN ?_ _) | (with_reducible refine Kd.C_drew ?_)))
       (case side12 => exact (Kd.R_reads' HO333.out).2.1)
       rintro e w32 ⟨rfl, hb⟩
       refine ⟨_, rfl, ?_⟩
       have n0_ := Aside0.mk (Kd.R_below (by exact Lib.cr HO327.out) hb)
       have n1_ := Aside0.mk (Kd.R_below (by exact Lib.cr HO330.out) hb)
       have n2_ := Aside0.mk (Kd.R_below (by exact Lib.cr HO333.out) hb)
       have n3_ := Aside0.mk (Kd.R_below (by exact Lib.cr HO345.out) hb)
       have n4_ := Aside0.mk (Kd.R_below (by exact Lib.cr HO348.out) hb)
       have n5_ := Aside0.mk (Kd.R_below (by exact Lib.cr HO351.out) hb)
       have n6_ := Aside0.mk (blk_below (g := gb334) (o := .cells #[.int .i64 t318, .int .i64 t319, .int .i64 t320, .int .i64 t321, .int .i64 t322, .int .i64 t323, .int .i64 t324, .slice Ao19 t325.length co19, .slice Ao20 t328.length co20, .slice Ao21 t331.length co21] 25 (0, 0)) (by exact Lib.bk BK334.out) hb)
       have n7_ := Aside0.mk (blk_below (g := gb353) (o := .cells #[.int .i64 t336, .int .i64 t337, .int .i64 t338, .int .i64 t339, .int .i64 t340, .int .i64 t341, .int .i64 t342, .slice Ao27 t343.length co27, .slice Ao28 t346.length co28, .slice Ao29 t349.length co29] 25 (0, 0)) (by exact Lib.bk BK353.out) hb)
       have n8_ := Aside0.mk (below_step (by repeat (first | (with_reducible first | exact HB.out | apply below_alloc | apply pw_below_drewN | apply below_drew1 | refine below_set ?_ GE334.out | refine below_set ?_ GE353.out) | exact HB.out)) hb)
       clear HO327
       clear HO330
       clear HO333
       clear HO345
       clear HO348
       clear HO351
       clear BK334
       clear BK353
       clear HB
       have HO327 := n0_
       have HO330 := n1_
       have HO333 := n2_
       have HO345 := n3_
       have HO348 := n4_
       have HO351 := n5_
       have BK334 := n6_
       have BK353 := n7_
       have HB := n8_
       clear n0_ n1_ n2_ n3_ n4_ n5_ n6_ n7_ n8_
       (try clear hb)
       (try clear hb2)
       (try clear hk)
       (try clear hi)
       refine hK.out _ _ ⟨(blk_cell BK353.out 0).trans rfl, (blk_cell BK353.out 1).trans rfl, (blk_cell BK353.out 2).trans rfl, (blk_cell BK353.out 3).trans rfl, (blk_cell BK353.out 4).trans rfl, (blk_cell BK353.out 5).trans rfl, (blk_cell BK353.out 6).trans rfl, (blk_cell BK353.out 7).trans rfl, (blk_cell BK353.out 8).trans rfl, (blk_cell BK353.out 9).trans rfl, (blk_cell BK334.out 0).trans rfl, (blk_cell BK334.out 1).trans rfl, (blk_cell BK334.out 2).trans rfl, (blk_cell BK334.out 3).trans rfl, (blk_cell BK334.out 4).trans rfl, (blk_cell BK334.out 5).trans rfl, (blk_cell BK334.out 6).trans rfl, (blk_cell BK334.out 7).trans rfl, (blk_cell BK334.out 8).trans rfl, (blk_cell BK334.out 9).trans rfl⟩ (fun hHeld => ?_)
       clear hK K
       refine norm_ (a' := ?_) ?_ ?_
       rotate_left
       ·
        show Act.put _ (some 21) _ = _
        simp only [Lib.pw, Lib.px, Lib.py, i64_w, i32_w]
        rfl
       refine Lib.pa ?_ 5 22 [6, 29] HT_ rfl rfl (by kernel_rfl) (fun _ _ _ h => h) (by rfl) ?_ ?_ ?_ ?_; rotate_left; (· intro w'; go_simp; with_reducible rfl); rotate_left; (· simp only [Lib.pw, Lib.px, Lib.py, i64_w, i32_w]; rfl)
       refine Lib.pa ?_ 6 23 [7, 28] HT_ rfl rfl (by kernel_rfl) (fun _ _ _ h => h) (by rfl) ?_ ?_ ?_ ?_; rotate_left; (· intro w'; go_simp; with_reducible rfl); rotate_left; (· simp only [Lib.pw, Lib.px, Lib.py, i64_w, i32_w]; rfl)
       refine Lib.pt ?_ 7 24 [8, 27] HT_ HW_ rfl rfl (by kernel_rfl) (fun _ _ _ h => h) (by rfl) ?_ hHeld ?_ ?_ ?_; rotate_left; (· rintro w' ⟨s0, s1, s2, s3, s4, s5, s6, s7, s8, s9, s10, s11, s12, s13, s14, s15, s16, s17, s18, s19⟩; go_simp; with_reducible rfl); rotate_left; (· simp only [Lib.pw, Lib.px, Lib.py, i64_w, i32_w]; rfl)
       refine one_ (i := 8) (N := some 25) (Lib.tr [9, 26]) rfl rfl (one_of HT_.out (by kernel_rfl)) (by decide) (fun K hK => ?_)
       refine goes_ Try.func37 (by kernel_rfl) rfl #[.agg #[.int .i64 t318, .int .i64 t319, .int .i64 t320, .int .i64 t321, .int .i64 t322, .int .i64 t323, .int .i64 t324, .slice Ao19 t325.length co19, .slice Ao20 t328.length co20, .slice Ao21 t331.length co21]] (by rfl) rfl rfl (by (try simp only [List.map_toArray, List.map_cons, List.map_nil]); first | done | rfl | (simp only [List.length_drop, List.length_take]; rfl)) ?_
       with_reducible refine (impl_IsInode.calls k t318 t319 t320 t321 t322 t323 t324 _ _ t325 _ _ t328 _ _ t331 true _ ?side1 ?side2 ?side3 ?side4 ?side5 ?side6 A9.out).mono ?_
       (case side1 => repeat (first | exact (Kd.R_reads' HO327.out).2.2 | (with_reducible refine Kd.C_alloc ?_ _) | (with_reducible refine Kd.C_drewN ?_ _) | (with_reducible refine Kd.C_drew ?_)))
       (case side2 => exact (Kd.R_reads' HO327.out).2.1)
       (case side3 => repeat (first | exact (Kd.R_reads' HO330.out).2.2 | (with_reducible refine Kd.C_alloc ?_ _) | (with_reducible refine Kd.C_drewN ?_ _) | (with_reducible refine Kd.C_drew ?_)))
       (case side4 => exact (Kd.R_reads' HO330.out).2.1)
       (case side5 => repeat (first | exact (Kd.R_reads' HO333.out).2.2 | (with_reducible refine Kd.C_alloc ?_ _) | (with_reducible refine Kd.C_drewN ?_ _) | (with_reducible refine Kd.C_drew ?_)))
       (case side6 => exact (Kd.R_reads' HO333.out).2.1)
       rintro e w33 ⟨rfl, hb⟩
       refine ⟨_, rfl, ?_⟩
       have n0_ := Aside0.mk (Kd.R_below (by exact Lib.cr HO327.out) hb)
       have n1_ := Aside0.mk (Kd.R_below (by exact Lib.cr HO330.out) hb)
       have n2_ := Aside0.mk (Kd.R_below (by exact Lib.cr HO333.out) hb)
       have n3_ := Aside0.mk (Kd.R_below (by exact Lib.cr HO345.out) hb)
       have n4_ := Aside0.mk (Kd.R_below (by exact Lib.cr HO348.out) hb)
       have n5_ := Aside0.mk (Kd.R_below (by exact Lib.cr HO351.out) hb)
       have n6_ := Aside0.mk (blk_below (g := gb334) (o := .cells #[.int .i64 t318, .int .i64 t319, .int .i64 t320, .int .i64 t321, .int .i64 t322, .int .i64 t323, .int .i64 t324, .slice Ao19 t325.length co19, .slice Ao20 t328.length co20, .slice Ao21 t331.length co21] 25 (0, 0)) (by exact Lib.bk BK334.out) hb)
       have n7_ := Aside0.mk (blk_below (g := gb353) (o := .cells #[.int .i64 t336, .int .i64 t337, .int .i64 t338, .int .i64 t339, .int .i64 t340, .int .i64 t341, .int .i64 t342, .slice Ao27 t343.length co27, .slice Ao28 t346.length co28, .slice Ao29 t349.length co29] 25 (0, 0)) (by exact Lib.bk BK353.out) hb)
       have n8_ := Aside0.mk (below_step (by repeat (first | (with_reducible first | exact HB.out | apply below_alloc | apply pw_below_drewN | apply below_drew1 | refine below_set ?_ GE334.out | refine below_set ?_ GE353.out) | exact HB.out)) hb)
       clear HO327
       clear HO330
       clear HO333
       clear HO345
       clear HO348
       clear HO351
       clear BK334
       clear BK353
       clear HB
       have HO327 := n0_
       have HO330 := n1_
       have HO333 := n2_
       have HO345 := n3_
       have HO348 := n4_
       have HO351 := n5_
       have BK334 := n6_
       have BK353 := n7_
       have HB := n8_
       clear n0_ n1_ n2_ n3_ n4_ n5_ n6_ n7_ n8_
       (try clear hb)
       (try clear hb2)
       (try clear hk)
       (try clear hi)
       refine hK.out _ _ ⟨(blk_cell BK353.out 0).trans rfl, (blk_cell BK353.out 1).trans rfl, (blk_cell BK353.out 2).trans rfl, (blk_cell BK353.out 3).trans rfl, (blk_cell BK353.out 4).trans rfl, (blk_cell BK353.out 5).trans rfl, (blk_cell BK353.out 6).trans rfl, (blk_cell BK353.out 7).trans rfl, (blk_cell BK353.out 8).trans rfl, (blk_cell BK353.out 9).trans rfl, (blk_cell BK334.out 0).trans rfl, (blk_cell BK334.out 1).trans rfl, (blk_cell BK334.out 2).trans rfl, (blk_cell BK334.out 3).trans rfl, (blk_cell BK334.out 4).trans rfl, (blk_cell BK334.out 5).trans rfl, (blk_cell BK334.out 6).trans rfl, (blk_cell BK334.out 7).trans rfl, (blk_cell BK334.out 8).trans rfl, (blk_cell BK334.out 9).trans rfl⟩ (fun hHeld => ?_)
       clear hK K
       refine norm_ (a' := ?_) ?_ ?_
       rotate_left
       ·
        show Act.put _ (some 25) _ = _
        simp only [Lib.pw, Lib.px, Lib.py, i64_w, i32_w]
        rfl
       refine Lib.pa ?_ 9 26 [10, 25] HT_ rfl rfl (by kernel_rfl) (fun _ _ _ h => h) (by rfl) ?_ ?_ ?_ ?_; rotate_left; (· intro w'; go_simp; with_reducible rfl); rotate_left; (· simp only [Lib.pw, Lib.px, Lib.py, i64_w, i32_w]; rfl)
       refine Lib.pa ?_ 10 27 [11, 24] HT_ rfl rfl (by kernel_rfl) (fun _ _ _ h => h) (by rfl) ?_ ?_ ?_ ?_; rotate_left; (· intro w'; go_simp; with_reducible rfl); rotate_left; (· simp only [Lib.pw, Lib.px, Lib.py, i64_w, i32_w]; rfl)
       refine Lib.pt ?_ 11 28 [12, 23] HT_ HW_ rfl rfl (by kernel_rfl) (fun _ _ _ h => h) (by rfl) ?_ hHeld ?_ ?_ ?_; rotate_left; (· rintro w' ⟨s0, s1, s2, s3, s4, s5, s6, s7, s8, s9, s10, s11, s12, s13, s14, s15, s16, s17, s18, s19⟩; go_simp; with_reducible rfl); rotate_left; (· simp only [Lib.pw, Lib.px, Lib.py, i64_w, i32_w]; rfl)
       refine one_ (i := 12) (N := some 29) (Lib.tr [13, 22]) rfl rfl (one_of HT_.out (by kernel_rfl)) (by decide) (fun K hK => ?_)
       refine goes_ Try.func35 (by kernel_rfl) rfl #[.agg #[.int .i64 t318, .int .i64 t319, .int .i64 t320, .int .i64 t321, .int .i64 t322, .int .i64 t323, .int .i64 t324, .slice Ao19 t325.length co19, .slice Ao20 t328.length co20, .slice Ao21 t331.length co21]] (by rfl) rfl rfl (by (try simp only [List.map_toArray, List.map_cons, List.map_nil]); first | done | rfl | (simp only [List.length_drop, List.length_take]; rfl)) ?_
       with_reducible refine (impl_PackInode.calls k t318 t319 t320 t321 t322 t323 t324 _ _ t325 _ _ t328 _ _ t331 t356 _ ?side1 ?side2 ?side3 ?side4 ?side5 ?side6 A11.out).mono ?_
       (case side1 => repeat (first | exact (Kd.R_reads' HO327.out).2.2 | (with_reducible refine Kd.C_alloc ?_ _) | (with_reducible refine Kd.C_drewN ?_ _) | (with_reducible refine Kd.C_drew ?_)))
       (case side2 => exact (Kd.R_reads' HO327.out).2.1)
       (case side3 => repeat (first | exact (Kd.R_reads' HO330.out).2.2 | (with_reducible refine Kd.C_alloc ?_ _) | (with_reducible refine Kd.C_drewN ?_ _) | (with_reducible refine Kd.C_drew ?_)))
       (case side4 => exact (Kd.R_reads' HO330.out).2.1)
       (case side5 => repeat (first | exact (Kd.R_reads' HO333.out).2.2 | (with_reducible refine Kd.C_alloc ?_ _) | (with_reducible refine Kd.C_drewN ?_ _) | (with_reducible refine Kd.C_drew ?_)))
       (case side6 => exact (Kd.R_reads' HO333.out).2.1)
       rintro e w34 ⟨rfl, hb⟩
       refine ⟨_, rfl, ?_⟩
       have n0_ := Aside0.mk (Kd.R_below (by exact Lib.cr HO327.out) hb)
       have n1_ := Aside0.mk (Kd.R_below (by exact Lib.cr HO330.out) hb)
       have n2_ := Aside0.mk (Kd.R_below (by exact Lib.cr HO333.out) hb)
       have n3_ := Aside0.mk (Kd.R_below (by exact Lib.cr HO345.out) hb)
       have n4_ := Aside0.mk (Kd.R_below (by exact Lib.cr HO348.out) hb)
       have n5_ := Aside0.mk (Kd.R_below (by exact Lib.cr HO351.out) hb)
       have n6_ := Aside0.mk (blk_below (g := gb334) (o := .cells #[.int .i64 t318, .int .i64 t319, .int .i64 t320, .int .i64 t321, .int .i64 t322, .int .i64 t323, .int .i64 t324, .slice Ao19 t325.length co19, .slice Ao20 t328.length co20, .slice Ao21 t331.length co21] 25 (0, 0)) (by exact Lib.bk BK334.out) hb)
       have n7_ := Aside0.mk (blk_below (g := gb353) (o := .cells #[.int .i64 t336, .int .i64 t337, .int .i64 t338, .int .i64 t339, .int .i64 t340, .int .i64 t341, .int .i64 t342, .slice Ao27 t343.length co27, .slice Ao28 t346.length co28, .slice Ao29 t349.length co29] 25 (0, 0)) (by exact Lib.bk BK353.out) hb)
       have n8_ := Aside0.mk (below_step (by repeat (first | (with_reducible first | exact HB.out | apply below_alloc | apply pw_below_drewN | apply below_drew1 | refine below_set ?_ GE334.out | refine below_set ?_ GE353.out) | exact HB.out)) hb)
       clear HO327
       clear HO330
       clear HO333
       clear HO345
       clear HO348
       clear HO351
       clear BK334
       clear BK353
       clear HB
       have HO327 := n0_
       have HO330 := n1_
       have HO333 := n2_
       have HO345 := n3_
       have HO348 := n4_
       have HO351 := n5_
       have BK334 := n6_
       have BK353 := n7_
       have HB := n8_
       clear n0_ n1_ n2_ n3_ n4_ n5_ n6_ n7_ n8_
       (try clear hb)
       (try clear hb2)
       (try clear hk)
       (try clear hi)
       refine hK.out _ _ ⟨(blk_cell BK353.out 0).trans rfl, (blk_cell BK353.out 1).trans rfl, (blk_cell BK353.out 2).trans rfl, (blk_cell BK353.out 3).trans rfl, (blk_cell BK353.out 4).trans rfl, (blk_cell BK353.out 5).trans rfl, (blk_cell BK353.out 6).trans rfl, (blk_cell BK353.out 7).trans rfl, (blk_cell BK353.out 8).trans rfl, (blk_cell BK353.out 9).trans rfl, (blk_cell BK334.out 0).trans rfl, (blk_cell BK334.out 1).trans rfl, (blk_cell BK334.out 2).trans rfl, (blk_cell BK334.out 3).trans rfl, (blk_cell BK334.out 4).trans rfl, (blk_cell BK334.out 5).trans rfl, (blk_cell BK334.out 6).trans rfl, (blk_cell BK334.out 7).trans rfl, (blk_cell BK334.out 8).trans rfl, (blk_cell BK334.out 9).trans rfl⟩ (fun hHeld => ?_)
       clear hK K
       refine norm_ (a' := ?_) ?_ ?_
       rotate_left
       ·
        show Act.put _ (some 29) _ = _
        simp only [Lib.pw, Lib.px, Lib.py, i64_w, i32_w]
        rfl
       refine Lib.pa ?_ 13 30 [14, 21] HT_ rfl rfl (by kernel_rfl) (fun _ _ _ h => h) (by rfl) ?_ ?_ ?_ ?_; rotate_left; (· intro w'; go_simp; with_reducible rfl); rotate_left; (· simp only [Lib.pw, Lib.px, Lib.py, i64_w, i32_w]; rfl)
       refine Lib.pa ?_ 14 31 [15, 20] HT_ rfl rfl (by kernel_rfl) (fun _ _ _ h => h) (by rfl) ?_ ?_ ?_ ?_; rotate_left; (· intro w'; go_simp; with_reducible rfl); rotate_left; (· simp only [Lib.pw, Lib.px, Lib.py, i64_w, i32_w]; rfl)
       refine Lib.pa ?_ 15 32 [16, 19] HT_ rfl rfl (by kernel_rfl) (fun _ _ _ h => h) (by rfl) ?_ ?_ ?_ ?_; rotate_left; (· intro w'; go_simp; with_reducible rfl); rotate_left; (· simp only [Lib.pw, Lib.px, Lib.py, i64_w, i32_w]; rfl)
       refine Lib.pa ?_ 16 33 [17, 18] HT_ rfl rfl (by kernel_rfl) (fun _ _ _ h => h) (by rfl) ?_ ?_ ?_ ?_; rotate_left; (· intro w'; go_simp; with_reducible rfl); rotate_left; (· simp only [Lib.pw, Lib.px, Lib.py, i64_w, i32_w]; rfl)
       refine Lib.pa ?_ 20 37 [17, 3, 1, 14] HT_ rfl rfl (by kernel_rfl) (fun _ _ _ h => h) (by rfl) ?_ ?_ ?_ ?_; rotate_left; (· intro w'; go_simp; with_reducible rfl); rotate_left; (· simp only [Lib.pw, Lib.px, Lib.py, i64_w, i32_w]; rfl)
       refine Lib.pt ?_ 17 34 [18, 2, 1, 14] HT_ HW_ rfl rfl (by kernel_rfl) (fun _ _ _ h => h) (by rfl) ?_ hHeld ?_ ?_ ?_; rotate_left; (· rintro w' ⟨s0, s1, s2, s3, s4, s5, s6, s7, s8, s9, s10, s11, s12, s13, s14, s15, s16, s17, s18, s19⟩; go_simp; with_reducible rfl); rotate_left; (· simp only [Lib.pw, Lib.px, Lib.py, i64_w, i32_w]; rfl)
       refine Lib.pt ?_ 21 38 [18, 2, 2, 13] HT_ HW_ rfl rfl (by kernel_rfl) (fun _ _ _ h => h) (by rfl) ?_ hHeld ?_ ?_ ?_; rotate_left; (· rintro w' ⟨s0, s1, s2, s3, s4, s5, s6, s7, s8, s9, s10, s11, s12, s13, s14, s15, s16, s17, s18, s19⟩; go_simp; with_reducible rfl); rotate_left; (· simp only [Lib.pw, Lib.px, Lib.py, i64_w, i32_w]; rfl)
       refine Lib.pa ?_ 22 39 [18, 2, 3, 12] HT_ rfl rfl (by kernel_rfl) (fun _ _ _ h => h) (by rfl) ?_ ?_ ?_ ?_; rotate_left; (· intro w'; go_simp; with_reducible rfl); rotate_left; (· simp only [Lib.pw, Lib.px, Lib.py, i64_w, i32_w]; rfl)
       refine one_ (i := 18) (N := some 35) (Lib.tr [19, 1, 3, 12]) rfl rfl (one_of HT_.out (by kernel_rfl)) (by decide) (fun K hK => ?_)
       refine goes_ Try.func38 (by kernel_rfl) rfl #[.agg #[.int .i64 t318, .int .i64 t319, .int .i64 t320, .int .i64 t321, .int .i64 t322, .int .i64 t323, .int .i64 t324, .slice Ao19 t325.length co19, .slice Ao20 t328.length co20, .slice Ao21 t331.length co21]] (by rfl) rfl rfl (by (try simp only [List.map_toArray, List.map_cons, List.map_nil]); first | done | rfl | (simp only [List.length_drop, List.length_take]; rfl)) ?_
       with_reducible refine (impl_UsedBlocks.calls k t318 t319 t320 t321 t322 t323 t324 _ _ t325 _ _ t328 _ _ t331 t357 _ ?side1 ?side2 ?side3 ?side4 ?side5 ?side6 A13.out).mono ?_
       (case side1 => repeat (first | exact (Kd.R_reads' HO327.out).2.2 | (with_reducible refine Kd.C_alloc ?_ _) | (with_reducible refine Kd.C_drewN ?_ _) | (with_reducible refine Kd.C_drew ?_)))
       (case side2 => exact (Kd.R_reads' HO327.out).2.1)
       (case side3 => repeat (first | exact (Kd.R_reads' HO330.out).2.2 | (with_reducible refine Kd.C_alloc ?_ _) | (with_reducible refine Kd.C_drewN ?_ _) | (with_reducible refine Kd.C_drew ?_)))
       (case side4 => exact (Kd.R_reads' HO330.out).2.1)
       (case side5 => repeat (first | exact (Kd.R_reads' HO333.out).2.2 | (with_reducible refine Kd.C_alloc ?_ _) | (with_reducible refine Kd.C_drewN ?_ _) | (with_reducible refine Kd.C_drew ?_)))
       (case side6 => exact (Kd.R_reads' HO333.out).2.1)
       rintro e w35 ⟨v358, rfl, ho0, hb⟩
       refine ⟨_, rfl, ?_⟩
       have n0_ := Aside0.mk (Kd.R_elder' (by exact Lib.cr HO327.out) (Kd.R_base ho0) hb)
       have n1_ := Aside0.mk (Kd.R_below (by exact Lib.cr HO330.out) hb)
       have n2_ := Aside0.mk (Kd.R_below (by exact Lib.cr HO333.out) hb)
       have n3_ := Aside0.mk (Kd.R_elder' (by exact Lib.cr HO345.out) (Kd.R_base ho0) hb)
       have n4_ := Aside0.mk (Kd.R_below (by exact Lib.cr HO348.out) hb)
       have n5_ := Aside0.mk (Kd.R_below (by exact Lib.cr HO351.out) hb)
       have n6_ := Aside0.mk (Kd.R_lower (Kd.R_new' (Kd.R_new' ho0 (Kd.R_lt (by exact Lib.cr HO327.out))) (Kd.R_lt (by exact Lib.cr HO345.out))) (below_size (by repeat (first | (with_reducible first | exact HB.out | apply below_alloc | apply pw_below_drewN | apply below_drew1 | refine below_set ?_ GE334.out | refine below_set ?_ GE353.out) | exact HB.out))))
       have n7_ := Aside0.mk (blk_below (g := gb334) (o := .cells #[.int .i64 t318, .int .i64 t319, .int .i64 t320, .int .i64 t321, .int .i64 t322, .int .i64 t323, .int .i64 t324, .slice Ao19 t325.length co19, .slice Ao20 t328.length co20, .slice Ao21 t331.length co21] 25 (0, 0)) (by exact Lib.bk BK334.out) hb)
       have n8_ := Aside0.mk (blk_below (g := gb353) (o := .cells #[.int .i64 t336, .int .i64 t337, .int .i64 t338, .int .i64 t339, .int .i64 t340, .int .i64 t341, .int .i64 t342, .slice Ao27 t343.length co27, .slice Ao28 t346.length co28, .slice Ao29 t349.length co29] 25 (0, 0)) (by exact Lib.bk BK353.out) hb)
       have n9_ := Aside0.mk (below_step (by repeat (first | (with_reducible first | exact HB.out | apply below_alloc | apply pw_below_drewN | apply below_drew1 | refine below_set ?_ GE334.out | refine below_set ?_ GE353.out) | exact HB.out)) hb)
       clear HO327
       clear HO330
       clear HO333
       clear HO345
       clear HO348
       clear HO351
       clear BK334
       clear BK353
       clear HB
       have HO327 := n0_
       have HO330 := n1_
       have HO333 := n2_
       have HO345 := n3_
       have HO348 := n4_
       have HO351 := n5_
       have HO359 := n6_
       have BK334 := n7_
       have BK353 := n8_
       have HB := n9_
       clear n0_ n1_ n2_ n3_ n4_ n5_ n6_ n7_ n8_ n9_
       (try clear hb)
       (try clear hb2)
       (try clear hk)
       (try clear hi)
       (try clear ho0)
       obtain ⟨Ao36, co36, eo36⟩ := Kd.R_slice HO359.out
       (first | subst eo36 | (injection eo36 with f1_ f2_ f3_; have f4_ := f1_.symm; have f5_ := f3_.symm; clear f1_ f2_ f3_; subst f4_; subst f5_))
       refine hK.out _ _ ⟨(blk_cell BK353.out 0).trans rfl, (blk_cell BK353.out 1).trans rfl, (blk_cell BK353.out 2).trans rfl, (blk_cell BK353.out 3).trans rfl, (blk_cell BK353.out 4).trans rfl, (blk_cell BK353.out 5).trans rfl, (blk_cell BK353.out 6).trans rfl, (blk_cell BK353.out 7).trans rfl, (blk_cell BK353.out 8).trans rfl, (blk_cell BK353.out 9).trans rfl, (blk_cell BK334.out 0).trans rfl, (blk_cell BK334.out 1).trans rfl, (blk_cell BK334.out 2).trans rfl, (blk_cell BK334.out 3).trans rfl, (blk_cell BK334.out 4).trans rfl, (blk_cell BK334.out 5).trans rfl, (blk_cell BK334.out 6).trans rfl, (blk_cell BK334.out 7).trans rfl, (blk_cell BK334.out 8).trans rfl, (blk_cell BK334.out 9).trans rfl⟩ (fun hHeld => ?_)
       clear hK K
       refine norm_ (a' := ?_) ?_ ?_
       rotate_left
       ·
        show Act.put _ (some 35) _ = _
        simp only [Lib.pw, Lib.px, Lib.py, i64_w, i32_w]
        rfl
       refine Lib.pa ?_ 19 36 [23, 12] HT_ rfl rfl (by kernel_rfl) (fun _ _ _ h => h) (by rfl) ?_ ?_ ?_ ?_; rotate_left; (· intro w'; go_simp; with_reducible rfl); rotate_left; (· simp only [Lib.pw, Lib.px, Lib.py, i64_w, i32_w]; rfl)
       refine Lib.pa ?_ 23 40 [24, 11] HT_ rfl rfl (by kernel_rfl) (fun _ _ _ h => h) (by rfl) ?_ ?_ ?_ ?_; rotate_left; (· intro w'; go_simp; with_reducible rfl); rotate_left; (· simp only [Lib.pw, Lib.px, Lib.py, i64_w, i32_w]; rfl)
       refine Lib.pa ?_ 24 41 [25, 10] HT_ rfl rfl (by kernel_rfl) (fun _ _ _ h => h) (by rfl) ?_ ?_ ?_ ?_; rotate_left; (· intro w'; go_simp; with_reducible rfl); rotate_left; (· simp only [Lib.pw, Lib.px, Lib.py, i64_w, i32_w]; rfl)
       refine Lib.pa ?_ 25 42 [26, 9] HT_ rfl rfl (by kernel_rfl) (fun _ _ _ h => h) (by rfl) ?_ ?_ ?_ ?_; rotate_left; (· intro w'; go_simp; with_reducible rfl); rotate_left; (· simp only [Lib.pw, Lib.px, Lib.py, i64_w, i32_w]; rfl)
       refine Lib.pa ?_ 26 43 [27, 8] HT_ rfl rfl (by kernel_rfl) (fun _ _ _ h => h) (by rfl) ?_ ?_ ?_ ?_; rotate_left; (· intro w'; go_simp; with_reducible rfl); rotate_left; (· simp only [Lib.pw, Lib.px, Lib.py, i64_w, i32_w]; rfl)
       refine Lib.pa ?_ 29 46 [27, 2, 1, 5] HT_ rfl rfl (by kernel_rfl) (fun _ _ _ h => h) (by rfl) ?_ ?_ ?_ ?_; rotate_left; (· intro w'; go_simp; with_reducible rfl); rotate_left; (· simp only [Lib.pw, Lib.px, Lib.py, i64_w, i32_w]; rfl)
       refine Lib.pt ?_ 27 44 [28, 1, 1, 5] HT_ HW_ rfl rfl (by kernel_rfl) (fun _ _ _ h => h) (by rfl) ?_ hHeld ?_ ?_ ?_; rotate_left; (· rintro w' ⟨s0, s1, s2, s3, s4, s5, s6, s7, s8, s9, s10, s11, s12, s13, s14, s15, s16, s17, s18, s19⟩; go_simp; with_reducible rfl); rotate_left; (· simp only [Lib.pw, Lib.px, Lib.py, i64_w, i32_w]; rfl)
       refine Lib.pt ?_ 30 47 [28, 1, 2, 4] HT_ HW_ rfl rfl (by kernel_rfl) (fun _ _ _ h => h) (by rfl) ?_ hHeld ?_ ?_ ?_; rotate_left; (· rintro w' ⟨s0, s1, s2, s3, s4, s5, s6, s7, s8, s9, s10, s11, s12, s13, s14, s15, s16, s17, s18, s19⟩; go_simp; with_reducible rfl); rotate_left; (· simp only [Lib.pw, Lib.px, Lib.py, i64_w, i32_w]; rfl)
       refine Lib.pa ?_ 31 48 [28, 1, 3, 3] HT_ rfl rfl (by kernel_rfl) (fun _ _ _ h => h) (by rfl) ?_ ?_ ?_ ?_; rotate_left; (· intro w'; go_simp; with_reducible rfl); rotate_left; (· simp only [Lib.pw, Lib.px, Lib.py, i64_w, i32_w]; rfl)
       refine one_ (i := 28) (N := some 45) (Lib.tr [32, 3]) rfl rfl (one_of HT_.out (by kernel_rfl)) (by decide) (fun K hK => ?_)
       refine goes_ Try.func39 (by kernel_rfl) rfl #[.int .i64 t323] (by rfl) rfl rfl (by (try simp only [List.map_toArray, List.map_cons, List.map_nil]); first | done | rfl | (simp only [List.length_drop, List.length_take]; rfl)) ?_
       with_reducible refine (impl_BlocksNeeded.calls t323 t360 _ A15.out).mono ?_
       rintro e w' ⟨rfl, ⟨nd, rfl⟩⟩
       refine ⟨_, rfl, ?_⟩
       refine hK.out _ _ ⟨(blk_cell BK353.out 0).trans rfl, (blk_cell BK353.out 1).trans rfl, (blk_cell BK353.out 2).trans rfl, (blk_cell BK353.out 3).trans rfl, (blk_cell BK353.out 4).trans rfl, (blk_cell BK353.out 5).trans rfl, (blk_cell BK353.out 6).trans rfl, (blk_cell BK353.out 7).trans rfl, (blk_cell BK353.out 8).trans rfl, (blk_cell BK353.out 9).trans rfl, (blk_cell BK334.out 0).trans rfl, (blk_cell BK334.out 1).trans rfl, (blk_cell BK334.out 2).trans rfl, (blk_cell BK334.out 3).trans rfl, (blk_cell BK334.out 4).trans rfl, (blk_cell BK334.out 5).trans rfl, (blk_cell BK334.out 6).trans rfl, (blk_cell BK334.out 7).trans rfl, (blk_cell BK334.out 8).trans rfl, (blk_cell BK334.out 9).trans rfl⟩ (fun hHeld => ?_)
       clear hK K
       refine norm_ (a' := ?_) ?_ ?_
       rotate_left
       ·
        show Act.put _ (some 45) _ = _
        simp only [Lib.pw, Lib.px, Lib.py, i64_w, i32_w]
        rfl
       refine Lib.pa ?_ 32 49 [33, 2] HT_ rfl rfl (by kernel_rfl) (fun _ _ _ h => h) (by rfl) ?_ ?_ ?_ ?_; rotate_left; (· intro w'; go_simp; with_reducible rfl); rotate_left; (· simp only [Lib.pw, Lib.px, Lib.py, i64_w, i32_w]; rfl)
       refine Lib.pa ?_ 33 50 [34, 1] HT_ rfl rfl (by kernel_rfl) (fun _ _ _ h => h) (by rfl) ?_ ?_ ?_ ?_; rotate_left; (· intro w'; go_simp; with_reducible rfl); rotate_left; (· simp only [Lib.pw, Lib.px, Lib.py, i64_w, i32_w]; rfl)
       refine Lib.pa ?_ 34 2 [35] HT_ rfl rfl (by kernel_rfl) (fun _ _ _ h => h) (by rfl) ?_ ?_ ?_ ?_; rotate_left; (· intro w'; go_simp; with_reducible rfl); rotate_left; (· simp only [Lib.pw, Lib.px, Lib.py, i64_w, i32_w]; rfl)
       refine done_ (done_of HT_.out (by kernel_rfl)) ?_
       try go_wp2
       go_ret
       exact ⟨by first | rfl | (simp [errW_none, errW_some] <;> rfl) | (simp at hE_ ⊢; exact hE_) | (simp [*, errW_none, errW_some] <;> rfl), by repeat (first | (with_reducible first | exact HB.out | apply below_alloc | apply pw_below_drewN | apply below_drew1 | refine below_set ?_ GE334.out | refine below_set ?_ GE353.out) | exact HB.out)⟩
      ·
       rw [if_neg c14] at H
       have c14b0 : decide ((t357.length : Int) ≤ (t325.length : Int)) = false := decide_eq_false c14
       have c14b1 : decide (t357.length ≤ t325.length) = false := decide_eq_false (fun h => c14 (Int.ofNat_le.mpr h))
       clear c14
       exact absurd H (by simp)
     ·
      rw [if_neg c12] at H
      have c12b0 : ((t356.size : Int) == 96) = false := beq_eq_false_iff_ne.mpr c12
      have c12b1 : ((t356.size : Int) != 96) = true := bne_iff_ne.mpr c12
      exact absurd H (by simp)
    ·
     replace c10 := Bool.eq_false_iff.mpr c10
     subst c10
     have H1 : (some false) = some true := by rw [if_neg (show ¬ (false = true) by decide)] at H; exact H
     clear H
     have H := H1
     clear H1
     exact absurd H (by simp)
   ·
    replace c8 := Bool.eq_false_iff.mpr c8
    subst c8
    have H1 : (some false) = some true := by rw [if_neg (show ¬ (false = true) by decide)] at H; exact H
    clear H
    have H := H1
    clear H1
    exact absurd H (by simp)
  ·
   replace c6 := Bool.eq_false_iff.mpr c6
   subst c6
   have H1 : (some false) = some true := by rw [if_neg (show ¬ (false = true) by decide)] at H; exact H
   clear H
   have H := H1
   clear H1
   exact absurd H (by simp)

/-- THE ONE PURE STATEMENT of laws_FnInodes: yours. -/
def laws_FnInodes.Pure : Prop := ∀ (l0 : List Int), l0.length ≤ maxLen → l0.length * 1 ≤ 140737488351232 → (∀ x ∈ l0, (Lit.int .u8 x).wf = true) → ∃ k, laws_FnInodes.f k l0 = some true
theorem laws_FnInodes.walk (P : laws_FnInodes.Pure) (a0 : Option Addr) (len0 cap0 : Nat) (z0 : List Int) (w : World) (w0 : (a0 = none ∧ len0 = 0 ∧ cap0 = 0 ∧ z0 = []) ∨ ∃ x, a0 = some x ∧ len0 ≤ cap0 ∧ cap0 ≤ maxLen ∧ z0.length = cap0 ∧ (∀ i, i < z0.length → w.cell? (x.add i) = some (.int .u8 (z0.getD i 0))) ∧ ∀ n ∈ z0, (Lit.int .u8 n).wf = true) (y0 : len0 * 1 ≤ 140737488351232) :
 Calls Try.prog 7 #[.slice a0 len0 cap0] w fun e w' => e = .returned (.bool true) ∧ Below w.heap.size w w' := by
 obtain ⟨l0, rfl, hr0, hm0, hw0, hc0⟩ := ReadsInt.ofRowC w0
 obtain ⟨k, h⟩ := P l0 hm0 y0 hw0
 refine (laws_FnInodes.calls k _ _ l0 w (Kd.C_of_reads (d := (0 : Int)) (h1 := fun _ => rfl) hr0) hc0 h).mono ?_
 rintro e w' ⟨rfl, hd⟩
 exact ⟨rfl, hd⟩

end Go.Proofs.Ytnfiapcemafmiaa.PFnInodes
