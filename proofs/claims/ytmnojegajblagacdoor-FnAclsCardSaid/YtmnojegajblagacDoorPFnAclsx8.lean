-- Written by a program of this session over Lean's own print of the program.
import Derived.Test.YtmnojegajblagacDoorPFnAclsx0
import Derived.Test.YtmnojegajblagacDoorPFnAclsx2
import Derived.Test.YtmnojegajblagacDoorPFnAclsx3
import Derived.Test.YtmnojegajblagacDoorPFnAclsx4
import Derived.Test.YtmnojegajblagacDoorPFnAclsx5
import Derived.Test.YtmnojegajblagacDoorPFnAclsx6
import Derived.Test.YtmnojegajblagacDoorPFnAclsx7
namespace Go.Proofs.YtmnojegajblagacDoor.PFnAcls
open Go.RowKit Go.Proofs.YtmnojegajblagacDoorW.PrintWords Go.Proofs.YtmnojegajblagacDoorW.PrintLast Go.Proofs.YtmnojegajblagacDoorW.PrintMore
attribute [local go_sem] max2_int min2_int max_two min_two max_three min_three max_four min_four   -- for this text's walks alone
set_option linter.unusedVariables false
set_option linter.unusedSimpArgs false

/-! ### laws_FnAcls: function 4 -/
mutual
def laws_FnAcls.j0 : Nat → List (S33) → Bool → Option (Bool)
 | 0, _, _ => none
 | k + 1, x3, x53 => if x53 = true then (some false) else (laws_FnAcls.l0 k x3 x3 (x3.length : Int) 0)
def laws_FnAcls.l0 : Nat → List (S33) → List (S33) → Int → Int → Option (Bool)
 | 0, _, _, _, _ => none
 | k + 1, x3, x54, x55, x56 => if x56 < x55 then (if 0 ≤ x56 then (if x56 < (x54.length : Int) then ((impl_AclPerm.f k x3 ((rd_T33 x54 x56).f0) ((rd_T33 x54 x56).f1)).bind fun bt252 => (if bt252.2 = true then (if bt252.1 = ((rd_T33 x54 x56).f2) then (laws_FnAcls.l0 k x3 x54 x55 (wrap64 (x56 + 1))) else (some false)) else (some false))) else (none)) else (none)) else (if (x3.length : Int) = 0 then (some true) else ((impl_MaskOf.f k x3).bind fun t254 => (if 0 ≤ (wrap64 ((x3.length : Int) - 1)) then (if (wrap64 ((x3.length : Int) - 1)) < (x3.length : Int) then (some (t254 == ((rd_T33 x3 (wrap64 ((x3.length : Int) - 1))).f2))) else (none)) else (none))))
end
def laws_FnAcls.f (k : Nat) (l0 : List Int) : Option (Bool) := if (l0.length : Int) > 1048576 then (some true) else ((spec_MakeAcl.f k l0 1).bind fun t232 => ((impl_FormatAcl.f k t232).bind fun t235 => ((impl_ParseAcl.f k t235).bind fun bt236 => ((impl_PackAcl.f k t232).bind fun t240 => ((impl_UnpackAcl.f k t240).bind fun bt241 => (if bt236.2 = true then (if bt241.2 = true then ((impl_IsAcl.f k t232).bind fun t245 => (if t245 = true then ((impl_FormatAcl.f k bt236.1).bind fun t246 => ((impl_FormatAcl.f k t232).bind fun t247 => (if t246.toList = t247.toList then ((impl_FormatAcl.f k bt241.1).bind fun t248 => ((impl_FormatAcl.f k t232).bind fun t249 => (laws_FnAcls.j0 k t232 (t248.toList != t249.toList)))) else (laws_FnAcls.j0 k t232 true)))) else (laws_FnAcls.j0 k t232 true))) else (laws_FnAcls.j0 k t232 true)) else (laws_FnAcls.j0 k t232 true)))))))
theorem laws_FnAcls.mono_l : ∀ k, (∀ y0 y1, LeO (laws_FnAcls.j0 k y0 y1) (laws_FnAcls.j0 (k + 1) y0 y1)) ∧ (∀ y0 y1 y2 y3, LeO (laws_FnAcls.l0 k y0 y1 y2 y3) (laws_FnAcls.l0 (k + 1) y0 y1 y2 y3))
 | 0 => ⟨fun _ _ r h => by simp [laws_FnAcls.j0] at h, fun _ _ _ _ r h => by simp [laws_FnAcls.l0] at h⟩
 | k + 1 => by
  obtain ⟨ih0, ih1⟩ := laws_FnAcls.mono_l k
  refine ⟨?_, ?_⟩
  ·
   intro y0 y1
   unfold laws_FnAcls.j0
   repeat' first
   | (with_reducible exact ih0 _ _)
   | (with_reducible exact ih1 _ _ _ _)
   | (with_reducible exact impl_AclPerm.mono _ _ _ _)
   | (with_reducible exact impl_FormatAcl.mono _ _)
   | (with_reducible exact impl_IsAcl.mono _ _)
   | (with_reducible exact impl_MaskOf.mono _ _)
   | (with_reducible exact impl_PackAcl.mono _ _)
   | (with_reducible exact impl_ParseAcl.mono _ _)
   | (with_reducible exact impl_UnpackAcl.mono _ _)
   | (with_reducible exact spec_MakeAcl.mono _ _ _)
   | (with_reducible exact LeO.refl _)
   | (with_reducible exact LeO.none _)
   | (with_reducible refine LeO.ite ?_ ?_)
   | (with_reducible refine LeO.bind ?_ (fun _ => ?_))
   | exact ih0 _ _
   | exact ih1 _ _ _ _
   | exact impl_AclPerm.mono _ _ _ _
   | exact impl_FormatAcl.mono _ _
   | exact impl_IsAcl.mono _ _
   | exact impl_MaskOf.mono _ _
   | exact impl_PackAcl.mono _ _
   | exact impl_ParseAcl.mono _ _
   | exact impl_UnpackAcl.mono _ _
   | exact spec_MakeAcl.mono _ _ _
   | exact LeO.none _
   | refine LeO.ite ?_ ?_
   | refine LeO.bind ?_ (fun _ => ?_)
  ·
   intro y0 y1 y2 y3
   unfold laws_FnAcls.l0
   repeat' first
   | (with_reducible exact ih0 _ _)
   | (with_reducible exact ih1 _ _ _ _)
   | (with_reducible exact impl_AclPerm.mono _ _ _ _)
   | (with_reducible exact impl_FormatAcl.mono _ _)
   | (with_reducible exact impl_IsAcl.mono _ _)
   | (with_reducible exact impl_MaskOf.mono _ _)
   | (with_reducible exact impl_PackAcl.mono _ _)
   | (with_reducible exact impl_ParseAcl.mono _ _)
   | (with_reducible exact impl_UnpackAcl.mono _ _)
   | (with_reducible exact spec_MakeAcl.mono _ _ _)
   | (with_reducible exact LeO.refl _)
   | (with_reducible exact LeO.none _)
   | (with_reducible refine LeO.ite ?_ ?_)
   | (with_reducible refine LeO.bind ?_ (fun _ => ?_))
   | exact ih0 _ _
   | exact ih1 _ _ _ _
   | exact impl_AclPerm.mono _ _ _ _
   | exact impl_FormatAcl.mono _ _
   | exact impl_IsAcl.mono _ _
   | exact impl_MaskOf.mono _ _
   | exact impl_PackAcl.mono _ _
   | exact impl_ParseAcl.mono _ _
   | exact impl_UnpackAcl.mono _ _
   | exact spec_MakeAcl.mono _ _ _
   | exact LeO.none _
   | refine LeO.ite ?_ ?_
   | refine LeO.bind ?_ (fun _ => ?_)
theorem laws_FnAcls.mono : ∀ a0 k, LeO (laws_FnAcls.f k a0) (laws_FnAcls.f (k + 1) a0) := by
 intro a0 k
 obtain ⟨ih0, ih1⟩ := laws_FnAcls.mono_l k
 unfold laws_FnAcls.f
 repeat' first
  | (with_reducible exact ih0 _ _)
  | (with_reducible exact ih1 _ _ _ _)
  | (with_reducible exact impl_AclPerm.mono _ _ _ _)
  | (with_reducible exact impl_FormatAcl.mono _ _)
  | (with_reducible exact impl_IsAcl.mono _ _)
  | (with_reducible exact impl_MaskOf.mono _ _)
  | (with_reducible exact impl_PackAcl.mono _ _)
  | (with_reducible exact impl_ParseAcl.mono _ _)
  | (with_reducible exact impl_UnpackAcl.mono _ _)
  | (with_reducible exact spec_MakeAcl.mono _ _ _)
  | (with_reducible exact LeO.refl _)
  | (with_reducible exact LeO.none _)
  | (with_reducible refine LeO.ite ?_ ?_)
  | (with_reducible refine LeO.bind ?_ (fun _ => ?_))
  | exact ih0 _ _
  | exact ih1 _ _ _ _
  | exact impl_AclPerm.mono _ _ _ _
  | exact impl_FormatAcl.mono _ _
  | exact impl_IsAcl.mono _ _
  | exact impl_MaskOf.mono _ _
  | exact impl_PackAcl.mono _ _
  | exact impl_ParseAcl.mono _ _
  | exact impl_UnpackAcl.mono _ _
  | exact spec_MakeAcl.mono _ _ _
  | exact LeO.none _
  | refine LeO.ite ?_ ?_
  | refine LeO.bind ?_ (fun _ => ?_)
def laws_FnAcls.T15 : Bool × List (List Nat × List Nat) := (true, [([], []), ([0], [0]), ([1], [1]), ([2], [2]), ([3], [3]), ([4, 3, 3], [3, 4]), ([3], [3]), ([3], [3]), ([7, 3], [3, 7]), ([8, 3], [3, 8]), ([6, 9, 3], [3, 6, 9]), ([10, 3], [3, 10]), ([11, 3], [3, 11]), ([5, 12, 3], [3, 5, 12]), ([3, 13], [3, 13]), ([14, 5, 0, 1, 2, 3, 4, 5, 6, 7, 8, 9, 10, 11, 12, 13, 14], [14])])
def laws_FnAcls.B15 : List Nat := [0, 1, 3, 7, 15, 31, 15, 15, 143, 399, 975, 1999, 4047, 8191, 16383, 32767]
theorem laws_FnAcls.tab15 : rtab .any (opsOf Tryd.f4 15) = laws_FnAcls.T15 := by kernel_rfl
theorem laws_FnAcls.bits15 : waitsOk laws_FnAcls.T15.2 laws_FnAcls.B15 = true := by kernel_rfl
set_option maxHeartbeats 8000000 in
set_option maxRecDepth 100000 in
theorem laws_FnAcls.calls (k : Nat) (A0 : Option Addr) (c0 : Nat) (l0 : List Int) (w : World) (ht : Lib.Door w) (hr0 : Kd.C (Kd.int .u8) w A0 l0.length l0) (hc0 : l0.length ≤ c0) (h : laws_FnAcls.f k l0 = some true) :
 Calls Tryd.prog 4 #[.slice A0 l0.length c0] w fun e w' => e = .returned (.bool true) ∧ Below w.heap.size w w' := by
 have hu33 := Tryd.underlying33
 have HR0 := Aside0.mk hr0
 have HC0 := Aside0.mk hc0
 clear hr0 hc0
 have HB := Aside0.mk (Below.refl w.heap.size w)
 have HT := Aside0.mk ht
 clear ht
 have H : (if (l0.length : Int) > 1048576 then (some true) else ((spec_MakeAcl.f k l0 1).bind fun t232 => ((impl_FormatAcl.f k t232).bind fun t235 => ((impl_ParseAcl.f k t235).bind fun bt236 => ((impl_PackAcl.f k t232).bind fun t240 => ((impl_UnpackAcl.f k t240).bind fun bt241 => (if bt236.2 = true then (if bt241.2 = true then ((impl_IsAcl.f k t232).bind fun t245 => (if t245 = true then ((impl_FormatAcl.f k bt236.1).bind fun t246 => ((impl_FormatAcl.f k t232).bind fun t247 => (if t246.toList = t247.toList then ((impl_FormatAcl.f k bt241.1).bind fun t248 => ((impl_FormatAcl.f k t232).bind fun t249 => (laws_FnAcls.j0 k t232 (t248.toList != t249.toList)))) else (laws_FnAcls.j0 k t232 true)))) else (laws_FnAcls.j0 k t232 true))) else (laws_FnAcls.j0 k t232 true)) else (laws_FnAcls.j0 k t232 true)))))))) = some true := h
 clear h
 by_cases c2 : (l0.length : Int) > 1048576
 ·
  rw [if_pos c2] at H
  have c2b0 : decide (1048576 < (l0.length : Int)) = true := decide_eq_true c2
  have c2b1 : decide (1048576 < l0.length) = true := decide_eq_true (by omega)
  clear c2
  have hE_ := Option.some.inj H
  go_enter Tryd.func4, Tryd.ntmps4
  go_wp2
  go_ret
  exact ⟨by first | rfl | (simp [errW_none, errW_some] <;> rfl) | (simp at hE_ ⊢; exact hE_) | (simp [*, errW_none, errW_some] <;> rfl), by exact Lib.bw HB.out⟩
 ·
  rw [if_neg c2] at H
  have c2b0 : decide (1048576 < (l0.length : Int)) = false := decide_eq_false c2
  have c2b1 : decide (1048576 < l0.length) = false := decide_eq_false (by omega)
  clear c2
  replace H := Option.bind_eq_some_iff.mp H
  obtain ⟨t232, A30, H⟩ := H
  try dsimp only at H
  have A3 := Aside0.mk A30
  clear A30
  replace H := Option.bind_eq_some_iff.mp H
  obtain ⟨t235, A40, H⟩ := H
  try dsimp only at H
  have A4 := Aside0.mk A40
  clear A40
  replace H := Option.bind_eq_some_iff.mp H
  obtain ⟨⟨t236, t237⟩, A50, H⟩ := H
  try dsimp only at H
  have A5 := Aside0.mk A50
  clear A50
  replace H := Option.bind_eq_some_iff.mp H
  obtain ⟨t240, A60, H⟩ := H
  try dsimp only at H
  have A6 := Aside0.mk A60
  clear A60
  replace H := Option.bind_eq_some_iff.mp H
  obtain ⟨⟨t241, t242⟩, A70, H⟩ := H
  try dsimp only at H
  have A7 := Aside0.mk A70
  clear A70
  have HC8 := Aside0.mk H
  clear H
  go_enter Tryd.func4, Tryd.ntmps4
  go_upto_region 6 with (first | ((with_reducible refine gate_callee (f := 10) rfl ?_); refine goesL_ (some 16) rfl rfl Tryd.func10 (by kernel_rfl) rfl #[.slice A0 l0.length c0, .int .i64 1] rfl (by (try simp only [List.map_toArray, List.map_cons, List.map_nil]); first | done | rfl | (simp only [List.length_drop, List.length_take]; rfl)) ?_; (with_reducible refine (spec_MakeAcl.calls k _ _ l0 1 t232 _ ?side1 ?side2 A3.out).mono ?_); (case side1 => repeat (first | exact HR0.out | (with_reducible refine Kd.C_alloc ?_ _) | (with_reducible refine Kd.C_drewN ?_ _) | (with_reducible refine Kd.C_drew ?_))); (case side2 => exact HC0.out); rintro e w9 ⟨v233, rfl, ho0, hb⟩; refine ⟨_, rfl, ?_⟩; have n0_ := Aside0.mk (Kd.R_lower ho0 (below_size (by exact Lib.bw HB.out))); have n1_ := Aside0.mk (below_step (by exact Lib.bw HB.out) hb); clear HB; have HO234 := n0_; have HB := n1_; clear n0_ n1_; (try clear hb); (try clear hb2); (try clear hk); (try clear hi); (try clear ho0); obtain ⟨Ao10, co10, eo10⟩ := Kd.R_slice HO234.out; subst eo10) | ((with_reducible refine gate_callee (f := 11) rfl ?_); refine goesL_ (some 19) rfl rfl Tryd.func11 (by kernel_rfl) rfl #[.slice Ao10 t232.length co10] rfl (by (try simp only [List.map_toArray, List.map_cons, List.map_nil]); first | done | rfl | (simp only [List.length_drop, List.length_take]; rfl)) ?_; (with_reducible refine (impl_FormatAcl.calls k _ _ t232 t235 _ ?side1 ?side2 ?side3 A4.out).mono ?_); (case side1 => exact Lib.doorB HT.out (by exact Lib.bw HB.out)); (case side2 => repeat (first | exact (Kd.R_reads' HO234.out).2.2 | (with_reducible refine Kd.C_alloc ?_ _) | (with_reducible refine Kd.C_drewN ?_ _) | (with_reducible refine Kd.C_drew ?_))); (case side3 => exact (Kd.R_reads' HO234.out).2.1); rintro e w11 ⟨rfl, hb⟩; refine ⟨_, rfl, ?_⟩; have n0_ := Aside0.mk (Kd.R_below (by exact Lib.cr HO234.out) hb); have n1_ := Aside0.mk (below_step (by exact Lib.bw HB.out) hb); clear HO234; clear HB; have HO234 := n0_; have HB := n1_; clear n0_ n1_; (try clear hb); (try clear hb2); (try clear hk); (try clear hi)) | ((with_reducible refine gate_callee (f := 6) rfl ?_); refine goesL_ (some 20) rfl rfl Tryd.func6 (by kernel_rfl) rfl #[.string t235] rfl (by (try simp only [List.map_toArray, List.map_cons, List.map_nil]); first | done | rfl | (simp only [List.length_drop, List.length_take]; rfl)) ?_; (with_reducible refine (impl_ParseAcl.calls k t235 t236 t237 _ ?side1 A5.out).mono ?_); (case side1 => exact Lib.doorB HT.out (by exact Lib.bw HB.out)); rintro e w12 ⟨v238, rfl, ho0, hb⟩; refine ⟨_, rfl, ?_⟩; have n0_ := Aside0.mk (Kd.R_elder' (by exact Lib.cr HO234.out) (Kd.R_base ho0) hb); have n1_ := Aside0.mk (Kd.R_lower (Kd.R_new' ho0 (Kd.R_lt (by exact Lib.cr HO234.out))) (below_size (by exact Lib.bw HB.out))); have n2_ := Aside0.mk (below_step (by exact Lib.bw HB.out) hb); clear HO234; clear HB; have HO234 := n0_; have HO239 := n1_; have HB := n2_; clear n0_ n1_ n2_; (try clear hb); (try clear hb2); (try clear hk); (try clear hi); (try clear ho0)) | ((with_reducible refine gate_callee (f := 13) rfl ?_); refine goesL_ (some 25) rfl rfl Tryd.func13 (by kernel_rfl) rfl #[.slice Ao10 t232.length co10] rfl (by (try simp only [List.map_toArray, List.map_cons, List.map_nil]); first | done | rfl | (simp only [List.length_drop, List.length_take]; rfl)) ?_; (with_reducible refine (impl_PackAcl.calls k _ _ t232 t240 _ ?side1 ?side2 A6.out).mono ?_); (case side1 => repeat (first | exact (Kd.R_reads' HO234.out).2.2 | (with_reducible refine Kd.C_alloc ?_ _) | (with_reducible refine Kd.C_drewN ?_ _) | (with_reducible refine Kd.C_drew ?_))); (case side2 => exact (Kd.R_reads' HO234.out).2.1); rintro e w13 ⟨rfl, hb⟩; refine ⟨_, rfl, ?_⟩; have n0_ := Aside0.mk (Kd.R_below (by exact Lib.cr HO234.out) hb); have n1_ := Aside0.mk (Kd.R_below (by exact Lib.cr HO239.out) hb); have n2_ := Aside0.mk (below_step (by exact Lib.bw HB.out) hb); clear HO234; clear HO239; clear HB; have HO234 := n0_; have HO239 := n1_; have HB := n2_; clear n0_ n1_ n2_; (try clear hb); (try clear hb2); (try clear hk); (try clear hi)) | ((with_reducible refine gate_callee (f := 12) rfl ?_); refine goesL_ (some 26) rfl rfl Tryd.func12 (by kernel_rfl) rfl #[.string t240] rfl (by (try simp only [List.map_toArray, List.map_cons, List.map_nil]); first | done | rfl | (simp only [List.length_drop, List.length_take]; rfl)) ?_; (with_reducible refine (impl_UnpackAcl.calls k t240 t241 t242 _ A7.out).mono ?_); rintro e w14 ⟨v243, rfl, ho0, hb⟩; refine ⟨_, rfl, ?_⟩; have n0_ := Aside0.mk (Kd.R_elder' (by exact Lib.cr HO234.out) (Kd.R_base ho0) hb); have n1_ := Aside0.mk (Kd.R_elder' (by exact Lib.cr HO239.out) (Kd.R_base ho0) hb); have n2_ := Aside0.mk (Kd.R_lower (Kd.R_new' (Kd.R_new' ho0 (Kd.R_lt (by exact Lib.cr HO234.out))) (Kd.R_lt (by exact Lib.cr HO239.out))) (below_size (by exact Lib.bw HB.out))); have n3_ := Aside0.mk (below_step (by exact Lib.bw HB.out) hb); clear HO234; clear HO239; clear HB; have HO234 := n0_; have HO239 := n1_; have HO244 := n2_; have HB := n3_; clear n0_ n1_ n2_ n3_; (try clear hb); (try clear hb2); (try clear hk); (try clear hi); (try clear ho0)))
  (try simp only [Act.put, List.setIfInBounds_toArray, List.set_cons_zero, List.set_cons_succ])
  go_cut [53] (fun v53 wc => ∃ (kq : Nat) (x53_7 : Bool), v53 = .bool x53_7 ∧ Aside0 (laws_FnAcls.j0 kq t232 x53_7 = some true) ∧ Aside0 (kq ≤ k) ∧ Aside0 (Kd.R k33 33 wc w.heap.size (fun _ => True) (.slice Ao10 t232.length co10) t232) ∧ Aside0 (Below w.heap.size w wc))
  case first =>
   have H := HC8.out
   clear HC8
   by_cases c15 : t237 = true
   ·
    subst c15
    have H1 : (if t242 = true then ((impl_IsAcl.f k t232).bind fun t245 => (if t245 = true then ((impl_FormatAcl.f k t236).bind fun t246 => ((impl_FormatAcl.f k t232).bind fun t247 => (if t246.toList = t247.toList then ((impl_FormatAcl.f k t241).bind fun t248 => ((impl_FormatAcl.f k t232).bind fun t249 => (laws_FnAcls.j0 k t232 (t248.toList != t249.toList)))) else (laws_FnAcls.j0 k t232 true)))) else (laws_FnAcls.j0 k t232 true))) else (laws_FnAcls.j0 k t232 true)) = some true := by rw [if_pos rfl] at H; exact H
    clear H
    have H := H1
    clear H1
    by_cases c16 : t242 = true
    ·
     subst c16
     have H1 : ((impl_IsAcl.f k t232).bind fun t245 => (if t245 = true then ((impl_FormatAcl.f k t236).bind fun t246 => ((impl_FormatAcl.f k t232).bind fun t247 => (if t246.toList = t247.toList then ((impl_FormatAcl.f k t241).bind fun t248 => ((impl_FormatAcl.f k t232).bind fun t249 => (laws_FnAcls.j0 k t232 (t248.toList != t249.toList)))) else (laws_FnAcls.j0 k t232 true)))) else (laws_FnAcls.j0 k t232 true))) = some true := by rw [if_pos rfl] at H; exact H
     clear H
     have H := H1
     clear H1
     replace H := Option.bind_eq_some_iff.mp H
     obtain ⟨t245, A170, H⟩ := H
     try dsimp only at H
     have A17 := Aside0.mk A170
     clear A170
     by_cases c18 : t245 = true
     ·
      subst c18
      have H1 : ((impl_FormatAcl.f k t236).bind fun t246 => ((impl_FormatAcl.f k t232).bind fun t247 => (if t246.toList = t247.toList then ((impl_FormatAcl.f k t241).bind fun t248 => ((impl_FormatAcl.f k t232).bind fun t249 => (laws_FnAcls.j0 k t232 (t248.toList != t249.toList)))) else (laws_FnAcls.j0 k t232 true)))) = some true := by rw [if_pos rfl] at H; exact H
      clear H
      have H := H1
      clear H1
      replace H := Option.bind_eq_some_iff.mp H
      obtain ⟨t246, A190, H⟩ := H
      try dsimp only at H
      have A19 := Aside0.mk A190
      clear A190
      replace H := Option.bind_eq_some_iff.mp H
      obtain ⟨t247, A200, H⟩ := H
      try dsimp only at H
      have A20 := Aside0.mk A200
      clear A200
      by_cases c21 : t246.toList = t247.toList
      ·
       rw [if_pos c21] at H
       have c21b0 : (t246.toList == t247.toList) = true := beq_iff_eq.mpr c21
       have c21b1 : (t246.toList != t247.toList) = false := bne_eq_false_iff_eq.mpr c21
       clear c21
       (first | rw [c21b0] | (simp only [i64_w, i32_w]; rw [c21b0]) | skip)
       replace H := Option.bind_eq_some_iff.mp H
       obtain ⟨t248, A220, H⟩ := H
       replace H : ((impl_FormatAcl.f k t232).bind fun t249 => (laws_FnAcls.j0 k t232 (t248.toList != t249.toList))) = some true := H
       have A22 := Aside0.mk A220
       clear A220
       replace H := Option.bind_eq_some_iff.mp H
       obtain ⟨t249, A230, H⟩ := H
       replace H : (laws_FnAcls.j0 k t232 (t248.toList != t249.toList)) = some true := H
       have A23 := Aside0.mk A230
       clear A230
       have H' := Aside0.mk H
       clear H
       go_wp2_with (first | (go_at_call 14; (with_reducible refine (impl_IsAcl.calls k _ _ t232 true _ ?side1 ?side2 A17.out).mono ?_); (case side1 => repeat (first | exact (Kd.R_reads' HO234.out).2.2 | (with_reducible refine Kd.C_alloc ?_ _) | (with_reducible refine Kd.C_drewN ?_ _) | (with_reducible refine Kd.C_drew ?_))); (case side2 => exact (Kd.R_reads' HO234.out).2.1); rintro e w24 ⟨rfl, hb⟩; have n0_ := Aside0.mk (Kd.R_below (by exact Lib.cr HO234.out) hb); have n1_ := Aside0.mk (Kd.R_below (by exact Lib.cr HO239.out) hb); have n2_ := Aside0.mk (Kd.R_below (by exact Lib.cr HO244.out) hb); have n3_ := Aside0.mk (below_step (by exact Lib.bw HB.out) hb); clear HO234; clear HO239; clear HO244; clear HB; have HO234 := n0_; have HO239 := n1_; have HO244 := n2_; have HB := n3_; clear n0_ n1_ n2_ n3_; (try clear hb); (try clear hb2); (try clear hk); (try clear hi); obtain ⟨Ao25, co25, eo25⟩ := Kd.R_slice HO239.out; subst eo25) | (go_at_call 11; (with_reducible refine (impl_FormatAcl.calls k _ _ t236 t246 _ ?side1 ?side2 ?side3 A19.out).mono ?_); (case side1 => exact Lib.doorB HT.out (by exact Lib.bw HB.out)); (case side2 => repeat (first | exact (Kd.R_reads' HO239.out).2.2 | (with_reducible refine Kd.C_alloc ?_ _) | (with_reducible refine Kd.C_drewN ?_ _) | (with_reducible refine Kd.C_drew ?_))); (case side3 => exact (Kd.R_reads' HO239.out).2.1); rintro e w26 ⟨rfl, hb⟩; have n0_ := Aside0.mk (Kd.R_below (by exact Lib.cr HO234.out) hb); have n1_ := Aside0.mk (Kd.R_below (by exact Lib.cr HO239.out) hb); have n2_ := Aside0.mk (Kd.R_below (by exact Lib.cr HO244.out) hb); have n3_ := Aside0.mk (below_step (by exact Lib.bw HB.out) hb); clear HO234; clear HO239; clear HO244; clear HB; have HO234 := n0_; have HO239 := n1_; have HO244 := n2_; have HB := n3_; clear n0_ n1_ n2_ n3_; (try clear hb); (try clear hb2); (try clear hk); (try clear hi)) | (go_at_call 11; (with_reducible refine (impl_FormatAcl.calls k _ _ t232 t247 _ ?side1 ?side2 ?side3 A20.out).mono ?_); (case side1 => exact Lib.doorB HT.out (by exact Lib.bw HB.out)); (case side2 => repeat (first | exact (Kd.R_reads' HO234.out).2.2 | (with_reducible refine Kd.C_alloc ?_ _) | (with_reducible refine Kd.C_drewN ?_ _) | (with_reducible refine Kd.C_drew ?_))); (case side3 => exact (Kd.R_reads' HO234.out).2.1); rintro e w27 ⟨rfl, hb⟩; have n0_ := Aside0.mk (Kd.R_below (by exact Lib.cr HO234.out) hb); have n1_ := Aside0.mk (Kd.R_below (by exact Lib.cr HO239.out) hb); have n2_ := Aside0.mk (Kd.R_below (by exact Lib.cr HO244.out) hb); have n3_ := Aside0.mk (below_step (by exact Lib.bw HB.out) hb); clear HO234; clear HO239; clear HO244; clear HB; have HO234 := n0_; have HO239 := n1_; have HO244 := n2_; have HB := n3_; clear n0_ n1_ n2_ n3_; (try clear hb); (try clear hb2); (try clear hk); (try clear hi); obtain ⟨Ao28, co28, eo28⟩ := Kd.R_slice HO244.out; subst eo28) | (go_at_call 11; (with_reducible refine (impl_FormatAcl.calls k _ _ t241 t248 _ ?side1 ?side2 ?side3 A22.out).mono ?_); (case side1 => exact Lib.doorB HT.out (by exact Lib.bw HB.out)); (case side2 => repeat (first | exact (Kd.R_reads' HO244.out).2.2 | (with_reducible refine Kd.C_alloc ?_ _) | (with_reducible refine Kd.C_drewN ?_ _) | (with_reducible refine Kd.C_drew ?_))); (case side3 => exact (Kd.R_reads' HO244.out).2.1); rintro e w29 ⟨rfl, hb⟩; have n0_ := Aside0.mk (Kd.R_below (by exact Lib.cr HO234.out) hb); have n1_ := Aside0.mk (Kd.R_below (by exact Lib.cr HO239.out) hb); have n2_ := Aside0.mk (Kd.R_below (by exact Lib.cr HO244.out) hb); have n3_ := Aside0.mk (below_step (by exact Lib.bw HB.out) hb); clear HO234; clear HO239; clear HO244; clear HB; have HO234 := n0_; have HO239 := n1_; have HO244 := n2_; have HB := n3_; clear n0_ n1_ n2_ n3_; (try clear hb); (try clear hb2); (try clear hk); (try clear hi)) | (go_at_call 11; (with_reducible refine (impl_FormatAcl.calls k _ _ t232 t249 _ ?side1 ?side2 ?side3 A23.out).mono ?_); (case side1 => exact Lib.doorB HT.out (by exact Lib.bw HB.out)); (case side2 => repeat (first | exact (Kd.R_reads' HO234.out).2.2 | (with_reducible refine Kd.C_alloc ?_ _) | (with_reducible refine Kd.C_drewN ?_ _) | (with_reducible refine Kd.C_drew ?_))); (case side3 => exact (Kd.R_reads' HO234.out).2.1); rintro e w30 ⟨rfl, hb⟩; have n0_ := Aside0.mk (Kd.R_below (by exact Lib.cr HO234.out) hb); have n1_ := Aside0.mk (Kd.R_below (by exact Lib.cr HO239.out) hb); have n2_ := Aside0.mk (Kd.R_below (by exact Lib.cr HO244.out) hb); have n3_ := Aside0.mk (below_step (by exact Lib.bw HB.out) hb); clear HO234; clear HO239; clear HO244; clear HB; have HO234 := n0_; have HO239 := n1_; have HO244 := n2_; have HB := n3_; clear n0_ n1_ n2_ n3_; (try clear hb); (try clear hb2); (try clear hk); (try clear hi)))
       go_meet
       case rel => exact ⟨_, ((t248.toList != t249.toList)), (by first | rfl | (simp; done) | (simp [*]; done)), H', ⟨by first | omega | exact Nat.le_refl _⟩, ⟨by (with_reducible repeat (first | apply Kd.R_alloc | apply Kd.R_drewN | apply Kd.R_drew)); exact Kd.R_mono HO234.out (fun _ hk => trivial)⟩, ⟨by exact Lib.bw HB.out⟩⟩
      ·
       rw [if_neg c21] at H
       have c21b0 : (t246.toList == t247.toList) = false := beq_eq_false_iff_ne.mpr c21
       have c21b1 : (t246.toList != t247.toList) = true := bne_iff_ne.mpr c21
       (first | rw [c21b0] | (simp only [i64_w, i32_w]; rw [c21b0]) | skip)
       have H' := Aside0.mk H
       clear H
       go_wp2_with (first | (go_at_call 14; (with_reducible refine (impl_IsAcl.calls k _ _ t232 true _ ?side1 ?side2 A17.out).mono ?_); (case side1 => repeat (first | exact (Kd.R_reads' HO234.out).2.2 | (with_reducible refine Kd.C_alloc ?_ _) | (with_reducible refine Kd.C_drewN ?_ _) | (with_reducible refine Kd.C_drew ?_))); (case side2 => exact (Kd.R_reads' HO234.out).2.1); rintro e w31 ⟨rfl, hb⟩; have n0_ := Aside0.mk (Kd.R_below (by exact Lib.cr HO234.out) hb); have n1_ := Aside0.mk (Kd.R_below (by exact Lib.cr HO239.out) hb); have n2_ := Aside0.mk (Kd.R_below (by exact Lib.cr HO244.out) hb); have n3_ := Aside0.mk (below_step (by exact Lib.bw HB.out) hb); clear HO234; clear HO239; clear HO244; clear HB; have HO234 := n0_; have HO239 := n1_; have HO244 := n2_; have HB := n3_; clear n0_ n1_ n2_ n3_; (try clear hb); (try clear hb2); (try clear hk); (try clear hi); obtain ⟨Ao32, co32, eo32⟩ := Kd.R_slice HO239.out; subst eo32) | (go_at_call 11; (with_reducible refine (impl_FormatAcl.calls k _ _ t236 t246 _ ?side1 ?side2 ?side3 A19.out).mono ?_); (case side1 => exact Lib.doorB HT.out (by exact Lib.bw HB.out)); (case side2 => repeat (first | exact (Kd.R_reads' HO239.out).2.2 | (with_reducible refine Kd.C_alloc ?_ _) | (with_reducible refine Kd.C_drewN ?_ _) | (with_reducible refine Kd.C_drew ?_))); (case side3 => exact (Kd.R_reads' HO239.out).2.1); rintro e w33 ⟨rfl, hb⟩; have n0_ := Aside0.mk (Kd.R_below (by exact Lib.cr HO234.out) hb); have n1_ := Aside0.mk (Kd.R_below (by exact Lib.cr HO239.out) hb); have n2_ := Aside0.mk (Kd.R_below (by exact Lib.cr HO244.out) hb); have n3_ := Aside0.mk (below_step (by exact Lib.bw HB.out) hb); clear HO234; clear HO239; clear HO244; clear HB; have HO234 := n0_; have HO239 := n1_; have HO244 := n2_; have HB := n3_; clear n0_ n1_ n2_ n3_; (try clear hb); (try clear hb2); (try clear hk); (try clear hi)) | (go_at_call 11; (with_reducible refine (impl_FormatAcl.calls k _ _ t232 t247 _ ?side1 ?side2 ?side3 A20.out).mono ?_); (case side1 => exact Lib.doorB HT.out (by exact Lib.bw HB.out)); (case side2 => repeat (first | exact (Kd.R_reads' HO234.out).2.2 | (with_reducible refine Kd.C_alloc ?_ _) | (with_reducible refine Kd.C_drewN ?_ _) | (with_reducible refine Kd.C_drew ?_))); (case side3 => exact (Kd.R_reads' HO234.out).2.1); rintro e w34 ⟨rfl, hb⟩; have n0_ := Aside0.mk (Kd.R_below (by exact Lib.cr HO234.out) hb); have n1_ := Aside0.mk (Kd.R_below (by exact Lib.cr HO239.out) hb); have n2_ := Aside0.mk (Kd.R_below (by exact Lib.cr HO244.out) hb); have n3_ := Aside0.mk (below_step (by exact Lib.bw HB.out) hb); clear HO234; clear HO239; clear HO244; clear HB; have HO234 := n0_; have HO239 := n1_; have HO244 := n2_; have HB := n3_; clear n0_ n1_ n2_ n3_; (try clear hb); (try clear hb2); (try clear hk); (try clear hi)))
       go_meet
       case rel => exact ⟨_, (true), (by first | rfl | (simp; done) | (simp [*]; done)), H', ⟨by first | omega | exact Nat.le_refl _⟩, ⟨by (with_reducible repeat (first | apply Kd.R_alloc | apply Kd.R_drewN | apply Kd.R_drew)); exact Kd.R_mono HO234.out (fun _ hk => trivial)⟩, ⟨by exact Lib.bw HB.out⟩⟩
     ·
      replace c18 := Bool.eq_false_iff.mpr c18
      subst c18
      have H1 : (laws_FnAcls.j0 k t232 true) = some true := by rw [if_neg (show ¬ (false = true) by decide)] at H; exact H
      clear H
      have H := H1
      clear H1
      have H' := Aside0.mk H
      clear H
      go_wp2_with (first | (go_at_call 14; (with_reducible refine (impl_IsAcl.calls k _ _ t232 false _ ?side1 ?side2 A17.out).mono ?_); (case side1 => repeat (first | exact (Kd.R_reads' HO234.out).2.2 | (with_reducible refine Kd.C_alloc ?_ _) | (with_reducible refine Kd.C_drewN ?_ _) | (with_reducible refine Kd.C_drew ?_))); (case side2 => exact (Kd.R_reads' HO234.out).2.1); rintro e w35 ⟨rfl, hb⟩; have n0_ := Aside0.mk (Kd.R_below (by exact Lib.cr HO234.out) hb); have n1_ := Aside0.mk (Kd.R_below (by exact Lib.cr HO239.out) hb); have n2_ := Aside0.mk (Kd.R_below (by exact Lib.cr HO244.out) hb); have n3_ := Aside0.mk (below_step (by exact Lib.bw HB.out) hb); clear HO234; clear HO239; clear HO244; clear HB; have HO234 := n0_; have HO239 := n1_; have HO244 := n2_; have HB := n3_; clear n0_ n1_ n2_ n3_; (try clear hb); (try clear hb2); (try clear hk); (try clear hi)))
      go_meet
      case rel => exact ⟨_, (true), (by first | rfl | (simp; done) | (simp [*]; done)), H', ⟨by first | omega | exact Nat.le_refl _⟩, ⟨by (with_reducible repeat (first | apply Kd.R_alloc | apply Kd.R_drewN | apply Kd.R_drew)); exact Kd.R_mono HO234.out (fun _ hk => trivial)⟩, ⟨by exact Lib.bw HB.out⟩⟩
    ·
     replace c16 := Bool.eq_false_iff.mpr c16
     subst c16
     have H1 : (laws_FnAcls.j0 k t232 true) = some true := by rw [if_neg (show ¬ (false = true) by decide)] at H; exact H
     clear H
     have H := H1
     clear H1
     have H' := Aside0.mk H
     clear H
     go_wp2
     go_meet
     case rel => exact ⟨_, (true), (by first | rfl | (simp; done) | (simp [*]; done)), H', ⟨by first | omega | exact Nat.le_refl _⟩, ⟨by (with_reducible repeat (first | apply Kd.R_alloc | apply Kd.R_drewN | apply Kd.R_drew)); exact Kd.R_mono HO234.out (fun _ hk => trivial)⟩, ⟨by exact Lib.bw HB.out⟩⟩
   ·
    replace c15 := Bool.eq_false_iff.mpr c15
    subst c15
    have H1 : (laws_FnAcls.j0 k t232 true) = some true := by rw [if_neg (show ¬ (false = true) by decide)] at H; exact H
    clear H
    have H := H1
    clear H1
    have H' := Aside0.mk H
    clear H
    go_wp2
    go_meet
    case rel => exact ⟨_, (true), (by first | rfl | (simp; done) | (simp [*]; done)), H', ⟨by first | omega | exact Nat.le_refl _⟩, ⟨by (with_reducible repeat (first | apply Kd.R_alloc | apply Kd.R_drewN | apply Kd.R_drew)); exact Kd.R_mono HO234.out (fun _ hk => trivial)⟩, ⟨by exact Lib.bw HB.out⟩⟩
  case rest =>
   clear HC8
   try clear c1
   try clear c2
   try clear c2b0
   try clear c2b1
   try clear p2
   try clear c4
   try clear c6
   try clear c10
   try clear c11
   try clear c12
   try clear c13
   try clear c15
   try clear c16
   try clear c18
   try clear c21
   try clear c21b0
   try clear c21b1
   obtain ⟨kq, x53_7, rfl, HA, HJ7, HO_3, HB⟩ := hcut
   cases kq with
   | zero => exact absurd HA.out (by simp [laws_FnAcls.j0])
   | succ kj7 =>
    have H := HA.out
    clear HA
    simp only [laws_FnAcls.j0] at H
    by_cases c36 : x53_7 = true
    ·
     subst c36
     have H1 : (some false) = some true := by rw [if_pos rfl] at H; exact H
     clear H
     have H := H1
     clear H1
     exact absurd H (by simp)
    ·
     replace c36 := Bool.eq_false_iff.mpr c36
     subst c36
     have H1 : (laws_FnAcls.l0 kj7 t232 t232 (t232.length : Int) 0) = some true := by rw [if_neg (show ¬ (false = true) by decide)] at H; exact H
     clear H
     have H := H1
     clear H1
     have H' := Aside0.mk H
     clear H
     go_wp2
     go_loopg [56] kj7 (fun kq v56 w' => ∃ (x56_2 : Int), v56 = .int .i64 x56_2 ∧ Aside0 (laws_FnAcls.l0 kq t232 t232 (t232.length : Int) x56_2 = some true) ∧ Aside0 (kq ≤ kj7) ∧ Aside0 (Kd.R k33 33 w' w.heap.size (fun _ => True) (.slice Ao10 t232.length co10) t232) ∧ Aside0 (Kd.R k33 33 w' w.heap.size (fun _ => True) (.slice Ao10 t232.length co10) t232) ∧ Aside0 (Below w.heap.size w w'))
     case atStart => exact ⟨(0), (by first | rfl | (simp; done) | (simp [*]; done)), H', ⟨Nat.le_refl _⟩, ⟨by exact Lib.cr HO_3.out⟩, ⟨by exact Lib.cr HO_3.out⟩, ⟨by exact Lib.bw HB.out⟩⟩
     case round =>
      clear H'
      try clear c1
      try clear c2
      try clear c2b0
      try clear c2b1
      try clear p2
      try clear c3
      try clear c4
      try clear c6
      try clear c10
      try clear c11
      try clear c12
      try clear c13
      try clear c15
      try clear c16
      try clear c18
      try clear c21
      try clear c21b0
      try clear c21b1
      try clear c36
      try clear p2
      obtain ⟨x56_2, rfl, HA, HK2, HO_3, HO_54, HB⟩ := hrel
      cases gk with
      | zero => exact absurd HA.out (by simp [laws_FnAcls.l0])
      | succ k2 =>
       have H := HA.out
       clear HA
       simp only [laws_FnAcls.l0] at H
       by_cases c37 : x56_2 < (t232.length : Int)
       ·
        rw [if_pos c37] at H
        have c37b0 : decide (x56_2 < (t232.length : Int)) = true := decide_eq_true c37
        clear c37
        by_cases c38 : 0 ≤ x56_2
        ·
         rw [if_pos c38] at H
         have c38b0 : decide (0 ≤ x56_2) = true := decide_eq_true c38
         clear c38
         by_cases c39 : x56_2 < (t232.length : Int)
         ·
          rw [if_pos c39] at H
          have c39b0 : decide (x56_2 < (t232.length : Int)) = true := decide_eq_true c39
          clear c39
          replace H := Option.bind_eq_some_iff.mp H
          obtain ⟨⟨t252, t253⟩, A400, H⟩ := H
          try dsimp only at H
          have A40 := Aside0.mk A400
          clear A400
          by_cases c41 : t253 = true
          ·
           subst c41
           have H1 : (if t252 = ((rd_T33 t232 x56_2).f2) then (laws_FnAcls.l0 k2 t232 t232 (t232.length : Int) (wrap64 (x56_2 + 1))) else (some false)) = some true := by rw [if_pos rfl] at H; exact H
           clear H
           have H := H1
           clear H1
           by_cases c42 : t252 = ((rd_T33 t232 x56_2).f2)
           ·
            rw [if_pos c42] at H
            have c42b0 : (t252 == ((rd_T33 t232 x56_2).f2)) = true := beq_iff_eq.mpr c42
            have c42b1 : (t252 != ((rd_T33 t232 x56_2).f2)) = false := bne_eq_false_iff_eq.mpr c42
            clear c42
            have H' := Aside0.mk H
            clear H
            have p250 : 0 ≤ (x56_2 : Int) := Lib.od
            have q250 : x56_2 < (t232.length : Int) := Lib.od
            obtain ⟨ad250, e250, hx250_0, hx250_1, hx250_2⟩ := at_T33 (Kd.R_reads' HO_54.out).2.2 x56_2 p250 q250
            cases e250
            replace p250 := eq_true p250
            replace q250 := eq_true q250
            go_wp2_with (first | ((with_reducible refine gate_dst (N := 9) rfl ?_); (try (refine gate_guard (by rfl) ?_; dsimp only)); refine box_event ?hg (N := 9) ?hd (cs := #[.int .i64 0, .int .i64 0, .int .i64 0]) (t := 33) ?hr ?_; (case hd => rfl); (case hg => rfl); (case hr => first | (go_simp; done) | (go_simp; rfl)); intro gb251 hg w43 hbox hb; have n0_ := Aside0.mk (Kd.R_below (Kd.R_elderB (by exact Lib.cr HO_3.out) gb251 (Nat.le_of_eq hg.symm)) hb); have n1_ := Aside0.mk (Kd.R_below (Kd.R_elderB (by exact Lib.cr HO_54.out) gb251 (Nat.le_of_eq hg.symm)) hb); have n2_ := Aside0.mk (below_step (by exact Lib.bw HB.out) hb); have n3_ := Aside0.mk (hbox); have n4_ := Aside0.mk ((by rw [hg]; exact (below_size (by exact Lib.bw HB.out)) : w.heap.size ≤ gb251)); have n5_ := Aside0.mk ((by rw [hg]; exact (below_size (by exact Lib.bw HB.out)) : w.heap.size ≤ gb251)); clear HO_3; clear HO_54; clear HB; have HO_3 := n0_; have HO_54 := n1_; have HB := n2_; have BK251 := n3_; have GW251 := n4_; have GE251 := n5_; clear n0_ n1_ n2_ n3_ n4_ n5_; clear hb hbox hg; obtain ⟨hcz44_0, hcz44_1, hcz44_2, hfz44_0, hfz44_1, hfz44_2⟩ := Lib.cel3 (W := w43) BK251.out) | ((with_reducible refine gate_callee (f := 15) rfl ?_); refine goesL_ (some 66) rfl rfl Tryd.func15 (by kernel_rfl) rfl #[.slice (some ad250) t232.length co10, .int .i64 ((rd_T33 t232 x56_2).f0), .int .i64 ((rd_T33 t232 x56_2).f1)] rfl (by (try simp only [List.map_toArray, List.map_cons, List.map_nil]); first | done | rfl | (simp only [List.length_drop, List.length_take]; rfl)) ?_; (with_reducible refine (impl_AclPerm.calls k2 _ _ t232 ((rd_T33 t232 x56_2).f0) ((rd_T33 t232 x56_2).f1) t252 true _ ?side1 ?side2 A40.out).mono ?_); (case side1 => refine (Kd.R_reads' (e := 33) (base := w.heap.size) (ok := fun k_ => (True ∧ k_ ≠ gb251)) (n := t232.length) (c := co10) ?_).2.2; exact (by (with_reducible repeat (first | apply Kd.R_alloc | apply Kd.R_drewN | apply Kd.R_drew)); exact (Kd.R_mono (Kd.R_far (p := ⟨gb251, 2, none⟩) (Kd.R_far (p := ⟨gb251, 1, none⟩) (Kd.R_far (p := ⟨gb251, 0, none⟩) (Kd.R_mono HO_3.out (fun k_ hk => (⟨hk, hk.2⟩ : _ ∧ k_ ≠ gb251))) (fun _ hk => hk.2) (.int .i64 ((rd_T33 t232 x56_2).f0))) (fun _ hk => hk.2) (.int .i64 ((rd_T33 t232 x56_2).f1))) (fun _ hk => hk.2) (.int .i64 ((rd_T33 t232 x56_2).f2))) (fun _ h_ => h_.1)))); (case side2 => exact (Kd.R_reads' HO_3.out).2.1); rintro e w45 ⟨rfl, hb⟩; refine ⟨_, rfl, ?_⟩; have n0_ := Aside0.mk (Kd.R_below (by (with_reducible repeat (first | apply Kd.R_alloc | apply Kd.R_drewN | apply Kd.R_drew)); exact (Kd.R_mono (Kd.R_far (p := ⟨gb251, 2, none⟩) (Kd.R_far (p := ⟨gb251, 1, none⟩) (Kd.R_far (p := ⟨gb251, 0, none⟩) (Kd.R_mono HO_3.out (fun k_ hk => (⟨hk, hk.2⟩ : _ ∧ k_ ≠ gb251))) (fun _ hk => hk.2) (.int .i64 ((rd_T33 t232 x56_2).f0))) (fun _ hk => hk.2) (.int .i64 ((rd_T33 t232 x56_2).f1))) (fun _ hk => hk.2) (.int .i64 ((rd_T33 t232 x56_2).f2))) (fun _ h_ => h_.1))) hb); have n1_ := Aside0.mk (Kd.R_below (by (with_reducible repeat (first | apply Kd.R_alloc | apply Kd.R_drewN | apply Kd.R_drew)); exact (Kd.R_mono (Kd.R_far (p := ⟨gb251, 2, none⟩) (Kd.R_far (p := ⟨gb251, 1, none⟩) (Kd.R_far (p := ⟨gb251, 0, none⟩) (Kd.R_mono HO_54.out (fun k_ hk => (⟨hk, hk.2⟩ : _ ∧ k_ ≠ gb251))) (fun _ hk => hk.2) (.int .i64 ((rd_T33 t232 x56_2).f0))) (fun _ hk => hk.2) (.int .i64 ((rd_T33 t232 x56_2).f1))) (fun _ hk => hk.2) (.int .i64 ((rd_T33 t232 x56_2).f2))) (fun _ h_ => h_.1))) hb); have n2_ := Aside0.mk (blk_below (g := gb251) (o := .cells #[.int .i64 ((rd_T33 t232 x56_2).f0), .int .i64 ((rd_T33 t232 x56_2).f1), .int .i64 ((rd_T33 t232 x56_2).f2)] 33 (0, 0)) (by (with_reducible repeat (first | refine blk_drewN ?_ _ | refine blk_drew ?_ | refine blk_alloc ?_ _)); refine blk_put (cs := #[.int .i64 ((rd_T33 t232 x56_2).f0), .int .i64 ((rd_T33 t232 x56_2).f1), .int .i64 0]) ?_ 2 _ rfl; (with_reducible repeat (first | refine blk_drewN ?_ _ | refine blk_drew ?_ | refine blk_alloc ?_ _)); refine blk_put (cs := #[.int .i64 ((rd_T33 t232 x56_2).f0), .int .i64 0, .int .i64 0]) ?_ 1 _ rfl; (with_reducible repeat (first | refine blk_drewN ?_ _ | refine blk_drew ?_ | refine blk_alloc ?_ _)); refine blk_put (cs := #[.int .i64 0, .int .i64 0, .int .i64 0]) ?_ 0 _ rfl; (with_reducible repeat (first | refine blk_drewN ?_ _ | refine blk_drew ?_ | refine blk_alloc ?_ _)); exact BK251.out) hb); have n3_ := Aside0.mk (below_step (by exact Lib.bs HB.out GE251.out) hb); clear HO_3; clear HO_54; clear BK251; clear HB; have HO_3 := n0_; have HO_54 := n1_; have BK251 := n2_; have HB := n3_; clear n0_ n1_ n2_ n3_; (try clear hb); (try clear hb2); (try clear hk); (try clear hi); obtain ⟨hcz46_0, hcz46_1, hcz46_2, hfz46_0, hfz46_1, hfz46_2⟩ := Lib.cel3 (W := w45) BK251.out))
            go_roundg k2
            case measure => have := HJ7.out; have := HK2.out; omega
            case rel => exact ⟨(wrap64 (x56_2 + 1)), (by first | rfl | (simp; done) | (simp [*]; done)), H', ⟨by have := HJ7.out; have := HK2.out; omega⟩, ⟨by (with_reducible repeat (first | apply Kd.R_alloc | apply Kd.R_drewN | apply Kd.R_drew)); exact Kd.R_mono HO_3.out (fun _ hk => trivial)⟩, ⟨by (with_reducible repeat (first | apply Kd.R_alloc | apply Kd.R_drewN | apply Kd.R_drew)); exact Kd.R_mono HO_54.out (fun _ hk => trivial)⟩, ⟨by exact Lib.bs HB.out GE251.out⟩⟩
           ·
            rw [if_neg c42] at H
            have c42b0 : (t252 == ((rd_T33 t232 x56_2).f2)) = false := beq_eq_false_iff_ne.mpr c42
            have c42b1 : (t252 != ((rd_T33 t232 x56_2).f2)) = true := bne_iff_ne.mpr c42
            exact absurd H (by simp)
          ·
           replace c41 := Bool.eq_false_iff.mpr c41
           subst c41
           have H1 : (some false) = some true := by rw [if_neg (show ¬ (false = true) by decide)] at H; exact H
           clear H
           have H := H1
           clear H1
           exact absurd H (by simp)
         ·
          rw [if_neg c39] at H
          exact absurd H (by simp)
        ·
         rw [if_neg c38] at H
         exact absurd H (by simp)
       ·
        rw [if_neg c37] at H
        have c37b0 : decide (x56_2 < (t232.length : Int)) = false := decide_eq_false c37
        clear c37
        by_cases c47 : (t232.length : Int) = 0
        ·
         rw [if_pos c47] at H
         have c47b0 : ((t232.length : Int) == 0) = true := beq_iff_eq.mpr c47
         have c47b1 : ((t232.length : Int) != 0) = false := bne_eq_false_iff_eq.mpr c47
         clear c47
         have hE_ := Option.some.inj H
         try go_wp2
         have n0_ := Aside0.mk (Kd.R_drew HO_3.out)
         have n1_ := Aside0.mk (Kd.R_drew HO_54.out)
         have n2_ := Aside0.mk (below_drew1 HB.out)
         clear HO_3
         clear HO_54
         clear HB
         have HO_3 := n0_
         have HO_54 := n1_
         have HB := n2_
         clear n0_ n1_ n2_
         refine start_ (n := 16) (S := fun w' => True) (ds := []) (Lib.tr [0, 16]) (by kernel_rfl) rfl rfl trivial (fun hHeld => ?_); refine with_tabW laws_FnAcls.tab15 laws_FnAcls.bits15 (fun HT_ HW_ => ?_)
         generalize wr.drew = w48 at HO_3 HO_54 HB hHeld ⊢
         refine Lib.pa ?_ 0 78 [1, 15] HT_ rfl rfl (by kernel_rfl) (fun _ _ _ h => h) (by rfl) ?_ ?_ ?_ ?_; rotate_left; (· intro w'; go_simp; with_reducible rfl); rotate_left; (· simp only [Lib.pw, Lib.px, Lib.py, i64_w, i32_w]; rfl)
         refine Lib.pa ?_ 1 79 [2, 14] HT_ rfl rfl (by kernel_rfl) (fun _ _ _ h => h) (by rfl) ?_ ?_ ?_ ?_; rotate_left; (· intro w'; go_simp; with_reducible rfl); rotate_left; (· simp only [Lib.pw, Lib.px, Lib.py, i64_w, i32_w]; rfl)
         refine Lib.pa ?_ 2 80 [3, 13] HT_ rfl rfl (by kernel_rfl) (fun _ _ _ h => h) (by rfl) ?_ ?_ ?_ ?_; rotate_left; (· intro w'; go_simp; with_reducible rfl); rotate_left; (· simp only [Lib.pw, Lib.px, Lib.py, i64_w, i32_w]; rfl)
         refine Lib.pa ?_ 3 81 [4, 12] HT_ rfl rfl (by kernel_rfl) (fun _ _ _ h => h) (by rfl) ?_ ?_ ?_ ?_; rotate_left; (· intro w'; go_simp; with_reducible rfl); rotate_left; (· simp only [Lib.pw, Lib.px, Lib.py, i64_w, i32_w]; rfl)
         refine Lib.pu 4 82 [5, 11] HT_ rfl rfl (by kernel_rfl) (fun _ _ _ h => h) (by rfl) ?_ ?_ ?_; rotate_left; (· simp only [Lib.pw, Lib.px, Lib.py, i64_w, i32_w]; rfl)
         refine Lib.pu 5 83 [6, 10] HT_ rfl rfl (by kernel_rfl) (fun _ _ _ h => h) (by rfl) ?_ ?_ ?_; rotate_left; (· simp only [Lib.pw, Lib.px, Lib.py, i64_w, i32_w]; rfl)
         refine Lib.pu 6 84 [7, 9] HT_ rfl rfl (by kernel_rfl) (fun _ _ _ h => h) (by rfl) ?_ ?_ ?_; rotate_left; (· simp only [Lib.pw, Lib.px, Lib.py, i64_w, i32_w]; rfl)
         refine Lib.pu 7 85 [8, 8] HT_ rfl rfl (by kernel_rfl) (fun _ _ _ h => h) (by rfl) ?_ ?_ ?_; rotate_left; (· simp only [Lib.pw, Lib.px, Lib.py, i64_w, i32_w]; rfl)
         refine Lib.pu 8 86 [9, 7] HT_ rfl rfl (by kernel_rfl) (fun _ _ _ h => h) (by rfl) ?_ ?_ ?_; rotate_left; (· simp only [Lib.pw, Lib.px, Lib.py, i64_w, i32_w]; rfl)
         refine Lib.pu 9 87 [10, 6] HT_ rfl rfl (by kernel_rfl) (fun _ _ _ h => h) (by rfl) ?_ ?_ ?_; rotate_left; (· simp only [Lib.pw, Lib.px, Lib.py, i64_w, i32_w]; rfl)
         refine Lib.pu 10 88 [11, 5] HT_ rfl rfl (by kernel_rfl) (fun _ _ _ h => h) (by rfl) ?_ ?_ ?_; rotate_left; (· simp only [Lib.pw, Lib.px, Lib.py, i64_w, i32_w]; rfl)
         refine Lib.pu 11 89 [12, 4] HT_ rfl rfl (by kernel_rfl) (fun _ _ _ h => h) (by rfl) ?_ ?_ ?_; rotate_left; (· simp only [Lib.pw, Lib.px, Lib.py, i64_w, i32_w]; rfl)
         refine Lib.pu 12 90 [13, 3] HT_ rfl rfl (by kernel_rfl) (fun _ _ _ h => h) (by rfl) ?_ ?_ ?_; rotate_left; (· simp only [Lib.pw, Lib.px, Lib.py, i64_w, i32_w]; rfl)
         refine Lib.pu 13 91 [14, 2] HT_ rfl rfl (by kernel_rfl) (fun _ _ _ h => h) (by rfl) ?_ ?_ ?_; rotate_left; (· simp only [Lib.pw, Lib.px, Lib.py, i64_w, i32_w]; rfl)
         refine Lib.pa ?_ 14 92 [15, 1] HT_ rfl rfl (by kernel_rfl) (fun _ _ _ h => h) (by rfl) ?_ ?_ ?_ ?_; rotate_left; (· intro w'; go_simp; with_reducible rfl); rotate_left; (· simp only [Lib.pw, Lib.px, Lib.py, i64_w, i32_w]; rfl)
         refine Lib.pa ?_ 15 2 [16] HT_ rfl rfl (by kernel_rfl) (fun _ _ _ h => h) (by rfl) ?_ ?_ ?_ ?_; rotate_left; (· intro w'; go_simp; with_reducible rfl); rotate_left; (· simp only [Lib.pw, Lib.px, Lib.py, i64_w, i32_w]; rfl)
         refine done_ (done_of HT_.out (by kernel_rfl)) ?_
         try go_wp2
         go_ret
         exact ⟨by first | rfl | (simp [errW_none, errW_some] <;> rfl) | (simp at hE_ ⊢; exact hE_) | (simp [*, errW_none, errW_some] <;> rfl), by exact Lib.bw HB.out⟩
        ·
         rw [if_neg c47] at H
         have c47b0 : ((t232.length : Int) == 0) = false := beq_eq_false_iff_ne.mpr c47
         have c47b1 : ((t232.length : Int) != 0) = true := bne_iff_ne.mpr c47
         have c47b2 : ¬ (t232 = []) := fun h_ => c47 (by rw [h_]; rfl)
         replace H := Option.bind_eq_some_iff.mp H
         obtain ⟨t254, A490, H⟩ := H
         try dsimp only at H
         have A49 := Aside0.mk A490
         clear A490
         obtain ⟨ji50, hji50⟩ : ∃ j_ : Int, (wrap64 ((t232.length : Int) - 1)) = j_ := ⟨_, rfl⟩
         replace H : (if 0 ≤ (ji50) then (if (ji50) < (t232.length : Int) then (some (t254 == ((rd_T33 t232 (ji50)).f2))) else (none)) else (none)) = some true := by first | (rw [hji50] at H; exact H) | (simp only [hji50] at H ⊢; exact H)
         (try rw [hji50] at A49)
         have hji50w : (IntKind.i64.wrap ((t232.length : Int) - 1)) = ji50 := (i64_w _).trans hji50
         by_cases c51 : 0 ≤ (ji50)
         ·
          rw [if_pos c51] at H
          have c51b0 : decide (0 ≤ (ji50)) = true := decide_eq_true c51
          clear c51
          by_cases c52 : (ji50) < (t232.length : Int)
          ·
           rw [if_pos c52] at H
           have c52b0 : decide ((ji50) < (t232.length : Int)) = true := decide_eq_true c52
           clear c52
           have hE_ := Option.some.inj H
           try go_wp2
           have n0_ := Aside0.mk (Kd.R_drew HO_3.out)
           have n1_ := Aside0.mk (Kd.R_drew HO_54.out)
           have n2_ := Aside0.mk (below_drew1 HB.out)
           clear HO_3
           clear HO_54
           clear HB
           have HO_3 := n0_
           have HO_54 := n1_
           have HB := n2_
           clear n0_ n1_ n2_
           have p255 : 0 ≤ ((ji50) : Int) := Lib.od
           have q255 : (ji50) < (t232.length : Int) := Lib.od
           obtain ⟨ad255, e255, hx255_0, hx255_1, hx255_2⟩ := at_T33 (Kd.R_reads' HO_3.out).2.2 (ji50) p255 q255
           cases e255
           replace p255 := eq_true p255
           replace q255 := eq_true q255
           refine start_ (n := 16) (S := fun w' => w'.cell? (ad255.add (((ji50)).toNat * 3)) = some (.int .i64 ((rd_T33 t232 (ji50)).f0)) ∧ w'.cell? ⟨(ad255.add (((ji50)).toNat * 3)).block, (ad255.add (((ji50)).toNat * 3)).off + 1, none⟩ = some (.int .i64 ((rd_T33 t232 (ji50)).f1)) ∧ w'.cell? ⟨(ad255.add (((ji50)).toNat * 3)).block, (ad255.add (((ji50)).toNat * 3)).off + 2, none⟩ = some (.int .i64 ((rd_T33 t232 (ji50)).f2))) (ds := []) (Lib.tr [0, 16]) (by kernel_rfl) rfl rfl ⟨hx255_0, hx255_1, hx255_2⟩ (fun hHeld => ?_); refine with_tabW laws_FnAcls.tab15 laws_FnAcls.bits15 (fun HT_ HW_ => ?_)
           generalize wr.drew = w53 at HO_3 HO_54 HB hx255_0 hx255_1 hx255_2 hHeld ⊢
           refine Lib.pa ?_ 0 78 [1, 15] HT_ rfl rfl (by kernel_rfl) (fun _ _ _ h => h) (by rfl) ?_ ?_ ?_ ?_; rotate_left; (· intro w'; go_simp; with_reducible rfl); rotate_left; (· simp only [Lib.pw, Lib.px, Lib.py, i64_w, i32_w]; rfl)
           refine Lib.pa ?_ 1 79 [2, 14] HT_ rfl rfl (by kernel_rfl) (fun _ _ _ h => h) (by rfl) ?_ ?_ ?_ ?_; rotate_left; (· intro w'; go_simp; with_reducible rfl); rotate_left; (· simp only [Lib.pw, Lib.px, Lib.py, i64_w, i32_w]; rfl)
           refine Lib.pa ?_ 2 80 [3, 13] HT_ rfl rfl (by kernel_rfl) (fun _ _ _ h => h) (by rfl) ?_ ?_ ?_ ?_; rotate_left; (· intro w'; go_simp; with_reducible rfl); rotate_left; (· simp only [Lib.pw, Lib.px, Lib.py, i64_w, i32_w]; rfl)
           refine Lib.pa ?_ 3 81 [4, 12] HT_ rfl rfl (by kernel_rfl) (fun _ _ _ h => h) (by rfl) ?_ ?_ ?_ ?_; rotate_left; (· intro w'; go_simp; with_reducible rfl); rotate_left; (· simp only [Lib.pw, Lib.px, Lib.py, i64_w, i32_w]; rfl)
           refine Lib.pa ?_ 4 82 [5, 11] HT_ rfl rfl (by kernel_rfl) (fun _ _ _ h => h) (by rfl) ?_ ?_ ?_ ?_; rotate_left; (· intro w'; go_simp; with_reducible rfl); rotate_left; (· simp only [Lib.pw, Lib.px, Lib.py, i64_w, i32_w]; rfl)
           refine Lib.pa ?_ 6 84 [5, 1, 1, 9] HT_ rfl rfl (by kernel_rfl) (fun _ _ _ h => h) (by rfl) ?_ ?_ ?_ ?_; rotate_left; (· intro w'; go_simp; with_reducible rfl); rotate_left; (· simp only [Lib.pw, Lib.px, Lib.py, i64_w, i32_w]; rfl)
           refine Lib.pa ?_ 7 85 [5, 1, 2, 8] HT_ rfl rfl (by kernel_rfl) (fun _ _ _ h => h) (by rfl) ?_ ?_ ?_ ?_; rotate_left; (· intro w'; go_simp; with_reducible rfl); rotate_left; (· simp only [Lib.pw, Lib.px, Lib.py, i64_w, i32_w]; rfl)
           refine Lib.pa ?_ 8 86 [5, 1, 3, 7] HT_ rfl rfl (by kernel_rfl) (fun _ _ _ h => h) (by rfl) ?_ ?_ ?_ ?_; rotate_left; (· intro w'; go_simp; with_reducible rfl); rotate_left; (· simp only [Lib.pw, Lib.px, Lib.py, i64_w, i32_w]; rfl)
           refine Lib.pa ?_ 9 87 [5, 1, 4, 6] HT_ rfl rfl (by kernel_rfl) (fun _ _ _ h => h) (by rfl) ?_ ?_ ?_ ?_; rotate_left; (· intro w'; go_simp; with_reducible rfl); rotate_left; (· simp only [Lib.pw, Lib.px, Lib.py, i64_w, i32_w]; rfl)
           refine Lib.pa ?_ 10 88 [5, 1, 5, 5] HT_ rfl rfl (by kernel_rfl) (fun _ _ _ h => h) (by rfl) ?_ ?_ ?_ ?_; rotate_left; (· intro w'; go_simp; with_reducible rfl); rotate_left; (· simp only [Lib.pw, Lib.px, Lib.py, i64_w, i32_w]; rfl)
           refine Lib.pa ?_ 11 89 [5, 1, 6, 4] HT_ rfl rfl (by kernel_rfl) (fun _ _ _ h => h) (by rfl) ?_ ?_ ?_ ?_; rotate_left; (· intro w'; go_simp; with_reducible rfl); rotate_left; (· simp only [Lib.pw, Lib.px, Lib.py, i64_w, i32_w]; rfl)
           refine Lib.pt ?_ 12 90 [5, 1, 7, 3] HT_ HW_ rfl rfl (by kernel_rfl) (fun _ _ _ h => h) (by rfl) ?_ hHeld ?_ ?_ ?_; rotate_left; (· rintro w' ⟨s0, s1, s2⟩; go_simp; with_reducible rfl); rotate_left; (· simp only [Lib.pw, Lib.px, Lib.py, i64_w, i32_w]; rfl)
           refine one_ (i := 5) (N := some 83) (Lib.tr [13, 3]) rfl rfl (one_of HT_.out (by kernel_rfl)) (by decide) (fun K hK => ?_)
           refine goes_ Tryd.func16 (by kernel_rfl) rfl #[.slice (some ad255) t232.length co10] (by rfl) rfl rfl (by (try simp only [List.map_toArray, List.map_cons, List.map_nil]); first | done | rfl | (simp only [List.length_drop, List.length_take]; rfl)) ?_
           with_reducible refine (impl_MaskOf.calls k2 _ _ t232 t254 _ ?side1 ?side2 A49.out).mono ?_
           (case side1 => repeat (first | exact (Kd.R_reads' HO_3.out).2.2 | (with_reducible refine Kd.C_alloc ?_ _) | (with_reducible refine Kd.C_drewN ?_ _) | (with_reducible refine Kd.C_drew ?_)))
           (case side2 => exact (Kd.R_reads' HO_3.out).2.1)
           rintro e w54 ⟨rfl, hb⟩
           have HS0_ := (hb.cell (World.block_lt_of_cell? _ _ (hHeld.1))).trans (hHeld.1)
           have HS1_ := (hb.cell (World.block_lt_of_cell? _ _ (hHeld.2.1))).trans (hHeld.2.1)
           have HS2_ := (hb.cell (World.block_lt_of_cell? _ _ (hHeld.2.2))).trans (hHeld.2.2)
           refine ⟨_, rfl, ?_⟩
           have n0_ := Aside0.mk (Kd.R_below (by exact Lib.cr HO_3.out) hb)
           have n1_ := Aside0.mk (Kd.R_below (by exact Lib.cr HO_54.out) hb)
           have n2_ := Aside0.mk (below_step (by exact Lib.bw HB.out) hb)
           clear HO_3
           clear HO_54
           clear HB
           have HO_3 := n0_
           have HO_54 := n1_
           have HB := n2_
           clear n0_ n1_ n2_
           (try clear hb)
           (try clear hb2)
           (try clear hk)
           (try clear hi)
           refine hK.out _ _ ⟨HS0_, HS1_, HS2_⟩ (fun hHeld => ?_)
           clear hK K
           refine norm_ (a' := ?_) ?_ ?_
           rotate_left
           ·
            show Act.put _ (some 83) _ = _
            simp only [Lib.pw, Lib.px, Lib.py, i64_w, i32_w]
            rfl
           refine Lib.pa ?_ 13 91 [14, 2] HT_ rfl rfl (by kernel_rfl) (fun _ _ _ h => h) (by rfl) ?_ ?_ ?_ ?_; rotate_left; (· intro w'; go_simp; with_reducible rfl); rotate_left; (· simp only [Lib.pw, Lib.px, Lib.py, i64_w, i32_w]; rfl)
           refine Lib.pa ?_ 14 92 [15, 1] HT_ rfl rfl (by kernel_rfl) (fun _ _ _ h => h) (by rfl) ?_ ?_ ?_ ?_; rotate_left; (· intro w'; go_simp; with_reducible rfl); rotate_left; (· simp only [Lib.pw, Lib.px, Lib.py, i64_w, i32_w]; rfl)
           refine Lib.pa ?_ 15 2 [16] HT_ rfl rfl (by kernel_rfl) (fun _ _ _ h => h) (by rfl) ?_ ?_ ?_ ?_; rotate_left; (· intro w'; go_simp; with_reducible rfl); rotate_left; (· simp only [Lib.pw, Lib.px, Lib.py, i64_w, i32_w]; rfl)
           refine done_ (done_of HT_.out (by kernel_rfl)) ?_
           try go_wp2
           go_ret
           exact ⟨by first | rfl | (simp [errW_none, errW_some] <;> rfl) | (simp at hE_ ⊢; exact hE_) | (simp only [← hji50]; first | rfl | (simp [errW_none, errW_some] <;> rfl)) | (simp [*, errW_none, errW_some] <;> rfl), by exact Lib.bw HB.out⟩
          ·
           rw [if_neg c52] at H
           exact absurd H (by simp)
         ·
          rw [if_neg c51] at H
          exact absurd H (by simp)

/-- THE ONE PURE STATEMENT of laws_FnAcls: yours. -/
def laws_FnAcls.Pure : Prop := ∀ (l0 : List Int), l0.length ≤ maxLen → l0.length * 1 ≤ 140737488351232 → (∀ x ∈ l0, (Lit.int .u8 x).wf = true) → ∃ k, laws_FnAcls.f k l0 = some true
theorem laws_FnAcls.walk (P : laws_FnAcls.Pure) (a0 : Option Addr) (len0 cap0 : Nat) (z0 : List Int) (w : World) (ht : Lib.Door w) (w0 : (a0 = none ∧ len0 = 0 ∧ cap0 = 0 ∧ z0 = []) ∨ ∃ x, a0 = some x ∧ len0 ≤ cap0 ∧ cap0 ≤ maxLen ∧ z0.length = cap0 ∧ (∀ i, i < z0.length → w.cell? (x.add i) = some (.int .u8 (z0.getD i 0))) ∧ ∀ n ∈ z0, (Lit.int .u8 n).wf = true) (y0 : len0 * 1 ≤ 140737488351232) :
 Calls Tryd.prog 4 #[.slice a0 len0 cap0] w fun e w' => e = .returned (.bool true) ∧ Below w.heap.size w w' := by
 obtain ⟨l0, rfl, hr0, hm0, hw0, hc0⟩ := ReadsInt.ofRowC w0
 obtain ⟨k, h⟩ := P l0 hm0 y0 hw0
 refine (laws_FnAcls.calls k _ _ l0 w ht (Kd.C_of_reads (d := (0 : Int)) (h1 := fun _ => rfl) hr0) hc0 h).mono ?_
 rintro e w' ⟨rfl, hd⟩
 exact ⟨rfl, hd⟩

end Go.Proofs.YtmnojegajblagacDoor.PFnAcls
