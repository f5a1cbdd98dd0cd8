-- Written by a program of this session over Lean's own print of the program.
import Derived.Test.YtmnojegajblagacDoorPFnExactParseAclx0
import Derived.Test.YtmnojegajblagacDoorPFnExactParseAclx1
import Derived.Test.YtmnojegajblagacDoorPFnExactParseAclx3
import Derived.Test.YtmnojegajblagacDoorPFnExactParseAclx5
namespace Go.Proofs.YtmnojegajblagacDoor.PFnExactParseAcl
open Go.RowKit Go.Proofs.YtmnojegajblagacDoorW.PrintWords Go.Proofs.YtmnojegajblagacDoorW.PrintLast Go.Proofs.YtmnojegajblagacDoorW.PrintMore
attribute [local go_sem] max2_int min2_int max_two min_two max_three min_three max_four min_four   -- for this text's walks alone
set_option linter.unusedVariables false
set_option linter.unusedSimpArgs false

/-! ### spec_ParseAcl: function 5 -/
mutual
def spec_ParseAcl.j2 : Nat → ByteArray → List (S33) → Option ((List (S33)) × Bool)
 | 0, _, _ => none
 | k + 1, x0, x4 => (spec_FormatAcl.f k x4).bind fun t198 => (if t198.toList = ([] : List UInt8) then (some (([] : List (S33)), false)) else ((spec_FormatAcl.f k x4).bind fun t199 => (if t199.toList = x0.toList then (some (x4, true)) else (some (([] : List (S33)), false)))))
def spec_ParseAcl.l0 : Nat → ByteArray → List (S33) → List ByteArray → Int → Int → Option ((List (S33)) × Bool)
 | 0, _, _, _, _, _ => none
 | k + 1, x0, x4, x11, x12, x13 => if x13 < x12 then (if 0 ≤ x13 then (if x13 < (x11.length : Int) then ((spec_SplitAny.f k (rdOf ByteArray.empty x11 x13) (⟨#[58]⟩ : ByteArray)).bind fun t156 => (if x0.toList = ([45] : List UInt8) then (spec_ParseAcl.j2 k x0 x4) else (if (t156.length : Int) = 2 then (if 0 < (t156.length : Int) then (spec_ParseAcl.j1 k x0 x4 t156 x11 x12 x13 (decide (((rdOf ByteArray.empty t156 0).size : Int) < 2))) else (none)) else (spec_ParseAcl.j1 k x0 x4 t156 x11 x12 x13 true)))) else (none)) else (none)) else (spec_ParseAcl.j2 k x0 x4)
def spec_ParseAcl.j1 : Nat → ByteArray → List (S33) → List ByteArray → List ByteArray → Int → Int → Bool → Option ((List (S33)) × Bool)
 | 0, _, _, _, _, _, _, _ => none
 | k + 1, x0, x4, x7, x11, x12, x13, x30 => if x30 = true then (some (([] : List (S33)), false)) else (if 0 < (x7.length : Int) then (if 0 < ((rdOf ByteArray.empty x7 0).size : Int) then (if (bt (rdOf ByteArray.empty x7 0) 0) = 117 then (if 1 ≤ ((rdOf ByteArray.empty x7 0).size : Int) then ((spec_ParseInt.f k ((rdOf ByteArray.empty x7 0).extract 1 (rdOf ByteArray.empty x7 0).size)).bind fun bt163 => (if 1 < (x7.length : Int) then ((spec_ParseInt.f k (rdOf ByteArray.empty x7 1)).bind fun bt166 => (if x4.length < 5864062014805 then (spec_ParseAcl.l0 k x0 (x4 ++ [(⟨1, bt163.1, bt166.1⟩ : S33)]) x11 x12 (wrap64 (x13 + 1))) else (none))) else (none))) else (none)) else (if (bt (rdOf ByteArray.empty x7 0) 0) = 103 then (if 1 ≤ ((rdOf ByteArray.empty x7 0).size : Int) then ((spec_ParseInt.f k ((rdOf ByteArray.empty x7 0).extract 1 (rdOf ByteArray.empty x7 0).size)).bind fun bt172 => (if 1 < (x7.length : Int) then ((spec_ParseInt.f k (rdOf ByteArray.empty x7 1)).bind fun bt175 => (if x4.length < 5864062014805 then (spec_ParseAcl.l0 k x0 (x4 ++ [(⟨2, bt172.1, bt175.1⟩ : S33)]) x11 x12 (wrap64 (x13 + 1))) else (none))) else (none))) else (none)) else (if (bt (rdOf ByteArray.empty x7 0) 0) = 109 then (if 1 ≤ ((rdOf ByteArray.empty x7 0).size : Int) then ((spec_ParseInt.f k ((rdOf ByteArray.empty x7 0).extract 1 (rdOf ByteArray.empty x7 0).size)).bind fun bt181 => (if 1 < (x7.length : Int) then ((spec_ParseInt.f k (rdOf ByteArray.empty x7 1)).bind fun bt184 => (if x4.length < 5864062014805 then (spec_ParseAcl.l0 k x0 (x4 ++ [(⟨3, bt181.1, bt184.1⟩ : S33)]) x11 x12 (wrap64 (x13 + 1))) else (none))) else (none))) else (none)) else (if 1 ≤ ((rdOf ByteArray.empty x7 0).size : Int) then ((spec_ParseInt.f k ((rdOf ByteArray.empty x7 0).extract 1 (rdOf ByteArray.empty x7 0).size)).bind fun bt190 => (if 1 < (x7.length : Int) then ((spec_ParseInt.f k (rdOf ByteArray.empty x7 1)).bind fun bt193 => (if x4.length < 5864062014805 then (spec_ParseAcl.l0 k x0 (x4 ++ [(⟨0, bt190.1, bt193.1⟩ : S33)]) x11 x12 (wrap64 (x13 + 1))) else (none))) else (none))) else (none))))) else (none)) else (none))
end
def spec_ParseAcl.f (k : Nat) (a0 : ByteArray) : Option ((List (S33)) × Bool) := (spec_SplitAny.f k a0 (⟨#[44]⟩ : ByteArray)).bind fun t152 => (spec_ParseAcl.l0 k a0 (([] : List (S33))) t152 (t152.length : Int) 0)
theorem spec_ParseAcl.mono_l : ∀ k, (∀ y0 y1, LeO (spec_ParseAcl.j2 k y0 y1) (spec_ParseAcl.j2 (k + 1) y0 y1)) ∧ (∀ y0 y1 y2 y3 y4, LeO (spec_ParseAcl.l0 k y0 y1 y2 y3 y4) (spec_ParseAcl.l0 (k + 1) y0 y1 y2 y3 y4)) ∧ (∀ y0 y1 y2 y3 y4 y5 y6, LeO (spec_ParseAcl.j1 k y0 y1 y2 y3 y4 y5 y6) (spec_ParseAcl.j1 (k + 1) y0 y1 y2 y3 y4 y5 y6))
 | 0 => ⟨fun _ _ r h => by simp [spec_ParseAcl.j2] at h, fun _ _ _ _ _ r h => by simp [spec_ParseAcl.l0] at h, fun _ _ _ _ _ _ _ r h => by simp [spec_ParseAcl.j1] at h⟩
 | k + 1 => by
  obtain ⟨ih0, ih1, ih2⟩ := spec_ParseAcl.mono_l k
  refine ⟨?_, ?_, ?_⟩
  ·
   intro y0 y1
   unfold spec_ParseAcl.j2
   repeat' first
   | (with_reducible exact ih0 _ _)
   | (with_reducible exact ih1 _ _ _ _ _)
   | (with_reducible exact ih2 _ _ _ _ _ _ _)
   | (with_reducible exact spec_FormatAcl.mono _ _)
   | (with_reducible exact spec_ParseInt.mono _ _)
   | (with_reducible exact spec_SplitAny.mono _ _ _)
   | (with_reducible exact LeO.refl _)
   | (with_reducible exact LeO.none _)
   | (with_reducible refine LeO.ite ?_ ?_)
   | (with_reducible refine LeO.bind ?_ (fun _ => ?_))
   | exact ih0 _ _
   | exact ih1 _ _ _ _ _
   | exact ih2 _ _ _ _ _ _ _
   | exact spec_FormatAcl.mono _ _
   | exact spec_ParseInt.mono _ _
   | exact spec_SplitAny.mono _ _ _
   | exact LeO.none _
   | refine LeO.ite ?_ ?_
   | refine LeO.bind ?_ (fun _ => ?_)
  ·
   intro y0 y1 y2 y3 y4
   unfold spec_ParseAcl.l0
   repeat' first
   | (with_reducible exact ih0 _ _)
   | (with_reducible exact ih1 _ _ _ _ _)
   | (with_reducible exact ih2 _ _ _ _ _ _ _)
   | (with_reducible exact spec_FormatAcl.mono _ _)
   | (with_reducible exact spec_ParseInt.mono _ _)
   | (with_reducible exact spec_SplitAny.mono _ _ _)
   | (with_reducible exact LeO.refl _)
   | (with_reducible exact LeO.none _)
   | (with_reducible refine LeO.ite ?_ ?_)
   | (with_reducible refine LeO.bind ?_ (fun _ => ?_))
   | exact ih0 _ _
   | exact ih1 _ _ _ _ _
   | exact ih2 _ _ _ _ _ _ _
   | exact spec_FormatAcl.mono _ _
   | exact spec_ParseInt.mono _ _
   | exact spec_SplitAny.mono _ _ _
   | exact LeO.none _
   | refine LeO.ite ?_ ?_
   | refine LeO.bind ?_ (fun _ => ?_)
  ·
   intro y0 y1 y2 y3 y4 y5 y6
   unfold spec_ParseAcl.j1
   repeat' first
   | (with_reducible exact ih0 _ _)
   | (with_reducible exact ih1 _ _ _ _ _)
   | (with_reducible exact ih2 _ _ _ _ _ _ _)
   | (with_reducible exact spec_FormatAcl.mono _ _)
   | (with_reducible exact spec_ParseInt.mono _ _)
   | (with_reducible exact spec_SplitAny.mono _ _ _)
   | (with_reducible exact LeO.refl _)
   | (with_reducible exact LeO.none _)
   | (with_reducible refine LeO.ite ?_ ?_)
   | (with_reducible refine LeO.bind ?_ (fun _ => ?_))
   | exact ih0 _ _
   | exact ih1 _ _ _ _ _
   | exact ih2 _ _ _ _ _ _ _
   | exact spec_FormatAcl.mono _ _
   | exact spec_ParseInt.mono _ _
   | exact spec_SplitAny.mono _ _ _
   | exact LeO.none _
   | refine LeO.ite ?_ ?_
   | refine LeO.bind ?_ (fun _ => ?_)
theorem spec_ParseAcl.mono : ∀ a0 k, LeO (spec_ParseAcl.f k a0) (spec_ParseAcl.f (k + 1) a0) := by
 intro a0 k
 obtain ⟨ih0, ih1, ih2⟩ := spec_ParseAcl.mono_l k
 unfold spec_ParseAcl.f
 repeat' first
  | (with_reducible exact ih0 _ _)
  | (with_reducible exact ih1 _ _ _ _ _)
  | (with_reducible exact ih2 _ _ _ _ _ _ _)
  | (with_reducible exact spec_FormatAcl.mono _ _)
  | (with_reducible exact spec_ParseInt.mono _ _)
  | (with_reducible exact spec_SplitAny.mono _ _ _)
  | (with_reducible exact LeO.refl _)
  | (with_reducible exact LeO.none _)
  | (with_reducible refine LeO.ite ?_ ?_)
  | (with_reducible refine LeO.bind ?_ (fun _ => ?_))
  | exact ih0 _ _
  | exact ih1 _ _ _ _ _
  | exact ih2 _ _ _ _ _ _ _
  | exact spec_FormatAcl.mono _ _
  | exact spec_ParseInt.mono _ _
  | exact spec_SplitAny.mono _ _ _
  | exact LeO.none _
  | refine LeO.ite ?_ ?_
  | refine LeO.bind ?_ (fun _ => ?_)
set_option maxHeartbeats 8000000 in
set_option maxRecDepth 100000 in
theorem spec_ParseAcl.calls (k : Nat) (a0 : ByteArray) (r1 : List (S33)) (r2 : Bool) (w : World) (h : spec_ParseAcl.f k a0 = some (r1, r2)) :
 Calls Tryd.prog 5 #[.string a0] w fun e w' => ∃ v0_ : Value, e = .returned (.tuple #[v0_, .bool r2]) ∧ Kd.R k33 33 w' w.heap.size (fun _ => True) v0_ r1 ∧ Below w.heap.size w w' := by
 have hu33 := Tryd.underlying33
 have HB := Aside0.mk (Below.refl w.heap.size w)
 have H : ((spec_SplitAny.f k a0 (⟨#[44]⟩ : ByteArray)).bind fun t152 => (spec_ParseAcl.l0 k a0 (([] : List (S33))) t152 (t152.length : Int) 0)) = some (r1, r2) := h
 clear h
 obtain ⟨y149, hy149⟩ : ∃ y_ : List (S33), y_ = (([] : List (S33))) := ⟨_, rfl⟩
 replace H : ((spec_SplitAny.f k a0 (⟨#[44]⟩ : ByteArray)).bind fun t152 => (spec_ParseAcl.l0 k a0 y149 t152 (t152.length : Int) 0)) = some (r1, r2) := by first | (rw [hy149]; with_reducible exact H) | (have H2_ := (Option.bind_some _ _).symm.trans H; rw [hy149]; with_reducible exact H2_) | (have H2_ := (Option.bind_some _ _).symm.trans H; with_reducible exact H2_) | with_reducible exact H | (rw [hy149]; exact H) | exact H
 have Ny149 := Aside0.mk hy149
 clear hy149
 replace H := Option.bind_eq_some_iff.mp H
 obtain ⟨t152, A20, H⟩ := H
 replace H : (spec_ParseAcl.l0 k a0 y149 t152 (t152.length : Int) 0) = some (r1, r2) := H
 have A2 := Aside0.mk A20
 clear A20
 have HC3 := Aside0.mk H
 clear H
 go_enter Tryd.func5, Tryd.ntmps5
 go_upto_block 0 with (first | ((with_reducible refine gate_dst (N := 9) rfl ?_); (try (refine gate_guard (by rfl) ?_; dsimp only)); refine Kd.R_lit k33 _ 33 ?hg (N := 9) ?hd (xs := ([] : List (S33))) (inner := []) (ok := fun _ => True) (okp := fun _ => True) ?hr ?hp (fun _ hk => hk) trivial (Below.refl _ _) (Nat.le_refl _) (by simp) ?_; (case hd => rfl); (case hg => rfl); (case hr => first | (go_simp; done) | (go_simp; rfl)); (case hp => exact (Reps.none _ _)); intro v150 w4 ho5 hb hg_ hnew_; clear hg_ hnew_; (first | rw [← Ny149.out] at ho5 | (simp only [Int.reduceToNat] at ho5; rw [← Ny149.out] at ho5)); have n0_ := Aside0.mk (Kd.R_lower ho5 (below_size (by exact Lib.bw HB.out))); have n1_ := Aside0.mk (below_step (by exact Lib.bw HB.out) hb); clear HB; have HO151 := n0_; have HB := n1_; clear n0_ n1_; clear hb ho5) | ((with_reducible refine gate_callee (f := 17) rfl ?_); refine goesL_ (some 11) rfl rfl Tryd.func17 (by kernel_rfl) rfl #[.string a0, .string (⟨#[44]⟩ : ByteArray)] rfl (by (try simp only [List.map_toArray, List.map_cons, List.map_nil]); first | done | rfl | (simp only [List.length_drop, List.length_take]; rfl)) ?_; (with_reducible refine (spec_SplitAny.calls k a0 (⟨#[44]⟩ : ByteArray) t152 _ A2.out).mono ?_); rintro e w6 ⟨v153, rfl, ho0, hb⟩; refine ⟨_, rfl, ?_⟩; have n0_ := Aside0.mk (Kd.R_below (by exact Lib.cr HO151.out) hb); have n1_ := Aside0.mk (Kd.R_lower ho0 (below_size (by exact Lib.bw HB.out))); have n2_ := Aside0.mk (below_step (by exact Lib.bw HB.out) hb); clear HO151; clear HB; have HO151 := n0_; have HO154 := n1_; have HB := n2_; clear n0_ n1_ n2_; (try clear hb); (try clear hb2); (try clear hk); (try clear hi); (try clear ho0); obtain ⟨Ao7, co7, eo7⟩ := Kd.R_slice HO154.out; subst eo7))
 (try simp only [Act.put, List.setIfInBounds_toArray, List.set_cons_zero, List.set_cons_succ])
 go_cut [4] (fun v4 wc => ∃ (kq : Nat) (x4_2 : List (S33)), Aside0 (spec_ParseAcl.j2 kq a0 x4_2 = some (r1, r2)) ∧ Aside0 (kq ≤ k) ∧ Aside0 (Kd.R k33 33 wc w.heap.size (fun _ => True) v4 x4_2) ∧ Aside0 (Below w.heap.size w wc))
 case first =>
  have H := HC3.out
  clear HC3
  have H' := Aside0.mk H
  clear H
  go_wp2
  go_loopg [4, 13] k (fun kq v4 v13 w' => ∃ (x4_1 : List (S33)) (x13_1 : Int), v13 = .int .i64 x13_1 ∧ Aside0 (spec_ParseAcl.l0 kq a0 x4_1 t152 (t152.length : Int) x13_1 = some (r1, r2)) ∧ Aside0 (kq ≤ k) ∧ Aside0 (Kd.R k33 33 w' w.heap.size (fun _ => True) v4 x4_1) ∧ Aside0 (Kd.R Kd.string 9 w' w.heap.size (fun _ => True) (.slice Ao7 t152.length co7) t152) ∧ Aside0 (Below w.heap.size w w'))
  case atStart => exact ⟨(y149), (0), (by first | rfl | (simp; done) | (simp [*]; done)), H', ⟨Nat.le_refl _⟩, ⟨by exact Lib.cr HO151.out⟩, ⟨by exact Lib.cr HO154.out⟩, ⟨by exact Lib.bw HB.out⟩⟩
  case round =>
   clear H'
   try clear c1
   try clear p2
   try clear c5
   obtain ⟨x4_1, x13_1, rfl, HA, HK1, HO_4, HO_11, HB⟩ := hrel
   cases gk with
   | zero => exact absurd HA.out (by simp [spec_ParseAcl.l0])
   | succ k1 =>
    have H := HA.out
    clear HA
    simp only [spec_ParseAcl.l0] at H
    by_cases c8 : x13_1 < (t152.length : Int)
    ·
     rw [if_pos c8] at H
     have c8b0 : decide (x13_1 < (t152.length : Int)) = true := decide_eq_true c8
     clear c8
     (first | rw [c8b0] | (simp only [i64_w, i32_w]; rw [c8b0]) | skip)
     by_cases c9 : 0 ≤ x13_1
     ·
      rw [if_pos c9] at H
      have c9b0 : decide (0 ≤ x13_1) = true := decide_eq_true c9
      clear c9
      by_cases c10 : x13_1 < (t152.length : Int)
      ·
       rw [if_pos c10] at H
       have c10b0 : decide (x13_1 < (t152.length : Int)) = true := decide_eq_true c10
       clear c10
       replace H := Option.bind_eq_some_iff.mp H
       obtain ⟨t156, A110, H⟩ := H
       try dsimp only at H
       have A11 := Aside0.mk A110
       clear A110
       by_cases c12 : a0.toList = ([45] : List UInt8)
       ·
        rw [if_pos c12] at H
        have c12b0 : (a0.toList == ([45] : List UInt8)) = true := beq_iff_eq.mpr c12
        have c12b1 : (a0.toList != ([45] : List UInt8)) = false := bne_eq_false_iff_eq.mpr c12
        clear c12
        have H' := Aside0.mk H
        clear H
        have p155 : 0 ≤ (x13_1 : Int) := Lib.od
        have q155 : x13_1 < (t152.length : Int) := Lib.od
        obtain ⟨ad155, e155, hx155_0⟩ := Kd.at_string (Kd.R_reads' HO_11.out).2.2 x13_1 p155 q155
        cases e155
        replace p155 := eq_true p155
        replace q155 := eq_true q155
        go_wp2_with (first | ((with_reducible refine gate_callee (f := 17) rfl ?_); refine goesL_ (some 18) rfl rfl Tryd.func17 (by kernel_rfl) rfl #[.string (rdOf ByteArray.empty t152 x13_1), .string (⟨#[58]⟩ : ByteArray)] rfl (by (try simp only [List.map_toArray, List.map_cons, List.map_nil]); first | done | rfl | (simp only [List.length_drop, List.length_take]; rfl)) ?_; (with_reducible refine (spec_SplitAny.calls k1 (rdOf ByteArray.empty t152 x13_1) (⟨#[58]⟩ : ByteArray) t156 _ A11.out).mono ?_); rintro e w13 ⟨v157, rfl, ho0, hb⟩; refine ⟨_, rfl, ?_⟩; have n0_ := Aside0.mk (Kd.R_below (by exact Lib.cr HO_4.out) hb); have n1_ := Aside0.mk (Kd.R_elder' (by exact Lib.cr HO_11.out) (Kd.R_base ho0) hb); have n2_ := Aside0.mk (Kd.R_lower (Kd.R_new' ho0 (Kd.R_lt (by exact Lib.cr HO_11.out))) (below_size (by exact Lib.bw HB.out))); have n3_ := Aside0.mk (below_step (by exact Lib.bw HB.out) hb); clear HO_4; clear HO_11; clear HB; have HO_4 := n0_; have HO_11 := n1_; have HO158 := n2_; have HB := n3_; clear n0_ n1_ n2_ n3_; (try clear hb); (try clear hb2); (try clear hk); (try clear hi); (try clear ho0)))
        go_meet
        case rel => exact ⟨_, (x4_1), H', ⟨by have := HK1.out; first | omega | exact Nat.le_refl _⟩, ⟨by exact Lib.cr HO_4.out⟩, ⟨by exact Lib.bw HB.out⟩⟩
       ·
        rw [if_neg c12] at H
        have c12b0 : (a0.toList == ([45] : List UInt8)) = false := beq_eq_false_iff_ne.mpr c12
        have c12b1 : (a0.toList != ([45] : List UInt8)) = true := bne_iff_ne.mpr c12
        have HC14 := Aside0.mk H
        clear H
        have p155 : 0 ≤ (x13_1 : Int) := Lib.od
        have q155 : x13_1 < (t152.length : Int) := Lib.od
        obtain ⟨ad155, e155, hx155_0⟩ := Kd.at_string (Kd.R_reads' HO_11.out).2.2 x13_1 p155 q155
        cases e155
        replace p155 := eq_true p155
        replace q155 := eq_true q155
        go_upto_region 7 with (first | ((with_reducible refine gate_callee (f := 17) rfl ?_); refine goesL_ (some 18) rfl rfl Tryd.func17 (by kernel_rfl) rfl #[.string (rdOf ByteArray.empty t152 x13_1), .string (⟨#[58]⟩ : ByteArray)] rfl (by (try simp only [List.map_toArray, List.map_cons, List.map_nil]); first | done | rfl | (simp only [List.length_drop, List.length_take]; rfl)) ?_; (with_reducible refine (spec_SplitAny.calls k1 (rdOf ByteArray.empty t152 x13_1) (⟨#[58]⟩ : ByteArray) t156 _ A11.out).mono ?_); rintro e w15 ⟨v157, rfl, ho0, hb⟩; refine ⟨_, rfl, ?_⟩; have n0_ := Aside0.mk (Kd.R_below (by exact Lib.cr HO_4.out) hb); have n1_ := Aside0.mk (Kd.R_elder' (by exact Lib.cr HO_11.out) (Kd.R_base ho0) hb); have n2_ := Aside0.mk (Kd.R_lower (Kd.R_new' ho0 (Kd.R_lt (by exact Lib.cr HO_11.out))) (below_size (by exact Lib.bw HB.out))); have n3_ := Aside0.mk (below_step (by exact Lib.bw HB.out) hb); clear HO_4; clear HO_11; clear HB; have HO_4 := n0_; have HO_11 := n1_; have HO158 := n2_; have HB := n3_; clear n0_ n1_ n2_ n3_; (try clear hb); (try clear hb2); (try clear hk); (try clear hi); (try clear ho0)))
        (try simp only [Act.put, List.setIfInBounds_toArray, List.set_cons_zero, List.set_cons_succ])
        go_cut [30] (fun v30 wc => ∃ (kq : Nat) (x30_13 : Bool), v30 = .bool x30_13 ∧ Aside0 (spec_ParseAcl.j1 kq a0 x4_1 t156 t152 (t152.length : Int) x13_1 x30_13 = some (r1, r2)) ∧ Aside0 (kq ≤ k1) ∧ Aside0 (Kd.R k33 33 wc w.heap.size (fun _ => True) u4 x4_1) ∧ Aside0 (Kd.R Kd.string 9 wc w.heap.size (fun k_ => some k_ ≠ ((.slice (some ad155) t152.length co7) : Value).ownBlock) v157 t156) ∧ Aside0 (Kd.R Kd.string 9 wc w.heap.size (fun k_ => some k_ ≠ (v157 : Value).ownBlock) (.slice (some ad155) t152.length co7) t152) ∧ Aside0 (Below w.heap.size w wc))
        case first =>
         have H := HC14.out
         clear HC14
         by_cases c16 : (t156.length : Int) = 2
         ·
          rw [if_pos c16] at H
          have c16b0 : ((t156.length : Int) == 2) = true := beq_iff_eq.mpr c16
          have c16b1 : ((t156.length : Int) != 2) = false := bne_eq_false_iff_eq.mpr c16
          clear c16
          (first | rw [c16b0] | (simp only [i64_w, i32_w]; rw [c16b0]) | skip)
          by_cases c17 : 0 < (t156.length : Int)
          ·
           rw [if_pos c17] at H
           have c17b0 : decide (0 < (t156.length : Int)) = true := decide_eq_true c17
           have c17b1 : decide (0 < t156.length) = true := decide_eq_true (by omega)
           clear c17
           have H' := Aside0.mk H
           clear H
           obtain ⟨Ao18, co18, eo18⟩ := Kd.R_slice HO158.out
           subst eo18
           have p159 : 0 ≤ (0 : Int) := (by omega)
           have q159 : 0 < (t156.length : Int) := Lib.od
           obtain ⟨ad159, e159, hx159_0⟩ := Kd.at_string (Kd.R_reads' HO158.out).2.2 0 p159 q159
           cases e159
           have qi159 : (0 < t156.length) = True := eq_true (by omega)
           (try rw [show ((0 : Int)).toNat = 0 from rfl] at hx159_0)
           (try rw [Addr.add_zero'] at hx159_0)
           replace p159 := eq_true p159
           replace q159 := eq_true q159
           go_wp2
           go_meet
           case rel => exact ⟨_, (decide (((rdOf ByteArray.empty t156 0).size : Int) < 2)), (by first | rfl | (simp; done) | (simp [*]; done)), H', ⟨by have := HK1.out; first | omega | exact Nat.le_refl _⟩, ⟨by exact Lib.cr HO_4.out⟩, ⟨by (with_reducible repeat (first | apply Kd.R_alloc | apply Kd.R_drewN | apply Kd.R_drew)); exact Kd.R_mono HO158.out (fun _ hk => hk.2)⟩, ⟨by (with_reducible repeat (first | apply Kd.R_alloc | apply Kd.R_drewN | apply Kd.R_drew)); exact Kd.R_mono HO_11.out (fun _ hk => hk.2)⟩, ⟨by exact Lib.bw HB.out⟩⟩
          ·
           rw [if_neg c17] at H
           exact absurd H (by simp)
         ·
          rw [if_neg c16] at H
          have c16b0 : ((t156.length : Int) == 2) = false := beq_eq_false_iff_ne.mpr c16
          have c16b1 : ((t156.length : Int) != 2) = true := bne_iff_ne.mpr c16
          (first | rw [c16b0] | (simp only [i64_w, i32_w]; rw [c16b0]) | skip)
          have H' := Aside0.mk H
          clear H
          obtain ⟨Ao19, co19, eo19⟩ := Kd.R_slice HO158.out
          subst eo19
          go_wp2
          go_meet
          case rel => exact ⟨_, (true), (by first | rfl | (simp; done) | (simp [*]; done)), H', ⟨by have := HK1.out; first | omega | exact Nat.le_refl _⟩, ⟨by exact Lib.cr HO_4.out⟩, ⟨by (with_reducible repeat (first | apply Kd.R_alloc | apply Kd.R_drewN | apply Kd.R_drew)); exact Kd.R_mono HO158.out (fun _ hk => hk.2)⟩, ⟨by (with_reducible repeat (first | apply Kd.R_alloc | apply Kd.R_drewN | apply Kd.R_drew)); exact Kd.R_mono HO_11.out (fun _ hk => hk.2)⟩, ⟨by exact Lib.bw HB.out⟩⟩
        case rest =>
         clear HC14
         try clear c1
         try clear p1
         try clear q1
         try clear hx1
         try clear qi1
         try clear p2
         try clear c5
         try clear c8
         try clear c8b0
         try clear c9
         try clear c9b0
         try clear c10
         try clear c10b0
         try clear c12
         try clear c12b0
         try clear c12b1
         try clear p15
         try clear q15
         try clear hx15
         try clear qi15
         try clear c16
         try clear c16b0
         try clear c16b1
         try clear c17
         try clear c17b0
         try clear c17b1
         try clear hx155_0
         try clear hx159_0
         try clear p155
         try clear p159
         try clear p2
         try clear q155
         try clear q159
         obtain ⟨kq, x30_13, rfl, HA, HJ13, HO_4, HO_7, HO_11, HB⟩ := hcut
         cases kq with
         | zero => exact absurd HA.out (by simp [spec_ParseAcl.j1])
         | succ kj13 =>
          have H := HA.out
          clear HA
          simp only [spec_ParseAcl.j1] at H
          by_cases c20 : x30_13 = true
          ·
           subst c20
           have H1 : (some (([] : List (S33)), false)) = some (r1, r2) := by rw [if_pos rfl] at H; exact H
           clear H
           have H := H1
           clear H1
           simp only [Option.some.injEq, Prod.mk.injEq] at H
           obtain ⟨rfl, rfl⟩ := H
           go_wp2
           go_ret2
           exact ⟨_, by first | rfl | (simp [errW_none, errW_some] <;> rfl) | (simp [*, errW_none, errW_some] <;> rfl), by first | exact Kd.R_nil _ _ _ _ _ | exact Kd.N_nil _ _ _ _ _ | exact Kd.V_nil _ _ _ _ _ | exact Kd.Q_nil _ _ _ _ _ | exact Kd.S_nil _ _ _ _ _, by exact Lib.bw HB.out⟩
          ·
           replace c20 := Bool.eq_false_iff.mpr c20
           subst c20
           have H1 : (if 0 < (t156.length : Int) then (if 0 < ((rdOf ByteArray.empty t156 0).size : Int) then (if (bt (rdOf ByteArray.empty t156 0) 0) = 117 then (if 1 ≤ ((rdOf ByteArray.empty t156 0).size : Int) then ((spec_ParseInt.f kj13 ((rdOf ByteArray.empty t156 0).extract 1 (rdOf ByteArray.empty t156 0).size)).bind fun bt163 => (if 1 < (t156.length : Int) then ((spec_ParseInt.f kj13 (rdOf ByteArray.empty t156 1)).bind fun bt166 => (if x4_1.length < 5864062014805 then (spec_ParseAcl.l0 kj13 a0 (x4_1 ++ [(⟨1, bt163.1, bt166.1⟩ : S33)]) t152 (t152.length : Int) (wrap64 (x13_1 + 1))) else (none))) else (none))) else (none)) else (if (bt (rdOf ByteArray.empty t156 0) 0) = 103 then (if 1 ≤ ((rdOf ByteArray.empty t156 0).size : Int) then ((spec_ParseInt.f kj13 ((rdOf ByteArray.empty t156 0).extract 1 (rdOf ByteArray.empty t156 0).size)).bind fun bt172 => (if 1 < (t156.length : Int) then ((spec_ParseInt.f kj13 (rdOf ByteArray.empty t156 1)).bind fun bt175 => (if x4_1.length < 5864062014805 then (spec_ParseAcl.l0 kj13 a0 (x4_1 ++ [(⟨2, bt172.1, bt175.1⟩ : S33)]) t152 (t152.length : Int) (wrap64 (x13_1 + 1))) else (none))) else (none))) else (none)) else (if (bt (rdOf ByteArray.empty t156 0) 0) = 109 then (if 1 ≤ ((rdOf ByteArray.empty t156 0).size : Int) then ((spec_ParseInt.f kj13 ((rdOf ByteArray.empty t156 0).extract 1 (rdOf ByteArray.empty t156 0).size)).bind fun bt181 => (if 1 < (t156.length : Int) then ((spec_ParseInt.f kj13 (rdOf ByteArray.empty t156 1)).bind fun bt184 => (if x4_1.length < 5864062014805 then (spec_ParseAcl.l0 kj13 a0 (x4_1 ++ [(⟨3, bt181.1, bt184.1⟩ : S33)]) t152 (t152.length : Int) (wrap64 (x13_1 + 1))) else (none))) else (none))) else (none)) else (if 1 ≤ ((rdOf ByteArray.empty t156 0).size : Int) then ((spec_ParseInt.f kj13 ((rdOf ByteArray.empty t156 0).extract 1 (rdOf ByteArray.empty t156 0).size)).bind fun bt190 => (if 1 < (t156.length : Int) then ((spec_ParseInt.f kj13 (rdOf ByteArray.empty t156 1)).bind fun bt193 => (if x4_1.length < 5864062014805 then (spec_ParseAcl.l0 kj13 a0 (x4_1 ++ [(⟨0, bt190.1, bt193.1⟩ : S33)]) t152 (t152.length : Int) (wrap64 (x13_1 + 1))) else (none))) else (none))) else (none))))) else (none)) else (none)) = some (r1, r2) := by rw [if_neg (show ¬ (false = true) by decide)] at H; exact H
           clear H
           have H := H1
           clear H1
           by_cases c21 : 0 < (t156.length : Int)
           ·
            rw [if_pos c21] at H
            have c21b0 : decide (0 < (t156.length : Int)) = true := decide_eq_true c21
            have c21b1 : decide (0 < t156.length) = true := decide_eq_true (by omega)
            clear c21
            by_cases c22 : 0 < ((rdOf ByteArray.empty t156 0).size : Int)
            ·
             rw [if_pos c22] at H
             have c22b0 : decide (0 < ((rdOf ByteArray.empty t156 0).size : Int)) = true := decide_eq_true c22
             have c22b1 : decide (0 < (rdOf ByteArray.empty t156 0).size) = true := decide_eq_true (by omega)
             clear c22
             by_cases c24 : (bt (rdOf ByteArray.empty t156 0) 0) = 117
             ·
              rw [if_pos c24] at H
              have c24b0 : ((bt (rdOf ByteArray.empty t156 0) 0) == 117) = true := beq_iff_eq.mpr c24
              have c24b1 : ((bt (rdOf ByteArray.empty t156 0) 0) != 117) = false := bne_eq_false_iff_eq.mpr c24
              clear c24
              by_cases c25 : 1 ≤ ((rdOf ByteArray.empty t156 0).size : Int)
              ·
               rw [if_pos c25] at H
               have c25b0 := eq_true c25
               have c25b1 : decide (1 ≤ ((rdOf ByteArray.empty t156 0).size : Int)) = true := decide_eq_true c25
               clear c25
               replace H := Option.bind_eq_some_iff.mp H
               obtain ⟨⟨t163, t164⟩, A260, H⟩ := H
               try dsimp only at H
               have A26 := Aside0.mk A260
               clear A260
               by_cases c27 : 1 < (t156.length : Int)
               ·
                rw [if_pos c27] at H
                have c27b0 : decide (1 < (t156.length : Int)) = true := decide_eq_true c27
                have c27b1 : decide (1 < t156.length) = true := decide_eq_true (by omega)
                clear c27
                replace H := Option.bind_eq_some_iff.mp H
                obtain ⟨⟨t166, t167⟩, A280, H⟩ := H
                try dsimp only at H
                have A28 := Aside0.mk A280
                clear A280
                by_cases c29 : x4_1.length < 5864062014805
                ·
                 rw [if_pos c29] at H
                 have LMc29 := Aside0.mk c29
                 clear c29
                 obtain ⟨y168, hy168⟩ : ∃ y_ : List (S33), y_ = (x4_1 ++ [(⟨1, t163, t166⟩ : S33)]) := ⟨_, rfl⟩
                 replace H : (spec_ParseAcl.l0 kj13 a0 y168 t152 (t152.length : Int) (wrap64 (x13_1 + 1))) = some (r1, r2) := by first | (rw [hy168]; with_reducible exact H) | (have H2_ := (Option.bind_some _ _).symm.trans H; rw [hy168]; with_reducible exact H2_) | (have H2_ := (Option.bind_some _ _).symm.trans H; with_reducible exact H2_) | with_reducible exact H | (rw [hy168]; exact H) | exact H
                 have Ny168 := Aside0.mk hy168
                 clear hy168
                 have H' := Aside0.mk H
                 clear H
                 go_wp2_with (first | ((with_reducible refine gate_dst (N := 8) rfl ?_); (try (refine gate_guard (by rfl) ?_; dsimp only)); refine box_event ?hg (N := 8) ?hd (cs := #[.int .i64 0, .int .i64 0, .int .i64 0]) (t := 33) ?hr ?_; (case hd => rfl); (case hg => rfl); (case hr => first | (go_simp; done) | (go_simp; rfl)); intro gb160 hg w30 hbox hb; have n0_ := Aside0.mk (Kd.R_below (Kd.R_elderB (by exact Lib.cr HO_4.out) gb160 (Nat.le_of_eq hg.symm)) hb); have n1_ := Aside0.mk (Kd.R_below (by exact Lib.cr HO_7.out) hb); have n2_ := Aside0.mk (Kd.R_below (by exact Lib.cr HO_11.out) hb); have n3_ := Aside0.mk (below_step (by exact Lib.bw HB.out) hb); have n4_ := Aside0.mk (hbox); have n5_ := Aside0.mk ((by rw [hg]; exact (below_size (by exact Lib.bw HB.out)) : w.heap.size ≤ gb160)); have n6_ := Aside0.mk ((by rw [hg]; exact (below_size (by exact Lib.bw HB.out)) : w.heap.size ≤ gb160)); clear HO_4; clear HO_7; clear HO_11; clear HB; have HO_4 := n0_; have HO_7 := n1_; have HO_11 := n2_; have HB := n3_; have BK160 := n4_; have GW160 := n5_; have GE160 := n6_; clear n0_ n1_ n2_ n3_ n4_ n5_ n6_; clear hb hbox hg; obtain ⟨hcz31_0, hcz31_1, hcz31_2, hfz31_0, hfz31_1, hfz31_2⟩ := Lib.cel3 (W := w30) BK160.out; obtain ⟨Ao32, co32, eo32⟩ := Kd.R_slice HO_7.out; subst eo32; have p161 : 0 ≤ (0 : Int) := (by omega); have q161 : 0 < (t156.length : Int) := Lib.od; obtain ⟨ad161, e161, hx161_0⟩ := Kd.at_string (Kd.R_reads' HO_7.out).2.2 0 p161 q161; cases e161; have qi161 : (0 < t156.length) = True := eq_true (by omega); (try rw [show ((0 : Int)).toNat = 0 from rfl] at hx161_0); (try rw [Addr.add_zero'] at hx161_0); have hn161_0 : ad161.block ≠ gb160 := Kd.own_blk (Kd.R_ne HO_7.out BK160.out (by decide)); have hn161_1 : ad161.block ≠ gb160 := Kd.own_blk (Kd.R_ne HO_7.out BK160.out (by decide)); have hn161_2 : ad161.block ≠ gb160 := Kd.own_blk (Kd.R_ne HO_7.out BK160.out (by decide)); replace hx161_0 := (cell_far (p := ⟨gb160, 0, none⟩) (by first | (rw [add_block]; exact hn161_0) | (show (Addr.add _ _).block ≠ _; rw [add_block]; exact hn161_0) | exact hn161_0) (.int .i64 0)).trans hx161_0; replace hx161_0 := (cell_far (p := ⟨gb160, 1, none⟩) (by first | (rw [add_block]; exact hn161_1) | (show (Addr.add _ _).block ≠ _; rw [add_block]; exact hn161_1) | exact hn161_1) (.int .i64 0)).trans hx161_0; replace hx161_0 := (cell_far (p := ⟨gb160, 2, none⟩) (by first | (rw [add_block]; exact hn161_2) | (show (Addr.add _ _).block ≠ _; rw [add_block]; exact hn161_2) | exact hn161_2) (.int .i64 0)).trans hx161_0; clear hn161_0; clear hn161_1; clear hn161_2; replace p161 := eq_true p161; replace q161 := eq_true q161; have p23 : 0 ≤ (0 : Int) := (by omega); have q23 : 0 < (rdOf ByteArray.empty t156 0).size := (by have : (0 : Int) < ((rdOf ByteArray.empty t156 0).size : Int) := Lib.od; omega); have hx23 : ∀ h : 0 < (rdOf ByteArray.empty t156 0).size, (((rdOf ByteArray.empty t156 0)[0]'h).toNat : Int) = bt (rdOf ByteArray.empty t156 0) 0 := bt_at (rdOf ByteArray.empty t156 0) 0; clear p23; have qi23 : (0 < ((rdOf ByteArray.empty t156 0).size : Int)) = True := eq_true (Lib.od); replace q23 := eq_true q23; have p162 : 0 ≤ (0 : Int) := (by omega); have q162 : 0 < (t156.length : Int) := Lib.od; obtain ⟨ad162, e162, hx162_0⟩ := Kd.at_string (Kd.R_reads' HO_7.out).2.2 0 p162 q162; obtain rfl : ad161 = ad162 := (by injection e162); have qi162 : (0 < t156.length) = True := eq_true (by omega); (try rw [show ((0 : Int)).toNat = 0 from rfl] at hx162_0); (try rw [Addr.add_zero'] at hx162_0); have hn162_0 : ad161.block ≠ gb160 := Kd.own_blk (Kd.R_ne HO_7.out BK160.out (by decide)); have hn162_1 : ad161.block ≠ gb160 := Kd.own_blk (Kd.R_ne HO_7.out BK160.out (by decide)); have hn162_2 : ad161.block ≠ gb160 := Kd.own_blk (Kd.R_ne HO_7.out BK160.out (by decide)); have hn162_3 : ad161.block ≠ gb160 := Kd.own_blk (Kd.R_ne HO_7.out BK160.out (by decide)); replace hx162_0 := (cell_far (p := ⟨gb160, 0, none⟩) (by first | (rw [add_block]; exact hn162_0) | (show (Addr.add _ _).block ≠ _; rw [add_block]; exact hn162_0) | exact hn162_0) (.int .i64 0)).trans hx162_0; replace hx162_0 := (cell_far (p := ⟨gb160, 1, none⟩) (by first | (rw [add_block]; exact hn162_1) | (show (Addr.add _ _).block ≠ _; rw [add_block]; exact hn162_1) | exact hn162_1) (.int .i64 0)).trans hx162_0; replace hx162_0 := (cell_far (p := ⟨gb160, 2, none⟩) (by first | (rw [add_block]; exact hn162_2) | (show (Addr.add _ _).block ≠ _; rw [add_block]; exact hn162_2) | exact hn162_2) (.int .i64 0)).trans hx162_0; replace hx162_0 := (cell_far (p := ⟨gb160, 0, none⟩) (by first | (rw [add_block]; exact hn162_3) | (show (Addr.add _ _).block ≠ _; rw [add_block]; exact hn162_3) | exact hn162_3) (.int .i64 1)).trans hx162_0; clear hn162_0; clear hn162_1; clear hn162_2; clear hn162_3; replace p162 := eq_true p162; replace q162 := eq_true q162) | ((with_reducible refine gate_callee (f := 18) rfl ?_); refine goesL_ (some 50) rfl rfl Tryd.func18 (by kernel_rfl) rfl #[.string ((rdOf ByteArray.empty t156 0).extract 1 (rdOf ByteArray.empty t156 0).size)] rfl (by (try simp only [List.map_toArray, List.map_cons, List.map_nil]); first | done | rfl | (simp only [List.length_drop, List.length_take]; rfl)) ?_; (with_reducible refine (spec_ParseInt.calls kj13 ((rdOf ByteArray.empty t156 0).extract 1 (rdOf ByteArray.empty t156 0).size) t163 t164 _ A26.out).mono ?_); rintro e w33 ⟨rfl, hb⟩; refine ⟨_, rfl, ?_⟩; have n0_ := Aside0.mk (Kd.R_below (by (with_reducible repeat (first | apply Kd.R_alloc | apply Kd.R_drewN | apply Kd.R_drew)); exact (Kd.R_mono (Kd.R_far (p := ⟨gb160, 0, none⟩) (Kd.R_far (p := ⟨gb160, 2, none⟩) (Kd.R_far (p := ⟨gb160, 1, none⟩) (Kd.R_far (p := ⟨gb160, 0, none⟩) (Kd.R_mono HO_4.out (fun k_ hk => (⟨hk, hk.2⟩ : _ ∧ k_ ≠ gb160))) (fun _ hk => hk.2) (.int .i64 0)) (fun _ hk => hk.2) (.int .i64 0)) (fun _ hk => hk.2) (.int .i64 0)) (fun _ hk => hk.2) (.int .i64 1)) (fun _ h_ => h_.1))) hb); have n1_ := Aside0.mk (Kd.R_below (by (with_reducible repeat (first | apply Kd.R_alloc | apply Kd.R_drewN | apply Kd.R_drew)); exact (Kd.R_mono (Kd.R_far (p := ⟨gb160, 0, none⟩) (Kd.R_far (p := ⟨gb160, 2, none⟩) (Kd.R_far (p := ⟨gb160, 1, none⟩) (Kd.R_far (p := ⟨gb160, 0, none⟩) (Kd.R_types HO_7.out BK160.out (by decide)) (fun _ hk => hk.2) (.int .i64 0)) (fun _ hk => hk.2) (.int .i64 0)) (fun _ hk => hk.2) (.int .i64 0)) (fun _ hk => hk.2) (.int .i64 1)) (fun _ h_ => h_.1))) hb); have n2_ := Aside0.mk (Kd.R_below (by (with_reducible repeat (first | apply Kd.R_alloc | apply Kd.R_drewN | apply Kd.R_drew)); exact (Kd.R_mono (Kd.R_far (p := ⟨gb160, 0, none⟩) (Kd.R_far (p := ⟨gb160, 2, none⟩) (Kd.R_far (p := ⟨gb160, 1, none⟩) (Kd.R_far (p := ⟨gb160, 0, none⟩) (Kd.R_types HO_11.out BK160.out (by decide)) (fun _ hk => hk.2) (.int .i64 0)) (fun _ hk => hk.2) (.int .i64 0)) (fun _ hk => hk.2) (.int .i64 0)) (fun _ hk => hk.2) (.int .i64 1)) (fun _ h_ => h_.1))) hb); have n3_ := Aside0.mk (blk_below (g := gb160) (o := .cells #[.int .i64 1, .int .i64 0, .int .i64 0] 33 (0, 0)) (by (with_reducible repeat (first | refine blk_drewN ?_ _ | refine blk_drew ?_ | refine blk_alloc ?_ _)); refine blk_put (cs := #[.int .i64 0, .int .i64 0, .int .i64 0]) ?_ 0 _ rfl; (with_reducible repeat (first | refine blk_drewN ?_ _ | refine blk_drew ?_ | refine blk_alloc ?_ _)); refine blk_put (cs := #[.int .i64 0, .int .i64 0, .int .i64 0]) ?_ 2 _ rfl; (with_reducible repeat (first | refine blk_drewN ?_ _ | refine blk_drew ?_ | refine blk_alloc ?_ _)); refine blk_put (cs := #[.int .i64 0, .int .i64 0, .int .i64 0]) ?_ 1 _ rfl; (with_reducible repeat (first | refine blk_drewN ?_ _ | refine blk_drew ?_ | refine blk_alloc ?_ _)); refine blk_put (cs := #[.int .i64 0, .int .i64 0, .int .i64 0]) ?_ 0 _ rfl; (with_reducible repeat (first | refine blk_drewN ?_ _ | refine blk_drew ?_ | refine blk_alloc ?_ _)); exact BK160.out) hb); have n4_ := Aside0.mk (below_step (by exact Lib.bs HB.out GE160.out) hb); clear HO_4; clear HO_7; clear HO_11; clear BK160; clear HB; have HO_4 := n0_; have HO_7 := n1_; have HO_11 := n2_; have BK160 := n3_; have HB := n4_; clear n0_ n1_ n2_ n3_ n4_; (try clear hb); (try clear hb2); (try clear hk); (try clear hi); obtain ⟨hcz34_0, hcz34_1, hcz34_2, hfz34_0, hfz34_1, hfz34_2⟩ := Lib.cel3 (W := w33) BK160.out; have p165 : 0 ≤ (1 : Int) := (by omega); have q165 : 1 < (t156.length : Int) := Lib.od; obtain ⟨ad165, e165, hx165_0⟩ := Kd.at_string (Kd.R_reads' HO_7.out).2.2 1 p165 q165; obtain rfl : ad161 = ad165 := (by injection e165); (try simp only [show (1 : Int).toNat = 1 from rfl, Nat.reduceMul, Nat.reduceEqDiff, Go.Addr.add, ↓reduceIte] at hx165_0); have qi165 : (1 < t156.length) = True := eq_true (by omega); (try rw [show ((1 : Int)).toNat = 1 from rfl] at hx165_0); have hn165_0 : ad161.block ≠ gb160 := Kd.own_blk (Kd.R_ne HO_7.out BK160.out (by decide)); replace hx165_0 := (cell_far (p := ⟨gb160, 1, none⟩) (by first | (rw [add_block]; exact hn165_0) | (show (Addr.add _ _).block ≠ _; rw [add_block]; exact hn165_0) | exact hn165_0) (.int .i64 t163)).trans hx165_0; clear hn165_0; replace p165 := eq_true p165; replace q165 := eq_true q165) | ((with_reducible refine gate_callee (f := 18) rfl ?_); refine goesL_ (some 58) rfl rfl Tryd.func18 (by kernel_rfl) rfl #[.string (rdOf ByteArray.empty t156 1)] rfl (by (try simp only [List.map_toArray, List.map_cons, List.map_nil]); first | done | rfl | (simp only [List.length_drop, List.length_take]; rfl)) ?_; (with_reducible refine (spec_ParseInt.calls kj13 (rdOf ByteArray.empty t156 1) t166 t167 _ A28.out).mono ?_); rintro e w35 ⟨rfl, hb⟩; refine ⟨_, rfl, ?_⟩; have n0_ := Aside0.mk (Kd.R_below (by (with_reducible repeat (first | apply Kd.R_alloc | apply Kd.R_drewN | apply Kd.R_drew)); exact (Kd.R_mono (Kd.R_far (p := ⟨gb160, 1, none⟩) (Kd.R_mono HO_4.out (fun k_ hk => (⟨hk, hk.2⟩ : _ ∧ k_ ≠ gb160))) (fun _ hk => hk.2) (.int .i64 t163)) (fun _ h_ => h_.1))) hb); have n1_ := Aside0.mk (Kd.R_below (by (with_reducible repeat (first | apply Kd.R_alloc | apply Kd.R_drewN | apply Kd.R_drew)); exact (Kd.R_mono (Kd.R_far (p := ⟨gb160, 1, none⟩) (Kd.R_types HO_7.out BK160.out (by decide)) (fun _ hk => hk.2) (.int .i64 t163)) (fun _ h_ => h_.1))) hb); have n2_ := Aside0.mk (Kd.R_below (by (with_reducible repeat (first | apply Kd.R_alloc | apply Kd.R_drewN | apply Kd.R_drew)); exact (Kd.R_mono (Kd.R_far (p := ⟨gb160, 1, none⟩) (Kd.R_types HO_11.out BK160.out (by decide)) (fun _ hk => hk.2) (.int .i64 t163)) (fun _ h_ => h_.1))) hb); have n3_ := Aside0.mk (blk_below (g := gb160) (o := .cells #[.int .i64 1, .int .i64 t163, .int .i64 0] 33 (0, 0)) (by (with_reducible repeat (first | refine blk_drewN ?_ _ | refine blk_drew ?_ | refine blk_alloc ?_ _)); refine blk_put (cs := #[.int .i64 1, .int .i64 0, .int .i64 0]) ?_ 1 _ rfl; (with_reducible repeat (first | refine blk_drewN ?_ _ | refine blk_drew ?_ | refine blk_alloc ?_ _)); exact BK160.out) hb); have n4_ := Aside0.mk (below_step (by exact Lib.bs HB.out GE160.out) hb); clear HO_4; clear HO_7; clear HO_11; clear BK160; clear HB; have HO_4 := n0_; have HO_7 := n1_; have HO_11 := n2_; have BK160 := n3_; have HB := n4_; clear n0_ n1_ n2_ n3_ n4_; (try clear hb); (try clear hb2); (try clear hk); (try clear hi); obtain ⟨hcz36_0, hcz36_1, hcz36_2, hfz36_0, hfz36_1, hfz36_2⟩ := Lib.cel3 (W := w35) BK160.out) | ((with_reducible refine gate_builtin (b := .append) (xs := #[.tmp 62, .tmp 64]) rfl ?_); (try (refine gate_guard (by rfl) ?_; dsimp only)); at_builtin; refine Kd.R_append k33 (w0 := w) w.heap.size rfl (.tmp 62) (.tmp 64) 22 33 (.agg #[(.int .i64 0), (.int .i64 0), (.int .i64 0)]) 24 rfl Tryd.underlying22 info33 rfl (by decide) (by omega) u4 x4_1 (⟨1, t163, t166⟩ : S33) [.int .i64 1, .int .i64 t163, .int .i64 t166] (fun k_ => k_ ≠ gb160) (fun _ => False) rfl (by first | (go_simp; done) | (go_simp; rfl)) ?aP (fun _ hk => hk.elim) ?aF ?aO ?aB ?aS ?aL ?_; (case aP => exact k33_mkM _ _ _ (⟨1, t163, t166⟩ : S33)); (case aB => exact (by exact Lib.bs HB.out GE160.out)); (case aF => exact (fun k_ hk => Kd.freshB (g := gb160) (o := .cells #[.int .i64 1, .int .i64 t163, .int .i64 t166] 33 (0, 0)) (by (with_reducible repeat (first | refine blk_drewN ?_ _ | refine blk_drew ?_ | refine blk_alloc ?_ _)); refine blk_put (cs := #[.int .i64 1, .int .i64 t163, .int .i64 0]) ?_ 2 _ rfl; (with_reducible repeat (first | refine blk_drewN ?_ _ | refine blk_drew ?_ | refine blk_alloc ?_ _)); exact BK160.out) k_ hk)); (case aO => exact (by (with_reducible repeat (first | apply Kd.R_alloc | apply Kd.R_drewN | apply Kd.R_drew)); exact Kd.R_mono (Kd.R_far (p := ⟨gb160, 2, none⟩) (Kd.R_mono HO_4.out (fun k_ hk => (⟨hk, hk.2⟩ : _ ∧ k_ ≠ gb160))) (fun _ hk => hk.2) (.int .i64 t166)) (fun _ hk => hk.1.2))); (case aS => exact (below_size (by exact Lib.bs HB.out GE160.out))); (case aL => have := LMc29.out; omega); intro v169 w37 ho hb hg hat; rw [← Ny168.out] at ho; have n0_ := Aside0.mk (Kd.R_over' (by (with_reducible repeat (first | apply Kd.R_alloc | apply Kd.R_drewN | apply Kd.R_drew)); exact (Kd.R_mono (Kd.R_far (p := ⟨gb160, 2, none⟩) (Kd.R_types HO_7.out BK160.out (by decide)) (fun _ hk => hk.2) (.int .i64 t166)) (fun _ h_ => h_.1))) (Kd.R_typed (by (with_reducible repeat (first | apply Kd.R_alloc | apply Kd.R_drewN | apply Kd.R_drew)); exact (Kd.R_mono (Kd.R_far (p := ⟨gb160, 2, none⟩) (Kd.R_mono HO_4.out (fun k_ hk => (⟨hk, hk.2⟩ : _ ∧ k_ ≠ gb160))) (fun _ hk => hk.2) (.int .i64 t166)) (fun _ h_ => h_.1)))) (by decide) hg); have n1_ := Aside0.mk (Kd.R_over' (by (with_reducible repeat (first | apply Kd.R_alloc | apply Kd.R_drewN | apply Kd.R_drew)); exact (Kd.R_mono (Kd.R_far (p := ⟨gb160, 2, none⟩) (Kd.R_types HO_11.out BK160.out (by decide)) (fun _ hk => hk.2) (.int .i64 t166)) (fun _ h_ => h_.1))) (Kd.R_typed (by (with_reducible repeat (first | apply Kd.R_alloc | apply Kd.R_drewN | apply Kd.R_drew)); exact (Kd.R_mono (Kd.R_far (p := ⟨gb160, 2, none⟩) (Kd.R_mono HO_4.out (fun k_ hk => (⟨hk, hk.2⟩ : _ ∧ k_ ≠ gb160))) (fun _ hk => hk.2) (.int .i64 t166)) (fun _ h_ => h_.1)))) (by decide) hg); have n2_ := Aside0.mk (blk_grown (g := gb160) (o := .cells #[.int .i64 1, .int .i64 t163, .int .i64 t166] 33 (0, 0)) (by (with_reducible repeat (first | refine blk_drewN ?_ _ | refine blk_drew ?_ | refine blk_alloc ?_ _)); refine blk_put (cs := #[.int .i64 1, .int .i64 t163, .int .i64 0]) ?_ 2 _ rfl; (with_reducible repeat (first | refine blk_drewN ?_ _ | refine blk_drew ?_ | refine blk_alloc ?_ _)); exact BK160.out) hg (Kd.R_away HO_4.out (fun _ hk => hk.2))); have n3_ := Aside0.mk (hb); have n4_ := Aside0.mk (ho); clear HO_7; clear HO_11; clear BK160; clear HB; clear HO_4; have HO_7 := n0_; have HO_11 := n1_; have BK160 := n2_; have HB := n3_; have HO170 := n4_; clear n0_ n1_ n2_ n3_ n4_; clear ho hb hg hat))
                 go_roundg kj13
                 case measure => have := HK1.out; have := HJ13.out; omega
                 case rel => exact ⟨(y168), (wrap64 (x13_1 + 1)), (by first | rfl | (simp; done) | (simp [*]; done)), H', ⟨by have := HK1.out; have := HJ13.out; omega⟩, ⟨by (with_reducible repeat (first | apply Kd.R_alloc | apply Kd.R_drewN | apply Kd.R_drew)); exact Kd.R_mono HO170.out (fun _ hk => trivial)⟩, ⟨by (with_reducible repeat (first | apply Kd.R_alloc | apply Kd.R_drewN | apply Kd.R_drew)); exact Kd.R_mono HO_11.out (fun _ hk => trivial)⟩, ⟨by exact Lib.bs HB.out GE160.out⟩⟩
                ·
                 rw [if_neg c29] at H
                 exact absurd H (by simp)
               ·
                rw [if_neg c27] at H
                exact absurd H (by simp)
              ·
               rw [if_neg c25] at H
               exact absurd H (by simp)
             ·
              rw [if_neg c24] at H
              have c24b0 : ((bt (rdOf ByteArray.empty t156 0) 0) == 117) = false := beq_eq_false_iff_ne.mpr c24
              have c24b1 : ((bt (rdOf ByteArray.empty t156 0) 0) != 117) = true := bne_iff_ne.mpr c24
              by_cases c38 : (bt (rdOf ByteArray.empty t156 0) 0) = 103
              ·
               rw [if_pos c38] at H
               have c38b0 : ((bt (rdOf ByteArray.empty t156 0) 0) == 103) = true := beq_iff_eq.mpr c38
               have c38b1 : ((bt (rdOf ByteArray.empty t156 0) 0) != 103) = false := bne_eq_false_iff_eq.mpr c38
               clear c38
               by_cases c39 : 1 ≤ ((rdOf ByteArray.empty t156 0).size : Int)
               ·
                rw [if_pos c39] at H
                have c39b0 := eq_true c39
                have c39b1 : decide (1 ≤ ((rdOf ByteArray.empty t156 0).size : Int)) = true := decide_eq_true c39
                clear c39
                replace H := Option.bind_eq_some_iff.mp H
                obtain ⟨⟨t172, t173⟩, A400, H⟩ := H
                try dsimp only at H
                have A40 := Aside0.mk A400
                clear A400
                by_cases c41 : 1 < (t156.length : Int)
                ·
                 rw [if_pos c41] at H
                 have c41b0 : decide (1 < (t156.length : Int)) = true := decide_eq_true c41
                 have c41b1 : decide (1 < t156.length) = true := decide_eq_true (by omega)
                 clear c41
                 replace H := Option.bind_eq_some_iff.mp H
                 obtain ⟨⟨t175, t176⟩, A420, H⟩ := H
                 try dsimp only at H
                 have A42 := Aside0.mk A420
                 clear A420
                 by_cases c43 : x4_1.length < 5864062014805
                 ·
                  rw [if_pos c43] at H
                  have LMc43 := Aside0.mk c43
                  clear c43
                  obtain ⟨y177, hy177⟩ : ∃ y_ : List (S33), y_ = (x4_1 ++ [(⟨2, t172, t175⟩ : S33)]) := ⟨_, rfl⟩
                  replace H : (spec_ParseAcl.l0 kj13 a0 y177 t152 (t152.length : Int) (wrap64 (x13_1 + 1))) = some (r1, r2) := by first | (rw [hy177]; with_reducible exact H) | (have H2_ := (Option.bind_some _ _).symm.trans H; rw [hy177]; with_reducible exact H2_) | (have H2_ := (Option.bind_some _ _).symm.trans H; with_reducible exact H2_) | with_reducible exact H | (rw [hy177]; exact H) | exact H
                  have Ny177 := Aside0.mk hy177
                  clear hy177
                  have H' := Aside0.mk H
                  clear H
                  go_wp2_with (first | ((with_reducible refine gate_dst (N := 8) rfl ?_); (try (refine gate_guard (by rfl) ?_; dsimp only)); refine box_event ?hg (N := 8) ?hd (cs := #[.int .i64 0, .int .i64 0, .int .i64 0]) (t := 33) ?hr ?_; (case hd => rfl); (case hg => rfl); (case hr => first | (go_simp; done) | (go_simp; rfl)); intro gb160 hg w44 hbox hb; have n0_ := Aside0.mk (Kd.R_below (Kd.R_elderB (by exact Lib.cr HO_4.out) gb160 (Nat.le_of_eq hg.symm)) hb); have n1_ := Aside0.mk (Kd.R_below (by exact Lib.cr HO_7.out) hb); have n2_ := Aside0.mk (Kd.R_below (by exact Lib.cr HO_11.out) hb); have n3_ := Aside0.mk (below_step (by exact Lib.bw HB.out) hb); have n4_ := Aside0.mk (hbox); have n5_ := Aside0.mk ((by rw [hg]; exact (below_size (by exact Lib.bw HB.out)) : w.heap.size ≤ gb160)); have n6_ := Aside0.mk ((by rw [hg]; exact (below_size (by exact Lib.bw HB.out)) : w.heap.size ≤ gb160)); clear HO_4; clear HO_7; clear HO_11; clear HB; have HO_4 := n0_; have HO_7 := n1_; have HO_11 := n2_; have HB := n3_; have BK160 := n4_; have GW160 := n5_; have GE160 := n6_; clear n0_ n1_ n2_ n3_ n4_ n5_ n6_; clear hb hbox hg; obtain ⟨hcz45_0, hcz45_1, hcz45_2, hfz45_0, hfz45_1, hfz45_2⟩ := Lib.cel3 (W := w44) BK160.out; obtain ⟨Ao46, co46, eo46⟩ := Kd.R_slice HO_7.out; subst eo46; have p161 : 0 ≤ (0 : Int) := (by omega); have q161 : 0 < (t156.length : Int) := Lib.od; obtain ⟨ad161, e161, hx161_0⟩ := Kd.at_string (Kd.R_reads' HO_7.out).2.2 0 p161 q161; cases e161; have qi161 : (0 < t156.length) = True := eq_true (by omega); (try rw [show ((0 : Int)).toNat = 0 from rfl] at hx161_0); (try rw [Addr.add_zero'] at hx161_0); have hn161_0 : ad161.block ≠ gb160 := Kd.own_blk (Kd.R_ne HO_7.out BK160.out (by decide)); have hn161_1 : ad161.block ≠ gb160 := Kd.own_blk (Kd.R_ne HO_7.out BK160.out (by decide)); have hn161_2 : ad161.block ≠ gb160 := Kd.own_blk (Kd.R_ne HO_7.out BK160.out (by decide)); replace hx161_0 := (cell_far (p := ⟨gb160, 0, none⟩) (by first | (rw [add_block]; exact hn161_0) | (show (Addr.add _ _).block ≠ _; rw [add_block]; exact hn161_0) | exact hn161_0) (.int .i64 0)).trans hx161_0; replace hx161_0 := (cell_far (p := ⟨gb160, 1, none⟩) (by first | (rw [add_block]; exact hn161_1) | (show (Addr.add _ _).block ≠ _; rw [add_block]; exact hn161_1) | exact hn161_1) (.int .i64 0)).trans hx161_0; replace hx161_0 := (cell_far (p := ⟨gb160, 2, none⟩) (by first | (rw [add_block]; exact hn161_2) | (show (Addr.add _ _).block ≠ _; rw [add_block]; exact hn161_2) | exact hn161_2) (.int .i64 0)).trans hx161_0; clear hn161_0; clear hn161_1; clear hn161_2; replace p161 := eq_true p161; replace q161 := eq_true q161; have p23 : 0 ≤ (0 : Int) := (by omega); have q23 : 0 < (rdOf ByteArray.empty t156 0).size := (by have : (0 : Int) < ((rdOf ByteArray.empty t156 0).size : Int) := Lib.od; omega); have hx23 : ∀ h : 0 < (rdOf ByteArray.empty t156 0).size, (((rdOf ByteArray.empty t156 0)[0]'h).toNat : Int) = bt (rdOf ByteArray.empty t156 0) 0 := bt_at (rdOf ByteArray.empty t156 0) 0; clear p23; have qi23 : (0 < ((rdOf ByteArray.empty t156 0).size : Int)) = True := eq_true (Lib.od); replace q23 := eq_true q23; have p171 : 0 ≤ (0 : Int) := (by omega); have q171 : 0 < (t156.length : Int) := Lib.od; obtain ⟨ad171, e171, hx171_0⟩ := Kd.at_string (Kd.R_reads' HO_7.out).2.2 0 p171 q171; obtain rfl : ad161 = ad171 := (by injection e171); have qi171 : (0 < t156.length) = True := eq_true (by omega); (try rw [show ((0 : Int)).toNat = 0 from rfl] at hx171_0); (try rw [Addr.add_zero'] at hx171_0); have hn171_0 : ad161.block ≠ gb160 := Kd.own_blk (Kd.R_ne HO_7.out BK160.out (by decide)); have hn171_1 : ad161.block ≠ gb160 := Kd.own_blk (Kd.R_ne HO_7.out BK160.out (by decide)); have hn171_2 : ad161.block ≠ gb160 := Kd.own_blk (Kd.R_ne HO_7.out BK160.out (by decide)); have hn171_3 : ad161.block ≠ gb160 := Kd.own_blk (Kd.R_ne HO_7.out BK160.out (by decide)); replace hx171_0 := (cell_far (p := ⟨gb160, 0, none⟩) (by first | (rw [add_block]; exact hn171_0) | (show (Addr.add _ _).block ≠ _; rw [add_block]; exact hn171_0) | exact hn171_0) (.int .i64 0)).trans hx171_0; replace hx171_0 := (cell_far (p := ⟨gb160, 1, none⟩) (by first | (rw [add_block]; exact hn171_1) | (show (Addr.add _ _).block ≠ _; rw [add_block]; exact hn171_1) | exact hn171_1) (.int .i64 0)).trans hx171_0; replace hx171_0 := (cell_far (p := ⟨gb160, 2, none⟩) (by first | (rw [add_block]; exact hn171_2) | (show (Addr.add _ _).block ≠ _; rw [add_block]; exact hn171_2) | exact hn171_2) (.int .i64 0)).trans hx171_0; replace hx171_0 := (cell_far (p := ⟨gb160, 0, none⟩) (by first | (rw [add_block]; exact hn171_3) | (show (Addr.add _ _).block ≠ _; rw [add_block]; exact hn171_3) | exact hn171_3) (.int .i64 2)).trans hx171_0; clear hn171_0; clear hn171_1; clear hn171_2; clear hn171_3; replace p171 := eq_true p171; replace q171 := eq_true q171) | ((with_reducible refine gate_callee (f := 18) rfl ?_); refine goesL_ (some 50) rfl rfl Tryd.func18 (by kernel_rfl) rfl #[.string ((rdOf ByteArray.empty t156 0).extract 1 (rdOf ByteArray.empty t156 0).size)] rfl (by (try simp only [List.map_toArray, List.map_cons, List.map_nil]); first | done | rfl | (simp only [List.length_drop, List.length_take]; rfl)) ?_; (with_reducible refine (spec_ParseInt.calls kj13 ((rdOf ByteArray.empty t156 0).extract 1 (rdOf ByteArray.empty t156 0).size) t172 t173 _ A40.out).mono ?_); rintro e w47 ⟨rfl, hb⟩; refine ⟨_, rfl, ?_⟩; have n0_ := Aside0.mk (Kd.R_below (by (with_reducible repeat (first | apply Kd.R_alloc | apply Kd.R_drewN | apply Kd.R_drew)); exact (Kd.R_mono (Kd.R_far (p := ⟨gb160, 0, none⟩) (Kd.R_far (p := ⟨gb160, 2, none⟩) (Kd.R_far (p := ⟨gb160, 1, none⟩) (Kd.R_far (p := ⟨gb160, 0, none⟩) (Kd.R_mono HO_4.out (fun k_ hk => (⟨hk, hk.2⟩ : _ ∧ k_ ≠ gb160))) (fun _ hk => hk.2) (.int .i64 0)) (fun _ hk => hk.2) (.int .i64 0)) (fun _ hk => hk.2) (.int .i64 0)) (fun _ hk => hk.2) (.int .i64 2)) (fun _ h_ => h_.1))) hb); have n1_ := Aside0.mk (Kd.R_below (by (with_reducible repeat (first | apply Kd.R_alloc | apply Kd.R_drewN | apply Kd.R_drew)); exact (Kd.R_mono (Kd.R_far (p := ⟨gb160, 0, none⟩) (Kd.R_far (p := ⟨gb160, 2, none⟩) (Kd.R_far (p := ⟨gb160, 1, none⟩) (Kd.R_far (p := ⟨gb160, 0, none⟩) (Kd.R_types HO_7.out BK160.out (by decide)) (fun _ hk => hk.2) (.int .i64 0)) (fun _ hk => hk.2) (.int .i64 0)) (fun _ hk => hk.2) (.int .i64 0)) (fun _ hk => hk.2) (.int .i64 2)) (fun _ h_ => h_.1))) hb); have n2_ := Aside0.mk (Kd.R_below (by (with_reducible repeat (first | apply Kd.R_alloc | apply Kd.R_drewN | apply Kd.R_drew)); exact (Kd.R_mono (Kd.R_far (p := ⟨gb160, 0, none⟩) (Kd.R_far (p := ⟨gb160, 2, none⟩) (Kd.R_far (p := ⟨gb160, 1, none⟩) (Kd.R_far (p := ⟨gb160, 0, none⟩) (Kd.R_types HO_11.out BK160.out (by decide)) (fun _ hk => hk.2) (.int .i64 0)) (fun _ hk => hk.2) (.int .i64 0)) (fun _ hk => hk.2) (.int .i64 0)) (fun _ hk => hk.2) (.int .i64 2)) (fun _ h_ => h_.1))) hb); have n3_ := Aside0.mk (blk_below (g := gb160) (o := .cells #[.int .i64 2, .int .i64 0, .int .i64 0] 33 (0, 0)) (by (with_reducible repeat (first | refine blk_drewN ?_ _ | refine blk_drew ?_ | refine blk_alloc ?_ _)); refine blk_put (cs := #[.int .i64 0, .int .i64 0, .int .i64 0]) ?_ 0 _ rfl; (with_reducible repeat (first | refine blk_drewN ?_ _ | refine blk_drew ?_ | refine blk_alloc ?_ _)); refine blk_put (cs := #[.int .i64 0, .int .i64 0, .int .i64 0]) ?_ 2 _ rfl; (with_reducible repeat (first | refine blk_drewN ?_ _ | refine blk_drew ?_ | refine blk_alloc ?_ _)); refine blk_put (cs := #[.int .i64 0, .int .i64 0, .int .i64 0]) ?_ 1 _ rfl; (with_reducible repeat (first | refine blk_drewN ?_ _ | refine blk_drew ?_ | refine blk_alloc ?_ _)); refine blk_put (cs := #[.int .i64 0, .int .i64 0, .int .i64 0]) ?_ 0 _ rfl; (with_reducible repeat (first | refine blk_drewN ?_ _ | refine blk_drew ?_ | refine blk_alloc ?_ _)); exact BK160.out) hb); have n4_ := Aside0.mk (below_step (by exact Lib.bs HB.out GE160.out) hb); clear HO_4; clear HO_7; clear HO_11; clear BK160; clear HB; have HO_4 := n0_; have HO_7 := n1_; have HO_11 := n2_; have BK160 := n3_; have HB := n4_; clear n0_ n1_ n2_ n3_ n4_; (try clear hb); (try clear hb2); (try clear hk); (try clear hi); obtain ⟨hcz48_0, hcz48_1, hcz48_2, hfz48_0, hfz48_1, hfz48_2⟩ := Lib.cel3 (W := w47) BK160.out; have p174 : 0 ≤ (1 : Int) := (by omega); have q174 : 1 < (t156.length : Int) := Lib.od; obtain ⟨ad174, e174, hx174_0⟩ := Kd.at_string (Kd.R_reads' HO_7.out).2.2 1 p174 q174; obtain rfl : ad161 = ad174 := (by injection e174); (try simp only [show (1 : Int).toNat = 1 from rfl, Nat.reduceMul, Nat.reduceEqDiff, Go.Addr.add, ↓reduceIte] at hx174_0); have qi174 : (1 < t156.length) = True := eq_true (by omega); (try rw [show ((1 : Int)).toNat = 1 from rfl] at hx174_0); have hn174_0 : ad161.block ≠ gb160 := Kd.own_blk (Kd.R_ne HO_7.out BK160.out (by decide)); replace hx174_0 := (cell_far (p := ⟨gb160, 1, none⟩) (by first | (rw [add_block]; exact hn174_0) | (show (Addr.add _ _).block ≠ _; rw [add_block]; exact hn174_0) | exact hn174_0) (.int .i64 t172)).trans hx174_0; clear hn174_0; replace p174 := eq_true p174; replace q174 := eq_true q174) | ((with_reducible refine gate_callee (f := 18) rfl ?_); refine goesL_ (some 58) rfl rfl Tryd.func18 (by kernel_rfl) rfl #[.string (rdOf ByteArray.empty t156 1)] rfl (by (try simp only [List.map_toArray, List.map_cons, List.map_nil]); first | done | rfl | (simp only [List.length_drop, List.length_take]; rfl)) ?_; (with_reducible refine (spec_ParseInt.calls kj13 (rdOf ByteArray.empty t156 1) t175 t176 _ A42.out).mono ?_); rintro e w49 ⟨rfl, hb⟩; refine ⟨_, rfl, ?_⟩; have n0_ := Aside0.mk (Kd.R_below (by (with_reducible repeat (first | apply Kd.R_alloc | apply Kd.R_drewN | apply Kd.R_drew)); exact (Kd.R_mono (Kd.R_far (p := ⟨gb160, 1, none⟩) (Kd.R_mono HO_4.out (fun k_ hk => (⟨hk, hk.2⟩ : _ ∧ k_ ≠ gb160))) (fun _ hk => hk.2) (.int .i64 t172)) (fun _ h_ => h_.1))) hb); have n1_ := Aside0.mk (Kd.R_below (by (with_reducible repeat (first | apply Kd.R_alloc | apply Kd.R_drewN | apply Kd.R_drew)); exact (Kd.R_mono (Kd.R_far (p := ⟨gb160, 1, none⟩) (Kd.R_types HO_7.out BK160.out (by decide)) (fun _ hk => hk.2) (.int .i64 t172)) (fun _ h_ => h_.1))) hb); have n2_ := Aside0.mk (Kd.R_below (by (with_reducible repeat (first | apply Kd.R_alloc | apply Kd.R_drewN | apply Kd.R_drew)); exact (Kd.R_mono (Kd.R_far (p := ⟨gb160, 1, none⟩) (Kd.R_types HO_11.out BK160.out (by decide)) (fun _ hk => hk.2) (.int .i64 t172)) (fun _ h_ => h_.1))) hb); have n3_ := Aside0.mk (blk_below (g := gb160) (o := .cells #[.int .i64 2, .int .i64 t172, .int .i64 0] 33 (0, 0)) (by (with_reducible repeat (first | refine blk_drewN ?_ _ | refine blk_drew ?_ | refine blk_alloc ?_ _)); refine blk_put (cs := #[.int .i64 2, .int .i64 0, .int .i64 0]) ?_ 1 _ rfl; (with_reducible repeat (first | refine blk_drewN ?_ _ | refine blk_drew ?_ | refine blk_alloc ?_ _)); exact BK160.out) hb); have n4_ := Aside0.mk (below_step (by exact Lib.bs HB.out GE160.out) hb); clear HO_4; clear HO_7; clear HO_11; clear BK160; clear HB; have HO_4 := n0_; have HO_7 := n1_; have HO_11 := n2_; have BK160 := n3_; have HB := n4_; clear n0_ n1_ n2_ n3_ n4_; (try clear hb); (try clear hb2); (try clear hk); (try clear hi); obtain ⟨hcz50_0, hcz50_1, hcz50_2, hfz50_0, hfz50_1, hfz50_2⟩ := Lib.cel3 (W := w49) BK160.out) | ((with_reducible refine gate_builtin (b := .append) (xs := #[.tmp 62, .tmp 64]) rfl ?_); (try (refine gate_guard (by rfl) ?_; dsimp only)); at_builtin; refine Kd.R_append k33 (w0 := w) w.heap.size rfl (.tmp 62) (.tmp 64) 22 33 (.agg #[(.int .i64 0), (.int .i64 0), (.int .i64 0)]) 24 rfl Tryd.underlying22 info33 rfl (by decide) (by omega) u4 x4_1 (⟨2, t172, t175⟩ : S33) [.int .i64 2, .int .i64 t172, .int .i64 t175] (fun k_ => k_ ≠ gb160) (fun _ => False) rfl (by first | (go_simp; done) | (go_simp; rfl)) ?aP (fun _ hk => hk.elim) ?aF ?aO ?aB ?aS ?aL ?_; (case aP => exact k33_mkM _ _ _ (⟨2, t172, t175⟩ : S33)); (case aB => exact (by exact Lib.bs HB.out GE160.out)); (case aF => exact (fun k_ hk => Kd.freshB (g := gb160) (o := .cells #[.int .i64 2, .int .i64 t172, .int .i64 t175] 33 (0, 0)) (by (with_reducible repeat (first | refine blk_drewN ?_ _ | refine blk_drew ?_ | refine blk_alloc ?_ _)); refine blk_put (cs := #[.int .i64 2, .int .i64 t172, .int .i64 0]) ?_ 2 _ rfl; (with_reducible repeat (first | refine blk_drewN ?_ _ | refine blk_drew ?_ | refine blk_alloc ?_ _)); exact BK160.out) k_ hk)); (case aO => exact (by (with_reducible repeat (first | apply Kd.R_alloc | apply Kd.R_drewN | apply Kd.R_drew)); exact Kd.R_mono (Kd.R_far (p := ⟨gb160, 2, none⟩) (Kd.R_mono HO_4.out (fun k_ hk => (⟨hk, hk.2⟩ : _ ∧ k_ ≠ gb160))) (fun _ hk => hk.2) (.int .i64 t175)) (fun _ hk => hk.1.2))); (case aS => exact (below_size (by exact Lib.bs HB.out GE160.out))); (case aL => have := LMc43.out; omega); intro v178 w51 ho hb hg hat; rw [← Ny177.out] at ho; have n0_ := Aside0.mk (Kd.R_over' (by (with_reducible repeat (first | apply Kd.R_alloc | apply Kd.R_drewN | apply Kd.R_drew)); exact (Kd.R_mono (Kd.R_far (p := ⟨gb160, 2, none⟩) (Kd.R_types HO_7.out BK160.out (by decide)) (fun _ hk => hk.2) (.int .i64 t175)) (fun _ h_ => h_.1))) (Kd.R_typed (by (with_reducible repeat (first | apply Kd.R_alloc | apply Kd.R_drewN | apply Kd.R_drew)); exact (Kd.R_mono (Kd.R_far (p := ⟨gb160, 2, none⟩) (Kd.R_mono HO_4.out (fun k_ hk => (⟨hk, hk.2⟩ : _ ∧ k_ ≠ gb160))) (fun _ hk => hk.2) (.int .i64 t175)) (fun _ h_ => h_.1)))) (by decide) hg); have n1_ := Aside0.mk (Kd.R_over' (by (with_reducible repeat (first | apply Kd.R_alloc | apply Kd.R_drewN | apply Kd.R_drew)); exact (Kd.R_mono (Kd.R_far (p := ⟨gb160, 2, none⟩) (Kd.R_types HO_11.out BK160.out (by decide)) (fun _ hk => hk.2) (.int .i64 t175)) (fun _ h_ => h_.1))) (Kd.R_typed (by (with_reducible repeat (first | apply Kd.R_alloc | apply Kd.R_drewN | apply Kd.R_drew)); exact (Kd.R_mono (Kd.R_far (p := ⟨gb160, 2, none⟩) (Kd.R_mono HO_4.out (fun k_ hk => (⟨hk, hk.2⟩ : _ ∧ k_ ≠ gb160))) (fun _ hk => hk.2) (.int .i64 t175)) (fun _ h_ => h_.1)))) (by decide) hg); have n2_ := Aside0.mk (blk_grown (g := gb160) (o := .cells #[.int .i64 2, .int .i64 t172, .int .i64 t175] 33 (0, 0)) (by (with_reducible repeat (first | refine blk_drewN ?_ _ | refine blk_drew ?_ | refine blk_alloc ?_ _)); refine blk_put (cs := #[.int .i64 2, .int .i64 t172, .int .i64 0]) ?_ 2 _ rfl; (with_reducible repeat (first | refine blk_drewN ?_ _ | refine blk_drew ?_ | refine blk_alloc ?_ _)); exact BK160.out) hg (Kd.R_away HO_4.out (fun _ hk => hk.2))); have n3_ := Aside0.mk (hb); have n4_ := Aside0.mk (ho); clear HO_7; clear HO_11; clear BK160; clear HB; clear HO_4; have HO_7 := n0_; have HO_11 := n1_; have BK160 := n2_; have HB := n3_; have HO179 := n4_; clear n0_ n1_ n2_ n3_ n4_; clear ho hb hg hat))
                  go_roundg kj13
                  case measure => have := HK1.out; have := HJ13.out; omega
                  case rel => exact ⟨(y177), (wrap64 (x13_1 + 1)), (by first | rfl | (simp; done) | (simp [*]; done)), H', ⟨by have := HK1.out; have := HJ13.out; omega⟩, ⟨by (with_reducible repeat (first | apply Kd.R_alloc | apply Kd.R_drewN | apply Kd.R_drew)); exact Kd.R_mono HO179.out (fun _ hk => trivial)⟩, ⟨by (with_reducible repeat (first | apply Kd.R_alloc | apply Kd.R_drewN | apply Kd.R_drew)); exact Kd.R_mono HO_11.out (fun _ hk => trivial)⟩, ⟨by exact Lib.bs HB.out GE160.out⟩⟩
                 ·
                  rw [if_neg c43] at H
                  exact absurd H (by simp)
                ·
                 rw [if_neg c41] at H
                 exact absurd H (by simp)
               ·
                rw [if_neg c39] at H
                exact absurd H (by simp)
              ·
               rw [if_neg c38] at H
               have c38b0 : ((bt (rdOf ByteArray.empty t156 0) 0) == 103) = false := beq_eq_false_iff_ne.mpr c38
               have c38b1 : ((bt (rdOf ByteArray.empty t156 0) 0) != 103) = true := bne_iff_ne.mpr c38
               by_cases c52 : (bt (rdOf ByteArray.empty t156 0) 0) = 109
               ·
                rw [if_pos c52] at H
                have c52b0 : ((bt (rdOf ByteArray.empty t156 0) 0) == 109) = true := beq_iff_eq.mpr c52
                have c52b1 : ((bt (rdOf ByteArray.empty t156 0) 0) != 109) = false := bne_eq_false_iff_eq.mpr c52
                clear c52
                by_cases c53 : 1 ≤ ((rdOf ByteArray.empty t156 0).size : Int)
                ·
                 rw [if_pos c53] at H
                 have c53b0 := eq_true c53
                 have c53b1 : decide (1 ≤ ((rdOf ByteArray.empty t156 0).size : Int)) = true := decide_eq_true c53
                 clear c53
                 replace H := Option.bind_eq_some_iff.mp H
                 obtain ⟨⟨t181, t182⟩, A540, H⟩ := H
                 try dsimp only at H
                 have A54 := Aside0.mk A540
                 clear A540
                 by_cases c55 : 1 < (t156.length : Int)
                 ·
                  rw [if_pos c55] at H
                  have c55b0 : decide (1 < (t156.length : Int)) = true := decide_eq_true c55
                  have c55b1 : decide (1 < t156.length) = true := decide_eq_true (by omega)
                  clear c55
                  replace H := Option.bind_eq_some_iff.mp H
                  obtain ⟨⟨t184, t185⟩, A560, H⟩ := H
                  try dsimp only at H
                  have A56 := Aside0.mk A560
                  clear A560
                  by_cases c57 : x4_1.length < 5864062014805
                  ·
                   rw [if_pos c57] at H
                   have LMc57 := Aside0.mk c57
                   clear c57
                   obtain ⟨y186, hy186⟩ : ∃ y_ : List (S33), y_ = (x4_1 ++ [(⟨3, t181, t184⟩ : S33)]) := ⟨_, rfl⟩
                   replace H : (spec_ParseAcl.l0 kj13 a0 y186 t152 (t152.length : Int) (wrap64 (x13_1 + 1))) = some (r1, r2) := by first | (rw [hy186]; with_reducible exact H) | (have H2_ := (Option.bind_some _ _).symm.trans H; rw [hy186]; with_reducible exact H2_) | (have H2_ := (Option.bind_some _ _).symm.trans H; with_reducible exact H2_) | with_reducible exact H | (rw [hy186]; exact H) | exact H
                   have Ny186 := Aside0.mk hy186
                   clear hy186
                   have H' := Aside0.mk H
                   clear H
                   go_wp2_with (first | ((with_reducible refine gate_dst (N := 8) rfl ?_); (try (refine gate_guard (by rfl) ?_; dsimp only)); refine box_event ?hg (N := 8) ?hd (cs := #[.int .i64 0, .int .i64 0, .int .i64 0]) (t := 33) ?hr ?_; (case hd => rfl); (case hg => rfl); (case hr => first | (go_simp; done) | (go_simp; rfl)); intro gb160 hg w58 hbox hb; have n0_ := Aside0.mk (Kd.R_below (Kd.R_elderB (by exact Lib.cr HO_4.out) gb160 (Nat.le_of_eq hg.symm)) hb); have n1_ := Aside0.mk (Kd.R_below (by exact Lib.cr HO_7.out) hb); have n2_ := Aside0.mk (Kd.R_below (by exact Lib.cr HO_11.out) hb); have n3_ := Aside0.mk (below_step (by exact Lib.bw HB.out) hb); have n4_ := Aside0.mk (hbox); have n5_ := Aside0.mk ((by rw [hg]; exact (below_size (by exact Lib.bw HB.out)) : w.heap.size ≤ gb160)); have n6_ := Aside0.mk ((by rw [hg]; exact (below_size (by exact Lib.bw HB.out)) : w.heap.size ≤ gb160)); clear HO_4; clear HO_7; clear HO_11; clear HB; have HO_4 := n0_; have HO_7 := n1_; have HO_11 := n2_; have HB := n3_; have BK160 := n4_; have GW160 := n5_; have GE160 := n6_; clear n0_ n1_ n2_ n3_ n4_ n5_ n6_; clear hb hbox hg; obtain ⟨hcz59_0, hcz59_1, hcz59_2, hfz59_0, hfz59_1, hfz59_2⟩ := Lib.cel3 (W := w58) BK160.out; obtain ⟨Ao60, co60, eo60⟩ := Kd.R_slice HO_7.out; subst eo60; have p161 : 0 ≤ (0 : Int) := (by omega); have q161 : 0 < (t156.length : Int) := Lib.od; obtain ⟨ad161, e161, hx161_0⟩ := Kd.at_string (Kd.R_reads' HO_7.out).2.2 0 p161 q161; cases e161; have qi161 : (0 < t156.length) = True := eq_true (by omega); (try rw [show ((0 : Int)).toNat = 0 from rfl] at hx161_0); (try rw [Addr.add_zero'] at hx161_0); have hn161_0 : ad161.block ≠ gb160 := Kd.own_blk (Kd.R_ne HO_7.out BK160.out (by decide)); have hn161_1 : ad161.block ≠ gb160 := Kd.own_blk (Kd.R_ne HO_7.out BK160.out (by decide)); have hn161_2 : ad161.block ≠ gb160 := Kd.own_blk (Kd.R_ne HO_7.out BK160.out (by decide)); replace hx161_0 := (cell_far (p := ⟨gb160, 0, none⟩) (by first | (rw [add_block]; exact hn161_0) | (show (Addr.add _ _).block ≠ _; rw [add_block]; exact hn161_0) | exact hn161_0) (.int .i64 0)).trans hx161_0; replace hx161_0 := (cell_far (p := ⟨gb160, 1, none⟩) (by first | (rw [add_block]; exact hn161_1) | (show (Addr.add _ _).block ≠ _; rw [add_block]; exact hn161_1) | exact hn161_1) (.int .i64 0)).trans hx161_0; replace hx161_0 := (cell_far (p := ⟨gb160, 2, none⟩) (by first | (rw [add_block]; exact hn161_2) | (show (Addr.add _ _).block ≠ _; rw [add_block]; exact hn161_2) | exact hn161_2) (.int .i64 0)).trans hx161_0; clear hn161_0; clear hn161_1; clear hn161_2; replace p161 := eq_true p161; replace q161 := eq_true q161; have p23 : 0 ≤ (0 : Int) := (by omega); have q23 : 0 < (rdOf ByteArray.empty t156 0).size := (by have : (0 : Int) < ((rdOf ByteArray.empty t156 0).size : Int) := Lib.od; omega); have hx23 : ∀ h : 0 < (rdOf ByteArray.empty t156 0).size, (((rdOf ByteArray.empty t156 0)[0]'h).toNat : Int) = bt (rdOf ByteArray.empty t156 0) 0 := bt_at (rdOf ByteArray.empty t156 0) 0; clear p23; have qi23 : (0 < ((rdOf ByteArray.empty t156 0).size : Int)) = True := eq_true (Lib.od); replace q23 := eq_true q23; have p180 : 0 ≤ (0 : Int) := (by omega); have q180 : 0 < (t156.length : Int) := Lib.od; obtain ⟨ad180, e180, hx180_0⟩ := Kd.at_string (Kd.R_reads' HO_7.out).2.2 0 p180 q180; obtain rfl : ad161 = ad180 := (by injection e180); have qi180 : (0 < t156.length) = True := eq_true (by omega); (try rw [show ((0 : Int)).toNat = 0 from rfl] at hx180_0); (try rw [Addr.add_zero'] at hx180_0); have hn180_0 : ad161.block ≠ gb160 := Kd.own_blk (Kd.R_ne HO_7.out BK160.out (by decide)); have hn180_1 : ad161.block ≠ gb160 := Kd.own_blk (Kd.R_ne HO_7.out BK160.out (by decide)); have hn180_2 : ad161.block ≠ gb160 := Kd.own_blk (Kd.R_ne HO_7.out BK160.out (by decide)); have hn180_3 : ad161.block ≠ gb160 := Kd.own_blk (Kd.R_ne HO_7.out BK160.out (by decide)); replace hx180_0 := (cell_far (p := ⟨gb160, 0, none⟩) (by first | (rw [add_block]; exact hn180_0) | (show (Addr.add _ _).block ≠ _; rw [add_block]; exact hn180_0) | exact hn180_0) (.int .i64 0)).trans hx180_0; replace hx180_0 := (cell_far (p := ⟨gb160, 1, none⟩) (by first | (rw [add_block]; exact hn180_1) | (show (Addr.add _ _).block ≠ _; rw [add_block]; exact hn180_1) | exact hn180_1) (.int .i64 0)).trans hx180_0; replace hx180_0 := (cell_far (p := ⟨gb160, 2, none⟩) (by first | (rw [add_block]; exact hn180_2) | (show (Addr.add _ _).block ≠ _; rw [add_block]; exact hn180_2) | exact hn180_2) (.int .i64 0)).trans hx180_0; replace hx180_0 := (cell_far (p := ⟨gb160, 0, none⟩) (by first | (rw [add_block]; exact hn180_3) | (show (Addr.add _ _).block ≠ _; rw [add_block]; exact hn180_3) | exact hn180_3) (.int .i64 3)).trans hx180_0; clear hn180_0; clear hn180_1; clear hn180_2; clear hn180_3; replace p180 := eq_true p180; replace q180 := eq_true q180) | ((with_reducible refine gate_callee (f := 18) rfl ?_); refine goesL_ (some 50) rfl rfl Tryd.func18 (by kernel_rfl) rfl #[.string ((rdOf ByteArray.empty t156 0).extract 1 (rdOf ByteArray.empty t156 0).size)] rfl (by (try simp only [List.map_toArray, List.map_cons, List.map_nil]); first | done | rfl | (simp only [List.length_drop, List.length_take]; rfl)) ?_; (with_reducible refine (spec_ParseInt.calls kj13 ((rdOf ByteArray.empty t156 0).extract 1 (rdOf ByteArray.empty t156 0).size) t181 t182 _ A54.out).mono ?_); rintro e w61 ⟨rfl, hb⟩; refine ⟨_, rfl, ?_⟩; have n0_ := Aside0.mk (Kd.R_below (by (with_reducible repeat (first | apply Kd.R_alloc | apply Kd.R_drewN | apply Kd.R_drew)); exact (Kd.R_mono (Kd.R_far (p := ⟨gb160, 0, none⟩) (Kd.R_far (p := ⟨gb160, 2, none⟩) (Kd.R_far (p := ⟨gb160, 1, none⟩) (Kd.R_far (p := ⟨gb160, 0, none⟩) (Kd.R_mono HO_4.out (fun k_ hk => (⟨hk, hk.2⟩ : _ ∧ k_ ≠ gb160))) (fun _ hk => hk.2) (.int .i64 0)) (fun _ hk => hk.2) (.int .i64 0)) (fun _ hk => hk.2) (.int .i64 0)) (fun _ hk => hk.2) (.int .i64 3)) (fun _ h_ => h_.1))) hb); have n1_ := Aside0.mk (Kd.R_below (by (with_reducible repeat (first | apply Kd.R_alloc | apply Kd.R_drewN | apply Kd.R_drew)); exact (Kd.R_mono (Kd.R_far (p := ⟨gb160, 0, none⟩) (Kd.R_far (p := ⟨gb160, 2, none⟩) (Kd.R_far (p := ⟨gb160, 1, none⟩) (Kd.R_far (p := ⟨gb160, 0, none⟩) (Kd.R_types HO_7.out BK160.out (by decide)) (fun _ hk => hk.2) (.int .i64 0)) (fun _ hk => hk.2) (.int .i64 0)) (fun _ hk => hk.2) (.int .i64 0)) (fun _ hk => hk.2) (.int .i64 3)) (fun _ h_ => h_.1))) hb); have n2_ := Aside0.mk (Kd.R_below (by (with_reducible repeat (first | apply Kd.R_alloc | apply Kd.R_drewN | apply Kd.R_drew)); exact (Kd.R_mono (Kd.R_far (p := ⟨gb160, 0, none⟩) (Kd.R_far (p := ⟨gb160, 2, none⟩) (Kd.R_far (p := ⟨gb160, 1, none⟩) (Kd.R_far (p := ⟨gb160, 0, none⟩) (Kd.R_types HO_11.out BK160.out (by decide)) (fun _ hk => hk.2) (.int .i64 0)) (fun _ hk => hk.2) (.int .i64 0)) (fun _ hk => hk.2) (.int .i64 0)) (fun _ hk => hk.2) (.int .i64 3)) (fun _ h_ => h_.1))) hb); have n3_ := Aside0.mk (blk_below (g := gb160) (o := .cells #[.int .i64 3, .int .i64 0, .int .i64 0] 33 (0, 0)) (by (with_reducible repeat (first | refine blk_drewN ?_ _ | refine blk_drew ?_ | refine blk_alloc ?_ _)); refine blk_put (cs := #[.int .i64 0, .int .i64 0, .int .i64 0]) ?_ 0 _ rfl; (with_reducible repeat (first | refine blk_drewN ?_ _ | refine blk_drew ?_ | refine blk_alloc ?_ _)); refine blk_put (cs := #[.int .i64 0, .int .i64 0, .int .i64 0]) ?_ 2 _ rfl; (with_reducible repeat (first | refine blk_drewN ?_ _ | refine blk_drew ?_ | refine blk_alloc ?_ _)); refine blk_put (cs := #[.int .i64 0, .int .i64 0, .int .i64 0]) ?_ 1 _ rfl; (with_reducible repeat (first | refine blk_drewN ?_ _ | refine blk_drew ?_ | refine blk_alloc ?_ _)); refine blk_put (cs := #[.int .i64 0, .int .i64 0, .int .i64 0]) ?_ 0 _ rfl; (with_reducible repeat (first | refine blk_drewN ?_ _ | refine blk_drew ?_ | refine blk_alloc ?_ _)); exact BK160.out) hb); have n4_ := Aside0.mk (below_step (by exact Lib.bs HB.out GE160.out) hb); clear HO_4; clear HO_7; clear HO_11; clear BK160; clear HB; have HO_4 := n0_; have HO_7 := n1_; have HO_11 := n2_; have BK160 := n3_; have HB := n4_; clear n0_ n1_ n2_ n3_ n4_; (try clear hb); (try clear hb2); (try clear hk); (try clear hi); obtain ⟨hcz62_0, hcz62_1, hcz62_2, hfz62_0, hfz62_1, hfz62_2⟩ := Lib.cel3 (W := w61) BK160.out; have p183 : 0 ≤ (1 : Int) := (by omega); have q183 : 1 < (t156.length : Int) := Lib.od; obtain ⟨ad183, e183, hx183_0⟩ := Kd.at_string (Kd.R_reads' HO_7.out).2.2 1 p183 q183; obtain rfl : ad161 = ad183 := (by injection e183); (try simp only [show (1 : Int).toNat = 1 from rfl, Nat.reduceMul, Nat.reduceEqDiff, Go.Addr.add, ↓reduceIte] at hx183_0); have qi183 : (1 < t156.length) = True := eq_true (by omega); (try rw [show ((1 : Int)).toNat = 1 from rfl] at hx183_0); have hn183_0 : ad161.block ≠ gb160 := Kd.own_blk (Kd.R_ne HO_7.out BK160.out (by decide)); replace hx183_0 := (cell_far (p := ⟨gb160, 1, none⟩) (by first | (rw [add_block]; exact hn183_0) | (show (Addr.add _ _).block ≠ _; rw [add_block]; exact hn183_0) | exact hn183_0) (.int .i64 t181)).trans hx183_0; clear hn183_0; replace p183 := eq_true p183; replace q183 := eq_true q183) | ((with_reducible refine gate_callee (f := 18) rfl ?_); refine goesL_ (some 58) rfl rfl Tryd.func18 (by kernel_rfl) rfl #[.string (rdOf ByteArray.empty t156 1)] rfl (by (try simp only [List.map_toArray, List.map_cons, List.map_nil]); first | done | rfl | (simp only [List.length_drop, List.length_take]; rfl)) ?_; (with_reducible refine (spec_ParseInt.calls kj13 (rdOf ByteArray.empty t156 1) t184 t185 _ A56.out).mono ?_); rintro e w63 ⟨rfl, hb⟩; refine ⟨_, rfl, ?_⟩; have n0_ := Aside0.mk (Kd.R_below (by (with_reducible repeat (first | apply Kd.R_alloc | apply Kd.R_drewN | apply Kd.R_drew)); exact (Kd.R_mono (Kd.R_far (p := ⟨gb160, 1, none⟩) (Kd.R_mono HO_4.out (fun k_ hk => (⟨hk, hk.2⟩ : _ ∧ k_ ≠ gb160))) (fun _ hk => hk.2) (.int .i64 t181)) (fun _ h_ => h_.1))) hb); have n1_ := Aside0.mk (Kd.R_below (by (with_reducible repeat (first | apply Kd.R_alloc | apply Kd.R_drewN | apply Kd.R_drew)); exact (Kd.R_mono (Kd.R_far (p := ⟨gb160, 1, none⟩) (Kd.R_types HO_7.out BK160.out (by decide)) (fun _ hk => hk.2) (.int .i64 t181)) (fun _ h_ => h_.1))) hb); have n2_ := Aside0.mk (Kd.R_below (by (with_reducible repeat (first | apply Kd.R_alloc | apply Kd.R_drewN | apply Kd.R_drew)); exact (Kd.R_mono (Kd.R_far (p := ⟨gb160, 1, none⟩) (Kd.R_types HO_11.out BK160.out (by decide)) (fun _ hk => hk.2) (.int .i64 t181)) (fun _ h_ => h_.1))) hb); have n3_ := Aside0.mk (blk_below (g := gb160) (o := .cells #[.int .i64 3, .int .i64 t181, .int .i64 0] 33 (0, 0)) (by (with_reducible repeat (first | refine blk_drewN ?_ _ | refine blk_drew ?_ | refine blk_alloc ?_ _)); refine blk_put (cs := #[.int .i64 3, .int .i64 0, .int .i64 0]) ?_ 1 _ rfl; (with_reducible repeat (first | refine blk_drewN ?_ _ | refine blk_drew ?_ | refine blk_alloc ?_ _)); exact BK160.out) hb); have n4_ := Aside0.mk (below_step (by exact Lib.bs HB.out GE160.out) hb); clear HO_4; clear HO_7; clear HO_11; clear BK160; clear HB; have HO_4 := n0_; have HO_7 := n1_; have HO_11 := n2_; have BK160 := n3_; have HB := n4_; clear n0_ n1_ n2_ n3_ n4_; (try clear hb); (try clear hb2); (try clear hk); (try clear hi); obtain ⟨hcz64_0, hcz64_1, hcz64_2, hfz64_0, hfz64_1, hfz64_2⟩ := Lib.cel3 (W := w63) BK160.out) | ((with_reducible refine gate_builtin (b := .append) (xs := #[.tmp 62, .tmp 64]) rfl ?_); (try (refine gate_guard (by rfl) ?_; dsimp only)); at_builtin; refine Kd.R_append k33 (w0 := w) w.heap.size rfl (.tmp 62) (.tmp 64) 22 33 (.agg #[(.int .i64 0), (.int .i64 0), (.int .i64 0)]) 24 rfl Tryd.underlying22 info33 rfl (by decide) (by omega) u4 x4_1 (⟨3, t181, t184⟩ : S33) [.int .i64 3, .int .i64 t181, .int .i64 t184] (fun k_ => k_ ≠ gb160) (fun _ => False) rfl (by first | (go_simp; done) | (go_simp; rfl)) ?aP (fun _ hk => hk.elim) ?aF ?aO ?aB ?aS ?aL ?_; (case aP => exact k33_mkM _ _ _ (⟨3, t181, t184⟩ : S33)); (case aB => exact (by exact Lib.bs HB.out GE160.out)); (case aF => exact (fun k_ hk => Kd.freshB (g := gb160) (o := .cells #[.int .i64 3, .int .i64 t181, .int .i64 t184] 33 (0, 0)) (by (with_reducible repeat (first | refine blk_drewN ?_ _ | refine blk_drew ?_ | refine blk_alloc ?_ _)); refine blk_put (cs := #[.int .i64 3, .int .i64 t181, .int .i64 0]) ?_ 2 _ rfl; (with_reducible repeat (first | refine blk_drewN ?_ _ | refine blk_drew ?_ | refine blk_alloc ?_ _)); exact BK160.out) k_ hk)); (case aO => exact (by (with_reducible repeat (first | apply Kd.R_alloc | apply Kd.R_drewN | apply Kd.R_drew)); exact Kd.R_mono (Kd.R_far (p := ⟨gb160, 2, none⟩) (Kd.R_mono HO_4.out (fun k_ hk => (⟨hk, hk.2⟩ : _ ∧ k_ ≠ gb160))) (fun _ hk => hk.2) (.int .i64 t184)) (fun _ hk => hk.1.2))); (case aS => exact (below_size (by exact Lib.bs HB.out GE160.out))); (case aL => have := LMc57.out; omega); intro v187 w65 ho hb hg hat; rw [← Ny186.out] at ho; have n0_ := Aside0.mk (Kd.R_over' (by (with_reducible repeat (first | apply Kd.R_alloc | apply Kd.R_drewN | apply Kd.R_drew)); exact (Kd.R_mono (Kd.R_far (p := ⟨gb160, 2, none⟩) (Kd.R_types HO_7.out BK160.out (by decide)) (fun _ hk => hk.2) (.int .i64 t184)) (fun _ h_ => h_.1))) (Kd.R_typed (by (with_reducible repeat (first | apply Kd.R_alloc | apply Kd.R_drewN | apply Kd.R_drew)); exact (Kd.R_mono (Kd.R_far (p := ⟨gb160, 2, none⟩) (Kd.R_mono HO_4.out (fun k_ hk => (⟨hk, hk.2⟩ : _ ∧ k_ ≠ gb160))) (fun _ hk => hk.2) (.int .i64 t184)) (fun _ h_ => h_.1)))) (by decide) hg); have n1_ := Aside0.mk (Kd.R_over' (by (with_reducible repeat (first | apply Kd.R_alloc | apply Kd.R_drewN | apply Kd.R_drew)); exact (Kd.R_mono (Kd.R_far (p := ⟨gb160, 2, none⟩) (Kd.R_types HO_11.out BK160.out (by decide)) (fun _ hk => hk.2) (.int .i64 t184)) (fun _ h_ => h_.1))) (Kd.R_typed (by (with_reducible repeat (first | apply Kd.R_alloc | apply Kd.R_drewN | apply Kd.R_drew)); exact (Kd.R_mono (Kd.R_far (p := ⟨gb160, 2, none⟩) (Kd.R_mono HO_4.out (fun k_ hk => (⟨hk, hk.2⟩ : _ ∧ k_ ≠ gb160))) (fun _ hk => hk.2) (.int .i64 t184)) (fun _ h_ => h_.1)))) (by decide) hg); have n2_ := Aside0.mk (blk_grown (g := gb160) (o := .cells #[.int .i64 3, .int .i64 t181, .int .i64 t184] 33 (0, 0)) (by (with_reducible repeat (first | refine blk_drewN ?_ _ | refine blk_drew ?_ | refine blk_alloc ?_ _)); refine blk_put (cs := #[.int .i64 3, .int .i64 t181, .int .i64 0]) ?_ 2 _ rfl; (with_reducible repeat (first | refine blk_drewN ?_ _ | refine blk_drew ?_ | refine blk_alloc ?_ _)); exact BK160.out) hg (Kd.R_away HO_4.out (fun _ hk => hk.2))); have n3_ := Aside0.mk (hb); have n4_ := Aside0.mk (ho); clear HO_7; clear HO_11; clear BK160; clear HB; clear HO_4; have HO_7 := n0_; have HO_11 := n1_; have BK160 := n2_; have HB := n3_; have HO188 := n4_; clear n0_ n1_ n2_ n3_ n4_; clear ho hb hg hat))
                   go_roundg kj13
                   case measure => have := HK1.out; have := HJ13.out; omega
                   case rel => exact ⟨(y186), (wrap64 (x13_1 + 1)), (by first | rfl | (simp; done) | (simp [*]; done)), H', ⟨by have := HK1.out; have := HJ13.out; omega⟩, ⟨by (with_reducible repeat (first | apply Kd.R_alloc | apply Kd.R_drewN | apply Kd.R_drew)); exact Kd.R_mono HO188.out (fun _ hk => trivial)⟩, ⟨by (with_reducible repeat (first | apply Kd.R_alloc | apply Kd.R_drewN | apply Kd.R_drew)); exact Kd.R_mono HO_11.out (fun _ hk => trivial)⟩, ⟨by exact Lib.bs HB.out GE160.out⟩⟩
                  ·
                   rw [if_neg c57] at H
                   exact absurd H (by simp)
                 ·
                  rw [if_neg c55] at H
                  exact absurd H (by simp)
                ·
                 rw [if_neg c53] at H
                 exact absurd H (by simp)
               ·
                rw [if_neg c52] at H
                have c52b0 : ((bt (rdOf ByteArray.empty t156 0) 0) == 109) = false := beq_eq_false_iff_ne.mpr c52
                have c52b1 : ((bt (rdOf ByteArray.empty t156 0) 0) != 109) = true := bne_iff_ne.mpr c52
                by_cases c66 : 1 ≤ ((rdOf ByteArray.empty t156 0).size : Int)
                ·
                 rw [if_pos c66] at H
                 have c66b0 := eq_true c66
                 have c66b1 : decide (1 ≤ ((rdOf ByteArray.empty t156 0).size : Int)) = true := decide_eq_true c66
                 clear c66
                 replace H := Option.bind_eq_some_iff.mp H
                 obtain ⟨⟨t190, t191⟩, A670, H⟩ := H
                 try dsimp only at H
                 have A67 := Aside0.mk A670
                 clear A670
                 by_cases c68 : 1 < (t156.length : Int)
                 ·
                  rw [if_pos c68] at H
                  have c68b0 : decide (1 < (t156.length : Int)) = true := decide_eq_true c68
                  have c68b1 : decide (1 < t156.length) = true := decide_eq_true (by omega)
                  clear c68
                  replace H := Option.bind_eq_some_iff.mp H
                  obtain ⟨⟨t193, t194⟩, A690, H⟩ := H
                  try dsimp only at H
                  have A69 := Aside0.mk A690
                  clear A690
                  by_cases c70 : x4_1.length < 5864062014805
                  ·
                   rw [if_pos c70] at H
                   have LMc70 := Aside0.mk c70
                   clear c70
                   obtain ⟨y195, hy195⟩ : ∃ y_ : List (S33), y_ = (x4_1 ++ [(⟨0, t190, t193⟩ : S33)]) := ⟨_, rfl⟩
                   replace H : (spec_ParseAcl.l0 kj13 a0 y195 t152 (t152.length : Int) (wrap64 (x13_1 + 1))) = some (r1, r2) := by first | (rw [hy195]; with_reducible exact H) | (have H2_ := (Option.bind_some _ _).symm.trans H; rw [hy195]; with_reducible exact H2_) | (have H2_ := (Option.bind_some _ _).symm.trans H; with_reducible exact H2_) | with_reducible exact H | (rw [hy195]; exact H) | exact H
                   have Ny195 := Aside0.mk hy195
                   clear hy195
                   have H' := Aside0.mk H
                   clear H
                   go_wp2_with (first | ((with_reducible refine gate_dst (N := 8) rfl ?_); (try (refine gate_guard (by rfl) ?_; dsimp only)); refine box_event ?hg (N := 8) ?hd (cs := #[.int .i64 0, .int .i64 0, .int .i64 0]) (t := 33) ?hr ?_; (case hd => rfl); (case hg => rfl); (case hr => first | (go_simp; done) | (go_simp; rfl)); intro gb160 hg w71 hbox hb; have n0_ := Aside0.mk (Kd.R_below (Kd.R_elderB (by exact Lib.cr HO_4.out) gb160 (Nat.le_of_eq hg.symm)) hb); have n1_ := Aside0.mk (Kd.R_below (by exact Lib.cr HO_7.out) hb); have n2_ := Aside0.mk (Kd.R_below (by exact Lib.cr HO_11.out) hb); have n3_ := Aside0.mk (below_step (by exact Lib.bw HB.out) hb); have n4_ := Aside0.mk (hbox); have n5_ := Aside0.mk ((by rw [hg]; exact (below_size (by exact Lib.bw HB.out)) : w.heap.size ≤ gb160)); have n6_ := Aside0.mk ((by rw [hg]; exact (below_size (by exact Lib.bw HB.out)) : w.heap.size ≤ gb160)); clear HO_4; clear HO_7; clear HO_11; clear HB; have HO_4 := n0_; have HO_7 := n1_; have HO_11 := n2_; have HB := n3_; have BK160 := n4_; have GW160 := n5_; have GE160 := n6_; clear n0_ n1_ n2_ n3_ n4_ n5_ n6_; clear hb hbox hg; obtain ⟨hcz72_0, hcz72_1, hcz72_2, hfz72_0, hfz72_1, hfz72_2⟩ := Lib.cel3 (W := w71) BK160.out; obtain ⟨Ao73, co73, eo73⟩ := Kd.R_slice HO_7.out; subst eo73; have p161 : 0 ≤ (0 : Int) := (by omega); have q161 : 0 < (t156.length : Int) := Lib.od; obtain ⟨ad161, e161, hx161_0⟩ := Kd.at_string (Kd.R_reads' HO_7.out).2.2 0 p161 q161; cases e161; have qi161 : (0 < t156.length) = True := eq_true (by omega); (try rw [show ((0 : Int)).toNat = 0 from rfl] at hx161_0); (try rw [Addr.add_zero'] at hx161_0); have hn161_0 : ad161.block ≠ gb160 := Kd.own_blk (Kd.R_ne HO_7.out BK160.out (by decide)); have hn161_1 : ad161.block ≠ gb160 := Kd.own_blk (Kd.R_ne HO_7.out BK160.out (by decide)); have hn161_2 : ad161.block ≠ gb160 := Kd.own_blk (Kd.R_ne HO_7.out BK160.out (by decide)); replace hx161_0 := (cell_far (p := ⟨gb160, 0, none⟩) (by first | (rw [add_block]; exact hn161_0) | (show (Addr.add _ _).block ≠ _; rw [add_block]; exact hn161_0) | exact hn161_0) (.int .i64 0)).trans hx161_0; replace hx161_0 := (cell_far (p := ⟨gb160, 1, none⟩) (by first | (rw [add_block]; exact hn161_1) | (show (Addr.add _ _).block ≠ _; rw [add_block]; exact hn161_1) | exact hn161_1) (.int .i64 0)).trans hx161_0; replace hx161_0 := (cell_far (p := ⟨gb160, 2, none⟩) (by first | (rw [add_block]; exact hn161_2) | (show (Addr.add _ _).block ≠ _; rw [add_block]; exact hn161_2) | exact hn161_2) (.int .i64 0)).trans hx161_0; clear hn161_0; clear hn161_1; clear hn161_2; replace p161 := eq_true p161; replace q161 := eq_true q161; have p23 : 0 ≤ (0 : Int) := (by omega); have q23 : 0 < (rdOf ByteArray.empty t156 0).size := (by have : (0 : Int) < ((rdOf ByteArray.empty t156 0).size : Int) := Lib.od; omega); have hx23 : ∀ h : 0 < (rdOf ByteArray.empty t156 0).size, (((rdOf ByteArray.empty t156 0)[0]'h).toNat : Int) = bt (rdOf ByteArray.empty t156 0) 0 := bt_at (rdOf ByteArray.empty t156 0) 0; clear p23; have qi23 : (0 < ((rdOf ByteArray.empty t156 0).size : Int)) = True := eq_true (Lib.od); replace q23 := eq_true q23; have p189 : 0 ≤ (0 : Int) := (by omega); have q189 : 0 < (t156.length : Int) := Lib.od; obtain ⟨ad189, e189, hx189_0⟩ := Kd.at_string (Kd.R_reads' HO_7.out).2.2 0 p189 q189; obtain rfl : ad161 = ad189 := (by injection e189); have qi189 : (0 < t156.length) = True := eq_true (by omega); (try rw [show ((0 : Int)).toNat = 0 from rfl] at hx189_0); (try rw [Addr.add_zero'] at hx189_0); have hn189_0 : ad161.block ≠ gb160 := Kd.own_blk (Kd.R_ne HO_7.out BK160.out (by decide)); have hn189_1 : ad161.block ≠ gb160 := Kd.own_blk (Kd.R_ne HO_7.out BK160.out (by decide)); have hn189_2 : ad161.block ≠ gb160 := Kd.own_blk (Kd.R_ne HO_7.out BK160.out (by decide)); replace hx189_0 := (cell_far (p := ⟨gb160, 0, none⟩) (by first | (rw [add_block]; exact hn189_0) | (show (Addr.add _ _).block ≠ _; rw [add_block]; exact hn189_0) | exact hn189_0) (.int .i64 0)).trans hx189_0; replace hx189_0 := (cell_far (p := ⟨gb160, 1, none⟩) (by first | (rw [add_block]; exact hn189_1) | (show (Addr.add _ _).block ≠ _; rw [add_block]; exact hn189_1) | exact hn189_1) (.int .i64 0)).trans hx189_0; replace hx189_0 := (cell_far (p := ⟨gb160, 2, none⟩) (by first | (rw [add_block]; exact hn189_2) | (show (Addr.add _ _).block ≠ _; rw [add_block]; exact hn189_2) | exact hn189_2) (.int .i64 0)).trans hx189_0; clear hn189_0; clear hn189_1; clear hn189_2; replace p189 := eq_true p189; replace q189 := eq_true q189) | ((with_reducible refine gate_callee (f := 18) rfl ?_); refine goesL_ (some 50) rfl rfl Tryd.func18 (by kernel_rfl) rfl #[.string ((rdOf ByteArray.empty t156 0).extract 1 (rdOf ByteArray.empty t156 0).size)] rfl (by (try simp only [List.map_toArray, List.map_cons, List.map_nil]); first | done | rfl | (simp only [List.length_drop, List.length_take]; rfl)) ?_; (with_reducible refine (spec_ParseInt.calls kj13 ((rdOf ByteArray.empty t156 0).extract 1 (rdOf ByteArray.empty t156 0).size) t190 t191 _ A67.out).mono ?_); rintro e w74 ⟨rfl, hb⟩; refine ⟨_, rfl, ?_⟩; have n0_ := Aside0.mk (Kd.R_below (by (with_reducible repeat (first | apply Kd.R_alloc | apply Kd.R_drewN | apply Kd.R_drew)); exact (Kd.R_mono (Kd.R_far (p := ⟨gb160, 2, none⟩) (Kd.R_far (p := ⟨gb160, 1, none⟩) (Kd.R_far (p := ⟨gb160, 0, none⟩) (Kd.R_mono HO_4.out (fun k_ hk => (⟨hk, hk.2⟩ : _ ∧ k_ ≠ gb160))) (fun _ hk => hk.2) (.int .i64 0)) (fun _ hk => hk.2) (.int .i64 0)) (fun _ hk => hk.2) (.int .i64 0)) (fun _ h_ => h_.1))) hb); have n1_ := Aside0.mk (Kd.R_below (by (with_reducible repeat (first | apply Kd.R_alloc | apply Kd.R_drewN | apply Kd.R_drew)); exact (Kd.R_mono (Kd.R_far (p := ⟨gb160, 2, none⟩) (Kd.R_far (p := ⟨gb160, 1, none⟩) (Kd.R_far (p := ⟨gb160, 0, none⟩) (Kd.R_types HO_7.out BK160.out (by decide)) (fun _ hk => hk.2) (.int .i64 0)) (fun _ hk => hk.2) (.int .i64 0)) (fun _ hk => hk.2) (.int .i64 0)) (fun _ h_ => h_.1))) hb); have n2_ := Aside0.mk (Kd.R_below (by (with_reducible repeat (first | apply Kd.R_alloc | apply Kd.R_drewN | apply Kd.R_drew)); exact (Kd.R_mono (Kd.R_far (p := ⟨gb160, 2, none⟩) (Kd.R_far (p := ⟨gb160, 1, none⟩) (Kd.R_far (p := ⟨gb160, 0, none⟩) (Kd.R_types HO_11.out BK160.out (by decide)) (fun _ hk => hk.2) (.int .i64 0)) (fun _ hk => hk.2) (.int .i64 0)) (fun _ hk => hk.2) (.int .i64 0)) (fun _ h_ => h_.1))) hb); have n3_ := Aside0.mk (blk_below (g := gb160) (o := .cells #[.int .i64 0, .int .i64 0, .int .i64 0] 33 (0, 0)) (by (with_reducible repeat (first | refine blk_drewN ?_ _ | refine blk_drew ?_ | refine blk_alloc ?_ _)); refine blk_put (cs := #[.int .i64 0, .int .i64 0, .int .i64 0]) ?_ 2 _ rfl; (with_reducible repeat (first | refine blk_drewN ?_ _ | refine blk_drew ?_ | refine blk_alloc ?_ _)); refine blk_put (cs := #[.int .i64 0, .int .i64 0, .int .i64 0]) ?_ 1 _ rfl; (with_reducible repeat (first | refine blk_drewN ?_ _ | refine blk_drew ?_ | refine blk_alloc ?_ _)); refine blk_put (cs := #[.int .i64 0, .int .i64 0, .int .i64 0]) ?_ 0 _ rfl; (with_reducible repeat (first | refine blk_drewN ?_ _ | refine blk_drew ?_ | refine blk_alloc ?_ _)); exact BK160.out) hb); have n4_ := Aside0.mk (below_step (by exact Lib.bs HB.out GE160.out) hb); clear HO_4; clear HO_7; clear HO_11; clear BK160; clear HB; have HO_4 := n0_; have HO_7 := n1_; have HO_11 := n2_; have BK160 := n3_; have HB := n4_; clear n0_ n1_ n2_ n3_ n4_; (try clear hb); (try clear hb2); (try clear hk); (try clear hi); obtain ⟨hcz75_0, hcz75_1, hcz75_2, hfz75_0, hfz75_1, hfz75_2⟩ := Lib.cel3 (W := w74) BK160.out; have p192 : 0 ≤ (1 : Int) := (by omega); have q192 : 1 < (t156.length : Int) := Lib.od; obtain ⟨ad192, e192, hx192_0⟩ := Kd.at_string (Kd.R_reads' HO_7.out).2.2 1 p192 q192; obtain rfl : ad161 = ad192 := (by injection e192); (try simp only [show (1 : Int).toNat = 1 from rfl, Nat.reduceMul, Nat.reduceEqDiff, Go.Addr.add, ↓reduceIte] at hx192_0); have qi192 : (1 < t156.length) = True := eq_true (by omega); (try rw [show ((1 : Int)).toNat = 1 from rfl] at hx192_0); have hn192_0 : ad161.block ≠ gb160 := Kd.own_blk (Kd.R_ne HO_7.out BK160.out (by decide)); replace hx192_0 := (cell_far (p := ⟨gb160, 1, none⟩) (by first | (rw [add_block]; exact hn192_0) | (show (Addr.add _ _).block ≠ _; rw [add_block]; exact hn192_0) | exact hn192_0) (.int .i64 t190)).trans hx192_0; clear hn192_0; replace p192 := eq_true p192; replace q192 := eq_true q192) | ((with_reducible refine gate_callee (f := 18) rfl ?_); refine goesL_ (some 58) rfl rfl Tryd.func18 (by kernel_rfl) rfl #[.string (rdOf ByteArray.empty t156 1)] rfl (by (try simp only [List.map_toArray, List.map_cons, List.map_nil]); first | done | rfl | (simp only [List.length_drop, List.length_take]; rfl)) ?_; (with_reducible refine (spec_ParseInt.calls kj13 (rdOf ByteArray.empty t156 1) t193 t194 _ A69.out).mono ?_); rintro e w76 ⟨rfl, hb⟩; refine ⟨_, rfl, ?_⟩; have n0_ := Aside0.mk (Kd.R_below (by (with_reducible repeat (first | apply Kd.R_alloc | apply Kd.R_drewN | apply Kd.R_drew)); exact (Kd.R_mono (Kd.R_far (p := ⟨gb160, 1, none⟩) (Kd.R_mono HO_4.out (fun k_ hk => (⟨hk, hk.2⟩ : _ ∧ k_ ≠ gb160))) (fun _ hk => hk.2) (.int .i64 t190)) (fun _ h_ => h_.1))) hb); have n1_ := Aside0.mk (Kd.R_below (by (with_reducible repeat (first | apply Kd.R_alloc | apply Kd.R_drewN | apply Kd.R_drew)); exact (Kd.R_mono (Kd.R_far (p := ⟨gb160, 1, none⟩) (Kd.R_types HO_7.out BK160.out (by decide)) (fun _ hk => hk.2) (.int .i64 t190)) (fun _ h_ => h_.1))) hb); have n2_ := Aside0.mk (Kd.R_below (by (with_reducible repeat (first | apply Kd.R_alloc | apply Kd.R_drewN | apply Kd.R_drew)); exact (Kd.R_mono (Kd.R_far (p := ⟨gb160, 1, none⟩) (Kd.R_types HO_11.out BK160.out (by decide)) (fun _ hk => hk.2) (.int .i64 t190)) (fun _ h_ => h_.1))) hb); have n3_ := Aside0.mk (blk_below (g := gb160) (o := .cells #[.int .i64 0, .int .i64 t190, .int .i64 0] 33 (0, 0)) (by (with_reducible repeat (first | refine blk_drewN ?_ _ | refine blk_drew ?_ | refine blk_alloc ?_ _)); refine blk_put (cs := #[.int .i64 0, .int .i64 0, .int .i64 0]) ?_ 1 _ rfl; (with_reducible repeat (first | refine blk_drewN ?_ _ | refine blk_drew ?_ | refine blk_alloc ?_ _)); exact BK160.out) hb); have n4_ := Aside0.mk (below_step (by exact Lib.bs HB.out GE160.out) hb); clear HO_4; clear HO_7; clear HO_11; clear BK160; clear HB; have HO_4 := n0_; have HO_7 := n1_; have HO_11 := n2_; have BK160 := n3_; have HB := n4_; clear n0_ n1_ n2_ n3_ n4_; (try clear hb); (try clear hb2); (try clear hk); (try clear hi); obtain ⟨hcz77_0, hcz77_1, hcz77_2, hfz77_0, hfz77_1, hfz77_2⟩ := Lib.cel3 (W := w76) BK160.out) | ((with_reducible refine gate_builtin (b := .append) (xs := #[.tmp 62, .tmp 64]) rfl ?_); (try (refine gate_guard (by rfl) ?_; dsimp only)); at_builtin; refine Kd.R_append k33 (w0 := w) w.heap.size rfl (.tmp 62) (.tmp 64) 22 33 (.agg #[(.int .i64 0), (.int .i64 0), (.int .i64 0)]) 24 rfl Tryd.underlying22 info33 rfl (by decide) (by omega) u4 x4_1 (⟨0, t190, t193⟩ : S33) [.int .i64 0, .int .i64 t190, .int .i64 t193] (fun k_ => k_ ≠ gb160) (fun _ => False) rfl (by first | (go_simp; done) | (go_simp; rfl)) ?aP (fun _ hk => hk.elim) ?aF ?aO ?aB ?aS ?aL ?_; (case aP => exact k33_mkM _ _ _ (⟨0, t190, t193⟩ : S33)); (case aB => exact (by exact Lib.bs HB.out GE160.out)); (case aF => exact (fun k_ hk => Kd.freshB (g := gb160) (o := .cells #[.int .i64 0, .int .i64 t190, .int .i64 t193] 33 (0, 0)) (by (with_reducible repeat (first | refine blk_drewN ?_ _ | refine blk_drew ?_ | refine blk_alloc ?_ _)); refine blk_put (cs := #[.int .i64 0, .int .i64 t190, .int .i64 0]) ?_ 2 _ rfl; (with_reducible repeat (first | refine blk_drewN ?_ _ | refine blk_drew ?_ | refine blk_alloc ?_ _)); exact BK160.out) k_ hk)); (case aO => exact (by (with_reducible repeat (first | apply Kd.R_alloc | apply Kd.R_drewN | apply Kd.R_drew)); exact Kd.R_mono (Kd.R_far (p := ⟨gb160, 2, none⟩) (Kd.R_mono HO_4.out (fun k_ hk => (⟨hk, hk.2⟩ : _ ∧ k_ ≠ gb160))) (fun _ hk => hk.2) (.int .i64 t193)) (fun _ hk => hk.1.2))); (case aS => exact (below_size (by exact Lib.bs HB.out GE160.out))); (case aL => have := LMc70.out; omega); intro v196 w78 ho hb hg hat; rw [← Ny195.out] at ho; have n0_ := Aside0.mk (Kd.R_over' (by (with_reducible repeat (first | apply Kd.R_alloc | apply Kd.R_drewN | apply Kd.R_drew)); exact (Kd.R_mono (Kd.R_far (p := ⟨gb160, 2, none⟩) (Kd.R_types HO_7.out BK160.out (by decide)) (fun _ hk => hk.2) (.int .i64 t193)) (fun _ h_ => h_.1))) (Kd.R_typed (by (with_reducible repeat (first | apply Kd.R_alloc | apply Kd.R_drewN | apply Kd.R_drew)); exact (Kd.R_mono (Kd.R_far (p := ⟨gb160, 2, none⟩) (Kd.R_mono HO_4.out (fun k_ hk => (⟨hk, hk.2⟩ : _ ∧ k_ ≠ gb160))) (fun _ hk => hk.2) (.int .i64 t193)) (fun _ h_ => h_.1)))) (by decide) hg); have n1_ := Aside0.mk (Kd.R_over' (by (with_reducible repeat (first | apply Kd.R_alloc | apply Kd.R_drewN | apply Kd.R_drew)); exact (Kd.R_mono (Kd.R_far (p := ⟨gb160, 2, none⟩) (Kd.R_types HO_11.out BK160.out (by decide)) (fun _ hk => hk.2) (.int .i64 t193)) (fun _ h_ => h_.1))) (Kd.R_typed (by (with_reducible repeat (first | apply Kd.R_alloc | apply Kd.R_drewN | apply Kd.R_drew)); exact (Kd.R_mono (Kd.R_far (p := ⟨gb160, 2, none⟩) (Kd.R_mono HO_4.out (fun k_ hk => (⟨hk, hk.2⟩ : _ ∧ k_ ≠ gb160))) (fun _ hk => hk.2) (.int .i64 t193)) (fun _ h_ => h_.1)))) (by decide) hg); have n2_ := Aside0.mk (blk_grown (g := gb160) (o := .cells #[.int .i64 0, .int .i64 t190, .int .i64 t193] 33 (0, 0)) (by (with_reducible repeat (first | refine blk_drewN ?_ _ | refine blk_drew ?_ | refine blk_alloc ?_ _)); refine blk_put (cs := #[.int .i64 0, .int .i64 t190, .int .i64 0]) ?_ 2 _ rfl; (with_reducible repeat (first | refine blk_drewN ?_ _ | refine blk_drew ?_ | refine blk_alloc ?_ _)); exact BK160.out) hg (Kd.R_away HO_4.out (fun _ hk => hk.2))); have n3_ := Aside0.mk (hb); have n4_ := Aside0.mk (ho); clear HO_7; clear HO_11; clear BK160; clear HB; clear HO_4; have HO_7 := n0_; have HO_11 := n1_; have BK160 := n2_; have HB := n3_; have HO197 := n4_; clear n0_ n1_ n2_ n3_ n4_; clear ho hb hg hat))
                   go_roundg kj13
                   case measure => have := HK1.out; have := HJ13.out; omega
                   case rel => exact ⟨(y195), (wrap64 (x13_1 + 1)), (by first | rfl | (simp; done) | (simp [*]; done)), H', ⟨by have := HK1.out; have := HJ13.out; omega⟩, ⟨by (with_reducible repeat (first | apply Kd.R_alloc | apply Kd.R_drewN | apply Kd.R_drew)); exact Kd.R_mono HO197.out (fun _ hk => trivial)⟩, ⟨by (with_reducible repeat (first | apply Kd.R_alloc | apply Kd.R_drewN | apply Kd.R_drew)); exact Kd.R_mono HO_11.out (fun _ hk => trivial)⟩, ⟨by exact Lib.bs HB.out GE160.out⟩⟩
                  ·
                   rw [if_neg c70] at H
                   exact absurd H (by simp)
                 ·
                  rw [if_neg c68] at H
                  exact absurd H (by simp)
                ·
                 rw [if_neg c66] at H
                 exact absurd H (by simp)
            ·
             rw [if_neg c22] at H
             exact absurd H (by simp)
           ·
            rw [if_neg c21] at H
            exact absurd H (by simp)
      ·
       rw [if_neg c10] at H
       exact absurd H (by simp)
     ·
      rw [if_neg c9] at H
      exact absurd H (by simp)
    ·
     rw [if_neg c8] at H
     have c8b0 : decide (x13_1 < (t152.length : Int)) = false := decide_eq_false c8
     clear c8
     (first | rw [c8b0] | (simp only [i64_w, i32_w]; rw [c8b0]) | skip)
     have H' := Aside0.mk H
     clear H
     go_wp2
     go_meet
     case rel => exact ⟨_, (x4_1), H', ⟨by have := HK1.out; first | omega | exact Nat.le_refl _⟩, ⟨by exact Lib.cr HO_4.out⟩, ⟨by exact Lib.bw HB.out⟩⟩
 case rest =>
  clear HC3
  try clear c1
  try clear p1
  try clear q1
  try clear hx1
  try clear qi1
  try clear c2
  try clear p2
  try clear q2
  try clear hx2
  try clear qi2
  try clear c3
  try clear c4
  try clear c5
  try clear c6
  try clear p6
  try clear c7
  try clear c8
  try clear c8b0
  try clear c9
  try clear c9b0
  try clear c10
  try clear c10b0
  try clear c12
  try clear c12b0
  try clear c12b1
  try clear p15
  try clear q15
  try clear hx15
  try clear qi15
  try clear c16
  try clear c16b0
  try clear c16b1
  try clear p16
  try clear q16
  try clear hx16
  try clear qi16
  try clear c17
  try clear c17b0
  try clear c17b1
  try clear p17
  try clear q17
  try clear hx17
  try clear qi17
  try clear c18
  try clear p18
  try clear q18
  try clear hx18
  try clear qi18
  try clear p19
  try clear q19
  try clear hx19
  try clear qi19
  try clear c20
  try clear c21
  try clear c21b0
  try clear c21b1
  try clear c22
  try clear c22b0
  try clear c22b1
  try clear p23
  try clear q23
  try clear hx23
  try clear qi23
  try clear c24
  try clear c24b0
  try clear c24b1
  try clear c25
  try clear c25b0
  try clear c25b1
  try clear c27
  try clear c27b0
  try clear c27b1
  try clear c29
  try clear c38
  try clear c38b0
  try clear c38b1
  try clear c39
  try clear c39b0
  try clear c39b1
  try clear c41
  try clear c41b0
  try clear c41b1
  try clear c43
  try clear c52
  try clear c52b0
  try clear c52b1
  try clear c53
  try clear c53b0
  try clear c53b1
  try clear c55
  try clear c55b0
  try clear c55b1
  try clear c57
  try clear p64
  try clear c66
  try clear c66b0
  try clear c66b1
  try clear c68
  try clear c68b0
  try clear c68b1
  try clear c70
  try clear hcz31_0
  try clear hcz31_1
  try clear hcz31_2
  try clear hcz34_0
  try clear hcz34_1
  try clear hcz34_2
  try clear hcz36_0
  try clear hcz36_1
  try clear hcz36_2
  try clear hcz45_0
  try clear hcz45_1
  try clear hcz45_2
  try clear hcz48_0
  try clear hcz48_1
  try clear hcz48_2
  try clear hcz50_0
  try clear hcz50_1
  try clear hcz50_2
  try clear hcz59_0
  try clear hcz59_1
  try clear hcz59_2
  try clear hcz62_0
  try clear hcz62_1
  try clear hcz62_2
  try clear hcz64_0
  try clear hcz64_1
  try clear hcz64_2
  try clear hcz72_0
  try clear hcz72_1
  try clear hcz72_2
  try clear hcz75_0
  try clear hcz75_1
  try clear hcz75_2
  try clear hcz77_0
  try clear hcz77_1
  try clear hcz77_2
  try clear hfz31_0
  try clear hfz31_1
  try clear hfz31_2
  try clear hfz34_0
  try clear hfz34_1
  try clear hfz34_2
  try clear hfz36_0
  try clear hfz36_1
  try clear hfz36_2
  try clear hfz45_0
  try clear hfz45_1
  try clear hfz45_2
  try clear hfz48_0
  try clear hfz48_1
  try clear hfz48_2
  try clear hfz50_0
  try clear hfz50_1
  try clear hfz50_2
  try clear hfz59_0
  try clear hfz59_1
  try clear hfz59_2
  try clear hfz62_0
  try clear hfz62_1
  try clear hfz62_2
  try clear hfz64_0
  try clear hfz64_1
  try clear hfz64_2
  try clear hfz72_0
  try clear hfz72_1
  try clear hfz72_2
  try clear hfz75_0
  try clear hfz75_1
  try clear hfz75_2
  try clear hfz77_0
  try clear hfz77_1
  try clear hfz77_2
  try clear hx155_0
  try clear hx159_0
  try clear hx161_0
  try clear hx162_0
  try clear hx165_0
  try clear hx171_0
  try clear hx174_0
  try clear hx180_0
  try clear hx183_0
  try clear hx189_0
  try clear hx192_0
  try clear p1
  try clear p15
  try clear p155
  try clear p159
  try clear p161
  try clear p162
  try clear p165
  try clear p171
  try clear p174
  try clear p180
  try clear p183
  try clear p189
  try clear p192
  try clear p2
  try clear p23
  try clear q1
  try clear q15
  try clear q155
  try clear q159
  try clear q161
  try clear q162
  try clear q165
  try clear q171
  try clear q174
  try clear q180
  try clear q183
  try clear q189
  try clear q192
  try clear q23
  obtain ⟨kq, x4_2, HA, HJ2, HO_4, HB⟩ := hcut
  cases kq with
  | zero => exact absurd HA.out (by simp [spec_ParseAcl.j2])
  | succ kj2 =>
   have H := HA.out
   clear HA
   simp only [spec_ParseAcl.j2] at H
   replace H := Option.bind_eq_some_iff.mp H
   obtain ⟨t198, A790, H⟩ := H
   try dsimp only at H
   have A79 := Aside0.mk A790
   clear A790
   by_cases c80 : t198.toList = ([] : List UInt8)
   ·
    rw [if_pos c80] at H
    have c80b0 : (t198.toList == ([] : List UInt8)) = true := beq_iff_eq.mpr c80
    have c80b1 : (t198.toList != ([] : List UInt8)) = false := bne_eq_false_iff_eq.mpr c80
    clear c80
    simp only [Option.some.injEq, Prod.mk.injEq] at H
    obtain ⟨rfl, rfl⟩ := H
    obtain ⟨Ao81, co81, eo81⟩ := Kd.R_slice HO_4.out
    subst eo81
    go_wp2_with (first | ((with_reducible refine gate_callee (f := 19) rfl ?_); refine goesL_ (some 68) rfl rfl Tryd.func19 (by kernel_rfl) rfl #[.slice Ao81 x4_2.length co81] rfl (by (try simp only [List.map_toArray, List.map_cons, List.map_nil]); first | done | rfl | (simp only [List.length_drop, List.length_take]; rfl)) ?_; (with_reducible refine (spec_FormatAcl.calls kj2 _ _ x4_2 t198 _ ?side1 ?side2 A79.out).mono ?_); (case side1 => repeat (first | exact (Kd.R_reads' HO_4.out).2.2 | (with_reducible refine Kd.C_alloc ?_ _) | (with_reducible refine Kd.C_drewN ?_ _) | (with_reducible refine Kd.C_drew ?_))); (case side2 => exact (Kd.R_reads' HO_4.out).2.1); rintro e w82 ⟨rfl, hb⟩; refine ⟨_, rfl, ?_⟩; have n0_ := Aside0.mk (Kd.R_below (by exact Lib.cr HO_4.out) hb); have n1_ := Aside0.mk (below_step (by exact Lib.bw HB.out) hb); clear HO_4; clear HB; have HO_4 := n0_; have HB := n1_; clear n0_ n1_; (try clear hb); (try clear hb2); (try clear hk); (try clear hi)))
    go_ret2
    exact ⟨_, by first | rfl | (simp [errW_none, errW_some] <;> rfl) | (simp [*, errW_none, errW_some] <;> rfl), by first | exact Kd.R_nil _ _ _ _ _ | exact Kd.N_nil _ _ _ _ _ | exact Kd.V_nil _ _ _ _ _ | exact Kd.Q_nil _ _ _ _ _ | exact Kd.S_nil _ _ _ _ _, by exact Lib.bw HB.out⟩
   ·
    rw [if_neg c80] at H
    have c80b0 : (t198.toList == ([] : List UInt8)) = false := beq_eq_false_iff_ne.mpr c80
    have c80b1 : (t198.toList != ([] : List UInt8)) = true := bne_iff_ne.mpr c80
    replace H := Option.bind_eq_some_iff.mp H
    obtain ⟨t199, A830, H⟩ := H
    replace H : (if t199.toList = a0.toList then (some (x4_2, true)) else (some (([] : List (S33)), false))) = some (r1, r2) := H
    have A83 := Aside0.mk A830
    clear A830
    by_cases c84 : t199.toList = a0.toList
    ·
     rw [if_pos c84] at H
     have c84b0 : (t199.toList == a0.toList) = true := beq_iff_eq.mpr c84
     have c84b1 : (t199.toList != a0.toList) = false := bne_eq_false_iff_eq.mpr c84
     clear c84
     simp only [Option.some.injEq, Prod.mk.injEq] at H
     obtain ⟨rfl, rfl⟩ := H
     obtain ⟨Ao85, co85, eo85⟩ := Kd.R_slice HO_4.out
     subst eo85
     go_wp2_with (first | ((with_reducible refine gate_callee (f := 19) rfl ?_); refine goesL_ (some 68) rfl rfl Tryd.func19 (by kernel_rfl) rfl #[.slice Ao85 x4_2.length co85] rfl (by (try simp only [List.map_toArray, List.map_cons, List.map_nil]); first | done | rfl | (simp only [List.length_drop, List.length_take]; rfl)) ?_; (with_reducible refine (spec_FormatAcl.calls kj2 _ _ x4_2 t198 _ ?side1 ?side2 A79.out).mono ?_); (case side1 => repeat (first | exact (Kd.R_reads' HO_4.out).2.2 | (with_reducible refine Kd.C_alloc ?_ _) | (with_reducible refine Kd.C_drewN ?_ _) | (with_reducible refine Kd.C_drew ?_))); (case side2 => exact (Kd.R_reads' HO_4.out).2.1); rintro e w86 ⟨rfl, hb⟩; refine ⟨_, rfl, ?_⟩; have n0_ := Aside0.mk (Kd.R_below (by exact Lib.cr HO_4.out) hb); have n1_ := Aside0.mk (below_step (by exact Lib.bw HB.out) hb); clear HO_4; clear HB; have HO_4 := n0_; have HB := n1_; clear n0_ n1_; (try clear hb); (try clear hb2); (try clear hk); (try clear hi)) | (go_at_call 19; (with_reducible refine (spec_FormatAcl.calls kj2 _ _ x4_2 t199 _ ?side1 ?side2 A83.out).mono ?_); (case side1 => repeat (first | exact (Kd.R_reads' HO_4.out).2.2 | (with_reducible refine Kd.C_alloc ?_ _) | (with_reducible refine Kd.C_drewN ?_ _) | (with_reducible refine Kd.C_drew ?_))); (case side2 => exact (Kd.R_reads' HO_4.out).2.1); rintro e w87 ⟨rfl, hb⟩; have n0_ := Aside0.mk (Kd.R_below (by exact Lib.cr HO_4.out) hb); have n1_ := Aside0.mk (below_step (by exact Lib.bw HB.out) hb); clear HO_4; clear HB; have HO_4 := n0_; have HB := n1_; clear n0_ n1_; (try clear hb); (try clear hb2); (try clear hk); (try clear hi)))
     go_ret2
     exact ⟨_, by first | rfl | (simp [errW_none, errW_some] <;> rfl) | (simp [*, errW_none, errW_some] <;> rfl), by exact Lib.cr HO_4.out, by exact Lib.bw HB.out⟩
    ·
     rw [if_neg c84] at H
     have c84b0 : (t199.toList == a0.toList) = false := beq_eq_false_iff_ne.mpr c84
     have c84b1 : (t199.toList != a0.toList) = true := bne_iff_ne.mpr c84
     simp only [Option.some.injEq, Prod.mk.injEq] at H
     obtain ⟨rfl, rfl⟩ := H
     obtain ⟨Ao88, co88, eo88⟩ := Kd.R_slice HO_4.out
     subst eo88
     go_wp2_with (first | ((with_reducible refine gate_callee (f := 19) rfl ?_); refine goesL_ (some 68) rfl rfl Tryd.func19 (by kernel_rfl) rfl #[.slice Ao88 x4_2.length co88] rfl (by (try simp only [List.map_toArray, List.map_cons, List.map_nil]); first | done | rfl | (simp only [List.length_drop, List.length_take]; rfl)) ?_; (with_reducible refine (spec_FormatAcl.calls kj2 _ _ x4_2 t198 _ ?side1 ?side2 A79.out).mono ?_); (case side1 => repeat (first | exact (Kd.R_reads' HO_4.out).2.2 | (with_reducible refine Kd.C_alloc ?_ _) | (with_reducible refine Kd.C_drewN ?_ _) | (with_reducible refine Kd.C_drew ?_))); (case side2 => exact (Kd.R_reads' HO_4.out).2.1); rintro e w89 ⟨rfl, hb⟩; refine ⟨_, rfl, ?_⟩; have n0_ := Aside0.mk (Kd.R_below (by exact Lib.cr HO_4.out) hb); have n1_ := Aside0.mk (below_step (by exact Lib.bw HB.out) hb); clear HO_4; clear HB; have HO_4 := n0_; have HB := n1_; clear n0_ n1_; (try clear hb); (try clear hb2); (try clear hk); (try clear hi)) | (go_at_call 19; (with_reducible refine (spec_FormatAcl.calls kj2 _ _ x4_2 t199 _ ?side1 ?side2 A83.out).mono ?_); (case side1 => repeat (first | exact (Kd.R_reads' HO_4.out).2.2 | (with_reducible refine Kd.C_alloc ?_ _) | (with_reducible refine Kd.C_drewN ?_ _) | (with_reducible refine Kd.C_drew ?_))); (case side2 => exact (Kd.R_reads' HO_4.out).2.1); rintro e w90 ⟨rfl, hb⟩; have n0_ := Aside0.mk (Kd.R_below (by exact Lib.cr HO_4.out) hb); have n1_ := Aside0.mk (below_step (by exact Lib.bw HB.out) hb); clear HO_4; clear HB; have HO_4 := n0_; have HB := n1_; clear n0_ n1_; (try clear hb); (try clear hb2); (try clear hk); (try clear hi)))
     go_ret2
     exact ⟨_, by first | rfl | (simp [errW_none, errW_some] <;> rfl) | (simp [*, errW_none, errW_some] <;> rfl), by first | exact Kd.R_nil _ _ _ _ _ | exact Kd.N_nil _ _ _ _ _ | exact Kd.V_nil _ _ _ _ _ | exact Kd.Q_nil _ _ _ _ _ | exact Kd.S_nil _ _ _ _ _, by exact Lib.bw HB.out⟩

/-! ### impl_isUser: function 29 -/
def impl_isUser.f (a0 : Int) : Option (Bool) := if a0 ≥ 0 then (some (decide (a0 < 4))) else (some false)
set_option maxHeartbeats 8000000 in
set_option maxRecDepth 100000 in
theorem impl_isUser.calls (a0 : Int) (r : Bool) (w : World) (h : impl_isUser.f a0 = some r) :
 Calls Tryd.prog 29 #[.int .i64 a0] w fun e w' => e = .returned (.bool r) ∧ Drawn0 w w' := by
 have H : (if a0 ≥ 0 then (some (decide (a0 < 4))) else (some false)) = some r := h
 clear h
 by_cases c2 : a0 ≥ 0
 ·
  rw [if_pos c2] at H
  have c2b0 : decide (0 ≤ a0) = true := decide_eq_true c2
  clear c2
  obtain rfl := Option.some.inj H
  go_enter Tryd.func29, Tryd.ntmps29
  go_wp2
  go_ret
  exact ⟨by first | rfl | (simp; done) | (simp [*]; done), by repeat (first | exact Drawn0.refl _ | apply Drawn0.step)⟩
 ·
  rw [if_neg c2] at H
  have c2b0 : decide (0 ≤ a0) = false := decide_eq_false c2
  clear c2
  obtain rfl := Option.some.inj H
  go_enter Tryd.func29, Tryd.ntmps29
  go_wp2
  go_ret
  exact ⟨by first | rfl | (simp; done) | (simp [*]; done), by repeat (first | exact Drawn0.refl _ | apply Drawn0.step)⟩

end Go.Proofs.YtmnojegajblagacDoor.PFnExactParseAcl
