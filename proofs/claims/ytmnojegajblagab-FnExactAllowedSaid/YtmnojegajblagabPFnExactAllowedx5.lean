-- Written by a program of this session over Lean's own print of the program.
import Derived.Test.YtmnojegajblagabPFnExactAllowedx0
import Derived.Test.YtmnojegajblagabPFnExactAllowedx1
import Derived.Test.YtmnojegajblagabPFnExactAllowedx3
import Derived.Test.YtmnojegajblagabPFnExactAllowedx4
namespace Go.Proofs.Ytmnojegajblagab.PFnExactAllowed
open Go.RowKit Go.Proofs.YtmnojegajblagabW.PrintWords Go.Proofs.YtmnojegajblagabW.PrintLast Go.Proofs.YtmnojegajblagabW.PrintMore
attribute [local go_sem] max2_int min2_int max_two min_two max_three min_three max_four min_four   -- for this text's walks alone
set_option linter.unusedVariables false
set_option linter.unusedSimpArgs false

/-! ### spec_Allowed: function 29 -/
mutual
def spec_Allowed.j0 : Nat → Int → Int → Int → List (S115) → Int → Bool → Int → Int → List Int → Option (Bool)
 | 0, _, _, _, _, _, _, _, _, _ => none
 | k + 1, x1, x2, x3, x4, x5, x47, x147000, x147001, x147002 => if x47 = true then (some false) else (if x147000 = 0 then (some true) else (if x147000 = x1 then ((spec_PermOf.f k x3 0).bind fun t153 => ((spec_l06Covers.f t153 x5).bind fun t154 => (some t154))) else ((spec_MaskOf.f k x4).bind fun t155 => ((spec_AclPerm.f k x4 1 x147000).bind fun bt156 => (if bt156.2 = true then ((spec_l06Covers.f (Go.bits .and .i64 bt156.1 t155) x5).bind fun t158 => (some t158)) else ((spec_InGroup.f k x147000 x147001 x147002 x2).bind fun t159 => (if t159 = true then ((spec_PermOf.f k x3 1).bind fun t160 => ((spec_l06Covers.f t160 x5).bind fun t161 => (spec_Allowed.j1 k x3 x4 x5 t155 true t161 x147000 x147001 x147002))) else (spec_Allowed.j1 k x3 x4 x5 t155 false false x147000 x147001 x147002))))))))
def spec_Allowed.j1 : Nat → Int → List (S115) → Int → Int → Bool → Bool → Int → Int → List Int → Option (Bool)
 | 0, _, _, _, _, _, _, _, _, _ => none
 | k + 1, x3, x4, x5, x13, x16, x17, x147000, x147001, x147002 => spec_Allowed.l0 k x3 x5 x13 x16 x17 x4 (x4.length : Int) 0 x147000 x147001 x147002
def spec_Allowed.l0 : Nat → Int → Int → Int → Bool → Bool → List (S115) → Int → Int → Int → Int → List Int → Option (Bool)
 | 0, _, _, _, _, _, _, _, _, _, _, _ => none
 | k + 1, x3, x5, x13, x16, x17, x81, x82, x83, x147000, x147001, x147002 => if x83 < x82 then (if 0 ≤ x83 then (if x83 < (x81.length : Int) then (if ((rd_T115 x81 x83).f0) = 2 then ((spec_InGroup.f k x147000 x147001 x147002 ((rd_T115 x81 x83).f1)).bind fun t164 => (if t164 = true then (if x17 = true then (spec_Allowed.l0 k x3 x5 x13 true true x81 x82 (wrap64 (x83 + 1)) x147000 x147001 x147002) else ((spec_l06Covers.f ((rd_T115 x81 x83).f2) x5).bind fun t165 => (spec_Allowed.l0 k x3 x5 x13 true t165 x81 x82 (wrap64 (x83 + 1)) x147000 x147001 x147002))) else (spec_Allowed.l0 k x3 x5 x13 x16 x17 x81 x82 (wrap64 (x83 + 1)) x147000 x147001 x147002))) else (spec_Allowed.l0 k x3 x5 x13 x16 x17 x81 x82 (wrap64 (x83 + 1)) x147000 x147001 x147002)) else (none)) else (none)) else (if x16 = true then (if x17 = true then ((spec_l06Covers.f x13 x5).bind fun t166 => (some t166)) else (some false)) else ((spec_PermOf.f k x3 2).bind fun t167 => ((spec_l06Covers.f t167 x5).bind fun t168 => (some t168))))
end
def spec_Allowed.f (k : Nat) (a0_0 : Int) (a0_1 : Int) (l0_2 : List Int) (a1 : Int) (a2 : Int) (a3 : Int) (l4 : List (S115)) (a5 : Int) : Option (Bool) := (spec_IsCred.f k a0_0 a0_1 l0_2).bind fun t147 => (if t147 = true then ((spec_IsAcl.f k l4).bind fun t148 => (if t148 = true then ((spec_l06User.f a1).bind fun t149 => (if t149 = true then ((spec_l06User.f a2).bind fun t150 => (if t150 = true then ((spec_l06Mode.f a3).bind fun t151 => (if t151 = true then ((spec_l01In.f a5 0 7).bind fun t152 => (spec_Allowed.j0 k a1 a2 a3 l4 a5 (!t152) a0_0 a0_1 l0_2)) else (spec_Allowed.j0 k a1 a2 a3 l4 a5 true a0_0 a0_1 l0_2))) else (spec_Allowed.j0 k a1 a2 a3 l4 a5 true a0_0 a0_1 l0_2))) else (spec_Allowed.j0 k a1 a2 a3 l4 a5 true a0_0 a0_1 l0_2))) else (spec_Allowed.j0 k a1 a2 a3 l4 a5 true a0_0 a0_1 l0_2))) else (spec_Allowed.j0 k a1 a2 a3 l4 a5 true a0_0 a0_1 l0_2))
theorem spec_Allowed.mono_l : ∀ k, (∀ y0 y1 y2 y3 y4 y5 y6 y7 y8, LeO (spec_Allowed.j0 k y0 y1 y2 y3 y4 y5 y6 y7 y8) (spec_Allowed.j0 (k + 1) y0 y1 y2 y3 y4 y5 y6 y7 y8)) ∧ (∀ y0 y1 y2 y3 y4 y5 y6 y7 y8, LeO (spec_Allowed.j1 k y0 y1 y2 y3 y4 y5 y6 y7 y8) (spec_Allowed.j1 (k + 1) y0 y1 y2 y3 y4 y5 y6 y7 y8)) ∧ (∀ y0 y1 y2 y3 y4 y5 y6 y7 y8 y9 y10, LeO (spec_Allowed.l0 k y0 y1 y2 y3 y4 y5 y6 y7 y8 y9 y10) (spec_Allowed.l0 (k + 1) y0 y1 y2 y3 y4 y5 y6 y7 y8 y9 y10))
 | 0 => ⟨fun _ _ _ _ _ _ _ _ _ r h => by simp [spec_Allowed.j0] at h, fun _ _ _ _ _ _ _ _ _ r h => by simp [spec_Allowed.j1] at h, fun _ _ _ _ _ _ _ _ _ _ _ r h => by simp [spec_Allowed.l0] at h⟩
 | k + 1 => by
  obtain ⟨ih0, ih1, ih2⟩ := spec_Allowed.mono_l k
  refine ⟨?_, ?_, ?_⟩
  ·
   intro y0 y1 y2 y3 y4 y5 y6 y7 y8
   unfold spec_Allowed.j0
   repeat' first
   | (with_reducible exact ih0 _ _ _ _ _ _ _ _ _)
   | (with_reducible exact ih1 _ _ _ _ _ _ _ _ _)
   | (with_reducible exact ih2 _ _ _ _ _ _ _ _ _ _ _)
   | (with_reducible exact spec_AclPerm.mono _ _ _ _)
   | (with_reducible exact spec_InGroup.mono _ _ _ _ _)
   | (with_reducible exact spec_IsAcl.mono _ _)
   | (with_reducible exact spec_IsCred.mono _ _ _ _)
   | (with_reducible exact spec_MaskOf.mono _ _)
   | (with_reducible exact spec_PermOf.mono _ _ _)
   | (with_reducible exact LeO.refl _)
   | (with_reducible exact LeO.none _)
   | (with_reducible refine LeO.ite ?_ ?_)
   | (with_reducible refine LeO.bind ?_ (fun _ => ?_))
   | exact ih0 _ _ _ _ _ _ _ _ _
   | exact ih1 _ _ _ _ _ _ _ _ _
   | exact ih2 _ _ _ _ _ _ _ _ _ _ _
   | exact spec_AclPerm.mono _ _ _ _
   | exact spec_InGroup.mono _ _ _ _ _
   | exact spec_IsAcl.mono _ _
   | exact spec_IsCred.mono _ _ _ _
   | exact spec_MaskOf.mono _ _
   | exact spec_PermOf.mono _ _ _
   | exact LeO.none _
   | refine LeO.ite ?_ ?_
   | refine LeO.bind ?_ (fun _ => ?_)
  ·
   intro y0 y1 y2 y3 y4 y5 y6 y7 y8
   unfold spec_Allowed.j1
   repeat' first
   | (with_reducible exact ih0 _ _ _ _ _ _ _ _ _)
   | (with_reducible exact ih1 _ _ _ _ _ _ _ _ _)
   | (with_reducible exact ih2 _ _ _ _ _ _ _ _ _ _ _)
   | (with_reducible exact spec_AclPerm.mono _ _ _ _)
   | (with_reducible exact spec_InGroup.mono _ _ _ _ _)
   | (with_reducible exact spec_IsAcl.mono _ _)
   | (with_reducible exact spec_IsCred.mono _ _ _ _)
   | (with_reducible exact spec_MaskOf.mono _ _)
   | (with_reducible exact spec_PermOf.mono _ _ _)
   | (with_reducible exact LeO.refl _)
   | (with_reducible exact LeO.none _)
   | (with_reducible refine LeO.ite ?_ ?_)
   | (with_reducible refine LeO.bind ?_ (fun _ => ?_))
   | exact ih0 _ _ _ _ _ _ _ _ _
   | exact ih1 _ _ _ _ _ _ _ _ _
   | exact ih2 _ _ _ _ _ _ _ _ _ _ _
   | exact spec_AclPerm.mono _ _ _ _
   | exact spec_InGroup.mono _ _ _ _ _
   | exact spec_IsAcl.mono _ _
   | exact spec_IsCred.mono _ _ _ _
   | exact spec_MaskOf.mono _ _
   | exact spec_PermOf.mono _ _ _
   | exact LeO.none _
   | refine LeO.ite ?_ ?_
   | refine LeO.bind ?_ (fun _ => ?_)
  ·
   intro y0 y1 y2 y3 y4 y5 y6 y7 y8 y9 y10
   unfold spec_Allowed.l0
   repeat' first
   | (with_reducible exact ih0 _ _ _ _ _ _ _ _ _)
   | (with_reducible exact ih1 _ _ _ _ _ _ _ _ _)
   | (with_reducible exact ih2 _ _ _ _ _ _ _ _ _ _ _)
   | (with_reducible exact spec_AclPerm.mono _ _ _ _)
   | (with_reducible exact spec_InGroup.mono _ _ _ _ _)
   | (with_reducible exact spec_IsAcl.mono _ _)
   | (with_reducible exact spec_IsCred.mono _ _ _ _)
   | (with_reducible exact spec_MaskOf.mono _ _)
   | (with_reducible exact spec_PermOf.mono _ _ _)
   | (with_reducible exact LeO.refl _)
   | (with_reducible exact LeO.none _)
   | (with_reducible refine LeO.ite ?_ ?_)
   | (with_reducible refine LeO.bind ?_ (fun _ => ?_))
   | exact ih0 _ _ _ _ _ _ _ _ _
   | exact ih1 _ _ _ _ _ _ _ _ _
   | exact ih2 _ _ _ _ _ _ _ _ _ _ _
   | exact spec_AclPerm.mono _ _ _ _
   | exact spec_InGroup.mono _ _ _ _ _
   | exact spec_IsAcl.mono _ _
   | exact spec_IsCred.mono _ _ _ _
   | exact spec_MaskOf.mono _ _
   | exact spec_PermOf.mono _ _ _
   | exact LeO.none _
   | refine LeO.ite ?_ ?_
   | refine LeO.bind ?_ (fun _ => ?_)
theorem spec_Allowed.mono : ∀ a0 a1 a2 a3 a4 a5 a6 a7 k, LeO (spec_Allowed.f k a0 a1 a2 a3 a4 a5 a6 a7) (spec_Allowed.f (k + 1) a0 a1 a2 a3 a4 a5 a6 a7) := by
 intro a0 a1 a2 a3 a4 a5 a6 a7 k
 obtain ⟨ih0, ih1, ih2⟩ := spec_Allowed.mono_l k
 unfold spec_Allowed.f
 repeat' first
  | (with_reducible exact ih0 _ _ _ _ _ _ _ _ _)
  | (with_reducible exact ih1 _ _ _ _ _ _ _ _ _)
  | (with_reducible exact ih2 _ _ _ _ _ _ _ _ _ _ _)
  | (with_reducible exact spec_AclPerm.mono _ _ _ _)
  | (with_reducible exact spec_InGroup.mono _ _ _ _ _)
  | (with_reducible exact spec_IsAcl.mono _ _)
  | (with_reducible exact spec_IsCred.mono _ _ _ _)
  | (with_reducible exact spec_MaskOf.mono _ _)
  | (with_reducible exact spec_PermOf.mono _ _ _)
  | (with_reducible exact LeO.refl _)
  | (with_reducible exact LeO.none _)
  | (with_reducible refine LeO.ite ?_ ?_)
  | (with_reducible refine LeO.bind ?_ (fun _ => ?_))
  | exact ih0 _ _ _ _ _ _ _ _ _
  | exact ih1 _ _ _ _ _ _ _ _ _
  | exact ih2 _ _ _ _ _ _ _ _ _ _ _
  | exact spec_AclPerm.mono _ _ _ _
  | exact spec_InGroup.mono _ _ _ _ _
  | exact spec_IsAcl.mono _ _
  | exact spec_IsCred.mono _ _ _ _
  | exact spec_MaskOf.mono _ _
  | exact spec_PermOf.mono _ _ _
  | exact LeO.none _
  | refine LeO.ite ?_ ?_
  | refine LeO.bind ?_ (fun _ => ?_)
set_option maxHeartbeats 8000000 in
set_option maxRecDepth 100000 in
theorem spec_Allowed.calls (k : Nat) (a0_0 : Int) (a0_1 : Int) (A0_2 : Option Addr) (c0_2 : Nat) (l0_2 : List Int) (a1 : Int) (a2 : Int) (a3 : Int) (A4 : Option Addr) (c4 : Nat) (l4 : List (S115)) (a5 : Int) (r : Bool) (w : World) (hr0_2 : Kd.C (Kd.int .i64) w A0_2 l0_2.length l0_2) (hc0_2 : l0_2.length ≤ c0_2) (hr4 : Kd.C k115 w A4 l4.length l4) (hc4 : l4.length ≤ c4) (h : spec_Allowed.f k a0_0 a0_1 l0_2 a1 a2 a3 l4 a5 = some r) :
 Calls Try.prog 29 #[.agg #[.int .i64 a0_0, .int .i64 a0_1, .slice A0_2 l0_2.length c0_2], .int .i64 a1, .int .i64 a2, .int .i64 a3, .slice A4 l4.length c4, .int .i64 a5] w fun e w' => e = .returned (.bool r) ∧ Below w.heap.size w w' := by
 have hu50 := Try.underlying50
 have hu115 := Try.underlying115
 have HR0_2 := Aside0.mk hr0_2
 have HC0_2 := Aside0.mk hc0_2
 clear hr0_2 hc0_2
 have HR4 := Aside0.mk hr4
 have HC4 := Aside0.mk hc4
 clear hr4 hc4
 have HB := Aside0.mk (Below.refl w.heap.size w)
 have H : ((spec_IsCred.f k a0_0 a0_1 l0_2).bind fun t147 => (if t147 = true then ((spec_IsAcl.f k l4).bind fun t148 => (if t148 = true then ((spec_l06User.f a1).bind fun t149 => (if t149 = true then ((spec_l06User.f a2).bind fun t150 => (if t150 = true then ((spec_l06Mode.f a3).bind fun t151 => (if t151 = true then ((spec_l01In.f a5 0 7).bind fun t152 => (spec_Allowed.j0 k a1 a2 a3 l4 a5 (!t152) a0_0 a0_1 l0_2)) else (spec_Allowed.j0 k a1 a2 a3 l4 a5 true a0_0 a0_1 l0_2))) else (spec_Allowed.j0 k a1 a2 a3 l4 a5 true a0_0 a0_1 l0_2))) else (spec_Allowed.j0 k a1 a2 a3 l4 a5 true a0_0 a0_1 l0_2))) else (spec_Allowed.j0 k a1 a2 a3 l4 a5 true a0_0 a0_1 l0_2))) else (spec_Allowed.j0 k a1 a2 a3 l4 a5 true a0_0 a0_1 l0_2))) = some r := h
 clear h
 have HC7 := Aside0.mk H
 clear H
 go_enter Try.func29, Try.ntmps29
 go_upto_region 1 with (first | ((with_reducible refine gate_dst (N := 6) rfl ?_); refine box_event ?hg (N := 6) ?hd (cs := #[.int .i64 a0_0, .int .i64 a0_1, .slice A0_2 l0_2.length c0_2]) (t := 50) ?hr ?_; (case hd => rfl); (case hg => rfl); (case hr => first | (go_simp; done) | (go_simp; rfl)); intro gb146 hg w8 hbox hb; have n0_ := Aside0.mk (below_step (by exact Lib.bw HB.out) hb); have n1_ := Aside0.mk (hbox); have n2_ := Aside0.mk ((by rw [hg]; exact (below_size (by exact Lib.bw HB.out)) : w.heap.size ≤ gb146)); have n3_ := Aside0.mk ((by rw [hg]; exact (below_size (by exact Lib.bw HB.out)) : w.heap.size ≤ gb146)); clear HB; have HB := n0_; have BK146 := n1_; have GW146 := n2_; have GE146 := n3_; clear n0_ n1_ n2_ n3_; clear hb hbox hg))
 (try simp only [Act.put, List.setIfInBounds_toArray, List.set_cons_zero, List.set_cons_succ])
 go_cut [47] (fun v47 wc => ∃ (kq : Nat) (x47_6 : Bool), v47 = .bool x47_6 ∧ Aside0 (spec_Allowed.j0 kq a1 a2 a3 l4 a5 x47_6 a0_0 a0_1 l0_2 = some r) ∧ Aside0 (kq ≤ k) ∧ Aside0 (wc.heap[gb146]? = some (.cells #[.int .i64 a0_0, .int .i64 a0_1, (.slice A0_2 l0_2.length c0_2)] 50 (0, 0))) ∧ Aside0 (Below w.heap.size w wc))
 case first =>
  have H := HC7.out
  clear HC7
  replace H := Option.bind_eq_some_iff.mp H
  obtain ⟨t147, A90, H⟩ := H
  try dsimp only at H
  have A9 := Aside0.mk A90
  clear A90
  by_cases c10 : t147 = true
  ·
   subst c10
   have H1 : ((spec_IsAcl.f k l4).bind fun t148 => (if t148 = true then ((spec_l06User.f a1).bind fun t149 => (if t149 = true then ((spec_l06User.f a2).bind fun t150 => (if t150 = true then ((spec_l06Mode.f a3).bind fun t151 => (if t151 = true then ((spec_l01In.f a5 0 7).bind fun t152 => (spec_Allowed.j0 k a1 a2 a3 l4 a5 (!t152) a0_0 a0_1 l0_2)) else (spec_Allowed.j0 k a1 a2 a3 l4 a5 true a0_0 a0_1 l0_2))) else (spec_Allowed.j0 k a1 a2 a3 l4 a5 true a0_0 a0_1 l0_2))) else (spec_Allowed.j0 k a1 a2 a3 l4 a5 true a0_0 a0_1 l0_2))) else (spec_Allowed.j0 k a1 a2 a3 l4 a5 true a0_0 a0_1 l0_2))) = some r := by rw [if_pos rfl] at H; exact H
   clear H
   have H := H1
   clear H1
   replace H := Option.bind_eq_some_iff.mp H
   obtain ⟨t148, A110, H⟩ := H
   try dsimp only at H
   have A11 := Aside0.mk A110
   clear A110
   by_cases c12 : t148 = true
   ·
    subst c12
    have H1 : ((spec_l06User.f a1).bind fun t149 => (if t149 = true then ((spec_l06User.f a2).bind fun t150 => (if t150 = true then ((spec_l06Mode.f a3).bind fun t151 => (if t151 = true then ((spec_l01In.f a5 0 7).bind fun t152 => (spec_Allowed.j0 k a1 a2 a3 l4 a5 (!t152) a0_0 a0_1 l0_2)) else (spec_Allowed.j0 k a1 a2 a3 l4 a5 true a0_0 a0_1 l0_2))) else (spec_Allowed.j0 k a1 a2 a3 l4 a5 true a0_0 a0_1 l0_2))) else (spec_Allowed.j0 k a1 a2 a3 l4 a5 true a0_0 a0_1 l0_2))) = some r := by rw [if_pos rfl] at H; exact H
    clear H
    have H := H1
    clear H1
    replace H := Option.bind_eq_some_iff.mp H
    obtain ⟨t149, A130, H⟩ := H
    try dsimp only at H
    have A13 := Aside0.mk A130
    clear A130
    by_cases c14 : t149 = true
    ·
     subst c14
     have H1 : ((spec_l06User.f a2).bind fun t150 => (if t150 = true then ((spec_l06Mode.f a3).bind fun t151 => (if t151 = true then ((spec_l01In.f a5 0 7).bind fun t152 => (spec_Allowed.j0 k a1 a2 a3 l4 a5 (!t152) a0_0 a0_1 l0_2)) else (spec_Allowed.j0 k a1 a2 a3 l4 a5 true a0_0 a0_1 l0_2))) else (spec_Allowed.j0 k a1 a2 a3 l4 a5 true a0_0 a0_1 l0_2))) = some r := by rw [if_pos rfl] at H; exact H
     clear H
     have H := H1
     clear H1
     replace H := Option.bind_eq_some_iff.mp H
     obtain ⟨t150, A150, H⟩ := H
     try dsimp only at H
     have A15 := Aside0.mk A150
     clear A150
     by_cases c16 : t150 = true
     ·
      subst c16
      have H1 : ((spec_l06Mode.f a3).bind fun t151 => (if t151 = true then ((spec_l01In.f a5 0 7).bind fun t152 => (spec_Allowed.j0 k a1 a2 a3 l4 a5 (!t152) a0_0 a0_1 l0_2)) else (spec_Allowed.j0 k a1 a2 a3 l4 a5 true a0_0 a0_1 l0_2))) = some r := by rw [if_pos rfl] at H; exact H
      clear H
      have H := H1
      clear H1
      replace H := Option.bind_eq_some_iff.mp H
      obtain ⟨t151, A170, H⟩ := H
      try dsimp only at H
      have A17 := Aside0.mk A170
      clear A170
      by_cases c18 : t151 = true
      ·
       subst c18
       have H1 : ((spec_l01In.f a5 0 7).bind fun t152 => (spec_Allowed.j0 k a1 a2 a3 l4 a5 (!t152) a0_0 a0_1 l0_2)) = some r := by rw [if_pos rfl] at H; exact H
       clear H
       have H := H1
       clear H1
       replace H := Option.bind_eq_some_iff.mp H
       obtain ⟨t152, A190, H⟩ := H
       replace H : (spec_Allowed.j0 k a1 a2 a3 l4 a5 (!t152) a0_0 a0_1 l0_2) = some r := H
       have A19 := Aside0.mk A190
       clear A190
       have H' := Aside0.mk H
       clear H
       obtain ⟨hcz20_0, hcz20_1, hcz20_2, hfz20_0, hfz20_1, hfz20_2⟩ := Lib.cel3 (W := w8) BK146.out
       go_wp2_with (first | ((with_reducible refine gate_callee (f := 90) rfl ?_); refine goesL_ (some 21) rfl rfl Try.func90 (by kernel_rfl) rfl #[.agg #[.int .i64 a0_0, .int .i64 a0_1, .slice A0_2 l0_2.length c0_2]] rfl (by (try simp only [List.map_toArray, List.map_cons, List.map_nil]); first | done | rfl | (simp only [List.length_drop, List.length_take]; rfl)) ?_; (with_reducible refine (spec_IsCred.calls k a0_0 a0_1 _ _ l0_2 true _ ?side1 ?side2 A9.out).mono ?_); (case side1 => exact Lib.cx (Kd.C_below HR0_2.out HB.out)); (case side2 => exact HC0_2.out); rintro e w21 ⟨rfl, hb⟩; refine ⟨_, rfl, ?_⟩; have n0_ := Aside0.mk (blk_below (g := gb146) (o := .cells #[.int .i64 a0_0, .int .i64 a0_1, .slice A0_2 l0_2.length c0_2] 50 (0, 0)) (by exact Lib.bk BK146.out) hb); have n1_ := Aside0.mk (below_step (by exact Lib.bs HB.out GE146.out) hb); clear BK146; clear HB; have BK146 := n0_; have HB := n1_; clear n0_ n1_; (try clear hb); (try clear hb2); (try clear hk); (try clear hi)) | (go_at_call 81; (with_reducible refine (spec_IsAcl.calls k _ _ l4 true _ ?side1 ?side2 A11.out).mono ?_); (case side1 => exact Lib.cx (Kd.C_below HR4.out HB.out)); (case side2 => exact HC4.out); rintro e w22 ⟨rfl, hb⟩; have n0_ := Aside0.mk (blk_below (g := gb146) (o := .cells #[.int .i64 a0_0, .int .i64 a0_1, .slice A0_2 l0_2.length c0_2] 50 (0, 0)) (by exact Lib.bk BK146.out) hb); have n1_ := Aside0.mk (below_step (by exact Lib.bs HB.out GE146.out) hb); clear BK146; clear HB; have BK146 := n0_; have HB := n1_; clear n0_ n1_; (try clear hb); (try clear hb2); (try clear hk); (try clear hi)) | (go_at_call 78; (with_reducible refine (spec_l06User.calls a1 true _ A13.out).mono ?_); rintro e w' ⟨rfl, ⟨nd, rfl⟩⟩) | (go_at_call 78; (with_reducible refine (spec_l06User.calls a2 true _ A15.out).mono ?_); rintro e w' ⟨rfl, ⟨nd, rfl⟩⟩) | (go_at_call 77; (with_reducible refine (spec_l06Mode.calls a3 true _ A17.out).mono ?_); rintro e w' ⟨rfl, ⟨nd, rfl⟩⟩) | (go_at_call 64; (with_reducible refine (spec_l01In.calls a5 0 7 t152 _ A19.out).mono ?_); rintro e w' ⟨rfl, ⟨nd, rfl⟩⟩))
       go_meet
       case rel => exact ⟨_, (!t152), (by first | rfl | (simp; done) | (simp [*]; done)), H', ⟨by first | omega | exact Nat.le_refl _⟩, ⟨by exact Lib.bk BK146.out⟩, ⟨by exact Lib.bs HB.out GE146.out⟩⟩
      ·
       replace c18 := Bool.eq_false_iff.mpr c18
       subst c18
       have H1 : (spec_Allowed.j0 k a1 a2 a3 l4 a5 true a0_0 a0_1 l0_2) = some r := by rw [if_neg (show ¬ (false = true) by decide)] at H; exact H
       clear H
       have H := H1
       clear H1
       have H' := Aside0.mk H
       clear H
       obtain ⟨hcz23_0, hcz23_1, hcz23_2, hfz23_0, hfz23_1, hfz23_2⟩ := Lib.cel3 (W := w8) BK146.out
       go_wp2_with (first | ((with_reducible refine gate_callee (f := 90) rfl ?_); refine goesL_ (some 21) rfl rfl Try.func90 (by kernel_rfl) rfl #[.agg #[.int .i64 a0_0, .int .i64 a0_1, .slice A0_2 l0_2.length c0_2]] rfl (by (try simp only [List.map_toArray, List.map_cons, List.map_nil]); first | done | rfl | (simp only [List.length_drop, List.length_take]; rfl)) ?_; (with_reducible refine (spec_IsCred.calls k a0_0 a0_1 _ _ l0_2 true _ ?side1 ?side2 A9.out).mono ?_); (case side1 => exact Lib.cx (Kd.C_below HR0_2.out HB.out)); (case side2 => exact HC0_2.out); rintro e w24 ⟨rfl, hb⟩; refine ⟨_, rfl, ?_⟩; have n0_ := Aside0.mk (blk_below (g := gb146) (o := .cells #[.int .i64 a0_0, .int .i64 a0_1, .slice A0_2 l0_2.length c0_2] 50 (0, 0)) (by exact Lib.bk BK146.out) hb); have n1_ := Aside0.mk (below_step (by exact Lib.bs HB.out GE146.out) hb); clear BK146; clear HB; have BK146 := n0_; have HB := n1_; clear n0_ n1_; (try clear hb); (try clear hb2); (try clear hk); (try clear hi)) | (go_at_call 81; (with_reducible refine (spec_IsAcl.calls k _ _ l4 true _ ?side1 ?side2 A11.out).mono ?_); (case side1 => exact Lib.cx (Kd.C_below HR4.out HB.out)); (case side2 => exact HC4.out); rintro e w25 ⟨rfl, hb⟩; have n0_ := Aside0.mk (blk_below (g := gb146) (o := .cells #[.int .i64 a0_0, .int .i64 a0_1, .slice A0_2 l0_2.length c0_2] 50 (0, 0)) (by exact Lib.bk BK146.out) hb); have n1_ := Aside0.mk (below_step (by exact Lib.bs HB.out GE146.out) hb); clear BK146; clear HB; have BK146 := n0_; have HB := n1_; clear n0_ n1_; (try clear hb); (try clear hb2); (try clear hk); (try clear hi)) | (go_at_call 78; (with_reducible refine (spec_l06User.calls a1 true _ A13.out).mono ?_); rintro e w' ⟨rfl, ⟨nd, rfl⟩⟩) | (go_at_call 78; (with_reducible refine (spec_l06User.calls a2 true _ A15.out).mono ?_); rintro e w' ⟨rfl, ⟨nd, rfl⟩⟩) | (go_at_call 77; (with_reducible refine (spec_l06Mode.calls a3 false _ A17.out).mono ?_); rintro e w' ⟨rfl, ⟨nd, rfl⟩⟩))
       go_meet
       case rel => exact ⟨_, (true), (by first | rfl | (simp; done) | (simp [*]; done)), H', ⟨by first | omega | exact Nat.le_refl _⟩, ⟨by exact Lib.bk BK146.out⟩, ⟨by exact Lib.bs HB.out GE146.out⟩⟩
     ·
      replace c16 := Bool.eq_false_iff.mpr c16
      subst c16
      have H1 : (spec_Allowed.j0 k a1 a2 a3 l4 a5 true a0_0 a0_1 l0_2) = some r := by rw [if_neg (show ¬ (false = true) by decide)] at H; exact H
      clear H
      have H := H1
      clear H1
      have H' := Aside0.mk H
      clear H
      obtain ⟨hcz26_0, hcz26_1, hcz26_2, hfz26_0, hfz26_1, hfz26_2⟩ := Lib.cel3 (W := w8) BK146.out
      go_wp2_with (first | ((with_reducible refine gate_callee (f := 90) rfl ?_); refine goesL_ (some 21) rfl rfl Try.func90 (by kernel_rfl) rfl #[.agg #[.int .i64 a0_0, .int .i64 a0_1, .slice A0_2 l0_2.length c0_2]] rfl (by (try simp only [List.map_toArray, List.map_cons, List.map_nil]); first | done | rfl | (simp only [List.length_drop, List.length_take]; rfl)) ?_; (with_reducible refine (spec_IsCred.calls k a0_0 a0_1 _ _ l0_2 true _ ?side1 ?side2 A9.out).mono ?_); (case side1 => exact Lib.cx (Kd.C_below HR0_2.out HB.out)); (case side2 => exact HC0_2.out); rintro e w27 ⟨rfl, hb⟩; refine ⟨_, rfl, ?_⟩; have n0_ := Aside0.mk (blk_below (g := gb146) (o := .cells #[.int .i64 a0_0, .int .i64 a0_1, .slice A0_2 l0_2.length c0_2] 50 (0, 0)) (by exact Lib.bk BK146.out) hb); have n1_ := Aside0.mk (below_step (by exact Lib.bs HB.out GE146.out) hb); clear BK146; clear HB; have BK146 := n0_; have HB := n1_; clear n0_ n1_; (try clear hb); (try clear hb2); (try clear hk); (try clear hi)) | (go_at_call 81; (with_reducible refine (spec_IsAcl.calls k _ _ l4 true _ ?side1 ?side2 A11.out).mono ?_); (case side1 => exact Lib.cx (Kd.C_below HR4.out HB.out)); (case side2 => exact HC4.out); rintro e w28 ⟨rfl, hb⟩; have n0_ := Aside0.mk (blk_below (g := gb146) (o := .cells #[.int .i64 a0_0, .int .i64 a0_1, .slice A0_2 l0_2.length c0_2] 50 (0, 0)) (by exact Lib.bk BK146.out) hb); have n1_ := Aside0.mk (below_step (by exact Lib.bs HB.out GE146.out) hb); clear BK146; clear HB; have BK146 := n0_; have HB := n1_; clear n0_ n1_; (try clear hb); (try clear hb2); (try clear hk); (try clear hi)) | (go_at_call 78; (with_reducible refine (spec_l06User.calls a1 true _ A13.out).mono ?_); rintro e w' ⟨rfl, ⟨nd, rfl⟩⟩) | (go_at_call 78; (with_reducible refine (spec_l06User.calls a2 false _ A15.out).mono ?_); rintro e w' ⟨rfl, ⟨nd, rfl⟩⟩))
      go_meet
      case rel => exact ⟨_, (true), (by first | rfl | (simp; done) | (simp [*]; done)), H', ⟨by first | omega | exact Nat.le_refl _⟩, ⟨by exact Lib.bk BK146.out⟩, ⟨by exact Lib.bs HB.out GE146.out⟩⟩
    ·
     replace c14 := Bool.eq_false_iff.mpr c14
     subst c14
     have H1 : (spec_Allowed.j0 k a1 a2 a3 l4 a5 true a0_0 a0_1 l0_2) = some r := by rw [if_neg (show ¬ (false = true) by decide)] at H; exact H
     clear H
     have H := H1
     clear H1
     have H' := Aside0.mk H
     clear H
     obtain ⟨hcz29_0, hcz29_1, hcz29_2, hfz29_0, hfz29_1, hfz29_2⟩ := Lib.cel3 (W := w8) BK146.out
     go_wp2_with (first | ((with_reducible refine gate_callee (f := 90) rfl ?_); refine goesL_ (some 21) rfl rfl Try.func90 (by kernel_rfl) rfl #[.agg #[.int .i64 a0_0, .int .i64 a0_1, .slice A0_2 l0_2.length c0_2]] rfl (by (try simp only [List.map_toArray, List.map_cons, List.map_nil]); first | done | rfl | (simp only [List.length_drop, List.length_take]; rfl)) ?_; (with_reducible refine (spec_IsCred.calls k a0_0 a0_1 _ _ l0_2 true _ ?side1 ?side2 A9.out).mono ?_); (case side1 => exact Lib.cx (Kd.C_below HR0_2.out HB.out)); (case side2 => exact HC0_2.out); rintro e w30 ⟨rfl, hb⟩; refine ⟨_, rfl, ?_⟩; have n0_ := Aside0.mk (blk_below (g := gb146) (o := .cells #[.int .i64 a0_0, .int .i64 a0_1, .slice A0_2 l0_2.length c0_2] 50 (0, 0)) (by exact Lib.bk BK146.out) hb); have n1_ := Aside0.mk (below_step (by exact Lib.bs HB.out GE146.out) hb); clear BK146; clear HB; have BK146 := n0_; have HB := n1_; clear n0_ n1_; (try clear hb); (try clear hb2); (try clear hk); (try clear hi)) | (go_at_call 81; (with_reducible refine (spec_IsAcl.calls k _ _ l4 true _ ?side1 ?side2 A11.out).mono ?_); (case side1 => exact Lib.cx (Kd.C_below HR4.out HB.out)); (case side2 => exact HC4.out); rintro e w31 ⟨rfl, hb⟩; have n0_ := Aside0.mk (blk_below (g := gb146) (o := .cells #[.int .i64 a0_0, .int .i64 a0_1, .slice A0_2 l0_2.length c0_2] 50 (0, 0)) (by exact Lib.bk BK146.out) hb); have n1_ := Aside0.mk (below_step (by exact Lib.bs HB.out GE146.out) hb); clear BK146; clear HB; have BK146 := n0_; have HB := n1_; clear n0_ n1_; (try clear hb); (try clear hb2); (try clear hk); (try clear hi)) | (go_at_call 78; (with_reducible refine (spec_l06User.calls a1 false _ A13.out).mono ?_); rintro e w' ⟨rfl, ⟨nd, rfl⟩⟩))
     go_meet
     case rel => exact ⟨_, (true), (by first | rfl | (simp; done) | (simp [*]; done)), H', ⟨by first | omega | exact Nat.le_refl _⟩, ⟨by exact Lib.bk BK146.out⟩, ⟨by exact Lib.bs HB.out GE146.out⟩⟩
   ·
    replace c12 := Bool.eq_false_iff.mpr c12
    subst c12
    have H1 : (spec_Allowed.j0 k a1 a2 a3 l4 a5 true a0_0 a0_1 l0_2) = some r := by rw [if_neg (show ¬ (false = true) by decide)] at H; exact H
    clear H
    have H := H1
    clear H1
    have H' := Aside0.mk H
    clear H
    obtain ⟨hcz32_0, hcz32_1, hcz32_2, hfz32_0, hfz32_1, hfz32_2⟩ := Lib.cel3 (W := w8) BK146.out
    go_wp2_with (first | ((with_reducible refine gate_callee (f := 90) rfl ?_); refine goesL_ (some 21) rfl rfl Try.func90 (by kernel_rfl) rfl #[.agg #[.int .i64 a0_0, .int .i64 a0_1, .slice A0_2 l0_2.length c0_2]] rfl (by (try simp only [List.map_toArray, List.map_cons, List.map_nil]); first | done | rfl | (simp only [List.length_drop, List.length_take]; rfl)) ?_; (with_reducible refine (spec_IsCred.calls k a0_0 a0_1 _ _ l0_2 true _ ?side1 ?side2 A9.out).mono ?_); (case side1 => exact Lib.cx (Kd.C_below HR0_2.out HB.out)); (case side2 => exact HC0_2.out); rintro e w33 ⟨rfl, hb⟩; refine ⟨_, rfl, ?_⟩; have n0_ := Aside0.mk (blk_below (g := gb146) (o := .cells #[.int .i64 a0_0, .int .i64 a0_1, .slice A0_2 l0_2.length c0_2] 50 (0, 0)) (by exact Lib.bk BK146.out) hb); have n1_ := Aside0.mk (below_step (by exact Lib.bs HB.out GE146.out) hb); clear BK146; clear HB; have BK146 := n0_; have HB := n1_; clear n0_ n1_; (try clear hb); (try clear hb2); (try clear hk); (try clear hi)) | (go_at_call 81; (with_reducible refine (spec_IsAcl.calls k _ _ l4 false _ ?side1 ?side2 A11.out).mono ?_); (case side1 => exact Lib.cx (Kd.C_below HR4.out HB.out)); (case side2 => exact HC4.out); rintro e w34 ⟨rfl, hb⟩; have n0_ := Aside0.mk (blk_below (g := gb146) (o := .cells #[.int .i64 a0_0, .int .i64 a0_1, .slice A0_2 l0_2.length c0_2] 50 (0, 0)) (by exact Lib.bk BK146.out) hb); have n1_ := Aside0.mk (below_step (by exact Lib.bs HB.out GE146.out) hb); clear BK146; clear HB; have BK146 := n0_; have HB := n1_; clear n0_ n1_; (try clear hb); (try clear hb2); (try clear hk); (try clear hi)))
    go_meet
    case rel => exact ⟨_, (true), (by first | rfl | (simp; done) | (simp [*]; done)), H', ⟨by first | omega | exact Nat.le_refl _⟩, ⟨by exact Lib.bk BK146.out⟩, ⟨by exact Lib.bs HB.out GE146.out⟩⟩
  ·
   replace c10 := Bool.eq_false_iff.mpr c10
   subst c10
   have H1 : (spec_Allowed.j0 k a1 a2 a3 l4 a5 true a0_0 a0_1 l0_2) = some r := by rw [if_neg (show ¬ (false = true) by decide)] at H; exact H
   clear H
   have H := H1
   clear H1
   have H' := Aside0.mk H
   clear H
   obtain ⟨hcz35_0, hcz35_1, hcz35_2, hfz35_0, hfz35_1, hfz35_2⟩ := Lib.cel3 (W := w8) BK146.out
   go_wp2_with (first | ((with_reducible refine gate_callee (f := 90) rfl ?_); refine goesL_ (some 21) rfl rfl Try.func90 (by kernel_rfl) rfl #[.agg #[.int .i64 a0_0, .int .i64 a0_1, .slice A0_2 l0_2.length c0_2]] rfl (by (try simp only [List.map_toArray, List.map_cons, List.map_nil]); first | done | rfl | (simp only [List.length_drop, List.length_take]; rfl)) ?_; (with_reducible refine (spec_IsCred.calls k a0_0 a0_1 _ _ l0_2 false _ ?side1 ?side2 A9.out).mono ?_); (case side1 => exact Lib.cx (Kd.C_below HR0_2.out HB.out)); (case side2 => exact HC0_2.out); rintro e w36 ⟨rfl, hb⟩; refine ⟨_, rfl, ?_⟩; have n0_ := Aside0.mk (blk_below (g := gb146) (o := .cells #[.int .i64 a0_0, .int .i64 a0_1, .slice A0_2 l0_2.length c0_2] 50 (0, 0)) (by exact Lib.bk BK146.out) hb); have n1_ := Aside0.mk (below_step (by exact Lib.bs HB.out GE146.out) hb); clear BK146; clear HB; have BK146 := n0_; have HB := n1_; clear n0_ n1_; (try clear hb); (try clear hb2); (try clear hk); (try clear hi)))
   go_meet
   case rel => exact ⟨_, (true), (by first | rfl | (simp; done) | (simp [*]; done)), H', ⟨by first | omega | exact Nat.le_refl _⟩, ⟨by exact Lib.bk BK146.out⟩, ⟨by exact Lib.bs HB.out GE146.out⟩⟩
 case rest =>
  clear HC7
  try clear c1
  try clear c2
  try clear p2
  try clear c4
  try clear c9
  try clear c10
  try clear c12
  try clear c14
  try clear c16
  try clear c18
  try clear c29
  try clear hcz20_0
  try clear hcz20_1
  try clear hcz20_2
  try clear hcz23_0
  try clear hcz23_1
  try clear hcz23_2
  try clear hcz26_0
  try clear hcz26_1
  try clear hcz26_2
  try clear hcz29_0
  try clear hcz29_1
  try clear hcz29_2
  try clear hcz32_0
  try clear hcz32_1
  try clear hcz32_2
  try clear hcz35_0
  try clear hcz35_1
  try clear hcz35_2
  try clear hfz20_0
  try clear hfz20_1
  try clear hfz20_2
  try clear hfz23_0
  try clear hfz23_1
  try clear hfz23_2
  try clear hfz26_0
  try clear hfz26_1
  try clear hfz26_2
  try clear hfz29_0
  try clear hfz29_1
  try clear hfz29_2
  try clear hfz32_0
  try clear hfz32_1
  try clear hfz32_2
  try clear hfz35_0
  try clear hfz35_1
  try clear hfz35_2
  obtain ⟨kq, x47_6, rfl, HA, HJ6, BK146, HB⟩ := hcut
  cases kq with
  | zero => exact absurd HA.out (by simp [spec_Allowed.j0])
  | succ kj6 =>
   have H := HA.out
   clear HA
   simp only [spec_Allowed.j0] at H
   by_cases c37 : x47_6 = true
   ·
    subst c37
    have H1 : (some false) = some r := by rw [if_pos rfl] at H; exact H
    clear H
    have H := H1
    clear H1
    obtain rfl := Option.some.inj H
    go_wp2
    go_ret
    exact ⟨by first | rfl | (simp [errW_none, errW_some] <;> rfl) | (simp [*, errW_none, errW_some] <;> rfl), by exact Lib.bs HB.out GE146.out⟩
   ·
    replace c37 := Bool.eq_false_iff.mpr c37
    subst c37
    have H1 : (if a0_0 = 0 then (some true) else (if a0_0 = a1 then ((spec_PermOf.f kj6 a3 0).bind fun t153 => ((spec_l06Covers.f t153 a5).bind fun t154 => (some t154))) else ((spec_MaskOf.f kj6 l4).bind fun t155 => ((spec_AclPerm.f kj6 l4 1 a0_0).bind fun bt156 => (if bt156.2 = true then ((spec_l06Covers.f (Go.bits .and .i64 bt156.1 t155) a5).bind fun t158 => (some t158)) else ((spec_InGroup.f kj6 a0_0 a0_1 l0_2 a2).bind fun t159 => (if t159 = true then ((spec_PermOf.f kj6 a3 1).bind fun t160 => ((spec_l06Covers.f t160 a5).bind fun t161 => (spec_Allowed.j1 kj6 a3 l4 a5 t155 true t161 a0_0 a0_1 l0_2))) else (spec_Allowed.j1 kj6 a3 l4 a5 t155 false false a0_0 a0_1 l0_2)))))))) = some r := by rw [if_neg (show ¬ (false = true) by decide)] at H; exact H
    clear H
    have H := H1
    clear H1
    by_cases c38 : a0_0 = 0
    ·
     rw [if_pos c38] at H
     have c38b0 : (a0_0 == 0) = true := beq_iff_eq.mpr c38
     have c38b1 : (a0_0 != 0) = false := bne_eq_false_iff_eq.mpr c38
     clear c38
     obtain rfl := Option.some.inj H
     obtain ⟨hcz39_0, hcz39_1, hcz39_2, hfz39_0, hfz39_1, hfz39_2⟩ := Lib.cel3 (W := wc) BK146.out
     go_wp2
     go_ret
     exact ⟨by first | rfl | (simp [errW_none, errW_some] <;> rfl) | (simp [*, errW_none, errW_some] <;> rfl), by exact Lib.bs HB.out GE146.out⟩
    ·
     rw [if_neg c38] at H
     have c38b0 : (a0_0 == 0) = false := beq_eq_false_iff_ne.mpr c38
     have c38b1 : (a0_0 != 0) = true := bne_iff_ne.mpr c38
     by_cases c40 : a0_0 = a1
     ·
      rw [if_pos c40] at H
      have c40b0 : (a0_0 == a1) = true := beq_iff_eq.mpr c40
      have c40b1 : (a0_0 != a1) = false := bne_eq_false_iff_eq.mpr c40
      clear c40
      replace H := Option.bind_eq_some_iff.mp H
      obtain ⟨t153, A410, H⟩ := H
      replace H : ((spec_l06Covers.f t153 a5).bind fun t154 => (some t154)) = some r := H
      have A41 := Aside0.mk A410
      clear A410
      replace H := Option.bind_eq_some_iff.mp H
      obtain ⟨t154, A420, H⟩ := H
      replace H : (some t154) = some r := H
      have A42 := Aside0.mk A420
      clear A420
      obtain rfl := Option.some.inj H
      obtain ⟨hcz43_0, hcz43_1, hcz43_2, hfz43_0, hfz43_1, hfz43_2⟩ := Lib.cel3 (W := wc) BK146.out
      go_wp2_with (first | ((with_reducible refine gate_callee (f := 92) rfl ?_); refine goesL_ (some 56) rfl rfl Try.func92 (by kernel_rfl) rfl #[.int .i64 a3, .int .i64 0] rfl (by (try simp only [List.map_toArray, List.map_cons, List.map_nil]); first | done | rfl | (simp only [List.length_drop, List.length_take]; rfl)) ?_; (with_reducible refine (spec_PermOf.calls kj6 a3 0 t153 _ A41.out).mono ?_); rintro e w' ⟨rfl, ⟨nd, rfl⟩⟩; refine ⟨_, rfl, ?_⟩) | ((with_reducible refine gate_callee (f := 91) rfl ?_); refine goesL_ (some 58) rfl rfl Try.func91 (by kernel_rfl) rfl #[.int .i64 t153, .int .i64 a5] rfl (by (try simp only [List.map_toArray, List.map_cons, List.map_nil]); first | done | rfl | (simp only [List.length_drop, List.length_take]; rfl)) ?_; (with_reducible refine (spec_l06Covers.calls t153 a5 t154 _ A42.out).mono ?_); rintro e w' ⟨rfl, ⟨nd, rfl⟩⟩; refine ⟨_, rfl, ?_⟩))
      go_ret
      exact ⟨by first | rfl | (simp [errW_none, errW_some] <;> rfl) | (simp [*, errW_none, errW_some] <;> rfl), by exact Lib.bs HB.out GE146.out⟩
     ·
      rw [if_neg c40] at H
      have c40b0 : (a0_0 == a1) = false := beq_eq_false_iff_ne.mpr c40
      have c40b1 : (a0_0 != a1) = true := bne_iff_ne.mpr c40
      replace H := Option.bind_eq_some_iff.mp H
      obtain ⟨t155, A440, H⟩ := H
      try dsimp only at H
      have A44 := Aside0.mk A440
      clear A440
      replace H := Option.bind_eq_some_iff.mp H
      obtain ⟨⟨t156, t157⟩, A450, H⟩ := H
      try dsimp only at H
      have A45 := Aside0.mk A450
      clear A450
      by_cases c46 : t157 = true
      ·
       subst c46
       have H1 : ((spec_l06Covers.f (Go.bits .and .i64 t156 t155) a5).bind fun t158 => (some t158)) = some r := by rw [if_pos rfl] at H; exact H
       clear H
       have H := H1
       clear H1
       replace H := Option.bind_eq_some_iff.mp H
       obtain ⟨t158, A470, H⟩ := H
       replace H : (some t158) = some r := H
       have A47 := Aside0.mk A470
       clear A470
       obtain rfl := Option.some.inj H
       obtain ⟨hcz48_0, hcz48_1, hcz48_2, hfz48_0, hfz48_1, hfz48_2⟩ := Lib.cel3 (W := wc) BK146.out
       go_wp2_with (first | ((with_reducible refine gate_callee (f := 93) rfl ?_); refine goesL_ (some 60) rfl rfl Try.func93 (by kernel_rfl) rfl #[.slice A4 l4.length c4] rfl (by (try simp only [List.map_toArray, List.map_cons, List.map_nil]); first | done | rfl | (simp only [List.length_drop, List.length_take]; rfl)) ?_; (with_reducible refine (spec_MaskOf.calls kj6 _ _ l4 t155 _ ?side1 ?side2 A44.out).mono ?_); (case side1 => exact Lib.cx (Kd.C_below HR4.out HB.out)); (case side2 => exact HC4.out); rintro e w49 ⟨rfl, hb⟩; refine ⟨_, rfl, ?_⟩; have n0_ := Aside0.mk (blk_below (g := gb146) (o := .cells #[.int .i64 a0_0, .int .i64 a0_1, .slice A0_2 l0_2.length c0_2] 50 (0, 0)) (by exact Lib.bk BK146.out) hb); have n1_ := Aside0.mk (below_step (by exact Lib.bs HB.out GE146.out) hb); clear BK146; clear HB; have BK146 := n0_; have HB := n1_; clear n0_ n1_; (try clear hb); (try clear hb2); (try clear hk); (try clear hi); obtain ⟨hcz50_0, hcz50_1, hcz50_2, hfz50_0, hfz50_1, hfz50_2⟩ := Lib.cel3 (W := w49) BK146.out) | ((with_reducible refine gate_callee (f := 94) rfl ?_); refine goesL_ (some 65) rfl rfl Try.func94 (by kernel_rfl) rfl #[.slice A4 l4.length c4, .int .i64 1, .int .i64 a0_0] rfl (by (try simp only [List.map_toArray, List.map_cons, List.map_nil]); first | done | rfl | (simp only [List.length_drop, List.length_take]; rfl)) ?_; (with_reducible refine (spec_AclPerm.calls kj6 _ _ l4 1 a0_0 t156 true _ ?side1 ?side2 A45.out).mono ?_); (case side1 => exact Lib.cx (Kd.C_below HR4.out HB.out)); (case side2 => exact HC4.out); rintro e w51 ⟨rfl, hb⟩; refine ⟨_, rfl, ?_⟩; have n0_ := Aside0.mk (blk_below (g := gb146) (o := .cells #[.int .i64 a0_0, .int .i64 a0_1, .slice A0_2 l0_2.length c0_2] 50 (0, 0)) (by exact Lib.bk BK146.out) hb); have n1_ := Aside0.mk (below_step (by exact Lib.bs HB.out GE146.out) hb); clear BK146; clear HB; have BK146 := n0_; have HB := n1_; clear n0_ n1_; (try clear hb); (try clear hb2); (try clear hk); (try clear hi)) | ((with_reducible refine gate_callee (f := 91) rfl ?_); refine goesL_ (some 73) rfl rfl Try.func91 (by kernel_rfl) rfl #[.int .i64 (Go.bits .and .i64 t156 t155), .int .i64 a5] rfl (by (try simp only [List.map_toArray, List.map_cons, List.map_nil]); first | done | rfl | (simp only [List.length_drop, List.length_take]; rfl)) ?_; (with_reducible refine (spec_l06Covers.calls (Go.bits .and .i64 t156 t155) a5 t158 _ A47.out).mono ?_); rintro e w' ⟨rfl, ⟨nd, rfl⟩⟩; refine ⟨_, rfl, ?_⟩))
       go_ret
       exact ⟨by first | rfl | (simp [errW_none, errW_some] <;> rfl) | (simp [*, errW_none, errW_some] <;> rfl), by exact Lib.bs HB.out GE146.out⟩
      ·
       replace c46 := Bool.eq_false_iff.mpr c46
       subst c46
       have H1 : ((spec_InGroup.f kj6 a0_0 a0_1 l0_2 a2).bind fun t159 => (if t159 = true then ((spec_PermOf.f kj6 a3 1).bind fun t160 => ((spec_l06Covers.f t160 a5).bind fun t161 => (spec_Allowed.j1 kj6 a3 l4 a5 t155 true t161 a0_0 a0_1 l0_2))) else (spec_Allowed.j1 kj6 a3 l4 a5 t155 false false a0_0 a0_1 l0_2))) = some r := by rw [if_neg (show ¬ (false = true) by decide)] at H; exact H
       clear H
       have H := H1
       clear H1
       replace H := Option.bind_eq_some_iff.mp H
       obtain ⟨t159, A520, H⟩ := H
       try dsimp only at H
       have A52 := Aside0.mk A520
       clear A520
       have HC53 := Aside0.mk H
       clear H
       obtain ⟨hcz54_0, hcz54_1, hcz54_2, hfz54_0, hfz54_1, hfz54_2⟩ := Lib.cel3 (W := wc) BK146.out
       go_upto_if 76 with (first | ((with_reducible refine gate_callee (f := 93) rfl ?_); refine goesL_ (some 60) rfl rfl Try.func93 (by kernel_rfl) rfl #[.slice A4 l4.length c4] rfl (by (try simp only [List.map_toArray, List.map_cons, List.map_nil]); first | done | rfl | (simp only [List.length_drop, List.length_take]; rfl)) ?_; (with_reducible refine (spec_MaskOf.calls kj6 _ _ l4 t155 _ ?side1 ?side2 A44.out).mono ?_); (case side1 => exact Lib.cx (Kd.C_below HR4.out HB.out)); (case side2 => exact HC4.out); rintro e w55 ⟨rfl, hb⟩; refine ⟨_, rfl, ?_⟩; have n0_ := Aside0.mk (blk_below (g := gb146) (o := .cells #[.int .i64 a0_0, .int .i64 a0_1, .slice A0_2 l0_2.length c0_2] 50 (0, 0)) (by exact Lib.bk BK146.out) hb); have n1_ := Aside0.mk (below_step (by exact Lib.bs HB.out GE146.out) hb); clear BK146; clear HB; have BK146 := n0_; have HB := n1_; clear n0_ n1_; (try clear hb); (try clear hb2); (try clear hk); (try clear hi); obtain ⟨hcz56_0, hcz56_1, hcz56_2, hfz56_0, hfz56_1, hfz56_2⟩ := Lib.cel3 (W := w55) BK146.out) | ((with_reducible refine gate_callee (f := 94) rfl ?_); refine goesL_ (some 65) rfl rfl Try.func94 (by kernel_rfl) rfl #[.slice A4 l4.length c4, .int .i64 1, .int .i64 a0_0] rfl (by (try simp only [List.map_toArray, List.map_cons, List.map_nil]); first | done | rfl | (simp only [List.length_drop, List.length_take]; rfl)) ?_; (with_reducible refine (spec_AclPerm.calls kj6 _ _ l4 1 a0_0 t156 false _ ?side1 ?side2 A45.out).mono ?_); (case side1 => exact Lib.cx (Kd.C_below HR4.out HB.out)); (case side2 => exact HC4.out); rintro e w57 ⟨rfl, hb⟩; refine ⟨_, rfl, ?_⟩; have n0_ := Aside0.mk (blk_below (g := gb146) (o := .cells #[.int .i64 a0_0, .int .i64 a0_1, .slice A0_2 l0_2.length c0_2] 50 (0, 0)) (by exact Lib.bk BK146.out) hb); have n1_ := Aside0.mk (below_step (by exact Lib.bs HB.out GE146.out) hb); clear BK146; clear HB; have BK146 := n0_; have HB := n1_; clear n0_ n1_; (try clear hb); (try clear hb2); (try clear hk); (try clear hi); obtain ⟨hcz58_0, hcz58_1, hcz58_2, hfz58_0, hfz58_1, hfz58_2⟩ := Lib.cel3 (W := w57) BK146.out) | ((with_reducible refine gate_callee (f := 95) rfl ?_); refine goesL_ (some 76) rfl rfl Try.func95 (by kernel_rfl) rfl #[.agg #[.int .i64 a0_0, .int .i64 a0_1, .slice A0_2 l0_2.length c0_2], .int .i64 a2] rfl (by (try simp only [List.map_toArray, List.map_cons, List.map_nil]); first | done | rfl | (simp only [List.length_drop, List.length_take]; rfl)) ?_; (with_reducible refine (spec_InGroup.calls kj6 a0_0 a0_1 _ _ l0_2 a2 t159 _ ?side1 ?side2 A52.out).mono ?_); (case side1 => exact Lib.cx (Kd.C_below HR0_2.out HB.out)); (case side2 => exact HC0_2.out); rintro e w59 ⟨rfl, hb⟩; refine ⟨_, rfl, ?_⟩; have n0_ := Aside0.mk (blk_below (g := gb146) (o := .cells #[.int .i64 a0_0, .int .i64 a0_1, .slice A0_2 l0_2.length c0_2] 50 (0, 0)) (by exact Lib.bk BK146.out) hb); have n1_ := Aside0.mk (below_step (by exact Lib.bs HB.out GE146.out) hb); clear BK146; clear HB; have BK146 := n0_; have HB := n1_; clear n0_ n1_; (try clear hb); (try clear hb2); (try clear hk); (try clear hi)))
       (try simp only [Act.put, List.setIfInBounds_toArray, List.set_cons_zero, List.set_cons_succ])
       go_cut [16, 17] (fun v16 v17 wc => ∃ (kq : Nat) (x16_52 : Bool) (x17_52 : Bool), v16 = .bool x16_52 ∧ v17 = .bool x17_52 ∧ Aside0 (spec_Allowed.j1 kq a3 l4 a5 t155 x16_52 x17_52 a0_0 a0_1 l0_2 = some r) ∧ Aside0 (kq ≤ kj6) ∧ Aside0 (wc.heap[gb146]? = some (.cells #[.int .i64 a0_0, .int .i64 a0_1, (.slice A0_2 l0_2.length c0_2)] 50 (0, 0))) ∧ Aside0 (Below w.heap.size w wc))
       case first =>
        have H := HC53.out
        clear HC53
        by_cases c60 : t159 = true
        ·
         subst c60
         have H1 : ((spec_PermOf.f kj6 a3 1).bind fun t160 => ((spec_l06Covers.f t160 a5).bind fun t161 => (spec_Allowed.j1 kj6 a3 l4 a5 t155 true t161 a0_0 a0_1 l0_2))) = some r := by rw [if_pos rfl] at H; exact H
         clear H
         have H := H1
         clear H1
         replace H := Option.bind_eq_some_iff.mp H
         obtain ⟨t160, A610, H⟩ := H
         replace H : ((spec_l06Covers.f t160 a5).bind fun t161 => (spec_Allowed.j1 kj6 a3 l4 a5 t155 true t161 a0_0 a0_1 l0_2)) = some r := H
         have A61 := Aside0.mk A610
         clear A610
         replace H := Option.bind_eq_some_iff.mp H
         obtain ⟨t161, A620, H⟩ := H
         replace H : (spec_Allowed.j1 kj6 a3 l4 a5 t155 true t161 a0_0 a0_1 l0_2) = some r := H
         have A62 := Aside0.mk A620
         clear A620
         have H' := Aside0.mk H
         clear H
         go_wp2_with (first | ((with_reducible refine gate_callee (f := 92) rfl ?_); refine goesL_ (some 78) rfl rfl Try.func92 (by kernel_rfl) rfl #[.int .i64 a3, .int .i64 1] rfl (by (try simp only [List.map_toArray, List.map_cons, List.map_nil]); first | done | rfl | (simp only [List.length_drop, List.length_take]; rfl)) ?_; (with_reducible refine (spec_PermOf.calls kj6 a3 1 t160 _ A61.out).mono ?_); rintro e w' ⟨rfl, ⟨nd, rfl⟩⟩; refine ⟨_, rfl, ?_⟩) | ((with_reducible refine gate_callee (f := 91) rfl ?_); refine goesL_ (some 80) rfl rfl Try.func91 (by kernel_rfl) rfl #[.int .i64 t160, .int .i64 a5] rfl (by (try simp only [List.map_toArray, List.map_cons, List.map_nil]); first | done | rfl | (simp only [List.length_drop, List.length_take]; rfl)) ?_; (with_reducible refine (spec_l06Covers.calls t160 a5 t161 _ A62.out).mono ?_); rintro e w' ⟨rfl, ⟨nd, rfl⟩⟩; refine ⟨_, rfl, ?_⟩))
         go_meet
         case rel => exact ⟨_, (true), (t161), (by first | rfl | (simp; done) | (simp [*]; done)), (by first | rfl | (simp; done) | (simp [*]; done)), H', ⟨by have := HJ6.out; first | omega | exact Nat.le_refl _⟩, ⟨by exact Lib.bk BK146.out⟩, ⟨by exact Lib.bs HB.out GE146.out⟩⟩
        ·
         replace c60 := Bool.eq_false_iff.mpr c60
         subst c60
         have H1 : (spec_Allowed.j1 kj6 a3 l4 a5 t155 false false a0_0 a0_1 l0_2) = some r := by rw [if_neg (show ¬ (false = true) by decide)] at H; exact H
         clear H
         have H := H1
         clear H1
         have H' := Aside0.mk H
         clear H
         go_wp2
         go_meet
         case rel => exact ⟨_, (false), (false), (by first | rfl | (simp; done) | (simp [*]; done)), (by first | rfl | (simp; done) | (simp [*]; done)), H', ⟨by have := HJ6.out; first | omega | exact Nat.le_refl _⟩, ⟨by exact Lib.bk BK146.out⟩, ⟨by exact Lib.bs HB.out GE146.out⟩⟩
       case rest =>
        clear HC53
        try clear c1
        try clear c2
        try clear p2
        try clear c3
        try clear c4
        try clear c6
        try clear c9
        try clear c10
        try clear c12
        try clear c14
        try clear c16
        try clear c18
        try clear c29
        try clear c37
        try clear c38
        try clear c38b0
        try clear c38b1
        try clear c40
        try clear c40b0
        try clear c40b1
        try clear c46
        try clear c60
        try clear hcz20_0
        try clear hcz20_1
        try clear hcz20_2
        try clear hcz23_0
        try clear hcz23_1
        try clear hcz23_2
        try clear hcz26_0
        try clear hcz26_1
        try clear hcz26_2
        try clear hcz29_0
        try clear hcz29_1
        try clear hcz29_2
        try clear hcz32_0
        try clear hcz32_1
        try clear hcz32_2
        try clear hcz35_0
        try clear hcz35_1
        try clear hcz35_2
        try clear hcz39_0
        try clear hcz39_1
        try clear hcz39_2
        try clear hcz43_0
        try clear hcz43_1
        try clear hcz43_2
        try clear hcz48_0
        try clear hcz48_1
        try clear hcz48_2
        try clear hcz50_0
        try clear hcz50_1
        try clear hcz50_2
        try clear hcz54_0
        try clear hcz54_1
        try clear hcz54_2
        try clear hcz56_0
        try clear hcz56_1
        try clear hcz56_2
        try clear hcz58_0
        try clear hcz58_1
        try clear hcz58_2
        try clear hfz20_0
        try clear hfz20_1
        try clear hfz20_2
        try clear hfz23_0
        try clear hfz23_1
        try clear hfz23_2
        try clear hfz26_0
        try clear hfz26_1
        try clear hfz26_2
        try clear hfz29_0
        try clear hfz29_1
        try clear hfz29_2
        try clear hfz32_0
        try clear hfz32_1
        try clear hfz32_2
        try clear hfz35_0
        try clear hfz35_1
        try clear hfz35_2
        try clear hfz39_0
        try clear hfz39_1
        try clear hfz39_2
        try clear hfz43_0
        try clear hfz43_1
        try clear hfz43_2
        try clear hfz48_0
        try clear hfz48_1
        try clear hfz48_2
        try clear hfz50_0
        try clear hfz50_1
        try clear hfz50_2
        try clear hfz54_0
        try clear hfz54_1
        try clear hfz54_2
        try clear hfz56_0
        try clear hfz56_1
        try clear hfz56_2
        try clear hfz58_0
        try clear hfz58_1
        try clear hfz58_2
        try clear p2
        obtain ⟨kq, x16_52, x17_52, rfl, rfl, HA, HJ52, BK146, HB⟩ := hcut
        cases kq with
        | zero => exact absurd HA.out (by simp [spec_Allowed.j1])
        | succ kj52 =>
         have H := HA.out
         clear HA
         simp only [spec_Allowed.j1] at H
         have H' := Aside0.mk H
         clear H
         go_wp2
         go_loopg [16, 17, 83] kj52 (fun kq v16 v17 v83 w' => ∃ (x16_3 : Bool) (x17_3 : Bool) (x83_3 : Int), v16 = .bool x16_3 ∧ v17 = .bool x17_3 ∧ v83 = .int .i64 x83_3 ∧ Aside0 (spec_Allowed.l0 kq a3 a5 t155 x16_3 x17_3 l4 (l4.length : Int) x83_3 a0_0 a0_1 l0_2 = some r) ∧ Aside0 (kq ≤ kj52) ∧ Aside0 (w'.heap[gb146]? = some (.cells #[.int .i64 a0_0, .int .i64 a0_1, (.slice A0_2 l0_2.length c0_2)] 50 (0, 0))) ∧ Aside0 (Below w.heap.size w w'))
         case atStart => exact ⟨(x16_52), (x17_52), (0), (by first | rfl | (simp; done) | (simp [*]; done)), (by first | rfl | (simp; done) | (simp [*]; done)), (by first | rfl | (simp; done) | (simp [*]; done)), H', ⟨Nat.le_refl _⟩, ⟨by exact Lib.bk BK146.out⟩, ⟨by exact Lib.bs HB.out GE146.out⟩⟩
         case round =>
          clear H'
          try clear c1
          try clear c2
          try clear p2
          try clear c3
          try clear c4
          try clear c6
          try clear c9
          try clear c10
          try clear c12
          try clear c14
          try clear c16
          try clear c18
          try clear c29
          try clear c37
          try clear c38
          try clear c38b0
          try clear c38b1
          try clear c40
          try clear c40b0
          try clear c40b1
          try clear c46
          try clear c60
          try clear hcz20_0
          try clear hcz20_1
          try clear hcz20_2
          try clear hcz23_0
          try clear hcz23_1
          try clear hcz23_2
          try clear hcz26_0
          try clear hcz26_1
          try clear hcz26_2
          try clear hcz29_0
          try clear hcz29_1
          try clear hcz29_2
          try clear hcz32_0
          try clear hcz32_1
          try clear hcz32_2
          try clear hcz35_0
          try clear hcz35_1
          try clear hcz35_2
          try clear hcz39_0
          try clear hcz39_1
          try clear hcz39_2
          try clear hcz43_0
          try clear hcz43_1
          try clear hcz43_2
          try clear hcz48_0
          try clear hcz48_1
          try clear hcz48_2
          try clear hcz50_0
          try clear hcz50_1
          try clear hcz50_2
          try clear hcz54_0
          try clear hcz54_1
          try clear hcz54_2
          try clear hcz56_0
          try clear hcz56_1
          try clear hcz56_2
          try clear hcz58_0
          try clear hcz58_1
          try clear hcz58_2
          try clear hfz20_0
          try clear hfz20_1
          try clear hfz20_2
          try clear hfz23_0
          try clear hfz23_1
          try clear hfz23_2
          try clear hfz26_0
          try clear hfz26_1
          try clear hfz26_2
          try clear hfz29_0
          try clear hfz29_1
          try clear hfz29_2
          try clear hfz32_0
          try clear hfz32_1
          try clear hfz32_2
          try clear hfz35_0
          try clear hfz35_1
          try clear hfz35_2
          try clear hfz39_0
          try clear hfz39_1
          try clear hfz39_2
          try clear hfz43_0
          try clear hfz43_1
          try clear hfz43_2
          try clear hfz48_0
          try clear hfz48_1
          try clear hfz48_2
          try clear hfz50_0
          try clear hfz50_1
          try clear hfz50_2
          try clear hfz54_0
          try clear hfz54_1
          try clear hfz54_2
          try clear hfz56_0
          try clear hfz56_1
          try clear hfz56_2
          try clear hfz58_0
          try clear hfz58_1
          try clear hfz58_2
          try clear p2
          obtain ⟨x16_3, x17_3, x83_3, rfl, rfl, rfl, HA, HK3, BK146, HB⟩ := hrel
          cases gk with
          | zero => exact absurd HA.out (by simp [spec_Allowed.l0])
          | succ k3 =>
           have H := HA.out
           clear HA
           simp only [spec_Allowed.l0] at H
           by_cases c63 : x83_3 < (l4.length : Int)
           ·
            rw [if_pos c63] at H
            have c63b0 : decide (x83_3 < (l4.length : Int)) = true := decide_eq_true c63
            clear c63
            by_cases c64 : 0 ≤ x83_3
            ·
             rw [if_pos c64] at H
             have c64b0 : decide (0 ≤ x83_3) = true := decide_eq_true c64
             clear c64
             by_cases c65 : x83_3 < (l4.length : Int)
             ·
              rw [if_pos c65] at H
              have c65b0 : decide (x83_3 < (l4.length : Int)) = true := decide_eq_true c65
              clear c65
              by_cases c66 : ((rd_T115 l4 x83_3).f0) = 2
              ·
               rw [if_pos c66] at H
               have c66b0 : (((rd_T115 l4 x83_3).f0) == 2) = true := beq_iff_eq.mpr c66
               have c66b1 : (((rd_T115 l4 x83_3).f0) != 2) = false := bne_eq_false_iff_eq.mpr c66
               clear c66
               replace H := Option.bind_eq_some_iff.mp H
               obtain ⟨t164, A670, H⟩ := H
               try dsimp only at H
               have A67 := Aside0.mk A670
               clear A670
               by_cases c68 : t164 = true
               ·
                subst c68
                have H1 : (if x17_3 = true then (spec_Allowed.l0 k3 a3 a5 t155 true true l4 (l4.length : Int) (wrap64 (x83_3 + 1)) a0_0 a0_1 l0_2) else ((spec_l06Covers.f ((rd_T115 l4 x83_3).f2) a5).bind fun t165 => (spec_Allowed.l0 k3 a3 a5 t155 true t165 l4 (l4.length : Int) (wrap64 (x83_3 + 1)) a0_0 a0_1 l0_2))) = some r := by rw [if_pos rfl] at H; exact H
                clear H
                have H := H1
                clear H1
                by_cases c69 : x17_3 = true
                ·
                 subst c69
                 have H1 : (spec_Allowed.l0 k3 a3 a5 t155 true true l4 (l4.length : Int) (wrap64 (x83_3 + 1)) a0_0 a0_1 l0_2) = some r := by rw [if_pos rfl] at H; exact H
                 clear H
                 have H := H1
                 clear H1
                 have H' := Aside0.mk H
                 clear H
                 have p162 : 0 ≤ (x83_3 : Int) := Lib.od
                 have q162 : x83_3 < (l4.length : Int) := Lib.od
                 obtain ⟨ad162, e162, hx162_0, hx162_1, hx162_2⟩ := at_T115 HR4.out x83_3 p162 q162
                 cases e162
                 replace hx162_0 := (HB.out.cell (World.block_lt_of_cell? w _ hx162_0)).trans hx162_0
                 replace hx162_1 := (HB.out.cell (World.block_lt_of_cell? w _ hx162_1)).trans hx162_1
                 replace hx162_2 := (HB.out.cell (World.block_lt_of_cell? w _ hx162_2)).trans hx162_2
                 replace p162 := eq_true p162
                 replace q162 := eq_true q162
                 go_wp2_with (first | ((with_reducible refine gate_dst (N := 19) rfl ?_); refine box_event ?hg (N := 19) ?hd (cs := #[.int .i64 0, .int .i64 0, .int .i64 0]) (t := 115) ?hr ?_; (case hd => rfl); (case hg => rfl); (case hr => first | (go_simp; done) | (go_simp; rfl)); intro gb163 hg w70 hbox hb; have n0_ := Aside0.mk (blk_below (g := gb146) (o := .cells #[.int .i64 a0_0, .int .i64 a0_1, .slice A0_2 l0_2.length c0_2] 50 (0, 0)) (by exact Lib.bk BK146.out) hb); have n1_ := Aside0.mk (below_step (by exact Lib.bs HB.out GE146.out) hb); have n2_ := Aside0.mk (hbox); have n3_ := Aside0.mk ((by rw [hg]; exact (below_size (by exact Lib.bs HB.out GE146.out)) : w.heap.size ≤ gb163)); have n4_ := Aside0.mk ((by rw [hg]; exact (below_size (by exact Lib.bs HB.out GE146.out)) : w.heap.size ≤ gb163)); have n5_ := Aside0.mk ((by rw [hg]; exact Nat.ne_of_lt (blk_lt (g := gb146) (o := .cells #[.int .i64 a0_0, .int .i64 a0_1, .slice A0_2 l0_2.length c0_2] 50 (0, 0)) (by exact Lib.bk BK146.out)) : gb146 ≠ gb163)); have n6_ := Aside0.mk ((by rw [hg]; exact Nat.ne_of_gt (blk_lt (g := gb146) (o := .cells #[.int .i64 a0_0, .int .i64 a0_1, .slice A0_2 l0_2.length c0_2] 50 (0, 0)) (by exact Lib.bk BK146.out)) : gb163 ≠ gb146)); clear BK146; clear HB; have BK146 := n0_; have HB := n1_; have BK163 := n2_; have GW163 := n3_; have GE163 := n4_; have NB146_163 := n5_; have NB163_146 := n6_; clear n0_ n1_ n2_ n3_ n4_ n5_ n6_; clear hb hbox hg; have hnb71 := NB163_146.out; have hnc71 := NB146_163.out; obtain ⟨hcz72_0, hcz72_1, hcz72_2, hfz72_0, hfz72_1, hfz72_2⟩ := Lib.cel3 (W := w70) BK163.out; obtain ⟨hcz73_0, hcz73_1, hcz73_2, hfz73_0, hfz73_1, hfz73_2⟩ := Lib.cel3 (W := w70) BK146.out) | (go_at_call 95; (with_reducible refine (spec_InGroup.calls k3 a0_0 a0_1 _ _ l0_2 ((rd_T115 l4 x83_3).f1) true _ ?side1 ?side2 A67.out).mono ?_); (case side1 => exact Kd.C_below HR0_2.out (by repeat (first | (with_reducible first | exact HB.out | apply below_alloc | apply pw_below_drewN | apply below_drew1 | refine below_set ?_ GE146.out | refine below_set ?_ GE163.out) | exact HB.out))); (case side2 => exact HC0_2.out); rintro e w74 ⟨rfl, hb⟩; have n0_ := Aside0.mk (blk_below (g := gb146) (o := .cells #[.int .i64 a0_0, .int .i64 a0_1, .slice A0_2 l0_2.length c0_2] 50 (0, 0)) (by (with_reducible repeat (first | refine blk_drewN ?_ _ | refine blk_drew ?_ | refine blk_alloc ?_ _)); refine blk_far ?_ NB146_163.out _; (with_reducible repeat (first | refine blk_drewN ?_ _ | refine blk_drew ?_ | refine blk_alloc ?_ _)); refine blk_far ?_ NB146_163.out _; (with_reducible repeat (first | refine blk_drewN ?_ _ | refine blk_drew ?_ | refine blk_alloc ?_ _)); refine blk_far ?_ NB146_163.out _; (with_reducible repeat (first | refine blk_drewN ?_ _ | refine blk_drew ?_ | refine blk_alloc ?_ _)); exact BK146.out) hb); have n1_ := Aside0.mk (blk_below (g := gb163) (o := .cells #[.int .i64 ((rd_T115 l4 x83_3).f0), .int .i64 ((rd_T115 l4 x83_3).f1), .int .i64 ((rd_T115 l4 x83_3).f2)] 115 (0, 0)) (by (with_reducible repeat (first | refine blk_drewN ?_ _ | refine blk_drew ?_ | refine blk_alloc ?_ _)); refine blk_put (cs := #[.int .i64 ((rd_T115 l4 x83_3).f0), .int .i64 ((rd_T115 l4 x83_3).f1), .int .i64 0]) ?_ 2 _ rfl; (with_reducible repeat (first | refine blk_drewN ?_ _ | refine blk_drew ?_ | refine blk_alloc ?_ _)); refine blk_put (cs := #[.int .i64 ((rd_T115 l4 x83_3).f0), .int .i64 0, .int .i64 0]) ?_ 1 _ rfl; (with_reducible repeat (first | refine blk_drewN ?_ _ | refine blk_drew ?_ | refine blk_alloc ?_ _)); refine blk_put (cs := #[.int .i64 0, .int .i64 0, .int .i64 0]) ?_ 0 _ rfl; (with_reducible repeat (first | refine blk_drewN ?_ _ | refine blk_drew ?_ | refine blk_alloc ?_ _)); exact BK163.out) hb); have n2_ := Aside0.mk (below_step (by repeat (first | (with_reducible first | exact HB.out | apply below_alloc | apply pw_below_drewN | apply below_drew1 | refine below_set ?_ GE146.out | refine below_set ?_ GE163.out) | exact HB.out)) hb); clear BK146; clear BK163; clear HB; have BK146 := n0_; have BK163 := n1_; have HB := n2_; clear n0_ n1_ n2_; (try clear hb); (try clear hb2); (try clear hk); (try clear hi)))
                 go_roundg k3
                 case measure => have := HJ6.out; have := HJ52.out; have := HK3.out; omega
                 case rel => exact ⟨(true), (true), (wrap64 (x83_3 + 1)), (by first | rfl | (simp; done) | (simp [*]; done)), (by first | rfl | (simp; done) | (simp [*]; done)), (by first | rfl | (simp; done) | (simp [*]; done)), H', ⟨by have := HJ6.out; have := HJ52.out; have := HK3.out; omega⟩, ⟨by exact Lib.bk BK146.out⟩, ⟨by repeat (first | (with_reducible first | exact HB.out | apply below_alloc | apply pw_below_drewN | apply below_drew1 | refine below_set ?_ GE146.out | refine below_set ?_ GE163.out) | exact HB.out)⟩⟩
                ·
                 replace c69 := Bool.eq_false_iff.mpr c69
                 subst c69
                 have H1 : ((spec_l06Covers.f ((rd_T115 l4 x83_3).f2) a5).bind fun t165 => (spec_Allowed.l0 k3 a3 a5 t155 true t165 l4 (l4.length : Int) (wrap64 (x83_3 + 1)) a0_0 a0_1 l0_2)) = some r := by rw [if_neg (show ¬ (false = true) by decide)] at H; exact H
                 clear H
                 have H := H1
                 clear H1
                 replace H := Option.bind_eq_some_iff.mp H
                 obtain ⟨t165, A750, H⟩ := H
                 replace H : (spec_Allowed.l0 k3 a3 a5 t155 true t165 l4 (l4.length : Int) (wrap64 (x83_3 + 1)) a0_0 a0_1 l0_2) = some r := H
                 have A75 := Aside0.mk A750
                 clear A750
                 have H' := Aside0.mk H
                 clear H
                 have p162 : 0 ≤ (x83_3 : Int) := Lib.od
                 have q162 : x83_3 < (l4.length : Int) := Lib.od
                 obtain ⟨ad162, e162, hx162_0, hx162_1, hx162_2⟩ := at_T115 HR4.out x83_3 p162 q162
                 cases e162
                 replace hx162_0 := (HB.out.cell (World.block_lt_of_cell? w _ hx162_0)).trans hx162_0
                 replace hx162_1 := (HB.out.cell (World.block_lt_of_cell? w _ hx162_1)).trans hx162_1
                 replace hx162_2 := (HB.out.cell (World.block_lt_of_cell? w _ hx162_2)).trans hx162_2
                 replace p162 := eq_true p162
                 replace q162 := eq_true q162
                 go_wp2_with (first | ((with_reducible refine gate_dst (N := 19) rfl ?_); refine box_event ?hg (N := 19) ?hd (cs := #[.int .i64 0, .int .i64 0, .int .i64 0]) (t := 115) ?hr ?_; (case hd => rfl); (case hg => rfl); (case hr => first | (go_simp; done) | (go_simp; rfl)); intro gb163 hg w76 hbox hb; have n0_ := Aside0.mk (blk_below (g := gb146) (o := .cells #[.int .i64 a0_0, .int .i64 a0_1, .slice A0_2 l0_2.length c0_2] 50 (0, 0)) (by exact Lib.bk BK146.out) hb); have n1_ := Aside0.mk (below_step (by exact Lib.bs HB.out GE146.out) hb); have n2_ := Aside0.mk (hbox); have n3_ := Aside0.mk ((by rw [hg]; exact (below_size (by exact Lib.bs HB.out GE146.out)) : w.heap.size ≤ gb163)); have n4_ := Aside0.mk ((by rw [hg]; exact (below_size (by exact Lib.bs HB.out GE146.out)) : w.heap.size ≤ gb163)); have n5_ := Aside0.mk ((by rw [hg]; exact Nat.ne_of_lt (blk_lt (g := gb146) (o := .cells #[.int .i64 a0_0, .int .i64 a0_1, .slice A0_2 l0_2.length c0_2] 50 (0, 0)) (by exact Lib.bk BK146.out)) : gb146 ≠ gb163)); have n6_ := Aside0.mk ((by rw [hg]; exact Nat.ne_of_gt (blk_lt (g := gb146) (o := .cells #[.int .i64 a0_0, .int .i64 a0_1, .slice A0_2 l0_2.length c0_2] 50 (0, 0)) (by exact Lib.bk BK146.out)) : gb163 ≠ gb146)); clear BK146; clear HB; have BK146 := n0_; have HB := n1_; have BK163 := n2_; have GW163 := n3_; have GE163 := n4_; have NB146_163 := n5_; have NB163_146 := n6_; clear n0_ n1_ n2_ n3_ n4_ n5_ n6_; clear hb hbox hg; have hnb77 := NB163_146.out; have hnc77 := NB146_163.out; obtain ⟨hcz78_0, hcz78_1, hcz78_2, hfz78_0, hfz78_1, hfz78_2⟩ := Lib.cel3 (W := w76) BK163.out; obtain ⟨hcz79_0, hcz79_1, hcz79_2, hfz79_0, hfz79_1, hfz79_2⟩ := Lib.cel3 (W := w76) BK146.out) | (go_at_call 95; (with_reducible refine (spec_InGroup.calls k3 a0_0 a0_1 _ _ l0_2 ((rd_T115 l4 x83_3).f1) true _ ?side1 ?side2 A67.out).mono ?_); (case side1 => exact Kd.C_below HR0_2.out (by repeat (first | (with_reducible first | exact HB.out | apply below_alloc | apply pw_below_drewN | apply below_drew1 | refine below_set ?_ GE146.out | refine below_set ?_ GE163.out) | exact HB.out))); (case side2 => exact HC0_2.out); rintro e w80 ⟨rfl, hb⟩; have n0_ := Aside0.mk (blk_below (g := gb146) (o := .cells #[.int .i64 a0_0, .int .i64 a0_1, .slice A0_2 l0_2.length c0_2] 50 (0, 0)) (by (with_reducible repeat (first | refine blk_drewN ?_ _ | refine blk_drew ?_ | refine blk_alloc ?_ _)); refine blk_far ?_ NB146_163.out _; (with_reducible repeat (first | refine blk_drewN ?_ _ | refine blk_drew ?_ | refine blk_alloc ?_ _)); refine blk_far ?_ NB146_163.out _; (with_reducible repeat (first | refine blk_drewN ?_ _ | refine blk_drew ?_ | refine blk_alloc ?_ _)); refine blk_far ?_ NB146_163.out _; (with_reducible repeat (first | refine blk_drewN ?_ _ | refine blk_drew ?_ | refine blk_alloc ?_ _)); exact BK146.out) hb); have n1_ := Aside0.mk (blk_below (g := gb163) (o := .cells #[.int .i64 ((rd_T115 l4 x83_3).f0), .int .i64 ((rd_T115 l4 x83_3).f1), .int .i64 ((rd_T115 l4 x83_3).f2)] 115 (0, 0)) (by (with_reducible repeat (first | refine blk_drewN ?_ _ | refine blk_drew ?_ | refine blk_alloc ?_ _)); refine blk_put (cs := #[.int .i64 ((rd_T115 l4 x83_3).f0), .int .i64 ((rd_T115 l4 x83_3).f1), .int .i64 0]) ?_ 2 _ rfl; (with_reducible repeat (first | refine blk_drewN ?_ _ | refine blk_drew ?_ | refine blk_alloc ?_ _)); refine blk_put (cs := #[.int .i64 ((rd_T115 l4 x83_3).f0), .int .i64 0, .int .i64 0]) ?_ 1 _ rfl; (with_reducible repeat (first | refine blk_drewN ?_ _ | refine blk_drew ?_ | refine blk_alloc ?_ _)); refine blk_put (cs := #[.int .i64 0, .int .i64 0, .int .i64 0]) ?_ 0 _ rfl; (with_reducible repeat (first | refine blk_drewN ?_ _ | refine blk_drew ?_ | refine blk_alloc ?_ _)); exact BK163.out) hb); have n2_ := Aside0.mk (below_step (by repeat (first | (with_reducible first | exact HB.out | apply below_alloc | apply pw_below_drewN | apply below_drew1 | refine below_set ?_ GE146.out | refine below_set ?_ GE163.out) | exact HB.out)) hb); clear BK146; clear BK163; clear HB; have BK146 := n0_; have BK163 := n1_; have HB := n2_; clear n0_ n1_ n2_; (try clear hb); (try clear hb2); (try clear hk); (try clear hi); obtain ⟨hcz81_0, hcz81_1, hcz81_2, hfz81_0, hfz81_1, hfz81_2⟩ := Lib.cel3 (W := w80) BK163.out) | (go_at_call 91; (with_reducible refine (spec_l06Covers.calls ((rd_T115 l4 x83_3).f2) a5 t165 _ A75.out).mono ?_); rintro e w' ⟨rfl, ⟨nd, rfl⟩⟩))
                 go_roundg k3
                 case measure => have := HJ6.out; have := HJ52.out; have := HK3.out; omega
                 case rel => exact ⟨(true), (t165), (wrap64 (x83_3 + 1)), (by first | rfl | (simp; done) | (simp [*]; done)), (by first | rfl | (simp; done) | (simp [*]; done)), (by first | rfl | (simp; done) | (simp [*]; done)), H', ⟨by have := HJ6.out; have := HJ52.out; have := HK3.out; omega⟩, ⟨by exact Lib.bk BK146.out⟩, ⟨by repeat (first | (with_reducible first | exact HB.out | apply below_alloc | apply pw_below_drewN | apply below_drew1 | refine below_set ?_ GE146.out | refine below_set ?_ GE163.out) | exact HB.out)⟩⟩
               ·
                replace c68 := Bool.eq_false_iff.mpr c68
                subst c68
                have H1 : (spec_Allowed.l0 k3 a3 a5 t155 x16_3 x17_3 l4 (l4.length : Int) (wrap64 (x83_3 + 1)) a0_0 a0_1 l0_2) = some r := by rw [if_neg (show ¬ (false = true) by decide)] at H; exact H
                clear H
                have H := H1
                clear H1
                have H' := Aside0.mk H
                clear H
                have p162 : 0 ≤ (x83_3 : Int) := Lib.od
                have q162 : x83_3 < (l4.length : Int) := Lib.od
                obtain ⟨ad162, e162, hx162_0, hx162_1, hx162_2⟩ := at_T115 HR4.out x83_3 p162 q162
                cases e162
                replace hx162_0 := (HB.out.cell (World.block_lt_of_cell? w _ hx162_0)).trans hx162_0
                replace hx162_1 := (HB.out.cell (World.block_lt_of_cell? w _ hx162_1)).trans hx162_1
                replace hx162_2 := (HB.out.cell (World.block_lt_of_cell? w _ hx162_2)).trans hx162_2
                replace p162 := eq_true p162
                replace q162 := eq_true q162
                go_wp2_with (first | ((with_reducible refine gate_dst (N := 19) rfl ?_); refine box_event ?hg (N := 19) ?hd (cs := #[.int .i64 0, .int .i64 0, .int .i64 0]) (t := 115) ?hr ?_; (case hd => rfl); (case hg => rfl); (case hr => first | (go_simp; done) | (go_simp; rfl)); intro gb163 hg w82 hbox hb; have n0_ := Aside0.mk (blk_below (g := gb146) (o := .cells #[.int .i64 a0_0, .int .i64 a0_1, .slice A0_2 l0_2.length c0_2] 50 (0, 0)) (by exact Lib.bk BK146.out) hb); have n1_ := Aside0.mk (below_step (by exact Lib.bs HB.out GE146.out) hb); have n2_ := Aside0.mk (hbox); have n3_ := Aside0.mk ((by rw [hg]; exact (below_size (by exact Lib.bs HB.out GE146.out)) : w.heap.size ≤ gb163)); have n4_ := Aside0.mk ((by rw [hg]; exact (below_size (by exact Lib.bs HB.out GE146.out)) : w.heap.size ≤ gb163)); have n5_ := Aside0.mk ((by rw [hg]; exact Nat.ne_of_lt (blk_lt (g := gb146) (o := .cells #[.int .i64 a0_0, .int .i64 a0_1, .slice A0_2 l0_2.length c0_2] 50 (0, 0)) (by exact Lib.bk BK146.out)) : gb146 ≠ gb163)); have n6_ := Aside0.mk ((by rw [hg]; exact Nat.ne_of_gt (blk_lt (g := gb146) (o := .cells #[.int .i64 a0_0, .int .i64 a0_1, .slice A0_2 l0_2.length c0_2] 50 (0, 0)) (by exact Lib.bk BK146.out)) : gb163 ≠ gb146)); clear BK146; clear HB; have BK146 := n0_; have HB := n1_; have BK163 := n2_; have GW163 := n3_; have GE163 := n4_; have NB146_163 := n5_; have NB163_146 := n6_; clear n0_ n1_ n2_ n3_ n4_ n5_ n6_; clear hb hbox hg; have hnb83 := NB163_146.out; have hnc83 := NB146_163.out; obtain ⟨hcz84_0, hcz84_1, hcz84_2, hfz84_0, hfz84_1, hfz84_2⟩ := Lib.cel3 (W := w82) BK163.out; obtain ⟨hcz85_0, hcz85_1, hcz85_2, hfz85_0, hfz85_1, hfz85_2⟩ := Lib.cel3 (W := w82) BK146.out) | (go_at_call 95; (with_reducible refine (spec_InGroup.calls k3 a0_0 a0_1 _ _ l0_2 ((rd_T115 l4 x83_3).f1) false _ ?side1 ?side2 A67.out).mono ?_); (case side1 => exact Kd.C_below HR0_2.out (by repeat (first | (with_reducible first | exact HB.out | apply below_alloc | apply pw_below_drewN | apply below_drew1 | refine below_set ?_ GE146.out | refine below_set ?_ GE163.out) | exact HB.out))); (case side2 => exact HC0_2.out); rintro e w86 ⟨rfl, hb⟩; have n0_ := Aside0.mk (blk_below (g := gb146) (o := .cells #[.int .i64 a0_0, .int .i64 a0_1, .slice A0_2 l0_2.length c0_2] 50 (0, 0)) (by (with_reducible repeat (first | refine blk_drewN ?_ _ | refine blk_drew ?_ | refine blk_alloc ?_ _)); refine blk_far ?_ NB146_163.out _; (with_reducible repeat (first | refine blk_drewN ?_ _ | refine blk_drew ?_ | refine blk_alloc ?_ _)); refine blk_far ?_ NB146_163.out _; (with_reducible repeat (first | refine blk_drewN ?_ _ | refine blk_drew ?_ | refine blk_alloc ?_ _)); refine blk_far ?_ NB146_163.out _; (with_reducible repeat (first | refine blk_drewN ?_ _ | refine blk_drew ?_ | refine blk_alloc ?_ _)); exact BK146.out) hb); have n1_ := Aside0.mk (blk_below (g := gb163) (o := .cells #[.int .i64 ((rd_T115 l4 x83_3).f0), .int .i64 ((rd_T115 l4 x83_3).f1), .int .i64 ((rd_T115 l4 x83_3).f2)] 115 (0, 0)) (by (with_reducible repeat (first | refine blk_drewN ?_ _ | refine blk_drew ?_ | refine blk_alloc ?_ _)); refine blk_put (cs := #[.int .i64 ((rd_T115 l4 x83_3).f0), .int .i64 ((rd_T115 l4 x83_3).f1), .int .i64 0]) ?_ 2 _ rfl; (with_reducible repeat (first | refine blk_drewN ?_ _ | refine blk_drew ?_ | refine blk_alloc ?_ _)); refine blk_put (cs := #[.int .i64 ((rd_T115 l4 x83_3).f0), .int .i64 0, .int .i64 0]) ?_ 1 _ rfl; (with_reducible repeat (first | refine blk_drewN ?_ _ | refine blk_drew ?_ | refine blk_alloc ?_ _)); refine blk_put (cs := #[.int .i64 0, .int .i64 0, .int .i64 0]) ?_ 0 _ rfl; (with_reducible repeat (first | refine blk_drewN ?_ _ | refine blk_drew ?_ | refine blk_alloc ?_ _)); exact BK163.out) hb); have n2_ := Aside0.mk (below_step (by repeat (first | (with_reducible first | exact HB.out | apply below_alloc | apply pw_below_drewN | apply below_drew1 | refine below_set ?_ GE146.out | refine below_set ?_ GE163.out) | exact HB.out)) hb); clear BK146; clear BK163; clear HB; have BK146 := n0_; have BK163 := n1_; have HB := n2_; clear n0_ n1_ n2_; (try clear hb); (try clear hb2); (try clear hk); (try clear hi)))
                go_roundg k3
                case measure => have := HJ6.out; have := HJ52.out; have := HK3.out; omega
                case rel => exact ⟨(x16_3), (x17_3), (wrap64 (x83_3 + 1)), (by first | rfl | (simp; done) | (simp [*]; done)), (by first | rfl | (simp; done) | (simp [*]; done)), (by first | rfl | (simp; done) | (simp [*]; done)), H', ⟨by have := HJ6.out; have := HJ52.out; have := HK3.out; omega⟩, ⟨by exact Lib.bk BK146.out⟩, ⟨by repeat (first | (with_reducible first | exact HB.out | apply below_alloc | apply pw_below_drewN | apply below_drew1 | refine below_set ?_ GE146.out | refine below_set ?_ GE163.out) | exact HB.out)⟩⟩
              ·
               rw [if_neg c66] at H
               have c66b0 : (((rd_T115 l4 x83_3).f0) == 2) = false := beq_eq_false_iff_ne.mpr c66
               have c66b1 : (((rd_T115 l4 x83_3).f0) != 2) = true := bne_iff_ne.mpr c66
               have H' := Aside0.mk H
               clear H
               have p162 : 0 ≤ (x83_3 : Int) := Lib.od
               have q162 : x83_3 < (l4.length : Int) := Lib.od
               obtain ⟨ad162, e162, hx162_0, hx162_1, hx162_2⟩ := at_T115 HR4.out x83_3 p162 q162
               cases e162
               replace hx162_0 := (HB.out.cell (World.block_lt_of_cell? w _ hx162_0)).trans hx162_0
               replace hx162_1 := (HB.out.cell (World.block_lt_of_cell? w _ hx162_1)).trans hx162_1
               replace hx162_2 := (HB.out.cell (World.block_lt_of_cell? w _ hx162_2)).trans hx162_2
               replace p162 := eq_true p162
               replace q162 := eq_true q162
               go_wp2_with (first | ((with_reducible refine gate_dst (N := 19) rfl ?_); refine box_event ?hg (N := 19) ?hd (cs := #[.int .i64 0, .int .i64 0, .int .i64 0]) (t := 115) ?hr ?_; (case hd => rfl); (case hg => rfl); (case hr => first | (go_simp; done) | (go_simp; rfl)); intro gb163 hg w87 hbox hb; have n0_ := Aside0.mk (blk_below (g := gb146) (o := .cells #[.int .i64 a0_0, .int .i64 a0_1, .slice A0_2 l0_2.length c0_2] 50 (0, 0)) (by exact Lib.bk BK146.out) hb); have n1_ := Aside0.mk (below_step (by exact Lib.bs HB.out GE146.out) hb); have n2_ := Aside0.mk (hbox); have n3_ := Aside0.mk ((by rw [hg]; exact (below_size (by exact Lib.bs HB.out GE146.out)) : w.heap.size ≤ gb163)); have n4_ := Aside0.mk ((by rw [hg]; exact (below_size (by exact Lib.bs HB.out GE146.out)) : w.heap.size ≤ gb163)); have n5_ := Aside0.mk ((by rw [hg]; exact Nat.ne_of_lt (blk_lt (g := gb146) (o := .cells #[.int .i64 a0_0, .int .i64 a0_1, .slice A0_2 l0_2.length c0_2] 50 (0, 0)) (by exact Lib.bk BK146.out)) : gb146 ≠ gb163)); have n6_ := Aside0.mk ((by rw [hg]; exact Nat.ne_of_gt (blk_lt (g := gb146) (o := .cells #[.int .i64 a0_0, .int .i64 a0_1, .slice A0_2 l0_2.length c0_2] 50 (0, 0)) (by exact Lib.bk BK146.out)) : gb163 ≠ gb146)); clear BK146; clear HB; have BK146 := n0_; have HB := n1_; have BK163 := n2_; have GW163 := n3_; have GE163 := n4_; have NB146_163 := n5_; have NB163_146 := n6_; clear n0_ n1_ n2_ n3_ n4_ n5_ n6_; clear hb hbox hg; have hnb88 := NB163_146.out; have hnc88 := NB146_163.out; obtain ⟨hcz89_0, hcz89_1, hcz89_2, hfz89_0, hfz89_1, hfz89_2⟩ := Lib.cel3 (W := w87) BK163.out))
               go_roundg k3
               case measure => have := HJ6.out; have := HJ52.out; have := HK3.out; omega
               case rel => exact ⟨(x16_3), (x17_3), (wrap64 (x83_3 + 1)), (by first | rfl | (simp; done) | (simp [*]; done)), (by first | rfl | (simp; done) | (simp [*]; done)), (by first | rfl | (simp; done) | (simp [*]; done)), H', ⟨by have := HJ6.out; have := HJ52.out; have := HK3.out; omega⟩, ⟨by (with_reducible repeat (first | refine blk_drewN ?_ _ | refine blk_drew ?_ | refine blk_alloc ?_ _)); refine blk_far ?_ NB146_163.out _; (with_reducible repeat (first | refine blk_drewN ?_ _ | refine blk_drew ?_ | refine blk_alloc ?_ _)); refine blk_far ?_ NB146_163.out _; (with_reducible repeat (first | refine blk_drewN ?_ _ | refine blk_drew ?_ | refine blk_alloc ?_ _)); refine blk_far ?_ NB146_163.out _; (with_reducible repeat (first | refine blk_drewN ?_ _ | refine blk_drew ?_ | refine blk_alloc ?_ _)); exact BK146.out⟩, ⟨by repeat (first | (with_reducible first | exact HB.out | apply below_alloc | apply pw_below_drewN | apply below_drew1 | refine below_set ?_ GE146.out | refine below_set ?_ GE163.out) | exact HB.out)⟩⟩
             ·
              rw [if_neg c65] at H
              exact absurd H (by simp)
            ·
             rw [if_neg c64] at H
             exact absurd H (by simp)
           ·
            rw [if_neg c63] at H
            have c63b0 : decide (x83_3 < (l4.length : Int)) = false := decide_eq_false c63
            clear c63
            by_cases c90 : x16_3 = true
            ·
             subst c90
             have H1 : (if x17_3 = true then ((spec_l06Covers.f t155 a5).bind fun t166 => (some t166)) else (some false)) = some r := by rw [if_pos rfl] at H; exact H
             clear H
             have H := H1
             clear H1
             by_cases c91 : x17_3 = true
             ·
              subst c91
              have H1 : ((spec_l06Covers.f t155 a5).bind fun t166 => (some t166)) = some r := by rw [if_pos rfl] at H; exact H
              clear H
              have H := H1
              clear H1
              replace H := Option.bind_eq_some_iff.mp H
              obtain ⟨t166, A920, H⟩ := H
              replace H : (some t166) = some r := H
              have A92 := Aside0.mk A920
              clear A920
              obtain rfl := Option.some.inj H
              go_wp2_with (first | (go_at_call 91; (with_reducible refine (spec_l06Covers.calls t155 a5 t166 _ A92.out).mono ?_); rintro e w' ⟨rfl, ⟨nd, rfl⟩⟩))
              go_ret
              exact ⟨by first | rfl | (simp [errW_none, errW_some] <;> rfl) | (simp [*, errW_none, errW_some] <;> rfl), by exact Lib.bs HB.out GE146.out⟩
             ·
              replace c91 := Bool.eq_false_iff.mpr c91
              subst c91
              have H1 : (some false) = some r := by rw [if_neg (show ¬ (false = true) by decide)] at H; exact H
              clear H
              have H := H1
              clear H1
              obtain rfl := Option.some.inj H
              go_wp2
              go_ret
              exact ⟨by first | rfl | (simp [errW_none, errW_some] <;> rfl) | (simp [*, errW_none, errW_some] <;> rfl), by exact Lib.bs HB.out GE146.out⟩
            ·
             replace c90 := Bool.eq_false_iff.mpr c90
             subst c90
             have H1 : ((spec_PermOf.f k3 a3 2).bind fun t167 => ((spec_l06Covers.f t167 a5).bind fun t168 => (some t168))) = some r := by rw [if_neg (show ¬ (false = true) by decide)] at H; exact H
             clear H
             have H := H1
             clear H1
             replace H := Option.bind_eq_some_iff.mp H
             obtain ⟨t167, A930, H⟩ := H
             replace H : ((spec_l06Covers.f t167 a5).bind fun t168 => (some t168)) = some r := H
             have A93 := Aside0.mk A930
             clear A930
             replace H := Option.bind_eq_some_iff.mp H
             obtain ⟨t168, A940, H⟩ := H
             replace H : (some t168) = some r := H
             have A94 := Aside0.mk A940
             clear A940
             obtain rfl := Option.some.inj H
             go_wp2_with (first | ((with_reducible refine gate_callee (f := 92) rfl ?_); refine goesL_ (some 112) rfl rfl Try.func92 (by kernel_rfl) rfl #[.int .i64 a3, .int .i64 2] rfl (by (try simp only [List.map_toArray, List.map_cons, List.map_nil]); first | done | rfl | (simp only [List.length_drop, List.length_take]; rfl)) ?_; (with_reducible refine (spec_PermOf.calls k3 a3 2 t167 _ A93.out).mono ?_); rintro e w' ⟨rfl, ⟨nd, rfl⟩⟩; refine ⟨_, rfl, ?_⟩) | ((with_reducible refine gate_callee (f := 91) rfl ?_); refine goesL_ (some 114) rfl rfl Try.func91 (by kernel_rfl) rfl #[.int .i64 t167, .int .i64 a5] rfl (by (try simp only [List.map_toArray, List.map_cons, List.map_nil]); first | done | rfl | (simp only [List.length_drop, List.length_take]; rfl)) ?_; (with_reducible refine (spec_l06Covers.calls t167 a5 t168 _ A94.out).mono ?_); rintro e w' ⟨rfl, ⟨nd, rfl⟩⟩; refine ⟨_, rfl, ?_⟩))
             go_ret
             exact ⟨by first | rfl | (simp [errW_none, errW_some] <;> rfl) | (simp [*, errW_none, errW_some] <;> rfl), by exact Lib.bs HB.out GE146.out⟩

end Go.Proofs.Ytmnojegajblagab.PFnExactAllowed
