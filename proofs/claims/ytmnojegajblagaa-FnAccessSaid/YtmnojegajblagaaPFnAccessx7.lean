-- Written by a program of this session over Lean's own print of the program.
import Derived.Test.YtmnojegajblagaaPFnAccessx0
import Derived.Test.YtmnojegajblagaaPFnAccessx1
import Derived.Test.YtmnojegajblagaaPFnAccessx2
import Derived.Test.YtmnojegajblagaaPFnAccessx3
import Derived.Test.YtmnojegajblagaaPFnAccessx6
namespace Go.Proofs.Ytmnojegajblagaa.PFnAccess
open Go.RowKit Go.Proofs.YtmnojegajblagaaW.PrintWords Go.Proofs.YtmnojegajblagaaW.PrintLast Go.Proofs.YtmnojegajblagaaW.PrintMore
attribute [local go_sem] max2_int min2_int max_two min_two max_three min_three max_four min_four   -- for this text's walks alone
set_option linter.unusedVariables false
set_option linter.unusedSimpArgs false

/-! ### laws_FnAccess: function 9 -/
mutual
def laws_FnAccess.l0 : Nat → List (S120) → Int → Int → Int → Int → Int → Int → List Int → Option (Bool)
 | 0, _, _, _, _, _, _, _, _ => none
 | k + 1, x4, x5, x6, x7, x8, x260000, x260001, x260002 => if x8 < 8 then ((impl_Allowed.f k x260000 x260001 x260002 x6 x7 x5 x4 x8).bind fun t268 => ((impl_Allowed.f k 0 0 ([] : List Int) x6 x7 x5 x4 x8).bind fun t269 => (if t269 = true then (if x8 = 0 then (if x260000 = 0 then (laws_FnAccess.j1 k x4 x5 x6 x7 x8 t268 (!t268) x260000 x260001 x260002) else (laws_FnAccess.j1 k x4 x5 x6 x7 x8 t268 false x260000 x260001 x260002)) else (laws_FnAccess.j1 k x4 x5 x6 x7 x8 t268 false x260000 x260001 x260002)) else (laws_FnAccess.j1 k x4 x5 x6 x7 x8 t268 true x260000 x260001 x260002)))) else ((impl_IsCred.f k x260000 x260001 x260002).bind fun t266 => (if t266 = true then ((impl_InGroup.f k x260000 x260001 x260002 x260001).bind fun t267 => (some t267)) else (some false)))
def laws_FnAccess.j1 : Nat → List (S120) → Int → Int → Int → Int → Bool → Bool → Int → Int → List Int → Option (Bool)
 | 0, _, _, _, _, _, _, _, _, _, _ => none
 | k + 1, x4, x5, x6, x7, x8, x9, x60, x260000, x260001, x260002 => if x60 = true then (some false) else (laws_FnAccess.l1 k x4 x5 x6 x7 x8 x9 0 x260000 x260001 x260002)
def laws_FnAccess.l1 : Nat → List (S120) → Int → Int → Int → Int → Bool → Int → Int → Int → List Int → Option (Bool)
 | 0, _, _, _, _, _, _, _, _, _, _ => none
 | k + 1, x4, x5, x6, x7, x8, x9, x10, x260000, x260001, x260002 => if x10 < 8 then (if (Go.bits .and .i64 x10 x8) = x10 then (if x9 = true then ((impl_Allowed.f k x260000 x260001 x260002 x6 x7 x5 x4 x10).bind fun t270 => (if t270 = true then (laws_FnAccess.l1 k x4 x5 x6 x7 x8 x9 (wrap64 (x10 + 1)) x260000 x260001 x260002) else (some false))) else (laws_FnAccess.l1 k x4 x5 x6 x7 x8 x9 (wrap64 (x10 + 1)) x260000 x260001 x260002)) else (laws_FnAccess.l1 k x4 x5 x6 x7 x8 x9 (wrap64 (x10 + 1)) x260000 x260001 x260002)) else ((impl_AclPerm.f k x4 1 x260000).bind fun bt271 => (if x9 = true then (if bt271.2 = true then (if x260000 = 0 then (laws_FnAccess.j3 k x4 x5 x6 x7 x8 x9 false x260000 x260001 x260002) else (if x260000 = x6 then (laws_FnAccess.j3 k x4 x5 x6 x7 x8 x9 false x260000 x260001 x260002) else ((impl_MaskOf.f k x4).bind fun t273 => (laws_FnAccess.j3 k x4 x5 x6 x7 x8 x9 ((Go.bits .and .i64 t273 x8) != x8) x260000 x260001 x260002)))) else (laws_FnAccess.j3 k x4 x5 x6 x7 x8 x9 false x260000 x260001 x260002)) else (laws_FnAccess.j3 k x4 x5 x6 x7 x8 x9 false x260000 x260001 x260002)))
def laws_FnAccess.j3 : Nat → List (S120) → Int → Int → Int → Int → Bool → Bool → Int → Int → List Int → Option (Bool)
 | 0, _, _, _, _, _, _, _, _, _, _ => none
 | k + 1, x4, x5, x6, x7, x8, x9, x112, x260000, x260001, x260002 => if x112 = true then (some false) else (if x260000 = x6 then (if x260000 = 0 then (laws_FnAccess.l0 k x4 x5 x6 x7 (wrap64 (x8 + 1)) x260000 x260001 x260002) else ((impl_PermOf.f x5 0).bind fun t274 => (if (x9 != ((Go.bits .and .i64 t274 x8) == x8)) = true then (some false) else (laws_FnAccess.l0 k x4 x5 x6 x7 (wrap64 (x8 + 1)) x260000 x260001 x260002)))) else (laws_FnAccess.l0 k x4 x5 x6 x7 (wrap64 (x8 + 1)) x260000 x260001 x260002))
end
def laws_FnAccess.f (k : Nat) (l0 : List Int) : Option (Bool) := if (l0.length : Int) > 1048576 then (some true) else ((spec_MakeCred.f k l0 1).bind fun bt254 => ((spec_MakeAcl.f k l0 9).bind fun t260 => ((spec_MakeNum.f k l0 2).bind fun t263 => ((spec_MakeNum.f k l0 4).bind fun t264 => ((spec_MakeNum.f k l0 5).bind fun t265 => (laws_FnAccess.l0 k t260 (Int.tmod t263 512) (Int.tmod t264 4) (Int.tmod t265 4) 0 bt254.1 bt254.2.1 bt254.2.2))))))
theorem laws_FnAccess.mono_l : ∀ k, (∀ y0 y1 y2 y3 y4 y5 y6 y7, LeO (laws_FnAccess.l0 k y0 y1 y2 y3 y4 y5 y6 y7) (laws_FnAccess.l0 (k + 1) y0 y1 y2 y3 y4 y5 y6 y7)) ∧ (∀ y0 y1 y2 y3 y4 y5 y6 y7 y8 y9, LeO (laws_FnAccess.j1 k y0 y1 y2 y3 y4 y5 y6 y7 y8 y9) (laws_FnAccess.j1 (k + 1) y0 y1 y2 y3 y4 y5 y6 y7 y8 y9)) ∧ (∀ y0 y1 y2 y3 y4 y5 y6 y7 y8 y9, LeO (laws_FnAccess.l1 k y0 y1 y2 y3 y4 y5 y6 y7 y8 y9) (laws_FnAccess.l1 (k + 1) y0 y1 y2 y3 y4 y5 y6 y7 y8 y9)) ∧ (∀ y0 y1 y2 y3 y4 y5 y6 y7 y8 y9, LeO (laws_FnAccess.j3 k y0 y1 y2 y3 y4 y5 y6 y7 y8 y9) (laws_FnAccess.j3 (k + 1) y0 y1 y2 y3 y4 y5 y6 y7 y8 y9))
 | 0 => ⟨fun _ _ _ _ _ _ _ _ r h => by simp [laws_FnAccess.l0] at h, fun _ _ _ _ _ _ _ _ _ _ r h => by simp [laws_FnAccess.j1] at h, fun _ _ _ _ _ _ _ _ _ _ r h => by simp [laws_FnAccess.l1] at h, fun _ _ _ _ _ _ _ _ _ _ r h => by simp [laws_FnAccess.j3] at h⟩
 | k + 1 => by
  obtain ⟨ih0, ih1, ih2, ih3⟩ := laws_FnAccess.mono_l k
  refine ⟨?_, ?_, ?_, ?_⟩
  ·
   intro y0 y1 y2 y3 y4 y5 y6 y7
   unfold laws_FnAccess.l0
   repeat' first
   | (with_reducible exact ih0 _ _ _ _ _ _ _ _)
   | (with_reducible exact ih1 _ _ _ _ _ _ _ _ _ _)
   | (with_reducible exact ih2 _ _ _ _ _ _ _ _ _ _)
   | (with_reducible exact ih3 _ _ _ _ _ _ _ _ _ _)
   | (with_reducible exact impl_AclPerm.mono _ _ _ _)
   | (with_reducible exact impl_Allowed.mono _ _ _ _ _ _ _ _ _)
   | (with_reducible exact impl_InGroup.mono _ _ _ _ _)
   | (with_reducible exact impl_IsCred.mono _ _ _ _)
   | (with_reducible exact impl_MaskOf.mono _ _)
   | (with_reducible exact spec_MakeAcl.mono _ _ _)
   | (with_reducible exact spec_MakeCred.mono _ _ _)
   | (with_reducible exact spec_MakeNum.mono _ _ _)
   | (with_reducible exact LeO.refl _)
   | (with_reducible exact LeO.none _)
   | (with_reducible refine LeO.ite ?_ ?_)
   | (with_reducible refine LeO.bind ?_ (fun _ => ?_))
   | exact ih0 _ _ _ _ _ _ _ _
   | exact ih1 _ _ _ _ _ _ _ _ _ _
   | exact ih2 _ _ _ _ _ _ _ _ _ _
   | exact ih3 _ _ _ _ _ _ _ _ _ _
   | exact impl_AclPerm.mono _ _ _ _
   | exact impl_Allowed.mono _ _ _ _ _ _ _ _ _
   | exact impl_InGroup.mono _ _ _ _ _
   | exact impl_IsCred.mono _ _ _ _
   | exact impl_MaskOf.mono _ _
   | exact spec_MakeAcl.mono _ _ _
   | exact spec_MakeCred.mono _ _ _
   | exact spec_MakeNum.mono _ _ _
   | exact LeO.none _
   | refine LeO.ite ?_ ?_
   | refine LeO.bind ?_ (fun _ => ?_)
  ·
   intro y0 y1 y2 y3 y4 y5 y6 y7 y8 y9
   unfold laws_FnAccess.j1
   repeat' first
   | (with_reducible exact ih0 _ _ _ _ _ _ _ _)
   | (with_reducible exact ih1 _ _ _ _ _ _ _ _ _ _)
   | (with_reducible exact ih2 _ _ _ _ _ _ _ _ _ _)
   | (with_reducible exact ih3 _ _ _ _ _ _ _ _ _ _)
   | (with_reducible exact impl_AclPerm.mono _ _ _ _)
   | (with_reducible exact impl_Allowed.mono _ _ _ _ _ _ _ _ _)
   | (with_reducible exact impl_InGroup.mono _ _ _ _ _)
   | (with_reducible exact impl_IsCred.mono _ _ _ _)
   | (with_reducible exact impl_MaskOf.mono _ _)
   | (with_reducible exact spec_MakeAcl.mono _ _ _)
   | (with_reducible exact spec_MakeCred.mono _ _ _)
   | (with_reducible exact spec_MakeNum.mono _ _ _)
   | (with_reducible exact LeO.refl _)
   | (with_reducible exact LeO.none _)
   | (with_reducible refine LeO.ite ?_ ?_)
   | (with_reducible refine LeO.bind ?_ (fun _ => ?_))
   | exact ih0 _ _ _ _ _ _ _ _
   | exact ih1 _ _ _ _ _ _ _ _ _ _
   | exact ih2 _ _ _ _ _ _ _ _ _ _
   | exact ih3 _ _ _ _ _ _ _ _ _ _
   | exact impl_AclPerm.mono _ _ _ _
   | exact impl_Allowed.mono _ _ _ _ _ _ _ _ _
   | exact impl_InGroup.mono _ _ _ _ _
   | exact impl_IsCred.mono _ _ _ _
   | exact impl_MaskOf.mono _ _
   | exact spec_MakeAcl.mono _ _ _
   | exact spec_MakeCred.mono _ _ _
   | exact spec_MakeNum.mono _ _ _
   | exact LeO.none _
   | refine LeO.ite ?_ ?_
   | refine LeO.bind ?_ (fun _ => ?_)
  ·
   intro y0 y1 y2 y3 y4 y5 y6 y7 y8 y9
   unfold laws_FnAccess.l1
   repeat' first
   | (with_reducible exact ih0 _ _ _ _ _ _ _ _)
   | (with_reducible exact ih1 _ _ _ _ _ _ _ _ _ _)
   | (with_reducible exact ih2 _ _ _ _ _ _ _ _ _ _)
   | (with_reducible exact ih3 _ _ _ _ _ _ _ _ _ _)
   | (with_reducible exact impl_AclPerm.mono _ _ _ _)
   | (with_reducible exact impl_Allowed.mono _ _ _ _ _ _ _ _ _)
   | (with_reducible exact impl_InGroup.mono _ _ _ _ _)
   | (with_reducible exact impl_IsCred.mono _ _ _ _)
   | (with_reducible exact impl_MaskOf.mono _ _)
   | (with_reducible exact spec_MakeAcl.mono _ _ _)
   | (with_reducible exact spec_MakeCred.mono _ _ _)
   | (with_reducible exact spec_MakeNum.mono _ _ _)
   | (with_reducible exact LeO.refl _)
   | (with_reducible exact LeO.none _)
   | (with_reducible refine LeO.ite ?_ ?_)
   | (with_reducible refine LeO.bind ?_ (fun _ => ?_))
   | exact ih0 _ _ _ _ _ _ _ _
   | exact ih1 _ _ _ _ _ _ _ _ _ _
   | exact ih2 _ _ _ _ _ _ _ _ _ _
   | exact ih3 _ _ _ _ _ _ _ _ _ _
   | exact impl_AclPerm.mono _ _ _ _
   | exact impl_Allowed.mono _ _ _ _ _ _ _ _ _
   | exact impl_InGroup.mono _ _ _ _ _
   | exact impl_IsCred.mono _ _ _ _
   | exact impl_MaskOf.mono _ _
   | exact spec_MakeAcl.mono _ _ _
   | exact spec_MakeCred.mono _ _ _
   | exact spec_MakeNum.mono _ _ _
   | exact LeO.none _
   | refine LeO.ite ?_ ?_
   | refine LeO.bind ?_ (fun _ => ?_)
  ·
   intro y0 y1 y2 y3 y4 y5 y6 y7 y8 y9
   unfold laws_FnAccess.j3
   repeat' first
   | (with_reducible exact ih0 _ _ _ _ _ _ _ _)
   | (with_reducible exact ih1 _ _ _ _ _ _ _ _ _ _)
   | (with_reducible exact ih2 _ _ _ _ _ _ _ _ _ _)
   | (with_reducible exact ih3 _ _ _ _ _ _ _ _ _ _)
   | (with_reducible exact impl_AclPerm.mono _ _ _ _)
   | (with_reducible exact impl_Allowed.mono _ _ _ _ _ _ _ _ _)
   | (with_reducible exact impl_InGroup.mono _ _ _ _ _)
   | (with_reducible exact impl_IsCred.mono _ _ _ _)
   | (with_reducible exact impl_MaskOf.mono _ _)
   | (with_reducible exact spec_MakeAcl.mono _ _ _)
   | (with_reducible exact spec_MakeCred.mono _ _ _)
   | (with_reducible exact spec_MakeNum.mono _ _ _)
   | (with_reducible exact LeO.refl _)
   | (with_reducible exact LeO.none _)
   | (with_reducible refine LeO.ite ?_ ?_)
   | (with_reducible refine LeO.bind ?_ (fun _ => ?_))
   | exact ih0 _ _ _ _ _ _ _ _
   | exact ih1 _ _ _ _ _ _ _ _ _ _
   | exact ih2 _ _ _ _ _ _ _ _ _ _
   | exact ih3 _ _ _ _ _ _ _ _ _ _
   | exact impl_AclPerm.mono _ _ _ _
   | exact impl_Allowed.mono _ _ _ _ _ _ _ _ _
   | exact impl_InGroup.mono _ _ _ _ _
   | exact impl_IsCred.mono _ _ _ _
   | exact impl_MaskOf.mono _ _
   | exact spec_MakeAcl.mono _ _ _
   | exact spec_MakeCred.mono _ _ _
   | exact spec_MakeNum.mono _ _ _
   | exact LeO.none _
   | refine LeO.ite ?_ ?_
   | refine LeO.bind ?_ (fun _ => ?_)
theorem laws_FnAccess.mono : ∀ a0 k, LeO (laws_FnAccess.f k a0) (laws_FnAccess.f (k + 1) a0) := by
 intro a0 k
 obtain ⟨ih0, ih1, ih2, ih3⟩ := laws_FnAccess.mono_l k
 unfold laws_FnAccess.f
 repeat' first
  | (with_reducible exact ih0 _ _ _ _ _ _ _ _)
  | (with_reducible exact ih1 _ _ _ _ _ _ _ _ _ _)
  | (with_reducible exact ih2 _ _ _ _ _ _ _ _ _ _)
  | (with_reducible exact ih3 _ _ _ _ _ _ _ _ _ _)
  | (with_reducible exact impl_AclPerm.mono _ _ _ _)
  | (with_reducible exact impl_Allowed.mono _ _ _ _ _ _ _ _ _)
  | (with_reducible exact impl_InGroup.mono _ _ _ _ _)
  | (with_reducible exact impl_IsCred.mono _ _ _ _)
  | (with_reducible exact impl_MaskOf.mono _ _)
  | (with_reducible exact spec_MakeAcl.mono _ _ _)
  | (with_reducible exact spec_MakeCred.mono _ _ _)
  | (with_reducible exact spec_MakeNum.mono _ _ _)
  | (with_reducible exact LeO.refl _)
  | (with_reducible exact LeO.none _)
  | (with_reducible refine LeO.ite ?_ ?_)
  | (with_reducible refine LeO.bind ?_ (fun _ => ?_))
  | exact ih0 _ _ _ _ _ _ _ _
  | exact ih1 _ _ _ _ _ _ _ _ _ _
  | exact ih2 _ _ _ _ _ _ _ _ _ _
  | exact ih3 _ _ _ _ _ _ _ _ _ _
  | exact impl_AclPerm.mono _ _ _ _
  | exact impl_Allowed.mono _ _ _ _ _ _ _ _ _
  | exact impl_InGroup.mono _ _ _ _ _
  | exact impl_IsCred.mono _ _ _ _
  | exact impl_MaskOf.mono _ _
  | exact spec_MakeAcl.mono _ _ _
  | exact spec_MakeCred.mono _ _ _
  | exact spec_MakeNum.mono _ _ _
  | exact LeO.none _
  | refine LeO.ite ?_ ?_
  | refine LeO.bind ?_ (fun _ => ?_)
set_option maxHeartbeats 8000000 in
set_option maxRecDepth 100000 in
theorem laws_FnAccess.calls (k : Nat) (A0 : Option Addr) (c0 : Nat) (l0 : List Int) (w : World) (hr0 : Kd.C (Kd.int .u8) w A0 l0.length l0) (hc0 : l0.length ≤ c0) (h : laws_FnAccess.f k l0 = some true) :
 Calls Try.prog 9 #[.slice A0 l0.length c0] w fun e w' => e = .returned (.bool true) ∧ Below w.heap.size w w' := by
 have hu72 := Try.underlying72
 have HR0 := Aside0.mk hr0
 have HC0 := Aside0.mk hc0
 clear hr0 hc0
 have HB := Aside0.mk (Below.refl w.heap.size w)
 have H : (if (l0.length : Int) > 1048576 then (some true) else ((spec_MakeCred.f k l0 1).bind fun bt254 => ((spec_MakeAcl.f k l0 9).bind fun t260 => ((spec_MakeNum.f k l0 2).bind fun t263 => ((spec_MakeNum.f k l0 4).bind fun t264 => ((spec_MakeNum.f k l0 5).bind fun t265 => (laws_FnAccess.l0 k t260 (Int.tmod t263 512) (Int.tmod t264 4) (Int.tmod t265 4) 0 bt254.1 bt254.2.1 bt254.2.2))))))) = some true := h
 clear h
 by_cases c2 : (l0.length : Int) > 1048576
 ·
  rw [if_pos c2] at H
  have c2b0 : decide (1048576 < (l0.length : Int)) = true := decide_eq_true c2
  have c2b1 : decide (1048576 < l0.length) = true := decide_eq_true (by omega)
  clear c2
  have hE_ := Option.some.inj H
  go_enter Try.func9, Try.ntmps9
  go_wp2
  go_ret
  exact ⟨by first | rfl | (simp [errW_none, errW_some] <;> rfl) | (simp at hE_ ⊢; exact hE_) | (simp [*, errW_none, errW_some] <;> rfl), by exact Lib.bw HB.out⟩
 ·
  rw [if_neg c2] at H
  have c2b0 : decide (1048576 < (l0.length : Int)) = false := decide_eq_false c2
  have c2b1 : decide (1048576 < l0.length) = false := decide_eq_false (by omega)
  clear c2
  replace H := Option.bind_eq_some_iff.mp H
  obtain ⟨⟨t254, t255, t256⟩, A30, H⟩ := H
  try dsimp only at H
  have A3 := Aside0.mk A30
  clear A30
  replace H := Option.bind_eq_some_iff.mp H
  obtain ⟨t260, A40, H⟩ := H
  try dsimp only at H
  have A4 := Aside0.mk A40
  clear A40
  replace H := Option.bind_eq_some_iff.mp H
  obtain ⟨t263, A50, H⟩ := H
  try dsimp only at H
  have A5 := Aside0.mk A50
  clear A50
  replace H := Option.bind_eq_some_iff.mp H
  obtain ⟨t264, A60, H⟩ := H
  try dsimp only at H
  have A6 := Aside0.mk A60
  clear A60
  replace H := Option.bind_eq_some_iff.mp H
  obtain ⟨t265, A70, H⟩ := H
  replace H : (laws_FnAccess.l0 k t260 (Int.tmod t263 512) (Int.tmod t264 4) (Int.tmod t265 4) 0 t254 t255 t256) = some true := H
  have A7 := Aside0.mk A70
  clear A70
  have H' := Aside0.mk H
  clear H
  go_enter Try.func9, Try.ntmps9
  go_wp2_with (first | ((with_reducible refine gate_callee (f := 40) rfl ?_); refine goesL_ (some 17) rfl rfl Try.func40 (by kernel_rfl) rfl #[.slice A0 l0.length c0, .int .i64 1] rfl (by (try simp only [List.map_toArray, List.map_cons, List.map_nil]); first | done | rfl | (simp only [List.length_drop, List.length_take]; rfl)) ?_; (with_reducible refine (spec_MakeCred.calls k _ _ l0 1 t254 t255 t256 _ ?side1 ?side2 A3.out).mono ?_); (case side1 => repeat (first | exact HR0.out | (with_reducible refine Kd.C_alloc ?_ _) | (with_reducible refine Kd.C_drewN ?_ _) | (with_reducible refine Kd.C_drew ?_))); (case side2 => exact HC0.out); rintro e w8 ⟨v257, rfl, ho0, hb⟩; refine ⟨_, rfl, ?_⟩; have n0_ := Aside0.mk (Kd.R_lower ho0 (below_size (by exact Lib.bw HB.out))); have n1_ := Aside0.mk (below_step (by exact Lib.bw HB.out) hb); clear HB; have HO258 := n0_; have HB := n1_; clear n0_ n1_; (try clear hb); (try clear hb2); (try clear hk); (try clear hi); (try clear ho0)) | ((with_reducible refine gate_dst (N := 3) rfl ?_); refine box_event ?hg (N := 3) ?hd (cs := #[.int .i64 0, .int .i64 0, .slice none 0 0]) (t := 72) ?hr ?_; (case hd => rfl); (case hg => rfl); (case hr => first | (go_simp; done) | (go_simp; rfl)); intro gb259 hg w9 hbox hb; have n0_ := Aside0.mk (Kd.R_below (by exact Lib.cr HO258.out) hb); have n1_ := Aside0.mk (below_step (by exact Lib.bw HB.out) hb); have n2_ := Aside0.mk (hbox); have n3_ := Aside0.mk ((by rw [hg]; exact (below_size (by exact Lib.bw HB.out)) : w.heap.size ≤ gb259)); have n4_ := Aside0.mk ((by rw [hg]; exact (below_size (by exact Lib.bw HB.out)) : w.heap.size ≤ gb259)); clear HO258; clear HB; have HO258 := n0_; have HB := n1_; have BK259 := n2_; have GW259 := n3_; have GE259 := n4_; clear n0_ n1_ n2_ n3_ n4_; clear hb hbox hg; obtain ⟨hcz10_0, hcz10_1, hcz10_2, hfz10_0, hfz10_1, hfz10_2⟩ := Lib.cel3 (W := w9) BK259.out; obtain ⟨Ao11, co11, eo11⟩ := Kd.R_slice HO258.out; subst eo11) | ((with_reducible refine gate_callee (f := 41) rfl ?_); refine goesL_ (some 19) rfl rfl Try.func41 (by kernel_rfl) rfl #[.slice A0 l0.length c0, .int .i64 9] rfl (by (try simp only [List.map_toArray, List.map_cons, List.map_nil]); first | done | rfl | (simp only [List.length_drop, List.length_take]; rfl)) ?_; (with_reducible refine (spec_MakeAcl.calls k _ _ l0 9 t260 _ ?side1 ?side2 A4.out).mono ?_); (case side1 => exact Kd.C_below HR0.out (by exact Lib.bs HB.out GE259.out)); (case side2 => exact HC0.out); rintro e w12 ⟨v261, rfl, ho0, hb⟩; refine ⟨_, rfl, ?_⟩; have n0_ := Aside0.mk (Kd.R_below (by (with_reducible repeat (first | apply Kd.R_alloc | apply Kd.R_drewN | apply Kd.R_drew)); exact (Kd.R_mono (Kd.R_far (p := ⟨gb259, 2, none⟩) (Kd.R_far (p := ⟨gb259, 1, none⟩) (Kd.R_far (p := ⟨gb259, 0, none⟩) (Kd.R_types HO258.out BK259.out (by decide)) (fun _ hk => hk.2) (.int .i64 t254)) (fun _ hk => hk.2) (.int .i64 t255)) (fun _ hk => hk.2) (.slice Ao11 t256.length co11)) (fun _ h_ => h_.1))) hb); have n1_ := Aside0.mk (Kd.R_lower ho0 (below_size (by exact Lib.bs HB.out GE259.out))); have n2_ := Aside0.mk (blk_below (g := gb259) (o := .cells #[.int .i64 t254, .int .i64 t255, .slice Ao11 t256.length co11] 72 (0, 0)) (by (with_reducible repeat (first | refine blk_drewN ?_ _ | refine blk_drew ?_ | refine blk_alloc ?_ _)); refine blk_put (cs := #[.int .i64 t254, .int .i64 t255, .slice none 0 0]) ?_ 2 _ rfl; (with_reducible repeat (first | refine blk_drewN ?_ _ | refine blk_drew ?_ | refine blk_alloc ?_ _)); refine blk_put (cs := #[.int .i64 t254, .int .i64 0, .slice none 0 0]) ?_ 1 _ rfl; (with_reducible repeat (first | refine blk_drewN ?_ _ | refine blk_drew ?_ | refine blk_alloc ?_ _)); refine blk_put (cs := #[.int .i64 0, .int .i64 0, .slice none 0 0]) ?_ 0 _ rfl; (with_reducible repeat (first | refine blk_drewN ?_ _ | refine blk_drew ?_ | refine blk_alloc ?_ _)); exact BK259.out) hb); have n3_ := Aside0.mk (below_step (by exact Lib.bs HB.out GE259.out) hb); clear HO258; clear BK259; clear HB; have HO258 := n0_; have HO262 := n1_; have BK259 := n2_; have HB := n3_; clear n0_ n1_ n2_ n3_; (try clear hb); (try clear hb2); (try clear hk); (try clear hi); (try clear ho0)) | ((with_reducible refine gate_callee (f := 42) rfl ?_); refine goesL_ (some 21) rfl rfl Try.func42 (by kernel_rfl) rfl #[.slice A0 l0.length c0, .int .i64 2] rfl (by (try simp only [List.map_toArray, List.map_cons, List.map_nil]); first | done | rfl | (simp only [List.length_drop, List.length_take]; rfl)) ?_; (with_reducible refine (spec_MakeNum.calls k _ _ l0 2 t263 _ ?side1 ?side2 A5.out).mono ?_); (case side1 => exact Lib.cx (Kd.C_below HR0.out HB.out)); (case side2 => exact HC0.out); rintro e w13 ⟨rfl, hb⟩; refine ⟨_, rfl, ?_⟩; have n0_ := Aside0.mk (Kd.R_below (by exact Lib.cr HO258.out) hb); have n1_ := Aside0.mk (Kd.R_below (by exact Lib.cr HO262.out) hb); have n2_ := Aside0.mk (blk_below (g := gb259) (o := .cells #[.int .i64 t254, .int .i64 t255, .slice Ao11 t256.length co11] 72 (0, 0)) (by exact Lib.bk BK259.out) hb); have n3_ := Aside0.mk (below_step (by exact Lib.bs HB.out GE259.out) hb); clear HO258; clear HO262; clear BK259; clear HB; have HO258 := n0_; have HO262 := n1_; have BK259 := n2_; have HB := n3_; clear n0_ n1_ n2_ n3_; (try clear hb); (try clear hb2); (try clear hk); (try clear hi)) | ((with_reducible refine gate_callee (f := 42) rfl ?_); refine goesL_ (some 24) rfl rfl Try.func42 (by kernel_rfl) rfl #[.slice A0 l0.length c0, .int .i64 4] rfl (by (try simp only [List.map_toArray, List.map_cons, List.map_nil]); first | done | rfl | (simp only [List.length_drop, List.length_take]; rfl)) ?_; (with_reducible refine (spec_MakeNum.calls k _ _ l0 4 t264 _ ?side1 ?side2 A6.out).mono ?_); (case side1 => exact Lib.cx (Kd.C_below HR0.out HB.out)); (case side2 => exact HC0.out); rintro e w14 ⟨rfl, hb⟩; refine ⟨_, rfl, ?_⟩; have n0_ := Aside0.mk (Kd.R_below (by exact Lib.cr HO258.out) hb); have n1_ := Aside0.mk (Kd.R_below (by exact Lib.cr HO262.out) hb); have n2_ := Aside0.mk (blk_below (g := gb259) (o := .cells #[.int .i64 t254, .int .i64 t255, .slice Ao11 t256.length co11] 72 (0, 0)) (by exact Lib.bk BK259.out) hb); have n3_ := Aside0.mk (below_step (by exact Lib.bs HB.out GE259.out) hb); clear HO258; clear HO262; clear BK259; clear HB; have HO258 := n0_; have HO262 := n1_; have BK259 := n2_; have HB := n3_; clear n0_ n1_ n2_ n3_; (try clear hb); (try clear hb2); (try clear hk); (try clear hi)) | ((with_reducible refine gate_callee (f := 42) rfl ?_); refine goesL_ (some 27) rfl rfl Try.func42 (by kernel_rfl) rfl #[.slice A0 l0.length c0, .int .i64 5] rfl (by (try simp only [List.map_toArray, List.map_cons, List.map_nil]); first | done | rfl | (simp only [List.length_drop, List.length_take]; rfl)) ?_; (with_reducible refine (spec_MakeNum.calls k _ _ l0 5 t265 _ ?side1 ?side2 A7.out).mono ?_); (case side1 => exact Lib.cx (Kd.C_below HR0.out HB.out)); (case side2 => exact HC0.out); rintro e w15 ⟨rfl, hb⟩; refine ⟨_, rfl, ?_⟩; have n0_ := Aside0.mk (Kd.R_below (by exact Lib.cr HO258.out) hb); have n1_ := Aside0.mk (Kd.R_below (by exact Lib.cr HO262.out) hb); have n2_ := Aside0.mk (blk_below (g := gb259) (o := .cells #[.int .i64 t254, .int .i64 t255, .slice Ao11 t256.length co11] 72 (0, 0)) (by exact Lib.bk BK259.out) hb); have n3_ := Aside0.mk (below_step (by exact Lib.bs HB.out GE259.out) hb); clear HO258; clear HO262; clear BK259; clear HB; have HO258 := n0_; have HO262 := n1_; have BK259 := n2_; have HB := n3_; clear n0_ n1_ n2_ n3_; (try clear hb); (try clear hb2); (try clear hk); (try clear hi)))
  go_loopg [8] k (fun kq v8 w' => ∃ (x8_1 : Int), v8 = .int .i64 x8_1 ∧ Aside0 (laws_FnAccess.l0 kq t260 (Int.tmod t263 512) (Int.tmod t264 4) (Int.tmod t265 4) x8_1 t254 t255 t256 = some true) ∧ Aside0 (kq ≤ k) ∧ Aside0 (Kd.R k120 120 w' w.heap.size (fun _ => True) v261 t260) ∧ Aside0 (Kd.R (Kd.int .i64) 3 w' w.heap.size (fun _ => True) (.slice Ao11 t256.length co11) t256) ∧ Aside0 (w'.heap[gb259]? = some (.cells #[.int .i64 t254, .int .i64 t255, (.slice Ao11 t256.length co11)] 72 (0, 0))) ∧ Aside0 (Below w.heap.size w w'))
  case atStart => exact ⟨(0), (by first | rfl | (simp; done) | (simp [*]; done)), H', ⟨Nat.le_refl _⟩, ⟨by exact Lib.cr HO262.out⟩, ⟨by exact Lib.cr HO258.out⟩, ⟨by exact Lib.bk BK259.out⟩, ⟨by exact Lib.bs HB.out GE259.out⟩⟩
  case round =>
   clear H'
   try clear c2
   try clear c2b0
   try clear c2b1
   try clear p2
   try clear c4
   try clear c9
   try clear hcz10_0
   try clear hcz10_1
   try clear hcz10_2
   try clear hfz10_0
   try clear hfz10_1
   try clear hfz10_2
   obtain ⟨x8_1, rfl, HA, HK1, HO_4, HO_260002, BK259, HB⟩ := hrel
   cases gk with
   | zero => exact absurd HA.out (by simp [laws_FnAccess.l0])
   | succ k1 =>
    have H := HA.out
    clear HA
    simp only [laws_FnAccess.l0] at H
    by_cases c16 : x8_1 < 8
    ·
     rw [if_pos c16] at H
     have c16b0 : decide (x8_1 < 8) = true := decide_eq_true c16
     clear c16
     replace H := Option.bind_eq_some_iff.mp H
     obtain ⟨t268, A170, H⟩ := H
     try dsimp only at H
     have A17 := Aside0.mk A170
     clear A170
     have HC18 := Aside0.mk H
     clear H
     obtain ⟨hcz19_0, hcz19_1, hcz19_2, hfz19_0, hfz19_1, hfz19_2⟩ := Lib.cel3 (W := wr) BK259.out
     obtain ⟨Ao20, co20, eo20⟩ := Kd.R_slice HO_4.out
     subst eo20
     go_upto_region 12 with (first | ((with_reducible refine gate_callee (f := 43) rfl ?_); refine goesL_ (some 39) rfl rfl Try.func43 (by kernel_rfl) rfl #[.agg #[.int .i64 t254, .int .i64 t255, .slice Ao11 t256.length co11], .int .i64 (Int.tmod t264 4), .int .i64 (Int.tmod t265 4), .int .i64 (Int.tmod t263 512), .slice Ao20 t260.length co20, .int .i64 x8_1] rfl (by (try simp only [List.map_toArray, List.map_cons, List.map_nil]); first | done | rfl | (simp only [List.length_drop, List.length_take]; rfl)) ?_; (with_reducible refine (impl_Allowed.calls k1 t254 t255 _ _ t256 (Int.tmod t264 4) (Int.tmod t265 4) (Int.tmod t263 512) _ _ t260 x8_1 t268 _ ?side1 ?side2 ?side3 ?side4 A17.out).mono ?_); (case side1 => repeat (first | exact (Kd.R_reads' HO_260002.out).2.2 | (with_reducible refine Kd.C_alloc ?_ _) | (with_reducible refine Kd.C_drewN ?_ _) | (with_reducible refine Kd.C_drew ?_))); (case side2 => exact (Kd.R_reads' HO_260002.out).2.1); (case side3 => repeat (first | exact (Kd.R_reads' HO_4.out).2.2 | (with_reducible refine Kd.C_alloc ?_ _) | (with_reducible refine Kd.C_drewN ?_ _) | (with_reducible refine Kd.C_drew ?_))); (case side4 => exact (Kd.R_reads' HO_4.out).2.1); rintro e w21 ⟨rfl, hb⟩; refine ⟨_, rfl, ?_⟩; have n0_ := Aside0.mk (Kd.R_below (by exact Lib.cr HO_4.out) hb); have n1_ := Aside0.mk (Kd.R_below (by exact Lib.cr HO_260002.out) hb); have n2_ := Aside0.mk (blk_below (g := gb259) (o := .cells #[.int .i64 t254, .int .i64 t255, .slice Ao11 t256.length co11] 72 (0, 0)) (by exact Lib.bk BK259.out) hb); have n3_ := Aside0.mk (below_step (by exact Lib.bs HB.out GE259.out) hb); clear HO_4; clear HO_260002; clear BK259; clear HB; have HO_4 := n0_; have HO_260002 := n1_; have BK259 := n2_; have HB := n3_; clear n0_ n1_ n2_ n3_; (try clear hb); (try clear hb2); (try clear hk); (try clear hi)))
     (try simp only [Act.put, List.setIfInBounds_toArray, List.set_cons_zero, List.set_cons_succ])
     go_cut [60] (fun v60 wc => ∃ (kq : Nat) (x60_17 : Bool), v60 = .bool x60_17 ∧ Aside0 (laws_FnAccess.j1 kq t260 (Int.tmod t263 512) (Int.tmod t264 4) (Int.tmod t265 4) x8_1 t268 x60_17 t254 t255 t256 = some true) ∧ Aside0 (kq ≤ k1) ∧ Aside0 (Kd.R k120 120 wc w.heap.size (fun _ => True) (.slice Ao20 t260.length co20) t260) ∧ Aside0 (Kd.R (Kd.int .i64) 3 wc w.heap.size (fun _ => True) (.slice Ao11 t256.length co11) t256) ∧ Aside0 (wc.heap[gb259]? = some (.cells #[.int .i64 t254, .int .i64 t255, (.slice Ao11 t256.length co11)] 72 (0, 0))) ∧ Aside0 (Below w.heap.size w wc))
     case first =>
      have H := HC18.out
      clear HC18
      replace H := Option.bind_eq_some_iff.mp H
      obtain ⟨t269, A220, H⟩ := H
      try dsimp only at H
      have A22 := Aside0.mk A220
      clear A220
      by_cases c23 : t269 = true
      ·
       subst c23
       have H1 : (if x8_1 = 0 then (if t254 = 0 then (laws_FnAccess.j1 k1 t260 (Int.tmod t263 512) (Int.tmod t264 4) (Int.tmod t265 4) x8_1 t268 (!t268) t254 t255 t256) else (laws_FnAccess.j1 k1 t260 (Int.tmod t263 512) (Int.tmod t264 4) (Int.tmod t265 4) x8_1 t268 false t254 t255 t256)) else (laws_FnAccess.j1 k1 t260 (Int.tmod t263 512) (Int.tmod t264 4) (Int.tmod t265 4) x8_1 t268 false t254 t255 t256)) = some true := by rw [if_pos rfl] at H; exact H
       clear H
       have H := H1
       clear H1
       by_cases c24 : x8_1 = 0
       ·
        rw [if_pos c24] at H
        have c24b0 : (x8_1 == 0) = true := beq_iff_eq.mpr c24
        have c24b1 : (x8_1 != 0) = false := bne_eq_false_iff_eq.mpr c24
        clear c24
        (first | rw [c24b0] | (simp only [i64_w, i32_w]; rw [c24b0]) | skip)
        by_cases c25 : t254 = 0
        ·
         rw [if_pos c25] at H
         have c25b0 : (t254 == 0) = true := beq_iff_eq.mpr c25
         have c25b1 : (t254 != 0) = false := bne_eq_false_iff_eq.mpr c25
         clear c25
         have H' := Aside0.mk H
         clear H
         go_wp2_with (first | ((with_reducible refine gate_callee (f := 43) rfl ?_); refine goesL_ (some 46) rfl rfl Try.func43 (by kernel_rfl) rfl #[.agg #[.int .i64 0, .int .i64 0, .slice none 0 0], .int .i64 (Int.tmod t264 4), .int .i64 (Int.tmod t265 4), .int .i64 (Int.tmod t263 512), .slice Ao20 t260.length co20, .int .i64 x8_1] rfl (by (try simp only [List.map_toArray, List.map_cons, List.map_nil]); first | done | rfl | (simp only [List.length_drop, List.length_take]; rfl)) ?_; (refine (impl_Allowed.calls k1 0 0 _ _ ([] : List Int) (Int.tmod t264 4) (Int.tmod t265 4) (Int.tmod t263 512) _ _ t260 x8_1 true _ ?side1 ?side2 ?side3 ?side4 A22.out).mono ?_); (case side1 => exact Kd.C_nil _ _); (case side2 => exact Nat.le_refl _); (case side3 => repeat (first | exact (Kd.R_reads' HO_4.out).2.2 | (with_reducible refine Kd.C_alloc ?_ _) | (with_reducible refine Kd.C_drewN ?_ _) | (with_reducible refine Kd.C_drew ?_))); (case side4 => exact (Kd.R_reads' HO_4.out).2.1); rintro e w26 ⟨rfl, hb⟩; refine ⟨_, rfl, ?_⟩; have n0_ := Aside0.mk (Kd.R_below (by exact Lib.cr HO_4.out) hb); have n1_ := Aside0.mk (Kd.R_below (by exact Lib.cr HO_260002.out) hb); have n2_ := Aside0.mk (blk_below (g := gb259) (o := .cells #[.int .i64 t254, .int .i64 t255, .slice Ao11 t256.length co11] 72 (0, 0)) (by exact Lib.bk BK259.out) hb); have n3_ := Aside0.mk (below_step (by exact Lib.bs HB.out GE259.out) hb); clear HO_4; clear HO_260002; clear BK259; clear HB; have HO_4 := n0_; have HO_260002 := n1_; have BK259 := n2_; have HB := n3_; clear n0_ n1_ n2_ n3_; (try clear hb); (try clear hb2); (try clear hk); (try clear hi); obtain ⟨hcz27_0, hcz27_1, hcz27_2, hfz27_0, hfz27_1, hfz27_2⟩ := Lib.cel3 (W := w26) BK259.out))
         go_meet
         case rel => exact ⟨_, (!t268), (by first | rfl | (simp; done) | (simp [*]; done)), H', ⟨by have := HK1.out; first | omega | exact Nat.le_refl _⟩, ⟨by exact Lib.cr HO_4.out⟩, ⟨by exact Lib.cr HO_260002.out⟩, ⟨by exact Lib.bk BK259.out⟩, ⟨by exact Lib.bs HB.out GE259.out⟩⟩
        ·
         rw [if_neg c25] at H
         have c25b0 : (t254 == 0) = false := beq_eq_false_iff_ne.mpr c25
         have c25b1 : (t254 != 0) = true := bne_iff_ne.mpr c25
         have H' := Aside0.mk H
         clear H
         go_wp2_with (first | ((with_reducible refine gate_callee (f := 43) rfl ?_); refine goesL_ (some 46) rfl rfl Try.func43 (by kernel_rfl) rfl #[.agg #[.int .i64 0, .int .i64 0, .slice none 0 0], .int .i64 (Int.tmod t264 4), .int .i64 (Int.tmod t265 4), .int .i64 (Int.tmod t263 512), .slice Ao20 t260.length co20, .int .i64 x8_1] rfl (by (try simp only [List.map_toArray, List.map_cons, List.map_nil]); first | done | rfl | (simp only [List.length_drop, List.length_take]; rfl)) ?_; (refine (impl_Allowed.calls k1 0 0 _ _ ([] : List Int) (Int.tmod t264 4) (Int.tmod t265 4) (Int.tmod t263 512) _ _ t260 x8_1 true _ ?side1 ?side2 ?side3 ?side4 A22.out).mono ?_); (case side1 => exact Kd.C_nil _ _); (case side2 => exact Nat.le_refl _); (case side3 => repeat (first | exact (Kd.R_reads' HO_4.out).2.2 | (with_reducible refine Kd.C_alloc ?_ _) | (with_reducible refine Kd.C_drewN ?_ _) | (with_reducible refine Kd.C_drew ?_))); (case side4 => exact (Kd.R_reads' HO_4.out).2.1); rintro e w28 ⟨rfl, hb⟩; refine ⟨_, rfl, ?_⟩; have n0_ := Aside0.mk (Kd.R_below (by exact Lib.cr HO_4.out) hb); have n1_ := Aside0.mk (Kd.R_below (by exact Lib.cr HO_260002.out) hb); have n2_ := Aside0.mk (blk_below (g := gb259) (o := .cells #[.int .i64 t254, .int .i64 t255, .slice Ao11 t256.length co11] 72 (0, 0)) (by exact Lib.bk BK259.out) hb); have n3_ := Aside0.mk (below_step (by exact Lib.bs HB.out GE259.out) hb); clear HO_4; clear HO_260002; clear BK259; clear HB; have HO_4 := n0_; have HO_260002 := n1_; have BK259 := n2_; have HB := n3_; clear n0_ n1_ n2_ n3_; (try clear hb); (try clear hb2); (try clear hk); (try clear hi); obtain ⟨hcz29_0, hcz29_1, hcz29_2, hfz29_0, hfz29_1, hfz29_2⟩ := Lib.cel3 (W := w28) BK259.out))
         go_meet
         case rel => exact ⟨_, (false), (by first | rfl | (simp; done) | (simp [*]; done)), H', ⟨by have := HK1.out; first | omega | exact Nat.le_refl _⟩, ⟨by exact Lib.cr HO_4.out⟩, ⟨by exact Lib.cr HO_260002.out⟩, ⟨by exact Lib.bk BK259.out⟩, ⟨by exact Lib.bs HB.out GE259.out⟩⟩
       ·
        rw [if_neg c24] at H
        have c24b0 : (x8_1 == 0) = false := beq_eq_false_iff_ne.mpr c24
        have c24b1 : (x8_1 != 0) = true := bne_iff_ne.mpr c24
        (first | rw [c24b0] | (simp only [i64_w, i32_w]; rw [c24b0]) | skip)
        have H' := Aside0.mk H
        clear H
        go_wp2_with (first | ((with_reducible refine gate_callee (f := 43) rfl ?_); refine goesL_ (some 46) rfl rfl Try.func43 (by kernel_rfl) rfl #[.agg #[.int .i64 0, .int .i64 0, .slice none 0 0], .int .i64 (Int.tmod t264 4), .int .i64 (Int.tmod t265 4), .int .i64 (Int.tmod t263 512), .slice Ao20 t260.length co20, .int .i64 x8_1] rfl (by (try simp only [List.map_toArray, List.map_cons, List.map_nil]); first | done | rfl | (simp only [List.length_drop, List.length_take]; rfl)) ?_; (refine (impl_Allowed.calls k1 0 0 _ _ ([] : List Int) (Int.tmod t264 4) (Int.tmod t265 4) (Int.tmod t263 512) _ _ t260 x8_1 true _ ?side1 ?side2 ?side3 ?side4 A22.out).mono ?_); (case side1 => exact Kd.C_nil _ _); (case side2 => exact Nat.le_refl _); (case side3 => repeat (first | exact (Kd.R_reads' HO_4.out).2.2 | (with_reducible refine Kd.C_alloc ?_ _) | (with_reducible refine Kd.C_drewN ?_ _) | (with_reducible refine Kd.C_drew ?_))); (case side4 => exact (Kd.R_reads' HO_4.out).2.1); rintro e w30 ⟨rfl, hb⟩; refine ⟨_, rfl, ?_⟩; have n0_ := Aside0.mk (Kd.R_below (by exact Lib.cr HO_4.out) hb); have n1_ := Aside0.mk (Kd.R_below (by exact Lib.cr HO_260002.out) hb); have n2_ := Aside0.mk (blk_below (g := gb259) (o := .cells #[.int .i64 t254, .int .i64 t255, .slice Ao11 t256.length co11] 72 (0, 0)) (by exact Lib.bk BK259.out) hb); have n3_ := Aside0.mk (below_step (by exact Lib.bs HB.out GE259.out) hb); clear HO_4; clear HO_260002; clear BK259; clear HB; have HO_4 := n0_; have HO_260002 := n1_; have BK259 := n2_; have HB := n3_; clear n0_ n1_ n2_ n3_; (try clear hb); (try clear hb2); (try clear hk); (try clear hi)))
        go_meet
        case rel => exact ⟨_, (false), (by first | rfl | (simp; done) | (simp [*]; done)), H', ⟨by have := HK1.out; first | omega | exact Nat.le_refl _⟩, ⟨by exact Lib.cr HO_4.out⟩, ⟨by exact Lib.cr HO_260002.out⟩, ⟨by exact Lib.bk BK259.out⟩, ⟨by exact Lib.bs HB.out GE259.out⟩⟩
      ·
       replace c23 := Bool.eq_false_iff.mpr c23
       subst c23
       have H1 : (laws_FnAccess.j1 k1 t260 (Int.tmod t263 512) (Int.tmod t264 4) (Int.tmod t265 4) x8_1 t268 true t254 t255 t256) = some true := by rw [if_neg (show ¬ (false = true) by decide)] at H; exact H
       clear H
       have H := H1
       clear H1
       have H' := Aside0.mk H
       clear H
       go_wp2_with (first | ((with_reducible refine gate_callee (f := 43) rfl ?_); refine goesL_ (some 46) rfl rfl Try.func43 (by kernel_rfl) rfl #[.agg #[.int .i64 0, .int .i64 0, .slice none 0 0], .int .i64 (Int.tmod t264 4), .int .i64 (Int.tmod t265 4), .int .i64 (Int.tmod t263 512), .slice Ao20 t260.length co20, .int .i64 x8_1] rfl (by (try simp only [List.map_toArray, List.map_cons, List.map_nil]); first | done | rfl | (simp only [List.length_drop, List.length_take]; rfl)) ?_; (refine (impl_Allowed.calls k1 0 0 _ _ ([] : List Int) (Int.tmod t264 4) (Int.tmod t265 4) (Int.tmod t263 512) _ _ t260 x8_1 false _ ?side1 ?side2 ?side3 ?side4 A22.out).mono ?_); (case side1 => exact Kd.C_nil _ _); (case side2 => exact Nat.le_refl _); (case side3 => repeat (first | exact (Kd.R_reads' HO_4.out).2.2 | (with_reducible refine Kd.C_alloc ?_ _) | (with_reducible refine Kd.C_drewN ?_ _) | (with_reducible refine Kd.C_drew ?_))); (case side4 => exact (Kd.R_reads' HO_4.out).2.1); rintro e w31 ⟨rfl, hb⟩; refine ⟨_, rfl, ?_⟩; have n0_ := Aside0.mk (Kd.R_below (by exact Lib.cr HO_4.out) hb); have n1_ := Aside0.mk (Kd.R_below (by exact Lib.cr HO_260002.out) hb); have n2_ := Aside0.mk (blk_below (g := gb259) (o := .cells #[.int .i64 t254, .int .i64 t255, .slice Ao11 t256.length co11] 72 (0, 0)) (by exact Lib.bk BK259.out) hb); have n3_ := Aside0.mk (below_step (by exact Lib.bs HB.out GE259.out) hb); clear HO_4; clear HO_260002; clear BK259; clear HB; have HO_4 := n0_; have HO_260002 := n1_; have BK259 := n2_; have HB := n3_; clear n0_ n1_ n2_ n3_; (try clear hb); (try clear hb2); (try clear hk); (try clear hi)))
       go_meet
       case rel => exact ⟨_, (true), (by first | rfl | (simp; done) | (simp [*]; done)), H', ⟨by have := HK1.out; first | omega | exact Nat.le_refl _⟩, ⟨by exact Lib.cr HO_4.out⟩, ⟨by exact Lib.cr HO_260002.out⟩, ⟨by exact Lib.bk BK259.out⟩, ⟨by exact Lib.bs HB.out GE259.out⟩⟩
     case rest =>
      clear HC18
      try clear c1
      try clear c2
      try clear c2b0
      try clear c2b1
      try clear p2
      try clear c4
      try clear c9
      try clear c16
      try clear c16b0
      try clear c23
      try clear c24
      try clear c24b0
      try clear c24b1
      try clear c25
      try clear c25b0
      try clear c25b1
      try clear hcz10_0
      try clear hcz10_1
      try clear hcz10_2
      try clear hcz19_0
      try clear hcz19_1
      try clear hcz19_2
      try clear hcz27_0
      try clear hcz27_1
      try clear hcz27_2
      try clear hcz29_0
      try clear hcz29_1
      try clear hcz29_2
      try clear hfz10_0
      try clear hfz10_1
      try clear hfz10_2
      try clear hfz19_0
      try clear hfz19_1
      try clear hfz19_2
      try clear hfz27_0
      try clear hfz27_1
      try clear hfz27_2
      try clear hfz29_0
      try clear hfz29_1
      try clear hfz29_2
      try clear p2
      obtain ⟨kq, x60_17, rfl, HA, HJ17, HO_4, HO_260002, BK259, HB⟩ := hcut
      cases kq with
      | zero => exact absurd HA.out (by simp [laws_FnAccess.j1])
      | succ kj17 =>
       have H := HA.out
       clear HA
       simp only [laws_FnAccess.j1] at H
       by_cases c32 : x60_17 = true
       ·
        subst c32
        have H1 : (some false) = some true := by rw [if_pos rfl] at H; exact H
        clear H
        have H := H1
        clear H1
        exact absurd H (by simp)
       ·
        replace c32 := Bool.eq_false_iff.mpr c32
        subst c32
        have H1 : (laws_FnAccess.l1 kj17 t260 (Int.tmod t263 512) (Int.tmod t264 4) (Int.tmod t265 4) x8_1 t268 0 t254 t255 t256) = some true := by rw [if_neg (show ¬ (false = true) by decide)] at H; exact H
        clear H
        have H := H1
        clear H1
        have H' := Aside0.mk H
        clear H
        go_wp2
        go_loopg [10] kj17 (fun kq v10 w' => ∃ (x10_3 : Int), v10 = .int .i64 x10_3 ∧ Aside0 (laws_FnAccess.l1 kq t260 (Int.tmod t263 512) (Int.tmod t264 4) (Int.tmod t265 4) x8_1 t268 x10_3 t254 t255 t256 = some true) ∧ Aside0 (kq ≤ kj17) ∧ Aside0 (Kd.R k120 120 w' w.heap.size (fun _ => True) (.slice Ao20 t260.length co20) t260) ∧ Aside0 (Kd.R (Kd.int .i64) 3 w' w.heap.size (fun _ => True) (.slice Ao11 t256.length co11) t256) ∧ Aside0 (w'.heap[gb259]? = some (.cells #[.int .i64 t254, .int .i64 t255, (.slice Ao11 t256.length co11)] 72 (0, 0))) ∧ Aside0 (Below w.heap.size w w'))
        case atStart => exact ⟨(0), (by first | rfl | (simp; done) | (simp [*]; done)), H', ⟨Nat.le_refl _⟩, ⟨by exact Lib.cr HO_4.out⟩, ⟨by exact Lib.cr HO_260002.out⟩, ⟨by exact Lib.bk BK259.out⟩, ⟨by exact Lib.bs HB.out GE259.out⟩⟩
        case round =>
         clear H'
         try clear c1
         try clear c2
         try clear c2b0
         try clear c2b1
         try clear p2
         try clear c3
         try clear c4
         try clear c9
         try clear c16
         try clear c16b0
         try clear c23
         try clear c24
         try clear c24b0
         try clear c24b1
         try clear c25
         try clear c25b0
         try clear c25b1
         try clear c32
         try clear hcz10_0
         try clear hcz10_1
         try clear hcz10_2
         try clear hcz19_0
         try clear hcz19_1
         try clear hcz19_2
         try clear hcz27_0
         try clear hcz27_1
         try clear hcz27_2
         try clear hcz29_0
         try clear hcz29_1
         try clear hcz29_2
         try clear hfz10_0
         try clear hfz10_1
         try clear hfz10_2
         try clear hfz19_0
         try clear hfz19_1
         try clear hfz19_2
         try clear hfz27_0
         try clear hfz27_1
         try clear hfz27_2
         try clear hfz29_0
         try clear hfz29_1
         try clear hfz29_2
         try clear p2
         obtain ⟨x10_3, rfl, HA, HK3, HO_4, HO_260002, BK259, HB⟩ := hrel
         cases gk with
         | zero => exact absurd HA.out (by simp [laws_FnAccess.l1])
         | succ k3 =>
          have H := HA.out
          clear HA
          simp only [laws_FnAccess.l1] at H
          by_cases c33 : x10_3 < 8
          ·
           rw [if_pos c33] at H
           have c33b0 : decide (x10_3 < 8) = true := decide_eq_true c33
           clear c33
           by_cases c34 : (Go.bits .and .i64 x10_3 x8_1) = x10_3
           ·
            rw [if_pos c34] at H
            have c34b0 : ((Go.bits .and .i64 x10_3 x8_1) == x10_3) = true := beq_iff_eq.mpr c34
            have c34b1 : ((Go.bits .and .i64 x10_3 x8_1) != x10_3) = false := bne_eq_false_iff_eq.mpr c34
            clear c34
            by_cases c35 : t268 = true
            ·
             subst c35
             have H1 : ((impl_Allowed.f k3 t254 t255 t256 (Int.tmod t264 4) (Int.tmod t265 4) (Int.tmod t263 512) t260 x10_3).bind fun t270 => (if t270 = true then (laws_FnAccess.l1 k3 t260 (Int.tmod t263 512) (Int.tmod t264 4) (Int.tmod t265 4) x8_1 true (wrap64 (x10_3 + 1)) t254 t255 t256) else (some false))) = some true := by rw [if_pos rfl] at H; exact H
             clear H
             have H := H1
             clear H1
             replace H := Option.bind_eq_some_iff.mp H
             obtain ⟨t270, A360, H⟩ := H
             try dsimp only at H
             have A36 := Aside0.mk A360
             clear A360
             by_cases c37 : t270 = true
             ·
              subst c37
              have H1 : (laws_FnAccess.l1 k3 t260 (Int.tmod t263 512) (Int.tmod t264 4) (Int.tmod t265 4) x8_1 true (wrap64 (x10_3 + 1)) t254 t255 t256) = some true := by rw [if_pos rfl] at H; exact H
              clear H
              have H := H1
              clear H1
              have H' := Aside0.mk H
              clear H
              obtain ⟨hcz38_0, hcz38_1, hcz38_2, hfz38_0, hfz38_1, hfz38_2⟩ := Lib.cel3 (W := wr) BK259.out
              go_wp2_with (first | (go_at_call 43; (with_reducible refine (impl_Allowed.calls k3 t254 t255 _ _ t256 (Int.tmod t264 4) (Int.tmod t265 4) (Int.tmod t263 512) _ _ t260 x10_3 true _ ?side1 ?side2 ?side3 ?side4 A36.out).mono ?_); (case side1 => repeat (first | exact (Kd.R_reads' HO_260002.out).2.2 | (with_reducible refine Kd.C_alloc ?_ _) | (with_reducible refine Kd.C_drewN ?_ _) | (with_reducible refine Kd.C_drew ?_))); (case side2 => exact (Kd.R_reads' HO_260002.out).2.1); (case side3 => repeat (first | exact (Kd.R_reads' HO_4.out).2.2 | (with_reducible refine Kd.C_alloc ?_ _) | (with_reducible refine Kd.C_drewN ?_ _) | (with_reducible refine Kd.C_drew ?_))); (case side4 => exact (Kd.R_reads' HO_4.out).2.1); rintro e w39 ⟨rfl, hb⟩; have n0_ := Aside0.mk (Kd.R_below (by exact Lib.cr HO_4.out) hb); have n1_ := Aside0.mk (Kd.R_below (by exact Lib.cr HO_260002.out) hb); have n2_ := Aside0.mk (blk_below (g := gb259) (o := .cells #[.int .i64 t254, .int .i64 t255, .slice Ao11 t256.length co11] 72 (0, 0)) (by exact Lib.bk BK259.out) hb); have n3_ := Aside0.mk (below_step (by exact Lib.bs HB.out GE259.out) hb); clear HO_4; clear HO_260002; clear BK259; clear HB; have HO_4 := n0_; have HO_260002 := n1_; have BK259 := n2_; have HB := n3_; clear n0_ n1_ n2_ n3_; (try clear hb); (try clear hb2); (try clear hk); (try clear hi)))
              go_roundg k3
              case measure => have := HK1.out; have := HJ17.out; have := HK3.out; omega
              case rel => exact ⟨(wrap64 (x10_3 + 1)), (by first | rfl | (simp; done) | (simp [*]; done)), H', ⟨by have := HK1.out; have := HJ17.out; have := HK3.out; omega⟩, ⟨by exact Lib.cr HO_4.out⟩, ⟨by exact Lib.cr HO_260002.out⟩, ⟨by exact Lib.bk BK259.out⟩, ⟨by exact Lib.bs HB.out GE259.out⟩⟩
             ·
              replace c37 := Bool.eq_false_iff.mpr c37
              subst c37
              have H1 : (some false) = some true := by rw [if_neg (show ¬ (false = true) by decide)] at H; exact H
              clear H
              have H := H1
              clear H1
              exact absurd H (by simp)
            ·
             replace c35 := Bool.eq_false_iff.mpr c35
             subst c35
             have H1 : (laws_FnAccess.l1 k3 t260 (Int.tmod t263 512) (Int.tmod t264 4) (Int.tmod t265 4) x8_1 false (wrap64 (x10_3 + 1)) t254 t255 t256) = some true := by rw [if_neg (show ¬ (false = true) by decide)] at H; exact H
             clear H
             have H := H1
             clear H1
             have H' := Aside0.mk H
             clear H
             go_wp2
             go_roundg k3
             case measure => have := HK1.out; have := HJ17.out; have := HK3.out; omega
             case rel => exact ⟨(wrap64 (x10_3 + 1)), (by first | rfl | (simp; done) | (simp [*]; done)), H', ⟨by have := HK1.out; have := HJ17.out; have := HK3.out; omega⟩, ⟨by exact Lib.cr HO_4.out⟩, ⟨by exact Lib.cr HO_260002.out⟩, ⟨by exact Lib.bk BK259.out⟩, ⟨by exact Lib.bs HB.out GE259.out⟩⟩
           ·
            rw [if_neg c34] at H
            have c34b0 : ((Go.bits .and .i64 x10_3 x8_1) == x10_3) = false := beq_eq_false_iff_ne.mpr c34
            have c34b1 : ((Go.bits .and .i64 x10_3 x8_1) != x10_3) = true := bne_iff_ne.mpr c34
            have H' := Aside0.mk H
            clear H
            go_wp2
            go_roundg k3
            case measure => have := HK1.out; have := HJ17.out; have := HK3.out; omega
            case rel => exact ⟨(wrap64 (x10_3 + 1)), (by first | rfl | (simp; done) | (simp [*]; done)), H', ⟨by have := HK1.out; have := HJ17.out; have := HK3.out; omega⟩, ⟨by exact Lib.cr HO_4.out⟩, ⟨by exact Lib.cr HO_260002.out⟩, ⟨by exact Lib.bk BK259.out⟩, ⟨by exact Lib.bs HB.out GE259.out⟩⟩
          ·
           rw [if_neg c33] at H
           have c33b0 : decide (x10_3 < 8) = false := decide_eq_false c33
           clear c33
           replace H := Option.bind_eq_some_iff.mp H
           obtain ⟨⟨t271, t272⟩, A400, H⟩ := H
           try dsimp only at H
           have A40 := Aside0.mk A400
           clear A400
           have HC41 := Aside0.mk H
           clear H
           obtain ⟨hcz42_0, hcz42_1, hcz42_2, hfz42_0, hfz42_1, hfz42_2⟩ := Lib.cel3 (W := wr) BK259.out
           go_upto_region 20 with (first | ((with_reducible refine gate_callee (f := 44) rfl ?_); refine goesL_ (some 87) rfl rfl Try.func44 (by kernel_rfl) rfl #[.slice Ao20 t260.length co20, .int .i64 1, .int .i64 t254] rfl (by (try simp only [List.map_toArray, List.map_cons, List.map_nil]); first | done | rfl | (simp only [List.length_drop, List.length_take]; rfl)) ?_; (with_reducible refine (impl_AclPerm.calls k3 _ _ t260 1 t254 t271 t272 _ ?side1 ?side2 A40.out).mono ?_); (case side1 => repeat (first | exact (Kd.R_reads' HO_4.out).2.2 | (with_reducible refine Kd.C_alloc ?_ _) | (with_reducible refine Kd.C_drewN ?_ _) | (with_reducible refine Kd.C_drew ?_))); (case side2 => exact (Kd.R_reads' HO_4.out).2.1); rintro e w43 ⟨rfl, hb⟩; refine ⟨_, rfl, ?_⟩; have n0_ := Aside0.mk (Kd.R_below (by exact Lib.cr HO_4.out) hb); have n1_ := Aside0.mk (Kd.R_below (by exact Lib.cr HO_260002.out) hb); have n2_ := Aside0.mk (blk_below (g := gb259) (o := .cells #[.int .i64 t254, .int .i64 t255, .slice Ao11 t256.length co11] 72 (0, 0)) (by exact Lib.bk BK259.out) hb); have n3_ := Aside0.mk (below_step (by exact Lib.bs HB.out GE259.out) hb); clear HO_4; clear HO_260002; clear BK259; clear HB; have HO_4 := n0_; have HO_260002 := n1_; have BK259 := n2_; have HB := n3_; clear n0_ n1_ n2_ n3_; (try clear hb); (try clear hb2); (try clear hk); (try clear hi)))
           (try simp only [Act.put, List.setIfInBounds_toArray, List.set_cons_zero, List.set_cons_succ])
           go_cut [112] (fun v112 wc => ∃ (kq : Nat) (x112_40 : Bool), v112 = .bool x112_40 ∧ Aside0 (laws_FnAccess.j3 kq t260 (Int.tmod t263 512) (Int.tmod t264 4) (Int.tmod t265 4) x8_1 t268 x112_40 t254 t255 t256 = some true) ∧ Aside0 (kq ≤ k3) ∧ Aside0 (Kd.R k120 120 wc w.heap.size (fun _ => True) (.slice Ao20 t260.length co20) t260) ∧ Aside0 (Kd.R (Kd.int .i64) 3 wc w.heap.size (fun _ => True) (.slice Ao11 t256.length co11) t256) ∧ Aside0 (wc.heap[gb259]? = some (.cells #[.int .i64 t254, .int .i64 t255, (.slice Ao11 t256.length co11)] 72 (0, 0))) ∧ Aside0 (Below w.heap.size w wc))
           case first =>
            have H := HC41.out
            clear HC41
            by_cases c44 : t268 = true
            ·
             subst c44
             have H1 : (if t272 = true then (if t254 = 0 then (laws_FnAccess.j3 k3 t260 (Int.tmod t263 512) (Int.tmod t264 4) (Int.tmod t265 4) x8_1 true false t254 t255 t256) else (if t254 = (Int.tmod t264 4) then (laws_FnAccess.j3 k3 t260 (Int.tmod t263 512) (Int.tmod t264 4) (Int.tmod t265 4) x8_1 true false t254 t255 t256) else ((impl_MaskOf.f k3 t260).bind fun t273 => (laws_FnAccess.j3 k3 t260 (Int.tmod t263 512) (Int.tmod t264 4) (Int.tmod t265 4) x8_1 true ((Go.bits .and .i64 t273 x8_1) != x8_1) t254 t255 t256)))) else (laws_FnAccess.j3 k3 t260 (Int.tmod t263 512) (Int.tmod t264 4) (Int.tmod t265 4) x8_1 true false t254 t255 t256)) = some true := by rw [if_pos rfl] at H; exact H
             clear H
             have H := H1
             clear H1
             by_cases c45 : t272 = true
             ·
              subst c45
              have H1 : (if t254 = 0 then (laws_FnAccess.j3 k3 t260 (Int.tmod t263 512) (Int.tmod t264 4) (Int.tmod t265 4) x8_1 true false t254 t255 t256) else (if t254 = (Int.tmod t264 4) then (laws_FnAccess.j3 k3 t260 (Int.tmod t263 512) (Int.tmod t264 4) (Int.tmod t265 4) x8_1 true false t254 t255 t256) else ((impl_MaskOf.f k3 t260).bind fun t273 => (laws_FnAccess.j3 k3 t260 (Int.tmod t263 512) (Int.tmod t264 4) (Int.tmod t265 4) x8_1 true ((Go.bits .and .i64 t273 x8_1) != x8_1) t254 t255 t256)))) = some true := by rw [if_pos rfl] at H; exact H
              clear H
              have H := H1
              clear H1
              by_cases c46 : t254 = 0
              ·
               rw [if_pos c46] at H
               have c46b0 : (t254 == 0) = true := beq_iff_eq.mpr c46
               have c46b1 : (t254 != 0) = false := bne_eq_false_iff_eq.mpr c46
               clear c46
               (first | rw [c46b0] | (simp only [i64_w, i32_w]; rw [c46b0]) | skip)
               have H' := Aside0.mk H
               clear H
               obtain ⟨hcz47_0, hcz47_1, hcz47_2, hfz47_0, hfz47_1, hfz47_2⟩ := Lib.cel3 (W := w43) BK259.out
               go_wp2
               go_meet
               case rel => exact ⟨_, (false), (by first | rfl | (simp; done) | (simp [*]; done)), H', ⟨by have := HK1.out; have := HJ17.out; have := HK3.out; first | omega | exact Nat.le_refl _⟩, ⟨by exact Lib.cr HO_4.out⟩, ⟨by exact Lib.cr HO_260002.out⟩, ⟨by exact Lib.bk BK259.out⟩, ⟨by exact Lib.bs HB.out GE259.out⟩⟩
              ·
               rw [if_neg c46] at H
               have c46b0 : (t254 == 0) = false := beq_eq_false_iff_ne.mpr c46
               have c46b1 : (t254 != 0) = true := bne_iff_ne.mpr c46
               (first | rw [c46b0] | (simp only [i64_w, i32_w]; rw [c46b0]) | skip)
               by_cases c48 : t254 = (Int.tmod t264 4)
               ·
                rw [if_pos c48] at H
                have c48b0 : (t254 == (Int.tmod t264 4)) = true := beq_iff_eq.mpr c48
                have c48b1 : (t254 != (Int.tmod t264 4)) = false := bne_eq_false_iff_eq.mpr c48
                clear c48
                have H' := Aside0.mk H
                clear H
                obtain ⟨hcz49_0, hcz49_1, hcz49_2, hfz49_0, hfz49_1, hfz49_2⟩ := Lib.cel3 (W := w43) BK259.out
                go_wp2
                go_meet
                case rel => exact ⟨_, (false), (by first | rfl | (simp; done) | (simp [*]; done)), H', ⟨by have := HK1.out; have := HJ17.out; have := HK3.out; first | omega | exact Nat.le_refl _⟩, ⟨by exact Lib.cr HO_4.out⟩, ⟨by exact Lib.cr HO_260002.out⟩, ⟨by exact Lib.bk BK259.out⟩, ⟨by exact Lib.bs HB.out GE259.out⟩⟩
               ·
                rw [if_neg c48] at H
                have c48b0 : (t254 == (Int.tmod t264 4)) = false := beq_eq_false_iff_ne.mpr c48
                have c48b1 : (t254 != (Int.tmod t264 4)) = true := bne_iff_ne.mpr c48
                replace H := Option.bind_eq_some_iff.mp H
                obtain ⟨t273, A500, H⟩ := H
                try dsimp only at H
                have A50 := Aside0.mk A500
                clear A500
                have H' := Aside0.mk H
                clear H
                obtain ⟨hcz51_0, hcz51_1, hcz51_2, hfz51_0, hfz51_1, hfz51_2⟩ := Lib.cel3 (W := w43) BK259.out
                go_wp2_with (first | (go_at_call 45; (with_reducible refine (impl_MaskOf.calls k3 _ _ t260 t273 _ ?side1 ?side2 A50.out).mono ?_); (case side1 => repeat (first | exact (Kd.R_reads' HO_4.out).2.2 | (with_reducible refine Kd.C_alloc ?_ _) | (with_reducible refine Kd.C_drewN ?_ _) | (with_reducible refine Kd.C_drew ?_))); (case side2 => exact (Kd.R_reads' HO_4.out).2.1); rintro e w52 ⟨rfl, hb⟩; have n0_ := Aside0.mk (Kd.R_below (by exact Lib.cr HO_4.out) hb); have n1_ := Aside0.mk (Kd.R_below (by exact Lib.cr HO_260002.out) hb); have n2_ := Aside0.mk (blk_below (g := gb259) (o := .cells #[.int .i64 t254, .int .i64 t255, .slice Ao11 t256.length co11] 72 (0, 0)) (by exact Lib.bk BK259.out) hb); have n3_ := Aside0.mk (below_step (by exact Lib.bs HB.out GE259.out) hb); clear HO_4; clear HO_260002; clear BK259; clear HB; have HO_4 := n0_; have HO_260002 := n1_; have BK259 := n2_; have HB := n3_; clear n0_ n1_ n2_ n3_; (try clear hb); (try clear hb2); (try clear hk); (try clear hi)))
                go_meet
                case rel => exact ⟨_, (((Go.bits .and .i64 t273 x8_1) != x8_1)), (by first | rfl | (simp; done) | (simp [*]; done)), H', ⟨by have := HK1.out; have := HJ17.out; have := HK3.out; first | omega | exact Nat.le_refl _⟩, ⟨by exact Lib.cr HO_4.out⟩, ⟨by exact Lib.cr HO_260002.out⟩, ⟨by exact Lib.bk BK259.out⟩, ⟨by exact Lib.bs HB.out GE259.out⟩⟩
             ·
              replace c45 := Bool.eq_false_iff.mpr c45
              subst c45
              have H1 : (laws_FnAccess.j3 k3 t260 (Int.tmod t263 512) (Int.tmod t264 4) (Int.tmod t265 4) x8_1 true false t254 t255 t256) = some true := by rw [if_neg (show ¬ (false = true) by decide)] at H; exact H
              clear H
              have H := H1
              clear H1
              have H' := Aside0.mk H
              clear H
              go_wp2
              go_meet
              case rel => exact ⟨_, (false), (by first | rfl | (simp; done) | (simp [*]; done)), H', ⟨by have := HK1.out; have := HJ17.out; have := HK3.out; first | omega | exact Nat.le_refl _⟩, ⟨by exact Lib.cr HO_4.out⟩, ⟨by exact Lib.cr HO_260002.out⟩, ⟨by exact Lib.bk BK259.out⟩, ⟨by exact Lib.bs HB.out GE259.out⟩⟩
            ·
             replace c44 := Bool.eq_false_iff.mpr c44
             subst c44
             have H1 : (laws_FnAccess.j3 k3 t260 (Int.tmod t263 512) (Int.tmod t264 4) (Int.tmod t265 4) x8_1 false false t254 t255 t256) = some true := by rw [if_neg (show ¬ (false = true) by decide)] at H; exact H
             clear H
             have H := H1
             clear H1
             have H' := Aside0.mk H
             clear H
             go_wp2
             go_meet
             case rel => exact ⟨_, (false), (by first | rfl | (simp; done) | (simp [*]; done)), H', ⟨by have := HK1.out; have := HJ17.out; have := HK3.out; first | omega | exact Nat.le_refl _⟩, ⟨by exact Lib.cr HO_4.out⟩, ⟨by exact Lib.cr HO_260002.out⟩, ⟨by exact Lib.bk BK259.out⟩, ⟨by exact Lib.bs HB.out GE259.out⟩⟩
           case rest =>
            clear HC41
            try clear c1
            try clear c2
            try clear c2b0
            try clear c2b1
            try clear p2
            try clear c3
            try clear c4
            try clear p6
            try clear c9
            try clear c16
            try clear c16b0
            try clear c23
            try clear c24
            try clear c24b0
            try clear c24b1
            try clear c25
            try clear c25b0
            try clear c25b1
            try clear c32
            try clear c33
            try clear c33b0
            try clear c34
            try clear c34b0
            try clear c34b1
            try clear c35
            try clear c37
            try clear c40
            try clear c41
            try clear c42
            try clear c43
            try clear c44
            try clear c45
            try clear c46
            try clear c46b0
            try clear c46b1
            try clear c48
            try clear c48b0
            try clear c48b1
            try clear hcz10_0
            try clear hcz10_1
            try clear hcz10_2
            try clear hcz19_0
            try clear hcz19_1
            try clear hcz19_2
            try clear hcz27_0
            try clear hcz27_1
            try clear hcz27_2
            try clear hcz29_0
            try clear hcz29_1
            try clear hcz29_2
            try clear hcz38_0
            try clear hcz38_1
            try clear hcz38_2
            try clear hcz42_0
            try clear hcz42_1
            try clear hcz42_2
            try clear hcz47_0
            try clear hcz47_1
            try clear hcz47_2
            try clear hcz49_0
            try clear hcz49_1
            try clear hcz49_2
            try clear hcz51_0
            try clear hcz51_1
            try clear hcz51_2
            try clear hfz10_0
            try clear hfz10_1
            try clear hfz10_2
            try clear hfz19_0
            try clear hfz19_1
            try clear hfz19_2
            try clear hfz27_0
            try clear hfz27_1
            try clear hfz27_2
            try clear hfz29_0
            try clear hfz29_1
            try clear hfz29_2
            try clear hfz38_0
            try clear hfz38_1
            try clear hfz38_2
            try clear hfz42_0
            try clear hfz42_1
            try clear hfz42_2
            try clear hfz47_0
            try clear hfz47_1
            try clear hfz47_2
            try clear hfz49_0
            try clear hfz49_1
            try clear hfz49_2
            try clear hfz51_0
            try clear hfz51_1
            try clear hfz51_2
            try clear p2
            obtain ⟨kq, x112_40, rfl, HA, HJ40, HO_4, HO_260002, BK259, HB⟩ := hcut
            cases kq with
            | zero => exact absurd HA.out (by simp [laws_FnAccess.j3])
            | succ kj40 =>
             have H := HA.out
             clear HA
             simp only [laws_FnAccess.j3] at H
             by_cases c53 : x112_40 = true
             ·
              subst c53
              have H1 : (some false) = some true := by rw [if_pos rfl] at H; exact H
              clear H
              have H := H1
              clear H1
              exact absurd H (by simp)
             ·
              replace c53 := Bool.eq_false_iff.mpr c53
              subst c53
              have H1 : (if t254 = (Int.tmod t264 4) then (if t254 = 0 then (laws_FnAccess.l0 kj40 t260 (Int.tmod t263 512) (Int.tmod t264 4) (Int.tmod t265 4) (wrap64 (x8_1 + 1)) t254 t255 t256) else ((impl_PermOf.f (Int.tmod t263 512) 0).bind fun t274 => (if (t268 != ((Go.bits .and .i64 t274 x8_1) == x8_1)) = true then (some false) else (laws_FnAccess.l0 kj40 t260 (Int.tmod t263 512) (Int.tmod t264 4) (Int.tmod t265 4) (wrap64 (x8_1 + 1)) t254 t255 t256)))) else (laws_FnAccess.l0 kj40 t260 (Int.tmod t263 512) (Int.tmod t264 4) (Int.tmod t265 4) (wrap64 (x8_1 + 1)) t254 t255 t256)) = some true := by rw [if_neg (show ¬ (false = true) by decide)] at H; exact H
              clear H
              have H := H1
              clear H1
              by_cases c54 : t254 = (Int.tmod t264 4)
              ·
               rw [if_pos c54] at H
               have c54b0 : (t254 == (Int.tmod t264 4)) = true := beq_iff_eq.mpr c54
               have c54b1 : (t254 != (Int.tmod t264 4)) = false := bne_eq_false_iff_eq.mpr c54
               clear c54
               by_cases c55 : t254 = 0
               ·
                rw [if_pos c55] at H
                have c55b0 : (t254 == 0) = true := beq_iff_eq.mpr c55
                have c55b1 : (t254 != 0) = false := bne_eq_false_iff_eq.mpr c55
                clear c55
                have H' := Aside0.mk H
                clear H
                obtain ⟨hcz56_0, hcz56_1, hcz56_2, hfz56_0, hfz56_1, hfz56_2⟩ := Lib.cel3 (W := wc) BK259.out
                go_wp2
                go_roundg kj40
                case measure => have := HK1.out; have := HJ17.out; have := HK3.out; have := HJ40.out; omega
                case rel => exact ⟨(wrap64 (x8_1 + 1)), (by first | rfl | (simp; done) | (simp [*]; done)), H', ⟨by have := HK1.out; have := HJ17.out; have := HK3.out; have := HJ40.out; omega⟩, ⟨by exact Lib.cr HO_4.out⟩, ⟨by exact Lib.cr HO_260002.out⟩, ⟨by exact Lib.bk BK259.out⟩, ⟨by exact Lib.bs HB.out GE259.out⟩⟩
               ·
                rw [if_neg c55] at H
                have c55b0 : (t254 == 0) = false := beq_eq_false_iff_ne.mpr c55
                have c55b1 : (t254 != 0) = true := bne_iff_ne.mpr c55
                replace H := Option.bind_eq_some_iff.mp H
                obtain ⟨t274, A570, H⟩ := H
                try dsimp only at H
                have A57 := Aside0.mk A570
                clear A570
                by_cases c58 : (t268 != ((Go.bits .and .i64 t274 x8_1) == x8_1)) = true
                ·
                 rw [if_pos c58] at H
                 have c58b0 : (t268 != ((Go.bits .and .i64 t274 x8_1) == x8_1)) = true := c58
                 (try (have c58b1 : decide (t268 = ((Go.bits .and .i64 t274 x8_1) == x8_1)) = false := by simpa using c58))
                 (try (have c58b2 : (t268 == ((Go.bits .and .i64 t274 x8_1) == x8_1)) = false := by simpa using c58))
                 (try (have c58b3 : ¬ (t268 = ((Go.bits .and .i64 t274 x8_1) == x8_1)) := by simpa using c58))
                 clear c58
                 exact absurd H (by simp)
                ·
                 rw [if_neg c58] at H
                 have c58b0 : (t268 != ((Go.bits .and .i64 t274 x8_1) == x8_1)) = false := by simpa using c58
                 (try (have c58b1 : decide (t268 = ((Go.bits .and .i64 t274 x8_1) == x8_1)) = true := by simpa using c58))
                 (try (have c58b2 : (t268 == ((Go.bits .and .i64 t274 x8_1) == x8_1)) = true := by simpa using c58))
                 clear c58
                 have H' := Aside0.mk H
                 clear H
                 obtain ⟨hcz59_0, hcz59_1, hcz59_2, hfz59_0, hfz59_1, hfz59_2⟩ := Lib.cel3 (W := wc) BK259.out
                 go_wp2_with (first | (go_at_call 46; (with_reducible refine (impl_PermOf.calls (Int.tmod t263 512) 0 t274 _ A57.out).mono ?_); rintro e w' ⟨rfl, ⟨nd, rfl⟩⟩))
                 go_roundg kj40
                 case measure => have := HK1.out; have := HJ17.out; have := HK3.out; have := HJ40.out; omega
                 case rel => exact ⟨(wrap64 (x8_1 + 1)), (by first | rfl | (simp; done) | (simp [*]; done)), H', ⟨by have := HK1.out; have := HJ17.out; have := HK3.out; have := HJ40.out; omega⟩, ⟨by exact Lib.cr HO_4.out⟩, ⟨by exact Lib.cr HO_260002.out⟩, ⟨by exact Lib.bk BK259.out⟩, ⟨by exact Lib.bs HB.out GE259.out⟩⟩
              ·
               rw [if_neg c54] at H
               have c54b0 : (t254 == (Int.tmod t264 4)) = false := beq_eq_false_iff_ne.mpr c54
               have c54b1 : (t254 != (Int.tmod t264 4)) = true := bne_iff_ne.mpr c54
               have H' := Aside0.mk H
               clear H
               obtain ⟨hcz60_0, hcz60_1, hcz60_2, hfz60_0, hfz60_1, hfz60_2⟩ := Lib.cel3 (W := wc) BK259.out
               go_wp2
               go_roundg kj40
               case measure => have := HK1.out; have := HJ17.out; have := HK3.out; have := HJ40.out; omega
               case rel => exact ⟨(wrap64 (x8_1 + 1)), (by first | rfl | (simp; done) | (simp [*]; done)), H', ⟨by have := HK1.out; have := HJ17.out; have := HK3.out; have := HJ40.out; omega⟩, ⟨by exact Lib.cr HO_4.out⟩, ⟨by exact Lib.cr HO_260002.out⟩, ⟨by exact Lib.bk BK259.out⟩, ⟨by exact Lib.bs HB.out GE259.out⟩⟩
    ·
     rw [if_neg c16] at H
     have c16b0 : decide (x8_1 < 8) = false := decide_eq_false c16
     clear c16
     replace H := Option.bind_eq_some_iff.mp H
     obtain ⟨t266, A610, H⟩ := H
     replace H : (if t266 = true then ((impl_InGroup.f k1 t254 t255 t256 t255).bind fun t267 => (some t267)) else (some false)) = some true := H
     have A61 := Aside0.mk A610
     clear A610
     by_cases c62 : t266 = true
     ·
      subst c62
      have H1 : ((impl_InGroup.f k1 t254 t255 t256 t255).bind fun t267 => (some t267)) = some true := by rw [if_pos rfl] at H; exact H
      clear H
      have H := H1
      clear H1
      replace H := Option.bind_eq_some_iff.mp H
      obtain ⟨t267, A630, H⟩ := H
      replace H : (some t267) = some true := H
      have A63 := Aside0.mk A630
      clear A630
      have hE_ := Option.some.inj H
      obtain ⟨hcz64_0, hcz64_1, hcz64_2, hfz64_0, hfz64_1, hfz64_2⟩ := Lib.cel3 (W := wr) BK259.out
      go_wp2_with (first | ((with_reducible refine gate_callee (f := 47) rfl ?_); refine goesL_ (some 133) rfl rfl Try.func47 (by kernel_rfl) rfl #[.agg #[.int .i64 t254, .int .i64 t255, .slice Ao11 t256.length co11]] rfl (by (try simp only [List.map_toArray, List.map_cons, List.map_nil]); first | done | rfl | (simp only [List.length_drop, List.length_take]; rfl)) ?_; (with_reducible refine (impl_IsCred.calls k1 t254 t255 _ _ t256 true _ ?side1 ?side2 A61.out).mono ?_); (case side1 => repeat (first | exact (Kd.R_reads' HO_260002.out).2.2 | (with_reducible refine Kd.C_alloc ?_ _) | (with_reducible refine Kd.C_drewN ?_ _) | (with_reducible refine Kd.C_drew ?_))); (case side2 => exact (Kd.R_reads' HO_260002.out).2.1); rintro e w65 ⟨rfl, hb⟩; refine ⟨_, rfl, ?_⟩; have n0_ := Aside0.mk (Kd.R_below (by exact Lib.cr HO_4.out) hb); have n1_ := Aside0.mk (Kd.R_below (by exact Lib.cr HO_260002.out) hb); have n2_ := Aside0.mk (blk_below (g := gb259) (o := .cells #[.int .i64 t254, .int .i64 t255, .slice Ao11 t256.length co11] 72 (0, 0)) (by exact Lib.bk BK259.out) hb); have n3_ := Aside0.mk (below_step (by exact Lib.bs HB.out GE259.out) hb); clear HO_4; clear HO_260002; clear BK259; clear HB; have HO_4 := n0_; have HO_260002 := n1_; have BK259 := n2_; have HB := n3_; clear n0_ n1_ n2_ n3_; (try clear hb); (try clear hb2); (try clear hk); (try clear hi); obtain ⟨hcz66_0, hcz66_1, hcz66_2, hfz66_0, hfz66_1, hfz66_2⟩ := Lib.cel3 (W := w65) BK259.out) | (go_at_call 48; (with_reducible refine (impl_InGroup.calls k1 t254 t255 _ _ t256 t255 t267 _ ?side1 ?side2 A63.out).mono ?_); (case side1 => repeat (first | exact (Kd.R_reads' HO_260002.out).2.2 | (with_reducible refine Kd.C_alloc ?_ _) | (with_reducible refine Kd.C_drewN ?_ _) | (with_reducible refine Kd.C_drew ?_))); (case side2 => exact (Kd.R_reads' HO_260002.out).2.1); rintro e w67 ⟨rfl, hb⟩; have n0_ := Aside0.mk (Kd.R_below (by exact Lib.cr HO_4.out) hb); have n1_ := Aside0.mk (Kd.R_below (by exact Lib.cr HO_260002.out) hb); have n2_ := Aside0.mk (blk_below (g := gb259) (o := .cells #[.int .i64 t254, .int .i64 t255, .slice Ao11 t256.length co11] 72 (0, 0)) (by exact Lib.bk BK259.out) hb); have n3_ := Aside0.mk (below_step (by exact Lib.bs HB.out GE259.out) hb); clear HO_4; clear HO_260002; clear BK259; clear HB; have HO_4 := n0_; have HO_260002 := n1_; have BK259 := n2_; have HB := n3_; clear n0_ n1_ n2_ n3_; (try clear hb); (try clear hb2); (try clear hk); (try clear hi)))
      go_ret
      exact ⟨by first | rfl | (simp [errW_none, errW_some] <;> rfl) | (simp at hE_ ⊢; exact hE_) | (simp [*, errW_none, errW_some] <;> rfl), by exact Lib.bs HB.out GE259.out⟩
     ·
      replace c62 := Bool.eq_false_iff.mpr c62
      subst c62
      have H1 : (some false) = some true := by rw [if_neg (show ¬ (false = true) by decide)] at H; exact H
      clear H
      have H := H1
      clear H1
      exact absurd H (by simp)

/-- THE ONE PURE STATEMENT of laws_FnAccess: yours. -/
def laws_FnAccess.Pure : Prop := ∀ (l0 : List Int), l0.length ≤ maxLen → l0.length * 1 ≤ 140737488351232 → (∀ x ∈ l0, (Lit.int .u8 x).wf = true) → ∃ k, laws_FnAccess.f k l0 = some true
theorem laws_FnAccess.walk (P : laws_FnAccess.Pure) (a0 : Option Addr) (len0 cap0 : Nat) (z0 : List Int) (w : World) (w0 : (a0 = none ∧ len0 = 0 ∧ cap0 = 0 ∧ z0 = []) ∨ ∃ x, a0 = some x ∧ len0 ≤ cap0 ∧ cap0 ≤ maxLen ∧ z0.length = cap0 ∧ (∀ i, i < z0.length → w.cell? (x.add i) = some (.int .u8 (z0.getD i 0))) ∧ ∀ n ∈ z0, (Lit.int .u8 n).wf = true) (y0 : len0 * 1 ≤ 140737488351232) :
 Calls Try.prog 9 #[.slice a0 len0 cap0] w fun e w' => e = .returned (.bool true) ∧ Below w.heap.size w w' := by
 obtain ⟨l0, rfl, hr0, hm0, hw0, hc0⟩ := ReadsInt.ofRowC w0
 obtain ⟨k, h⟩ := P l0 hm0 y0 hw0
 refine (laws_FnAccess.calls k _ _ l0 w (Kd.C_of_reads (d := (0 : Int)) (h1 := fun _ => rfl) hr0) hc0 h).mono ?_
 rintro e w' ⟨rfl, hd⟩
 exact ⟨rfl, hd⟩

end Go.Proofs.Ytmnojegajblagaa.PFnAccess
