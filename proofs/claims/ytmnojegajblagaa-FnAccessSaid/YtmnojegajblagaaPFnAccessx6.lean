-- Written by a program of this session over Lean's own print of the program.
import Derived.Test.YtmnojegajblagaaPFnAccessx0
import Derived.Test.YtmnojegajblagaaPFnAccessx2
import Derived.Test.YtmnojegajblagaaPFnAccessx3
import Derived.Test.YtmnojegajblagaaPFnAccessx4
import Derived.Test.YtmnojegajblagaaPFnAccessx5
namespace Go.Proofs.Ytmnojegajblagaa.PFnAccess
open Go.RowKit Go.Proofs.YtmnojegajblagaaW.PrintWords Go.Proofs.YtmnojegajblagaaW.PrintLast Go.Proofs.YtmnojegajblagaaW.PrintMore
attribute [local go_sem] max2_int min2_int max_two min_two max_three min_three max_four min_four   -- for this text's walks alone
set_option linter.unusedVariables false
set_option linter.unusedSimpArgs false

/-! ### impl_Allowed: function 43 -/
mutual
def impl_Allowed.j0 : Nat → Int → Int → Int → List (S120) → Bool → Int → Int → List Int → Int → Option (Bool)
 | 0, _, _, _, _, _, _, _, _, _ => none
 | k + 1, x1, x2, x3, x4, x50, x224000, x224001, x224002, x225000 => if x50 = true then (some false) else (if x224000 = 0 then (some true) else (if x224000 = x1 then ((impl_PermOf.f x3 0).bind fun t230 => ((impl_Allowed_1.f t230 x225000).bind fun t231 => (some t231))) else ((impl_MaskOf.f k x4).bind fun t232 => ((impl_AclPerm.f k x4 1 x224000).bind fun bt233 => (if bt233.2 = true then ((impl_Allowed_1.f (Go.bits .and .i64 bt233.1 t232) x225000).bind fun t235 => (some t235)) else ((some (([] : List Int) : List Int)).bind fun y236 => ((impl_InGroup.f k x224000 x224001 x224002 x2).bind fun t239 => (if t239 = true then ((impl_PermOf.f x3 1).bind fun t240 => (if y236.length < 17592186044416 then (impl_Allowed.j1 k x3 x4 t232 (y236 ++ [t240]) x224000 x224001 x224002 x225000) else (none))) else (impl_Allowed.j1 k x3 x4 t232 y236 x224000 x224001 x224002 x225000)))))))))
def impl_Allowed.j1 : Nat → Int → List (S120) → Int → List Int → Int → Int → List Int → Int → Option (Bool)
 | 0, _, _, _, _, _, _, _, _ => none
 | k + 1, x3, x4, x14, x17, x224000, x224001, x224002, x225000 => impl_Allowed.l0 k x3 x14 x17 x4 (x4.length : Int) 0 x224000 x224001 x224002 x225000
def impl_Allowed.l0 : Nat → Int → Int → List Int → List (S120) → Int → Int → Int → Int → List Int → Int → Option (Bool)
 | 0, _, _, _, _, _, _, _, _, _, _ => none
 | k + 1, x3, x14, x17, x87, x88, x89, x224000, x224001, x224002, x225000 => if x89 < x88 then (if 0 ≤ x89 then (if x89 < (x87.length : Int) then (if ((rd_T120 x87 x89).f0) = 2 then ((impl_InGroup.f k x224000 x224001 x224002 ((rd_T120 x87 x89).f1)).bind fun t246 => (if t246 = true then (if x17.length < 17592186044416 then (impl_Allowed.l0 k x3 x14 (x17 ++ [(rd_T120 x87 x89).f2]) x87 x88 (wrap64 (x89 + 1)) x224000 x224001 x224002 x225000) else (none)) else (impl_Allowed.l0 k x3 x14 x17 x87 x88 (wrap64 (x89 + 1)) x224000 x224001 x224002 x225000))) else (impl_Allowed.l0 k x3 x14 x17 x87 x88 (wrap64 (x89 + 1)) x224000 x224001 x224002 x225000)) else (none)) else (none)) else (if (x17.length : Int) > 0 then ((impl_Allowed_1.f x14 x225000).bind fun t250 => (if t250 = true then ((slices_ContainsFunc_int_int.f x17 x225000).bind fun t251 => (some t251)) else (some false))) else ((impl_PermOf.f x3 2).bind fun t252 => ((impl_Allowed_1.f t252 x225000).bind fun t253 => (some t253))))
end
def impl_Allowed.f (k : Nat) (a0_0 : Int) (a0_1 : Int) (l0_2 : List Int) (a1 : Int) (a2 : Int) (a3 : Int) (l4 : List (S120)) (a5 : Int) : Option (Bool) := (impl_IsCred.f k a0_0 a0_1 l0_2).bind fun t225 => (if t225 = true then ((impl_IsAcl.f k l4).bind fun t226 => (if t226 = true then ((impl_isUser.f a1).bind fun t227 => (if t227 = true then ((impl_isUser.f a2).bind fun t228 => (if t228 = true then ((impl_isMode.f a3).bind fun t229 => (if t229 = true then (if a5 < 0 then (impl_Allowed.j0 k a1 a2 a3 l4 true a0_0 a0_1 l0_2 a5) else (impl_Allowed.j0 k a1 a2 a3 l4 (decide (a5 > 7)) a0_0 a0_1 l0_2 a5)) else (impl_Allowed.j0 k a1 a2 a3 l4 true a0_0 a0_1 l0_2 a5))) else (impl_Allowed.j0 k a1 a2 a3 l4 true a0_0 a0_1 l0_2 a5))) else (impl_Allowed.j0 k a1 a2 a3 l4 true a0_0 a0_1 l0_2 a5))) else (impl_Allowed.j0 k a1 a2 a3 l4 true a0_0 a0_1 l0_2 a5))) else (impl_Allowed.j0 k a1 a2 a3 l4 true a0_0 a0_1 l0_2 a5))
theorem impl_Allowed.mono_l : ∀ k, (∀ y0 y1 y2 y3 y4 y5 y6 y7 y8, LeO (impl_Allowed.j0 k y0 y1 y2 y3 y4 y5 y6 y7 y8) (impl_Allowed.j0 (k + 1) y0 y1 y2 y3 y4 y5 y6 y7 y8)) ∧ (∀ y0 y1 y2 y3 y4 y5 y6 y7, LeO (impl_Allowed.j1 k y0 y1 y2 y3 y4 y5 y6 y7) (impl_Allowed.j1 (k + 1) y0 y1 y2 y3 y4 y5 y6 y7)) ∧ (∀ y0 y1 y2 y3 y4 y5 y6 y7 y8 y9, LeO (impl_Allowed.l0 k y0 y1 y2 y3 y4 y5 y6 y7 y8 y9) (impl_Allowed.l0 (k + 1) y0 y1 y2 y3 y4 y5 y6 y7 y8 y9))
 | 0 => ⟨fun _ _ _ _ _ _ _ _ _ r h => by simp [impl_Allowed.j0] at h, fun _ _ _ _ _ _ _ _ r h => by simp [impl_Allowed.j1] at h, fun _ _ _ _ _ _ _ _ _ _ r h => by simp [impl_Allowed.l0] at h⟩
 | k + 1 => by
  obtain ⟨ih0, ih1, ih2⟩ := impl_Allowed.mono_l k
  refine ⟨?_, ?_, ?_⟩
  ·
   intro y0 y1 y2 y3 y4 y5 y6 y7 y8
   unfold impl_Allowed.j0
   repeat' first
   | (with_reducible exact ih0 _ _ _ _ _ _ _ _ _)
   | (with_reducible exact ih1 _ _ _ _ _ _ _ _)
   | (with_reducible exact ih2 _ _ _ _ _ _ _ _ _ _)
   | (with_reducible exact impl_AclPerm.mono _ _ _ _)
   | (with_reducible exact impl_InGroup.mono _ _ _ _ _)
   | (with_reducible exact impl_IsAcl.mono _ _)
   | (with_reducible exact impl_IsCred.mono _ _ _ _)
   | (with_reducible exact impl_MaskOf.mono _ _)
   | (with_reducible exact LeO.refl _)
   | (with_reducible exact LeO.none _)
   | (with_reducible refine LeO.ite ?_ ?_)
   | (with_reducible refine LeO.bind ?_ (fun _ => ?_))
   | exact ih0 _ _ _ _ _ _ _ _ _
   | exact ih1 _ _ _ _ _ _ _ _
   | exact ih2 _ _ _ _ _ _ _ _ _ _
   | exact impl_AclPerm.mono _ _ _ _
   | exact impl_InGroup.mono _ _ _ _ _
   | exact impl_IsAcl.mono _ _
   | exact impl_IsCred.mono _ _ _ _
   | exact impl_MaskOf.mono _ _
   | exact LeO.none _
   | refine LeO.ite ?_ ?_
   | refine LeO.bind ?_ (fun _ => ?_)
  ·
   intro y0 y1 y2 y3 y4 y5 y6 y7
   unfold impl_Allowed.j1
   repeat' first
   | (with_reducible exact ih0 _ _ _ _ _ _ _ _ _)
   | (with_reducible exact ih1 _ _ _ _ _ _ _ _)
   | (with_reducible exact ih2 _ _ _ _ _ _ _ _ _ _)
   | (with_reducible exact impl_AclPerm.mono _ _ _ _)
   | (with_reducible exact impl_InGroup.mono _ _ _ _ _)
   | (with_reducible exact impl_IsAcl.mono _ _)
   | (with_reducible exact impl_IsCred.mono _ _ _ _)
   | (with_reducible exact impl_MaskOf.mono _ _)
   | (with_reducible exact LeO.refl _)
   | (with_reducible exact LeO.none _)
   | (with_reducible refine LeO.ite ?_ ?_)
   | (with_reducible refine LeO.bind ?_ (fun _ => ?_))
   | exact ih0 _ _ _ _ _ _ _ _ _
   | exact ih1 _ _ _ _ _ _ _ _
   | exact ih2 _ _ _ _ _ _ _ _ _ _
   | exact impl_AclPerm.mono _ _ _ _
   | exact impl_InGroup.mono _ _ _ _ _
   | exact impl_IsAcl.mono _ _
   | exact impl_IsCred.mono _ _ _ _
   | exact impl_MaskOf.mono _ _
   | exact LeO.none _
   | refine LeO.ite ?_ ?_
   | refine LeO.bind ?_ (fun _ => ?_)
  ·
   intro y0 y1 y2 y3 y4 y5 y6 y7 y8 y9
   unfold impl_Allowed.l0
   repeat' first
   | (with_reducible exact ih0 _ _ _ _ _ _ _ _ _)
   | (with_reducible exact ih1 _ _ _ _ _ _ _ _)
   | (with_reducible exact ih2 _ _ _ _ _ _ _ _ _ _)
   | (with_reducible exact impl_AclPerm.mono _ _ _ _)
   | (with_reducible exact impl_InGroup.mono _ _ _ _ _)
   | (with_reducible exact impl_IsAcl.mono _ _)
   | (with_reducible exact impl_IsCred.mono _ _ _ _)
   | (with_reducible exact impl_MaskOf.mono _ _)
   | (with_reducible exact LeO.refl _)
   | (with_reducible exact LeO.none _)
   | (with_reducible refine LeO.ite ?_ ?_)
   | (with_reducible refine LeO.bind ?_ (fun _ => ?_))
   | exact ih0 _ _ _ _ _ _ _ _ _
   | exact ih1 _ _ _ _ _ _ _ _
   | exact ih2 _ _ _ _ _ _ _ _ _ _
   | exact impl_AclPerm.mono _ _ _ _
   | exact impl_InGroup.mono _ _ _ _ _
   | exact impl_IsAcl.mono _ _
   | exact impl_IsCred.mono _ _ _ _
   | exact impl_MaskOf.mono _ _
   | exact LeO.none _
   | refine LeO.ite ?_ ?_
   | refine LeO.bind ?_ (fun _ => ?_)
theorem impl_Allowed.mono : ∀ a0 a1 a2 a3 a4 a5 a6 a7 k, LeO (impl_Allowed.f k a0 a1 a2 a3 a4 a5 a6 a7) (impl_Allowed.f (k + 1) a0 a1 a2 a3 a4 a5 a6 a7) := by
 intro a0 a1 a2 a3 a4 a5 a6 a7 k
 obtain ⟨ih0, ih1, ih2⟩ := impl_Allowed.mono_l k
 unfold impl_Allowed.f
 repeat' first
  | (with_reducible exact ih0 _ _ _ _ _ _ _ _ _)
  | (with_reducible exact ih1 _ _ _ _ _ _ _ _)
  | (with_reducible exact ih2 _ _ _ _ _ _ _ _ _ _)
  | (with_reducible exact impl_AclPerm.mono _ _ _ _)
  | (with_reducible exact impl_InGroup.mono _ _ _ _ _)
  | (with_reducible exact impl_IsAcl.mono _ _)
  | (with_reducible exact impl_IsCred.mono _ _ _ _)
  | (with_reducible exact impl_MaskOf.mono _ _)
  | (with_reducible exact LeO.refl _)
  | (with_reducible exact LeO.none _)
  | (with_reducible refine LeO.ite ?_ ?_)
  | (with_reducible refine LeO.bind ?_ (fun _ => ?_))
  | exact ih0 _ _ _ _ _ _ _ _ _
  | exact ih1 _ _ _ _ _ _ _ _
  | exact ih2 _ _ _ _ _ _ _ _ _ _
  | exact impl_AclPerm.mono _ _ _ _
  | exact impl_InGroup.mono _ _ _ _ _
  | exact impl_IsAcl.mono _ _
  | exact impl_IsCred.mono _ _ _ _
  | exact impl_MaskOf.mono _ _
  | exact LeO.none _
  | refine LeO.ite ?_ ?_
  | refine LeO.bind ?_ (fun _ => ?_)
set_option maxHeartbeats 8000000 in
set_option maxRecDepth 100000 in
theorem impl_Allowed.calls (k : Nat) (a0_0 : Int) (a0_1 : Int) (A0_2 : Option Addr) (c0_2 : Nat) (l0_2 : List Int) (a1 : Int) (a2 : Int) (a3 : Int) (A4 : Option Addr) (c4 : Nat) (l4 : List (S120)) (a5 : Int) (r : Bool) (w : World) (hr0_2 : Kd.C (Kd.int .i64) w A0_2 l0_2.length l0_2) (hc0_2 : l0_2.length ≤ c0_2) (hr4 : Kd.C k120 w A4 l4.length l4) (hc4 : l4.length ≤ c4) (h : impl_Allowed.f k a0_0 a0_1 l0_2 a1 a2 a3 l4 a5 = some r) :
 Calls Try.prog 43 #[.agg #[.int .i64 a0_0, .int .i64 a0_1, .slice A0_2 l0_2.length c0_2], .int .i64 a1, .int .i64 a2, .int .i64 a3, .slice A4 l4.length c4, .int .i64 a5] w fun e w' => e = .returned (.bool r) ∧ Below w.heap.size w w' := by
 have hu72 := Try.underlying72
 have hu120 := Try.underlying120
 have HR0_2 := Aside0.mk hr0_2
 have HC0_2 := Aside0.mk hc0_2
 clear hr0_2 hc0_2
 have HR4 := Aside0.mk hr4
 have HC4 := Aside0.mk hc4
 clear hr4 hc4
 have HB := Aside0.mk (Below.refl w.heap.size w)
 have H : ((impl_IsCred.f k a0_0 a0_1 l0_2).bind fun t225 => (if t225 = true then ((impl_IsAcl.f k l4).bind fun t226 => (if t226 = true then ((impl_isUser.f a1).bind fun t227 => (if t227 = true then ((impl_isUser.f a2).bind fun t228 => (if t228 = true then ((impl_isMode.f a3).bind fun t229 => (if t229 = true then (if a5 < 0 then (impl_Allowed.j0 k a1 a2 a3 l4 true a0_0 a0_1 l0_2 a5) else (impl_Allowed.j0 k a1 a2 a3 l4 (decide (a5 > 7)) a0_0 a0_1 l0_2 a5)) else (impl_Allowed.j0 k a1 a2 a3 l4 true a0_0 a0_1 l0_2 a5))) else (impl_Allowed.j0 k a1 a2 a3 l4 true a0_0 a0_1 l0_2 a5))) else (impl_Allowed.j0 k a1 a2 a3 l4 true a0_0 a0_1 l0_2 a5))) else (impl_Allowed.j0 k a1 a2 a3 l4 true a0_0 a0_1 l0_2 a5))) else (impl_Allowed.j0 k a1 a2 a3 l4 true a0_0 a0_1 l0_2 a5))) = some r := h
 clear h
 have HC7 := Aside0.mk H
 clear H
 have hmf : ∀ (fn : Fn) (first cap : Array Value) (w : World), (Instr.makeFunc fn first cap).run Try.prog w = .ok (.func fn first cap) w := fun _ _ _ _ => rfl
 go_enter Try.func43, Try.ntmps43
 go_upto_region 1 with (first | ((with_reducible refine gate_dst (N := 6) rfl ?_); refine box_event ?hg (N := 6) ?hd (cs := #[.int .i64 a0_0, .int .i64 a0_1, .slice A0_2 l0_2.length c0_2]) (t := 72) ?hr ?_; (case hd => rfl); (case hg => rfl); (case hr => first | (go_simp; done) | (go_simp; rfl)); intro gb223 hg w8 hbox hb; have n0_ := Aside0.mk (below_step (by exact Lib.bw HB.out) hb); have n1_ := Aside0.mk (hbox); have n2_ := Aside0.mk ((by rw [hg]; exact (below_size (by exact Lib.bw HB.out)) : w.heap.size ≤ gb223)); have n3_ := Aside0.mk ((by rw [hg]; exact (below_size (by exact Lib.bw HB.out)) : w.heap.size ≤ gb223)); clear HB; have HB := n0_; have BK223 := n1_; have GW223 := n2_; have GE223 := n3_; clear n0_ n1_ n2_ n3_; clear hb hbox hg) | ((with_reducible refine gate_dst (N := 11) rfl ?_); refine box_event ?hg (N := 11) ?hd (cs := #[.int .i64 a5]) (t := 3) ?hr ?_; (case hd => rfl); (case hg => rfl); (case hr => first | (go_simp; done) | (go_simp; rfl)); intro gb224 hg w9 hbox hb; have n0_ := Aside0.mk (blk_below (g := gb223) (o := .cells #[.int .i64 a0_0, .int .i64 a0_1, .slice A0_2 l0_2.length c0_2] 72 (0, 0)) (by exact Lib.bk BK223.out) hb); have n1_ := Aside0.mk (below_step (by exact Lib.bs HB.out GE223.out) hb); have n2_ := Aside0.mk (hbox); have n3_ := Aside0.mk ((by rw [hg]; exact (below_size (by exact Lib.bs HB.out GE223.out)) : w.heap.size ≤ gb224)); have n4_ := Aside0.mk ((by rw [hg]; exact (below_size (by exact Lib.bs HB.out GE223.out)) : w.heap.size ≤ gb224)); have n5_ := Aside0.mk ((by rw [hg]; exact Nat.ne_of_lt (blk_lt (g := gb223) (o := .cells #[.int .i64 a0_0, .int .i64 a0_1, .slice A0_2 l0_2.length c0_2] 72 (0, 0)) (by exact Lib.bk BK223.out)) : gb223 ≠ gb224)); have n6_ := Aside0.mk ((by rw [hg]; exact Nat.ne_of_gt (blk_lt (g := gb223) (o := .cells #[.int .i64 a0_0, .int .i64 a0_1, .slice A0_2 l0_2.length c0_2] 72 (0, 0)) (by exact Lib.bk BK223.out)) : gb224 ≠ gb223)); clear BK223; clear HB; have BK223 := n0_; have HB := n1_; have BK224 := n2_; have GW224 := n3_; have GE224 := n4_; have NB223_224 := n5_; have NB224_223 := n6_; clear n0_ n1_ n2_ n3_ n4_ n5_ n6_; clear hb hbox hg))
 (try simp only [Act.put, List.setIfInBounds_toArray, List.set_cons_zero, List.set_cons_succ])
 go_cut [50] (fun v50 wc => ∃ (kq : Nat) (x50_6 : Bool), v50 = .bool x50_6 ∧ Aside0 (impl_Allowed.j0 kq a1 a2 a3 l4 x50_6 a0_0 a0_1 l0_2 a5 = some r) ∧ Aside0 (kq ≤ k) ∧ Aside0 (wc.heap[gb223]? = some (.cells #[.int .i64 a0_0, .int .i64 a0_1, (.slice A0_2 l0_2.length c0_2)] 72 (0, 0))) ∧ Aside0 (wc.heap[gb224]? = some (.cells #[.int .i64 a5] 3 (0, 0))) ∧ Aside0 (Below w.heap.size w wc))
 case first =>
  have H := HC7.out
  clear HC7
  replace H := Option.bind_eq_some_iff.mp H
  obtain ⟨t225, A100, H⟩ := H
  try dsimp only at H
  have A10 := Aside0.mk A100
  clear A100
  by_cases c11 : t225 = true
  ·
   subst c11
   have H1 : ((impl_IsAcl.f k l4).bind fun t226 => (if t226 = true then ((impl_isUser.f a1).bind fun t227 => (if t227 = true then ((impl_isUser.f a2).bind fun t228 => (if t228 = true then ((impl_isMode.f a3).bind fun t229 => (if t229 = true then (if a5 < 0 then (impl_Allowed.j0 k a1 a2 a3 l4 true a0_0 a0_1 l0_2 a5) else (impl_Allowed.j0 k a1 a2 a3 l4 (decide (a5 > 7)) a0_0 a0_1 l0_2 a5)) else (impl_Allowed.j0 k a1 a2 a3 l4 true a0_0 a0_1 l0_2 a5))) else (impl_Allowed.j0 k a1 a2 a3 l4 true a0_0 a0_1 l0_2 a5))) else (impl_Allowed.j0 k a1 a2 a3 l4 true a0_0 a0_1 l0_2 a5))) else (impl_Allowed.j0 k a1 a2 a3 l4 true a0_0 a0_1 l0_2 a5))) = some r := by rw [if_pos rfl] at H; exact H
   clear H
   have H := H1
   clear H1
   replace H := Option.bind_eq_some_iff.mp H
   obtain ⟨t226, A120, H⟩ := H
   try dsimp only at H
   have A12 := Aside0.mk A120
   clear A120
   by_cases c13 : t226 = true
   ·
    subst c13
    have H1 : ((impl_isUser.f a1).bind fun t227 => (if t227 = true then ((impl_isUser.f a2).bind fun t228 => (if t228 = true then ((impl_isMode.f a3).bind fun t229 => (if t229 = true then (if a5 < 0 then (impl_Allowed.j0 k a1 a2 a3 l4 true a0_0 a0_1 l0_2 a5) else (impl_Allowed.j0 k a1 a2 a3 l4 (decide (a5 > 7)) a0_0 a0_1 l0_2 a5)) else (impl_Allowed.j0 k a1 a2 a3 l4 true a0_0 a0_1 l0_2 a5))) else (impl_Allowed.j0 k a1 a2 a3 l4 true a0_0 a0_1 l0_2 a5))) else (impl_Allowed.j0 k a1 a2 a3 l4 true a0_0 a0_1 l0_2 a5))) = some r := by rw [if_pos rfl] at H; exact H
    clear H
    have H := H1
    clear H1
    replace H := Option.bind_eq_some_iff.mp H
    obtain ⟨t227, A140, H⟩ := H
    try dsimp only at H
    have A14 := Aside0.mk A140
    clear A140
    by_cases c15 : t227 = true
    ·
     subst c15
     have H1 : ((impl_isUser.f a2).bind fun t228 => (if t228 = true then ((impl_isMode.f a3).bind fun t229 => (if t229 = true then (if a5 < 0 then (impl_Allowed.j0 k a1 a2 a3 l4 true a0_0 a0_1 l0_2 a5) else (impl_Allowed.j0 k a1 a2 a3 l4 (decide (a5 > 7)) a0_0 a0_1 l0_2 a5)) else (impl_Allowed.j0 k a1 a2 a3 l4 true a0_0 a0_1 l0_2 a5))) else (impl_Allowed.j0 k a1 a2 a3 l4 true a0_0 a0_1 l0_2 a5))) = some r := by rw [if_pos rfl] at H; exact H
     clear H
     have H := H1
     clear H1
     replace H := Option.bind_eq_some_iff.mp H
     obtain ⟨t228, A160, H⟩ := H
     try dsimp only at H
     have A16 := Aside0.mk A160
     clear A160
     by_cases c17 : t228 = true
     ·
      subst c17
      have H1 : ((impl_isMode.f a3).bind fun t229 => (if t229 = true then (if a5 < 0 then (impl_Allowed.j0 k a1 a2 a3 l4 true a0_0 a0_1 l0_2 a5) else (impl_Allowed.j0 k a1 a2 a3 l4 (decide (a5 > 7)) a0_0 a0_1 l0_2 a5)) else (impl_Allowed.j0 k a1 a2 a3 l4 true a0_0 a0_1 l0_2 a5))) = some r := by rw [if_pos rfl] at H; exact H
      clear H
      have H := H1
      clear H1
      replace H := Option.bind_eq_some_iff.mp H
      obtain ⟨t229, A180, H⟩ := H
      try dsimp only at H
      have A18 := Aside0.mk A180
      clear A180
      by_cases c19 : t229 = true
      ·
       subst c19
       have H1 : (if a5 < 0 then (impl_Allowed.j0 k a1 a2 a3 l4 true a0_0 a0_1 l0_2 a5) else (impl_Allowed.j0 k a1 a2 a3 l4 (decide (a5 > 7)) a0_0 a0_1 l0_2 a5)) = some r := by rw [if_pos rfl] at H; exact H
       clear H
       have H := H1
       clear H1
       by_cases c20 : a5 < 0
       ·
        rw [if_pos c20] at H
        have c20b0 : decide (a5 < 0) = true := decide_eq_true c20
        clear c20
        (first | rw [c20b0] | (simp only [i64_w, i32_w]; rw [c20b0]) | skip)
        have H' := Aside0.mk H
        clear H
        have hnb21 := NB223_224.out
        have hnc21 := NB224_223.out
        obtain ⟨hcz22_0, hcz22_1, hcz22_2, hfz22_0, hfz22_1, hfz22_2⟩ := Lib.cel3 (W := w9) BK223.out
        go_wp2_with (first | ((with_reducible refine gate_callee (f := 47) rfl ?_); refine goesL_ (some 21) rfl rfl Try.func47 (by kernel_rfl) rfl #[.agg #[.int .i64 a0_0, .int .i64 a0_1, .slice A0_2 l0_2.length c0_2]] rfl (by (try simp only [List.map_toArray, List.map_cons, List.map_nil]); first | done | rfl | (simp only [List.length_drop, List.length_take]; rfl)) ?_; (with_reducible refine (impl_IsCred.calls k a0_0 a0_1 _ _ l0_2 true _ ?side1 ?side2 A10.out).mono ?_); (case side1 => exact Lib.cx (Kd.C_below HR0_2.out HB.out)); (case side2 => exact HC0_2.out); rintro e w23 ⟨rfl, hb⟩; refine ⟨_, rfl, ?_⟩; have n0_ := Aside0.mk (blk_below (g := gb223) (o := .cells #[.int .i64 a0_0, .int .i64 a0_1, .slice A0_2 l0_2.length c0_2] 72 (0, 0)) (by exact Lib.bk BK223.out) hb); have n1_ := Aside0.mk (blk_below (g := gb224) (o := .cells #[.int .i64 a5] 3 (0, 0)) (by exact Lib.bk BK224.out) hb); have n2_ := Aside0.mk (below_step (by repeat (first | (with_reducible first | exact HB.out | apply below_alloc | apply pw_below_drewN | apply below_drew1 | refine below_set ?_ GE223.out | refine below_set ?_ GE224.out) | exact HB.out)) hb); clear BK223; clear BK224; clear HB; have BK223 := n0_; have BK224 := n1_; have HB := n2_; clear n0_ n1_ n2_; (try clear hb); (try clear hb2); (try clear hk); (try clear hi)) | (go_at_call 110; (with_reducible refine (impl_IsAcl.calls k _ _ l4 true _ ?side1 ?side2 A12.out).mono ?_); (case side1 => exact Lib.cx (Kd.C_below HR4.out HB.out)); (case side2 => exact HC4.out); rintro e w24 ⟨rfl, hb⟩; have n0_ := Aside0.mk (blk_below (g := gb223) (o := .cells #[.int .i64 a0_0, .int .i64 a0_1, .slice A0_2 l0_2.length c0_2] 72 (0, 0)) (by exact Lib.bk BK223.out) hb); have n1_ := Aside0.mk (blk_below (g := gb224) (o := .cells #[.int .i64 a5] 3 (0, 0)) (by exact Lib.bk BK224.out) hb); have n2_ := Aside0.mk (below_step (by repeat (first | (with_reducible first | exact HB.out | apply below_alloc | apply pw_below_drewN | apply below_drew1 | refine below_set ?_ GE223.out | refine below_set ?_ GE224.out) | exact HB.out)) hb); clear BK223; clear BK224; clear HB; have BK223 := n0_; have BK224 := n1_; have HB := n2_; clear n0_ n1_ n2_; (try clear hb); (try clear hb2); (try clear hk); (try clear hi)) | (go_at_call 78; (with_reducible refine (impl_isUser.calls a1 true _ A14.out).mono ?_); rintro e w' ⟨rfl, ⟨nd, rfl⟩⟩) | (go_at_call 78; (with_reducible refine (impl_isUser.calls a2 true _ A16.out).mono ?_); rintro e w' ⟨rfl, ⟨nd, rfl⟩⟩) | (go_at_call 111; (with_reducible refine (impl_isMode.calls a3 true _ A18.out).mono ?_); rintro e w' ⟨rfl, ⟨nd, rfl⟩⟩; have hcz25_0 : w24.cell? ⟨gb224, 0, none⟩ = some (.int .i64 a5) := (blk_cell BK224.out 0).trans rfl; have hfz25_0 := blk_frozen BK224.out 0))
        go_meet
        case rel => exact ⟨_, (true), (by first | rfl | (simp; done) | (simp [*]; done)), H', ⟨by first | omega | exact Nat.le_refl _⟩, ⟨by exact Lib.bk BK223.out⟩, ⟨by exact Lib.bk BK224.out⟩, ⟨by repeat (first | (with_reducible first | exact HB.out | apply below_alloc | apply pw_below_drewN | apply below_drew1 | refine below_set ?_ GE223.out | refine below_set ?_ GE224.out) | exact HB.out)⟩⟩
       ·
        rw [if_neg c20] at H
        have c20b0 : decide (a5 < 0) = false := decide_eq_false c20
        clear c20
        (first | rw [c20b0] | (simp only [i64_w, i32_w]; rw [c20b0]) | skip)
        have H' := Aside0.mk H
        clear H
        have hnb26 := NB223_224.out
        have hnc26 := NB224_223.out
        obtain ⟨hcz27_0, hcz27_1, hcz27_2, hfz27_0, hfz27_1, hfz27_2⟩ := Lib.cel3 (W := w9) BK223.out
        go_wp2_with (first | ((with_reducible refine gate_callee (f := 47) rfl ?_); refine goesL_ (some 21) rfl rfl Try.func47 (by kernel_rfl) rfl #[.agg #[.int .i64 a0_0, .int .i64 a0_1, .slice A0_2 l0_2.length c0_2]] rfl (by (try simp only [List.map_toArray, List.map_cons, List.map_nil]); first | done | rfl | (simp only [List.length_drop, List.length_take]; rfl)) ?_; (with_reducible refine (impl_IsCred.calls k a0_0 a0_1 _ _ l0_2 true _ ?side1 ?side2 A10.out).mono ?_); (case side1 => exact Lib.cx (Kd.C_below HR0_2.out HB.out)); (case side2 => exact HC0_2.out); rintro e w28 ⟨rfl, hb⟩; refine ⟨_, rfl, ?_⟩; have n0_ := Aside0.mk (blk_below (g := gb223) (o := .cells #[.int .i64 a0_0, .int .i64 a0_1, .slice A0_2 l0_2.length c0_2] 72 (0, 0)) (by exact Lib.bk BK223.out) hb); have n1_ := Aside0.mk (blk_below (g := gb224) (o := .cells #[.int .i64 a5] 3 (0, 0)) (by exact Lib.bk BK224.out) hb); have n2_ := Aside0.mk (below_step (by repeat (first | (with_reducible first | exact HB.out | apply below_alloc | apply pw_below_drewN | apply below_drew1 | refine below_set ?_ GE223.out | refine below_set ?_ GE224.out) | exact HB.out)) hb); clear BK223; clear BK224; clear HB; have BK223 := n0_; have BK224 := n1_; have HB := n2_; clear n0_ n1_ n2_; (try clear hb); (try clear hb2); (try clear hk); (try clear hi)) | (go_at_call 110; (with_reducible refine (impl_IsAcl.calls k _ _ l4 true _ ?side1 ?side2 A12.out).mono ?_); (case side1 => exact Lib.cx (Kd.C_below HR4.out HB.out)); (case side2 => exact HC4.out); rintro e w29 ⟨rfl, hb⟩; have n0_ := Aside0.mk (blk_below (g := gb223) (o := .cells #[.int .i64 a0_0, .int .i64 a0_1, .slice A0_2 l0_2.length c0_2] 72 (0, 0)) (by exact Lib.bk BK223.out) hb); have n1_ := Aside0.mk (blk_below (g := gb224) (o := .cells #[.int .i64 a5] 3 (0, 0)) (by exact Lib.bk BK224.out) hb); have n2_ := Aside0.mk (below_step (by repeat (first | (with_reducible first | exact HB.out | apply below_alloc | apply pw_below_drewN | apply below_drew1 | refine below_set ?_ GE223.out | refine below_set ?_ GE224.out) | exact HB.out)) hb); clear BK223; clear BK224; clear HB; have BK223 := n0_; have BK224 := n1_; have HB := n2_; clear n0_ n1_ n2_; (try clear hb); (try clear hb2); (try clear hk); (try clear hi)) | (go_at_call 78; (with_reducible refine (impl_isUser.calls a1 true _ A14.out).mono ?_); rintro e w' ⟨rfl, ⟨nd, rfl⟩⟩) | (go_at_call 78; (with_reducible refine (impl_isUser.calls a2 true _ A16.out).mono ?_); rintro e w' ⟨rfl, ⟨nd, rfl⟩⟩) | (go_at_call 111; (with_reducible refine (impl_isMode.calls a3 true _ A18.out).mono ?_); rintro e w' ⟨rfl, ⟨nd, rfl⟩⟩; have hcz30_0 : w29.cell? ⟨gb224, 0, none⟩ = some (.int .i64 a5) := (blk_cell BK224.out 0).trans rfl; have hfz30_0 := blk_frozen BK224.out 0))
        go_meet
        case rel => exact ⟨_, (decide (a5 > 7)), (by first | rfl | (simp; done) | (simp [*]; done)), H', ⟨by first | omega | exact Nat.le_refl _⟩, ⟨by exact Lib.bk BK223.out⟩, ⟨by exact Lib.bk BK224.out⟩, ⟨by repeat (first | (with_reducible first | exact HB.out | apply below_alloc | apply pw_below_drewN | apply below_drew1 | refine below_set ?_ GE223.out | refine below_set ?_ GE224.out) | exact HB.out)⟩⟩
      ·
       replace c19 := Bool.eq_false_iff.mpr c19
       subst c19
       have H1 : (impl_Allowed.j0 k a1 a2 a3 l4 true a0_0 a0_1 l0_2 a5) = some r := by rw [if_neg (show ¬ (false = true) by decide)] at H; exact H
       clear H
       have H := H1
       clear H1
       have H' := Aside0.mk H
       clear H
       have hnb31 := NB223_224.out
       have hnc31 := NB224_223.out
       obtain ⟨hcz32_0, hcz32_1, hcz32_2, hfz32_0, hfz32_1, hfz32_2⟩ := Lib.cel3 (W := w9) BK223.out
       go_wp2_with (first | ((with_reducible refine gate_callee (f := 47) rfl ?_); refine goesL_ (some 21) rfl rfl Try.func47 (by kernel_rfl) rfl #[.agg #[.int .i64 a0_0, .int .i64 a0_1, .slice A0_2 l0_2.length c0_2]] rfl (by (try simp only [List.map_toArray, List.map_cons, List.map_nil]); first | done | rfl | (simp only [List.length_drop, List.length_take]; rfl)) ?_; (with_reducible refine (impl_IsCred.calls k a0_0 a0_1 _ _ l0_2 true _ ?side1 ?side2 A10.out).mono ?_); (case side1 => exact Lib.cx (Kd.C_below HR0_2.out HB.out)); (case side2 => exact HC0_2.out); rintro e w33 ⟨rfl, hb⟩; refine ⟨_, rfl, ?_⟩; have n0_ := Aside0.mk (blk_below (g := gb223) (o := .cells #[.int .i64 a0_0, .int .i64 a0_1, .slice A0_2 l0_2.length c0_2] 72 (0, 0)) (by exact Lib.bk BK223.out) hb); have n1_ := Aside0.mk (blk_below (g := gb224) (o := .cells #[.int .i64 a5] 3 (0, 0)) (by exact Lib.bk BK224.out) hb); have n2_ := Aside0.mk (below_step (by repeat (first | (with_reducible first | exact HB.out | apply below_alloc | apply pw_below_drewN | apply below_drew1 | refine below_set ?_ GE223.out | refine below_set ?_ GE224.out) | exact HB.out)) hb); clear BK223; clear BK224; clear HB; have BK223 := n0_; have BK224 := n1_; have HB := n2_; clear n0_ n1_ n2_; (try clear hb); (try clear hb2); (try clear hk); (try clear hi)) | (go_at_call 110; (with_reducible refine (impl_IsAcl.calls k _ _ l4 true _ ?side1 ?side2 A12.out).mono ?_); (case side1 => exact Lib.cx (Kd.C_below HR4.out HB.out)); (case side2 => exact HC4.out); rintro e w34 ⟨rfl, hb⟩; have n0_ := Aside0.mk (blk_below (g := gb223) (o := .cells #[.int .i64 a0_0, .int .i64 a0_1, .slice A0_2 l0_2.length c0_2] 72 (0, 0)) (by exact Lib.bk BK223.out) hb); have n1_ := Aside0.mk (blk_below (g := gb224) (o := .cells #[.int .i64 a5] 3 (0, 0)) (by exact Lib.bk BK224.out) hb); have n2_ := Aside0.mk (below_step (by repeat (first | (with_reducible first | exact HB.out | apply below_alloc | apply pw_below_drewN | apply below_drew1 | refine below_set ?_ GE223.out | refine below_set ?_ GE224.out) | exact HB.out)) hb); clear BK223; clear BK224; clear HB; have BK223 := n0_; have BK224 := n1_; have HB := n2_; clear n0_ n1_ n2_; (try clear hb); (try clear hb2); (try clear hk); (try clear hi)) | (go_at_call 78; (with_reducible refine (impl_isUser.calls a1 true _ A14.out).mono ?_); rintro e w' ⟨rfl, ⟨nd, rfl⟩⟩) | (go_at_call 78; (with_reducible refine (impl_isUser.calls a2 true _ A16.out).mono ?_); rintro e w' ⟨rfl, ⟨nd, rfl⟩⟩) | (go_at_call 111; (with_reducible refine (impl_isMode.calls a3 false _ A18.out).mono ?_); rintro e w' ⟨rfl, ⟨nd, rfl⟩⟩))
       go_meet
       case rel => exact ⟨_, (true), (by first | rfl | (simp; done) | (simp [*]; done)), H', ⟨by first | omega | exact Nat.le_refl _⟩, ⟨by exact Lib.bk BK223.out⟩, ⟨by exact Lib.bk BK224.out⟩, ⟨by repeat (first | (with_reducible first | exact HB.out | apply below_alloc | apply pw_below_drewN | apply below_drew1 | refine below_set ?_ GE223.out | refine below_set ?_ GE224.out) | exact HB.out)⟩⟩
     ·
      replace c17 := Bool.eq_false_iff.mpr c17
      subst c17
      have H1 : (impl_Allowed.j0 k a1 a2 a3 l4 true a0_0 a0_1 l0_2 a5) = some r := by rw [if_neg (show ¬ (false = true) by decide)] at H; exact H
      clear H
      have H := H1
      clear H1
      have H' := Aside0.mk H
      clear H
      have hnb35 := NB223_224.out
      have hnc35 := NB224_223.out
      obtain ⟨hcz36_0, hcz36_1, hcz36_2, hfz36_0, hfz36_1, hfz36_2⟩ := Lib.cel3 (W := w9) BK223.out
      go_wp2_with (first | ((with_reducible refine gate_callee (f := 47) rfl ?_); refine goesL_ (some 21) rfl rfl Try.func47 (by kernel_rfl) rfl #[.agg #[.int .i64 a0_0, .int .i64 a0_1, .slice A0_2 l0_2.length c0_2]] rfl (by (try simp only [List.map_toArray, List.map_cons, List.map_nil]); first | done | rfl | (simp only [List.length_drop, List.length_take]; rfl)) ?_; (with_reducible refine (impl_IsCred.calls k a0_0 a0_1 _ _ l0_2 true _ ?side1 ?side2 A10.out).mono ?_); (case side1 => exact Lib.cx (Kd.C_below HR0_2.out HB.out)); (case side2 => exact HC0_2.out); rintro e w37 ⟨rfl, hb⟩; refine ⟨_, rfl, ?_⟩; have n0_ := Aside0.mk (blk_below (g := gb223) (o := .cells #[.int .i64 a0_0, .int .i64 a0_1, .slice A0_2 l0_2.length c0_2] 72 (0, 0)) (by exact Lib.bk BK223.out) hb); have n1_ := Aside0.mk (blk_below (g := gb224) (o := .cells #[.int .i64 a5] 3 (0, 0)) (by exact Lib.bk BK224.out) hb); have n2_ := Aside0.mk (below_step (by repeat (first | (with_reducible first | exact HB.out | apply below_alloc | apply pw_below_drewN | apply below_drew1 | refine below_set ?_ GE223.out | refine below_set ?_ GE224.out) | exact HB.out)) hb); clear BK223; clear BK224; clear HB; have BK223 := n0_; have BK224 := n1_; have HB := n2_; clear n0_ n1_ n2_; (try clear hb); (try clear hb2); (try clear hk); (try clear hi)) | (go_at_call 110; (with_reducible refine (impl_IsAcl.calls k _ _ l4 true _ ?side1 ?side2 A12.out).mono ?_); (case side1 => exact Lib.cx (Kd.C_below HR4.out HB.out)); (case side2 => exact HC4.out); rintro e w38 ⟨rfl, hb⟩; have n0_ := Aside0.mk (blk_below (g := gb223) (o := .cells #[.int .i64 a0_0, .int .i64 a0_1, .slice A0_2 l0_2.length c0_2] 72 (0, 0)) (by exact Lib.bk BK223.out) hb); have n1_ := Aside0.mk (blk_below (g := gb224) (o := .cells #[.int .i64 a5] 3 (0, 0)) (by exact Lib.bk BK224.out) hb); have n2_ := Aside0.mk (below_step (by repeat (first | (with_reducible first | exact HB.out | apply below_alloc | apply pw_below_drewN | apply below_drew1 | refine below_set ?_ GE223.out | refine below_set ?_ GE224.out) | exact HB.out)) hb); clear BK223; clear BK224; clear HB; have BK223 := n0_; have BK224 := n1_; have HB := n2_; clear n0_ n1_ n2_; (try clear hb); (try clear hb2); (try clear hk); (try clear hi)) | (go_at_call 78; (with_reducible refine (impl_isUser.calls a1 true _ A14.out).mono ?_); rintro e w' ⟨rfl, ⟨nd, rfl⟩⟩) | (go_at_call 78; (with_reducible refine (impl_isUser.calls a2 false _ A16.out).mono ?_); rintro e w' ⟨rfl, ⟨nd, rfl⟩⟩))
      go_meet
      case rel => exact ⟨_, (true), (by first | rfl | (simp; done) | (simp [*]; done)), H', ⟨by first | omega | exact Nat.le_refl _⟩, ⟨by exact Lib.bk BK223.out⟩, ⟨by exact Lib.bk BK224.out⟩, ⟨by repeat (first | (with_reducible first | exact HB.out | apply below_alloc | apply pw_below_drewN | apply below_drew1 | refine below_set ?_ GE223.out | refine below_set ?_ GE224.out) | exact HB.out)⟩⟩
    ·
     replace c15 := Bool.eq_false_iff.mpr c15
     subst c15
     have H1 : (impl_Allowed.j0 k a1 a2 a3 l4 true a0_0 a0_1 l0_2 a5) = some r := by rw [if_neg (show ¬ (false = true) by decide)] at H; exact H
     clear H
     have H := H1
     clear H1
     have H' := Aside0.mk H
     clear H
     have hnb39 := NB223_224.out
     have hnc39 := NB224_223.out
     obtain ⟨hcz40_0, hcz40_1, hcz40_2, hfz40_0, hfz40_1, hfz40_2⟩ := Lib.cel3 (W := w9) BK223.out
     go_wp2_with (first | ((with_reducible refine gate_callee (f := 47) rfl ?_); refine goesL_ (some 21) rfl rfl Try.func47 (by kernel_rfl) rfl #[.agg #[.int .i64 a0_0, .int .i64 a0_1, .slice A0_2 l0_2.length c0_2]] rfl (by (try simp only [List.map_toArray, List.map_cons, List.map_nil]); first | done | rfl | (simp only [List.length_drop, List.length_take]; rfl)) ?_; (with_reducible refine (impl_IsCred.calls k a0_0 a0_1 _ _ l0_2 true _ ?side1 ?side2 A10.out).mono ?_); (case side1 => exact Lib.cx (Kd.C_below HR0_2.out HB.out)); (case side2 => exact HC0_2.out); rintro e w41 ⟨rfl, hb⟩; refine ⟨_, rfl, ?_⟩; have n0_ := Aside0.mk (blk_below (g := gb223) (o := .cells #[.int .i64 a0_0, .int .i64 a0_1, .slice A0_2 l0_2.length c0_2] 72 (0, 0)) (by exact Lib.bk BK223.out) hb); have n1_ := Aside0.mk (blk_below (g := gb224) (o := .cells #[.int .i64 a5] 3 (0, 0)) (by exact Lib.bk BK224.out) hb); have n2_ := Aside0.mk (below_step (by repeat (first | (with_reducible first | exact HB.out | apply below_alloc | apply pw_below_drewN | apply below_drew1 | refine below_set ?_ GE223.out | refine below_set ?_ GE224.out) | exact HB.out)) hb); clear BK223; clear BK224; clear HB; have BK223 := n0_; have BK224 := n1_; have HB := n2_; clear n0_ n1_ n2_; (try clear hb); (try clear hb2); (try clear hk); (try clear hi)) | (go_at_call 110; (with_reducible refine (impl_IsAcl.calls k _ _ l4 true _ ?side1 ?side2 A12.out).mono ?_); (case side1 => exact Lib.cx (Kd.C_below HR4.out HB.out)); (case side2 => exact HC4.out); rintro e w42 ⟨rfl, hb⟩; have n0_ := Aside0.mk (blk_below (g := gb223) (o := .cells #[.int .i64 a0_0, .int .i64 a0_1, .slice A0_2 l0_2.length c0_2] 72 (0, 0)) (by exact Lib.bk BK223.out) hb); have n1_ := Aside0.mk (blk_below (g := gb224) (o := .cells #[.int .i64 a5] 3 (0, 0)) (by exact Lib.bk BK224.out) hb); have n2_ := Aside0.mk (below_step (by repeat (first | (with_reducible first | exact HB.out | apply below_alloc | apply pw_below_drewN | apply below_drew1 | refine below_set ?_ GE223.out | refine below_set ?_ GE224.out) | exact HB.out)) hb); clear BK223; clear BK224; clear HB; have BK223 := n0_; have BK224 := n1_; have HB := n2_; clear n0_ n1_ n2_; (try clear hb); (try clear hb2); (try clear hk); (try clear hi)) | (go_at_call 78; (with_reducible refine (impl_isUser.calls a1 false _ A14.out).mono ?_); rintro e w' ⟨rfl, ⟨nd, rfl⟩⟩))
     go_meet
     case rel => exact ⟨_, (true), (by first | rfl | (simp; done) | (simp [*]; done)), H', ⟨by first | omega | exact Nat.le_refl _⟩, ⟨by exact Lib.bk BK223.out⟩, ⟨by exact Lib.bk BK224.out⟩, ⟨by repeat (first | (with_reducible first | exact HB.out | apply below_alloc | apply pw_below_drewN | apply below_drew1 | refine below_set ?_ GE223.out | refine below_set ?_ GE224.out) | exact HB.out)⟩⟩
   ·
    replace c13 := Bool.eq_false_iff.mpr c13
    subst c13
    have H1 : (impl_Allowed.j0 k a1 a2 a3 l4 true a0_0 a0_1 l0_2 a5) = some r := by rw [if_neg (show ¬ (false = true) by decide)] at H; exact H
    clear H
    have H := H1
    clear H1
    have H' := Aside0.mk H
    clear H
    have hnb43 := NB223_224.out
    have hnc43 := NB224_223.out
    obtain ⟨hcz44_0, hcz44_1, hcz44_2, hfz44_0, hfz44_1, hfz44_2⟩ := Lib.cel3 (W := w9) BK223.out
    go_wp2_with (first | ((with_reducible refine gate_callee (f := 47) rfl ?_); refine goesL_ (some 21) rfl rfl Try.func47 (by kernel_rfl) rfl #[.agg #[.int .i64 a0_0, .int .i64 a0_1, .slice A0_2 l0_2.length c0_2]] rfl (by (try simp only [List.map_toArray, List.map_cons, List.map_nil]); first | done | rfl | (simp only [List.length_drop, List.length_take]; rfl)) ?_; (with_reducible refine (impl_IsCred.calls k a0_0 a0_1 _ _ l0_2 true _ ?side1 ?side2 A10.out).mono ?_); (case side1 => exact Lib.cx (Kd.C_below HR0_2.out HB.out)); (case side2 => exact HC0_2.out); rintro e w45 ⟨rfl, hb⟩; refine ⟨_, rfl, ?_⟩; have n0_ := Aside0.mk (blk_below (g := gb223) (o := .cells #[.int .i64 a0_0, .int .i64 a0_1, .slice A0_2 l0_2.length c0_2] 72 (0, 0)) (by exact Lib.bk BK223.out) hb); have n1_ := Aside0.mk (blk_below (g := gb224) (o := .cells #[.int .i64 a5] 3 (0, 0)) (by exact Lib.bk BK224.out) hb); have n2_ := Aside0.mk (below_step (by repeat (first | (with_reducible first | exact HB.out | apply below_alloc | apply pw_below_drewN | apply below_drew1 | refine below_set ?_ GE223.out | refine below_set ?_ GE224.out) | exact HB.out)) hb); clear BK223; clear BK224; clear HB; have BK223 := n0_; have BK224 := n1_; have HB := n2_; clear n0_ n1_ n2_; (try clear hb); (try clear hb2); (try clear hk); (try clear hi)) | (go_at_call 110; (with_reducible refine (impl_IsAcl.calls k _ _ l4 false _ ?side1 ?side2 A12.out).mono ?_); (case side1 => exact Lib.cx (Kd.C_below HR4.out HB.out)); (case side2 => exact HC4.out); rintro e w46 ⟨rfl, hb⟩; have n0_ := Aside0.mk (blk_below (g := gb223) (o := .cells #[.int .i64 a0_0, .int .i64 a0_1, .slice A0_2 l0_2.length c0_2] 72 (0, 0)) (by exact Lib.bk BK223.out) hb); have n1_ := Aside0.mk (blk_below (g := gb224) (o := .cells #[.int .i64 a5] 3 (0, 0)) (by exact Lib.bk BK224.out) hb); have n2_ := Aside0.mk (below_step (by repeat (first | (with_reducible first | exact HB.out | apply below_alloc | apply pw_below_drewN | apply below_drew1 | refine below_set ?_ GE223.out | refine below_set ?_ GE224.out) | exact HB.out)) hb); clear BK223; clear BK224; clear HB; have BK223 := n0_; have BK224 := n1_; have HB := n2_; clear n0_ n1_ n2_; (try clear hb); (try clear hb2); (try clear hk); (try clear hi)))
    go_meet
    case rel => exact ⟨_, (true), (by first | rfl | (simp; done) | (simp [*]; done)), H', ⟨by first | omega | exact Nat.le_refl _⟩, ⟨by exact Lib.bk BK223.out⟩, ⟨by exact Lib.bk BK224.out⟩, ⟨by repeat (first | (with_reducible first | exact HB.out | apply below_alloc | apply pw_below_drewN | apply below_drew1 | refine below_set ?_ GE223.out | refine below_set ?_ GE224.out) | exact HB.out)⟩⟩
  ·
   replace c11 := Bool.eq_false_iff.mpr c11
   subst c11
   have H1 : (impl_Allowed.j0 k a1 a2 a3 l4 true a0_0 a0_1 l0_2 a5) = some r := by rw [if_neg (show ¬ (false = true) by decide)] at H; exact H
   clear H
   have H := H1
   clear H1
   have H' := Aside0.mk H
   clear H
   have hnb47 := NB223_224.out
   have hnc47 := NB224_223.out
   obtain ⟨hcz48_0, hcz48_1, hcz48_2, hfz48_0, hfz48_1, hfz48_2⟩ := Lib.cel3 (W := w9) BK223.out
   go_wp2_with (first | ((with_reducible refine gate_callee (f := 47) rfl ?_); refine goesL_ (some 21) rfl rfl Try.func47 (by kernel_rfl) rfl #[.agg #[.int .i64 a0_0, .int .i64 a0_1, .slice A0_2 l0_2.length c0_2]] rfl (by (try simp only [List.map_toArray, List.map_cons, List.map_nil]); first | done | rfl | (simp only [List.length_drop, List.length_take]; rfl)) ?_; (with_reducible refine (impl_IsCred.calls k a0_0 a0_1 _ _ l0_2 false _ ?side1 ?side2 A10.out).mono ?_); (case side1 => exact Lib.cx (Kd.C_below HR0_2.out HB.out)); (case side2 => exact HC0_2.out); rintro e w49 ⟨rfl, hb⟩; refine ⟨_, rfl, ?_⟩; have n0_ := Aside0.mk (blk_below (g := gb223) (o := .cells #[.int .i64 a0_0, .int .i64 a0_1, .slice A0_2 l0_2.length c0_2] 72 (0, 0)) (by exact Lib.bk BK223.out) hb); have n1_ := Aside0.mk (blk_below (g := gb224) (o := .cells #[.int .i64 a5] 3 (0, 0)) (by exact Lib.bk BK224.out) hb); have n2_ := Aside0.mk (below_step (by repeat (first | (with_reducible first | exact HB.out | apply below_alloc | apply pw_below_drewN | apply below_drew1 | refine below_set ?_ GE223.out | refine below_set ?_ GE224.out) | exact HB.out)) hb); clear BK223; clear BK224; clear HB; have BK223 := n0_; have BK224 := n1_; have HB := n2_; clear n0_ n1_ n2_; (try clear hb); (try clear hb2); (try clear hk); (try clear hi)))
   go_meet
   case rel => exact ⟨_, (true), (by first | rfl | (simp; done) | (simp [*]; done)), H', ⟨by first | omega | exact Nat.le_refl _⟩, ⟨by exact Lib.bk BK223.out⟩, ⟨by exact Lib.bk BK224.out⟩, ⟨by repeat (first | (with_reducible first | exact HB.out | apply below_alloc | apply pw_below_drewN | apply below_drew1 | refine below_set ?_ GE223.out | refine below_set ?_ GE224.out) | exact HB.out)⟩⟩
 case rest =>
  clear HC7
  try clear c1
  try clear c2
  try clear p2
  try clear c3
  try clear c4
  try clear c11
  try clear c13
  try clear c15
  try clear c17
  try clear c19
  try clear c20
  try clear c20b0
  try clear c21
  try clear c26
  try clear c31
  try clear c35
  try clear c39
  try clear c43
  try clear c47
  try clear hcz22_0
  try clear hcz22_1
  try clear hcz22_2
  try clear hcz25_0
  try clear hcz27_0
  try clear hcz27_1
  try clear hcz27_2
  try clear hcz30_0
  try clear hcz32_0
  try clear hcz32_1
  try clear hcz32_2
  try clear hcz36_0
  try clear hcz36_1
  try clear hcz36_2
  try clear hcz40_0
  try clear hcz40_1
  try clear hcz40_2
  try clear hcz44_0
  try clear hcz44_1
  try clear hcz44_2
  try clear hcz48_0
  try clear hcz48_1
  try clear hcz48_2
  try clear hfz22_0
  try clear hfz22_1
  try clear hfz22_2
  try clear hfz25_0
  try clear hfz27_0
  try clear hfz27_1
  try clear hfz27_2
  try clear hfz30_0
  try clear hfz32_0
  try clear hfz32_1
  try clear hfz32_2
  try clear hfz36_0
  try clear hfz36_1
  try clear hfz36_2
  try clear hfz40_0
  try clear hfz40_1
  try clear hfz40_2
  try clear hfz44_0
  try clear hfz44_1
  try clear hfz44_2
  try clear hfz48_0
  try clear hfz48_1
  try clear hfz48_2
  obtain ⟨kq, x50_6, rfl, HA, HJ6, BK223, BK224, HB⟩ := hcut
  cases kq with
  | zero => exact absurd HA.out (by simp [impl_Allowed.j0])
  | succ kj6 =>
   have H := HA.out
   clear HA
   simp only [impl_Allowed.j0] at H
   by_cases c50 : x50_6 = true
   ·
    subst c50
    have H1 : (some false) = some r := by rw [if_pos rfl] at H; exact H
    clear H
    have H := H1
    clear H1
    obtain rfl := Option.some.inj H
    go_wp2
    go_ret
    exact ⟨by first | rfl | (simp [errW_none, errW_some] <;> rfl) | (simp [*, errW_none, errW_some] <;> rfl), by repeat (first | (with_reducible first | exact HB.out | apply below_alloc | apply pw_below_drewN | apply below_drew1 | refine below_set ?_ GE223.out | refine below_set ?_ GE224.out) | exact HB.out)⟩
   ·
    replace c50 := Bool.eq_false_iff.mpr c50
    subst c50
    have H1 : (if a0_0 = 0 then (some true) else (if a0_0 = a1 then ((impl_PermOf.f a3 0).bind fun t230 => ((impl_Allowed_1.f t230 a5).bind fun t231 => (some t231))) else ((impl_MaskOf.f kj6 l4).bind fun t232 => ((impl_AclPerm.f kj6 l4 1 a0_0).bind fun bt233 => (if bt233.2 = true then ((impl_Allowed_1.f (Go.bits .and .i64 bt233.1 t232) a5).bind fun t235 => (some t235)) else ((some (([] : List Int) : List Int)).bind fun y236 => ((impl_InGroup.f kj6 a0_0 a0_1 l0_2 a2).bind fun t239 => (if t239 = true then ((impl_PermOf.f a3 1).bind fun t240 => (if y236.length < 17592186044416 then (impl_Allowed.j1 kj6 a3 l4 t232 (y236 ++ [t240]) a0_0 a0_1 l0_2 a5) else (none))) else (impl_Allowed.j1 kj6 a3 l4 t232 y236 a0_0 a0_1 l0_2 a5))))))))) = some r := by rw [if_neg (show ¬ (false = true) by decide)] at H; exact H
    clear H
    have H := H1
    clear H1
    by_cases c51 : a0_0 = 0
    ·
     rw [if_pos c51] at H
     have c51b0 : (a0_0 == 0) = true := beq_iff_eq.mpr c51
     have c51b1 : (a0_0 != 0) = false := bne_eq_false_iff_eq.mpr c51
     clear c51
     obtain rfl := Option.some.inj H
     have hnb52 := NB223_224.out
     have hnc52 := NB224_223.out
     obtain ⟨hcz53_0, hcz53_1, hcz53_2, hfz53_0, hfz53_1, hfz53_2⟩ := Lib.cel3 (W := wc) BK223.out
     go_wp2
     go_ret
     exact ⟨by first | rfl | (simp [errW_none, errW_some] <;> rfl) | (simp [*, errW_none, errW_some] <;> rfl), by repeat (first | (with_reducible first | exact HB.out | apply below_alloc | apply pw_below_drewN | apply below_drew1 | refine below_set ?_ GE223.out | refine below_set ?_ GE224.out) | exact HB.out)⟩
    ·
     rw [if_neg c51] at H
     have c51b0 : (a0_0 == 0) = false := beq_eq_false_iff_ne.mpr c51
     have c51b1 : (a0_0 != 0) = true := bne_iff_ne.mpr c51
     by_cases c54 : a0_0 = a1
     ·
      rw [if_pos c54] at H
      have c54b0 : (a0_0 == a1) = true := beq_iff_eq.mpr c54
      have c54b1 : (a0_0 != a1) = false := bne_eq_false_iff_eq.mpr c54
      clear c54
      replace H := Option.bind_eq_some_iff.mp H
      obtain ⟨t230, A550, H⟩ := H
      replace H : ((impl_Allowed_1.f t230 a5).bind fun t231 => (some t231)) = some r := H
      have A55 := Aside0.mk A550
      clear A550
      replace H := Option.bind_eq_some_iff.mp H
      obtain ⟨t231, A560, H⟩ := H
      replace H : (some t231) = some r := H
      have A56 := Aside0.mk A560
      clear A560
      obtain rfl := Option.some.inj H
      have hnb57 := NB223_224.out
      have hnc57 := NB224_223.out
      obtain ⟨hcz58_0, hcz58_1, hcz58_2, hfz58_0, hfz58_1, hfz58_2⟩ := Lib.cel3 (W := wc) BK223.out
      go_wp2_with (first | ((with_reducible refine gate_callee (f := 46) rfl ?_); refine goesL_ (some 61) rfl rfl Try.func46 (by kernel_rfl) rfl #[.int .i64 a3, .int .i64 0] rfl (by (try simp only [List.map_toArray, List.map_cons, List.map_nil]); first | done | rfl | (simp only [List.length_drop, List.length_take]; rfl)) ?_; (with_reducible refine (impl_PermOf.calls a3 0 t230 _ A55.out).mono ?_); rintro e w' ⟨rfl, ⟨nd, rfl⟩⟩; refine ⟨_, rfl, ?_⟩) | ((with_reducible refine Lib.gate_slot (s := 59) rfl ?_); refine Lib.goesClos_ (.tmp 59) rfl (some 62) rfl rfl Try.func112 (by kernel_rfl) rfl #[.int .i64 t230, .pointer (some ⟨gb224, 0, none⟩)] rfl (by simp; first | done | rfl) ?_; (with_reducible refine (impl_Allowed_1.calls t230 a5 t231 _ ?side1 A56.out).mono ?_); (case side1 => exact by exact Lib.bk BK224.out); rintro e w59 ⟨rfl, hb⟩; refine ⟨_, rfl, ?_⟩; have n0_ := Aside0.mk (blk_below (g := gb223) (o := .cells #[.int .i64 a0_0, .int .i64 a0_1, .slice A0_2 l0_2.length c0_2] 72 (0, 0)) (by exact Lib.bk BK223.out) hb); have n1_ := Aside0.mk (blk_below (g := gb224) (o := .cells #[.int .i64 a5] 3 (0, 0)) (by exact Lib.bk BK224.out) hb); have n2_ := Aside0.mk (below_step (by repeat (first | (with_reducible first | exact HB.out | apply below_alloc | apply pw_below_drewN | apply below_drew1 | refine below_set ?_ GE223.out | refine below_set ?_ GE224.out) | exact HB.out)) hb); clear BK223; clear BK224; clear HB; have BK223 := n0_; have BK224 := n1_; have HB := n2_; clear n0_ n1_ n2_; (try clear hb); (try clear hb2); (try clear hk); (try clear hi)))
      go_ret
      exact ⟨by first | rfl | (simp [errW_none, errW_some] <;> rfl) | (simp [*, errW_none, errW_some] <;> rfl), by repeat (first | (with_reducible first | exact HB.out | apply below_alloc | apply pw_below_drewN | apply below_drew1 | refine below_set ?_ GE223.out | refine below_set ?_ GE224.out) | exact HB.out)⟩
     ·
      rw [if_neg c54] at H
      have c54b0 : (a0_0 == a1) = false := beq_eq_false_iff_ne.mpr c54
      have c54b1 : (a0_0 != a1) = true := bne_iff_ne.mpr c54
      replace H := Option.bind_eq_some_iff.mp H
      obtain ⟨t232, A600, H⟩ := H
      try dsimp only at H
      have A60 := Aside0.mk A600
      clear A600
      replace H := Option.bind_eq_some_iff.mp H
      obtain ⟨⟨t233, t234⟩, A610, H⟩ := H
      try dsimp only at H
      have A61 := Aside0.mk A610
      clear A610
      by_cases c62 : t234 = true
      ·
       subst c62
       have H1 : ((impl_Allowed_1.f (Go.bits .and .i64 t233 t232) a5).bind fun t235 => (some t235)) = some r := by rw [if_pos rfl] at H; exact H
       clear H
       have H := H1
       clear H1
       replace H := Option.bind_eq_some_iff.mp H
       obtain ⟨t235, A630, H⟩ := H
       replace H : (some t235) = some r := H
       have A63 := Aside0.mk A630
       clear A630
       obtain rfl := Option.some.inj H
       have hnb64 := NB223_224.out
       have hnc64 := NB224_223.out
       obtain ⟨hcz65_0, hcz65_1, hcz65_2, hfz65_0, hfz65_1, hfz65_2⟩ := Lib.cel3 (W := wc) BK223.out
       go_wp2_with (first | ((with_reducible refine gate_callee (f := 45) rfl ?_); refine goesL_ (some 64) rfl rfl Try.func45 (by kernel_rfl) rfl #[.slice A4 l4.length c4] rfl (by (try simp only [List.map_toArray, List.map_cons, List.map_nil]); first | done | rfl | (simp only [List.length_drop, List.length_take]; rfl)) ?_; (with_reducible refine (impl_MaskOf.calls kj6 _ _ l4 t232 _ ?side1 ?side2 A60.out).mono ?_); (case side1 => exact Lib.cx (Kd.C_below HR4.out HB.out)); (case side2 => exact HC4.out); rintro e w66 ⟨rfl, hb⟩; refine ⟨_, rfl, ?_⟩; have n0_ := Aside0.mk (blk_below (g := gb223) (o := .cells #[.int .i64 a0_0, .int .i64 a0_1, .slice A0_2 l0_2.length c0_2] 72 (0, 0)) (by exact Lib.bk BK223.out) hb); have n1_ := Aside0.mk (blk_below (g := gb224) (o := .cells #[.int .i64 a5] 3 (0, 0)) (by exact Lib.bk BK224.out) hb); have n2_ := Aside0.mk (below_step (by repeat (first | (with_reducible first | exact HB.out | apply below_alloc | apply pw_below_drewN | apply below_drew1 | refine below_set ?_ GE223.out | refine below_set ?_ GE224.out) | exact HB.out)) hb); clear BK223; clear BK224; clear HB; have BK223 := n0_; have BK224 := n1_; have HB := n2_; clear n0_ n1_ n2_; (try clear hb); (try clear hb2); (try clear hk); (try clear hi); obtain ⟨hcz67_0, hcz67_1, hcz67_2, hfz67_0, hfz67_1, hfz67_2⟩ := Lib.cel3 (W := w66) BK223.out) | ((with_reducible refine gate_callee (f := 44) rfl ?_); refine goesL_ (some 69) rfl rfl Try.func44 (by kernel_rfl) rfl #[.slice A4 l4.length c4, .int .i64 1, .int .i64 a0_0] rfl (by (try simp only [List.map_toArray, List.map_cons, List.map_nil]); first | done | rfl | (simp only [List.length_drop, List.length_take]; rfl)) ?_; (with_reducible refine (impl_AclPerm.calls kj6 _ _ l4 1 a0_0 t233 true _ ?side1 ?side2 A61.out).mono ?_); (case side1 => exact Lib.cx (Kd.C_below HR4.out HB.out)); (case side2 => exact HC4.out); rintro e w68 ⟨rfl, hb⟩; refine ⟨_, rfl, ?_⟩; have n0_ := Aside0.mk (blk_below (g := gb223) (o := .cells #[.int .i64 a0_0, .int .i64 a0_1, .slice A0_2 l0_2.length c0_2] 72 (0, 0)) (by exact Lib.bk BK223.out) hb); have n1_ := Aside0.mk (blk_below (g := gb224) (o := .cells #[.int .i64 a5] 3 (0, 0)) (by exact Lib.bk BK224.out) hb); have n2_ := Aside0.mk (below_step (by repeat (first | (with_reducible first | exact HB.out | apply below_alloc | apply pw_below_drewN | apply below_drew1 | refine below_set ?_ GE223.out | refine below_set ?_ GE224.out) | exact HB.out)) hb); clear BK223; clear BK224; clear HB; have BK223 := n0_; have BK224 := n1_; have HB := n2_; clear n0_ n1_ n2_; (try clear hb); (try clear hb2); (try clear hk); (try clear hi)) | ((with_reducible refine Lib.gate_slot (s := 73) rfl ?_); refine Lib.goesClos_ (.tmp 73) rfl (some 77) rfl rfl Try.func112 (by kernel_rfl) rfl #[.int .i64 (Go.bits .and .i64 t233 t232), .pointer (some ⟨gb224, 0, none⟩)] rfl (by simp; first | done | rfl) ?_; (with_reducible refine (impl_Allowed_1.calls (Go.bits .and .i64 t233 t232) a5 t235 _ ?side1 A63.out).mono ?_); (case side1 => exact by exact Lib.bk BK224.out); rintro e w69 ⟨rfl, hb⟩; refine ⟨_, rfl, ?_⟩; have n0_ := Aside0.mk (blk_below (g := gb223) (o := .cells #[.int .i64 a0_0, .int .i64 a0_1, .slice A0_2 l0_2.length c0_2] 72 (0, 0)) (by exact Lib.bk BK223.out) hb); have n1_ := Aside0.mk (blk_below (g := gb224) (o := .cells #[.int .i64 a5] 3 (0, 0)) (by exact Lib.bk BK224.out) hb); have n2_ := Aside0.mk (below_step (by repeat (first | (with_reducible first | exact HB.out | apply below_alloc | apply pw_below_drewN | apply below_drew1 | refine below_set ?_ GE223.out | refine below_set ?_ GE224.out) | exact HB.out)) hb); clear BK223; clear BK224; clear HB; have BK223 := n0_; have BK224 := n1_; have HB := n2_; clear n0_ n1_ n2_; (try clear hb); (try clear hb2); (try clear hk); (try clear hi)))
       go_ret
       exact ⟨by first | rfl | (simp [errW_none, errW_some] <;> rfl) | (simp [*, errW_none, errW_some] <;> rfl), by repeat (first | (with_reducible first | exact HB.out | apply below_alloc | apply pw_below_drewN | apply below_drew1 | refine below_set ?_ GE223.out | refine below_set ?_ GE224.out) | exact HB.out)⟩
      ·
       replace c62 := Bool.eq_false_iff.mpr c62
       subst c62
       have H1 : ((some (([] : List Int) : List Int)).bind fun y236 => ((impl_InGroup.f kj6 a0_0 a0_1 l0_2 a2).bind fun t239 => (if t239 = true then ((impl_PermOf.f a3 1).bind fun t240 => (if y236.length < 17592186044416 then (impl_Allowed.j1 kj6 a3 l4 t232 (y236 ++ [t240]) a0_0 a0_1 l0_2 a5) else (none))) else (impl_Allowed.j1 kj6 a3 l4 t232 y236 a0_0 a0_1 l0_2 a5)))) = some r := by rw [if_neg (show ¬ (false = true) by decide)] at H; exact H
       clear H
       have H := H1
       clear H1
       obtain ⟨y236, hy236⟩ : ∃ y_ : List Int, y_ = (([] : List Int)) := ⟨_, rfl⟩
       replace H : ((impl_InGroup.f kj6 a0_0 a0_1 l0_2 a2).bind fun t239 => (if t239 = true then ((impl_PermOf.f a3 1).bind fun t240 => (if y236.length < 17592186044416 then (impl_Allowed.j1 kj6 a3 l4 t232 (y236 ++ [t240]) a0_0 a0_1 l0_2 a5) else (none))) else (impl_Allowed.j1 kj6 a3 l4 t232 y236 a0_0 a0_1 l0_2 a5))) = some r := by first | (rw [hy236]; with_reducible exact H) | (have H2_ := (Option.bind_some _ _).symm.trans H; rw [hy236]; with_reducible exact H2_) | (have H2_ := (Option.bind_some _ _).symm.trans H; with_reducible exact H2_) | with_reducible exact H | (rw [hy236]; exact H) | exact H
       have Ny236 := Aside0.mk hy236
       clear hy236
       replace H := Option.bind_eq_some_iff.mp H
       obtain ⟨t239, A700, H⟩ := H
       try dsimp only at H
       have A70 := Aside0.mk A700
       clear A700
       have HC71 := Aside0.mk H
       clear H
       have hnb72 := NB223_224.out
       have hnc72 := NB224_223.out
       obtain ⟨hcz73_0, hcz73_1, hcz73_2, hfz73_0, hfz73_1, hfz73_2⟩ := Lib.cel3 (W := wc) BK223.out
       go_upto_if 81 with (first | ((with_reducible refine gate_callee (f := 45) rfl ?_); refine goesL_ (some 64) rfl rfl Try.func45 (by kernel_rfl) rfl #[.slice A4 l4.length c4] rfl (by (try simp only [List.map_toArray, List.map_cons, List.map_nil]); first | done | rfl | (simp only [List.length_drop, List.length_take]; rfl)) ?_; (with_reducible refine (impl_MaskOf.calls kj6 _ _ l4 t232 _ ?side1 ?side2 A60.out).mono ?_); (case side1 => exact Lib.cx (Kd.C_below HR4.out HB.out)); (case side2 => exact HC4.out); rintro e w74 ⟨rfl, hb⟩; refine ⟨_, rfl, ?_⟩; have n0_ := Aside0.mk (blk_below (g := gb223) (o := .cells #[.int .i64 a0_0, .int .i64 a0_1, .slice A0_2 l0_2.length c0_2] 72 (0, 0)) (by exact Lib.bk BK223.out) hb); have n1_ := Aside0.mk (blk_below (g := gb224) (o := .cells #[.int .i64 a5] 3 (0, 0)) (by exact Lib.bk BK224.out) hb); have n2_ := Aside0.mk (below_step (by repeat (first | (with_reducible first | exact HB.out | apply below_alloc | apply pw_below_drewN | apply below_drew1 | refine below_set ?_ GE223.out | refine below_set ?_ GE224.out) | exact HB.out)) hb); clear BK223; clear BK224; clear HB; have BK223 := n0_; have BK224 := n1_; have HB := n2_; clear n0_ n1_ n2_; (try clear hb); (try clear hb2); (try clear hk); (try clear hi); obtain ⟨hcz75_0, hcz75_1, hcz75_2, hfz75_0, hfz75_1, hfz75_2⟩ := Lib.cel3 (W := w74) BK223.out) | ((with_reducible refine gate_callee (f := 44) rfl ?_); refine goesL_ (some 69) rfl rfl Try.func44 (by kernel_rfl) rfl #[.slice A4 l4.length c4, .int .i64 1, .int .i64 a0_0] rfl (by (try simp only [List.map_toArray, List.map_cons, List.map_nil]); first | done | rfl | (simp only [List.length_drop, List.length_take]; rfl)) ?_; (with_reducible refine (impl_AclPerm.calls kj6 _ _ l4 1 a0_0 t233 false _ ?side1 ?side2 A61.out).mono ?_); (case side1 => exact Lib.cx (Kd.C_below HR4.out HB.out)); (case side2 => exact HC4.out); rintro e w76 ⟨rfl, hb⟩; refine ⟨_, rfl, ?_⟩; have n0_ := Aside0.mk (blk_below (g := gb223) (o := .cells #[.int .i64 a0_0, .int .i64 a0_1, .slice A0_2 l0_2.length c0_2] 72 (0, 0)) (by exact Lib.bk BK223.out) hb); have n1_ := Aside0.mk (blk_below (g := gb224) (o := .cells #[.int .i64 a5] 3 (0, 0)) (by exact Lib.bk BK224.out) hb); have n2_ := Aside0.mk (below_step (by repeat (first | (with_reducible first | exact HB.out | apply below_alloc | apply pw_below_drewN | apply below_drew1 | refine below_set ?_ GE223.out | refine below_set ?_ GE224.out) | exact HB.out)) hb); clear BK223; clear BK224; clear HB; have BK223 := n0_; have BK224 := n1_; have HB := n2_; clear n0_ n1_ n2_; (try clear hb); (try clear hb2); (try clear hk); (try clear hi)) | ((with_reducible refine gate_dst (N := 78) rfl ?_); refine Kd.R_lit (Kd.int .i64) _ 3 ?hg (N := 78) ?hd (xs := ([] : List Int)) (inner := []) (ok := fun _ => True) (okp := fun _ => True) ?hr ?hp (fun _ hk => hk) trivial (Below.refl _ _) (Nat.le_refl _) (by simp) ?_; (case hd => rfl); (case hg => rfl); (case hr => first | (go_simp; done) | (go_simp; rfl)); (case hp => exact (Reps.none _ _)); intro v237 w77 ho78 hb hg_ hnew_; clear hg_ hnew_; (first | rw [← Ny236.out] at ho78 | (simp only [Int.reduceToNat] at ho78; rw [← Ny236.out] at ho78)); have n0_ := Aside0.mk (Kd.R_lower (Kd.R_newB ho78 (g := gb224) (o := .cells #[.int .i64 a5] 3 (0, 0)) (by exact Lib.bk BK224.out)) (below_size (by repeat (first | (with_reducible first | exact HB.out | apply below_alloc | apply pw_below_drewN | apply below_drew1 | refine below_set ?_ GE223.out | refine below_set ?_ GE224.out) | exact HB.out)))); have n1_ := Aside0.mk (blk_below (g := gb223) (o := .cells #[.int .i64 a0_0, .int .i64 a0_1, .slice A0_2 l0_2.length c0_2] 72 (0, 0)) (by exact Lib.bk BK223.out) hb); have n2_ := Aside0.mk (blk_below (g := gb224) (o := .cells #[.int .i64 a5] 3 (0, 0)) (by exact Lib.bk BK224.out) hb); have n3_ := Aside0.mk (below_step (by repeat (first | (with_reducible first | exact HB.out | apply below_alloc | apply pw_below_drewN | apply below_drew1 | refine below_set ?_ GE223.out | refine below_set ?_ GE224.out) | exact HB.out)) hb); clear BK223; clear BK224; clear HB; have HO238 := n0_; have BK223 := n1_; have BK224 := n2_; have HB := n3_; clear n0_ n1_ n2_ n3_; clear hb ho78; obtain ⟨hcz79_0, hcz79_1, hcz79_2, hfz79_0, hfz79_1, hfz79_2⟩ := Lib.cel3 (W := w77) BK223.out) | ((with_reducible refine gate_callee (f := 48) rfl ?_); refine goesL_ (some 81) rfl rfl Try.func48 (by kernel_rfl) rfl #[.agg #[.int .i64 a0_0, .int .i64 a0_1, .slice A0_2 l0_2.length c0_2], .int .i64 a2] rfl (by (try simp only [List.map_toArray, List.map_cons, List.map_nil]); first | done | rfl | (simp only [List.length_drop, List.length_take]; rfl)) ?_; (with_reducible refine (impl_InGroup.calls kj6 a0_0 a0_1 _ _ l0_2 a2 t239 _ ?side1 ?side2 A70.out).mono ?_); (case side1 => exact Lib.cx (Kd.C_below HR0_2.out HB.out)); (case side2 => exact HC0_2.out); rintro e w80 ⟨rfl, hb⟩; refine ⟨_, rfl, ?_⟩; have n0_ := Aside0.mk (Kd.R_below (by exact Lib.cr HO238.out) hb); have n1_ := Aside0.mk (blk_below (g := gb223) (o := .cells #[.int .i64 a0_0, .int .i64 a0_1, .slice A0_2 l0_2.length c0_2] 72 (0, 0)) (by exact Lib.bk BK223.out) hb); have n2_ := Aside0.mk (blk_below (g := gb224) (o := .cells #[.int .i64 a5] 3 (0, 0)) (by exact Lib.bk BK224.out) hb); have n3_ := Aside0.mk (below_step (by repeat (first | (with_reducible first | exact HB.out | apply below_alloc | apply pw_below_drewN | apply below_drew1 | refine below_set ?_ GE223.out | refine below_set ?_ GE224.out) | exact HB.out)) hb); clear HO238; clear BK223; clear BK224; clear HB; have HO238 := n0_; have BK223 := n1_; have BK224 := n2_; have HB := n3_; clear n0_ n1_ n2_ n3_; (try clear hb); (try clear hb2); (try clear hk); (try clear hi)))
       (try simp only [Act.put, List.setIfInBounds_toArray, List.set_cons_zero, List.set_cons_succ])
       go_cut [17] (fun v17 wc => ∃ (kq : Nat) (x17_70 : List Int), Aside0 (impl_Allowed.j1 kq a3 l4 t232 x17_70 a0_0 a0_1 l0_2 a5 = some r) ∧ Aside0 (kq ≤ kj6) ∧ Aside0 (Kd.R (Kd.int .i64) 3 wc w.heap.size (fun k_ => k_ ≠ gb224) v17 x17_70) ∧ Aside0 (wc.heap[gb223]? = some (.cells #[.int .i64 a0_0, .int .i64 a0_1, (.slice A0_2 l0_2.length c0_2)] 72 (0, 0))) ∧ Aside0 (wc.heap[gb224]? = some (.cells #[.int .i64 a5] 3 (0, 0))) ∧ Aside0 (Below w.heap.size w wc))
       case first =>
        have H := HC71.out
        clear HC71
        by_cases c81 : t239 = true
        ·
         subst c81
         have H1 : ((impl_PermOf.f a3 1).bind fun t240 => (if y236.length < 17592186044416 then (impl_Allowed.j1 kj6 a3 l4 t232 (y236 ++ [t240]) a0_0 a0_1 l0_2 a5) else (none))) = some r := by rw [if_pos rfl] at H; exact H
         clear H
         have H := H1
         clear H1
         replace H := Option.bind_eq_some_iff.mp H
         obtain ⟨t240, A820, H⟩ := H
         try dsimp only at H
         have A82 := Aside0.mk A820
         clear A820
         by_cases c83 : y236.length < 17592186044416
         ·
          rw [if_pos c83] at H
          have LMc83 := Aside0.mk c83
          clear c83
          obtain ⟨y241, hy241⟩ : ∃ y_ : List Int, y_ = (y236 ++ [t240]) := ⟨_, rfl⟩
          replace H : (impl_Allowed.j1 kj6 a3 l4 t232 y241 a0_0 a0_1 l0_2 a5) = some r := by first | (rw [hy241]; with_reducible exact H) | (have H2_ := (Option.bind_some _ _).symm.trans H; rw [hy241]; with_reducible exact H2_) | (have H2_ := (Option.bind_some _ _).symm.trans H; with_reducible exact H2_) | with_reducible exact H | (rw [hy241]; exact H) | exact H
          have Ny241 := Aside0.mk hy241
          clear hy241
          have H' := Aside0.mk H
          clear H
          go_wp2_with (first | ((with_reducible refine gate_callee (f := 46) rfl ?_); refine goesL_ (some 84) rfl rfl Try.func46 (by kernel_rfl) rfl #[.int .i64 a3, .int .i64 1] rfl (by (try simp only [List.map_toArray, List.map_cons, List.map_nil]); first | done | rfl | (simp only [List.length_drop, List.length_take]; rfl)) ?_; (with_reducible refine (impl_PermOf.calls a3 1 t240 _ A82.out).mono ?_); rintro e w' ⟨rfl, ⟨nd, rfl⟩⟩; refine ⟨_, rfl, ?_⟩) | ((with_reducible refine gate_builtin (b := .append) (xs := #[.tmp 82, .tmp 85]) rfl ?_); at_builtin; refine Kd.R_append (Kd.int .i64) (w0 := w) w.heap.size rfl (.tmp 82) (.tmp 85) 22 3 (.int .i64 0) 8 rfl Try.underlying22 info3 rfl (by decide) (by omega) v237 y236 t240 [.int .i64 t240] (fun k_ => k_ ≠ gb224) (fun _ => False) rfl rfl ?aP (fun _ hk => hk.elim) ?aF ?aO ?aB ?aS ?aL ?_; (case aP => exact rfl); (case aB => exact (by repeat (first | (with_reducible first | exact HB.out | apply below_alloc | apply pw_below_drewN | apply below_drew1 | refine below_set ?_ GE223.out | refine below_set ?_ GE224.out) | exact HB.out))); (case aF => exact (fun k_ hk => Kd.freshB (g := gb224) (o := .cells #[.int .i64 a5] 3 (0, 0)) (by exact Lib.bk BK224.out) k_ hk)); (case aO => exact (by (with_reducible repeat (first | apply Kd.R_alloc | apply Kd.R_drewN | apply Kd.R_drew)); exact Kd.R_mono HO238.out (fun _ hk => hk.2))); (case aS => exact (below_size (by repeat (first | (with_reducible first | exact HB.out | apply below_alloc | apply pw_below_drewN | apply below_drew1 | refine below_set ?_ GE223.out | refine below_set ?_ GE224.out) | exact HB.out)))); (case aL => have := LMc83.out; omega); intro v242 w84 ho hb hg hat; rw [← Ny241.out] at ho; have n0_ := Aside0.mk (blk_grown (g := gb223) (o := .cells #[.int .i64 a0_0, .int .i64 a0_1, .slice A0_2 l0_2.length c0_2] 72 (0, 0)) (by exact Lib.bk BK223.out) hg (Kd.R_ne HO238.out BK223.out (by decide))); have n1_ := Aside0.mk (blk_grown (g := gb224) (o := .cells #[.int .i64 a5] 3 (0, 0)) (by exact Lib.bk BK224.out) hg (Kd.R_away HO238.out (fun _ hk => hk.2))); have n2_ := Aside0.mk (hb); have n3_ := Aside0.mk (ho); clear BK223; clear BK224; clear HB; clear HO238; have BK223 := n0_; have BK224 := n1_; have HB := n2_; have HO243 := n3_; clear n0_ n1_ n2_ n3_; clear ho hb hg hat))
          go_meet
          case rel => exact ⟨_, (y241), H', ⟨by have := HJ6.out; first | omega | exact Nat.le_refl _⟩, ⟨by exact Lib.cr HO243.out⟩, ⟨by exact Lib.bk BK223.out⟩, ⟨by exact Lib.bk BK224.out⟩, ⟨by repeat (first | (with_reducible first | exact HB.out | apply below_alloc | apply pw_below_drewN | apply below_drew1 | refine below_set ?_ GE223.out | refine below_set ?_ GE224.out) | exact HB.out)⟩⟩
         ·
          rw [if_neg c83] at H
          exact absurd H (by simp)
        ·
         replace c81 := Bool.eq_false_iff.mpr c81
         subst c81
         have H1 : (impl_Allowed.j1 kj6 a3 l4 t232 y236 a0_0 a0_1 l0_2 a5) = some r := by rw [if_neg (show ¬ (false = true) by decide)] at H; exact H
         clear H
         have H := H1
         clear H1
         have H' := Aside0.mk H
         clear H
         go_wp2
         go_meet
         case rel => exact ⟨_, (y236), H', ⟨by have := HJ6.out; first | omega | exact Nat.le_refl _⟩, ⟨by (with_reducible repeat (first | apply Kd.R_alloc | apply Kd.R_drewN | apply Kd.R_drew)); exact Kd.R_mono HO238.out (fun _ hk => hk.2)⟩, ⟨by exact Lib.bk BK223.out⟩, ⟨by exact Lib.bk BK224.out⟩, ⟨by repeat (first | (with_reducible first | exact HB.out | apply below_alloc | apply pw_below_drewN | apply below_drew1 | refine below_set ?_ GE223.out | refine below_set ?_ GE224.out) | exact HB.out)⟩⟩
       case rest =>
        clear HC71
        try clear c1
        try clear c2
        try clear p2
        try clear c3
        try clear c4
        try clear c5
        try clear c6
        try clear c7
        try clear c8
        try clear c11
        try clear c13
        try clear c15
        try clear c17
        try clear c19
        try clear c20
        try clear c20b0
        try clear c21
        try clear c26
        try clear c31
        try clear c35
        try clear c39
        try clear c43
        try clear c44
        try clear c45
        try clear c46
        try clear c47
        try clear c48
        try clear c50
        try clear c51
        try clear c51b0
        try clear c51b1
        try clear c52
        try clear c54
        try clear c54b0
        try clear c54b1
        try clear c57
        try clear c62
        try clear c64
        try clear c72
        try clear c81
        try clear c83
        try clear hcz22_0
        try clear hcz22_1
        try clear hcz22_2
        try clear hcz25_0
        try clear hcz27_0
        try clear hcz27_1
        try clear hcz27_2
        try clear hcz30_0
        try clear hcz32_0
        try clear hcz32_1
        try clear hcz32_2
        try clear hcz36_0
        try clear hcz36_1
        try clear hcz36_2
        try clear hcz40_0
        try clear hcz40_1
        try clear hcz40_2
        try clear hcz44_0
        try clear hcz44_1
        try clear hcz44_2
        try clear hcz48_0
        try clear hcz48_1
        try clear hcz48_2
        try clear hcz53_0
        try clear hcz53_1
        try clear hcz53_2
        try clear hcz58_0
        try clear hcz58_1
        try clear hcz58_2
        try clear hcz65_0
        try clear hcz65_1
        try clear hcz65_2
        try clear hcz67_0
        try clear hcz67_1
        try clear hcz67_2
        try clear hcz73_0
        try clear hcz73_1
        try clear hcz73_2
        try clear hcz75_0
        try clear hcz75_1
        try clear hcz75_2
        try clear hcz79_0
        try clear hcz79_1
        try clear hcz79_2
        try clear hfz22_0
        try clear hfz22_1
        try clear hfz22_2
        try clear hfz25_0
        try clear hfz27_0
        try clear hfz27_1
        try clear hfz27_2
        try clear hfz30_0
        try clear hfz32_0
        try clear hfz32_1
        try clear hfz32_2
        try clear hfz36_0
        try clear hfz36_1
        try clear hfz36_2
        try clear hfz40_0
        try clear hfz40_1
        try clear hfz40_2
        try clear hfz44_0
        try clear hfz44_1
        try clear hfz44_2
        try clear hfz48_0
        try clear hfz48_1
        try clear hfz48_2
        try clear hfz53_0
        try clear hfz53_1
        try clear hfz53_2
        try clear hfz58_0
        try clear hfz58_1
        try clear hfz58_2
        try clear hfz65_0
        try clear hfz65_1
        try clear hfz65_2
        try clear hfz67_0
        try clear hfz67_1
        try clear hfz67_2
        try clear hfz73_0
        try clear hfz73_1
        try clear hfz73_2
        try clear hfz75_0
        try clear hfz75_1
        try clear hfz75_2
        try clear hfz79_0
        try clear hfz79_1
        try clear hfz79_2
        try clear p2
        obtain ⟨kq, x17_70, HA, HJ70, HO_17, BK223, BK224, HB⟩ := hcut
        cases kq with
        | zero => exact absurd HA.out (by simp [impl_Allowed.j1])
        | succ kj70 =>
         have H := HA.out
         clear HA
         simp only [impl_Allowed.j1] at H
         have H' := Aside0.mk H
         clear H
         go_wp2
         go_loopg [17, 89] kj70 (fun kq v17 v89 w' => ∃ (x17_3 : List Int) (x89_3 : Int), v89 = .int .i64 x89_3 ∧ Aside0 (impl_Allowed.l0 kq a3 t232 x17_3 l4 (l4.length : Int) x89_3 a0_0 a0_1 l0_2 a5 = some r) ∧ Aside0 (kq ≤ kj70) ∧ Aside0 (Kd.R (Kd.int .i64) 3 w' w.heap.size (fun k_ => k_ ≠ gb224) v17 x17_3) ∧ Aside0 (w'.heap[gb223]? = some (.cells #[.int .i64 a0_0, .int .i64 a0_1, (.slice A0_2 l0_2.length c0_2)] 72 (0, 0))) ∧ Aside0 (w'.heap[gb224]? = some (.cells #[.int .i64 a5] 3 (0, 0))) ∧ Aside0 (Below w.heap.size w w'))
         case atStart => exact ⟨(x17_70), (0), (by first | rfl | (simp; done) | (simp [*]; done)), H', ⟨Nat.le_refl _⟩, ⟨by exact Lib.cr HO_17.out⟩, ⟨by exact Lib.bk BK223.out⟩, ⟨by exact Lib.bk BK224.out⟩, ⟨by repeat (first | (with_reducible first | exact HB.out | apply below_alloc | apply pw_below_drewN | apply below_drew1 | refine below_set ?_ GE223.out | refine below_set ?_ GE224.out) | exact HB.out)⟩⟩
         case round =>
          clear H'
          try clear c1
          try clear c2
          try clear p2
          try clear c3
          try clear c4
          try clear c5
          try clear c6
          try clear c7
          try clear c8
          try clear c11
          try clear c13
          try clear c15
          try clear c17
          try clear c19
          try clear c20
          try clear c20b0
          try clear c21
          try clear c26
          try clear c31
          try clear c35
          try clear c39
          try clear c43
          try clear c44
          try clear c45
          try clear c46
          try clear c47
          try clear c48
          try clear c50
          try clear c51
          try clear c51b0
          try clear c51b1
          try clear c52
          try clear c54
          try clear c54b0
          try clear c54b1
          try clear c57
          try clear c62
          try clear c64
          try clear c72
          try clear c81
          try clear c83
          try clear hcz22_0
          try clear hcz22_1
          try clear hcz22_2
          try clear hcz25_0
          try clear hcz27_0
          try clear hcz27_1
          try clear hcz27_2
          try clear hcz30_0
          try clear hcz32_0
          try clear hcz32_1
          try clear hcz32_2
          try clear hcz36_0
          try clear hcz36_1
          try clear hcz36_2
          try clear hcz40_0
          try clear hcz40_1
          try clear hcz40_2
          try clear hcz44_0
          try clear hcz44_1
          try clear hcz44_2
          try clear hcz48_0
          try clear hcz48_1
          try clear hcz48_2
          try clear hcz53_0
          try clear hcz53_1
          try clear hcz53_2
          try clear hcz58_0
          try clear hcz58_1
          try clear hcz58_2
          try clear hcz65_0
          try clear hcz65_1
          try clear hcz65_2
          try clear hcz67_0
          try clear hcz67_1
          try clear hcz67_2
          try clear hcz73_0
          try clear hcz73_1
          try clear hcz73_2
          try clear hcz75_0
          try clear hcz75_1
          try clear hcz75_2
          try clear hcz79_0
          try clear hcz79_1
          try clear hcz79_2
          try clear hfz22_0
          try clear hfz22_1
          try clear hfz22_2
          try clear hfz25_0
          try clear hfz27_0
          try clear hfz27_1
          try clear hfz27_2
          try clear hfz30_0
          try clear hfz32_0
          try clear hfz32_1
          try clear hfz32_2
          try clear hfz36_0
          try clear hfz36_1
          try clear hfz36_2
          try clear hfz40_0
          try clear hfz40_1
          try clear hfz40_2
          try clear hfz44_0
          try clear hfz44_1
          try clear hfz44_2
          try clear hfz48_0
          try clear hfz48_1
          try clear hfz48_2
          try clear hfz53_0
          try clear hfz53_1
          try clear hfz53_2
          try clear hfz58_0
          try clear hfz58_1
          try clear hfz58_2
          try clear hfz65_0
          try clear hfz65_1
          try clear hfz65_2
          try clear hfz67_0
          try clear hfz67_1
          try clear hfz67_2
          try clear hfz73_0
          try clear hfz73_1
          try clear hfz73_2
          try clear hfz75_0
          try clear hfz75_1
          try clear hfz75_2
          try clear hfz79_0
          try clear hfz79_1
          try clear hfz79_2
          try clear p2
          obtain ⟨x17_3, x89_3, rfl, HA, HK3, HO_17, BK223, BK224, HB⟩ := hrel
          cases gk with
          | zero => exact absurd HA.out (by simp [impl_Allowed.l0])
          | succ k3 =>
           have H := HA.out
           clear HA
           simp only [impl_Allowed.l0] at H
           by_cases c85 : x89_3 < (l4.length : Int)
           ·
            rw [if_pos c85] at H
            have c85b0 : decide (x89_3 < (l4.length : Int)) = true := decide_eq_true c85
            clear c85
            by_cases c86 : 0 ≤ x89_3
            ·
             rw [if_pos c86] at H
             have c86b0 : decide (0 ≤ x89_3) = true := decide_eq_true c86
             clear c86
             by_cases c87 : x89_3 < (l4.length : Int)
             ·
              rw [if_pos c87] at H
              have c87b0 : decide (x89_3 < (l4.length : Int)) = true := decide_eq_true c87
              clear c87
              by_cases c88 : ((rd_T120 l4 x89_3).f0) = 2
              ·
               rw [if_pos c88] at H
               have c88b0 : (((rd_T120 l4 x89_3).f0) == 2) = true := beq_iff_eq.mpr c88
               have c88b1 : (((rd_T120 l4 x89_3).f0) != 2) = false := bne_eq_false_iff_eq.mpr c88
               clear c88
               replace H := Option.bind_eq_some_iff.mp H
               obtain ⟨t246, A890, H⟩ := H
               try dsimp only at H
               have A89 := Aside0.mk A890
               clear A890
               by_cases c90 : t246 = true
               ·
                subst c90
                have H1 : (if x17_3.length < 17592186044416 then (impl_Allowed.l0 k3 a3 t232 (x17_3 ++ [(rd_T120 l4 x89_3).f2]) l4 (l4.length : Int) (wrap64 (x89_3 + 1)) a0_0 a0_1 l0_2 a5) else (none)) = some r := by rw [if_pos rfl] at H; exact H
                clear H
                have H := H1
                clear H1
                by_cases c91 : x17_3.length < 17592186044416
                ·
                 rw [if_pos c91] at H
                 have LMc91 := Aside0.mk c91
                 clear c91
                 obtain ⟨y247, hy247⟩ : ∃ y_ : List Int, y_ = (x17_3 ++ [(rd_T120 l4 x89_3).f2]) := ⟨_, rfl⟩
                 replace H : (impl_Allowed.l0 k3 a3 t232 y247 l4 (l4.length : Int) (wrap64 (x89_3 + 1)) a0_0 a0_1 l0_2 a5) = some r := by first | (rw [hy247]; with_reducible exact H) | (have H2_ := (Option.bind_some _ _).symm.trans H; rw [hy247]; with_reducible exact H2_) | (have H2_ := (Option.bind_some _ _).symm.trans H; with_reducible exact H2_) | with_reducible exact H | (rw [hy247]; exact H) | exact H
                 have Ny247 := Aside0.mk hy247
                 clear hy247
                 have H' := Aside0.mk H
                 clear H
                 have p244 : 0 ≤ (x89_3 : Int) := Lib.od
                 have q244 : x89_3 < (l4.length : Int) := Lib.od
                 obtain ⟨ad244, e244, hx244_0, hx244_1, hx244_2⟩ := at_T120 HR4.out x89_3 p244 q244
                 cases e244
                 replace hx244_0 := (HB.out.cell (World.block_lt_of_cell? w _ hx244_0)).trans hx244_0
                 replace hx244_1 := (HB.out.cell (World.block_lt_of_cell? w _ hx244_1)).trans hx244_1
                 replace hx244_2 := (HB.out.cell (World.block_lt_of_cell? w _ hx244_2)).trans hx244_2
                 replace p244 := eq_true p244
                 replace q244 := eq_true q244
                 go_wp2_with (first | ((with_reducible refine gate_dst (N := 19) rfl ?_); refine box_event ?hg (N := 19) ?hd (cs := #[.int .i64 0, .int .i64 0, .int .i64 0]) (t := 120) ?hr ?_; (case hd => rfl); (case hg => rfl); (case hr => first | (go_simp; done) | (go_simp; rfl)); intro gb245 hg w92 hbox hb; have n0_ := Aside0.mk (Kd.R_below (by exact Lib.cr HO_17.out) hb); have n1_ := Aside0.mk (blk_below (g := gb223) (o := .cells #[.int .i64 a0_0, .int .i64 a0_1, .slice A0_2 l0_2.length c0_2] 72 (0, 0)) (by exact Lib.bk BK223.out) hb); have n2_ := Aside0.mk (blk_below (g := gb224) (o := .cells #[.int .i64 a5] 3 (0, 0)) (by exact Lib.bk BK224.out) hb); have n3_ := Aside0.mk (below_step (by repeat (first | (with_reducible first | exact HB.out | apply below_alloc | apply pw_below_drewN | apply below_drew1 | refine below_set ?_ GE223.out | refine below_set ?_ GE224.out) | exact HB.out)) hb); have n4_ := Aside0.mk (hbox); have n5_ := Aside0.mk ((by rw [hg]; exact (below_size (by repeat (first | (with_reducible first | exact HB.out | apply below_alloc | apply pw_below_drewN | apply below_drew1 | refine below_set ?_ GE223.out | refine below_set ?_ GE224.out) | exact HB.out))) : w.heap.size ≤ gb245)); have n6_ := Aside0.mk ((by rw [hg]; exact (below_size (by repeat (first | (with_reducible first | exact HB.out | apply below_alloc | apply pw_below_drewN | apply below_drew1 | refine below_set ?_ GE223.out | refine below_set ?_ GE224.out) | exact HB.out))) : w.heap.size ≤ gb245)); have n7_ := Aside0.mk ((by rw [hg]; exact Nat.ne_of_lt (blk_lt (g := gb223) (o := .cells #[.int .i64 a0_0, .int .i64 a0_1, .slice A0_2 l0_2.length c0_2] 72 (0, 0)) (by exact Lib.bk BK223.out)) : gb223 ≠ gb245)); have n8_ := Aside0.mk ((by rw [hg]; exact Nat.ne_of_gt (blk_lt (g := gb223) (o := .cells #[.int .i64 a0_0, .int .i64 a0_1, .slice A0_2 l0_2.length c0_2] 72 (0, 0)) (by exact Lib.bk BK223.out)) : gb245 ≠ gb223)); have n9_ := Aside0.mk ((by rw [hg]; exact Nat.ne_of_lt (blk_lt (g := gb224) (o := .cells #[.int .i64 a5] 3 (0, 0)) (by exact Lib.bk BK224.out)) : gb224 ≠ gb245)); have n10_ := Aside0.mk ((by rw [hg]; exact Nat.ne_of_gt (blk_lt (g := gb224) (o := .cells #[.int .i64 a5] 3 (0, 0)) (by exact Lib.bk BK224.out)) : gb245 ≠ gb224)); clear HO_17; clear BK223; clear BK224; clear HB; have HO_17 := n0_; have BK223 := n1_; have BK224 := n2_; have HB := n3_; have BK245 := n4_; have GW245 := n5_; have GE245 := n6_; have NB223_245 := n7_; have NB245_223 := n8_; have NB224_245 := n9_; have NB245_224 := n10_; clear n0_ n1_ n2_ n3_ n4_ n5_ n6_ n7_ n8_ n9_ n10_; clear hb hbox hg; have hnb93 := NB245_223.out; have hnc93 := NB223_245.out; have hnb94 := NB245_224.out; have hnc94 := NB224_245.out; obtain ⟨hcz95_0, hcz95_1, hcz95_2, hfz95_0, hfz95_1, hfz95_2⟩ := Lib.cel3 (W := w92) BK245.out; have hnb96 := NB223_224.out; have hnc96 := NB224_223.out; obtain ⟨hcz97_0, hcz97_1, hcz97_2, hfz97_0, hfz97_1, hfz97_2⟩ := Lib.cel3 (W := w92) BK223.out) | (go_at_call 48; (with_reducible refine (impl_InGroup.calls k3 a0_0 a0_1 _ _ l0_2 ((rd_T120 l4 x89_3).f1) true _ ?side1 ?side2 A89.out).mono ?_); (case side1 => exact Kd.C_below HR0_2.out (by repeat (first | (with_reducible first | exact HB.out | apply below_alloc | apply pw_below_drewN | apply below_drew1 | refine below_set ?_ GE223.out | refine below_set ?_ GE224.out | refine below_set ?_ GE245.out) | exact HB.out))); (case side2 => exact HC0_2.out); rintro e w98 ⟨rfl, hb⟩; have n0_ := Aside0.mk (Kd.R_below (by (with_reducible repeat (first | apply Kd.R_alloc | apply Kd.R_drewN | apply Kd.R_drew)); exact (Kd.R_mono (Kd.R_far (p := ⟨gb245, 2, none⟩) (Kd.R_far (p := ⟨gb245, 1, none⟩) (Kd.R_far (p := ⟨gb245, 0, none⟩) (Kd.R_types HO_17.out BK245.out (by decide)) (fun _ hk => hk.2) (.int .i64 ((rd_T120 l4 x89_3).f0))) (fun _ hk => hk.2) (.int .i64 ((rd_T120 l4 x89_3).f1))) (fun _ hk => hk.2) (.int .i64 ((rd_T120 l4 x89_3).f2))) (fun _ h_ => h_.1))) hb); have n1_ := Aside0.mk (blk_below (g := gb223) (o := .cells #[.int .i64 a0_0, .int .i64 a0_1, .slice A0_2 l0_2.length c0_2] 72 (0, 0)) (by (with_reducible repeat (first | refine blk_drewN ?_ _ | refine blk_drew ?_ | refine blk_alloc ?_ _)); refine blk_far ?_ NB223_245.out _; (with_reducible repeat (first | refine blk_drewN ?_ _ | refine blk_drew ?_ | refine blk_alloc ?_ _)); refine blk_far ?_ NB223_245.out _; (with_reducible repeat (first | refine blk_drewN ?_ _ | refine blk_drew ?_ | refine blk_alloc ?_ _)); refine blk_far ?_ NB223_245.out _; (with_reducible repeat (first | refine blk_drewN ?_ _ | refine blk_drew ?_ | refine blk_alloc ?_ _)); exact BK223.out) hb); have n2_ := Aside0.mk (blk_below (g := gb224) (o := .cells #[.int .i64 a5] 3 (0, 0)) (by (with_reducible repeat (first | refine blk_drewN ?_ _ | refine blk_drew ?_ | refine blk_alloc ?_ _)); refine blk_far ?_ NB224_245.out _; (with_reducible repeat (first | refine blk_drewN ?_ _ | refine blk_drew ?_ | refine blk_alloc ?_ _)); refine blk_far ?_ NB224_245.out _; (with_reducible repeat (first | refine blk_drewN ?_ _ | refine blk_drew ?_ | refine blk_alloc ?_ _)); refine blk_far ?_ NB224_245.out _; (with_reducible repeat (first | refine blk_drewN ?_ _ | refine blk_drew ?_ | refine blk_alloc ?_ _)); exact BK224.out) hb); have n3_ := Aside0.mk (blk_below (g := gb245) (o := .cells #[.int .i64 ((rd_T120 l4 x89_3).f0), .int .i64 ((rd_T120 l4 x89_3).f1), .int .i64 ((rd_T120 l4 x89_3).f2)] 120 (0, 0)) (by (with_reducible repeat (first | refine blk_drewN ?_ _ | refine blk_drew ?_ | refine blk_alloc ?_ _)); refine blk_put (cs := #[.int .i64 ((rd_T120 l4 x89_3).f0), .int .i64 ((rd_T120 l4 x89_3).f1), .int .i64 0]) ?_ 2 _ rfl; (with_reducible repeat (first | refine blk_drewN ?_ _ | refine blk_drew ?_ | refine blk_alloc ?_ _)); refine blk_put (cs := #[.int .i64 ((rd_T120 l4 x89_3).f0), .int .i64 0, .int .i64 0]) ?_ 1 _ rfl; (with_reducible repeat (first | refine blk_drewN ?_ _ | refine blk_drew ?_ | refine blk_alloc ?_ _)); refine blk_put (cs := #[.int .i64 0, .int .i64 0, .int .i64 0]) ?_ 0 _ rfl; (with_reducible repeat (first | refine blk_drewN ?_ _ | refine blk_drew ?_ | refine blk_alloc ?_ _)); exact BK245.out) hb); have n4_ := Aside0.mk (below_step (by repeat (first | (with_reducible first | exact HB.out | apply below_alloc | apply pw_below_drewN | apply below_drew1 | refine below_set ?_ GE223.out | refine below_set ?_ GE224.out | refine below_set ?_ GE245.out) | exact HB.out)) hb); clear HO_17; clear BK223; clear BK224; clear BK245; clear HB; have HO_17 := n0_; have BK223 := n1_; have BK224 := n2_; have BK245 := n3_; have HB := n4_; clear n0_ n1_ n2_ n3_ n4_; (try clear hb); (try clear hb2); (try clear hk); (try clear hi); obtain ⟨hcz99_0, hcz99_1, hcz99_2, hfz99_0, hfz99_1, hfz99_2⟩ := Lib.cel3 (W := w98) BK245.out) | ((with_reducible refine gate_builtin (b := .append) (xs := #[.tmp 102, .tmp 105]) rfl ?_); at_builtin; refine Kd.R_append (Kd.int .i64) (w0 := w) w.heap.size rfl (.tmp 102) (.tmp 105) 22 3 (.int .i64 0) 8 rfl Try.underlying22 info3 rfl (by decide) (by omega) u17 x17_3 ((rd_T120 l4 x89_3).f2) [.int .i64 ((rd_T120 l4 x89_3).f2)] (fun k_ => k_ ≠ gb224) (fun _ => False) rfl rfl ?aP (fun _ hk => hk.elim) ?aF ?aO ?aB ?aS ?aL ?_; (case aP => exact rfl); (case aB => exact (by repeat (first | (with_reducible first | exact HB.out | apply below_alloc | apply pw_below_drewN | apply below_drew1 | refine below_set ?_ GE223.out | refine below_set ?_ GE224.out | refine below_set ?_ GE245.out) | exact HB.out))); (case aF => exact (fun k_ hk => Kd.freshB (g := gb224) (o := .cells #[.int .i64 a5] 3 (0, 0)) (by exact Lib.bk BK224.out) k_ hk)); (case aO => exact (by exact Lib.cr HO_17.out)); (case aS => exact (below_size (by repeat (first | (with_reducible first | exact HB.out | apply below_alloc | apply pw_below_drewN | apply below_drew1 | refine below_set ?_ GE223.out | refine below_set ?_ GE224.out | refine below_set ?_ GE245.out) | exact HB.out)))); (case aL => have := LMc91.out; omega); intro v248 w100 ho hb hg hat; rw [← Ny247.out] at ho; have n0_ := Aside0.mk (blk_grown (g := gb223) (o := .cells #[.int .i64 a0_0, .int .i64 a0_1, .slice A0_2 l0_2.length c0_2] 72 (0, 0)) (by exact Lib.bk BK223.out) hg (Kd.R_ne HO_17.out BK223.out (by decide))); have n1_ := Aside0.mk (blk_grown (g := gb224) (o := .cells #[.int .i64 a5] 3 (0, 0)) (by exact Lib.bk BK224.out) hg (Kd.R_away HO_17.out (fun _ hk => hk))); have n2_ := Aside0.mk (blk_grown (g := gb245) (o := .cells #[.int .i64 ((rd_T120 l4 x89_3).f0), .int .i64 ((rd_T120 l4 x89_3).f1), .int .i64 ((rd_T120 l4 x89_3).f2)] 120 (0, 0)) (by exact Lib.bk BK245.out) hg (Kd.R_ne HO_17.out BK245.out (by decide))); have n3_ := Aside0.mk (hb); have n4_ := Aside0.mk (ho); clear BK223; clear BK224; clear BK245; clear HB; clear HO_17; have BK223 := n0_; have BK224 := n1_; have BK245 := n2_; have HB := n3_; have HO249 := n4_; clear n0_ n1_ n2_ n3_ n4_; clear ho hb hg hat))
                 go_roundg k3
                 case measure => have := HJ6.out; have := HJ70.out; have := HK3.out; omega
                 case rel => exact ⟨(y247), (wrap64 (x89_3 + 1)), (by first | rfl | (simp; done) | (simp [*]; done)), H', ⟨by have := HJ6.out; have := HJ70.out; have := HK3.out; omega⟩, ⟨by exact Lib.cr HO249.out⟩, ⟨by exact Lib.bk BK223.out⟩, ⟨by exact Lib.bk BK224.out⟩, ⟨by repeat (first | (with_reducible first | exact HB.out | apply below_alloc | apply pw_below_drewN | apply below_drew1 | refine below_set ?_ GE223.out | refine below_set ?_ GE224.out | refine below_set ?_ GE245.out) | exact HB.out)⟩⟩
                ·
                 rw [if_neg c91] at H
                 exact absurd H (by simp)
               ·
                replace c90 := Bool.eq_false_iff.mpr c90
                subst c90
                have H1 : (impl_Allowed.l0 k3 a3 t232 x17_3 l4 (l4.length : Int) (wrap64 (x89_3 + 1)) a0_0 a0_1 l0_2 a5) = some r := by rw [if_neg (show ¬ (false = true) by decide)] at H; exact H
                clear H
                have H := H1
                clear H1
                have H' := Aside0.mk H
                clear H
                have p244 : 0 ≤ (x89_3 : Int) := Lib.od
                have q244 : x89_3 < (l4.length : Int) := Lib.od
                obtain ⟨ad244, e244, hx244_0, hx244_1, hx244_2⟩ := at_T120 HR4.out x89_3 p244 q244
                cases e244
                replace hx244_0 := (HB.out.cell (World.block_lt_of_cell? w _ hx244_0)).trans hx244_0
                replace hx244_1 := (HB.out.cell (World.block_lt_of_cell? w _ hx244_1)).trans hx244_1
                replace hx244_2 := (HB.out.cell (World.block_lt_of_cell? w _ hx244_2)).trans hx244_2
                replace p244 := eq_true p244
                replace q244 := eq_true q244
                go_wp2_with (first | ((with_reducible refine gate_dst (N := 19) rfl ?_); refine box_event ?hg (N := 19) ?hd (cs := #[.int .i64 0, .int .i64 0, .int .i64 0]) (t := 120) ?hr ?_; (case hd => rfl); (case hg => rfl); (case hr => first | (go_simp; done) | (go_simp; rfl)); intro gb245 hg w101 hbox hb; have n0_ := Aside0.mk (Kd.R_below (by exact Lib.cr HO_17.out) hb); have n1_ := Aside0.mk (blk_below (g := gb223) (o := .cells #[.int .i64 a0_0, .int .i64 a0_1, .slice A0_2 l0_2.length c0_2] 72 (0, 0)) (by exact Lib.bk BK223.out) hb); have n2_ := Aside0.mk (blk_below (g := gb224) (o := .cells #[.int .i64 a5] 3 (0, 0)) (by exact Lib.bk BK224.out) hb); have n3_ := Aside0.mk (below_step (by repeat (first | (with_reducible first | exact HB.out | apply below_alloc | apply pw_below_drewN | apply below_drew1 | refine below_set ?_ GE223.out | refine below_set ?_ GE224.out) | exact HB.out)) hb); have n4_ := Aside0.mk (hbox); have n5_ := Aside0.mk ((by rw [hg]; exact (below_size (by repeat (first | (with_reducible first | exact HB.out | apply below_alloc | apply pw_below_drewN | apply below_drew1 | refine below_set ?_ GE223.out | refine below_set ?_ GE224.out) | exact HB.out))) : w.heap.size ≤ gb245)); have n6_ := Aside0.mk ((by rw [hg]; exact (below_size (by repeat (first | (with_reducible first | exact HB.out | apply below_alloc | apply pw_below_drewN | apply below_drew1 | refine below_set ?_ GE223.out | refine below_set ?_ GE224.out) | exact HB.out))) : w.heap.size ≤ gb245)); have n7_ := Aside0.mk ((by rw [hg]; exact Nat.ne_of_lt (blk_lt (g := gb223) (o := .cells #[.int .i64 a0_0, .int .i64 a0_1, .slice A0_2 l0_2.length c0_2] 72 (0, 0)) (by exact Lib.bk BK223.out)) : gb223 ≠ gb245)); have n8_ := Aside0.mk ((by rw [hg]; exact Nat.ne_of_gt (blk_lt (g := gb223) (o := .cells #[.int .i64 a0_0, .int .i64 a0_1, .slice A0_2 l0_2.length c0_2] 72 (0, 0)) (by exact Lib.bk BK223.out)) : gb245 ≠ gb223)); have n9_ := Aside0.mk ((by rw [hg]; exact Nat.ne_of_lt (blk_lt (g := gb224) (o := .cells #[.int .i64 a5] 3 (0, 0)) (by exact Lib.bk BK224.out)) : gb224 ≠ gb245)); have n10_ := Aside0.mk ((by rw [hg]; exact Nat.ne_of_gt (blk_lt (g := gb224) (o := .cells #[.int .i64 a5] 3 (0, 0)) (by exact Lib.bk BK224.out)) : gb245 ≠ gb224)); clear HO_17; clear BK223; clear BK224; clear HB; have HO_17 := n0_; have BK223 := n1_; have BK224 := n2_; have HB := n3_; have BK245 := n4_; have GW245 := n5_; have GE245 := n6_; have NB223_245 := n7_; have NB245_223 := n8_; have NB224_245 := n9_; have NB245_224 := n10_; clear n0_ n1_ n2_ n3_ n4_ n5_ n6_ n7_ n8_ n9_ n10_; clear hb hbox hg; have hnb102 := NB245_223.out; have hnc102 := NB223_245.out; have hnb103 := NB245_224.out; have hnc103 := NB224_245.out; obtain ⟨hcz104_0, hcz104_1, hcz104_2, hfz104_0, hfz104_1, hfz104_2⟩ := Lib.cel3 (W := w101) BK245.out; have hnb105 := NB223_224.out; have hnc105 := NB224_223.out; obtain ⟨hcz106_0, hcz106_1, hcz106_2, hfz106_0, hfz106_1, hfz106_2⟩ := Lib.cel3 (W := w101) BK223.out) | (go_at_call 48; (with_reducible refine (impl_InGroup.calls k3 a0_0 a0_1 _ _ l0_2 ((rd_T120 l4 x89_3).f1) false _ ?side1 ?side2 A89.out).mono ?_); (case side1 => exact Kd.C_below HR0_2.out (by repeat (first | (with_reducible first | exact HB.out | apply below_alloc | apply pw_below_drewN | apply below_drew1 | refine below_set ?_ GE223.out | refine below_set ?_ GE224.out | refine below_set ?_ GE245.out) | exact HB.out))); (case side2 => exact HC0_2.out); rintro e w107 ⟨rfl, hb⟩; have n0_ := Aside0.mk (Kd.R_below (by (with_reducible repeat (first | apply Kd.R_alloc | apply Kd.R_drewN | apply Kd.R_drew)); exact (Kd.R_mono (Kd.R_far (p := ⟨gb245, 2, none⟩) (Kd.R_far (p := ⟨gb245, 1, none⟩) (Kd.R_far (p := ⟨gb245, 0, none⟩) (Kd.R_types HO_17.out BK245.out (by decide)) (fun _ hk => hk.2) (.int .i64 ((rd_T120 l4 x89_3).f0))) (fun _ hk => hk.2) (.int .i64 ((rd_T120 l4 x89_3).f1))) (fun _ hk => hk.2) (.int .i64 ((rd_T120 l4 x89_3).f2))) (fun _ h_ => h_.1))) hb); have n1_ := Aside0.mk (blk_below (g := gb223) (o := .cells #[.int .i64 a0_0, .int .i64 a0_1, .slice A0_2 l0_2.length c0_2] 72 (0, 0)) (by (with_reducible repeat (first | refine blk_drewN ?_ _ | refine blk_drew ?_ | refine blk_alloc ?_ _)); refine blk_far ?_ NB223_245.out _; (with_reducible repeat (first | refine blk_drewN ?_ _ | refine blk_drew ?_ | refine blk_alloc ?_ _)); refine blk_far ?_ NB223_245.out _; (with_reducible repeat (first | refine blk_drewN ?_ _ | refine blk_drew ?_ | refine blk_alloc ?_ _)); refine blk_far ?_ NB223_245.out _; (with_reducible repeat (first | refine blk_drewN ?_ _ | refine blk_drew ?_ | refine blk_alloc ?_ _)); exact BK223.out) hb); have n2_ := Aside0.mk (blk_below (g := gb224) (o := .cells #[.int .i64 a5] 3 (0, 0)) (by (with_reducible repeat (first | refine blk_drewN ?_ _ | refine blk_drew ?_ | refine blk_alloc ?_ _)); refine blk_far ?_ NB224_245.out _; (with_reducible repeat (first | refine blk_drewN ?_ _ | refine blk_drew ?_ | refine blk_alloc ?_ _)); refine blk_far ?_ NB224_245.out _; (with_reducible repeat (first | refine blk_drewN ?_ _ | refine blk_drew ?_ | refine blk_alloc ?_ _)); refine blk_far ?_ NB224_245.out _; (with_reducible repeat (first | refine blk_drewN ?_ _ | refine blk_drew ?_ | refine blk_alloc ?_ _)); exact BK224.out) hb); have n3_ := Aside0.mk (blk_below (g := gb245) (o := .cells #[.int .i64 ((rd_T120 l4 x89_3).f0), .int .i64 ((rd_T120 l4 x89_3).f1), .int .i64 ((rd_T120 l4 x89_3).f2)] 120 (0, 0)) (by (with_reducible repeat (first | refine blk_drewN ?_ _ | refine blk_drew ?_ | refine blk_alloc ?_ _)); refine blk_put (cs := #[.int .i64 ((rd_T120 l4 x89_3).f0), .int .i64 ((rd_T120 l4 x89_3).f1), .int .i64 0]) ?_ 2 _ rfl; (with_reducible repeat (first | refine blk_drewN ?_ _ | refine blk_drew ?_ | refine blk_alloc ?_ _)); refine blk_put (cs := #[.int .i64 ((rd_T120 l4 x89_3).f0), .int .i64 0, .int .i64 0]) ?_ 1 _ rfl; (with_reducible repeat (first | refine blk_drewN ?_ _ | refine blk_drew ?_ | refine blk_alloc ?_ _)); refine blk_put (cs := #[.int .i64 0, .int .i64 0, .int .i64 0]) ?_ 0 _ rfl; (with_reducible repeat (first | refine blk_drewN ?_ _ | refine blk_drew ?_ | refine blk_alloc ?_ _)); exact BK245.out) hb); have n4_ := Aside0.mk (below_step (by repeat (first | (with_reducible first | exact HB.out | apply below_alloc | apply pw_below_drewN | apply below_drew1 | refine below_set ?_ GE223.out | refine below_set ?_ GE224.out | refine below_set ?_ GE245.out) | exact HB.out)) hb); clear HO_17; clear BK223; clear BK224; clear BK245; clear HB; have HO_17 := n0_; have BK223 := n1_; have BK224 := n2_; have BK245 := n3_; have HB := n4_; clear n0_ n1_ n2_ n3_ n4_; (try clear hb); (try clear hb2); (try clear hk); (try clear hi)))
                go_roundg k3
                case measure => have := HJ6.out; have := HJ70.out; have := HK3.out; omega
                case rel => exact ⟨(x17_3), (wrap64 (x89_3 + 1)), (by first | rfl | (simp; done) | (simp [*]; done)), H', ⟨by have := HJ6.out; have := HJ70.out; have := HK3.out; omega⟩, ⟨by exact Lib.cr HO_17.out⟩, ⟨by exact Lib.bk BK223.out⟩, ⟨by exact Lib.bk BK224.out⟩, ⟨by repeat (first | (with_reducible first | exact HB.out | apply below_alloc | apply pw_below_drewN | apply below_drew1 | refine below_set ?_ GE223.out | refine below_set ?_ GE224.out | refine below_set ?_ GE245.out) | exact HB.out)⟩⟩
              ·
               rw [if_neg c88] at H
               have c88b0 : (((rd_T120 l4 x89_3).f0) == 2) = false := beq_eq_false_iff_ne.mpr c88
               have c88b1 : (((rd_T120 l4 x89_3).f0) != 2) = true := bne_iff_ne.mpr c88
               have H' := Aside0.mk H
               clear H
               have p244 : 0 ≤ (x89_3 : Int) := Lib.od
               have q244 : x89_3 < (l4.length : Int) := Lib.od
               obtain ⟨ad244, e244, hx244_0, hx244_1, hx244_2⟩ := at_T120 HR4.out x89_3 p244 q244
               cases e244
               replace hx244_0 := (HB.out.cell (World.block_lt_of_cell? w _ hx244_0)).trans hx244_0
               replace hx244_1 := (HB.out.cell (World.block_lt_of_cell? w _ hx244_1)).trans hx244_1
               replace hx244_2 := (HB.out.cell (World.block_lt_of_cell? w _ hx244_2)).trans hx244_2
               replace p244 := eq_true p244
               replace q244 := eq_true q244
               go_wp2_with (first | ((with_reducible refine gate_dst (N := 19) rfl ?_); refine box_event ?hg (N := 19) ?hd (cs := #[.int .i64 0, .int .i64 0, .int .i64 0]) (t := 120) ?hr ?_; (case hd => rfl); (case hg => rfl); (case hr => first | (go_simp; done) | (go_simp; rfl)); intro gb245 hg w108 hbox hb; have n0_ := Aside0.mk (Kd.R_below (by exact Lib.cr HO_17.out) hb); have n1_ := Aside0.mk (blk_below (g := gb223) (o := .cells #[.int .i64 a0_0, .int .i64 a0_1, .slice A0_2 l0_2.length c0_2] 72 (0, 0)) (by exact Lib.bk BK223.out) hb); have n2_ := Aside0.mk (blk_below (g := gb224) (o := .cells #[.int .i64 a5] 3 (0, 0)) (by exact Lib.bk BK224.out) hb); have n3_ := Aside0.mk (below_step (by repeat (first | (with_reducible first | exact HB.out | apply below_alloc | apply pw_below_drewN | apply below_drew1 | refine below_set ?_ GE223.out | refine below_set ?_ GE224.out) | exact HB.out)) hb); have n4_ := Aside0.mk (hbox); have n5_ := Aside0.mk ((by rw [hg]; exact (below_size (by repeat (first | (with_reducible first | exact HB.out | apply below_alloc | apply pw_below_drewN | apply below_drew1 | refine below_set ?_ GE223.out | refine below_set ?_ GE224.out) | exact HB.out))) : w.heap.size ≤ gb245)); have n6_ := Aside0.mk ((by rw [hg]; exact (below_size (by repeat (first | (with_reducible first | exact HB.out | apply below_alloc | apply pw_below_drewN | apply below_drew1 | refine below_set ?_ GE223.out | refine below_set ?_ GE224.out) | exact HB.out))) : w.heap.size ≤ gb245)); have n7_ := Aside0.mk ((by rw [hg]; exact Nat.ne_of_lt (blk_lt (g := gb223) (o := .cells #[.int .i64 a0_0, .int .i64 a0_1, .slice A0_2 l0_2.length c0_2] 72 (0, 0)) (by exact Lib.bk BK223.out)) : gb223 ≠ gb245)); have n8_ := Aside0.mk ((by rw [hg]; exact Nat.ne_of_gt (blk_lt (g := gb223) (o := .cells #[.int .i64 a0_0, .int .i64 a0_1, .slice A0_2 l0_2.length c0_2] 72 (0, 0)) (by exact Lib.bk BK223.out)) : gb245 ≠ gb223)); have n9_ := Aside0.mk ((by rw [hg]; exact Nat.ne_of_lt (blk_lt (g := gb224) (o := .cells #[.int .i64 a5] 3 (0, 0)) (by exact Lib.bk BK224.out)) : gb224 ≠ gb245)); have n10_ := Aside0.mk ((by rw [hg]; exact Nat.ne_of_gt (blk_lt (g := gb224) (o := .cells #[.int .i64 a5] 3 (0, 0)) (by exact Lib.bk BK224.out)) : gb245 ≠ gb224)); clear HO_17; clear BK223; clear BK224; clear HB; have HO_17 := n0_; have BK223 := n1_; have BK224 := n2_; have HB := n3_; have BK245 := n4_; have GW245 := n5_; have GE245 := n6_; have NB223_245 := n7_; have NB245_223 := n8_; have NB224_245 := n9_; have NB245_224 := n10_; clear n0_ n1_ n2_ n3_ n4_ n5_ n6_ n7_ n8_ n9_ n10_; clear hb hbox hg; have hnb109 := NB245_223.out; have hnc109 := NB223_245.out; have hnb110 := NB245_224.out; have hnc110 := NB224_245.out; obtain ⟨hcz111_0, hcz111_1, hcz111_2, hfz111_0, hfz111_1, hfz111_2⟩ := Lib.cel3 (W := w108) BK245.out))
               go_roundg k3
               case measure => have := HJ6.out; have := HJ70.out; have := HK3.out; omega
               case rel => exact ⟨(x17_3), (wrap64 (x89_3 + 1)), (by first | rfl | (simp; done) | (simp [*]; done)), H', ⟨by have := HJ6.out; have := HJ70.out; have := HK3.out; omega⟩, ⟨by (with_reducible repeat (first | apply Kd.R_alloc | apply Kd.R_drewN | apply Kd.R_drew)); exact Kd.R_mono (Kd.R_far (p := ⟨gb245, 2, none⟩) (Kd.R_far (p := ⟨gb245, 1, none⟩) (Kd.R_far (p := ⟨gb245, 0, none⟩) (Kd.R_types HO_17.out BK245.out (by decide)) (fun _ hk => hk.2) (.int .i64 ((rd_T120 l4 x89_3).f0))) (fun _ hk => hk.2) (.int .i64 ((rd_T120 l4 x89_3).f1))) (fun _ hk => hk.2) (.int .i64 ((rd_T120 l4 x89_3).f2))) (fun _ hk => hk.1)⟩, ⟨by (with_reducible repeat (first | refine blk_drewN ?_ _ | refine blk_drew ?_ | refine blk_alloc ?_ _)); refine blk_far ?_ NB223_245.out _; (with_reducible repeat (first | refine blk_drewN ?_ _ | refine blk_drew ?_ | refine blk_alloc ?_ _)); refine blk_far ?_ NB223_245.out _; (with_reducible repeat (first | refine blk_drewN ?_ _ | refine blk_drew ?_ | refine blk_alloc ?_ _)); refine blk_far ?_ NB223_245.out _; (with_reducible repeat (first | refine blk_drewN ?_ _ | refine blk_drew ?_ | refine blk_alloc ?_ _)); exact BK223.out⟩, ⟨by (with_reducible repeat (first | refine blk_drewN ?_ _ | refine blk_drew ?_ | refine blk_alloc ?_ _)); refine blk_far ?_ NB224_245.out _; (with_reducible repeat (first | refine blk_drewN ?_ _ | refine blk_drew ?_ | refine blk_alloc ?_ _)); refine blk_far ?_ NB224_245.out _; (with_reducible repeat (first | refine blk_drewN ?_ _ | refine blk_drew ?_ | refine blk_alloc ?_ _)); refine blk_far ?_ NB224_245.out _; (with_reducible repeat (first | refine blk_drewN ?_ _ | refine blk_drew ?_ | refine blk_alloc ?_ _)); exact BK224.out⟩, ⟨by repeat (first | (with_reducible first | exact HB.out | apply below_alloc | apply pw_below_drewN | apply below_drew1 | refine below_set ?_ GE223.out | refine below_set ?_ GE224.out | refine below_set ?_ GE245.out) | exact HB.out)⟩⟩
             ·
              rw [if_neg c87] at H
              exact absurd H (by simp)
            ·
             rw [if_neg c86] at H
             exact absurd H (by simp)
           ·
            rw [if_neg c85] at H
            have c85b0 : decide (x89_3 < (l4.length : Int)) = false := decide_eq_false c85
            clear c85
            by_cases c112 : (x17_3.length : Int) > 0
            ·
             rw [if_pos c112] at H
             have c112b0 : decide (0 < (x17_3.length : Int)) = true := decide_eq_true c112
             have c112b1 : decide (0 < x17_3.length) = true := decide_eq_true (by omega)
             clear c112
             replace H := Option.bind_eq_some_iff.mp H
             obtain ⟨t250, A1130, H⟩ := H
             try dsimp only at H
             have A113 := Aside0.mk A1130
             clear A1130
             by_cases c114 : t250 = true
             ·
              subst c114
              have H1 : ((slices_ContainsFunc_int_int.f x17_3 a5).bind fun t251 => (some t251)) = some r := by rw [if_pos rfl] at H; exact H
              clear H
              have H := H1
              clear H1
              replace H := Option.bind_eq_some_iff.mp H
              obtain ⟨t251, A1150, H⟩ := H
              replace H : (some t251) = some r := H
              have A115 := Aside0.mk A1150
              clear A1150
              obtain rfl := Option.some.inj H
              obtain ⟨Ao116, co116, eo116⟩ := Kd.R_slice HO_17.out
              subst eo116
              go_wp2_with (first | ((with_reducible refine Lib.gate_slot (s := 111) rfl ?_); refine Lib.goesClos_ (.tmp 111) rfl (some 113) rfl rfl Try.func112 (by kernel_rfl) rfl #[.int .i64 t232, .pointer (some ⟨gb224, 0, none⟩)] rfl (by simp; first | done | rfl) ?_; (with_reducible refine (impl_Allowed_1.calls t232 a5 true _ ?side1 A113.out).mono ?_); (case side1 => exact by exact Lib.bk BK224.out); rintro e w117 ⟨rfl, hb⟩; refine ⟨_, rfl, ?_⟩; have n0_ := Aside0.mk (Kd.R_below (by exact Lib.cr HO_17.out) hb); have n1_ := Aside0.mk (blk_below (g := gb223) (o := .cells #[.int .i64 a0_0, .int .i64 a0_1, .slice A0_2 l0_2.length c0_2] 72 (0, 0)) (by exact Lib.bk BK223.out) hb); have n2_ := Aside0.mk (blk_below (g := gb224) (o := .cells #[.int .i64 a5] 3 (0, 0)) (by exact Lib.bk BK224.out) hb); have n3_ := Aside0.mk (below_step (by repeat (first | (with_reducible first | exact HB.out | apply below_alloc | apply pw_below_drewN | apply below_drew1 | refine below_set ?_ GE223.out | refine below_set ?_ GE224.out) | exact HB.out)) hb); clear HO_17; clear BK223; clear BK224; clear HB; have HO_17 := n0_; have BK223 := n1_; have BK224 := n2_; have HB := n3_; clear n0_ n1_ n2_ n3_; (try clear hb); (try clear hb2); (try clear hk); (try clear hi)) | (go_at_call 113; (with_reducible refine (slices_ContainsFunc_int_int.calls _ _ x17_3 a5 t251 _ ?side1 ?side2 ?side3 A115.out).mono ?_); (case side1 => repeat (first | exact (Kd.R_reads' HO_17.out).2.2 | (with_reducible refine Kd.C_alloc ?_ _) | (with_reducible refine Kd.C_drewN ?_ _) | (with_reducible refine Kd.C_drew ?_))); (case side2 => exact (Kd.R_reads' HO_17.out).2.1); (case side3 => exact by exact Lib.bk BK224.out); rintro e w118 ⟨rfl, hb⟩; have n0_ := Aside0.mk (Kd.R_below (by exact Lib.cr HO_17.out) hb); have n1_ := Aside0.mk (blk_below (g := gb223) (o := .cells #[.int .i64 a0_0, .int .i64 a0_1, .slice A0_2 l0_2.length c0_2] 72 (0, 0)) (by exact Lib.bk BK223.out) hb); have n2_ := Aside0.mk (blk_below (g := gb224) (o := .cells #[.int .i64 a5] 3 (0, 0)) (by exact Lib.bk BK224.out) hb); have n3_ := Aside0.mk (below_step (by repeat (first | (with_reducible first | exact HB.out | apply below_alloc | apply pw_below_drewN | apply below_drew1 | refine below_set ?_ GE223.out | refine below_set ?_ GE224.out) | exact HB.out)) hb); clear HO_17; clear BK223; clear BK224; clear HB; have HO_17 := n0_; have BK223 := n1_; have BK224 := n2_; have HB := n3_; clear n0_ n1_ n2_ n3_; (try clear hb); (try clear hb2); (try clear hk); (try clear hi)))
              go_ret
              exact ⟨by first | rfl | (simp [errW_none, errW_some] <;> rfl) | (simp [*, errW_none, errW_some] <;> rfl), by repeat (first | (with_reducible first | exact HB.out | apply below_alloc | apply pw_below_drewN | apply below_drew1 | refine below_set ?_ GE223.out | refine below_set ?_ GE224.out) | exact HB.out)⟩
             ·
              replace c114 := Bool.eq_false_iff.mpr c114
              subst c114
              have H1 : (some false) = some r := by rw [if_neg (show ¬ (false = true) by decide)] at H; exact H
              clear H
              have H := H1
              clear H1
              obtain rfl := Option.some.inj H
              obtain ⟨Ao119, co119, eo119⟩ := Kd.R_slice HO_17.out
              subst eo119
              go_wp2_with (first | ((with_reducible refine Lib.gate_slot (s := 111) rfl ?_); refine Lib.goesClos_ (.tmp 111) rfl (some 113) rfl rfl Try.func112 (by kernel_rfl) rfl #[.int .i64 t232, .pointer (some ⟨gb224, 0, none⟩)] rfl (by simp; first | done | rfl) ?_; (with_reducible refine (impl_Allowed_1.calls t232 a5 false _ ?side1 A113.out).mono ?_); (case side1 => exact by exact Lib.bk BK224.out); rintro e w120 ⟨rfl, hb⟩; refine ⟨_, rfl, ?_⟩; have n0_ := Aside0.mk (Kd.R_below (by exact Lib.cr HO_17.out) hb); have n1_ := Aside0.mk (blk_below (g := gb223) (o := .cells #[.int .i64 a0_0, .int .i64 a0_1, .slice A0_2 l0_2.length c0_2] 72 (0, 0)) (by exact Lib.bk BK223.out) hb); have n2_ := Aside0.mk (blk_below (g := gb224) (o := .cells #[.int .i64 a5] 3 (0, 0)) (by exact Lib.bk BK224.out) hb); have n3_ := Aside0.mk (below_step (by repeat (first | (with_reducible first | exact HB.out | apply below_alloc | apply pw_below_drewN | apply below_drew1 | refine below_set ?_ GE223.out | refine below_set ?_ GE224.out) | exact HB.out)) hb); clear HO_17; clear BK223; clear BK224; clear HB; have HO_17 := n0_; have BK223 := n1_; have BK224 := n2_; have HB := n3_; clear n0_ n1_ n2_ n3_; (try clear hb); (try clear hb2); (try clear hk); (try clear hi)))
              go_ret
              exact ⟨by first | rfl | (simp [errW_none, errW_some] <;> rfl) | (simp [*, errW_none, errW_some] <;> rfl), by repeat (first | (with_reducible first | exact HB.out | apply below_alloc | apply pw_below_drewN | apply below_drew1 | refine below_set ?_ GE223.out | refine below_set ?_ GE224.out) | exact HB.out)⟩
            ·
             rw [if_neg c112] at H
             have c112b0 : decide (0 < (x17_3.length : Int)) = false := decide_eq_false c112
             have c112b1 : decide (0 < x17_3.length) = false := decide_eq_false (by omega)
             clear c112
             replace H := Option.bind_eq_some_iff.mp H
             obtain ⟨t252, A1210, H⟩ := H
             replace H : ((impl_Allowed_1.f t252 a5).bind fun t253 => (some t253)) = some r := H
             have A121 := Aside0.mk A1210
             clear A1210
             replace H := Option.bind_eq_some_iff.mp H
             obtain ⟨t253, A1220, H⟩ := H
             replace H : (some t253) = some r := H
             have A122 := Aside0.mk A1220
             clear A1220
             obtain rfl := Option.some.inj H
             obtain ⟨Ao123, co123, eo123⟩ := Kd.R_slice HO_17.out
             subst eo123
             go_wp2_with (first | ((with_reducible refine gate_callee (f := 46) rfl ?_); refine goesL_ (some 121) rfl rfl Try.func46 (by kernel_rfl) rfl #[.int .i64 a3, .int .i64 2] rfl (by (try simp only [List.map_toArray, List.map_cons, List.map_nil]); first | done | rfl | (simp only [List.length_drop, List.length_take]; rfl)) ?_; (with_reducible refine (impl_PermOf.calls a3 2 t252 _ A121.out).mono ?_); rintro e w' ⟨rfl, ⟨nd, rfl⟩⟩; refine ⟨_, rfl, ?_⟩) | ((with_reducible refine Lib.gate_slot (s := 119) rfl ?_); refine Lib.goesClos_ (.tmp 119) rfl (some 122) rfl rfl Try.func112 (by kernel_rfl) rfl #[.int .i64 t252, .pointer (some ⟨gb224, 0, none⟩)] rfl (by simp; first | done | rfl) ?_; (with_reducible refine (impl_Allowed_1.calls t252 a5 t253 _ ?side1 A122.out).mono ?_); (case side1 => exact by exact Lib.bk BK224.out); rintro e w124 ⟨rfl, hb⟩; refine ⟨_, rfl, ?_⟩; have n0_ := Aside0.mk (Kd.R_below (by exact Lib.cr HO_17.out) hb); have n1_ := Aside0.mk (blk_below (g := gb223) (o := .cells #[.int .i64 a0_0, .int .i64 a0_1, .slice A0_2 l0_2.length c0_2] 72 (0, 0)) (by exact Lib.bk BK223.out) hb); have n2_ := Aside0.mk (blk_below (g := gb224) (o := .cells #[.int .i64 a5] 3 (0, 0)) (by exact Lib.bk BK224.out) hb); have n3_ := Aside0.mk (below_step (by repeat (first | (with_reducible first | exact HB.out | apply below_alloc | apply pw_below_drewN | apply below_drew1 | refine below_set ?_ GE223.out | refine below_set ?_ GE224.out) | exact HB.out)) hb); clear HO_17; clear BK223; clear BK224; clear HB; have HO_17 := n0_; have BK223 := n1_; have BK224 := n2_; have HB := n3_; clear n0_ n1_ n2_ n3_; (try clear hb); (try clear hb2); (try clear hk); (try clear hi)))
             go_ret
             exact ⟨by first | rfl | (simp [errW_none, errW_some] <;> rfl) | (simp [*, errW_none, errW_some] <;> rfl), by repeat (first | (with_reducible first | exact HB.out | apply below_alloc | apply pw_below_drewN | apply below_drew1 | refine below_set ?_ GE223.out | refine below_set ?_ GE224.out) | exact HB.out)⟩

end Go.Proofs.Ytmnojegajblagaa.PFnAccess
