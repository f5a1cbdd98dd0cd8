-- Written by a program of this session over Lean's own print of the program.
import Derived.Test.YtmnojegajblagabPFnExactSameFSx0
import Derived.Test.YtmnojegajblagabPFnExactSameFSx2
import Derived.Test.YtmnojegajblagabPFnExactSameFSx4
import Derived.Test.YtmnojegajblagabPFnExactSameFSx5
namespace Go.Proofs.Ytmnojegajblagab.PFnExactSameFS
open Go.RowKit Go.Proofs.YtmnojegajblagabW.PrintWords Go.Proofs.YtmnojegajblagabW.PrintLast Go.Proofs.YtmnojegajblagabW.PrintMore
attribute [local go_sem] max2_int min2_int max_two min_two max_three min_three max_four min_four   -- for this text's walks alone
set_option linter.unusedVariables false
set_option linter.unusedSimpArgs false

attribute [local go_sem high] eqA134
/-! ### spec_SameFS: function 38 -/
mutual
def spec_SameFS.j0 : Nat → Bool → Int → List (S134) → List (S37) → List ByteArray → Int → List (S134) → List (S37) → List ByteArray → Option (Bool)
 | 0, _, _, _, _, _, _, _, _, _ => none
 | k + 1, x39, x125000, x125001, x125002, x125003, x126000, x126001, x126002, x126003 => if x39 = true then (some false) else (spec_SameFS.l0 k x125001 (x125001.length : Int) 0 x125000 x125001 x125002 x125003 x126000 x126001 x126002 x126003)
def spec_SameFS.l0 : Nat → List (S134) → Int → Int → Int → List (S134) → List (S37) → List ByteArray → Int → List (S134) → List (S37) → List ByteArray → Option (Bool)
 | 0, _, _, _, _, _, _, _, _, _, _, _ => none
 | k + 1, x41, x42, x43, x125000, x125001, x125002, x125003, x126000, x126001, x126002, x126003 => if x43 < x42 then (if 0 ≤ x43 then (if x43 < (x41.length : Int) then (if x43 < (x126001.length : Int) then (if (!(((rd_T134 x41 x43).f0) == ((rd_T134 x126001 x43).f0)) || (!(((rd_T134 x41 x43).f1) == ((rd_T134 x126001 x43).f1)))) = true then (some false) else (spec_SameFS.l0 k x41 x42 (wrap64 (x43 + 1)) x125000 x125001 x125002 x125003 x126000 x126001 x126002 x126003)) else (none)) else (none)) else (none)) else (spec_SameFS.l1 k x125002 (x125002.length : Int) 0 x126000 x126001 x126002 x126003)
def spec_SameFS.l1 : Nat → List (S37) → Int → Int → Int → List (S134) → List (S37) → List ByteArray → Option (Bool)
 | 0, _, _, _, _, _, _, _ => none
 | k + 1, x57, x58, x59, x126000, x126001, x126002, x126003 => if x59 < x58 then (if 0 ≤ x59 then (if x59 < (x57.length : Int) then (if x59 < (x126002.length : Int) then ((spec_SameInode.f k ((rd_T37 x57 x59).f0) ((rd_T37 x57 x59).f1) ((rd_T37 x57 x59).f2) ((rd_T37 x57 x59).f3) ((rd_T37 x57 x59).f4) ((rd_T37 x57 x59).f5) ((rd_T37 x57 x59).f6) ((rd_T37 x57 x59).f7) ((rd_T37 x57 x59).f8) ((rd_T37 x57 x59).f9) ((rd_T37 x126002 x59).f0) ((rd_T37 x126002 x59).f1) ((rd_T37 x126002 x59).f2) ((rd_T37 x126002 x59).f3) ((rd_T37 x126002 x59).f4) ((rd_T37 x126002 x59).f5) ((rd_T37 x126002 x59).f6) ((rd_T37 x126002 x59).f7) ((rd_T37 x126002 x59).f8) ((rd_T37 x126002 x59).f9)).bind fun t133 => (if t133 = true then (spec_SameFS.l1 k x57 x58 (wrap64 (x59 + 1)) x126000 x126001 x126002 x126003) else (some false))) else (none)) else (none)) else (none)) else (some true)
end
def spec_SameFS.f (k : Nat) (a0_0 : Int) (l0_1 : List (S134)) (l0_2 : List (S37)) (l0_3 : List ByteArray) (a1_0 : Int) (l1_1 : List (S134)) (l1_2 : List (S37)) (l1_3 : List ByteArray) : Option (Bool) := if a0_0 = a1_0 then (if (l0_1.length : Int) = (l1_1.length : Int) then (if (l0_2.length : Int) = (l1_2.length : Int) then ((spec_l02Texts.f k l0_3 l1_3).bind fun t126 => (spec_SameFS.j0 k (!t126) a0_0 l0_1 l0_2 l0_3 a1_0 l1_1 l1_2 l1_3)) else (spec_SameFS.j0 k true a0_0 l0_1 l0_2 l0_3 a1_0 l1_1 l1_2 l1_3)) else (spec_SameFS.j0 k true a0_0 l0_1 l0_2 l0_3 a1_0 l1_1 l1_2 l1_3)) else (spec_SameFS.j0 k true a0_0 l0_1 l0_2 l0_3 a1_0 l1_1 l1_2 l1_3)
theorem spec_SameFS.mono_l : ∀ k, (∀ y0 y1 y2 y3 y4 y5 y6 y7 y8, LeO (spec_SameFS.j0 k y0 y1 y2 y3 y4 y5 y6 y7 y8) (spec_SameFS.j0 (k + 1) y0 y1 y2 y3 y4 y5 y6 y7 y8)) ∧ (∀ y0 y1 y2 y3 y4 y5 y6 y7 y8 y9 y10, LeO (spec_SameFS.l0 k y0 y1 y2 y3 y4 y5 y6 y7 y8 y9 y10) (spec_SameFS.l0 (k + 1) y0 y1 y2 y3 y4 y5 y6 y7 y8 y9 y10)) ∧ (∀ y0 y1 y2 y3 y4 y5 y6, LeO (spec_SameFS.l1 k y0 y1 y2 y3 y4 y5 y6) (spec_SameFS.l1 (k + 1) y0 y1 y2 y3 y4 y5 y6))
 | 0 => ⟨fun _ _ _ _ _ _ _ _ _ r h => by simp [spec_SameFS.j0] at h, fun _ _ _ _ _ _ _ _ _ _ _ r h => by simp [spec_SameFS.l0] at h, fun _ _ _ _ _ _ _ r h => by simp [spec_SameFS.l1] at h⟩
 | k + 1 => by
  obtain ⟨ih0, ih1, ih2⟩ := spec_SameFS.mono_l k
  refine ⟨?_, ?_, ?_⟩
  ·
   intro y0 y1 y2 y3 y4 y5 y6 y7 y8
   unfold spec_SameFS.j0
   repeat' first
   | (with_reducible exact ih0 _ _ _ _ _ _ _ _ _)
   | (with_reducible exact ih1 _ _ _ _ _ _ _ _ _ _ _)
   | (with_reducible exact ih2 _ _ _ _ _ _ _)
   | (with_reducible exact spec_SameInode.mono _ _ _ _ _ _ _ _ _ _ _ _ _ _ _ _ _ _ _ _ _)
   | (with_reducible exact spec_l02Texts.mono _ _ _)
   | (with_reducible exact LeO.refl _)
   | (with_reducible exact LeO.none _)
   | (with_reducible refine LeO.ite ?_ ?_)
   | (with_reducible refine LeO.bind ?_ (fun _ => ?_))
   | exact ih0 _ _ _ _ _ _ _ _ _
   | exact ih1 _ _ _ _ _ _ _ _ _ _ _
   | exact ih2 _ _ _ _ _ _ _
   | exact spec_SameInode.mono _ _ _ _ _ _ _ _ _ _ _ _ _ _ _ _ _ _ _ _ _
   | exact spec_l02Texts.mono _ _ _
   | exact LeO.none _
   | refine LeO.ite ?_ ?_
   | refine LeO.bind ?_ (fun _ => ?_)
  ·
   intro y0 y1 y2 y3 y4 y5 y6 y7 y8 y9 y10
   unfold spec_SameFS.l0
   repeat' first
   | (with_reducible exact ih0 _ _ _ _ _ _ _ _ _)
   | (with_reducible exact ih1 _ _ _ _ _ _ _ _ _ _ _)
   | (with_reducible exact ih2 _ _ _ _ _ _ _)
   | (with_reducible exact spec_SameInode.mono _ _ _ _ _ _ _ _ _ _ _ _ _ _ _ _ _ _ _ _ _)
   | (with_reducible exact spec_l02Texts.mono _ _ _)
   | (with_reducible exact LeO.refl _)
   | (with_reducible exact LeO.none _)
   | (with_reducible refine LeO.ite ?_ ?_)
   | (with_reducible refine LeO.bind ?_ (fun _ => ?_))
   | exact ih0 _ _ _ _ _ _ _ _ _
   | exact ih1 _ _ _ _ _ _ _ _ _ _ _
   | exact ih2 _ _ _ _ _ _ _
   | exact spec_SameInode.mono _ _ _ _ _ _ _ _ _ _ _ _ _ _ _ _ _ _ _ _ _
   | exact spec_l02Texts.mono _ _ _
   | exact LeO.none _
   | refine LeO.ite ?_ ?_
   | refine LeO.bind ?_ (fun _ => ?_)
  ·
   intro y0 y1 y2 y3 y4 y5 y6
   unfold spec_SameFS.l1
   repeat' first
   | (with_reducible exact ih0 _ _ _ _ _ _ _ _ _)
   | (with_reducible exact ih1 _ _ _ _ _ _ _ _ _ _ _)
   | (with_reducible exact ih2 _ _ _ _ _ _ _)
   | (with_reducible exact spec_SameInode.mono _ _ _ _ _ _ _ _ _ _ _ _ _ _ _ _ _ _ _ _ _)
   | (with_reducible exact spec_l02Texts.mono _ _ _)
   | (with_reducible exact LeO.refl _)
   | (with_reducible exact LeO.none _)
   | (with_reducible refine LeO.ite ?_ ?_)
   | (with_reducible refine LeO.bind ?_ (fun _ => ?_))
   | exact ih0 _ _ _ _ _ _ _ _ _
   | exact ih1 _ _ _ _ _ _ _ _ _ _ _
   | exact ih2 _ _ _ _ _ _ _
   | exact spec_SameInode.mono _ _ _ _ _ _ _ _ _ _ _ _ _ _ _ _ _ _ _ _ _
   | exact spec_l02Texts.mono _ _ _
   | exact LeO.none _
   | refine LeO.ite ?_ ?_
   | refine LeO.bind ?_ (fun _ => ?_)
theorem spec_SameFS.mono : ∀ a0 a1 a2 a3 a4 a5 a6 a7 k, LeO (spec_SameFS.f k a0 a1 a2 a3 a4 a5 a6 a7) (spec_SameFS.f (k + 1) a0 a1 a2 a3 a4 a5 a6 a7) := by
 intro a0 a1 a2 a3 a4 a5 a6 a7 k
 obtain ⟨ih0, ih1, ih2⟩ := spec_SameFS.mono_l k
 unfold spec_SameFS.f
 repeat' first
  | (with_reducible exact ih0 _ _ _ _ _ _ _ _ _)
  | (with_reducible exact ih1 _ _ _ _ _ _ _ _ _ _ _)
  | (with_reducible exact ih2 _ _ _ _ _ _ _)
  | (with_reducible exact spec_SameInode.mono _ _ _ _ _ _ _ _ _ _ _ _ _ _ _ _ _ _ _ _ _)
  | (with_reducible exact spec_l02Texts.mono _ _ _)
  | (with_reducible exact LeO.refl _)
  | (with_reducible exact LeO.none _)
  | (with_reducible refine LeO.ite ?_ ?_)
  | (with_reducible refine LeO.bind ?_ (fun _ => ?_))
  | exact ih0 _ _ _ _ _ _ _ _ _
  | exact ih1 _ _ _ _ _ _ _ _ _ _ _
  | exact ih2 _ _ _ _ _ _ _
  | exact spec_SameInode.mono _ _ _ _ _ _ _ _ _ _ _ _ _ _ _ _ _ _ _ _ _
  | exact spec_l02Texts.mono _ _ _
  | exact LeO.none _
  | refine LeO.ite ?_ ?_
  | refine LeO.bind ?_ (fun _ => ?_)
def spec_SameFS.T12 : Bool × List (List Nat × List Nat) := (true, [([], []), ([], []), ([1], [1]), ([], []), ([2, 3], [2, 3]), ([4], [4]), ([0, 5], [0, 5]), ([6], [6])])
def spec_SameFS.B12 : List Nat := [0, 0, 2, 0, 14, 30, 63, 127]
theorem spec_SameFS.tab12 : rtab .any (opsOf Try.f38 12) = spec_SameFS.T12 := by kernel_rfl
theorem spec_SameFS.bits12 : waitsOk spec_SameFS.T12.2 spec_SameFS.B12 = true := by kernel_rfl
set_option maxHeartbeats 8000000 in
set_option maxRecDepth 100000 in
theorem spec_SameFS.calls (k : Nat) (a0_0 : Int) (A0_1 : Option Addr) (c0_1 : Nat) (l0_1 : List (S134)) (A0_2 : Option Addr) (c0_2 : Nat) (l0_2 : List (S37)) (A0_3 : Option Addr) (c0_3 : Nat) (l0_3 : List ByteArray) (a1_0 : Int) (A1_1 : Option Addr) (c1_1 : Nat) (l1_1 : List (S134)) (A1_2 : Option Addr) (c1_2 : Nat) (l1_2 : List (S37)) (A1_3 : Option Addr) (c1_3 : Nat) (l1_3 : List ByteArray) (r : Bool) (w : World) (hr0_1 : Kd.C k134 w A0_1 l0_1.length l0_1) (hc0_1 : l0_1.length ≤ c0_1) (hr0_2 : Kd.C k37 w A0_2 l0_2.length l0_2) (hc0_2 : l0_2.length ≤ c0_2) (hr0_3 : Kd.C Kd.string w A0_3 l0_3.length l0_3) (hc0_3 : l0_3.length ≤ c0_3) (hr1_1 : Kd.C k134 w A1_1 l1_1.length l1_1) (hc1_1 : l1_1.length ≤ c1_1) (hr1_2 : Kd.C k37 w A1_2 l1_2.length l1_2) (hc1_2 : l1_2.length ≤ c1_2) (hr1_3 : Kd.C Kd.string w A1_3 l1_3.length l1_3) (hc1_3 : l1_3.length ≤ c1_3) (h : spec_SameFS.f k a0_0 l0_1 l0_2 l0_3 a1_0 l1_1 l1_2 l1_3 = some r) :
 Calls Try.prog 38 #[.agg #[.int .i64 a0_0, .slice A0_1 l0_1.length c0_1, .slice A0_2 l0_2.length c0_2, .slice A0_3 l0_3.length c0_3], .agg #[.int .i64 a1_0, .slice A1_1 l1_1.length c1_1, .slice A1_2 l1_2.length c1_2, .slice A1_3 l1_3.length c1_3]] w fun e w' => e = .returned (.bool r) ∧ Below w.heap.size w w' := by
 have hu67 := Try.underlying67
 have hu134 := Try.underlying134
 have hu37 := Try.underlying37
 have HR0_1 := Aside0.mk hr0_1
 have HC0_1 := Aside0.mk hc0_1
 clear hr0_1 hc0_1
 have HR0_2 := Aside0.mk hr0_2
 have HC0_2 := Aside0.mk hc0_2
 clear hr0_2 hc0_2
 have HR0_3 := Aside0.mk hr0_3
 have HC0_3 := Aside0.mk hc0_3
 clear hr0_3 hc0_3
 have HR1_1 := Aside0.mk hr1_1
 have HC1_1 := Aside0.mk hc1_1
 clear hr1_1 hc1_1
 have HR1_2 := Aside0.mk hr1_2
 have HC1_2 := Aside0.mk hc1_2
 clear hr1_2 hc1_2
 have HR1_3 := Aside0.mk hr1_3
 have HC1_3 := Aside0.mk hc1_3
 clear hr1_3 hc1_3
 have HB := Aside0.mk (Below.refl w.heap.size w)
 have H : (if a0_0 = a1_0 then (if (l0_1.length : Int) = (l1_1.length : Int) then (if (l0_2.length : Int) = (l1_2.length : Int) then ((spec_l02Texts.f k l0_3 l1_3).bind fun t126 => (spec_SameFS.j0 k (!t126) a0_0 l0_1 l0_2 l0_3 a1_0 l1_1 l1_2 l1_3)) else (spec_SameFS.j0 k true a0_0 l0_1 l0_2 l0_3 a1_0 l1_1 l1_2 l1_3)) else (spec_SameFS.j0 k true a0_0 l0_1 l0_2 l0_3 a1_0 l1_1 l1_2 l1_3)) else (spec_SameFS.j0 k true a0_0 l0_1 l0_2 l0_3 a1_0 l1_1 l1_2 l1_3)) = some r := h
 clear h
 have HC3 := Aside0.mk H
 clear H
 go_enter Try.func38, Try.ntmps38
 go_upto_region 1 with (first | ((with_reducible refine gate_dst (N := 2) rfl ?_); (try (refine gate_guard (by rfl) ?_; dsimp only)); refine box_event ?hg (N := 2) ?hd (cs := #[.int .i64 a0_0, .slice A0_1 l0_1.length c0_1, .slice A0_2 l0_2.length c0_2, .slice A0_3 l0_3.length c0_3]) (t := 67) ?hr ?_; (case hd => rfl); (case hg => rfl); (case hr => first | (go_simp; done) | (go_simp; rfl)); intro gb124 hg w4 hbox hb; have n0_ := Aside0.mk (below_step (by exact Lib.bw HB.out) hb); have n1_ := Aside0.mk (hbox); have n2_ := Aside0.mk ((by rw [hg]; exact (below_size (by exact Lib.bw HB.out)) : w.heap.size ≤ gb124)); have n3_ := Aside0.mk ((by rw [hg]; exact (below_size (by exact Lib.bw HB.out)) : w.heap.size ≤ gb124)); clear HB; have HB := n0_; have BK124 := n1_; have GW124 := n2_; have GE124 := n3_; clear n0_ n1_ n2_ n3_; clear hb hbox hg) | ((with_reducible refine gate_dst (N := 3) rfl ?_); (try (refine gate_guard (by rfl) ?_; dsimp only)); refine box_event ?hg (N := 3) ?hd (cs := #[.int .i64 a1_0, .slice A1_1 l1_1.length c1_1, .slice A1_2 l1_2.length c1_2, .slice A1_3 l1_3.length c1_3]) (t := 67) ?hr ?_; (case hd => rfl); (case hg => rfl); (case hr => first | (go_simp; done) | (go_simp; rfl)); intro gb125 hg w5 hbox hb; have n0_ := Aside0.mk (blk_below (g := gb124) (o := .cells #[.int .i64 a0_0, .slice A0_1 l0_1.length c0_1, .slice A0_2 l0_2.length c0_2, .slice A0_3 l0_3.length c0_3] 67 (0, 0)) (by exact Lib.bk BK124.out) hb); have n1_ := Aside0.mk (below_step (by exact Lib.bs HB.out GE124.out) hb); have n2_ := Aside0.mk (hbox); have n3_ := Aside0.mk ((by rw [hg]; exact (below_size (by exact Lib.bs HB.out GE124.out)) : w.heap.size ≤ gb125)); have n4_ := Aside0.mk ((by rw [hg]; exact (below_size (by exact Lib.bs HB.out GE124.out)) : w.heap.size ≤ gb125)); have n5_ := Aside0.mk ((by rw [hg]; exact Nat.ne_of_lt (blk_lt (g := gb124) (o := .cells #[.int .i64 a0_0, .slice A0_1 l0_1.length c0_1, .slice A0_2 l0_2.length c0_2, .slice A0_3 l0_3.length c0_3] 67 (0, 0)) (by exact Lib.bk BK124.out)) : gb124 ≠ gb125)); have n6_ := Aside0.mk ((by rw [hg]; exact Nat.ne_of_gt (blk_lt (g := gb124) (o := .cells #[.int .i64 a0_0, .slice A0_1 l0_1.length c0_1, .slice A0_2 l0_2.length c0_2, .slice A0_3 l0_3.length c0_3] 67 (0, 0)) (by exact Lib.bk BK124.out)) : gb125 ≠ gb124)); clear BK124; clear HB; have BK124 := n0_; have HB := n1_; have BK125 := n2_; have GW125 := n3_; have GE125 := n4_; have NB124_125 := n5_; have NB125_124 := n6_; clear n0_ n1_ n2_ n3_ n4_ n5_ n6_; clear hb hbox hg))
 (try simp only [Act.put, List.setIfInBounds_toArray, List.set_cons_zero, List.set_cons_succ])
 go_cut [39] (fun v39 wc => ∃ (kq : Nat) (x39_2 : Bool), v39 = .bool x39_2 ∧ Aside0 (spec_SameFS.j0 kq x39_2 a0_0 l0_1 l0_2 l0_3 a1_0 l1_1 l1_2 l1_3 = some r) ∧ Aside0 (kq ≤ k) ∧ Aside0 (wc.heap[gb124]? = some (.cells #[.int .i64 a0_0, (.slice A0_1 l0_1.length c0_1), (.slice A0_2 l0_2.length c0_2), (.slice A0_3 l0_3.length c0_3)] 67 (0, 0))) ∧ Aside0 (wc.heap[gb125]? = some (.cells #[.int .i64 a1_0, (.slice A1_1 l1_1.length c1_1), (.slice A1_2 l1_2.length c1_2), (.slice A1_3 l1_3.length c1_3)] 67 (0, 0))) ∧ Aside0 (Below w.heap.size w wc))
 case first =>
  have H := HC3.out
  clear HC3
  by_cases c6 : a0_0 = a1_0
  ·
   rw [if_pos c6] at H
   have c6b0 : (a0_0 == a1_0) = true := beq_iff_eq.mpr c6
   have c6b1 : (a0_0 != a1_0) = false := bne_eq_false_iff_eq.mpr c6
   clear c6
   (first | rw [c6b0] | (simp only [i64_w, i32_w]; rw [c6b0]) | skip)
   by_cases c7 : (l0_1.length : Int) = (l1_1.length : Int)
   ·
    rw [if_pos c7] at H
    have c7b0 : ((l0_1.length : Int) == (l1_1.length : Int)) = true := beq_iff_eq.mpr c7
    have c7b1 : ((l0_1.length : Int) != (l1_1.length : Int)) = false := bne_eq_false_iff_eq.mpr c7
    have c7b2 : (l0_1.length == l1_1.length) = true := by first | simpa using c7 | (simp at c7 ⊢; omega)
    clear c7
    by_cases c8 : (l0_2.length : Int) = (l1_2.length : Int)
    ·
     rw [if_pos c8] at H
     have c8b0 : ((l0_2.length : Int) == (l1_2.length : Int)) = true := beq_iff_eq.mpr c8
     have c8b1 : ((l0_2.length : Int) != (l1_2.length : Int)) = false := bne_eq_false_iff_eq.mpr c8
     have c8b2 : (l0_2.length == l1_2.length) = true := by first | simpa using c8 | (simp at c8 ⊢; omega)
     clear c8
     replace H := Option.bind_eq_some_iff.mp H
     obtain ⟨t126, A90, H⟩ := H
     replace H : (spec_SameFS.j0 k (!t126) a0_0 l0_1 l0_2 l0_3 a1_0 l1_1 l1_2 l1_3) = some r := H
     have A9 := Aside0.mk A90
     clear A90
     have H' := Aside0.mk H
     clear H
     have hnb10 := NB124_125.out
     have hnc10 := NB125_124.out
     obtain ⟨hcz11_0, hcz11_1, hcz11_2, hcz11_3, hfz11_0, hfz11_1, hfz11_2, hfz11_3⟩ := Lib.cel4 (W := w5) BK124.out
     obtain ⟨hcz12_0, hcz12_1, hcz12_2, hcz12_3, hfz12_0, hfz12_1, hfz12_2, hfz12_3⟩ := Lib.cel4 (W := w5) BK125.out
     go_wp2_with (first | (go_at_call 109; (with_reducible refine (spec_l02Texts.calls k _ _ l0_3 _ _ l1_3 t126 _ ?side1 ?side2 ?side3 ?side4 A9.out).mono ?_); (case side1 => exact Lib.cx (Kd.C_below HR0_3.out HB.out)); (case side2 => exact HC0_3.out); (case side3 => exact Lib.cx (Kd.C_below HR1_3.out HB.out)); (case side4 => exact HC1_3.out); rintro e w' ⟨rfl, ⟨nd, rfl⟩⟩))
     go_meet
     case rel => exact ⟨_, (!t126), (by first | rfl | (simp; done) | (simp [*]; done)), H', ⟨by first | omega | exact Nat.le_refl _⟩, ⟨by exact Lib.bk BK124.out⟩, ⟨by exact Lib.bk BK125.out⟩, ⟨by repeat (first | (with_reducible first | exact HB.out | apply below_alloc | apply pw_below_drewN | apply below_drew1 | refine below_set ?_ GE124.out | refine below_set ?_ GE125.out) | exact HB.out)⟩⟩
    ·
     rw [if_neg c8] at H
     have c8b0 : ((l0_2.length : Int) == (l1_2.length : Int)) = false := beq_eq_false_iff_ne.mpr c8
     have c8b1 : ((l0_2.length : Int) != (l1_2.length : Int)) = true := bne_iff_ne.mpr c8
     have c8b2 : (l0_2.length == l1_2.length) = false := by first | simpa using c8 | (simp at c8 ⊢; omega)
     have H' := Aside0.mk H
     clear H
     have hnb13 := NB124_125.out
     have hnc13 := NB125_124.out
     obtain ⟨hcz14_0, hcz14_1, hcz14_2, hcz14_3, hfz14_0, hfz14_1, hfz14_2, hfz14_3⟩ := Lib.cel4 (W := w5) BK124.out
     obtain ⟨hcz15_0, hcz15_1, hcz15_2, hcz15_3, hfz15_0, hfz15_1, hfz15_2, hfz15_3⟩ := Lib.cel4 (W := w5) BK125.out
     go_wp2
     go_meet
     case rel => exact ⟨_, (true), (by first | rfl | (simp; done) | (simp [*]; done)), H', ⟨by first | omega | exact Nat.le_refl _⟩, ⟨by exact Lib.bk BK124.out⟩, ⟨by exact Lib.bk BK125.out⟩, ⟨by repeat (first | (with_reducible first | exact HB.out | apply below_alloc | apply pw_below_drewN | apply below_drew1 | refine below_set ?_ GE124.out | refine below_set ?_ GE125.out) | exact HB.out)⟩⟩
   ·
    rw [if_neg c7] at H
    have c7b0 : ((l0_1.length : Int) == (l1_1.length : Int)) = false := beq_eq_false_iff_ne.mpr c7
    have c7b1 : ((l0_1.length : Int) != (l1_1.length : Int)) = true := bne_iff_ne.mpr c7
    have c7b2 : (l0_1.length == l1_1.length) = false := by first | simpa using c7 | (simp at c7 ⊢; omega)
    have H' := Aside0.mk H
    clear H
    have hnb16 := NB124_125.out
    have hnc16 := NB125_124.out
    obtain ⟨hcz17_0, hcz17_1, hcz17_2, hcz17_3, hfz17_0, hfz17_1, hfz17_2, hfz17_3⟩ := Lib.cel4 (W := w5) BK124.out
    obtain ⟨hcz18_0, hcz18_1, hcz18_2, hcz18_3, hfz18_0, hfz18_1, hfz18_2, hfz18_3⟩ := Lib.cel4 (W := w5) BK125.out
    go_wp2
    go_meet
    case rel => exact ⟨_, (true), (by first | rfl | (simp; done) | (simp [*]; done)), H', ⟨by first | omega | exact Nat.le_refl _⟩, ⟨by exact Lib.bk BK124.out⟩, ⟨by exact Lib.bk BK125.out⟩, ⟨by repeat (first | (with_reducible first | exact HB.out | apply below_alloc | apply pw_below_drewN | apply below_drew1 | refine below_set ?_ GE124.out | refine below_set ?_ GE125.out) | exact HB.out)⟩⟩
  ·
   rw [if_neg c6] at H
   have c6b0 : (a0_0 == a1_0) = false := beq_eq_false_iff_ne.mpr c6
   have c6b1 : (a0_0 != a1_0) = true := bne_iff_ne.mpr c6
   (first | rw [c6b0] | (simp only [i64_w, i32_w]; rw [c6b0]) | skip)
   have H' := Aside0.mk H
   clear H
   have hnb19 := NB124_125.out
   have hnc19 := NB125_124.out
   obtain ⟨hcz20_0, hcz20_1, hcz20_2, hcz20_3, hfz20_0, hfz20_1, hfz20_2, hfz20_3⟩ := Lib.cel4 (W := w5) BK124.out
   obtain ⟨hcz21_0, hcz21_1, hcz21_2, hcz21_3, hfz21_0, hfz21_1, hfz21_2, hfz21_3⟩ := Lib.cel4 (W := w5) BK125.out
   go_wp2
   go_meet
   case rel => exact ⟨_, (true), (by first | rfl | (simp; done) | (simp [*]; done)), H', ⟨by first | omega | exact Nat.le_refl _⟩, ⟨by exact Lib.bk BK124.out⟩, ⟨by exact Lib.bk BK125.out⟩, ⟨by repeat (first | (with_reducible first | exact HB.out | apply below_alloc | apply pw_below_drewN | apply below_drew1 | refine below_set ?_ GE124.out | refine below_set ?_ GE125.out) | exact HB.out)⟩⟩
 case rest =>
  clear HC3
  try clear c1
  try clear p2
  try clear c3
  try clear c6
  try clear c6b0
  try clear c6b1
  try clear c7
  try clear c7b0
  try clear c7b1
  try clear c7b2
  try clear c8
  try clear c8b0
  try clear c8b1
  try clear c8b2
  try clear c10
  try clear c13
  try clear c16
  try clear c19
  try clear hcz11_0
  try clear hcz11_1
  try clear hcz11_2
  try clear hcz11_3
  try clear hcz12_0
  try clear hcz12_1
  try clear hcz12_2
  try clear hcz12_3
  try clear hcz14_0
  try clear hcz14_1
  try clear hcz14_2
  try clear hcz14_3
  try clear hcz15_0
  try clear hcz15_1
  try clear hcz15_2
  try clear hcz15_3
  try clear hcz17_0
  try clear hcz17_1
  try clear hcz17_2
  try clear hcz17_3
  try clear hcz18_0
  try clear hcz18_1
  try clear hcz18_2
  try clear hcz18_3
  try clear hcz20_0
  try clear hcz20_1
  try clear hcz20_2
  try clear hcz20_3
  try clear hcz21_0
  try clear hcz21_1
  try clear hcz21_2
  try clear hcz21_3
  try clear hfz11_0
  try clear hfz11_1
  try clear hfz11_2
  try clear hfz11_3
  try clear hfz12_0
  try clear hfz12_1
  try clear hfz12_2
  try clear hfz12_3
  try clear hfz14_0
  try clear hfz14_1
  try clear hfz14_2
  try clear hfz14_3
  try clear hfz15_0
  try clear hfz15_1
  try clear hfz15_2
  try clear hfz15_3
  try clear hfz17_0
  try clear hfz17_1
  try clear hfz17_2
  try clear hfz17_3
  try clear hfz18_0
  try clear hfz18_1
  try clear hfz18_2
  try clear hfz18_3
  try clear hfz20_0
  try clear hfz20_1
  try clear hfz20_2
  try clear hfz20_3
  try clear hfz21_0
  try clear hfz21_1
  try clear hfz21_2
  try clear hfz21_3
  obtain ⟨kq, x39_2, rfl, HA, HJ2, BK124, BK125, HB⟩ := hcut
  cases kq with
  | zero => exact absurd HA.out (by simp [spec_SameFS.j0])
  | succ kj2 =>
   have H := HA.out
   clear HA
   simp only [spec_SameFS.j0] at H
   by_cases c22 : x39_2 = true
   ·
    subst c22
    have H1 : (some false) = some r := by rw [if_pos rfl] at H; exact H
    clear H
    have H := H1
    clear H1
    obtain rfl := Option.some.inj H
    go_wp2
    go_ret
    exact ⟨by first | rfl | (simp [errW_none, errW_some] <;> rfl) | (simp [*, errW_none, errW_some] <;> rfl), by repeat (first | (with_reducible first | exact HB.out | apply below_alloc | apply pw_below_drewN | apply below_drew1 | refine below_set ?_ GE124.out | refine below_set ?_ GE125.out) | exact HB.out)⟩
   ·
    replace c22 := Bool.eq_false_iff.mpr c22
    subst c22
    have H1 : (spec_SameFS.l0 kj2 l0_1 (l0_1.length : Int) 0 a0_0 l0_1 l0_2 l0_3 a1_0 l1_1 l1_2 l1_3) = some r := by rw [if_neg (show ¬ (false = true) by decide)] at H; exact H
    clear H
    have H := H1
    clear H1
    have H' := Aside0.mk H
    clear H
    have hnb23 := NB124_125.out
    have hnc23 := NB125_124.out
    obtain ⟨hcz24_0, hcz24_1, hcz24_2, hcz24_3, hfz24_0, hfz24_1, hfz24_2, hfz24_3⟩ := Lib.cel4 (W := wc) BK124.out
    go_wp2
    go_loopg [43] kj2 (fun kq v43 w' => ∃ (x43_2 : Int), v43 = .int .i64 x43_2 ∧ Aside0 (spec_SameFS.l0 kq l0_1 (l0_1.length : Int) x43_2 a0_0 l0_1 l0_2 l0_3 a1_0 l1_1 l1_2 l1_3 = some r) ∧ Aside0 (kq ≤ kj2) ∧ Aside0 (w'.heap[gb124]? = some (.cells #[.int .i64 a0_0, (.slice A0_1 l0_1.length c0_1), (.slice A0_2 l0_2.length c0_2), (.slice A0_3 l0_3.length c0_3)] 67 (0, 0))) ∧ Aside0 (w'.heap[gb125]? = some (.cells #[.int .i64 a1_0, (.slice A1_1 l1_1.length c1_1), (.slice A1_2 l1_2.length c1_2), (.slice A1_3 l1_3.length c1_3)] 67 (0, 0))) ∧ Aside0 (Below w.heap.size w w'))
    case atStart => exact ⟨(0), (by first | rfl | (simp; done) | (simp [*]; done)), H', ⟨Nat.le_refl _⟩, ⟨by exact Lib.bk BK124.out⟩, ⟨by exact Lib.bk BK125.out⟩, ⟨by repeat (first | (with_reducible first | exact HB.out | apply below_alloc | apply pw_below_drewN | apply below_drew1 | refine below_set ?_ GE124.out | refine below_set ?_ GE125.out) | exact HB.out)⟩⟩
    case round =>
     clear H'
     try clear c1
     try clear c2
     try clear p2
     try clear c3
     try clear c6
     try clear c6b0
     try clear c6b1
     try clear c7
     try clear c7b0
     try clear c7b1
     try clear c7b2
     try clear c8
     try clear c8b0
     try clear c8b1
     try clear c8b2
     try clear c10
     try clear c13
     try clear c16
     try clear c19
     try clear c22
     try clear c23
     try clear hcz11_0
     try clear hcz11_1
     try clear hcz11_2
     try clear hcz11_3
     try clear hcz12_0
     try clear hcz12_1
     try clear hcz12_2
     try clear hcz12_3
     try clear hcz14_0
     try clear hcz14_1
     try clear hcz14_2
     try clear hcz14_3
     try clear hcz15_0
     try clear hcz15_1
     try clear hcz15_2
     try clear hcz15_3
     try clear hcz17_0
     try clear hcz17_1
     try clear hcz17_2
     try clear hcz17_3
     try clear hcz18_0
     try clear hcz18_1
     try clear hcz18_2
     try clear hcz18_3
     try clear hcz20_0
     try clear hcz20_1
     try clear hcz20_2
     try clear hcz20_3
     try clear hcz21_0
     try clear hcz21_1
     try clear hcz21_2
     try clear hcz21_3
     try clear hcz24_0
     try clear hcz24_1
     try clear hcz24_2
     try clear hcz24_3
     try clear hfz11_0
     try clear hfz11_1
     try clear hfz11_2
     try clear hfz11_3
     try clear hfz12_0
     try clear hfz12_1
     try clear hfz12_2
     try clear hfz12_3
     try clear hfz14_0
     try clear hfz14_1
     try clear hfz14_2
     try clear hfz14_3
     try clear hfz15_0
     try clear hfz15_1
     try clear hfz15_2
     try clear hfz15_3
     try clear hfz17_0
     try clear hfz17_1
     try clear hfz17_2
     try clear hfz17_3
     try clear hfz18_0
     try clear hfz18_1
     try clear hfz18_2
     try clear hfz18_3
     try clear hfz20_0
     try clear hfz20_1
     try clear hfz20_2
     try clear hfz20_3
     try clear hfz21_0
     try clear hfz21_1
     try clear hfz21_2
     try clear hfz21_3
     try clear hfz24_0
     try clear hfz24_1
     try clear hfz24_2
     try clear hfz24_3
     try clear p2
     obtain ⟨x43_2, rfl, HA, HK2, BK124, BK125, HB⟩ := hrel
     cases gk with
     | zero => exact absurd HA.out (by simp [spec_SameFS.l0])
     | succ k2 =>
      have H := HA.out
      clear HA
      simp only [spec_SameFS.l0] at H
      by_cases c25 : x43_2 < (l0_1.length : Int)
      ·
       rw [if_pos c25] at H
       have c25b0 : decide (x43_2 < (l0_1.length : Int)) = true := decide_eq_true c25
       clear c25
       by_cases c26 : 0 ≤ x43_2
       ·
        rw [if_pos c26] at H
        have c26b0 : decide (0 ≤ x43_2) = true := decide_eq_true c26
        clear c26
        by_cases c27 : x43_2 < (l0_1.length : Int)
        ·
         rw [if_pos c27] at H
         have c27b0 : decide (x43_2 < (l0_1.length : Int)) = true := decide_eq_true c27
         clear c27
         by_cases c28 : x43_2 < (l1_1.length : Int)
         ·
          rw [if_pos c28] at H
          have c28b0 : decide (x43_2 < (l1_1.length : Int)) = true := decide_eq_true c28
          clear c28
          by_cases c29 : (!(((rd_T134 l0_1 x43_2).f0) == ((rd_T134 l1_1 x43_2).f0)) || (!(((rd_T134 l0_1 x43_2).f1) == ((rd_T134 l1_1 x43_2).f1)))) = true
          ·
           rw [if_pos c29] at H
           have c29b0 : (!(((rd_T134 l0_1 x43_2).f0) == ((rd_T134 l1_1 x43_2).f0)) || (!(((rd_T134 l0_1 x43_2).f1) == ((rd_T134 l1_1 x43_2).f1)))) = true := c29
           clear c29
           obtain rfl := Option.some.inj H
           have p127 : 0 ≤ (x43_2 : Int) := Lib.od
           have q127 : x43_2 < (l0_1.length : Int) := Lib.od
           obtain ⟨ad127, e127, hx127_0, hx127_1⟩ := at_T134 HR0_1.out x43_2 p127 q127
           cases e127
           replace hx127_0 := (HB.out.cell (World.block_lt_of_cell? w _ hx127_0)).trans hx127_0
           replace hx127_1 := (HB.out.cell (World.block_lt_of_cell? w _ hx127_1)).trans hx127_1
           replace p127 := eq_true p127
           replace q127 := eq_true q127
           try go_wp2_with (first | ((with_reducible refine gate_dst (N := 6) rfl ?_); (try (refine gate_guard (by rfl) ?_; dsimp only)); refine box_event ?hg (N := 6) ?hd (cs := #[.int .i64 0, .int .i64 0]) (t := 134) ?hr ?_; (case hd => rfl); (case hg => rfl); (case hr => first | (go_simp; done) | (go_simp; rfl)); intro gb128 hg w30 hbox hb; have n0_ := Aside0.mk (blk_below (g := gb124) (o := .cells #[.int .i64 a0_0, .slice (some ad127) l0_1.length c0_1, .slice A0_2 l0_2.length c0_2, .slice A0_3 l0_3.length c0_3] 67 (0, 0)) (by exact Lib.bk BK124.out) hb); have n1_ := Aside0.mk (blk_below (g := gb125) (o := .cells #[.int .i64 a1_0, .slice A1_1 l1_1.length c1_1, .slice A1_2 l1_2.length c1_2, .slice A1_3 l1_3.length c1_3] 67 (0, 0)) (by exact Lib.bk BK125.out) hb); have n2_ := Aside0.mk (below_step (by repeat (first | (with_reducible first | exact HB.out | apply below_alloc | apply pw_below_drewN | apply below_drew1 | refine below_set ?_ GE124.out | refine below_set ?_ GE125.out) | exact HB.out)) hb); have n3_ := Aside0.mk (hbox); have n4_ := Aside0.mk ((by rw [hg]; exact (below_size (by repeat (first | (with_reducible first | exact HB.out | apply below_alloc | apply pw_below_drewN | apply below_drew1 | refine below_set ?_ GE124.out | refine below_set ?_ GE125.out) | exact HB.out))) : w.heap.size ≤ gb128)); have n5_ := Aside0.mk ((by rw [hg]; exact (below_size (by repeat (first | (with_reducible first | exact HB.out | apply below_alloc | apply pw_below_drewN | apply below_drew1 | refine below_set ?_ GE124.out | refine below_set ?_ GE125.out) | exact HB.out))) : w.heap.size ≤ gb128)); have n6_ := Aside0.mk ((by rw [hg]; exact Nat.ne_of_lt (blk_lt (g := gb124) (o := .cells #[.int .i64 a0_0, .slice (some ad127) l0_1.length c0_1, .slice A0_2 l0_2.length c0_2, .slice A0_3 l0_3.length c0_3] 67 (0, 0)) (by exact Lib.bk BK124.out)) : gb124 ≠ gb128)); have n7_ := Aside0.mk ((by rw [hg]; exact Nat.ne_of_gt (blk_lt (g := gb124) (o := .cells #[.int .i64 a0_0, .slice (some ad127) l0_1.length c0_1, .slice A0_2 l0_2.length c0_2, .slice A0_3 l0_3.length c0_3] 67 (0, 0)) (by exact Lib.bk BK124.out)) : gb128 ≠ gb124)); have n8_ := Aside0.mk ((by rw [hg]; exact Nat.ne_of_lt (blk_lt (g := gb125) (o := .cells #[.int .i64 a1_0, .slice A1_1 l1_1.length c1_1, .slice A1_2 l1_2.length c1_2, .slice A1_3 l1_3.length c1_3] 67 (0, 0)) (by exact Lib.bk BK125.out)) : gb125 ≠ gb128)); have n9_ := Aside0.mk ((by rw [hg]; exact Nat.ne_of_gt (blk_lt (g := gb125) (o := .cells #[.int .i64 a1_0, .slice A1_1 l1_1.length c1_1, .slice A1_2 l1_2.length c1_2, .slice A1_3 l1_3.length c1_3] 67 (0, 0)) (by exact Lib.bk BK125.out)) : gb128 ≠ gb125)); clear BK124; clear BK125; clear HB; have BK124 := n0_; have BK125 := n1_; have HB := n2_; have BK128 := n3_; have GW128 := n4_; have GE128 := n5_; have NB124_128 := n6_; have NB128_124 := n7_; have NB125_128 := n8_; have NB128_125 := n9_; clear n0_ n1_ n2_ n3_ n4_ n5_ n6_ n7_ n8_ n9_; clear hb hbox hg; have hnb31 := NB128_124.out; have hnc31 := NB124_128.out; have hnb32 := NB128_125.out; have hnc32 := NB125_128.out; obtain ⟨hcz33_0, hcz33_1, hfz33_0, hfz33_1⟩ := Lib.cel2 (W := w30) BK128.out))
           have n0_ : Aside0 (((w30.setCell ⟨gb128, 0, none⟩ (.int .i64 ((rd_T134 l0_1 x43_2).f0))).setCell ⟨gb128, 1, none⟩ (.int .i64 ((rd_T134 l0_1 x43_2).f1))).heap[gb124]? = some (.cells #[.int .i64 a0_0, .slice (some ad127) l0_1.length c0_1, .slice A0_2 l0_2.length c0_2, .slice A0_3 l0_3.length c0_3] 67 (0, 0))) := ⟨by (with_reducible repeat (first | refine blk_drewN ?_ _ | refine blk_drew ?_ | refine blk_alloc ?_ _)); refine blk_far ?_ NB124_128.out _; (with_reducible repeat (first | refine blk_drewN ?_ _ | refine blk_drew ?_ | refine blk_alloc ?_ _)); refine blk_far ?_ NB124_128.out _; (with_reducible repeat (first | refine blk_drewN ?_ _ | refine blk_drew ?_ | refine blk_alloc ?_ _)); exact BK124.out⟩
           have n1_ : Aside0 (((w30.setCell ⟨gb128, 0, none⟩ (.int .i64 ((rd_T134 l0_1 x43_2).f0))).setCell ⟨gb128, 1, none⟩ (.int .i64 ((rd_T134 l0_1 x43_2).f1))).heap[gb125]? = some (.cells #[.int .i64 a1_0, .slice A1_1 l1_1.length c1_1, .slice A1_2 l1_2.length c1_2, .slice A1_3 l1_3.length c1_3] 67 (0, 0))) := ⟨by (with_reducible repeat (first | refine blk_drewN ?_ _ | refine blk_drew ?_ | refine blk_alloc ?_ _)); refine blk_far ?_ NB125_128.out _; (with_reducible repeat (first | refine blk_drewN ?_ _ | refine blk_drew ?_ | refine blk_alloc ?_ _)); refine blk_far ?_ NB125_128.out _; (with_reducible repeat (first | refine blk_drewN ?_ _ | refine blk_drew ?_ | refine blk_alloc ?_ _)); exact BK125.out⟩
           have n2_ : Aside0 (((w30.setCell ⟨gb128, 0, none⟩ (.int .i64 ((rd_T134 l0_1 x43_2).f0))).setCell ⟨gb128, 1, none⟩ (.int .i64 ((rd_T134 l0_1 x43_2).f1))).heap[gb128]? = some (.cells #[.int .i64 ((rd_T134 l0_1 x43_2).f0), .int .i64 ((rd_T134 l0_1 x43_2).f1)] 134 (0, 0))) := ⟨by (with_reducible repeat (first | refine blk_drewN ?_ _ | refine blk_drew ?_ | refine blk_alloc ?_ _)); refine blk_put (cs := #[.int .i64 ((rd_T134 l0_1 x43_2).f0), .int .i64 0]) ?_ 1 _ rfl; (with_reducible repeat (first | refine blk_drewN ?_ _ | refine blk_drew ?_ | refine blk_alloc ?_ _)); refine blk_put (cs := #[.int .i64 0, .int .i64 0]) ?_ 0 _ rfl; (with_reducible repeat (first | refine blk_drewN ?_ _ | refine blk_drew ?_ | refine blk_alloc ?_ _)); exact BK128.out⟩
           have n3_ : Aside0 (Below w.heap.size w ((w30.setCell ⟨gb128, 0, none⟩ (.int .i64 ((rd_T134 l0_1 x43_2).f0))).setCell ⟨gb128, 1, none⟩ (.int .i64 ((rd_T134 l0_1 x43_2).f1)))) := ⟨by repeat (first | (with_reducible first | exact HB.out | apply below_alloc | apply pw_below_drewN | apply below_drew1 | refine below_set ?_ GE124.out | refine below_set ?_ GE125.out | refine below_set ?_ GE128.out) | exact HB.out)⟩
           (try clear BK124)
           (try clear BK125)
           (try clear BK128)
           (try clear HB)
           generalize ((w30.setCell ⟨gb128, 0, none⟩ (.int .i64 ((rd_T134 l0_1 x43_2).f0))).setCell ⟨gb128, 1, none⟩ (.int .i64 ((rd_T134 l0_1 x43_2).f1))) = w34 at n0_ n1_ n2_ n3_ ⊢
           have BK124 := n0_
           have BK125 := n1_
           have BK128 := n2_
           have HB := n3_
           clear n0_ n1_ n2_ n3_
           have n0_ := Aside0.mk (blk_drew BK124.out)
           have n1_ := Aside0.mk (blk_drew BK125.out)
           have n2_ := Aside0.mk (blk_drew BK128.out)
           have n3_ := Aside0.mk (below_drew1 HB.out)
           clear BK124
           clear BK125
           clear BK128
           clear HB
           have BK124 := n0_
           have BK125 := n1_
           have BK128 := n2_
           have HB := n3_
           clear n0_ n1_ n2_ n3_
           have p129 : 0 ≤ (x43_2 : Int) := Lib.od
           have q129 : x43_2 < (l1_1.length : Int) := Lib.od
           obtain ⟨ad129, e129, hx129_0, hx129_1⟩ := at_T134 HR1_1.out x43_2 p129 q129
           have hw129_1 := hx129_1
           have hw129_0 := hx129_0
           cases e129
           replace hx129_0 := (HB.out.cell (World.block_lt_of_cell? w _ hx129_0)).trans hx129_0
           replace hx129_1 := (HB.out.cell (World.block_lt_of_cell? w _ hx129_1)).trans hx129_1
           replace p129 := eq_true p129
           replace q129 := eq_true q129
           refine start_ (n := 7) (S := fun w' => w'.cell? ⟨gb128, 0, none⟩ = some (.int .i64 ((rd_T134 l0_1 x43_2).f0)) ∧ w'.cell? ⟨gb128, 1, none⟩ = some (.int .i64 ((rd_T134 l0_1 x43_2).f1)) ∧ w'.cell? ⟨gb125, 0, none⟩ = some (.int .i64 a1_0) ∧ w'.cell? ⟨gb125, 1, none⟩ = some (.slice (some ad129) l1_1.length c1_1) ∧ w'.cell? ⟨gb125, 2, none⟩ = some (.slice A1_2 l1_2.length c1_2) ∧ w'.cell? ⟨gb125, 3, none⟩ = some (.slice A1_3 l1_3.length c1_3) ∧ w'.cell? (ad129.add ((x43_2).toNat * 2)) = some (.int .i64 ((rd_T134 l1_1 x43_2).f0)) ∧ w'.cell? ⟨(ad129.add ((x43_2).toNat * 2)).block, (ad129.add ((x43_2).toNat * 2)).off + 1, none⟩ = some (.int .i64 ((rd_T134 l1_1 x43_2).f1))) (ds := []) #[false, false, false, false, false, false, false] (by kernel_rfl) rfl rfl ⟨(blk_cell BK128.out 0).trans rfl, (blk_cell BK128.out 1).trans rfl, (blk_cell BK125.out 0).trans rfl, (blk_cell BK125.out 1).trans rfl, (blk_cell BK125.out 2).trans rfl, (blk_cell BK125.out 3).trans rfl, ((HB.out.cell (World.block_lt_of_cell? w _ hw129_0)).trans hw129_0), ((HB.out.cell (World.block_lt_of_cell? w _ hw129_1)).trans hw129_1)⟩ (fun hHeld => ?_)
           generalize w34.drew = w35 at BK124 BK125 BK128 HB hx129_0 hx129_1 hHeld ⊢
           refine pure_ (i := 1) (N := some 49) (v := ?_) (a' := ?_) #[false, true, false, false, false, false, false] rfl rfl (by kernel_rfl) (fun _ _ _ h => h) (Or.inl ⟨by rfl, ?_⟩) ?_ ?_
           rotate_left
           ·
            intro w'
            go_simp
            with_reducible rfl
           rotate_left
           ·
            simp only [Lib.pw, Lib.px, Lib.py, i64_w, i32_w]
            rfl
           refine pure_ (i := 3) (N := some 51) (v := ?_) (a' := ?_) #[false, true, false, true, false, false, false] rfl rfl (by kernel_rfl) (fun _ _ _ h => h) (Or.inl ⟨by rfl, ?_⟩) ?_ ?_
           rotate_left
           ·
            intro w'
            go_simp
            with_reducible rfl
           rotate_left
           ·
            simp only [Lib.pw, Lib.px, Lib.py, i64_w, i32_w]
            rfl
           refine take_ (i := 0) (N := some 48) (v := ?_) (a' := ?_) #[true, true, false, true, false, false, false] rfl rfl (by kernel_rfl) (fun _ _ _ h => h) (Or.inl ⟨by rfl, ?_⟩) hHeld ?_ ?_
           rotate_left
           ·
            rintro w' ⟨s0, s1, s2, s3, s4, s5, s6, s7⟩
            go_simp
            with_reducible rfl
           rotate_left
           ·
            simp only [Lib.pw, Lib.px, Lib.py, i64_w, i32_w]
            rfl
           refine take_ (i := 2) (N := some 50) (v := ?_) (a' := ?_) #[true, true, true, true, false, false, false] rfl rfl (by kernel_rfl) (fun _ _ _ h => h) (Or.inl ⟨by rfl, ?_⟩) hHeld ?_ ?_
           rotate_left
           ·
            rintro w' ⟨s0, s1, s2, s3, s4, s5, s6, s7⟩
            go_simp
            with_reducible rfl
           rotate_left
           ·
            simp only [Lib.pw, Lib.px, Lib.py, i64_w, i32_w]
            rfl
           refine pure_ (i := 4) (N := some 52) (v := ?_) (a' := ?_) #[true, true, true, true, true, false, false] rfl rfl (by kernel_rfl) (fun _ _ _ h => h) (Or.inl ⟨by rfl, ?_⟩) ?_ ?_
           rotate_left
           ·
            intro w'
            go_simp
            with_reducible rfl
           rotate_left
           ·
            simp only [Lib.pw, Lib.px, Lib.py, i64_w, i32_w]
            rfl
           refine take_ (i := 5) (N := some 53) (v := ?_) (a' := ?_) #[true, true, true, true, true, true, false] rfl rfl (by kernel_rfl) (fun _ _ _ h => h) (Or.inl ⟨by rfl, ?_⟩) hHeld ?_ ?_
           rotate_left
           ·
            rintro w' ⟨s0, s1, s2, s3, s4, s5, s6, s7⟩
            go_simp
            with_reducible rfl
           rotate_left
           ·
            simp only [Lib.pw, Lib.px, Lib.py, i64_w, i32_w]
            rfl
           refine pure_ (i := 6) (N := some 54) (v := ?_) (a' := ?_) #[true, true, true, true, true, true, true] rfl rfl (by kernel_rfl) (fun _ _ _ h => h) (Or.inl ⟨by rfl, ?_⟩) ?_ ?_
           rotate_left
           ·
            intro w'
            go_simp
            with_reducible rfl
           rotate_left
           ·
            simp only [Lib.pw, Lib.px, Lib.py, i64_w, i32_w]
            rfl
           refine done_ (by kernel_rfl) ?_
           try go_wp2
           go_ret
           exact ⟨by first | rfl | (simp [errW_none, errW_some] <;> rfl) | (simp [*, errW_none, errW_some] <;> rfl), by repeat (first | (with_reducible first | exact HB.out | apply below_alloc | apply pw_below_drewN | apply below_drew1 | refine below_set ?_ GE124.out | refine below_set ?_ GE125.out | refine below_set ?_ GE128.out) | exact HB.out)⟩
          ·
           rw [if_neg c29] at H
           have c29b0 : (!(((rd_T134 l0_1 x43_2).f0) == ((rd_T134 l1_1 x43_2).f0)) || (!(((rd_T134 l0_1 x43_2).f1) == ((rd_T134 l1_1 x43_2).f1)))) = false := by simpa using c29
           clear c29
           have H' := Aside0.mk H
           clear H
           have p127 : 0 ≤ (x43_2 : Int) := Lib.od
           have q127 : x43_2 < (l0_1.length : Int) := Lib.od
           obtain ⟨ad127, e127, hx127_0, hx127_1⟩ := at_T134 HR0_1.out x43_2 p127 q127
           cases e127
           replace hx127_0 := (HB.out.cell (World.block_lt_of_cell? w _ hx127_0)).trans hx127_0
           replace hx127_1 := (HB.out.cell (World.block_lt_of_cell? w _ hx127_1)).trans hx127_1
           replace p127 := eq_true p127
           replace q127 := eq_true q127
           try go_wp2_with (first | ((with_reducible refine gate_dst (N := 6) rfl ?_); (try (refine gate_guard (by rfl) ?_; dsimp only)); refine box_event ?hg (N := 6) ?hd (cs := #[.int .i64 0, .int .i64 0]) (t := 134) ?hr ?_; (case hd => rfl); (case hg => rfl); (case hr => first | (go_simp; done) | (go_simp; rfl)); intro gb128 hg w36 hbox hb; have n0_ := Aside0.mk (blk_below (g := gb124) (o := .cells #[.int .i64 a0_0, .slice (some ad127) l0_1.length c0_1, .slice A0_2 l0_2.length c0_2, .slice A0_3 l0_3.length c0_3] 67 (0, 0)) (by exact Lib.bk BK124.out) hb); have n1_ := Aside0.mk (blk_below (g := gb125) (o := .cells #[.int .i64 a1_0, .slice A1_1 l1_1.length c1_1, .slice A1_2 l1_2.length c1_2, .slice A1_3 l1_3.length c1_3] 67 (0, 0)) (by exact Lib.bk BK125.out) hb); have n2_ := Aside0.mk (below_step (by repeat (first | (with_reducible first | exact HB.out | apply below_alloc | apply pw_below_drewN | apply below_drew1 | refine below_set ?_ GE124.out | refine below_set ?_ GE125.out) | exact HB.out)) hb); have n3_ := Aside0.mk (hbox); have n4_ := Aside0.mk ((by rw [hg]; exact (below_size (by repeat (first | (with_reducible first | exact HB.out | apply below_alloc | apply pw_below_drewN | apply below_drew1 | refine below_set ?_ GE124.out | refine below_set ?_ GE125.out) | exact HB.out))) : w.heap.size ≤ gb128)); have n5_ := Aside0.mk ((by rw [hg]; exact (below_size (by repeat (first | (with_reducible first | exact HB.out | apply below_alloc | apply pw_below_drewN | apply below_drew1 | refine below_set ?_ GE124.out | refine below_set ?_ GE125.out) | exact HB.out))) : w.heap.size ≤ gb128)); have n6_ := Aside0.mk ((by rw [hg]; exact Nat.ne_of_lt (blk_lt (g := gb124) (o := .cells #[.int .i64 a0_0, .slice (some ad127) l0_1.length c0_1, .slice A0_2 l0_2.length c0_2, .slice A0_3 l0_3.length c0_3] 67 (0, 0)) (by exact Lib.bk BK124.out)) : gb124 ≠ gb128)); have n7_ := Aside0.mk ((by rw [hg]; exact Nat.ne_of_gt (blk_lt (g := gb124) (o := .cells #[.int .i64 a0_0, .slice (some ad127) l0_1.length c0_1, .slice A0_2 l0_2.length c0_2, .slice A0_3 l0_3.length c0_3] 67 (0, 0)) (by exact Lib.bk BK124.out)) : gb128 ≠ gb124)); have n8_ := Aside0.mk ((by rw [hg]; exact Nat.ne_of_lt (blk_lt (g := gb125) (o := .cells #[.int .i64 a1_0, .slice A1_1 l1_1.length c1_1, .slice A1_2 l1_2.length c1_2, .slice A1_3 l1_3.length c1_3] 67 (0, 0)) (by exact Lib.bk BK125.out)) : gb125 ≠ gb128)); have n9_ := Aside0.mk ((by rw [hg]; exact Nat.ne_of_gt (blk_lt (g := gb125) (o := .cells #[.int .i64 a1_0, .slice A1_1 l1_1.length c1_1, .slice A1_2 l1_2.length c1_2, .slice A1_3 l1_3.length c1_3] 67 (0, 0)) (by exact Lib.bk BK125.out)) : gb128 ≠ gb125)); clear BK124; clear BK125; clear HB; have BK124 := n0_; have BK125 := n1_; have HB := n2_; have BK128 := n3_; have GW128 := n4_; have GE128 := n5_; have NB124_128 := n6_; have NB128_124 := n7_; have NB125_128 := n8_; have NB128_125 := n9_; clear n0_ n1_ n2_ n3_ n4_ n5_ n6_ n7_ n8_ n9_; clear hb hbox hg; have hnb37 := NB128_124.out; have hnc37 := NB124_128.out; have hnb38 := NB128_125.out; have hnc38 := NB125_128.out; obtain ⟨hcz39_0, hcz39_1, hfz39_0, hfz39_1⟩ := Lib.cel2 (W := w36) BK128.out))
           have n0_ : Aside0 (((w36.setCell ⟨gb128, 0, none⟩ (.int .i64 ((rd_T134 l0_1 x43_2).f0))).setCell ⟨gb128, 1, none⟩ (.int .i64 ((rd_T134 l0_1 x43_2).f1))).heap[gb124]? = some (.cells #[.int .i64 a0_0, .slice (some ad127) l0_1.length c0_1, .slice A0_2 l0_2.length c0_2, .slice A0_3 l0_3.length c0_3] 67 (0, 0))) := ⟨by (with_reducible repeat (first | refine blk_drewN ?_ _ | refine blk_drew ?_ | refine blk_alloc ?_ _)); refine blk_far ?_ NB124_128.out _; (with_reducible repeat (first | refine blk_drewN ?_ _ | refine blk_drew ?_ | refine blk_alloc ?_ _)); refine blk_far ?_ NB124_128.out _; (with_reducible repeat (first | refine blk_drewN ?_ _ | refine blk_drew ?_ | refine blk_alloc ?_ _)); exact BK124.out⟩
           have n1_ : Aside0 (((w36.setCell ⟨gb128, 0, none⟩ (.int .i64 ((rd_T134 l0_1 x43_2).f0))).setCell ⟨gb128, 1, none⟩ (.int .i64 ((rd_T134 l0_1 x43_2).f1))).heap[gb125]? = some (.cells #[.int .i64 a1_0, .slice A1_1 l1_1.length c1_1, .slice A1_2 l1_2.length c1_2, .slice A1_3 l1_3.length c1_3] 67 (0, 0))) := ⟨by (with_reducible repeat (first | refine blk_drewN ?_ _ | refine blk_drew ?_ | refine blk_alloc ?_ _)); refine blk_far ?_ NB125_128.out _; (with_reducible repeat (first | refine blk_drewN ?_ _ | refine blk_drew ?_ | refine blk_alloc ?_ _)); refine blk_far ?_ NB125_128.out _; (with_reducible repeat (first | refine blk_drewN ?_ _ | refine blk_drew ?_ | refine blk_alloc ?_ _)); exact BK125.out⟩
           have n2_ : Aside0 (((w36.setCell ⟨gb128, 0, none⟩ (.int .i64 ((rd_T134 l0_1 x43_2).f0))).setCell ⟨gb128, 1, none⟩ (.int .i64 ((rd_T134 l0_1 x43_2).f1))).heap[gb128]? = some (.cells #[.int .i64 ((rd_T134 l0_1 x43_2).f0), .int .i64 ((rd_T134 l0_1 x43_2).f1)] 134 (0, 0))) := ⟨by (with_reducible repeat (first | refine blk_drewN ?_ _ | refine blk_drew ?_ | refine blk_alloc ?_ _)); refine blk_put (cs := #[.int .i64 ((rd_T134 l0_1 x43_2).f0), .int .i64 0]) ?_ 1 _ rfl; (with_reducible repeat (first | refine blk_drewN ?_ _ | refine blk_drew ?_ | refine blk_alloc ?_ _)); refine blk_put (cs := #[.int .i64 0, .int .i64 0]) ?_ 0 _ rfl; (with_reducible repeat (first | refine blk_drewN ?_ _ | refine blk_drew ?_ | refine blk_alloc ?_ _)); exact BK128.out⟩
           have n3_ : Aside0 (Below w.heap.size w ((w36.setCell ⟨gb128, 0, none⟩ (.int .i64 ((rd_T134 l0_1 x43_2).f0))).setCell ⟨gb128, 1, none⟩ (.int .i64 ((rd_T134 l0_1 x43_2).f1)))) := ⟨by repeat (first | (with_reducible first | exact HB.out | apply below_alloc | apply pw_below_drewN | apply below_drew1 | refine below_set ?_ GE124.out | refine below_set ?_ GE125.out | refine below_set ?_ GE128.out) | exact HB.out)⟩
           (try clear BK124)
           (try clear BK125)
           (try clear BK128)
           (try clear HB)
           generalize ((w36.setCell ⟨gb128, 0, none⟩ (.int .i64 ((rd_T134 l0_1 x43_2).f0))).setCell ⟨gb128, 1, none⟩ (.int .i64 ((rd_T134 l0_1 x43_2).f1))) = w40 at n0_ n1_ n2_ n3_ ⊢
           have BK124 := n0_
           have BK125 := n1_
           have BK128 := n2_
           have HB := n3_
           clear n0_ n1_ n2_ n3_
           have n0_ := Aside0.mk (blk_drew BK124.out)
           have n1_ := Aside0.mk (blk_drew BK125.out)
           have n2_ := Aside0.mk (blk_drew BK128.out)
           have n3_ := Aside0.mk (below_drew1 HB.out)
           clear BK124
           clear BK125
           clear BK128
           clear HB
           have BK124 := n0_
           have BK125 := n1_
           have BK128 := n2_
           have HB := n3_
           clear n0_ n1_ n2_ n3_
           have p129 : 0 ≤ (x43_2 : Int) := Lib.od
           have q129 : x43_2 < (l1_1.length : Int) := Lib.od
           obtain ⟨ad129, e129, hx129_0, hx129_1⟩ := at_T134 HR1_1.out x43_2 p129 q129
           have hw129_1 := hx129_1
           have hw129_0 := hx129_0
           cases e129
           replace hx129_0 := (HB.out.cell (World.block_lt_of_cell? w _ hx129_0)).trans hx129_0
           replace hx129_1 := (HB.out.cell (World.block_lt_of_cell? w _ hx129_1)).trans hx129_1
           replace p129 := eq_true p129
           replace q129 := eq_true q129
           refine start_ (n := 7) (S := fun w' => w'.cell? ⟨gb128, 0, none⟩ = some (.int .i64 ((rd_T134 l0_1 x43_2).f0)) ∧ w'.cell? ⟨gb128, 1, none⟩ = some (.int .i64 ((rd_T134 l0_1 x43_2).f1)) ∧ w'.cell? ⟨gb125, 0, none⟩ = some (.int .i64 a1_0) ∧ w'.cell? ⟨gb125, 1, none⟩ = some (.slice (some ad129) l1_1.length c1_1) ∧ w'.cell? ⟨gb125, 2, none⟩ = some (.slice A1_2 l1_2.length c1_2) ∧ w'.cell? ⟨gb125, 3, none⟩ = some (.slice A1_3 l1_3.length c1_3) ∧ w'.cell? (ad129.add ((x43_2).toNat * 2)) = some (.int .i64 ((rd_T134 l1_1 x43_2).f0)) ∧ w'.cell? ⟨(ad129.add ((x43_2).toNat * 2)).block, (ad129.add ((x43_2).toNat * 2)).off + 1, none⟩ = some (.int .i64 ((rd_T134 l1_1 x43_2).f1))) (ds := []) #[false, false, false, false, false, false, false] (by kernel_rfl) rfl rfl ⟨(blk_cell BK128.out 0).trans rfl, (blk_cell BK128.out 1).trans rfl, (blk_cell BK125.out 0).trans rfl, (blk_cell BK125.out 1).trans rfl, (blk_cell BK125.out 2).trans rfl, (blk_cell BK125.out 3).trans rfl, ((HB.out.cell (World.block_lt_of_cell? w _ hw129_0)).trans hw129_0), ((HB.out.cell (World.block_lt_of_cell? w _ hw129_1)).trans hw129_1)⟩ (fun hHeld => ?_)
           generalize w40.drew = w41 at BK124 BK125 BK128 HB hx129_0 hx129_1 hHeld ⊢
           refine pure_ (i := 1) (N := some 49) (v := ?_) (a' := ?_) #[false, true, false, false, false, false, false] rfl rfl (by kernel_rfl) (fun _ _ _ h => h) (Or.inl ⟨by rfl, ?_⟩) ?_ ?_
           rotate_left
           ·
            intro w'
            go_simp
            with_reducible rfl
           rotate_left
           ·
            simp only [Lib.pw, Lib.px, Lib.py, i64_w, i32_w]
            rfl
           refine pure_ (i := 3) (N := some 51) (v := ?_) (a' := ?_) #[false, true, false, true, false, false, false] rfl rfl (by kernel_rfl) (fun _ _ _ h => h) (Or.inl ⟨by rfl, ?_⟩) ?_ ?_
           rotate_left
           ·
            intro w'
            go_simp
            with_reducible rfl
           rotate_left
           ·
            simp only [Lib.pw, Lib.px, Lib.py, i64_w, i32_w]
            rfl
           refine take_ (i := 0) (N := some 48) (v := ?_) (a' := ?_) #[true, true, false, true, false, false, false] rfl rfl (by kernel_rfl) (fun _ _ _ h => h) (Or.inl ⟨by rfl, ?_⟩) hHeld ?_ ?_
           rotate_left
           ·
            rintro w' ⟨s0, s1, s2, s3, s4, s5, s6, s7⟩
            go_simp
            with_reducible rfl
           rotate_left
           ·
            simp only [Lib.pw, Lib.px, Lib.py, i64_w, i32_w]
            rfl
           refine take_ (i := 2) (N := some 50) (v := ?_) (a' := ?_) #[true, true, true, true, false, false, false] rfl rfl (by kernel_rfl) (fun _ _ _ h => h) (Or.inl ⟨by rfl, ?_⟩) hHeld ?_ ?_
           rotate_left
           ·
            rintro w' ⟨s0, s1, s2, s3, s4, s5, s6, s7⟩
            go_simp
            with_reducible rfl
           rotate_left
           ·
            simp only [Lib.pw, Lib.px, Lib.py, i64_w, i32_w]
            rfl
           refine pure_ (i := 4) (N := some 52) (v := ?_) (a' := ?_) #[true, true, true, true, true, false, false] rfl rfl (by kernel_rfl) (fun _ _ _ h => h) (Or.inl ⟨by rfl, ?_⟩) ?_ ?_
           rotate_left
           ·
            intro w'
            go_simp
            with_reducible rfl
           rotate_left
           ·
            simp only [Lib.pw, Lib.px, Lib.py, i64_w, i32_w]
            rfl
           refine take_ (i := 5) (N := some 53) (v := ?_) (a' := ?_) #[true, true, true, true, true, true, false] rfl rfl (by kernel_rfl) (fun _ _ _ h => h) (Or.inl ⟨by rfl, ?_⟩) hHeld ?_ ?_
           rotate_left
           ·
            rintro w' ⟨s0, s1, s2, s3, s4, s5, s6, s7⟩
            go_simp
            with_reducible rfl
           rotate_left
           ·
            simp only [Lib.pw, Lib.px, Lib.py, i64_w, i32_w]
            rfl
           refine pure_ (i := 6) (N := some 54) (v := ?_) (a' := ?_) #[true, true, true, true, true, true, true] rfl rfl (by kernel_rfl) (fun _ _ _ h => h) (Or.inl ⟨by rfl, ?_⟩) ?_ ?_
           rotate_left
           ·
            intro w'
            go_simp
            with_reducible rfl
           rotate_left
           ·
            simp only [Lib.pw, Lib.px, Lib.py, i64_w, i32_w]
            rfl
           refine done_ (by kernel_rfl) ?_
           try go_wp2
           go_roundg k2
           case measure => have := HJ2.out; have := HK2.out; omega
           case rel => exact ⟨(wrap64 (x43_2 + 1)), (by first | rfl | (simp; done) | (simp [*]; done)), H', ⟨by have := HJ2.out; have := HK2.out; omega⟩, ⟨by exact Lib.bk BK124.out⟩, ⟨by exact Lib.bk BK125.out⟩, ⟨by repeat (first | (with_reducible first | exact HB.out | apply below_alloc | apply pw_below_drewN | apply below_drew1 | refine below_set ?_ GE124.out | refine below_set ?_ GE125.out | refine below_set ?_ GE128.out) | exact HB.out)⟩⟩
         ·
          rw [if_neg c28] at H
          exact absurd H (by simp)
        ·
         rw [if_neg c27] at H
         exact absurd H (by simp)
       ·
        rw [if_neg c26] at H
        exact absurd H (by simp)
      ·
       rw [if_neg c25] at H
       have c25b0 : decide (x43_2 < (l0_1.length : Int)) = false := decide_eq_false c25
       clear c25
       have H' := Aside0.mk H
       clear H
       have hnb42 := NB124_125.out
       have hnc42 := NB125_124.out
       obtain ⟨hcz43_0, hcz43_1, hcz43_2, hcz43_3, hfz43_0, hfz43_1, hfz43_2, hfz43_3⟩ := Lib.cel4 (W := wr) BK124.out
       go_wp2
       go_loopg [59] k2 (fun kq v59 w' => ∃ (x59_3 : Int), v59 = .int .i64 x59_3 ∧ Aside0 (spec_SameFS.l1 kq l0_2 (l0_2.length : Int) x59_3 a1_0 l1_1 l1_2 l1_3 = some r) ∧ Aside0 (kq ≤ k2) ∧ Aside0 (w'.heap[gb124]? = some (.cells #[.int .i64 a0_0, (.slice A0_1 l0_1.length c0_1), (.slice A0_2 l0_2.length c0_2), (.slice A0_3 l0_3.length c0_3)] 67 (0, 0))) ∧ Aside0 (w'.heap[gb125]? = some (.cells #[.int .i64 a1_0, (.slice A1_1 l1_1.length c1_1), (.slice A1_2 l1_2.length c1_2), (.slice A1_3 l1_3.length c1_3)] 67 (0, 0))) ∧ Aside0 (Below w.heap.size w w'))
       case atStart => exact ⟨(0), (by first | rfl | (simp; done) | (simp [*]; done)), H', ⟨Nat.le_refl _⟩, ⟨by exact Lib.bk BK124.out⟩, ⟨by exact Lib.bk BK125.out⟩, ⟨by repeat (first | (with_reducible first | exact HB.out | apply below_alloc | apply pw_below_drewN | apply below_drew1 | refine below_set ?_ GE124.out | refine below_set ?_ GE125.out) | exact HB.out)⟩⟩
       case round =>
        clear H'
        try clear c1
        try clear p1
        try clear q1
        try clear hx1
        try clear c2
        try clear p2
        try clear c3
        try clear c4
        try clear c6
        try clear c6b0
        try clear c6b1
        try clear p6
        try clear c7
        try clear c7b0
        try clear c7b1
        try clear c7b2
        try clear c8
        try clear c8b0
        try clear c8b1
        try clear c8b2
        try clear c10
        try clear p12
        try clear q12
        try clear hx12
        try clear c13
        try clear c16
        try clear c19
        try clear c22
        try clear c23
        try clear c25
        try clear c25b0
        try clear c26
        try clear c26b0
        try clear c27
        try clear c27b0
        try clear c28
        try clear c28b0
        try clear c29
        try clear c29b0
        try clear c31
        try clear c32
        try clear c37
        try clear c38
        try clear c42
        try clear hcz11_0
        try clear hcz11_1
        try clear hcz11_2
        try clear hcz11_3
        try clear hcz12_0
        try clear hcz12_1
        try clear hcz12_2
        try clear hcz12_3
        try clear hcz14_0
        try clear hcz14_1
        try clear hcz14_2
        try clear hcz14_3
        try clear hcz15_0
        try clear hcz15_1
        try clear hcz15_2
        try clear hcz15_3
        try clear hcz17_0
        try clear hcz17_1
        try clear hcz17_2
        try clear hcz17_3
        try clear hcz18_0
        try clear hcz18_1
        try clear hcz18_2
        try clear hcz18_3
        try clear hcz20_0
        try clear hcz20_1
        try clear hcz20_2
        try clear hcz20_3
        try clear hcz21_0
        try clear hcz21_1
        try clear hcz21_2
        try clear hcz21_3
        try clear hcz24_0
        try clear hcz24_1
        try clear hcz24_2
        try clear hcz24_3
        try clear hcz33_0
        try clear hcz33_1
        try clear hcz39_0
        try clear hcz39_1
        try clear hcz43_0
        try clear hcz43_1
        try clear hcz43_2
        try clear hcz43_3
        try clear hfz11_0
        try clear hfz11_1
        try clear hfz11_2
        try clear hfz11_3
        try clear hfz12_0
        try clear hfz12_1
        try clear hfz12_2
        try clear hfz12_3
        try clear hfz14_0
        try clear hfz14_1
        try clear hfz14_2
        try clear hfz14_3
        try clear hfz15_0
        try clear hfz15_1
        try clear hfz15_2
        try clear hfz15_3
        try clear hfz17_0
        try clear hfz17_1
        try clear hfz17_2
        try clear hfz17_3
        try clear hfz18_0
        try clear hfz18_1
        try clear hfz18_2
        try clear hfz18_3
        try clear hfz20_0
        try clear hfz20_1
        try clear hfz20_2
        try clear hfz20_3
        try clear hfz21_0
        try clear hfz21_1
        try clear hfz21_2
        try clear hfz21_3
        try clear hfz24_0
        try clear hfz24_1
        try clear hfz24_2
        try clear hfz24_3
        try clear hfz33_0
        try clear hfz33_1
        try clear hfz39_0
        try clear hfz39_1
        try clear hfz43_0
        try clear hfz43_1
        try clear hfz43_2
        try clear hfz43_3
        try clear hx127_0
        try clear hx127_1
        try clear hx129_0
        try clear hx129_1
        try clear p127
        try clear p129
        try clear p2
        try clear q127
        try clear q129
        obtain ⟨x59_3, rfl, HA, HK3, BK124, BK125, HB⟩ := hrel
        cases gk with
        | zero => exact absurd HA.out (by simp [spec_SameFS.l1])
        | succ k3 =>
         have H := HA.out
         clear HA
         simp only [spec_SameFS.l1] at H
         by_cases c44 : x59_3 < (l0_2.length : Int)
         ·
          rw [if_pos c44] at H
          have c44b0 : decide (x59_3 < (l0_2.length : Int)) = true := decide_eq_true c44
          clear c44
          by_cases c45 : 0 ≤ x59_3
          ·
           rw [if_pos c45] at H
           have c45b0 : decide (0 ≤ x59_3) = true := decide_eq_true c45
           clear c45
           by_cases c46 : x59_3 < (l0_2.length : Int)
           ·
            rw [if_pos c46] at H
            have c46b0 : decide (x59_3 < (l0_2.length : Int)) = true := decide_eq_true c46
            clear c46
            by_cases c47 : x59_3 < (l1_2.length : Int)
            ·
             rw [if_pos c47] at H
             have c47b0 : decide (x59_3 < (l1_2.length : Int)) = true := decide_eq_true c47
             clear c47
             replace H := Option.bind_eq_some_iff.mp H
             obtain ⟨t133, A480, H⟩ := H
             try dsimp only at H
             have A48 := Aside0.mk A480
             clear A480
             by_cases c49 : t133 = true
             ·
              subst c49
              have H1 : (spec_SameFS.l1 k3 l0_2 (l0_2.length : Int) (wrap64 (x59_3 + 1)) a1_0 l1_1 l1_2 l1_3) = some r := by rw [if_pos rfl] at H; exact H
              clear H
              have H := H1
              clear H1
              have H' := Aside0.mk H
              clear H
              have p130 : 0 ≤ (x59_3 : Int) := Lib.od
              have q130 : x59_3 < (l0_2.length : Int) := Lib.od
              obtain ⟨ad130, A130_7, c130_7, A130_8, c130_8, A130_9, c130_9, e130, hx130_0, hx130_1, hx130_2, hx130_3, hx130_4, hx130_5, hx130_6, hx130_7, hx130_8, hx130_9, hl130_7, hi130_7, hl130_8, hi130_8, hl130_9, hi130_9⟩ := at_T37 HR0_2.out x59_3 p130 q130
              cases e130
              replace hx130_0 := (HB.out.cell (World.block_lt_of_cell? w _ hx130_0)).trans hx130_0
              replace hx130_1 := (HB.out.cell (World.block_lt_of_cell? w _ hx130_1)).trans hx130_1
              replace hx130_2 := (HB.out.cell (World.block_lt_of_cell? w _ hx130_2)).trans hx130_2
              replace hx130_3 := (HB.out.cell (World.block_lt_of_cell? w _ hx130_3)).trans hx130_3
              replace hx130_4 := (HB.out.cell (World.block_lt_of_cell? w _ hx130_4)).trans hx130_4
              replace hx130_5 := (HB.out.cell (World.block_lt_of_cell? w _ hx130_5)).trans hx130_5
              replace hx130_6 := (HB.out.cell (World.block_lt_of_cell? w _ hx130_6)).trans hx130_6
              replace hx130_7 := (HB.out.cell (World.block_lt_of_cell? w _ hx130_7)).trans hx130_7
              replace hx130_8 := (HB.out.cell (World.block_lt_of_cell? w _ hx130_8)).trans hx130_8
              replace hx130_9 := (HB.out.cell (World.block_lt_of_cell? w _ hx130_9)).trans hx130_9
              have HR130_7 := Aside0.mk hi130_7
              have HC130_7 := Aside0.mk hl130_7
              clear hi130_7 hl130_7
              have HR130_8 := Aside0.mk hi130_8
              have HC130_8 := Aside0.mk hl130_8
              clear hi130_8 hl130_8
              have HR130_9 := Aside0.mk hi130_9
              have HC130_9 := Aside0.mk hl130_9
              clear hi130_9 hl130_9
              replace p130 := eq_true p130
              replace q130 := eq_true q130
              try go_wp2_with (first | ((with_reducible refine gate_dst (N := 8) rfl ?_); (try (refine gate_guard (by rfl) ?_; dsimp only)); refine box_event ?hg (N := 8) ?hd (cs := #[.int .i64 0, .int .i64 0, .int .i64 0, .int .i64 0, .int .i64 0, .int .i64 0, .int .i64 0, .slice none 0 0, .slice none 0 0, .slice none 0 0]) (t := 37) ?hr ?_; (case hd => rfl); (case hg => rfl); (case hr => first | (go_simp; done) | (go_simp; rfl)); intro gb131 hg w50 hbox hb; have n0_ := Aside0.mk (blk_below (g := gb124) (o := .cells #[.int .i64 a0_0, .slice A0_1 l0_1.length c0_1, .slice (some ad130) l0_2.length c0_2, .slice A0_3 l0_3.length c0_3] 67 (0, 0)) (by exact Lib.bk BK124.out) hb); have n1_ := Aside0.mk (blk_below (g := gb125) (o := .cells #[.int .i64 a1_0, .slice A1_1 l1_1.length c1_1, .slice A1_2 l1_2.length c1_2, .slice A1_3 l1_3.length c1_3] 67 (0, 0)) (by exact Lib.bk BK125.out) hb); have n2_ := Aside0.mk (below_step (by repeat (first | (with_reducible first | exact HB.out | apply below_alloc | apply pw_below_drewN | apply below_drew1 | refine below_set ?_ GE124.out | refine below_set ?_ GE125.out) | exact HB.out)) hb); have n3_ := Aside0.mk (hbox); have n4_ := Aside0.mk ((by rw [hg]; exact (below_size (by repeat (first | (with_reducible first | exact HB.out | apply below_alloc | apply pw_below_drewN | apply below_drew1 | refine below_set ?_ GE124.out | refine below_set ?_ GE125.out) | exact HB.out))) : w.heap.size ≤ gb131)); have n5_ := Aside0.mk ((by rw [hg]; exact (below_size (by repeat (first | (with_reducible first | exact HB.out | apply below_alloc | apply pw_below_drewN | apply below_drew1 | refine below_set ?_ GE124.out | refine below_set ?_ GE125.out) | exact HB.out))) : w.heap.size ≤ gb131)); have n6_ := Aside0.mk ((by rw [hg]; exact Nat.ne_of_lt (blk_lt (g := gb124) (o := .cells #[.int .i64 a0_0, .slice A0_1 l0_1.length c0_1, .slice (some ad130) l0_2.length c0_2, .slice A0_3 l0_3.length c0_3] 67 (0, 0)) (by exact Lib.bk BK124.out)) : gb124 ≠ gb131)); have n7_ := Aside0.mk ((by rw [hg]; exact Nat.ne_of_gt (blk_lt (g := gb124) (o := .cells #[.int .i64 a0_0, .slice A0_1 l0_1.length c0_1, .slice (some ad130) l0_2.length c0_2, .slice A0_3 l0_3.length c0_3] 67 (0, 0)) (by exact Lib.bk BK124.out)) : gb131 ≠ gb124)); have n8_ := Aside0.mk ((by rw [hg]; exact Nat.ne_of_lt (blk_lt (g := gb125) (o := .cells #[.int .i64 a1_0, .slice A1_1 l1_1.length c1_1, .slice A1_2 l1_2.length c1_2, .slice A1_3 l1_3.length c1_3] 67 (0, 0)) (by exact Lib.bk BK125.out)) : gb125 ≠ gb131)); have n9_ := Aside0.mk ((by rw [hg]; exact Nat.ne_of_gt (blk_lt (g := gb125) (o := .cells #[.int .i64 a1_0, .slice A1_1 l1_1.length c1_1, .slice A1_2 l1_2.length c1_2, .slice A1_3 l1_3.length c1_3] 67 (0, 0)) (by exact Lib.bk BK125.out)) : gb131 ≠ gb125)); clear BK124; clear BK125; clear HB; have BK124 := n0_; have BK125 := n1_; have HB := n2_; have BK131 := n3_; have GW131 := n4_; have GE131 := n5_; have NB124_131 := n6_; have NB131_124 := n7_; have NB125_131 := n8_; have NB131_125 := n9_; clear n0_ n1_ n2_ n3_ n4_ n5_ n6_ n7_ n8_ n9_; clear hb hbox hg; have hnb51 := NB131_124.out; have hnc51 := NB124_131.out; have hnb52 := NB131_125.out; have hnc52 := NB125_131.out; obtain ⟨hcz53_0, hcz53_1, hcz53_2, hcz53_3, hcz53_4, hcz53_5, hcz53_6, hcz53_7, hcz53_8, hcz53_9, hfz53_0, hfz53_1, hfz53_2, hfz53_3, hfz53_4, hfz53_5, hfz53_6, hfz53_7, hfz53_8, hfz53_9⟩ := Lib.cel10 (W := w50) BK131.out))
              have n0_ : Aside0 (((((((((((w50.setCell ⟨gb131, 0, none⟩ (.int .i64 ((rd_T37 l0_2 x59_3).f0))).setCell ⟨gb131, 1, none⟩ (.int .i64 ((rd_T37 l0_2 x59_3).f1))).setCell ⟨gb131, 2, none⟩ (.int .i64 ((rd_T37 l0_2 x59_3).f2))).setCell ⟨gb131, 3, none⟩ (.int .i64 ((rd_T37 l0_2 x59_3).f3))).setCell ⟨gb131, 4, none⟩ (.int .i64 ((rd_T37 l0_2 x59_3).f4))).setCell ⟨gb131, 5, none⟩ (.int .i64 ((rd_T37 l0_2 x59_3).f5))).setCell ⟨gb131, 6, none⟩ (.int .i64 ((rd_T37 l0_2 x59_3).f6))).setCell ⟨gb131, 7, none⟩ (.slice A130_7 ((rd_T37 l0_2 x59_3).f7).length c130_7)).setCell ⟨gb131, 8, none⟩ (.slice A130_8 ((rd_T37 l0_2 x59_3).f8).length c130_8)).setCell ⟨gb131, 9, none⟩ (.slice A130_9 ((rd_T37 l0_2 x59_3).f9).length c130_9)).heap[gb124]? = some (.cells #[.int .i64 a0_0, .slice A0_1 l0_1.length c0_1, .slice (some ad130) l0_2.length c0_2, .slice A0_3 l0_3.length c0_3] 67 (0, 0))) := ⟨by (with_reducible repeat (first | refine blk_drewN ?_ _ | refine blk_drew ?_ | refine blk_alloc ?_ _)); refine blk_far ?_ NB124_131.out _; (with_reducible repeat (first | refine blk_drewN ?_ _ | refine blk_drew ?_ | refine blk_alloc ?_ _)); refine blk_far ?_ NB124_131.out _; (with_reducible repeat (first | refine blk_drewN ?_ _ | refine blk_drew ?_ | refine blk_alloc ?_ _)); refine blk_far ?_ NB124_131.out _; (with_reducible repeat (first | refine blk_drewN ?_ _ | refine blk_drew ?_ | refine blk_alloc ?_ _)); refine blk_far ?_ NB124_131.out _; (with_reducible repeat (first | refine blk_drewN ?_ _ | refine blk_drew ?_ | refine blk_alloc ?_ _)); refine blk_far ?_ NB124_131.out _; (with_reducible repeat (first | refine blk_drewN ?_ _ | refine blk_drew ?_ | refine blk_alloc ?_ _)); refine blk_far ?_ NB124_131.out _; (with_reducible repeat (first | refine blk_drewN ?_ _ | refine blk_drew ?_ | refine blk_alloc ?_ _)); refine blk_far ?_ NB124_131.out _; (with_reducible repeat (first | refine blk_drewN ?_ _ | refine blk_drew ?_ | refine blk_alloc ?_ _)); refine blk_far ?_ NB124_131.out _; (with_reducible repeat (first | refine blk_drewN ?_ _ | refine blk_drew ?_ | refine blk_alloc ?_ _)); refine blk_far ?_ NB124_131.out _; (with_reducible repeat (first | refine blk_drewN ?_ _ | refine blk_drew ?_ | refine blk_alloc ?_ _)); refine blk_far ?_ NB124_131.out _; (with_reducible repeat (first | refine blk_drewN ?_ _ | refine blk_drew ?_ | refine blk_alloc ?_ _)); exact BK124.out⟩
              have n1_ : Aside0 (((((((((((w50.setCell ⟨gb131, 0, none⟩ (.int .i64 ((rd_T37 l0_2 x59_3).f0))).setCell ⟨gb131, 1, none⟩ (.int .i64 ((rd_T37 l0_2 x59_3).f1))).setCell ⟨gb131, 2, none⟩ (.int .i64 ((rd_T37 l0_2 x59_3).f2))).setCell ⟨gb131, 3, none⟩ (.int .i64 ((rd_T37 l0_2 x59_3).f3))).setCell ⟨gb131, 4, none⟩ (.int .i64 ((rd_T37 l0_2 x59_3).f4))).setCell ⟨gb131, 5, none⟩ (.int .i64 ((rd_T37 l0_2 x59_3).f5))).setCell ⟨gb131, 6, none⟩ (.int .i64 ((rd_T37 l0_2 x59_3).f6))).setCell ⟨gb131, 7, none⟩ (.slice A130_7 ((rd_T37 l0_2 x59_3).f7).length c130_7)).setCell ⟨gb131, 8, none⟩ (.slice A130_8 ((rd_T37 l0_2 x59_3).f8).length c130_8)).setCell ⟨gb131, 9, none⟩ (.slice A130_9 ((rd_T37 l0_2 x59_3).f9).length c130_9)).heap[gb125]? = some (.cells #[.int .i64 a1_0, .slice A1_1 l1_1.length c1_1, .slice A1_2 l1_2.length c1_2, .slice A1_3 l1_3.length c1_3] 67 (0, 0))) := ⟨by (with_reducible repeat (first | refine blk_drewN ?_ _ | refine blk_drew ?_ | refine blk_alloc ?_ _)); refine blk_far ?_ NB125_131.out _; (with_reducible repeat (first | refine blk_drewN ?_ _ | refine blk_drew ?_ | refine blk_alloc ?_ _)); refine blk_far ?_ NB125_131.out _; (with_reducible repeat (first | refine blk_drewN ?_ _ | refine blk_drew ?_ | refine blk_alloc ?_ _)); refine blk_far ?_ NB125_131.out _; (with_reducible repeat (first | refine blk_drewN ?_ _ | refine blk_drew ?_ | refine blk_alloc ?_ _)); refine blk_far ?_ NB125_131.out _; (with_reducible repeat (first | refine blk_drewN ?_ _ | refine blk_drew ?_ | refine blk_alloc ?_ _)); refine blk_far ?_ NB125_131.out _; (with_reducible repeat (first | refine blk_drewN ?_ _ | refine blk_drew ?_ | refine blk_alloc ?_ _)); refine blk_far ?_ NB125_131.out _; (with_reducible repeat (first | refine blk_drewN ?_ _ | refine blk_drew ?_ | refine blk_alloc ?_ _)); refine blk_far ?_ NB125_131.out _; (with_reducible repeat (first | refine blk_drewN ?_ _ | refine blk_drew ?_ | refine blk_alloc ?_ _)); refine blk_far ?_ NB125_131.out _; (with_reducible repeat (first | refine blk_drewN ?_ _ | refine blk_drew ?_ | refine blk_alloc ?_ _)); refine blk_far ?_ NB125_131.out _; (with_reducible repeat (first | refine blk_drewN ?_ _ | refine blk_drew ?_ | refine blk_alloc ?_ _)); refine blk_far ?_ NB125_131.out _; (with_reducible repeat (first | refine blk_drewN ?_ _ | refine blk_drew ?_ | refine blk_alloc ?_ _)); exact BK125.out⟩
              have n2_ : Aside0 (((((((((((w50.setCell ⟨gb131, 0, none⟩ (.int .i64 ((rd_T37 l0_2 x59_3).f0))).setCell ⟨gb131, 1, none⟩ (.int .i64 ((rd_T37 l0_2 x59_3).f1))).setCell ⟨gb131, 2, none⟩ (.int .i64 ((rd_T37 l0_2 x59_3).f2))).setCell ⟨gb131, 3, none⟩ (.int .i64 ((rd_T37 l0_2 x59_3).f3))).setCell ⟨gb131, 4, none⟩ (.int .i64 ((rd_T37 l0_2 x59_3).f4))).setCell ⟨gb131, 5, none⟩ (.int .i64 ((rd_T37 l0_2 x59_3).f5))).setCell ⟨gb131, 6, none⟩ (.int .i64 ((rd_T37 l0_2 x59_3).f6))).setCell ⟨gb131, 7, none⟩ (.slice A130_7 ((rd_T37 l0_2 x59_3).f7).length c130_7)).setCell ⟨gb131, 8, none⟩ (.slice A130_8 ((rd_T37 l0_2 x59_3).f8).length c130_8)).setCell ⟨gb131, 9, none⟩ (.slice A130_9 ((rd_T37 l0_2 x59_3).f9).length c130_9)).heap[gb131]? = some (.cells #[.int .i64 ((rd_T37 l0_2 x59_3).f0), .int .i64 ((rd_T37 l0_2 x59_3).f1), .int .i64 ((rd_T37 l0_2 x59_3).f2), .int .i64 ((rd_T37 l0_2 x59_3).f3), .int .i64 ((rd_T37 l0_2 x59_3).f4), .int .i64 ((rd_T37 l0_2 x59_3).f5), .int .i64 ((rd_T37 l0_2 x59_3).f6), .slice A130_7 ((rd_T37 l0_2 x59_3).f7).length c130_7, .slice A130_8 ((rd_T37 l0_2 x59_3).f8).length c130_8, .slice A130_9 ((rd_T37 l0_2 x59_3).f9).length c130_9] 37 (0, 0))) := ⟨by (with_reducible repeat (first | refine blk_drewN ?_ _ | refine blk_drew ?_ | refine blk_alloc ?_ _)); refine blk_put (cs := #[.int .i64 ((rd_T37 l0_2 x59_3).f0), .int .i64 ((rd_T37 l0_2 x59_3).f1), .int .i64 ((rd_T37 l0_2 x59_3).f2), .int .i64 ((rd_T37 l0_2 x59_3).f3), .int .i64 ((rd_T37 l0_2 x59_3).f4), .int .i64 ((rd_T37 l0_2 x59_3).f5), .int .i64 ((rd_T37 l0_2 x59_3).f6), .slice A130_7 ((rd_T37 l0_2 x59_3).f7).length c130_7, .slice A130_8 ((rd_T37 l0_2 x59_3).f8).length c130_8, .slice none 0 0]) ?_ 9 _ rfl; (with_reducible repeat (first | refine blk_drewN ?_ _ | refine blk_drew ?_ | refine blk_alloc ?_ _)); refine blk_put (cs := #[.int .i64 ((rd_T37 l0_2 x59_3).f0), .int .i64 ((rd_T37 l0_2 x59_3).f1), .int .i64 ((rd_T37 l0_2 x59_3).f2), .int .i64 ((rd_T37 l0_2 x59_3).f3), .int .i64 ((rd_T37 l0_2 x59_3).f4), .int .i64 ((rd_T37 l0_2 x59_3).f5), .int .i64 ((rd_T37 l0_2 x59_3).f6), .slice A130_7 ((rd_T37 l0_2 x59_3).f7).length c130_7, .slice none 0 0, .slice none 0 0]) ?_ 8 _ rfl; (with_reducible repeat (first | refine blk_drewN ?_ _ | refine blk_drew ?_ | refine blk_alloc ?_ _)); refine blk_put (cs := #[.int .i64 ((rd_T37 l0_2 x59_3).f0), .int .i64 ((rd_T37 l0_2 x59_3).f1), .int .i64 ((rd_T37 l0_2 x59_3).f2), .int .i64 ((rd_T37 l0_2 x59_3).f3), .int .i64 ((rd_T37 l0_2 x59_3).f4), .int .i64 ((rd_T37 l0_2 x59_3).f5), .int .i64 ((rd_T37 l0_2 x59_3).f6), .slice none 0 0, .slice none 0 0, .slice none 0 0]) ?_ 7 _ rfl; (with_reducible repeat (first | refine blk_drewN ?_ _ | refine blk_drew ?_ | refine blk_alloc ?_ _)); refine blk_put (cs := #[.int .i64 ((rd_T37 l0_2 x59_3).f0), .int .i64 ((rd_T37 l0_2 x59_3).f1), .int .i64 ((rd_T37 l0_2 x59_3).f2), .int .i64 ((rd_T37 l0_2 x59_3).f3), .int .i64 ((rd_T37 l0_2 x59_3).f4), .int .i64 ((rd_T37 l0_2 x59_3).f5), .int .i64 0, .slice none 0 0, .slice none 0 0, .slice none 0 0]) ?_ 6 _ rfl; (with_reducible repeat (first | refine blk_drewN ?_ _ | refine blk_drew ?_ | refine blk_alloc ?_ _)); refine blk_put (cs := #[.int .i64 ((rd_T37 l0_2 x59_3).f0), .int .i64 ((rd_T37 l0_2 x59_3).f1), .int .i64 ((rd_T37 l0_2 x59_3).f2), .int .i64 ((rd_T37 l0_2 x59_3).f3), .int .i64 ((rd_T37 l0_2 x59_3).f4), .int .i64 0, .int .i64 0, .slice none 0 0, .slice none 0 0, .slice none 0 0]) ?_ 5 _ rfl; (with_reducible repeat (first | refine blk_drewN ?_ _ | refine blk_drew ?_ | refine blk_alloc ?_ _)); refine blk_put (cs := #[.int .i64 ((rd_T37 l0_2 x59_3).f0), .int .i64 ((rd_T37 l0_2 x59_3).f1), .int .i64 ((rd_T37 l0_2 x59_3).f2), .int .i64 ((rd_T37 l0_2 x59_3).f3), .int .i64 0, .int .i64 0, .int .i64 0, .slice none 0 0, .slice none 0 0, .slice none 0 0]) ?_ 4 _ rfl; (with_reducible repeat (first | refine blk_drewN ?_ _ | refine blk_drew ?_ | refine blk_alloc ?_ _)); refine blk_put (cs := #[.int .i64 ((rd_T37 l0_2 x59_3).f0), .int .i64 ((rd_T37 l0_2 x59_3).f1), .int .i64 ((rd_T37 l0_2 x59_3).f2), .int .i64 0, .int .i64 0, .int .i64 0, .int .i64 0, .slice none 0 0, .slice none 0 0, .slice none 0 0]) ?_ 3 _ rfl; (with_reducible repeat (first | refine blk_drewN ?_ _ | refine blk_drew ?_ | refine blk_alloc ?_ _)); refine blk_put (cs := #[.int .i64 ((rd_T37 l0_2 x59_3).f0), .int .i64 ((rd_T37 l0_2 x59_3).f1), .int .i64 0, .int .i64 0, .int .i64 0, .int .i64 0, .int .i64 0, .slice none 0 0, .slice none 0 0, .slice none 0 0]) ?_ 2 _ rfl; (with_reducible repeat (first | refine blk_drewN ?_ _ | refine blk_drew ?_ | refine blk_alloc ?_ _)); refine blk_put (cs := #[.int .i64 ((rd_T37 l0_2 x59_3).f0), .int .i64 0, .int .i64 0, .int .i64 0, .int .i64 0, .int .i64 0, .int .i64 0, .slice none 0 0, .slice none 0 0, .slice none 0 0]) ?_ 1 _ rfl; (with_reducible repeat (first | refine blk_drewN ?_ _ | refine blk_drew ?_ | refine blk_alloc ?_ _)); refine blk_put (cs := #[.int .i64 0, .int .i64 0, .int .i64 0, .int .i64 0, .int .i64 0, .int .i64 0, .int .i64 0, .slice none 0 0, .slice none 0 0, .slice none 0 0]) ?_ 0 _ rfl; (with_reducible repeat (first | refine blk_drewN ?_ _ | refine blk_drew ?_ | refine blk_alloc ?_ _)); exact BK131.out⟩
              have n3_ : Aside0 (Below w.heap.size w ((((((((((w50.setCell ⟨gb131, 0, none⟩ (.int .i64 ((rd_T37 l0_2 x59_3).f0))).setCell ⟨gb131, 1, none⟩ (.int .i64 ((rd_T37 l0_2 x59_3).f1))).setCell ⟨gb131, 2, none⟩ (.int .i64 ((rd_T37 l0_2 x59_3).f2))).setCell ⟨gb131, 3, none⟩ (.int .i64 ((rd_T37 l0_2 x59_3).f3))).setCell ⟨gb131, 4, none⟩ (.int .i64 ((rd_T37 l0_2 x59_3).f4))).setCell ⟨gb131, 5, none⟩ (.int .i64 ((rd_T37 l0_2 x59_3).f5))).setCell ⟨gb131, 6, none⟩ (.int .i64 ((rd_T37 l0_2 x59_3).f6))).setCell ⟨gb131, 7, none⟩ (.slice A130_7 ((rd_T37 l0_2 x59_3).f7).length c130_7)).setCell ⟨gb131, 8, none⟩ (.slice A130_8 ((rd_T37 l0_2 x59_3).f8).length c130_8)).setCell ⟨gb131, 9, none⟩ (.slice A130_9 ((rd_T37 l0_2 x59_3).f9).length c130_9))) := ⟨by repeat (first | (with_reducible first | exact HB.out | apply below_alloc | apply pw_below_drewN | apply below_drew1 | refine below_set ?_ GE124.out | refine below_set ?_ GE125.out | refine below_set ?_ GE131.out) | exact HB.out)⟩
              (try clear BK124)
              (try clear BK125)
              (try clear BK131)
              (try clear HB)
              generalize ((((((((((w50.setCell ⟨gb131, 0, none⟩ (.int .i64 ((rd_T37 l0_2 x59_3).f0))).setCell ⟨gb131, 1, none⟩ (.int .i64 ((rd_T37 l0_2 x59_3).f1))).setCell ⟨gb131, 2, none⟩ (.int .i64 ((rd_T37 l0_2 x59_3).f2))).setCell ⟨gb131, 3, none⟩ (.int .i64 ((rd_T37 l0_2 x59_3).f3))).setCell ⟨gb131, 4, none⟩ (.int .i64 ((rd_T37 l0_2 x59_3).f4))).setCell ⟨gb131, 5, none⟩ (.int .i64 ((rd_T37 l0_2 x59_3).f5))).setCell ⟨gb131, 6, none⟩ (.int .i64 ((rd_T37 l0_2 x59_3).f6))).setCell ⟨gb131, 7, none⟩ (.slice A130_7 ((rd_T37 l0_2 x59_3).f7).length c130_7)).setCell ⟨gb131, 8, none⟩ (.slice A130_8 ((rd_T37 l0_2 x59_3).f8).length c130_8)).setCell ⟨gb131, 9, none⟩ (.slice A130_9 ((rd_T37 l0_2 x59_3).f9).length c130_9)) = w54 at n0_ n1_ n2_ n3_ ⊢
              have BK124 := n0_
              have BK125 := n1_
              have BK131 := n2_
              have HB := n3_
              clear n0_ n1_ n2_ n3_
              have n0_ := Aside0.mk (blk_drew BK124.out)
              have n1_ := Aside0.mk (blk_drew BK125.out)
              have n2_ := Aside0.mk (blk_drew BK131.out)
              have n3_ := Aside0.mk (below_drew1 HB.out)
              clear BK124
              clear BK125
              clear BK131
              clear HB
              have BK124 := n0_
              have BK125 := n1_
              have BK131 := n2_
              have HB := n3_
              clear n0_ n1_ n2_ n3_
              have p132 : 0 ≤ (x59_3 : Int) := Lib.od
              have q132 : x59_3 < (l1_2.length : Int) := Lib.od
              obtain ⟨ad132, A132_7, c132_7, A132_8, c132_8, A132_9, c132_9, e132, hx132_0, hx132_1, hx132_2, hx132_3, hx132_4, hx132_5, hx132_6, hx132_7, hx132_8, hx132_9, hl132_7, hi132_7, hl132_8, hi132_8, hl132_9, hi132_9⟩ := at_T37 HR1_2.out x59_3 p132 q132
              have hw132_9 := hx132_9
              have hw132_8 := hx132_8
              have hw132_7 := hx132_7
              have hw132_6 := hx132_6
              have hw132_5 := hx132_5
              have hw132_4 := hx132_4
              have hw132_3 := hx132_3
              have hw132_2 := hx132_2
              have hw132_1 := hx132_1
              have hw132_0 := hx132_0
              cases e132
              replace hx132_0 := (HB.out.cell (World.block_lt_of_cell? w _ hx132_0)).trans hx132_0
              replace hx132_1 := (HB.out.cell (World.block_lt_of_cell? w _ hx132_1)).trans hx132_1
              replace hx132_2 := (HB.out.cell (World.block_lt_of_cell? w _ hx132_2)).trans hx132_2
              replace hx132_3 := (HB.out.cell (World.block_lt_of_cell? w _ hx132_3)).trans hx132_3
              replace hx132_4 := (HB.out.cell (World.block_lt_of_cell? w _ hx132_4)).trans hx132_4
              replace hx132_5 := (HB.out.cell (World.block_lt_of_cell? w _ hx132_5)).trans hx132_5
              replace hx132_6 := (HB.out.cell (World.block_lt_of_cell? w _ hx132_6)).trans hx132_6
              replace hx132_7 := (HB.out.cell (World.block_lt_of_cell? w _ hx132_7)).trans hx132_7
              replace hx132_8 := (HB.out.cell (World.block_lt_of_cell? w _ hx132_8)).trans hx132_8
              replace hx132_9 := (HB.out.cell (World.block_lt_of_cell? w _ hx132_9)).trans hx132_9
              have HR132_7 := Aside0.mk hi132_7
              have HC132_7 := Aside0.mk hl132_7
              clear hi132_7 hl132_7
              have HR132_8 := Aside0.mk hi132_8
              have HC132_8 := Aside0.mk hl132_8
              clear hi132_8 hl132_8
              have HR132_9 := Aside0.mk hi132_9
              have HC132_9 := Aside0.mk hl132_9
              clear hi132_9 hl132_9
              replace p132 := eq_true p132
              replace q132 := eq_true q132
              refine start_ (n := 8) (S := fun w' => w'.cell? ⟨gb131, 0, none⟩ = some (.int .i64 ((rd_T37 l0_2 x59_3).f0)) ∧ w'.cell? ⟨gb131, 1, none⟩ = some (.int .i64 ((rd_T37 l0_2 x59_3).f1)) ∧ w'.cell? ⟨gb131, 2, none⟩ = some (.int .i64 ((rd_T37 l0_2 x59_3).f2)) ∧ w'.cell? ⟨gb131, 3, none⟩ = some (.int .i64 ((rd_T37 l0_2 x59_3).f3)) ∧ w'.cell? ⟨gb131, 4, none⟩ = some (.int .i64 ((rd_T37 l0_2 x59_3).f4)) ∧ w'.cell? ⟨gb131, 5, none⟩ = some (.int .i64 ((rd_T37 l0_2 x59_3).f5)) ∧ w'.cell? ⟨gb131, 6, none⟩ = some (.int .i64 ((rd_T37 l0_2 x59_3).f6)) ∧ w'.cell? ⟨gb131, 7, none⟩ = some (.slice A130_7 ((rd_T37 l0_2 x59_3).f7).length c130_7) ∧ w'.cell? ⟨gb131, 8, none⟩ = some (.slice A130_8 ((rd_T37 l0_2 x59_3).f8).length c130_8) ∧ w'.cell? ⟨gb131, 9, none⟩ = some (.slice A130_9 ((rd_T37 l0_2 x59_3).f9).length c130_9) ∧ w'.cell? ⟨gb125, 0, none⟩ = some (.int .i64 a1_0) ∧ w'.cell? ⟨gb125, 1, none⟩ = some (.slice A1_1 l1_1.length c1_1) ∧ w'.cell? ⟨gb125, 2, none⟩ = some (.slice (some ad132) l1_2.length c1_2) ∧ w'.cell? ⟨gb125, 3, none⟩ = some (.slice A1_3 l1_3.length c1_3) ∧ w'.cell? (ad132.add ((x59_3).toNat * 10)) = some (.int .i64 ((rd_T37 l1_2 x59_3).f0)) ∧ w'.cell? ⟨(ad132.add ((x59_3).toNat * 10)).block, (ad132.add ((x59_3).toNat * 10)).off + 1, none⟩ = some (.int .i64 ((rd_T37 l1_2 x59_3).f1)) ∧ w'.cell? ⟨(ad132.add ((x59_3).toNat * 10)).block, (ad132.add ((x59_3).toNat * 10)).off + 2, none⟩ = some (.int .i64 ((rd_T37 l1_2 x59_3).f2)) ∧ w'.cell? ⟨(ad132.add ((x59_3).toNat * 10)).block, (ad132.add ((x59_3).toNat * 10)).off + 3, none⟩ = some (.int .i64 ((rd_T37 l1_2 x59_3).f3)) ∧ w'.cell? ⟨(ad132.add ((x59_3).toNat * 10)).block, (ad132.add ((x59_3).toNat * 10)).off + 4, none⟩ = some (.int .i64 ((rd_T37 l1_2 x59_3).f4)) ∧ w'.cell? ⟨(ad132.add ((x59_3).toNat * 10)).block, (ad132.add ((x59_3).toNat * 10)).off + 5, none⟩ = some (.int .i64 ((rd_T37 l1_2 x59_3).f5)) ∧ w'.cell? ⟨(ad132.add ((x59_3).toNat * 10)).block, (ad132.add ((x59_3).toNat * 10)).off + 6, none⟩ = some (.int .i64 ((rd_T37 l1_2 x59_3).f6)) ∧ w'.cell? ⟨(ad132.add ((x59_3).toNat * 10)).block, (ad132.add ((x59_3).toNat * 10)).off + 7, none⟩ = some (.slice A132_7 ((rd_T37 l1_2 x59_3).f7).length c132_7) ∧ w'.cell? ⟨(ad132.add ((x59_3).toNat * 10)).block, (ad132.add ((x59_3).toNat * 10)).off + 8, none⟩ = some (.slice A132_8 ((rd_T37 l1_2 x59_3).f8).length c132_8) ∧ w'.cell? ⟨(ad132.add ((x59_3).toNat * 10)).block, (ad132.add ((x59_3).toNat * 10)).off + 9, none⟩ = some (.slice A132_9 ((rd_T37 l1_2 x59_3).f9).length c132_9)) (ds := []) #[false, false, false, false, false, false, false, false] (by kernel_rfl) rfl rfl ⟨(blk_cell BK131.out 0).trans rfl, (blk_cell BK131.out 1).trans rfl, (blk_cell BK131.out 2).trans rfl, (blk_cell BK131.out 3).trans rfl, (blk_cell BK131.out 4).trans rfl, (blk_cell BK131.out 5).trans rfl, (blk_cell BK131.out 6).trans rfl, (blk_cell BK131.out 7).trans rfl, (blk_cell BK131.out 8).trans rfl, (blk_cell BK131.out 9).trans rfl, (blk_cell BK125.out 0).trans rfl, (blk_cell BK125.out 1).trans rfl, (blk_cell BK125.out 2).trans rfl, (blk_cell BK125.out 3).trans rfl, ((HB.out.cell (World.block_lt_of_cell? w _ hw132_0)).trans hw132_0), ((HB.out.cell (World.block_lt_of_cell? w _ hw132_1)).trans hw132_1), ((HB.out.cell (World.block_lt_of_cell? w _ hw132_2)).trans hw132_2), ((HB.out.cell (World.block_lt_of_cell? w _ hw132_3)).trans hw132_3), ((HB.out.cell (World.block_lt_of_cell? w _ hw132_4)).trans hw132_4), ((HB.out.cell (World.block_lt_of_cell? w _ hw132_5)).trans hw132_5), ((HB.out.cell (World.block_lt_of_cell? w _ hw132_6)).trans hw132_6), ((HB.out.cell (World.block_lt_of_cell? w _ hw132_7)).trans hw132_7), ((HB.out.cell (World.block_lt_of_cell? w _ hw132_8)).trans hw132_8), ((HB.out.cell (World.block_lt_of_cell? w _ hw132_9)).trans hw132_9)⟩ (fun hHeld => ?_); refine with_tabW spec_SameFS.tab12 spec_SameFS.bits12 (fun HT_ HW_ => ?_)
              generalize w54.drew = w55 at BK124 BK125 BK131 HB HR132_7 HR132_8 HR132_9 hx132_0 hx132_1 hx132_2 hx132_3 hx132_4 hx132_5 hx132_6 hx132_7 hx132_8 hx132_9 hHeld ⊢
              refine pure_ (i := 1) (N := some 65) (v := ?_) (a' := ?_) #[false, true, false, false, false, false, false, false] rfl rfl (any_of HT_.out (by kernel_rfl)) (fun _ _ _ h => h) (Or.inl ⟨by rfl, ?_⟩) ?_ ?_
              rotate_left
              ·
               intro w'
               go_simp
               with_reducible rfl
              rotate_left
              ·
               simp only [Lib.pw, Lib.px, Lib.py, i64_w, i32_w]
               rfl
              refine pure_ (i := 3) (N := some 67) (v := ?_) (a' := ?_) #[false, true, false, true, false, false, false, false] rfl rfl (any_of HT_.out (by kernel_rfl)) (fun _ _ _ h => h) (Or.inl ⟨by rfl, ?_⟩) ?_ ?_
              rotate_left
              ·
               intro w'
               go_simp
               with_reducible rfl
              rotate_left
              ·
               simp only [Lib.pw, Lib.px, Lib.py, i64_w, i32_w]
               rfl
              refine take_ (i := 0) (N := some 64) (v := ?_) (a' := ?_) #[true, true, false, true, false, false, false, false] rfl rfl (take_ofW HT_.out HW_.out (by kernel_rfl)) (fun _ _ _ h => h) (Or.inl ⟨by rfl, ?_⟩) hHeld ?_ ?_
              rotate_left
              ·
               rintro w' ⟨s0, s1, s2, s3, s4, s5, s6, s7, s8, s9, s10, s11, s12, s13, s14, s15, s16, s17, s18, s19, s20, s21, s22, s23⟩
               go_simp
               with_reducible rfl
              rotate_left
              ·
               simp only [Lib.pw, Lib.px, Lib.py, i64_w, i32_w]
               rfl
              refine take_ (i := 2) (N := some 66) (v := ?_) (a' := ?_) #[true, true, true, true, false, false, false, false] rfl rfl (take_ofW HT_.out HW_.out (by kernel_rfl)) (fun _ _ _ h => h) (Or.inl ⟨by rfl, ?_⟩) hHeld ?_ ?_
              rotate_left
              ·
               rintro w' ⟨s0, s1, s2, s3, s4, s5, s6, s7, s8, s9, s10, s11, s12, s13, s14, s15, s16, s17, s18, s19, s20, s21, s22, s23⟩
               go_simp
               with_reducible rfl
              rotate_left
              ·
               simp only [Lib.pw, Lib.px, Lib.py, i64_w, i32_w]
               rfl
              refine pure_ (i := 4) (N := some 68) (v := ?_) (a' := ?_) #[true, true, true, true, true, false, false, false] rfl rfl (any_of HT_.out (by kernel_rfl)) (fun _ _ _ h => h) (Or.inl ⟨by rfl, ?_⟩) ?_ ?_
              rotate_left
              ·
               intro w'
               go_simp
               with_reducible rfl
              rotate_left
              ·
               simp only [Lib.pw, Lib.px, Lib.py, i64_w, i32_w]
               rfl
              refine take_ (i := 5) (N := some 69) (v := ?_) (a' := ?_) #[true, true, true, true, true, true, false, false] rfl rfl (take_ofW HT_.out HW_.out (by kernel_rfl)) (fun _ _ _ h => h) (Or.inl ⟨by rfl, ?_⟩) hHeld ?_ ?_
              rotate_left
              ·
               rintro w' ⟨s0, s1, s2, s3, s4, s5, s6, s7, s8, s9, s10, s11, s12, s13, s14, s15, s16, s17, s18, s19, s20, s21, s22, s23⟩
               go_simp
               with_reducible rfl
              rotate_left
              ·
               simp only [Lib.pw, Lib.px, Lib.py, i64_w, i32_w]
               rfl
              refine one_ (i := 6) (N := some 70) #[true, true, true, true, true, true, true, false] rfl rfl (one_of HT_.out (by kernel_rfl)) (by decide) (fun K hK => ?_)
              refine goes_ Try.func76 (by kernel_rfl) rfl #[.agg #[.int .i64 ((rd_T37 l0_2 x59_3).f0), .int .i64 ((rd_T37 l0_2 x59_3).f1), .int .i64 ((rd_T37 l0_2 x59_3).f2), .int .i64 ((rd_T37 l0_2 x59_3).f3), .int .i64 ((rd_T37 l0_2 x59_3).f4), .int .i64 ((rd_T37 l0_2 x59_3).f5), .int .i64 ((rd_T37 l0_2 x59_3).f6), .slice A130_7 ((rd_T37 l0_2 x59_3).f7).length c130_7, .slice A130_8 ((rd_T37 l0_2 x59_3).f8).length c130_8, .slice A130_9 ((rd_T37 l0_2 x59_3).f9).length c130_9], .agg #[.int .i64 ((rd_T37 l1_2 x59_3).f0), .int .i64 ((rd_T37 l1_2 x59_3).f1), .int .i64 ((rd_T37 l1_2 x59_3).f2), .int .i64 ((rd_T37 l1_2 x59_3).f3), .int .i64 ((rd_T37 l1_2 x59_3).f4), .int .i64 ((rd_T37 l1_2 x59_3).f5), .int .i64 ((rd_T37 l1_2 x59_3).f6), .slice A132_7 ((rd_T37 l1_2 x59_3).f7).length c132_7, .slice A132_8 ((rd_T37 l1_2 x59_3).f8).length c132_8, .slice A132_9 ((rd_T37 l1_2 x59_3).f9).length c132_9]] (by rfl) rfl rfl (by (try simp only [List.map_toArray, List.map_cons, List.map_nil]); first | done | rfl | (simp only [List.length_drop, List.length_take]; rfl)) ?_
              with_reducible refine (spec_SameInode.calls k3 ((rd_T37 l0_2 x59_3).f0) ((rd_T37 l0_2 x59_3).f1) ((rd_T37 l0_2 x59_3).f2) ((rd_T37 l0_2 x59_3).f3) ((rd_T37 l0_2 x59_3).f4) ((rd_T37 l0_2 x59_3).f5) ((rd_T37 l0_2 x59_3).f6) _ _ ((rd_T37 l0_2 x59_3).f7) _ _ ((rd_T37 l0_2 x59_3).f8) _ _ ((rd_T37 l0_2 x59_3).f9) ((rd_T37 l1_2 x59_3).f0) ((rd_T37 l1_2 x59_3).f1) ((rd_T37 l1_2 x59_3).f2) ((rd_T37 l1_2 x59_3).f3) ((rd_T37 l1_2 x59_3).f4) ((rd_T37 l1_2 x59_3).f5) ((rd_T37 l1_2 x59_3).f6) _ _ ((rd_T37 l1_2 x59_3).f7) _ _ ((rd_T37 l1_2 x59_3).f8) _ _ ((rd_T37 l1_2 x59_3).f9) true _ ?side1 ?side2 ?side3 ?side4 ?side5 ?side6 ?side7 ?side8 ?side9 ?side10 ?side11 ?side12 A48.out).mono ?_
              (case side1 => exact Lib.cx (Kd.C_below HR130_7.out HB.out))
              (case side2 => exact HC130_7.out)
              (case side3 => exact Lib.cx (Kd.C_below HR130_8.out HB.out))
              (case side4 => exact HC130_8.out)
              (case side5 => exact Lib.cx (Kd.C_below HR130_9.out HB.out))
              (case side6 => exact HC130_9.out)
              (case side7 => exact Lib.cx (Kd.C_below HR132_7.out HB.out))
              (case side8 => exact HC132_7.out)
              (case side9 => exact Lib.cx (Kd.C_below HR132_8.out HB.out))
              (case side10 => exact HC132_8.out)
              (case side11 => exact Lib.cx (Kd.C_below HR132_9.out HB.out))
              (case side12 => exact HC132_9.out)
              rintro e w56 ⟨rfl, hb⟩
              refine ⟨_, rfl, ?_⟩
              have n0_ := Aside0.mk (blk_below (g := gb124) (o := .cells #[.int .i64 a0_0, .slice A0_1 l0_1.length c0_1, .slice (some ad130) l0_2.length c0_2, .slice A0_3 l0_3.length c0_3] 67 (0, 0)) (by exact Lib.bk BK124.out) hb)
              have n1_ := Aside0.mk (blk_below (g := gb125) (o := .cells #[.int .i64 a1_0, .slice A1_1 l1_1.length c1_1, .slice (some ad132) l1_2.length c1_2, .slice A1_3 l1_3.length c1_3] 67 (0, 0)) (by exact Lib.bk BK125.out) hb)
              have n2_ := Aside0.mk (blk_below (g := gb131) (o := .cells #[.int .i64 ((rd_T37 l0_2 x59_3).f0), .int .i64 ((rd_T37 l0_2 x59_3).f1), .int .i64 ((rd_T37 l0_2 x59_3).f2), .int .i64 ((rd_T37 l0_2 x59_3).f3), .int .i64 ((rd_T37 l0_2 x59_3).f4), .int .i64 ((rd_T37 l0_2 x59_3).f5), .int .i64 ((rd_T37 l0_2 x59_3).f6), .slice A130_7 ((rd_T37 l0_2 x59_3).f7).length c130_7, .slice A130_8 ((rd_T37 l0_2 x59_3).f8).length c130_8, .slice A130_9 ((rd_T37 l0_2 x59_3).f9).length c130_9] 37 (0, 0)) (by exact Lib.bk BK131.out) hb)
              have n3_ := Aside0.mk (below_step (by repeat (first | (with_reducible first | exact HB.out | apply below_alloc | apply pw_below_drewN | apply below_drew1 | refine below_set ?_ GE124.out | refine below_set ?_ GE125.out | refine below_set ?_ GE131.out) | exact HB.out)) hb)
              clear BK124
              clear BK125
              clear BK131
              clear HB
              have BK124 := n0_
              have BK125 := n1_
              have BK131 := n2_
              have HB := n3_
              clear n0_ n1_ n2_ n3_
              (try clear hb)
              (try clear hb2)
              (try clear hk)
              (try clear hi)
              refine hK.out _ _ ⟨(blk_cell BK131.out 0).trans rfl, (blk_cell BK131.out 1).trans rfl, (blk_cell BK131.out 2).trans rfl, (blk_cell BK131.out 3).trans rfl, (blk_cell BK131.out 4).trans rfl, (blk_cell BK131.out 5).trans rfl, (blk_cell BK131.out 6).trans rfl, (blk_cell BK131.out 7).trans rfl, (blk_cell BK131.out 8).trans rfl, (blk_cell BK131.out 9).trans rfl, (blk_cell BK125.out 0).trans rfl, (blk_cell BK125.out 1).trans rfl, (blk_cell BK125.out 2).trans rfl, (blk_cell BK125.out 3).trans rfl, ((HB.out.cell (World.block_lt_of_cell? w _ hw132_0)).trans hw132_0), ((HB.out.cell (World.block_lt_of_cell? w _ hw132_1)).trans hw132_1), ((HB.out.cell (World.block_lt_of_cell? w _ hw132_2)).trans hw132_2), ((HB.out.cell (World.block_lt_of_cell? w _ hw132_3)).trans hw132_3), ((HB.out.cell (World.block_lt_of_cell? w _ hw132_4)).trans hw132_4), ((HB.out.cell (World.block_lt_of_cell? w _ hw132_5)).trans hw132_5), ((HB.out.cell (World.block_lt_of_cell? w _ hw132_6)).trans hw132_6), ((HB.out.cell (World.block_lt_of_cell? w _ hw132_7)).trans hw132_7), ((HB.out.cell (World.block_lt_of_cell? w _ hw132_8)).trans hw132_8), ((HB.out.cell (World.block_lt_of_cell? w _ hw132_9)).trans hw132_9)⟩ (fun hHeld => ?_)
              clear hK K
              refine norm_ (a' := ?_) ?_ ?_
              rotate_left
              ·
               show Act.put _ (some 70) _ = _
               simp only [Lib.pw, Lib.px, Lib.py, i64_w, i32_w]
               rfl
              refine pure_ (i := 7) (N := some 71) (v := ?_) (a' := ?_) #[true, true, true, true, true, true, true, true] rfl rfl (any_of HT_.out (by kernel_rfl)) (fun _ _ _ h => h) (Or.inl ⟨by rfl, ?_⟩) ?_ ?_
              rotate_left
              ·
               intro w'
               go_simp
               with_reducible rfl
              rotate_left
              ·
               simp only [Lib.pw, Lib.px, Lib.py, i64_w, i32_w]
               rfl
              refine done_ (done_of HT_.out (by kernel_rfl)) ?_
              try go_wp2
              go_roundg k3
              case measure => have := HJ2.out; have := HK2.out; have := HK3.out; omega
              case rel => exact ⟨(wrap64 (x59_3 + 1)), (by first | rfl | (simp; done) | (simp [*]; done)), H', ⟨by have := HJ2.out; have := HK2.out; have := HK3.out; omega⟩, ⟨by exact Lib.bk BK124.out⟩, ⟨by exact Lib.bk BK125.out⟩, ⟨by repeat (first | (with_reducible first | exact HB.out | apply below_alloc | apply pw_below_drewN | apply below_drew1 | refine below_set ?_ GE124.out | refine below_set ?_ GE125.out | refine below_set ?_ GE131.out) | exact HB.out)⟩⟩
             ·
              replace c49 := Bool.eq_false_iff.mpr c49
              subst c49
              have H1 : (some false) = some r := by rw [if_neg (show ¬ (false = true) by decide)] at H; exact H
              clear H
              have H := H1
              clear H1
              obtain rfl := Option.some.inj H
              have p130 : 0 ≤ (x59_3 : Int) := Lib.od
              have q130 : x59_3 < (l0_2.length : Int) := Lib.od
              obtain ⟨ad130, A130_7, c130_7, A130_8, c130_8, A130_9, c130_9, e130, hx130_0, hx130_1, hx130_2, hx130_3, hx130_4, hx130_5, hx130_6, hx130_7, hx130_8, hx130_9, hl130_7, hi130_7, hl130_8, hi130_8, hl130_9, hi130_9⟩ := at_T37 HR0_2.out x59_3 p130 q130
              cases e130
              replace hx130_0 := (HB.out.cell (World.block_lt_of_cell? w _ hx130_0)).trans hx130_0
              replace hx130_1 := (HB.out.cell (World.block_lt_of_cell? w _ hx130_1)).trans hx130_1
              replace hx130_2 := (HB.out.cell (World.block_lt_of_cell? w _ hx130_2)).trans hx130_2
              replace hx130_3 := (HB.out.cell (World.block_lt_of_cell? w _ hx130_3)).trans hx130_3
              replace hx130_4 := (HB.out.cell (World.block_lt_of_cell? w _ hx130_4)).trans hx130_4
              replace hx130_5 := (HB.out.cell (World.block_lt_of_cell? w _ hx130_5)).trans hx130_5
              replace hx130_6 := (HB.out.cell (World.block_lt_of_cell? w _ hx130_6)).trans hx130_6
              replace hx130_7 := (HB.out.cell (World.block_lt_of_cell? w _ hx130_7)).trans hx130_7
              replace hx130_8 := (HB.out.cell (World.block_lt_of_cell? w _ hx130_8)).trans hx130_8
              replace hx130_9 := (HB.out.cell (World.block_lt_of_cell? w _ hx130_9)).trans hx130_9
              have HR130_7 := Aside0.mk hi130_7
              have HC130_7 := Aside0.mk hl130_7
              clear hi130_7 hl130_7
              have HR130_8 := Aside0.mk hi130_8
              have HC130_8 := Aside0.mk hl130_8
              clear hi130_8 hl130_8
              have HR130_9 := Aside0.mk hi130_9
              have HC130_9 := Aside0.mk hl130_9
              clear hi130_9 hl130_9
              replace p130 := eq_true p130
              replace q130 := eq_true q130
              try go_wp2_with (first | ((with_reducible refine gate_dst (N := 8) rfl ?_); (try (refine gate_guard (by rfl) ?_; dsimp only)); refine box_event ?hg (N := 8) ?hd (cs := #[.int .i64 0, .int .i64 0, .int .i64 0, .int .i64 0, .int .i64 0, .int .i64 0, .int .i64 0, .slice none 0 0, .slice none 0 0, .slice none 0 0]) (t := 37) ?hr ?_; (case hd => rfl); (case hg => rfl); (case hr => first | (go_simp; done) | (go_simp; rfl)); intro gb131 hg w57 hbox hb; have n0_ := Aside0.mk (blk_below (g := gb124) (o := .cells #[.int .i64 a0_0, .slice A0_1 l0_1.length c0_1, .slice (some ad130) l0_2.length c0_2, .slice A0_3 l0_3.length c0_3] 67 (0, 0)) (by exact Lib.bk BK124.out) hb); have n1_ := Aside0.mk (blk_below (g := gb125) (o := .cells #[.int .i64 a1_0, .slice A1_1 l1_1.length c1_1, .slice A1_2 l1_2.length c1_2, .slice A1_3 l1_3.length c1_3] 67 (0, 0)) (by exact Lib.bk BK125.out) hb); have n2_ := Aside0.mk (below_step (by repeat (first | (with_reducible first | exact HB.out | apply below_alloc | apply pw_below_drewN | apply below_drew1 | refine below_set ?_ GE124.out | refine below_set ?_ GE125.out) | exact HB.out)) hb); have n3_ := Aside0.mk (hbox); have n4_ := Aside0.mk ((by rw [hg]; exact (below_size (by repeat (first | (with_reducible first | exact HB.out | apply below_alloc | apply pw_below_drewN | apply below_drew1 | refine below_set ?_ GE124.out | refine below_set ?_ GE125.out) | exact HB.out))) : w.heap.size ≤ gb131)); have n5_ := Aside0.mk ((by rw [hg]; exact (below_size (by repeat (first | (with_reducible first | exact HB.out | apply below_alloc | apply pw_below_drewN | apply below_drew1 | refine below_set ?_ GE124.out | refine below_set ?_ GE125.out) | exact HB.out))) : w.heap.size ≤ gb131)); have n6_ := Aside0.mk ((by rw [hg]; exact Nat.ne_of_lt (blk_lt (g := gb124) (o := .cells #[.int .i64 a0_0, .slice A0_1 l0_1.length c0_1, .slice (some ad130) l0_2.length c0_2, .slice A0_3 l0_3.length c0_3] 67 (0, 0)) (by exact Lib.bk BK124.out)) : gb124 ≠ gb131)); have n7_ := Aside0.mk ((by rw [hg]; exact Nat.ne_of_gt (blk_lt (g := gb124) (o := .cells #[.int .i64 a0_0, .slice A0_1 l0_1.length c0_1, .slice (some ad130) l0_2.length c0_2, .slice A0_3 l0_3.length c0_3] 67 (0, 0)) (by exact Lib.bk BK124.out)) : gb131 ≠ gb124)); have n8_ := Aside0.mk ((by rw [hg]; exact Nat.ne_of_lt (blk_lt (g := gb125) (o := .cells #[.int .i64 a1_0, .slice A1_1 l1_1.length c1_1, .slice A1_2 l1_2.length c1_2, .slice A1_3 l1_3.length c1_3] 67 (0, 0)) (by exact Lib.bk BK125.out)) : gb125 ≠ gb131)); have n9_ := Aside0.mk ((by rw [hg]; exact Nat.ne_of_gt (blk_lt (g := gb125) (o := .cells #[.int .i64 a1_0, .slice A1_1 l1_1.length c1_1, .slice A1_2 l1_2.length c1_2, .slice A1_3 l1_3.length c1_3] 67 (0, 0)) (by exact Lib.bk BK125.out)) : gb131 ≠ gb125)); clear BK124; clear BK125; clear HB; have BK124 := n0_; have BK125 := n1_; have HB := n2_; have BK131 := n3_; have GW131 := n4_; have GE131 := n5_; have NB124_131 := n6_; have NB131_124 := n7_; have NB125_131 := n8_; have NB131_125 := n9_; clear n0_ n1_ n2_ n3_ n4_ n5_ n6_ n7_ n8_ n9_; clear hb hbox hg; have hnb58 := NB131_124.out; have hnc58 := NB124_131.out; have hnb59 := NB131_125.out; have hnc59 := NB125_131.out; obtain ⟨hcz60_0, hcz60_1, hcz60_2, hcz60_3, hcz60_4, hcz60_5, hcz60_6, hcz60_7, hcz60_8, hcz60_9, hfz60_0, hfz60_1, hfz60_2, hfz60_3, hfz60_4, hfz60_5, hfz60_6, hfz60_7, hfz60_8, hfz60_9⟩ := Lib.cel10 (W := w57) BK131.out))
              have n0_ : Aside0 (((((((((((w57.setCell ⟨gb131, 0, none⟩ (.int .i64 ((rd_T37 l0_2 x59_3).f0))).setCell ⟨gb131, 1, none⟩ (.int .i64 ((rd_T37 l0_2 x59_3).f1))).setCell ⟨gb131, 2, none⟩ (.int .i64 ((rd_T37 l0_2 x59_3).f2))).setCell ⟨gb131, 3, none⟩ (.int .i64 ((rd_T37 l0_2 x59_3).f3))).setCell ⟨gb131, 4, none⟩ (.int .i64 ((rd_T37 l0_2 x59_3).f4))).setCell ⟨gb131, 5, none⟩ (.int .i64 ((rd_T37 l0_2 x59_3).f5))).setCell ⟨gb131, 6, none⟩ (.int .i64 ((rd_T37 l0_2 x59_3).f6))).setCell ⟨gb131, 7, none⟩ (.slice A130_7 ((rd_T37 l0_2 x59_3).f7).length c130_7)).setCell ⟨gb131, 8, none⟩ (.slice A130_8 ((rd_T37 l0_2 x59_3).f8).length c130_8)).setCell ⟨gb131, 9, none⟩ (.slice A130_9 ((rd_T37 l0_2 x59_3).f9).length c130_9)).heap[gb124]? = some (.cells #[.int .i64 a0_0, .slice A0_1 l0_1.length c0_1, .slice (some ad130) l0_2.length c0_2, .slice A0_3 l0_3.length c0_3] 67 (0, 0))) := ⟨by (with_reducible repeat (first | refine blk_drewN ?_ _ | refine blk_drew ?_ | refine blk_alloc ?_ _)); refine blk_far ?_ NB124_131.out _; (with_reducible repeat (first | refine blk_drewN ?_ _ | refine blk_drew ?_ | refine blk_alloc ?_ _)); refine blk_far ?_ NB124_131.out _; (with_reducible repeat (first | refine blk_drewN ?_ _ | refine blk_drew ?_ | refine blk_alloc ?_ _)); refine blk_far ?_ NB124_131.out _; (with_reducible repeat (first | refine blk_drewN ?_ _ | refine blk_drew ?_ | refine blk_alloc ?_ _)); refine blk_far ?_ NB124_131.out _; (with_reducible repeat (first | refine blk_drewN ?_ _ | refine blk_drew ?_ | refine blk_alloc ?_ _)); refine blk_far ?_ NB124_131.out _; (with_reducible repeat (first | refine blk_drewN ?_ _ | refine blk_drew ?_ | refine blk_alloc ?_ _)); refine blk_far ?_ NB124_131.out _; (with_reducible repeat (first | refine blk_drewN ?_ _ | refine blk_drew ?_ | refine blk_alloc ?_ _)); refine blk_far ?_ NB124_131.out _; (with_reducible repeat (first | refine blk_drewN ?_ _ | refine blk_drew ?_ | refine blk_alloc ?_ _)); refine blk_far ?_ NB124_131.out _; (with_reducible repeat (first | refine blk_drewN ?_ _ | refine blk_drew ?_ | refine blk_alloc ?_ _)); refine blk_far ?_ NB124_131.out _; (with_reducible repeat (first | refine blk_drewN ?_ _ | refine blk_drew ?_ | refine blk_alloc ?_ _)); refine blk_far ?_ NB124_131.out _; (with_reducible repeat (first | refine blk_drewN ?_ _ | refine blk_drew ?_ | refine blk_alloc ?_ _)); exact BK124.out⟩
              have n1_ : Aside0 (((((((((((w57.setCell ⟨gb131, 0, none⟩ (.int .i64 ((rd_T37 l0_2 x59_3).f0))).setCell ⟨gb131, 1, none⟩ (.int .i64 ((rd_T37 l0_2 x59_3).f1))).setCell ⟨gb131, 2, none⟩ (.int .i64 ((rd_T37 l0_2 x59_3).f2))).setCell ⟨gb131, 3, none⟩ (.int .i64 ((rd_T37 l0_2 x59_3).f3))).setCell ⟨gb131, 4, none⟩ (.int .i64 ((rd_T37 l0_2 x59_3).f4))).setCell ⟨gb131, 5, none⟩ (.int .i64 ((rd_T37 l0_2 x59_3).f5))).setCell ⟨gb131, 6, none⟩ (.int .i64 ((rd_T37 l0_2 x59_3).f6))).setCell ⟨gb131, 7, none⟩ (.slice A130_7 ((rd_T37 l0_2 x59_3).f7).length c130_7)).setCell ⟨gb131, 8, none⟩ (.slice A130_8 ((rd_T37 l0_2 x59_3).f8).length c130_8)).setCell ⟨gb131, 9, none⟩ (.slice A130_9 ((rd_T37 l0_2 x59_3).f9).length c130_9)).heap[gb125]? = some (.cells #[.int .i64 a1_0, .slice A1_1 l1_1.length c1_1, .slice A1_2 l1_2.length c1_2, .slice A1_3 l1_3.length c1_3] 67 (0, 0))) := ⟨by (with_reducible repeat (first | refine blk_drewN ?_ _ | refine blk_drew ?_ | refine blk_alloc ?_ _)); refine blk_far ?_ NB125_131.out _; (with_reducible repeat (first | refine blk_drewN ?_ _ | refine blk_drew ?_ | refine blk_alloc ?_ _)); refine blk_far ?_ NB125_131.out _; (with_reducible repeat (first | refine blk_drewN ?_ _ | refine blk_drew ?_ | refine blk_alloc ?_ _)); refine blk_far ?_ NB125_131.out _; (with_reducible repeat (first | refine blk_drewN ?_ _ | refine blk_drew ?_ | refine blk_alloc ?_ _)); refine blk_far ?_ NB125_131.out _; (with_reducible repeat (first | refine blk_drewN ?_ _ | refine blk_drew ?_ | refine blk_alloc ?_ _)); refine blk_far ?_ NB125_131.out _; (with_reducible repeat (first | refine blk_drewN ?_ _ | refine blk_drew ?_ | refine blk_alloc ?_ _)); refine blk_far ?_ NB125_131.out _; (with_reducible repeat (first | refine blk_drewN ?_ _ | refine blk_drew ?_ | refine blk_alloc ?_ _)); refine blk_far ?_ NB125_131.out _; (with_reducible repeat (first | refine blk_drewN ?_ _ | refine blk_drew ?_ | refine blk_alloc ?_ _)); refine blk_far ?_ NB125_131.out _; (with_reducible repeat (first | refine blk_drewN ?_ _ | refine blk_drew ?_ | refine blk_alloc ?_ _)); refine blk_far ?_ NB125_131.out _; (with_reducible repeat (first | refine blk_drewN ?_ _ | refine blk_drew ?_ | refine blk_alloc ?_ _)); refine blk_far ?_ NB125_131.out _; (with_reducible repeat (first | refine blk_drewN ?_ _ | refine blk_drew ?_ | refine blk_alloc ?_ _)); exact BK125.out⟩
              have n2_ : Aside0 (((((((((((w57.setCell ⟨gb131, 0, none⟩ (.int .i64 ((rd_T37 l0_2 x59_3).f0))).setCell ⟨gb131, 1, none⟩ (.int .i64 ((rd_T37 l0_2 x59_3).f1))).setCell ⟨gb131, 2, none⟩ (.int .i64 ((rd_T37 l0_2 x59_3).f2))).setCell ⟨gb131, 3, none⟩ (.int .i64 ((rd_T37 l0_2 x59_3).f3))).setCell ⟨gb131, 4, none⟩ (.int .i64 ((rd_T37 l0_2 x59_3).f4))).setCell ⟨gb131, 5, none⟩ (.int .i64 ((rd_T37 l0_2 x59_3).f5))).setCell ⟨gb131, 6, none⟩ (.int .i64 ((rd_T37 l0_2 x59_3).f6))).setCell ⟨gb131, 7, none⟩ (.slice A130_7 ((rd_T37 l0_2 x59_3).f7).length c130_7)).setCell ⟨gb131, 8, none⟩ (.slice A130_8 ((rd_T37 l0_2 x59_3).f8).length c130_8)).setCell ⟨gb131, 9, none⟩ (.slice A130_9 ((rd_T37 l0_2 x59_3).f9).length c130_9)).heap[gb131]? = some (.cells #[.int .i64 ((rd_T37 l0_2 x59_3).f0), .int .i64 ((rd_T37 l0_2 x59_3).f1), .int .i64 ((rd_T37 l0_2 x59_3).f2), .int .i64 ((rd_T37 l0_2 x59_3).f3), .int .i64 ((rd_T37 l0_2 x59_3).f4), .int .i64 ((rd_T37 l0_2 x59_3).f5), .int .i64 ((rd_T37 l0_2 x59_3).f6), .slice A130_7 ((rd_T37 l0_2 x59_3).f7).length c130_7, .slice A130_8 ((rd_T37 l0_2 x59_3).f8).length c130_8, .slice A130_9 ((rd_T37 l0_2 x59_3).f9).length c130_9] 37 (0, 0))) := ⟨by (with_reducible repeat (first | refine blk_drewN ?_ _ | refine blk_drew ?_ | refine blk_alloc ?_ _)); refine blk_put (cs := #[.int .i64 ((rd_T37 l0_2 x59_3).f0), .int .i64 ((rd_T37 l0_2 x59_3).f1), .int .i64 ((rd_T37 l0_2 x59_3).f2), .int .i64 ((rd_T37 l0_2 x59_3).f3), .int .i64 ((rd_T37 l0_2 x59_3).f4), .int .i64 ((rd_T37 l0_2 x59_3).f5), .int .i64 ((rd_T37 l0_2 x59_3).f6), .slice A130_7 ((rd_T37 l0_2 x59_3).f7).length c130_7, .slice A130_8 ((rd_T37 l0_2 x59_3).f8).length c130_8, .slice none 0 0]) ?_ 9 _ rfl; (with_reducible repeat (first | refine blk_drewN ?_ _ | refine blk_drew ?_ | refine blk_alloc ?_ _)); refine blk_put (cs := #[.int .i64 ((rd_T37 l0_2 x59_3).f0), .int .i64 ((rd_T37 l0_2 x59_3).f1), .int .i64 ((rd_T37 l0_2 x59_3).f2), .int .i64 ((rd_T37 l0_2 x59_3).f3), .int .i64 ((rd_T37 l0_2 x59_3).f4), .int .i64 ((rd_T37 l0_2 x59_3).f5), .int .i64 ((rd_T37 l0_2 x59_3).f6), .slice A130_7 ((rd_T37 l0_2 x59_3).f7).length c130_7, .slice none 0 0, .slice none 0 0]) ?_ 8 _ rfl; (with_reducible repeat (first | refine blk_drewN ?_ _ | refine blk_drew ?_ | refine blk_alloc ?_ _)); refine blk_put (cs := #[.int .i64 ((rd_T37 l0_2 x59_3).f0), .int .i64 ((rd_T37 l0_2 x59_3).f1), .int .i64 ((rd_T37 l0_2 x59_3).f2), .int .i64 ((rd_T37 l0_2 x59_3).f3), .int .i64 ((rd_T37 l0_2 x59_3).f4), .int .i64 ((rd_T37 l0_2 x59_3).f5), .int .i64 ((rd_T37 l0_2 x59_3).f6), .slice none 0 0, .slice none 0 0, .slice none 0 0]) ?_ 7 _ rfl; (with_reducible repeat (first | refine blk_drewN ?_ _ | refine blk_drew ?_ | refine blk_alloc ?_ _)); refine blk_put (cs := #[.int .i64 ((rd_T37 l0_2 x59_3).f0), .int .i64 ((rd_T37 l0_2 x59_3).f1), .int .i64 ((rd_T37 l0_2 x59_3).f2), .int .i64 ((rd_T37 l0_2 x59_3).f3), .int .i64 ((rd_T37 l0_2 x59_3).f4), .int .i64 ((rd_T37 l0_2 x59_3).f5), .int .i64 0, .slice none 0 0, .slice none 0 0, .slice none 0 0]) ?_ 6 _ rfl; (with_reducible repeat (first | refine blk_drewN ?_ _ | refine blk_drew ?_ | refine blk_alloc ?_ _)); refine blk_put (cs := #[.int .i64 ((rd_T37 l0_2 x59_3).f0), .int .i64 ((rd_T37 l0_2 x59_3).f1), .int .i64 ((rd_T37 l0_2 x59_3).f2), .int .i64 ((rd_T37 l0_2 x59_3).f3), .int .i64 ((rd_T37 l0_2 x59_3).f4), .int .i64 0, .int .i64 0, .slice none 0 0, .slice none 0 0, .slice none 0 0]) ?_ 5 _ rfl; (with_reducible repeat (first | refine blk_drewN ?_ _ | refine blk_drew ?_ | refine blk_alloc ?_ _)); refine blk_put (cs := #[.int .i64 ((rd_T37 l0_2 x59_3).f0), .int .i64 ((rd_T37 l0_2 x59_3).f1), .int .i64 ((rd_T37 l0_2 x59_3).f2), .int .i64 ((rd_T37 l0_2 x59_3).f3), .int .i64 0, .int .i64 0, .int .i64 0, .slice none 0 0, .slice none 0 0, .slice none 0 0]) ?_ 4 _ rfl; (with_reducible repeat (first | refine blk_drewN ?_ _ | refine blk_drew ?_ | refine blk_alloc ?_ _)); refine blk_put (cs := #[.int .i64 ((rd_T37 l0_2 x59_3).f0), .int .i64 ((rd_T37 l0_2 x59_3).f1), .int .i64 ((rd_T37 l0_2 x59_3).f2), .int .i64 0, .int .i64 0, .int .i64 0, .int .i64 0, .slice none 0 0, .slice none 0 0, .slice none 0 0]) ?_ 3 _ rfl; (with_reducible repeat (first | refine blk_drewN ?_ _ | refine blk_drew ?_ | refine blk_alloc ?_ _)); refine blk_put (cs := #[.int .i64 ((rd_T37 l0_2 x59_3).f0), .int .i64 ((rd_T37 l0_2 x59_3).f1), .int .i64 0, .int .i64 0, .int .i64 0, .int .i64 0, .int .i64 0, .slice none 0 0, .slice none 0 0, .slice none 0 0]) ?_ 2 _ rfl; (with_reducible repeat (first | refine blk_drewN ?_ _ | refine blk_drew ?_ | refine blk_alloc ?_ _)); refine blk_put (cs := #[.int .i64 ((rd_T37 l0_2 x59_3).f0), .int .i64 0, .int .i64 0, .int .i64 0, .int .i64 0, .int .i64 0, .int .i64 0, .slice none 0 0, .slice none 0 0, .slice none 0 0]) ?_ 1 _ rfl; (with_reducible repeat (first | refine blk_drewN ?_ _ | refine blk_drew ?_ | refine blk_alloc ?_ _)); refine blk_put (cs := #[.int .i64 0, .int .i64 0, .int .i64 0, .int .i64 0, .int .i64 0, .int .i64 0, .int .i64 0, .slice none 0 0, .slice none 0 0, .slice none 0 0]) ?_ 0 _ rfl; (with_reducible repeat (first | refine blk_drewN ?_ _ | refine blk_drew ?_ | refine blk_alloc ?_ _)); exact BK131.out⟩
              have n3_ : Aside0 (Below w.heap.size w ((((((((((w57.setCell ⟨gb131, 0, none⟩ (.int .i64 ((rd_T37 l0_2 x59_3).f0))).setCell ⟨gb131, 1, none⟩ (.int .i64 ((rd_T37 l0_2 x59_3).f1))).setCell ⟨gb131, 2, none⟩ (.int .i64 ((rd_T37 l0_2 x59_3).f2))).setCell ⟨gb131, 3, none⟩ (.int .i64 ((rd_T37 l0_2 x59_3).f3))).setCell ⟨gb131, 4, none⟩ (.int .i64 ((rd_T37 l0_2 x59_3).f4))).setCell ⟨gb131, 5, none⟩ (.int .i64 ((rd_T37 l0_2 x59_3).f5))).setCell ⟨gb131, 6, none⟩ (.int .i64 ((rd_T37 l0_2 x59_3).f6))).setCell ⟨gb131, 7, none⟩ (.slice A130_7 ((rd_T37 l0_2 x59_3).f7).length c130_7)).setCell ⟨gb131, 8, none⟩ (.slice A130_8 ((rd_T37 l0_2 x59_3).f8).length c130_8)).setCell ⟨gb131, 9, none⟩ (.slice A130_9 ((rd_T37 l0_2 x59_3).f9).length c130_9))) := ⟨by repeat (first | (with_reducible first | exact HB.out | apply below_alloc | apply pw_below_drewN | apply below_drew1 | refine below_set ?_ GE124.out | refine below_set ?_ GE125.out | refine below_set ?_ GE131.out) | exact HB.out)⟩
              (try clear BK124)
              (try clear BK125)
              (try clear BK131)
              (try clear HB)
              generalize ((((((((((w57.setCell ⟨gb131, 0, none⟩ (.int .i64 ((rd_T37 l0_2 x59_3).f0))).setCell ⟨gb131, 1, none⟩ (.int .i64 ((rd_T37 l0_2 x59_3).f1))).setCell ⟨gb131, 2, none⟩ (.int .i64 ((rd_T37 l0_2 x59_3).f2))).setCell ⟨gb131, 3, none⟩ (.int .i64 ((rd_T37 l0_2 x59_3).f3))).setCell ⟨gb131, 4, none⟩ (.int .i64 ((rd_T37 l0_2 x59_3).f4))).setCell ⟨gb131, 5, none⟩ (.int .i64 ((rd_T37 l0_2 x59_3).f5))).setCell ⟨gb131, 6, none⟩ (.int .i64 ((rd_T37 l0_2 x59_3).f6))).setCell ⟨gb131, 7, none⟩ (.slice A130_7 ((rd_T37 l0_2 x59_3).f7).length c130_7)).setCell ⟨gb131, 8, none⟩ (.slice A130_8 ((rd_T37 l0_2 x59_3).f8).length c130_8)).setCell ⟨gb131, 9, none⟩ (.slice A130_9 ((rd_T37 l0_2 x59_3).f9).length c130_9)) = w61 at n0_ n1_ n2_ n3_ ⊢
              have BK124 := n0_
              have BK125 := n1_
              have BK131 := n2_
              have HB := n3_
              clear n0_ n1_ n2_ n3_
              have n0_ := Aside0.mk (blk_drew BK124.out)
              have n1_ := Aside0.mk (blk_drew BK125.out)
              have n2_ := Aside0.mk (blk_drew BK131.out)
              have n3_ := Aside0.mk (below_drew1 HB.out)
              clear BK124
              clear BK125
              clear BK131
              clear HB
              have BK124 := n0_
              have BK125 := n1_
              have BK131 := n2_
              have HB := n3_
              clear n0_ n1_ n2_ n3_
              have p132 : 0 ≤ (x59_3 : Int) := Lib.od
              have q132 : x59_3 < (l1_2.length : Int) := Lib.od
              obtain ⟨ad132, A132_7, c132_7, A132_8, c132_8, A132_9, c132_9, e132, hx132_0, hx132_1, hx132_2, hx132_3, hx132_4, hx132_5, hx132_6, hx132_7, hx132_8, hx132_9, hl132_7, hi132_7, hl132_8, hi132_8, hl132_9, hi132_9⟩ := at_T37 HR1_2.out x59_3 p132 q132
              have hw132_9 := hx132_9
              have hw132_8 := hx132_8
              have hw132_7 := hx132_7
              have hw132_6 := hx132_6
              have hw132_5 := hx132_5
              have hw132_4 := hx132_4
              have hw132_3 := hx132_3
              have hw132_2 := hx132_2
              have hw132_1 := hx132_1
              have hw132_0 := hx132_0
              cases e132
              replace hx132_0 := (HB.out.cell (World.block_lt_of_cell? w _ hx132_0)).trans hx132_0
              replace hx132_1 := (HB.out.cell (World.block_lt_of_cell? w _ hx132_1)).trans hx132_1
              replace hx132_2 := (HB.out.cell (World.block_lt_of_cell? w _ hx132_2)).trans hx132_2
              replace hx132_3 := (HB.out.cell (World.block_lt_of_cell? w _ hx132_3)).trans hx132_3
              replace hx132_4 := (HB.out.cell (World.block_lt_of_cell? w _ hx132_4)).trans hx132_4
              replace hx132_5 := (HB.out.cell (World.block_lt_of_cell? w _ hx132_5)).trans hx132_5
              replace hx132_6 := (HB.out.cell (World.block_lt_of_cell? w _ hx132_6)).trans hx132_6
              replace hx132_7 := (HB.out.cell (World.block_lt_of_cell? w _ hx132_7)).trans hx132_7
              replace hx132_8 := (HB.out.cell (World.block_lt_of_cell? w _ hx132_8)).trans hx132_8
              replace hx132_9 := (HB.out.cell (World.block_lt_of_cell? w _ hx132_9)).trans hx132_9
              have HR132_7 := Aside0.mk hi132_7
              have HC132_7 := Aside0.mk hl132_7
              clear hi132_7 hl132_7
              have HR132_8 := Aside0.mk hi132_8
              have HC132_8 := Aside0.mk hl132_8
              clear hi132_8 hl132_8
              have HR132_9 := Aside0.mk hi132_9
              have HC132_9 := Aside0.mk hl132_9
              clear hi132_9 hl132_9
              replace p132 := eq_true p132
              replace q132 := eq_true q132
              refine start_ (n := 8) (S := fun w' => w'.cell? ⟨gb131, 0, none⟩ = some (.int .i64 ((rd_T37 l0_2 x59_3).f0)) ∧ w'.cell? ⟨gb131, 1, none⟩ = some (.int .i64 ((rd_T37 l0_2 x59_3).f1)) ∧ w'.cell? ⟨gb131, 2, none⟩ = some (.int .i64 ((rd_T37 l0_2 x59_3).f2)) ∧ w'.cell? ⟨gb131, 3, none⟩ = some (.int .i64 ((rd_T37 l0_2 x59_3).f3)) ∧ w'.cell? ⟨gb131, 4, none⟩ = some (.int .i64 ((rd_T37 l0_2 x59_3).f4)) ∧ w'.cell? ⟨gb131, 5, none⟩ = some (.int .i64 ((rd_T37 l0_2 x59_3).f5)) ∧ w'.cell? ⟨gb131, 6, none⟩ = some (.int .i64 ((rd_T37 l0_2 x59_3).f6)) ∧ w'.cell? ⟨gb131, 7, none⟩ = some (.slice A130_7 ((rd_T37 l0_2 x59_3).f7).length c130_7) ∧ w'.cell? ⟨gb131, 8, none⟩ = some (.slice A130_8 ((rd_T37 l0_2 x59_3).f8).length c130_8) ∧ w'.cell? ⟨gb131, 9, none⟩ = some (.slice A130_9 ((rd_T37 l0_2 x59_3).f9).length c130_9) ∧ w'.cell? ⟨gb125, 0, none⟩ = some (.int .i64 a1_0) ∧ w'.cell? ⟨gb125, 1, none⟩ = some (.slice A1_1 l1_1.length c1_1) ∧ w'.cell? ⟨gb125, 2, none⟩ = some (.slice (some ad132) l1_2.length c1_2) ∧ w'.cell? ⟨gb125, 3, none⟩ = some (.slice A1_3 l1_3.length c1_3) ∧ w'.cell? (ad132.add ((x59_3).toNat * 10)) = some (.int .i64 ((rd_T37 l1_2 x59_3).f0)) ∧ w'.cell? ⟨(ad132.add ((x59_3).toNat * 10)).block, (ad132.add ((x59_3).toNat * 10)).off + 1, none⟩ = some (.int .i64 ((rd_T37 l1_2 x59_3).f1)) ∧ w'.cell? ⟨(ad132.add ((x59_3).toNat * 10)).block, (ad132.add ((x59_3).toNat * 10)).off + 2, none⟩ = some (.int .i64 ((rd_T37 l1_2 x59_3).f2)) ∧ w'.cell? ⟨(ad132.add ((x59_3).toNat * 10)).block, (ad132.add ((x59_3).toNat * 10)).off + 3, none⟩ = some (.int .i64 ((rd_T37 l1_2 x59_3).f3)) ∧ w'.cell? ⟨(ad132.add ((x59_3).toNat * 10)).block, (ad132.add ((x59_3).toNat * 10)).off + 4, none⟩ = some (.int .i64 ((rd_T37 l1_2 x59_3).f4)) ∧ w'.cell? ⟨(ad132.add ((x59_3).toNat * 10)).block, (ad132.add ((x59_3).toNat * 10)).off + 5, none⟩ = some (.int .i64 ((rd_T37 l1_2 x59_3).f5)) ∧ w'.cell? ⟨(ad132.add ((x59_3).toNat * 10)).block, (ad132.add ((x59_3).toNat * 10)).off + 6, none⟩ = some (.int .i64 ((rd_T37 l1_2 x59_3).f6)) ∧ w'.cell? ⟨(ad132.add ((x59_3).toNat * 10)).block, (ad132.add ((x59_3).toNat * 10)).off + 7, none⟩ = some (.slice A132_7 ((rd_T37 l1_2 x59_3).f7).length c132_7) ∧ w'.cell? ⟨(ad132.add ((x59_3).toNat * 10)).block, (ad132.add ((x59_3).toNat * 10)).off + 8, none⟩ = some (.slice A132_8 ((rd_T37 l1_2 x59_3).f8).length c132_8) ∧ w'.cell? ⟨(ad132.add ((x59_3).toNat * 10)).block, (ad132.add ((x59_3).toNat * 10)).off + 9, none⟩ = some (.slice A132_9 ((rd_T37 l1_2 x59_3).f9).length c132_9)) (ds := []) #[false, false, false, false, false, false, false, false] (by kernel_rfl) rfl rfl ⟨(blk_cell BK131.out 0).trans rfl, (blk_cell BK131.out 1).trans rfl, (blk_cell BK131.out 2).trans rfl, (blk_cell BK131.out 3).trans rfl, (blk_cell BK131.out 4).trans rfl, (blk_cell BK131.out 5).trans rfl, (blk_cell BK131.out 6).trans rfl, (blk_cell BK131.out 7).trans rfl, (blk_cell BK131.out 8).trans rfl, (blk_cell BK131.out 9).trans rfl, (blk_cell BK125.out 0).trans rfl, (blk_cell BK125.out 1).trans rfl, (blk_cell BK125.out 2).trans rfl, (blk_cell BK125.out 3).trans rfl, ((HB.out.cell (World.block_lt_of_cell? w _ hw132_0)).trans hw132_0), ((HB.out.cell (World.block_lt_of_cell? w _ hw132_1)).trans hw132_1), ((HB.out.cell (World.block_lt_of_cell? w _ hw132_2)).trans hw132_2), ((HB.out.cell (World.block_lt_of_cell? w _ hw132_3)).trans hw132_3), ((HB.out.cell (World.block_lt_of_cell? w _ hw132_4)).trans hw132_4), ((HB.out.cell (World.block_lt_of_cell? w _ hw132_5)).trans hw132_5), ((HB.out.cell (World.block_lt_of_cell? w _ hw132_6)).trans hw132_6), ((HB.out.cell (World.block_lt_of_cell? w _ hw132_7)).trans hw132_7), ((HB.out.cell (World.block_lt_of_cell? w _ hw132_8)).trans hw132_8), ((HB.out.cell (World.block_lt_of_cell? w _ hw132_9)).trans hw132_9)⟩ (fun hHeld => ?_); refine with_tabW spec_SameFS.tab12 spec_SameFS.bits12 (fun HT_ HW_ => ?_)
              generalize w61.drew = w62 at BK124 BK125 BK131 HB HR132_7 HR132_8 HR132_9 hx132_0 hx132_1 hx132_2 hx132_3 hx132_4 hx132_5 hx132_6 hx132_7 hx132_8 hx132_9 hHeld ⊢
              refine pure_ (i := 1) (N := some 65) (v := ?_) (a' := ?_) #[false, true, false, false, false, false, false, false] rfl rfl (any_of HT_.out (by kernel_rfl)) (fun _ _ _ h => h) (Or.inl ⟨by rfl, ?_⟩) ?_ ?_
              rotate_left
              ·
               intro w'
               go_simp
               with_reducible rfl
              rotate_left
              ·
               simp only [Lib.pw, Lib.px, Lib.py, i64_w, i32_w]
               rfl
              refine pure_ (i := 3) (N := some 67) (v := ?_) (a' := ?_) #[false, true, false, true, false, false, false, false] rfl rfl (any_of HT_.out (by kernel_rfl)) (fun _ _ _ h => h) (Or.inl ⟨by rfl, ?_⟩) ?_ ?_
              rotate_left
              ·
               intro w'
               go_simp
               with_reducible rfl
              rotate_left
              ·
               simp only [Lib.pw, Lib.px, Lib.py, i64_w, i32_w]
               rfl
              refine take_ (i := 0) (N := some 64) (v := ?_) (a' := ?_) #[true, true, false, true, false, false, false, false] rfl rfl (take_ofW HT_.out HW_.out (by kernel_rfl)) (fun _ _ _ h => h) (Or.inl ⟨by rfl, ?_⟩) hHeld ?_ ?_
              rotate_left
              ·
               rintro w' ⟨s0, s1, s2, s3, s4, s5, s6, s7, s8, s9, s10, s11, s12, s13, s14, s15, s16, s17, s18, s19, s20, s21, s22, s23⟩
               go_simp
               with_reducible rfl
              rotate_left
              ·
               simp only [Lib.pw, Lib.px, Lib.py, i64_w, i32_w]
               rfl
              refine take_ (i := 2) (N := some 66) (v := ?_) (a' := ?_) #[true, true, true, true, false, false, false, false] rfl rfl (take_ofW HT_.out HW_.out (by kernel_rfl)) (fun _ _ _ h => h) (Or.inl ⟨by rfl, ?_⟩) hHeld ?_ ?_
              rotate_left
              ·
               rintro w' ⟨s0, s1, s2, s3, s4, s5, s6, s7, s8, s9, s10, s11, s12, s13, s14, s15, s16, s17, s18, s19, s20, s21, s22, s23⟩
               go_simp
               with_reducible rfl
              rotate_left
              ·
               simp only [Lib.pw, Lib.px, Lib.py, i64_w, i32_w]
               rfl
              refine pure_ (i := 4) (N := some 68) (v := ?_) (a' := ?_) #[true, true, true, true, true, false, false, false] rfl rfl (any_of HT_.out (by kernel_rfl)) (fun _ _ _ h => h) (Or.inl ⟨by rfl, ?_⟩) ?_ ?_
              rotate_left
              ·
               intro w'
               go_simp
               with_reducible rfl
              rotate_left
              ·
               simp only [Lib.pw, Lib.px, Lib.py, i64_w, i32_w]
               rfl
              refine take_ (i := 5) (N := some 69) (v := ?_) (a' := ?_) #[true, true, true, true, true, true, false, false] rfl rfl (take_ofW HT_.out HW_.out (by kernel_rfl)) (fun _ _ _ h => h) (Or.inl ⟨by rfl, ?_⟩) hHeld ?_ ?_
              rotate_left
              ·
               rintro w' ⟨s0, s1, s2, s3, s4, s5, s6, s7, s8, s9, s10, s11, s12, s13, s14, s15, s16, s17, s18, s19, s20, s21, s22, s23⟩
               go_simp
               with_reducible rfl
              rotate_left
              ·
               simp only [Lib.pw, Lib.px, Lib.py, i64_w, i32_w]
               rfl
              refine one_ (i := 6) (N := some 70) #[true, true, true, true, true, true, true, false] rfl rfl (one_of HT_.out (by kernel_rfl)) (by decide) (fun K hK => ?_)
              refine goes_ Try.func76 (by kernel_rfl) rfl #[.agg #[.int .i64 ((rd_T37 l0_2 x59_3).f0), .int .i64 ((rd_T37 l0_2 x59_3).f1), .int .i64 ((rd_T37 l0_2 x59_3).f2), .int .i64 ((rd_T37 l0_2 x59_3).f3), .int .i64 ((rd_T37 l0_2 x59_3).f4), .int .i64 ((rd_T37 l0_2 x59_3).f5), .int .i64 ((rd_T37 l0_2 x59_3).f6), .slice A130_7 ((rd_T37 l0_2 x59_3).f7).length c130_7, .slice A130_8 ((rd_T37 l0_2 x59_3).f8).length c130_8, .slice A130_9 ((rd_T37 l0_2 x59_3).f9).length c130_9], .agg #[.int .i64 ((rd_T37 l1_2 x59_3).f0), .int .i64 ((rd_T37 l1_2 x59_3).f1), .int .i64 ((rd_T37 l1_2 x59_3).f2), .int .i64 ((rd_T37 l1_2 x59_3).f3), .int .i64 ((rd_T37 l1_2 x59_3).f4), .int .i64 ((rd_T37 l1_2 x59_3).f5), .int .i64 ((rd_T37 l1_2 x59_3).f6), .slice A132_7 ((rd_T37 l1_2 x59_3).f7).length c132_7, .slice A132_8 ((rd_T37 l1_2 x59_3).f8).length c132_8, .slice A132_9 ((rd_T37 l1_2 x59_3).f9).length c132_9]] (by rfl) rfl rfl (by (try simp only [List.map_toArray, List.map_cons, List.map_nil]); first | done | rfl | (simp only [List.length_drop, List.length_take]; rfl)) ?_
              with_reducible refine (spec_SameInode.calls k3 ((rd_T37 l0_2 x59_3).f0) ((rd_T37 l0_2 x59_3).f1) ((rd_T37 l0_2 x59_3).f2) ((rd_T37 l0_2 x59_3).f3) ((rd_T37 l0_2 x59_3).f4) ((rd_T37 l0_2 x59_3).f5) ((rd_T37 l0_2 x59_3).f6) _ _ ((rd_T37 l0_2 x59_3).f7) _ _ ((rd_T37 l0_2 x59_3).f8) _ _ ((rd_T37 l0_2 x59_3).f9) ((rd_T37 l1_2 x59_3).f0) ((rd_T37 l1_2 x59_3).f1) ((rd_T37 l1_2 x59_3).f2) ((rd_T37 l1_2 x59_3).f3) ((rd_T37 l1_2 x59_3).f4) ((rd_T37 l1_2 x59_3).f5) ((rd_T37 l1_2 x59_3).f6) _ _ ((rd_T37 l1_2 x59_3).f7) _ _ ((rd_T37 l1_2 x59_3).f8) _ _ ((rd_T37 l1_2 x59_3).f9) false _ ?side1 ?side2 ?side3 ?side4 ?side5 ?side6 ?side7 ?side8 ?side9 ?side10 ?side11 ?side12 A48.out).mono ?_
              (case side1 => exact Lib.cx (Kd.C_below HR130_7.out HB.out))
              (case side2 => exact HC130_7.out)
              (case side3 => exact Lib.cx (Kd.C_below HR130_8.out HB.out))
              (case side4 => exact HC130_8.out)
              (case side5 => exact Lib.cx (Kd.C_below HR130_9.out HB.out))
              (case side6 => exact HC130_9.out)
              (case side7 => exact Lib.cx (Kd.C_below HR132_7.out HB.out))
              (case side8 => exact HC132_7.out)
              (case side9 => exact Lib.cx (Kd.C_below HR132_8.out HB.out))
              (case side10 => exact HC132_8.out)
              (case side11 => exact Lib.cx (Kd.C_below HR132_9.out HB.out))
              (case side12 => exact HC132_9.out)
              rintro e w63 ⟨rfl, hb⟩
              refine ⟨_, rfl, ?_⟩
              have n0_ := Aside0.mk (blk_below (g := gb124) (o := .cells #[.int .i64 a0_0, .slice A0_1 l0_1.length c0_1, .slice (some ad130) l0_2.length c0_2, .slice A0_3 l0_3.length c0_3] 67 (0, 0)) (by exact Lib.bk BK124.out) hb)
              have n1_ := Aside0.mk (blk_below (g := gb125) (o := .cells #[.int .i64 a1_0, .slice A1_1 l1_1.length c1_1, .slice (some ad132) l1_2.length c1_2, .slice A1_3 l1_3.length c1_3] 67 (0, 0)) (by exact Lib.bk BK125.out) hb)
              have n2_ := Aside0.mk (blk_below (g := gb131) (o := .cells #[.int .i64 ((rd_T37 l0_2 x59_3).f0), .int .i64 ((rd_T37 l0_2 x59_3).f1), .int .i64 ((rd_T37 l0_2 x59_3).f2), .int .i64 ((rd_T37 l0_2 x59_3).f3), .int .i64 ((rd_T37 l0_2 x59_3).f4), .int .i64 ((rd_T37 l0_2 x59_3).f5), .int .i64 ((rd_T37 l0_2 x59_3).f6), .slice A130_7 ((rd_T37 l0_2 x59_3).f7).length c130_7, .slice A130_8 ((rd_T37 l0_2 x59_3).f8).length c130_8, .slice A130_9 ((rd_T37 l0_2 x59_3).f9).length c130_9] 37 (0, 0)) (by exact Lib.bk BK131.out) hb)
              have n3_ := Aside0.mk (below_step (by repeat (first | (with_reducible first | exact HB.out | apply below_alloc | apply pw_below_drewN | apply below_drew1 | refine below_set ?_ GE124.out | refine below_set ?_ GE125.out | refine below_set ?_ GE131.out) | exact HB.out)) hb)
              clear BK124
              clear BK125
              clear BK131
              clear HB
              have BK124 := n0_
              have BK125 := n1_
              have BK131 := n2_
              have HB := n3_
              clear n0_ n1_ n2_ n3_
              (try clear hb)
              (try clear hb2)
              (try clear hk)
              (try clear hi)
              refine hK.out _ _ ⟨(blk_cell BK131.out 0).trans rfl, (blk_cell BK131.out 1).trans rfl, (blk_cell BK131.out 2).trans rfl, (blk_cell BK131.out 3).trans rfl, (blk_cell BK131.out 4).trans rfl, (blk_cell BK131.out 5).trans rfl, (blk_cell BK131.out 6).trans rfl, (blk_cell BK131.out 7).trans rfl, (blk_cell BK131.out 8).trans rfl, (blk_cell BK131.out 9).trans rfl, (blk_cell BK125.out 0).trans rfl, (blk_cell BK125.out 1).trans rfl, (blk_cell BK125.out 2).trans rfl, (blk_cell BK125.out 3).trans rfl, ((HB.out.cell (World.block_lt_of_cell? w _ hw132_0)).trans hw132_0), ((HB.out.cell (World.block_lt_of_cell? w _ hw132_1)).trans hw132_1), ((HB.out.cell (World.block_lt_of_cell? w _ hw132_2)).trans hw132_2), ((HB.out.cell (World.block_lt_of_cell? w _ hw132_3)).trans hw132_3), ((HB.out.cell (World.block_lt_of_cell? w _ hw132_4)).trans hw132_4), ((HB.out.cell (World.block_lt_of_cell? w _ hw132_5)).trans hw132_5), ((HB.out.cell (World.block_lt_of_cell? w _ hw132_6)).trans hw132_6), ((HB.out.cell (World.block_lt_of_cell? w _ hw132_7)).trans hw132_7), ((HB.out.cell (World.block_lt_of_cell? w _ hw132_8)).trans hw132_8), ((HB.out.cell (World.block_lt_of_cell? w _ hw132_9)).trans hw132_9)⟩ (fun hHeld => ?_)
              clear hK K
              refine norm_ (a' := ?_) ?_ ?_
              rotate_left
              ·
               show Act.put _ (some 70) _ = _
               simp only [Lib.pw, Lib.px, Lib.py, i64_w, i32_w]
               rfl
              refine pure_ (i := 7) (N := some 71) (v := ?_) (a' := ?_) #[true, true, true, true, true, true, true, true] rfl rfl (any_of HT_.out (by kernel_rfl)) (fun _ _ _ h => h) (Or.inl ⟨by rfl, ?_⟩) ?_ ?_
              rotate_left
              ·
               intro w'
               go_simp
               with_reducible rfl
              rotate_left
              ·
               simp only [Lib.pw, Lib.px, Lib.py, i64_w, i32_w]
               rfl
              refine done_ (done_of HT_.out (by kernel_rfl)) ?_
              try go_wp2
              go_ret
              exact ⟨by first | rfl | (simp [errW_none, errW_some] <;> rfl) | (simp [*, errW_none, errW_some] <;> rfl), by repeat (first | (with_reducible first | exact HB.out | apply below_alloc | apply pw_below_drewN | apply below_drew1 | refine below_set ?_ GE124.out | refine below_set ?_ GE125.out | refine below_set ?_ GE131.out) | exact HB.out)⟩
            ·
             rw [if_neg c47] at H
             exact absurd H (by simp)
           ·
            rw [if_neg c46] at H
            exact absurd H (by simp)
          ·
           rw [if_neg c45] at H
           exact absurd H (by simp)
         ·
          rw [if_neg c44] at H
          have c44b0 : decide (x59_3 < (l0_2.length : Int)) = false := decide_eq_false c44
          clear c44
          obtain rfl := Option.some.inj H
          go_wp2
          go_ret
          exact ⟨by first | rfl | (simp [errW_none, errW_some] <;> rfl) | (simp [*, errW_none, errW_some] <;> rfl), by repeat (first | (with_reducible first | exact HB.out | apply below_alloc | apply pw_below_drewN | apply below_drew1 | refine below_set ?_ GE124.out | refine below_set ?_ GE125.out) | exact HB.out)⟩

end Go.Proofs.Ytmnojegajblagab.PFnExactSameFS
