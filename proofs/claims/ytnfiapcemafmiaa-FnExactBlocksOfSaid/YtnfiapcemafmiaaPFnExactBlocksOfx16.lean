-- Written by a program of this session over Lean's own print of the program.
import Derived.Test.YtnfiapcemafmiaaPFnExactBlocksOfx0
import Derived.Test.YtnfiapcemafmiaaPFnExactBlocksOfx2
import Derived.Test.YtnfiapcemafmiaaPFnExactBlocksOfx3
import Derived.Test.YtnfiapcemafmiaaPFnExactBlocksOfx6
import Derived.Test.YtnfiapcemafmiaaPFnExactBlocksOfx11
import Derived.Test.YtnfiapcemafmiaaPFnExactBlocksOfx12
import Derived.Test.YtnfiapcemafmiaaPFnExactBlocksOfx15
namespace Go.Proofs.Ytnfiapcemafmiaa.PFnExactBlocksOf
open Go.RowKit Go.Proofs.YtnfiapcemafmiaaW.PrintWords Go.Proofs.YtnfiapcemafmiaaW.PrintLast Go.Proofs.YtnfiapcemafmiaaW.PrintMore
attribute [local go_sem] max2_int min2_int max_two min_two max_three min_three max_four min_four   -- for this text's walks alone
set_option linter.unusedVariables false
set_option linter.unusedSimpArgs false

/-! ### impl_FS_taken: function 118 -/
/-- The blocks of a list, marked. -/
def impl_FS_taken.mark : List Int → List Bool → Option (List Bool)
 | [], u => some u
 | b :: l, u => if 0 ≤ b ∧ b < 56 then impl_FS_taken.mark l (u.set b.toNat true) else none
def impl_FS_taken.all (k : Nat) : List (S25) → List Bool → Option (List Bool)
 | [], u => some u
 | x :: l, u => (impl_UsedBlocks.f k x.f0 x.f1 x.f2 x.f3 x.f4 x.f5 x.f6 x.f7 x.f8 x.f9).bind fun bs => (impl_FS_taken.mark bs u).bind fun v => impl_FS_taken.all k l v
/-- (*FS).taken. -/
def impl_FS_taken.f (k : Nat) (a0 : Int) (l1 : List (S112)) (l2 : List (S25)) (l3 : List ByteArray) : Option (List Bool) := if l2.length = 20 then impl_FS_taken.all k l2 (List.replicate 56 false) else none
theorem impl_FS_taken.all_mono (k : Nat) : ∀ (l : List (S25)) (u : List Bool), LeO (impl_FS_taken.all k l u) (impl_FS_taken.all (k + 1) l u)
 | [], _ => LeO.refl _
 | x :: l, u => by
  unfold impl_FS_taken.all
  exact LeO.bind (impl_UsedBlocks.mono _ _ _ _ _ _ _ _ _ _ _) fun _ => LeO.bind (LeO.refl _) fun _ => impl_FS_taken.all_mono k l _
theorem impl_FS_taken.mono : ∀ a0 a1 a2 a3 k, LeO (impl_FS_taken.f k a0 a1 a2 a3) (impl_FS_taken.f (k + 1) a0 a1 a2 a3) := fun _ _ _ _ k => LeO.ite (impl_FS_taken.all_mono k _ _) (LeO.refl _)
set_option maxHeartbeats 8000000 in
set_option maxRecDepth 100000 in
theorem impl_FS_taken.calls (k : Nat) {g0 : Nat} (a0 : Int) (A1 : Option Addr) (c1 : Nat) (l1 : List (S112)) (A2 : Option Addr) (c2 : Nat) (l2 : List (S25)) (A3 : Option Addr) (c3 : Nat) (l3 : List ByteArray) (r : List Bool) (w : World) (hr1 : Kd.C k112 w A1 l1.length l1) (hc1 : l1.length ≤ c1) (hr2 : Kd.C k25 w A2 l2.length l2) (hc2 : l2.length ≤ c2) (hr3 : Kd.C Kd.string w A3 l3.length l3) (hc3 : l3.length ≤ c3) (hbx : w.heap[g0]? = some (.cells #[.int .i64 a0, .slice A1 l1.length c1, .slice A2 l2.length c2, .slice A3 l3.length c3] 42 (0, 0))) (h : impl_FS_taken.f k a0 l1 l2 l3 = some r) :
 Calls Try.prog 118 #[.pointer (some ⟨g0, 0, none⟩)] w fun e w' => ∃ v0_ : Value, e = .returned (v0_) ∧ Kd.R Kd.bool 4 w' w.heap.size (fun _ => True) v0_ r ∧ Below w.heap.size w w' := by
 have hu25 := Try.underlying25
 have HR1 := Aside0.mk hr1
 have HC1 := Aside0.mk hc1
 clear hr1 hc1
 have HR2 := Aside0.mk hr2
 have HC2 := Aside0.mk hc2
 clear hr2 hc2
 have HR3 := Aside0.mk hr3
 have HC3 := Aside0.mk hc3
 clear hr3 hc3
 have BK := Aside0.mk hbx
 have HB : Aside0 (Below w.heap.size w w) := ⟨Below.refl _ _⟩
 clear hbx
 have HH := Aside0.mk h
 clear h
 have H := HH.out
 unfold impl_FS_taken.f at H
 by_cases hg : l2.length = 20
 rotate_left
 ·
  rw [if_neg hg] at H
  cases H
 rw [if_pos hg] at H
 clear HH
 have HH := Aside0.mk H
 clear H
 obtain ⟨ad2, e2⟩ : ∃ ad2, A2 = some ad2 := by obtain ⟨ad2, _, _, _, _, _, _, e2, _⟩ := at_T25 HR2.out 0 (by decide) (by omega); exact ⟨ad2, e2⟩
 cases e2
 have HL20 := Aside0.mk hg
 clear hg
 have G0 : Aside0 (g0 < w.heap.size) := ⟨blk_lt BK.out⟩
 have HM := Aside0.mk (Kd.C_max HR2.out)
 go_enter Try.func118, Try.ntmps118
 go_wp2_with (first | ((with_reducible refine gate_dst (N := 8) rfl ?_); refine Kd.R_make Kd.bool _ 4 rfl (N := 8) rfl 58 _ _ rfl 56 rfl rfl Try.underlying58 (.bool false) 1 info4 rfl (by decide) (by omega) false (ok := fun _ => True) (okp := fun _ => True) rfl (fun _ hk => hk) trivial (by omega) (by omega) (Below.refl _ _) (Nat.le_refl _) ?_; intro v3 w3 ho5 hb hg_ hnew_; clear hg_ hnew_; obtain ⟨go, co, e3, hgo, _, _⟩ := Kd.R_form ho5 (by simp); subst e3; simp only [Int.reduceToNat, List.length_replicate] at ho5; have HO := Aside0.mk ho5; have GO := Aside0.mk hgo; clear ho5 hgo; have NE : Aside0 (w.heap.size ≤ go ∧ g0 < go) := ⟨GO.out, Nat.lt_of_lt_of_le G0.out GO.out⟩; replace BK := Aside0.mk (blk_below BK.out hb); replace HB := Aside0.mk (below_step HB.out hb); clear hb; have z2 := (blk_cell BK.out 2).trans rfl; simp only [List.length_replicate]))
 clear z2
 go_loopg [14] (l2.length + 1) (fun kq v w' => ∃ (i : Nat) (y : List Bool), v = .int .i64 (i : Int) ∧ Aside0 (i ≤ l2.length ∧ l2.length - i < kq) ∧ Aside0 (impl_FS_taken.all k (l2.drop i) y = some r) ∧ Aside0 (Kd.R Kd.bool 4 w' w.heap.size (fun _ => True) (.slice (some ⟨go, 0, none⟩) 56 co) y) ∧ Aside0 (w'.heap[g0]? = some (.cells #[.int .i64 a0, .slice A1 l1.length c1, .slice (some ad2) l2.length c2, .slice A3 l3.length c3] 42 (0, 0))) ∧ Aside0 (Below w.heap.size w w'))
 case atStart => exact ⟨0, _, rfl, ⟨by omega⟩, HH, HO, BK, HB⟩
 case round =>
  clear BK HB HO
  obtain ⟨i, y, rfl, HX, HJ, HO, BK, HB⟩ := hrel
  cases gk with
  | zero => exact absurd HX.out.2 (by omega)
  | succ k1 =>
   by_cases c : i < l2.length
   ·
    have HI := Aside0.mk c
    have H := HJ.out
    rw [Lib.drop_rd z25 l2 i c, show l2.getD i z25 = (rd_T25 l2 (i : Int)) from rfl] at H
    obtain ⟨bs, hbs, H⟩ := Option.bind_eq_some_iff.1 H
    obtain ⟨yv, hyv, H⟩ := Option.bind_eq_some_iff.1 H
    have HU := Aside0.mk hbs
    have HV := Aside0.mk hyv
    have HW := Aside0.mk H
    clear H hbs hyv
    obtain ⟨ad, A7, c7, A8, c8, A9, c9, e0, hx0, hx1, hx2, hx3, hx4, hx5, hx6, hx7, hx8, hx9, hl7, hC7, hl8, hC8, hl9, hC9⟩ := at_T25 HR2.out (i : Int) (by omega) (by omega)
    obtain rfl : ad2 = ad := by injection e0
    simp only [Int.toNat_natCast] at hx0 hx1 hx2 hx3 hx4 hx5 hx6 hx7 hx8 hx9
    replace hx0 := pw_cell_below HB.out hx0
    replace hx1 := pw_cell_below HB.out hx1
    replace hx2 := pw_cell_below HB.out hx2
    replace hx3 := pw_cell_below HB.out hx3
    replace hx4 := pw_cell_below HB.out hx4
    replace hx5 := pw_cell_below HB.out hx5
    replace hx6 := pw_cell_below HB.out hx6
    replace hx7 := pw_cell_below HB.out hx7
    replace hx8 := pw_cell_below HB.out hx8
    replace hx9 := pw_cell_below HB.out hx9
    have HL7 := Aside0.mk hl7
    have HC7 := Aside0.mk hC7
    clear hl7 hC7
    have HL8 := Aside0.mk hl8
    have HC8 := Aside0.mk hC8
    clear hl8 hC8
    have HL9 := Aside0.mk hl9
    have HC9 := Aside0.mk hC9
    clear hl9 hC9
    have b4 : decide ((i : Int) < (l2.length : Int)) = true := decide_eq_true (by omega)
    have b5 := eq_true (show (i : Int) < (l2.length : Int) by omega)
    have b6 := eq_true (show 0 ≤ (i : Int) by omega)
    go_upto_region 5 with (fail)
    clear hx0 hx1 hx2 hx3 hx4 hx5 hx6 hx7 hx8 hx9 b4 b5 b6
    have BKo := BK
    obtain ⟨w4, hw_⟩ : ∃ W, W = wr.alloc (.cells #[.int .i64 (rd_T25 l2 (i : Int)).f0, .int .i64 (rd_T25 l2 (i : Int)).f1, .int .i64 (rd_T25 l2 (i : Int)).f2, .int .i64 (rd_T25 l2 (i : Int)).f3, .int .i64 (rd_T25 l2 (i : Int)).f4, .int .i64 (rd_T25 l2 (i : Int)).f5, .int .i64 (rd_T25 l2 (i : Int)).f6, .slice A7 (rd_T25 l2 (i : Int)).f7.length c7, .slice A8 (rd_T25 l2 (i : Int)).f8.length c8, .slice A9 (rd_T25 l2 (i : Int)).f9.length c9] 25 (0, 0)) := ⟨_, rfl⟩
    rw [← hw_]
    have BI : Aside0 (w4.heap[wr.heap.size]? = some (.cells #[.int .i64 (rd_T25 l2 (i : Int)).f0, .int .i64 (rd_T25 l2 (i : Int)).f1, .int .i64 (rd_T25 l2 (i : Int)).f2, .int .i64 (rd_T25 l2 (i : Int)).f3, .int .i64 (rd_T25 l2 (i : Int)).f4, .int .i64 (rd_T25 l2 (i : Int)).f5, .int .i64 (rd_T25 l2 (i : Int)).f6, .slice A7 (rd_T25 l2 (i : Int)).f7.length c7, .slice A8 (rd_T25 l2 (i : Int)).f8.length c8, .slice A9 (rd_T25 l2 (i : Int)).f9.length c9] 25 (0, 0))) := ⟨by rw [hw_]; exact blk_new _ _⟩
    replace BK : Aside0 (w4.heap[g0]? = some (.cells #[.int .i64 a0, .slice A1 l1.length c1, .slice (some ad2) l2.length c2, .slice A3 l3.length c3] 42 (0, 0))) := ⟨by rw [hw_]; exact blk_alloc BK.out _⟩
    replace HB : Aside0 (Below w.heap.size w w4) := ⟨by rw [hw_]; exact below_alloc HB.out _⟩
    have HW4 := Aside0.mk hw_
    clear hw_
    replace HO : Aside0 (Kd.R Kd.bool 4 w4 w.heap.size (fun _ => True) (.slice (some ⟨go, 0, none⟩) 56 co) y) := ⟨Kd.R_below HO.out (by rw [HW4.out]; exact below_alloc (Below.refl _ _) _)⟩
    clear HW4 BKo
    obtain ⟨p0, p1, p2, p3, p4, p5, p6, p7, p8, p9, q0, q1, q2, q3, q4, q5, q6, q7, q8, q9⟩ := Lib.cel10 BI.out
    clear c
    go_wp2_with (first | ((with_reducible refine gate_callee (f := 38) rfl ?_); refine goesL_ (some 19) rfl rfl Try.func38 (by kernel_rfl) rfl #[.agg #[.int .i64 (rd_T25 l2 (i : Int)).f0, .int .i64 (rd_T25 l2 (i : Int)).f1, .int .i64 (rd_T25 l2 (i : Int)).f2, .int .i64 (rd_T25 l2 (i : Int)).f3, .int .i64 (rd_T25 l2 (i : Int)).f4, .int .i64 (rd_T25 l2 (i : Int)).f5, .int .i64 (rd_T25 l2 (i : Int)).f6, .slice A7 (rd_T25 l2 (i : Int)).f7.length c7, .slice A8 (rd_T25 l2 (i : Int)).f8.length c8, .slice A9 (rd_T25 l2 (i : Int)).f9.length c9]] rfl (by (try simp only [List.map_toArray, List.map_cons, List.map_nil]); first | done | rfl) ?_; refine (impl_UsedBlocks.calls k (rd_T25 l2 (i : Int)).f0 (rd_T25 l2 (i : Int)).f1 (rd_T25 l2 (i : Int)).f2 (rd_T25 l2 (i : Int)).f3 (rd_T25 l2 (i : Int)).f4 (rd_T25 l2 (i : Int)).f5 (rd_T25 l2 (i : Int)).f6 _ _ (rd_T25 l2 (i : Int)).f7 _ _ (rd_T25 l2 (i : Int)).f8 _ _ (rd_T25 l2 (i : Int)).f9 bs w4 (Kd.C_below HC7.out HB.out) HL7.out (Kd.C_below HC8.out HB.out) HL8.out (Kd.C_below HC9.out HB.out) HL9.out HU.out).mono ?_; rintro e w5 ⟨vb, rfl, hR, hb⟩; refine ⟨_, rfl, ?_⟩; obtain ⟨Ab, cb, eb⟩ := Kd.R_slice hR; subst eb; have HRB := Aside0.mk (Kd.R_lower hR (below_size HB.out)); replace BK := Aside0.mk (blk_below BK.out hb); replace BI := Aside0.mk (blk_below BI.out hb); replace HO := Aside0.mk (Kd.R_below HO.out hb); replace HB := Aside0.mk (below_step HB.out hb); clear hb hR p0 p1 p2 p3 p4 p5 p6 p7 p8 p9 q0 q1 q2 q3 q4 q5 q6 q7 q8 q9))
    obtain ⟨cs_, hcs_⟩ := Kd.R_typed HO.out go rfl
    have HRB2 : Aside0 (Kd.R (Kd.int .i64) 3 w5 w.heap.size (fun k => True ∧ k ≠ go) (.slice Ab bs.length cb) bs) := ⟨Kd.R_types HRB.out hcs_ (by decide)⟩
    clear hcs_ cs_ HRB BI
    go_loopg [21] (bs.length + 1) (fun kq v w' => ∃ (j : Nat) (y2 : List Bool), v = .int .i64 (j : Int) ∧ Aside0 (j ≤ bs.length ∧ bs.length - j < kq) ∧ Aside0 (impl_FS_taken.mark (bs.drop j) y2 = some yv) ∧ Aside0 (Kd.R Kd.bool 4 w' w.heap.size (fun _ => True) (.slice (some ⟨go, 0, none⟩) 56 co) y2) ∧ Aside0 (Kd.R (Kd.int .i64) 3 w' w.heap.size (fun k => True ∧ k ≠ go) (.slice Ab bs.length cb) bs) ∧ Aside0 (w'.heap[g0]? = some (.cells #[.int .i64 a0, .slice A1 l1.length c1, .slice (some ad2) l2.length c2, .slice A3 l3.length c3] 42 (0, 0))) ∧ Aside0 (Below w.heap.size w w'))
    case atStart => exact ⟨0, y, rfl, ⟨by omega⟩, HV, HO, HRB2, BK, HB⟩
    case round =>
     clear BK HB HO HRB2 HV
     obtain ⟨j, y2, rfl, HX2, HJ2, HO, HRB, BK, HB⟩ := hrel
     have HC := Aside0.mk (Kd.R_reads' HRB.out).2.2
     have HMB := Aside0.mk (Kd.C_max HC.out)
     cases gk with
     | zero => exact absurd HX2.out.2 (by omega)
     | succ k2 =>
      by_cases c : j < bs.length
      ·
       have HIJ := Aside0.mk c
       have H := HJ2.out
       rw [Lib.drop_rd (0 : Int) bs j c, show bs.getD j 0 = (rd bs (j : Int)) from rfl] at H
       unfold impl_FS_taken.mark at H
       by_cases hb_ : 0 ≤ (rd bs (j : Int)) ∧ (rd bs (j : Int)) < 56
       rotate_left
       ·
        rw [if_neg hb_] at H
        cases H
       rw [if_pos hb_] at H
       have HJ3 := Aside0.mk H
       clear H
       obtain ⟨adb, eb, hxb⟩ := Kd.at_int HC.out (j : Int) (by omega) (by omega)
       cases eb
       simp only [Int.toNat_natCast] at hxb
       obtain ⟨hy1, hy2⟩ := Kd.R_celln false HO.out (rd bs (j : Int)) hb_.1 (by omega)
       have hy3 : wr.cell? ⟨go, (rd bs (j : Int)).toNat, none⟩ = some (.bool (rdOf false y2 (rd bs (j : Int)))) := hy1
       have b9 := eq_true hb_.1
       have b10 := eq_true hb_.2
       have b4 : decide ((j : Int) < (bs.length : Int)) = true := decide_eq_true (by omega)
       have b5 := eq_true (show (j : Int) < (bs.length : Int) by omega)
       have b6 := eq_true (show 0 ≤ (j : Int) by omega)
       clear c hy1 hb_
       go_wp2
       clear hxb hy2 hy3 b4 b5 b6 b9 b10
       go_roundg k2
       case measure => exact Nat.lt_succ_self _
       case rel => exact ⟨j + 1, y2.set (rd bs (j : Int)).toNat true, by rw [show wrap64 ((j : Int) + 1) = ((j + 1 : Nat) : Int) by have h1_ := HMB.out; have h2_ := HIJ.out; unfold wrap64; omega], ⟨by have h1_ := HX2.out; have h2_ := HIJ.out; omega⟩, HJ3, ⟨Kd.R_putn HO.out (rd bs (j : Int)) true⟩, ⟨Kd.R_far (p := ⟨go, (rd bs (j : Int)).toNat, none⟩) HRB.out (fun k hk => hk.2) (.bool true)⟩, ⟨blk_far (p := ⟨go, (rd bs (j : Int)).toNat, none⟩) BK.out (Nat.ne_of_lt NE.out.2) (.bool true)⟩, ⟨below_set (j := (rd bs (j : Int)).toNat) (v := .bool true) HB.out NE.out.1⟩⟩
      ·
       have H := HJ2.out
       rw [List.drop_eq_nil_of_le (by omega)] at H
       obtain rfl := Option.some.inj H
       have b4 : decide ((j : Int) < (bs.length : Int)) = false := decide_eq_false (by omega)
       have b5 := eq_false (show ¬ (j : Int) < (bs.length : Int) by omega)
       clear c H
       go_wp2
       go_roundg k1
       case measure => exact Nat.lt_succ_self _
       case rel => exact ⟨i + 1, _, by rw [show wrap64 ((i : Int) + 1) = ((i + 1 : Nat) : Int) by have h1_ := HM.out; have h2_ := HI.out; unfold wrap64; omega], ⟨by have h1_ := HX.out; have h2_ := HI.out; omega⟩, HW, HO, BK, HB⟩
   ·
    have H := HJ.out
    rw [List.drop_eq_nil_of_le (by omega)] at H
    obtain rfl := Option.some.inj H
    have b4 : decide ((i : Int) < (l2.length : Int)) = false := decide_eq_false (by omega)
    have b5 := eq_false (show ¬ (i : Int) < (l2.length : Int) by omega)
    clear c H
    go_wp2
    go_ret
    exact ⟨_, rfl, HO.out, HB.out⟩

/-! ### impl_FS_blocks: function 108 -/
/-- (*FS).blocks. -/
def impl_FS_blocks.f (k : Nat) (a0 : Int) (l1 : List (S112)) (l2 : List (S25)) (l3 : List ByteArray) (u : Int) : Option Int :=
 if 0 ≤ u ∧ u ≤ 3 then (impl_FS_taken.f k a0 l1 l2 l3).bind fun v => if v.length = 56 then some ((((v.take (u.toNat * 14 + 14)).drop (u.toNat * 14)).countP (fun b => b) : Nat) : Int) else none else none
theorem impl_FS_blocks.mono : ∀ a0 a1 a2 a3 u k, LeO (impl_FS_blocks.f k a0 a1 a2 a3 u) (impl_FS_blocks.f (k + 1) a0 a1 a2 a3 u) := fun _ _ _ _ _ _ => LeO.ite (LeO.bind (impl_FS_taken.mono _ _ _ _ _) fun _ => LeO.refl _) (LeO.refl _)
set_option maxHeartbeats 8000000 in
set_option maxRecDepth 100000 in
theorem impl_FS_blocks.calls (k : Nat) {g0 : Nat} (a0 : Int) (A1 : Option Addr) (c1 : Nat) (l1 : List (S112)) (A2 : Option Addr) (c2 : Nat) (l2 : List (S25)) (A3 : Option Addr) (c3 : Nat) (l3 : List ByteArray) (u : Int) (r : Int) (w : World) (hr1 : Kd.C k112 w A1 l1.length l1) (hc1 : l1.length ≤ c1) (hr2 : Kd.C k25 w A2 l2.length l2) (hc2 : l2.length ≤ c2) (hr3 : Kd.C Kd.string w A3 l3.length l3) (hc3 : l3.length ≤ c3) (hbx : w.heap[g0]? = some (.cells #[.int .i64 a0, .slice A1 l1.length c1, .slice A2 l2.length c2, .slice A3 l3.length c3] 42 (0, 0))) (h : impl_FS_blocks.f k a0 l1 l2 l3 u = some r) :
 Calls Try.prog 108 #[.pointer (some ⟨g0, 0, none⟩), .int .i64 u] w fun e w' => e = .returned (.int .i64 r) ∧ Below w.heap.size w w' := by
 have HR1 := Aside0.mk hr1
 have HC1 := Aside0.mk hc1
 clear hr1 hc1
 have HR2 := Aside0.mk hr2
 have HC2 := Aside0.mk hc2
 clear hr2 hc2
 have HR3 := Aside0.mk hr3
 have HC3 := Aside0.mk hc3
 clear hr3 hc3
 have BK := Aside0.mk hbx
 have HB : Aside0 (Below w.heap.size w w) := ⟨Below.refl _ _⟩
 clear hbx
 have HH := Aside0.mk h
 clear h
 have H := HH.out
 unfold impl_FS_blocks.f at H
 by_cases hg : 0 ≤ u ∧ u ≤ 3
 rotate_left
 ·
  rw [if_neg hg] at H
  cases H
 rw [if_pos hg] at H
 clear HH
 obtain ⟨v, hv, H⟩ := Option.bind_eq_some_iff.1 H
 by_cases h56 : v.length = 56
 rotate_left
 ·
  rw [if_neg h56] at H
  cases H
 rw [if_pos h56] at H
 obtain rfl := Option.some.inj H
 clear H
 have HV := Aside0.mk hv
 have H56 := Aside0.mk h56
 clear hv h56
 obtain ⟨g1, g2⟩ := hg
 obtain ⟨m, rfl⟩ : ∃ m : Nat, u = (m : Int) := ⟨u.toNat, by omega⟩
 simp only [Int.toNat_natCast]
 obtain ⟨L, hL⟩ : ∃ L, L = (v.take (m * 14 + 14)).drop (m * 14) := ⟨_, rfl⟩
 have hL14 : L.length = 14 := by rw [hL, List.length_drop, List.length_take]; have := H56.out; omega
 rw [← hL]
 have HL := Aside0.mk hL
 have HM3 : Aside0 (m ≤ 3) := ⟨by omega⟩
 have k1 : wrap64 ((m : Int) * 14) = (m : Int) * 14 := by unfold wrap64; omega
 have k2 : wrap64 ((m : Int) + 1) = (m : Int) + 1 := by unfold wrap64; omega
 have k3 : wrap64 (((m : Int) + 1) * 14) = ((m : Int) + 1) * 14 := by unfold wrap64; omega
 have t1 : ((m : Int) * 14).toNat = m * 14 := by omega
 have t2 : (((m : Int) + 1) * 14).toNat = m * 14 + 14 := by omega
 have e1 := eq_true (show 0 ≤ ((m : Int) + 1) * 14 by omega)
 have e3 := eq_true (show 0 ≤ (m : Int) * 14 by omega)
 have e4 := eq_true (show (m : Int) * 14 ≤ (m : Int) * 14 + 14 by omega)
 clear hL g1 g2
 have H14 := Aside0.mk hL14
 clear hL14
 go_enter Try.func108, Try.ntmps108
 go_wp2_with (first | ((with_reducible refine gate_callee (f := 118) rfl ?_); refine goesL_ (some 9) rfl rfl Try.func118 (by kernel_rfl) rfl #[.pointer (some ⟨g0, 0, none⟩)] rfl (by (try simp only [List.map_toArray, List.map_cons, List.map_nil]); first | done | rfl) ?_; refine (impl_FS_taken.calls k a0 _ _ l1 _ _ l2 _ _ l3 v w HR1.out HC1.out HR2.out HC2.out HR3.out HC3.out BK.out HV.out).mono ?_; rintro e w5 ⟨v0, rfl, hR, hb⟩; refine ⟨_, rfl, ?_⟩; obtain ⟨go, co, e0, _, _, _⟩ := Kd.R_form hR (by rw [H56.out]; decide); subst e0; obtain ⟨_, hco, hCr⟩ := Kd.R_reads' hR; have h56 := H56.out; have hc_ := Kd.C_mid (lo := m * 14) (hi := m * 14 + 14) hCr (by omega) (by have := HM3.out; omega) hco; rw [if_neg (by have := HM3.out; omega), ← HL.out] at hc_; have HRL := Aside0.mk hc_; have e2 := eq_true (show ((m : Int) + 1) * 14 ≤ (co : Int) by have := HM3.out; omega); have e5 := eq_false (show ¬ co = m * 14 by have := HM3.out; omega); replace HB := Aside0.mk (below_step HB.out hb); clear hb hR hc_ hCr hco h56))
 clear k1 k2 k3 t1 t2 e1 e2 e3 e4 e5
 go_loopg [17, 5] 15 (fun kq v v2 w' => ∃ i : Nat, v = .int .i64 (i : Int) ∧ v2 = .int .i64 (((L.take i).countP (fun b : Bool => b) : Nat) : Int) ∧ Aside0 (i ≤ 14 ∧ 14 - i < kq) ∧ Aside0 (Below w.heap.size w w') ∧ Aside0 (Below w5.heap.size w5 w'))
 case atStart => exact ⟨0, rfl, rfl, ⟨by omega⟩, HB, ⟨Below.refl _ _⟩⟩
 case round =>
  clear HB
  obtain ⟨i, rfl, rfl, HX, HB, HB5⟩ := hrel
  cases gk with
  | zero => exact absurd HX.out.2 (by omega)
  | succ k1 =>
   by_cases c : i < 14
   ·
    have HI := Aside0.mk c
    obtain ⟨ad, e0, hx⟩ := Kd.at_bool (Kd.C_below HRL.out HB5.out) (i : Int) (by omega) (by have := H14.out; omega)
    cases e0
    have hx2 : wr.cell? ⟨go, m * 14 + i, none⟩ = some (Value.bool (rdOf false L (i : Int))) := by
     have h_ := hx
     rw [show (m * 14 * Kd.bool.sz) = m * 14 from Nat.mul_one _] at h_
     have ha_ : ∀ a n : Nat, (⟨go, a, none⟩ : Addr).add n = ⟨go, a + n, none⟩ := by
      intro a n
      unfold Addr.add
      split
      ·
       rename_i h
       rw [h]
       rfl
      ·
       rfl
     simp only [ha_, Nat.zero_add, Int.toNat_natCast] at h_
     exact h_
    clear hx
    have b4 : decide ((i : Int) < 14) = true := decide_eq_true (by omega)
    have b5 := eq_true (show (i : Int) < 14 by omega)
    have b6 := eq_true (show 0 ≤ (i : Int) by omega)
    have hcn : (L.take i).countP (fun b : Bool => b) ≤ i := Nat.le_trans List.countP_le_length (by rw [List.length_take]; omega)
    have hcs : (L.take (i + 1)).countP (fun b : Bool => b) = (L.take i).countP (fun b : Bool => b) + (if (rdOf false L (i : Int)) = true then 1 else 0) := by rw [Lib.take_rd false L i (by have := H14.out; omega), List.countP_append, List.countP_singleton]; rfl
    have HN := Aside0.mk hcn
    have HS := Aside0.mk hcs
    clear hcn hcs c
    cases hb_ : (rdOf false L (i : Int)) with
    | true =>
     rw [hb_] at hx2
     go_wp2
     go_roundg k1
     case measure => exact Nat.lt_succ_self _
     case rel => exact ⟨i + 1, by rw [show wrap64 ((i : Int) + 1) = ((i + 1 : Nat) : Int) by have h2_ := HI.out; unfold wrap64; omega], by have h_ := HS.out; rw [hb_, if_pos rfl] at h_; have h2_ := HN.out; have h3_ := HI.out; rw [h_, show wrap64 (((L.take i).countP (fun b : Bool => b) : Nat) + 1 : Int) = (((L.take i).countP (fun b : Bool => b) + 1 : Nat) : Int) by unfold wrap64; omega], ⟨by have h1_ := HX.out; have h2_ := HI.out; omega⟩, HB, HB5⟩
    | false =>
     rw [hb_] at hx2
     go_wp2
     go_roundg k1
     case measure => exact Nat.lt_succ_self _
     case rel => exact ⟨i + 1, by rw [show wrap64 ((i : Int) + 1) = ((i + 1 : Nat) : Int) by have h2_ := HI.out; unfold wrap64; omega], by have h_ := HS.out; rw [hb_, if_neg (by decide)] at h_; rw [h_]; rfl, ⟨by have h1_ := HX.out; have h2_ := HI.out; omega⟩, HB, HB5⟩
   ·
    have b4 : decide ((i : Int) < 14) = false := decide_eq_false (by omega)
    have b5 := eq_false (show ¬ (i : Int) < 14 by omega)
    have h5 : L.take i = L := List.take_of_length_le (by have := H14.out; omega)
    rw [h5]
    clear h5 c
    go_wp2
    go_ret
    exact ⟨rfl, HB.out⟩

/-! ### impl_BlocksOf: function 45 -/
def impl_BlocksOf.f (k : Nat) (a0_0 : Int) (l0_1 : List (S112)) (l0_2 : List (S25)) (l0_3 : List ByteArray) (a1 : Int) : Option (Int) := (impl_IsFS.f k a0_0 l0_1 l0_2 l0_3).bind fun t280 => (if t280 = true then ((impl_isUser.f a1).bind fun t281 => (if t281 = true then ((impl_FS_blocks.f k a0_0 l0_1 l0_2 l0_3 a1).bind fun t282 => (some t282)) else (some 0))) else (some 0))
theorem impl_BlocksOf.mono : ∀ a0 a1 a2 a3 a4 k, LeO (impl_BlocksOf.f k a0 a1 a2 a3 a4) (impl_BlocksOf.f (k + 1) a0 a1 a2 a3 a4) := by
 intro a0 a1 a2 a3 a4 k
 unfold impl_BlocksOf.f
 repeat' first
  | (with_reducible exact impl_FS_blocks.mono _ _ _ _ _ _)
  | (with_reducible exact impl_IsFS.mono _ _ _ _ _)
  | (with_reducible exact LeO.refl _)
  | (with_reducible exact LeO.none _)
  | (with_reducible refine LeO.ite ?_ ?_)
  | (with_reducible refine LeO.bind ?_ (fun _ => ?_))
  | exact impl_FS_blocks.mono _ _ _ _ _ _
  | exact impl_IsFS.mono _ _ _ _ _
  | exact LeO.none _
  | refine LeO.ite ?_ ?_
  | refine LeO.bind ?_ (fun _ => ?_)
set_option maxHeartbeats 8000000 in
set_option maxRecDepth 100000 in
theorem impl_BlocksOf.calls (k : Nat) (a0_0 : Int) (A0_1 : Option Addr) (c0_1 : Nat) (l0_1 : List (S112)) (A0_2 : Option Addr) (c0_2 : Nat) (l0_2 : List (S25)) (A0_3 : Option Addr) (c0_3 : Nat) (l0_3 : List ByteArray) (a1 : Int) (r : Int) (w : World) (hr0_1 : Kd.C k112 w A0_1 l0_1.length l0_1) (hc0_1 : l0_1.length ≤ c0_1) (hr0_2 : Kd.C k25 w A0_2 l0_2.length l0_2) (hc0_2 : l0_2.length ≤ c0_2) (hr0_3 : Kd.C Kd.string w A0_3 l0_3.length l0_3) (hc0_3 : l0_3.length ≤ c0_3) (h : impl_BlocksOf.f k a0_0 l0_1 l0_2 l0_3 a1 = some r) :
 Calls Try.prog 45 #[.agg #[.int .i64 a0_0, .slice A0_1 l0_1.length c0_1, .slice A0_2 l0_2.length c0_2, .slice A0_3 l0_3.length c0_3], .int .i64 a1] w fun e w' => e = .returned (.int .i64 r) ∧ Below w.heap.size w w' := by
 have hu42 := Try.underlying42
 have HR0_1 := Aside0.mk hr0_1
 have HC0_1 := Aside0.mk hc0_1
 clear hr0_1 hc0_1
 have HR0_2 := Aside0.mk hr0_2
 have HC0_2 := Aside0.mk hc0_2
 clear hr0_2 hc0_2
 have HR0_3 := Aside0.mk hr0_3
 have HC0_3 := Aside0.mk hc0_3
 clear hr0_3 hc0_3
 have HB := Aside0.mk (Below.refl w.heap.size w)
 have H : ((impl_IsFS.f k a0_0 l0_1 l0_2 l0_3).bind fun t280 => (if t280 = true then ((impl_isUser.f a1).bind fun t281 => (if t281 = true then ((impl_FS_blocks.f k a0_0 l0_1 l0_2 l0_3 a1).bind fun t282 => (some t282)) else (some 0))) else (some 0))) = some r := h
 clear h
 replace H := Option.bind_eq_some_iff.mp H
 obtain ⟨t280, A30, H⟩ := H
 try dsimp only at H
 have A3 := Aside0.mk A30
 clear A30
 by_cases c4 : t280 = true
 ·
  subst c4
  have H1 : ((impl_isUser.f a1).bind fun t281 => (if t281 = true then ((impl_FS_blocks.f k a0_0 l0_1 l0_2 l0_3 a1).bind fun t282 => (some t282)) else (some 0))) = some r := by rw [if_pos rfl] at H; exact H
  clear H
  have H := H1
  clear H1
  replace H := Option.bind_eq_some_iff.mp H
  obtain ⟨t281, A50, H⟩ := H
  replace H : (if t281 = true then ((impl_FS_blocks.f k a0_0 l0_1 l0_2 l0_3 a1).bind fun t282 => (some t282)) else (some 0)) = some r := H
  have A5 := Aside0.mk A50
  clear A50
  by_cases c6 : t281 = true
  ·
   subst c6
   have H1 : ((impl_FS_blocks.f k a0_0 l0_1 l0_2 l0_3 a1).bind fun t282 => (some t282)) = some r := by rw [if_pos rfl] at H; exact H
   clear H
   have H := H1
   clear H1
   replace H := Option.bind_eq_some_iff.mp H
   obtain ⟨t282, A70, H⟩ := H
   replace H : (some t282) = some r := H
   have A7 := Aside0.mk A70
   clear A70
   obtain rfl := Option.some.inj H
   go_enter Try.func45, Try.ntmps45
   go_wp2_with (first | ((with_reducible refine gate_dst (N := 2) rfl ?_); refine box_event ?hg (N := 2) ?hd (cs := #[.int .i64 a0_0, .slice A0_1 l0_1.length c0_1, .slice A0_2 l0_2.length c0_2, .slice A0_3 l0_3.length c0_3]) (t := 42) ?hr ?_; (case hd => rfl); (case hg => rfl); (case hr => first | (go_simp; done) | (go_simp; rfl)); intro gb279 hg w8 hbox hb; have n0_ := Aside0.mk (below_step (by exact Lib.bw HB.out) hb); have n1_ := Aside0.mk (hbox); have n2_ := Aside0.mk ((by rw [hg]; exact (below_size (by exact Lib.bw HB.out)) : w.heap.size ≤ gb279)); have n3_ := Aside0.mk ((by rw [hg]; exact (below_size (by exact Lib.bw HB.out)) : w.heap.size ≤ gb279)); clear HB; have HB := n0_; have BK279 := n1_; have GW279 := n2_; have GE279 := n3_; clear n0_ n1_ n2_ n3_; clear hb hbox hg; obtain ⟨hcz9_0, hcz9_1, hcz9_2, hcz9_3, hfz9_0, hfz9_1, hfz9_2, hfz9_3⟩ := Lib.cel4 (W := w8) BK279.out) | ((with_reducible refine gate_callee (f := 41) rfl ?_); refine goesL_ (some 6) rfl rfl Try.func41 (by kernel_rfl) rfl #[.agg #[.int .i64 a0_0, .slice A0_1 l0_1.length c0_1, .slice A0_2 l0_2.length c0_2, .slice A0_3 l0_3.length c0_3]] rfl (by (try simp only [List.map_toArray, List.map_cons, List.map_nil]); first | done | rfl | (simp only [List.length_drop, List.length_take]; rfl)) ?_; (with_reducible refine (impl_IsFS.calls k a0_0 _ _ l0_1 _ _ l0_2 _ _ l0_3 true _ ?side1 ?side2 ?side3 ?side4 ?side5 ?side6 A3.out).mono ?_); (case side1 => exact Lib.cx (Kd.C_below HR0_1.out HB.out)); (case side2 => exact HC0_1.out); (case side3 => exact Lib.cx (Kd.C_below HR0_2.out HB.out)); (case side4 => exact HC0_2.out); (case side5 => exact Lib.cx (Kd.C_below HR0_3.out HB.out)); (case side6 => exact HC0_3.out); rintro e w10 ⟨rfl, hb⟩; refine ⟨_, rfl, ?_⟩; have n0_ := Aside0.mk (blk_below (g := gb279) (o := .cells #[.int .i64 a0_0, .slice A0_1 l0_1.length c0_1, .slice A0_2 l0_2.length c0_2, .slice A0_3 l0_3.length c0_3] 42 (0, 0)) (by exact Lib.bk BK279.out) hb); have n1_ := Aside0.mk (below_step (by exact Lib.bs HB.out GE279.out) hb); clear BK279; clear HB; have BK279 := n0_; have HB := n1_; clear n0_ n1_; (try clear hb); (try clear hb2); (try clear hk); (try clear hi)) | (go_at_call 69; (with_reducible refine (impl_isUser.calls a1 true _ A5.out).mono ?_); rintro e w' ⟨rfl, ⟨nd, rfl⟩⟩) | ((with_reducible refine gate_callee (f := 108) rfl ?_); refine goesL_ (some 14) rfl rfl Try.func108 (by kernel_rfl) rfl #[.pointer (some ⟨gb279, 0, none⟩), .int .i64 a1] rfl (by (try simp only [List.map_toArray, List.map_cons, List.map_nil]); first | done | rfl | (simp only [List.length_drop, List.length_take]; rfl)) ?_; (with_reducible refine (impl_FS_blocks.calls k a0_0 A0_1 c0_1 l0_1 A0_2 c0_2 l0_2 A0_3 c0_3 l0_3 a1 t282 _ ?side1 ?side2 ?side3 ?side4 ?side5 ?side6 ?side7 A7.out).mono ?_); (case side1 => repeat (first | exact (Kd.C_below HR0_1.out (by exact Lib.bs HB.out GE279.out)) | (with_reducible refine Kd.C_alloc ?_ _) | (with_reducible refine Kd.C_drewN ?_ _) | (with_reducible refine Kd.C_drew ?_))); (case side2 => exact HC0_1.out); (case side3 => repeat (first | exact (Kd.C_below HR0_2.out (by exact Lib.bs HB.out GE279.out)) | (with_reducible refine Kd.C_alloc ?_ _) | (with_reducible refine Kd.C_drewN ?_ _) | (with_reducible refine Kd.C_drew ?_))); (case side4 => exact HC0_2.out); (case side5 => repeat (first | exact (Kd.C_below HR0_3.out (by exact Lib.bs HB.out GE279.out)) | (with_reducible refine Kd.C_alloc ?_ _) | (with_reducible refine Kd.C_drewN ?_ _) | (with_reducible refine Kd.C_drew ?_))); (case side6 => exact HC0_3.out); (case side7 => exact by exact Lib.bk BK279.out); rintro e w11 ⟨rfl, hb⟩; refine ⟨_, rfl, ?_⟩; have n0_ := Aside0.mk (blk_below (g := gb279) (o := .cells #[.int .i64 a0_0, .slice A0_1 l0_1.length c0_1, .slice A0_2 l0_2.length c0_2, .slice A0_3 l0_3.length c0_3] 42 (0, 0)) (by exact Lib.bk BK279.out) hb); have n1_ := Aside0.mk (below_step (by exact Lib.bs HB.out GE279.out) hb); clear BK279; clear HB; have BK279 := n0_; have HB := n1_; clear n0_ n1_; (try clear hb); (try clear hb2); (try clear hk); (try clear hi)))
   go_ret
   exact ⟨by first | rfl | (simp [errW_none, errW_some] <;> rfl) | (simp [*, errW_none, errW_some] <;> rfl), by exact Lib.bs HB.out GE279.out⟩
  ·
   replace c6 := Bool.eq_false_iff.mpr c6
   subst c6
   have H1 : (some 0) = some r := by rw [if_neg (show ¬ (false = true) by decide)] at H; exact H
   clear H
   have H := H1
   clear H1
   obtain rfl := Option.some.inj H
   go_enter Try.func45, Try.ntmps45
   go_wp2_with (first | ((with_reducible refine gate_dst (N := 2) rfl ?_); refine box_event ?hg (N := 2) ?hd (cs := #[.int .i64 a0_0, .slice A0_1 l0_1.length c0_1, .slice A0_2 l0_2.length c0_2, .slice A0_3 l0_3.length c0_3]) (t := 42) ?hr ?_; (case hd => rfl); (case hg => rfl); (case hr => first | (go_simp; done) | (go_simp; rfl)); intro gb279 hg w12 hbox hb; have n0_ := Aside0.mk (below_step (by exact Lib.bw HB.out) hb); have n1_ := Aside0.mk (hbox); have n2_ := Aside0.mk ((by rw [hg]; exact (below_size (by exact Lib.bw HB.out)) : w.heap.size ≤ gb279)); have n3_ := Aside0.mk ((by rw [hg]; exact (below_size (by exact Lib.bw HB.out)) : w.heap.size ≤ gb279)); clear HB; have HB := n0_; have BK279 := n1_; have GW279 := n2_; have GE279 := n3_; clear n0_ n1_ n2_ n3_; clear hb hbox hg; obtain ⟨hcz13_0, hcz13_1, hcz13_2, hcz13_3, hfz13_0, hfz13_1, hfz13_2, hfz13_3⟩ := Lib.cel4 (W := w12) BK279.out) | ((with_reducible refine gate_callee (f := 41) rfl ?_); refine goesL_ (some 6) rfl rfl Try.func41 (by kernel_rfl) rfl #[.agg #[.int .i64 a0_0, .slice A0_1 l0_1.length c0_1, .slice A0_2 l0_2.length c0_2, .slice A0_3 l0_3.length c0_3]] rfl (by (try simp only [List.map_toArray, List.map_cons, List.map_nil]); first | done | rfl | (simp only [List.length_drop, List.length_take]; rfl)) ?_; (with_reducible refine (impl_IsFS.calls k a0_0 _ _ l0_1 _ _ l0_2 _ _ l0_3 true _ ?side1 ?side2 ?side3 ?side4 ?side5 ?side6 A3.out).mono ?_); (case side1 => exact Lib.cx (Kd.C_below HR0_1.out HB.out)); (case side2 => exact HC0_1.out); (case side3 => exact Lib.cx (Kd.C_below HR0_2.out HB.out)); (case side4 => exact HC0_2.out); (case side5 => exact Lib.cx (Kd.C_below HR0_3.out HB.out)); (case side6 => exact HC0_3.out); rintro e w14 ⟨rfl, hb⟩; refine ⟨_, rfl, ?_⟩; have n0_ := Aside0.mk (blk_below (g := gb279) (o := .cells #[.int .i64 a0_0, .slice A0_1 l0_1.length c0_1, .slice A0_2 l0_2.length c0_2, .slice A0_3 l0_3.length c0_3] 42 (0, 0)) (by exact Lib.bk BK279.out) hb); have n1_ := Aside0.mk (below_step (by exact Lib.bs HB.out GE279.out) hb); clear BK279; clear HB; have BK279 := n0_; have HB := n1_; clear n0_ n1_; (try clear hb); (try clear hb2); (try clear hk); (try clear hi)) | (go_at_call 69; (with_reducible refine (impl_isUser.calls a1 false _ A5.out).mono ?_); rintro e w' ⟨rfl, ⟨nd, rfl⟩⟩))
   go_ret
   exact ⟨by first | rfl | (simp [errW_none, errW_some] <;> rfl) | (simp [*, errW_none, errW_some] <;> rfl), by exact Lib.bs HB.out GE279.out⟩
 ·
  replace c4 := Bool.eq_false_iff.mpr c4
  subst c4
  have H1 : (some 0) = some r := by rw [if_neg (show ¬ (false = true) by decide)] at H; exact H
  clear H
  have H := H1
  clear H1
  obtain rfl := Option.some.inj H
  go_enter Try.func45, Try.ntmps45
  go_wp2_with (first | ((with_reducible refine gate_dst (N := 2) rfl ?_); refine box_event ?hg (N := 2) ?hd (cs := #[.int .i64 a0_0, .slice A0_1 l0_1.length c0_1, .slice A0_2 l0_2.length c0_2, .slice A0_3 l0_3.length c0_3]) (t := 42) ?hr ?_; (case hd => rfl); (case hg => rfl); (case hr => first | (go_simp; done) | (go_simp; rfl)); intro gb279 hg w15 hbox hb; have n0_ := Aside0.mk (below_step (by exact Lib.bw HB.out) hb); have n1_ := Aside0.mk (hbox); have n2_ := Aside0.mk ((by rw [hg]; exact (below_size (by exact Lib.bw HB.out)) : w.heap.size ≤ gb279)); have n3_ := Aside0.mk ((by rw [hg]; exact (below_size (by exact Lib.bw HB.out)) : w.heap.size ≤ gb279)); clear HB; have HB := n0_; have BK279 := n1_; have GW279 := n2_; have GE279 := n3_; clear n0_ n1_ n2_ n3_; clear hb hbox hg; obtain ⟨hcz16_0, hcz16_1, hcz16_2, hcz16_3, hfz16_0, hfz16_1, hfz16_2, hfz16_3⟩ := Lib.cel4 (W := w15) BK279.out) | ((with_reducible refine gate_callee (f := 41) rfl ?_); refine goesL_ (some 6) rfl rfl Try.func41 (by kernel_rfl) rfl #[.agg #[.int .i64 a0_0, .slice A0_1 l0_1.length c0_1, .slice A0_2 l0_2.length c0_2, .slice A0_3 l0_3.length c0_3]] rfl (by (try simp only [List.map_toArray, List.map_cons, List.map_nil]); first | done | rfl | (simp only [List.length_drop, List.length_take]; rfl)) ?_; (with_reducible refine (impl_IsFS.calls k a0_0 _ _ l0_1 _ _ l0_2 _ _ l0_3 false _ ?side1 ?side2 ?side3 ?side4 ?side5 ?side6 A3.out).mono ?_); (case side1 => exact Lib.cx (Kd.C_below HR0_1.out HB.out)); (case side2 => exact HC0_1.out); (case side3 => exact Lib.cx (Kd.C_below HR0_2.out HB.out)); (case side4 => exact HC0_2.out); (case side5 => exact Lib.cx (Kd.C_below HR0_3.out HB.out)); (case side6 => exact HC0_3.out); rintro e w17 ⟨rfl, hb⟩; refine ⟨_, rfl, ?_⟩; have n0_ := Aside0.mk (blk_below (g := gb279) (o := .cells #[.int .i64 a0_0, .slice A0_1 l0_1.length c0_1, .slice A0_2 l0_2.length c0_2, .slice A0_3 l0_3.length c0_3] 42 (0, 0)) (by exact Lib.bk BK279.out) hb); have n1_ := Aside0.mk (below_step (by exact Lib.bs HB.out GE279.out) hb); clear BK279; clear HB; have BK279 := n0_; have HB := n1_; clear n0_ n1_; (try clear hb); (try clear hb2); (try clear hk); (try clear hi)))
  go_ret
  exact ⟨by first | rfl | (simp [errW_none, errW_some] <;> rfl) | (simp [*, errW_none, errW_some] <;> rfl), by exact Lib.bs HB.out GE279.out⟩

/-! ### laws_FnExactBlocksOf: function 10 -/
def laws_FnExactBlocksOf.f (k : Nat) (a0_0 : Int) (l0_1 : List (S123)) (l0_2 : List (S121)) (l0_3 : List ByteArray) (a1 : Int) : Option (Bool) := (laws_szFS.f k a0_0 l0_1 l0_2 l0_3 1048576).bind fun t284 => (if t284 < 0 then (some true) else ((laws_toFS.f k a0_0 l0_1 l0_2 l0_3).bind fun bt285 => ((spec_BlocksOf.f k bt285.1 bt285.2.1 bt285.2.2.1 bt285.2.2.2 a1).bind fun t295 => ((laws_toFS.f k a0_0 l0_1 l0_2 l0_3).bind fun bt296 => ((impl_BlocksOf.f k bt296.1 bt296.2.1 bt296.2.2.1 bt296.2.2.2 a1).bind fun t307 => (if t307 = t295 then ((laws_toFS.f k a0_0 l0_1 l0_2 l0_3).bind fun bt308 => ((laws_eqFS.f k bt296.1 bt296.2.1 bt296.2.2.1 bt296.2.2.2 bt308.1 bt308.2.1 bt308.2.2.1 bt308.2.2.2).bind fun t318 => (if t318 = true then (some true) else (some false)))) else (some false)))))))
theorem laws_FnExactBlocksOf.mono : ∀ a0 a1 a2 a3 a4 k, LeO (laws_FnExactBlocksOf.f k a0 a1 a2 a3 a4) (laws_FnExactBlocksOf.f (k + 1) a0 a1 a2 a3 a4) := by
 intro a0 a1 a2 a3 a4 k
 unfold laws_FnExactBlocksOf.f
 repeat' first
  | (with_reducible exact impl_BlocksOf.mono _ _ _ _ _ _)
  | (with_reducible exact laws_eqFS.mono _ _ _ _ _ _ _ _ _)
  | (with_reducible exact laws_szFS.mono _ _ _ _ _ _)
  | (with_reducible exact laws_toFS.mono _ _ _ _ _)
  | (with_reducible exact spec_BlocksOf.mono _ _ _ _ _ _)
  | (with_reducible exact LeO.refl _)
  | (with_reducible exact LeO.none _)
  | (with_reducible refine LeO.ite ?_ ?_)
  | (with_reducible refine LeO.bind ?_ (fun _ => ?_))
  | exact impl_BlocksOf.mono _ _ _ _ _ _
  | exact laws_eqFS.mono _ _ _ _ _ _ _ _ _
  | exact laws_szFS.mono _ _ _ _ _ _
  | exact laws_toFS.mono _ _ _ _ _
  | exact spec_BlocksOf.mono _ _ _ _ _ _
  | exact LeO.none _
  | refine LeO.ite ?_ ?_
  | refine LeO.bind ?_ (fun _ => ?_)
set_option maxHeartbeats 8000000 in
set_option maxRecDepth 100000 in
theorem laws_FnExactBlocksOf.calls (k : Nat) (a0_0 : Int) (A0_1 : Option Addr) (c0_1 : Nat) (l0_1 : List (S123)) (A0_2 : Option Addr) (c0_2 : Nat) (l0_2 : List (S121)) (A0_3 : Option Addr) (c0_3 : Nat) (l0_3 : List ByteArray) (a1 : Int) (w : World) (hr0_1 : Kd.C k123 w A0_1 l0_1.length l0_1) (hc0_1 : l0_1.length ≤ c0_1) (hr0_2 : Kd.C k121 w A0_2 l0_2.length l0_2) (hc0_2 : l0_2.length ≤ c0_2) (hr0_3 : Kd.C Kd.string w A0_3 l0_3.length l0_3) (hc0_3 : l0_3.length ≤ c0_3) (h : laws_FnExactBlocksOf.f k a0_0 l0_1 l0_2 l0_3 a1 = some true) :
 Calls Try.prog 10 #[.agg #[.int .i64 a0_0, .slice A0_1 l0_1.length c0_1, .slice A0_2 l0_2.length c0_2, .slice A0_3 l0_3.length c0_3], .int .i64 a1] w fun e w' => e = .returned (.bool true) ∧ Below w.heap.size w w' := by
 have hu35 := Try.underlying35
 have hu42 := Try.underlying42
 have HR0_1 := Aside0.mk hr0_1
 have HC0_1 := Aside0.mk hc0_1
 clear hr0_1 hc0_1
 have HR0_2 := Aside0.mk hr0_2
 have HC0_2 := Aside0.mk hc0_2
 clear hr0_2 hc0_2
 have HR0_3 := Aside0.mk hr0_3
 have HC0_3 := Aside0.mk hc0_3
 clear hr0_3 hc0_3
 have HB := Aside0.mk (Below.refl w.heap.size w)
 have H : ((laws_szFS.f k a0_0 l0_1 l0_2 l0_3 1048576).bind fun t284 => (if t284 < 0 then (some true) else ((laws_toFS.f k a0_0 l0_1 l0_2 l0_3).bind fun bt285 => ((spec_BlocksOf.f k bt285.1 bt285.2.1 bt285.2.2.1 bt285.2.2.2 a1).bind fun t295 => ((laws_toFS.f k a0_0 l0_1 l0_2 l0_3).bind fun bt296 => ((impl_BlocksOf.f k bt296.1 bt296.2.1 bt296.2.2.1 bt296.2.2.2 a1).bind fun t307 => (if t307 = t295 then ((laws_toFS.f k a0_0 l0_1 l0_2 l0_3).bind fun bt308 => ((laws_eqFS.f k bt296.1 bt296.2.1 bt296.2.2.1 bt296.2.2.2 bt308.1 bt308.2.1 bt308.2.2.1 bt308.2.2.2).bind fun t318 => (if t318 = true then (some true) else (some false)))) else (some false)))))))) = some true := h
 clear h
 replace H := Option.bind_eq_some_iff.mp H
 obtain ⟨t284, A30, H⟩ := H
 try dsimp only at H
 have A3 := Aside0.mk A30
 clear A30
 by_cases c4 : t284 < 0
 ·
  rw [if_pos c4] at H
  have c4b0 : decide (t284 < 0) = true := decide_eq_true c4
  clear c4
  have hE_ := Option.some.inj H
  go_enter Try.func10, Try.ntmps10
  go_wp2_with (first | ((with_reducible refine gate_dst (N := 2) rfl ?_); refine box_event ?hg (N := 2) ?hd (cs := #[.int .i64 a0_0, .slice A0_1 l0_1.length c0_1, .slice A0_2 l0_2.length c0_2, .slice A0_3 l0_3.length c0_3]) (t := 35) ?hr ?_; (case hd => rfl); (case hg => rfl); (case hr => first | (go_simp; done) | (go_simp; rfl)); intro gb283 hg w5 hbox hb; have n0_ := Aside0.mk (below_step (by exact Lib.bw HB.out) hb); have n1_ := Aside0.mk (hbox); have n2_ := Aside0.mk ((by rw [hg]; exact (below_size (by exact Lib.bw HB.out)) : w.heap.size ≤ gb283)); have n3_ := Aside0.mk ((by rw [hg]; exact (below_size (by exact Lib.bw HB.out)) : w.heap.size ≤ gb283)); clear HB; have HB := n0_; have BK283 := n1_; have GW283 := n2_; have GE283 := n3_; clear n0_ n1_ n2_ n3_; clear hb hbox hg; obtain ⟨hcz6_0, hcz6_1, hcz6_2, hcz6_3, hfz6_0, hfz6_1, hfz6_2, hfz6_3⟩ := Lib.cel4 (W := w5) BK283.out) | ((with_reducible refine gate_callee (f := 17) rfl ?_); refine goesL_ (some 11) rfl rfl Try.func17 (by kernel_rfl) rfl #[.agg #[.int .i64 a0_0, .slice A0_1 l0_1.length c0_1, .slice A0_2 l0_2.length c0_2, .slice A0_3 l0_3.length c0_3], .int .i64 1048576] rfl (by (try simp only [List.map_toArray, List.map_cons, List.map_nil]); first | done | rfl | (simp only [List.length_drop, List.length_take]; rfl)) ?_; (with_reducible refine (laws_szFS.calls k a0_0 _ _ l0_1 _ _ l0_2 _ _ l0_3 1048576 t284 _ ?side1 ?side2 ?side3 ?side4 ?side5 ?side6 A3.out).mono ?_); (case side1 => exact Lib.cx (Kd.C_below HR0_1.out HB.out)); (case side2 => exact HC0_1.out); (case side3 => exact Lib.cx (Kd.C_below HR0_2.out HB.out)); (case side4 => exact HC0_2.out); (case side5 => exact Lib.cx (Kd.C_below HR0_3.out HB.out)); (case side6 => exact HC0_3.out); rintro e w7 ⟨rfl, hb⟩; refine ⟨_, rfl, ?_⟩; have n0_ := Aside0.mk (blk_below (g := gb283) (o := .cells #[.int .i64 a0_0, .slice A0_1 l0_1.length c0_1, .slice A0_2 l0_2.length c0_2, .slice A0_3 l0_3.length c0_3] 35 (0, 0)) (by exact Lib.bk BK283.out) hb); have n1_ := Aside0.mk (below_step (by exact Lib.bs HB.out GE283.out) hb); clear BK283; clear HB; have BK283 := n0_; have HB := n1_; clear n0_ n1_; (try clear hb); (try clear hb2); (try clear hk); (try clear hi)))
  go_ret
  exact ⟨by first | rfl | (simp [errW_none, errW_some] <;> rfl) | (simp at hE_ ⊢; exact hE_) | (simp [*, errW_none, errW_some] <;> rfl), by exact Lib.bs HB.out GE283.out⟩
 ·
  rw [if_neg c4] at H
  have c4b0 : decide (t284 < 0) = false := decide_eq_false c4
  clear c4
  replace H := Option.bind_eq_some_iff.mp H
  obtain ⟨⟨t285, t286, t289, t292⟩, A80, H⟩ := H
  try dsimp only at H
  have A8 := Aside0.mk A80
  clear A80
  replace H := Option.bind_eq_some_iff.mp H
  obtain ⟨t295, A90, H⟩ := H
  try dsimp only at H
  have A9 := Aside0.mk A90
  clear A90
  replace H := Option.bind_eq_some_iff.mp H
  obtain ⟨⟨t296, t297, t300, t303⟩, A100, H⟩ := H
  try dsimp only at H
  have A10 := Aside0.mk A100
  clear A100
  replace H := Option.bind_eq_some_iff.mp H
  obtain ⟨t307, A110, H⟩ := H
  try dsimp only at H
  have A11 := Aside0.mk A110
  clear A110
  by_cases c12 : t307 = t295
  ·
   rw [if_pos c12] at H
   have c12b0 : (t307 == t295) = true := beq_iff_eq.mpr c12
   have c12b1 : (t307 != t295) = false := bne_eq_false_iff_eq.mpr c12
   clear c12
   replace H := Option.bind_eq_some_iff.mp H
   obtain ⟨⟨t308, t309, t312, t315⟩, A130, H⟩ := H
   try dsimp only at H
   have A13 := Aside0.mk A130
   clear A130
   replace H := Option.bind_eq_some_iff.mp H
   obtain ⟨t318, A140, H⟩ := H
   replace H : (if t318 = true then (some true) else (some false)) = some true := H
   have A14 := Aside0.mk A140
   clear A140
   by_cases c15 : t318 = true
   ·
    subst c15
    have H1 : (some true) = some true := rfl
    clear H
    have H := H1
    clear H1
    have hE_ := Option.some.inj H
    go_enter Try.func10, Try.ntmps10
    try go_wp2_with (first | ((with_reducible refine gate_dst (N := 2) rfl ?_); refine box_event ?hg (N := 2) ?hd (cs := #[.int .i64 a0_0, .slice A0_1 l0_1.length c0_1, .slice A0_2 l0_2.length c0_2, .slice A0_3 l0_3.length c0_3]) (t := 35) ?hr ?_; (case hd => rfl); (case hg => rfl); (case hr => first | (go_simp; done) | (go_simp; rfl)); intro gb283 hg w16 hbox hb; have n0_ := Aside0.mk (below_step (by exact Lib.bw HB.out) hb); have n1_ := Aside0.mk (hbox); have n2_ := Aside0.mk ((by rw [hg]; exact (below_size (by exact Lib.bw HB.out)) : w.heap.size ≤ gb283)); have n3_ := Aside0.mk ((by rw [hg]; exact (below_size (by exact Lib.bw HB.out)) : w.heap.size ≤ gb283)); clear HB; have HB := n0_; have BK283 := n1_; have GW283 := n2_; have GE283 := n3_; clear n0_ n1_ n2_ n3_; clear hb hbox hg; obtain ⟨hcz17_0, hcz17_1, hcz17_2, hcz17_3, hfz17_0, hfz17_1, hfz17_2, hfz17_3⟩ := Lib.cel4 (W := w16) BK283.out) | ((with_reducible refine gate_callee (f := 17) rfl ?_); refine goesL_ (some 11) rfl rfl Try.func17 (by kernel_rfl) rfl #[.agg #[.int .i64 a0_0, .slice A0_1 l0_1.length c0_1, .slice A0_2 l0_2.length c0_2, .slice A0_3 l0_3.length c0_3], .int .i64 1048576] rfl (by (try simp only [List.map_toArray, List.map_cons, List.map_nil]); first | done | rfl | (simp only [List.length_drop, List.length_take]; rfl)) ?_; (with_reducible refine (laws_szFS.calls k a0_0 _ _ l0_1 _ _ l0_2 _ _ l0_3 1048576 t284 _ ?side1 ?side2 ?side3 ?side4 ?side5 ?side6 A3.out).mono ?_); (case side1 => exact Lib.cx (Kd.C_below HR0_1.out HB.out)); (case side2 => exact HC0_1.out); (case side3 => exact Lib.cx (Kd.C_below HR0_2.out HB.out)); (case side4 => exact HC0_2.out); (case side5 => exact Lib.cx (Kd.C_below HR0_3.out HB.out)); (case side6 => exact HC0_3.out); rintro e w18 ⟨rfl, hb⟩; refine ⟨_, rfl, ?_⟩; have n0_ := Aside0.mk (blk_below (g := gb283) (o := .cells #[.int .i64 a0_0, .slice A0_1 l0_1.length c0_1, .slice A0_2 l0_2.length c0_2, .slice A0_3 l0_3.length c0_3] 35 (0, 0)) (by exact Lib.bk BK283.out) hb); have n1_ := Aside0.mk (below_step (by exact Lib.bs HB.out GE283.out) hb); clear BK283; clear HB; have BK283 := n0_; have HB := n1_; clear n0_ n1_; (try clear hb); (try clear hb2); (try clear hk); (try clear hi); obtain ⟨hcz19_0, hcz19_1, hcz19_2, hcz19_3, hfz19_0, hfz19_1, hfz19_2, hfz19_3⟩ := Lib.cel4 (W := w18) BK283.out) | ((with_reducible refine gate_callee (f := 19) rfl ?_); refine goesL_ (some 15) rfl rfl Try.func19 (by kernel_rfl) rfl #[.agg #[.int .i64 a0_0, .slice A0_1 l0_1.length c0_1, .slice A0_2 l0_2.length c0_2, .slice A0_3 l0_3.length c0_3]] rfl (by (try simp only [List.map_toArray, List.map_cons, List.map_nil]); first | done | rfl | (simp only [List.length_drop, List.length_take]; rfl)) ?_; (with_reducible refine (laws_toFS.calls k a0_0 _ _ l0_1 _ _ l0_2 _ _ l0_3 t285 t286 t289 t292 _ ?side1 ?side2 ?side3 ?side4 ?side5 ?side6 A8.out).mono ?_); (case side1 => exact Lib.cx (Kd.C_below HR0_1.out HB.out)); (case side2 => exact HC0_1.out); (case side3 => exact Lib.cx (Kd.C_below HR0_2.out HB.out)); (case side4 => exact HC0_2.out); (case side5 => exact Lib.cx (Kd.C_below HR0_3.out HB.out)); (case side6 => exact HC0_3.out); rintro e w20 ⟨v287, v290, v293, rfl, ho0, ho1, ho2, hb⟩; refine ⟨_, rfl, ?_⟩; have n0_ := Aside0.mk (Kd.R_lower ho0 (below_size (by exact Lib.bs HB.out GE283.out))); have n1_ := Aside0.mk (Kd.S_lower ho1 (below_size (by exact Lib.bs HB.out GE283.out))); have n2_ := Aside0.mk (Kd.R_lower ho2 (below_size (by exact Lib.bs HB.out GE283.out))); have n3_ := Aside0.mk (blk_below (g := gb283) (o := .cells #[.int .i64 a0_0, .slice A0_1 l0_1.length c0_1, .slice A0_2 l0_2.length c0_2, .slice A0_3 l0_3.length c0_3] 35 (0, 0)) (by exact Lib.bk BK283.out) hb); have n4_ := Aside0.mk (below_step (by exact Lib.bs HB.out GE283.out) hb); clear BK283; clear HB; have HO288 := n0_; have HO291 := n1_; have HO294 := n2_; have BK283 := n3_; have HB := n4_; clear n0_ n1_ n2_ n3_ n4_; (try clear hb); (try clear hb2); (try clear hk); (try clear hi); (try clear ho0); (try clear ho1); (try clear ho2); obtain ⟨Ao21, co21, eo21⟩ := Kd.R_slice HO288.out; subst eo21; obtain ⟨Ao22, co22, eo22⟩ := Kd.S_slice HO291.out; subst eo22; obtain ⟨Ao23, co23, eo23⟩ := Kd.R_slice HO294.out; subst eo23) | ((with_reducible refine gate_callee (f := 44) rfl ?_); refine goesL_ (some 17) rfl rfl Try.func44 (by kernel_rfl) rfl #[.agg #[.int .i64 t285, .slice Ao21 t286.length co21, .slice Ao22 t289.length co22, .slice Ao23 t292.length co23], .int .i64 a1] rfl (by (try simp only [List.map_toArray, List.map_cons, List.map_nil]); first | done | rfl | (simp only [List.length_drop, List.length_take]; rfl)) ?_; (with_reducible refine (spec_BlocksOf.calls k t285 _ _ t286 _ _ t289 _ _ t292 a1 t295 _ ?side1 ?side2 ?side3 ?side4 ?side5 ?side6 A9.out).mono ?_); (case side1 => repeat (first | exact (Kd.R_reads' HO288.out).2.2 | (with_reducible refine Kd.C_alloc ?_ _) | (with_reducible refine Kd.C_drewN ?_ _) | (with_reducible refine Kd.C_drew ?_))); (case side2 => exact (Kd.R_reads' HO288.out).2.1); (case side3 => repeat (first | exact (Kd.S_reads' HO291.out).2.2 | (with_reducible refine Kd.C_alloc ?_ _) | (with_reducible refine Kd.C_drewN ?_ _) | (with_reducible refine Kd.C_drew ?_))); (case side4 => exact (Kd.S_reads' HO291.out).2.1); (case side5 => repeat (first | exact (Kd.R_reads' HO294.out).2.2 | (with_reducible refine Kd.C_alloc ?_ _) | (with_reducible refine Kd.C_drewN ?_ _) | (with_reducible refine Kd.C_drew ?_))); (case side6 => exact (Kd.R_reads' HO294.out).2.1); rintro e w24 ⟨rfl, hb⟩; refine ⟨_, rfl, ?_⟩; have n0_ := Aside0.mk (Kd.R_below (by exact Lib.cr HO288.out) hb); have n1_ := Aside0.mk (Kd.S_below (by (with_reducible repeat (first | apply Kd.S_alloc | apply Kd.S_drewN | apply Kd.S_drew)); exact HO291.out) hb); have n2_ := Aside0.mk (Kd.R_below (by exact Lib.cr HO294.out) hb); have n3_ := Aside0.mk (blk_below (g := gb283) (o := .cells #[.int .i64 a0_0, .slice A0_1 l0_1.length c0_1, .slice A0_2 l0_2.length c0_2, .slice A0_3 l0_3.length c0_3] 35 (0, 0)) (by exact Lib.bk BK283.out) hb); have n4_ := Aside0.mk (below_step (by exact Lib.bs HB.out GE283.out) hb); clear HO288; clear HO291; clear HO294; clear BK283; clear HB; have HO288 := n0_; have HO291 := n1_; have HO294 := n2_; have BK283 := n3_; have HB := n4_; clear n0_ n1_ n2_ n3_ n4_; (try clear hb); (try clear hb2); (try clear hk); (try clear hi); obtain ⟨hcz25_0, hcz25_1, hcz25_2, hcz25_3, hfz25_0, hfz25_1, hfz25_2, hfz25_3⟩ := Lib.cel4 (W := w24) BK283.out) | ((with_reducible refine gate_callee (f := 19) rfl ?_); refine goesL_ (some 19) rfl rfl Try.func19 (by kernel_rfl) rfl #[.agg #[.int .i64 a0_0, .slice A0_1 l0_1.length c0_1, .slice A0_2 l0_2.length c0_2, .slice A0_3 l0_3.length c0_3]] rfl (by (try simp only [List.map_toArray, List.map_cons, List.map_nil]); first | done | rfl | (simp only [List.length_drop, List.length_take]; rfl)) ?_; (with_reducible refine (laws_toFS.calls k a0_0 _ _ l0_1 _ _ l0_2 _ _ l0_3 t296 t297 t300 t303 _ ?side1 ?side2 ?side3 ?side4 ?side5 ?side6 A10.out).mono ?_); (case side1 => exact Lib.cx (Kd.C_below HR0_1.out HB.out)); (case side2 => exact HC0_1.out); (case side3 => exact Lib.cx (Kd.C_below HR0_2.out HB.out)); (case side4 => exact HC0_2.out); (case side5 => exact Lib.cx (Kd.C_below HR0_3.out HB.out)); (case side6 => exact HC0_3.out); rintro e w26 ⟨v298, v301, v304, rfl, ho0, ho1, ho2, hb⟩; refine ⟨_, rfl, ?_⟩; have n0_ := Aside0.mk (Kd.R_elder' (by exact Lib.cr HO288.out) (Kd.R_base ho0) hb); have n1_ := Aside0.mk (Kd.S_elder' (by (with_reducible repeat (first | apply Kd.S_alloc | apply Kd.S_drewN | apply Kd.S_drew)); exact HO291.out) (Kd.S_base ho1) hb); have n2_ := Aside0.mk (Kd.R_elder' (by exact Lib.cr HO294.out) (Kd.R_base ho2) hb); have n3_ := Aside0.mk (Kd.R_lower (Kd.R_new' ho0 (Kd.R_lt (by exact Lib.cr HO288.out))) (below_size (by exact Lib.bs HB.out GE283.out))); have n4_ := Aside0.mk (Kd.S_lower (Kd.S_new' ho1 (Kd.S_lt (by (with_reducible repeat (first | apply Kd.S_alloc | apply Kd.S_drewN | apply Kd.S_drew)); exact HO291.out))) (below_size (by exact Lib.bs HB.out GE283.out))); have n5_ := Aside0.mk (Kd.R_lower (Kd.R_new' ho2 (Kd.R_lt (by exact Lib.cr HO294.out))) (below_size (by exact Lib.bs HB.out GE283.out))); have n6_ := Aside0.mk (blk_below (g := gb283) (o := .cells #[.int .i64 a0_0, .slice A0_1 l0_1.length c0_1, .slice A0_2 l0_2.length c0_2, .slice A0_3 l0_3.length c0_3] 35 (0, 0)) (by exact Lib.bk BK283.out) hb); have n7_ := Aside0.mk (below_step (by exact Lib.bs HB.out GE283.out) hb); clear HO288; clear HO291; clear HO294; clear BK283; clear HB; have HO288 := n0_; have HO291 := n1_; have HO294 := n2_; have HO299 := n3_; have HO302 := n4_; have HO305 := n5_; have BK283 := n6_; have HB := n7_; clear n0_ n1_ n2_ n3_ n4_ n5_ n6_ n7_; (try clear hb); (try clear hb2); (try clear hk); (try clear hi); (try clear ho0); (try clear ho1); (try clear ho2)) | ((with_reducible refine gate_dst (N := 7) rfl ?_); refine box_event ?hg (N := 7) ?hd (cs := #[.int .i64 0, .slice none 0 0, .slice none 0 0, .slice none 0 0]) (t := 42) ?hr ?_; (case hd => rfl); (case hg => rfl); (case hr => first | (go_simp; done) | (go_simp; rfl)); intro gb306 hg w27 hbox hb; have n0_ := Aside0.mk (Kd.R_below (by exact Lib.cr HO288.out) hb); have n1_ := Aside0.mk (Kd.S_below (by (with_reducible repeat (first | apply Kd.S_alloc | apply Kd.S_drewN | apply Kd.S_drew)); exact HO291.out) hb); have n2_ := Aside0.mk (Kd.R_below (by exact Lib.cr HO294.out) hb); have n3_ := Aside0.mk (Kd.R_below (by exact Lib.cr HO299.out) hb); have n4_ := Aside0.mk (Kd.S_below (by (with_reducible repeat (first | apply Kd.S_alloc | apply Kd.S_drewN | apply Kd.S_drew)); exact HO302.out) hb); have n5_ := Aside0.mk (Kd.R_below (by exact Lib.cr HO305.out) hb); have n6_ := Aside0.mk (blk_below (g := gb283) (o := .cells #[.int .i64 a0_0, .slice A0_1 l0_1.length c0_1, .slice A0_2 l0_2.length c0_2, .slice A0_3 l0_3.length c0_3] 35 (0, 0)) (by exact Lib.bk BK283.out) hb); have n7_ := Aside0.mk (below_step (by exact Lib.bs HB.out GE283.out) hb); have n8_ := Aside0.mk (hbox); have n9_ := Aside0.mk ((by rw [hg]; exact (below_size (by exact Lib.bs HB.out GE283.out)) : w.heap.size ≤ gb306)); have n10_ := Aside0.mk ((by rw [hg]; exact (below_size (by exact Lib.bs HB.out GE283.out)) : w.heap.size ≤ gb306)); have n11_ := Aside0.mk ((by rw [hg]; exact Nat.ne_of_lt (blk_lt (g := gb283) (o := .cells #[.int .i64 a0_0, .slice A0_1 l0_1.length c0_1, .slice A0_2 l0_2.length c0_2, .slice A0_3 l0_3.length c0_3] 35 (0, 0)) (by exact Lib.bk BK283.out)) : gb283 ≠ gb306)); have n12_ := Aside0.mk ((by rw [hg]; exact Nat.ne_of_gt (blk_lt (g := gb283) (o := .cells #[.int .i64 a0_0, .slice A0_1 l0_1.length c0_1, .slice A0_2 l0_2.length c0_2, .slice A0_3 l0_3.length c0_3] 35 (0, 0)) (by exact Lib.bk BK283.out)) : gb306 ≠ gb283)); clear HO288; clear HO291; clear HO294; clear HO299; clear HO302; clear HO305; clear BK283; clear HB; have HO288 := n0_; have HO291 := n1_; have HO294 := n2_; have HO299 := n3_; have HO302 := n4_; have HO305 := n5_; have BK283 := n6_; have HB := n7_; have BK306 := n8_; have GW306 := n9_; have GE306 := n10_; have NB283_306 := n11_; have NB306_283 := n12_; clear n0_ n1_ n2_ n3_ n4_ n5_ n6_ n7_ n8_ n9_ n10_ n11_ n12_; clear hb hbox hg; have hnb28 := NB306_283.out; have hnc28 := NB283_306.out; obtain ⟨hcz29_0, hcz29_1, hcz29_2, hcz29_3, hfz29_0, hfz29_1, hfz29_2, hfz29_3⟩ := Lib.cel4 (W := w27) BK306.out; obtain ⟨Ao30, co30, eo30⟩ := Kd.R_slice HO299.out; subst eo30; obtain ⟨Ao31, co31, eo31⟩ := Kd.S_slice HO302.out; subst eo31; obtain ⟨Ao32, co32, eo32⟩ := Kd.R_slice HO305.out; subst eo32) | ((with_reducible refine gate_callee (f := 45) rfl ?_); refine goesL_ (some 22) rfl rfl Try.func45 (by kernel_rfl) rfl #[.agg #[.int .i64 t296, .slice Ao30 t297.length co30, .slice Ao31 t300.length co31, .slice Ao32 t303.length co32], .int .i64 a1] rfl (by (try simp only [List.map_toArray, List.map_cons, List.map_nil]); first | done | rfl | (simp only [List.length_drop, List.length_take]; rfl)) ?_; (with_reducible refine (impl_BlocksOf.calls k t296 _ _ t297 _ _ t300 _ _ t303 a1 t307 _ ?side1 ?side2 ?side3 ?side4 ?side5 ?side6 A11.out).mono ?_); (case side1 => refine (Kd.R_reads' (e := 112) (base := w.heap.size) (ok := fun k_ => (True ∧ some k_ ≠ (.slice Ao21 t286.length co21 : Value).ownBlock)) (n := t297.length) (c := co30) ?_).2.2; exact (by (with_reducible repeat (first | apply Kd.R_alloc | apply Kd.R_drewN | apply Kd.R_drew)); exact (Kd.R_mono (Kd.R_far (p := ⟨gb306, 3, none⟩) (Kd.R_far (p := ⟨gb306, 2, none⟩) (Kd.R_far (p := ⟨gb306, 1, none⟩) (Kd.R_far (p := ⟨gb306, 0, none⟩) (Kd.R_types HO299.out BK306.out (by decide)) (fun _ hk => hk.2) (.int .i64 t296)) (fun _ hk => hk.2) (.slice Ao30 t297.length co30)) (fun _ hk => hk.2) (.slice Ao31 t300.length co31)) (fun _ hk => hk.2) (.slice Ao32 t303.length co32)) (fun _ h_ => h_.1)))); (case side2 => exact (Kd.R_reads' HO299.out).2.1); (case side3 => refine (Kd.S_reads' (e := 25) (base := w.heap.size) (ok := fun k_ => (True ∧ some k_ ≠ (.slice Ao22 t289.length co22 : Value).ownBlock)) (n := t300.length) (c := co31) ?_).2.2; exact (by (with_reducible repeat (first | apply Kd.S_alloc | apply Kd.S_drewN | apply Kd.S_drew)); exact (Kd.S_mono (Kd.S_far (p := ⟨gb306, 3, none⟩) (Kd.S_far (p := ⟨gb306, 2, none⟩) (Kd.S_far (p := ⟨gb306, 1, none⟩) (Kd.S_far (p := ⟨gb306, 0, none⟩) (Kd.S_types HO302.out BK306.out (by decide)) (fun _ hk => hk.2) (.int .i64 t296)) (fun _ hk => hk.2) (.slice Ao30 t297.length co30)) (fun _ hk => hk.2) (.slice Ao31 t300.length co31)) (fun _ hk => hk.2) (.slice Ao32 t303.length co32)) (fun _ h_ => h_.1)))); (case side4 => exact (Kd.S_reads' HO302.out).2.1); (case side5 => refine (Kd.R_reads' (e := 9) (base := w.heap.size) (ok := fun k_ => (True ∧ some k_ ≠ (.slice Ao23 t292.length co23 : Value).ownBlock)) (n := t303.length) (c := co32) ?_).2.2; exact (by (with_reducible repeat (first | apply Kd.R_alloc | apply Kd.R_drewN | apply Kd.R_drew)); exact (Kd.R_mono (Kd.R_far (p := ⟨gb306, 3, none⟩) (Kd.R_far (p := ⟨gb306, 2, none⟩) (Kd.R_far (p := ⟨gb306, 1, none⟩) (Kd.R_far (p := ⟨gb306, 0, none⟩) (Kd.R_types HO305.out BK306.out (by decide)) (fun _ hk => hk.2) (.int .i64 t296)) (fun _ hk => hk.2) (.slice Ao30 t297.length co30)) (fun _ hk => hk.2) (.slice Ao31 t300.length co31)) (fun _ hk => hk.2) (.slice Ao32 t303.length co32)) (fun _ h_ => h_.1)))); (case side6 => exact (Kd.R_reads' HO305.out).2.1); rintro e w33 ⟨rfl, hb⟩; refine ⟨_, rfl, ?_⟩; have n0_ := Aside0.mk (Kd.R_below (by (with_reducible repeat (first | apply Kd.R_alloc | apply Kd.R_drewN | apply Kd.R_drew)); exact (Kd.R_mono (Kd.R_far (p := ⟨gb306, 3, none⟩) (Kd.R_far (p := ⟨gb306, 2, none⟩) (Kd.R_far (p := ⟨gb306, 1, none⟩) (Kd.R_far (p := ⟨gb306, 0, none⟩) (Kd.R_types HO288.out BK306.out (by decide)) (fun _ hk => hk.2) (.int .i64 t296)) (fun _ hk => hk.2) (.slice Ao30 t297.length co30)) (fun _ hk => hk.2) (.slice Ao31 t300.length co31)) (fun _ hk => hk.2) (.slice Ao32 t303.length co32)) (fun _ h_ => h_.1))) hb); have n1_ := Aside0.mk (Kd.S_below (by (with_reducible repeat (first | apply Kd.S_alloc | apply Kd.S_drewN | apply Kd.S_drew)); exact (Kd.S_mono (Kd.S_far (p := ⟨gb306, 3, none⟩) (Kd.S_far (p := ⟨gb306, 2, none⟩) (Kd.S_far (p := ⟨gb306, 1, none⟩) (Kd.S_far (p := ⟨gb306, 0, none⟩) (Kd.S_types HO291.out BK306.out (by decide)) (fun _ hk => hk.2) (.int .i64 t296)) (fun _ hk => hk.2) (.slice Ao30 t297.length co30)) (fun _ hk => hk.2) (.slice Ao31 t300.length co31)) (fun _ hk => hk.2) (.slice Ao32 t303.length co32)) (fun _ h_ => h_.1))) hb); have n2_ := Aside0.mk (Kd.R_below (by (with_reducible repeat (first | apply Kd.R_alloc | apply Kd.R_drewN | apply Kd.R_drew)); exact (Kd.R_mono (Kd.R_far (p := ⟨gb306, 3, none⟩) (Kd.R_far (p := ⟨gb306, 2, none⟩) (Kd.R_far (p := ⟨gb306, 1, none⟩) (Kd.R_far (p := ⟨gb306, 0, none⟩) (Kd.R_types HO294.out BK306.out (by decide)) (fun _ hk => hk.2) (.int .i64 t296)) (fun _ hk => hk.2) (.slice Ao30 t297.length co30)) (fun _ hk => hk.2) (.slice Ao31 t300.length co31)) (fun _ hk => hk.2) (.slice Ao32 t303.length co32)) (fun _ h_ => h_.1))) hb); have n3_ := Aside0.mk (Kd.R_below (by (with_reducible repeat (first | apply Kd.R_alloc | apply Kd.R_drewN | apply Kd.R_drew)); exact (Kd.R_mono (Kd.R_far (p := ⟨gb306, 3, none⟩) (Kd.R_far (p := ⟨gb306, 2, none⟩) (Kd.R_far (p := ⟨gb306, 1, none⟩) (Kd.R_far (p := ⟨gb306, 0, none⟩) (Kd.R_types HO299.out BK306.out (by decide)) (fun _ hk => hk.2) (.int .i64 t296)) (fun _ hk => hk.2) (.slice Ao30 t297.length co30)) (fun _ hk => hk.2) (.slice Ao31 t300.length co31)) (fun _ hk => hk.2) (.slice Ao32 t303.length co32)) (fun _ h_ => h_.1))) hb); have n4_ := Aside0.mk (Kd.S_below (by (with_reducible repeat (first | apply Kd.S_alloc | apply Kd.S_drewN | apply Kd.S_drew)); exact (Kd.S_mono (Kd.S_far (p := ⟨gb306, 3, none⟩) (Kd.S_far (p := ⟨gb306, 2, none⟩) (Kd.S_far (p := ⟨gb306, 1, none⟩) (Kd.S_far (p := ⟨gb306, 0, none⟩) (Kd.S_types HO302.out BK306.out (by decide)) (fun _ hk => hk.2) (.int .i64 t296)) (fun _ hk => hk.2) (.slice Ao30 t297.length co30)) (fun _ hk => hk.2) (.slice Ao31 t300.length co31)) (fun _ hk => hk.2) (.slice Ao32 t303.length co32)) (fun _ h_ => h_.1))) hb); have n5_ := Aside0.mk (Kd.R_below (by (with_reducible repeat (first | apply Kd.R_alloc | apply Kd.R_drewN | apply Kd.R_drew)); exact (Kd.R_mono (Kd.R_far (p := ⟨gb306, 3, none⟩) (Kd.R_far (p := ⟨gb306, 2, none⟩) (Kd.R_far (p := ⟨gb306, 1, none⟩) (Kd.R_far (p := ⟨gb306, 0, none⟩) (Kd.R_types HO305.out BK306.out (by decide)) (fun _ hk => hk.2) (.int .i64 t296)) (fun _ hk => hk.2) (.slice Ao30 t297.length co30)) (fun _ hk => hk.2) (.slice Ao31 t300.length co31)) (fun _ hk => hk.2) (.slice Ao32 t303.length co32)) (fun _ h_ => h_.1))) hb); have n6_ := Aside0.mk (blk_below (g := gb283) (o := .cells #[.int .i64 a0_0, .slice A0_1 l0_1.length c0_1, .slice A0_2 l0_2.length c0_2, .slice A0_3 l0_3.length c0_3] 35 (0, 0)) (by (with_reducible repeat (first | refine blk_drewN ?_ _ | refine blk_drew ?_ | refine blk_alloc ?_ _)); refine blk_far ?_ NB283_306.out _; (with_reducible repeat (first | refine blk_drewN ?_ _ | refine blk_drew ?_ | refine blk_alloc ?_ _)); refine blk_far ?_ NB283_306.out _; (with_reducible repeat (first | refine blk_drewN ?_ _ | refine blk_drew ?_ | refine blk_alloc ?_ _)); refine blk_far ?_ NB283_306.out _; (with_reducible repeat (first | refine blk_drewN ?_ _ | refine blk_drew ?_ | refine blk_alloc ?_ _)); refine blk_far ?_ NB283_306.out _; (with_reducible repeat (first | refine blk_drewN ?_ _ | refine blk_drew ?_ | refine blk_alloc ?_ _)); exact BK283.out) hb); have n7_ := Aside0.mk (blk_below (g := gb306) (o := .cells #[.int .i64 t296, .slice Ao30 t297.length co30, .slice Ao31 t300.length co31, .slice Ao32 t303.length co32] 42 (0, 0)) (by (with_reducible repeat (first | refine blk_drewN ?_ _ | refine blk_drew ?_ | refine blk_alloc ?_ _)); refine blk_put (cs := #[.int .i64 t296, .slice Ao30 t297.length co30, .slice Ao31 t300.length co31, .slice none 0 0]) ?_ 3 _ rfl; (with_reducible repeat (first | refine blk_drewN ?_ _ | refine blk_drew ?_ | refine blk_alloc ?_ _)); refine blk_put (cs := #[.int .i64 t296, .slice Ao30 t297.length co30, .slice none 0 0, .slice none 0 0]) ?_ 2 _ rfl; (with_reducible repeat (first | refine blk_drewN ?_ _ | refine blk_drew ?_ | refine blk_alloc ?_ _)); refine blk_put (cs := #[.int .i64 t296, .slice none 0 0, .slice none 0 0, .slice none 0 0]) ?_ 1 _ rfl; (with_reducible repeat (first | refine blk_drewN ?_ _ | refine blk_drew ?_ | refine blk_alloc ?_ _)); refine blk_put (cs := #[.int .i64 0, .slice none 0 0, .slice none 0 0, .slice none 0 0]) ?_ 0 _ rfl; (with_reducible repeat (first | refine blk_drewN ?_ _ | refine blk_drew ?_ | refine blk_alloc ?_ _)); exact BK306.out) hb); have n8_ := Aside0.mk (below_step (by repeat (first | (with_reducible first | exact HB.out | apply below_alloc | apply pw_below_drewN | apply below_drew1 | refine below_set ?_ GE283.out | refine below_set ?_ GE306.out) | exact HB.out)) hb); clear HO288; clear HO291; clear HO294; clear HO299; clear HO302; clear HO305; clear BK283; clear BK306; clear HB; have HO288 := n0_; have HO291 := n1_; have HO294 := n2_; have HO299 := n3_; have HO302 := n4_; have HO305 := n5_; have BK283 := n6_; have BK306 := n7_; have HB := n8_; clear n0_ n1_ n2_ n3_ n4_ n5_ n6_ n7_ n8_; (try clear hb); (try clear hb2); (try clear hk); (try clear hi)))
    have n0_ := Aside0.mk (Kd.R_drew HO288.out)
    have n1_ := Aside0.mk (Kd.S_drew HO291.out)
    have n2_ := Aside0.mk (Kd.R_drew HO294.out)
    have n3_ := Aside0.mk (Kd.R_drew HO299.out)
    have n4_ := Aside0.mk (Kd.S_drew HO302.out)
    have n5_ := Aside0.mk (Kd.R_drew HO305.out)
    have n6_ := Aside0.mk (blk_drew BK283.out)
    have n7_ := Aside0.mk (blk_drew BK306.out)
    have n8_ := Aside0.mk (below_drew1 HB.out)
    clear HO288
    clear HO291
    clear HO294
    clear HO299
    clear HO302
    clear HO305
    clear BK283
    clear BK306
    clear HB
    have HO288 := n0_
    have HO291 := n1_
    have HO294 := n2_
    have HO299 := n3_
    have HO302 := n4_
    have HO305 := n5_
    have BK283 := n6_
    have BK306 := n7_
    have HB := n8_
    clear n0_ n1_ n2_ n3_ n4_ n5_ n6_ n7_ n8_
    refine start_ (n := 5) (S := fun w' => w'.cell? ⟨gb306, 0, none⟩ = some (.int .i64 t296) ∧ w'.cell? ⟨gb306, 1, none⟩ = some (.slice Ao30 t297.length co30) ∧ w'.cell? ⟨gb306, 2, none⟩ = some (.slice Ao31 t300.length co31) ∧ w'.cell? ⟨gb306, 3, none⟩ = some (.slice Ao32 t303.length co32) ∧ w'.cell? ⟨gb283, 0, none⟩ = some (.int .i64 a0_0) ∧ w'.cell? ⟨gb283, 1, none⟩ = some (.slice A0_1 l0_1.length c0_1) ∧ w'.cell? ⟨gb283, 2, none⟩ = some (.slice A0_2 l0_2.length c0_2) ∧ w'.cell? ⟨gb283, 3, none⟩ = some (.slice A0_3 l0_3.length c0_3)) (ds := []) #[false, false, false, false, false] (by kernel_rfl) rfl rfl ⟨(blk_cell BK306.out 0).trans rfl, (blk_cell BK306.out 1).trans rfl, (blk_cell BK306.out 2).trans rfl, (blk_cell BK306.out 3).trans rfl, (blk_cell BK283.out 0).trans rfl, (blk_cell BK283.out 1).trans rfl, (blk_cell BK283.out 2).trans rfl, (blk_cell BK283.out 3).trans rfl⟩ (fun hHeld => ?_)
    generalize w33.drew = w34 at HO288 HO291 HO294 HO299 HO302 HO305 BK283 BK306 HB hHeld ⊢
    refine take_ (i := 0) (N := some 26) (v := ?_) (a' := ?_) #[true, false, false, false, false] rfl rfl (by kernel_rfl) (fun _ _ _ h => h) (Or.inl ⟨by rfl, ?_⟩) hHeld ?_ ?_
    rotate_left
    ·
     rintro w' ⟨s0, s1, s2, s3, s4, s5, s6, s7⟩
     go_simp
     with_reducible rfl
    rotate_left
    ·
     simp only [Lib.pw, Lib.px, Lib.py, i64_w, i32_w]
     rfl
    refine take_ (i := 1) (N := some 27) (v := ?_) (a' := ?_) #[true, true, false, false, false] rfl rfl (by kernel_rfl) (fun _ _ _ h => h) (Or.inl ⟨by rfl, ?_⟩) hHeld ?_ ?_
    rotate_left
    ·
     rintro w' ⟨s0, s1, s2, s3, s4, s5, s6, s7⟩
     go_simp
     with_reducible rfl
    rotate_left
    ·
     simp only [Lib.pw, Lib.px, Lib.py, i64_w, i32_w]
     rfl
    refine one_ (i := 2) (N := some 28) #[true, true, true, false, false] rfl rfl (by kernel_rfl) (by decide) (fun K hK => ?_)
    refine goes_ Try.func19 (by kernel_rfl) rfl #[.agg #[.int .i64 a0_0, .slice A0_1 l0_1.length c0_1, .slice A0_2 l0_2.length c0_2, .slice A0_3 l0_3.length c0_3]] (by rfl) rfl rfl (by (try simp only [List.map_toArray, List.map_cons, List.map_nil]); first | done | rfl | (simp only [List.length_drop, List.length_take]; rfl)) ?_
    with_reducible refine (laws_toFS.calls k a0_0 _ _ l0_1 _ _ l0_2 _ _ l0_3 t308 t309 t312 t315 _ ?side1 ?side2 ?side3 ?side4 ?side5 ?side6 A13.out).mono ?_
    (case side1 => exact Lib.cx (Kd.C_below HR0_1.out HB.out))
    (case side2 => exact HC0_1.out)
    (case side3 => exact Lib.cx (Kd.C_below HR0_2.out HB.out))
    (case side4 => exact HC0_2.out)
    (case side5 => exact Lib.cx (Kd.C_below HR0_3.out HB.out))
    (case side6 => exact HC0_3.out)
    rintro e w35 ⟨v310, v313, v316, rfl, ho0, ho1, ho2, hb⟩
    refine ⟨_, rfl, ?_⟩
    have n0_ := Aside0.mk (Kd.R_elder' (by exact Lib.cr HO288.out) (Kd.R_base ho0) hb)
    have n1_ := Aside0.mk (Kd.S_elder' (by (with_reducible repeat (first | apply Kd.S_alloc | apply Kd.S_drewN | apply Kd.S_drew)); exact HO291.out) (Kd.S_base ho1) hb)
    have n2_ := Aside0.mk (Kd.R_elder' (by exact Lib.cr HO294.out) (Kd.R_base ho2) hb)
    have n3_ := Aside0.mk (Kd.R_elder' (by exact Lib.cr HO299.out) (Kd.R_base ho0) hb)
    have n4_ := Aside0.mk (Kd.S_elder' (by (with_reducible repeat (first | apply Kd.S_alloc | apply Kd.S_drewN | apply Kd.S_drew)); exact HO302.out) (Kd.S_base ho1) hb)
    have n5_ := Aside0.mk (Kd.R_elder' (by exact Lib.cr HO305.out) (Kd.R_base ho2) hb)
    have n6_ := Aside0.mk (Kd.R_lower (Kd.R_new' (Kd.R_new' ho0 (Kd.R_lt (by exact Lib.cr HO288.out))) (Kd.R_lt (by exact Lib.cr HO299.out))) (below_size (by repeat (first | (with_reducible first | exact HB.out | apply below_alloc | apply pw_below_drewN | apply below_drew1 | refine below_set ?_ GE283.out | refine below_set ?_ GE306.out) | exact HB.out))))
    have n7_ := Aside0.mk (Kd.S_lower (Kd.S_new' (Kd.S_new' ho1 (Kd.S_lt (by (with_reducible repeat (first | apply Kd.S_alloc | apply Kd.S_drewN | apply Kd.S_drew)); exact HO291.out))) (Kd.S_lt (by (with_reducible repeat (first | apply Kd.S_alloc | apply Kd.S_drewN | apply Kd.S_drew)); exact HO302.out))) (below_size (by repeat (first | (with_reducible first | exact HB.out | apply below_alloc | apply pw_below_drewN | apply below_drew1 | refine below_set ?_ GE283.out | refine below_set ?_ GE306.out) | exact HB.out))))
    have n8_ := Aside0.mk (Kd.R_lower (Kd.R_new' (Kd.R_new' ho2 (Kd.R_lt (by exact Lib.cr HO294.out))) (Kd.R_lt (by exact Lib.cr HO305.out))) (below_size (by repeat (first | (with_reducible first | exact HB.out | apply below_alloc | apply pw_below_drewN | apply below_drew1 | refine below_set ?_ GE283.out | refine below_set ?_ GE306.out) | exact HB.out))))
    have n9_ := Aside0.mk (blk_below (g := gb283) (o := .cells #[.int .i64 a0_0, .slice A0_1 l0_1.length c0_1, .slice A0_2 l0_2.length c0_2, .slice A0_3 l0_3.length c0_3] 35 (0, 0)) (by exact Lib.bk BK283.out) hb)
    have n10_ := Aside0.mk (blk_below (g := gb306) (o := .cells #[.int .i64 t296, .slice Ao30 t297.length co30, .slice Ao31 t300.length co31, .slice Ao32 t303.length co32] 42 (0, 0)) (by exact Lib.bk BK306.out) hb)
    have n11_ := Aside0.mk (below_step (by repeat (first | (with_reducible first | exact HB.out | apply below_alloc | apply pw_below_drewN | apply below_drew1 | refine below_set ?_ GE283.out | refine below_set ?_ GE306.out) | exact HB.out)) hb)
    clear HO288
    clear HO291
    clear HO294
    clear HO299
    clear HO302
    clear HO305
    clear BK283
    clear BK306
    clear HB
    have HO288 := n0_
    have HO291 := n1_
    have HO294 := n2_
    have HO299 := n3_
    have HO302 := n4_
    have HO305 := n5_
    have HO311 := n6_
    have HO314 := n7_
    have HO317 := n8_
    have BK283 := n9_
    have BK306 := n10_
    have HB := n11_
    clear n0_ n1_ n2_ n3_ n4_ n5_ n6_ n7_ n8_ n9_ n10_ n11_
    (try clear hb)
    (try clear hb2)
    (try clear hk)
    (try clear hi)
    (try clear ho0)
    (try clear ho1)
    (try clear ho2)
    obtain ⟨Ao36, co36, eo36⟩ := Kd.R_slice HO311.out
    (first | subst eo36 | (injection eo36 with f1_ f2_ f3_; have f4_ := f1_.symm; have f5_ := f3_.symm; clear f1_ f2_ f3_; subst f4_; subst f5_))
    obtain ⟨Ao37, co37, eo37⟩ := Kd.S_slice HO314.out
    (first | subst eo37 | (injection eo37 with f1_ f2_ f3_; have f4_ := f1_.symm; have f5_ := f3_.symm; clear f1_ f2_ f3_; subst f4_; subst f5_))
    obtain ⟨Ao38, co38, eo38⟩ := Kd.R_slice HO317.out
    (first | subst eo38 | (injection eo38 with f1_ f2_ f3_; have f4_ := f1_.symm; have f5_ := f3_.symm; clear f1_ f2_ f3_; subst f4_; subst f5_))
    refine hK.out _ _ ⟨(blk_cell BK306.out 0).trans rfl, (blk_cell BK306.out 1).trans rfl, (blk_cell BK306.out 2).trans rfl, (blk_cell BK306.out 3).trans rfl, (blk_cell BK283.out 0).trans rfl, (blk_cell BK283.out 1).trans rfl, (blk_cell BK283.out 2).trans rfl, (blk_cell BK283.out 3).trans rfl⟩ (fun hHeld => ?_)
    clear hK K
    refine norm_ (a' := ?_) ?_ ?_
    rotate_left
    ·
     show Act.put _ (some 28) _ = _
     simp only [Lib.pw, Lib.px, Lib.py, i64_w, i32_w]
     rfl
    refine one_ (i := 3) (N := some 29) #[true, true, true, true, false] rfl rfl (by kernel_rfl) (by decide) (fun K hK => ?_)
    refine goes_ Try.func21 (by kernel_rfl) rfl #[.agg #[.int .i64 t296, .slice Ao30 t297.length co30, .slice Ao31 t300.length co31, .slice Ao32 t303.length co32], .agg #[.int .i64 t308, .slice Ao36 t309.length co36, .slice Ao37 t312.length co37, .slice Ao38 t315.length co38]] (by rfl) rfl rfl (by (try simp only [List.map_toArray, List.map_cons, List.map_nil]); first | done | rfl | (simp only [List.length_drop, List.length_take]; rfl)) ?_
    with_reducible refine (laws_eqFS.calls k t296 _ _ t297 _ _ t300 _ _ t303 t308 _ _ t309 _ _ t312 _ _ t315 true _ ?side1 ?side2 ?side3 ?side4 ?side5 ?side6 ?side7 ?side8 ?side9 ?side10 ?side11 ?side12 A14.out).mono ?_
    (case side1 => repeat (first | exact (Kd.R_reads' HO299.out).2.2 | (with_reducible refine Kd.C_alloc ?_ _) | (with_reducible refine Kd.C_drewN ?_ _) | (with_reducible refine Kd.C_drew ?_)))
    (case side2 => exact (Kd.R_reads' HO299.out).2.1)
    (case side3 => repeat (first | exact (Kd.S_reads' HO302.out).2.2 | (with_reducible refine Kd.C_alloc ?_ _) | (with_reducible refine Kd.C_drewN ?_ _) | (with_reducible refine Kd.C_drew ?_)))
    (case side4 => exact (Kd.S_reads' HO302.out).2.1)
    (case side5 => repeat (first | exact (Kd.R_reads' HO305.out).2.2 | (with_reducible refine Kd.C_alloc ?_ _) | (with_reducible refine Kd.C_drewN ?_ _) | (with_reducible refine Kd.C_drew ?_)))
    (case side6 => exact (Kd.R_reads' HO305.out).2.1)
    (case side7 => repeat (first | exact (Kd.R_reads' HO311.out).2.2 | (with_reducible refine Kd.C_alloc ?_ _) | (with_reducible refine Kd.C_drewN ?_ _) | (with_reducible refine Kd.C_drew ?_)))
    (case side8 => exact (Kd.R_reads' HO311.out).2.1)
    (case side9 => repeat (first | exact (Kd.S_reads' HO314.out).2.2 | (with_reducible refine Kd.C_alloc ?_ _) | (with_reducible refine Kd.C_drewN ?_ _) | (with_reducible refine Kd.C_drew ?_)))
    (case side10 => exact (Kd.S_reads' HO314.out).2.1)
    (case side11 => repeat (first | exact (Kd.R_reads' HO317.out).2.2 | (with_reducible refine Kd.C_alloc ?_ _) | (with_reducible refine Kd.C_drewN ?_ _) | (with_reducible refine Kd.C_drew ?_)))
    (case side12 => exact (Kd.R_reads' HO317.out).2.1)
    rintro e w39 ⟨rfl, hb⟩
    refine ⟨_, rfl, ?_⟩
    have n0_ := Aside0.mk (Kd.R_below (by exact Lib.cr HO288.out) hb)
    have n1_ := Aside0.mk (Kd.S_below (by (with_reducible repeat (first | apply Kd.S_alloc | apply Kd.S_drewN | apply Kd.S_drew)); exact HO291.out) hb)
    have n2_ := Aside0.mk (Kd.R_below (by exact Lib.cr HO294.out) hb)
    have n3_ := Aside0.mk (Kd.R_below (by exact Lib.cr HO299.out) hb)
    have n4_ := Aside0.mk (Kd.S_below (by (with_reducible repeat (first | apply Kd.S_alloc | apply Kd.S_drewN | apply Kd.S_drew)); exact HO302.out) hb)
    have n5_ := Aside0.mk (Kd.R_below (by exact Lib.cr HO305.out) hb)
    have n6_ := Aside0.mk (Kd.R_below (by exact Lib.cr HO311.out) hb)
    have n7_ := Aside0.mk (Kd.S_below (by (with_reducible repeat (first | apply Kd.S_alloc | apply Kd.S_drewN | apply Kd.S_drew)); exact HO314.out) hb)
    have n8_ := Aside0.mk (Kd.R_below (by exact Lib.cr HO317.out) hb)
    have n9_ := Aside0.mk (blk_below (g := gb283) (o := .cells #[.int .i64 a0_0, .slice A0_1 l0_1.length c0_1, .slice A0_2 l0_2.length c0_2, .slice A0_3 l0_3.length c0_3] 35 (0, 0)) (by exact Lib.bk BK283.out) hb)
    have n10_ := Aside0.mk (blk_below (g := gb306) (o := .cells #[.int .i64 t296, .slice Ao30 t297.length co30, .slice Ao31 t300.length co31, .slice Ao32 t303.length co32] 42 (0, 0)) (by exact Lib.bk BK306.out) hb)
    have n11_ := Aside0.mk (below_step (by repeat (first | (with_reducible first | exact HB.out | apply below_alloc | apply pw_below_drewN | apply below_drew1 | refine below_set ?_ GE283.out | refine below_set ?_ GE306.out) | exact HB.out)) hb)
    clear HO288
    clear HO291
    clear HO294
    clear HO299
    clear HO302
    clear HO305
    clear HO311
    clear HO314
    clear HO317
    clear BK283
    clear BK306
    clear HB
    have HO288 := n0_
    have HO291 := n1_
    have HO294 := n2_
    have HO299 := n3_
    have HO302 := n4_
    have HO305 := n5_
    have HO311 := n6_
    have HO314 := n7_
    have HO317 := n8_
    have BK283 := n9_
    have BK306 := n10_
    have HB := n11_
    clear n0_ n1_ n2_ n3_ n4_ n5_ n6_ n7_ n8_ n9_ n10_ n11_
    (try clear hb)
    (try clear hb2)
    (try clear hk)
    (try clear hi)
    refine hK.out _ _ ⟨(blk_cell BK306.out 0).trans rfl, (blk_cell BK306.out 1).trans rfl, (blk_cell BK306.out 2).trans rfl, (blk_cell BK306.out 3).trans rfl, (blk_cell BK283.out 0).trans rfl, (blk_cell BK283.out 1).trans rfl, (blk_cell BK283.out 2).trans rfl, (blk_cell BK283.out 3).trans rfl⟩ (fun hHeld => ?_)
    clear hK K
    refine norm_ (a' := ?_) ?_ ?_
    rotate_left
    ·
     show Act.put _ (some 29) _ = _
     simp only [Lib.pw, Lib.px, Lib.py, i64_w, i32_w]
     rfl
    refine pure_ (i := 4) (N := some 30) (v := ?_) (a' := ?_) #[true, true, true, true, true] rfl rfl (by kernel_rfl) (fun _ _ _ h => h) (Or.inl ⟨by rfl, ?_⟩) ?_ ?_
    rotate_left
    ·
     intro w'
     go_simp
     with_reducible rfl
    rotate_left
    ·
     simp only [Lib.pw, Lib.px, Lib.py, i64_w, i32_w]
     rfl
    refine done_ (by kernel_rfl) ?_
    try go_wp2
    go_ret
    exact ⟨by first | rfl | (simp [errW_none, errW_some] <;> rfl) | (simp at hE_ ⊢; exact hE_) | (simp [*, errW_none, errW_some] <;> rfl), by repeat (first | (with_reducible first | exact HB.out | apply below_alloc | apply pw_below_drewN | apply below_drew1 | refine below_set ?_ GE283.out | refine below_set ?_ GE306.out) | exact HB.out)⟩
   ·
    replace c15 := Bool.eq_false_iff.mpr c15
    subst c15
    have H1 : (some false) = some true := by rw [if_neg (show ¬ (false = true) by decide)] at H; exact H
    clear H
    have H := H1
    clear H1
    exact absurd H (by simp)
  ·
   rw [if_neg c12] at H
   have c12b0 : (t307 == t295) = false := beq_eq_false_iff_ne.mpr c12
   have c12b1 : (t307 != t295) = true := bne_iff_ne.mpr c12
   exact absurd H (by simp)

end Go.Proofs.Ytnfiapcemafmiaa.PFnExactBlocksOf
