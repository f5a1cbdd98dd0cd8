-- Written by a program of this session over Lean's own print of the program.
import Derived.Test.YtnfiapcemafmiaaPFnExactNextBlockx0
import Derived.Test.YtnfiapcemafmiaaPFnExactNextBlockx9
import Derived.Test.YtnfiapcemafmiaaPFnExactNextBlockx12
namespace Go.Proofs.Ytnfiapcemafmiaa.PFnExactNextBlock
open Go.RowKit Go.Proofs.YtnfiapcemafmiaaW.PrintWords Go.Proofs.YtnfiapcemafmiaaW.PrintLast Go.Proofs.YtnfiapcemafmiaaW.PrintMore
attribute [local go_sem] max2_int min2_int max_two min_two max_three min_three max_four min_four   -- for this text's walks alone
set_option linter.unusedVariables false
set_option linter.unusedSimpArgs false

/-! ### impl_FS_taken: function 118 -/
/-- The blocks of a list, marked. -/
def impl_FS_taken.mark : List Int → List Bool → Option (List Bool)
 | [], u => some u
 | b :: l, u => if 0 ≤ b ∧ b < 56 then impl_FS_taken.mark l (u.set b.toNat true) else none
def impl_FS_taken.all (k : Nat) : List (S25) → List Bool → Option (List Bool)
 | [], u => some u
 | x :: l, u => (impl_UsedBlocks.f k x.f0 x.f1 x.f2 x.f3 x.f4 x.f5 x.f6 x.f7 x.f8 x.f9).bind fun bs => (impl_FS_taken.mark bs u).bind fun v => impl_FS_taken.all k l v
/-- (*FS).taken. -/
def impl_FS_taken.f (k : Nat) (a0 : Int) (l1 : List (S112)) (l2 : List (S25)) (l3 : List ByteArray) : Option (List Bool) := if l2.length = 20 then impl_FS_taken.all k l2 (List.replicate 56 false) else none
theorem impl_FS_taken.all_mono (k : Nat) : ∀ (l : List (S25)) (u : List Bool), LeO (impl_FS_taken.all k l u) (impl_FS_taken.all (k + 1) l u)
 | [], _ => LeO.refl _
 | x :: l, u => by
  unfold impl_FS_taken.all
  exact LeO.bind (impl_UsedBlocks.mono _ _ _ _ _ _ _ _ _ _ _) fun _ => LeO.bind (LeO.refl _) fun _ => impl_FS_taken.all_mono k l _
theorem impl_FS_taken.mono : ∀ a0 a1 a2 a3 k, LeO (impl_FS_taken.f k a0 a1 a2 a3) (impl_FS_taken.f (k + 1) a0 a1 a2 a3) := fun _ _ _ _ k => LeO.ite (impl_FS_taken.all_mono k _ _) (LeO.refl _)
set_option maxHeartbeats 8000000 in
set_option maxRecDepth 100000 in
theorem impl_FS_taken.calls (k : Nat) {g0 : Nat} (a0 : Int) (A1 : Option Addr) (c1 : Nat) (l1 : List (S112)) (A2 : Option Addr) (c2 : Nat) (l2 : List (S25)) (A3 : Option Addr) (c3 : Nat) (l3 : List ByteArray) (r : List Bool) (w : World) (hr1 : Kd.C k112 w A1 l1.length l1) (hc1 : l1.length ≤ c1) (hr2 : Kd.C k25 w A2 l2.length l2) (hc2 : l2.length ≤ c2) (hr3 : Kd.C Kd.string w A3 l3.length l3) (hc3 : l3.length ≤ c3) (hbx : w.heap[g0]? = some (.cells #[.int .i64 a0, .slice A1 l1.length c1, .slice A2 l2.length c2, .slice A3 l3.length c3] 42 (0, 0))) (h : impl_FS_taken.f k a0 l1 l2 l3 = some r) :
 Calls Try.prog 118 #[.pointer (some ⟨g0, 0, none⟩)] w fun e w' => ∃ v0_ : Value, e = .returned (v0_) ∧ Kd.R Kd.bool 4 w' w.heap.size (fun _ => True) v0_ r ∧ Below w.heap.size w w' := by
 have hu25 := Try.underlying25
 have HR1 := Aside0.mk hr1
 have HC1 := Aside0.mk hc1
 clear hr1 hc1
 have HR2 := Aside0.mk hr2
 have HC2 := Aside0.mk hc2
 clear hr2 hc2
 have HR3 := Aside0.mk hr3
 have HC3 := Aside0.mk hc3
 clear hr3 hc3
 have BK := Aside0.mk hbx
 have HB : Aside0 (Below w.heap.size w w) := ⟨Below.refl _ _⟩
 clear hbx
 have HH := Aside0.mk h
 clear h
 have H := HH.out
 unfold impl_FS_taken.f at H
 by_cases hg : l2.length = 20
 rotate_left
 ·
  rw [if_neg hg] at H
  cases H
 rw [if_pos hg] at H
 clear HH
 have HH := Aside0.mk H
 clear H
 obtain ⟨ad2, e2⟩ : ∃ ad2, A2 = some ad2 := by obtain ⟨ad2, _, _, _, _, _, _, e2, _⟩ := at_T25 HR2.out 0 (by decide) (by omega); exact ⟨ad2, e2⟩
 cases e2
 have HL20 := Aside0.mk hg
 clear hg
 have G0 : Aside0 (g0 < w.heap.size) := ⟨blk_lt BK.out⟩
 have HM := Aside0.mk (Kd.C_max HR2.out)
 go_enter Try.func118, Try.ntmps118
 go_wp2_with (first | ((with_reducible refine gate_dst (N := 8) rfl ?_); refine Kd.R_make Kd.bool _ 4 rfl (N := 8) rfl 58 _ _ rfl 56 rfl rfl Try.underlying58 (.bool false) 1 info4 rfl (by decide) (by omega) false (ok := fun _ => True) (okp := fun _ => True) rfl (fun _ hk => hk) trivial (by omega) (by omega) (Below.refl _ _) (Nat.le_refl _) ?_; intro v3 w3 ho5 hb hg_ hnew_; clear hg_ hnew_; obtain ⟨go, co, e3, hgo, _, _⟩ := Kd.R_form ho5 (by simp); subst e3; simp only [Int.reduceToNat, List.length_replicate] at ho5; have HO := Aside0.mk ho5; have GO := Aside0.mk hgo; clear ho5 hgo; have NE : Aside0 (w.heap.size ≤ go ∧ g0 < go) := ⟨GO.out, Nat.lt_of_lt_of_le G0.out GO.out⟩; replace BK := Aside0.mk (blk_below BK.out hb); replace HB := Aside0.mk (below_step HB.out hb); clear hb; have z2 := (blk_cell BK.out 2).trans rfl; simp only [List.length_replicate]))
 clear z2
 go_loopg [14] (l2.length + 1) (fun kq v w' => ∃ (i : Nat) (y : List Bool), v = .int .i64 (i : Int) ∧ Aside0 (i ≤ l2.length ∧ l2.length - i < kq) ∧ Aside0 (impl_FS_taken.all k (l2.drop i) y = some r) ∧ Aside0 (Kd.R Kd.bool 4 w' w.heap.size (fun _ => True) (.slice (some ⟨go, 0, none⟩) 56 co) y) ∧ Aside0 (w'.heap[g0]? = some (.cells #[.int .i64 a0, .slice A1 l1.length c1, .slice (some ad2) l2.length c2, .slice A3 l3.length c3] 42 (0, 0))) ∧ Aside0 (Below w.heap.size w w'))
 case atStart => exact ⟨0, _, rfl, ⟨by omega⟩, HH, HO, BK, HB⟩
 case round =>
  clear BK HB HO
  obtain ⟨i, y, rfl, HX, HJ, HO, BK, HB⟩ := hrel
  cases gk with
  | zero => exact absurd HX.out.2 (by omega)
  | succ k1 =>
   by_cases c : i < l2.length
   ·
    have HI := Aside0.mk c
    have H := HJ.out
    rw [Lib.drop_rd z25 l2 i c, show l2.getD i z25 = (rd_T25 l2 (i : Int)) from rfl] at H
    obtain ⟨bs, hbs, H⟩ := Option.bind_eq_some_iff.1 H
    obtain ⟨yv, hyv, H⟩ := Option.bind_eq_some_iff.1 H
    have HU := Aside0.mk hbs
    have HV := Aside0.mk hyv
    have HW := Aside0.mk H
    clear H hbs hyv
    obtain ⟨ad, A7, c7, A8, c8, A9, c9, e0, hx0, hx1, hx2, hx3, hx4, hx5, hx6, hx7, hx8, hx9, hl7, hC7, hl8, hC8, hl9, hC9⟩ := at_T25 HR2.out (i : Int) (by omega) (by omega)
    obtain rfl : ad2 = ad := by injection e0
    simp only [Int.toNat_natCast] at hx0 hx1 hx2 hx3 hx4 hx5 hx6 hx7 hx8 hx9
    replace hx0 := pw_cell_below HB.out hx0
    replace hx1 := pw_cell_below HB.out hx1
    replace hx2 := pw_cell_below HB.out hx2
    replace hx3 := pw_cell_below HB.out hx3
    replace hx4 := pw_cell_below HB.out hx4
    replace hx5 := pw_cell_below HB.out hx5
    replace hx6 := pw_cell_below HB.out hx6
    replace hx7 := pw_cell_below HB.out hx7
    replace hx8 := pw_cell_below HB.out hx8
    replace hx9 := pw_cell_below HB.out hx9
    have HL7 := Aside0.mk hl7
    have HC7 := Aside0.mk hC7
    clear hl7 hC7
    have HL8 := Aside0.mk hl8
    have HC8 := Aside0.mk hC8
    clear hl8 hC8
    have HL9 := Aside0.mk hl9
    have HC9 := Aside0.mk hC9
    clear hl9 hC9
    have b4 : decide ((i : Int) < (l2.length : Int)) = true := decide_eq_true (by omega)
    have b5 := eq_true (show (i : Int) < (l2.length : Int) by omega)
    have b6 := eq_true (show 0 ≤ (i : Int) by omega)
    go_upto_region 5 with (fail)
    clear hx0 hx1 hx2 hx3 hx4 hx5 hx6 hx7 hx8 hx9 b4 b5 b6
    have BKo := BK
    obtain ⟨w4, hw_⟩ : ∃ W, W = wr.alloc (.cells #[.int .i64 (rd_T25 l2 (i : Int)).f0, .int .i64 (rd_T25 l2 (i : Int)).f1, .int .i64 (rd_T25 l2 (i : Int)).f2, .int .i64 (rd_T25 l2 (i : Int)).f3, .int .i64 (rd_T25 l2 (i : Int)).f4, .int .i64 (rd_T25 l2 (i : Int)).f5, .int .i64 (rd_T25 l2 (i : Int)).f6, .slice A7 (rd_T25 l2 (i : Int)).f7.length c7, .slice A8 (rd_T25 l2 (i : Int)).f8.length c8, .slice A9 (rd_T25 l2 (i : Int)).f9.length c9] 25 (0, 0)) := ⟨_, rfl⟩
    rw [← hw_]
    have BI : Aside0 (w4.heap[wr.heap.size]? = some (.cells #[.int .i64 (rd_T25 l2 (i : Int)).f0, .int .i64 (rd_T25 l2 (i : Int)).f1, .int .i64 (rd_T25 l2 (i : Int)).f2, .int .i64 (rd_T25 l2 (i : Int)).f3, .int .i64 (rd_T25 l2 (i : Int)).f4, .int .i64 (rd_T25 l2 (i : Int)).f5, .int .i64 (rd_T25 l2 (i : Int)).f6, .slice A7 (rd_T25 l2 (i : Int)).f7.length c7, .slice A8 (rd_T25 l2 (i : Int)).f8.length c8, .slice A9 (rd_T25 l2 (i : Int)).f9.length c9] 25 (0, 0))) := ⟨by rw [hw_]; exact blk_new _ _⟩
    replace BK : Aside0 (w4.heap[g0]? = some (.cells #[.int .i64 a0, .slice A1 l1.length c1, .slice (some ad2) l2.length c2, .slice A3 l3.length c3] 42 (0, 0))) := ⟨by rw [hw_]; exact blk_alloc BK.out _⟩
    replace HB : Aside0 (Below w.heap.size w w4) := ⟨by rw [hw_]; exact below_alloc HB.out _⟩
    have HW4 := Aside0.mk hw_
    clear hw_
    replace HO : Aside0 (Kd.R Kd.bool 4 w4 w.heap.size (fun _ => True) (.slice (some ⟨go, 0, none⟩) 56 co) y) := ⟨Kd.R_below HO.out (by rw [HW4.out]; exact below_alloc (Below.refl _ _) _)⟩
    clear HW4 BKo
    obtain ⟨p0, p1, p2, p3, p4, p5, p6, p7, p8, p9, q0, q1, q2, q3, q4, q5, q6, q7, q8, q9⟩ := Lib.cel10 BI.out
    clear c
    go_wp2_with (first | ((with_reducible refine gate_callee (f := 38) rfl ?_); refine goesL_ (some 19) rfl rfl Try.func38 (by kernel_rfl) rfl #[.agg #[.int .i64 (rd_T25 l2 (i : Int)).f0, .int .i64 (rd_T25 l2 (i : Int)).f1, .int .i64 (rd_T25 l2 (i : Int)).f2, .int .i64 (rd_T25 l2 (i : Int)).f3, .int .i64 (rd_T25 l2 (i : Int)).f4, .int .i64 (rd_T25 l2 (i : Int)).f5, .int .i64 (rd_T25 l2 (i : Int)).f6, .slice A7 (rd_T25 l2 (i : Int)).f7.length c7, .slice A8 (rd_T25 l2 (i : Int)).f8.length c8, .slice A9 (rd_T25 l2 (i : Int)).f9.length c9]] rfl (by (try simp only [List.map_toArray, List.map_cons, List.map_nil]); first | done | rfl) ?_; refine (impl_UsedBlocks.calls k (rd_T25 l2 (i : Int)).f0 (rd_T25 l2 (i : Int)).f1 (rd_T25 l2 (i : Int)).f2 (rd_T25 l2 (i : Int)).f3 (rd_T25 l2 (i : Int)).f4 (rd_T25 l2 (i : Int)).f5 (rd_T25 l2 (i : Int)).f6 _ _ (rd_T25 l2 (i : Int)).f7 _ _ (rd_T25 l2 (i : Int)).f8 _ _ (rd_T25 l2 (i : Int)).f9 bs w4 (Kd.C_below HC7.out HB.out) HL7.out (Kd.C_below HC8.out HB.out) HL8.out (Kd.C_below HC9.out HB.out) HL9.out HU.out).mono ?_; rintro e w5 ⟨vb, rfl, hR, hb⟩; refine ⟨_, rfl, ?_⟩; obtain ⟨Ab, cb, eb⟩ := Kd.R_slice hR; subst eb; have HRB := Aside0.mk (Kd.R_lower hR (below_size HB.out)); replace BK := Aside0.mk (blk_below BK.out hb); replace BI := Aside0.mk (blk_below BI.out hb); replace HO := Aside0.mk (Kd.R_below HO.out hb); replace HB := Aside0.mk (below_step HB.out hb); clear hb hR p0 p1 p2 p3 p4 p5 p6 p7 p8 p9 q0 q1 q2 q3 q4 q5 q6 q7 q8 q9))
    obtain ⟨cs_, hcs_⟩ := Kd.R_typed HO.out go rfl
    have HRB2 : Aside0 (Kd.R (Kd.int .i64) 3 w5 w.heap.size (fun k => True ∧ k ≠ go) (.slice Ab bs.length cb) bs) := ⟨Kd.R_types HRB.out hcs_ (by decide)⟩
    clear hcs_ cs_ HRB BI
    go_loopg [21] (bs.length + 1) (fun kq v w' => ∃ (j : Nat) (y2 : List Bool), v = .int .i64 (j : Int) ∧ Aside0 (j ≤ bs.length ∧ bs.length - j < kq) ∧ Aside0 (impl_FS_taken.mark (bs.drop j) y2 = some yv) ∧ Aside0 (Kd.R Kd.bool 4 w' w.heap.size (fun _ => True) (.slice (some ⟨go, 0, none⟩) 56 co) y2) ∧ Aside0 (Kd.R (Kd.int .i64) 3 w' w.heap.size (fun k => True ∧ k ≠ go) (.slice Ab bs.length cb) bs) ∧ Aside0 (w'.heap[g0]? = some (.cells #[.int .i64 a0, .slice A1 l1.length c1, .slice (some ad2) l2.length c2, .slice A3 l3.length c3] 42 (0, 0))) ∧ Aside0 (Below w.heap.size w w'))
    case atStart => exact ⟨0, y, rfl, ⟨by omega⟩, HV, HO, HRB2, BK, HB⟩
    case round =>
     clear BK HB HO HRB2 HV
     obtain ⟨j, y2, rfl, HX2, HJ2, HO, HRB, BK, HB⟩ := hrel
     have HC := Aside0.mk (Kd.R_reads' HRB.out).2.2
     have HMB := Aside0.mk (Kd.C_max HC.out)
     cases gk with
     | zero => exact absurd HX2.out.2 (by omega)
     | succ k2 =>
      by_cases c : j < bs.length
      ·
       have HIJ := Aside0.mk c
       have H := HJ2.out
       rw [Lib.drop_rd (0 : Int) bs j c, show bs.getD j 0 = (rd bs (j : Int)) from rfl] at H
       unfold impl_FS_taken.mark at H
       by_cases hb_ : 0 ≤ (rd bs (j : Int)) ∧ (rd bs (j : Int)) < 56
       rotate_left
       ·
        rw [if_neg hb_] at H
        cases H
       rw [if_pos hb_] at H
       have HJ3 := Aside0.mk H
       clear H
       obtain ⟨adb, eb, hxb⟩ := Kd.at_int HC.out (j : Int) (by omega) (by omega)
       cases eb
       simp only [Int.toNat_natCast] at hxb
       obtain ⟨hy1, hy2⟩ := Kd.R_celln false HO.out (rd bs (j : Int)) hb_.1 (by omega)
       have hy3 : wr.cell? ⟨go, (rd bs (j : Int)).toNat, none⟩ = some (.bool (rdOf false y2 (rd bs (j : Int)))) := hy1
       have b9 := eq_true hb_.1
       have b10 := eq_true hb_.2
       have b4 : decide ((j : Int) < (bs.length : Int)) = true := decide_eq_true (by omega)
       have b5 := eq_true (show (j : Int) < (bs.length : Int) by omega)
       have b6 := eq_true (show 0 ≤ (j : Int) by omega)
       clear c hy1 hb_
       go_wp2
       clear hxb hy2 hy3 b4 b5 b6 b9 b10
       go_roundg k2
       case measure => exact Nat.lt_succ_self _
       case rel => exact ⟨j + 1, y2.set (rd bs (j : Int)).toNat true, by rw [show wrap64 ((j : Int) + 1) = ((j + 1 : Nat) : Int) by have h1_ := HMB.out; have h2_ := HIJ.out; unfold wrap64; omega], ⟨by have h1_ := HX2.out; have h2_ := HIJ.out; omega⟩, HJ3, ⟨Kd.R_putn HO.out (rd bs (j : Int)) true⟩, ⟨Kd.R_far (p := ⟨go, (rd bs (j : Int)).toNat, none⟩) HRB.out (fun k hk => hk.2) (.bool true)⟩, ⟨blk_far (p := ⟨go, (rd bs (j : Int)).toNat, none⟩) BK.out (Nat.ne_of_lt NE.out.2) (.bool true)⟩, ⟨below_set (j := (rd bs (j : Int)).toNat) (v := .bool true) HB.out NE.out.1⟩⟩
      ·
       have H := HJ2.out
       rw [List.drop_eq_nil_of_le (by omega)] at H
       obtain rfl := Option.some.inj H
       have b4 : decide ((j : Int) < (bs.length : Int)) = false := decide_eq_false (by omega)
       have b5 := eq_false (show ¬ (j : Int) < (bs.length : Int) by omega)
       clear c H
       go_wp2
       go_roundg k1
       case measure => exact Nat.lt_succ_self _
       case rel => exact ⟨i + 1, _, by rw [show wrap64 ((i : Int) + 1) = ((i + 1 : Nat) : Int) by have h1_ := HM.out; have h2_ := HI.out; unfold wrap64; omega], ⟨by have h1_ := HX.out; have h2_ := HI.out; omega⟩, HW, HO, BK, HB⟩
   ·
    have H := HJ.out
    rw [List.drop_eq_nil_of_le (by omega)] at H
    obtain rfl := Option.some.inj H
    have b4 : decide ((i : Int) < (l2.length : Int)) = false := decide_eq_false (by omega)
    have b5 := eq_false (show ¬ (i : Int) < (l2.length : Int) by omega)
    clear c H
    go_wp2
    go_ret
    exact ⟨_, rfl, HO.out, HB.out⟩

/-! ### impl_FS_blocks: function 108 -/
/-- (*FS).blocks. -/
def impl_FS_blocks.f (k : Nat) (a0 : Int) (l1 : List (S112)) (l2 : List (S25)) (l3 : List ByteArray) (u : Int) : Option Int :=
 if 0 ≤ u ∧ u ≤ 3 then (impl_FS_taken.f k a0 l1 l2 l3).bind fun v => if v.length = 56 then some ((((v.take (u.toNat * 14 + 14)).drop (u.toNat * 14)).countP (fun b => b) : Nat) : Int) else none else none
theorem impl_FS_blocks.mono : ∀ a0 a1 a2 a3 u k, LeO (impl_FS_blocks.f k a0 a1 a2 a3 u) (impl_FS_blocks.f (k + 1) a0 a1 a2 a3 u) := fun _ _ _ _ _ _ => LeO.ite (LeO.bind (impl_FS_taken.mono _ _ _ _ _) fun _ => LeO.refl _) (LeO.refl _)
set_option maxHeartbeats 8000000 in
set_option maxRecDepth 100000 in
theorem impl_FS_blocks.calls (k : Nat) {g0 : Nat} (a0 : Int) (A1 : Option Addr) (c1 : Nat) (l1 : List (S112)) (A2 : Option Addr) (c2 : Nat) (l2 : List (S25)) (A3 : Option Addr) (c3 : Nat) (l3 : List ByteArray) (u : Int) (r : Int) (w : World) (hr1 : Kd.C k112 w A1 l1.length l1) (hc1 : l1.length ≤ c1) (hr2 : Kd.C k25 w A2 l2.length l2) (hc2 : l2.length ≤ c2) (hr3 : Kd.C Kd.string w A3 l3.length l3) (hc3 : l3.length ≤ c3) (hbx : w.heap[g0]? = some (.cells #[.int .i64 a0, .slice A1 l1.length c1, .slice A2 l2.length c2, .slice A3 l3.length c3] 42 (0, 0))) (h : impl_FS_blocks.f k a0 l1 l2 l3 u = some r) :
 Calls Try.prog 108 #[.pointer (some ⟨g0, 0, none⟩), .int .i64 u] w fun e w' => e = .returned (.int .i64 r) ∧ Below w.heap.size w w' := by
 have HR1 := Aside0.mk hr1
 have HC1 := Aside0.mk hc1
 clear hr1 hc1
 have HR2 := Aside0.mk hr2
 have HC2 := Aside0.mk hc2
 clear hr2 hc2
 have HR3 := Aside0.mk hr3
 have HC3 := Aside0.mk hc3
 clear hr3 hc3
 have BK := Aside0.mk hbx
 have HB : Aside0 (Below w.heap.size w w) := ⟨Below.refl _ _⟩
 clear hbx
 have HH := Aside0.mk h
 clear h
 have H := HH.out
 unfold impl_FS_blocks.f at H
 by_cases hg : 0 ≤ u ∧ u ≤ 3
 rotate_left
 ·
  rw [if_neg hg] at H
  cases H
 rw [if_pos hg] at H
 clear HH
 obtain ⟨v, hv, H⟩ := Option.bind_eq_some_iff.1 H
 by_cases h56 : v.length = 56
 rotate_left
 ·
  rw [if_neg h56] at H
  cases H
 rw [if_pos h56] at H
 obtain rfl := Option.some.inj H
 clear H
 have HV := Aside0.mk hv
 have H56 := Aside0.mk h56
 clear hv h56
 obtain ⟨g1, g2⟩ := hg
 obtain ⟨m, rfl⟩ : ∃ m : Nat, u = (m : Int) := ⟨u.toNat, by omega⟩
 simp only [Int.toNat_natCast]
 obtain ⟨L, hL⟩ : ∃ L, L = (v.take (m * 14 + 14)).drop (m * 14) := ⟨_, rfl⟩
 have hL14 : L.length = 14 := by rw [hL, List.length_drop, List.length_take]; have := H56.out; omega
 rw [← hL]
 have HL := Aside0.mk hL
 have HM3 : Aside0 (m ≤ 3) := ⟨by omega⟩
 have k1 : wrap64 ((m : Int) * 14) = (m : Int) * 14 := by unfold wrap64; omega
 have k2 : wrap64 ((m : Int) + 1) = (m : Int) + 1 := by unfold wrap64; omega
 have k3 : wrap64 (((m : Int) + 1) * 14) = ((m : Int) + 1) * 14 := by unfold wrap64; omega
 have t1 : ((m : Int) * 14).toNat = m * 14 := by omega
 have t2 : (((m : Int) + 1) * 14).toNat = m * 14 + 14 := by omega
 have e1 := eq_true (show 0 ≤ ((m : Int) + 1) * 14 by omega)
 have e3 := eq_true (show 0 ≤ (m : Int) * 14 by omega)
 have e4 := eq_true (show (m : Int) * 14 ≤ (m : Int) * 14 + 14 by omega)
 clear hL g1 g2
 have H14 := Aside0.mk hL14
 clear hL14
 go_enter Try.func108, Try.ntmps108
 go_wp2_with (first | ((with_reducible refine gate_callee (f := 118) rfl ?_); refine goesL_ (some 9) rfl rfl Try.func118 (by kernel_rfl) rfl #[.pointer (some ⟨g0, 0, none⟩)] rfl (by (try simp only [List.map_toArray, List.map_cons, List.map_nil]); first | done | rfl) ?_; refine (impl_FS_taken.calls k a0 _ _ l1 _ _ l2 _ _ l3 v w HR1.out HC1.out HR2.out HC2.out HR3.out HC3.out BK.out HV.out).mono ?_; rintro e w5 ⟨v0, rfl, hR, hb⟩; refine ⟨_, rfl, ?_⟩; obtain ⟨go, co, e0, _, _, _⟩ := Kd.R_form hR (by rw [H56.out]; decide); subst e0; obtain ⟨_, hco, hCr⟩ := Kd.R_reads' hR; have h56 := H56.out; have hc_ := Kd.C_mid (lo := m * 14) (hi := m * 14 + 14) hCr (by omega) (by have := HM3.out; omega) hco; rw [if_neg (by have := HM3.out; omega), ← HL.out] at hc_; have HRL := Aside0.mk hc_; have e2 := eq_true (show ((m : Int) + 1) * 14 ≤ (co : Int) by have := HM3.out; omega); have e5 := eq_false (show ¬ co = m * 14 by have := HM3.out; omega); replace HB := Aside0.mk (below_step HB.out hb); clear hb hR hc_ hCr hco h56))
 clear k1 k2 k3 t1 t2 e1 e2 e3 e4 e5
 go_loopg [17, 5] 15 (fun kq v v2 w' => ∃ i : Nat, v = .int .i64 (i : Int) ∧ v2 = .int .i64 (((L.take i).countP (fun b : Bool => b) : Nat) : Int) ∧ Aside0 (i ≤ 14 ∧ 14 - i < kq) ∧ Aside0 (Below w.heap.size w w') ∧ Aside0 (Below w5.heap.size w5 w'))
 case atStart => exact ⟨0, rfl, rfl, ⟨by omega⟩, HB, ⟨Below.refl _ _⟩⟩
 case round =>
  clear HB
  obtain ⟨i, rfl, rfl, HX, HB, HB5⟩ := hrel
  cases gk with
  | zero => exact absurd HX.out.2 (by omega)
  | succ k1 =>
   by_cases c : i < 14
   ·
    have HI := Aside0.mk c
    obtain ⟨ad, e0, hx⟩ := Kd.at_bool (Kd.C_below HRL.out HB5.out) (i : Int) (by omega) (by have := H14.out; omega)
    cases e0
    have hx2 : wr.cell? ⟨go, m * 14 + i, none⟩ = some (Value.bool (rdOf false L (i : Int))) := by
     have h_ := hx
     rw [show (m * 14 * Kd.bool.sz) = m * 14 from Nat.mul_one _] at h_
     have ha_ : ∀ a n : Nat, (⟨go, a, none⟩ : Addr).add n = ⟨go, a + n, none⟩ := by
      intro a n
      unfold Addr.add
      split
      ·
       rename_i h
       rw [h]
       rfl
      ·
       rfl
     simp only [ha_, Nat.zero_add, Int.toNat_natCast] at h_
     exact h_
    clear hx
    have b4 : decide ((i : Int) < 14) = true := decide_eq_true (by omega)
    have b5 := eq_true (show (i : Int) < 14 by omega)
    have b6 := eq_true (show 0 ≤ (i : Int) by omega)
    have hcn : (L.take i).countP (fun b : Bool => b) ≤ i := Nat.le_trans List.countP_le_length (by rw [List.length_take]; omega)
    have hcs : (L.take (i + 1)).countP (fun b : Bool => b) = (L.take i).countP (fun b : Bool => b) + (if (rdOf false L (i : Int)) = true then 1 else 0) := by rw [Lib.take_rd false L i (by have := H14.out; omega), List.countP_append, List.countP_singleton]; rfl
    have HN := Aside0.mk hcn
    have HS := Aside0.mk hcs
    clear hcn hcs c
    cases hb_ : (rdOf false L (i : Int)) with
    | true =>
     rw [hb_] at hx2
     go_wp2
     go_roundg k1
     case measure => exact Nat.lt_succ_self _
     case rel => exact ⟨i + 1, by rw [show wrap64 ((i : Int) + 1) = ((i + 1 : Nat) : Int) by have h2_ := HI.out; unfold wrap64; omega], by have h_ := HS.out; rw [hb_, if_pos rfl] at h_; have h2_ := HN.out; have h3_ := HI.out; rw [h_, show wrap64 (((L.take i).countP (fun b : Bool => b) : Nat) + 1 : Int) = (((L.take i).countP (fun b : Bool => b) + 1 : Nat) : Int) by unfold wrap64; omega], ⟨by have h1_ := HX.out; have h2_ := HI.out; omega⟩, HB, HB5⟩
    | false =>
     rw [hb_] at hx2
     go_wp2
     go_roundg k1
     case measure => exact Nat.lt_succ_self _
     case rel => exact ⟨i + 1, by rw [show wrap64 ((i : Int) + 1) = ((i + 1 : Nat) : Int) by have h2_ := HI.out; unfold wrap64; omega], by have h_ := HS.out; rw [hb_, if_neg (by decide)] at h_; rw [h_]; rfl, ⟨by have h1_ := HX.out; have h2_ := HI.out; omega⟩, HB, HB5⟩
   ·
    have b4 : decide ((i : Int) < 14) = false := decide_eq_false (by omega)
    have b5 := eq_false (show ¬ (i : Int) < 14 by omega)
    have h5 : L.take i = L := List.take_of_length_le (by have := H14.out; omega)
    rw [h5]
    clear h5 c
    go_wp2
    go_ret
    exact ⟨rfl, HB.out⟩

/-! ### impl_FS_nextBlock: function 70 -/
/-- The first block of a pool that is free. -/
def impl_FS_nextBlock.scan (l : List Bool) : Nat → Nat → Int × Int
 | 0, _ => (0, 8)
 | n + 1, i => if rdOf false l (i : Int) = true then impl_FS_nextBlock.scan l n (i + 1) else ((i : Int), 0)
/-- (*FS).nextBlock. -/
def impl_FS_nextBlock.f (k : Nat) (a0 : Int) (l1 : List (S112)) (l2 : List (S25)) (l3 : List ByteArray) (u : Int) : Option (Int × Int) :=
 if 0 ≤ u ∧ u ≤ 3 ∧ l1.length = 4 then (impl_FS_blocks.f k a0 l1 l2 l3 u).bind fun n => if n ≥ (rd_T112 l1 u).f1 then some (0, 7) else (impl_FS_taken.f k a0 l1 l2 l3).bind fun v => if v.length = 56 then some (impl_FS_nextBlock.scan v 14 (u.toNat * 14)) else none else none
theorem impl_FS_nextBlock.mono : ∀ a0 a1 a2 a3 u k, LeO (impl_FS_nextBlock.f k a0 a1 a2 a3 u) (impl_FS_nextBlock.f (k + 1) a0 a1 a2 a3 u) := fun _ _ _ _ _ _ => LeO.ite (LeO.bind (impl_FS_blocks.mono _ _ _ _ _ _) fun _ => LeO.ite (LeO.refl _) (LeO.bind (impl_FS_taken.mono _ _ _ _ _) fun _ => LeO.refl _)) (LeO.refl _)
set_option maxHeartbeats 8000000 in
set_option maxRecDepth 100000 in
theorem impl_FS_nextBlock.calls (k : Nat) {g0 : Nat} (a0 : Int) (A1 : Option Addr) (c1 : Nat) (l1 : List (S112)) (A2 : Option Addr) (c2 : Nat) (l2 : List (S25)) (A3 : Option Addr) (c3 : Nat) (l3 : List ByteArray) (u : Int) (r1 : Int) (r2 : Int) (w : World) (hr1 : Kd.C k112 w A1 l1.length l1) (hc1 : l1.length ≤ c1) (hr2 : Kd.C k25 w A2 l2.length l2) (hc2 : l2.length ≤ c2) (hr3 : Kd.C Kd.string w A3 l3.length l3) (hc3 : l3.length ≤ c3) (hbx : w.heap[g0]? = some (.cells #[.int .i64 a0, .slice A1 l1.length c1, .slice A2 l2.length c2, .slice A3 l3.length c3] 42 (0, 0))) (h : impl_FS_nextBlock.f k a0 l1 l2 l3 u = some (r1, r2)) :
 Calls Try.prog 70 #[.pointer (some ⟨g0, 0, none⟩), .int .i64 u] w fun e w' => e = .returned (.tuple #[.int .i64 r1, .int .i64 r2]) ∧ Below w.heap.size w w' := by
 have hu112 := Try.underlying112
 have HR1 := Aside0.mk hr1
 have HC1 := Aside0.mk hc1
 clear hr1 hc1
 have HR2 := Aside0.mk hr2
 have HC2 := Aside0.mk hc2
 clear hr2 hc2
 have HR3 := Aside0.mk hr3
 have HC3 := Aside0.mk hc3
 clear hr3 hc3
 have BK := Aside0.mk hbx
 have HB : Aside0 (Below w.heap.size w w) := ⟨Below.refl _ _⟩
 clear hbx
 have HH := Aside0.mk h
 clear h
 have H := HH.out
 unfold impl_FS_nextBlock.f at H
 by_cases hg : 0 ≤ u ∧ u ≤ 3 ∧ l1.length = 4
 rotate_left
 ·
  rw [if_neg hg] at H
  cases H
 rw [if_pos hg] at H
 clear HH
 obtain ⟨n, hn, H⟩ := Option.bind_eq_some_iff.1 H
 have HN := Aside0.mk hn
 clear hn
 obtain ⟨g1, g2, g3⟩ := hg
 obtain ⟨m, rfl⟩ : ∃ m : Nat, u = (m : Int) := ⟨u.toNat, by omega⟩
 simp only [Int.toNat_natCast] at H
 obtain ⟨ad1, e1⟩ : ∃ ad1, A1 = some ad1 := by obtain ⟨ad1, e1, _⟩ := at_T112 HR1.out 0 (by decide) (by omega); exact ⟨ad1, e1⟩
 cases e1
 have HG : Aside0 (m ≤ 3 ∧ l1.length = 4) := ⟨by omega⟩
 clear g1 g2 g3
 have hg_ := HG.out
 obtain ⟨ad, e0, hx0, hx1⟩ := at_T112 HR1.out (m : Int) (by omega) (by omega)
 obtain rfl : ad1 = ad := by injection e0
 simp only [Int.toNat_natCast] at hx0 hx1
 have b5 := eq_true (show (m : Int) < (l1.length : Int) by omega)
 have b6 := eq_true (show 0 ≤ (m : Int) by omega)
 clear hg_
 go_enter Try.func70, Try.ntmps70
 go_upto_region 1 with (fail)
 go_cut [19] (fun v wc => v = .bool (decide ((rd_T112 l1 (m : Int)).f1 ≤ n)) ∧ Aside0 (wc.heap[g0]? = some (.cells #[.int .i64 a0, .slice (some ad1) l1.length c1, .slice A2 l2.length c2, .slice A3 l3.length c3] 42 (0, 0))) ∧ Aside0 (Below w.heap.size w wc))
 case first =>
  have HM : ∀ W, Below w.heap.size w W → (W.cell? ⟨g0, 1, none⟩ = some (.slice (some ad1) l1.length c1) ∧ W.cell? ⟨(ad1.add (m * 2)).block, (ad1.add (m * 2)).off + 1, none⟩ = some (.int .i64 (rd_T112 l1 (m : Int)).f1)) := fun W hb => ⟨(blk_cell (blk_below BK.out hb) 1).trans rfl, pw_cell_below hb hx1⟩
  refine Lib.q_start w Try.f70 (by kernel_rfl) rfl (by kernel_rfl) (Below.refl _ _) ?_
  (try simp only [List.append_eq, List.cons_append, List.nil_append])
  refine Lib.q (.tmp 0) (.tmp 0) (hw := Lib.want_n rfl) (hx := fun _ => rfl) (hy := fun _ => rfl) (h := ?_)
  refine Lib.q (.tmp 1) (.tmp 1) (hw := Lib.want_n rfl) (hx := fun _ => rfl) (hy := fun _ => rfl) (h := ?_)
  refine Lib.q_call (.int .i64 n) #[.pointer (some ⟨g0, 0, none⟩), .int .i64 (m : Int)] Try.func108 (hw := Lib.want_n rfl) (hargs := by intro hc; simp only [List.map_toArray, List.map_cons, List.map_nil]; exact Lib.args2 rfl rfl) (hcl := ?_) (h := ?_)
  ·
   exact fun _ W hb => (impl_FS_blocks.calls k a0 _ _ l1 _ _ l2 _ _ l3 _ n W (Kd.C_below HR1.out hb) HC1.out (Kd.C_below HR2.out hb) HC2.out (Kd.C_below HR3.out hb) HC3.out (blk_below BK.out hb) HN.out)
  refine Lib.q (.tmp 0) (.tmp 0) (hw := Lib.want_n rfl) (hx := fun _ => rfl) (hy := fun _ => rfl) (h := ?_)
  refine Lib.q (.tmp 11) (.tmp 11) (hw := Lib.want_n rfl) (hx := fun _ => rfl) (hy := fun _ => rfl) (h := ?_)
  refine Lib.q (.tmp 12) (.tmp 12) (hw := Lib.want_n rfl) (hx := fun _ => rfl) (hy := fun _ => rfl) (h := ?_)
  refine Lib.q (.tmp 13) (.tmp 13) (hw := Lib.want_n rfl) (hx := fun _ => rfl) (hy := fun _ => rfl) (h := ?_)
  refine Lib.q (.tmp 1) (.tmp 1) (hw := Lib.want_n rfl) (hx := fun _ => rfl) (hy := fun _ => rfl) (h := ?_)
  refine Lib.q (.tmp 14) (.tmp 15) (hw := Lib.want_n rfl) (hx := fun _ => rfl) (hy := fun _ => rfl) (h := ?_)
  refine Lib.q (.tmp 16) (.tmp 16) (hw := Lib.want_n rfl) (hx := fun _ => rfl) (hy := fun _ => rfl) (h := ?_)
  refine Lib.q (.tmp 17) (.tmp 17) (hw := Lib.want_n rfl) (hx := fun _ => rfl) (hy := fun _ => rfl) (h := ?_)
  refine Lib.q (.tmp 10) (.tmp 18) (hw := Lib.want_n rfl) (hx := fun _ => rfl) (hy := fun _ => rfl) (h := ?_)
  refine Lib.q_done (fun W hb => ?_)
  try go_wp2
  go_meet
  case rel => exact ⟨rfl, ⟨blk_below BK.out hb⟩, ⟨below_step HB.out hb⟩⟩
 case rest =>
  clear BK HB hx0 hx1 b5 b6
  obtain ⟨rfl, BK, HB⟩ := hcut
  cases hq_ : (decide ((rd_T112 l1 (m : Int)).f1 ≤ n)) with
  | true =>
   rw [if_pos (show n ≥ (rd_T112 l1 (m : Int)).f1 from of_decide_eq_true hq_)] at H
   cases H
   go_wp2
   go_ret2
   exact ⟨rfl, HB.out⟩
  | false =>
   rw [if_neg (show ¬ n ≥ (rd_T112 l1 (m : Int)).f1 from of_decide_eq_false hq_)] at H
   obtain ⟨v, hv, H⟩ := Option.bind_eq_some_iff.1 H
   by_cases h56 : v.length = 56
   rotate_left
   ·
    rw [if_neg h56] at H
    cases H
   rw [if_pos h56] at H
   have HV := Aside0.mk hv
   have H56 := Aside0.mk h56
   clear hv h56
   have HJ0 : Aside0 (impl_FS_nextBlock.scan v (m * 14 + 14 - m * 14) (m * 14) = (r1, r2)) := ⟨by rw [Nat.add_sub_cancel_left]; exact Option.some.inj H⟩
   clear H HN hq_
   have h_ := HG.out
   have k1 : wrap64 ((m : Int) * 14) = (m : Int) * 14 := by unfold wrap64; omega
   have k2 : wrap64 ((m : Int) + 1) = (m : Int) + 1 := by unfold wrap64; omega
   have k3 : wrap64 (((m : Int) + 1) * 14) = ((m : Int) + 1) * 14 := by unfold wrap64; omega
   clear h_
   go_wp2_with (first | ((with_reducible refine gate_callee (f := 118) rfl ?_); refine goesL_ (some 21) rfl rfl Try.func118 (by kernel_rfl) rfl #[.pointer (some ⟨g0, 0, none⟩)] rfl (by (try simp only [List.map_toArray, List.map_cons, List.map_nil]); first | done | rfl) ?_; refine (impl_FS_taken.calls k a0 _ _ l1 _ _ l2 _ _ l3 v wc (Kd.C_below HR1.out HB.out) HC1.out (Kd.C_below HR2.out HB.out) HC2.out (Kd.C_below HR3.out HB.out) HC3.out BK.out HV.out).mono ?_; rintro e w5 ⟨v0, rfl, hR, hb⟩; refine ⟨_, rfl, ?_⟩; obtain ⟨go, co, e0, _, _, _⟩ := Kd.R_form hR (by rw [H56.out]; decide); subst e0; have HRL := Aside0.mk (Kd.R_reads' hR).2.2; replace HB := Aside0.mk (below_step HB.out hb); clear hb hR))
   go_loopg [7] 15 (fun kq v7 w' => ∃ i : Nat, v7 = .int .i64 (i : Int) ∧ Aside0 (m * 14 ≤ i ∧ i ≤ m * 14 + 14 ∧ m * 14 + 14 - i < kq) ∧ Aside0 (impl_FS_nextBlock.scan v (m * 14 + 14 - i) i = (r1, r2)) ∧ Aside0 (Below w.heap.size w w') ∧ Aside0 (Below w5.heap.size w5 w'))
   case atStart => exact ⟨m * 14, by rw [Int.natCast_mul]; rfl, ⟨by omega⟩, HJ0, HB, ⟨Below.refl _ _⟩⟩
   case round =>
    clear HB HJ0
    obtain ⟨i, rfl, HX, HJ, HB, HB5⟩ := hrel
    cases gk with
    | zero => exact absurd HX.out.2.2 (by omega)
    | succ k1 =>
     by_cases c : i < m * 14 + 14
     ·
      have HI := Aside0.mk c
      have hg_ := HG.out
      have h56 := H56.out
      have H := HJ.out
      rw [show m * 14 + 14 - i = (m * 14 + 14 - (i + 1)) + 1 by omega] at H
      unfold impl_FS_nextBlock.scan at H
      obtain ⟨ad, e0, hx⟩ := Kd.at_bool (Kd.C_below HRL.out HB5.out) (i : Int) (by omega) (by omega)
      cases e0
      have hx2 : wr.cell? ⟨go, i, none⟩ = some (Value.bool (rdOf false v (i : Int))) := by
       have h_ := hx
       have ha_ : ∀ a n : Nat, (⟨go, a, none⟩ : Addr).add n = ⟨go, a + n, none⟩ := by
        intro a n
        unfold Addr.add
        split
        ·
         rename_i h
         rw [h]
         rfl
        ·
         rfl
       simp only [ha_, Nat.zero_add, Int.toNat_natCast] at h_
       exact h_
      clear hx
      have b4 : decide ((i : Int) < ((m : Int) + 1) * 14) = true := decide_eq_true (by omega)
      have b5 := eq_true (show (i : Int) < (v.length : Int) by omega)
      have b6 := eq_true (show 0 ≤ (i : Int) by omega)
      clear c hg_ h56
      cases h0 : (rdOf false v (i : Int)) with
      | false =>
       rw [h0] at H hx2
       rw [if_neg (by decide)] at H
       cases H
       clear h0
       go_wp2
       go_ret2
       exact ⟨rfl, HB.out⟩
      | true =>
       rw [h0] at H hx2
       rw [if_pos rfl] at H
       have HJ3 := Aside0.mk H
       clear h0 H
       go_wp2
       go_roundg k1
       case measure => exact Nat.lt_succ_self _
       case rel => exact ⟨i + 1, by rw [show wrap64 ((i : Int) + 1) = ((i + 1 : Nat) : Int) by have h1_ := HG.out; have h2_ := HI.out; unfold wrap64; omega], ⟨by have h1_ := HX.out; have h2_ := HI.out; omega⟩, HJ3, HB, HB5⟩
     ·
      have H := HJ.out
      rw [show m * 14 + 14 - i = 0 by omega] at H
      cases H
      have b4 : decide ((i : Int) < ((m : Int) + 1) * 14) = false := decide_eq_false (by omega)
      clear c
      go_wp2
      go_ret2
      exact ⟨rfl, HB.out⟩

/-! ### impl_NextBlock: function 20 -/
def impl_NextBlock.f (k : Nat) (a0_0 : Int) (l0_1 : List (S112)) (l0_2 : List (S25)) (l0_3 : List ByteArray) (a1 : Int) : Option (Int × Int) := (impl_IsFS.f k a0_0 l0_1 l0_2 l0_3).bind fun t262 => (if t262 = true then ((impl_isUser.f a1).bind fun t263 => (if t263 = true then ((impl_FS_nextBlock.f k a0_0 l0_1 l0_2 l0_3 a1).bind fun bt264 => (some (bt264.1, bt264.2))) else (some (0, 1)))) else (some (0, 1)))
theorem impl_NextBlock.mono : ∀ a0 a1 a2 a3 a4 k, LeO (impl_NextBlock.f k a0 a1 a2 a3 a4) (impl_NextBlock.f (k + 1) a0 a1 a2 a3 a4) := by
 intro a0 a1 a2 a3 a4 k
 unfold impl_NextBlock.f
 repeat' first
  | (with_reducible exact impl_FS_nextBlock.mono _ _ _ _ _ _)
  | (with_reducible exact impl_IsFS.mono _ _ _ _ _)
  | (with_reducible exact LeO.refl _)
  | (with_reducible exact LeO.none _)
  | (with_reducible refine LeO.ite ?_ ?_)
  | (with_reducible refine LeO.bind ?_ (fun _ => ?_))
  | exact impl_FS_nextBlock.mono _ _ _ _ _ _
  | exact impl_IsFS.mono _ _ _ _ _
  | exact LeO.none _
  | refine LeO.ite ?_ ?_
  | refine LeO.bind ?_ (fun _ => ?_)
set_option maxHeartbeats 8000000 in
set_option maxRecDepth 100000 in
theorem impl_NextBlock.calls (k : Nat) (a0_0 : Int) (A0_1 : Option Addr) (c0_1 : Nat) (l0_1 : List (S112)) (A0_2 : Option Addr) (c0_2 : Nat) (l0_2 : List (S25)) (A0_3 : Option Addr) (c0_3 : Nat) (l0_3 : List ByteArray) (a1 : Int) (r1 : Int) (r2 : Int) (w : World) (hr0_1 : Kd.C k112 w A0_1 l0_1.length l0_1) (hc0_1 : l0_1.length ≤ c0_1) (hr0_2 : Kd.C k25 w A0_2 l0_2.length l0_2) (hc0_2 : l0_2.length ≤ c0_2) (hr0_3 : Kd.C Kd.string w A0_3 l0_3.length l0_3) (hc0_3 : l0_3.length ≤ c0_3) (h : impl_NextBlock.f k a0_0 l0_1 l0_2 l0_3 a1 = some (r1, r2)) :
 Calls Try.prog 20 #[.agg #[.int .i64 a0_0, .slice A0_1 l0_1.length c0_1, .slice A0_2 l0_2.length c0_2, .slice A0_3 l0_3.length c0_3], .int .i64 a1] w fun e w' => e = .returned (.tuple #[.int .i64 r1, .int .i64 r2]) ∧ Below w.heap.size w w' := by
 have hu42 := Try.underlying42
 have HR0_1 := Aside0.mk hr0_1
 have HC0_1 := Aside0.mk hc0_1
 clear hr0_1 hc0_1
 have HR0_2 := Aside0.mk hr0_2
 have HC0_2 := Aside0.mk hc0_2
 clear hr0_2 hc0_2
 have HR0_3 := Aside0.mk hr0_3
 have HC0_3 := Aside0.mk hc0_3
 clear hr0_3 hc0_3
 have HB := Aside0.mk (Below.refl w.heap.size w)
 have H : ((impl_IsFS.f k a0_0 l0_1 l0_2 l0_3).bind fun t262 => (if t262 = true then ((impl_isUser.f a1).bind fun t263 => (if t263 = true then ((impl_FS_nextBlock.f k a0_0 l0_1 l0_2 l0_3 a1).bind fun bt264 => (some (bt264.1, bt264.2))) else (some (0, 1)))) else (some (0, 1)))) = some (r1, r2) := h
 clear h
 replace H := Option.bind_eq_some_iff.mp H
 obtain ⟨t262, A30, H⟩ := H
 try dsimp only at H
 have A3 := Aside0.mk A30
 clear A30
 by_cases c4 : t262 = true
 ·
  subst c4
  have H1 : ((impl_isUser.f a1).bind fun t263 => (if t263 = true then ((impl_FS_nextBlock.f k a0_0 l0_1 l0_2 l0_3 a1).bind fun bt264 => (some (bt264.1, bt264.2))) else (some (0, 1)))) = some (r1, r2) := by rw [if_pos rfl] at H; exact H
  clear H
  have H := H1
  clear H1
  replace H := Option.bind_eq_some_iff.mp H
  obtain ⟨t263, A50, H⟩ := H
  try dsimp only at H
  have A5 := Aside0.mk A50
  clear A50
  by_cases c6 : t263 = true
  ·
   subst c6
   have H1 : ((impl_FS_nextBlock.f k a0_0 l0_1 l0_2 l0_3 a1).bind fun bt264 => (some (bt264.1, bt264.2))) = some (r1, r2) := by rw [if_pos rfl] at H; exact H
   clear H
   have H := H1
   clear H1
   replace H := Option.bind_eq_some_iff.mp H
   obtain ⟨⟨t264, t265⟩, A70, H⟩ := H
   replace H : (some (t264, t265)) = some (r1, r2) := H
   have A7 := Aside0.mk A70
   clear A70
   simp only [Option.some.injEq, Prod.mk.injEq] at H
   obtain ⟨rfl, rfl⟩ := H
   go_enter Try.func20, Try.ntmps20
   go_wp2_with (first | ((with_reducible refine gate_dst (N := 2) rfl ?_); refine box_event ?hg (N := 2) ?hd (cs := #[.int .i64 a0_0, .slice A0_1 l0_1.length c0_1, .slice A0_2 l0_2.length c0_2, .slice A0_3 l0_3.length c0_3]) (t := 42) ?hr ?_; (case hd => rfl); (case hg => rfl); (case hr => first | (go_simp; done) | (go_simp; rfl)); intro gb261 hg w8 hbox hb; have n0_ := Aside0.mk (below_step (by exact Lib.bw HB.out) hb); have n1_ := Aside0.mk (hbox); have n2_ := Aside0.mk ((by rw [hg]; exact (below_size (by exact Lib.bw HB.out)) : w.heap.size ≤ gb261)); have n3_ := Aside0.mk ((by rw [hg]; exact (below_size (by exact Lib.bw HB.out)) : w.heap.size ≤ gb261)); clear HB; have HB := n0_; have BK261 := n1_; have GW261 := n2_; have GE261 := n3_; clear n0_ n1_ n2_ n3_; clear hb hbox hg; obtain ⟨hcz9_0, hcz9_1, hcz9_2, hcz9_3, hfz9_0, hfz9_1, hfz9_2, hfz9_3⟩ := Lib.cel4 (W := w8) BK261.out) | ((with_reducible refine gate_callee (f := 41) rfl ?_); refine goesL_ (some 7) rfl rfl Try.func41 (by kernel_rfl) rfl #[.agg #[.int .i64 a0_0, .slice A0_1 l0_1.length c0_1, .slice A0_2 l0_2.length c0_2, .slice A0_3 l0_3.length c0_3]] rfl (by (try simp only [List.map_toArray, List.map_cons, List.map_nil]); first | done | rfl | (simp only [List.length_drop, List.length_take]; rfl)) ?_; (with_reducible refine (impl_IsFS.calls k a0_0 _ _ l0_1 _ _ l0_2 _ _ l0_3 true _ ?side1 ?side2 ?side3 ?side4 ?side5 ?side6 A3.out).mono ?_); (case side1 => exact Lib.cx (Kd.C_below HR0_1.out HB.out)); (case side2 => exact HC0_1.out); (case side3 => exact Lib.cx (Kd.C_below HR0_2.out HB.out)); (case side4 => exact HC0_2.out); (case side5 => exact Lib.cx (Kd.C_below HR0_3.out HB.out)); (case side6 => exact HC0_3.out); rintro e w10 ⟨rfl, hb⟩; refine ⟨_, rfl, ?_⟩; have n0_ := Aside0.mk (blk_below (g := gb261) (o := .cells #[.int .i64 a0_0, .slice A0_1 l0_1.length c0_1, .slice A0_2 l0_2.length c0_2, .slice A0_3 l0_3.length c0_3] 42 (0, 0)) (by exact Lib.bk BK261.out) hb); have n1_ := Aside0.mk (below_step (by exact Lib.bs HB.out GE261.out) hb); clear BK261; clear HB; have BK261 := n0_; have HB := n1_; clear n0_ n1_; (try clear hb); (try clear hb2); (try clear hk); (try clear hi)) | (go_at_call 69; (with_reducible refine (impl_isUser.calls a1 true _ A5.out).mono ?_); rintro e w' ⟨rfl, ⟨nd, rfl⟩⟩) | ((with_reducible refine gate_callee (f := 70) rfl ?_); refine goesL_ (some 15) rfl rfl Try.func70 (by kernel_rfl) rfl #[.pointer (some ⟨gb261, 0, none⟩), .int .i64 a1] rfl (by (try simp only [List.map_toArray, List.map_cons, List.map_nil]); first | done | rfl | (simp only [List.length_drop, List.length_take]; rfl)) ?_; (with_reducible refine (impl_FS_nextBlock.calls k a0_0 A0_1 c0_1 l0_1 A0_2 c0_2 l0_2 A0_3 c0_3 l0_3 a1 t264 t265 _ ?side1 ?side2 ?side3 ?side4 ?side5 ?side6 ?side7 A7.out).mono ?_); (case side1 => repeat (first | exact (Kd.C_below HR0_1.out (by exact Lib.bs HB.out GE261.out)) | (with_reducible refine Kd.C_alloc ?_ _) | (with_reducible refine Kd.C_drewN ?_ _) | (with_reducible refine Kd.C_drew ?_))); (case side2 => exact HC0_1.out); (case side3 => repeat (first | exact (Kd.C_below HR0_2.out (by exact Lib.bs HB.out GE261.out)) | (with_reducible refine Kd.C_alloc ?_ _) | (with_reducible refine Kd.C_drewN ?_ _) | (with_reducible refine Kd.C_drew ?_))); (case side4 => exact HC0_2.out); (case side5 => repeat (first | exact (Kd.C_below HR0_3.out (by exact Lib.bs HB.out GE261.out)) | (with_reducible refine Kd.C_alloc ?_ _) | (with_reducible refine Kd.C_drewN ?_ _) | (with_reducible refine Kd.C_drew ?_))); (case side6 => exact HC0_3.out); (case side7 => exact by exact Lib.bk BK261.out); rintro e w11 ⟨rfl, hb⟩; refine ⟨_, rfl, ?_⟩; have n0_ := Aside0.mk (blk_below (g := gb261) (o := .cells #[.int .i64 a0_0, .slice A0_1 l0_1.length c0_1, .slice A0_2 l0_2.length c0_2, .slice A0_3 l0_3.length c0_3] 42 (0, 0)) (by exact Lib.bk BK261.out) hb); have n1_ := Aside0.mk (below_step (by exact Lib.bs HB.out GE261.out) hb); clear BK261; clear HB; have BK261 := n0_; have HB := n1_; clear n0_ n1_; (try clear hb); (try clear hb2); (try clear hk); (try clear hi)))
   go_ret2
   exact ⟨by first | rfl | (simp [errW_none, errW_some] <;> rfl) | (simp [*, errW_none, errW_some] <;> rfl), by exact Lib.bs HB.out GE261.out⟩
  ·
   replace c6 := Bool.eq_false_iff.mpr c6
   subst c6
   have H1 : (some (0, 1)) = some (r1, r2) := by rw [if_neg (show ¬ (false = true) by decide)] at H; exact H
   clear H
   have H := H1
   clear H1
   simp only [Option.some.injEq, Prod.mk.injEq] at H
   obtain ⟨rfl, rfl⟩ := H
   go_enter Try.func20, Try.ntmps20
   go_wp2_with (first | ((with_reducible refine gate_dst (N := 2) rfl ?_); refine box_event ?hg (N := 2) ?hd (cs := #[.int .i64 a0_0, .slice A0_1 l0_1.length c0_1, .slice A0_2 l0_2.length c0_2, .slice A0_3 l0_3.length c0_3]) (t := 42) ?hr ?_; (case hd => rfl); (case hg => rfl); (case hr => first | (go_simp; done) | (go_simp; rfl)); intro gb261 hg w12 hbox hb; have n0_ := Aside0.mk (below_step (by exact Lib.bw HB.out) hb); have n1_ := Aside0.mk (hbox); have n2_ := Aside0.mk ((by rw [hg]; exact (below_size (by exact Lib.bw HB.out)) : w.heap.size ≤ gb261)); have n3_ := Aside0.mk ((by rw [hg]; exact (below_size (by exact Lib.bw HB.out)) : w.heap.size ≤ gb261)); clear HB; have HB := n0_; have BK261 := n1_; have GW261 := n2_; have GE261 := n3_; clear n0_ n1_ n2_ n3_; clear hb hbox hg; obtain ⟨hcz13_0, hcz13_1, hcz13_2, hcz13_3, hfz13_0, hfz13_1, hfz13_2, hfz13_3⟩ := Lib.cel4 (W := w12) BK261.out) | ((with_reducible refine gate_callee (f := 41) rfl ?_); refine goesL_ (some 7) rfl rfl Try.func41 (by kernel_rfl) rfl #[.agg #[.int .i64 a0_0, .slice A0_1 l0_1.length c0_1, .slice A0_2 l0_2.length c0_2, .slice A0_3 l0_3.length c0_3]] rfl (by (try simp only [List.map_toArray, List.map_cons, List.map_nil]); first | done | rfl | (simp only [List.length_drop, List.length_take]; rfl)) ?_; (with_reducible refine (impl_IsFS.calls k a0_0 _ _ l0_1 _ _ l0_2 _ _ l0_3 true _ ?side1 ?side2 ?side3 ?side4 ?side5 ?side6 A3.out).mono ?_); (case side1 => exact Lib.cx (Kd.C_below HR0_1.out HB.out)); (case side2 => exact HC0_1.out); (case side3 => exact Lib.cx (Kd.C_below HR0_2.out HB.out)); (case side4 => exact HC0_2.out); (case side5 => exact Lib.cx (Kd.C_below HR0_3.out HB.out)); (case side6 => exact HC0_3.out); rintro e w14 ⟨rfl, hb⟩; refine ⟨_, rfl, ?_⟩; have n0_ := Aside0.mk (blk_below (g := gb261) (o := .cells #[.int .i64 a0_0, .slice A0_1 l0_1.length c0_1, .slice A0_2 l0_2.length c0_2, .slice A0_3 l0_3.length c0_3] 42 (0, 0)) (by exact Lib.bk BK261.out) hb); have n1_ := Aside0.mk (below_step (by exact Lib.bs HB.out GE261.out) hb); clear BK261; clear HB; have BK261 := n0_; have HB := n1_; clear n0_ n1_; (try clear hb); (try clear hb2); (try clear hk); (try clear hi)) | (go_at_call 69; (with_reducible refine (impl_isUser.calls a1 false _ A5.out).mono ?_); rintro e w' ⟨rfl, ⟨nd, rfl⟩⟩))
   go_ret2
   exact ⟨by first | rfl | (simp [errW_none, errW_some] <;> rfl) | (simp [*, errW_none, errW_some] <;> rfl), by exact Lib.bs HB.out GE261.out⟩
 ·
  replace c4 := Bool.eq_false_iff.mpr c4
  subst c4
  have H1 : (some (0, 1)) = some (r1, r2) := by rw [if_neg (show ¬ (false = true) by decide)] at H; exact H
  clear H
  have H := H1
  clear H1
  simp only [Option.some.injEq, Prod.mk.injEq] at H
  obtain ⟨rfl, rfl⟩ := H
  go_enter Try.func20, Try.ntmps20
  go_wp2_with (first | ((with_reducible refine gate_dst (N := 2) rfl ?_); refine box_event ?hg (N := 2) ?hd (cs := #[.int .i64 a0_0, .slice A0_1 l0_1.length c0_1, .slice A0_2 l0_2.length c0_2, .slice A0_3 l0_3.length c0_3]) (t := 42) ?hr ?_; (case hd => rfl); (case hg => rfl); (case hr => first | (go_simp; done) | (go_simp; rfl)); intro gb261 hg w15 hbox hb; have n0_ := Aside0.mk (below_step (by exact Lib.bw HB.out) hb); have n1_ := Aside0.mk (hbox); have n2_ := Aside0.mk ((by rw [hg]; exact (below_size (by exact Lib.bw HB.out)) : w.heap.size ≤ gb261)); have n3_ := Aside0.mk ((by rw [hg]; exact (below_size (by exact Lib.bw HB.out)) : w.heap.size ≤ gb261)); clear HB; have HB := n0_; have BK261 := n1_; have GW261 := n2_; have GE261 := n3_; clear n0_ n1_ n2_ n3_; clear hb hbox hg; obtain ⟨hcz16_0, hcz16_1, hcz16_2, hcz16_3, hfz16_0, hfz16_1, hfz16_2, hfz16_3⟩ := Lib.cel4 (W := w15) BK261.out) | ((with_reducible refine gate_callee (f := 41) rfl ?_); refine goesL_ (some 7) rfl rfl Try.func41 (by kernel_rfl) rfl #[.agg #[.int .i64 a0_0, .slice A0_1 l0_1.length c0_1, .slice A0_2 l0_2.length c0_2, .slice A0_3 l0_3.length c0_3]] rfl (by (try simp only [List.map_toArray, List.map_cons, List.map_nil]); first | done | rfl | (simp only [List.length_drop, List.length_take]; rfl)) ?_; (with_reducible refine (impl_IsFS.calls k a0_0 _ _ l0_1 _ _ l0_2 _ _ l0_3 false _ ?side1 ?side2 ?side3 ?side4 ?side5 ?side6 A3.out).mono ?_); (case side1 => exact Lib.cx (Kd.C_below HR0_1.out HB.out)); (case side2 => exact HC0_1.out); (case side3 => exact Lib.cx (Kd.C_below HR0_2.out HB.out)); (case side4 => exact HC0_2.out); (case side5 => exact Lib.cx (Kd.C_below HR0_3.out HB.out)); (case side6 => exact HC0_3.out); rintro e w17 ⟨rfl, hb⟩; refine ⟨_, rfl, ?_⟩; have n0_ := Aside0.mk (blk_below (g := gb261) (o := .cells #[.int .i64 a0_0, .slice A0_1 l0_1.length c0_1, .slice A0_2 l0_2.length c0_2, .slice A0_3 l0_3.length c0_3] 42 (0, 0)) (by exact Lib.bk BK261.out) hb); have n1_ := Aside0.mk (below_step (by exact Lib.bs HB.out GE261.out) hb); clear BK261; clear HB; have BK261 := n0_; have HB := n1_; clear n0_ n1_; (try clear hb); (try clear hb2); (try clear hk); (try clear hi)))
  go_ret2
  exact ⟨by first | rfl | (simp [errW_none, errW_some] <;> rfl) | (simp [*, errW_none, errW_some] <;> rfl), by exact Lib.bs HB.out GE261.out⟩

/-! ### laws_eqQuota: function 119 -/
def laws_eqQuota.f (a0_0 : Int) (a0_1 : Int) (a1_0 : Int) (a1_1 : Int) : Option (Bool) := if a0_0 = a1_0 then (if a0_1 = a1_1 then (some true) else (some false)) else (some false)
set_option maxHeartbeats 8000000 in
set_option maxRecDepth 100000 in
theorem laws_eqQuota.calls (a0_0 : Int) (a0_1 : Int) (a1_0 : Int) (a1_1 : Int) (r : Bool) (w : World) (h : laws_eqQuota.f a0_0 a0_1 a1_0 a1_1 = some r) :
 Calls Try.prog 119 #[.agg #[.int .i64 a0_0, .int .i64 a0_1], .agg #[.int .i64 a1_0, .int .i64 a1_1]] w fun e w' => e = .returned (.bool r) ∧ Below w.heap.size w w' := by
 have hu112 := Try.underlying112
 have HB := Aside0.mk (Below.refl w.heap.size w)
 have H : (if a0_0 = a1_0 then (if a0_1 = a1_1 then (some true) else (some false)) else (some false)) = some r := h
 clear h
 by_cases c3 : a0_0 = a1_0
 ·
  rw [if_pos c3] at H
  have c3b0 : (a0_0 == a1_0) = true := beq_iff_eq.mpr c3
  have c3b1 : (a0_0 != a1_0) = false := bne_eq_false_iff_eq.mpr c3
  clear c3
  by_cases c4 : a0_1 = a1_1
  ·
   rw [if_pos c4] at H
   have c4b0 : (a0_1 == a1_1) = true := beq_iff_eq.mpr c4
   have c4b1 : (a0_1 != a1_1) = false := bne_eq_false_iff_eq.mpr c4
   clear c4
   obtain rfl := Option.some.inj H
   go_enter Try.func119, Try.ntmps119
   go_wp2_with (first | ((with_reducible refine gate_dst (N := 2) rfl ?_); refine box_event ?hg (N := 2) ?hd (cs := #[.int .i64 a0_0, .int .i64 a0_1]) (t := 112) ?hr ?_; (case hd => rfl); (case hg => rfl); (case hr => first | (go_simp; done) | (go_simp; rfl)); intro gb266 hg w5 hbox hb; have n0_ := Aside0.mk (below_step (by exact Lib.bw HB.out) hb); have n1_ := Aside0.mk (hbox); have n2_ := Aside0.mk ((by rw [hg]; exact (below_size (by exact Lib.bw HB.out)) : w.heap.size ≤ gb266)); have n3_ := Aside0.mk ((by rw [hg]; exact (below_size (by exact Lib.bw HB.out)) : w.heap.size ≤ gb266)); clear HB; have HB := n0_; have BK266 := n1_; have GW266 := n2_; have GE266 := n3_; clear n0_ n1_ n2_ n3_; clear hb hbox hg) | ((with_reducible refine gate_dst (N := 3) rfl ?_); refine box_event ?hg (N := 3) ?hd (cs := #[.int .i64 a1_0, .int .i64 a1_1]) (t := 112) ?hr ?_; (case hd => rfl); (case hg => rfl); (case hr => first | (go_simp; done) | (go_simp; rfl)); intro gb267 hg w6 hbox hb; have n0_ := Aside0.mk (blk_below (g := gb266) (o := .cells #[.int .i64 a0_0, .int .i64 a0_1] 112 (0, 0)) (by exact Lib.bk BK266.out) hb); have n1_ := Aside0.mk (below_step (by exact Lib.bs HB.out GE266.out) hb); have n2_ := Aside0.mk (hbox); have n3_ := Aside0.mk ((by rw [hg]; exact (below_size (by exact Lib.bs HB.out GE266.out)) : w.heap.size ≤ gb267)); have n4_ := Aside0.mk ((by rw [hg]; exact (below_size (by exact Lib.bs HB.out GE266.out)) : w.heap.size ≤ gb267)); have n5_ := Aside0.mk ((by rw [hg]; exact Nat.ne_of_lt (blk_lt (g := gb266) (o := .cells #[.int .i64 a0_0, .int .i64 a0_1] 112 (0, 0)) (by exact Lib.bk BK266.out)) : gb266 ≠ gb267)); have n6_ := Aside0.mk ((by rw [hg]; exact Nat.ne_of_gt (blk_lt (g := gb266) (o := .cells #[.int .i64 a0_0, .int .i64 a0_1] 112 (0, 0)) (by exact Lib.bk BK266.out)) : gb267 ≠ gb266)); clear BK266; clear HB; have BK266 := n0_; have HB := n1_; have BK267 := n2_; have GW267 := n3_; have GE267 := n4_; have NB266_267 := n5_; have NB267_266 := n6_; clear n0_ n1_ n2_ n3_ n4_ n5_ n6_; clear hb hbox hg; have hnb7 := NB266_267.out; have hnc7 := NB267_266.out; obtain ⟨hcz8_0, hcz8_1, hfz8_0, hfz8_1⟩ := Lib.cel2 (W := w6) BK266.out; obtain ⟨hcz9_0, hcz9_1, hfz9_0, hfz9_1⟩ := Lib.cel2 (W := w6) BK267.out))
   go_ret
   exact ⟨by first | rfl | (simp [errW_none, errW_some] <;> rfl) | (simp [*, errW_none, errW_some] <;> rfl), by repeat (first | (with_reducible first | exact HB.out | apply below_alloc | apply pw_below_drewN | apply below_drew1 | refine below_set ?_ GE266.out | refine below_set ?_ GE267.out) | exact HB.out)⟩
  ·
   rw [if_neg c4] at H
   have c4b0 : (a0_1 == a1_1) = false := beq_eq_false_iff_ne.mpr c4
   have c4b1 : (a0_1 != a1_1) = true := bne_iff_ne.mpr c4
   obtain rfl := Option.some.inj H
   go_enter Try.func119, Try.ntmps119
   go_wp2_with (first | ((with_reducible refine gate_dst (N := 2) rfl ?_); refine box_event ?hg (N := 2) ?hd (cs := #[.int .i64 a0_0, .int .i64 a0_1]) (t := 112) ?hr ?_; (case hd => rfl); (case hg => rfl); (case hr => first | (go_simp; done) | (go_simp; rfl)); intro gb266 hg w10 hbox hb; have n0_ := Aside0.mk (below_step (by exact Lib.bw HB.out) hb); have n1_ := Aside0.mk (hbox); have n2_ := Aside0.mk ((by rw [hg]; exact (below_size (by exact Lib.bw HB.out)) : w.heap.size ≤ gb266)); have n3_ := Aside0.mk ((by rw [hg]; exact (below_size (by exact Lib.bw HB.out)) : w.heap.size ≤ gb266)); clear HB; have HB := n0_; have BK266 := n1_; have GW266 := n2_; have GE266 := n3_; clear n0_ n1_ n2_ n3_; clear hb hbox hg) | ((with_reducible refine gate_dst (N := 3) rfl ?_); refine box_event ?hg (N := 3) ?hd (cs := #[.int .i64 a1_0, .int .i64 a1_1]) (t := 112) ?hr ?_; (case hd => rfl); (case hg => rfl); (case hr => first | (go_simp; done) | (go_simp; rfl)); intro gb267 hg w11 hbox hb; have n0_ := Aside0.mk (blk_below (g := gb266) (o := .cells #[.int .i64 a0_0, .int .i64 a0_1] 112 (0, 0)) (by exact Lib.bk BK266.out) hb); have n1_ := Aside0.mk (below_step (by exact Lib.bs HB.out GE266.out) hb); have n2_ := Aside0.mk (hbox); have n3_ := Aside0.mk ((by rw [hg]; exact (below_size (by exact Lib.bs HB.out GE266.out)) : w.heap.size ≤ gb267)); have n4_ := Aside0.mk ((by rw [hg]; exact (below_size (by exact Lib.bs HB.out GE266.out)) : w.heap.size ≤ gb267)); have n5_ := Aside0.mk ((by rw [hg]; exact Nat.ne_of_lt (blk_lt (g := gb266) (o := .cells #[.int .i64 a0_0, .int .i64 a0_1] 112 (0, 0)) (by exact Lib.bk BK266.out)) : gb266 ≠ gb267)); have n6_ := Aside0.mk ((by rw [hg]; exact Nat.ne_of_gt (blk_lt (g := gb266) (o := .cells #[.int .i64 a0_0, .int .i64 a0_1] 112 (0, 0)) (by exact Lib.bk BK266.out)) : gb267 ≠ gb266)); clear BK266; clear HB; have BK266 := n0_; have HB := n1_; have BK267 := n2_; have GW267 := n3_; have GE267 := n4_; have NB266_267 := n5_; have NB267_266 := n6_; clear n0_ n1_ n2_ n3_ n4_ n5_ n6_; clear hb hbox hg; have hnb12 := NB266_267.out; have hnc12 := NB267_266.out; obtain ⟨hcz13_0, hcz13_1, hfz13_0, hfz13_1⟩ := Lib.cel2 (W := w11) BK266.out; obtain ⟨hcz14_0, hcz14_1, hfz14_0, hfz14_1⟩ := Lib.cel2 (W := w11) BK267.out))
   go_ret
   exact ⟨by first | rfl | (simp [errW_none, errW_some] <;> rfl) | (simp [*, errW_none, errW_some] <;> rfl), by repeat (first | (with_reducible first | exact HB.out | apply below_alloc | apply pw_below_drewN | apply below_drew1 | refine below_set ?_ GE266.out | refine below_set ?_ GE267.out) | exact HB.out)⟩
 ·
  rw [if_neg c3] at H
  have c3b0 : (a0_0 == a1_0) = false := beq_eq_false_iff_ne.mpr c3
  have c3b1 : (a0_0 != a1_0) = true := bne_iff_ne.mpr c3
  obtain rfl := Option.some.inj H
  go_enter Try.func119, Try.ntmps119
  go_wp2_with (first | ((with_reducible refine gate_dst (N := 2) rfl ?_); refine box_event ?hg (N := 2) ?hd (cs := #[.int .i64 a0_0, .int .i64 a0_1]) (t := 112) ?hr ?_; (case hd => rfl); (case hg => rfl); (case hr => first | (go_simp; done) | (go_simp; rfl)); intro gb266 hg w15 hbox hb; have n0_ := Aside0.mk (below_step (by exact Lib.bw HB.out) hb); have n1_ := Aside0.mk (hbox); have n2_ := Aside0.mk ((by rw [hg]; exact (below_size (by exact Lib.bw HB.out)) : w.heap.size ≤ gb266)); have n3_ := Aside0.mk ((by rw [hg]; exact (below_size (by exact Lib.bw HB.out)) : w.heap.size ≤ gb266)); clear HB; have HB := n0_; have BK266 := n1_; have GW266 := n2_; have GE266 := n3_; clear n0_ n1_ n2_ n3_; clear hb hbox hg) | ((with_reducible refine gate_dst (N := 3) rfl ?_); refine box_event ?hg (N := 3) ?hd (cs := #[.int .i64 a1_0, .int .i64 a1_1]) (t := 112) ?hr ?_; (case hd => rfl); (case hg => rfl); (case hr => first | (go_simp; done) | (go_simp; rfl)); intro gb267 hg w16 hbox hb; have n0_ := Aside0.mk (blk_below (g := gb266) (o := .cells #[.int .i64 a0_0, .int .i64 a0_1] 112 (0, 0)) (by exact Lib.bk BK266.out) hb); have n1_ := Aside0.mk (below_step (by exact Lib.bs HB.out GE266.out) hb); have n2_ := Aside0.mk (hbox); have n3_ := Aside0.mk ((by rw [hg]; exact (below_size (by exact Lib.bs HB.out GE266.out)) : w.heap.size ≤ gb267)); have n4_ := Aside0.mk ((by rw [hg]; exact (below_size (by exact Lib.bs HB.out GE266.out)) : w.heap.size ≤ gb267)); have n5_ := Aside0.mk ((by rw [hg]; exact Nat.ne_of_lt (blk_lt (g := gb266) (o := .cells #[.int .i64 a0_0, .int .i64 a0_1] 112 (0, 0)) (by exact Lib.bk BK266.out)) : gb266 ≠ gb267)); have n6_ := Aside0.mk ((by rw [hg]; exact Nat.ne_of_gt (blk_lt (g := gb266) (o := .cells #[.int .i64 a0_0, .int .i64 a0_1] 112 (0, 0)) (by exact Lib.bk BK266.out)) : gb267 ≠ gb266)); clear BK266; clear HB; have BK266 := n0_; have HB := n1_; have BK267 := n2_; have GW267 := n3_; have GE267 := n4_; have NB266_267 := n5_; have NB267_266 := n6_; clear n0_ n1_ n2_ n3_ n4_ n5_ n6_; clear hb hbox hg; have hnb17 := NB266_267.out; have hnc17 := NB267_266.out; obtain ⟨hcz18_0, hcz18_1, hfz18_0, hfz18_1⟩ := Lib.cel2 (W := w16) BK266.out; obtain ⟨hcz19_0, hcz19_1, hfz19_0, hfz19_1⟩ := Lib.cel2 (W := w16) BK267.out))
  go_ret
  exact ⟨by first | rfl | (simp [errW_none, errW_some] <;> rfl) | (simp [*, errW_none, errW_some] <;> rfl), by repeat (first | (with_reducible first | exact HB.out | apply below_alloc | apply pw_below_drewN | apply below_drew1 | refine below_set ?_ GE266.out | refine below_set ?_ GE267.out) | exact HB.out)⟩

end Go.Proofs.Ytnfiapcemafmiaa.PFnExactNextBlock
