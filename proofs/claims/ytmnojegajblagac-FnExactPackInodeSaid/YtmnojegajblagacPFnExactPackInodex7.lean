-- Written by a program of this session over Lean's own print of the program.
import Derived.Test.YtmnojegajblagacPFnExactPackInodex0
import Derived.Test.YtmnojegajblagacPFnExactPackInodex2
import Derived.Test.YtmnojegajblagacPFnExactPackInodex5
namespace Go.Proofs.Ytmnojegajblagac.PFnExactPackInode
open Go.RowKit Go.Proofs.YtmnojegajblagacW.PrintWords Go.Proofs.YtmnojegajblagacW.PrintLast Go.Proofs.YtmnojegajblagacW.PrintMore
attribute [local go_sem] max2_int min2_int max_two min_two max_three min_three max_four min_four   -- for this text's walks alone
set_option linter.unusedVariables false
set_option linter.unusedSimpArgs false

/-! ### spec_PutNumber: function 37 -/
mutual
def spec_PutNumber.j0 : Nat → Int → Int → Bool → Option (ByteArray)
 | 0, _, _, _ => none
 | k + 1, x0, x1, x21 => if x21 = true then (some (⟨#[]⟩ : ByteArray)) else (if 0 ≤ x1 then (if (x1 : Int).toNat ≤ 281474976710656 then (spec_PutNumber.l0 k x0 (List.replicate (x1 : Int).toNat 0) (wrap64 (x1 - 1))) else (none)) else (none))
def spec_PutNumber.l0 : Nat → Int → List Int → Int → Option (ByteArray)
 | 0, _, _, _ => none
 | k + 1, x0, x5, x6 => if x6 ≥ 0 then (if 0 ≤ x6 then (if x6 < (x5.length : Int) then (spec_PutNumber.l0 k (wrap64 (Int.tdiv x0 256)) (x5.set (x6 : Int).toNat ((Int.tmod x0 256) % 256)) (wrap64 (x6 - 1))) else (none)) else (none)) else (some (strOfNums x5))
end
def spec_PutNumber.f (k : Nat) (a0 : Int) (a1 : Int) : Option (ByteArray) := (spec_l01In.f a1 1 6).bind fun t150 => (if t150 = true then (if a0 < 0 then (spec_PutNumber.j0 k a0 a1 true) else (if 0 ≤ (IntKind.u64.wrap (8 * (IntKind.u64.wrap (a1)))) then (spec_PutNumber.j0 k a0 a1 (decide (a0 ≥ (shl .i64 1 (IntKind.u64.wrap (8 * (IntKind.u64.wrap (a1)))))))) else (none))) else (spec_PutNumber.j0 k a0 a1 true))
theorem spec_PutNumber.mono_l : ∀ k, (∀ y0 y1 y2, LeO (spec_PutNumber.j0 k y0 y1 y2) (spec_PutNumber.j0 (k + 1) y0 y1 y2)) ∧ (∀ y0 y1 y2, LeO (spec_PutNumber.l0 k y0 y1 y2) (spec_PutNumber.l0 (k + 1) y0 y1 y2))
 | 0 => ⟨fun _ _ _ r h => by simp [spec_PutNumber.j0] at h, fun _ _ _ r h => by simp [spec_PutNumber.l0] at h⟩
 | k + 1 => by
  obtain ⟨ih0, ih1⟩ := spec_PutNumber.mono_l k
  refine ⟨?_, ?_⟩
  ·
   intro y0 y1 y2
   unfold spec_PutNumber.j0
   repeat' first
   | (with_reducible exact ih0 _ _ _)
   | (with_reducible exact ih1 _ _ _)
   | (with_reducible exact LeO.refl _)
   | (with_reducible exact LeO.none _)
   | (with_reducible refine LeO.ite ?_ ?_)
   | (with_reducible refine LeO.bind ?_ (fun _ => ?_))
   | exact ih0 _ _ _
   | exact ih1 _ _ _
   | exact LeO.none _
   | refine LeO.ite ?_ ?_
   | refine LeO.bind ?_ (fun _ => ?_)
  ·
   intro y0 y1 y2
   unfold spec_PutNumber.l0
   repeat' first
   | (with_reducible exact ih0 _ _ _)
   | (with_reducible exact ih1 _ _ _)
   | (with_reducible exact LeO.refl _)
   | (with_reducible exact LeO.none _)
   | (with_reducible refine LeO.ite ?_ ?_)
   | (with_reducible refine LeO.bind ?_ (fun _ => ?_))
   | exact ih0 _ _ _
   | exact ih1 _ _ _
   | exact LeO.none _
   | refine LeO.ite ?_ ?_
   | refine LeO.bind ?_ (fun _ => ?_)
theorem spec_PutNumber.mono : ∀ a0 a1 k, LeO (spec_PutNumber.f k a0 a1) (spec_PutNumber.f (k + 1) a0 a1) := by
 intro a0 a1 k
 obtain ⟨ih0, ih1⟩ := spec_PutNumber.mono_l k
 unfold spec_PutNumber.f
 repeat' first
  | (with_reducible exact ih0 _ _ _)
  | (with_reducible exact ih1 _ _ _)
  | (with_reducible exact LeO.refl _)
  | (with_reducible exact LeO.none _)
  | (with_reducible refine LeO.ite ?_ ?_)
  | (with_reducible refine LeO.bind ?_ (fun _ => ?_))
  | exact ih0 _ _ _
  | exact ih1 _ _ _
  | exact LeO.none _
  | refine LeO.ite ?_ ?_
  | refine LeO.bind ?_ (fun _ => ?_)
set_option maxHeartbeats 8000000 in
set_option maxRecDepth 100000 in
theorem spec_PutNumber.calls (k : Nat) (a0 : Int) (a1 : Int) (r : ByteArray) (w : World) (h : spec_PutNumber.f k a0 a1 = some r) :
 Calls Try.prog 37 #[.int .i64 a0, .int .i64 a1] w fun e w' => e = .returned (.string r) ∧ Below w.heap.size w w' := by
 have HB := Aside0.mk (Below.refl w.heap.size w)
 have H : ((spec_l01In.f a1 1 6).bind fun t150 => (if t150 = true then (if a0 < 0 then (spec_PutNumber.j0 k a0 a1 true) else (if 0 ≤ (IntKind.u64.wrap (8 * (IntKind.u64.wrap (a1)))) then (spec_PutNumber.j0 k a0 a1 (decide (a0 ≥ (shl .i64 1 (IntKind.u64.wrap (8 * (IntKind.u64.wrap (a1)))))))) else (none))) else (spec_PutNumber.j0 k a0 a1 true))) = some r := h
 clear h
 have HC3 := Aside0.mk H
 clear H
 go_enter Try.func37, Try.ntmps37
 go_upto_region 1 with (fail)
 go_cut [21] (fun v21 wc => ∃ (kq : Nat) (x21_2 : Bool), v21 = .bool x21_2 ∧ Aside0 (spec_PutNumber.j0 kq a0 a1 x21_2 = some r) ∧ Aside0 (kq ≤ k) ∧ Aside0 (Below w.heap.size w wc))
 case first =>
  have H := HC3.out
  clear HC3
  replace H := Option.bind_eq_some_iff.mp H
  obtain ⟨t150, A40, H⟩ := H
  try dsimp only at H
  have A4 := Aside0.mk A40
  clear A40
  by_cases c5 : t150 = true
  ·
   subst c5
   have H1 : (if a0 < 0 then (spec_PutNumber.j0 k a0 a1 true) else (if 0 ≤ (IntKind.u64.wrap (8 * (IntKind.u64.wrap (a1)))) then (spec_PutNumber.j0 k a0 a1 (decide (a0 ≥ (shl .i64 1 (IntKind.u64.wrap (8 * (IntKind.u64.wrap (a1)))))))) else (none))) = some r := by rw [if_pos rfl] at H; exact H
   clear H
   have H := H1
   clear H1
   by_cases c6 : a0 < 0
   ·
    rw [if_pos c6] at H
    have c6b0 : decide (a0 < 0) = true := decide_eq_true c6
    clear c6
    (first | rw [c6b0] | (simp only [i64_w, i32_w]; rw [c6b0]) | skip)
    have H' := Aside0.mk H
    clear H
    go_wp2_with (first | ((with_reducible refine gate_callee (f := 51) rfl ?_); refine goesL_ (some 8) rfl rfl Try.func51 (by kernel_rfl) rfl #[.int .i64 a1, .int .i64 1, .int .i64 6] rfl (by (try simp only [List.map_toArray, List.map_cons, List.map_nil]); first | done | rfl | (simp only [List.length_drop, List.length_take]; rfl)) ?_; (with_reducible refine (spec_l01In.calls a1 1 6 true _ A4.out).mono ?_); rintro e w' ⟨rfl, ⟨nd, rfl⟩⟩; refine ⟨_, rfl, ?_⟩))
    go_meet
    case rel => exact ⟨_, (true), (by first | rfl | (simp; done) | (simp [*]; done)), H', ⟨by first | omega | exact Nat.le_refl _⟩, ⟨by exact Lib.bw HB.out⟩⟩
   ·
    rw [if_neg c6] at H
    have c6b0 : decide (a0 < 0) = false := decide_eq_false c6
    clear c6
    (first | rw [c6b0] | (simp only [i64_w, i32_w]; rw [c6b0]) | skip)
    obtain ⟨ji7, hji7⟩ : ∃ j_ : Int, (IntKind.u64.wrap (8 * (IntKind.u64.wrap (a1)))) = j_ := ⟨_, rfl⟩
    replace H : (if 0 ≤ (ji7) then (spec_PutNumber.j0 k a0 a1 (decide (a0 ≥ (shl .i64 1 (ji7))))) else (none)) = some r := by first | (rw [hji7] at H; exact H) | (simp only [hji7] at H ⊢; exact H)
    (try rw [hji7] at A4)
    by_cases c8 : 0 ≤ (ji7)
    ·
     rw [if_pos c8] at H
     have c8b0 := eq_true c8
     have c8b1 : decide (0 ≤ (ji7)) = true := decide_eq_true c8
     clear c8
     obtain ⟨ji9, hji9⟩ : ∃ j_ : Int, (shl .i64 1 (ji7)) = j_ := ⟨_, rfl⟩
     replace H : (spec_PutNumber.j0 k a0 a1 (decide (a0 ≥ (ji9)))) = some r := by first | (rw [hji9] at H; exact H) | (simp only [hji9] at H ⊢; exact H)
     (try rw [hji9] at A4)
     have hji9_ : (IntKind.i64.wrap (1 * 2 ^ min (ji7).toNat 64)) = ji9 := hji9
     have hji9z : (ji7) ≤ 64 → (IntKind.i64.wrap (1 * 2 ^ (ji7).toNat)) = ji9 := shl_small hji9
     have hji9u : (IntKind.i64.wrap (2 ^ min (ji7).toNat 64)) = ji9 := by have h_ := hji9_; rw [Int.one_mul] at h_; exact h_
     have hji9v : (ji7) ≤ 64 → (IntKind.i64.wrap (2 ^ (ji7).toNat)) = ji9 := fun hle_ => by have h_ := hji9z hle_; rw [Int.one_mul] at h_; exact h_
     have hji9y : (wrap64 (1 * 2 ^ min (ji7).toNat 64)) = ji9 := (i64_w _).symm.trans hji9_
     have hji9x : (ji7) ≤ 64 → (wrap64 (1 * 2 ^ (ji7).toNat)) = ji9 := fun h_ => (i64_w _).symm.trans (hji9z h_)
     have H' := Aside0.mk H
     clear H
     go_wp2_with (first | ((with_reducible refine gate_callee (f := 51) rfl ?_); refine goesL_ (some 8) rfl rfl Try.func51 (by kernel_rfl) rfl #[.int .i64 a1, .int .i64 1, .int .i64 6] rfl (by (try simp only [List.map_toArray, List.map_cons, List.map_nil]); first | done | rfl | (simp only [List.length_drop, List.length_take]; rfl)) ?_; (with_reducible refine (spec_l01In.calls a1 1 6 true _ A4.out).mono ?_); rintro e w' ⟨rfl, ⟨nd, rfl⟩⟩; refine ⟨_, rfl, ?_⟩))
     go_meet
     case rel => exact ⟨_, (decide (a0 ≥ (ji9))), (by first | rfl | (simp; done) | (simp only [← hji9] <;> (first | rfl | simp)) | (simp [*]; done)), H', ⟨by first | omega | exact Nat.le_refl _⟩, ⟨by exact Lib.bw HB.out⟩⟩
    ·
     rw [if_neg c8] at H
     exact absurd H (by simp)
  ·
   replace c5 := Bool.eq_false_iff.mpr c5
   subst c5
   have H1 : (spec_PutNumber.j0 k a0 a1 true) = some r := by rw [if_neg (show ¬ (false = true) by decide)] at H; exact H
   clear H
   have H := H1
   clear H1
   have H' := Aside0.mk H
   clear H
   go_wp2_with (first | ((with_reducible refine gate_callee (f := 51) rfl ?_); refine goesL_ (some 8) rfl rfl Try.func51 (by kernel_rfl) rfl #[.int .i64 a1, .int .i64 1, .int .i64 6] rfl (by (try simp only [List.map_toArray, List.map_cons, List.map_nil]); first | done | rfl | (simp only [List.length_drop, List.length_take]; rfl)) ?_; (with_reducible refine (spec_l01In.calls a1 1 6 false _ A4.out).mono ?_); rintro e w' ⟨rfl, ⟨nd, rfl⟩⟩; refine ⟨_, rfl, ?_⟩))
   go_meet
   case rel => exact ⟨_, (true), (by first | rfl | (simp; done) | (simp [*]; done)), H', ⟨by first | omega | exact Nat.le_refl _⟩, ⟨by exact Lib.bw HB.out⟩⟩
 case rest =>
  clear HC3
  try clear p2
  try clear c3
  try clear c5
  try clear c6
  try clear c6b0
  try clear p6
  try clear c8
  try clear c8b0
  try clear c8b1
  obtain ⟨kq, x21_2, rfl, HA, HJ2, HB⟩ := hcut
  cases kq with
  | zero => exact absurd HA.out (by simp [spec_PutNumber.j0])
  | succ kj2 =>
   have H := HA.out
   clear HA
   simp only [spec_PutNumber.j0] at H
   by_cases c10 : x21_2 = true
   ·
    subst c10
    have H1 : (some (⟨#[]⟩ : ByteArray)) = some r := by rw [if_pos rfl] at H; exact H
    clear H
    have H := H1
    clear H1
    obtain rfl := Option.some.inj H
    go_wp2
    go_ret
    exact ⟨by first | rfl | (simp [errW_none, errW_some] <;> rfl) | (simp [*, errW_none, errW_some] <;> rfl), by exact Lib.bw HB.out⟩
   ·
    replace c10 := Bool.eq_false_iff.mpr c10
    subst c10
    have H1 : (if 0 ≤ a1 then (if (a1 : Int).toNat ≤ 281474976710656 then (spec_PutNumber.l0 kj2 a0 (List.replicate (a1 : Int).toNat 0) (wrap64 (a1 - 1))) else (none)) else (none)) = some r := by rw [if_neg (show ¬ (false = true) by decide)] at H; exact H
    clear H
    have H := H1
    clear H1
    by_cases c11 : 0 ≤ a1
    ·
     rw [if_pos c11] at H
     have c11b0 := eq_true c11
     have c11b1 : decide (0 ≤ a1) = true := decide_eq_true c11
     clear c11
     by_cases c12 : (a1 : Int).toNat ≤ 281474976710656
     ·
      rw [if_pos c12] at H
      have c12b0 := eq_true c12
      have c12b1 : decide ((a1 : Int).toNat ≤ 281474976710656) = true := decide_eq_true c12
      clear c12
      obtain ⟨y151, hy151⟩ : ∃ y_ : List Int, y_ = (List.replicate (a1 : Int).toNat 0) := ⟨_, rfl⟩
      replace H : (spec_PutNumber.l0 kj2 a0 y151 (wrap64 (a1 - 1))) = some r := by first | (rw [hy151]; with_reducible exact H) | (have H2_ := (Option.bind_some _ _).symm.trans H; rw [hy151]; with_reducible exact H2_) | (have H2_ := (Option.bind_some _ _).symm.trans H; with_reducible exact H2_) | with_reducible exact H | (rw [hy151]; exact H) | exact H
      have Ny151 := Aside0.mk hy151
      clear hy151
      have H' := Aside0.mk H
      clear H
      go_wp2_with (first | ((with_reducible refine gate_dst (N := 23) rfl ?_); refine Kd.R_make (Kd.int .u8) _ 5 rfl (N := 23) rfl 114 _ _ rfl a1 rfl rfl Try.underlying114 (.int .u8 0) 1 info5 rfl (by decide) (by omega) 0 (ok := fun _ => True) (okp := fun _ => True) rfl (fun _ hk => hk) trivial (Lib.od) (Nat.le_trans (Nat.mul_le_mul_right _ (Lib.od : a1.toNat ≤ 281474976710656)) (by omega)) (Below.refl _ _) (Nat.le_refl _) ?_; intro v152 w13 ho14 hb hg_ hnew_; clear hg_ hnew_; (first | rw [← Ny151.out] at ho14 | (simp only [Int.reduceToNat] at ho14; rw [← Ny151.out] at ho14)); have n0_ := Aside0.mk (Kd.R_lower ho14 (below_size (by exact Lib.bw HB.out))); have n1_ := Aside0.mk (below_step (by exact Lib.bw HB.out) hb); clear HB; have HO153 := n0_; have HB := n1_; clear n0_ n1_; clear hb ho14))
      go_loopg [0, 6] kj2 (fun kq v0 v6 w' => ∃ (x0_2 : Int) (x5_2 : List Int) (x6_2 : Int), v0 = .int .i64 x0_2 ∧ v6 = .int .i64 x6_2 ∧ Aside0 (spec_PutNumber.l0 kq x0_2 x5_2 x6_2 = some r) ∧ Aside0 (kq ≤ kj2) ∧ Aside0 (Kd.R (Kd.int .u8) 5 w' w.heap.size (fun _ => True) v152 x5_2) ∧ Aside0 (Below w.heap.size w w'))
      case atStart => exact ⟨(a0), (y151), (wrap64 (a1 - 1)), (by first | rfl | (simp; done) | (simp [*]; done)), (by first | rfl | (simp; done) | (simp [*]; done)), H', ⟨Nat.le_refl _⟩, ⟨by exact Lib.cr HO153.out⟩, ⟨by exact Lib.bw HB.out⟩⟩
      case round =>
       clear H'
       try clear c1
       try clear p2
       try clear c3
       try clear c5
       try clear c6
       try clear c6b0
       try clear p6
       try clear c8
       try clear c8b0
       try clear c8b1
       try clear c10
       try clear c11
       try clear c11b0
       try clear c11b1
       try clear c12
       try clear c12b0
       try clear c12b1
       try clear p2
       try clear p6
       obtain ⟨x0_2, x5_2, x6_2, rfl, rfl, HA, HK2, HO_5, HB⟩ := hrel
       cases gk with
       | zero => exact absurd HA.out (by simp [spec_PutNumber.l0])
       | succ k2 =>
        have H := HA.out
        clear HA
        simp only [spec_PutNumber.l0] at H
        by_cases c15 : x6_2 ≥ 0
        ·
         rw [if_pos c15] at H
         have c15b0 : decide (0 ≤ x6_2) = true := decide_eq_true c15
         clear c15
         by_cases c16 : 0 ≤ x6_2
         ·
          rw [if_pos c16] at H
          have c16b0 : decide (0 ≤ x6_2) = true := decide_eq_true c16
          clear c16
          by_cases c17 : x6_2 < (x5_2.length : Int)
          ·
           rw [if_pos c17] at H
           have c17b0 : decide (x6_2 < (x5_2.length : Int)) = true := decide_eq_true c17
           clear c17
           obtain ⟨y154, hy154⟩ : ∃ y_ : List Int, y_ = (x5_2.set (x6_2 : Int).toNat ((Int.tmod x0_2 256) % 256)) := ⟨_, rfl⟩
           replace H : (spec_PutNumber.l0 k2 (wrap64 (Int.tdiv x0_2 256)) y154 (wrap64 (x6_2 - 1))) = some r := by first | (rw [hy154]; with_reducible exact H) | (have H2_ := (Option.bind_some _ _).symm.trans H; rw [hy154]; with_reducible exact H2_) | (have H2_ := (Option.bind_some _ _).symm.trans H; with_reducible exact H2_) | with_reducible exact H | (rw [hy154]; exact H) | exact H
           have Ny154 := Aside0.mk hy154
           clear hy154
           have H' := Aside0.mk H
           clear H
           have p18 : 0 ≤ (x6_2 : Int) := Lib.od
           have q18 : (x6_2 : Int) < ((x5_2.length : Int) : Int) := Lib.od
           obtain ⟨go18, co18, eo18, gb18, gl18, cl18, HG18⟩ := Kd.R_form HO_5.out (by omega)
           (first | cases eo18 | (injection eo18 with ea_ en_ ec_; (first | subst ea_ | (injection ea_ with ea_; subst ea_)); subst ec_; clear en_))
           have GB18 := Aside0.mk gb18
           have GG18 := Aside0.mk HG18
           clear gb18 gl18 HG18
           obtain ⟨hx18_0, hf18_0⟩ := Kd.R_celln 0 HO_5.out (x6_2 : Int) p18 q18
           replace p18 := eq_true p18
           replace q18 := eq_true q18
           have HP19 := Kd.R_putg HO_5.out (x6_2 : Int) ((Int.tmod x0_2 256) % 256)
           go_wp2_with (first | ((with_reducible refine gate_store (t := 5) (p := 35) rfl ?_); refine store_event (t := 5) (p := 35) (v := ?vo_w20) (w1 := (wr.setCell ⟨go18, (x6_2 : Int).toNat, none⟩ (.int .u8 ((Int.tmod x0_2 256) % 256)))) ?hg ?ho ?hn ?hr ?_; (case ho => rfl); (case hg => rfl); (case hn => rfl); (case hr => first | (go_simp; done) | (go_simp; rfl)); intro w20 hw; have hg : wr.grownBy w20 (some go18) := (by rw [hw]; exact HP19.2); have hp_ : Kd.R (Kd.int .u8) 5 w20 w.heap.size (fun _ => True) (.slice (some ⟨go18, 0, none⟩) x5_2.length co18) y154 := (by rw [hw, Ny154.out]; exact HP19.1); clear HP19; have n0_ := Aside0.mk (hp_); have n1_ := Aside0.mk ((by rw [hw]; exact below_set (HB.out) GB18.out : Below w.heap.size w w20)); clear HO_5; clear HB; have HO_5 := n0_; have HB := n1_; clear n0_ n1_; clear hg hw hp_))
           go_roundg k2
           case measure => have := HJ2.out; have := HK2.out; omega
           case rel => exact ⟨(wrap64 (Int.tdiv x0_2 256)), (y154), (wrap64 (x6_2 - 1)), (by first | rfl | (simp; done) | (simp [*]; done)), (by first | rfl | (simp; done) | (simp [*]; done)), H', ⟨by have := HJ2.out; have := HK2.out; omega⟩, ⟨by exact Lib.cr HO_5.out⟩, ⟨by exact Lib.bw HB.out⟩⟩
          ·
           rw [if_neg c17] at H
           exact absurd H (by simp)
         ·
          rw [if_neg c16] at H
          exact absurd H (by simp)
        ·
         rw [if_neg c15] at H
         have c15b0 : decide (0 ≤ x6_2) = false := decide_eq_false c15
         clear c15
         obtain rfl := Option.some.inj H
         have hcv21 := own_string (P := Try.prog) Try.underlying114 Try.underlying5 Try.underlying9 (Kd.own_of_R HO_5.out)
         go_wp2
         go_ret
         exact ⟨by first | rfl | (simp [errW_none, errW_some] <;> rfl) | (simp [*, errW_none, errW_some] <;> rfl), by exact Lib.bw HB.out⟩
     ·
      rw [if_neg c12] at H
      exact absurd H (by simp)
    ·
     rw [if_neg c11] at H
     exact absurd H (by simp)

/-! ### spec_PadTo: function 38 -/
def spec_PadTo.l0 : Nat → Int → List Int → Option (ByteArray)
 | 0, _, _ => none
 | k + 1, x1, x5 => if (x5.length : Int) < x1 then (if x5.length < 140737488355328 then (spec_PadTo.l0 k x1 (x5 ++ [0])) else (none)) else (some (strOfNums x5))
def spec_PadTo.f (k : Nat) (a0 : ByteArray) (a1 : Int) : Option (ByteArray) := if a1 > 100000 then (some (⟨#[]⟩ : ByteArray)) else (if a0.size ≤ 9223372036854775807 then (spec_PadTo.l0 k a1 (bytesOf a0)) else none)
theorem spec_PadTo.mono_l : ∀ k, (∀ y0 y1, LeO (spec_PadTo.l0 k y0 y1) (spec_PadTo.l0 (k + 1) y0 y1))
 | 0 => fun _ _ r h => by simp [spec_PadTo.l0] at h
 | k + 1 => by
  have ih0 := spec_PadTo.mono_l k
  intro y0 y1
  unfold spec_PadTo.l0
  repeat' first
   | exact ih0 _ _
   | exact LeO.refl _
   | exact LeO.none _
   | refine LeO.ite ?_ ?_
theorem spec_PadTo.mono : ∀ a0 a1 k, LeO (spec_PadTo.f k a0 a1) (spec_PadTo.f (k + 1) a0 a1) := by
 intro a0 a1 k
 have ih0 := spec_PadTo.mono_l k
 unfold spec_PadTo.f
 repeat' first
  | exact ih0 _ _
  | exact LeO.refl _
  | exact LeO.none _
  | refine LeO.ite ?_ ?_
set_option maxHeartbeats 8000000 in
set_option maxRecDepth 100000 in
theorem spec_PadTo.calls (k : Nat) (a0 : ByteArray) (a1 : Int) (r : ByteArray) (w : World) (h : spec_PadTo.f k a0 a1 = some r) :
 Calls Try.prog 38 #[.string a0, .int .i64 a1] w fun e w' => e = .returned (.string r) ∧ Below w.heap.size w w' := by
 have HB := Aside0.mk (Below.refl w.heap.size w)
 have H : (if a1 > 100000 then (some (⟨#[]⟩ : ByteArray)) else (if a0.size ≤ 9223372036854775807 then (spec_PadTo.l0 k a1 (bytesOf a0)) else none)) = some r := h
 clear h
 by_cases c3 : a1 > 100000
 ·
  rw [if_pos c3] at H
  have c3b0 : decide (100000 < a1) = true := decide_eq_true c3
  clear c3
  obtain rfl := Option.some.inj H
  go_enter Try.func38, Try.ntmps38
  go_wp2
  go_ret
  exact ⟨rfl, HB.out⟩
 ·
  rw [if_neg c3] at H
  have c3b0 : decide (100000 < a1) = false := decide_eq_false c3
  clear c3
  by_cases c4 : a0.size ≤ 9223372036854775807
  ·
   rw [if_pos c4] at H
   have H' := Aside0.mk H
   clear H
   have hcv : ∀ W : World, (convert 9 114 (.string a0)).run Try.prog W = .ok (.slice (some ⟨W.heap.size, 0, none⟩) a0.size (grownCap W a0.size 0 5)) (Go.Lib.bytesWorld W 5 a0) := fun W => print_bytes (P := Try.prog) 9 114 5 Try.underlying9 Try.underlying114 Try.underlying5 a0 W
   have hM : ∀ W : World, w.heap.size ≤ W.heap.size → Aside0 (Lib.MRow 5 (Go.Lib.bytesWorld W 5 a0) w.heap.size (.slice (some ⟨W.heap.size, 0, none⟩) a0.size (grownCap W a0.size 0 5)) (bytesOf a0)) := fun W hW => ⟨Lib.MRow.conv W 5 a0 w.heap.size hW c4⟩
   have hBB : ∀ W : World, Below w.heap.size w W → w.heap.size ≤ W.heap.size → Aside0 (Below w.heap.size w (Go.Lib.bytesWorld W 5 a0)) := fun W h h2 => ⟨bytes_below h h2 5 a0⟩
   replace hM := Aside0.mk hM
   replace hBB := Aside0.mk hBB
   go_enter Try.func38, Try.ntmps38
   go_wp2
   go_loopg [5] k (fun kq v5 w' => ∃ (x5_1 : List Int), Aside0 (spec_PadTo.l0 kq a1 x5_1 = some r) ∧ Aside0 (kq ≤ k) ∧ Aside0 (Lib.MRow 5 w' w.heap.size v5 x5_1) ∧ Aside0 (Below w.heap.size w w'))
   case atStart =>
    refine ⟨bytesOf a0, H', ⟨Nat.le_refl _⟩, ?_, ?_⟩
    ·
     exact hM.out _ (Nat.le_refl _)
    ·
     exact hBB.out _ (Below.refl _ _) (Nat.le_refl _)
   case round =>
    clear H'
    try clear c3b0
    try clear c4
    try clear hcv
    try clear hM
    try clear hBB
    obtain ⟨x5_1, HA, HK1, HO_5, HB⟩ := hrel
    cases gk with
    | zero => exact absurd HA.out (by simp [spec_PadTo.l0])
    | succ k1 =>
     have H := HA.out
     clear HA
     simp only [spec_PadTo.l0] at H
     by_cases c6 : (x5_1.length : Int) < a1
     ·
      rw [if_pos c6] at H
      have c6b0 : decide ((x5_1.length : Int) < a1) = true := decide_eq_true c6
      clear c6
      by_cases c7 : x5_1.length < 140737488355328
      ·
       rw [if_pos c7] at H
       have LMc7 := Aside0.mk c7
       clear c7
       have H' := Aside0.mk H
       clear H
       obtain ⟨Ao8, co8, eo8⟩ := Lib.MRow.slice HO_5.out
       subst eo8
       go_wp2_with (first | ((with_reducible refine gate_builtin (b := .append) (xs := #[.tmp 14, .tmp 15]) rfl ?_); at_builtin; refine Lib.MRow.append (w0 := w) w.heap.size rfl (.tmp 14) (.tmp 15) 114 5 rfl Try.underlying114 (by kernel_rfl) (.slice Ao8 x5_1.length co8) x5_1 0 rfl rfl ?aO ?aB ?aS LMc7.out ?_; (case aO => exact (by repeat (first | exact HO_5.out | apply Lib.MRow.alloc | apply Lib.MRow.drewN | apply Lib.MRow.drew))); (case aB => exact (by repeat (first | exact HB.out | apply below_alloc | apply pw_below_drewN | apply below_drew1))); (case aS => exact (below_size (by repeat (first | exact HB.out | apply below_alloc | apply pw_below_drewN | apply below_drew1)))); intro v105 w9 ho hb; have n0_ := Aside0.mk hb; have n1_ := Aside0.mk ho; clear HB; clear HO_5; have HB := n0_; have HO106 := n1_; clear n0_ n1_; clear ho hb))
       go_roundg k1
       case measure => have := HK1.out; omega
       case rel => exact ⟨x5_1 ++ [0], H', ⟨by have := HK1.out; omega⟩, ⟨by repeat (first | exact HO106.out | apply Lib.MRow.alloc | apply Lib.MRow.drewN | apply Lib.MRow.drew)⟩, ⟨by repeat (first | exact HB.out | apply below_alloc | apply pw_below_drewN | apply below_drew1)⟩⟩
      ·
       rw [if_neg c7] at H
       exact absurd H (by simp)
     ·
      rw [if_neg c6] at H
      have c6b0 : decide ((x5_1.length : Int) < a1) = false := decide_eq_false c6
      clear c6
      obtain rfl := Option.some.inj H
      obtain ⟨Ao10, co10, eo10⟩ := Lib.MRow.slice HO_5.out
      subst eo10
      have hcv11 := Lib.MRow.string (P := Try.prog) (src := 114) (e := 5) (dst := 9) Try.underlying114 Try.underlying5 Try.underlying9 HO_5.out
      go_wp2
      go_ret
      exact ⟨rfl, by repeat (first | exact HB.out | apply below_alloc | apply pw_below_drewN | apply below_drew1)⟩
  ·
   rw [if_neg c4] at H
   cases H

/-! ### spec_PackAcl: function 39 -/
def spec_PackAcl.l0 : Nat → ByteArray → List (S116) → Int → Int → Option (ByteArray)
 | 0, _, _, _, _ => none
 | k + 1, x3, x12, x13, x14 => if x14 < x13 then (if 0 ≤ x14 then (if x14 < (x12.length : Int) then ((spec_PutNumber.f k ((rd_T116 x12 x14).f0) 1).bind fun t159 => (if x3.size + t159.size ≤ 9223372036854775807 then ((spec_PutNumber.f k ((rd_T116 x12 x14).f1) 1).bind fun t160 => (if (x3 ++ t159).size + t160.size ≤ 9223372036854775807 then ((spec_PutNumber.f k ((rd_T116 x12 x14).f2) 1).bind fun t161 => (if ((x3 ++ t159) ++ t160).size + t161.size ≤ 9223372036854775807 then (spec_PackAcl.l0 k (((x3 ++ t159) ++ t160) ++ t161) x12 x13 (wrap64 (x14 + 1))) else (none))) else (none))) else (none))) else (none)) else (none)) else ((spec_PadTo.f k x3 19).bind fun t162 => (some t162))
def spec_PackAcl.f (k : Nat) (l0 : List (S116)) : Option (ByteArray) := (spec_IsAcl.f k l0).bind fun t155 => (if t155 = true then ((spec_PutNumber.f k (l0.length : Int) 1).bind fun t156 => (spec_PackAcl.l0 k t156 l0 (l0.length : Int) 0)) else (some (⟨#[]⟩ : ByteArray)))
theorem spec_PackAcl.mono_l : ∀ k, (∀ y0 y1 y2 y3, LeO (spec_PackAcl.l0 k y0 y1 y2 y3) (spec_PackAcl.l0 (k + 1) y0 y1 y2 y3))
 | 0 => fun _ _ _ _ r h => by simp [spec_PackAcl.l0] at h
 | k + 1 => by
  have ih0 := spec_PackAcl.mono_l k
  ·
   intro y0 y1 y2 y3
   unfold spec_PackAcl.l0
   repeat' first
   | (with_reducible exact ih0 _ _ _ _)
   | (with_reducible exact spec_IsAcl.mono _ _)
   | (with_reducible exact spec_PadTo.mono _ _ _)
   | (with_reducible exact spec_PutNumber.mono _ _ _)
   | (with_reducible exact LeO.refl _)
   | (with_reducible exact LeO.none _)
   | (with_reducible refine LeO.ite ?_ ?_)
   | (with_reducible refine LeO.bind ?_ (fun _ => ?_))
   | exact ih0 _ _ _ _
   | exact spec_IsAcl.mono _ _
   | exact spec_PadTo.mono _ _ _
   | exact spec_PutNumber.mono _ _ _
   | exact LeO.none _
   | refine LeO.ite ?_ ?_
   | refine LeO.bind ?_ (fun _ => ?_)
theorem spec_PackAcl.mono : ∀ a0 k, LeO (spec_PackAcl.f k a0) (spec_PackAcl.f (k + 1) a0) := by
 intro a0 k
 have ih0 := spec_PackAcl.mono_l k
 unfold spec_PackAcl.f
 repeat' first
  | (with_reducible exact ih0 _ _ _ _)
  | (with_reducible exact spec_IsAcl.mono _ _)
  | (with_reducible exact spec_PadTo.mono _ _ _)
  | (with_reducible exact spec_PutNumber.mono _ _ _)
  | (with_reducible exact LeO.refl _)
  | (with_reducible exact LeO.none _)
  | (with_reducible refine LeO.ite ?_ ?_)
  | (with_reducible refine LeO.bind ?_ (fun _ => ?_))
  | exact ih0 _ _ _ _
  | exact spec_IsAcl.mono _ _
  | exact spec_PadTo.mono _ _ _
  | exact spec_PutNumber.mono _ _ _
  | exact LeO.none _
  | refine LeO.ite ?_ ?_
  | refine LeO.bind ?_ (fun _ => ?_)
def spec_PackAcl.T7 : Bool × List (List Nat × List Nat) := (true, [([], []), ([], []), ([1], [1]), ([2], [2]), ([0, 3], [0, 3]), ([], []), ([5], [5]), ([6, 3], [6]), ([4, 7], [4, 7]), ([], []), ([9], [9]), ([10, 7], [10]), ([8, 11], [8, 11]), ([12, 11, 0, 1, 2, 3, 4, 5, 6, 7, 8, 9, 10, 11, 12], [0, 12])])
def spec_PackAcl.B7 : List Nat := [0, 0, 2, 6, 15, 0, 32, 110, 255, 0, 512, 1774, 4095, 8191]
theorem spec_PackAcl.tab7 : rtab .any (opsOf Try.f39 7) = spec_PackAcl.T7 := by kernel_rfl
theorem spec_PackAcl.bits7 : waitsOk spec_PackAcl.T7.2 spec_PackAcl.B7 = true := by kernel_rfl
set_option maxHeartbeats 8000000 in
set_option maxRecDepth 100000 in
theorem spec_PackAcl.calls (k : Nat) (A0 : Option Addr) (c0 : Nat) (l0 : List (S116)) (r : ByteArray) (w : World) (hr0 : Kd.C k116 w A0 l0.length l0) (hc0 : l0.length ≤ c0) (h : spec_PackAcl.f k l0 = some r) :
 Calls Try.prog 39 #[.slice A0 l0.length c0] w fun e w' => e = .returned (.string r) ∧ Below w.heap.size w w' := by
 have hu116 := Try.underlying116
 have HR0 := Aside0.mk hr0
 have HC0 := Aside0.mk hc0
 clear hr0 hc0
 have HB := Aside0.mk (Below.refl w.heap.size w)
 have H : ((spec_IsAcl.f k l0).bind fun t155 => (if t155 = true then ((spec_PutNumber.f k (l0.length : Int) 1).bind fun t156 => (spec_PackAcl.l0 k t156 l0 (l0.length : Int) 0)) else (some (⟨#[]⟩ : ByteArray)))) = some r := h
 clear h
 replace H := Option.bind_eq_some_iff.mp H
 obtain ⟨t155, A20, H⟩ := H
 try dsimp only at H
 have A2 := Aside0.mk A20
 clear A20
 by_cases c3 : t155 = true
 ·
  subst c3
  have H1 : ((spec_PutNumber.f k (l0.length : Int) 1).bind fun t156 => (spec_PackAcl.l0 k t156 l0 (l0.length : Int) 0)) = some r := by rw [if_pos rfl] at H; exact H
  clear H
  have H := H1
  clear H1
  replace H := Option.bind_eq_some_iff.mp H
  obtain ⟨t156, A40, H⟩ := H
  replace H : (spec_PackAcl.l0 k t156 l0 (l0.length : Int) 0) = some r := H
  have A4 := Aside0.mk A40
  clear A40
  have H' := Aside0.mk H
  clear H
  go_enter Try.func39, Try.ntmps39
  go_wp2_with (first | ((with_reducible refine gate_callee (f := 85) rfl ?_); refine goesL_ (some 7) rfl rfl Try.func85 (by kernel_rfl) rfl #[.slice A0 l0.length c0] rfl (by (try simp only [List.map_toArray, List.map_cons, List.map_nil]); first | done | rfl | (simp only [List.length_drop, List.length_take]; rfl)) ?_; (with_reducible refine (spec_IsAcl.calls k _ _ l0 true _ ?side1 ?side2 A2.out).mono ?_); (case side1 => repeat (first | exact HR0.out | (with_reducible refine Kd.C_alloc ?_ _) | (with_reducible refine Kd.C_drewN ?_ _) | (with_reducible refine Kd.C_drew ?_))); (case side2 => exact HC0.out); rintro e w5 ⟨rfl, hb⟩; refine ⟨_, rfl, ?_⟩; have n0_ := Aside0.mk (below_step (by exact Lib.bw HB.out) hb); clear HB; have HB := n0_; clear n0_; (try clear hb); (try clear hb2); (try clear hk); (try clear hi)) | ((with_reducible refine gate_callee (f := 37) rfl ?_); refine goesL_ (some 11) rfl rfl Try.func37 (by kernel_rfl) rfl #[.int .i64 (l0.length : Int), .int .i64 1] rfl (by (try simp only [List.map_toArray, List.map_cons, List.map_nil]); first | done | rfl | (simp only [List.length_drop, List.length_take]; rfl)) ?_; (with_reducible refine (spec_PutNumber.calls k (l0.length : Int) 1 t156 _ A4.out).mono ?_); rintro e w6 ⟨rfl, hb⟩; refine ⟨_, rfl, ?_⟩; have n0_ := Aside0.mk (below_step (by exact Lib.bw HB.out) hb); clear HB; have HB := n0_; clear n0_; (try clear hb); (try clear hb2); (try clear hk); (try clear hi)))
  go_loopg [3, 14] k (fun kq v3 v14 w' => ∃ (x3_1 : ByteArray) (x14_1 : Int), v3 = .string x3_1 ∧ v14 = .int .i64 x14_1 ∧ Aside0 (spec_PackAcl.l0 kq x3_1 l0 (l0.length : Int) x14_1 = some r) ∧ Aside0 (kq ≤ k) ∧ Aside0 (Below w.heap.size w w'))
  case atStart => exact ⟨(t156), (0), (by first | rfl | (simp; done) | (simp [*]; done)), (by first | rfl | (simp; done) | (simp [*]; done)), H', ⟨Nat.le_refl _⟩, ⟨by exact Lib.bw HB.out⟩⟩
  case round =>
   clear H'
   try clear p2
   try clear c3
   obtain ⟨x3_1, x14_1, rfl, rfl, HA, HK1, HB⟩ := hrel
   cases gk with
   | zero => exact absurd HA.out (by simp [spec_PackAcl.l0])
   | succ k1 =>
    have H := HA.out
    clear HA
    simp only [spec_PackAcl.l0] at H
    by_cases c7 : x14_1 < (l0.length : Int)
    ·
     rw [if_pos c7] at H
     have c7b0 : decide (x14_1 < (l0.length : Int)) = true := decide_eq_true c7
     clear c7
     by_cases c8 : 0 ≤ x14_1
     ·
      rw [if_pos c8] at H
      have c8b0 : decide (0 ≤ x14_1) = true := decide_eq_true c8
      clear c8
      by_cases c9 : x14_1 < (l0.length : Int)
      ·
       rw [if_pos c9] at H
       have c9b0 : decide (x14_1 < (l0.length : Int)) = true := decide_eq_true c9
       clear c9
       replace H := Option.bind_eq_some_iff.mp H
       obtain ⟨t159, A100, H⟩ := H
       try dsimp only at H
       have A10 := Aside0.mk A100
       clear A100
       by_cases c11 : x3_1.size + t159.size ≤ 9223372036854775807
       ·
        rw [if_pos c11] at H
        have c11b0 := eq_true c11
        have c11b1 : decide (x3_1.size + t159.size ≤ 9223372036854775807) = true := decide_eq_true c11
        try have c11b2 : (9223372036854775807 < x3_1.size + t159.size) = False := eq_false (Nat.not_lt.2 c11)
        replace H := Option.bind_eq_some_iff.mp H
        obtain ⟨t160, A120, H⟩ := H
        try dsimp only at H
        have A12 := Aside0.mk A120
        clear A120
        by_cases c13 : (x3_1 ++ t159).size + t160.size ≤ 9223372036854775807
        ·
         rw [if_pos c13] at H
         have c13b0 := eq_true c13
         have c13b1 : decide ((x3_1 ++ t159).size + t160.size ≤ 9223372036854775807) = true := decide_eq_true c13
         try have c13b2 : (9223372036854775807 < (x3_1 ++ t159).size + t160.size) = False := eq_false (Nat.not_lt.2 c13)
         try (have c13b3 := c13b2; simp only [ByteArray.size_append] at c13b3)
         replace H := Option.bind_eq_some_iff.mp H
         obtain ⟨t161, A140, H⟩ := H
         try dsimp only at H
         have A14 := Aside0.mk A140
         clear A140
         by_cases c15 : ((x3_1 ++ t159) ++ t160).size + t161.size ≤ 9223372036854775807
         ·
          rw [if_pos c15] at H
          have c15b0 := eq_true c15
          have c15b1 : decide (((x3_1 ++ t159) ++ t160).size + t161.size ≤ 9223372036854775807) = true := decide_eq_true c15
          try have c15b2 : (9223372036854775807 < ((x3_1 ++ t159) ++ t160).size + t161.size) = False := eq_false (Nat.not_lt.2 c15)
          try (have c15b3 := c15b2; simp only [ByteArray.size_append] at c15b3)
          have H' := Aside0.mk H
          clear H
          have p157 : 0 ≤ (x14_1 : Int) := Lib.od
          have q157 : x14_1 < (l0.length : Int) := Lib.od
          obtain ⟨ad157, e157, hx157_0, hx157_1, hx157_2⟩ := at_T116 HR0.out x14_1 p157 q157
          cases e157
          replace hx157_0 := (HB.out.cell (World.block_lt_of_cell? w _ hx157_0)).trans hx157_0
          replace hx157_1 := (HB.out.cell (World.block_lt_of_cell? w _ hx157_1)).trans hx157_1
          replace hx157_2 := (HB.out.cell (World.block_lt_of_cell? w _ hx157_2)).trans hx157_2
          replace p157 := eq_true p157
          replace q157 := eq_true q157
          try go_wp2_with (first | ((with_reducible refine gate_dst (N := 5) rfl ?_); refine box_event ?hg (N := 5) ?hd (cs := #[.int .i64 0, .int .i64 0, .int .i64 0]) (t := 116) ?hr ?_; (case hd => rfl); (case hg => rfl); (case hr => first | (go_simp; done) | (go_simp; rfl)); intro gb158 hg w16 hbox hb; have n0_ := Aside0.mk (below_step (by exact Lib.bw HB.out) hb); have n1_ := Aside0.mk (hbox); have n2_ := Aside0.mk ((by rw [hg]; exact (below_size (by exact Lib.bw HB.out)) : w.heap.size ≤ gb158)); have n3_ := Aside0.mk ((by rw [hg]; exact (below_size (by exact Lib.bw HB.out)) : w.heap.size ≤ gb158)); clear HB; have HB := n0_; have BK158 := n1_; have GW158 := n2_; have GE158 := n3_; clear n0_ n1_ n2_ n3_; clear hb hbox hg; obtain ⟨hcz17_0, hcz17_1, hcz17_2, hfz17_0, hfz17_1, hfz17_2⟩ := Lib.cel3 (W := w16) BK158.out))
          have n0_ : Aside0 ((((w16.setCell ⟨gb158, 0, none⟩ (.int .i64 ((rd_T116 l0 x14_1).f0))).setCell ⟨gb158, 1, none⟩ (.int .i64 ((rd_T116 l0 x14_1).f1))).setCell ⟨gb158, 2, none⟩ (.int .i64 ((rd_T116 l0 x14_1).f2))).heap[gb158]? = some (.cells #[.int .i64 ((rd_T116 l0 x14_1).f0), .int .i64 ((rd_T116 l0 x14_1).f1), .int .i64 ((rd_T116 l0 x14_1).f2)] 116 (0, 0))) := ⟨by (with_reducible repeat (first | refine blk_drewN ?_ _ | refine blk_drew ?_ | refine blk_alloc ?_ _)); refine blk_put (cs := #[.int .i64 ((rd_T116 l0 x14_1).f0), .int .i64 ((rd_T116 l0 x14_1).f1), .int .i64 0]) ?_ 2 _ rfl; (with_reducible repeat (first | refine blk_drewN ?_ _ | refine blk_drew ?_ | refine blk_alloc ?_ _)); refine blk_put (cs := #[.int .i64 ((rd_T116 l0 x14_1).f0), .int .i64 0, .int .i64 0]) ?_ 1 _ rfl; (with_reducible repeat (first | refine blk_drewN ?_ _ | refine blk_drew ?_ | refine blk_alloc ?_ _)); refine blk_put (cs := #[.int .i64 0, .int .i64 0, .int .i64 0]) ?_ 0 _ rfl; (with_reducible repeat (first | refine blk_drewN ?_ _ | refine blk_drew ?_ | refine blk_alloc ?_ _)); exact BK158.out⟩
          have n1_ : Aside0 (Below w.heap.size w (((w16.setCell ⟨gb158, 0, none⟩ (.int .i64 ((rd_T116 l0 x14_1).f0))).setCell ⟨gb158, 1, none⟩ (.int .i64 ((rd_T116 l0 x14_1).f1))).setCell ⟨gb158, 2, none⟩ (.int .i64 ((rd_T116 l0 x14_1).f2)))) := ⟨by exact Lib.bs HB.out GE158.out⟩
          (try clear BK158)
          (try clear HB)
          generalize (((w16.setCell ⟨gb158, 0, none⟩ (.int .i64 ((rd_T116 l0 x14_1).f0))).setCell ⟨gb158, 1, none⟩ (.int .i64 ((rd_T116 l0 x14_1).f1))).setCell ⟨gb158, 2, none⟩ (.int .i64 ((rd_T116 l0 x14_1).f2))) = w18 at n0_ n1_ ⊢
          have BK158 := n0_
          have HB := n1_
          clear n0_ n1_
          have n0_ := Aside0.mk (blk_drew BK158.out)
          have n1_ := Aside0.mk (below_drew1 HB.out)
          clear BK158
          clear HB
          have BK158 := n0_
          have HB := n1_
          clear n0_ n1_
          refine start_ (n := 14) (S := fun w' => w'.cell? ⟨gb158, 0, none⟩ = some (.int .i64 ((rd_T116 l0 x14_1).f0)) ∧ w'.cell? ⟨gb158, 1, none⟩ = some (.int .i64 ((rd_T116 l0 x14_1).f1)) ∧ w'.cell? ⟨gb158, 2, none⟩ = some (.int .i64 ((rd_T116 l0 x14_1).f2))) (ds := []) (Lib.tr [0, 14]) (by kernel_rfl) rfl rfl ⟨(blk_cell BK158.out 0).trans rfl, (blk_cell BK158.out 1).trans rfl, (blk_cell BK158.out 2).trans rfl⟩ (fun hHeld => ?_); refine with_tabW spec_PackAcl.tab7 spec_PackAcl.bits7 (fun HT_ HW_ => ?_)
          generalize w18.drew = w19 at BK158 HB hHeld ⊢
          refine Lib.pa ?_ 0 18 [1, 13] HT_ rfl rfl (by kernel_rfl) (fun _ _ _ h => h) (by rfl) ?_ ?_ ?_ ?_; rotate_left; (· intro w'; go_simp; with_reducible rfl); rotate_left; (· simp only [Lib.pw, Lib.px, Lib.py, i64_w, i32_w]; rfl)
          refine Lib.pa ?_ 1 19 [2, 12] HT_ rfl rfl (by kernel_rfl) (fun _ _ _ h => h) (by rfl) ?_ ?_ ?_ ?_; rotate_left; (· intro w'; go_simp; with_reducible rfl); rotate_left; (· simp only [Lib.pw, Lib.px, Lib.py, i64_w, i32_w]; rfl)
          refine Lib.pa ?_ 5 23 [2, 3, 1, 8] HT_ rfl rfl (by kernel_rfl) (fun _ _ _ h => h) (by rfl) ?_ ?_ ?_ ?_; rotate_left; (· intro w'; go_simp; with_reducible rfl); rotate_left; (· simp only [Lib.pw, Lib.px, Lib.py, i64_w, i32_w]; rfl)
          refine Lib.pa ?_ 9 27 [2, 3, 1, 3, 1, 4] HT_ rfl rfl (by kernel_rfl) (fun _ _ _ h => h) (by rfl) ?_ ?_ ?_ ?_; rotate_left; (· intro w'; go_simp; with_reducible rfl); rotate_left; (· simp only [Lib.pw, Lib.px, Lib.py, i64_w, i32_w]; rfl)
          refine Lib.pt ?_ 2 20 [3, 2, 1, 3, 1, 4] HT_ HW_ rfl rfl (by kernel_rfl) (fun _ _ _ h => h) (by rfl) ?_ hHeld ?_ ?_ ?_; rotate_left; (· rintro w' ⟨s0, s1, s2⟩; go_simp; with_reducible rfl); rotate_left; (· simp only [Lib.pw, Lib.px, Lib.py, i64_w, i32_w]; rfl)
          refine Lib.pt ?_ 6 24 [3, 2, 2, 2, 1, 4] HT_ HW_ rfl rfl (by kernel_rfl) (fun _ _ _ h => h) (by rfl) ?_ hHeld ?_ ?_ ?_; rotate_left; (· rintro w' ⟨s0, s1, s2⟩; go_simp; with_reducible rfl); rotate_left; (· simp only [Lib.pw, Lib.px, Lib.py, i64_w, i32_w]; rfl)
          refine Lib.pt ?_ 10 28 [3, 2, 2, 2, 2, 3] HT_ HW_ rfl rfl (by kernel_rfl) (fun _ _ _ h => h) (by rfl) ?_ hHeld ?_ ?_ ?_; rotate_left; (· rintro w' ⟨s0, s1, s2⟩; go_simp; with_reducible rfl); rotate_left; (· simp only [Lib.pw, Lib.px, Lib.py, i64_w, i32_w]; rfl)
          refine one_ (i := 3) (N := some 21) (Lib.tr [4, 1, 2, 2, 2, 3]) rfl rfl (one_of HT_.out (by kernel_rfl)) (by decide) (fun K hK => ?_)
          refine goes_ Try.func37 (by kernel_rfl) rfl #[.int .i64 ((rd_T116 l0 x14_1).f0), .int .i64 1] (by rfl) rfl rfl (by (try simp only [List.map_toArray, List.map_cons, List.map_nil]); first | done | rfl | (simp only [List.length_drop, List.length_take]; rfl)) ?_
          with_reducible refine (spec_PutNumber.calls k1 ((rd_T116 l0 x14_1).f0) 1 t159 _ A10.out).mono ?_
          rintro e w20 ⟨rfl, hb⟩
          refine ⟨_, rfl, ?_⟩
          have n0_ := Aside0.mk (blk_below (g := gb158) (o := .cells #[.int .i64 ((rd_T116 l0 x14_1).f0), .int .i64 ((rd_T116 l0 x14_1).f1), .int .i64 ((rd_T116 l0 x14_1).f2)] 116 (0, 0)) (by exact Lib.bk BK158.out) hb)
          have n1_ := Aside0.mk (below_step (by exact Lib.bs HB.out GE158.out) hb)
          clear BK158
          clear HB
          have BK158 := n0_
          have HB := n1_
          clear n0_ n1_
          (try clear hb)
          (try clear hb2)
          (try clear hk)
          (try clear hi)
          refine hK.out _ _ ⟨(blk_cell BK158.out 0).trans rfl, (blk_cell BK158.out 1).trans rfl, (blk_cell BK158.out 2).trans rfl⟩ (fun hHeld => ?_)
          clear hK K
          refine norm_ (a' := ?_) ?_ ?_
          rotate_left
          ·
           show Act.put _ (some 21) _ = _
           simp only [Lib.pw, Lib.px, Lib.py, i64_w, i32_w]
           rfl
          refine Lib.pa ?_ 4 22 [7, 2, 2, 3] HT_ rfl rfl (by kernel_rfl) (fun _ _ _ h => h) (by rfl) ?_ ?_ ?_ ?_; rotate_left; (· intro w'; go_simp; with_reducible rfl); rotate_left; (· simp only [Lib.pw, Lib.px, Lib.py, i64_w, i32_w]; rfl)
          refine one_ (i := 7) (N := some 25) (Lib.tr [8, 1, 2, 3]) rfl rfl (one_of HT_.out (by kernel_rfl)) (by decide) (fun K hK => ?_)
          refine goes_ Try.func37 (by kernel_rfl) rfl #[.int .i64 ((rd_T116 l0 x14_1).f1), .int .i64 1] (by rfl) rfl rfl (by (try simp only [List.map_toArray, List.map_cons, List.map_nil]); first | done | rfl | (simp only [List.length_drop, List.length_take]; rfl)) ?_
          with_reducible refine (spec_PutNumber.calls k1 ((rd_T116 l0 x14_1).f1) 1 t160 _ A12.out).mono ?_
          rintro e w21 ⟨rfl, hb⟩
          refine ⟨_, rfl, ?_⟩
          have n0_ := Aside0.mk (blk_below (g := gb158) (o := .cells #[.int .i64 ((rd_T116 l0 x14_1).f0), .int .i64 ((rd_T116 l0 x14_1).f1), .int .i64 ((rd_T116 l0 x14_1).f2)] 116 (0, 0)) (by exact Lib.bk BK158.out) hb)
          have n1_ := Aside0.mk (below_step (by exact Lib.bs HB.out GE158.out) hb)
          clear BK158
          clear HB
          have BK158 := n0_
          have HB := n1_
          clear n0_ n1_
          (try clear hb)
          (try clear hb2)
          (try clear hk)
          (try clear hi)
          refine hK.out _ _ ⟨(blk_cell BK158.out 0).trans rfl, (blk_cell BK158.out 1).trans rfl, (blk_cell BK158.out 2).trans rfl⟩ (fun hHeld => ?_)
          clear hK K
          refine norm_ (a' := ?_) ?_ ?_
          rotate_left
          ·
           show Act.put _ (some 25) _ = _
           simp only [Lib.pw, Lib.px, Lib.py, i64_w, i32_w]
           rfl
          refine Lib.pa ?_ 8 26 [11, 3] HT_ rfl rfl (by kernel_rfl) (fun _ _ _ h => h) (by rfl) ?_ ?_ ?_ ?_; rotate_left; (· intro w'; go_simp; with_reducible rfl); rotate_left; (· simp only [Lib.pw, Lib.px, Lib.py, i64_w, i32_w]; rfl)
          refine one_ (i := 11) (N := some 29) (Lib.tr [12, 2]) rfl rfl (one_of HT_.out (by kernel_rfl)) (by decide) (fun K hK => ?_)
          refine goes_ Try.func37 (by kernel_rfl) rfl #[.int .i64 ((rd_T116 l0 x14_1).f2), .int .i64 1] (by rfl) rfl rfl (by (try simp only [List.map_toArray, List.map_cons, List.map_nil]); first | done | rfl | (simp only [List.length_drop, List.length_take]; rfl)) ?_
          with_reducible refine (spec_PutNumber.calls k1 ((rd_T116 l0 x14_1).f2) 1 t161 _ A14.out).mono ?_
          rintro e w22 ⟨rfl, hb⟩
          refine ⟨_, rfl, ?_⟩
          have n0_ := Aside0.mk (blk_below (g := gb158) (o := .cells #[.int .i64 ((rd_T116 l0 x14_1).f0), .int .i64 ((rd_T116 l0 x14_1).f1), .int .i64 ((rd_T116 l0 x14_1).f2)] 116 (0, 0)) (by exact Lib.bk BK158.out) hb)
          have n1_ := Aside0.mk (below_step (by exact Lib.bs HB.out GE158.out) hb)
          clear BK158
          clear HB
          have BK158 := n0_
          have HB := n1_
          clear n0_ n1_
          (try clear hb)
          (try clear hb2)
          (try clear hk)
          (try clear hi)
          refine hK.out _ _ ⟨(blk_cell BK158.out 0).trans rfl, (blk_cell BK158.out 1).trans rfl, (blk_cell BK158.out 2).trans rfl⟩ (fun hHeld => ?_)
          clear hK K
          refine norm_ (a' := ?_) ?_ ?_
          rotate_left
          ·
           show Act.put _ (some 29) _ = _
           simp only [Lib.pw, Lib.px, Lib.py, i64_w, i32_w]
           rfl
          refine Lib.pa ?_ 12 30 [13, 1] HT_ rfl rfl (by kernel_rfl) (fun _ _ _ h => h) (by rfl) ?_ ?_ ?_ ?_; rotate_left; (· intro w'; go_simp; with_reducible rfl); rotate_left; (· simp only [Lib.pw, Lib.px, Lib.py, i64_w, i32_w]; rfl)
          refine Lib.pa ?_ 13 3 [14] HT_ rfl rfl (by kernel_rfl) (fun _ _ _ h => h) (by rfl) ?_ ?_ ?_ ?_; rotate_left; (· intro w'; go_simp; with_reducible rfl); rotate_left; (· simp only [Lib.pw, Lib.px, Lib.py, i64_w, i32_w]; rfl)
          refine done_ (done_of HT_.out (by kernel_rfl)) ?_
          try go_wp2
          go_roundg k1
          case measure => have := HK1.out; omega
          case rel => exact ⟨(((x3_1 ++ t159) ++ t160) ++ t161), (wrap64 (x14_1 + 1)), (by first | rfl | (simp; done) | (simp [*]; done)), (by first | rfl | (simp; done) | (simp [*]; done)), H', ⟨by have := HK1.out; omega⟩, ⟨by exact Lib.bs HB.out GE158.out⟩⟩
         ·
          rw [if_neg c15] at H
          exact absurd H (by simp)
        ·
         rw [if_neg c13] at H
         exact absurd H (by simp)
       ·
        rw [if_neg c11] at H
        exact absurd H (by simp)
      ·
       rw [if_neg c9] at H
       exact absurd H (by simp)
     ·
      rw [if_neg c8] at H
      exact absurd H (by simp)
    ·
     rw [if_neg c7] at H
     have c7b0 : decide (x14_1 < (l0.length : Int)) = false := decide_eq_false c7
     clear c7
     replace H := Option.bind_eq_some_iff.mp H
     obtain ⟨t162, A230, H⟩ := H
     replace H : (some t162) = some r := H
     have A23 := Aside0.mk A230
     clear A230
     obtain rfl := Option.some.inj H
     go_wp2_with (first | ((with_reducible refine gate_callee (f := 38) rfl ?_); refine goesL_ (some 33) rfl rfl Try.func38 (by kernel_rfl) rfl #[.string x3_1, .int .i64 19] rfl (by (try simp only [List.map_toArray, List.map_cons, List.map_nil]); first | done | rfl | (simp only [List.length_drop, List.length_take]; rfl)) ?_; (with_reducible refine (spec_PadTo.calls k1 x3_1 19 t162 _ A23.out).mono ?_); rintro e w24 ⟨rfl, hb⟩; refine ⟨_, rfl, ?_⟩; have n0_ := Aside0.mk (below_step (by exact Lib.bw HB.out) hb); clear HB; have HB := n0_; clear n0_; (try clear hb); (try clear hb2); (try clear hk); (try clear hi)))
     go_ret
     exact ⟨by first | rfl | (simp [errW_none, errW_some] <;> rfl) | (simp [*, errW_none, errW_some] <;> rfl), by exact Lib.bw HB.out⟩
 ·
  replace c3 := Bool.eq_false_iff.mpr c3
  subst c3
  have H1 : (some (⟨#[]⟩ : ByteArray)) = some r := by rw [if_neg (show ¬ (false = true) by decide)] at H; exact H
  clear H
  have H := H1
  clear H1
  obtain rfl := Option.some.inj H
  go_enter Try.func39, Try.ntmps39
  go_wp2_with (first | ((with_reducible refine gate_callee (f := 85) rfl ?_); refine goesL_ (some 7) rfl rfl Try.func85 (by kernel_rfl) rfl #[.slice A0 l0.length c0] rfl (by (try simp only [List.map_toArray, List.map_cons, List.map_nil]); first | done | rfl | (simp only [List.length_drop, List.length_take]; rfl)) ?_; (with_reducible refine (spec_IsAcl.calls k _ _ l0 false _ ?side1 ?side2 A2.out).mono ?_); (case side1 => repeat (first | exact HR0.out | (with_reducible refine Kd.C_alloc ?_ _) | (with_reducible refine Kd.C_drewN ?_ _) | (with_reducible refine Kd.C_drew ?_))); (case side2 => exact HC0.out); rintro e w25 ⟨rfl, hb⟩; refine ⟨_, rfl, ?_⟩; have n0_ := Aside0.mk (below_step (by exact Lib.bw HB.out) hb); clear HB; have HB := n0_; clear n0_; (try clear hb); (try clear hb2); (try clear hk); (try clear hi)))
  go_ret
  exact ⟨by first | rfl | (simp [errW_none, errW_some] <;> rfl) | (simp [*, errW_none, errW_some] <;> rfl), by exact Lib.bw HB.out⟩

end Go.Proofs.Ytmnojegajblagac.PFnExactPackInode
