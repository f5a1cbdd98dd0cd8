-- Written by a program of this session over Lean's own print of the program.
import Derived.Test.YtmnojegajblagacDoorPFnAclsx0
import Derived.Test.YtmnojegajblagacDoorPFnAclsx2
namespace Go.Proofs.YtmnojegajblagacDoor.PFnAcls
open Go.RowKit Go.Proofs.YtmnojegajblagacDoorW.PrintWords Go.Proofs.YtmnojegajblagacDoorW.PrintLast Go.Proofs.YtmnojegajblagacDoorW.PrintMore
attribute [local go_sem] max2_int min2_int max_two min_two max_three min_three max_four min_four   -- for this text's walks alone
set_option linter.unusedVariables false
set_option linter.unusedSimpArgs false

/-! ### strconv_Itoa: function 42 -/
/-- strconv.Itoa, by the shelf's contract. -/
def strconv_Itoa.f (a0 : Int) : Option (ByteArray) := if -9223372036854775808 ≤ a0 ∧ a0 ≤ 9223372036854775807 then some (⟨(Go.Lib.itoa a0).toArray⟩ : ByteArray) else none
theorem strconv_Itoa.calls (a0 : Int) (r : ByteArray) (w : World) (ht : Lib.Door w) (h : strconv_Itoa.f a0 = some r) :
 Calls Tryd.prog 42 #[.int .i64 a0] w fun e w' => e = .returned (.string r) ∧ Below w.heap.size w w' := by
 unfold strconv_Itoa.f at h
 by_cases hc : -9223372036854775808 ≤ a0 ∧ a0 ≤ 9223372036854775807
 ·
  rw [if_pos hc] at h
  obtain rfl := Option.some.inj h
  refine (Tryd.strconv_Itoa a0 hc.1 hc.2 w ht.tab).mono ?_
  rintro e w' ⟨rfl, k, os, rfl⟩
  exact ⟨rfl, Go.Lib.below_grow _ _ (Nat.le_refl _) k os⟩
 ·
  rw [if_neg hc] at h
  cases h

/-! ### impl_FormatInt: function 25 -/
def impl_FormatInt.f (a0 : Int) : Option (ByteArray) := (strconv_Itoa.f a0).bind fun t116 => (some t116)
set_option maxHeartbeats 8000000 in
set_option maxRecDepth 100000 in
theorem impl_FormatInt.calls (a0 : Int) (r : ByteArray) (w : World) (ht : Lib.Door w) (h : impl_FormatInt.f a0 = some r) :
 Calls Tryd.prog 25 #[.int .i64 a0] w fun e w' => e = .returned (.string r) ∧ Below w.heap.size w w' := by
 have HB := Aside0.mk (Below.refl w.heap.size w)
 have HT := Aside0.mk ht
 clear ht
 have H : ((strconv_Itoa.f a0).bind fun t116 => (some t116)) = some r := h
 clear h
 replace H := Option.bind_eq_some_iff.mp H
 obtain ⟨t116, A20, H⟩ := H
 replace H : (some t116) = some r := H
 have A2 := Aside0.mk A20
 clear A20
 obtain rfl := Option.some.inj H
 go_enter Tryd.func25, Tryd.ntmps25
 go_wp2_with (first | ((with_reducible refine gate_callee (f := 42) rfl ?_); refine goesL_ (some 4) rfl rfl Tryd.func42 (by kernel_rfl) rfl #[.int .i64 a0] rfl (by (try simp only [List.map_toArray, List.map_cons, List.map_nil]); first | done | rfl | (simp only [List.length_drop, List.length_take]; rfl)) ?_; (with_reducible refine (strconv_Itoa.calls a0 t116 _ ?side1 A2.out).mono ?_); (case side1 => exact Lib.doorB HT.out (by exact Lib.bw HB.out)); rintro e w3 ⟨rfl, hb⟩; refine ⟨_, rfl, ?_⟩; have n0_ := Aside0.mk (below_step (by exact Lib.bw HB.out) hb); clear HB; have HB := n0_; clear n0_; (try clear hb); (try clear hb2); (try clear hk); (try clear hi)))
 go_ret
 exact ⟨by first | rfl | (simp [errW_none, errW_some] <;> rfl) | (simp [*, errW_none, errW_some] <;> rfl), by exact Lib.bw HB.out⟩

/-! ### strings_Join: function 43 -/
/-- strings.Join where the shelf's contract speaks. -/
def strings_Join.f (l0 : List ByteArray) (a1 : ByteArray) : Option (ByteArray) := if l0.length ≤ 140737488355328 ∧ (Go.Lib.join (l0.map (·.data.toList)) a1.data.toList).length ≤ 140737488355328 then some (⟨(Go.Lib.join (l0.map (·.data.toList)) a1.data.toList).toArray⟩ : ByteArray) else none
theorem strings_Join.calls (A0 : Option Addr) (c0 : Nat) (l0 : List ByteArray) (a1 : ByteArray) (r : ByteArray) (w : World) (hr0 : Kd.C Kd.string w A0 l0.length l0) (hc0 : l0.length ≤ c0) (h : strings_Join.f l0 a1 = some r) :
 Calls Tryd.prog 43 #[.slice A0 l0.length c0, .string a1] w fun e w' => e = .returned (.string r) ∧ Below w.heap.size w w' := by
 unfold strings_Join.f at h
 by_cases hc : l0.length ≤ 140737488355328 ∧ (Go.Lib.join (l0.map (·.data.toList)) a1.data.toList).length ≤ 140737488355328
 ·
  rw [if_pos hc] at h
  obtain rfl := Option.some.inj h
  cases l0 with
  | nil =>
   refine (Tryd.strings_Join_none A0 c0 a1 w).mono ?_
   rintro e w' ⟨rfl, rfl⟩
   exact ⟨rfl, Below.refl _ _⟩
  | cons x l =>
   obtain ⟨ad, e, hcell⟩ := hr0.2.2 (Nat.succ_pos _)
   subst e
   have get : ∀ j p, (x :: l)[j]? = some p → w.cell? (ad.add j) = some (.string p) := by
    intro j p hj
    obtain ⟨cs, _, hR, hc2⟩ := hcell j p hj
    have hR' : cs = [.string p] := hR
    subst hR'
    have := hc2 0 (.string p) rfl
    rwa [show j * Kd.string.sz + 0 = j from Nat.mul_one j] at this
   have h0 := get 0 x rfl
   obtain ⟨bk, o, sp⟩ := ad
   cases sp with
   | some s =>
    exfalso
    simp only [Addr.add, if_pos, World.cell?] at h0
    revert h0
    cases w.heap[bk]? with
    | none => simp
    | some ob => cases ob <;> simp
   | none =>
    have get' : ∀ j p, (x :: l)[j]? = some p → w.cell? ⟨bk, o + j, none⟩ = some (.string p) := by
     intro j p hj
     have := get j p hj
     unfold Addr.add at this
     split at this
     ·
      rename_i hz
      subst hz
      exact this
     ·
      exact this
    exact Tryd.strings_Join bk o c0 (x :: l) a1 w get' (World.block_lt_of_cell? w _ (get' 0 x rfl)) hc.1 hc0 hc.2
 ·
  rw [if_neg hc] at h
  cases h

/-! ### impl_Join: function 26 -/
def impl_Join.f (l0 : List ByteArray) (a1 : ByteArray) : Option (ByteArray) := (strings_Join.f l0 a1).bind fun t117 => (some t117)
set_option maxHeartbeats 8000000 in
set_option maxRecDepth 100000 in
theorem impl_Join.calls (A0 : Option Addr) (c0 : Nat) (l0 : List ByteArray) (a1 : ByteArray) (r : ByteArray) (w : World) (hr0 : Kd.C Kd.string w A0 l0.length l0) (hc0 : l0.length ≤ c0) (h : impl_Join.f l0 a1 = some r) :
 Calls Tryd.prog 26 #[.slice A0 l0.length c0, .string a1] w fun e w' => e = .returned (.string r) ∧ Below w.heap.size w w' := by
 have HR0 := Aside0.mk hr0
 have HC0 := Aside0.mk hc0
 clear hr0 hc0
 have HB := Aside0.mk (Below.refl w.heap.size w)
 have H : ((strings_Join.f l0 a1).bind fun t117 => (some t117)) = some r := h
 clear h
 replace H := Option.bind_eq_some_iff.mp H
 obtain ⟨t117, A30, H⟩ := H
 replace H : (some t117) = some r := H
 have A3 := Aside0.mk A30
 clear A30
 obtain rfl := Option.some.inj H
 go_enter Tryd.func26, Tryd.ntmps26
 go_wp2_with (first | ((with_reducible refine gate_callee (f := 43) rfl ?_); refine goesL_ (some 7) rfl rfl Tryd.func43 (by kernel_rfl) rfl #[.slice A0 l0.length c0, .string a1] rfl (by (try simp only [List.map_toArray, List.map_cons, List.map_nil]); first | done | rfl | (simp only [List.length_drop, List.length_take]; rfl)) ?_; (with_reducible refine (strings_Join.calls _ _ l0 a1 t117 _ ?side1 ?side2 A3.out).mono ?_); (case side1 => repeat (first | exact HR0.out | (with_reducible refine Kd.C_alloc ?_ _) | (with_reducible refine Kd.C_drewN ?_ _) | (with_reducible refine Kd.C_drew ?_))); (case side2 => exact HC0.out); rintro e w4 ⟨rfl, hb⟩; refine ⟨_, rfl, ?_⟩; have n0_ := Aside0.mk (below_step (by exact Lib.bw HB.out) hb); clear HB; have HB := n0_; clear n0_; (try clear hb); (try clear hb2); (try clear hk); (try clear hi)))
 go_ret
 exact ⟨by first | rfl | (simp [errW_none, errW_some] <;> rfl) | (simp [*, errW_none, errW_some] <;> rfl), by exact Lib.bw HB.out⟩

/-! ### impl_FormatAcl: function 11 -/
def impl_FormatAcl.l0 : Nat → List ByteArray → List (S33) → Int → Int → Option (ByteArray)
 | 0, _, _, _, _ => none
 | k + 1, x3, x13, x14, x15 => if x15 < x14 then (if 0 ≤ x15 then (if x15 < (x13.length : Int) then (if 0 ≤ (wrap64 (((rd_T33 x13 x15).f0) - 1)) then (if (wrap64 (((rd_T33 x13 x15).f0) - 1)) ≤ ((rd_T33 x13 x15).f0) then (if ((rd_T33 x13 x15).f0) ≤ 3 then ((impl_FormatInt.f ((rd_T33 x13 x15).f1)).bind fun t124 => (if ((⟨#[117, 103, 109]⟩ : ByteArray).extract ((wrap64 (((rd_T33 x13 x15).f0) - 1)) : Int).toNat (((rd_T33 x13 x15).f0) : Int).toNat).size + t124.size ≤ 9223372036854775807 then (if (((⟨#[117, 103, 109]⟩ : ByteArray).extract ((wrap64 (((rd_T33 x13 x15).f0) - 1)) : Int).toNat (((rd_T33 x13 x15).f0) : Int).toNat) ++ t124).size + 1 ≤ 9223372036854775807 then ((impl_FormatInt.f ((rd_T33 x13 x15).f2)).bind fun t125 => (if ((((⟨#[117, 103, 109]⟩ : ByteArray).extract ((wrap64 (((rd_T33 x13 x15).f0) - 1)) : Int).toNat (((rd_T33 x13 x15).f0) : Int).toNat) ++ t124) ++ (⟨#[58]⟩ : ByteArray)).size + t125.size ≤ 9223372036854775807 then (if x3.length < 8796093022208 then (impl_FormatAcl.l0 k (x3 ++ [((((⟨#[117, 103, 109]⟩ : ByteArray).extract ((wrap64 (((rd_T33 x13 x15).f0) - 1)) : Int).toNat (((rd_T33 x13 x15).f0) : Int).toNat) ++ t124) ++ (⟨#[58]⟩ : ByteArray)) ++ t125]) x13 x14 (wrap64 (x15 + 1))) else (none)) else (none))) else (none)) else (none))) else (none)) else (none)) else (none)) else (none)) else (none)) else ((impl_Join.f x3 (⟨#[44]⟩ : ByteArray)).bind fun t129 => (some t129))
def impl_FormatAcl.f (k : Nat) (l0 : List (S33)) : Option (ByteArray) := (impl_IsAcl.f k l0).bind fun t118 => (if t118 = true then (if (l0.length : Int) = 0 then (some (⟨#[45]⟩ : ByteArray)) else (impl_FormatAcl.l0 k (([] : List ByteArray)) l0 (l0.length : Int) 0)) else (some (⟨#[]⟩ : ByteArray)))
theorem impl_FormatAcl.mono_l : ∀ k, (∀ y0 y1 y2 y3, LeO (impl_FormatAcl.l0 k y0 y1 y2 y3) (impl_FormatAcl.l0 (k + 1) y0 y1 y2 y3))
 | 0 => fun _ _ _ _ r h => by simp [impl_FormatAcl.l0] at h
 | k + 1 => by
  have ih0 := impl_FormatAcl.mono_l k
  ·
   intro y0 y1 y2 y3
   unfold impl_FormatAcl.l0
   repeat' first
   | (with_reducible exact ih0 _ _ _ _)
   | (with_reducible exact impl_IsAcl.mono _ _)
   | (with_reducible exact LeO.refl _)
   | (with_reducible exact LeO.none _)
   | (with_reducible refine LeO.ite ?_ ?_)
   | (with_reducible refine LeO.bind ?_ (fun _ => ?_))
   | exact ih0 _ _ _ _
   | exact impl_IsAcl.mono _ _
   | exact LeO.none _
   | refine LeO.ite ?_ ?_
   | refine LeO.bind ?_ (fun _ => ?_)
theorem impl_FormatAcl.mono : ∀ a0 k, LeO (impl_FormatAcl.f k a0) (impl_FormatAcl.f (k + 1) a0) := by
 intro a0 k
 have ih0 := impl_FormatAcl.mono_l k
 unfold impl_FormatAcl.f
 repeat' first
  | (with_reducible exact ih0 _ _ _ _)
  | (with_reducible exact impl_IsAcl.mono _ _)
  | (with_reducible exact LeO.refl _)
  | (with_reducible exact LeO.none _)
  | (with_reducible refine LeO.ite ?_ ?_)
  | (with_reducible refine LeO.bind ?_ (fun _ => ?_))
  | exact ih0 _ _ _ _
  | exact impl_IsAcl.mono _ _
  | exact LeO.none _
  | refine LeO.ite ?_ ?_
  | refine LeO.bind ?_ (fun _ => ?_)
def impl_FormatAcl.T9 : Bool × List (List Nat × List Nat) := (true, [([], []), ([], []), ([1], [1]), ([2], [2]), ([], []), ([4], [4]), ([3, 5], [3, 5]), ([], []), ([7], [7]), ([8], [8]), ([6, 9], [6, 9]), ([10], [10]), ([], []), ([12], [12]), ([13, 9], [13]), ([11, 14], [11, 14]), ([15], [15]), ([0, 16, 14], [0, 16]), ([17, 17, 0, 1, 2, 3, 4, 5, 6, 7, 8, 9, 10, 11, 12, 13, 14, 15, 16, 17], [0, 17])])
def impl_FormatAcl.B9 : List Nat := [0, 0, 2, 6, 0, 16, 62, 0, 128, 384, 1022, 2046, 0, 4096, 13184, 32766, 65534, 131071, 262143]
theorem impl_FormatAcl.tab9 : rtab .any (opsOf Tryd.f11 9) = impl_FormatAcl.T9 := by kernel_rfl
theorem impl_FormatAcl.bits9 : waitsOk impl_FormatAcl.T9.2 impl_FormatAcl.B9 = true := by kernel_rfl
set_option maxHeartbeats 8000000 in
set_option maxRecDepth 100000 in
theorem impl_FormatAcl.calls (k : Nat) (A0 : Option Addr) (c0 : Nat) (l0 : List (S33)) (r : ByteArray) (w : World) (ht : Lib.Door w) (hr0 : Kd.C k33 w A0 l0.length l0) (hc0 : l0.length ≤ c0) (h : impl_FormatAcl.f k l0 = some r) :
 Calls Tryd.prog 11 #[.slice A0 l0.length c0] w fun e w' => e = .returned (.string r) ∧ Below w.heap.size w w' := by
 have hu33 := Tryd.underlying33
 have HR0 := Aside0.mk hr0
 have HC0 := Aside0.mk hc0
 clear hr0 hc0
 have HB := Aside0.mk (Below.refl w.heap.size w)
 have HT := Aside0.mk ht
 clear ht
 have H : ((impl_IsAcl.f k l0).bind fun t118 => (if t118 = true then (if (l0.length : Int) = 0 then (some (⟨#[45]⟩ : ByteArray)) else (impl_FormatAcl.l0 k (([] : List ByteArray)) l0 (l0.length : Int) 0)) else (some (⟨#[]⟩ : ByteArray)))) = some r := h
 clear h
 replace H := Option.bind_eq_some_iff.mp H
 obtain ⟨t118, A20, H⟩ := H
 try dsimp only at H
 have A2 := Aside0.mk A20
 clear A20
 by_cases c3 : t118 = true
 ·
  subst c3
  have H1 : (if (l0.length : Int) = 0 then (some (⟨#[45]⟩ : ByteArray)) else (impl_FormatAcl.l0 k (([] : List ByteArray)) l0 (l0.length : Int) 0)) = some r := by rw [if_pos rfl] at H; exact H
  clear H
  have H := H1
  clear H1
  by_cases c4 : (l0.length : Int) = 0
  ·
   rw [if_pos c4] at H
   have c4b0 : ((l0.length : Int) == 0) = true := beq_iff_eq.mpr c4
   have c4b1 : ((l0.length : Int) != 0) = false := bne_eq_false_iff_eq.mpr c4
   clear c4
   obtain rfl := Option.some.inj H
   go_enter Tryd.func11, Tryd.ntmps11
   go_wp2_with (first | ((with_reducible refine gate_callee (f := 14) rfl ?_); refine goesL_ (some 7) rfl rfl Tryd.func14 (by kernel_rfl) rfl #[.slice A0 l0.length c0] rfl (by (try simp only [List.map_toArray, List.map_cons, List.map_nil]); first | done | rfl | (simp only [List.length_drop, List.length_take]; rfl)) ?_; (with_reducible refine (impl_IsAcl.calls k _ _ l0 true _ ?side1 ?side2 A2.out).mono ?_); (case side1 => repeat (first | exact HR0.out | (with_reducible refine Kd.C_alloc ?_ _) | (with_reducible refine Kd.C_drewN ?_ _) | (with_reducible refine Kd.C_drew ?_))); (case side2 => exact HC0.out); rintro e w5 ⟨rfl, hb⟩; refine ⟨_, rfl, ?_⟩; have n0_ := Aside0.mk (below_step (by exact Lib.bw HB.out) hb); clear HB; have HB := n0_; clear n0_; (try clear hb); (try clear hb2); (try clear hk); (try clear hi)))
   go_ret
   exact ⟨by first | rfl | (simp [errW_none, errW_some] <;> rfl) | (simp [*, errW_none, errW_some] <;> rfl), by exact Lib.bw HB.out⟩
  ·
   rw [if_neg c4] at H
   have c4b0 : ((l0.length : Int) == 0) = false := beq_eq_false_iff_ne.mpr c4
   have c4b1 : ((l0.length : Int) != 0) = true := bne_iff_ne.mpr c4
   have c4b2 : ¬ (l0 = []) := fun h_ => c4 (by rw [h_]; rfl)
   obtain ⟨y119, hy119⟩ : ∃ y_ : List ByteArray, y_ = (([] : List ByteArray)) := ⟨_, rfl⟩
   replace H : (impl_FormatAcl.l0 k y119 l0 (l0.length : Int) 0) = some r := by first | (rw [hy119]; with_reducible exact H) | (have H2_ := (Option.bind_some _ _).symm.trans H; rw [hy119]; with_reducible exact H2_) | (have H2_ := (Option.bind_some _ _).symm.trans H; with_reducible exact H2_) | with_reducible exact H | (rw [hy119]; exact H) | exact H
   have Ny119 := Aside0.mk hy119
   clear hy119
   have H' := Aside0.mk H
   clear H
   go_enter Tryd.func11, Tryd.ntmps11
   go_wp2_with (first | ((with_reducible refine gate_callee (f := 14) rfl ?_); refine goesL_ (some 7) rfl rfl Tryd.func14 (by kernel_rfl) rfl #[.slice A0 l0.length c0] rfl (by (try simp only [List.map_toArray, List.map_cons, List.map_nil]); first | done | rfl | (simp only [List.length_drop, List.length_take]; rfl)) ?_; (with_reducible refine (impl_IsAcl.calls k _ _ l0 true _ ?side1 ?side2 A2.out).mono ?_); (case side1 => repeat (first | exact HR0.out | (with_reducible refine Kd.C_alloc ?_ _) | (with_reducible refine Kd.C_drewN ?_ _) | (with_reducible refine Kd.C_drew ?_))); (case side2 => exact HC0.out); rintro e w6 ⟨rfl, hb⟩; refine ⟨_, rfl, ?_⟩; have n0_ := Aside0.mk (below_step (by exact Lib.bw HB.out) hb); clear HB; have HB := n0_; clear n0_; (try clear hb); (try clear hb2); (try clear hk); (try clear hi)) | ((with_reducible refine gate_dst (N := 12) rfl ?_); refine Kd.R_lit Kd.string _ 9 ?hg (N := 12) ?hd (xs := ([] : List ByteArray)) (inner := []) (ok := fun _ => True) (okp := fun _ => True) ?hr ?hp (fun _ hk => hk) trivial (Below.refl _ _) (Nat.le_refl _) (by simp) ?_; (case hd => rfl); (case hg => rfl); (case hr => first | (go_simp; done) | (go_simp; rfl)); (case hp => exact (Reps.none _ _)); intro v120 w7 ho8 hb hg_ hnew_; clear hg_ hnew_; (first | rw [← Ny119.out] at ho8 | (simp only [Int.reduceToNat] at ho8; rw [← Ny119.out] at ho8)); have n0_ := Aside0.mk (Kd.R_lower ho8 (below_size (by exact Lib.bw HB.out))); have n1_ := Aside0.mk (below_step (by exact Lib.bw HB.out) hb); clear HB; have HO121 := n0_; have HB := n1_; clear n0_ n1_; clear hb ho8))
   go_loopg [3, 15] k (fun kq v3 v15 w' => ∃ (x3_1 : List ByteArray) (x15_1 : Int), v15 = .int .i64 x15_1 ∧ Aside0 (impl_FormatAcl.l0 kq x3_1 l0 (l0.length : Int) x15_1 = some r) ∧ Aside0 (kq ≤ k) ∧ Aside0 (Kd.R Kd.string 9 w' w.heap.size (fun _ => True) v3 x3_1) ∧ Aside0 (Below w.heap.size w w'))
   case atStart => exact ⟨(y119), (0), (by first | rfl | (simp; done) | (simp [*]; done)), H', ⟨Nat.le_refl _⟩, ⟨by exact Lib.cr HO121.out⟩, ⟨by exact Lib.bw HB.out⟩⟩
   case round =>
    clear H'
    try clear c1
    try clear p2
    try clear c3
    try clear c4
    try clear c4b0
    try clear c4b1
    try clear c4b2
    obtain ⟨x3_1, x15_1, rfl, HA, HK1, HO_3, HB⟩ := hrel
    cases gk with
    | zero => exact absurd HA.out (by simp [impl_FormatAcl.l0])
    | succ k1 =>
     have H := HA.out
     clear HA
     simp only [impl_FormatAcl.l0] at H
     by_cases c9 : x15_1 < (l0.length : Int)
     ·
      rw [if_pos c9] at H
      have c9b0 : decide (x15_1 < (l0.length : Int)) = true := decide_eq_true c9
      clear c9
      by_cases c10 : 0 ≤ x15_1
      ·
       rw [if_pos c10] at H
       have c10b0 : decide (0 ≤ x15_1) = true := decide_eq_true c10
       clear c10
       by_cases c11 : x15_1 < (l0.length : Int)
       ·
        rw [if_pos c11] at H
        have c11b0 : decide (x15_1 < (l0.length : Int)) = true := decide_eq_true c11
        clear c11
        obtain ⟨ji12, hji12⟩ : ∃ j_ : Int, (wrap64 (((rd_T33 l0 x15_1).f0) - 1)) = j_ := ⟨_, rfl⟩
        replace H : (if 0 ≤ (ji12) then (if (ji12) ≤ ((rd_T33 l0 x15_1).f0) then (if ((rd_T33 l0 x15_1).f0) ≤ 3 then ((impl_FormatInt.f ((rd_T33 l0 x15_1).f1)).bind fun t124 => (if ((⟨#[117, 103, 109]⟩ : ByteArray).extract ((ji12) : Int).toNat (((rd_T33 l0 x15_1).f0) : Int).toNat).size + t124.size ≤ 9223372036854775807 then (if (((⟨#[117, 103, 109]⟩ : ByteArray).extract ((ji12) : Int).toNat (((rd_T33 l0 x15_1).f0) : Int).toNat) ++ t124).size + 1 ≤ 9223372036854775807 then ((impl_FormatInt.f ((rd_T33 l0 x15_1).f2)).bind fun t125 => (if ((((⟨#[117, 103, 109]⟩ : ByteArray).extract ((ji12) : Int).toNat (((rd_T33 l0 x15_1).f0) : Int).toNat) ++ t124) ++ (⟨#[58]⟩ : ByteArray)).size + t125.size ≤ 9223372036854775807 then (if x3_1.length < 8796093022208 then (impl_FormatAcl.l0 k1 (x3_1 ++ [((((⟨#[117, 103, 109]⟩ : ByteArray).extract ((ji12) : Int).toNat (((rd_T33 l0 x15_1).f0) : Int).toNat) ++ t124) ++ (⟨#[58]⟩ : ByteArray)) ++ t125]) l0 (l0.length : Int) (wrap64 (x15_1 + 1))) else (none)) else (none))) else (none)) else (none))) else (none)) else (none)) else (none)) = some r := by first | (rw [hji12] at H; exact H) | (simp only [hji12] at H ⊢; exact H)
        have hji12w : (IntKind.i64.wrap (((rd_T33 l0 x15_1).f0) - 1)) = ji12 := (i64_w _).trans hji12
        by_cases c13 : 0 ≤ (ji12)
        ·
         rw [if_pos c13] at H
         have c13b0 := eq_true c13
         have c13b1 : decide (0 ≤ (ji12)) = true := decide_eq_true c13
         clear c13
         by_cases c14 : (ji12) ≤ ((rd_T33 l0 x15_1).f0)
         ·
          rw [if_pos c14] at H
          have c14b0 := eq_true c14
          have c14b1 : decide ((ji12) ≤ ((rd_T33 l0 x15_1).f0)) = true := decide_eq_true c14
          clear c14
          by_cases c15 : ((rd_T33 l0 x15_1).f0) ≤ 3
          ·
           rw [if_pos c15] at H
           have c15b0 := eq_true c15
           have c15b1 : decide (((rd_T33 l0 x15_1).f0) ≤ 3) = true := decide_eq_true c15
           clear c15
           replace H := Option.bind_eq_some_iff.mp H
           obtain ⟨t124, A160, H⟩ := H
           try dsimp only at H
           have A16 := Aside0.mk A160
           clear A160
           by_cases c17 : ((⟨#[117, 103, 109]⟩ : ByteArray).extract ((ji12) : Int).toNat (((rd_T33 l0 x15_1).f0) : Int).toNat).size + t124.size ≤ 9223372036854775807
           ·
            rw [if_pos c17] at H
            have c17b0 := eq_true c17
            have c17b1 : decide (((⟨#[117, 103, 109]⟩ : ByteArray).extract ((ji12) : Int).toNat (((rd_T33 l0 x15_1).f0) : Int).toNat).size + t124.size ≤ 9223372036854775807) = true := decide_eq_true c17
            try have c17b2 : (9223372036854775807 < ((⟨#[117, 103, 109]⟩ : ByteArray).extract ((ji12) : Int).toNat (((rd_T33 l0 x15_1).f0) : Int).toNat).size + t124.size) = False := eq_false (Nat.not_lt.2 c17)
            try have c17x1 : ((⟨#[117, 103, 109]⟩ : ByteArray).extract ((ji12) : Int).toNat (((rd_T33 l0 x15_1).f0) : Int).toNat).size = (((rd_T33 l0 x15_1).f0) : Int).toNat - ((ji12) : Int).toNat := by rw [ByteArray.size_extract, Nat.min_eq_left (by have h_ : (((rd_T33 l0 x15_1).f0) : Int).toNat ≤ 3 := (by first | omega | (have h2_ : (((rd_T33 l0 x15_1).f0) : Int) ≤ 3 := of_decide_eq_true (by assumption); omega)); exact h_)]
            try (have c17b5 := c17b2; simp only [ByteArray.size_append, c17x1, show (⟨#[117, 103, 109]⟩ : ByteArray).size = 3 from rfl] at c17b5)
            by_cases c18 : (((⟨#[117, 103, 109]⟩ : ByteArray).extract ((ji12) : Int).toNat (((rd_T33 l0 x15_1).f0) : Int).toNat) ++ t124).size + 1 ≤ 9223372036854775807
            ·
             rw [if_pos c18] at H
             have c18b0 := eq_true c18
             have c18b1 : decide ((((⟨#[117, 103, 109]⟩ : ByteArray).extract ((ji12) : Int).toNat (((rd_T33 l0 x15_1).f0) : Int).toNat) ++ t124).size + 1 ≤ 9223372036854775807) = true := decide_eq_true c18
             try have c18b2 : (9223372036854775807 < (((⟨#[117, 103, 109]⟩ : ByteArray).extract ((ji12) : Int).toNat (((rd_T33 l0 x15_1).f0) : Int).toNat) ++ t124).size + 1) = False := eq_false (Nat.not_lt.2 c18)
             try (have c18b4 := c18b2; simp only [ByteArray.size_append, show (⟨#[117, 103, 109]⟩ : ByteArray).size = 3 from rfl] at c18b4)
             try (have c18b3 := c18b2; simp only [ByteArray.size_append] at c18b3)
             try have c18x1 : ((⟨#[117, 103, 109]⟩ : ByteArray).extract ((ji12) : Int).toNat (((rd_T33 l0 x15_1).f0) : Int).toNat).size = (((rd_T33 l0 x15_1).f0) : Int).toNat - ((ji12) : Int).toNat := by rw [ByteArray.size_extract, Nat.min_eq_left (by have h_ : (((rd_T33 l0 x15_1).f0) : Int).toNat ≤ 3 := (by first | omega | (have h2_ : (((rd_T33 l0 x15_1).f0) : Int) ≤ 3 := of_decide_eq_true (by assumption); omega)); exact h_)]
             try (have c18b5 := c18b2; simp only [ByteArray.size_append, c18x1, show (⟨#[117, 103, 109]⟩ : ByteArray).size = 3 from rfl] at c18b5)
             replace H := Option.bind_eq_some_iff.mp H
             obtain ⟨t125, A190, H⟩ := H
             try dsimp only at H
             have A19 := Aside0.mk A190
             clear A190
             by_cases c20 : ((((⟨#[117, 103, 109]⟩ : ByteArray).extract ((ji12) : Int).toNat (((rd_T33 l0 x15_1).f0) : Int).toNat) ++ t124) ++ (⟨#[58]⟩ : ByteArray)).size + t125.size ≤ 9223372036854775807
             ·
              rw [if_pos c20] at H
              have c20b0 := eq_true c20
              have c20b1 : decide (((((⟨#[117, 103, 109]⟩ : ByteArray).extract ((ji12) : Int).toNat (((rd_T33 l0 x15_1).f0) : Int).toNat) ++ t124) ++ (⟨#[58]⟩ : ByteArray)).size + t125.size ≤ 9223372036854775807) = true := decide_eq_true c20
              try have c20b2 : (9223372036854775807 < ((((⟨#[117, 103, 109]⟩ : ByteArray).extract ((ji12) : Int).toNat (((rd_T33 l0 x15_1).f0) : Int).toNat) ++ t124) ++ (⟨#[58]⟩ : ByteArray)).size + t125.size) = False := eq_false (Nat.not_lt.2 c20)
              try (have c20b4 := c20b2; simp only [ByteArray.size_append, show (⟨#[117, 103, 109]⟩ : ByteArray).size = 3 from rfl, show (⟨#[58]⟩ : ByteArray).size = 1 from rfl] at c20b4)
              try (have c20b3 := c20b2; simp only [ByteArray.size_append] at c20b3)
              try have c20x1 : ((⟨#[117, 103, 109]⟩ : ByteArray).extract ((ji12) : Int).toNat (((rd_T33 l0 x15_1).f0) : Int).toNat).size = (((rd_T33 l0 x15_1).f0) : Int).toNat - ((ji12) : Int).toNat := by rw [ByteArray.size_extract, Nat.min_eq_left (by have h_ : (((rd_T33 l0 x15_1).f0) : Int).toNat ≤ 3 := (by first | omega | (have h2_ : (((rd_T33 l0 x15_1).f0) : Int) ≤ 3 := of_decide_eq_true (by assumption); omega)); exact h_)]
              try (have c20b5 := c20b2; simp only [ByteArray.size_append, c20x1, show (⟨#[117, 103, 109]⟩ : ByteArray).size = 3 from rfl, show (⟨#[58]⟩ : ByteArray).size = 1 from rfl] at c20b5)
              by_cases c21 : x3_1.length < 8796093022208
              ·
               rw [if_pos c21] at H
               have LMc21 := Aside0.mk c21
               clear c21
               obtain ⟨y126, hy126⟩ : ∃ y_ : List ByteArray, y_ = (x3_1 ++ [((((⟨#[117, 103, 109]⟩ : ByteArray).extract ((ji12) : Int).toNat (((rd_T33 l0 x15_1).f0) : Int).toNat) ++ t124) ++ (⟨#[58]⟩ : ByteArray)) ++ t125]) := ⟨_, rfl⟩
               replace H : (impl_FormatAcl.l0 k1 y126 l0 (l0.length : Int) (wrap64 (x15_1 + 1))) = some r := by first | (rw [hy126]; with_reducible exact H) | (have H2_ := (Option.bind_some _ _).symm.trans H; rw [hy126]; with_reducible exact H2_) | (have H2_ := (Option.bind_some _ _).symm.trans H; with_reducible exact H2_) | with_reducible exact H | (rw [hy126]; exact H) | exact H
               have Ny126 := Aside0.mk hy126
               clear hy126
               have H' := Aside0.mk H
               clear H
               have p122 : 0 ≤ (x15_1 : Int) := Lib.od
               have q122 : x15_1 < (l0.length : Int) := Lib.od
               obtain ⟨ad122, e122, hx122_0, hx122_1, hx122_2⟩ := at_T33 HR0.out x15_1 p122 q122
               cases e122
               replace hx122_0 := (HB.out.cell (World.block_lt_of_cell? w _ hx122_0)).trans hx122_0
               replace hx122_1 := (HB.out.cell (World.block_lt_of_cell? w _ hx122_1)).trans hx122_1
               replace hx122_2 := (HB.out.cell (World.block_lt_of_cell? w _ hx122_2)).trans hx122_2
               replace p122 := eq_true p122
               replace q122 := eq_true q122
               try go_wp2_with (first | ((with_reducible refine gate_dst (N := 5) rfl ?_); refine box_event ?hg (N := 5) ?hd (cs := #[.int .i64 0, .int .i64 0, .int .i64 0]) (t := 33) ?hr ?_; (case hd => rfl); (case hg => rfl); (case hr => first | (go_simp; done) | (go_simp; rfl)); intro gb123 hg w22 hbox hb; have n0_ := Aside0.mk (Kd.R_below (by exact Lib.cr HO_3.out) hb); have n1_ := Aside0.mk (below_step (by exact Lib.bw HB.out) hb); have n2_ := Aside0.mk (hbox); have n3_ := Aside0.mk ((by rw [hg]; exact (below_size (by exact Lib.bw HB.out)) : w.heap.size ≤ gb123)); have n4_ := Aside0.mk ((by rw [hg]; exact (below_size (by exact Lib.bw HB.out)) : w.heap.size ≤ gb123)); clear HO_3; clear HB; have HO_3 := n0_; have HB := n1_; have BK123 := n2_; have GW123 := n3_; have GE123 := n4_; clear n0_ n1_ n2_ n3_ n4_; clear hb hbox hg; obtain ⟨hcz23_0, hcz23_1, hcz23_2, hfz23_0, hfz23_1, hfz23_2⟩ := Lib.cel3 (W := w22) BK123.out))
               have n0_ : Aside0 (Kd.R Kd.string 9 (((w22.setCell ⟨gb123, 0, none⟩ (.int .i64 ((rd_T33 l0 x15_1).f0))).setCell ⟨gb123, 1, none⟩ (.int .i64 ((rd_T33 l0 x15_1).f1))).setCell ⟨gb123, 2, none⟩ (.int .i64 ((rd_T33 l0 x15_1).f2))) w.heap.size (fun _ => True) u3 x3_1) := ⟨by (with_reducible repeat (first | apply Kd.R_alloc | apply Kd.R_drewN | apply Kd.R_drew)); exact Kd.R_mono (Kd.R_far (p := ⟨gb123, 2, none⟩) (Kd.R_far (p := ⟨gb123, 1, none⟩) (Kd.R_far (p := ⟨gb123, 0, none⟩) (Kd.R_types HO_3.out BK123.out (by decide)) (fun _ hk => hk.2) (.int .i64 ((rd_T33 l0 x15_1).f0))) (fun _ hk => hk.2) (.int .i64 ((rd_T33 l0 x15_1).f1))) (fun _ hk => hk.2) (.int .i64 ((rd_T33 l0 x15_1).f2))) (fun _ hk => trivial)⟩
               have n1_ : Aside0 ((((w22.setCell ⟨gb123, 0, none⟩ (.int .i64 ((rd_T33 l0 x15_1).f0))).setCell ⟨gb123, 1, none⟩ (.int .i64 ((rd_T33 l0 x15_1).f1))).setCell ⟨gb123, 2, none⟩ (.int .i64 ((rd_T33 l0 x15_1).f2))).heap[gb123]? = some (.cells #[.int .i64 ((rd_T33 l0 x15_1).f0), .int .i64 ((rd_T33 l0 x15_1).f1), .int .i64 ((rd_T33 l0 x15_1).f2)] 33 (0, 0))) := ⟨by (with_reducible repeat (first | refine blk_drewN ?_ _ | refine blk_drew ?_ | refine blk_alloc ?_ _)); refine blk_put (cs := #[.int .i64 ((rd_T33 l0 x15_1).f0), .int .i64 ((rd_T33 l0 x15_1).f1), .int .i64 0]) ?_ 2 _ rfl; (with_reducible repeat (first | refine blk_drewN ?_ _ | refine blk_drew ?_ | refine blk_alloc ?_ _)); refine blk_put (cs := #[.int .i64 ((rd_T33 l0 x15_1).f0), .int .i64 0, .int .i64 0]) ?_ 1 _ rfl; (with_reducible repeat (first | refine blk_drewN ?_ _ | refine blk_drew ?_ | refine blk_alloc ?_ _)); refine blk_put (cs := #[.int .i64 0, .int .i64 0, .int .i64 0]) ?_ 0 _ rfl; (with_reducible repeat (first | refine blk_drewN ?_ _ | refine blk_drew ?_ | refine blk_alloc ?_ _)); exact BK123.out⟩
               have n2_ : Aside0 (Below w.heap.size w (((w22.setCell ⟨gb123, 0, none⟩ (.int .i64 ((rd_T33 l0 x15_1).f0))).setCell ⟨gb123, 1, none⟩ (.int .i64 ((rd_T33 l0 x15_1).f1))).setCell ⟨gb123, 2, none⟩ (.int .i64 ((rd_T33 l0 x15_1).f2)))) := ⟨by exact Lib.bs HB.out GE123.out⟩
               (try clear HO_3)
               (try clear BK123)
               (try clear HB)
               generalize (((w22.setCell ⟨gb123, 0, none⟩ (.int .i64 ((rd_T33 l0 x15_1).f0))).setCell ⟨gb123, 1, none⟩ (.int .i64 ((rd_T33 l0 x15_1).f1))).setCell ⟨gb123, 2, none⟩ (.int .i64 ((rd_T33 l0 x15_1).f2))) = w24 at n0_ n1_ n2_ ⊢
               have HO_3 := n0_
               have BK123 := n1_
               have HB := n2_
               clear n0_ n1_ n2_
               have n0_ := Aside0.mk (Kd.R_drew HO_3.out)
               have n1_ := Aside0.mk (blk_drew BK123.out)
               have n2_ := Aside0.mk (below_drew1 HB.out)
               clear HO_3
               clear BK123
               clear HB
               have HO_3 := n0_
               have BK123 := n1_
               have HB := n2_
               clear n0_ n1_ n2_
               refine start_ (n := 19) (S := fun w' => w'.cell? ⟨gb123, 0, none⟩ = some (.int .i64 ((rd_T33 l0 x15_1).f0)) ∧ w'.cell? ⟨gb123, 1, none⟩ = some (.int .i64 ((rd_T33 l0 x15_1).f1)) ∧ w'.cell? ⟨gb123, 2, none⟩ = some (.int .i64 ((rd_T33 l0 x15_1).f2))) (ds := []) (Lib.tr [0, 19]) (by kernel_rfl) rfl rfl ⟨(blk_cell BK123.out 0).trans rfl, (blk_cell BK123.out 1).trans rfl, (blk_cell BK123.out 2).trans rfl⟩ (fun hHeld => ?_); refine with_tabW impl_FormatAcl.tab9 impl_FormatAcl.bits9 (fun HT_ HW_ => ?_)
               generalize w24.drew = w25 at HO_3 BK123 HB hHeld ⊢
               refine Lib.pa ?_ 0 19 [1, 18] HT_ rfl rfl (by kernel_rfl) (fun _ _ _ h => h) (by rfl) ?_ ?_ ?_ ?_; rotate_left; (· intro w'; go_simp; with_reducible rfl); rotate_left; (· simp only [Lib.pw, Lib.px, Lib.py, i64_w, i32_w]; rfl)
               refine Lib.pa ?_ 1 20 [2, 17] HT_ rfl rfl (by kernel_rfl) (fun _ _ _ h => h) (by rfl) ?_ ?_ ?_ ?_; rotate_left; (· intro w'; go_simp; with_reducible rfl); rotate_left; (· simp only [Lib.pw, Lib.px, Lib.py, i64_w, i32_w]; rfl)
               refine Lib.pa ?_ 4 23 [2, 2, 1, 14] HT_ rfl rfl (by kernel_rfl) (fun _ _ _ h => h) (by rfl) ?_ ?_ ?_ ?_; rotate_left; (· intro w'; go_simp; with_reducible rfl); rotate_left; (· simp only [Lib.pw, Lib.px, Lib.py, i64_w, i32_w]; rfl)
               refine Lib.pa ?_ 7 26 [2, 2, 1, 2, 1, 11] HT_ rfl rfl (by kernel_rfl) (fun _ _ _ h => h) (by rfl) ?_ ?_ ?_ ?_; rotate_left; (· intro w'; go_simp; with_reducible rfl); rotate_left; (· simp only [Lib.pw, Lib.px, Lib.py, i64_w, i32_w]; rfl)
               refine Lib.pa ?_ 12 31 [2, 2, 1, 2, 1, 4, 1, 6] HT_ rfl rfl (by kernel_rfl) (fun _ _ _ h => h) (by rfl) ?_ ?_ ?_ ?_; rotate_left; (· intro w'; go_simp; with_reducible rfl); rotate_left; (· simp only [Lib.pw, Lib.px, Lib.py, i64_w, i32_w]; rfl)
               refine Lib.pt ?_ 2 21 [3, 1, 1, 2, 1, 4, 1, 6] HT_ HW_ rfl rfl (by kernel_rfl) (fun _ _ _ h => h) (by rfl) ?_ hHeld ?_ ?_ ?_; rotate_left; (· rintro w' ⟨s0, s1, s2⟩; go_simp; with_reducible rfl); rotate_left; (· simp only [Lib.pw, Lib.px, Lib.py, i64_w, i32_w]; rfl)
               refine Lib.pa ?_ 3 22 [5, 2, 1, 4, 1, 6] HT_ rfl rfl (by kernel_rfl) (fun _ _ _ h => h) (by rfl) ?_ ?_ ?_ ?_; rotate_left; (· intro w'; go_simp; with_reducible rfl); rotate_left; (· simp only [Lib.pw, Lib.px, Lib.py, i64_w, i32_w]; rfl)
               refine Lib.pt ?_ 5 24 [6, 1, 1, 4, 1, 6] HT_ HW_ rfl rfl (by kernel_rfl) (fun _ _ _ h => h) (by rfl) ?_ hHeld ?_ ?_ ?_; rotate_left; (· rintro w' ⟨s0, s1, s2⟩; go_simp; with_reducible rfl); rotate_left; (· simp only [Lib.pw, Lib.px, Lib.py, i64_w, i32_w]; rfl)
               refine Lib.pa ?_ 6 25 [8, 4, 1, 6] HT_ rfl rfl (by kernel_rfl) (fun _ _ _ h => h) (by rfl) ?_ ?_ ?_ ?_; rotate_left; (· intro w'; go_simp; with_reducible rfl); rotate_left; (· simp only [Lib.pw, Lib.px, Lib.py, i64_w, i32_w]; rfl)
               refine Lib.pt ?_ 8 27 [9, 3, 1, 6] HT_ HW_ rfl rfl (by kernel_rfl) (fun _ _ _ h => h) (by rfl) ?_ hHeld ?_ ?_ ?_; rotate_left; (· rintro w' ⟨s0, s1, s2⟩; go_simp; with_reducible rfl); rotate_left; (· simp only [Lib.pw, Lib.px, Lib.py, i64_w, i32_w]; rfl)
               refine Lib.pt ?_ 13 32 [9, 3, 2, 5] HT_ HW_ rfl rfl (by kernel_rfl) (fun _ _ _ h => h) (by rfl) ?_ hHeld ?_ ?_ ?_; rotate_left; (· rintro w' ⟨s0, s1, s2⟩; go_simp; with_reducible rfl); rotate_left; (· simp only [Lib.pw, Lib.px, Lib.py, i64_w, i32_w]; rfl)
               refine one_ (i := 9) (N := some 28) (Lib.tr [10, 2, 2, 5]) rfl rfl (one_of HT_.out (by kernel_rfl)) (by decide) (fun K hK => ?_)
               refine goes_ Tryd.func25 (by kernel_rfl) rfl #[.int .i64 ((rd_T33 l0 x15_1).f1)] (by rfl) rfl rfl (by (try simp only [List.map_toArray, List.map_cons, List.map_nil]); first | done | rfl | (simp only [List.length_drop, List.length_take]; rfl)) ?_
               with_reducible refine (impl_FormatInt.calls ((rd_T33 l0 x15_1).f1) t124 _ ?side1 A16.out).mono ?_
               (case side1 => exact Lib.doorB HT.out (by exact Lib.bs HB.out GE123.out))
               rintro e w26 ⟨rfl, hb⟩
               refine ⟨_, rfl, ?_⟩
               have n0_ := Aside0.mk (Kd.R_below (by exact Lib.cr HO_3.out) hb)
               have n1_ := Aside0.mk (blk_below (g := gb123) (o := .cells #[.int .i64 ((rd_T33 l0 x15_1).f0), .int .i64 ((rd_T33 l0 x15_1).f1), .int .i64 ((rd_T33 l0 x15_1).f2)] 33 (0, 0)) (by exact Lib.bk BK123.out) hb)
               have n2_ := Aside0.mk (below_step (by exact Lib.bs HB.out GE123.out) hb)
               clear HO_3
               clear BK123
               clear HB
               have HO_3 := n0_
               have BK123 := n1_
               have HB := n2_
               clear n0_ n1_ n2_
               (try clear hb)
               (try clear hb2)
               (try clear hk)
               (try clear hi)
               refine hK.out _ _ ⟨(blk_cell BK123.out 0).trans rfl, (blk_cell BK123.out 1).trans rfl, (blk_cell BK123.out 2).trans rfl⟩ (fun hHeld => ?_)
               clear hK K
               refine norm_ (a' := ?_) ?_ ?_
               rotate_left
               ·
                show Act.put _ (some 28) _ = _
                simp only [Lib.pw, Lib.px, Lib.py, i64_w, i32_w]
                rfl
               refine Lib.pa ?_ 10 29 [11, 1, 2, 5] HT_ rfl rfl (by kernel_rfl) (fun _ _ _ h => h) (by rfl) ?_ ?_ ?_ ?_; rotate_left; (· intro w'; go_simp; with_reducible rfl); rotate_left; (· simp only [Lib.pw, Lib.px, Lib.py, i64_w, i32_w]; rfl)
               refine Lib.pa ?_ 11 30 [14, 5] HT_ rfl rfl (by kernel_rfl) (fun _ _ _ h => h) (by rfl) ?_ ?_ ?_ ?_; rotate_left; (· intro w'; go_simp; with_reducible rfl); rotate_left; (· simp only [Lib.pw, Lib.px, Lib.py, i64_w, i32_w]; rfl)
               refine one_ (i := 14) (N := some 33) (Lib.tr [15, 4]) rfl rfl (one_of HT_.out (by kernel_rfl)) (by decide) (fun K hK => ?_)
               refine goes_ Tryd.func25 (by kernel_rfl) rfl #[.int .i64 ((rd_T33 l0 x15_1).f2)] (by rfl) rfl rfl (by (try simp only [List.map_toArray, List.map_cons, List.map_nil]); first | done | rfl | (simp only [List.length_drop, List.length_take]; rfl)) ?_
               with_reducible refine (impl_FormatInt.calls ((rd_T33 l0 x15_1).f2) t125 _ ?side1 A19.out).mono ?_
               (case side1 => exact Lib.doorB HT.out (by exact Lib.bs HB.out GE123.out))
               rintro e w27 ⟨rfl, hb⟩
               refine ⟨_, rfl, ?_⟩
               have n0_ := Aside0.mk (Kd.R_below (by exact Lib.cr HO_3.out) hb)
               have n1_ := Aside0.mk (blk_below (g := gb123) (o := .cells #[.int .i64 ((rd_T33 l0 x15_1).f0), .int .i64 ((rd_T33 l0 x15_1).f1), .int .i64 ((rd_T33 l0 x15_1).f2)] 33 (0, 0)) (by exact Lib.bk BK123.out) hb)
               have n2_ := Aside0.mk (below_step (by exact Lib.bs HB.out GE123.out) hb)
               clear HO_3
               clear BK123
               clear HB
               have HO_3 := n0_
               have BK123 := n1_
               have HB := n2_
               clear n0_ n1_ n2_
               (try clear hb)
               (try clear hb2)
               (try clear hk)
               (try clear hi)
               refine hK.out _ _ ⟨(blk_cell BK123.out 0).trans rfl, (blk_cell BK123.out 1).trans rfl, (blk_cell BK123.out 2).trans rfl⟩ (fun hHeld => ?_)
               clear hK K
               refine norm_ (a' := ?_) ?_ ?_
               rotate_left
               ·
                show Act.put _ (some 33) _ = _
                simp only [Lib.pw, Lib.px, Lib.py, i64_w, i32_w]
                rfl
               refine Lib.pa ?_ 15 34 [16, 3] HT_ rfl rfl (by kernel_rfl) (fun _ _ _ h => h) (by rfl) ?_ ?_ ?_ ?_; rotate_left; (· intro w'; go_simp; with_reducible rfl); rotate_left; (· simp only [Lib.pw, Lib.px, Lib.py, i64_w, i32_w]; rfl)
               refine one_ (i := 16) (N := some 35) (Lib.tr [17, 2]) rfl rfl (one_of HT_.out (by kernel_rfl)) (by decide) (fun K hK => ?_)
               refine value_ (w1 := ?_) (v := ?_) (by rfl) rfl ?_ ?_
               rotate_left 2
               ·
                go_simp
                constructor
                ·
                 rfl
                ·
                 rfl
               refine hK.out _ _ ⟨(blk_cell (blk_alloc BK123.out _) 0).trans rfl, (blk_cell (blk_alloc BK123.out _) 1).trans rfl, (blk_cell (blk_alloc BK123.out _) 2).trans rfl⟩ (fun hHeld => ?_)
               clear hK K
               refine norm_ (a' := ?_) ?_ ?_
               rotate_left
               ·
                show Act.put _ (some 35) _ = _
                simp only [Lib.pw, Lib.px, Lib.py, i64_w, i32_w]
                rfl
               refine one_ (i := 17) (N := some 36) (Lib.tr [18, 1]) rfl rfl (one_of HT_.out (by kernel_rfl)) (by decide) (fun K hK => ?_)
               refine Kd.R_append_step Kd.string (w0 := w) w.heap.size (by rfl) (.tmp 19) (.tmp 35) 38 9 (.string ⟨#[]⟩) 16 rfl Tryd.underlying38 info9 rfl (by decide) (by omega) u3 x3_1 (((((⟨#[117, 103, 109]⟩ : ByteArray).extract ((ji12) : Int).toNat (((rd_T33 l0 x15_1).f0) : Int).toNat) ++ t124) ++ (⟨#[58]⟩ : ByteArray)) ++ t125) [.string (((((⟨#[117, 103, 109]⟩ : ByteArray).extract ((ji12) : Int).toNat (((rd_T33 l0 x15_1).f0) : Int).toNat) ++ t124) ++ (⟨#[58]⟩ : ByteArray)) ++ t125)] (fun _ => True) (fun _ => False) rfl rfl ?aP (fun _ hk => hk.elim) ?aF ?aO ?aB ?aS ?aL ?_
               (case aP => exact rfl)
               (case aB => exact (by exact Lib.bs HB.out GE123.out))
               (case aF => exact (fun _ _ => trivial))
               (case aO => exact (by exact Lib.cr HO_3.out))
               (case aS => exact (below_size (by exact Lib.bs HB.out GE123.out)))
               (case aL => have := LMc21.out; omega)
               intro v127 w28 ho hb hg hat
               rw [← Ny126.out] at ho
               have n0_ := Aside0.mk (blk_grown (g := gb123) (o := .cells #[.int .i64 ((rd_T33 l0 x15_1).f0), .int .i64 ((rd_T33 l0 x15_1).f1), .int .i64 ((rd_T33 l0 x15_1).f2)] 33 (0, 0)) (by exact Lib.bk BK123.out) hg (Kd.R_ne HO_3.out BK123.out (by decide)))
               have n1_ := Aside0.mk (hb)
               have n2_ := Aside0.mk (ho)
               clear BK123
               clear HB
               clear HO_3
               have BK123 := n0_
               have HB := n1_
               have HO128 := n2_
               clear n0_ n1_ n2_
               clear ho hb hg hat
               refine hK.out _ _ ⟨(blk_cell BK123.out 0).trans rfl, (blk_cell BK123.out 1).trans rfl, (blk_cell BK123.out 2).trans rfl⟩ (fun hHeld => ?_)
               clear hK K
               refine norm_ (a' := ?_) ?_ ?_
               rotate_left
               ·
                show Act.put _ (some 36) _ = _
                simp only [Lib.pw, Lib.px, Lib.py, i64_w, i32_w]
                rfl
               refine Lib.pa ?_ 18 3 [19] HT_ rfl rfl (by kernel_rfl) (fun _ _ _ h => h) (by rfl) ?_ ?_ ?_ ?_; rotate_left; (· intro w'; go_simp; with_reducible rfl); rotate_left; (· simp only [Lib.pw, Lib.px, Lib.py, i64_w, i32_w]; rfl)
               refine done_ (done_of HT_.out (by kernel_rfl)) ?_
               try go_wp2
               go_roundg k1
               case measure => have := HK1.out; omega
               case rel => exact ⟨(y126), (wrap64 (x15_1 + 1)), (by first | rfl | (simp; done) | (simp [*]; done)), H', ⟨by have := HK1.out; omega⟩, ⟨by exact Lib.cr HO128.out⟩, ⟨by exact Lib.bs HB.out GE123.out⟩⟩
              ·
               rw [if_neg c21] at H
               exact absurd H (by simp)
             ·
              rw [if_neg c20] at H
              exact absurd H (by simp)
            ·
             rw [if_neg c18] at H
             exact absurd H (by simp)
           ·
            rw [if_neg c17] at H
            exact absurd H (by simp)
          ·
           rw [if_neg c15] at H
           exact absurd H (by simp)
         ·
          rw [if_neg c14] at H
          exact absurd H (by simp)
        ·
         rw [if_neg c13] at H
         exact absurd H (by simp)
       ·
        rw [if_neg c11] at H
        exact absurd H (by simp)
      ·
       rw [if_neg c10] at H
       exact absurd H (by simp)
     ·
      rw [if_neg c9] at H
      have c9b0 : decide (x15_1 < (l0.length : Int)) = false := decide_eq_false c9
      clear c9
      replace H := Option.bind_eq_some_iff.mp H
      obtain ⟨t129, A290, H⟩ := H
      replace H : (some t129) = some r := H
      have A29 := Aside0.mk A290
      clear A290
      obtain rfl := Option.some.inj H
      obtain ⟨Ao30, co30, eo30⟩ := Kd.R_slice HO_3.out
      subst eo30
      go_wp2_with (first | ((with_reducible refine gate_callee (f := 26) rfl ?_); refine goesL_ (some 39) rfl rfl Tryd.func26 (by kernel_rfl) rfl #[.slice Ao30 x3_1.length co30, .string (⟨#[44]⟩ : ByteArray)] rfl (by (try simp only [List.map_toArray, List.map_cons, List.map_nil]); first | done | rfl | (simp only [List.length_drop, List.length_take]; rfl)) ?_; (with_reducible refine (impl_Join.calls _ _ x3_1 (⟨#[44]⟩ : ByteArray) t129 _ ?side1 ?side2 A29.out).mono ?_); (case side1 => repeat (first | exact (Kd.R_reads' HO_3.out).2.2 | (with_reducible refine Kd.C_alloc ?_ _) | (with_reducible refine Kd.C_drewN ?_ _) | (with_reducible refine Kd.C_drew ?_))); (case side2 => exact (Kd.R_reads' HO_3.out).2.1); rintro e w31 ⟨rfl, hb⟩; refine ⟨_, rfl, ?_⟩; have n0_ := Aside0.mk (Kd.R_below (by exact Lib.cr HO_3.out) hb); have n1_ := Aside0.mk (below_step (by exact Lib.bw HB.out) hb); clear HO_3; clear HB; have HO_3 := n0_; have HB := n1_; clear n0_ n1_; (try clear hb); (try clear hb2); (try clear hk); (try clear hi)))
      go_ret
      exact ⟨by first | rfl | (simp [errW_none, errW_some] <;> rfl) | (simp [*, errW_none, errW_some] <;> rfl), by exact Lib.bw HB.out⟩
 ·
  replace c3 := Bool.eq_false_iff.mpr c3
  subst c3
  have H1 : (some (⟨#[]⟩ : ByteArray)) = some r := by rw [if_neg (show ¬ (false = true) by decide)] at H; exact H
  clear H
  have H := H1
  clear H1
  obtain rfl := Option.some.inj H
  go_enter Tryd.func11, Tryd.ntmps11
  go_wp2_with (first | ((with_reducible refine gate_callee (f := 14) rfl ?_); refine goesL_ (some 7) rfl rfl Tryd.func14 (by kernel_rfl) rfl #[.slice A0 l0.length c0] rfl (by (try simp only [List.map_toArray, List.map_cons, List.map_nil]); first | done | rfl | (simp only [List.length_drop, List.length_take]; rfl)) ?_; (with_reducible refine (impl_IsAcl.calls k _ _ l0 false _ ?side1 ?side2 A2.out).mono ?_); (case side1 => repeat (first | exact HR0.out | (with_reducible refine Kd.C_alloc ?_ _) | (with_reducible refine Kd.C_drewN ?_ _) | (with_reducible refine Kd.C_drew ?_))); (case side2 => exact HC0.out); rintro e w32 ⟨rfl, hb⟩; refine ⟨_, rfl, ?_⟩; have n0_ := Aside0.mk (below_step (by exact Lib.bw HB.out) hb); clear HB; have HB := n0_; clear n0_; (try clear hb); (try clear hb2); (try clear hk); (try clear hi)))
  go_ret
  exact ⟨by first | rfl | (simp [errW_none, errW_some] <;> rfl) | (simp [*, errW_none, errW_some] <;> rfl), by exact Lib.bw HB.out⟩

/-! ### strings_IndexByte: function 21 -/
def strings_IndexByte.f (a0 : ByteArray) (a1 : Int) : Option (Int) := some (Go.Lib.indexByte a0.data.toList a1.toNat.toUInt8)
theorem strings_IndexByte.calls (a0 : ByteArray) (a1 : Int) (r : Int) (w : World) (h : strings_IndexByte.f a0 a1 = some r) :
 Calls Tryd.prog 21 #[.string a0, .int .u8 a1] w fun e w' => e = .returned (.int .i64 r) ∧ Drawn0 w w' := by
 obtain rfl := Option.some.inj h
 refine (Tryd.strings_IndexByte a0 a1 w).mono ?_
 rintro e w' ⟨rfl, rfl⟩
 exact ⟨rfl, Drawn0.refl _⟩

/-! ### impl_SplitAny: function 20 -/
def impl_SplitAny.l0 : Nat → ByteArray → ByteArray → List ByteArray → Int → Int → Int → Option (List ByteArray)
 | 0, _, _, _, _, _, _ => none
 | k + 1, x0, x1, x5, x6, x10, x11 => if x11 < x10 then (if 0 ≤ x11 then (if x11 < (x0.size : Int) then ((strings_IndexByte.f x1 (bt x0 x11)).bind fun t133 => (if t133 ≥ 0 then (if 0 ≤ x6 then (if x6 ≤ x11 then (if x11 ≤ (x0.size : Int) then (if x5.length < 8796093022208 then (impl_SplitAny.l0 k x0 x1 (x5 ++ [x0.extract (x6 : Int).toNat (x11 : Int).toNat]) (wrap64 (x11 + 1)) x10 (wrap64 (x11 + 1))) else (none)) else (none)) else (none)) else (none)) else (impl_SplitAny.l0 k x0 x1 x5 x6 x10 (wrap64 (x11 + 1))))) else (none)) else (none)) else (if 0 ≤ x6 then (if x6 ≤ (x0.size : Int) then (if x5.length < 8796093022208 then (some (x5 ++ [x0.extract (x6 : Int).toNat x0.size])) else (none)) else (none)) else (none))
def impl_SplitAny.f (k : Nat) (a0 : ByteArray) (a1 : ByteArray) : Option (List ByteArray) := impl_SplitAny.l0 k a0 a1 (([] : List ByteArray)) 0 (a0.size : Int) 0
theorem impl_SplitAny.mono_l : ∀ k, (∀ y0 y1 y2 y3 y4 y5, LeO (impl_SplitAny.l0 k y0 y1 y2 y3 y4 y5) (impl_SplitAny.l0 (k + 1) y0 y1 y2 y3 y4 y5))
 | 0 => fun _ _ _ _ _ _ r h => by simp [impl_SplitAny.l0] at h
 | k + 1 => by
  have ih0 := impl_SplitAny.mono_l k
  ·
   intro y0 y1 y2 y3 y4 y5
   unfold impl_SplitAny.l0
   repeat' first
   | (with_reducible exact ih0 _ _ _ _ _ _)
   | (with_reducible exact LeO.refl _)
   | (with_reducible exact LeO.none _)
   | (with_reducible refine LeO.ite ?_ ?_)
   | (with_reducible refine LeO.bind ?_ (fun _ => ?_))
   | exact ih0 _ _ _ _ _ _
   | exact LeO.none _
   | refine LeO.ite ?_ ?_
   | refine LeO.bind ?_ (fun _ => ?_)
theorem impl_SplitAny.mono : ∀ a0 a1 k, LeO (impl_SplitAny.f k a0 a1) (impl_SplitAny.f (k + 1) a0 a1) := by
 intro a0 a1 k
 have ih0 := impl_SplitAny.mono_l k
 unfold impl_SplitAny.f
 repeat' first
  | (with_reducible exact ih0 _ _ _ _ _ _)
  | (with_reducible exact LeO.refl _)
  | (with_reducible exact LeO.none _)
  | (with_reducible refine LeO.ite ?_ ?_)
  | (with_reducible refine LeO.bind ?_ (fun _ => ?_))
  | exact ih0 _ _ _ _ _ _
  | exact LeO.none _
  | refine LeO.ite ?_ ?_
  | refine LeO.bind ?_ (fun _ => ?_)
set_option maxHeartbeats 8000000 in
set_option maxRecDepth 100000 in
theorem impl_SplitAny.calls (k : Nat) (a0 : ByteArray) (a1 : ByteArray) (r : List ByteArray) (w : World) (h : impl_SplitAny.f k a0 a1 = some r) :
 Calls Tryd.prog 20 #[.string a0, .string a1] w fun e w' => ∃ v0_ : Value, e = .returned (v0_) ∧ Kd.R Kd.string 9 w' w.heap.size (fun _ => True) v0_ r ∧ Below w.heap.size w w' := by
 have HB := Aside0.mk (Below.refl w.heap.size w)
 have H : (impl_SplitAny.l0 k a0 a1 (([] : List ByteArray)) 0 (a0.size : Int) 0) = some r := h
 clear h
 obtain ⟨y130, hy130⟩ : ∃ y_ : List ByteArray, y_ = (([] : List ByteArray)) := ⟨_, rfl⟩
 replace H : (impl_SplitAny.l0 k a0 a1 y130 0 (a0.size : Int) 0) = some r := by first | (rw [hy130]; with_reducible exact H) | (have H2_ := (Option.bind_some _ _).symm.trans H; rw [hy130]; with_reducible exact H2_) | (have H2_ := (Option.bind_some _ _).symm.trans H; with_reducible exact H2_) | with_reducible exact H | (rw [hy130]; exact H) | exact H
 have Ny130 := Aside0.mk hy130
 clear hy130
 have H' := Aside0.mk H
 clear H
 go_enter Tryd.func20, Tryd.ntmps20
 go_wp2_with (first | ((with_reducible refine gate_dst (N := 8) rfl ?_); refine Kd.R_lit Kd.string _ 9 ?hg (N := 8) ?hd (xs := ([] : List ByteArray)) (inner := []) (ok := fun _ => True) (okp := fun _ => True) ?hr ?hp (fun _ hk => hk) trivial (Below.refl _ _) (Nat.le_refl _) (by simp) ?_; (case hd => rfl); (case hg => rfl); (case hr => first | (go_simp; done) | (go_simp; rfl)); (case hp => exact (Reps.none _ _)); intro v131 w3 ho4 hb hg_ hnew_; clear hg_ hnew_; (first | rw [← Ny130.out] at ho4 | (simp only [Int.reduceToNat] at ho4; rw [← Ny130.out] at ho4)); have n0_ := Aside0.mk (Kd.R_lower ho4 (below_size (by exact Lib.bw HB.out))); have n1_ := Aside0.mk (below_step (by exact Lib.bw HB.out) hb); clear HB; have HO132 := n0_; have HB := n1_; clear n0_ n1_; clear hb ho4))
 go_loopg [5, 6, 11] k (fun kq v5 v6 v11 w' => ∃ (x5_1 : List ByteArray) (x6_1 : Int) (x11_1 : Int), v6 = .int .i64 x6_1 ∧ v11 = .int .i64 x11_1 ∧ Aside0 (impl_SplitAny.l0 kq a0 a1 x5_1 x6_1 (a0.size : Int) x11_1 = some r) ∧ Aside0 (kq ≤ k) ∧ Aside0 (Kd.R Kd.string 9 w' w.heap.size (fun _ => True) v5 x5_1) ∧ Aside0 (Below w.heap.size w w'))
 case atStart => exact ⟨(y130), (0), (0), (by first | rfl | (simp; done) | (simp [*]; done)), (by first | rfl | (simp; done) | (simp [*]; done)), H', ⟨Nat.le_refl _⟩, ⟨by exact Lib.cr HO132.out⟩, ⟨by exact Lib.bw HB.out⟩⟩
 case round =>
  clear H'
  try clear c2
  try clear p2
  obtain ⟨x5_1, x6_1, x11_1, rfl, rfl, HA, HK1, HO_5, HB⟩ := hrel
  cases gk with
  | zero => exact absurd HA.out (by simp [impl_SplitAny.l0])
  | succ k1 =>
   have H := HA.out
   clear HA
   simp only [impl_SplitAny.l0] at H
   by_cases c5 : x11_1 < (a0.size : Int)
   ·
    rw [if_pos c5] at H
    have c5b0 : decide (x11_1 < (a0.size : Int)) = true := decide_eq_true c5
    clear c5
    by_cases c6 : 0 ≤ x11_1
    ·
     rw [if_pos c6] at H
     have c6b0 : decide (0 ≤ x11_1) = true := decide_eq_true c6
     clear c6
     by_cases c7 : x11_1 < (a0.size : Int)
     ·
      rw [if_pos c7] at H
      have c7b0 : decide (x11_1 < (a0.size : Int)) = true := decide_eq_true c7
      clear c7
      replace H := Option.bind_eq_some_iff.mp H
      obtain ⟨t133, A90, H⟩ := H
      try dsimp only at H
      have A9 := Aside0.mk A90
      clear A90
      by_cases c10 : t133 ≥ 0
      ·
       rw [if_pos c10] at H
       have c10b0 : decide (0 ≤ t133) = true := decide_eq_true c10
       clear c10
       by_cases c11 : 0 ≤ x6_1
       ·
        rw [if_pos c11] at H
        have c11b0 := eq_true c11
        have c11b1 : decide (0 ≤ x6_1) = true := decide_eq_true c11
        clear c11
        by_cases c12 : x6_1 ≤ x11_1
        ·
         rw [if_pos c12] at H
         have c12b0 := eq_true c12
         have c12b1 : decide (x6_1 ≤ x11_1) = true := decide_eq_true c12
         clear c12
         by_cases c13 : x11_1 ≤ (a0.size : Int)
         ·
          rw [if_pos c13] at H
          have c13b0 := eq_true c13
          have c13b1 : decide (x11_1 ≤ (a0.size : Int)) = true := decide_eq_true c13
          clear c13
          by_cases c14 : x5_1.length < 8796093022208
          ·
           rw [if_pos c14] at H
           have LMc14 := Aside0.mk c14
           clear c14
           obtain ⟨y134, hy134⟩ : ∃ y_ : List ByteArray, y_ = (x5_1 ++ [a0.extract (x6_1 : Int).toNat (x11_1 : Int).toNat]) := ⟨_, rfl⟩
           replace H : (impl_SplitAny.l0 k1 a0 a1 y134 (wrap64 (x11_1 + 1)) (a0.size : Int) (wrap64 (x11_1 + 1))) = some r := by first | (rw [hy134]; with_reducible exact H) | (have H2_ := (Option.bind_some _ _).symm.trans H; rw [hy134]; with_reducible exact H2_) | (have H2_ := (Option.bind_some _ _).symm.trans H; with_reducible exact H2_) | with_reducible exact H | (rw [hy134]; exact H) | exact H
           have Ny134 := Aside0.mk hy134
           clear hy134
           have H' := Aside0.mk H
           clear H
           have p8 : 0 ≤ (x11_1 : Int) := Lib.od
           have q8 : x11_1 < (a0.size : Int) := Lib.od
           have hx8 := bt_at a0 x11_1
           replace p8 := eq_true p8
           replace q8 := eq_true q8
           go_wp2_with (first | ((with_reducible refine gate_callee (f := 21) rfl ?_); refine goesL_ (some 18) rfl rfl Tryd.func21 (by kernel_rfl) rfl #[.string a1, .int .u8 (bt a0 x11_1)] rfl (by (try simp only [List.map_toArray, List.map_cons, List.map_nil]); first | done | rfl | (simp only [List.length_drop, List.length_take]; rfl)) ?_; (with_reducible refine (strings_IndexByte.calls a1 (bt a0 x11_1) t133 _ A9.out).mono ?_); rintro e w' ⟨rfl, ⟨nd, rfl⟩⟩; refine ⟨_, rfl, ?_⟩) | ((with_reducible refine gate_builtin (b := .append) (xs := #[.tmp 20, .tmp 25]) rfl ?_); at_builtin; refine Kd.R_append Kd.string (w0 := w) w.heap.size rfl (.tmp 20) (.tmp 25) 38 9 (.string ⟨#[]⟩) 16 rfl Tryd.underlying38 info9 rfl (by decide) (by omega) u5 x5_1 (a0.extract (x6_1 : Int).toNat (x11_1 : Int).toNat) [.string (a0.extract (x6_1 : Int).toNat (x11_1 : Int).toNat)] (fun _ => True) (fun _ => False) rfl rfl ?aP (fun _ hk => hk.elim) ?aF ?aO ?aB ?aS ?aL ?_; (case aP => exact rfl); (case aB => exact (by exact Lib.bw HB.out)); (case aF => exact (fun _ _ => trivial)); (case aO => exact (by exact Lib.cr HO_5.out)); (case aS => exact (below_size (by exact Lib.bw HB.out))); (case aL => have := LMc14.out; omega); intro v135 w15 ho hb hg hat; rw [← Ny134.out] at ho; have n0_ := Aside0.mk (hb); have n1_ := Aside0.mk (ho); clear HB; clear HO_5; have HB := n0_; have HO136 := n1_; clear n0_ n1_; clear ho hb hg hat))
           go_roundg k1
           case measure => have := HK1.out; omega
           case rel => exact ⟨(y134), (wrap64 (x11_1 + 1)), (wrap64 (x11_1 + 1)), (by first | rfl | (simp; done) | (simp [*]; done)), (by first | rfl | (simp; done) | (simp [*]; done)), H', ⟨by have := HK1.out; omega⟩, ⟨by exact Lib.cr HO136.out⟩, ⟨by exact Lib.bw HB.out⟩⟩
          ·
           rw [if_neg c14] at H
           exact absurd H (by simp)
         ·
          rw [if_neg c13] at H
          exact absurd H (by simp)
        ·
         rw [if_neg c12] at H
         exact absurd H (by simp)
       ·
        rw [if_neg c11] at H
        exact absurd H (by simp)
      ·
       rw [if_neg c10] at H
       have c10b0 : decide (0 ≤ t133) = false := decide_eq_false c10
       clear c10
       have H' := Aside0.mk H
       clear H
       have p8 : 0 ≤ (x11_1 : Int) := Lib.od
       have q8 : x11_1 < (a0.size : Int) := Lib.od
       have hx8 := bt_at a0 x11_1
       replace p8 := eq_true p8
       replace q8 := eq_true q8
       go_wp2_with (first | ((with_reducible refine gate_callee (f := 21) rfl ?_); refine goesL_ (some 18) rfl rfl Tryd.func21 (by kernel_rfl) rfl #[.string a1, .int .u8 (bt a0 x11_1)] rfl (by (try simp only [List.map_toArray, List.map_cons, List.map_nil]); first | done | rfl | (simp only [List.length_drop, List.length_take]; rfl)) ?_; (with_reducible refine (strings_IndexByte.calls a1 (bt a0 x11_1) t133 _ A9.out).mono ?_); rintro e w' ⟨rfl, ⟨nd, rfl⟩⟩; refine ⟨_, rfl, ?_⟩))
       go_roundg k1
       case measure => have := HK1.out; omega
       case rel => exact ⟨(x5_1), (x6_1), (wrap64 (x11_1 + 1)), (by first | rfl | (simp; done) | (simp [*]; done)), (by first | rfl | (simp; done) | (simp [*]; done)), H', ⟨by have := HK1.out; omega⟩, ⟨by exact Lib.cr HO_5.out⟩, ⟨by exact Lib.bw HB.out⟩⟩
     ·
      rw [if_neg c7] at H
      exact absurd H (by simp)
    ·
     rw [if_neg c6] at H
     exact absurd H (by simp)
   ·
    rw [if_neg c5] at H
    have c5b0 : decide (x11_1 < (a0.size : Int)) = false := decide_eq_false c5
    clear c5
    by_cases c16 : 0 ≤ x6_1
    ·
     rw [if_pos c16] at H
     have c16b0 := eq_true c16
     have c16b1 : decide (0 ≤ x6_1) = true := decide_eq_true c16
     clear c16
     by_cases c17 : x6_1 ≤ (a0.size : Int)
     ·
      rw [if_pos c17] at H
      have c17b0 := eq_true c17
      have c17b1 : decide (x6_1 ≤ (a0.size : Int)) = true := decide_eq_true c17
      clear c17
      by_cases c18 : x5_1.length < 8796093022208
      ·
       rw [if_pos c18] at H
       have LMc18 := Aside0.mk c18
       clear c18
       obtain ⟨y137, hy137⟩ : ∃ y_ : List ByteArray, y_ = (x5_1 ++ [a0.extract (x6_1 : Int).toNat a0.size]) := ⟨_, rfl⟩
       replace H : (some y137) = some r := by first | (rw [hy137]; with_reducible exact H) | (have H2_ := (Option.bind_some _ _).symm.trans H; rw [hy137]; with_reducible exact H2_) | (have H2_ := (Option.bind_some _ _).symm.trans H; with_reducible exact H2_) | with_reducible exact H | (rw [hy137]; exact H) | exact H
       have Ny137 := Aside0.mk hy137
       clear hy137
       obtain rfl := Option.some.inj H
       go_wp2_with (first | ((with_reducible refine gate_builtin (b := .append) (xs := #[.tmp 30, .tmp 34]) rfl ?_); at_builtin; refine Kd.R_append Kd.string (w0 := w) w.heap.size rfl (.tmp 30) (.tmp 34) 38 9 (.string ⟨#[]⟩) 16 rfl Tryd.underlying38 info9 rfl (by decide) (by omega) u5 x5_1 (a0.extract (x6_1 : Int).toNat a0.size) [.string (a0.extract (x6_1 : Int).toNat a0.size)] (fun _ => True) (fun _ => False) rfl rfl ?aP (fun _ hk => hk.elim) ?aF ?aO ?aB ?aS ?aL ?_; (case aP => exact rfl); (case aB => exact (by exact Lib.bw HB.out)); (case aF => exact (fun _ _ => trivial)); (case aO => exact (by exact Lib.cr HO_5.out)); (case aS => exact (below_size (by exact Lib.bw HB.out))); (case aL => have := LMc18.out; omega); intro v138 w19 ho hb hg hat; rw [← Ny137.out] at ho; have n0_ := Aside0.mk (hb); have n1_ := Aside0.mk (ho); clear HB; clear HO_5; have HB := n0_; have HO139 := n1_; clear n0_ n1_; clear ho hb hg hat))
       go_ret
       exact ⟨_, by first | rfl | (simp [errW_none, errW_some] <;> rfl) | (simp [*, errW_none, errW_some] <;> rfl), by exact Lib.cr HO139.out, by exact Lib.bw HB.out⟩
      ·
       rw [if_neg c18] at H
       exact absurd H (by simp)
     ·
      rw [if_neg c17] at H
      exact absurd H (by simp)
    ·
     rw [if_neg c16] at H
     exact absurd H (by simp)

end Go.Proofs.YtmnojegajblagacDoor.PFnAcls
