-- Written by a program of this session over Lean's own print of the program.
import Derived.Test.YtbgkeeaccfabaaaPFnExactUnpackInodex0
import Derived.Test.YtbgkeeaccfabaaaPFnExactUnpackInodex2
import Derived.Test.YtbgkeeaccfabaaaPFnExactUnpackInodex4
import Derived.Test.YtbgkeeaccfabaaaPFnExactUnpackInodex6
namespace Go.Proofs.Ytbgkeeaccfabaaa.PFnExactUnpackInode
open Go.RowKit Go.Proofs.YtbgkeeaccfabaaaW.PrintWords Go.Proofs.YtbgkeeaccfabaaaW.PrintLast Go.Proofs.YtbgkeeaccfabaaaW.PrintMore
attribute [local go_sem] max2_int min2_int max_two min_two max_three min_three max_four min_four   -- for this text's walks alone
set_option linter.unusedVariables false
set_option linter.unusedSimpArgs false

/-! ### spec_PackInode: function 12 -/
def spec_PackInode.l0 : Nat → ByteArray → Int → Int → Int → Int → Int → Int → Int → Int → List Int → List (S43) → List (S43) → Option (ByteArray)
 | 0, _, _, _, _, _, _, _, _, _, _, _, _ => none
 | k + 1, x3, x4, x141000, x141001, x141002, x141003, x141004, x141005, x141006, x141007, x141008, x141009 => if x4 < 8 then (if x4 < (x141007.length : Int) then (if 0 ≤ x4 then ((spec_PutNumber.f k (wrap64 ((rd x141007 x4) + 1)) 2).bind fun t150 => (if x3.size + t150.size ≤ 9223372036854775807 then (spec_PackInode.l0 k (x3 ++ t150) (wrap64 (x4 + 1)) x141000 x141001 x141002 x141003 x141004 x141005 x141006 x141007 x141008 x141009) else (none))) else (none)) else ((spec_PutNumber.f k ((-1) + 1) 2).bind fun t151 => (if x3.size + t151.size ≤ 9223372036854775807 then (spec_PackInode.l0 k (x3 ++ t151) (wrap64 (x4 + 1)) x141000 x141001 x141002 x141003 x141004 x141005 x141006 x141007 x141008 x141009) else (none)))) else ((spec_PackAcl.f k x141008).bind fun t152 => (if x3.size + t152.size ≤ 9223372036854775807 then ((spec_PackAcl.f k x141009).bind fun t153 => (if (x3 ++ t152).size + t153.size ≤ 9223372036854775807 then ((spec_PadTo.f k ((x3 ++ t152) ++ t153) 96).bind fun t154 => (some t154)) else (none))) else (none)))
def spec_PackInode.f (k : Nat) (a0_0 : Int) (a0_1 : Int) (a0_2 : Int) (a0_3 : Int) (a0_4 : Int) (a0_5 : Int) (a0_6 : Int) (l0_7 : List Int) (l0_8 : List (S43)) (l0_9 : List (S43)) : Option (ByteArray) := (spec_IsInode.f k a0_0 a0_1 a0_2 a0_3 a0_4 a0_5 a0_6 l0_7 l0_8 l0_9).bind fun t141 => (if t141 = true then ((spec_PutNumber.f k a0_0 1).bind fun t142 => ((spec_PutNumber.f k a0_1 2).bind fun t143 => (if t142.size + t143.size ≤ 9223372036854775807 then ((spec_PutNumber.f k a0_2 1).bind fun t144 => (if (t142 ++ t143).size + t144.size ≤ 9223372036854775807 then ((spec_PutNumber.f k a0_3 1).bind fun t145 => (if ((t142 ++ t143) ++ t144).size + t145.size ≤ 9223372036854775807 then ((spec_PutNumber.f k a0_4 2).bind fun t146 => (if (((t142 ++ t143) ++ t144) ++ t145).size + t146.size ≤ 9223372036854775807 then ((spec_PutNumber.f k a0_5 2).bind fun t147 => (if ((((t142 ++ t143) ++ t144) ++ t145) ++ t146).size + t147.size ≤ 9223372036854775807 then ((spec_PutNumber.f k a0_6 4).bind fun t148 => (if (((((t142 ++ t143) ++ t144) ++ t145) ++ t146) ++ t147).size + t148.size ≤ 9223372036854775807 then (spec_PackInode.l0 k ((((((t142 ++ t143) ++ t144) ++ t145) ++ t146) ++ t147) ++ t148) 0 a0_0 a0_1 a0_2 a0_3 a0_4 a0_5 a0_6 l0_7 l0_8 l0_9) else (none))) else (none))) else (none))) else (none))) else (none))) else (none)))) else (some (⟨#[]⟩ : ByteArray)))
theorem spec_PackInode.mono_l : ∀ k, (∀ y0 y1 y2 y3 y4 y5 y6 y7 y8 y9 y10 y11, LeO (spec_PackInode.l0 k y0 y1 y2 y3 y4 y5 y6 y7 y8 y9 y10 y11) (spec_PackInode.l0 (k + 1) y0 y1 y2 y3 y4 y5 y6 y7 y8 y9 y10 y11))
 | 0 => fun _ _ _ _ _ _ _ _ _ _ _ _ r h => by simp [spec_PackInode.l0] at h
 | k + 1 => by
  have ih0 := spec_PackInode.mono_l k
  ·
   intro y0 y1 y2 y3 y4 y5 y6 y7 y8 y9 y10 y11
   unfold spec_PackInode.l0
   repeat' first
   | (with_reducible exact ih0 _ _ _ _ _ _ _ _ _ _ _ _)
   | (with_reducible exact spec_IsInode.mono _ _ _ _ _ _ _ _ _ _ _)
   | (with_reducible exact spec_PackAcl.mono _ _)
   | (with_reducible exact spec_PadTo.mono _ _ _)
   | (with_reducible exact spec_PutNumber.mono _ _ _)
   | (with_reducible exact LeO.refl _)
   | (with_reducible exact LeO.none _)
   | (with_reducible refine LeO.ite ?_ ?_)
   | (with_reducible refine LeO.bind ?_ (fun _ => ?_))
   | exact ih0 _ _ _ _ _ _ _ _ _ _ _ _
   | exact spec_IsInode.mono _ _ _ _ _ _ _ _ _ _ _
   | exact spec_PackAcl.mono _ _
   | exact spec_PadTo.mono _ _ _
   | exact spec_PutNumber.mono _ _ _
   | exact LeO.none _
   | refine LeO.ite ?_ ?_
   | refine LeO.bind ?_ (fun _ => ?_)
theorem spec_PackInode.mono : ∀ a0 a1 a2 a3 a4 a5 a6 a7 a8 a9 k, LeO (spec_PackInode.f k a0 a1 a2 a3 a4 a5 a6 a7 a8 a9) (spec_PackInode.f (k + 1) a0 a1 a2 a3 a4 a5 a6 a7 a8 a9) := by
 intro a0 a1 a2 a3 a4 a5 a6 a7 a8 a9 k
 have ih0 := spec_PackInode.mono_l k
 unfold spec_PackInode.f
 repeat' first
  | (with_reducible exact ih0 _ _ _ _ _ _ _ _ _ _ _ _)
  | (with_reducible exact spec_IsInode.mono _ _ _ _ _ _ _ _ _ _ _)
  | (with_reducible exact spec_PackAcl.mono _ _)
  | (with_reducible exact spec_PadTo.mono _ _ _)
  | (with_reducible exact spec_PutNumber.mono _ _ _)
  | (with_reducible exact LeO.refl _)
  | (with_reducible exact LeO.none _)
  | (with_reducible refine LeO.ite ?_ ?_)
  | (with_reducible refine LeO.bind ?_ (fun _ => ?_))
  | exact ih0 _ _ _ _ _ _ _ _ _ _ _ _
  | exact spec_IsInode.mono _ _ _ _ _ _ _ _ _ _ _
  | exact spec_PackAcl.mono _ _
  | exact spec_PadTo.mono _ _ _
  | exact spec_PutNumber.mono _ _ _
  | exact LeO.none _
  | refine LeO.ite ?_ ?_
  | refine LeO.bind ?_ (fun _ => ?_)
def spec_PackInode.T3 : Bool × List (List Nat × List Nat) := (true, [([], []), ([0], [0]), ([1], [1]), ([], []), ([3], [3]), ([4, 2], [4]), ([2, 5], [2, 5]), ([], []), ([7], [7]), ([8, 5], [8]), ([6, 9], [6, 9]), ([], []), ([11], [11]), ([12, 9], [12]), ([10, 13], [10, 13]), ([], []), ([15], [15]), ([16, 13], [16]), ([14, 17], [14, 17]), ([], []), ([19], [19]), ([20, 17], [20]), ([18, 21], [18, 21]), ([], []), ([23], [23]), ([24, 21], [24]), ([22, 25], [22, 25]), ([26, 25, 0, 1, 2, 3, 4, 5, 6, 7, 8, 9, 10, 11, 12, 13, 14, 15, 16, 17, 18, 19, 20, 21, 22, 23, 24, 25, 26], [26])])
def spec_PackInode.B3 : List Nat := [0, 1, 3, 0, 8, 31, 63, 0, 128, 447, 1023, 0, 2048, 7103, 16383, 0, 32768, 113599, 262143, 0, 524288, 1817535, 4194303, 0, 8388608, 29080511, 67108863, 134217727]
theorem spec_PackInode.tab3 : rtab .any (opsOf Try.f12 3) = spec_PackInode.T3 := by kernel_rfl
theorem spec_PackInode.bits3 : waitsOk spec_PackInode.T3.2 spec_PackInode.B3 = true := by kernel_rfl
def spec_PackInode.T11 : Bool × List (List Nat × List Nat) := (true, [([], []), ([], []), ([1], [1]), ([2], [2]), ([0, 3], [0, 3]), ([], []), ([5], [5]), ([6, 3], [6]), ([4, 7], [4, 7]), ([8, 7], [8]), ([9, 9, 0, 1, 2, 3, 4, 5, 6, 7, 8, 9], [9])])
def spec_PackInode.B11 : List Nat := [0, 0, 2, 6, 15, 0, 32, 110, 255, 511, 1023]
theorem spec_PackInode.tab11 : rtab .any (opsOf Try.f12 11) = spec_PackInode.T11 := by kernel_rfl
theorem spec_PackInode.bits11 : waitsOk spec_PackInode.T11.2 spec_PackInode.B11 = true := by kernel_rfl
set_option maxHeartbeats 8000000 in
set_option maxRecDepth 100000 in
theorem spec_PackInode.calls (k : Nat) (a0_0 : Int) (a0_1 : Int) (a0_2 : Int) (a0_3 : Int) (a0_4 : Int) (a0_5 : Int) (a0_6 : Int) (A0_7 : Option Addr) (c0_7 : Nat) (l0_7 : List Int) (A0_8 : Option Addr) (c0_8 : Nat) (l0_8 : List (S43)) (A0_9 : Option Addr) (c0_9 : Nat) (l0_9 : List (S43)) (r : ByteArray) (w : World) (hr0_7 : Kd.C (Kd.int .i64) w A0_7 l0_7.length l0_7) (hc0_7 : l0_7.length ≤ c0_7) (hr0_8 : Kd.C k43 w A0_8 l0_8.length l0_8) (hc0_8 : l0_8.length ≤ c0_8) (hr0_9 : Kd.C k43 w A0_9 l0_9.length l0_9) (hc0_9 : l0_9.length ≤ c0_9) (h : spec_PackInode.f k a0_0 a0_1 a0_2 a0_3 a0_4 a0_5 a0_6 l0_7 l0_8 l0_9 = some r) :
 Calls Try.prog 12 #[.agg #[.int .i64 a0_0, .int .i64 a0_1, .int .i64 a0_2, .int .i64 a0_3, .int .i64 a0_4, .int .i64 a0_5, .int .i64 a0_6, .slice A0_7 l0_7.length c0_7, .slice A0_8 l0_8.length c0_8, .slice A0_9 l0_9.length c0_9]] w fun e w' => e = .returned (.string r) ∧ Below w.heap.size w w' := by
 have hu25 := Try.underlying25
 have HR0_7 := Aside0.mk hr0_7
 have HC0_7 := Aside0.mk hc0_7
 clear hr0_7 hc0_7
 have HR0_8 := Aside0.mk hr0_8
 have HC0_8 := Aside0.mk hc0_8
 clear hr0_8 hc0_8
 have HR0_9 := Aside0.mk hr0_9
 have HC0_9 := Aside0.mk hc0_9
 clear hr0_9 hc0_9
 have HB := Aside0.mk (Below.refl w.heap.size w)
 have H : ((spec_IsInode.f k a0_0 a0_1 a0_2 a0_3 a0_4 a0_5 a0_6 l0_7 l0_8 l0_9).bind fun t141 => (if t141 = true then ((spec_PutNumber.f k a0_0 1).bind fun t142 => ((spec_PutNumber.f k a0_1 2).bind fun t143 => (if t142.size + t143.size ≤ 9223372036854775807 then ((spec_PutNumber.f k a0_2 1).bind fun t144 => (if (t142 ++ t143).size + t144.size ≤ 9223372036854775807 then ((spec_PutNumber.f k a0_3 1).bind fun t145 => (if ((t142 ++ t143) ++ t144).size + t145.size ≤ 9223372036854775807 then ((spec_PutNumber.f k a0_4 2).bind fun t146 => (if (((t142 ++ t143) ++ t144) ++ t145).size + t146.size ≤ 9223372036854775807 then ((spec_PutNumber.f k a0_5 2).bind fun t147 => (if ((((t142 ++ t143) ++ t144) ++ t145) ++ t146).size + t147.size ≤ 9223372036854775807 then ((spec_PutNumber.f k a0_6 4).bind fun t148 => (if (((((t142 ++ t143) ++ t144) ++ t145) ++ t146) ++ t147).size + t148.size ≤ 9223372036854775807 then (spec_PackInode.l0 k ((((((t142 ++ t143) ++ t144) ++ t145) ++ t146) ++ t147) ++ t148) 0 a0_0 a0_1 a0_2 a0_3 a0_4 a0_5 a0_6 l0_7 l0_8 l0_9) else (none))) else (none))) else (none))) else (none))) else (none))) else (none)))) else (some (⟨#[]⟩ : ByteArray)))) = some r := h
 clear h
 replace H := Option.bind_eq_some_iff.mp H
 obtain ⟨t141, A20, H⟩ := H
 try dsimp only at H
 have A2 := Aside0.mk A20
 clear A20
 by_cases c3 : t141 = true
 ·
  subst c3
  have H1 : ((spec_PutNumber.f k a0_0 1).bind fun t142 => ((spec_PutNumber.f k a0_1 2).bind fun t143 => (if t142.size + t143.size ≤ 9223372036854775807 then ((spec_PutNumber.f k a0_2 1).bind fun t144 => (if (t142 ++ t143).size + t144.size ≤ 9223372036854775807 then ((spec_PutNumber.f k a0_3 1).bind fun t145 => (if ((t142 ++ t143) ++ t144).size + t145.size ≤ 9223372036854775807 then ((spec_PutNumber.f k a0_4 2).bind fun t146 => (if (((t142 ++ t143) ++ t144) ++ t145).size + t146.size ≤ 9223372036854775807 then ((spec_PutNumber.f k a0_5 2).bind fun t147 => (if ((((t142 ++ t143) ++ t144) ++ t145) ++ t146).size + t147.size ≤ 9223372036854775807 then ((spec_PutNumber.f k a0_6 4).bind fun t148 => (if (((((t142 ++ t143) ++ t144) ++ t145) ++ t146) ++ t147).size + t148.size ≤ 9223372036854775807 then (spec_PackInode.l0 k ((((((t142 ++ t143) ++ t144) ++ t145) ++ t146) ++ t147) ++ t148) 0 a0_0 a0_1 a0_2 a0_3 a0_4 a0_5 a0_6 l0_7 l0_8 l0_9) else (none))) else (none))) else (none))) else (none))) else (none))) else (none)))) = some r := by rw [if_pos rfl] at H; exact H
  clear H
  have H := H1
  clear H1
  replace H := Option.bind_eq_some_iff.mp H
  obtain ⟨t142, A40, H⟩ := H
  try dsimp only at H
  have A4 := Aside0.mk A40
  clear A40
  replace H := Option.bind_eq_some_iff.mp H
  obtain ⟨t143, A50, H⟩ := H
  try dsimp only at H
  have A5 := Aside0.mk A50
  clear A50
  by_cases c6 : t142.size + t143.size ≤ 9223372036854775807
  ·
   rw [if_pos c6] at H
   have c6b0 := eq_true c6
   have c6b1 : decide (t142.size + t143.size ≤ 9223372036854775807) = true := decide_eq_true c6
   try have c6b2 : (9223372036854775807 < t142.size + t143.size) = False := eq_false (Nat.not_lt.2 c6)
   replace H := Option.bind_eq_some_iff.mp H
   obtain ⟨t144, A70, H⟩ := H
   try dsimp only at H
   have A7 := Aside0.mk A70
   clear A70
   by_cases c8 : (t142 ++ t143).size + t144.size ≤ 9223372036854775807
   ·
    rw [if_pos c8] at H
    have c8b0 := eq_true c8
    have c8b1 : decide ((t142 ++ t143).size + t144.size ≤ 9223372036854775807) = true := decide_eq_true c8
    try have c8b2 : (9223372036854775807 < (t142 ++ t143).size + t144.size) = False := eq_false (Nat.not_lt.2 c8)
    try (have c8b3 := c8b2; simp only [ByteArray.size_append] at c8b3)
    replace H := Option.bind_eq_some_iff.mp H
    obtain ⟨t145, A90, H⟩ := H
    try dsimp only at H
    have A9 := Aside0.mk A90
    clear A90
    by_cases c10 : ((t142 ++ t143) ++ t144).size + t145.size ≤ 9223372036854775807
    ·
     rw [if_pos c10] at H
     have c10b0 := eq_true c10
     have c10b1 : decide (((t142 ++ t143) ++ t144).size + t145.size ≤ 9223372036854775807) = true := decide_eq_true c10
     try have c10b2 : (9223372036854775807 < ((t142 ++ t143) ++ t144).size + t145.size) = False := eq_false (Nat.not_lt.2 c10)
     try (have c10b3 := c10b2; simp only [ByteArray.size_append] at c10b3)
     replace H := Option.bind_eq_some_iff.mp H
     obtain ⟨t146, A110, H⟩ := H
     try dsimp only at H
     have A11 := Aside0.mk A110
     clear A110
     by_cases c12 : (((t142 ++ t143) ++ t144) ++ t145).size + t146.size ≤ 9223372036854775807
     ·
      rw [if_pos c12] at H
      have c12b0 := eq_true c12
      have c12b1 : decide ((((t142 ++ t143) ++ t144) ++ t145).size + t146.size ≤ 9223372036854775807) = true := decide_eq_true c12
      try have c12b2 : (9223372036854775807 < (((t142 ++ t143) ++ t144) ++ t145).size + t146.size) = False := eq_false (Nat.not_lt.2 c12)
      try (have c12b3 := c12b2; simp only [ByteArray.size_append] at c12b3)
      replace H := Option.bind_eq_some_iff.mp H
      obtain ⟨t147, A130, H⟩ := H
      try dsimp only at H
      have A13 := Aside0.mk A130
      clear A130
      by_cases c14 : ((((t142 ++ t143) ++ t144) ++ t145) ++ t146).size + t147.size ≤ 9223372036854775807
      ·
       rw [if_pos c14] at H
       have c14b0 := eq_true c14
       have c14b1 : decide (((((t142 ++ t143) ++ t144) ++ t145) ++ t146).size + t147.size ≤ 9223372036854775807) = true := decide_eq_true c14
       try have c14b2 : (9223372036854775807 < ((((t142 ++ t143) ++ t144) ++ t145) ++ t146).size + t147.size) = False := eq_false (Nat.not_lt.2 c14)
       try (have c14b3 := c14b2; simp only [ByteArray.size_append] at c14b3)
       replace H := Option.bind_eq_some_iff.mp H
       obtain ⟨t148, A150, H⟩ := H
       try dsimp only at H
       have A15 := Aside0.mk A150
       clear A150
       by_cases c16 : (((((t142 ++ t143) ++ t144) ++ t145) ++ t146) ++ t147).size + t148.size ≤ 9223372036854775807
       ·
        rw [if_pos c16] at H
        have c16b0 := eq_true c16
        have c16b1 : decide ((((((t142 ++ t143) ++ t144) ++ t145) ++ t146) ++ t147).size + t148.size ≤ 9223372036854775807) = true := decide_eq_true c16
        try have c16b2 : (9223372036854775807 < (((((t142 ++ t143) ++ t144) ++ t145) ++ t146) ++ t147).size + t148.size) = False := eq_false (Nat.not_lt.2 c16)
        try (have c16b3 := c16b2; simp only [ByteArray.size_append] at c16b3)
        have H' := Aside0.mk H
        clear H
        go_enter Try.func12, Try.ntmps12
        try go_wp2_with (first | ((with_reducible refine gate_dst (N := 1) rfl ?_); refine box_event ?hg (N := 1) ?hd (cs := #[.int .i64 a0_0, .int .i64 a0_1, .int .i64 a0_2, .int .i64 a0_3, .int .i64 a0_4, .int .i64 a0_5, .int .i64 a0_6, .slice A0_7 l0_7.length c0_7, .slice A0_8 l0_8.length c0_8, .slice A0_9 l0_9.length c0_9]) (t := 25) ?hr ?_; (case hd => rfl); (case hg => rfl); (case hr => first | (go_simp; done) | (go_simp; rfl)); intro gb140 hg w17 hbox hb; have n0_ := Aside0.mk (below_step (by exact Lib.bw HB.out) hb); have n1_ := Aside0.mk (hbox); have n2_ := Aside0.mk ((by rw [hg]; exact (below_size (by exact Lib.bw HB.out)) : w.heap.size ≤ gb140)); have n3_ := Aside0.mk ((by rw [hg]; exact (below_size (by exact Lib.bw HB.out)) : w.heap.size ≤ gb140)); clear HB; have HB := n0_; have BK140 := n1_; have GW140 := n2_; have GE140 := n3_; clear n0_ n1_ n2_ n3_; clear hb hbox hg; obtain ⟨hcz18_0, hcz18_1, hcz18_2, hcz18_3, hcz18_4, hcz18_5, hcz18_6, hcz18_7, hcz18_8, hcz18_9, hfz18_0, hfz18_1, hfz18_2, hfz18_3, hfz18_4, hfz18_5, hfz18_6, hfz18_7, hfz18_8, hfz18_9⟩ := Lib.cel10 (W := w17) BK140.out) | ((with_reducible refine gate_callee (f := 26) rfl ?_); refine goesL_ (some 7) rfl rfl Try.func26 (by kernel_rfl) rfl #[.agg #[.int .i64 a0_0, .int .i64 a0_1, .int .i64 a0_2, .int .i64 a0_3, .int .i64 a0_4, .int .i64 a0_5, .int .i64 a0_6, .slice A0_7 l0_7.length c0_7, .slice A0_8 l0_8.length c0_8, .slice A0_9 l0_9.length c0_9]] rfl (by (try simp only [List.map_toArray, List.map_cons, List.map_nil]); first | done | rfl | (simp only [List.length_drop, List.length_take]; rfl)) ?_; (with_reducible refine (spec_IsInode.calls k a0_0 a0_1 a0_2 a0_3 a0_4 a0_5 a0_6 _ _ l0_7 _ _ l0_8 _ _ l0_9 true _ ?side1 ?side2 ?side3 ?side4 ?side5 ?side6 A2.out).mono ?_); (case side1 => exact Lib.cx (Kd.C_below HR0_7.out HB.out)); (case side2 => exact HC0_7.out); (case side3 => exact Lib.cx (Kd.C_below HR0_8.out HB.out)); (case side4 => exact HC0_8.out); (case side5 => exact Lib.cx (Kd.C_below HR0_9.out HB.out)); (case side6 => exact HC0_9.out); rintro e w19 ⟨rfl, hb⟩; refine ⟨_, rfl, ?_⟩; have n0_ := Aside0.mk (blk_below (g := gb140) (o := .cells #[.int .i64 a0_0, .int .i64 a0_1, .int .i64 a0_2, .int .i64 a0_3, .int .i64 a0_4, .int .i64 a0_5, .int .i64 a0_6, .slice A0_7 l0_7.length c0_7, .slice A0_8 l0_8.length c0_8, .slice A0_9 l0_9.length c0_9] 25 (0, 0)) (by exact Lib.bk BK140.out) hb); have n1_ := Aside0.mk (below_step (by exact Lib.bs HB.out GE140.out) hb); clear BK140; clear HB; have BK140 := n0_; have HB := n1_; clear n0_ n1_; (try clear hb); (try clear hb2); (try clear hk); (try clear hi)))
        have n0_ := Aside0.mk (blk_drew BK140.out)
        have n1_ := Aside0.mk (below_drew1 HB.out)
        clear BK140
        clear HB
        have BK140 := n0_
        have HB := n1_
        clear n0_ n1_
        refine start_ (n := 28) (S := fun w' => w'.cell? ⟨gb140, 0, none⟩ = some (.int .i64 a0_0) ∧ w'.cell? ⟨gb140, 1, none⟩ = some (.int .i64 a0_1) ∧ w'.cell? ⟨gb140, 2, none⟩ = some (.int .i64 a0_2) ∧ w'.cell? ⟨gb140, 3, none⟩ = some (.int .i64 a0_3) ∧ w'.cell? ⟨gb140, 4, none⟩ = some (.int .i64 a0_4) ∧ w'.cell? ⟨gb140, 5, none⟩ = some (.int .i64 a0_5) ∧ w'.cell? ⟨gb140, 6, none⟩ = some (.int .i64 a0_6) ∧ w'.cell? ⟨gb140, 7, none⟩ = some (.slice A0_7 l0_7.length c0_7) ∧ w'.cell? ⟨gb140, 8, none⟩ = some (.slice A0_8 l0_8.length c0_8) ∧ w'.cell? ⟨gb140, 9, none⟩ = some (.slice A0_9 l0_9.length c0_9)) (ds := []) (Lib.tr [0, 28]) (by kernel_rfl) rfl rfl ⟨(blk_cell BK140.out 0).trans rfl, (blk_cell BK140.out 1).trans rfl, (blk_cell BK140.out 2).trans rfl, (blk_cell BK140.out 3).trans rfl, (blk_cell BK140.out 4).trans rfl, (blk_cell BK140.out 5).trans rfl, (blk_cell BK140.out 6).trans rfl, (blk_cell BK140.out 7).trans rfl, (blk_cell BK140.out 8).trans rfl, (blk_cell BK140.out 9).trans rfl⟩ (fun hHeld => ?_); refine with_tabW spec_PackInode.tab3 spec_PackInode.bits3 (fun HT_ HW_ => ?_)
        generalize w19.drew = w20 at BK140 HB hHeld ⊢
        refine Lib.pa ?_ 0 9 [1, 27] HT_ rfl rfl (by kernel_rfl) (fun _ _ _ h => h) (by rfl) ?_ ?_ ?_ ?_; rotate_left; (· intro w'; go_simp; with_reducible rfl); rotate_left; (· simp only [Lib.pw, Lib.px, Lib.py, i64_w, i32_w]; rfl)
        refine Lib.pa ?_ 3 12 [1, 2, 1, 24] HT_ rfl rfl (by kernel_rfl) (fun _ _ _ h => h) (by rfl) ?_ ?_ ?_ ?_; rotate_left; (· intro w'; go_simp; with_reducible rfl); rotate_left; (· simp only [Lib.pw, Lib.px, Lib.py, i64_w, i32_w]; rfl)
        refine Lib.pa ?_ 7 16 [1, 2, 1, 3, 1, 20] HT_ rfl rfl (by kernel_rfl) (fun _ _ _ h => h) (by rfl) ?_ ?_ ?_ ?_; rotate_left; (· intro w'; go_simp; with_reducible rfl); rotate_left; (· simp only [Lib.pw, Lib.px, Lib.py, i64_w, i32_w]; rfl)
        refine Lib.pa ?_ 11 20 [1, 2, 1, 3, 1, 3, 1, 16] HT_ rfl rfl (by kernel_rfl) (fun _ _ _ h => h) (by rfl) ?_ ?_ ?_ ?_; rotate_left; (· intro w'; go_simp; with_reducible rfl); rotate_left; (· simp only [Lib.pw, Lib.px, Lib.py, i64_w, i32_w]; rfl)
        refine Lib.pa ?_ 15 24 [1, 2, 1, 3, 1, 3, 1, 3, 1, 12] HT_ rfl rfl (by kernel_rfl) (fun _ _ _ h => h) (by rfl) ?_ ?_ ?_ ?_; rotate_left; (· intro w'; go_simp; with_reducible rfl); rotate_left; (· simp only [Lib.pw, Lib.px, Lib.py, i64_w, i32_w]; rfl)
        refine Lib.pa ?_ 19 28 [1, 2, 1, 3, 1, 3, 1, 3, 1, 3, 1, 8] HT_ rfl rfl (by kernel_rfl) (fun _ _ _ h => h) (by rfl) ?_ ?_ ?_ ?_; rotate_left; (· intro w'; go_simp; with_reducible rfl); rotate_left; (· simp only [Lib.pw, Lib.px, Lib.py, i64_w, i32_w]; rfl)
        refine Lib.pa ?_ 23 32 [1, 2, 1, 3, 1, 3, 1, 3, 1, 3, 1, 3, 1, 4] HT_ rfl rfl (by kernel_rfl) (fun _ _ _ h => h) (by rfl) ?_ ?_ ?_ ?_; rotate_left; (· intro w'; go_simp; with_reducible rfl); rotate_left; (· simp only [Lib.pw, Lib.px, Lib.py, i64_w, i32_w]; rfl)
        refine Lib.pt ?_ 1 10 [2, 1, 1, 3, 1, 3, 1, 3, 1, 3, 1, 3, 1, 4] HT_ HW_ rfl rfl (by kernel_rfl) (fun _ _ _ h => h) (by rfl) ?_ hHeld ?_ ?_ ?_; rotate_left; (· rintro w' ⟨s0, s1, s2, s3, s4, s5, s6, s7, s8, s9⟩; go_simp; with_reducible rfl); rotate_left; (· simp only [Lib.pw, Lib.px, Lib.py, i64_w, i32_w]; rfl)
        refine Lib.pt ?_ 4 13 [2, 1, 2, 2, 1, 3, 1, 3, 1, 3, 1, 3, 1, 4] HT_ HW_ rfl rfl (by kernel_rfl) (fun _ _ _ h => h) (by rfl) ?_ hHeld ?_ ?_ ?_; rotate_left; (· rintro w' ⟨s0, s1, s2, s3, s4, s5, s6, s7, s8, s9⟩; go_simp; with_reducible rfl); rotate_left; (· simp only [Lib.pw, Lib.px, Lib.py, i64_w, i32_w]; rfl)
        refine Lib.pt ?_ 8 17 [2, 1, 2, 2, 2, 2, 1, 3, 1, 3, 1, 3, 1, 4] HT_ HW_ rfl rfl (by kernel_rfl) (fun _ _ _ h => h) (by rfl) ?_ hHeld ?_ ?_ ?_; rotate_left; (· rintro w' ⟨s0, s1, s2, s3, s4, s5, s6, s7, s8, s9⟩; go_simp; with_reducible rfl); rotate_left; (· simp only [Lib.pw, Lib.px, Lib.py, i64_w, i32_w]; rfl)
        refine Lib.pt ?_ 12 21 [2, 1, 2, 2, 2, 2, 2, 2, 1, 3, 1, 3, 1, 4] HT_ HW_ rfl rfl (by kernel_rfl) (fun _ _ _ h => h) (by rfl) ?_ hHeld ?_ ?_ ?_; rotate_left; (· rintro w' ⟨s0, s1, s2, s3, s4, s5, s6, s7, s8, s9⟩; go_simp; with_reducible rfl); rotate_left; (· simp only [Lib.pw, Lib.px, Lib.py, i64_w, i32_w]; rfl)
        refine Lib.pt ?_ 16 25 [2, 1, 2, 2, 2, 2, 2, 2, 2, 2, 1, 3, 1, 4] HT_ HW_ rfl rfl (by kernel_rfl) (fun _ _ _ h => h) (by rfl) ?_ hHeld ?_ ?_ ?_; rotate_left; (· rintro w' ⟨s0, s1, s2, s3, s4, s5, s6, s7, s8, s9⟩; go_simp; with_reducible rfl); rotate_left; (· simp only [Lib.pw, Lib.px, Lib.py, i64_w, i32_w]; rfl)
        refine Lib.pt ?_ 20 29 [2, 1, 2, 2, 2, 2, 2, 2, 2, 2, 2, 2, 1, 4] HT_ HW_ rfl rfl (by kernel_rfl) (fun _ _ _ h => h) (by rfl) ?_ hHeld ?_ ?_ ?_; rotate_left; (· rintro w' ⟨s0, s1, s2, s3, s4, s5, s6, s7, s8, s9⟩; go_simp; with_reducible rfl); rotate_left; (· simp only [Lib.pw, Lib.px, Lib.py, i64_w, i32_w]; rfl)
        refine Lib.pt ?_ 24 33 [2, 1, 2, 2, 2, 2, 2, 2, 2, 2, 2, 2, 2, 3] HT_ HW_ rfl rfl (by kernel_rfl) (fun _ _ _ h => h) (by rfl) ?_ hHeld ?_ ?_ ?_; rotate_left; (· rintro w' ⟨s0, s1, s2, s3, s4, s5, s6, s7, s8, s9⟩; go_simp; with_reducible rfl); rotate_left; (· simp only [Lib.pw, Lib.px, Lib.py, i64_w, i32_w]; rfl)
        refine one_ (i := 2) (N := some 11) (Lib.tr [5, 2, 2, 2, 2, 2, 2, 2, 2, 2, 2, 3]) rfl rfl (one_of HT_.out (by kernel_rfl)) (by decide) (fun K hK => ?_)
        refine goes_ Try.func27 (by kernel_rfl) rfl #[.int .i64 a0_0, .int .i64 1] (by rfl) rfl rfl (by (try simp only [List.map_toArray, List.map_cons, List.map_nil]); first | done | rfl | (simp only [List.length_drop, List.length_take]; rfl)) ?_
        with_reducible refine (spec_PutNumber.calls k a0_0 1 t142 _ A4.out).mono ?_
        rintro e w21 ⟨rfl, hb⟩
        refine ⟨_, rfl, ?_⟩
        have n0_ := Aside0.mk (blk_below (g := gb140) (o := .cells #[.int .i64 a0_0, .int .i64 a0_1, .int .i64 a0_2, .int .i64 a0_3, .int .i64 a0_4, .int .i64 a0_5, .int .i64 a0_6, .slice A0_7 l0_7.length c0_7, .slice A0_8 l0_8.length c0_8, .slice A0_9 l0_9.length c0_9] 25 (0, 0)) (by exact Lib.bk BK140.out) hb)
        have n1_ := Aside0.mk (below_step (by exact Lib.bs HB.out GE140.out) hb)
        clear BK140
        clear HB
        have BK140 := n0_
        have HB := n1_
        clear n0_ n1_
        (try clear hb)
        (try clear hb2)
        (try clear hk)
        (try clear hi)
        refine hK.out _ _ ⟨(blk_cell BK140.out 0).trans rfl, (blk_cell BK140.out 1).trans rfl, (blk_cell BK140.out 2).trans rfl, (blk_cell BK140.out 3).trans rfl, (blk_cell BK140.out 4).trans rfl, (blk_cell BK140.out 5).trans rfl, (blk_cell BK140.out 6).trans rfl, (blk_cell BK140.out 7).trans rfl, (blk_cell BK140.out 8).trans rfl, (blk_cell BK140.out 9).trans rfl⟩ (fun hHeld => ?_)
        clear hK K
        refine norm_ (a' := ?_) ?_ ?_
        rotate_left
        ·
         show Act.put _ (some 11) _ = _
         simp only [Lib.pw, Lib.px, Lib.py, i64_w, i32_w]
         rfl
        refine one_ (i := 5) (N := some 14) (Lib.tr [6, 1, 2, 2, 2, 2, 2, 2, 2, 2, 2, 3]) rfl rfl (one_of HT_.out (by kernel_rfl)) (by decide) (fun K hK => ?_)
        refine goes_ Try.func27 (by kernel_rfl) rfl #[.int .i64 a0_1, .int .i64 2] (by rfl) rfl rfl (by (try simp only [List.map_toArray, List.map_cons, List.map_nil]); first | done | rfl | (simp only [List.length_drop, List.length_take]; rfl)) ?_
        with_reducible refine (spec_PutNumber.calls k a0_1 2 t143 _ A5.out).mono ?_
        rintro e w22 ⟨rfl, hb⟩
        refine ⟨_, rfl, ?_⟩
        have n0_ := Aside0.mk (blk_below (g := gb140) (o := .cells #[.int .i64 a0_0, .int .i64 a0_1, .int .i64 a0_2, .int .i64 a0_3, .int .i64 a0_4, .int .i64 a0_5, .int .i64 a0_6, .slice A0_7 l0_7.length c0_7, .slice A0_8 l0_8.length c0_8, .slice A0_9 l0_9.length c0_9] 25 (0, 0)) (by exact Lib.bk BK140.out) hb)
        have n1_ := Aside0.mk (below_step (by exact Lib.bs HB.out GE140.out) hb)
        clear BK140
        clear HB
        have BK140 := n0_
        have HB := n1_
        clear n0_ n1_
        (try clear hb)
        (try clear hb2)
        (try clear hk)
        (try clear hi)
        refine hK.out _ _ ⟨(blk_cell BK140.out 0).trans rfl, (blk_cell BK140.out 1).trans rfl, (blk_cell BK140.out 2).trans rfl, (blk_cell BK140.out 3).trans rfl, (blk_cell BK140.out 4).trans rfl, (blk_cell BK140.out 5).trans rfl, (blk_cell BK140.out 6).trans rfl, (blk_cell BK140.out 7).trans rfl, (blk_cell BK140.out 8).trans rfl, (blk_cell BK140.out 9).trans rfl⟩ (fun hHeld => ?_)
        clear hK K
        refine norm_ (a' := ?_) ?_ ?_
        rotate_left
        ·
         show Act.put _ (some 14) _ = _
         simp only [Lib.pw, Lib.px, Lib.py, i64_w, i32_w]
         rfl
        refine Lib.pa ?_ 6 15 [9, 2, 2, 2, 2, 2, 2, 2, 2, 3] HT_ rfl rfl (by kernel_rfl) (fun _ _ _ h => h) (by rfl) ?_ ?_ ?_ ?_; rotate_left; (· intro w'; go_simp; with_reducible rfl); rotate_left; (· simp only [Lib.pw, Lib.px, Lib.py, i64_w, i32_w]; rfl)
        refine one_ (i := 9) (N := some 18) (Lib.tr [10, 1, 2, 2, 2, 2, 2, 2, 2, 3]) rfl rfl (one_of HT_.out (by kernel_rfl)) (by decide) (fun K hK => ?_)
        refine goes_ Try.func27 (by kernel_rfl) rfl #[.int .i64 a0_2, .int .i64 1] (by rfl) rfl rfl (by (try simp only [List.map_toArray, List.map_cons, List.map_nil]); first | done | rfl | (simp only [List.length_drop, List.length_take]; rfl)) ?_
        with_reducible refine (spec_PutNumber.calls k a0_2 1 t144 _ A7.out).mono ?_
        rintro e w23 ⟨rfl, hb⟩
        refine ⟨_, rfl, ?_⟩
        have n0_ := Aside0.mk (blk_below (g := gb140) (o := .cells #[.int .i64 a0_0, .int .i64 a0_1, .int .i64 a0_2, .int .i64 a0_3, .int .i64 a0_4, .int .i64 a0_5, .int .i64 a0_6, .slice A0_7 l0_7.length c0_7, .slice A0_8 l0_8.length c0_8, .slice A0_9 l0_9.length c0_9] 25 (0, 0)) (by exact Lib.bk BK140.out) hb)
        have n1_ := Aside0.mk (below_step (by exact Lib.bs HB.out GE140.out) hb)
        clear BK140
        clear HB
        have BK140 := n0_
        have HB := n1_
        clear n0_ n1_
        (try clear hb)
        (try clear hb2)
        (try clear hk)
        (try clear hi)
        refine hK.out _ _ ⟨(blk_cell BK140.out 0).trans rfl, (blk_cell BK140.out 1).trans rfl, (blk_cell BK140.out 2).trans rfl, (blk_cell BK140.out 3).trans rfl, (blk_cell BK140.out 4).trans rfl, (blk_cell BK140.out 5).trans rfl, (blk_cell BK140.out 6).trans rfl, (blk_cell BK140.out 7).trans rfl, (blk_cell BK140.out 8).trans rfl, (blk_cell BK140.out 9).trans rfl⟩ (fun hHeld => ?_)
        clear hK K
        refine norm_ (a' := ?_) ?_ ?_
        rotate_left
        ·
         show Act.put _ (some 18) _ = _
         simp only [Lib.pw, Lib.px, Lib.py, i64_w, i32_w]
         rfl
        refine Lib.pa ?_ 10 19 [13, 2, 2, 2, 2, 2, 2, 3] HT_ rfl rfl (by kernel_rfl) (fun _ _ _ h => h) (by rfl) ?_ ?_ ?_ ?_; rotate_left; (· intro w'; go_simp; with_reducible rfl); rotate_left; (· simp only [Lib.pw, Lib.px, Lib.py, i64_w, i32_w]; rfl)
        refine one_ (i := 13) (N := some 22) (Lib.tr [14, 1, 2, 2, 2, 2, 2, 3]) rfl rfl (one_of HT_.out (by kernel_rfl)) (by decide) (fun K hK => ?_)
        refine goes_ Try.func27 (by kernel_rfl) rfl #[.int .i64 a0_3, .int .i64 1] (by rfl) rfl rfl (by (try simp only [List.map_toArray, List.map_cons, List.map_nil]); first | done | rfl | (simp only [List.length_drop, List.length_take]; rfl)) ?_
        with_reducible refine (spec_PutNumber.calls k a0_3 1 t145 _ A9.out).mono ?_
        rintro e w24 ⟨rfl, hb⟩
        refine ⟨_, rfl, ?_⟩
        have n0_ := Aside0.mk (blk_below (g := gb140) (o := .cells #[.int .i64 a0_0, .int .i64 a0_1, .int .i64 a0_2, .int .i64 a0_3, .int .i64 a0_4, .int .i64 a0_5, .int .i64 a0_6, .slice A0_7 l0_7.length c0_7, .slice A0_8 l0_8.length c0_8, .slice A0_9 l0_9.length c0_9] 25 (0, 0)) (by exact Lib.bk BK140.out) hb)
        have n1_ := Aside0.mk (below_step (by exact Lib.bs HB.out GE140.out) hb)
        clear BK140
        clear HB
        have BK140 := n0_
        have HB := n1_
        clear n0_ n1_
        (try clear hb)
        (try clear hb2)
        (try clear hk)
        (try clear hi)
        refine hK.out _ _ ⟨(blk_cell BK140.out 0).trans rfl, (blk_cell BK140.out 1).trans rfl, (blk_cell BK140.out 2).trans rfl, (blk_cell BK140.out 3).trans rfl, (blk_cell BK140.out 4).trans rfl, (blk_cell BK140.out 5).trans rfl, (blk_cell BK140.out 6).trans rfl, (blk_cell BK140.out 7).trans rfl, (blk_cell BK140.out 8).trans rfl, (blk_cell BK140.out 9).trans rfl⟩ (fun hHeld => ?_)
        clear hK K
        refine norm_ (a' := ?_) ?_ ?_
        rotate_left
        ·
         show Act.put _ (some 22) _ = _
         simp only [Lib.pw, Lib.px, Lib.py, i64_w, i32_w]
         rfl
        refine Lib.pa ?_ 14 23 [17, 2, 2, 2, 2, 3] HT_ rfl rfl (by kernel_rfl) (fun _ _ _ h => h) (by rfl) ?_ ?_ ?_ ?_; rotate_left; (· intro w'; go_simp; with_reducible rfl); rotate_left; (· simp only [Lib.pw, Lib.px, Lib.py, i64_w, i32_w]; rfl)
        refine one_ (i := 17) (N := some 26) (Lib.tr [18, 1, 2, 2, 2, 3]) rfl rfl (one_of HT_.out (by kernel_rfl)) (by decide) (fun K hK => ?_)
        refine goes_ Try.func27 (by kernel_rfl) rfl #[.int .i64 a0_4, .int .i64 2] (by rfl) rfl rfl (by (try simp only [List.map_toArray, List.map_cons, List.map_nil]); first | done | rfl | (simp only [List.length_drop, List.length_take]; rfl)) ?_
        with_reducible refine (spec_PutNumber.calls k a0_4 2 t146 _ A11.out).mono ?_
        rintro e w25 ⟨rfl, hb⟩
        refine ⟨_, rfl, ?_⟩
        have n0_ := Aside0.mk (blk_below (g := gb140) (o := .cells #[.int .i64 a0_0, .int .i64 a0_1, .int .i64 a0_2, .int .i64 a0_3, .int .i64 a0_4, .int .i64 a0_5, .int .i64 a0_6, .slice A0_7 l0_7.length c0_7, .slice A0_8 l0_8.length c0_8, .slice A0_9 l0_9.length c0_9] 25 (0, 0)) (by exact Lib.bk BK140.out) hb)
        have n1_ := Aside0.mk (below_step (by exact Lib.bs HB.out GE140.out) hb)
        clear BK140
        clear HB
        have BK140 := n0_
        have HB := n1_
        clear n0_ n1_
        (try clear hb)
        (try clear hb2)
        (try clear hk)
        (try clear hi)
        refine hK.out _ _ ⟨(blk_cell BK140.out 0).trans rfl, (blk_cell BK140.out 1).trans rfl, (blk_cell BK140.out 2).trans rfl, (blk_cell BK140.out 3).trans rfl, (blk_cell BK140.out 4).trans rfl, (blk_cell BK140.out 5).trans rfl, (blk_cell BK140.out 6).trans rfl, (blk_cell BK140.out 7).trans rfl, (blk_cell BK140.out 8).trans rfl, (blk_cell BK140.out 9).trans rfl⟩ (fun hHeld => ?_)
        clear hK K
        refine norm_ (a' := ?_) ?_ ?_
        rotate_left
        ·
         show Act.put _ (some 26) _ = _
         simp only [Lib.pw, Lib.px, Lib.py, i64_w, i32_w]
         rfl
        refine Lib.pa ?_ 18 27 [21, 2, 2, 3] HT_ rfl rfl (by kernel_rfl) (fun _ _ _ h => h) (by rfl) ?_ ?_ ?_ ?_; rotate_left; (· intro w'; go_simp; with_reducible rfl); rotate_left; (· simp only [Lib.pw, Lib.px, Lib.py, i64_w, i32_w]; rfl)
        refine one_ (i := 21) (N := some 30) (Lib.tr [22, 1, 2, 3]) rfl rfl (one_of HT_.out (by kernel_rfl)) (by decide) (fun K hK => ?_)
        refine goes_ Try.func27 (by kernel_rfl) rfl #[.int .i64 a0_5, .int .i64 2] (by rfl) rfl rfl (by (try simp only [List.map_toArray, List.map_cons, List.map_nil]); first | done | rfl | (simp only [List.length_drop, List.length_take]; rfl)) ?_
        with_reducible refine (spec_PutNumber.calls k a0_5 2 t147 _ A13.out).mono ?_
        rintro e w26 ⟨rfl, hb⟩
        refine ⟨_, rfl, ?_⟩
        have n0_ := Aside0.mk (blk_below (g := gb140) (o := .cells #[.int .i64 a0_0, .int .i64 a0_1, .int .i64 a0_2, .int .i64 a0_3, .int .i64 a0_4, .int .i64 a0_5, .int .i64 a0_6, .slice A0_7 l0_7.length c0_7, .slice A0_8 l0_8.length c0_8, .slice A0_9 l0_9.length c0_9] 25 (0, 0)) (by exact Lib.bk BK140.out) hb)
        have n1_ := Aside0.mk (below_step (by exact Lib.bs HB.out GE140.out) hb)
        clear BK140
        clear HB
        have BK140 := n0_
        have HB := n1_
        clear n0_ n1_
        (try clear hb)
        (try clear hb2)
        (try clear hk)
        (try clear hi)
        refine hK.out _ _ ⟨(blk_cell BK140.out 0).trans rfl, (blk_cell BK140.out 1).trans rfl, (blk_cell BK140.out 2).trans rfl, (blk_cell BK140.out 3).trans rfl, (blk_cell BK140.out 4).trans rfl, (blk_cell BK140.out 5).trans rfl, (blk_cell BK140.out 6).trans rfl, (blk_cell BK140.out 7).trans rfl, (blk_cell BK140.out 8).trans rfl, (blk_cell BK140.out 9).trans rfl⟩ (fun hHeld => ?_)
        clear hK K
        refine norm_ (a' := ?_) ?_ ?_
        rotate_left
        ·
         show Act.put _ (some 30) _ = _
         simp only [Lib.pw, Lib.px, Lib.py, i64_w, i32_w]
         rfl
        refine Lib.pa ?_ 22 31 [25, 3] HT_ rfl rfl (by kernel_rfl) (fun _ _ _ h => h) (by rfl) ?_ ?_ ?_ ?_; rotate_left; (· intro w'; go_simp; with_reducible rfl); rotate_left; (· simp only [Lib.pw, Lib.px, Lib.py, i64_w, i32_w]; rfl)
        refine one_ (i := 25) (N := some 34) (Lib.tr [26, 2]) rfl rfl (one_of HT_.out (by kernel_rfl)) (by decide) (fun K hK => ?_)
        refine goes_ Try.func27 (by kernel_rfl) rfl #[.int .i64 a0_6, .int .i64 4] (by rfl) rfl rfl (by (try simp only [List.map_toArray, List.map_cons, List.map_nil]); first | done | rfl | (simp only [List.length_drop, List.length_take]; rfl)) ?_
        with_reducible refine (spec_PutNumber.calls k a0_6 4 t148 _ A15.out).mono ?_
        rintro e w27 ⟨rfl, hb⟩
        refine ⟨_, rfl, ?_⟩
        have n0_ := Aside0.mk (blk_below (g := gb140) (o := .cells #[.int .i64 a0_0, .int .i64 a0_1, .int .i64 a0_2, .int .i64 a0_3, .int .i64 a0_4, .int .i64 a0_5, .int .i64 a0_6, .slice A0_7 l0_7.length c0_7, .slice A0_8 l0_8.length c0_8, .slice A0_9 l0_9.length c0_9] 25 (0, 0)) (by exact Lib.bk BK140.out) hb)
        have n1_ := Aside0.mk (below_step (by exact Lib.bs HB.out GE140.out) hb)
        clear BK140
        clear HB
        have BK140 := n0_
        have HB := n1_
        clear n0_ n1_
        (try clear hb)
        (try clear hb2)
        (try clear hk)
        (try clear hi)
        refine hK.out _ _ ⟨(blk_cell BK140.out 0).trans rfl, (blk_cell BK140.out 1).trans rfl, (blk_cell BK140.out 2).trans rfl, (blk_cell BK140.out 3).trans rfl, (blk_cell BK140.out 4).trans rfl, (blk_cell BK140.out 5).trans rfl, (blk_cell BK140.out 6).trans rfl, (blk_cell BK140.out 7).trans rfl, (blk_cell BK140.out 8).trans rfl, (blk_cell BK140.out 9).trans rfl⟩ (fun hHeld => ?_)
        clear hK K
        refine norm_ (a' := ?_) ?_ ?_
        rotate_left
        ·
         show Act.put _ (some 34) _ = _
         simp only [Lib.pw, Lib.px, Lib.py, i64_w, i32_w]
         rfl
        refine Lib.pa ?_ 26 35 [27, 1] HT_ rfl rfl (by kernel_rfl) (fun _ _ _ h => h) (by rfl) ?_ ?_ ?_ ?_; rotate_left; (· intro w'; go_simp; with_reducible rfl); rotate_left; (· simp only [Lib.pw, Lib.px, Lib.py, i64_w, i32_w]; rfl)
        refine Lib.pa ?_ 27 3 [28] HT_ rfl rfl (by kernel_rfl) (fun _ _ _ h => h) (by rfl) ?_ ?_ ?_ ?_; rotate_left; (· intro w'; go_simp; with_reducible rfl); rotate_left; (· simp only [Lib.pw, Lib.px, Lib.py, i64_w, i32_w]; rfl)
        refine done_ (done_of HT_.out (by kernel_rfl)) ?_
        try go_wp2
        go_loopg [3, 4] k (fun kq v3 v4 w' => ∃ (x3_1 : ByteArray) (x4_1 : Int), v3 = .string x3_1 ∧ v4 = .int .i64 x4_1 ∧ Aside0 (spec_PackInode.l0 kq x3_1 x4_1 a0_0 a0_1 a0_2 a0_3 a0_4 a0_5 a0_6 l0_7 l0_8 l0_9 = some r) ∧ Aside0 (kq ≤ k) ∧ Aside0 (w'.heap[gb140]? = some (.cells #[.int .i64 a0_0, .int .i64 a0_1, .int .i64 a0_2, .int .i64 a0_3, .int .i64 a0_4, .int .i64 a0_5, .int .i64 a0_6, (.slice A0_7 l0_7.length c0_7), (.slice A0_8 l0_8.length c0_8), (.slice A0_9 l0_9.length c0_9)] 25 (0, 0))) ∧ Aside0 (Below w.heap.size w w'))
        case atStart => exact ⟨((((((t142 ++ t143) ++ t144) ++ t145) ++ t146) ++ t147) ++ t148), (0), (by first | rfl | (simp; done) | (simp [*]; done)), (by first | rfl | (simp; done) | (simp [*]; done)), H', ⟨Nat.le_refl _⟩, ⟨by exact Lib.bk BK140.out⟩, ⟨by exact Lib.bs HB.out GE140.out⟩⟩
        case round =>
         clear H'
         try clear c1
         try clear c2
         try clear p2
         try clear c3
         try clear c6
         try clear c6b0
         try clear c6b1
         try clear c6b2
         try clear c8
         try clear c8b0
         try clear c8b1
         try clear c8b2
         try clear c10
         try clear c10b0
         try clear c10b1
         try clear c10b2
         try clear c12
         try clear c12b0
         try clear c12b1
         try clear c12b2
         try clear c14
         try clear c14b0
         try clear c14b1
         try clear c14b2
         try clear c16
         try clear c16b0
         try clear c16b1
         try clear c16b2
         try clear c26
         try clear c27
         try clear hcz18_0
         try clear hcz18_1
         try clear hcz18_2
         try clear hcz18_3
         try clear hcz18_4
         try clear hcz18_5
         try clear hcz18_6
         try clear hcz18_7
         try clear hcz18_8
         try clear hcz18_9
         try clear hfz18_0
         try clear hfz18_1
         try clear hfz18_2
         try clear hfz18_3
         try clear hfz18_4
         try clear hfz18_5
         try clear hfz18_6
         try clear hfz18_7
         try clear hfz18_8
         try clear hfz18_9
         obtain ⟨x3_1, x4_1, rfl, rfl, HA, HK1, BK140, HB⟩ := hrel
         cases gk with
         | zero => exact absurd HA.out (by simp [spec_PackInode.l0])
         | succ k1 =>
          have H := HA.out
          clear HA
          simp only [spec_PackInode.l0] at H
          by_cases c28 : x4_1 < 8
          ·
           rw [if_pos c28] at H
           have c28b0 : decide (x4_1 < 8) = true := decide_eq_true c28
           clear c28
           by_cases c29 : x4_1 < (l0_7.length : Int)
           ·
            rw [if_pos c29] at H
            have c29b0 : decide (x4_1 < (l0_7.length : Int)) = true := decide_eq_true c29
            clear c29
            by_cases c30 : 0 ≤ x4_1
            ·
             rw [if_pos c30] at H
             have c30b0 : decide (0 ≤ x4_1) = true := decide_eq_true c30
             clear c30
             replace H := Option.bind_eq_some_iff.mp H
             obtain ⟨t150, A310, H⟩ := H
             try dsimp only at H
             have A31 := Aside0.mk A310
             clear A310
             by_cases c32 : x3_1.size + t150.size ≤ 9223372036854775807
             ·
              rw [if_pos c32] at H
              have c32b0 := eq_true c32
              have c32b1 : decide (x3_1.size + t150.size ≤ 9223372036854775807) = true := decide_eq_true c32
              try have c32b2 : (9223372036854775807 < x3_1.size + t150.size) = False := eq_false (Nat.not_lt.2 c32)
              have H' := Aside0.mk H
              clear H
              obtain ⟨hcz33_0, hcz33_1, hcz33_2, hcz33_3, hcz33_4, hcz33_5, hcz33_6, hcz33_7, hcz33_8, hcz33_9, hfz33_0, hfz33_1, hfz33_2, hfz33_3, hfz33_4, hfz33_5, hfz33_6, hfz33_7, hfz33_8, hfz33_9⟩ := Lib.cel10 (W := wr) BK140.out
              have p149 : 0 ≤ (x4_1 : Int) := Lib.od
              have q149 : x4_1 < (l0_7.length : Int) := Lib.od
              obtain ⟨ad149, e149, hx149_0⟩ := Kd.at_int HR0_7.out x4_1 p149 q149
              cases e149
              replace hx149_0 := (HB.out.cell (World.block_lt_of_cell? w _ hx149_0)).trans hx149_0
              replace p149 := eq_true p149
              replace q149 := eq_true q149
              go_wp2_with (first | ((with_reducible refine gate_callee (f := 27) rfl ?_); refine goesL_ (some 53) rfl rfl Try.func27 (by kernel_rfl) rfl #[.int .i64 (wrap64 ((rd l0_7 x4_1) + 1)), .int .i64 2] rfl (by (try simp only [List.map_toArray, List.map_cons, List.map_nil]); first | done | rfl | (simp only [List.length_drop, List.length_take]; rfl)) ?_; (with_reducible refine (spec_PutNumber.calls k1 (wrap64 ((rd l0_7 x4_1) + 1)) 2 t150 _ A31.out).mono ?_); rintro e w34 ⟨rfl, hb⟩; refine ⟨_, rfl, ?_⟩; have n0_ := Aside0.mk (blk_below (g := gb140) (o := .cells #[.int .i64 a0_0, .int .i64 a0_1, .int .i64 a0_2, .int .i64 a0_3, .int .i64 a0_4, .int .i64 a0_5, .int .i64 a0_6, .slice (some ad149) l0_7.length c0_7, .slice A0_8 l0_8.length c0_8, .slice A0_9 l0_9.length c0_9] 25 (0, 0)) (by exact Lib.bk BK140.out) hb); have n1_ := Aside0.mk (below_step (by exact Lib.bs HB.out GE140.out) hb); clear BK140; clear HB; have BK140 := n0_; have HB := n1_; clear n0_ n1_; (try clear hb); (try clear hb2); (try clear hk); (try clear hi)))
              go_roundg k1
              case measure => have := HK1.out; omega
              case rel => exact ⟨(x3_1 ++ t150), (wrap64 (x4_1 + 1)), (by first | rfl | (simp; done) | (simp [*]; done)), (by first | rfl | (simp; done) | (simp [*]; done)), H', ⟨by have := HK1.out; omega⟩, ⟨by exact Lib.bk BK140.out⟩, ⟨by exact Lib.bs HB.out GE140.out⟩⟩
             ·
              rw [if_neg c32] at H
              exact absurd H (by simp)
            ·
             rw [if_neg c30] at H
             exact absurd H (by simp)
           ·
            rw [if_neg c29] at H
            have c29b0 : decide (x4_1 < (l0_7.length : Int)) = false := decide_eq_false c29
            clear c29
            replace H := Option.bind_eq_some_iff.mp H
            obtain ⟨t151, A350, H⟩ := H
            try dsimp only at H
            have A35 := Aside0.mk A350
            clear A350
            by_cases c36 : x3_1.size + t151.size ≤ 9223372036854775807
            ·
             rw [if_pos c36] at H
             have c36b0 := eq_true c36
             have c36b1 : decide (x3_1.size + t151.size ≤ 9223372036854775807) = true := decide_eq_true c36
             try have c36b2 : (9223372036854775807 < x3_1.size + t151.size) = False := eq_false (Nat.not_lt.2 c36)
             have H' := Aside0.mk H
             clear H
             obtain ⟨hcz37_0, hcz37_1, hcz37_2, hcz37_3, hcz37_4, hcz37_5, hcz37_6, hcz37_7, hcz37_8, hcz37_9, hfz37_0, hfz37_1, hfz37_2, hfz37_3, hfz37_4, hfz37_5, hfz37_6, hfz37_7, hfz37_8, hfz37_9⟩ := Lib.cel10 (W := wr) BK140.out
             go_wp2_with (first | ((with_reducible refine gate_callee (f := 27) rfl ?_); refine goesL_ (some 53) rfl rfl Try.func27 (by kernel_rfl) rfl #[.int .i64 ((-1) + 1), .int .i64 2] rfl (by (try simp only [List.map_toArray, List.map_cons, List.map_nil]); first | done | rfl | (simp only [List.length_drop, List.length_take]; rfl)) ?_; (with_reducible refine (spec_PutNumber.calls k1 ((-1) + 1) 2 t151 _ A35.out).mono ?_); rintro e w38 ⟨rfl, hb⟩; refine ⟨_, rfl, ?_⟩; have n0_ := Aside0.mk (blk_below (g := gb140) (o := .cells #[.int .i64 a0_0, .int .i64 a0_1, .int .i64 a0_2, .int .i64 a0_3, .int .i64 a0_4, .int .i64 a0_5, .int .i64 a0_6, .slice A0_7 l0_7.length c0_7, .slice A0_8 l0_8.length c0_8, .slice A0_9 l0_9.length c0_9] 25 (0, 0)) (by exact Lib.bk BK140.out) hb); have n1_ := Aside0.mk (below_step (by exact Lib.bs HB.out GE140.out) hb); clear BK140; clear HB; have BK140 := n0_; have HB := n1_; clear n0_ n1_; (try clear hb); (try clear hb2); (try clear hk); (try clear hi)))
             go_roundg k1
             case measure => have := HK1.out; omega
             case rel => exact ⟨(x3_1 ++ t151), (wrap64 (x4_1 + 1)), (by first | rfl | (simp; done) | (simp [*]; done)), (by first | rfl | (simp; done) | (simp [*]; done)), H', ⟨by have := HK1.out; omega⟩, ⟨by exact Lib.bk BK140.out⟩, ⟨by exact Lib.bs HB.out GE140.out⟩⟩
            ·
             rw [if_neg c36] at H
             exact absurd H (by simp)
          ·
           rw [if_neg c28] at H
           have c28b0 : decide (x4_1 < 8) = false := decide_eq_false c28
           clear c28
           replace H := Option.bind_eq_some_iff.mp H
           obtain ⟨t152, A390, H⟩ := H
           try dsimp only at H
           have A39 := Aside0.mk A390
           clear A390
           by_cases c40 : x3_1.size + t152.size ≤ 9223372036854775807
           ·
            rw [if_pos c40] at H
            have c40b0 := eq_true c40
            have c40b1 : decide (x3_1.size + t152.size ≤ 9223372036854775807) = true := decide_eq_true c40
            try have c40b2 : (9223372036854775807 < x3_1.size + t152.size) = False := eq_false (Nat.not_lt.2 c40)
            replace H := Option.bind_eq_some_iff.mp H
            obtain ⟨t153, A410, H⟩ := H
            try dsimp only at H
            have A41 := Aside0.mk A410
            clear A410
            by_cases c42 : (x3_1 ++ t152).size + t153.size ≤ 9223372036854775807
            ·
             rw [if_pos c42] at H
             have c42b0 := eq_true c42
             have c42b1 : decide ((x3_1 ++ t152).size + t153.size ≤ 9223372036854775807) = true := decide_eq_true c42
             try have c42b2 : (9223372036854775807 < (x3_1 ++ t152).size + t153.size) = False := eq_false (Nat.not_lt.2 c42)
             try (have c42b3 := c42b2; simp only [ByteArray.size_append] at c42b3)
             replace H := Option.bind_eq_some_iff.mp H
             obtain ⟨t154, A430, H⟩ := H
             replace H : (some t154) = some r := H
             have A43 := Aside0.mk A430
             clear A430
             obtain rfl := Option.some.inj H
             try go_wp2
             have n0_ := Aside0.mk (blk_drew BK140.out)
             have n1_ := Aside0.mk (below_drew1 HB.out)
             clear BK140
             clear HB
             have BK140 := n0_
             have HB := n1_
             clear n0_ n1_
             refine start_ (n := 11) (S := fun w' => w'.cell? ⟨gb140, 0, none⟩ = some (.int .i64 a0_0) ∧ w'.cell? ⟨gb140, 1, none⟩ = some (.int .i64 a0_1) ∧ w'.cell? ⟨gb140, 2, none⟩ = some (.int .i64 a0_2) ∧ w'.cell? ⟨gb140, 3, none⟩ = some (.int .i64 a0_3) ∧ w'.cell? ⟨gb140, 4, none⟩ = some (.int .i64 a0_4) ∧ w'.cell? ⟨gb140, 5, none⟩ = some (.int .i64 a0_5) ∧ w'.cell? ⟨gb140, 6, none⟩ = some (.int .i64 a0_6) ∧ w'.cell? ⟨gb140, 7, none⟩ = some (.slice A0_7 l0_7.length c0_7) ∧ w'.cell? ⟨gb140, 8, none⟩ = some (.slice A0_8 l0_8.length c0_8) ∧ w'.cell? ⟨gb140, 9, none⟩ = some (.slice A0_9 l0_9.length c0_9)) (ds := []) (Lib.tr [0, 11]) (by kernel_rfl) rfl rfl ⟨(blk_cell BK140.out 0).trans rfl, (blk_cell BK140.out 1).trans rfl, (blk_cell BK140.out 2).trans rfl, (blk_cell BK140.out 3).trans rfl, (blk_cell BK140.out 4).trans rfl, (blk_cell BK140.out 5).trans rfl, (blk_cell BK140.out 6).trans rfl, (blk_cell BK140.out 7).trans rfl, (blk_cell BK140.out 8).trans rfl, (blk_cell BK140.out 9).trans rfl⟩ (fun hHeld => ?_); refine with_tabW spec_PackInode.tab11 spec_PackInode.bits11 (fun HT_ HW_ => ?_)
             generalize wr.drew = w44 at BK140 HB hHeld ⊢
             refine Lib.pa ?_ 0 55 [1, 10] HT_ rfl rfl (by kernel_rfl) (fun _ _ _ h => h) (by rfl) ?_ ?_ ?_ ?_; rotate_left; (· intro w'; go_simp; with_reducible rfl); rotate_left; (· simp only [Lib.pw, Lib.px, Lib.py, i64_w, i32_w]; rfl)
             refine Lib.pa ?_ 1 56 [2, 9] HT_ rfl rfl (by kernel_rfl) (fun _ _ _ h => h) (by rfl) ?_ ?_ ?_ ?_; rotate_left; (· intro w'; go_simp; with_reducible rfl); rotate_left; (· simp only [Lib.pw, Lib.px, Lib.py, i64_w, i32_w]; rfl)
             refine Lib.pa ?_ 5 60 [2, 3, 1, 5] HT_ rfl rfl (by kernel_rfl) (fun _ _ _ h => h) (by rfl) ?_ ?_ ?_ ?_; rotate_left; (· intro w'; go_simp; with_reducible rfl); rotate_left; (· simp only [Lib.pw, Lib.px, Lib.py, i64_w, i32_w]; rfl)
             refine Lib.pt ?_ 2 57 [3, 2, 1, 5] HT_ HW_ rfl rfl (by kernel_rfl) (fun _ _ _ h => h) (by rfl) ?_ hHeld ?_ ?_ ?_; rotate_left; (· rintro w' ⟨s0, s1, s2, s3, s4, s5, s6, s7, s8, s9⟩; go_simp; with_reducible rfl); rotate_left; (· simp only [Lib.pw, Lib.px, Lib.py, i64_w, i32_w]; rfl)
             refine Lib.pt ?_ 6 61 [3, 2, 2, 4] HT_ HW_ rfl rfl (by kernel_rfl) (fun _ _ _ h => h) (by rfl) ?_ hHeld ?_ ?_ ?_; rotate_left; (· rintro w' ⟨s0, s1, s2, s3, s4, s5, s6, s7, s8, s9⟩; go_simp; with_reducible rfl); rotate_left; (· simp only [Lib.pw, Lib.px, Lib.py, i64_w, i32_w]; rfl)
             refine one_ (i := 3) (N := some 58) (Lib.tr [4, 1, 2, 4]) rfl rfl (one_of HT_.out (by kernel_rfl)) (by decide) (fun K hK => ?_)
             refine goes_ Try.func25 (by kernel_rfl) rfl #[.slice A0_8 l0_8.length c0_8] (by rfl) rfl rfl (by (try simp only [List.map_toArray, List.map_cons, List.map_nil]); first | done | rfl | (simp only [List.length_drop, List.length_take]; rfl)) ?_
             with_reducible refine (spec_PackAcl.calls k1 _ _ l0_8 t152 _ ?side1 ?side2 A39.out).mono ?_
             (case side1 => exact Lib.cx (Kd.C_below HR0_8.out HB.out))
             (case side2 => exact HC0_8.out)
             rintro e w45 ⟨rfl, hb⟩
             refine ⟨_, rfl, ?_⟩
             have n0_ := Aside0.mk (blk_below (g := gb140) (o := .cells #[.int .i64 a0_0, .int .i64 a0_1, .int .i64 a0_2, .int .i64 a0_3, .int .i64 a0_4, .int .i64 a0_5, .int .i64 a0_6, .slice A0_7 l0_7.length c0_7, .slice A0_8 l0_8.length c0_8, .slice A0_9 l0_9.length c0_9] 25 (0, 0)) (by exact Lib.bk BK140.out) hb)
             have n1_ := Aside0.mk (below_step (by exact Lib.bs HB.out GE140.out) hb)
             clear BK140
             clear HB
             have BK140 := n0_
             have HB := n1_
             clear n0_ n1_
             (try clear hb)
             (try clear hb2)
             (try clear hk)
             (try clear hi)
             refine hK.out _ _ ⟨(blk_cell BK140.out 0).trans rfl, (blk_cell BK140.out 1).trans rfl, (blk_cell BK140.out 2).trans rfl, (blk_cell BK140.out 3).trans rfl, (blk_cell BK140.out 4).trans rfl, (blk_cell BK140.out 5).trans rfl, (blk_cell BK140.out 6).trans rfl, (blk_cell BK140.out 7).trans rfl, (blk_cell BK140.out 8).trans rfl, (blk_cell BK140.out 9).trans rfl⟩ (fun hHeld => ?_)
             clear hK K
             refine norm_ (a' := ?_) ?_ ?_
             rotate_left
             ·
              show Act.put _ (some 58) _ = _
              simp only [Lib.pw, Lib.px, Lib.py, i64_w, i32_w]
              rfl
             refine Lib.pa ?_ 4 59 [7, 4] HT_ rfl rfl (by kernel_rfl) (fun _ _ _ h => h) (by rfl) ?_ ?_ ?_ ?_; rotate_left; (· intro w'; go_simp; with_reducible rfl); rotate_left; (· simp only [Lib.pw, Lib.px, Lib.py, i64_w, i32_w]; rfl)
             refine one_ (i := 7) (N := some 62) (Lib.tr [8, 3]) rfl rfl (one_of HT_.out (by kernel_rfl)) (by decide) (fun K hK => ?_)
             refine goes_ Try.func25 (by kernel_rfl) rfl #[.slice A0_9 l0_9.length c0_9] (by rfl) rfl rfl (by (try simp only [List.map_toArray, List.map_cons, List.map_nil]); first | done | rfl | (simp only [List.length_drop, List.length_take]; rfl)) ?_
             with_reducible refine (spec_PackAcl.calls k1 _ _ l0_9 t153 _ ?side1 ?side2 A41.out).mono ?_
             (case side1 => exact Lib.cx (Kd.C_below HR0_9.out HB.out))
             (case side2 => exact HC0_9.out)
             rintro e w46 ⟨rfl, hb⟩
             refine ⟨_, rfl, ?_⟩
             have n0_ := Aside0.mk (blk_below (g := gb140) (o := .cells #[.int .i64 a0_0, .int .i64 a0_1, .int .i64 a0_2, .int .i64 a0_3, .int .i64 a0_4, .int .i64 a0_5, .int .i64 a0_6, .slice A0_7 l0_7.length c0_7, .slice A0_8 l0_8.length c0_8, .slice A0_9 l0_9.length c0_9] 25 (0, 0)) (by exact Lib.bk BK140.out) hb)
             have n1_ := Aside0.mk (below_step (by exact Lib.bs HB.out GE140.out) hb)
             clear BK140
             clear HB
             have BK140 := n0_
             have HB := n1_
             clear n0_ n1_
             (try clear hb)
             (try clear hb2)
             (try clear hk)
             (try clear hi)
             refine hK.out _ _ ⟨(blk_cell BK140.out 0).trans rfl, (blk_cell BK140.out 1).trans rfl, (blk_cell BK140.out 2).trans rfl, (blk_cell BK140.out 3).trans rfl, (blk_cell BK140.out 4).trans rfl, (blk_cell BK140.out 5).trans rfl, (blk_cell BK140.out 6).trans rfl, (blk_cell BK140.out 7).trans rfl, (blk_cell BK140.out 8).trans rfl, (blk_cell BK140.out 9).trans rfl⟩ (fun hHeld => ?_)
             clear hK K
             refine norm_ (a' := ?_) ?_ ?_
             rotate_left
             ·
              show Act.put _ (some 62) _ = _
              simp only [Lib.pw, Lib.px, Lib.py, i64_w, i32_w]
              rfl
             refine Lib.pa ?_ 8 63 [9, 2] HT_ rfl rfl (by kernel_rfl) (fun _ _ _ h => h) (by rfl) ?_ ?_ ?_ ?_; rotate_left; (· intro w'; go_simp; with_reducible rfl); rotate_left; (· simp only [Lib.pw, Lib.px, Lib.py, i64_w, i32_w]; rfl)
             refine one_ (i := 9) (N := some 64) (Lib.tr [10, 1]) rfl rfl (one_of HT_.out (by kernel_rfl)) (by decide) (fun K hK => ?_)
             refine goes_ Try.func28 (by kernel_rfl) rfl #[.string ((x3_1 ++ t152) ++ t153), .int .i64 96] (by rfl) rfl rfl (by (try simp only [List.map_toArray, List.map_cons, List.map_nil]); first | done | rfl | (simp only [List.length_drop, List.length_take]; rfl)) ?_
             with_reducible refine (spec_PadTo.calls k1 ((x3_1 ++ t152) ++ t153) 96 t154 _ A43.out).mono ?_
             rintro e w47 ⟨rfl, hb⟩
             refine ⟨_, rfl, ?_⟩
             have n0_ := Aside0.mk (blk_below (g := gb140) (o := .cells #[.int .i64 a0_0, .int .i64 a0_1, .int .i64 a0_2, .int .i64 a0_3, .int .i64 a0_4, .int .i64 a0_5, .int .i64 a0_6, .slice A0_7 l0_7.length c0_7, .slice A0_8 l0_8.length c0_8, .slice A0_9 l0_9.length c0_9] 25 (0, 0)) (by exact Lib.bk BK140.out) hb)
             have n1_ := Aside0.mk (below_step (by exact Lib.bs HB.out GE140.out) hb)
             clear BK140
             clear HB
             have BK140 := n0_
             have HB := n1_
             clear n0_ n1_
             (try clear hb)
             (try clear hb2)
             (try clear hk)
             (try clear hi)
             refine hK.out _ _ ⟨(blk_cell BK140.out 0).trans rfl, (blk_cell BK140.out 1).trans rfl, (blk_cell BK140.out 2).trans rfl, (blk_cell BK140.out 3).trans rfl, (blk_cell BK140.out 4).trans rfl, (blk_cell BK140.out 5).trans rfl, (blk_cell BK140.out 6).trans rfl, (blk_cell BK140.out 7).trans rfl, (blk_cell BK140.out 8).trans rfl, (blk_cell BK140.out 9).trans rfl⟩ (fun hHeld => ?_)
             clear hK K
             refine norm_ (a' := ?_) ?_ ?_
             rotate_left
             ·
              show Act.put _ (some 64) _ = _
              simp only [Lib.pw, Lib.px, Lib.py, i64_w, i32_w]
              rfl
             refine Lib.pa ?_ 10 2 [11] HT_ rfl rfl (by kernel_rfl) (fun _ _ _ h => h) (by rfl) ?_ ?_ ?_ ?_; rotate_left; (· intro w'; go_simp; with_reducible rfl); rotate_left; (· simp only [Lib.pw, Lib.px, Lib.py, i64_w, i32_w]; rfl)
             refine done_ (done_of HT_.out (by kernel_rfl)) ?_
             try go_wp2
             go_ret
             exact ⟨by first | rfl | (simp [errW_none, errW_some] <;> rfl) | (simp [*, errW_none, errW_some] <;> rfl), by exact Lib.bs HB.out GE140.out⟩
            ·
             rw [if_neg c42] at H
             exact absurd H (by simp)
           ·
            rw [if_neg c40] at H
            exact absurd H (by simp)
       ·
        rw [if_neg c16] at H
        exact absurd H (by simp)
      ·
       rw [if_neg c14] at H
       exact absurd H (by simp)
     ·
      rw [if_neg c12] at H
      exact absurd H (by simp)
    ·
     rw [if_neg c10] at H
     exact absurd H (by simp)
   ·
    rw [if_neg c8] at H
    exact absurd H (by simp)
  ·
   rw [if_neg c6] at H
   exact absurd H (by simp)
 ·
  replace c3 := Bool.eq_false_iff.mpr c3
  subst c3
  have H1 : (some (⟨#[]⟩ : ByteArray)) = some r := by rw [if_neg (show ¬ (false = true) by decide)] at H; exact H
  clear H
  have H := H1
  clear H1
  obtain rfl := Option.some.inj H
  go_enter Try.func12, Try.ntmps12
  go_wp2_with (first | ((with_reducible refine gate_dst (N := 1) rfl ?_); refine box_event ?hg (N := 1) ?hd (cs := #[.int .i64 a0_0, .int .i64 a0_1, .int .i64 a0_2, .int .i64 a0_3, .int .i64 a0_4, .int .i64 a0_5, .int .i64 a0_6, .slice A0_7 l0_7.length c0_7, .slice A0_8 l0_8.length c0_8, .slice A0_9 l0_9.length c0_9]) (t := 25) ?hr ?_; (case hd => rfl); (case hg => rfl); (case hr => first | (go_simp; done) | (go_simp; rfl)); intro gb140 hg w48 hbox hb; have n0_ := Aside0.mk (below_step (by exact Lib.bw HB.out) hb); have n1_ := Aside0.mk (hbox); have n2_ := Aside0.mk ((by rw [hg]; exact (below_size (by exact Lib.bw HB.out)) : w.heap.size ≤ gb140)); have n3_ := Aside0.mk ((by rw [hg]; exact (below_size (by exact Lib.bw HB.out)) : w.heap.size ≤ gb140)); clear HB; have HB := n0_; have BK140 := n1_; have GW140 := n2_; have GE140 := n3_; clear n0_ n1_ n2_ n3_; clear hb hbox hg; obtain ⟨hcz49_0, hcz49_1, hcz49_2, hcz49_3, hcz49_4, hcz49_5, hcz49_6, hcz49_7, hcz49_8, hcz49_9, hfz49_0, hfz49_1, hfz49_2, hfz49_3, hfz49_4, hfz49_5, hfz49_6, hfz49_7, hfz49_8, hfz49_9⟩ := Lib.cel10 (W := w48) BK140.out) | ((with_reducible refine gate_callee (f := 26) rfl ?_); refine goesL_ (some 7) rfl rfl Try.func26 (by kernel_rfl) rfl #[.agg #[.int .i64 a0_0, .int .i64 a0_1, .int .i64 a0_2, .int .i64 a0_3, .int .i64 a0_4, .int .i64 a0_5, .int .i64 a0_6, .slice A0_7 l0_7.length c0_7, .slice A0_8 l0_8.length c0_8, .slice A0_9 l0_9.length c0_9]] rfl (by (try simp only [List.map_toArray, List.map_cons, List.map_nil]); first | done | rfl | (simp only [List.length_drop, List.length_take]; rfl)) ?_; (with_reducible refine (spec_IsInode.calls k a0_0 a0_1 a0_2 a0_3 a0_4 a0_5 a0_6 _ _ l0_7 _ _ l0_8 _ _ l0_9 false _ ?side1 ?side2 ?side3 ?side4 ?side5 ?side6 A2.out).mono ?_); (case side1 => exact Lib.cx (Kd.C_below HR0_7.out HB.out)); (case side2 => exact HC0_7.out); (case side3 => exact Lib.cx (Kd.C_below HR0_8.out HB.out)); (case side4 => exact HC0_8.out); (case side5 => exact Lib.cx (Kd.C_below HR0_9.out HB.out)); (case side6 => exact HC0_9.out); rintro e w50 ⟨rfl, hb⟩; refine ⟨_, rfl, ?_⟩; have n0_ := Aside0.mk (blk_below (g := gb140) (o := .cells #[.int .i64 a0_0, .int .i64 a0_1, .int .i64 a0_2, .int .i64 a0_3, .int .i64 a0_4, .int .i64 a0_5, .int .i64 a0_6, .slice A0_7 l0_7.length c0_7, .slice A0_8 l0_8.length c0_8, .slice A0_9 l0_9.length c0_9] 25 (0, 0)) (by exact Lib.bk BK140.out) hb); have n1_ := Aside0.mk (below_step (by exact Lib.bs HB.out GE140.out) hb); clear BK140; clear HB; have BK140 := n0_; have HB := n1_; clear n0_ n1_; (try clear hb); (try clear hb2); (try clear hk); (try clear hi)))
  go_ret
  exact ⟨by first | rfl | (simp [errW_none, errW_some] <;> rfl) | (simp [*, errW_none, errW_some] <;> rfl), by exact Lib.bs HB.out GE140.out⟩

end Go.Proofs.Ytbgkeeaccfabaaa.PFnExactUnpackInode
