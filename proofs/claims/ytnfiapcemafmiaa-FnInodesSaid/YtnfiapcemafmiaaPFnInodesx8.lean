-- Written by a program of this session over Lean's own print of the program.
import Derived.Test.YtnfiapcemafmiaaPFnInodesx0
import Derived.Test.YtnfiapcemafmiaaPFnInodesx2
import Derived.Test.YtnfiapcemafmiaaPFnInodesx6
import Derived.Test.YtnfiapcemafmiaaPFnInodesx7
namespace Go.Proofs.Ytnfiapcemafmiaa.PFnInodes
open Go.RowKit Go.Proofs.YtnfiapcemafmiaaW.PrintWords Go.Proofs.YtnfiapcemafmiaaW.PrintLast Go.Proofs.YtnfiapcemafmiaaW.PrintMore
attribute [local go_sem] max2_int min2_int max_two min_two max_three min_three max_four min_four   -- for this text's walks alone
set_option linter.unusedVariables false
set_option linter.unusedSimpArgs false

/-! ### impl_UnpackInode: function 13 -/
/-- The closure of impl.UnpackInode: takes a number of the string, and goes on in it. -/
theorem impl_UnpackInode.take (k : Nat) {gs ga : Nat} (s : ByteArray) (at_ wd at' : Int) (g : Int × Bool) (w0 w : World) (hs : w.heap[gs]? = some (.cells #[.string s] 9 (0, 0))) (ha : w.heap[ga]? = some (.cells #[.int .i64 at_] 3 (0, 0))) (hg : w0.heap.size ≤ ga) (hb : Below w0.heap.size w0 w) (hat : wrap64 (at_ + wd) = at') (h : impl_GetNumber.f k s at_ wd = some g) :
 Calls Try.prog 52 #[.int .i64 wd, .pointer (some ⟨gs, 0, none⟩), .pointer (some ⟨ga, 0, none⟩)] w fun e w' => e = .returned (.int .i64 g.1) ∧ w'.heap[ga]? = some (.cells #[.int .i64 at'] 3 (0, 0)) ∧ (∀ b, b ≠ ga → b < w.heap.size → w'.heap[b]? = w.heap[b]?) ∧ w.heap.size ≤ w'.heap.size ∧ Below w0.heap.size w0 w' := by
 have h0 : w.cell? ⟨gs, 0, none⟩ = some (.string s) := (blk_cell hs 0).trans rfl
 have h1 : w.cell? ⟨ga, 0, none⟩ = some (.int .i64 at_) := (blk_cell ha 0).trans rfl
 have h2 := blk_frozen ha 0
 have HA := Aside0.mk ha
 have HG := Aside0.mk hg
 have HB := Aside0.mk hb
 have HT := Aside0.mk hat
 have HH := Aside0.mk h
 clear ha hg hb hat h hs
 go_enter Try.func52, Try.ntmps52
 go_wp2_with (first | ((with_reducible refine gate_callee (f := 53) rfl ?_); refine goesL_ (some 11) rfl rfl Try.func53 (by kernel_rfl) rfl #[.string s, .int .i64 at_, .int .i64 wd] rfl (by simp only [List.map_toArray, List.map_cons, List.map_nil]; rfl) ?_; refine (impl_GetNumber.calls k s at_ wd g.1 g.2 w HH.out).mono ?_; rintro e w' ⟨rfl, ⟨nd, rfl⟩⟩; refine ⟨_, rfl, ?_⟩))
 go_ret
 refine ⟨rfl, ?_, fun b hb1 _ => ?_, ?_, ?_⟩
 ·
  rw [← HT.out]
  exact blk_put HA.out 0 _ rfl
 ·
  exact Below.heap_setCell _ _ _ b hb1
 ·
  simp [World.setCell]
 ·
  exact below_set (pw_below_drewN HB.out _) HG.out
theorem impl_UnpackInode.newblk (w : World) (o : Obj) : (w.alloc o).heap[w.heap.size]? = some o := by
 show (w.heap.push o)[w.heap.size]? = some o
 simp
section
variable {w : World} {g : Nat} {t : TypeId} {u0 u1 u2 u3 u4 u5 u6 u7 u8 u9 : Value}
/-- Ten cells of a block, written one behind the other. -/
abbrev impl_UnpackInode.at10 (w : World) (g : Nat) (v0 v1 v2 v3 v4 v5 v6 v7 v8 v9 : Value) : World := (((((((((w.setCell ⟨g, 0, none⟩ v0).setCell ⟨g, 1, none⟩ v1).setCell ⟨g, 2, none⟩ v2).setCell ⟨g, 3, none⟩ v3).setCell ⟨g, 4, none⟩ v4).setCell ⟨g, 5, none⟩ v5).setCell ⟨g, 6, none⟩ v6).setCell ⟨g, 7, none⟩ v7).setCell ⟨g, 8, none⟩ v8).setCell ⟨g, 9, none⟩ v9
theorem impl_UnpackInode.put10 (h : w.heap[g]? = some (.cells #[u0, u1, u2, u3, u4, u5, u6, u7, u8, u9] t (0, 0))) (v0 v1 v2 v3 v4 v5 v6 v7 v8 v9 : Value) : (impl_UnpackInode.at10 w g v0 v1 v2 v3 v4 v5 v6 v7 v8 v9).heap[g]? = some (.cells #[v0, v1, v2, v3, v4, v5, v6, v7, v8, v9] t (0, 0)) := by
 refine blk_put (cs := #[v0, v1, v2, v3, v4, v5, v6, v7, v8, u9]) ?_ 9 _ rfl
 refine blk_put (cs := #[v0, v1, v2, v3, v4, v5, v6, v7, u8, u9]) ?_ 8 _ rfl
 refine blk_put (cs := #[v0, v1, v2, v3, v4, v5, v6, u7, u8, u9]) ?_ 7 _ rfl
 refine blk_put (cs := #[v0, v1, v2, v3, v4, v5, u6, u7, u8, u9]) ?_ 6 _ rfl
 refine blk_put (cs := #[v0, v1, v2, v3, v4, u5, u6, u7, u8, u9]) ?_ 5 _ rfl
 refine blk_put (cs := #[v0, v1, v2, v3, u4, u5, u6, u7, u8, u9]) ?_ 4 _ rfl
 refine blk_put (cs := #[v0, v1, v2, u3, u4, u5, u6, u7, u8, u9]) ?_ 3 _ rfl
 refine blk_put (cs := #[v0, v1, u2, u3, u4, u5, u6, u7, u8, u9]) ?_ 2 _ rfl
 refine blk_put (cs := #[v0, u1, u2, u3, u4, u5, u6, u7, u8, u9]) ?_ 1 _ rfl
 refine blk_put (cs := #[u0, u1, u2, u3, u4, u5, u6, u7, u8, u9]) ?_ 0 _ rfl
 exact h
theorem impl_UnpackInode.below10 {w0 : World} (h : Below w0.heap.size w0 w) (hg : w0.heap.size ≤ g) (v0 v1 v2 v3 v4 v5 v6 v7 v8 v9 : Value) : Below w0.heap.size w0 (impl_UnpackInode.at10 w g v0 v1 v2 v3 v4 v5 v6 v7 v8 v9) :=
 below_set (below_set (below_set (below_set (below_set (below_set (below_set (below_set (below_set (below_set h hg) hg) hg) hg) hg) hg) hg) hg) hg) hg
theorem impl_UnpackInode.far10 {α : Type} {d : Kd α} {e base : Nat} {ok : Nat → Prop} {v : Value} {xs : List α} (h : d.R e w base ok v xs) (g : Nat) (hok : ∀ k, ok k → k ≠ g) (v0 v1 v2 v3 v4 v5 v6 v7 v8 v9 : Value) : d.R e (impl_UnpackInode.at10 w g v0 v1 v2 v3 v4 v5 v6 v7 v8 v9) base ok v xs :=
 Kd.R_far (p := ⟨g, 9, none⟩) (Kd.R_far (p := ⟨g, 8, none⟩) (Kd.R_far (p := ⟨g, 7, none⟩) (Kd.R_far (p := ⟨g, 6, none⟩) (Kd.R_far (p := ⟨g, 5, none⟩) (Kd.R_far (p := ⟨g, 4, none⟩) (Kd.R_far (p := ⟨g, 3, none⟩) (Kd.R_far (p := ⟨g, 2, none⟩) (Kd.R_far (p := ⟨g, 1, none⟩) (Kd.R_far (p := ⟨g, 0, none⟩) h hok _) hok _) hok _) hok _) hok _) hok _) hok _) hok _) hok _) hok _
end
def impl_UnpackInode.blk (k : Nat) (s : ByteArray) (size : Int) : List Nat → List Int → Option (List Int)
 | [], acc => some acc
 | i :: l, acc => (impl_GetNumber.f k s (13 + 2 * (i : Int)) 2).bind fun g => impl_UnpackInode.blk k s size l (if (i : Int) < Lib.needB size then acc ++ [wrap64 (g.1 - 1)] else acc)
theorem impl_UnpackInode.blk_mono (s : ByteArray) (size : Int) (k : Nat) : ∀ (l : List Nat) (acc : List Int), LeO (impl_UnpackInode.blk k s size l acc) (impl_UnpackInode.blk (k + 1) s size l acc)
 | [], _ => LeO.refl _
 | i :: l, acc => by
  unfold impl_UnpackInode.blk
  exact LeO.bind (impl_GetNumber.mono _ _ _ _) fun _ => impl_UnpackInode.blk_mono s size k l _
/-- impl.UnpackInode. -/
def impl_UnpackInode.f (k : Nat) (s : ByteArray) : Option (Int × Int × Int × Int × Int × Int × Int × List Int × List (S107) × List (S107) × Bool) := if s.size = 96 then (impl_GetNumber.f k s 0 1).bind fun g0_ => (impl_GetNumber.f k s 1 2).bind fun g1_ => (impl_GetNumber.f k s 3 1).bind fun g2_ => (impl_GetNumber.f k s 4 1).bind fun g3_ => (impl_GetNumber.f k s 5 2).bind fun g4_ => (impl_GetNumber.f k s 7 2).bind fun g5_ => (impl_GetNumber.f k s 9 4).bind fun g6_ => (impl_UnpackInode.blk k s g5_.1 (List.range 8) []).bind fun b => (impl_UnpackAcl.f k (s.extract 29 48)).bind fun x => (impl_UnpackAcl.f k (s.extract 48 67)).bind fun y => (impl_PackInode.f k g0_.1 g1_.1 g2_.1 g3_.1 g4_.1 g5_.1 g6_.1 b x.1 y.1).bind fun p => some (if (!x.2 || !y.2 || p.toList != s.toList) = true then (0, 0, 0, 0, 0, 0, 0, [], [], [], false) else (g0_.1, g1_.1, g2_.1, g3_.1, g4_.1, g5_.1, g6_.1, b, x.1, y.1, true)) else some (0, 0, 0, 0, 0, 0, 0, [], [], [], false)
theorem impl_UnpackInode.mono : ∀ a0 k, LeO (impl_UnpackInode.f k a0) (impl_UnpackInode.f (k + 1) a0) := by
 intro a0 k
 unfold impl_UnpackInode.f
 exact LeO.ite (LeO.bind (impl_GetNumber.mono _ _ _ _) fun _ => LeO.bind (impl_GetNumber.mono _ _ _ _) fun _ => LeO.bind (impl_GetNumber.mono _ _ _ _) fun _ => LeO.bind (impl_GetNumber.mono _ _ _ _) fun _ => LeO.bind (impl_GetNumber.mono _ _ _ _) fun _ => LeO.bind (impl_GetNumber.mono _ _ _ _) fun _ => LeO.bind (impl_GetNumber.mono _ _ _ _) fun _ => LeO.bind (impl_UnpackInode.blk_mono _ _ _ _ _) fun _ => LeO.bind (impl_UnpackAcl.mono _ _) fun _ => LeO.bind (impl_UnpackAcl.mono _ _) fun _ => LeO.bind (impl_PackInode.mono _ _ _ _ _ _ _ _ _ _ _) fun _ => LeO.refl _) (LeO.refl _)
set_option maxHeartbeats 8000000 in
set_option maxRecDepth 100000 in
theorem impl_UnpackInode.calls (k : Nat) (a0 : ByteArray) (r1 : Int) (r2 : Int) (r3 : Int) (r4 : Int) (r5 : Int) (r6 : Int) (r7 : Int) (r8 : List Int) (r9 : List (S107)) (r10 : List (S107)) (r11 : Bool) (w : World) (h : impl_UnpackInode.f k a0 = some (r1, r2, r3, r4, r5, r6, r7, r8, r9, r10, r11)) :
 Calls Try.prog 13 #[.string a0] w fun e w' => ∃ v7_ v8_ v9_ : Value, e = .returned (.tuple #[.agg #[.int .i64 r1, .int .i64 r2, .int .i64 r3, .int .i64 r4, .int .i64 r5, .int .i64 r6, .int .i64 r7, v7_, v8_, v9_], .bool r11]) ∧ Kd.R (Kd.int .i64) 3 w' w.heap.size (fun _ => True) v7_ r8 ∧ Kd.R k107 107 w' w.heap.size (fun k_ => some k_ ≠ (v9_ : Value).ownBlock) v8_ r9 ∧ Kd.R k107 107 w' w.heap.size (fun k_ => some k_ ≠ (v8_ : Value).ownBlock) v9_ r10 ∧ Below w.heap.size w w' := by
 have hu := Try.underlying25
 have hmf : ∀ (fn : Fn) (first cap : Array Value) (W : World), (Instr.makeFunc fn first cap).run Try.prog W = .ok (.func fn first cap) W := fun _ _ _ _ => rfl
 unfold impl_UnpackInode.f at h
 by_cases c : a0.size = 96
 rotate_left
 ·
  rw [if_neg c] at h
  simp only [Option.some.injEq, Prod.mk.injEq] at h
  obtain ⟨rfl, rfl, rfl, rfl, rfl, rfl, rfl, rfl, rfl, rfl, rfl⟩ := h
  have b0 : ((a0.size : Int) != 96) = true := bne_iff_ne.mpr (by omega)
  clear c
  go_enter Try.func13, Try.ntmps13
  go_wp2_with (first | ((with_reducible refine gate_dst (N := 1) rfl ?_); refine box_event rfl (N := 1) rfl (cs := #[.string a0]) (t := 9) (by first | (go_simp; done) | (go_simp; rfl)) ?_; intro gs hgs w1 hx hb; have BS := Aside0.mk hx; have HB := Aside0.mk hb; have GS_ : Aside0 (w.heap.size ≤ gs) := ⟨by rw [hgs]; exact Nat.le_refl _⟩; clear hgs hx hb) | ((with_reducible refine gate_dst (N := 2) rfl ?_); refine box_event rfl (N := 2) rfl (cs := #[.int .i64 0, .int .i64 0, .int .i64 0, .int .i64 0, .int .i64 0, .int .i64 0, .int .i64 0, .slice none 0 0, .slice none 0 0, .slice none 0 0]) (t := 25) (by first | (go_simp; done) | (go_simp; rfl)) ?_; intro g2 hg2 w2 hx hb; have z0 := (blk_cell (blk_below BS.out hb) 0).trans rfl; have BS := Aside0.mk (blk_below BS.out hb); have B2 := Aside0.mk hx; have G2 : Aside0 (w.heap.size ≤ g2) := ⟨by rw [hg2]; exact HB.out.size⟩; have HB := Aside0.mk (below_step HB.out hb); obtain ⟨p0, p1, p2, p3, p4, p5, p6, p7, p8, p9, q0, q1, q2, q3, q4, q5, q6, q7, q8, q9⟩ := Lib.cel10 B2.out; clear hg2 hx hb))
  refine bodyPost_ret (results_ct rfl _ _ g2 25 #[.int .i64 0, .int .i64 0, .int .i64 0, .int .i64 0, .int .i64 0, .int .i64 0, .int .i64 0, .slice none 0 0, .slice none 0 0, .slice none 0 0] (0, 0) _ rfl (impl_UnpackInode.put10 B2.out _ _ _ _ _ _ _ _ _ _) Try.underlying25 rfl (by kernel_rfl)) rfl ?_
  exact ⟨_, _, _, rfl, Kd.R_nil _ _ _ _ _, Kd.R_nil _ _ _ _ _, Kd.R_nil _ _ _ _ _, impl_UnpackInode.below10 HB.out G2.out _ _ _ _ _ _ _ _ _ _⟩
 rw [if_pos c] at h
 obtain ⟨g0_, hg0_, h⟩ := Option.bind_eq_some_iff.1 h
 obtain ⟨g1_, hg1_, h⟩ := Option.bind_eq_some_iff.1 h
 obtain ⟨g2_, hg2_, h⟩ := Option.bind_eq_some_iff.1 h
 obtain ⟨g3_, hg3_, h⟩ := Option.bind_eq_some_iff.1 h
 obtain ⟨g4_, hg4_, h⟩ := Option.bind_eq_some_iff.1 h
 obtain ⟨g5_, hg5_, h⟩ := Option.bind_eq_some_iff.1 h
 obtain ⟨g6_, hg6_, h⟩ := Option.bind_eq_some_iff.1 h
 obtain ⟨b, hb, h⟩ := Option.bind_eq_some_iff.1 h
 obtain ⟨x, hx, h⟩ := Option.bind_eq_some_iff.1 h
 obtain ⟨y, hy, h⟩ := Option.bind_eq_some_iff.1 h
 obtain ⟨p, hp, h⟩ := Option.bind_eq_some_iff.1 h
 have Hg0_ := Aside0.mk hg0_
 have Hg1_ := Aside0.mk hg1_
 have Hg2_ := Aside0.mk hg2_
 have Hg3_ := Aside0.mk hg3_
 have Hg4_ := Aside0.mk hg4_
 have Hg5_ := Aside0.mk hg5_
 have Hg6_ := Aside0.mk hg6_
 have Hb := Aside0.mk hb
 have Hx := Aside0.mk hx
 have Hy := Aside0.mk hy
 have Hp := Aside0.mk hp
 have HH := Aside0.mk (Option.some.inj h)
 have b0 : ((a0.size : Int) != 96) = false := bne_eq_false_iff_eq.mpr (by omega)
 have HC := Aside0.mk c
 clear hg0_ hg1_ hg2_ hg3_ hg4_ hg5_ hg6_ hb hx hy hp h c
 go_enter Try.func13, Try.ntmps13
 go_upto_region 5 with (first | ((with_reducible refine gate_dst (N := 1) rfl ?_); refine box_event rfl (N := 1) rfl (cs := #[.string a0]) (t := 9) (by first | (go_simp; done) | (go_simp; rfl)) ?_; intro gs hgs w1 hx hb; have BS := Aside0.mk hx; have HB := Aside0.mk hb; have GS_ : Aside0 (w.heap.size ≤ gs) := ⟨by rw [hgs]; exact Nat.le_refl _⟩; clear hgs hx hb) | ((with_reducible refine gate_dst (N := 2) rfl ?_); refine box_event rfl (N := 2) rfl (cs := #[.int .i64 0, .int .i64 0, .int .i64 0, .int .i64 0, .int .i64 0, .int .i64 0, .int .i64 0, .slice none 0 0, .slice none 0 0, .slice none 0 0]) (t := 25) (by first | (go_simp; done) | (go_simp; rfl)) ?_; intro g2 hg2 w2 hx hb; have z0 := (blk_cell (blk_below BS.out hb) 0).trans rfl; have BS := Aside0.mk (blk_below BS.out hb); have B2 := Aside0.mk hx; have G2 : Aside0 (w.heap.size ≤ g2) := ⟨by rw [hg2]; exact HB.out.size⟩; have HB := Aside0.mk (below_step HB.out hb); clear hg2 hx hb))
 obtain ⟨w3, hw3⟩ : ∃ w3, w3 = w2.alloc (.cells #[.int .i64 0] 3 (0, 0)) := ⟨_, rfl⟩
 obtain ⟨ga, hga⟩ : ∃ g, g = w2.heap.size := ⟨_, rfl⟩
 rw [← hga, ← hw3]
 have BA : Aside0 (w3.heap[ga]? = some (.cells #[.int .i64 0] 3 (0, 0))) := ⟨by rw [hw3, hga]; exact impl_UnpackInode.newblk _ _⟩
 have NE : Aside0 (gs ≠ ga ∧ g2 ≠ ga) := ⟨by rw [hga]; exact ⟨Nat.ne_of_lt (by have := blk_lt BS.out; omega), Nat.ne_of_lt (by have := blk_lt B2.out; omega)⟩⟩
 have GA : Aside0 (w.heap.size ≤ ga) := ⟨by rw [hga]; exact HB.out.size⟩
 replace BS := Aside0.mk (hw3 ▸ blk_alloc BS.out (.cells #[.int .i64 0] 3 (0, 0)))
 replace B2 := Aside0.mk (hw3 ▸ blk_alloc B2.out (.cells #[.int .i64 0] 3 (0, 0)))
 replace HB := Aside0.mk (hw3 ▸ below_alloc HB.out (.cells #[.int .i64 0] 3 (0, 0)))
 clear hw3 hga
 go_upto_block 0 with (first | ((with_reducible refine Lib.gate_slot (s := 18) rfl ?_); refine Lib.goesClos_ (.tmp 18) rfl (some 19) rfl rfl Try.func52 (by kernel_rfl) rfl #[.int .i64 1, .pointer (some ⟨gs, 0, none⟩), .pointer (some ⟨ga, 0, none⟩)] rfl (by simp; rfl) ?_; refine (impl_UnpackInode.take k a0 0 1 1 g0_ w _ BS.out BA.out GA.out (Lib.bw HB.out) (Lib.w64 (by decide) (by decide)) Hg0_.out).mono ?_; rintro e w' ⟨rfl, ha', far, sz, hb'⟩; have BS := Aside0.mk ((far _ NE.out.1 (blk_lt BS.out)).trans BS.out); have B2 := Aside0.mk ((far _ NE.out.2 (blk_lt B2.out)).trans B2.out); have BA := Aside0.mk ha'; have HB := Aside0.mk hb'; clear ha' hb' far sz; refine ⟨_, rfl, ?_⟩) | ((with_reducible refine Lib.gate_slot (s := 20) rfl ?_); refine Lib.goesClos_ (.tmp 20) rfl (some 21) rfl rfl Try.func52 (by kernel_rfl) rfl #[.int .i64 2, .pointer (some ⟨gs, 0, none⟩), .pointer (some ⟨ga, 0, none⟩)] rfl (by simp; rfl) ?_; refine (impl_UnpackInode.take k a0 1 2 3 g1_ w _ BS.out BA.out GA.out (Lib.bw HB.out) (Lib.w64 (by decide) (by decide)) Hg1_.out).mono ?_; rintro e w' ⟨rfl, ha', far, sz, hb'⟩; have BS := Aside0.mk ((far _ NE.out.1 (blk_lt BS.out)).trans BS.out); have B2 := Aside0.mk ((far _ NE.out.2 (blk_lt B2.out)).trans B2.out); have BA := Aside0.mk ha'; have HB := Aside0.mk hb'; clear ha' hb' far sz; refine ⟨_, rfl, ?_⟩) | ((with_reducible refine Lib.gate_slot (s := 22) rfl ?_); refine Lib.goesClos_ (.tmp 22) rfl (some 23) rfl rfl Try.func52 (by kernel_rfl) rfl #[.int .i64 1, .pointer (some ⟨gs, 0, none⟩), .pointer (some ⟨ga, 0, none⟩)] rfl (by simp; rfl) ?_; refine (impl_UnpackInode.take k a0 3 1 4 g2_ w _ BS.out BA.out GA.out (Lib.bw HB.out) (Lib.w64 (by decide) (by decide)) Hg2_.out).mono ?_; rintro e w' ⟨rfl, ha', far, sz, hb'⟩; have BS := Aside0.mk ((far _ NE.out.1 (blk_lt BS.out)).trans BS.out); have B2 := Aside0.mk ((far _ NE.out.2 (blk_lt B2.out)).trans B2.out); have BA := Aside0.mk ha'; have HB := Aside0.mk hb'; clear ha' hb' far sz; refine ⟨_, rfl, ?_⟩) | ((with_reducible refine Lib.gate_slot (s := 24) rfl ?_); refine Lib.goesClos_ (.tmp 24) rfl (some 25) rfl rfl Try.func52 (by kernel_rfl) rfl #[.int .i64 1, .pointer (some ⟨gs, 0, none⟩), .pointer (some ⟨ga, 0, none⟩)] rfl (by simp; rfl) ?_; refine (impl_UnpackInode.take k a0 4 1 5 g3_ w _ BS.out BA.out GA.out (Lib.bw HB.out) (Lib.w64 (by decide) (by decide)) Hg3_.out).mono ?_; rintro e w' ⟨rfl, ha', far, sz, hb'⟩; have BS := Aside0.mk ((far _ NE.out.1 (blk_lt BS.out)).trans BS.out); have B2 := Aside0.mk ((far _ NE.out.2 (blk_lt B2.out)).trans B2.out); have BA := Aside0.mk ha'; have HB := Aside0.mk hb'; clear ha' hb' far sz; refine ⟨_, rfl, ?_⟩) | ((with_reducible refine Lib.gate_slot (s := 26) rfl ?_); refine Lib.goesClos_ (.tmp 26) rfl (some 27) rfl rfl Try.func52 (by kernel_rfl) rfl #[.int .i64 2, .pointer (some ⟨gs, 0, none⟩), .pointer (some ⟨ga, 0, none⟩)] rfl (by simp; rfl) ?_; refine (impl_UnpackInode.take k a0 5 2 7 g4_ w _ BS.out BA.out GA.out (Lib.bw HB.out) (Lib.w64 (by decide) (by decide)) Hg4_.out).mono ?_; rintro e w' ⟨rfl, ha', far, sz, hb'⟩; have BS := Aside0.mk ((far _ NE.out.1 (blk_lt BS.out)).trans BS.out); have B2 := Aside0.mk ((far _ NE.out.2 (blk_lt B2.out)).trans B2.out); have BA := Aside0.mk ha'; have HB := Aside0.mk hb'; clear ha' hb' far sz; refine ⟨_, rfl, ?_⟩) | ((with_reducible refine Lib.gate_slot (s := 28) rfl ?_); refine Lib.goesClos_ (.tmp 28) rfl (some 29) rfl rfl Try.func52 (by kernel_rfl) rfl #[.int .i64 2, .pointer (some ⟨gs, 0, none⟩), .pointer (some ⟨ga, 0, none⟩)] rfl (by simp; rfl) ?_; refine (impl_UnpackInode.take k a0 7 2 9 g5_ w _ BS.out BA.out GA.out (Lib.bw HB.out) (Lib.w64 (by decide) (by decide)) Hg5_.out).mono ?_; rintro e w' ⟨rfl, ha', far, sz, hb'⟩; have BS := Aside0.mk ((far _ NE.out.1 (blk_lt BS.out)).trans BS.out); have B2 := Aside0.mk ((far _ NE.out.2 (blk_lt B2.out)).trans B2.out); have BA := Aside0.mk ha'; have HB := Aside0.mk hb'; clear ha' hb' far sz; refine ⟨_, rfl, ?_⟩) | ((with_reducible refine Lib.gate_slot (s := 30) rfl ?_); refine Lib.goesClos_ (.tmp 30) rfl (some 31) rfl rfl Try.func52 (by kernel_rfl) rfl #[.int .i64 4, .pointer (some ⟨gs, 0, none⟩), .pointer (some ⟨ga, 0, none⟩)] rfl (by simp; rfl) ?_; refine (impl_UnpackInode.take k a0 9 4 13 g6_ w _ BS.out BA.out GA.out (Lib.bw HB.out) (Lib.w64 (by decide) (by decide)) Hg6_.out).mono ?_; rintro e w' ⟨rfl, ha', far, sz, hb'⟩; have BS := Aside0.mk ((far _ NE.out.1 (blk_lt BS.out)).trans BS.out); have B2 := Aside0.mk ((far _ NE.out.2 (blk_lt B2.out)).trans B2.out); have BA := Aside0.mk ha'; have HB := Aside0.mk hb'; clear ha' hb' far sz; refine ⟨_, rfl, ?_⟩))
 obtain ⟨w6, hw6⟩ : ∃ W, W = World.alloc w' (.cells #[.int .i64 g0_.1, .int .i64 g1_.1, .int .i64 g2_.1, .int .i64 g3_.1, .int .i64 g4_.1, .int .i64 g5_.1, .int .i64 g6_.1, (.slice none 0 0), (.slice none 0 0), (.slice none 0 0)] 25 (0, 0)) := ⟨_, rfl⟩
 obtain ⟨g6, hg6⟩ : ∃ g, g = w'.heap.size := ⟨_, rfl⟩
 rw [← hg6, ← hw6]
 have B6 : Aside0 (w6.heap[g6]? = some (.cells #[.int .i64 g0_.1, .int .i64 g1_.1, .int .i64 g2_.1, .int .i64 g3_.1, .int .i64 g4_.1, .int .i64 g5_.1, .int .i64 g6_.1, (.slice none 0 0), (.slice none 0 0), (.slice none 0 0)] 25 (0, 0))) := ⟨by rw [hw6, hg6]; exact impl_UnpackInode.newblk _ _⟩
 have N6 : Aside0 (gs < g6 ∧ g2 < g6 ∧ ga < g6) := ⟨by rw [hg6]; exact ⟨blk_lt BS.out, blk_lt B2.out, blk_lt BA.out⟩⟩
 have G6 : Aside0 (w.heap.size ≤ g6) := ⟨by rw [hg6]; exact HB.out.size⟩
 replace BS := Aside0.mk (hw6 ▸ blk_alloc BS.out (.cells #[.int .i64 g0_.1, .int .i64 g1_.1, .int .i64 g2_.1, .int .i64 g3_.1, .int .i64 g4_.1, .int .i64 g5_.1, .int .i64 g6_.1, (.slice none 0 0), (.slice none 0 0), (.slice none 0 0)] 25 (0, 0)))
 replace B2 := Aside0.mk (hw6 ▸ blk_alloc B2.out (.cells #[.int .i64 g0_.1, .int .i64 g1_.1, .int .i64 g2_.1, .int .i64 g3_.1, .int .i64 g4_.1, .int .i64 g5_.1, .int .i64 g6_.1, (.slice none 0 0), (.slice none 0 0), (.slice none 0 0)] 25 (0, 0)))
 replace BA := Aside0.mk (hw6 ▸ blk_alloc BA.out (.cells #[.int .i64 g0_.1, .int .i64 g1_.1, .int .i64 g2_.1, .int .i64 g3_.1, .int .i64 g4_.1, .int .i64 g5_.1, .int .i64 g6_.1, (.slice none 0 0), (.slice none 0 0), (.slice none 0 0)] 25 (0, 0)))
 replace HB := Aside0.mk (hw6 ▸ below_alloc HB.out (.cells #[.int .i64 g0_.1, .int .i64 g1_.1, .int .i64 g2_.1, .int .i64 g3_.1, .int .i64 g4_.1, .int .i64 g5_.1, .int .i64 g6_.1, (.slice none 0 0), (.slice none 0 0), (.slice none 0 0)] 25 (0, 0)))
 clear hw6 hg6
 try go_wp2
 go_loopg [33] 9 (fun kq v33 w' => ∃ (i : Nat) (acc : List Int) (u : Value), v33 = .int .i64 (i : Int) ∧ Aside0 (i + kq = 9 ∧ i ≤ 8 ∧ acc.length ≤ i) ∧ Aside0 (impl_UnpackInode.blk k a0 g5_.1 ((List.range 8).drop i) acc = some b) ∧ Aside0 (Kd.R (Kd.int .i64) 3 w' w.heap.size (fun q => g6 < q) u acc) ∧ Aside0 (w'.heap[gs]? = some (.cells #[.string a0] 9 (0, 0))) ∧ Aside0 (w'.heap[g2]? = some (.cells #[.int .i64 0, .int .i64 0, .int .i64 0, .int .i64 0, .int .i64 0, .int .i64 0, .int .i64 0, .slice none 0 0, .slice none 0 0, .slice none 0 0] 25 (0, 0))) ∧ Aside0 (w'.heap[ga]? = some (.cells #[.int .i64 (13 + 2 * (i : Int))] 3 (0, 0))) ∧ Aside0 (w'.heap[g6]? = some (.cells #[.int .i64 g0_.1, .int .i64 g1_.1, .int .i64 g2_.1, .int .i64 g3_.1, .int .i64 g4_.1, .int .i64 g5_.1, .int .i64 g6_.1, u, (.slice none 0 0), (.slice none 0 0)] 25 (0, 0))) ∧ Aside0 (Below w.heap.size w w'))
 case atStart => exact ⟨0, [], .slice none 0 0, rfl, ⟨by simp⟩, Hb, ⟨Kd.R_nil _ _ _ _ _⟩, BS, B2, BA, B6, HB⟩
 case round =>
  obtain ⟨i, acc, u, rfl, HM, HK, HR, BS, B2, BA, B6, HB⟩ := hrel
  cases gk with
  | zero => exact absurd HM.out (by omega)
  | succ k1 =>
   by_cases c : i < 8
   ·
    have H := HK.out
    rw [show (List.range 8).drop i = i :: (List.range 8).drop (i + 1) from by rw [List.drop_eq_getElem_cons (by simpa using c)]; simp] at H
    unfold impl_UnpackInode.blk at H
    obtain ⟨g, hg, H⟩ := Option.bind_eq_some_iff.1 H
    have Hg := Aside0.mk hg
    have b0 : decide ((i : Int) < 8) = true := decide_eq_true (by omega)
    have HW : Aside0 (wrap64 (13 + 2 * (i : Int) + 2) = 13 + 2 * ((i + 1 : Nat) : Int)) := ⟨by rw [Lib.w64 (by omega) (by omega)]; omega⟩
    clear hg HK
    by_cases d : (i : Int) < Lib.needB g5_.1
    ·
     rw [if_pos d] at H
     have HH2 := Aside0.mk H
     have b1 : decide ((i : Int) < Lib.needB g5_.1) = true := decide_eq_true d
     have HC2 := Aside0.mk c
     clear H c d
     go_wp2_with (first | ((with_reducible refine Lib.gate_slot (s := 36) rfl ?_); refine Lib.goesClos_ (.tmp 36) rfl (some 37) rfl rfl Try.func52 (by kernel_rfl) rfl #[.int .i64 2, .pointer (some ⟨gs, 0, none⟩), .pointer (some ⟨ga, 0, none⟩)] rfl (by simp; rfl) ?_; refine (impl_UnpackInode.take k a0 (13 + 2 * (i : Int)) 2 (13 + 2 * ((i + 1 : Nat) : Int)) g w _ BS.out BA.out GA.out (Lib.bw HB.out) HW.out Hg.out).mono ?_; rintro e w1 ⟨rfl, ha', far, sz, hb'⟩; have HR := Aside0.mk (Kd.R_step HR.out (fun q hq hlt => far q (by have := N6.out; omega) hlt)); have BS := Aside0.mk ((far _ NE.out.1 (blk_lt BS.out)).trans BS.out); have B2 := Aside0.mk ((far _ NE.out.2 (blk_lt B2.out)).trans B2.out); have B6 := Aside0.mk ((far _ (by have := N6.out; omega) (blk_lt B6.out)).trans B6.out); have BA := Aside0.mk ha'; have HB := Aside0.mk hb'; clear ha' hb' far sz; obtain ⟨p0, p1, p2, p3, p4, p5, p6, p7, p8, p9, q0, q1, q2, q3, q4, q5, q6, q7, q8, q9⟩ := Lib.cel10 B6.out; refine ⟨_, rfl, ?_⟩) | ((with_reducible refine gate_callee (f := 39) rfl ?_); refine goesL_ (some 42) rfl rfl Try.func39 (by kernel_rfl) rfl #[.int .i64 g5_.1] rfl (by simp only [List.map_toArray, List.map_cons, List.map_nil]; rfl) ?_; refine (impl_BlocksNeeded.calls g5_.1 (Lib.needB g5_.1) _ (by unfold impl_BlocksNeeded.f Lib.needB; split <;> rfl)).mono ?_; rintro e w2 ⟨rfl, ⟨nd, rfl⟩⟩; refine ⟨_, rfl, ?_⟩) | ((with_reducible refine gate_builtin (b := .append) (xs := #[.tmp 45, .tmp 47]) rfl ?_); at_builtin; refine Kd.R_append (Kd.int .i64) (w0 := w) w.heap.size rfl (.tmp 45) (.tmp 47) 22 3 (.int .i64 0) 8 rfl Try.underlying22 info3 rfl (by decide) (by omega) u acc (wrap64 (g.1 - 1)) [.int .i64 (wrap64 (g.1 - 1))] (fun q => g6 < q) (fun _ => False) rfl rfl ?aP (fun _ hk => hk.elim) ?aF ?aO ?aB ?aS ?aL ?_; (case aP => exact rfl); (case aB => exact Lib.bw HB.out); (case aF => exact fun q hq => Nat.lt_of_lt_of_le (blk_lt (Lib.bk B6.out)) hq); (case aO => exact Lib.cr HR.out); (case aS => exact (Lib.bw HB.out).size); (case aL => have := HM.out; omega); intro v w3 ho hb hgr hat; have BS := Aside0.mk (blk_grown (Lib.bk BS.out) hgr (fun e => by have := HR.out.1 _ e.symm; have := N6.out; omega)); have B2 := Aside0.mk (blk_grown (Lib.bk B2.out) hgr (fun e => by have := HR.out.1 _ e.symm; have := N6.out; omega)); have BA := Aside0.mk (blk_grown (Lib.bk BA.out) hgr (fun e => by have := HR.out.1 _ e.symm; have := N6.out; omega)); have B6 := Aside0.mk (blk_grown (Lib.bk B6.out) hgr (fun e => by have := HR.out.1 _ e.symm; omega)); have HB := Aside0.mk hb; have HR := Aside0.mk ho; clear ho hb hgr hat; obtain ⟨A, cc, ev⟩ := Kd.R_slice HR.out; replace ev : v = .slice A (acc.length + 1) cc := ev.trans (by rw [List.length_append]; rfl); subst ev; obtain ⟨p0, p1, p2, p3, p4, p5, p6, p7, p8, p9, q0, q1, q2, q3, q4, q5, q6, q7, q8, q9⟩ := Lib.cel10 B6.out))
     go_roundg k1
     case measure => have := HM.out; omega
     case rel =>
      have hc := HC2.out
      have hm := HM.out
      have hw : wrap64 ((i : Int) + 1) = ((i + 1 : Nat) : Int) := by rw [Lib.w64 (by omega) (by omega)]; omega
      exact ⟨i + 1, acc ++ [wrap64 (g.1 - 1)], .slice A (acc.length + 1) cc, (by first | rfl | (rw [hw]; done) | (simp only [hw]; done) | simp [hw]), ⟨by rw [List.length_append]; simp only [List.length_cons, List.length_nil]; omega⟩, HH2, ⟨Kd.R_far HR.out (fun q hq => Nat.ne_of_gt hq) _⟩, ⟨blk_far BS.out (Nat.ne_of_lt N6.out.1) _⟩, ⟨blk_far B2.out (Nat.ne_of_lt N6.out.2.1) _⟩, ⟨blk_far BA.out (Nat.ne_of_lt N6.out.2.2) _⟩, ⟨blk_put B6.out 7 _ rfl⟩, ⟨Lib.bs HB.out G6.out⟩⟩
    ·
     rw [if_neg d] at H
     have HH2 := Aside0.mk H
     have b1 : decide ((i : Int) < Lib.needB g5_.1) = false := decide_eq_false d
     have HC2 := Aside0.mk c
     clear H c d
     go_wp2_with (first | ((with_reducible refine Lib.gate_slot (s := 36) rfl ?_); refine Lib.goesClos_ (.tmp 36) rfl (some 37) rfl rfl Try.func52 (by kernel_rfl) rfl #[.int .i64 2, .pointer (some ⟨gs, 0, none⟩), .pointer (some ⟨ga, 0, none⟩)] rfl (by simp; rfl) ?_; refine (impl_UnpackInode.take k a0 (13 + 2 * (i : Int)) 2 (13 + 2 * ((i + 1 : Nat) : Int)) g w _ BS.out BA.out GA.out (Lib.bw HB.out) HW.out Hg.out).mono ?_; rintro e w1 ⟨rfl, ha', far, sz, hb'⟩; have HR := Aside0.mk (Kd.R_step HR.out (fun q hq hlt => far q (by have := N6.out; omega) hlt)); have BS := Aside0.mk ((far _ NE.out.1 (blk_lt BS.out)).trans BS.out); have B2 := Aside0.mk ((far _ NE.out.2 (blk_lt B2.out)).trans B2.out); have B6 := Aside0.mk ((far _ (by have := N6.out; omega) (blk_lt B6.out)).trans B6.out); have BA := Aside0.mk ha'; have HB := Aside0.mk hb'; clear ha' hb' far sz; obtain ⟨p0, p1, p2, p3, p4, p5, p6, p7, p8, p9, q0, q1, q2, q3, q4, q5, q6, q7, q8, q9⟩ := Lib.cel10 B6.out; refine ⟨_, rfl, ?_⟩) | ((with_reducible refine gate_callee (f := 39) rfl ?_); refine goesL_ (some 42) rfl rfl Try.func39 (by kernel_rfl) rfl #[.int .i64 g5_.1] rfl (by simp only [List.map_toArray, List.map_cons, List.map_nil]; rfl) ?_; refine (impl_BlocksNeeded.calls g5_.1 (Lib.needB g5_.1) _ (by unfold impl_BlocksNeeded.f Lib.needB; split <;> rfl)).mono ?_; rintro e w2 ⟨rfl, ⟨nd, rfl⟩⟩; refine ⟨_, rfl, ?_⟩))
     go_roundg k1
     case measure => have := HM.out; omega
     case rel =>
      have hc := HC2.out
      have hm := HM.out
      have hw : wrap64 ((i : Int) + 1) = ((i + 1 : Nat) : Int) := by rw [Lib.w64 (by omega) (by omega)]; omega
      exact ⟨i + 1, acc, u, (by first | rfl | (rw [hw]; done) | (simp only [hw]; done) | simp [hw]), ⟨by omega⟩, HH2, ⟨Lib.cr HR.out⟩, ⟨Lib.bk BS.out⟩, ⟨Lib.bk B2.out⟩, ⟨Lib.bk BA.out⟩, ⟨Lib.bk B6.out⟩, ⟨Lib.bw HB.out⟩⟩
   ·
    have hi : i = 8 := by have := HM.out; omega
    subst hi
    have hb : acc = b := by have H := HK.out; rw [List.drop_eq_nil_of_le (by simp)] at H; exact Option.some.inj H
    subst hb
    have b0 : decide (((8 : Nat) : Int) < 8) = false := by decide
    clear HK c HM Hb
    replace BA : Aside0 (wr.heap[ga]? = some (.cells #[.int .i64 29] 3 (0, 0))) := BA
    have G7 : Aside0 (w.heap.size ≤ wr.heap.size) := ⟨HB.out.size⟩
    obtain ⟨A7, c7, e7⟩ := Kd.R_slice HR.out
    subst e7
    have y0 := (blk_cell BA.out 0).trans rfl
    have z0 := (blk_cell BS.out 0).trans rfl
    have l1 : (48 : Int) ≤ (a0.size : Int) := by have := HC.out; omega
    have l2 : (67 : Int) ≤ (a0.size : Int) := by have := HC.out; omega
    have l3 := decide_eq_true l1
    have l4 := decide_eq_true l2
    replace l1 := eq_true l1
    replace l2 := eq_true l2
    go_upto_region 16 with (first | ((with_reducible refine gate_callee (f := 54) rfl ?_); refine goesL_ (some 57) rfl rfl Try.func54 (by kernel_rfl) rfl #[.string (a0.extract 29 48)] rfl (by simp only [List.map_toArray, List.map_cons, List.map_nil]; rfl) ?_; refine (impl_UnpackAcl.calls k (a0.extract 29 48) x.1 x.2 _ Hx.out).mono ?_; rintro e w1 ⟨vx, rfl, ho, hb⟩; have Rx : Aside0 (Kd.R k107 107 w1 w.heap.size (fun q => g6 < q ∧ q < w1.heap.size) vx x.1) := ⟨Kd.R_lower (Kd.R_mono (Kd.R_bound ho) (fun q hq => ⟨Nat.lt_of_lt_of_le (blk_lt B6.out) hq.2.1, hq.2.2.1⟩)) G7.out⟩; have HR := Aside0.mk (Kd.R_below HR.out hb); have N1 : Aside0 (w.heap.size ≤ w1.heap.size) := ⟨Nat.le_trans G7.out hb.size⟩; have BS := Aside0.mk (blk_below BS.out hb); have B2 := Aside0.mk (blk_below B2.out hb); have BA := Aside0.mk (blk_below BA.out hb); have B6 := Aside0.mk (blk_below B6.out hb); have HB := Aside0.mk (below_step HB.out hb); clear ho hb; have y0 := (blk_cell BA.out 0).trans rfl; have z0 := (blk_cell BS.out 0).trans rfl; obtain ⟨Ax, cx, ex⟩ := Kd.R_slice Rx.out; subst ex; refine ⟨_, rfl, ?_⟩) | ((with_reducible refine gate_callee (f := 54) rfl ?_); refine goesL_ (some 67) rfl rfl Try.func54 (by kernel_rfl) rfl #[.string (a0.extract 48 67)] rfl (by simp only [List.map_toArray, List.map_cons, List.map_nil]; rfl) ?_; refine (impl_UnpackAcl.calls k (a0.extract 48 67) y.1 y.2 _ Hy.out).mono ?_; rintro e w2 ⟨vy, rfl, ho, hb⟩; have Ry : Aside0 (Kd.R k107 107 w2 w.heap.size (fun q => w1.heap.size ≤ q) vy y.1) := ⟨Kd.R_lower (Kd.R_mono (Kd.R_bound ho) (fun q hq => hq.2.1)) N1.out⟩; have N2 : Aside0 (g6 < w1.heap.size) := ⟨blk_lt B6.out⟩; have HR := Aside0.mk (Kd.R_below HR.out hb); have Rx := Aside0.mk (Kd.R_below Rx.out hb); have BS := Aside0.mk (blk_below BS.out hb); have B2 := Aside0.mk (blk_below B2.out hb); have BA := Aside0.mk (blk_below BA.out hb); have B6 := Aside0.mk (blk_below B6.out hb); have HB := Aside0.mk (below_step HB.out hb); clear ho hb; have y0 := (blk_cell BA.out 0).trans rfl; have z0 := (blk_cell BS.out 0).trans rfl; obtain ⟨Ay, cy, ey⟩ := Kd.R_slice Ry.out; subst ey; obtain ⟨p0, p1, p2, p3, p4, p5, p6, p7, p8, p9, q0, q1, q2, q3, q4, q5, q6, q7, q8, q9⟩ := Lib.cel10 B6.out; refine ⟨_, rfl, ?_⟩))
    obtain ⟨w3, hw3⟩ : ∃ W, W = (w2.setCell ⟨g6, 8, none⟩ (.slice Ax x.1.length cx)).setCell ⟨g6, 9, none⟩ (.slice Ay y.1.length cy) := ⟨_, rfl⟩
    rw [← hw3]
    replace B6 : Aside0 (w3.heap[g6]? = some (.cells #[.int .i64 g0_.1, .int .i64 g1_.1, .int .i64 g2_.1, .int .i64 g3_.1, .int .i64 g4_.1, .int .i64 g5_.1, .int .i64 g6_.1, (.slice A7 acc.length c7), (.slice Ax x.1.length cx), (.slice Ay y.1.length cy)] 25 (0, 0))) := ⟨hw3 ▸ blk_put (blk_put B6.out 8 _ rfl) 9 _ rfl⟩
    replace BS := Aside0.mk (hw3 ▸ blk_far (p := ⟨g6, 9, none⟩) (blk_far (p := ⟨g6, 8, none⟩) BS.out (Nat.ne_of_lt N6.out.1) (.slice Ax x.1.length cx)) (Nat.ne_of_lt N6.out.1) (.slice Ay y.1.length cy))
    replace B2 := Aside0.mk (hw3 ▸ blk_far (p := ⟨g6, 9, none⟩) (blk_far (p := ⟨g6, 8, none⟩) B2.out (Nat.ne_of_lt N6.out.2.1) (.slice Ax x.1.length cx)) (Nat.ne_of_lt N6.out.2.1) (.slice Ay y.1.length cy))
    replace HR := Aside0.mk (hw3 ▸ Kd.R_far (p := ⟨g6, 9, none⟩) (Kd.R_far (p := ⟨g6, 8, none⟩) HR.out (fun q hq => Nat.ne_of_gt hq) (.slice Ax x.1.length cx)) (fun q hq => Nat.ne_of_gt hq) (.slice Ay y.1.length cy))
    replace Rx := Aside0.mk (hw3 ▸ Kd.R_far (p := ⟨g6, 9, none⟩) (Kd.R_far (p := ⟨g6, 8, none⟩) Rx.out (fun q hq => Nat.ne_of_gt hq.1) (.slice Ax x.1.length cx)) (fun q hq => Nat.ne_of_gt hq.1) (.slice Ay y.1.length cy))
    replace Ry := Aside0.mk (hw3 ▸ Kd.R_far (p := ⟨g6, 9, none⟩) (Kd.R_far (p := ⟨g6, 8, none⟩) Ry.out (fun q hq => Nat.ne_of_gt (Nat.lt_of_lt_of_le N2.out hq)) (.slice Ax x.1.length cx)) (fun q hq => Nat.ne_of_gt (Nat.lt_of_lt_of_le N2.out hq)) (.slice Ay y.1.length cy))
    replace HB := Aside0.mk (hw3 ▸ below_set (j := 9) (v := .slice Ay y.1.length cy) (below_set (j := 8) (v := .slice Ax x.1.length cx) HB.out G6.out) G6.out)
    clear hw3
    go_cut [85] (fun v wc => v = .bool (!x.2 || !y.2 || p.toList != a0.toList) ∧ Aside0 (Below w3.heap.size w3 wc))
    case first =>
     have HM : ∀ W, Below w3.heap.size w3 W → (W.cell? ⟨gs, 0, none⟩ = some (.string a0) ∧ W.cell? ⟨g6, 0, none⟩ = some (.int .i64 g0_.1) ∧ W.cell? ⟨g6, 1, none⟩ = some (.int .i64 g1_.1) ∧ W.cell? ⟨g6, 2, none⟩ = some (.int .i64 g2_.1) ∧ W.cell? ⟨g6, 3, none⟩ = some (.int .i64 g3_.1) ∧ W.cell? ⟨g6, 4, none⟩ = some (.int .i64 g4_.1) ∧ W.cell? ⟨g6, 5, none⟩ = some (.int .i64 g5_.1) ∧ W.cell? ⟨g6, 6, none⟩ = some (.int .i64 g6_.1) ∧ W.cell? ⟨g6, 7, none⟩ = some (.slice A7 acc.length c7) ∧ W.cell? ⟨g6, 8, none⟩ = some (.slice Ax x.1.length cx) ∧ W.cell? ⟨g6, 9, none⟩ = some (.slice Ay y.1.length cy)) := fun W hb => ⟨(blk_cell (blk_below BS.out hb) 0).trans rfl, (blk_cell (blk_below B6.out hb) 0).trans rfl, (blk_cell (blk_below B6.out hb) 1).trans rfl, (blk_cell (blk_below B6.out hb) 2).trans rfl, (blk_cell (blk_below B6.out hb) 3).trans rfl, (blk_cell (blk_below B6.out hb) 4).trans rfl, (blk_cell (blk_below B6.out hb) 5).trans rfl, (blk_cell (blk_below B6.out hb) 6).trans rfl, (blk_cell (blk_below B6.out hb) 7).trans rfl, (blk_cell (blk_below B6.out hb) 8).trans rfl, (blk_cell (blk_below B6.out hb) 9).trans rfl⟩
     refine Lib.q_start w3 Try.f13 (by kernel_rfl) rfl (by kernel_rfl) (Below.refl _ _) ?_
     refine Lib.q (.tmp 10) (.tmp 10) (h := ?_)
     refine Lib.q (.tmp 74) (.tmp 74) (h := ?_)
     refine Lib.q (.tmp 75) (.tmp 75) (h := ?_)
     refine Lib.q (.tmp 12) (.tmp 12) (h := ?_)
     refine Lib.q (.tmp 77) (.tmp 77) (h := ?_)
     refine Lib.q_or (.tmp 76) (.tmp 78) (h := ?_)
     refine Lib.q (.tmp 79) (.tmp 79) (h := ?_)
     refine Lib.q (.tmp 6) (.tmp 6) (h := ?_)
     refine Lib.q_call (.string p) #[.agg #[.int .i64 g0_.1, .int .i64 g1_.1, .int .i64 g2_.1, .int .i64 g3_.1, .int .i64 g4_.1, .int .i64 g5_.1, .int .i64 g6_.1, (.slice A7 acc.length c7), (.slice Ax x.1.length cx), (.slice Ay y.1.length cy)]] Try.func35 (hcl := ?_) (h := ?_)
     ·
      exact fun _ W hb => impl_PackInode.calls k g0_.1 g1_.1 g2_.1 g3_.1 g4_.1 g5_.1 g6_.1 A7 c7 acc Ax cx x.1 Ay cy y.1 p W (Kd.C_below (Kd.R_reads' HR.out).2.2 hb) (Kd.R_reads' HR.out).2.1 (Kd.C_below (Kd.R_reads' Rx.out).2.2 hb) (Kd.R_reads' Rx.out).2.1 (Kd.C_below (Kd.R_reads' Ry.out).2.2 hb) (Kd.R_reads' Ry.out).2.1 Hp.out
     refine Lib.q (.tmp 1) (.tmp 1) (h := ?_)
     refine Lib.q (.tmp 82) (.tmp 83) (h := ?_)
     refine Lib.q_or (.tmp 80) (.tmp 84) (h := ?_)
     refine Lib.q_done (fun W hb => ?_)
     try go_wp2
     go_meet
     case rel => exact ⟨rfl, ⟨hb⟩⟩
    case rest =>
     obtain ⟨rfl, HW⟩ := hcut
     replace B6 := Aside0.mk (blk_below B6.out HW.out)
     replace B2 := Aside0.mk (blk_below B2.out HW.out)
     replace HR := Aside0.mk (Kd.R_below HR.out HW.out)
     replace Rx := Aside0.mk (Kd.R_below Rx.out HW.out)
     replace Ry := Aside0.mk (Kd.R_below Ry.out HW.out)
     replace HB := Aside0.mk (below_step HB.out HW.out)
     clear HW
     obtain ⟨p0, p1, p2, p3, p4, p5, p6, p7, p8, p9, q0, q1, q2, q3, q4, q5, q6, q7, q8, q9⟩ := Lib.cel10 B6.out
     obtain ⟨p0, p1, p2, p3, p4, p5, p6, p7, p8, p9, q0, q1, q2, q3, q4, q5, q6, q7, q8, q9⟩ := Lib.cel10 B2.out
     cases hD : (!x.2 || !y.2 || p.toList != a0.toList) with
     | true =>
      have H := HH.out
      rw [hD, if_pos rfl] at H
      simp only [Prod.mk.injEq] at H
      obtain ⟨rfl, rfl, rfl, rfl, rfl, rfl, rfl, rfl, rfl, rfl, rfl⟩ := H
      go_wp2
      refine bodyPost_ret (results_ct rfl _ _ g2 25 #[.int .i64 0, .int .i64 0, .int .i64 0, .int .i64 0, .int .i64 0, .int .i64 0, .int .i64 0, .slice none 0 0, .slice none 0 0, .slice none 0 0] (0, 0) _ rfl (impl_UnpackInode.put10 B2.out _ _ _ _ _ _ _ _ _ _) Try.underlying25 rfl (by kernel_rfl)) rfl ?_
      exact ⟨_, _, _, rfl, Kd.R_nil _ _ _ _ _, Kd.R_nil _ _ _ _ _, Kd.R_nil _ _ _ _ _, impl_UnpackInode.below10 HB.out G2.out _ _ _ _ _ _ _ _ _ _⟩
     | false =>
      have H := HH.out
      rw [hD, if_neg (by decide)] at H
      simp only [Prod.mk.injEq] at H
      obtain ⟨rfl, rfl, rfl, rfl, rfl, rfl, rfl, rfl, rfl, rfl, rfl⟩ := H
      go_wp2
      refine bodyPost_ret (results_ct rfl _ _ g2 25 #[.int .i64 g0_.1, .int .i64 g1_.1, .int .i64 g2_.1, .int .i64 g3_.1, .int .i64 g4_.1, .int .i64 g5_.1, .int .i64 g6_.1, (.slice A7 acc.length c7), (.slice Ax x.1.length cx), (.slice Ay y.1.length cy)] (0, 0) _ rfl (impl_UnpackInode.put10 B2.out _ _ _ _ _ _ _ _ _ _) Try.underlying25 rfl (by kernel_rfl)) rfl ?_
      exact ⟨_, _, _, rfl, Kd.R_mono (impl_UnpackInode.far10 HR.out g2 (fun q hq => by have := N6.out; omega) _ _ _ _ _ _ _ _ _ _) (fun _ _ => trivial), Kd.R_mono (impl_UnpackInode.far10 Rx.out g2 (fun q hq => by have := N6.out; omega) _ _ _ _ _ _ _ _ _ _) (fun q hq e => by have := Ry.out.1 q e.symm; omega), Kd.R_mono (impl_UnpackInode.far10 Ry.out g2 (fun q hq => by have := N6.out; have := N2.out; omega) _ _ _ _ _ _ _ _ _ _) (fun q hq e => by have := Rx.out.1 q e.symm; omega), impl_UnpackInode.below10 HB.out G2.out _ _ _ _ _ _ _ _ _ _⟩

/-! ### spec_BlocksNeeded: function 49 -/
def spec_BlocksNeeded.f (a0 : Int) : Option (Int) := if a0 ≤ 0 then (some 0) else (some (wrap64 ((wrap64 (Int.tdiv (wrap64 (a0 - 1)) 32)) + 1)))
set_option maxHeartbeats 8000000 in
set_option maxRecDepth 100000 in
theorem spec_BlocksNeeded.calls (a0 : Int) (r : Int) (w : World) (h : spec_BlocksNeeded.f a0 = some r) :
 Calls Try.prog 49 #[.int .i64 a0] w fun e w' => e = .returned (.int .i64 r) ∧ Drawn0 w w' := by
 have H : (if a0 ≤ 0 then (some 0) else (some (wrap64 ((wrap64 (Int.tdiv (wrap64 (a0 - 1)) 32)) + 1)))) = some r := h
 clear h
 by_cases c2 : a0 ≤ 0
 ·
  rw [if_pos c2] at H
  have c2b0 : decide (a0 ≤ 0) = true := decide_eq_true c2
  clear c2
  obtain rfl := Option.some.inj H
  go_enter Try.func49, Try.ntmps49
  go_wp2
  go_ret
  exact ⟨by first | rfl | (simp; done) | (simp [*]; done), by repeat (first | exact Drawn0.refl _ | apply Drawn0.step)⟩
 ·
  rw [if_neg c2] at H
  have c2b0 : decide (a0 ≤ 0) = false := decide_eq_false c2
  clear c2
  obtain rfl := Option.some.inj H
  go_enter Try.func49, Try.ntmps49
  go_wp2
  go_ret
  exact ⟨by first | rfl | (simp; done) | (simp [*]; done), by repeat (first | exact Drawn0.refl _ | apply Drawn0.step)⟩

/-- A state of type 142 at block g of W; what its slices lead to came in by w0. -/
def IsS142 (w0 W : World) (g : Nat) (f0 : List Int) (f1 : Int) (f2 : Int) : Prop := ∃ A0 c0, W.heap[g]? = some (.cells #[.slice A0 f0.length c0, .int .i64 f1, .int .i64 f2] 142 (0, 0)) ∧ w0.heap.size ≤ g ∧ Kd.C (Kd.int .u8) w0 A0 f0.length f0
theorem IsS142.grown {w0 W : World} {g : Nat} {f0 : List Int} {f1 : Int} {f2 : Int} {W1 : World} {row : Option Nat} (h : IsS142 w0 W g f0 f1 f2) (hw : W.grownBy W1 row) (hne : some g ≠ row) : IsS142 w0 W1 g f0 f1 f2 := by
 obtain ⟨A0, c0, hb, hg, hr0⟩ := h
 exact ⟨A0, c0, blk_grown hb hw hne, hg, hr0⟩
theorem IsS142.own_neN {w0 W : World} {g : Nat} {f0 : List Int} {f1 : Int} {f2 : Int} {α : Type} {d : Kd α} {e : Nat} {base : Nat} {ok : Nat → Prop} {v : Value} {xs : List α} (h : IsS142 w0 W g f0 f1 f2) (ho : Kd.N d e W base ok v xs) (ht : e ≠ 142) : some g ≠ v.ownBlock := by
 obtain ⟨A0, c0, hb, hg, hr0⟩ := h
 exact Kd.N_ne ho hb ht
theorem IsS142.fresh {w0 W : World} {g : Nat} {f0 : List Int} {f1 : Int} {f2 : Int} (h : IsS142 w0 W g f0 f1 f2) : ∀ k, W.heap.size ≤ k → k ≠ g := by
 obtain ⟨A0, c0, hb, hg, hr0⟩ := h
 exact Kd.freshB hb
theorem IsS142.kept {w0 W : World} {g : Nat} {f0 : List Int} {f1 : Int} {f2 : Int} {W1 : World} {S : Nat → Prop} (h : IsS142 w0 W g f0 f1 f2) (hk : Kept W W1 S) (hne : ¬ S g) : IsS142 w0 W1 g f0 f1 f2 := by
 obtain ⟨A0, c0, hb, hg, hr0⟩ := h
 exact ⟨A0, c0, blk_kept hb hk hne, hg, hr0⟩
theorem IsS142.below {w0 W : World} {g : Nat} {f0 : List Int} {f1 : Int} {f2 : Int} {W1 : World} (h : IsS142 w0 W g f0 f1 f2) (hw : Below W.heap.size W W1) : IsS142 w0 W1 g f0 f1 f2 := h.grown (grown_of_below hw none) (by simp)
theorem IsS142.alloc {w0 W : World} {g : Nat} {f0 : List Int} {f1 : Int} {f2 : Int} (h : IsS142 w0 W g f0 f1 f2) (o : Obj) : IsS142 w0 (W.alloc o) g f0 f1 f2 := h.below (below_alloc (Below.refl _ _) o)
theorem IsS142.drewN {w0 W : World} {g : Nat} {f0 : List Int} {f1 : Int} {f2 : Int} (h : IsS142 w0 W g f0 f1 f2) (m : Nat) : IsS142 w0 (W.drewN m) g f0 f1 f2 := h
theorem IsS142.drew {w0 W : World} {g : Nat} {f0 : List Int} {f1 : Int} {f2 : Int} (h : IsS142 w0 W g f0 f1 f2) : IsS142 w0 W.drew g f0 f1 f2 := h
theorem IsS142.at_ {w0 W : World} {g : Nat} {f0 : List Int} {f1 : Int} {f2 : Int} {w' : World} {m : Nat} (hq : W.drewN m = w') (h : IsS142 w0 W g f0 f1 f2) : IsS142 w0 w' g f0 f1 f2 := by subst hq; exact IsS142.drewN h m
theorem IsS142.apart {w0 W : World} {g : Nat} {f0 : List Int} {f1 : Int} {f2 : Int} {α : Type} {d : Kd α} {e : Nat} {base : Nat} {ok : Nat → Prop} {v : Value} {xs : List α} (h : IsS142 w0 W g f0 f1 f2) (ho : d.R e W base ok v xs) (ht : ∀ q, q ∈ e :: d.E → q ≠ 142) : d.R e W base (fun k => ok k ∧ k ≠ g) v xs := by
 obtain ⟨A0, c0, hb, hg, hr0⟩ := h
 exact Kd.R_types ho hb ht
theorem IsS142.own_ne {w0 W : World} {g : Nat} {f0 : List Int} {f1 : Int} {f2 : Int} {α : Type} {d : Kd α} {e : Nat} {base : Nat} {ok : Nat → Prop} {v : Value} {xs : List α} (h : IsS142 w0 W g f0 f1 f2) (ho : d.R e W base ok v xs) (ht : e ≠ 142) : some g ≠ v.ownBlock := by
 obtain ⟨A0, c0, hb, hg, hr0⟩ := h
 exact Kd.R_ne ho hb ht
theorem IsS142.apartQ {w0 W : World} {g : Nat} {f0 : List Int} {f1 : Int} {f2 : Int} {α : Type} {d : Kd α} {e : Nat} {base : Nat} {ok : Nat → Prop} {v : Value} {xs : List α} (h : IsS142 w0 W g f0 f1 f2) (ho : d.Q e W base ok v xs) (ht : ∀ q, q ∈ e :: d.E → q ≠ 142) : d.Q e W base (fun k => ok k ∧ k ≠ g) v xs := by
 obtain ⟨A0, c0, hb, hg, hr0⟩ := h
 exact Kd.Q_types ho hb ht
theorem IsS142.own_neQ {w0 W : World} {g : Nat} {f0 : List Int} {f1 : Int} {f2 : Int} {α : Type} {d : Kd α} {e : Nat} {base : Nat} {ok : Nat → Prop} {v : Value} {xs : List α} (h : IsS142 w0 W g f0 f1 f2) (ho : d.Q e W base ok v xs) (ht : e ≠ 142) : some g ≠ v.ownBlock := by
 obtain ⟨A0, c0, hb, hg, hr0⟩ := h
 exact Kd.Q_ne ho hb ht
theorem IsS142.apartS {w0 W : World} {g : Nat} {f0 : List Int} {f1 : Int} {f2 : Int} {α : Type} {d : Kd α} {e : Nat} {base : Nat} {ok : Nat → Prop} {v : Value} {xs : List α} (h : IsS142 w0 W g f0 f1 f2) (ho : d.S e W base ok v xs) (ht : ∀ q, q ∈ e :: d.E → q ≠ 142) : d.S e W base (fun k => ok k ∧ k ≠ g) v xs := by
 obtain ⟨A0, c0, hb, hg, hr0⟩ := h
 exact Kd.S_types ho hb ht
theorem IsS142.own_neS {w0 W : World} {g : Nat} {f0 : List Int} {f1 : Int} {f2 : Int} {α : Type} {d : Kd α} {e : Nat} {base : Nat} {ok : Nat → Prop} {v : Value} {xs : List α} (h : IsS142 w0 W g f0 f1 f2) (ho : d.S e W base ok v xs) (ht : e ≠ 142) : some g ≠ v.ownBlock := by
 obtain ⟨A0, c0, hb, hg, hr0⟩ := h
 exact Kd.S_ne ho hb ht
theorem IsS142.lt {w0 W : World} {g : Nat} {f0 : List Int} {f1 : Int} {f2 : Int} (h : IsS142 w0 W g f0 f1 f2) : g < W.heap.size := by
 obtain ⟨A0, c0, hb, hg, hr0⟩ := h
 exact blk_lt hb
theorem IsS142.ge {w0 W : World} {g : Nat} {f0 : List Int} {f1 : Int} {f2 : Int} (h : IsS142 w0 W g f0 f1 f2) : w0.heap.size ≤ g := by
 obtain ⟨A0, c0, hb, hg, hr0⟩ := h
 exact hg
theorem IsS142.ne_blk {w0 W : World} {g : Nat} {f0 : List Int} {f1 : Int} {f2 : Int} {a : Nat} {cs : Array Value} {t : TypeId} {fr : Nat × Nat} (h : IsS142 w0 W g f0 f1 f2) (hb2 : W.heap[a]? = some (.cells cs t fr)) (ht : t ≠ 142) : g ≠ a := by
 obtain ⟨A0, c0, hb, hg, hr0⟩ := h
 rintro rfl
 rw [hb] at hb2
 injection hb2 with hb2
 injection hb2 with _ ht2
 exact ht ht2.symm
theorem IsS142.far {w0 W : World} {g : Nat} {f0 : List Int} {f1 : Int} {f2 : Int} {p : Addr} (h : IsS142 w0 W g f0 f1 f2) (hne : g ≠ p.block) (u : Value) : IsS142 w0 (W.setCell p u) g f0 f1 f2 := by
 obtain ⟨A0, c0, hb, hg, hr0⟩ := h
 exact ⟨A0, c0, blk_far hb hne u, hg, hr0⟩
theorem cellS142_0 {W : World} {g : Nat} {A0 : Option Addr} {c0 : Nat} {f0 : List Int} {f1 : Int} {f2 : Int} (h : W.heap[g]? = some (.cells #[.slice A0 f0.length c0, .int .i64 f1, .int .i64 f2] 142 (0, 0))) : W.cell? ⟨g, 0, none⟩ = some (.slice A0 f0.length c0) := (blk_cell h 0).trans rfl
theorem cellS142_1 {W : World} {g : Nat} {A0 : Option Addr} {c0 : Nat} {f0 : List Int} {f1 : Int} {f2 : Int} (h : W.heap[g]? = some (.cells #[.slice A0 f0.length c0, .int .i64 f1, .int .i64 f2] 142 (0, 0))) : W.cell? ⟨g, 1, none⟩ = some (.int .i64 f1) := (blk_cell h 1).trans rfl
theorem IsS142.set_1 {w0 W : World} {g : Nat} {f0 : List Int} {f1 : Int} {f2 : Int} (h : IsS142 w0 W g f0 f1 f2) (x : Int) : IsS142 w0 (W.setCell ⟨g, 1, none⟩ (.int .i64 x)) g f0 x f2 := by
 obtain ⟨A0, c0, hb, hg, hr0⟩ := h
 exact ⟨A0, c0, by simpa using blk_set hb 1 (.int .i64 x), hg, hr0⟩
theorem cellS142_2 {W : World} {g : Nat} {A0 : Option Addr} {c0 : Nat} {f0 : List Int} {f1 : Int} {f2 : Int} (h : W.heap[g]? = some (.cells #[.slice A0 f0.length c0, .int .i64 f1, .int .i64 f2] 142 (0, 0))) : W.cell? ⟨g, 2, none⟩ = some (.int .i64 f2) := (blk_cell h 2).trans rfl
theorem IsS142.set_2 {w0 W : World} {g : Nat} {f0 : List Int} {f1 : Int} {f2 : Int} (h : IsS142 w0 W g f0 f1 f2) (x : Int) : IsS142 w0 (W.setCell ⟨g, 2, none⟩ (.int .i64 x)) g f0 f1 x := by
 obtain ⟨A0, c0, hb, hg, hr0⟩ := h
 exact ⟨A0, c0, by simpa using blk_set hb 2 (.int .i64 x), hg, hr0⟩
theorem IsS142.new (w0 W : World) (A0 : Option Addr) (c0 : Nat) (f0 : List Int) (f1 : Int) (f2 : Int) (hB : Below w0.heap.size w0 W) (hr0 : Kd.C (Kd.int .u8) w0 A0 f0.length f0) : IsS142 w0 (W.alloc (.cells #[.slice A0 f0.length c0, .int .i64 f1, .int .i64 f2] 142)) W.heap.size f0 f1 f2 := ⟨A0, c0, by simpa using heap_alloc_new W _, hB.size, hr0⟩

/-! ### spec_l01Byte: function 143 -/
def spec_l01Byte.f (s0_0 : List Int) (s0_1 : Int) (s0_2 : Int) : Option (Int × Int × Int) := if s0_1 < (s0_0.length : Int) then (if 0 ≤ s0_1 then (some (Go.bits .and .i64 (wrap64 ((Go.bits .and .i64 (Go.bits .xor .i64 ((wrap64 ((wrap64 (s0_2 * 6364136223846793005)) + 1442695040888963407)) / 8589934592) ((wrap64 ((wrap64 (s0_2 * 6364136223846793005)) + 1442695040888963407)) / 35184372088832)) 255) + (wrap64 (rd s0_0 s0_1)))) 255, wrap64 (s0_1 + 1), wrap64 ((wrap64 (s0_2 * 6364136223846793005)) + 1442695040888963407))) else (none)) else (some (Go.bits .and .i64 (Go.bits .xor .i64 ((wrap64 ((wrap64 (s0_2 * 6364136223846793005)) + 1442695040888963407)) / 8589934592) ((wrap64 ((wrap64 (s0_2 * 6364136223846793005)) + 1442695040888963407)) / 35184372088832)) 255, s0_1, wrap64 ((wrap64 (s0_2 * 6364136223846793005)) + 1442695040888963407)))
set_option maxHeartbeats 8000000 in
set_option maxRecDepth 100000 in
theorem spec_l01Byte.calls (g : Nat) (s0_0 : List Int) (s0_1 : Int) (s0_2 : Int) (r1 : Int) (r2 : Int) (r3 : Int) (w0 w : World) (hI : IsS142 w0 w g s0_0 s0_1 s0_2) (hB : Below w0.heap.size w0 w) (h : spec_l01Byte.f s0_0 s0_1 s0_2 = some (r1, r2, r3)) :
 Calls Try.prog 143 #[.pointer (some ⟨g, 0, none⟩)] w fun e w' => e = .returned (.int .i64 r1) ∧ IsS142 w0 w' g s0_0 r2 r3 ∧ Below w0.heap.size w0 w' ∧ KeepBut w w' g none := by
 have HI0 := Aside0.mk hI
 have HK := Aside0.mk (KeepBut.refl w g none)
 have HL := Aside0.mk hB.size
 clear hI
 have HW0 := Aside0.mk hB.size
 have HB := Aside0.mk hB
 clear hB
 have H : (if s0_1 < (s0_0.length : Int) then (if 0 ≤ s0_1 then (some (Go.bits .and .i64 (wrap64 ((Go.bits .and .i64 (Go.bits .xor .i64 ((wrap64 ((wrap64 (s0_2 * 6364136223846793005)) + 1442695040888963407)) / 8589934592) ((wrap64 ((wrap64 (s0_2 * 6364136223846793005)) + 1442695040888963407)) / 35184372088832)) 255) + (wrap64 (rd s0_0 s0_1)))) 255, wrap64 (s0_1 + 1), wrap64 ((wrap64 (s0_2 * 6364136223846793005)) + 1442695040888963407))) else (none)) else (some (Go.bits .and .i64 (Go.bits .xor .i64 ((wrap64 ((wrap64 (s0_2 * 6364136223846793005)) + 1442695040888963407)) / 8589934592) ((wrap64 ((wrap64 (s0_2 * 6364136223846793005)) + 1442695040888963407)) / 35184372088832)) 255, s0_1, wrap64 ((wrap64 (s0_2 * 6364136223846793005)) + 1442695040888963407)))) = some (r1, r2, r3) := h
 clear h
 by_cases c2 : s0_1 < (s0_0.length : Int)
 ·
  rw [if_pos c2] at H
  have c2b0 : decide (s0_1 < (s0_0.length : Int)) = true := decide_eq_true c2
  clear c2
  by_cases c3 : 0 ≤ s0_1
  ·
   rw [if_pos c3] at H
   have c3b0 : decide (0 ≤ s0_1) = true := decide_eq_true c3
   clear c3
   simp only [Option.some.injEq, Prod.mk.injEq] at H
   obtain ⟨rfl, rfl, rfl⟩ := H
   obtain ⟨ASz4_0, cSz4_0, HGz4, hgz4, HSz4_0⟩ := HI0.out
   have hcz4_0 := cellS142_0 HGz4
   have hcz4_1 := cellS142_1 HGz4
   have hcz4_2 := cellS142_2 HGz4
   have hfz4_1 := blk_frozen HGz4 1
   have hfz4_2 := blk_frozen HGz4 2
   clear HGz4 hgz4
   have p155 : 0 ≤ (s0_1 : Int) := Lib.od
   have q155 : s0_1 < (s0_0.length : Int) := Lib.od
   obtain ⟨ad155, e155, hx155_0⟩ := Kd.at_int HSz4_0 s0_1 p155 q155
   cases e155
   have hn155_0 : ad155.block ≠ g := Nat.ne_of_lt (Nat.lt_of_lt_of_le (by have := World.block_lt_of_cell? _ _ hx155_0; first | rwa [add_block] at this | exact this) (IsS142.ge HI0.out))
   replace hx155_0 := pw_cell_below HB.out hx155_0
   replace hx155_0 := (cell_far (p := ⟨g, 2, none⟩) (by first | (rw [add_block]; exact hn155_0) | (show (Addr.add _ _).block ≠ _; rw [add_block]; exact hn155_0) | exact hn155_0) (.int .i64 (wrap64 ((wrap64 (s0_2 * 6364136223846793005)) + 1442695040888963407)))).trans hx155_0
   (try have hy155_0 := fun (n_ : Nat) => (show (((w.drewN n_).setCell ⟨g, 2, none⟩ (.int .i64 (wrap64 ((wrap64 (s0_2 * 6364136223846793005)) + 1442695040888963407))))).cell? _ = some _ from hx155_0))
   clear hn155_0
   replace p155 := eq_true p155
   replace q155 := eq_true q155
   go_enter Try.func143, Try.ntmps143
   go_wp2
   repeat (go_quiet (fail); try go_wp2)
   go_ret
   exact ⟨by first | rfl | (simp [errW_none, errW_some] <;> rfl) | (simp [*, errW_none, errW_some] <;> rfl), by repeat (first | (with_reducible first | exact HI0.out | apply IsS142.alloc | apply IsS142.drewN | apply IsS142.drew | apply IsS142.set_1 | apply IsS142.set_2) | exact HI0.out), by repeat (first | (with_reducible first | exact HB.out | apply below_alloc | apply pw_below_drewN | apply below_drew1 | refine below_set ?_ (IsS142.ge HI0.out)) | exact HB.out), by repeat (first | (with_reducible first | exact HK.out | apply KeepBut.set_ | apply keep_drewN | apply keep_drew | apply keep_alloc) | exact HK.out)⟩
  ·
   rw [if_neg c3] at H
   exact absurd H (by simp)
 ·
  rw [if_neg c2] at H
  have c2b0 : decide (s0_1 < (s0_0.length : Int)) = false := decide_eq_false c2
  clear c2
  simp only [Option.some.injEq, Prod.mk.injEq] at H
  obtain ⟨rfl, rfl, rfl⟩ := H
  obtain ⟨ASz5_0, cSz5_0, HGz5, hgz5, HSz5_0⟩ := HI0.out
  have hcz5_0 := cellS142_0 HGz5
  have hcz5_1 := cellS142_1 HGz5
  have hcz5_2 := cellS142_2 HGz5
  have hfz5_1 := blk_frozen HGz5 1
  have hfz5_2 := blk_frozen HGz5 2
  clear HGz5 hgz5
  go_enter Try.func143, Try.ntmps143
  go_wp2
  repeat (go_quiet (fail); try go_wp2)
  go_ret
  exact ⟨by first | rfl | (simp [errW_none, errW_some] <;> rfl) | (simp [*, errW_none, errW_some] <;> rfl), by repeat (first | (with_reducible first | exact HI0.out | apply IsS142.alloc | apply IsS142.drewN | apply IsS142.drew | apply IsS142.set_1 | apply IsS142.set_2) | exact HI0.out), by repeat (first | (with_reducible first | exact HB.out | apply below_alloc | apply pw_below_drewN | apply below_drew1 | refine below_set ?_ (IsS142.ge HI0.out)) | exact HB.out), by repeat (first | (with_reducible first | exact HK.out | apply KeepBut.set_ | apply keep_drewN | apply keep_drew | apply keep_alloc) | exact HK.out)⟩

/-! ### spec_l01Below: function 127 -/
def spec_l01Below.f (s0_0 : List Int) (s0_1 : Int) (s0_2 : Int) (a1 : Int) : Option (Int × Int × Int) := if a1 ≤ 0 then (some (0, s0_1, s0_2)) else (if a1 ≤ 256 then ((spec_l01Byte.f s0_0 s0_1 s0_2).bind fun bt156 => (if a1 = 0 then (none) else (some (Int.tmod bt156.1 a1, bt156.2.1, bt156.2.2)))) else ((spec_l01Byte.f s0_0 s0_1 s0_2).bind fun bt159 => ((spec_l01Byte.f s0_0 bt159.2.1 bt159.2.2).bind fun bt162 => ((spec_l01Byte.f s0_0 bt162.2.1 bt162.2.2).bind fun bt165 => ((spec_l01Byte.f s0_0 bt165.2.1 bt165.2.2).bind fun bt168 => (if a1 = 0 then (none) else (some (Int.tmod (wrap64 ((wrap64 ((wrap64 ((wrap64 (bt159.1 * 16777216)) + (wrap64 (bt162.1 * 65536)))) + (wrap64 (bt165.1 * 256)))) + bt168.1)) a1, bt168.2.1, bt168.2.2))))))))
set_option maxHeartbeats 8000000 in
set_option maxRecDepth 100000 in
theorem spec_l01Below.calls (g : Nat) (s0_0 : List Int) (s0_1 : Int) (s0_2 : Int) (a1 : Int) (r1 : Int) (r2 : Int) (r3 : Int) (w0 w : World) (hI : IsS142 w0 w g s0_0 s0_1 s0_2) (hB : Below w0.heap.size w0 w) (h : spec_l01Below.f s0_0 s0_1 s0_2 a1 = some (r1, r2, r3)) :
 Calls Try.prog 127 #[.pointer (some ⟨g, 0, none⟩), .int .i64 a1] w fun e w' => e = .returned (.int .i64 r1) ∧ IsS142 w0 w' g s0_0 r2 r3 ∧ Below w0.heap.size w0 w' ∧ KeepBut w w' g none := by
 have HI0 := Aside0.mk hI
 have HK := Aside0.mk (KeepBut.refl w g none)
 have HL := Aside0.mk hB.size
 clear hI
 have HW0 := Aside0.mk hB.size
 have HB := Aside0.mk hB
 clear hB
 have H : (if a1 ≤ 0 then (some (0, s0_1, s0_2)) else (if a1 ≤ 256 then ((spec_l01Byte.f s0_0 s0_1 s0_2).bind fun bt156 => (if a1 = 0 then (none) else (some (Int.tmod bt156.1 a1, bt156.2.1, bt156.2.2)))) else ((spec_l01Byte.f s0_0 s0_1 s0_2).bind fun bt159 => ((spec_l01Byte.f s0_0 bt159.2.1 bt159.2.2).bind fun bt162 => ((spec_l01Byte.f s0_0 bt162.2.1 bt162.2.2).bind fun bt165 => ((spec_l01Byte.f s0_0 bt165.2.1 bt165.2.2).bind fun bt168 => (if a1 = 0 then (none) else (some (Int.tmod (wrap64 ((wrap64 ((wrap64 ((wrap64 (bt159.1 * 16777216)) + (wrap64 (bt162.1 * 65536)))) + (wrap64 (bt165.1 * 256)))) + bt168.1)) a1, bt168.2.1, bt168.2.2))))))))) = some (r1, r2, r3) := h
 clear h
 by_cases c3 : a1 ≤ 0
 ·
  rw [if_pos c3] at H
  have c3b0 : decide (a1 ≤ 0) = true := decide_eq_true c3
  clear c3
  simp only [Option.some.injEq, Prod.mk.injEq] at H
  obtain ⟨rfl, rfl, rfl⟩ := H
  go_enter Try.func127, Try.ntmps127
  go_wp2
  go_ret
  exact ⟨by first | rfl | (simp [errW_none, errW_some] <;> rfl) | (simp [*, errW_none, errW_some] <;> rfl), by repeat (first | (with_reducible first | exact HI0.out | apply IsS142.alloc | apply IsS142.drewN | apply IsS142.drew | apply IsS142.set_1 | apply IsS142.set_2) | exact HI0.out), by repeat (first | (with_reducible first | exact HB.out | apply below_alloc | apply pw_below_drewN | apply below_drew1 | refine below_set ?_ (IsS142.ge HI0.out)) | exact HB.out), by repeat (first | (with_reducible first | exact HK.out | apply KeepBut.set_ | apply keep_drewN | apply keep_drew | apply keep_alloc) | exact HK.out)⟩
 ·
  rw [if_neg c3] at H
  have c3b0 : decide (a1 ≤ 0) = false := decide_eq_false c3
  clear c3
  by_cases c4 : a1 ≤ 256
  ·
   rw [if_pos c4] at H
   have c4b0 : decide (a1 ≤ 256) = true := decide_eq_true c4
   clear c4
   replace H := Option.bind_eq_some_iff.mp H
   obtain ⟨⟨t156, t157, t158⟩, A50, H⟩ := H
   replace H : (if a1 = 0 then (none) else (some (Int.tmod t156 a1, t157, t158))) = some (r1, r2, r3) := H
   have A5 := Aside0.mk A50
   clear A50
   by_cases c6 : a1 = 0
   ·
    rw [if_pos c6] at H
    exact absurd H (by simp)
   ·
    rw [if_neg c6] at H
    have c6b0 : (a1 == 0) = false := beq_eq_false_iff_ne.mpr c6
    have c6b1 : (a1 != 0) = true := bne_iff_ne.mpr c6
    simp only [Option.some.injEq, Prod.mk.injEq] at H
    obtain ⟨rfl, rfl, rfl⟩ := H
    go_enter Try.func127, Try.ntmps127
    go_wp2_with (first | ((with_reducible refine gate_callee (f := 143) rfl ?_); refine goesL_ (some 14) rfl rfl Try.func143 (by kernel_rfl) rfl #[.pointer (some ⟨g, 0, none⟩)] rfl (by (try simp only [List.map_toArray, List.map_cons, List.map_nil]); first | done | rfl | (simp only [List.length_drop, List.length_take]; rfl)) ?_; (with_reducible refine (spec_l01Byte.calls g s0_0 s0_1 s0_2 t156 t157 t158 w0 _ ?side1 ?side2 A5.out).mono ?_); (case side1 => repeat (first | (with_reducible first | exact HI0.out | apply IsS142.alloc | apply IsS142.drewN | apply IsS142.drew | apply IsS142.set_1 | apply IsS142.set_2) | exact HI0.out)); (case side2 => repeat (first | (with_reducible first | exact HB.out | apply below_alloc | apply pw_below_drewN | apply below_drew1 | refine below_set ?_ (IsS142.ge HI0.out)) | exact HB.out)); rintro e w7 ⟨rfl, hi, hb, hk⟩; refine ⟨_, rfl, ?_⟩; have n0_ := Aside0.mk (KeepBut.trans (by repeat (first | (with_reducible first | exact HK.out | apply KeepBut.set_ | apply keep_drewN | apply keep_drew | apply keep_alloc) | exact HK.out)) hk (.inl rfl)); have n1_ := Aside0.mk (hb); have n2_ := Aside0.mk (hi); clear HK; clear HB; clear HI0; have HK := n0_; have HB := n1_; have HI0 := n2_; clear n0_ n1_ n2_; (try clear hb); (try clear hb2); (try clear hk); (try clear hi)))
    go_ret
    exact ⟨by first | rfl | (simp [errW_none, errW_some] <;> rfl) | (simp [*, errW_none, errW_some] <;> rfl), by repeat (first | (with_reducible first | exact HI0.out | apply IsS142.alloc | apply IsS142.drewN | apply IsS142.drew | apply IsS142.set_1 | apply IsS142.set_2) | exact HI0.out), by repeat (first | (with_reducible first | exact HB.out | apply below_alloc | apply pw_below_drewN | apply below_drew1 | refine below_set ?_ (IsS142.ge HI0.out)) | exact HB.out), by repeat (first | (with_reducible first | exact HK.out | apply KeepBut.set_ | apply keep_drewN | apply keep_drew | apply keep_alloc) | exact HK.out)⟩
  ·
   rw [if_neg c4] at H
   have c4b0 : decide (a1 ≤ 256) = false := decide_eq_false c4
   clear c4
   replace H := Option.bind_eq_some_iff.mp H
   obtain ⟨⟨t159, t160, t161⟩, A80, H⟩ := H
   try dsimp only at H
   have A8 := Aside0.mk A80
   clear A80
   replace H := Option.bind_eq_some_iff.mp H
   obtain ⟨⟨t162, t163, t164⟩, A90, H⟩ := H
   try dsimp only at H
   have A9 := Aside0.mk A90
   clear A90
   replace H := Option.bind_eq_some_iff.mp H
   obtain ⟨⟨t165, t166, t167⟩, A100, H⟩ := H
   try dsimp only at H
   have A10 := Aside0.mk A100
   clear A100
   replace H := Option.bind_eq_some_iff.mp H
   obtain ⟨⟨t168, t169, t170⟩, A110, H⟩ := H
   try dsimp only at H
   have A11 := Aside0.mk A110
   clear A110
   by_cases c12 : a1 = 0
   ·
    rw [if_pos c12] at H
    exact absurd H (by simp)
   ·
    rw [if_neg c12] at H
    have c12b0 : (a1 == 0) = false := beq_eq_false_iff_ne.mpr c12
    have c12b1 : (a1 != 0) = true := bne_iff_ne.mpr c12
    simp only [Option.some.injEq, Prod.mk.injEq] at H
    obtain ⟨rfl, rfl, rfl⟩ := H
    go_enter Try.func127, Try.ntmps127
    go_wp2_with (first | ((with_reducible refine gate_callee (f := 143) rfl ?_); refine goesL_ (some 18) rfl rfl Try.func143 (by kernel_rfl) rfl #[.pointer (some ⟨g, 0, none⟩)] rfl (by (try simp only [List.map_toArray, List.map_cons, List.map_nil]); first | done | rfl | (simp only [List.length_drop, List.length_take]; rfl)) ?_; (with_reducible refine (spec_l01Byte.calls g s0_0 s0_1 s0_2 t159 t160 t161 w0 _ ?side1 ?side2 A8.out).mono ?_); (case side1 => repeat (first | (with_reducible first | exact HI0.out | apply IsS142.alloc | apply IsS142.drewN | apply IsS142.drew | apply IsS142.set_1 | apply IsS142.set_2) | exact HI0.out)); (case side2 => repeat (first | (with_reducible first | exact HB.out | apply below_alloc | apply pw_below_drewN | apply below_drew1 | refine below_set ?_ (IsS142.ge HI0.out)) | exact HB.out)); rintro e w13 ⟨rfl, hi, hb, hk⟩; refine ⟨_, rfl, ?_⟩; have n0_ := Aside0.mk (KeepBut.trans (by repeat (first | (with_reducible first | exact HK.out | apply KeepBut.set_ | apply keep_drewN | apply keep_drew | apply keep_alloc) | exact HK.out)) hk (.inl rfl)); have n1_ := Aside0.mk (hb); have n2_ := Aside0.mk (hi); clear HK; clear HB; clear HI0; have HK := n0_; have HB := n1_; have HI0 := n2_; clear n0_ n1_ n2_; (try clear hb); (try clear hb2); (try clear hk); (try clear hi)) | ((with_reducible refine gate_callee (f := 143) rfl ?_); refine goesL_ (some 20) rfl rfl Try.func143 (by kernel_rfl) rfl #[.pointer (some ⟨g, 0, none⟩)] rfl (by (try simp only [List.map_toArray, List.map_cons, List.map_nil]); first | done | rfl | (simp only [List.length_drop, List.length_take]; rfl)) ?_; (with_reducible refine (spec_l01Byte.calls g s0_0 t160 t161 t162 t163 t164 w0 _ ?side1 ?side2 A9.out).mono ?_); (case side1 => repeat (first | (with_reducible first | exact HI0.out | apply IsS142.alloc | apply IsS142.drewN | apply IsS142.drew | apply IsS142.set_1 | apply IsS142.set_2) | exact HI0.out)); (case side2 => repeat (first | (with_reducible first | exact HB.out | apply below_alloc | apply pw_below_drewN | apply below_drew1 | refine below_set ?_ (IsS142.ge HI0.out)) | exact HB.out)); rintro e w14 ⟨rfl, hi, hb, hk⟩; refine ⟨_, rfl, ?_⟩; have n0_ := Aside0.mk (KeepBut.trans (by repeat (first | (with_reducible first | exact HK.out | apply KeepBut.set_ | apply keep_drewN | apply keep_drew | apply keep_alloc) | exact HK.out)) hk (.inl rfl)); have n1_ := Aside0.mk (hb); have n2_ := Aside0.mk (hi); clear HK; clear HB; clear HI0; have HK := n0_; have HB := n1_; have HI0 := n2_; clear n0_ n1_ n2_; (try clear hb); (try clear hb2); (try clear hk); (try clear hi)) | ((with_reducible refine gate_callee (f := 143) rfl ?_); refine goesL_ (some 22) rfl rfl Try.func143 (by kernel_rfl) rfl #[.pointer (some ⟨g, 0, none⟩)] rfl (by (try simp only [List.map_toArray, List.map_cons, List.map_nil]); first | done | rfl | (simp only [List.length_drop, List.length_take]; rfl)) ?_; (with_reducible refine (spec_l01Byte.calls g s0_0 t163 t164 t165 t166 t167 w0 _ ?side1 ?side2 A10.out).mono ?_); (case side1 => repeat (first | (with_reducible first | exact HI0.out | apply IsS142.alloc | apply IsS142.drewN | apply IsS142.drew | apply IsS142.set_1 | apply IsS142.set_2) | exact HI0.out)); (case side2 => repeat (first | (with_reducible first | exact HB.out | apply below_alloc | apply pw_below_drewN | apply below_drew1 | refine below_set ?_ (IsS142.ge HI0.out)) | exact HB.out)); rintro e w15 ⟨rfl, hi, hb, hk⟩; refine ⟨_, rfl, ?_⟩; have n0_ := Aside0.mk (KeepBut.trans (by repeat (first | (with_reducible first | exact HK.out | apply KeepBut.set_ | apply keep_drewN | apply keep_drew | apply keep_alloc) | exact HK.out)) hk (.inl rfl)); have n1_ := Aside0.mk (hb); have n2_ := Aside0.mk (hi); clear HK; clear HB; clear HI0; have HK := n0_; have HB := n1_; have HI0 := n2_; clear n0_ n1_ n2_; (try clear hb); (try clear hb2); (try clear hk); (try clear hi)) | ((with_reducible refine gate_callee (f := 143) rfl ?_); refine goesL_ (some 24) rfl rfl Try.func143 (by kernel_rfl) rfl #[.pointer (some ⟨g, 0, none⟩)] rfl (by (try simp only [List.map_toArray, List.map_cons, List.map_nil]); first | done | rfl | (simp only [List.length_drop, List.length_take]; rfl)) ?_; (with_reducible refine (spec_l01Byte.calls g s0_0 t166 t167 t168 t169 t170 w0 _ ?side1 ?side2 A11.out).mono ?_); (case side1 => repeat (first | (with_reducible first | exact HI0.out | apply IsS142.alloc | apply IsS142.drewN | apply IsS142.drew | apply IsS142.set_1 | apply IsS142.set_2) | exact HI0.out)); (case side2 => repeat (first | (with_reducible first | exact HB.out | apply below_alloc | apply pw_below_drewN | apply below_drew1 | refine below_set ?_ (IsS142.ge HI0.out)) | exact HB.out)); rintro e w16 ⟨rfl, hi, hb, hk⟩; refine ⟨_, rfl, ?_⟩; have n0_ := Aside0.mk (KeepBut.trans (by repeat (first | (with_reducible first | exact HK.out | apply KeepBut.set_ | apply keep_drewN | apply keep_drew | apply keep_alloc) | exact HK.out)) hk (.inl rfl)); have n1_ := Aside0.mk (hb); have n2_ := Aside0.mk (hi); clear HK; clear HB; clear HI0; have HK := n0_; have HB := n1_; have HI0 := n2_; clear n0_ n1_ n2_; (try clear hb); (try clear hb2); (try clear hk); (try clear hi)))
    go_ret
    exact ⟨by first | rfl | (simp [errW_none, errW_some] <;> rfl) | (simp [*, errW_none, errW_some] <;> rfl), by repeat (first | (with_reducible first | exact HI0.out | apply IsS142.alloc | apply IsS142.drewN | apply IsS142.drew | apply IsS142.set_1 | apply IsS142.set_2) | exact HI0.out), by repeat (first | (with_reducible first | exact HB.out | apply below_alloc | apply pw_below_drewN | apply below_drew1 | refine below_set ?_ (IsS142.ge HI0.out)) | exact HB.out), by repeat (first | (with_reducible first | exact HK.out | apply KeepBut.set_ | apply keep_drewN | apply keep_drew | apply keep_alloc) | exact HK.out)⟩

/-! ### spec_l01Once: function 126 -/
def spec_l01Once.f (s0_0 : List Int) (s0_1 : Int) (s0_2 : Int) (a1 : Int) : Option (Bool × Int × Int) := (spec_l01Below.f s0_0 s0_1 s0_2 a1).bind fun bt171 => (some ((bt171.1 == 0), bt171.2.1, bt171.2.2))
set_option maxHeartbeats 8000000 in
set_option maxRecDepth 100000 in
theorem spec_l01Once.calls (g : Nat) (s0_0 : List Int) (s0_1 : Int) (s0_2 : Int) (a1 : Int) (r1 : Bool) (r2 : Int) (r3 : Int) (w0 w : World) (hI : IsS142 w0 w g s0_0 s0_1 s0_2) (hB : Below w0.heap.size w0 w) (h : spec_l01Once.f s0_0 s0_1 s0_2 a1 = some (r1, r2, r3)) :
 Calls Try.prog 126 #[.pointer (some ⟨g, 0, none⟩), .int .i64 a1] w fun e w' => e = .returned (.bool r1) ∧ IsS142 w0 w' g s0_0 r2 r3 ∧ Below w0.heap.size w0 w' ∧ KeepBut w w' g none := by
 have HI0 := Aside0.mk hI
 have HK := Aside0.mk (KeepBut.refl w g none)
 have HL := Aside0.mk hB.size
 clear hI
 have HW0 := Aside0.mk hB.size
 have HB := Aside0.mk hB
 clear hB
 have H : ((spec_l01Below.f s0_0 s0_1 s0_2 a1).bind fun bt171 => (some ((bt171.1 == 0), bt171.2.1, bt171.2.2))) = some (r1, r2, r3) := h
 clear h
 replace H := Option.bind_eq_some_iff.mp H
 obtain ⟨⟨t171, t172, t173⟩, A30, H⟩ := H
 replace H : (some ((t171 == 0), t172, t173)) = some (r1, r2, r3) := H
 have A3 := Aside0.mk A30
 clear A30
 simp only [Option.some.injEq, Prod.mk.injEq] at H
 obtain ⟨rfl, rfl, rfl⟩ := H
 go_enter Try.func126, Try.ntmps126
 go_wp2_with (first | ((with_reducible refine gate_callee (f := 127) rfl ?_); refine goesL_ (some 7) rfl rfl Try.func127 (by kernel_rfl) rfl #[.pointer (some ⟨g, 0, none⟩), .int .i64 a1] rfl (by (try simp only [List.map_toArray, List.map_cons, List.map_nil]); first | done | rfl | (simp only [List.length_drop, List.length_take]; rfl)) ?_; (with_reducible refine (spec_l01Below.calls g s0_0 s0_1 s0_2 a1 t171 t172 t173 w0 _ ?side1 ?side2 A3.out).mono ?_); (case side1 => repeat (first | (with_reducible first | exact HI0.out | apply IsS142.alloc | apply IsS142.drewN | apply IsS142.drew | apply IsS142.set_1 | apply IsS142.set_2) | exact HI0.out)); (case side2 => repeat (first | (with_reducible first | exact HB.out | apply below_alloc | apply pw_below_drewN | apply below_drew1 | refine below_set ?_ (IsS142.ge HI0.out)) | exact HB.out)); rintro e w4 ⟨rfl, hi, hb, hk⟩; refine ⟨_, rfl, ?_⟩; have n0_ := Aside0.mk (KeepBut.trans (by repeat (first | (with_reducible first | exact HK.out | apply KeepBut.set_ | apply keep_drewN | apply keep_drew | apply keep_alloc) | exact HK.out)) hk (.inl rfl)); have n1_ := Aside0.mk (hb); have n2_ := Aside0.mk (hi); clear HK; clear HB; clear HI0; have HK := n0_; have HB := n1_; have HI0 := n2_; clear n0_ n1_ n2_; (try clear hb); (try clear hb2); (try clear hk); (try clear hi)))
 go_ret
 exact ⟨by first | rfl | (simp [errW_none, errW_some] <;> rfl) | (simp [*, errW_none, errW_some] <;> rfl), by repeat (first | (with_reducible first | exact HI0.out | apply IsS142.alloc | apply IsS142.drewN | apply IsS142.drew | apply IsS142.set_1 | apply IsS142.set_2) | exact HI0.out), by repeat (first | (with_reducible first | exact HB.out | apply below_alloc | apply pw_below_drewN | apply below_drew1 | refine below_set ?_ (IsS142.ge HI0.out)) | exact HB.out), by repeat (first | (with_reducible first | exact HK.out | apply KeepBut.set_ | apply keep_drewN | apply keep_drew | apply keep_alloc) | exact HK.out)⟩

/-! ### spec_l01Pick: function 145 -/
def spec_l01Pick.f (s0_0 : List Int) (s0_1 : Int) (s0_2 : Int) (l1 : List Int) : Option (Int × Int × Int) := (spec_l01Below.f s0_0 s0_1 s0_2 (l1.length : Int)).bind fun bt174 => (if 0 ≤ bt174.1 then (if bt174.1 < (l1.length : Int) then (some (rd l1 bt174.1, bt174.2.1, bt174.2.2)) else (none)) else (none))
set_option maxHeartbeats 8000000 in
set_option maxRecDepth 100000 in
theorem spec_l01Pick.calls (g : Nat) (s0_0 : List Int) (s0_1 : Int) (s0_2 : Int) (A1 : Option Addr) (c1 : Nat) (l1 : List Int) (r1 : Int) (r2 : Int) (r3 : Int) (w0 w : World) (hI : IsS142 w0 w g s0_0 s0_1 s0_2) (hB : Below w0.heap.size w0 w) (hr1 : Kd.C (Kd.int .i64) w A1 l1.length l1) (hc1 : l1.length ≤ c1) (hf1 : ∀ ad, A1 = some ad → 0 < l1.length → ad.block ≠ g) (h : spec_l01Pick.f s0_0 s0_1 s0_2 l1 = some (r1, r2, r3)) :
 Calls Try.prog 145 #[.pointer (some ⟨g, 0, none⟩), .slice A1 l1.length c1] w fun e w' => e = .returned (.int .i64 r1) ∧ IsS142 w0 w' g s0_0 r2 r3 ∧ Below w0.heap.size w0 w' ∧ KeepBut w w' g none := by
 have HR1 := Aside0.mk hr1
 have HC1 := Aside0.mk hc1
 clear hr1 hc1
 have HI0 := Aside0.mk hI
 have HK := Aside0.mk (KeepBut.refl w g none)
 have HL := Aside0.mk hB.size
 clear hI
 have HW0 := Aside0.mk hB.size
 have HB := Aside0.mk hB
 clear hB
 have H : ((spec_l01Below.f s0_0 s0_1 s0_2 (l1.length : Int)).bind fun bt174 => (if 0 ≤ bt174.1 then (if bt174.1 < (l1.length : Int) then (some (rd l1 bt174.1, bt174.2.1, bt174.2.2)) else (none)) else (none))) = some (r1, r2, r3) := h
 clear h
 replace H := Option.bind_eq_some_iff.mp H
 obtain ⟨⟨t174, t175, t176⟩, A30, H⟩ := H
 replace H : (if 0 ≤ t174 then (if t174 < (l1.length : Int) then (some (rd l1 t174, t175, t176)) else (none)) else (none)) = some (r1, r2, r3) := H
 have A3 := Aside0.mk A30
 clear A30
 by_cases c4 : 0 ≤ t174
 ·
  rw [if_pos c4] at H
  have c4b0 : decide (0 ≤ t174) = true := decide_eq_true c4
  clear c4
  by_cases c5 : t174 < (l1.length : Int)
  ·
   rw [if_pos c5] at H
   have c5b0 : decide (t174 < (l1.length : Int)) = true := decide_eq_true c5
   clear c5
   simp only [Option.some.injEq, Prod.mk.injEq] at H
   obtain ⟨rfl, rfl, rfl⟩ := H
   go_enter Try.func145, Try.ntmps145
   go_wp2_with (first | ((with_reducible refine gate_callee (f := 127) rfl ?_); refine goesL_ (some 9) rfl rfl Try.func127 (by kernel_rfl) rfl #[.pointer (some ⟨g, 0, none⟩), .int .i64 (l1.length : Int)] rfl (by (try simp only [List.map_toArray, List.map_cons, List.map_nil]); first | done | rfl | (simp only [List.length_drop, List.length_take]; rfl)) ?_; (with_reducible refine (spec_l01Below.calls g s0_0 s0_1 s0_2 (l1.length : Int) t174 t175 t176 w0 _ ?side1 ?side2 A3.out).mono ?_); (case side1 => repeat (first | (with_reducible first | exact HI0.out | apply IsS142.alloc | apply IsS142.drewN | apply IsS142.drew | apply IsS142.set_1 | apply IsS142.set_2) | exact HI0.out)); (case side2 => repeat (first | (with_reducible first | exact HB.out | apply below_alloc | apply pw_below_drewN | apply below_drew1 | refine below_set ?_ (IsS142.ge HI0.out)) | exact HB.out)); rintro e w6 ⟨rfl, hi, hb, hk⟩; refine ⟨_, rfl, ?_⟩; have n0_ := Aside0.mk (KeepBut.trans (by repeat (first | (with_reducible first | exact HK.out | apply KeepBut.set_ | apply keep_drewN | apply keep_drew | apply keep_alloc) | exact HK.out)) hk (.inl rfl)); have n1_ := Aside0.mk (hb); have n2_ := Aside0.mk (hi); clear HK; clear HB; clear HI0; have HK := n0_; have HB := n1_; have HI0 := n2_; clear n0_ n1_ n2_; (try clear hb); (try clear hb2); (try clear hk); (try clear hi); have p177 : 0 ≤ (t174 : Int) := Lib.od; have q177 : t174 < (l1.length : Int) := Lib.od; obtain ⟨ad177, e177, hx177_0⟩ := Kd.at_int HR1.out t174 p177 q177; cases e177; replace hx177_0 := keep_cell HK.out hx177_0 (by first | (rw [add_block]; exact hf1 _ rfl (by omega)) | exact hf1 _ rfl (by omega) | exact hf1 ad177 rfl (by omega)); replace p177 := eq_true p177; replace q177 := eq_true q177))
   go_ret
   exact ⟨by first | rfl | (simp [errW_none, errW_some] <;> rfl) | (simp [*, errW_none, errW_some] <;> rfl), by repeat (first | (with_reducible first | exact HI0.out | apply IsS142.alloc | apply IsS142.drewN | apply IsS142.drew | apply IsS142.set_1 | apply IsS142.set_2) | exact HI0.out), by repeat (first | (with_reducible first | exact HB.out | apply below_alloc | apply pw_below_drewN | apply below_drew1 | refine below_set ?_ (IsS142.ge HI0.out)) | exact HB.out), by repeat (first | (with_reducible first | exact HK.out | apply KeepBut.set_ | apply keep_drewN | apply keep_drew | apply keep_alloc) | exact HK.out)⟩
  ·
   rw [if_neg c5] at H
   exact absurd H (by simp)
 ·
  rw [if_neg c4] at H
  exact absurd H (by simp)

/-! ### spec_l01Near: function 144 -/
def spec_l01Near.f (s0_0 : List Int) (s0_1 : Int) (s0_2 : Int) (a1 : Int) (a2 : Int) : Option (Int × Int × Int) := (spec_l01Below.f s0_0 s0_1 s0_2 12).bind fun bt178 => (if bt178.1 = 0 then (some (a1, bt178.2.1, bt178.2.2)) else (if bt178.1 = 1 then (some (a2, bt178.2.1, bt178.2.2)) else (if bt178.1 = 2 then (some (wrap64 (a1 - 1), bt178.2.1, bt178.2.2)) else (if bt178.1 = 3 then (some (wrap64 (a2 + 1), bt178.2.1, bt178.2.2)) else (if bt178.1 = 4 then ((spec_l01Pick.f s0_0 bt178.2.1 bt178.2.2 (([9223372036854775807, (-9223372036854775808), (-1), 0, 1000000000] : List Int))).bind fun bt184 => (some (bt184.1, bt184.2.1, bt184.2.2))) else (if (wrap64 (a2 - a1)) > 60000 then ((spec_l01Below.f s0_0 bt178.2.1 bt178.2.2 60000).bind fun bt187 => (some (wrap64 (a1 + bt187.1), bt187.2.1, bt187.2.2))) else ((spec_l01Below.f s0_0 bt178.2.1 bt178.2.2 (wrap64 ((wrap64 (a2 - a1)) + 1))).bind fun bt190 => (some (wrap64 (a1 + bt190.1), bt190.2.1, bt190.2.2)))))))))
set_option maxHeartbeats 8000000 in
set_option maxRecDepth 100000 in
theorem spec_l01Near.calls (g : Nat) (s0_0 : List Int) (s0_1 : Int) (s0_2 : Int) (a1 : Int) (a2 : Int) (r1 : Int) (r2 : Int) (r3 : Int) (w0 w : World) (hI : IsS142 w0 w g s0_0 s0_1 s0_2) (hB : Below w0.heap.size w0 w) (h : spec_l01Near.f s0_0 s0_1 s0_2 a1 a2 = some (r1, r2, r3)) :
 Calls Try.prog 144 #[.pointer (some ⟨g, 0, none⟩), .int .i64 a1, .int .i64 a2] w fun e w' => e = .returned (.int .i64 r1) ∧ IsS142 w0 w' g s0_0 r2 r3 ∧ Below w0.heap.size w0 w' ∧ KeepBut w w' g none := by
 have HI0 := Aside0.mk hI
 have HK := Aside0.mk (KeepBut.refl w g none)
 have HL := Aside0.mk hB.size
 clear hI
 have HW0 := Aside0.mk hB.size
 have HB := Aside0.mk hB
 clear hB
 have H : ((spec_l01Below.f s0_0 s0_1 s0_2 12).bind fun bt178 => (if bt178.1 = 0 then (some (a1, bt178.2.1, bt178.2.2)) else (if bt178.1 = 1 then (some (a2, bt178.2.1, bt178.2.2)) else (if bt178.1 = 2 then (some (wrap64 (a1 - 1), bt178.2.1, bt178.2.2)) else (if bt178.1 = 3 then (some (wrap64 (a2 + 1), bt178.2.1, bt178.2.2)) else (if bt178.1 = 4 then ((spec_l01Pick.f s0_0 bt178.2.1 bt178.2.2 (([9223372036854775807, (-9223372036854775808), (-1), 0, 1000000000] : List Int))).bind fun bt184 => (some (bt184.1, bt184.2.1, bt184.2.2))) else (if (wrap64 (a2 - a1)) > 60000 then ((spec_l01Below.f s0_0 bt178.2.1 bt178.2.2 60000).bind fun bt187 => (some (wrap64 (a1 + bt187.1), bt187.2.1, bt187.2.2))) else ((spec_l01Below.f s0_0 bt178.2.1 bt178.2.2 (wrap64 ((wrap64 (a2 - a1)) + 1))).bind fun bt190 => (some (wrap64 (a1 + bt190.1), bt190.2.1, bt190.2.2)))))))))) = some (r1, r2, r3) := h
 clear h
 replace H := Option.bind_eq_some_iff.mp H
 obtain ⟨⟨t178, t179, t180⟩, A40, H⟩ := H
 try dsimp only at H
 have A4 := Aside0.mk A40
 clear A40
 by_cases c5 : t178 = 0
 ·
  rw [if_pos c5] at H
  have c5b0 : (t178 == 0) = true := beq_iff_eq.mpr c5
  have c5b1 : (t178 != 0) = false := bne_eq_false_iff_eq.mpr c5
  clear c5
  simp only [Option.some.injEq, Prod.mk.injEq] at H
  obtain ⟨rfl, rfl, rfl⟩ := H
  go_enter Try.func144, Try.ntmps144
  go_wp2_with (first | ((with_reducible refine gate_callee (f := 127) rfl ?_); refine goesL_ (some 9) rfl rfl Try.func127 (by kernel_rfl) rfl #[.pointer (some ⟨g, 0, none⟩), .int .i64 12] rfl (by (try simp only [List.map_toArray, List.map_cons, List.map_nil]); first | done | rfl | (simp only [List.length_drop, List.length_take]; rfl)) ?_; (with_reducible refine (spec_l01Below.calls g s0_0 s0_1 s0_2 12 t178 t179 t180 w0 _ ?side1 ?side2 A4.out).mono ?_); (case side1 => repeat (first | (with_reducible first | exact HI0.out | apply IsS142.alloc | apply IsS142.drewN | apply IsS142.drew | apply IsS142.set_1 | apply IsS142.set_2) | exact HI0.out)); (case side2 => repeat (first | (with_reducible first | exact HB.out | apply below_alloc | apply pw_below_drewN | apply below_drew1 | refine below_set ?_ (IsS142.ge HI0.out)) | exact HB.out)); rintro e w6 ⟨rfl, hi, hb, hk⟩; refine ⟨_, rfl, ?_⟩; have n0_ := Aside0.mk (KeepBut.trans (by repeat (first | (with_reducible first | exact HK.out | apply KeepBut.set_ | apply keep_drewN | apply keep_drew | apply keep_alloc) | exact HK.out)) hk (.inl rfl)); have n1_ := Aside0.mk (hb); have n2_ := Aside0.mk (hi); clear HK; clear HB; clear HI0; have HK := n0_; have HB := n1_; have HI0 := n2_; clear n0_ n1_ n2_; (try clear hb); (try clear hb2); (try clear hk); (try clear hi)))
  go_ret
  exact ⟨by first | rfl | (simp [errW_none, errW_some] <;> rfl) | (simp [*, errW_none, errW_some] <;> rfl), by repeat (first | (with_reducible first | exact HI0.out | apply IsS142.alloc | apply IsS142.drewN | apply IsS142.drew | apply IsS142.set_1 | apply IsS142.set_2) | exact HI0.out), by repeat (first | (with_reducible first | exact HB.out | apply below_alloc | apply pw_below_drewN | apply below_drew1 | refine below_set ?_ (IsS142.ge HI0.out)) | exact HB.out), by repeat (first | (with_reducible first | exact HK.out | apply KeepBut.set_ | apply keep_drewN | apply keep_drew | apply keep_alloc) | exact HK.out)⟩
 ·
  rw [if_neg c5] at H
  have c5b0 : (t178 == 0) = false := beq_eq_false_iff_ne.mpr c5
  have c5b1 : (t178 != 0) = true := bne_iff_ne.mpr c5
  by_cases c7 : t178 = 1
  ·
   rw [if_pos c7] at H
   have c7b0 : (t178 == 1) = true := beq_iff_eq.mpr c7
   have c7b1 : (t178 != 1) = false := bne_eq_false_iff_eq.mpr c7
   clear c7
   simp only [Option.some.injEq, Prod.mk.injEq] at H
   obtain ⟨rfl, rfl, rfl⟩ := H
   go_enter Try.func144, Try.ntmps144
   go_wp2_with (first | ((with_reducible refine gate_callee (f := 127) rfl ?_); refine goesL_ (some 9) rfl rfl Try.func127 (by kernel_rfl) rfl #[.pointer (some ⟨g, 0, none⟩), .int .i64 12] rfl (by (try simp only [List.map_toArray, List.map_cons, List.map_nil]); first | done | rfl | (simp only [List.length_drop, List.length_take]; rfl)) ?_; (with_reducible refine (spec_l01Below.calls g s0_0 s0_1 s0_2 12 t178 t179 t180 w0 _ ?side1 ?side2 A4.out).mono ?_); (case side1 => repeat (first | (with_reducible first | exact HI0.out | apply IsS142.alloc | apply IsS142.drewN | apply IsS142.drew | apply IsS142.set_1 | apply IsS142.set_2) | exact HI0.out)); (case side2 => repeat (first | (with_reducible first | exact HB.out | apply below_alloc | apply pw_below_drewN | apply below_drew1 | refine below_set ?_ (IsS142.ge HI0.out)) | exact HB.out)); rintro e w8 ⟨rfl, hi, hb, hk⟩; refine ⟨_, rfl, ?_⟩; have n0_ := Aside0.mk (KeepBut.trans (by repeat (first | (with_reducible first | exact HK.out | apply KeepBut.set_ | apply keep_drewN | apply keep_drew | apply keep_alloc) | exact HK.out)) hk (.inl rfl)); have n1_ := Aside0.mk (hb); have n2_ := Aside0.mk (hi); clear HK; clear HB; clear HI0; have HK := n0_; have HB := n1_; have HI0 := n2_; clear n0_ n1_ n2_; (try clear hb); (try clear hb2); (try clear hk); (try clear hi)))
   go_ret
   exact ⟨by first | rfl | (simp [errW_none, errW_some] <;> rfl) | (simp [*, errW_none, errW_some] <;> rfl), by repeat (first | (with_reducible first | exact HI0.out | apply IsS142.alloc | apply IsS142.drewN | apply IsS142.drew | apply IsS142.set_1 | apply IsS142.set_2) | exact HI0.out), by repeat (first | (with_reducible first | exact HB.out | apply below_alloc | apply pw_below_drewN | apply below_drew1 | refine below_set ?_ (IsS142.ge HI0.out)) | exact HB.out), by repeat (first | (with_reducible first | exact HK.out | apply KeepBut.set_ | apply keep_drewN | apply keep_drew | apply keep_alloc) | exact HK.out)⟩
  ·
   rw [if_neg c7] at H
   have c7b0 : (t178 == 1) = false := beq_eq_false_iff_ne.mpr c7
   have c7b1 : (t178 != 1) = true := bne_iff_ne.mpr c7
   by_cases c9 : t178 = 2
   ·
    rw [if_pos c9] at H
    have c9b0 : (t178 == 2) = true := beq_iff_eq.mpr c9
    have c9b1 : (t178 != 2) = false := bne_eq_false_iff_eq.mpr c9
    clear c9
    simp only [Option.some.injEq, Prod.mk.injEq] at H
    obtain ⟨rfl, rfl, rfl⟩ := H
    go_enter Try.func144, Try.ntmps144
    go_wp2_with (first | ((with_reducible refine gate_callee (f := 127) rfl ?_); refine goesL_ (some 9) rfl rfl Try.func127 (by kernel_rfl) rfl #[.pointer (some ⟨g, 0, none⟩), .int .i64 12] rfl (by (try simp only [List.map_toArray, List.map_cons, List.map_nil]); first | done | rfl | (simp only [List.length_drop, List.length_take]; rfl)) ?_; (with_reducible refine (spec_l01Below.calls g s0_0 s0_1 s0_2 12 t178 t179 t180 w0 _ ?side1 ?side2 A4.out).mono ?_); (case side1 => repeat (first | (with_reducible first | exact HI0.out | apply IsS142.alloc | apply IsS142.drewN | apply IsS142.drew | apply IsS142.set_1 | apply IsS142.set_2) | exact HI0.out)); (case side2 => repeat (first | (with_reducible first | exact HB.out | apply below_alloc | apply pw_below_drewN | apply below_drew1 | refine below_set ?_ (IsS142.ge HI0.out)) | exact HB.out)); rintro e w10 ⟨rfl, hi, hb, hk⟩; refine ⟨_, rfl, ?_⟩; have n0_ := Aside0.mk (KeepBut.trans (by repeat (first | (with_reducible first | exact HK.out | apply KeepBut.set_ | apply keep_drewN | apply keep_drew | apply keep_alloc) | exact HK.out)) hk (.inl rfl)); have n1_ := Aside0.mk (hb); have n2_ := Aside0.mk (hi); clear HK; clear HB; clear HI0; have HK := n0_; have HB := n1_; have HI0 := n2_; clear n0_ n1_ n2_; (try clear hb); (try clear hb2); (try clear hk); (try clear hi)))
    go_ret
    exact ⟨by first | rfl | (simp [errW_none, errW_some] <;> rfl) | (simp [*, errW_none, errW_some] <;> rfl), by repeat (first | (with_reducible first | exact HI0.out | apply IsS142.alloc | apply IsS142.drewN | apply IsS142.drew | apply IsS142.set_1 | apply IsS142.set_2) | exact HI0.out), by repeat (first | (with_reducible first | exact HB.out | apply below_alloc | apply pw_below_drewN | apply below_drew1 | refine below_set ?_ (IsS142.ge HI0.out)) | exact HB.out), by repeat (first | (with_reducible first | exact HK.out | apply KeepBut.set_ | apply keep_drewN | apply keep_drew | apply keep_alloc) | exact HK.out)⟩
   ·
    rw [if_neg c9] at H
    have c9b0 : (t178 == 2) = false := beq_eq_false_iff_ne.mpr c9
    have c9b1 : (t178 != 2) = true := bne_iff_ne.mpr c9
    by_cases c11 : t178 = 3
    ·
     rw [if_pos c11] at H
     have c11b0 : (t178 == 3) = true := beq_iff_eq.mpr c11
     have c11b1 : (t178 != 3) = false := bne_eq_false_iff_eq.mpr c11
     clear c11
     simp only [Option.some.injEq, Prod.mk.injEq] at H
     obtain ⟨rfl, rfl, rfl⟩ := H
     go_enter Try.func144, Try.ntmps144
     go_wp2_with (first | ((with_reducible refine gate_callee (f := 127) rfl ?_); refine goesL_ (some 9) rfl rfl Try.func127 (by kernel_rfl) rfl #[.pointer (some ⟨g, 0, none⟩), .int .i64 12] rfl (by (try simp only [List.map_toArray, List.map_cons, List.map_nil]); first | done | rfl | (simp only [List.length_drop, List.length_take]; rfl)) ?_; (with_reducible refine (spec_l01Below.calls g s0_0 s0_1 s0_2 12 t178 t179 t180 w0 _ ?side1 ?side2 A4.out).mono ?_); (case side1 => repeat (first | (with_reducible first | exact HI0.out | apply IsS142.alloc | apply IsS142.drewN | apply IsS142.drew | apply IsS142.set_1 | apply IsS142.set_2) | exact HI0.out)); (case side2 => repeat (first | (with_reducible first | exact HB.out | apply below_alloc | apply pw_below_drewN | apply below_drew1 | refine below_set ?_ (IsS142.ge HI0.out)) | exact HB.out)); rintro e w12 ⟨rfl, hi, hb, hk⟩; refine ⟨_, rfl, ?_⟩; have n0_ := Aside0.mk (KeepBut.trans (by repeat (first | (with_reducible first | exact HK.out | apply KeepBut.set_ | apply keep_drewN | apply keep_drew | apply keep_alloc) | exact HK.out)) hk (.inl rfl)); have n1_ := Aside0.mk (hb); have n2_ := Aside0.mk (hi); clear HK; clear HB; clear HI0; have HK := n0_; have HB := n1_; have HI0 := n2_; clear n0_ n1_ n2_; (try clear hb); (try clear hb2); (try clear hk); (try clear hi)))
     go_ret
     exact ⟨by first | rfl | (simp [errW_none, errW_some] <;> rfl) | (simp [*, errW_none, errW_some] <;> rfl), by repeat (first | (with_reducible first | exact HI0.out | apply IsS142.alloc | apply IsS142.drewN | apply IsS142.drew | apply IsS142.set_1 | apply IsS142.set_2) | exact HI0.out), by repeat (first | (with_reducible first | exact HB.out | apply below_alloc | apply pw_below_drewN | apply below_drew1 | refine below_set ?_ (IsS142.ge HI0.out)) | exact HB.out), by repeat (first | (with_reducible first | exact HK.out | apply KeepBut.set_ | apply keep_drewN | apply keep_drew | apply keep_alloc) | exact HK.out)⟩
    ·
     rw [if_neg c11] at H
     have c11b0 : (t178 == 3) = false := beq_eq_false_iff_ne.mpr c11
     have c11b1 : (t178 != 3) = true := bne_iff_ne.mpr c11
     by_cases c13 : t178 = 4
     ·
      rw [if_pos c13] at H
      have c13b0 : (t178 == 4) = true := beq_iff_eq.mpr c13
      have c13b1 : (t178 != 4) = false := bne_eq_false_iff_eq.mpr c13
      clear c13
      obtain ⟨y181, hy181⟩ : ∃ y_ : List Int, y_ = (([9223372036854775807, (-9223372036854775808), (-1), 0, 1000000000] : List Int)) := ⟨_, rfl⟩
      replace H : ((spec_l01Pick.f s0_0 t179 t180 y181).bind fun bt184 => (some (bt184.1, bt184.2.1, bt184.2.2))) = some (r1, r2, r3) := by first | (rw [hy181]; with_reducible exact H) | (have H2_ := (Option.bind_some _ _).symm.trans H; rw [hy181]; with_reducible exact H2_) | (have H2_ := (Option.bind_some _ _).symm.trans H; with_reducible exact H2_) | with_reducible exact H | (rw [hy181]; exact H) | exact H
      have Ny181 := Aside0.mk hy181
      clear hy181
      replace H := Option.bind_eq_some_iff.mp H
      obtain ⟨⟨t184, t185, t186⟩, A140, H⟩ := H
      replace H : (some (t184, t185, t186)) = some (r1, r2, r3) := H
      have A14 := Aside0.mk A140
      clear A140
      simp only [Option.some.injEq, Prod.mk.injEq] at H
      obtain ⟨rfl, rfl, rfl⟩ := H
      go_enter Try.func144, Try.ntmps144
      go_wp2_with (first | ((with_reducible refine gate_callee (f := 127) rfl ?_); refine goesL_ (some 9) rfl rfl Try.func127 (by kernel_rfl) rfl #[.pointer (some ⟨g, 0, none⟩), .int .i64 12] rfl (by (try simp only [List.map_toArray, List.map_cons, List.map_nil]); first | done | rfl | (simp only [List.length_drop, List.length_take]; rfl)) ?_; (with_reducible refine (spec_l01Below.calls g s0_0 s0_1 s0_2 12 t178 t179 t180 w0 _ ?side1 ?side2 A4.out).mono ?_); (case side1 => repeat (first | (with_reducible first | exact HI0.out | apply IsS142.alloc | apply IsS142.drewN | apply IsS142.drew | apply IsS142.set_1 | apply IsS142.set_2) | exact HI0.out)); (case side2 => repeat (first | (with_reducible first | exact HB.out | apply below_alloc | apply pw_below_drewN | apply below_drew1 | refine below_set ?_ (IsS142.ge HI0.out)) | exact HB.out)); rintro e w15 ⟨rfl, hi, hb, hk⟩; refine ⟨_, rfl, ?_⟩; have n0_ := Aside0.mk (KeepBut.trans (by repeat (first | (with_reducible first | exact HK.out | apply KeepBut.set_ | apply keep_drewN | apply keep_drew | apply keep_alloc) | exact HK.out)) hk (.inl rfl)); have n1_ := Aside0.mk (hb); have n2_ := Aside0.mk (hi); clear HK; clear HB; clear HI0; have HK := n0_; have HB := n1_; have HI0 := n2_; clear n0_ n1_ n2_; (try clear hb); (try clear hb2); (try clear hk); (try clear hi)) | ((with_reducible refine gate_dst (N := 28) rfl ?_); refine Kd.R_lit (Kd.int .i64) _ 3 ?hg (N := 28) ?hd (xs := ([9223372036854775807, (-9223372036854775808), (-1), 0, 1000000000] : List Int)) (inner := [.int .i64 9223372036854775807, .int .i64 (-9223372036854775808), .int .i64 (-1), .int .i64 0, .int .i64 1000000000]) (ok := fun _ => True) (okp := fun _ => True) ?hr ?hp (fun _ hk => hk) trivial (Below.refl _ _) (Nat.le_refl _) (by simp) ?_; (case hd => rfl); (case hg => rfl); (case hr => first | (go_simp; done) | (go_simp; rfl)); (case hp => exact (Reps.one (show Kd.M (Kd.int .i64) _ _ _ 9223372036854775807 [.int .i64 9223372036854775807] from rfl) (Reps.one (show Kd.M (Kd.int .i64) _ _ _ (-9223372036854775808) [.int .i64 (-9223372036854775808)] from rfl) (Reps.one (show Kd.M (Kd.int .i64) _ _ _ (-1) [.int .i64 (-1)] from rfl) (Reps.one (show Kd.M (Kd.int .i64) _ _ _ 0 [.int .i64 0] from rfl) (Reps.one (show Kd.M (Kd.int .i64) _ _ _ 1000000000 [.int .i64 1000000000] from rfl) (Reps.none _ _))))))); intro v182 w16 ho17 hb hg_ hnew_; clear hg_ hnew_; (first | rw [← Ny181.out] at ho17 | (simp only [Int.reduceToNat] at ho17; rw [← Ny181.out] at ho17)); have n0_ := Aside0.mk (Kd.R_lower ho17 (keep_size (w := w) (g := g) (row := none) (by repeat (first | (with_reducible first | exact HK.out | apply KeepBut.set_ | apply keep_drewN | apply keep_drew | apply keep_alloc) | exact HK.out)))); have n1_ := Aside0.mk (IsS142.below (by repeat (first | (with_reducible first | exact HI0.out | apply IsS142.alloc | apply IsS142.drewN | apply IsS142.drew | apply IsS142.set_1 | apply IsS142.set_2) | exact HI0.out)) hb); have n2_ := Aside0.mk (KeepBut.trans (by repeat (first | (with_reducible first | exact HK.out | apply KeepBut.set_ | apply keep_drewN | apply keep_drew | apply keep_alloc) | exact HK.out)) (KeepBut.of_below hb g none) (.inl rfl)); have n3_ := Aside0.mk (below_step (by repeat (first | (with_reducible first | exact HB.out | apply below_alloc | apply pw_below_drewN | apply below_drew1 | refine below_set ?_ (IsS142.ge HI0.out)) | exact HB.out)) hb); clear HI0; clear HK; clear HB; have HO183 := n0_; have HI0 := n1_; have HK := n2_; have HB := n3_; clear n0_ n1_ n2_ n3_; clear hb ho17; obtain ⟨Ao18, co18, eo18⟩ := Kd.R_slice HO183.out; subst eo18) | ((with_reducible refine gate_callee (f := 145) rfl ?_); refine goesL_ (some 29) rfl rfl Try.func145 (by kernel_rfl) rfl #[.pointer (some ⟨g, 0, none⟩), .slice Ao18 y181.length co18] rfl (by (try simp only [List.map_toArray, List.map_cons, List.map_nil]); first | done | rfl | (simp only [List.length_drop, List.length_take]; rfl)) ?_; (with_reducible refine (spec_l01Pick.calls g s0_0 t179 t180 _ _ y181 t184 t185 t186 w0 _ ?side1 ?side2 ?side3 ?side4 ?side5 A14.out).mono ?_); (case side1 => repeat (first | (with_reducible first | exact HI0.out | apply IsS142.alloc | apply IsS142.drewN | apply IsS142.drew | apply IsS142.set_1 | apply IsS142.set_2) | exact HI0.out)); (case side2 => repeat (first | (with_reducible first | exact HB.out | apply below_alloc | apply pw_below_drewN | apply below_drew1 | refine below_set ?_ (IsS142.ge HI0.out)) | exact HB.out)); (case side3 => repeat (first | exact (Kd.R_reads' HO183.out).2.2 | (with_reducible refine Kd.C_alloc ?_ _) | (with_reducible refine Kd.C_drewN ?_ _) | (with_reducible refine Kd.C_drew ?_))); (case side4 => exact (Kd.R_reads' HO183.out).2.1); (case side5 => exact far_slice (IsS142.own_ne HI0.out HO183.out (by decide))); rintro e w19 ⟨rfl, hi, hb, hk⟩; refine ⟨_, rfl, ?_⟩; have n0_ := Aside0.mk (Kd.R_mono (Kd.R_keep (IsS142.apart (show IsS142 w0 _ g s0_0 t179 t180 from by repeat (first | (with_reducible first | exact HI0.out | apply IsS142.alloc | apply IsS142.drewN | apply IsS142.drew | apply IsS142.set_1 | apply IsS142.set_2) | exact HI0.out)) (by exact Lib.cr HO183.out) (by decide)) hk (fun _ h => h.2)) (fun _ h => h.1)); have n1_ := Aside0.mk (KeepBut.trans (by repeat (first | (with_reducible first | exact HK.out | apply KeepBut.set_ | apply keep_drewN | apply keep_drew | apply keep_alloc) | exact HK.out)) hk (.inl rfl)); have n2_ := Aside0.mk (hb); have n3_ := Aside0.mk (hi); clear HO183; clear HK; clear HB; clear HI0; have HO183 := n0_; have HK := n1_; have HB := n2_; have HI0 := n3_; clear n0_ n1_ n2_ n3_; (try clear hb); (try clear hb2); (try clear hk); (try clear hi)))
      go_ret
      exact ⟨by first | rfl | (simp [errW_none, errW_some] <;> rfl) | (simp [*, errW_none, errW_some] <;> rfl), by repeat (first | (with_reducible first | exact HI0.out | apply IsS142.alloc | apply IsS142.drewN | apply IsS142.drew | apply IsS142.set_1 | apply IsS142.set_2) | exact HI0.out), by repeat (first | (with_reducible first | exact HB.out | apply below_alloc | apply pw_below_drewN | apply below_drew1 | refine below_set ?_ (IsS142.ge HI0.out)) | exact HB.out), by repeat (first | (with_reducible first | exact HK.out | apply KeepBut.set_ | apply keep_drewN | apply keep_drew | apply keep_alloc) | exact HK.out)⟩
     ·
      rw [if_neg c13] at H
      have c13b0 : (t178 == 4) = false := beq_eq_false_iff_ne.mpr c13
      have c13b1 : (t178 != 4) = true := bne_iff_ne.mpr c13
      by_cases c20 : (wrap64 (a2 - a1)) > 60000
      ·
       rw [if_pos c20] at H
       have c20b0 : decide (60000 < (wrap64 (a2 - a1))) = true := decide_eq_true c20
       clear c20
       replace H := Option.bind_eq_some_iff.mp H
       obtain ⟨⟨t187, t188, t189⟩, A210, H⟩ := H
       replace H : (some (wrap64 (a1 + t187), t188, t189)) = some (r1, r2, r3) := H
       have A21 := Aside0.mk A210
       clear A210
       simp only [Option.some.injEq, Prod.mk.injEq] at H
       obtain ⟨rfl, rfl, rfl⟩ := H
       go_enter Try.func144, Try.ntmps144
       go_wp2_with (first | ((with_reducible refine gate_callee (f := 127) rfl ?_); refine goesL_ (some 9) rfl rfl Try.func127 (by kernel_rfl) rfl #[.pointer (some ⟨g, 0, none⟩), .int .i64 12] rfl (by (try simp only [List.map_toArray, List.map_cons, List.map_nil]); first | done | rfl | (simp only [List.length_drop, List.length_take]; rfl)) ?_; (with_reducible refine (spec_l01Below.calls g s0_0 s0_1 s0_2 12 t178 t179 t180 w0 _ ?side1 ?side2 A4.out).mono ?_); (case side1 => repeat (first | (with_reducible first | exact HI0.out | apply IsS142.alloc | apply IsS142.drewN | apply IsS142.drew | apply IsS142.set_1 | apply IsS142.set_2) | exact HI0.out)); (case side2 => repeat (first | (with_reducible first | exact HB.out | apply below_alloc | apply pw_below_drewN | apply below_drew1 | refine below_set ?_ (IsS142.ge HI0.out)) | exact HB.out)); rintro e w22 ⟨rfl, hi, hb, hk⟩; refine ⟨_, rfl, ?_⟩; have n0_ := Aside0.mk (KeepBut.trans (by repeat (first | (with_reducible first | exact HK.out | apply KeepBut.set_ | apply keep_drewN | apply keep_drew | apply keep_alloc) | exact HK.out)) hk (.inl rfl)); have n1_ := Aside0.mk (hb); have n2_ := Aside0.mk (hi); clear HK; clear HB; clear HI0; have HK := n0_; have HB := n1_; have HI0 := n2_; clear n0_ n1_ n2_; (try clear hb); (try clear hb2); (try clear hk); (try clear hi)) | ((with_reducible refine gate_callee (f := 127) rfl ?_); refine goesL_ (some 36) rfl rfl Try.func127 (by kernel_rfl) rfl #[.pointer (some ⟨g, 0, none⟩), .int .i64 60000] rfl (by (try simp only [List.map_toArray, List.map_cons, List.map_nil]); first | done | rfl | (simp only [List.length_drop, List.length_take]; rfl)) ?_; (with_reducible refine (spec_l01Below.calls g s0_0 t179 t180 60000 t187 t188 t189 w0 _ ?side1 ?side2 A21.out).mono ?_); (case side1 => repeat (first | (with_reducible first | exact HI0.out | apply IsS142.alloc | apply IsS142.drewN | apply IsS142.drew | apply IsS142.set_1 | apply IsS142.set_2) | exact HI0.out)); (case side2 => repeat (first | (with_reducible first | exact HB.out | apply below_alloc | apply pw_below_drewN | apply below_drew1 | refine below_set ?_ (IsS142.ge HI0.out)) | exact HB.out)); rintro e w23 ⟨rfl, hi, hb, hk⟩; refine ⟨_, rfl, ?_⟩; have n0_ := Aside0.mk (KeepBut.trans (by repeat (first | (with_reducible first | exact HK.out | apply KeepBut.set_ | apply keep_drewN | apply keep_drew | apply keep_alloc) | exact HK.out)) hk (.inl rfl)); have n1_ := Aside0.mk (hb); have n2_ := Aside0.mk (hi); clear HK; clear HB; clear HI0; have HK := n0_; have HB := n1_; have HI0 := n2_; clear n0_ n1_ n2_; (try clear hb); (try clear hb2); (try clear hk); (try clear hi)))
       go_ret
       exact ⟨by first | rfl | (simp [errW_none, errW_some] <;> rfl) | (simp [*, errW_none, errW_some] <;> rfl), by repeat (first | (with_reducible first | exact HI0.out | apply IsS142.alloc | apply IsS142.drewN | apply IsS142.drew | apply IsS142.set_1 | apply IsS142.set_2) | exact HI0.out), by repeat (first | (with_reducible first | exact HB.out | apply below_alloc | apply pw_below_drewN | apply below_drew1 | refine below_set ?_ (IsS142.ge HI0.out)) | exact HB.out), by repeat (first | (with_reducible first | exact HK.out | apply KeepBut.set_ | apply keep_drewN | apply keep_drew | apply keep_alloc) | exact HK.out)⟩
      ·
       rw [if_neg c20] at H
       have c20b0 : decide (60000 < (wrap64 (a2 - a1))) = false := decide_eq_false c20
       clear c20
       replace H := Option.bind_eq_some_iff.mp H
       obtain ⟨⟨t190, t191, t192⟩, A240, H⟩ := H
       replace H : (some (wrap64 (a1 + t190), t191, t192)) = some (r1, r2, r3) := H
       have A24 := Aside0.mk A240
       clear A240
       simp only [Option.some.injEq, Prod.mk.injEq] at H
       obtain ⟨rfl, rfl, rfl⟩ := H
       go_enter Try.func144, Try.ntmps144
       go_wp2_with (first | ((with_reducible refine gate_callee (f := 127) rfl ?_); refine goesL_ (some 9) rfl rfl Try.func127 (by kernel_rfl) rfl #[.pointer (some ⟨g, 0, none⟩), .int .i64 12] rfl (by (try simp only [List.map_toArray, List.map_cons, List.map_nil]); first | done | rfl | (simp only [List.length_drop, List.length_take]; rfl)) ?_; (with_reducible refine (spec_l01Below.calls g s0_0 s0_1 s0_2 12 t178 t179 t180 w0 _ ?side1 ?side2 A4.out).mono ?_); (case side1 => repeat (first | (with_reducible first | exact HI0.out | apply IsS142.alloc | apply IsS142.drewN | apply IsS142.drew | apply IsS142.set_1 | apply IsS142.set_2) | exact HI0.out)); (case side2 => repeat (first | (with_reducible first | exact HB.out | apply below_alloc | apply pw_below_drewN | apply below_drew1 | refine below_set ?_ (IsS142.ge HI0.out)) | exact HB.out)); rintro e w25 ⟨rfl, hi, hb, hk⟩; refine ⟨_, rfl, ?_⟩; have n0_ := Aside0.mk (KeepBut.trans (by repeat (first | (with_reducible first | exact HK.out | apply KeepBut.set_ | apply keep_drewN | apply keep_drew | apply keep_alloc) | exact HK.out)) hk (.inl rfl)); have n1_ := Aside0.mk (hb); have n2_ := Aside0.mk (hi); clear HK; clear HB; clear HI0; have HK := n0_; have HB := n1_; have HI0 := n2_; clear n0_ n1_ n2_; (try clear hb); (try clear hb2); (try clear hk); (try clear hi)) | ((with_reducible refine gate_callee (f := 127) rfl ?_); refine goesL_ (some 44) rfl rfl Try.func127 (by kernel_rfl) rfl #[.pointer (some ⟨g, 0, none⟩), .int .i64 (wrap64 ((wrap64 (a2 - a1)) + 1))] rfl (by (try simp only [List.map_toArray, List.map_cons, List.map_nil]); first | done | rfl | (simp only [List.length_drop, List.length_take]; rfl)) ?_; (with_reducible refine (spec_l01Below.calls g s0_0 t179 t180 (wrap64 ((wrap64 (a2 - a1)) + 1)) t190 t191 t192 w0 _ ?side1 ?side2 A24.out).mono ?_); (case side1 => repeat (first | (with_reducible first | exact HI0.out | apply IsS142.alloc | apply IsS142.drewN | apply IsS142.drew | apply IsS142.set_1 | apply IsS142.set_2) | exact HI0.out)); (case side2 => repeat (first | (with_reducible first | exact HB.out | apply below_alloc | apply pw_below_drewN | apply below_drew1 | refine below_set ?_ (IsS142.ge HI0.out)) | exact HB.out)); rintro e w26 ⟨rfl, hi, hb, hk⟩; refine ⟨_, rfl, ?_⟩; have n0_ := Aside0.mk (KeepBut.trans (by repeat (first | (with_reducible first | exact HK.out | apply KeepBut.set_ | apply keep_drewN | apply keep_drew | apply keep_alloc) | exact HK.out)) hk (.inl rfl)); have n1_ := Aside0.mk (hb); have n2_ := Aside0.mk (hi); clear HK; clear HB; clear HI0; have HK := n0_; have HB := n1_; have HI0 := n2_; clear n0_ n1_ n2_; (try clear hb); (try clear hb2); (try clear hk); (try clear hi)))
       go_ret
       exact ⟨by first | rfl | (simp [errW_none, errW_some] <;> rfl) | (simp [*, errW_none, errW_some] <;> rfl), by repeat (first | (with_reducible first | exact HI0.out | apply IsS142.alloc | apply IsS142.drewN | apply IsS142.drew | apply IsS142.set_1 | apply IsS142.set_2) | exact HI0.out), by repeat (first | (with_reducible first | exact HB.out | apply below_alloc | apply pw_below_drewN | apply below_drew1 | refine below_set ?_ (IsS142.ge HI0.out)) | exact HB.out), by repeat (first | (with_reducible first | exact HK.out | apply KeepBut.set_ | apply keep_drewN | apply keep_drew | apply keep_alloc) | exact HK.out)⟩

/-! ### spec_l06Modes: function 128 -/
def spec_l06Modes.f (s0_0 : List Int) (s0_1 : Int) (s0_2 : Int) : Option (Int × Int × Int) := (spec_l01Once.f s0_0 s0_1 s0_2 12).bind fun bt193 => (if bt193.1 = true then ((spec_l01Near.f s0_0 bt193.2.1 bt193.2.2 0 2047).bind fun bt196 => (some (bt196.1, bt196.2.1, bt196.2.2))) else ((spec_l01Below.f s0_0 bt193.2.1 bt193.2.2 8).bind fun bt199 => ((spec_l01Below.f s0_0 bt199.2.1 bt199.2.2 8).bind fun bt202 => ((spec_l01Below.f s0_0 bt202.2.1 bt202.2.2 8).bind fun bt205 => ((spec_l01Pick.f s0_0 bt205.2.1 bt205.2.2 (([0, 0, 0, 1, 2, 3] : List Int))).bind fun bt211 => (some (wrap64 ((wrap64 ((wrap64 ((wrap64 (64 * bt199.1)) + (wrap64 (8 * bt202.1)))) + bt205.1)) + (wrap64 (512 * bt211.1))), bt211.2.1, bt211.2.2)))))))
set_option maxHeartbeats 8000000 in
set_option maxRecDepth 100000 in
theorem spec_l06Modes.calls (g : Nat) (s0_0 : List Int) (s0_1 : Int) (s0_2 : Int) (r1 : Int) (r2 : Int) (r3 : Int) (w0 w : World) (hI : IsS142 w0 w g s0_0 s0_1 s0_2) (hB : Below w0.heap.size w0 w) (h : spec_l06Modes.f s0_0 s0_1 s0_2 = some (r1, r2, r3)) :
 Calls Try.prog 128 #[.pointer (some ⟨g, 0, none⟩)] w fun e w' => e = .returned (.int .i64 r1) ∧ IsS142 w0 w' g s0_0 r2 r3 ∧ Below w0.heap.size w0 w' ∧ KeepBut w w' g none := by
 have HI0 := Aside0.mk hI
 have HK := Aside0.mk (KeepBut.refl w g none)
 have HL := Aside0.mk hB.size
 clear hI
 have HW0 := Aside0.mk hB.size
 have HB := Aside0.mk hB
 clear hB
 have H : ((spec_l01Once.f s0_0 s0_1 s0_2 12).bind fun bt193 => (if bt193.1 = true then ((spec_l01Near.f s0_0 bt193.2.1 bt193.2.2 0 2047).bind fun bt196 => (some (bt196.1, bt196.2.1, bt196.2.2))) else ((spec_l01Below.f s0_0 bt193.2.1 bt193.2.2 8).bind fun bt199 => ((spec_l01Below.f s0_0 bt199.2.1 bt199.2.2 8).bind fun bt202 => ((spec_l01Below.f s0_0 bt202.2.1 bt202.2.2 8).bind fun bt205 => ((spec_l01Pick.f s0_0 bt205.2.1 bt205.2.2 (([0, 0, 0, 1, 2, 3] : List Int))).bind fun bt211 => (some (wrap64 ((wrap64 ((wrap64 ((wrap64 (64 * bt199.1)) + (wrap64 (8 * bt202.1)))) + bt205.1)) + (wrap64 (512 * bt211.1))), bt211.2.1, bt211.2.2)))))))) = some (r1, r2, r3) := h
 clear h
 replace H := Option.bind_eq_some_iff.mp H
 obtain ⟨⟨t193, t194, t195⟩, A20, H⟩ := H
 try dsimp only at H
 have A2 := Aside0.mk A20
 clear A20
 by_cases c3 : t193 = true
 ·
  subst c3
  have H1 : ((spec_l01Near.f s0_0 t194 t195 0 2047).bind fun bt196 => (some (bt196.1, bt196.2.1, bt196.2.2))) = some (r1, r2, r3) := by rw [if_pos rfl] at H; exact H
  clear H
  have H := H1
  clear H1
  replace H := Option.bind_eq_some_iff.mp H
  obtain ⟨⟨t196, t197, t198⟩, A40, H⟩ := H
  replace H : (some (t196, t197, t198)) = some (r1, r2, r3) := H
  have A4 := Aside0.mk A40
  clear A40
  simp only [Option.some.injEq, Prod.mk.injEq] at H
  obtain ⟨rfl, rfl, rfl⟩ := H
  go_enter Try.func128, Try.ntmps128
  go_wp2_with (first | ((with_reducible refine gate_callee (f := 126) rfl ?_); refine goesL_ (some 4) rfl rfl Try.func126 (by kernel_rfl) rfl #[.pointer (some ⟨g, 0, none⟩), .int .i64 12] rfl (by (try simp only [List.map_toArray, List.map_cons, List.map_nil]); first | done | rfl | (simp only [List.length_drop, List.length_take]; rfl)) ?_; (with_reducible refine (spec_l01Once.calls g s0_0 s0_1 s0_2 12 true t194 t195 w0 _ ?side1 ?side2 A2.out).mono ?_); (case side1 => repeat (first | (with_reducible first | exact HI0.out | apply IsS142.alloc | apply IsS142.drewN | apply IsS142.drew | apply IsS142.set_1 | apply IsS142.set_2) | exact HI0.out)); (case side2 => repeat (first | (with_reducible first | exact HB.out | apply below_alloc | apply pw_below_drewN | apply below_drew1 | refine below_set ?_ (IsS142.ge HI0.out)) | exact HB.out)); rintro e w5 ⟨rfl, hi, hb, hk⟩; refine ⟨_, rfl, ?_⟩; have n0_ := Aside0.mk (KeepBut.trans (by repeat (first | (with_reducible first | exact HK.out | apply KeepBut.set_ | apply keep_drewN | apply keep_drew | apply keep_alloc) | exact HK.out)) hk (.inl rfl)); have n1_ := Aside0.mk (hb); have n2_ := Aside0.mk (hi); clear HK; clear HB; clear HI0; have HK := n0_; have HB := n1_; have HI0 := n2_; clear n0_ n1_ n2_; (try clear hb); (try clear hb2); (try clear hk); (try clear hi)) | ((with_reducible refine gate_callee (f := 144) rfl ?_); refine goesL_ (some 6) rfl rfl Try.func144 (by kernel_rfl) rfl #[.pointer (some ⟨g, 0, none⟩), .int .i64 0, .int .i64 2047] rfl (by (try simp only [List.map_toArray, List.map_cons, List.map_nil]); first | done | rfl | (simp only [List.length_drop, List.length_take]; rfl)) ?_; (with_reducible refine (spec_l01Near.calls g s0_0 t194 t195 0 2047 t196 t197 t198 w0 _ ?side1 ?side2 A4.out).mono ?_); (case side1 => repeat (first | (with_reducible first | exact HI0.out | apply IsS142.alloc | apply IsS142.drewN | apply IsS142.drew | apply IsS142.set_1 | apply IsS142.set_2) | exact HI0.out)); (case side2 => repeat (first | (with_reducible first | exact HB.out | apply below_alloc | apply pw_below_drewN | apply below_drew1 | refine below_set ?_ (IsS142.ge HI0.out)) | exact HB.out)); rintro e w6 ⟨rfl, hi, hb, hk⟩; refine ⟨_, rfl, ?_⟩; have n0_ := Aside0.mk (KeepBut.trans (by repeat (first | (with_reducible first | exact HK.out | apply KeepBut.set_ | apply keep_drewN | apply keep_drew | apply keep_alloc) | exact HK.out)) hk (.inl rfl)); have n1_ := Aside0.mk (hb); have n2_ := Aside0.mk (hi); clear HK; clear HB; clear HI0; have HK := n0_; have HB := n1_; have HI0 := n2_; clear n0_ n1_ n2_; (try clear hb); (try clear hb2); (try clear hk); (try clear hi)))
  go_ret
  exact ⟨by first | rfl | (simp [errW_none, errW_some] <;> rfl) | (simp [*, errW_none, errW_some] <;> rfl), by repeat (first | (with_reducible first | exact HI0.out | apply IsS142.alloc | apply IsS142.drewN | apply IsS142.drew | apply IsS142.set_1 | apply IsS142.set_2) | exact HI0.out), by repeat (first | (with_reducible first | exact HB.out | apply below_alloc | apply pw_below_drewN | apply below_drew1 | refine below_set ?_ (IsS142.ge HI0.out)) | exact HB.out), by repeat (first | (with_reducible first | exact HK.out | apply KeepBut.set_ | apply keep_drewN | apply keep_drew | apply keep_alloc) | exact HK.out)⟩
 ·
  replace c3 := Bool.eq_false_iff.mpr c3
  subst c3
  have H1 : ((spec_l01Below.f s0_0 t194 t195 8).bind fun bt199 => ((spec_l01Below.f s0_0 bt199.2.1 bt199.2.2 8).bind fun bt202 => ((spec_l01Below.f s0_0 bt202.2.1 bt202.2.2 8).bind fun bt205 => ((spec_l01Pick.f s0_0 bt205.2.1 bt205.2.2 (([0, 0, 0, 1, 2, 3] : List Int))).bind fun bt211 => (some (wrap64 ((wrap64 ((wrap64 ((wrap64 (64 * bt199.1)) + (wrap64 (8 * bt202.1)))) + bt205.1)) + (wrap64 (512 * bt211.1))), bt211.2.1, bt211.2.2)))))) = some (r1, r2, r3) := by rw [if_neg (show ¬ (false = true) by decide)] at H; exact H
  clear H
  have H := H1
  clear H1
  replace H := Option.bind_eq_some_iff.mp H
  obtain ⟨⟨t199, t200, t201⟩, A70, H⟩ := H
  try dsimp only at H
  have A7 := Aside0.mk A70
  clear A70
  replace H := Option.bind_eq_some_iff.mp H
  obtain ⟨⟨t202, t203, t204⟩, A80, H⟩ := H
  try dsimp only at H
  have A8 := Aside0.mk A80
  clear A80
  replace H := Option.bind_eq_some_iff.mp H
  obtain ⟨⟨t205, t206, t207⟩, A90, H⟩ := H
  try dsimp only at H
  have A9 := Aside0.mk A90
  clear A90
  obtain ⟨y208, hy208⟩ : ∃ y_ : List Int, y_ = (([0, 0, 0, 1, 2, 3] : List Int)) := ⟨_, rfl⟩
  replace H : ((spec_l01Pick.f s0_0 t206 t207 y208).bind fun bt211 => (some (wrap64 ((wrap64 ((wrap64 ((wrap64 (64 * t199)) + (wrap64 (8 * t202)))) + t205)) + (wrap64 (512 * bt211.1))), bt211.2.1, bt211.2.2))) = some (r1, r2, r3) := by first | (rw [hy208]; with_reducible exact H) | (have H2_ := (Option.bind_some _ _).symm.trans H; rw [hy208]; with_reducible exact H2_) | (have H2_ := (Option.bind_some _ _).symm.trans H; with_reducible exact H2_) | with_reducible exact H | (rw [hy208]; exact H) | exact H
  have Ny208 := Aside0.mk hy208
  clear hy208
  replace H := Option.bind_eq_some_iff.mp H
  obtain ⟨⟨t211, t212, t213⟩, A100, H⟩ := H
  try dsimp only at H
  have A10 := Aside0.mk A100
  clear A100
  simp only [Option.some.injEq, Prod.mk.injEq] at H
  obtain ⟨rfl, rfl, rfl⟩ := H
  go_enter Try.func128, Try.ntmps128
  go_wp2_with (first | ((with_reducible refine gate_callee (f := 126) rfl ?_); refine goesL_ (some 4) rfl rfl Try.func126 (by kernel_rfl) rfl #[.pointer (some ⟨g, 0, none⟩), .int .i64 12] rfl (by (try simp only [List.map_toArray, List.map_cons, List.map_nil]); first | done | rfl | (simp only [List.length_drop, List.length_take]; rfl)) ?_; (with_reducible refine (spec_l01Once.calls g s0_0 s0_1 s0_2 12 false t194 t195 w0 _ ?side1 ?side2 A2.out).mono ?_); (case side1 => repeat (first | (with_reducible first | exact HI0.out | apply IsS142.alloc | apply IsS142.drewN | apply IsS142.drew | apply IsS142.set_1 | apply IsS142.set_2) | exact HI0.out)); (case side2 => repeat (first | (with_reducible first | exact HB.out | apply below_alloc | apply pw_below_drewN | apply below_drew1 | refine below_set ?_ (IsS142.ge HI0.out)) | exact HB.out)); rintro e w11 ⟨rfl, hi, hb, hk⟩; refine ⟨_, rfl, ?_⟩; have n0_ := Aside0.mk (KeepBut.trans (by repeat (first | (with_reducible first | exact HK.out | apply KeepBut.set_ | apply keep_drewN | apply keep_drew | apply keep_alloc) | exact HK.out)) hk (.inl rfl)); have n1_ := Aside0.mk (hb); have n2_ := Aside0.mk (hi); clear HK; clear HB; clear HI0; have HK := n0_; have HB := n1_; have HI0 := n2_; clear n0_ n1_ n2_; (try clear hb); (try clear hb2); (try clear hk); (try clear hi)) | ((with_reducible refine gate_callee (f := 127) rfl ?_); refine goesL_ (some 8) rfl rfl Try.func127 (by kernel_rfl) rfl #[.pointer (some ⟨g, 0, none⟩), .int .i64 8] rfl (by (try simp only [List.map_toArray, List.map_cons, List.map_nil]); first | done | rfl | (simp only [List.length_drop, List.length_take]; rfl)) ?_; (with_reducible refine (spec_l01Below.calls g s0_0 t194 t195 8 t199 t200 t201 w0 _ ?side1 ?side2 A7.out).mono ?_); (case side1 => repeat (first | (with_reducible first | exact HI0.out | apply IsS142.alloc | apply IsS142.drewN | apply IsS142.drew | apply IsS142.set_1 | apply IsS142.set_2) | exact HI0.out)); (case side2 => repeat (first | (with_reducible first | exact HB.out | apply below_alloc | apply pw_below_drewN | apply below_drew1 | refine below_set ?_ (IsS142.ge HI0.out)) | exact HB.out)); rintro e w12 ⟨rfl, hi, hb, hk⟩; refine ⟨_, rfl, ?_⟩; have n0_ := Aside0.mk (KeepBut.trans (by repeat (first | (with_reducible first | exact HK.out | apply KeepBut.set_ | apply keep_drewN | apply keep_drew | apply keep_alloc) | exact HK.out)) hk (.inl rfl)); have n1_ := Aside0.mk (hb); have n2_ := Aside0.mk (hi); clear HK; clear HB; clear HI0; have HK := n0_; have HB := n1_; have HI0 := n2_; clear n0_ n1_ n2_; (try clear hb); (try clear hb2); (try clear hk); (try clear hi)) | ((with_reducible refine gate_callee (f := 127) rfl ?_); refine goesL_ (some 11) rfl rfl Try.func127 (by kernel_rfl) rfl #[.pointer (some ⟨g, 0, none⟩), .int .i64 8] rfl (by (try simp only [List.map_toArray, List.map_cons, List.map_nil]); first | done | rfl | (simp only [List.length_drop, List.length_take]; rfl)) ?_; (with_reducible refine (spec_l01Below.calls g s0_0 t200 t201 8 t202 t203 t204 w0 _ ?side1 ?side2 A8.out).mono ?_); (case side1 => repeat (first | (with_reducible first | exact HI0.out | apply IsS142.alloc | apply IsS142.drewN | apply IsS142.drew | apply IsS142.set_1 | apply IsS142.set_2) | exact HI0.out)); (case side2 => repeat (first | (with_reducible first | exact HB.out | apply below_alloc | apply pw_below_drewN | apply below_drew1 | refine below_set ?_ (IsS142.ge HI0.out)) | exact HB.out)); rintro e w13 ⟨rfl, hi, hb, hk⟩; refine ⟨_, rfl, ?_⟩; have n0_ := Aside0.mk (KeepBut.trans (by repeat (first | (with_reducible first | exact HK.out | apply KeepBut.set_ | apply keep_drewN | apply keep_drew | apply keep_alloc) | exact HK.out)) hk (.inl rfl)); have n1_ := Aside0.mk (hb); have n2_ := Aside0.mk (hi); clear HK; clear HB; clear HI0; have HK := n0_; have HB := n1_; have HI0 := n2_; clear n0_ n1_ n2_; (try clear hb); (try clear hb2); (try clear hk); (try clear hi)) | ((with_reducible refine gate_callee (f := 127) rfl ?_); refine goesL_ (some 15) rfl rfl Try.func127 (by kernel_rfl) rfl #[.pointer (some ⟨g, 0, none⟩), .int .i64 8] rfl (by (try simp only [List.map_toArray, List.map_cons, List.map_nil]); first | done | rfl | (simp only [List.length_drop, List.length_take]; rfl)) ?_; (with_reducible refine (spec_l01Below.calls g s0_0 t203 t204 8 t205 t206 t207 w0 _ ?side1 ?side2 A9.out).mono ?_); (case side1 => repeat (first | (with_reducible first | exact HI0.out | apply IsS142.alloc | apply IsS142.drewN | apply IsS142.drew | apply IsS142.set_1 | apply IsS142.set_2) | exact HI0.out)); (case side2 => repeat (first | (with_reducible first | exact HB.out | apply below_alloc | apply pw_below_drewN | apply below_drew1 | refine below_set ?_ (IsS142.ge HI0.out)) | exact HB.out)); rintro e w14 ⟨rfl, hi, hb, hk⟩; refine ⟨_, rfl, ?_⟩; have n0_ := Aside0.mk (KeepBut.trans (by repeat (first | (with_reducible first | exact HK.out | apply KeepBut.set_ | apply keep_drewN | apply keep_drew | apply keep_alloc) | exact HK.out)) hk (.inl rfl)); have n1_ := Aside0.mk (hb); have n2_ := Aside0.mk (hi); clear HK; clear HB; clear HI0; have HK := n0_; have HB := n1_; have HI0 := n2_; clear n0_ n1_ n2_; (try clear hb); (try clear hb2); (try clear hk); (try clear hi)) | ((with_reducible refine gate_dst (N := 18) rfl ?_); refine Kd.R_lit (Kd.int .i64) _ 3 ?hg (N := 18) ?hd (xs := ([0, 0, 0, 1, 2, 3] : List Int)) (inner := [.int .i64 0, .int .i64 0, .int .i64 0, .int .i64 1, .int .i64 2, .int .i64 3]) (ok := fun _ => True) (okp := fun _ => True) ?hr ?hp (fun _ hk => hk) trivial (Below.refl _ _) (Nat.le_refl _) (by simp) ?_; (case hd => rfl); (case hg => rfl); (case hr => first | (go_simp; done) | (go_simp; rfl)); (case hp => exact (Reps.one (show Kd.M (Kd.int .i64) _ _ _ 0 [.int .i64 0] from rfl) (Reps.one (show Kd.M (Kd.int .i64) _ _ _ 0 [.int .i64 0] from rfl) (Reps.one (show Kd.M (Kd.int .i64) _ _ _ 0 [.int .i64 0] from rfl) (Reps.one (show Kd.M (Kd.int .i64) _ _ _ 1 [.int .i64 1] from rfl) (Reps.one (show Kd.M (Kd.int .i64) _ _ _ 2 [.int .i64 2] from rfl) (Reps.one (show Kd.M (Kd.int .i64) _ _ _ 3 [.int .i64 3] from rfl) (Reps.none _ _)))))))); intro v209 w15 ho16 hb hg_ hnew_; clear hg_ hnew_; (first | rw [← Ny208.out] at ho16 | (simp only [Int.reduceToNat] at ho16; rw [← Ny208.out] at ho16)); have n0_ := Aside0.mk (Kd.R_lower ho16 (keep_size (w := w) (g := g) (row := none) (by repeat (first | (with_reducible first | exact HK.out | apply KeepBut.set_ | apply keep_drewN | apply keep_drew | apply keep_alloc) | exact HK.out)))); have n1_ := Aside0.mk (IsS142.below (by repeat (first | (with_reducible first | exact HI0.out | apply IsS142.alloc | apply IsS142.drewN | apply IsS142.drew | apply IsS142.set_1 | apply IsS142.set_2) | exact HI0.out)) hb); have n2_ := Aside0.mk (KeepBut.trans (by repeat (first | (with_reducible first | exact HK.out | apply KeepBut.set_ | apply keep_drewN | apply keep_drew | apply keep_alloc) | exact HK.out)) (KeepBut.of_below hb g none) (.inl rfl)); have n3_ := Aside0.mk (below_step (by repeat (first | (with_reducible first | exact HB.out | apply below_alloc | apply pw_below_drewN | apply below_drew1 | refine below_set ?_ (IsS142.ge HI0.out)) | exact HB.out)) hb); clear HI0; clear HK; clear HB; have HO210 := n0_; have HI0 := n1_; have HK := n2_; have HB := n3_; clear n0_ n1_ n2_ n3_; clear hb ho16; obtain ⟨Ao17, co17, eo17⟩ := Kd.R_slice HO210.out; subst eo17) | ((with_reducible refine gate_callee (f := 145) rfl ?_); refine goesL_ (some 19) rfl rfl Try.func145 (by kernel_rfl) rfl #[.pointer (some ⟨g, 0, none⟩), .slice Ao17 y208.length co17] rfl (by (try simp only [List.map_toArray, List.map_cons, List.map_nil]); first | done | rfl | (simp only [List.length_drop, List.length_take]; rfl)) ?_; (with_reducible refine (spec_l01Pick.calls g s0_0 t206 t207 _ _ y208 t211 t212 t213 w0 _ ?side1 ?side2 ?side3 ?side4 ?side5 A10.out).mono ?_); (case side1 => repeat (first | (with_reducible first | exact HI0.out | apply IsS142.alloc | apply IsS142.drewN | apply IsS142.drew | apply IsS142.set_1 | apply IsS142.set_2) | exact HI0.out)); (case side2 => repeat (first | (with_reducible first | exact HB.out | apply below_alloc | apply pw_below_drewN | apply below_drew1 | refine below_set ?_ (IsS142.ge HI0.out)) | exact HB.out)); (case side3 => repeat (first | exact (Kd.R_reads' HO210.out).2.2 | (with_reducible refine Kd.C_alloc ?_ _) | (with_reducible refine Kd.C_drewN ?_ _) | (with_reducible refine Kd.C_drew ?_))); (case side4 => exact (Kd.R_reads' HO210.out).2.1); (case side5 => exact far_slice (IsS142.own_ne HI0.out HO210.out (by decide))); rintro e w18 ⟨rfl, hi, hb, hk⟩; refine ⟨_, rfl, ?_⟩; have n0_ := Aside0.mk (Kd.R_mono (Kd.R_keep (IsS142.apart (show IsS142 w0 _ g s0_0 t206 t207 from by repeat (first | (with_reducible first | exact HI0.out | apply IsS142.alloc | apply IsS142.drewN | apply IsS142.drew | apply IsS142.set_1 | apply IsS142.set_2) | exact HI0.out)) (by exact Lib.cr HO210.out) (by decide)) hk (fun _ h => h.2)) (fun _ h => h.1)); have n1_ := Aside0.mk (KeepBut.trans (by repeat (first | (with_reducible first | exact HK.out | apply KeepBut.set_ | apply keep_drewN | apply keep_drew | apply keep_alloc) | exact HK.out)) hk (.inl rfl)); have n2_ := Aside0.mk (hb); have n3_ := Aside0.mk (hi); clear HO210; clear HK; clear HB; clear HI0; have HO210 := n0_; have HK := n1_; have HB := n2_; have HI0 := n3_; clear n0_ n1_ n2_ n3_; (try clear hb); (try clear hb2); (try clear hk); (try clear hi)))
  go_ret
  exact ⟨by first | rfl | (simp [errW_none, errW_some] <;> rfl) | (simp [*, errW_none, errW_some] <;> rfl), by repeat (first | (with_reducible first | exact HI0.out | apply IsS142.alloc | apply IsS142.drewN | apply IsS142.drew | apply IsS142.set_1 | apply IsS142.set_2) | exact HI0.out), by repeat (first | (with_reducible first | exact HB.out | apply below_alloc | apply pw_below_drewN | apply below_drew1 | refine below_set ?_ (IsS142.ge HI0.out)) | exact HB.out), by repeat (first | (with_reducible first | exact HK.out | apply KeepBut.set_ | apply keep_drewN | apply keep_drew | apply keep_alloc) | exact HK.out)⟩

end Go.Proofs.Ytnfiapcemafmiaa.PFnInodes
