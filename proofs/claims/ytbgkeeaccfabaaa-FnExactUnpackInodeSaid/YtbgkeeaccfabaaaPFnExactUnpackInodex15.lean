-- Written by a program of this session over Lean's own print of the program.
import Derived.Test.YtbgkeeaccfabaaaPFnExactUnpackInodex0
import Derived.Test.YtbgkeeaccfabaaaPFnExactUnpackInodex8
import Derived.Test.YtbgkeeaccfabaaaPFnExactUnpackInodex12
import Derived.Test.YtbgkeeaccfabaaaPFnExactUnpackInodex14
namespace Go.Proofs.Ytbgkeeaccfabaaa.PFnExactUnpackInode
open Go.RowKit Go.Proofs.YtbgkeeaccfabaaaW.PrintWords Go.Proofs.YtbgkeeaccfabaaaW.PrintLast Go.Proofs.YtbgkeeaccfabaaaW.PrintMore
attribute [local go_sem] max2_int min2_int max_two min_two max_three min_three max_four min_four   -- for this text's walks alone
set_option linter.unusedVariables false
set_option linter.unusedSimpArgs false

/-! ### impl_UnpackInode: function 5 -/
/-- The closure of impl.UnpackInode: takes a number of the string, and goes on in it. -/
theorem impl_UnpackInode.take (k : Nat) {gs ga : Nat} (s : ByteArray) (at_ wd at' : Int) (g : Int × Bool) (w0 w : World) (hs : w.heap[gs]? = some (.cells #[.string s] 9 (0, 0))) (ha : w.heap[ga]? = some (.cells #[.int .i64 at_] 3 (0, 0))) (hg : w0.heap.size ≤ ga) (hb : Below w0.heap.size w0 w) (hat : wrap64 (at_ + wd) = at') (h : impl_GetNumber.f k s at_ wd = some g) :
 Calls Try.prog 13 #[.int .i64 wd, .pointer (some ⟨gs, 0, none⟩), .pointer (some ⟨ga, 0, none⟩)] w fun e w' => e = .returned (.int .i64 g.1) ∧ w'.heap[ga]? = some (.cells #[.int .i64 at'] 3 (0, 0)) ∧ (∀ b, b ≠ ga → b < w.heap.size → w'.heap[b]? = w.heap[b]?) ∧ w.heap.size ≤ w'.heap.size ∧ Below w0.heap.size w0 w' := by
 have h0 : w.cell? ⟨gs, 0, none⟩ = some (.string s) := (blk_cell hs 0).trans rfl
 have h1 : w.cell? ⟨ga, 0, none⟩ = some (.int .i64 at_) := (blk_cell ha 0).trans rfl
 have h2 := blk_frozen ha 0
 have HA := Aside0.mk ha
 have HG := Aside0.mk hg
 have HB := Aside0.mk hb
 have HT := Aside0.mk hat
 have HH := Aside0.mk h
 clear ha hg hb hat h hs
 go_enter Try.func13, Try.ntmps13
 go_wp2_with (first | ((with_reducible refine gate_callee (f := 14) rfl ?_); refine goesL_ (some 11) rfl rfl Try.func14 (by kernel_rfl) rfl #[.string s, .int .i64 at_, .int .i64 wd] rfl (by simp only [List.map_toArray, List.map_cons, List.map_nil]; rfl) ?_; refine (impl_GetNumber.calls k s at_ wd g.1 g.2 w HH.out).mono ?_; rintro e w' ⟨rfl, ⟨nd, rfl⟩⟩; refine ⟨_, rfl, ?_⟩))
 go_ret
 refine ⟨rfl, ?_, fun b hb1 _ => ?_, ?_, ?_⟩
 ·
  rw [← HT.out]
  exact blk_put HA.out 0 _ rfl
 ·
  exact Below.heap_setCell _ _ _ b hb1
 ·
  simp [World.setCell]
 ·
  exact below_set (pw_below_drewN HB.out _) HG.out
theorem impl_UnpackInode.newblk (w : World) (o : Obj) : (w.alloc o).heap[w.heap.size]? = some o := by
 show (w.heap.push o)[w.heap.size]? = some o
 simp
section
variable {w : World} {g : Nat} {t : TypeId} {u0 u1 u2 u3 u4 u5 u6 u7 u8 u9 : Value}
/-- Ten cells of a block, written one behind the other. -/
abbrev impl_UnpackInode.at10 (w : World) (g : Nat) (v0 v1 v2 v3 v4 v5 v6 v7 v8 v9 : Value) : World := (((((((((w.setCell ⟨g, 0, none⟩ v0).setCell ⟨g, 1, none⟩ v1).setCell ⟨g, 2, none⟩ v2).setCell ⟨g, 3, none⟩ v3).setCell ⟨g, 4, none⟩ v4).setCell ⟨g, 5, none⟩ v5).setCell ⟨g, 6, none⟩ v6).setCell ⟨g, 7, none⟩ v7).setCell ⟨g, 8, none⟩ v8).setCell ⟨g, 9, none⟩ v9
theorem impl_UnpackInode.put10 (h : w.heap[g]? = some (.cells #[u0, u1, u2, u3, u4, u5, u6, u7, u8, u9] t (0, 0))) (v0 v1 v2 v3 v4 v5 v6 v7 v8 v9 : Value) : (impl_UnpackInode.at10 w g v0 v1 v2 v3 v4 v5 v6 v7 v8 v9).heap[g]? = some (.cells #[v0, v1, v2, v3, v4, v5, v6, v7, v8, v9] t (0, 0)) := by
 refine blk_put (cs := #[v0, v1, v2, v3, v4, v5, v6, v7, v8, u9]) ?_ 9 _ rfl
 refine blk_put (cs := #[v0, v1, v2, v3, v4, v5, v6, v7, u8, u9]) ?_ 8 _ rfl
 refine blk_put (cs := #[v0, v1, v2, v3, v4, v5, v6, u7, u8, u9]) ?_ 7 _ rfl
 refine blk_put (cs := #[v0, v1, v2, v3, v4, v5, u6, u7, u8, u9]) ?_ 6 _ rfl
 refine blk_put (cs := #[v0, v1, v2, v3, v4, u5, u6, u7, u8, u9]) ?_ 5 _ rfl
 refine blk_put (cs := #[v0, v1, v2, v3, u4, u5, u6, u7, u8, u9]) ?_ 4 _ rfl
 refine blk_put (cs := #[v0, v1, v2, u3, u4, u5, u6, u7, u8, u9]) ?_ 3 _ rfl
 refine blk_put (cs := #[v0, v1, u2, u3, u4, u5, u6, u7, u8, u9]) ?_ 2 _ rfl
 refine blk_put (cs := #[v0, u1, u2, u3, u4, u5, u6, u7, u8, u9]) ?_ 1 _ rfl
 refine blk_put (cs := #[u0, u1, u2, u3, u4, u5, u6, u7, u8, u9]) ?_ 0 _ rfl
 exact h
theorem impl_UnpackInode.below10 {w0 : World} (h : Below w0.heap.size w0 w) (hg : w0.heap.size ≤ g) (v0 v1 v2 v3 v4 v5 v6 v7 v8 v9 : Value) : Below w0.heap.size w0 (impl_UnpackInode.at10 w g v0 v1 v2 v3 v4 v5 v6 v7 v8 v9) :=
 below_set (below_set (below_set (below_set (below_set (below_set (below_set (below_set (below_set (below_set h hg) hg) hg) hg) hg) hg) hg) hg) hg) hg
theorem impl_UnpackInode.far10 {α : Type} {d : Kd α} {e base : Nat} {ok : Nat → Prop} {v : Value} {xs : List α} (h : d.R e w base ok v xs) (g : Nat) (hok : ∀ k, ok k → k ≠ g) (v0 v1 v2 v3 v4 v5 v6 v7 v8 v9 : Value) : d.R e (impl_UnpackInode.at10 w g v0 v1 v2 v3 v4 v5 v6 v7 v8 v9) base ok v xs :=
 Kd.R_far (p := ⟨g, 9, none⟩) (Kd.R_far (p := ⟨g, 8, none⟩) (Kd.R_far (p := ⟨g, 7, none⟩) (Kd.R_far (p := ⟨g, 6, none⟩) (Kd.R_far (p := ⟨g, 5, none⟩) (Kd.R_far (p := ⟨g, 4, none⟩) (Kd.R_far (p := ⟨g, 3, none⟩) (Kd.R_far (p := ⟨g, 2, none⟩) (Kd.R_far (p := ⟨g, 1, none⟩) (Kd.R_far (p := ⟨g, 0, none⟩) h hok _) hok _) hok _) hok _) hok _) hok _) hok _) hok _) hok _) hok _
end
def impl_UnpackInode.blk (k : Nat) (s : ByteArray) (size : Int) : List Nat → List Int → Option (List Int)
 | [], acc => some acc
 | i :: l, acc => (impl_GetNumber.f k s (13 + 2 * (i : Int)) 2).bind fun g => impl_UnpackInode.blk k s size l (if (i : Int) < Lib.needB size then acc ++ [wrap64 (g.1 - 1)] else acc)
theorem impl_UnpackInode.blk_mono (s : ByteArray) (size : Int) (k : Nat) : ∀ (l : List Nat) (acc : List Int), LeO (impl_UnpackInode.blk k s size l acc) (impl_UnpackInode.blk (k + 1) s size l acc)
 | [], _ => LeO.refl _
 | i :: l, acc => by
  unfold impl_UnpackInode.blk
  exact LeO.bind (impl_GetNumber.mono _ _ _ _) fun _ => impl_UnpackInode.blk_mono s size k l _
/-- impl.UnpackInode. -/
def impl_UnpackInode.f (k : Nat) (s : ByteArray) : Option (Int × Int × Int × Int × Int × Int × Int × List Int × List (S43) × List (S43) × Bool) := if s.size = 96 then (impl_GetNumber.f k s 0 1).bind fun g0_ => (impl_GetNumber.f k s 1 2).bind fun g1_ => (impl_GetNumber.f k s 3 1).bind fun g2_ => (impl_GetNumber.f k s 4 1).bind fun g3_ => (impl_GetNumber.f k s 5 2).bind fun g4_ => (impl_GetNumber.f k s 7 2).bind fun g5_ => (impl_GetNumber.f k s 9 4).bind fun g6_ => (impl_UnpackInode.blk k s g5_.1 (List.range 8) []).bind fun b => (impl_UnpackAcl.f k (s.extract 29 48)).bind fun x => (impl_UnpackAcl.f k (s.extract 48 67)).bind fun y => (impl_PackInode.f k g0_.1 g1_.1 g2_.1 g3_.1 g4_.1 g5_.1 g6_.1 b x.1 y.1).bind fun p => some (if (!x.2 || !y.2 || p.toList != s.toList) = true then (0, 0, 0, 0, 0, 0, 0, [], [], [], false) else (g0_.1, g1_.1, g2_.1, g3_.1, g4_.1, g5_.1, g6_.1, b, x.1, y.1, true)) else some (0, 0, 0, 0, 0, 0, 0, [], [], [], false)
theorem impl_UnpackInode.mono : ∀ a0 k, LeO (impl_UnpackInode.f k a0) (impl_UnpackInode.f (k + 1) a0) := by
 intro a0 k
 unfold impl_UnpackInode.f
 exact LeO.ite (LeO.bind (impl_GetNumber.mono _ _ _ _) fun _ => LeO.bind (impl_GetNumber.mono _ _ _ _) fun _ => LeO.bind (impl_GetNumber.mono _ _ _ _) fun _ => LeO.bind (impl_GetNumber.mono _ _ _ _) fun _ => LeO.bind (impl_GetNumber.mono _ _ _ _) fun _ => LeO.bind (impl_GetNumber.mono _ _ _ _) fun _ => LeO.bind (impl_GetNumber.mono _ _ _ _) fun _ => LeO.bind (impl_UnpackInode.blk_mono _ _ _ _ _) fun _ => LeO.bind (impl_UnpackAcl.mono _ _) fun _ => LeO.bind (impl_UnpackAcl.mono _ _) fun _ => LeO.bind (impl_PackInode.mono _ _ _ _ _ _ _ _ _ _ _) fun _ => LeO.refl _) (LeO.refl _)
set_option maxHeartbeats 8000000 in
set_option maxRecDepth 100000 in
theorem impl_UnpackInode.calls (k : Nat) (a0 : ByteArray) (r1 : Int) (r2 : Int) (r3 : Int) (r4 : Int) (r5 : Int) (r6 : Int) (r7 : Int) (r8 : List Int) (r9 : List (S43)) (r10 : List (S43)) (r11 : Bool) (w : World) (h : impl_UnpackInode.f k a0 = some (r1, r2, r3, r4, r5, r6, r7, r8, r9, r10, r11)) :
 Calls Try.prog 5 #[.string a0] w fun e w' => ∃ v7_ v8_ v9_ : Value, e = .returned (.tuple #[.agg #[.int .i64 r1, .int .i64 r2, .int .i64 r3, .int .i64 r4, .int .i64 r5, .int .i64 r6, .int .i64 r7, v7_, v8_, v9_], .bool r11]) ∧ Kd.R (Kd.int .i64) 3 w' w.heap.size (fun _ => True) v7_ r8 ∧ Kd.R k43 43 w' w.heap.size (fun k_ => some k_ ≠ (v9_ : Value).ownBlock) v8_ r9 ∧ Kd.R k43 43 w' w.heap.size (fun k_ => some k_ ≠ (v8_ : Value).ownBlock) v9_ r10 ∧ Below w.heap.size w w' := by
 have hu := Try.underlying25
 have hmf : ∀ (fn : Fn) (first cap : Array Value) (W : World), (Instr.makeFunc fn first cap).run Try.prog W = .ok (.func fn first cap) W := fun _ _ _ _ => rfl
 unfold impl_UnpackInode.f at h
 by_cases c : a0.size = 96
 rotate_left
 ·
  rw [if_neg c] at h
  simp only [Option.some.injEq, Prod.mk.injEq] at h
  obtain ⟨rfl, rfl, rfl, rfl, rfl, rfl, rfl, rfl, rfl, rfl, rfl⟩ := h
  have b0 : ((a0.size : Int) != 96) = true := bne_iff_ne.mpr (by omega)
  clear c
  go_enter Try.func5, Try.ntmps5
  go_wp2_with (first | ((with_reducible refine gate_dst (N := 1) rfl ?_); refine box_event rfl (N := 1) rfl (cs := #[.string a0]) (t := 9) (by first | (go_simp; done) | (go_simp; rfl)) ?_; intro gs hgs w1 hx hb; have BS := Aside0.mk hx; have HB := Aside0.mk hb; have GS_ : Aside0 (w.heap.size ≤ gs) := ⟨by rw [hgs]; exact Nat.le_refl _⟩; clear hgs hx hb) | ((with_reducible refine gate_dst (N := 2) rfl ?_); refine box_event rfl (N := 2) rfl (cs := #[.int .i64 0, .int .i64 0, .int .i64 0, .int .i64 0, .int .i64 0, .int .i64 0, .int .i64 0, .slice none 0 0, .slice none 0 0, .slice none 0 0]) (t := 25) (by first | (go_simp; done) | (go_simp; rfl)) ?_; intro g2 hg2 w2 hx hb; have z0 := (blk_cell (blk_below BS.out hb) 0).trans rfl; have BS := Aside0.mk (blk_below BS.out hb); have B2 := Aside0.mk hx; have G2 : Aside0 (w.heap.size ≤ g2) := ⟨by rw [hg2]; exact HB.out.size⟩; have HB := Aside0.mk (below_step HB.out hb); obtain ⟨p0, p1, p2, p3, p4, p5, p6, p7, p8, p9, q0, q1, q2, q3, q4, q5, q6, q7, q8, q9⟩ := Lib.cel10 B2.out; clear hg2 hx hb))
  refine bodyPost_ret (results_ct rfl _ _ g2 25 #[.int .i64 0, .int .i64 0, .int .i64 0, .int .i64 0, .int .i64 0, .int .i64 0, .int .i64 0, .slice none 0 0, .slice none 0 0, .slice none 0 0] (0, 0) _ rfl (impl_UnpackInode.put10 B2.out _ _ _ _ _ _ _ _ _ _) Try.underlying25 rfl (by kernel_rfl)) rfl ?_
  exact ⟨_, _, _, rfl, Kd.R_nil _ _ _ _ _, Kd.R_nil _ _ _ _ _, Kd.R_nil _ _ _ _ _, impl_UnpackInode.below10 HB.out G2.out _ _ _ _ _ _ _ _ _ _⟩
 rw [if_pos c] at h
 obtain ⟨g0_, hg0_, h⟩ := Option.bind_eq_some_iff.1 h
 obtain ⟨g1_, hg1_, h⟩ := Option.bind_eq_some_iff.1 h
 obtain ⟨g2_, hg2_, h⟩ := Option.bind_eq_some_iff.1 h
 obtain ⟨g3_, hg3_, h⟩ := Option.bind_eq_some_iff.1 h
 obtain ⟨g4_, hg4_, h⟩ := Option.bind_eq_some_iff.1 h
 obtain ⟨g5_, hg5_, h⟩ := Option.bind_eq_some_iff.1 h
 obtain ⟨g6_, hg6_, h⟩ := Option.bind_eq_some_iff.1 h
 obtain ⟨b, hb, h⟩ := Option.bind_eq_some_iff.1 h
 obtain ⟨x, hx, h⟩ := Option.bind_eq_some_iff.1 h
 obtain ⟨y, hy, h⟩ := Option.bind_eq_some_iff.1 h
 obtain ⟨p, hp, h⟩ := Option.bind_eq_some_iff.1 h
 have Hg0_ := Aside0.mk hg0_
 have Hg1_ := Aside0.mk hg1_
 have Hg2_ := Aside0.mk hg2_
 have Hg3_ := Aside0.mk hg3_
 have Hg4_ := Aside0.mk hg4_
 have Hg5_ := Aside0.mk hg5_
 have Hg6_ := Aside0.mk hg6_
 have Hb := Aside0.mk hb
 have Hx := Aside0.mk hx
 have Hy := Aside0.mk hy
 have Hp := Aside0.mk hp
 have HH := Aside0.mk (Option.some.inj h)
 have b0 : ((a0.size : Int) != 96) = false := bne_eq_false_iff_eq.mpr (by omega)
 have HC := Aside0.mk c
 clear hg0_ hg1_ hg2_ hg3_ hg4_ hg5_ hg6_ hb hx hy hp h c
 go_enter Try.func5, Try.ntmps5
 go_upto_region 5 with (first | ((with_reducible refine gate_dst (N := 1) rfl ?_); refine box_event rfl (N := 1) rfl (cs := #[.string a0]) (t := 9) (by first | (go_simp; done) | (go_simp; rfl)) ?_; intro gs hgs w1 hx hb; have BS := Aside0.mk hx; have HB := Aside0.mk hb; have GS_ : Aside0 (w.heap.size ≤ gs) := ⟨by rw [hgs]; exact Nat.le_refl _⟩; clear hgs hx hb) | ((with_reducible refine gate_dst (N := 2) rfl ?_); refine box_event rfl (N := 2) rfl (cs := #[.int .i64 0, .int .i64 0, .int .i64 0, .int .i64 0, .int .i64 0, .int .i64 0, .int .i64 0, .slice none 0 0, .slice none 0 0, .slice none 0 0]) (t := 25) (by first | (go_simp; done) | (go_simp; rfl)) ?_; intro g2 hg2 w2 hx hb; have z0 := (blk_cell (blk_below BS.out hb) 0).trans rfl; have BS := Aside0.mk (blk_below BS.out hb); have B2 := Aside0.mk hx; have G2 : Aside0 (w.heap.size ≤ g2) := ⟨by rw [hg2]; exact HB.out.size⟩; have HB := Aside0.mk (below_step HB.out hb); clear hg2 hx hb))
 obtain ⟨w3, hw3⟩ : ∃ w3, w3 = w2.alloc (.cells #[.int .i64 0] 3 (0, 0)) := ⟨_, rfl⟩
 obtain ⟨ga, hga⟩ : ∃ g, g = w2.heap.size := ⟨_, rfl⟩
 rw [← hga, ← hw3]
 have BA : Aside0 (w3.heap[ga]? = some (.cells #[.int .i64 0] 3 (0, 0))) := ⟨by rw [hw3, hga]; exact impl_UnpackInode.newblk _ _⟩
 have NE : Aside0 (gs ≠ ga ∧ g2 ≠ ga) := ⟨by rw [hga]; exact ⟨Nat.ne_of_lt (by have := blk_lt BS.out; omega), Nat.ne_of_lt (by have := blk_lt B2.out; omega)⟩⟩
 have GA : Aside0 (w.heap.size ≤ ga) := ⟨by rw [hga]; exact HB.out.size⟩
 replace BS := Aside0.mk (hw3 ▸ blk_alloc BS.out (.cells #[.int .i64 0] 3 (0, 0)))
 replace B2 := Aside0.mk (hw3 ▸ blk_alloc B2.out (.cells #[.int .i64 0] 3 (0, 0)))
 replace HB := Aside0.mk (hw3 ▸ below_alloc HB.out (.cells #[.int .i64 0] 3 (0, 0)))
 clear hw3 hga
 go_upto_block 0 with (first | ((with_reducible refine Lib.gate_slot (s := 18) rfl ?_); refine Lib.goesClos_ (.tmp 18) rfl (some 19) rfl rfl Try.func13 (by kernel_rfl) rfl #[.int .i64 1, .pointer (some ⟨gs, 0, none⟩), .pointer (some ⟨ga, 0, none⟩)] rfl (by simp; rfl) ?_; refine (impl_UnpackInode.take k a0 0 1 1 g0_ w _ BS.out BA.out GA.out (Lib.bw HB.out) (Lib.w64 (by decide) (by decide)) Hg0_.out).mono ?_; rintro e w' ⟨rfl, ha', far, sz, hb'⟩; have BS := Aside0.mk ((far _ NE.out.1 (blk_lt BS.out)).trans BS.out); have B2 := Aside0.mk ((far _ NE.out.2 (blk_lt B2.out)).trans B2.out); have BA := Aside0.mk ha'; have HB := Aside0.mk hb'; clear ha' hb' far sz; refine ⟨_, rfl, ?_⟩) | ((with_reducible refine Lib.gate_slot (s := 20) rfl ?_); refine Lib.goesClos_ (.tmp 20) rfl (some 21) rfl rfl Try.func13 (by kernel_rfl) rfl #[.int .i64 2, .pointer (some ⟨gs, 0, none⟩), .pointer (some ⟨ga, 0, none⟩)] rfl (by simp; rfl) ?_; refine (impl_UnpackInode.take k a0 1 2 3 g1_ w _ BS.out BA.out GA.out (Lib.bw HB.out) (Lib.w64 (by decide) (by decide)) Hg1_.out).mono ?_; rintro e w' ⟨rfl, ha', far, sz, hb'⟩; have BS := Aside0.mk ((far _ NE.out.1 (blk_lt BS.out)).trans BS.out); have B2 := Aside0.mk ((far _ NE.out.2 (blk_lt B2.out)).trans B2.out); have BA := Aside0.mk ha'; have HB := Aside0.mk hb'; clear ha' hb' far sz; refine ⟨_, rfl, ?_⟩) | ((with_reducible refine Lib.gate_slot (s := 22) rfl ?_); refine Lib.goesClos_ (.tmp 22) rfl (some 23) rfl rfl Try.func13 (by kernel_rfl) rfl #[.int .i64 1, .pointer (some ⟨gs, 0, none⟩), .pointer (some ⟨ga, 0, none⟩)] rfl (by simp; rfl) ?_; refine (impl_UnpackInode.take k a0 3 1 4 g2_ w _ BS.out BA.out GA.out (Lib.bw HB.out) (Lib.w64 (by decide) (by decide)) Hg2_.out).mono ?_; rintro e w' ⟨rfl, ha', far, sz, hb'⟩; have BS := Aside0.mk ((far _ NE.out.1 (blk_lt BS.out)).trans BS.out); have B2 := Aside0.mk ((far _ NE.out.2 (blk_lt B2.out)).trans B2.out); have BA := Aside0.mk ha'; have HB := Aside0.mk hb'; clear ha' hb' far sz; refine ⟨_, rfl, ?_⟩) | ((with_reducible refine Lib.gate_slot (s := 24) rfl ?_); refine Lib.goesClos_ (.tmp 24) rfl (some 25) rfl rfl Try.func13 (by kernel_rfl) rfl #[.int .i64 1, .pointer (some ⟨gs, 0, none⟩), .pointer (some ⟨ga, 0, none⟩)] rfl (by simp; rfl) ?_; refine (impl_UnpackInode.take k a0 4 1 5 g3_ w _ BS.out BA.out GA.out (Lib.bw HB.out) (Lib.w64 (by decide) (by decide)) Hg3_.out).mono ?_; rintro e w' ⟨rfl, ha', far, sz, hb'⟩; have BS := Aside0.mk ((far _ NE.out.1 (blk_lt BS.out)).trans BS.out); have B2 := Aside0.mk ((far _ NE.out.2 (blk_lt B2.out)).trans B2.out); have BA := Aside0.mk ha'; have HB := Aside0.mk hb'; clear ha' hb' far sz; refine ⟨_, rfl, ?_⟩) | ((with_reducible refine Lib.gate_slot (s := 26) rfl ?_); refine Lib.goesClos_ (.tmp 26) rfl (some 27) rfl rfl Try.func13 (by kernel_rfl) rfl #[.int .i64 2, .pointer (some ⟨gs, 0, none⟩), .pointer (some ⟨ga, 0, none⟩)] rfl (by simp; rfl) ?_; refine (impl_UnpackInode.take k a0 5 2 7 g4_ w _ BS.out BA.out GA.out (Lib.bw HB.out) (Lib.w64 (by decide) (by decide)) Hg4_.out).mono ?_; rintro e w' ⟨rfl, ha', far, sz, hb'⟩; have BS := Aside0.mk ((far _ NE.out.1 (blk_lt BS.out)).trans BS.out); have B2 := Aside0.mk ((far _ NE.out.2 (blk_lt B2.out)).trans B2.out); have BA := Aside0.mk ha'; have HB := Aside0.mk hb'; clear ha' hb' far sz; refine ⟨_, rfl, ?_⟩) | ((with_reducible refine Lib.gate_slot (s := 28) rfl ?_); refine Lib.goesClos_ (.tmp 28) rfl (some 29) rfl rfl Try.func13 (by kernel_rfl) rfl #[.int .i64 2, .pointer (some ⟨gs, 0, none⟩), .pointer (some ⟨ga, 0, none⟩)] rfl (by simp; rfl) ?_; refine (impl_UnpackInode.take k a0 7 2 9 g5_ w _ BS.out BA.out GA.out (Lib.bw HB.out) (Lib.w64 (by decide) (by decide)) Hg5_.out).mono ?_; rintro e w' ⟨rfl, ha', far, sz, hb'⟩; have BS := Aside0.mk ((far _ NE.out.1 (blk_lt BS.out)).trans BS.out); have B2 := Aside0.mk ((far _ NE.out.2 (blk_lt B2.out)).trans B2.out); have BA := Aside0.mk ha'; have HB := Aside0.mk hb'; clear ha' hb' far sz; refine ⟨_, rfl, ?_⟩) | ((with_reducible refine Lib.gate_slot (s := 30) rfl ?_); refine Lib.goesClos_ (.tmp 30) rfl (some 31) rfl rfl Try.func13 (by kernel_rfl) rfl #[.int .i64 4, .pointer (some ⟨gs, 0, none⟩), .pointer (some ⟨ga, 0, none⟩)] rfl (by simp; rfl) ?_; refine (impl_UnpackInode.take k a0 9 4 13 g6_ w _ BS.out BA.out GA.out (Lib.bw HB.out) (Lib.w64 (by decide) (by decide)) Hg6_.out).mono ?_; rintro e w' ⟨rfl, ha', far, sz, hb'⟩; have BS := Aside0.mk ((far _ NE.out.1 (blk_lt BS.out)).trans BS.out); have B2 := Aside0.mk ((far _ NE.out.2 (blk_lt B2.out)).trans B2.out); have BA := Aside0.mk ha'; have HB := Aside0.mk hb'; clear ha' hb' far sz; refine ⟨_, rfl, ?_⟩))
 obtain ⟨w6, hw6⟩ : ∃ W, W = World.alloc w' (.cells #[.int .i64 g0_.1, .int .i64 g1_.1, .int .i64 g2_.1, .int .i64 g3_.1, .int .i64 g4_.1, .int .i64 g5_.1, .int .i64 g6_.1, (.slice none 0 0), (.slice none 0 0), (.slice none 0 0)] 25 (0, 0)) := ⟨_, rfl⟩
 obtain ⟨g6, hg6⟩ : ∃ g, g = w'.heap.size := ⟨_, rfl⟩
 rw [← hg6, ← hw6]
 have B6 : Aside0 (w6.heap[g6]? = some (.cells #[.int .i64 g0_.1, .int .i64 g1_.1, .int .i64 g2_.1, .int .i64 g3_.1, .int .i64 g4_.1, .int .i64 g5_.1, .int .i64 g6_.1, (.slice none 0 0), (.slice none 0 0), (.slice none 0 0)] 25 (0, 0))) := ⟨by rw [hw6, hg6]; exact impl_UnpackInode.newblk _ _⟩
 have N6 : Aside0 (gs < g6 ∧ g2 < g6 ∧ ga < g6) := ⟨by rw [hg6]; exact ⟨blk_lt BS.out, blk_lt B2.out, blk_lt BA.out⟩⟩
 have G6 : Aside0 (w.heap.size ≤ g6) := ⟨by rw [hg6]; exact HB.out.size⟩
 replace BS := Aside0.mk (hw6 ▸ blk_alloc BS.out (.cells #[.int .i64 g0_.1, .int .i64 g1_.1, .int .i64 g2_.1, .int .i64 g3_.1, .int .i64 g4_.1, .int .i64 g5_.1, .int .i64 g6_.1, (.slice none 0 0), (.slice none 0 0), (.slice none 0 0)] 25 (0, 0)))
 replace B2 := Aside0.mk (hw6 ▸ blk_alloc B2.out (.cells #[.int .i64 g0_.1, .int .i64 g1_.1, .int .i64 g2_.1, .int .i64 g3_.1, .int .i64 g4_.1, .int .i64 g5_.1, .int .i64 g6_.1, (.slice none 0 0), (.slice none 0 0), (.slice none 0 0)] 25 (0, 0)))
 replace BA := Aside0.mk (hw6 ▸ blk_alloc BA.out (.cells #[.int .i64 g0_.1, .int .i64 g1_.1, .int .i64 g2_.1, .int .i64 g3_.1, .int .i64 g4_.1, .int .i64 g5_.1, .int .i64 g6_.1, (.slice none 0 0), (.slice none 0 0), (.slice none 0 0)] 25 (0, 0)))
 replace HB := Aside0.mk (hw6 ▸ below_alloc HB.out (.cells #[.int .i64 g0_.1, .int .i64 g1_.1, .int .i64 g2_.1, .int .i64 g3_.1, .int .i64 g4_.1, .int .i64 g5_.1, .int .i64 g6_.1, (.slice none 0 0), (.slice none 0 0), (.slice none 0 0)] 25 (0, 0)))
 clear hw6 hg6
 try go_wp2
 go_loopg [33] 9 (fun kq v33 w' => ∃ (i : Nat) (acc : List Int) (u : Value), v33 = .int .i64 (i : Int) ∧ Aside0 (i + kq = 9 ∧ i ≤ 8 ∧ acc.length ≤ i) ∧ Aside0 (impl_UnpackInode.blk k a0 g5_.1 ((List.range 8).drop i) acc = some b) ∧ Aside0 (Kd.R (Kd.int .i64) 3 w' w.heap.size (fun q => g6 < q) u acc) ∧ Aside0 (w'.heap[gs]? = some (.cells #[.string a0] 9 (0, 0))) ∧ Aside0 (w'.heap[g2]? = some (.cells #[.int .i64 0, .int .i64 0, .int .i64 0, .int .i64 0, .int .i64 0, .int .i64 0, .int .i64 0, .slice none 0 0, .slice none 0 0, .slice none 0 0] 25 (0, 0))) ∧ Aside0 (w'.heap[ga]? = some (.cells #[.int .i64 (13 + 2 * (i : Int))] 3 (0, 0))) ∧ Aside0 (w'.heap[g6]? = some (.cells #[.int .i64 g0_.1, .int .i64 g1_.1, .int .i64 g2_.1, .int .i64 g3_.1, .int .i64 g4_.1, .int .i64 g5_.1, .int .i64 g6_.1, u, (.slice none 0 0), (.slice none 0 0)] 25 (0, 0))) ∧ Aside0 (Below w.heap.size w w'))
 case atStart => exact ⟨0, [], .slice none 0 0, rfl, ⟨by simp⟩, Hb, ⟨Kd.R_nil _ _ _ _ _⟩, BS, B2, BA, B6, HB⟩
 case round =>
  obtain ⟨i, acc, u, rfl, HM, HK, HR, BS, B2, BA, B6, HB⟩ := hrel
  cases gk with
  | zero => exact absurd HM.out (by omega)
  | succ k1 =>
   by_cases c : i < 8
   ·
    have H := HK.out
    rw [show (List.range 8).drop i = i :: (List.range 8).drop (i + 1) from by rw [List.drop_eq_getElem_cons (by simpa using c)]; simp] at H
    unfold impl_UnpackInode.blk at H
    obtain ⟨g, hg, H⟩ := Option.bind_eq_some_iff.1 H
    have Hg := Aside0.mk hg
    have b0 : decide ((i : Int) < 8) = true := decide_eq_true (by omega)
    have HW : Aside0 (wrap64 (13 + 2 * (i : Int) + 2) = 13 + 2 * ((i + 1 : Nat) : Int)) := ⟨by rw [Lib.w64 (by omega) (by omega)]; omega⟩
    clear hg HK
    by_cases d : (i : Int) < Lib.needB g5_.1
    ·
     rw [if_pos d] at H
     have HH2 := Aside0.mk H
     have b1 : decide ((i : Int) < Lib.needB g5_.1) = true := decide_eq_true d
     have HC2 := Aside0.mk c
     clear H c d
     go_wp2_with (first | ((with_reducible refine Lib.gate_slot (s := 36) rfl ?_); refine Lib.goesClos_ (.tmp 36) rfl (some 37) rfl rfl Try.func13 (by kernel_rfl) rfl #[.int .i64 2, .pointer (some ⟨gs, 0, none⟩), .pointer (some ⟨ga, 0, none⟩)] rfl (by simp; rfl) ?_; refine (impl_UnpackInode.take k a0 (13 + 2 * (i : Int)) 2 (13 + 2 * ((i + 1 : Nat) : Int)) g w _ BS.out BA.out GA.out (Lib.bw HB.out) HW.out Hg.out).mono ?_; rintro e w1 ⟨rfl, ha', far, sz, hb'⟩; have HR := Aside0.mk (Kd.R_step HR.out (fun q hq hlt => far q (by have := N6.out; omega) hlt)); have BS := Aside0.mk ((far _ NE.out.1 (blk_lt BS.out)).trans BS.out); have B2 := Aside0.mk ((far _ NE.out.2 (blk_lt B2.out)).trans B2.out); have B6 := Aside0.mk ((far _ (by have := N6.out; omega) (blk_lt B6.out)).trans B6.out); have BA := Aside0.mk ha'; have HB := Aside0.mk hb'; clear ha' hb' far sz; obtain ⟨p0, p1, p2, p3, p4, p5, p6, p7, p8, p9, q0, q1, q2, q3, q4, q5, q6, q7, q8, q9⟩ := Lib.cel10 B6.out; refine ⟨_, rfl, ?_⟩) | ((with_reducible refine gate_callee (f := 15) rfl ?_); refine goesL_ (some 42) rfl rfl Try.func15 (by kernel_rfl) rfl #[.int .i64 g5_.1] rfl (by simp only [List.map_toArray, List.map_cons, List.map_nil]; rfl) ?_; refine (impl_BlocksNeeded.calls g5_.1 (Lib.needB g5_.1) _ (by unfold impl_BlocksNeeded.f Lib.needB; split <;> rfl)).mono ?_; rintro e w2 ⟨rfl, ⟨nd, rfl⟩⟩; refine ⟨_, rfl, ?_⟩) | ((with_reducible refine gate_builtin (b := .append) (xs := #[.tmp 45, .tmp 47]) rfl ?_); at_builtin; refine Kd.R_append (Kd.int .i64) (w0 := w) w.heap.size rfl (.tmp 45) (.tmp 47) 22 3 (.int .i64 0) 8 rfl Try.underlying22 info3 rfl (by decide) (by omega) u acc (wrap64 (g.1 - 1)) [.int .i64 (wrap64 (g.1 - 1))] (fun q => g6 < q) (fun _ => False) rfl rfl ?aP (fun _ hk => hk.elim) ?aF ?aO ?aB ?aS ?aL ?_; (case aP => exact rfl); (case aB => exact Lib.bw HB.out); (case aF => exact fun q hq => Nat.lt_of_lt_of_le (blk_lt (Lib.bk B6.out)) hq); (case aO => exact Lib.cr HR.out); (case aS => exact (Lib.bw HB.out).size); (case aL => have := HM.out; omega); intro v w3 ho hb hgr hat; have BS := Aside0.mk (blk_grown (Lib.bk BS.out) hgr (fun e => by have := HR.out.1 _ e.symm; have := N6.out; omega)); have B2 := Aside0.mk (blk_grown (Lib.bk B2.out) hgr (fun e => by have := HR.out.1 _ e.symm; have := N6.out; omega)); have BA := Aside0.mk (blk_grown (Lib.bk BA.out) hgr (fun e => by have := HR.out.1 _ e.symm; have := N6.out; omega)); have B6 := Aside0.mk (blk_grown (Lib.bk B6.out) hgr (fun e => by have := HR.out.1 _ e.symm; omega)); have HB := Aside0.mk hb; have HR := Aside0.mk ho; clear ho hb hgr hat; obtain ⟨A, cc, ev⟩ := Kd.R_slice HR.out; replace ev : v = .slice A (acc.length + 1) cc := ev.trans (by rw [List.length_append]; rfl); subst ev; obtain ⟨p0, p1, p2, p3, p4, p5, p6, p7, p8, p9, q0, q1, q2, q3, q4, q5, q6, q7, q8, q9⟩ := Lib.cel10 B6.out))
     go_roundg k1
     case measure => have := HM.out; omega
     case rel =>
      have hc := HC2.out
      have hm := HM.out
      have hw : wrap64 ((i : Int) + 1) = ((i + 1 : Nat) : Int) := by rw [Lib.w64 (by omega) (by omega)]; omega
      exact ⟨i + 1, acc ++ [wrap64 (g.1 - 1)], .slice A (acc.length + 1) cc, (by first | rfl | (rw [hw]; done) | (simp only [hw]; done) | simp [hw]), ⟨by rw [List.length_append]; simp only [List.length_cons, List.length_nil]; omega⟩, HH2, ⟨Kd.R_far HR.out (fun q hq => Nat.ne_of_gt hq) _⟩, ⟨blk_far BS.out (Nat.ne_of_lt N6.out.1) _⟩, ⟨blk_far B2.out (Nat.ne_of_lt N6.out.2.1) _⟩, ⟨blk_far BA.out (Nat.ne_of_lt N6.out.2.2) _⟩, ⟨blk_put B6.out 7 _ rfl⟩, ⟨Lib.bs HB.out G6.out⟩⟩
    ·
     rw [if_neg d] at H
     have HH2 := Aside0.mk H
     have b1 : decide ((i : Int) < Lib.needB g5_.1) = false := decide_eq_false d
     have HC2 := Aside0.mk c
     clear H c d
     go_wp2_with (first | ((with_reducible refine Lib.gate_slot (s := 36) rfl ?_); refine Lib.goesClos_ (.tmp 36) rfl (some 37) rfl rfl Try.func13 (by kernel_rfl) rfl #[.int .i64 2, .pointer (some ⟨gs, 0, none⟩), .pointer (some ⟨ga, 0, none⟩)] rfl (by simp; rfl) ?_; refine (impl_UnpackInode.take k a0 (13 + 2 * (i : Int)) 2 (13 + 2 * ((i + 1 : Nat) : Int)) g w _ BS.out BA.out GA.out (Lib.bw HB.out) HW.out Hg.out).mono ?_; rintro e w1 ⟨rfl, ha', far, sz, hb'⟩; have HR := Aside0.mk (Kd.R_step HR.out (fun q hq hlt => far q (by have := N6.out; omega) hlt)); have BS := Aside0.mk ((far _ NE.out.1 (blk_lt BS.out)).trans BS.out); have B2 := Aside0.mk ((far _ NE.out.2 (blk_lt B2.out)).trans B2.out); have B6 := Aside0.mk ((far _ (by have := N6.out; omega) (blk_lt B6.out)).trans B6.out); have BA := Aside0.mk ha'; have HB := Aside0.mk hb'; clear ha' hb' far sz; obtain ⟨p0, p1, p2, p3, p4, p5, p6, p7, p8, p9, q0, q1, q2, q3, q4, q5, q6, q7, q8, q9⟩ := Lib.cel10 B6.out; refine ⟨_, rfl, ?_⟩) | ((with_reducible refine gate_callee (f := 15) rfl ?_); refine goesL_ (some 42) rfl rfl Try.func15 (by kernel_rfl) rfl #[.int .i64 g5_.1] rfl (by simp only [List.map_toArray, List.map_cons, List.map_nil]; rfl) ?_; refine (impl_BlocksNeeded.calls g5_.1 (Lib.needB g5_.1) _ (by unfold impl_BlocksNeeded.f Lib.needB; split <;> rfl)).mono ?_; rintro e w2 ⟨rfl, ⟨nd, rfl⟩⟩; refine ⟨_, rfl, ?_⟩))
     go_roundg k1
     case measure => have := HM.out; omega
     case rel =>
      have hc := HC2.out
      have hm := HM.out
      have hw : wrap64 ((i : Int) + 1) = ((i + 1 : Nat) : Int) := by rw [Lib.w64 (by omega) (by omega)]; omega
      exact ⟨i + 1, acc, u, (by first | rfl | (rw [hw]; done) | (simp only [hw]; done) | simp [hw]), ⟨by omega⟩, HH2, ⟨Lib.cr HR.out⟩, ⟨Lib.bk BS.out⟩, ⟨Lib.bk B2.out⟩, ⟨Lib.bk BA.out⟩, ⟨Lib.bk B6.out⟩, ⟨Lib.bw HB.out⟩⟩
   ·
    have hi : i = 8 := by have := HM.out; omega
    subst hi
    have hb : acc = b := by have H := HK.out; rw [List.drop_eq_nil_of_le (by simp)] at H; exact Option.some.inj H
    subst hb
    have b0 : decide (((8 : Nat) : Int) < 8) = false := by decide
    clear HK c HM Hb
    replace BA : Aside0 (wr.heap[ga]? = some (.cells #[.int .i64 29] 3 (0, 0))) := BA
    have G7 : Aside0 (w.heap.size ≤ wr.heap.size) := ⟨HB.out.size⟩
    obtain ⟨A7, c7, e7⟩ := Kd.R_slice HR.out
    subst e7
    have y0 := (blk_cell BA.out 0).trans rfl
    have z0 := (blk_cell BS.out 0).trans rfl
    have l1 : (48 : Int) ≤ (a0.size : Int) := by have := HC.out; omega
    have l2 : (67 : Int) ≤ (a0.size : Int) := by have := HC.out; omega
    have l3 := decide_eq_true l1
    have l4 := decide_eq_true l2
    replace l1 := eq_true l1
    replace l2 := eq_true l2
    go_upto_region 16 with (first | ((with_reducible refine gate_callee (f := 16) rfl ?_); refine goesL_ (some 57) rfl rfl Try.func16 (by kernel_rfl) rfl #[.string (a0.extract 29 48)] rfl (by simp only [List.map_toArray, List.map_cons, List.map_nil]; rfl) ?_; refine (impl_UnpackAcl.calls k (a0.extract 29 48) x.1 x.2 _ Hx.out).mono ?_; rintro e w1 ⟨vx, rfl, ho, hb⟩; have Rx : Aside0 (Kd.R k43 43 w1 w.heap.size (fun q => g6 < q ∧ q < w1.heap.size) vx x.1) := ⟨Kd.R_lower (Kd.R_mono (Kd.R_bound ho) (fun q hq => ⟨Nat.lt_of_lt_of_le (blk_lt B6.out) hq.2.1, hq.2.2.1⟩)) G7.out⟩; have HR := Aside0.mk (Kd.R_below HR.out hb); have N1 : Aside0 (w.heap.size ≤ w1.heap.size) := ⟨Nat.le_trans G7.out hb.size⟩; have BS := Aside0.mk (blk_below BS.out hb); have B2 := Aside0.mk (blk_below B2.out hb); have BA := Aside0.mk (blk_below BA.out hb); have B6 := Aside0.mk (blk_below B6.out hb); have HB := Aside0.mk (below_step HB.out hb); clear ho hb; have y0 := (blk_cell BA.out 0).trans rfl; have z0 := (blk_cell BS.out 0).trans rfl; obtain ⟨Ax, cx, ex⟩ := Kd.R_slice Rx.out; subst ex; refine ⟨_, rfl, ?_⟩) | ((with_reducible refine gate_callee (f := 16) rfl ?_); refine goesL_ (some 67) rfl rfl Try.func16 (by kernel_rfl) rfl #[.string (a0.extract 48 67)] rfl (by simp only [List.map_toArray, List.map_cons, List.map_nil]; rfl) ?_; refine (impl_UnpackAcl.calls k (a0.extract 48 67) y.1 y.2 _ Hy.out).mono ?_; rintro e w2 ⟨vy, rfl, ho, hb⟩; have Ry : Aside0 (Kd.R k43 43 w2 w.heap.size (fun q => w1.heap.size ≤ q) vy y.1) := ⟨Kd.R_lower (Kd.R_mono (Kd.R_bound ho) (fun q hq => hq.2.1)) N1.out⟩; have N2 : Aside0 (g6 < w1.heap.size) := ⟨blk_lt B6.out⟩; have HR := Aside0.mk (Kd.R_below HR.out hb); have Rx := Aside0.mk (Kd.R_below Rx.out hb); have BS := Aside0.mk (blk_below BS.out hb); have B2 := Aside0.mk (blk_below B2.out hb); have BA := Aside0.mk (blk_below BA.out hb); have B6 := Aside0.mk (blk_below B6.out hb); have HB := Aside0.mk (below_step HB.out hb); clear ho hb; have y0 := (blk_cell BA.out 0).trans rfl; have z0 := (blk_cell BS.out 0).trans rfl; obtain ⟨Ay, cy, ey⟩ := Kd.R_slice Ry.out; subst ey; obtain ⟨p0, p1, p2, p3, p4, p5, p6, p7, p8, p9, q0, q1, q2, q3, q4, q5, q6, q7, q8, q9⟩ := Lib.cel10 B6.out; refine ⟨_, rfl, ?_⟩))
    obtain ⟨w3, hw3⟩ : ∃ W, W = (w2.setCell ⟨g6, 8, none⟩ (.slice Ax x.1.length cx)).setCell ⟨g6, 9, none⟩ (.slice Ay y.1.length cy) := ⟨_, rfl⟩
    rw [← hw3]
    replace B6 : Aside0 (w3.heap[g6]? = some (.cells #[.int .i64 g0_.1, .int .i64 g1_.1, .int .i64 g2_.1, .int .i64 g3_.1, .int .i64 g4_.1, .int .i64 g5_.1, .int .i64 g6_.1, (.slice A7 acc.length c7), (.slice Ax x.1.length cx), (.slice Ay y.1.length cy)] 25 (0, 0))) := ⟨hw3 ▸ blk_put (blk_put B6.out 8 _ rfl) 9 _ rfl⟩
    replace BS := Aside0.mk (hw3 ▸ blk_far (p := ⟨g6, 9, none⟩) (blk_far (p := ⟨g6, 8, none⟩) BS.out (Nat.ne_of_lt N6.out.1) (.slice Ax x.1.length cx)) (Nat.ne_of_lt N6.out.1) (.slice Ay y.1.length cy))
    replace B2 := Aside0.mk (hw3 ▸ blk_far (p := ⟨g6, 9, none⟩) (blk_far (p := ⟨g6, 8, none⟩) B2.out (Nat.ne_of_lt N6.out.2.1) (.slice Ax x.1.length cx)) (Nat.ne_of_lt N6.out.2.1) (.slice Ay y.1.length cy))
    replace HR := Aside0.mk (hw3 ▸ Kd.R_far (p := ⟨g6, 9, none⟩) (Kd.R_far (p := ⟨g6, 8, none⟩) HR.out (fun q hq => Nat.ne_of_gt hq) (.slice Ax x.1.length cx)) (fun q hq => Nat.ne_of_gt hq) (.slice Ay y.1.length cy))
    replace Rx := Aside0.mk (hw3 ▸ Kd.R_far (p := ⟨g6, 9, none⟩) (Kd.R_far (p := ⟨g6, 8, none⟩) Rx.out (fun q hq => Nat.ne_of_gt hq.1) (.slice Ax x.1.length cx)) (fun q hq => Nat.ne_of_gt hq.1) (.slice Ay y.1.length cy))
    replace Ry := Aside0.mk (hw3 ▸ Kd.R_far (p := ⟨g6, 9, none⟩) (Kd.R_far (p := ⟨g6, 8, none⟩) Ry.out (fun q hq => Nat.ne_of_gt (Nat.lt_of_lt_of_le N2.out hq)) (.slice Ax x.1.length cx)) (fun q hq => Nat.ne_of_gt (Nat.lt_of_lt_of_le N2.out hq)) (.slice Ay y.1.length cy))
    replace HB := Aside0.mk (hw3 ▸ below_set (j := 9) (v := .slice Ay y.1.length cy) (below_set (j := 8) (v := .slice Ax x.1.length cx) HB.out G6.out) G6.out)
    clear hw3
    go_cut [85] (fun v wc => v = .bool (!x.2 || !y.2 || p.toList != a0.toList) ∧ Aside0 (Below w3.heap.size w3 wc))
    case first =>
     have HM : ∀ W, Below w3.heap.size w3 W → (W.cell? ⟨gs, 0, none⟩ = some (.string a0) ∧ W.cell? ⟨g6, 0, none⟩ = some (.int .i64 g0_.1) ∧ W.cell? ⟨g6, 1, none⟩ = some (.int .i64 g1_.1) ∧ W.cell? ⟨g6, 2, none⟩ = some (.int .i64 g2_.1) ∧ W.cell? ⟨g6, 3, none⟩ = some (.int .i64 g3_.1) ∧ W.cell? ⟨g6, 4, none⟩ = some (.int .i64 g4_.1) ∧ W.cell? ⟨g6, 5, none⟩ = some (.int .i64 g5_.1) ∧ W.cell? ⟨g6, 6, none⟩ = some (.int .i64 g6_.1) ∧ W.cell? ⟨g6, 7, none⟩ = some (.slice A7 acc.length c7) ∧ W.cell? ⟨g6, 8, none⟩ = some (.slice Ax x.1.length cx) ∧ W.cell? ⟨g6, 9, none⟩ = some (.slice Ay y.1.length cy)) := fun W hb => ⟨(blk_cell (blk_below BS.out hb) 0).trans rfl, (blk_cell (blk_below B6.out hb) 0).trans rfl, (blk_cell (blk_below B6.out hb) 1).trans rfl, (blk_cell (blk_below B6.out hb) 2).trans rfl, (blk_cell (blk_below B6.out hb) 3).trans rfl, (blk_cell (blk_below B6.out hb) 4).trans rfl, (blk_cell (blk_below B6.out hb) 5).trans rfl, (blk_cell (blk_below B6.out hb) 6).trans rfl, (blk_cell (blk_below B6.out hb) 7).trans rfl, (blk_cell (blk_below B6.out hb) 8).trans rfl, (blk_cell (blk_below B6.out hb) 9).trans rfl⟩
     refine Lib.q_start w3 Try.f5 (by kernel_rfl) rfl (by kernel_rfl) (Below.refl _ _) ?_
     refine Lib.q (.tmp 10) (.tmp 10) (h := ?_)
     refine Lib.q (.tmp 74) (.tmp 74) (h := ?_)
     refine Lib.q (.tmp 75) (.tmp 75) (h := ?_)
     refine Lib.q (.tmp 12) (.tmp 12) (h := ?_)
     refine Lib.q (.tmp 77) (.tmp 77) (h := ?_)
     refine Lib.q_or (.tmp 76) (.tmp 78) (h := ?_)
     refine Lib.q (.tmp 79) (.tmp 79) (h := ?_)
     refine Lib.q (.tmp 6) (.tmp 6) (h := ?_)
     refine Lib.q_call (.string p) #[.agg #[.int .i64 g0_.1, .int .i64 g1_.1, .int .i64 g2_.1, .int .i64 g3_.1, .int .i64 g4_.1, .int .i64 g5_.1, .int .i64 g6_.1, (.slice A7 acc.length c7), (.slice Ax x.1.length cx), (.slice Ay y.1.length cy)]] Try.func17 (hcl := ?_) (h := ?_)
     ·
      exact fun _ W hb => impl_PackInode.calls k g0_.1 g1_.1 g2_.1 g3_.1 g4_.1 g5_.1 g6_.1 A7 c7 acc Ax cx x.1 Ay cy y.1 p W (Kd.C_below (Kd.R_reads' HR.out).2.2 hb) (Kd.R_reads' HR.out).2.1 (Kd.C_below (Kd.R_reads' Rx.out).2.2 hb) (Kd.R_reads' Rx.out).2.1 (Kd.C_below (Kd.R_reads' Ry.out).2.2 hb) (Kd.R_reads' Ry.out).2.1 Hp.out
     refine Lib.q (.tmp 1) (.tmp 1) (h := ?_)
     refine Lib.q (.tmp 82) (.tmp 83) (h := ?_)
     refine Lib.q_or (.tmp 80) (.tmp 84) (h := ?_)
     refine Lib.q_done (fun W hb => ?_)
     try go_wp2
     go_meet
     case rel => exact ⟨rfl, ⟨hb⟩⟩
    case rest =>
     obtain ⟨rfl, HW⟩ := hcut
     replace B6 := Aside0.mk (blk_below B6.out HW.out)
     replace B2 := Aside0.mk (blk_below B2.out HW.out)
     replace HR := Aside0.mk (Kd.R_below HR.out HW.out)
     replace Rx := Aside0.mk (Kd.R_below Rx.out HW.out)
     replace Ry := Aside0.mk (Kd.R_below Ry.out HW.out)
     replace HB := Aside0.mk (below_step HB.out HW.out)
     clear HW
     obtain ⟨p0, p1, p2, p3, p4, p5, p6, p7, p8, p9, q0, q1, q2, q3, q4, q5, q6, q7, q8, q9⟩ := Lib.cel10 B6.out
     obtain ⟨p0, p1, p2, p3, p4, p5, p6, p7, p8, p9, q0, q1, q2, q3, q4, q5, q6, q7, q8, q9⟩ := Lib.cel10 B2.out
     cases hD : (!x.2 || !y.2 || p.toList != a0.toList) with
     | true =>
      have H := HH.out
      rw [hD, if_pos rfl] at H
      simp only [Prod.mk.injEq] at H
      obtain ⟨rfl, rfl, rfl, rfl, rfl, rfl, rfl, rfl, rfl, rfl, rfl⟩ := H
      go_wp2
      refine bodyPost_ret (results_ct rfl _ _ g2 25 #[.int .i64 0, .int .i64 0, .int .i64 0, .int .i64 0, .int .i64 0, .int .i64 0, .int .i64 0, .slice none 0 0, .slice none 0 0, .slice none 0 0] (0, 0) _ rfl (impl_UnpackInode.put10 B2.out _ _ _ _ _ _ _ _ _ _) Try.underlying25 rfl (by kernel_rfl)) rfl ?_
      exact ⟨_, _, _, rfl, Kd.R_nil _ _ _ _ _, Kd.R_nil _ _ _ _ _, Kd.R_nil _ _ _ _ _, impl_UnpackInode.below10 HB.out G2.out _ _ _ _ _ _ _ _ _ _⟩
     | false =>
      have H := HH.out
      rw [hD, if_neg (by decide)] at H
      simp only [Prod.mk.injEq] at H
      obtain ⟨rfl, rfl, rfl, rfl, rfl, rfl, rfl, rfl, rfl, rfl, rfl⟩ := H
      go_wp2
      refine bodyPost_ret (results_ct rfl _ _ g2 25 #[.int .i64 g0_.1, .int .i64 g1_.1, .int .i64 g2_.1, .int .i64 g3_.1, .int .i64 g4_.1, .int .i64 g5_.1, .int .i64 g6_.1, (.slice A7 acc.length c7), (.slice Ax x.1.length cx), (.slice Ay y.1.length cy)] (0, 0) _ rfl (impl_UnpackInode.put10 B2.out _ _ _ _ _ _ _ _ _ _) Try.underlying25 rfl (by kernel_rfl)) rfl ?_
      exact ⟨_, _, _, rfl, Kd.R_mono (impl_UnpackInode.far10 HR.out g2 (fun q hq => by have := N6.out; omega) _ _ _ _ _ _ _ _ _ _) (fun _ _ => trivial), Kd.R_mono (impl_UnpackInode.far10 Rx.out g2 (fun q hq => by have := N6.out; omega) _ _ _ _ _ _ _ _ _ _) (fun q hq e => by have := Ry.out.1 q e.symm; omega), Kd.R_mono (impl_UnpackInode.far10 Ry.out g2 (fun q hq => by have := N6.out; have := N2.out; omega) _ _ _ _ _ _ _ _ _ _) (fun q hq e => by have := Rx.out.1 q e.symm; omega), impl_UnpackInode.below10 HB.out G2.out _ _ _ _ _ _ _ _ _ _⟩

/-! ### laws_eqIntS: function 18 -/
def laws_eqIntS.l0 : Nat → List Int → List Int → Int → Option (Bool)
 | 0, _, _, _ => none
 | k + 1, x0, x1, x5 => if x5 < (x0.length : Int) then (if 0 ≤ x5 then (if x5 < (x1.length : Int) then (if (rd x0 x5) = (rd x1 x5) then (laws_eqIntS.l0 k x0 x1 (wrap64 (x5 + 1))) else (some false)) else (none)) else (none)) else (some true)
def laws_eqIntS.f (k : Nat) (l0 : List Int) (l1 : List Int) : Option (Bool) := if (l0.length : Int) = (l1.length : Int) then (laws_eqIntS.l0 k l0 l1 0) else (some false)
theorem laws_eqIntS.mono_l : ∀ k, (∀ y0 y1 y2, LeO (laws_eqIntS.l0 k y0 y1 y2) (laws_eqIntS.l0 (k + 1) y0 y1 y2))
 | 0 => fun _ _ _ r h => by simp [laws_eqIntS.l0] at h
 | k + 1 => by
  have ih0 := laws_eqIntS.mono_l k
  ·
   intro y0 y1 y2
   unfold laws_eqIntS.l0
   repeat' first
   | (with_reducible exact ih0 _ _ _)
   | (with_reducible exact LeO.refl _)
   | (with_reducible exact LeO.none _)
   | (with_reducible refine LeO.ite ?_ ?_)
   | (with_reducible refine LeO.bind ?_ (fun _ => ?_))
   | exact ih0 _ _ _
   | exact LeO.none _
   | refine LeO.ite ?_ ?_
   | refine LeO.bind ?_ (fun _ => ?_)
theorem laws_eqIntS.mono : ∀ a0 a1 k, LeO (laws_eqIntS.f k a0 a1) (laws_eqIntS.f (k + 1) a0 a1) := by
 intro a0 a1 k
 have ih0 := laws_eqIntS.mono_l k
 unfold laws_eqIntS.f
 repeat' first
  | (with_reducible exact ih0 _ _ _)
  | (with_reducible exact LeO.refl _)
  | (with_reducible exact LeO.none _)
  | (with_reducible refine LeO.ite ?_ ?_)
  | (with_reducible refine LeO.bind ?_ (fun _ => ?_))
  | exact ih0 _ _ _
  | exact LeO.none _
  | refine LeO.ite ?_ ?_
  | refine LeO.bind ?_ (fun _ => ?_)
set_option maxHeartbeats 8000000 in
set_option maxRecDepth 100000 in
theorem laws_eqIntS.calls (k : Nat) (A0 : Option Addr) (c0 : Nat) (l0 : List Int) (A1 : Option Addr) (c1 : Nat) (l1 : List Int) (r : Bool) (w : World) (hr0 : Kd.C (Kd.int .i64) w A0 l0.length l0) (hc0 : l0.length ≤ c0) (hr1 : Kd.C (Kd.int .i64) w A1 l1.length l1) (hc1 : l1.length ≤ c1) (h : laws_eqIntS.f k l0 l1 = some r) :
 Calls Try.prog 18 #[.slice A0 l0.length c0, .slice A1 l1.length c1] w fun e w' => e = .returned (.bool r) ∧ Drawn0 w w' := by
 have HR0 := Aside0.mk hr0
 have HC0 := Aside0.mk hc0
 clear hr0 hc0
 have HR1 := Aside0.mk hr1
 have HC1 := Aside0.mk hc1
 clear hr1 hc1
 have H : (if (l0.length : Int) = (l1.length : Int) then (laws_eqIntS.l0 k l0 l1 0) else (some false)) = some r := h
 clear h
 by_cases c3 : (l0.length : Int) = (l1.length : Int)
 ·
  rw [if_pos c3] at H
  have c3b0 : ((l0.length : Int) == (l1.length : Int)) = true := beq_iff_eq.mpr c3
  have c3b1 : ((l0.length : Int) != (l1.length : Int)) = false := bne_eq_false_iff_eq.mpr c3
  have c3b2 : (l0.length == l1.length) = true := by first | simpa using c3 | (simp at c3 ⊢; omega)
  clear c3
  have H' := Aside0.mk H
  clear H
  go_enter Try.func18, Try.ntmps18
  go_wp2
  repeat (go_quiet (fail); try go_wp2)
  go_loopg [5] k (fun kq v5 w' => ∃ (x5_1 : Int), v5 = .int .i64 x5_1 ∧ Aside0 (laws_eqIntS.l0 kq l0 l1 x5_1 = some r) ∧ Aside0 (kq ≤ k) ∧ Drawn0 w w')
  case atStart => exact ⟨(0), (by first | rfl | (simp; done) | (simp [*]; done)), H', ⟨Nat.le_refl _⟩, by repeat (first | exact Drawn0.refl _ | apply Drawn0.step)⟩
  case round =>
   clear H'
   try clear c1
   try clear p2
   try clear c3
   try clear c3b0
   try clear c3b1
   try clear c3b2
   obtain ⟨x5_1, rfl, HA, HK1, ⟨m1, rfl⟩⟩ := hrel
   cases gk with
   | zero => exact absurd HA.out (by simp [laws_eqIntS.l0])
   | succ k1 =>
    have H := HA.out
    clear HA
    simp only [laws_eqIntS.l0] at H
    by_cases c4 : x5_1 < (l0.length : Int)
    ·
     rw [if_pos c4] at H
     have c4b0 : decide (x5_1 < (l0.length : Int)) = true := decide_eq_true c4
     clear c4
     by_cases c5 : 0 ≤ x5_1
     ·
      rw [if_pos c5] at H
      have c5b0 : decide (0 ≤ x5_1) = true := decide_eq_true c5
      clear c5
      by_cases c6 : x5_1 < (l1.length : Int)
      ·
       rw [if_pos c6] at H
       have c6b0 : decide (x5_1 < (l1.length : Int)) = true := decide_eq_true c6
       clear c6
       by_cases c7 : (rd l0 x5_1) = (rd l1 x5_1)
       ·
        rw [if_pos c7] at H
        have c7b0 : ((rd l0 x5_1) == (rd l1 x5_1)) = true := beq_iff_eq.mpr c7
        have c7b1 : ((rd l0 x5_1) != (rd l1 x5_1)) = false := bne_eq_false_iff_eq.mpr c7
        clear c7
        have H' := Aside0.mk H
        clear H
        have p241 : 0 ≤ (x5_1 : Int) := Lib.od
        have q241 : x5_1 < (l0.length : Int) := Lib.od
        obtain ⟨ad241, e241, hx241_0⟩ := Kd.at_int HR0.out x5_1 p241 q241
        cases e241
        replace p241 := eq_true p241
        replace q241 := eq_true q241
        have p242 : 0 ≤ (x5_1 : Int) := Lib.od
        have q242 : x5_1 < (l1.length : Int) := Lib.od
        obtain ⟨ad242, e242, hx242_0⟩ := Kd.at_int HR1.out x5_1 p242 q242
        cases e242
        replace p242 := eq_true p242
        replace q242 := eq_true q242
        go_wp2
        repeat (go_quiet (fail); try go_wp2)
        go_roundg k1
        case measure => have := HK1.out; omega
        case rel => exact ⟨(wrap64 (x5_1 + 1)), (by first | rfl | (simp; done) | (simp [*]; done)), H', ⟨by have := HK1.out; omega⟩, by repeat (first | exact Drawn0.refl _ | apply Drawn0.step)⟩
       ·
        rw [if_neg c7] at H
        have c7b0 : ((rd l0 x5_1) == (rd l1 x5_1)) = false := beq_eq_false_iff_ne.mpr c7
        have c7b1 : ((rd l0 x5_1) != (rd l1 x5_1)) = true := bne_iff_ne.mpr c7
        obtain rfl := Option.some.inj H
        have p241 : 0 ≤ (x5_1 : Int) := Lib.od
        have q241 : x5_1 < (l0.length : Int) := Lib.od
        obtain ⟨ad241, e241, hx241_0⟩ := Kd.at_int HR0.out x5_1 p241 q241
        cases e241
        replace p241 := eq_true p241
        replace q241 := eq_true q241
        have p242 : 0 ≤ (x5_1 : Int) := Lib.od
        have q242 : x5_1 < (l1.length : Int) := Lib.od
        obtain ⟨ad242, e242, hx242_0⟩ := Kd.at_int HR1.out x5_1 p242 q242
        cases e242
        replace p242 := eq_true p242
        replace q242 := eq_true q242
        go_wp2
        repeat (go_quiet (fail); try go_wp2)
        go_ret
        exact ⟨by first | rfl | (simp; done) | (simp [*]; done), by repeat (first | exact Drawn0.refl _ | apply Drawn0.step)⟩
      ·
       rw [if_neg c6] at H
       exact absurd H (by simp)
     ·
      rw [if_neg c5] at H
      exact absurd H (by simp)
    ·
     rw [if_neg c4] at H
     have c4b0 : decide (x5_1 < (l0.length : Int)) = false := decide_eq_false c4
     clear c4
     obtain rfl := Option.some.inj H
     go_wp2
     repeat (go_quiet (fail); try go_wp2)
     go_ret
     exact ⟨by first | rfl | (simp; done) | (simp [*]; done), by repeat (first | exact Drawn0.refl _ | apply Drawn0.step)⟩
 ·
  rw [if_neg c3] at H
  have c3b0 : ((l0.length : Int) == (l1.length : Int)) = false := beq_eq_false_iff_ne.mpr c3
  have c3b1 : ((l0.length : Int) != (l1.length : Int)) = true := bne_iff_ne.mpr c3
  have c3b2 : (l0.length == l1.length) = false := by first | simpa using c3 | (simp at c3 ⊢; omega)
  obtain rfl := Option.some.inj H
  go_enter Try.func18, Try.ntmps18
  go_wp2
  repeat (go_quiet (fail); try go_wp2)
  go_ret
  exact ⟨by first | rfl | (simp; done) | (simp [*]; done), by repeat (first | exact Drawn0.refl _ | apply Drawn0.step)⟩

/-! ### laws_eqAclEntry: function 33 -/
def laws_eqAclEntry.f (a0_0 : Int) (a0_1 : Int) (a0_2 : Int) (a1_0 : Int) (a1_1 : Int) (a1_2 : Int) : Option (Bool) := if a0_0 = a1_0 then (if a0_1 = a1_1 then (if a0_2 = a1_2 then (some true) else (some false)) else (some false)) else (some false)
set_option maxHeartbeats 8000000 in
set_option maxRecDepth 100000 in
theorem laws_eqAclEntry.calls (a0_0 : Int) (a0_1 : Int) (a0_2 : Int) (a1_0 : Int) (a1_1 : Int) (a1_2 : Int) (r : Bool) (w : World) (h : laws_eqAclEntry.f a0_0 a0_1 a0_2 a1_0 a1_1 a1_2 = some r) :
 Calls Try.prog 33 #[.agg #[.int .i64 a0_0, .int .i64 a0_1, .int .i64 a0_2], .agg #[.int .i64 a1_0, .int .i64 a1_1, .int .i64 a1_2]] w fun e w' => e = .returned (.bool r) ∧ Below w.heap.size w w' := by
 have hu43 := Try.underlying43
 have HB := Aside0.mk (Below.refl w.heap.size w)
 have H : (if a0_0 = a1_0 then (if a0_1 = a1_1 then (if a0_2 = a1_2 then (some true) else (some false)) else (some false)) else (some false)) = some r := h
 clear h
 by_cases c3 : a0_0 = a1_0
 ·
  rw [if_pos c3] at H
  have c3b0 : (a0_0 == a1_0) = true := beq_iff_eq.mpr c3
  have c3b1 : (a0_0 != a1_0) = false := bne_eq_false_iff_eq.mpr c3
  clear c3
  by_cases c4 : a0_1 = a1_1
  ·
   rw [if_pos c4] at H
   have c4b0 : (a0_1 == a1_1) = true := beq_iff_eq.mpr c4
   have c4b1 : (a0_1 != a1_1) = false := bne_eq_false_iff_eq.mpr c4
   clear c4
   by_cases c5 : a0_2 = a1_2
   ·
    rw [if_pos c5] at H
    have c5b0 : (a0_2 == a1_2) = true := beq_iff_eq.mpr c5
    have c5b1 : (a0_2 != a1_2) = false := bne_eq_false_iff_eq.mpr c5
    clear c5
    obtain rfl := Option.some.inj H
    go_enter Try.func33, Try.ntmps33
    go_wp2_with (first | ((with_reducible refine gate_dst (N := 2) rfl ?_); refine box_event ?hg (N := 2) ?hd (cs := #[.int .i64 a0_0, .int .i64 a0_1, .int .i64 a0_2]) (t := 43) ?hr ?_; (case hd => rfl); (case hg => rfl); (case hr => first | (go_simp; done) | (go_simp; rfl)); intro gb243 hg w6 hbox hb; have n0_ := Aside0.mk (below_step (by exact Lib.bw HB.out) hb); have n1_ := Aside0.mk (hbox); have n2_ := Aside0.mk ((by rw [hg]; exact (below_size (by exact Lib.bw HB.out)) : w.heap.size ≤ gb243)); have n3_ := Aside0.mk ((by rw [hg]; exact (below_size (by exact Lib.bw HB.out)) : w.heap.size ≤ gb243)); clear HB; have HB := n0_; have BK243 := n1_; have GW243 := n2_; have GE243 := n3_; clear n0_ n1_ n2_ n3_; clear hb hbox hg) | ((with_reducible refine gate_dst (N := 3) rfl ?_); refine box_event ?hg (N := 3) ?hd (cs := #[.int .i64 a1_0, .int .i64 a1_1, .int .i64 a1_2]) (t := 43) ?hr ?_; (case hd => rfl); (case hg => rfl); (case hr => first | (go_simp; done) | (go_simp; rfl)); intro gb244 hg w7 hbox hb; have n0_ := Aside0.mk (blk_below (g := gb243) (o := .cells #[.int .i64 a0_0, .int .i64 a0_1, .int .i64 a0_2] 43 (0, 0)) (by exact Lib.bk BK243.out) hb); have n1_ := Aside0.mk (below_step (by exact Lib.bs HB.out GE243.out) hb); have n2_ := Aside0.mk (hbox); have n3_ := Aside0.mk ((by rw [hg]; exact (below_size (by exact Lib.bs HB.out GE243.out)) : w.heap.size ≤ gb244)); have n4_ := Aside0.mk ((by rw [hg]; exact (below_size (by exact Lib.bs HB.out GE243.out)) : w.heap.size ≤ gb244)); have n5_ := Aside0.mk ((by rw [hg]; exact Nat.ne_of_lt (blk_lt (g := gb243) (o := .cells #[.int .i64 a0_0, .int .i64 a0_1, .int .i64 a0_2] 43 (0, 0)) (by exact Lib.bk BK243.out)) : gb243 ≠ gb244)); have n6_ := Aside0.mk ((by rw [hg]; exact Nat.ne_of_gt (blk_lt (g := gb243) (o := .cells #[.int .i64 a0_0, .int .i64 a0_1, .int .i64 a0_2] 43 (0, 0)) (by exact Lib.bk BK243.out)) : gb244 ≠ gb243)); clear BK243; clear HB; have BK243 := n0_; have HB := n1_; have BK244 := n2_; have GW244 := n3_; have GE244 := n4_; have NB243_244 := n5_; have NB244_243 := n6_; clear n0_ n1_ n2_ n3_ n4_ n5_ n6_; clear hb hbox hg; have hnb8 := NB243_244.out; have hnc8 := NB244_243.out; obtain ⟨hcz9_0, hcz9_1, hcz9_2, hfz9_0, hfz9_1, hfz9_2⟩ := Lib.cel3 (W := w7) BK243.out; obtain ⟨hcz10_0, hcz10_1, hcz10_2, hfz10_0, hfz10_1, hfz10_2⟩ := Lib.cel3 (W := w7) BK244.out))
    go_ret
    exact ⟨by first | rfl | (simp [errW_none, errW_some] <;> rfl) | (simp [*, errW_none, errW_some] <;> rfl), by repeat (first | (with_reducible first | exact HB.out | apply below_alloc | apply pw_below_drewN | apply below_drew1 | refine below_set ?_ GE243.out | refine below_set ?_ GE244.out) | exact HB.out)⟩
   ·
    rw [if_neg c5] at H
    have c5b0 : (a0_2 == a1_2) = false := beq_eq_false_iff_ne.mpr c5
    have c5b1 : (a0_2 != a1_2) = true := bne_iff_ne.mpr c5
    obtain rfl := Option.some.inj H
    go_enter Try.func33, Try.ntmps33
    go_wp2_with (first | ((with_reducible refine gate_dst (N := 2) rfl ?_); refine box_event ?hg (N := 2) ?hd (cs := #[.int .i64 a0_0, .int .i64 a0_1, .int .i64 a0_2]) (t := 43) ?hr ?_; (case hd => rfl); (case hg => rfl); (case hr => first | (go_simp; done) | (go_simp; rfl)); intro gb243 hg w11 hbox hb; have n0_ := Aside0.mk (below_step (by exact Lib.bw HB.out) hb); have n1_ := Aside0.mk (hbox); have n2_ := Aside0.mk ((by rw [hg]; exact (below_size (by exact Lib.bw HB.out)) : w.heap.size ≤ gb243)); have n3_ := Aside0.mk ((by rw [hg]; exact (below_size (by exact Lib.bw HB.out)) : w.heap.size ≤ gb243)); clear HB; have HB := n0_; have BK243 := n1_; have GW243 := n2_; have GE243 := n3_; clear n0_ n1_ n2_ n3_; clear hb hbox hg) | ((with_reducible refine gate_dst (N := 3) rfl ?_); refine box_event ?hg (N := 3) ?hd (cs := #[.int .i64 a1_0, .int .i64 a1_1, .int .i64 a1_2]) (t := 43) ?hr ?_; (case hd => rfl); (case hg => rfl); (case hr => first | (go_simp; done) | (go_simp; rfl)); intro gb244 hg w12 hbox hb; have n0_ := Aside0.mk (blk_below (g := gb243) (o := .cells #[.int .i64 a0_0, .int .i64 a0_1, .int .i64 a0_2] 43 (0, 0)) (by exact Lib.bk BK243.out) hb); have n1_ := Aside0.mk (below_step (by exact Lib.bs HB.out GE243.out) hb); have n2_ := Aside0.mk (hbox); have n3_ := Aside0.mk ((by rw [hg]; exact (below_size (by exact Lib.bs HB.out GE243.out)) : w.heap.size ≤ gb244)); have n4_ := Aside0.mk ((by rw [hg]; exact (below_size (by exact Lib.bs HB.out GE243.out)) : w.heap.size ≤ gb244)); have n5_ := Aside0.mk ((by rw [hg]; exact Nat.ne_of_lt (blk_lt (g := gb243) (o := .cells #[.int .i64 a0_0, .int .i64 a0_1, .int .i64 a0_2] 43 (0, 0)) (by exact Lib.bk BK243.out)) : gb243 ≠ gb244)); have n6_ := Aside0.mk ((by rw [hg]; exact Nat.ne_of_gt (blk_lt (g := gb243) (o := .cells #[.int .i64 a0_0, .int .i64 a0_1, .int .i64 a0_2] 43 (0, 0)) (by exact Lib.bk BK243.out)) : gb244 ≠ gb243)); clear BK243; clear HB; have BK243 := n0_; have HB := n1_; have BK244 := n2_; have GW244 := n3_; have GE244 := n4_; have NB243_244 := n5_; have NB244_243 := n6_; clear n0_ n1_ n2_ n3_ n4_ n5_ n6_; clear hb hbox hg; have hnb13 := NB243_244.out; have hnc13 := NB244_243.out; obtain ⟨hcz14_0, hcz14_1, hcz14_2, hfz14_0, hfz14_1, hfz14_2⟩ := Lib.cel3 (W := w12) BK243.out; obtain ⟨hcz15_0, hcz15_1, hcz15_2, hfz15_0, hfz15_1, hfz15_2⟩ := Lib.cel3 (W := w12) BK244.out))
    go_ret
    exact ⟨by first | rfl | (simp [errW_none, errW_some] <;> rfl) | (simp [*, errW_none, errW_some] <;> rfl), by repeat (first | (with_reducible first | exact HB.out | apply below_alloc | apply pw_below_drewN | apply below_drew1 | refine below_set ?_ GE243.out | refine below_set ?_ GE244.out) | exact HB.out)⟩
  ·
   rw [if_neg c4] at H
   have c4b0 : (a0_1 == a1_1) = false := beq_eq_false_iff_ne.mpr c4
   have c4b1 : (a0_1 != a1_1) = true := bne_iff_ne.mpr c4
   obtain rfl := Option.some.inj H
   go_enter Try.func33, Try.ntmps33
   go_wp2_with (first | ((with_reducible refine gate_dst (N := 2) rfl ?_); refine box_event ?hg (N := 2) ?hd (cs := #[.int .i64 a0_0, .int .i64 a0_1, .int .i64 a0_2]) (t := 43) ?hr ?_; (case hd => rfl); (case hg => rfl); (case hr => first | (go_simp; done) | (go_simp; rfl)); intro gb243 hg w16 hbox hb; have n0_ := Aside0.mk (below_step (by exact Lib.bw HB.out) hb); have n1_ := Aside0.mk (hbox); have n2_ := Aside0.mk ((by rw [hg]; exact (below_size (by exact Lib.bw HB.out)) : w.heap.size ≤ gb243)); have n3_ := Aside0.mk ((by rw [hg]; exact (below_size (by exact Lib.bw HB.out)) : w.heap.size ≤ gb243)); clear HB; have HB := n0_; have BK243 := n1_; have GW243 := n2_; have GE243 := n3_; clear n0_ n1_ n2_ n3_; clear hb hbox hg) | ((with_reducible refine gate_dst (N := 3) rfl ?_); refine box_event ?hg (N := 3) ?hd (cs := #[.int .i64 a1_0, .int .i64 a1_1, .int .i64 a1_2]) (t := 43) ?hr ?_; (case hd => rfl); (case hg => rfl); (case hr => first | (go_simp; done) | (go_simp; rfl)); intro gb244 hg w17 hbox hb; have n0_ := Aside0.mk (blk_below (g := gb243) (o := .cells #[.int .i64 a0_0, .int .i64 a0_1, .int .i64 a0_2] 43 (0, 0)) (by exact Lib.bk BK243.out) hb); have n1_ := Aside0.mk (below_step (by exact Lib.bs HB.out GE243.out) hb); have n2_ := Aside0.mk (hbox); have n3_ := Aside0.mk ((by rw [hg]; exact (below_size (by exact Lib.bs HB.out GE243.out)) : w.heap.size ≤ gb244)); have n4_ := Aside0.mk ((by rw [hg]; exact (below_size (by exact Lib.bs HB.out GE243.out)) : w.heap.size ≤ gb244)); have n5_ := Aside0.mk ((by rw [hg]; exact Nat.ne_of_lt (blk_lt (g := gb243) (o := .cells #[.int .i64 a0_0, .int .i64 a0_1, .int .i64 a0_2] 43 (0, 0)) (by exact Lib.bk BK243.out)) : gb243 ≠ gb244)); have n6_ := Aside0.mk ((by rw [hg]; exact Nat.ne_of_gt (blk_lt (g := gb243) (o := .cells #[.int .i64 a0_0, .int .i64 a0_1, .int .i64 a0_2] 43 (0, 0)) (by exact Lib.bk BK243.out)) : gb244 ≠ gb243)); clear BK243; clear HB; have BK243 := n0_; have HB := n1_; have BK244 := n2_; have GW244 := n3_; have GE244 := n4_; have NB243_244 := n5_; have NB244_243 := n6_; clear n0_ n1_ n2_ n3_ n4_ n5_ n6_; clear hb hbox hg; have hnb18 := NB243_244.out; have hnc18 := NB244_243.out; obtain ⟨hcz19_0, hcz19_1, hcz19_2, hfz19_0, hfz19_1, hfz19_2⟩ := Lib.cel3 (W := w17) BK243.out; obtain ⟨hcz20_0, hcz20_1, hcz20_2, hfz20_0, hfz20_1, hfz20_2⟩ := Lib.cel3 (W := w17) BK244.out))
   go_ret
   exact ⟨by first | rfl | (simp [errW_none, errW_some] <;> rfl) | (simp [*, errW_none, errW_some] <;> rfl), by repeat (first | (with_reducible first | exact HB.out | apply below_alloc | apply pw_below_drewN | apply below_drew1 | refine below_set ?_ GE243.out | refine below_set ?_ GE244.out) | exact HB.out)⟩
 ·
  rw [if_neg c3] at H
  have c3b0 : (a0_0 == a1_0) = false := beq_eq_false_iff_ne.mpr c3
  have c3b1 : (a0_0 != a1_0) = true := bne_iff_ne.mpr c3
  obtain rfl := Option.some.inj H
  go_enter Try.func33, Try.ntmps33
  go_wp2_with (first | ((with_reducible refine gate_dst (N := 2) rfl ?_); refine box_event ?hg (N := 2) ?hd (cs := #[.int .i64 a0_0, .int .i64 a0_1, .int .i64 a0_2]) (t := 43) ?hr ?_; (case hd => rfl); (case hg => rfl); (case hr => first | (go_simp; done) | (go_simp; rfl)); intro gb243 hg w21 hbox hb; have n0_ := Aside0.mk (below_step (by exact Lib.bw HB.out) hb); have n1_ := Aside0.mk (hbox); have n2_ := Aside0.mk ((by rw [hg]; exact (below_size (by exact Lib.bw HB.out)) : w.heap.size ≤ gb243)); have n3_ := Aside0.mk ((by rw [hg]; exact (below_size (by exact Lib.bw HB.out)) : w.heap.size ≤ gb243)); clear HB; have HB := n0_; have BK243 := n1_; have GW243 := n2_; have GE243 := n3_; clear n0_ n1_ n2_ n3_; clear hb hbox hg) | ((with_reducible refine gate_dst (N := 3) rfl ?_); refine box_event ?hg (N := 3) ?hd (cs := #[.int .i64 a1_0, .int .i64 a1_1, .int .i64 a1_2]) (t := 43) ?hr ?_; (case hd => rfl); (case hg => rfl); (case hr => first | (go_simp; done) | (go_simp; rfl)); intro gb244 hg w22 hbox hb; have n0_ := Aside0.mk (blk_below (g := gb243) (o := .cells #[.int .i64 a0_0, .int .i64 a0_1, .int .i64 a0_2] 43 (0, 0)) (by exact Lib.bk BK243.out) hb); have n1_ := Aside0.mk (below_step (by exact Lib.bs HB.out GE243.out) hb); have n2_ := Aside0.mk (hbox); have n3_ := Aside0.mk ((by rw [hg]; exact (below_size (by exact Lib.bs HB.out GE243.out)) : w.heap.size ≤ gb244)); have n4_ := Aside0.mk ((by rw [hg]; exact (below_size (by exact Lib.bs HB.out GE243.out)) : w.heap.size ≤ gb244)); have n5_ := Aside0.mk ((by rw [hg]; exact Nat.ne_of_lt (blk_lt (g := gb243) (o := .cells #[.int .i64 a0_0, .int .i64 a0_1, .int .i64 a0_2] 43 (0, 0)) (by exact Lib.bk BK243.out)) : gb243 ≠ gb244)); have n6_ := Aside0.mk ((by rw [hg]; exact Nat.ne_of_gt (blk_lt (g := gb243) (o := .cells #[.int .i64 a0_0, .int .i64 a0_1, .int .i64 a0_2] 43 (0, 0)) (by exact Lib.bk BK243.out)) : gb244 ≠ gb243)); clear BK243; clear HB; have BK243 := n0_; have HB := n1_; have BK244 := n2_; have GW244 := n3_; have GE244 := n4_; have NB243_244 := n5_; have NB244_243 := n6_; clear n0_ n1_ n2_ n3_ n4_ n5_ n6_; clear hb hbox hg; have hnb23 := NB243_244.out; have hnc23 := NB244_243.out; obtain ⟨hcz24_0, hcz24_1, hcz24_2, hfz24_0, hfz24_1, hfz24_2⟩ := Lib.cel3 (W := w22) BK243.out; obtain ⟨hcz25_0, hcz25_1, hcz25_2, hfz25_0, hfz25_1, hfz25_2⟩ := Lib.cel3 (W := w22) BK244.out))
  go_ret
  exact ⟨by first | rfl | (simp [errW_none, errW_some] <;> rfl) | (simp [*, errW_none, errW_some] <;> rfl), by repeat (first | (with_reducible first | exact HB.out | apply below_alloc | apply pw_below_drewN | apply below_drew1 | refine below_set ?_ GE243.out | refine below_set ?_ GE244.out) | exact HB.out)⟩

end Go.Proofs.Ytbgkeeaccfabaaa.PFnExactUnpackInode
