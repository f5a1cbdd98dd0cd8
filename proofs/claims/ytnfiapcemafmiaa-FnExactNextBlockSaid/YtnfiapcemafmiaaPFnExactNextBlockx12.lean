-- Written by a program of this session over Lean's own print of the program.
import Derived.Test.YtnfiapcemafmiaaPFnExactNextBlockx0
import Derived.Test.YtnfiapcemafmiaaPFnExactNextBlockx11
namespace Go.Proofs.Ytnfiapcemafmiaa.PFnExactNextBlock
open Go.RowKit Go.Proofs.YtnfiapcemafmiaaW.PrintWords Go.Proofs.YtnfiapcemafmiaaW.PrintLast Go.Proofs.YtnfiapcemafmiaaW.PrintMore
attribute [local go_sem] max2_int min2_int max_two min_two max_three min_three max_four min_four   -- for this text's walks alone
set_option linter.unusedVariables false
set_option linter.unusedSimpArgs false

/-! ### impl_IsFS: function 41 -/
def impl_IsFS.qOk (q : S112) : Bool := !(decide (q.f0 < 0) || decide (5 < q.f0) || decide (q.f1 < 0) || decide (14 < q.f1))
def impl_IsFS.end_ (size : Int) (i : Nat) : Int := wrap64 (size - wrap64 ((i : Int) * 32))
/-- The blocks of an inode from block i on, u being taken. -/
def impl_IsFS.blk (k : Nat) (uid size : Int) (d : List ByteArray) : Nat → List Int → List Bool → Option (Option (List Bool))
 | _, [], u => some (some u)
 | i, b :: l, u => if b = -1 then impl_IsFS.blk k uid size d (i + 1) l u else (impl_BlockOwner.f b).bind fun o => if o = uid then (if 0 ≤ b ∧ b < 56 then (if u.getD b.toNat false = true then some none else if impl_IsFS.end_ size i < 32 then (if 0 ≤ impl_IsFS.end_ size i ∧ impl_IsFS.end_ size i ≤ ((rdOf ByteArray.empty d b).size : Int) then (impl_IsZeroes.f k ((rdOf ByteArray.empty d b).extract (impl_IsFS.end_ size i).toNat (rdOf ByteArray.empty d b).size)).bind fun z => if z = true then impl_IsFS.blk k uid size d (i + 1) l (u.set b.toNat true) else some none else none) else impl_IsFS.blk k uid size d (i + 1) l (u.set b.toNat true)) else none) else some none
def impl_IsFS.ino (k : Nat) (d : List ByteArray) : List (S25) → List Bool → Option (Option (List Bool))
 | [], u => some (some u)
 | x :: l, u => (impl_IsInode.f k x.f0 x.f1 x.f2 x.f3 x.f4 x.f5 x.f6 x.f7 x.f8 x.f9).bind fun t => if t = true then (if x.f7.length ≤ 4611686018427387904 then (impl_IsFS.blk k x.f2 x.f5 d 0 x.f7 u).bind fun v => v.elim (some none) (fun y => impl_IsFS.ino k d l y) else none) else some none
def impl_IsFS.dat (k : Nat) (u : List Bool) : Nat → List ByteArray → Option Bool
 | _, [] => some true
 | i, s :: l => if u.getD i false = true then impl_IsFS.dat k u (i + 1) l else (impl_IsZeroes.f k s).bind fun z => if z = true then impl_IsFS.dat k u (i + 1) l else some false
/-- impl.IsFS. -/
def impl_IsFS.f (k : Nat) (a0 : Int) (l1 : List (S112)) (l2 : List (S25)) (l3 : List ByteArray) : Option Bool :=
 if (decide (a0 < 0) || decide (1000000000 < a0) || ((l1.length : Int) != 4) || ((l2.length : Int) != 20) || ((l3.length : Int) != 56)) = true then some false else if l1.all impl_IsFS.qOk = true then (if l3.all (fun s => !((s.size : Int) != 32)) = true then (impl_IsFS.ino k l3 l2 (List.replicate 56 false)).bind fun v => v.elim (some false) (fun u => (impl_IsFS.dat k u 0 l3).bind fun t => some (t && (rd_T25 l2 0).f0 == 2)) else some false) else some false
theorem impl_IsFS.blk_mono (uid size : Int) (d : List ByteArray) (k : Nat) : ∀ (l : List Int) (i : Nat) (u : List Bool), LeO (impl_IsFS.blk k uid size d i l u) (impl_IsFS.blk (k + 1) uid size d i l u)
 | [], _, _ => LeO.refl _
 | b :: l, i, u => by
  unfold impl_IsFS.blk
  exact LeO.ite (impl_IsFS.blk_mono uid size d k l _ _) (LeO.bind (LeO.refl _) fun _ => LeO.ite (LeO.ite (LeO.ite (LeO.refl _) (LeO.ite (LeO.ite (LeO.bind (impl_IsZeroes.mono _ _) fun _ => LeO.ite (impl_IsFS.blk_mono uid size d k l _ _) (LeO.refl _)) (LeO.refl _)) (impl_IsFS.blk_mono uid size d k l _ _))) (LeO.refl _)) (LeO.refl _))
theorem impl_IsFS.elim_mono {α β : Type} (v : Option α) {c : Option β} {f g : α → Option β} (h : ∀ x, LeO (f x) (g x)) : LeO (v.elim c f) (v.elim c g) := by
 cases v with
 | none => exact LeO.refl _
 | some x => exact h x
theorem impl_IsFS.ino_mono (d : List ByteArray) (k : Nat) : ∀ (l : List (S25)) (u : List Bool), LeO (impl_IsFS.ino k d l u) (impl_IsFS.ino (k + 1) d l u)
 | [], _ => LeO.refl _
 | x :: l, u => by
  unfold impl_IsFS.ino
  exact LeO.bind (impl_IsInode.mono _ _ _ _ _ _ _ _ _ _ _) fun _ => LeO.ite (LeO.ite (LeO.bind (impl_IsFS.blk_mono _ _ _ _ _ _ _) fun v => impl_IsFS.elim_mono v (fun y => impl_IsFS.ino_mono d k l y)) (LeO.refl _)) (LeO.refl _)
theorem impl_IsFS.dat_mono (u : List Bool) (k : Nat) : ∀ (l : List ByteArray) (i : Nat), LeO (impl_IsFS.dat k u i l) (impl_IsFS.dat (k + 1) u i l)
 | [], _ => LeO.refl _
 | x :: l, i => by
  unfold impl_IsFS.dat
  exact LeO.ite (impl_IsFS.dat_mono u k l _) (LeO.bind (impl_IsZeroes.mono _ _) fun _ => LeO.ite (impl_IsFS.dat_mono u k l _) (LeO.refl _))
theorem impl_IsFS.mono : ∀ a0 a1 a2 a3 k, LeO (impl_IsFS.f k a0 a1 a2 a3) (impl_IsFS.f (k + 1) a0 a1 a2 a3) := by
 intro a0 a1 a2 a3 k
 unfold impl_IsFS.f
 exact LeO.ite (LeO.refl _) (LeO.ite (LeO.ite (LeO.bind (impl_IsFS.ino_mono _ _ _ _) fun v => impl_IsFS.elim_mono v (fun u => LeO.bind (impl_IsFS.dat_mono u k _ _) fun _ => LeO.refl _)) (LeO.refl _)) (LeO.refl _))
theorem impl_IsFS.at_ (y : List Bool) (n : Nat) (h : n < y.length) : (y.map Value.bool).toArray[n]? = some (.bool (y.getD n false)) := by
 rw [List.getElem?_toArray, List.getElem?_map, List.getElem?_eq_getElem h, List.getD_eq_getElem?_getD, List.getElem?_eq_getElem h]
 rfl
theorem impl_IsFS.set_ (y : List Bool) (n : Nat) : (y.map Value.bool).toArray.setIfInBounds n (.bool true) = ((y.set n true).map Value.bool).toArray := by
 rw [List.setIfInBounds_toArray, List.map_set]
set_option maxHeartbeats 8000000 in
set_option maxRecDepth 100000 in
theorem impl_IsFS.calls (k : Nat) (a0 : Int) (A1 : Option Addr) (c1 : Nat) (l1 : List (S112)) (A2 : Option Addr) (c2 : Nat) (l2 : List (S25)) (A3 : Option Addr) (c3 : Nat) (l3 : List ByteArray) (r : Bool) (w : World) (hr1 : Kd.C k112 w A1 l1.length l1) (hc1 : l1.length ≤ c1) (hr2 : Kd.C k25 w A2 l2.length l2) (hc2 : l2.length ≤ c2) (hr3 : Kd.C Kd.string w A3 l3.length l3) (hc3 : l3.length ≤ c3) (h : impl_IsFS.f k a0 l1 l2 l3 = some r) :
 Calls Try.prog 41 #[.agg #[.int .i64 a0, .slice A1 l1.length c1, .slice A2 l2.length c2, .slice A3 l3.length c3]] w fun e w' => e = .returned (.bool r) ∧ Below w.heap.size w w' := by
 have hu42 := Try.underlying42
 have hu25 := Try.underlying25
 have hu112 := Try.underlying112
 have hu115 := Try.underlying115
 have HR1 := Aside0.mk hr1
 have HC1 := Aside0.mk hc1
 clear hr1 hc1
 have HR2 := Aside0.mk hr2
 have HC2 := Aside0.mk hc2
 clear hr2 hc2
 have HR3 := Aside0.mk hr3
 have HC3 := Aside0.mk hc3
 clear hr3 hc3
 have HH := Aside0.mk h
 clear h
 go_enter Try.func41, Try.ntmps41
 go_upto_region 1 with (first | ((with_reducible refine gate_dst (N := 1) rfl ?_); refine box_event rfl (N := 1) rfl (cs := #[.int .i64 a0, .slice A1 l1.length c1, .slice A2 l2.length c2, .slice A3 l3.length c3]) (t := 42) (by first | (go_simp; done) | (go_simp; rfl)) ?_; intro g0 hg w1 hbox hb; have BK := Aside0.mk hbox; have HB := Aside0.mk hb; have G0 : Aside0 (w.heap.size ≤ g0) := ⟨by rw [hg]; exact Nat.le_refl _⟩; clear hg hbox hb))
 (try simp only [Act.put, List.setIfInBounds_toArray, List.set_cons_zero, List.set_cons_succ])
 go_cut [40] (fun v wc => v = .bool (decide (a0 < 0) || decide (1000000000 < a0) || ((l1.length : Int) != 4) || ((l2.length : Int) != 20) || ((l3.length : Int) != 56)) ∧ Aside0 (wc.heap[g0]? = some (.cells #[.int .i64 a0, .slice A1 l1.length c1, .slice A2 l2.length c2, .slice A3 l3.length c3] 42 (0, 0))) ∧ Aside0 (Below w.heap.size w wc))
 case first =>
  have HM : ∀ W, Below w1.heap.size w1 W → (W.cell? ⟨g0, 0, none⟩ = some (.int .i64 a0) ∧ W.cell? ⟨g0, 1, none⟩ = some (.slice A1 l1.length c1) ∧ W.cell? ⟨g0, 2, none⟩ = some (.slice A2 l2.length c2) ∧ W.cell? ⟨g0, 3, none⟩ = some (.slice A3 l3.length c3)) := fun W hb => ⟨(blk_cell (blk_below BK.out hb) 0).trans rfl, (blk_cell (blk_below BK.out hb) 1).trans rfl, (blk_cell (blk_below BK.out hb) 2).trans rfl, (blk_cell (blk_below BK.out hb) 3).trans rfl⟩
  refine Lib.q_plain w1 Try.f41 rfl (Below.refl _ _) ?_
  refine Lib.q (.tmp 1) (.tmp 1) (hw := Lib.want_n rfl) (hx := fun _ => rfl) (hy := fun _ => rfl) (h := ?_)
  refine Lib.q (.tmp 15) (.tmp 15) (hw := Lib.want_n rfl) (hx := fun _ => rfl) (hy := fun _ => rfl) (h := ?_)
  refine Lib.q (.tmp 16) (.tmp 16) (hw := Lib.want_n rfl) (hx := fun _ => rfl) (hy := fun _ => rfl) (h := ?_)
  refine Lib.q (.tmp 17) (.tmp 17) (hw := Lib.want_n rfl) (hx := fun _ => rfl) (hy := fun _ => rfl) (h := ?_)
  refine Lib.q (.tmp 1) (.tmp 1) (hw := Lib.want_f rfl rfl rfl rfl) (hx := fun _ => rfl) (hy := fun _ => rfl) (h := ?_)
  refine Lib.q (.tmp 19) (.tmp 19) (hw := Lib.want_f rfl rfl rfl rfl) (hx := fun h => Lib.vif_on h) (hy := fun h => Lib.vif_on h) (h := ?_)
  refine Lib.q (.tmp 20) (.tmp 20) (hw := Lib.want_f rfl rfl rfl rfl) (hx := fun h => Lib.vif_on h) (hy := fun h => Lib.vif_on h) (h := ?_)
  refine Lib.q_or (.tmp 18) (.tmp 21) (h := ?_)
  refine Lib.q (.tmp 22) (.tmp 22) (hw := Lib.want_n rfl) (hx := fun _ => rfl) (hy := fun _ => rfl) (h := ?_)
  refine Lib.q (.tmp 1) (.tmp 1) (hw := Lib.want_f rfl rfl rfl rfl) (hx := fun _ => rfl) (hy := fun _ => rfl) (h := ?_)
  refine Lib.q (.tmp 24) (.tmp 24) (hw := Lib.want_f rfl rfl rfl rfl) (hx := fun h => Lib.vif_on h) (hy := fun h => Lib.vif_on h) (h := ?_)
  refine Lib.q (.tmp 25) (.tmp 25) (hw := Lib.want_f rfl rfl rfl rfl) (hx := fun h => Lib.vif_on h) (hy := fun h => Lib.vif_on h) (h := ?_)
  refine Lib.q (.tmp 26) (.tmp 26) (hw := Lib.want_f rfl rfl rfl rfl) (hx := fun h => Lib.vif_on h) (hy := fun h => Lib.vif_on h) (h := ?_)
  refine Lib.q_or (.tmp 23) (.tmp 27) (h := ?_)
  refine Lib.q (.tmp 28) (.tmp 28) (hw := Lib.want_n rfl) (hx := fun _ => rfl) (hy := fun _ => rfl) (h := ?_)
  refine Lib.q (.tmp 1) (.tmp 1) (hw := Lib.want_f rfl rfl rfl rfl) (hx := fun _ => rfl) (hy := fun _ => rfl) (h := ?_)
  refine Lib.q (.tmp 30) (.tmp 30) (hw := Lib.want_f rfl rfl rfl rfl) (hx := fun h => Lib.vif_on h) (hy := fun h => Lib.vif_on h) (h := ?_)
  refine Lib.q (.tmp 31) (.tmp 31) (hw := Lib.want_f rfl rfl rfl rfl) (hx := fun h => Lib.vif_on h) (hy := fun h => Lib.vif_on h) (h := ?_)
  refine Lib.q (.tmp 32) (.tmp 32) (hw := Lib.want_f rfl rfl rfl rfl) (hx := fun h => Lib.vif_on h) (hy := fun h => Lib.vif_on h) (h := ?_)
  refine Lib.q_or (.tmp 29) (.tmp 33) (h := ?_)
  refine Lib.q (.tmp 34) (.tmp 34) (hw := Lib.want_n rfl) (hx := fun _ => rfl) (hy := fun _ => rfl) (h := ?_)
  refine Lib.q (.tmp 1) (.tmp 1) (hw := Lib.want_f rfl rfl rfl rfl) (hx := fun _ => rfl) (hy := fun _ => rfl) (h := ?_)
  refine Lib.q (.tmp 36) (.tmp 36) (hw := Lib.want_f rfl rfl rfl rfl) (hx := fun h => Lib.vif_on h) (hy := fun h => Lib.vif_on h) (h := ?_)
  refine Lib.q (.tmp 37) (.tmp 37) (hw := Lib.want_f rfl rfl rfl rfl) (hx := fun h => Lib.vif_on h) (hy := fun h => Lib.vif_on h) (h := ?_)
  refine Lib.q (.tmp 38) (.tmp 38) (hw := Lib.want_f rfl rfl rfl rfl) (hx := fun h => Lib.vif_on h) (hy := fun h => Lib.vif_on h) (h := ?_)
  refine Lib.q_or (.tmp 35) (.tmp 39) (h := ?_)
  refine Lib.q_done (fun W hb => ?_)
  try go_wp2
  go_meet
  case rel => exact ⟨rfl, ⟨blk_below BK.out hb⟩, ⟨below_step HB.out hb⟩⟩
 case rest =>
  clear BK HB
  obtain ⟨rfl, BK, HB⟩ := hcut
  have H := HH.out
  unfold impl_IsFS.f at H
  cases hD : (decide (a0 < 0) || decide (1000000000 < a0) || ((l1.length : Int) != 4) || ((l2.length : Int) != 20) || ((l3.length : Int) != 56)) with
  | true =>
   rw [hD, if_pos rfl] at H
   obtain rfl := Option.some.inj H
   go_wp2
   go_ret
   exact ⟨rfl, HB.out⟩
  | false =>
   rw [hD, if_neg (by decide)] at H
   have HL : Aside0 (l1.length = 4 ∧ l2.length = 20 ∧ l3.length = 56) := ⟨by simp only [Bool.or_eq_false_iff, bne_eq_false_iff_eq] at hD; omega⟩
   clear hD HH
   have HH := Aside0.mk H
   clear H
   obtain ⟨ad1, e1, _⟩ := at_T112 HR1.out 0 (by decide) (by have := HL.out; omega)
   obtain ⟨ad2, _, _, _, _, _, _, e2, _⟩ := at_T25 HR2.out 0 (by decide) (by have := HL.out; omega)
   obtain ⟨ad3, e3, _⟩ := Kd.at_string HR3.out 0 (by decide) (by have := HL.out; omega)
   cases e1
   cases e2
   cases e3
   have z1 : wc.cell? ⟨g0, 1, none⟩ = some (.slice (some ad1) l1.length c1) := (blk_cell BK.out 1).trans rfl
   go_wp2
   go_loopg [44] (l1.length + 1) (fun kq v w' => ∃ i : Nat, v = .int .i64 (i : Int) ∧ Aside0 (i ≤ l1.length ∧ l1.length - i < kq) ∧ Aside0 ((l1.drop i).all impl_IsFS.qOk = l1.all impl_IsFS.qOk) ∧ Aside0 (w'.heap[g0]? = some (.cells #[.int .i64 a0, .slice (some ad1) l1.length c1, .slice (some ad2) l2.length c2, .slice (some ad3) l3.length c3] 42 (0, 0))) ∧ Aside0 (Below w.heap.size w w'))
   case atStart => exact ⟨0, rfl, ⟨by omega⟩, ⟨rfl⟩, BK, HB⟩
   case round =>
    clear z1 BK HB
    obtain ⟨i, rfl, HX, HJ, BK, HB⟩ := hrel
    cases gk with
    | zero => exact absurd HX.out.2 (by omega)
    | succ k1 =>
     by_cases c : i < l1.length
     ·
      have HI := Aside0.mk c
      have HD : Aside0 ((l1.drop i).all impl_IsFS.qOk = (impl_IsFS.qOk (rd_T112 l1 (i : Int)) && (l1.drop (i + 1)).all impl_IsFS.qOk)) := ⟨by rw [Lib.drop_rd z112 l1 i c]; rfl⟩
      obtain ⟨ad, e0, hx0, hx1⟩ := at_T112 (Kd.C_below HR1.out HB.out) (i : Int) (by omega) (by omega)
      obtain rfl : ad1 = ad := by injection e0
      simp only [Int.toNat_natCast] at hx0 hx1
      have b4 : decide ((i : Int) < (l1.length : Int)) = true := decide_eq_true (by omega)
      have b5 := eq_true (show (i : Int) < (l1.length : Int) by omega)
      have b6 := eq_true (show 0 ≤ (i : Int) by omega)
      go_upto_region 6 with (fail)
      obtain ⟨w3, hw_⟩ : ∃ W, W = wr.alloc (.cells #[.int .i64 (rd_T112 l1 (i : Int)).f0, .int .i64 (rd_T112 l1 (i : Int)).f1] 112 (0, 0)) := ⟨_, rfl⟩
      rw [← hw_]
      have BN : Aside0 (w3.heap[wr.heap.size]? = some (.cells #[.int .i64 (rd_T112 l1 (i : Int)).f0, .int .i64 (rd_T112 l1 (i : Int)).f1] 112 (0, 0))) := ⟨by rw [hw_]; exact blk_new _ _⟩
      replace BK : Aside0 (w3.heap[g0]? = some (.cells #[.int .i64 a0, .slice (some ad1) l1.length c1, .slice (some ad2) l2.length c2, .slice (some ad3) l3.length c3] 42 (0, 0))) := ⟨by rw [hw_]; exact blk_alloc BK.out _⟩
      replace HB : Aside0 (Below w.heap.size w w3) := ⟨by rw [hw_]; exact below_alloc HB.out _⟩
      clear hw_
      go_cut [65] (fun v wc => v = .bool (decide ((rd_T112 l1 (i : Int)).f0 < 0) || decide (5 < (rd_T112 l1 (i : Int)).f0) || decide ((rd_T112 l1 (i : Int)).f1 < 0) || decide (14 < (rd_T112 l1 (i : Int)).f1)) ∧ Aside0 (wc.heap[g0]? = some (.cells #[.int .i64 a0, .slice (some ad1) l1.length c1, .slice (some ad2) l2.length c2, .slice (some ad3) l3.length c3] 42 (0, 0))) ∧ Aside0 (Below w.heap.size w wc))
      case first =>
       have HM : ∀ W, Below w3.heap.size w3 W → (W.cell? ⟨wr.heap.size, 0, none⟩ = some (.int .i64 (rd_T112 l1 (i : Int)).f0) ∧ W.cell? ⟨wr.heap.size, 1, none⟩ = some (.int .i64 (rd_T112 l1 (i : Int)).f1)) := fun W hb => ⟨(blk_cell (blk_below BN.out hb) 0).trans rfl, (blk_cell (blk_below BN.out hb) 1).trans rfl⟩
       refine Lib.q_plain w3 Try.f41 rfl (Below.refl _ _) ?_
       refine Lib.q (.tmp 4) (.tmp 4) (hw := Lib.want_n rfl) (hx := fun _ => rfl) (hy := fun _ => rfl) (h := ?_)
       refine Lib.q (.tmp 48) (.tmp 48) (hw := Lib.want_n rfl) (hx := fun _ => rfl) (hy := fun _ => rfl) (h := ?_)
       refine Lib.q (.tmp 49) (.tmp 49) (hw := Lib.want_n rfl) (hx := fun _ => rfl) (hy := fun _ => rfl) (h := ?_)
       refine Lib.q (.tmp 50) (.tmp 50) (hw := Lib.want_n rfl) (hx := fun _ => rfl) (hy := fun _ => rfl) (h := ?_)
       refine Lib.q (.tmp 4) (.tmp 4) (hw := Lib.want_f rfl rfl rfl rfl) (hx := fun _ => rfl) (hy := fun _ => rfl) (h := ?_)
       refine Lib.q (.tmp 52) (.tmp 52) (hw := Lib.want_f rfl rfl rfl rfl) (hx := fun h => Lib.vif_on h) (hy := fun h => Lib.vif_on h) (h := ?_)
       refine Lib.q (.tmp 53) (.tmp 53) (hw := Lib.want_f rfl rfl rfl rfl) (hx := fun h => Lib.vif_on h) (hy := fun h => Lib.vif_on h) (h := ?_)
       refine Lib.q_or (.tmp 51) (.tmp 54) (h := ?_)
       refine Lib.q (.tmp 55) (.tmp 55) (hw := Lib.want_n rfl) (hx := fun _ => rfl) (hy := fun _ => rfl) (h := ?_)
       refine Lib.q (.tmp 4) (.tmp 4) (hw := Lib.want_f rfl rfl rfl rfl) (hx := fun _ => rfl) (hy := fun _ => rfl) (h := ?_)
       refine Lib.q (.tmp 57) (.tmp 57) (hw := Lib.want_f rfl rfl rfl rfl) (hx := fun h => Lib.vif_on h) (hy := fun h => Lib.vif_on h) (h := ?_)
       refine Lib.q (.tmp 58) (.tmp 58) (hw := Lib.want_f rfl rfl rfl rfl) (hx := fun h => Lib.vif_on h) (hy := fun h => Lib.vif_on h) (h := ?_)
       refine Lib.q_or (.tmp 56) (.tmp 59) (h := ?_)
       refine Lib.q (.tmp 60) (.tmp 60) (hw := Lib.want_n rfl) (hx := fun _ => rfl) (hy := fun _ => rfl) (h := ?_)
       refine Lib.q (.tmp 4) (.tmp 4) (hw := Lib.want_f rfl rfl rfl rfl) (hx := fun _ => rfl) (hy := fun _ => rfl) (h := ?_)
       refine Lib.q (.tmp 62) (.tmp 62) (hw := Lib.want_f rfl rfl rfl rfl) (hx := fun h => Lib.vif_on h) (hy := fun h => Lib.vif_on h) (h := ?_)
       refine Lib.q (.tmp 63) (.tmp 63) (hw := Lib.want_f rfl rfl rfl rfl) (hx := fun h => Lib.vif_on h) (hy := fun h => Lib.vif_on h) (h := ?_)
       refine Lib.q_or (.tmp 61) (.tmp 64) (h := ?_)
       refine Lib.q_done (fun W hb => ?_)
       try go_wp2
       go_meet
       case rel => exact ⟨rfl, ⟨blk_below BK.out hb⟩, ⟨below_step HB.out hb⟩⟩
      case rest =>
       clear BK HB BN
       obtain ⟨rfl, BK, HB⟩ := hcut
       cases hv : (decide ((rd_T112 l1 (i : Int)).f0 < 0) || decide (5 < (rd_T112 l1 (i : Int)).f0) || decide ((rd_T112 l1 (i : Int)).f1 < 0) || decide (14 < (rd_T112 l1 (i : Int)).f1)) with
       | true =>
        have H := HH.out
        rw [← HJ.out, HD.out, show impl_IsFS.qOk (rd_T112 l1 (i : Int)) = false by unfold impl_IsFS.qOk; rw [hv]; rfl, Bool.false_and, if_neg (by decide)] at H
        obtain rfl := Option.some.inj H
        clear hv H
        go_wp2
        go_ret
        exact ⟨rfl, HB.out⟩
       | false =>
        have HF : Aside0 ((l1.drop (i + 1)).all impl_IsFS.qOk = l1.all impl_IsFS.qOk) := ⟨by rw [← HJ.out, HD.out, show impl_IsFS.qOk (rd_T112 l1 (i : Int)) = true by unfold impl_IsFS.qOk; rw [hv]; rfl, Bool.true_and]⟩
        clear hv
        go_wp2
        go_roundg k1
        case measure => exact Nat.lt_succ_self _
        case rel => exact ⟨i + 1, by rw [show wrap64 ((i : Int) + 1) = ((i + 1 : Nat) : Int) by have h1_ := HL.out; have h2_ := HI.out; unfold wrap64; omega], ⟨by have h1_ := HX.out; have h2_ := HI.out; omega⟩, HF, BK, HB⟩
     ·
      have hF : l1.all impl_IsFS.qOk = true := by rw [← HJ.out, List.drop_eq_nil_of_le (by omega)]; rfl
      have H := HH.out
      rw [if_pos hF] at H
      clear HH HJ HX hF
      have HH := Aside0.mk H
      clear H
      have b4 : decide ((i : Int) < (l1.length : Int)) = false := decide_eq_false (by omega)
      have b5 := eq_false (show ¬ (i : Int) < (l1.length : Int) by omega)
      have z3 : wr.cell? ⟨g0, 3, none⟩ = some (.slice (some ad3) l3.length c3) := (blk_cell BK.out 3).trans rfl
      clear c
      go_wp2
      go_loopg [70] (l3.length + 1) (fun kq v w' => ∃ i : Nat, v = .int .i64 (i : Int) ∧ Aside0 (i ≤ l3.length ∧ l3.length - i < kq) ∧ Aside0 (((l3.drop i).all (fun s => !((s.size : Int) != 32))) = ((l3).all (fun s => !((s.size : Int) != 32)))) ∧ Aside0 (w'.heap[g0]? = some (.cells #[.int .i64 a0, .slice (some ad1) l1.length c1, .slice (some ad2) l2.length c2, .slice (some ad3) l3.length c3] 42 (0, 0))) ∧ Aside0 (Below w.heap.size w w'))
      case atStart => exact ⟨0, rfl, ⟨by omega⟩, ⟨rfl⟩, BK, HB⟩
      case round =>
       clear z3 BK HB b4 b5
       obtain ⟨i, rfl, HX, HJ, BK, HB⟩ := hrel
       cases gk with
       | zero => exact absurd HX.out.2 (by omega)
       | succ k2 =>
        by_cases c : i < l3.length
        ·
         have HI := Aside0.mk c
         have HD : Aside0 (((l3.drop i).all (fun s => !((s.size : Int) != 32))) = (!(((rdOf ByteArray.empty l3 (i : Int)).size : Int) != 32) && ((l3.drop (i + 1)).all (fun s => !((s.size : Int) != 32))))) := ⟨by rw [Lib.drop_rd ByteArray.empty l3 i c]; rfl⟩
         obtain ⟨ad, e0, hx⟩ := Kd.at_string (Kd.C_below HR3.out HB.out) (i : Int) (by omega) (by omega)
         obtain rfl : ad3 = ad := by injection e0
         simp only [Int.toNat_natCast] at hx
         have b4 : decide ((i : Int) < (l3.length : Int)) = true := decide_eq_true (by omega)
         have b5 := eq_true (show (i : Int) < (l3.length : Int) by omega)
         have b6 := eq_true (show 0 ≤ (i : Int) by omega)
         cases hv : (((rdOf ByteArray.empty l3 (i : Int)).size : Int) != 32) with
         | true =>
          have H := HH.out
          rw [← HJ.out, HD.out, hv, show (!true) = false from rfl, Bool.false_and, if_neg (by decide)] at H
          obtain rfl := Option.some.inj H
          clear H
          go_wp2
          go_ret
          exact ⟨rfl, HB.out⟩
         | false =>
          have HF : Aside0 (((l3.drop (i + 1)).all (fun s => !((s.size : Int) != 32))) = ((l3).all (fun s => !((s.size : Int) != 32)))) := ⟨by rw [← HJ.out, HD.out, hv]; rfl⟩
          go_wp2
          go_roundg k2
          case measure => exact Nat.lt_succ_self _
          case rel => exact ⟨i + 1, by rw [show wrap64 ((i : Int) + 1) = ((i + 1 : Nat) : Int) by have h1_ := HL.out; have h2_ := HI.out; unfold wrap64; omega], ⟨by have h1_ := HX.out; have h2_ := HI.out; omega⟩, HF, BK, HB⟩
        ·
         have hF : ((l3).all (fun s => !((s.size : Int) != 32))) = true := by rw [← HJ.out, List.drop_eq_nil_of_le (by omega)]; rfl
         have H := HH.out
         rw [if_pos hF] at H
         have HZ := Aside0.mk hF
         clear HH HJ HX hF
         have HH := Aside0.mk H
         clear H
         have b4 : decide ((i : Int) < (l3.length : Int)) = false := decide_eq_false (by omega)
         have b5 := eq_false (show ¬ (i : Int) < (l3.length : Int) by omega)
         clear c
         have z2 : wr.cell? ⟨g0, 2, none⟩ = some (.slice (some ad2) l2.length c2) := (blk_cell BK.out 2).trans rfl
         go_upto_region 16 with (fail)
         obtain ⟨w3, hw_⟩ : ∃ W, W = wr.alloc (.cells #[Value.bool false, Value.bool false, Value.bool false, Value.bool false, Value.bool false, Value.bool false, Value.bool false, Value.bool false, Value.bool false, Value.bool false, Value.bool false, Value.bool false, Value.bool false, Value.bool false, Value.bool false, Value.bool false, Value.bool false, Value.bool false, Value.bool false, Value.bool false, Value.bool false, Value.bool false, Value.bool false, Value.bool false, Value.bool false, Value.bool false, Value.bool false, Value.bool false, Value.bool false, Value.bool false, Value.bool false, Value.bool false, Value.bool false, Value.bool false, Value.bool false, Value.bool false, Value.bool false, Value.bool false, Value.bool false, Value.bool false, Value.bool false, Value.bool false, Value.bool false, Value.bool false, Value.bool false, Value.bool false, Value.bool false, Value.bool false, Value.bool false, Value.bool false, Value.bool false, Value.bool false, Value.bool false, Value.bool false, Value.bool false, Value.bool false] 115 (0, 0)) := ⟨_, rfl⟩
         rw [← hw_]
         have BU : Aside0 (w3.heap[wr.heap.size]? = some (.cells ((List.replicate 56 false).map Value.bool).toArray 115 (0, 0))) := ⟨by rw [hw_]; exact blk_new _ _⟩
         have NE : Aside0 (w.heap.size ≤ wr.heap.size ∧ g0 < wr.heap.size) := ⟨HB.out.size, blk_lt BK.out⟩
         replace BK : Aside0 (w3.heap[g0]? = some (.cells #[.int .i64 a0, .slice (some ad1) l1.length c1, .slice (some ad2) l2.length c2, .slice (some ad3) l3.length c3] 42 (0, 0))) := ⟨by rw [hw_]; exact blk_alloc BK.out _⟩
         replace HB : Aside0 (Below w.heap.size w w3) := ⟨by rw [hw_]; exact below_alloc HB.out _⟩
         clear hw_ z2 b4 b5
         obtain ⟨g7, hg7⟩ : ∃ g, g = wr.heap.size := ⟨_, rfl⟩
         rw [← hg7] at BU NE ⊢
         clear hg7
         have z2 : w3.cell? ⟨g0, 2, none⟩ = some (.slice (some ad2) l2.length c2) := (blk_cell BK.out 2).trans rfl
         obtain ⟨V, hV, H⟩ := Option.bind_eq_some_iff.1 HH.out
         have HV := Aside0.mk H
         have HV0 := Aside0.mk hV
         clear H hV HH
         go_wp2
         go_loopg [81] (l2.length + 1) (fun kq v w' => ∃ (i : Nat) (y : List Bool), v = .int .i64 (i : Int) ∧ Aside0 (i ≤ l2.length ∧ l2.length - i < kq) ∧ Aside0 (y.length = 56) ∧ Aside0 (impl_IsFS.ino k l3 (l2.drop i) y = some V) ∧ Aside0 (w'.heap[g7]? = some (.cells (y.map Value.bool).toArray 115 (0, 0))) ∧ Aside0 (w'.heap[g0]? = some (.cells #[.int .i64 a0, .slice (some ad1) l1.length c1, .slice (some ad2) l2.length c2, .slice (some ad3) l3.length c3] 42 (0, 0))) ∧ Aside0 (Below w.heap.size w w'))
         case atStart => exact ⟨0, _, rfl, ⟨by omega⟩, ⟨by simp⟩, HV0, BU, BK, HB⟩
         case round =>
          clear z2 BK HB BU HV0
          obtain ⟨i, y, rfl, HX, HY, HJ, BU, BK, HB⟩ := hrel
          cases gk with
          | zero => exact absurd HX.out.2 (by omega)
          | succ k3 =>
           by_cases c : i < l2.length
           ·
            have HI := Aside0.mk c
            have H := HJ.out
            rw [Lib.drop_rd z25 l2 i c, show l2.getD i z25 = (rd_T25 l2 (i : Int)) from rfl] at H
            unfold impl_IsFS.ino at H
            obtain ⟨t, ht, H⟩ := Option.bind_eq_some_iff.1 H
            have HT := Aside0.mk ht
            clear ht
            obtain ⟨ad, A7, c7, A8, c8, A9, c9, e0, hx0, hx1, hx2, hx3, hx4, hx5, hx6, hx7, hx8, hx9, hl7, hC7, hl8, hC8, hl9, hC9⟩ := at_T25 HR2.out (i : Int) (by omega) (by omega)
            obtain rfl : ad2 = ad := by injection e0
            simp only [Int.toNat_natCast] at hx0 hx1 hx2 hx3 hx4 hx5 hx6 hx7 hx8 hx9
            replace hx0 := pw_cell_below HB.out hx0
            replace hx1 := pw_cell_below HB.out hx1
            replace hx2 := pw_cell_below HB.out hx2
            replace hx3 := pw_cell_below HB.out hx3
            replace hx4 := pw_cell_below HB.out hx4
            replace hx5 := pw_cell_below HB.out hx5
            replace hx6 := pw_cell_below HB.out hx6
            replace hx7 := pw_cell_below HB.out hx7
            replace hx8 := pw_cell_below HB.out hx8
            replace hx9 := pw_cell_below HB.out hx9
            have HL7 := Aside0.mk hl7
            have HC7 := Aside0.mk hC7
            clear hl7 hC7
            have HL8 := Aside0.mk hl8
            have HC8 := Aside0.mk hC8
            clear hl8 hC8
            have HL9 := Aside0.mk hl9
            have HC9 := Aside0.mk hC9
            clear hl9 hC9
            have b4 : decide ((i : Int) < (l2.length : Int)) = true := decide_eq_true (by omega)
            have b5 := eq_true (show (i : Int) < (l2.length : Int) by omega)
            have b6 := eq_true (show 0 ≤ (i : Int) by omega)
            go_upto_region 19 with (fail)
            clear hx0 hx1 hx2 hx3 hx4 hx5 hx6 hx7 hx8 hx9 b4 b5 b6
            have BKo := BK
            have BUo := BU
            obtain ⟨w4, hw_⟩ : ∃ W, W = wr.alloc (.cells #[.int .i64 (rd_T25 l2 (i : Int)).f0, .int .i64 (rd_T25 l2 (i : Int)).f1, .int .i64 (rd_T25 l2 (i : Int)).f2, .int .i64 (rd_T25 l2 (i : Int)).f3, .int .i64 (rd_T25 l2 (i : Int)).f4, .int .i64 (rd_T25 l2 (i : Int)).f5, .int .i64 (rd_T25 l2 (i : Int)).f6, .slice A7 (rd_T25 l2 (i : Int)).f7.length c7, .slice A8 (rd_T25 l2 (i : Int)).f8.length c8, .slice A9 (rd_T25 l2 (i : Int)).f9.length c9] 25 (0, 0)) := ⟨_, rfl⟩
            rw [← hw_]
            have BI : Aside0 (w4.heap[wr.heap.size]? = some (.cells #[.int .i64 (rd_T25 l2 (i : Int)).f0, .int .i64 (rd_T25 l2 (i : Int)).f1, .int .i64 (rd_T25 l2 (i : Int)).f2, .int .i64 (rd_T25 l2 (i : Int)).f3, .int .i64 (rd_T25 l2 (i : Int)).f4, .int .i64 (rd_T25 l2 (i : Int)).f5, .int .i64 (rd_T25 l2 (i : Int)).f6, .slice A7 (rd_T25 l2 (i : Int)).f7.length c7, .slice A8 (rd_T25 l2 (i : Int)).f8.length c8, .slice A9 (rd_T25 l2 (i : Int)).f9.length c9] 25 (0, 0))) := ⟨by rw [hw_]; exact blk_new _ _⟩
            replace BK : Aside0 (w4.heap[g0]? = some (.cells #[.int .i64 a0, .slice (some ad1) l1.length c1, .slice (some ad2) l2.length c2, .slice (some ad3) l3.length c3] 42 (0, 0))) := ⟨by rw [hw_]; exact blk_alloc BK.out _⟩
            replace BU : Aside0 (w4.heap[g7]? = some (.cells (y.map Value.bool).toArray 115 (0, 0))) := ⟨by rw [hw_]; exact blk_alloc BU.out _⟩
            have GI : Aside0 (w.heap.size ≤ wr.heap.size ∧ g7 < wr.heap.size ∧ g0 < wr.heap.size) := ⟨HB.out.size, blk_lt BUo.out, blk_lt BKo.out⟩
            replace HB : Aside0 (Below w.heap.size w w4) := ⟨by rw [hw_]; exact below_alloc HB.out _⟩
            clear hw_
            obtain ⟨gi, hgi⟩ : ∃ g, g = wr.heap.size := ⟨_, rfl⟩
            rw [← hgi] at BI GI ⊢
            clear hgi BKo BUo
            obtain ⟨p0, p1, p2, p3, p4, p5, p6, p7, p8, p9, q0, q1, q2, q3, q4, q5, q6, q7, q8, q9⟩ := Lib.cel10 BI.out
            cases t with
            | false =>
             rw [if_neg (by decide)] at H
             obtain rfl := Option.some.inj H
             have H := HV.out
             obtain rfl := Option.some.inj H
             clear H
             go_wp2_with (first | ((with_reducible refine gate_callee (f := 37) rfl ?_); refine goesL_ (some 86) rfl rfl Try.func37 (by kernel_rfl) rfl #[.agg #[.int .i64 (rd_T25 l2 (i : Int)).f0, .int .i64 (rd_T25 l2 (i : Int)).f1, .int .i64 (rd_T25 l2 (i : Int)).f2, .int .i64 (rd_T25 l2 (i : Int)).f3, .int .i64 (rd_T25 l2 (i : Int)).f4, .int .i64 (rd_T25 l2 (i : Int)).f5, .int .i64 (rd_T25 l2 (i : Int)).f6, .slice A7 (rd_T25 l2 (i : Int)).f7.length c7, .slice A8 (rd_T25 l2 (i : Int)).f8.length c8, .slice A9 (rd_T25 l2 (i : Int)).f9.length c9]] rfl (by (try simp only [List.map_toArray, List.map_cons, List.map_nil]); first | done | rfl) ?_; refine (impl_IsInode.calls k (rd_T25 l2 (i : Int)).f0 (rd_T25 l2 (i : Int)).f1 (rd_T25 l2 (i : Int)).f2 (rd_T25 l2 (i : Int)).f3 (rd_T25 l2 (i : Int)).f4 (rd_T25 l2 (i : Int)).f5 (rd_T25 l2 (i : Int)).f6 _ _ (rd_T25 l2 (i : Int)).f7 _ _ (rd_T25 l2 (i : Int)).f8 _ _ (rd_T25 l2 (i : Int)).f9 _ w4 (Kd.C_below HC7.out HB.out) HL7.out (Kd.C_below HC8.out HB.out) HL8.out (Kd.C_below HC9.out HB.out) HL9.out HT.out).mono ?_; rintro e w5 ⟨rfl, hb⟩; refine ⟨_, rfl, ?_⟩; replace BK := Aside0.mk (blk_below BK.out hb); replace BU := Aside0.mk (blk_below BU.out hb); replace BI := Aside0.mk (blk_below BI.out hb); replace HB := Aside0.mk (below_step HB.out hb); clear hb p0 p1 p2 p3 p4 p5 p6 p7 p8 p9 q0 q1 q2 q3 q4 q5 q6 q7 q8 q9; have z7 := (blk_cell BI.out 7).trans rfl))
             go_ret
             exact ⟨rfl, HB.out⟩
            | true =>
             rw [if_pos rfl] at H
             by_cases hk7 : (rd_T25 l2 (i : Int)).f7.length ≤ 4611686018427387904
             rotate_left
             ·
              rw [if_neg hk7] at H
              cases H
             rw [if_pos hk7] at H
             obtain ⟨V2, hV2, H⟩ := Option.bind_eq_some_iff.1 H
             have HV2 := Aside0.mk hV2
             have HW := Aside0.mk H
             clear hV2 H
             have HK7 : Aside0 ((rd_T25 l2 (i : Int)).f7.length ≤ 4611686018427387904) := ⟨hk7⟩
             clear hk7
             go_wp2_with (first | ((with_reducible refine gate_callee (f := 37) rfl ?_); refine goesL_ (some 86) rfl rfl Try.func37 (by kernel_rfl) rfl #[.agg #[.int .i64 (rd_T25 l2 (i : Int)).f0, .int .i64 (rd_T25 l2 (i : Int)).f1, .int .i64 (rd_T25 l2 (i : Int)).f2, .int .i64 (rd_T25 l2 (i : Int)).f3, .int .i64 (rd_T25 l2 (i : Int)).f4, .int .i64 (rd_T25 l2 (i : Int)).f5, .int .i64 (rd_T25 l2 (i : Int)).f6, .slice A7 (rd_T25 l2 (i : Int)).f7.length c7, .slice A8 (rd_T25 l2 (i : Int)).f8.length c8, .slice A9 (rd_T25 l2 (i : Int)).f9.length c9]] rfl (by (try simp only [List.map_toArray, List.map_cons, List.map_nil]); first | done | rfl) ?_; refine (impl_IsInode.calls k (rd_T25 l2 (i : Int)).f0 (rd_T25 l2 (i : Int)).f1 (rd_T25 l2 (i : Int)).f2 (rd_T25 l2 (i : Int)).f3 (rd_T25 l2 (i : Int)).f4 (rd_T25 l2 (i : Int)).f5 (rd_T25 l2 (i : Int)).f6 _ _ (rd_T25 l2 (i : Int)).f7 _ _ (rd_T25 l2 (i : Int)).f8 _ _ (rd_T25 l2 (i : Int)).f9 _ w4 (Kd.C_below HC7.out HB.out) HL7.out (Kd.C_below HC8.out HB.out) HL8.out (Kd.C_below HC9.out HB.out) HL9.out HT.out).mono ?_; rintro e w5 ⟨rfl, hb⟩; refine ⟨_, rfl, ?_⟩; replace BK := Aside0.mk (blk_below BK.out hb); replace BU := Aside0.mk (blk_below BU.out hb); replace BI := Aside0.mk (blk_below BI.out hb); replace HB := Aside0.mk (below_step HB.out hb); clear hb p0 p1 p2 p3 p4 p5 p6 p7 p8 p9 q0 q1 q2 q3 q4 q5 q6 q7 q8 q9; have z7 := (blk_cell BI.out 7).trans rfl))
             go_loopg [91] ((rd_T25 l2 (i : Int)).f7.length + 1) (fun kq v w' => ∃ (j : Nat) (y : List Bool), v = .int .i64 (j : Int) ∧ Aside0 (j ≤ (rd_T25 l2 (i : Int)).f7.length ∧ (rd_T25 l2 (i : Int)).f7.length - j < kq) ∧ Aside0 (y.length = 56) ∧ Aside0 (impl_IsFS.blk k (rd_T25 l2 (i : Int)).f2 (rd_T25 l2 (i : Int)).f5 l3 j ((rd_T25 l2 (i : Int)).f7.drop j) y = some V2) ∧ Aside0 (w'.heap[g7]? = some (.cells (y.map Value.bool).toArray 115 (0, 0))) ∧ Aside0 (w'.heap[gi]? = some (.cells #[.int .i64 (rd_T25 l2 (i : Int)).f0, .int .i64 (rd_T25 l2 (i : Int)).f1, .int .i64 (rd_T25 l2 (i : Int)).f2, .int .i64 (rd_T25 l2 (i : Int)).f3, .int .i64 (rd_T25 l2 (i : Int)).f4, .int .i64 (rd_T25 l2 (i : Int)).f5, .int .i64 (rd_T25 l2 (i : Int)).f6, .slice A7 (rd_T25 l2 (i : Int)).f7.length c7, .slice A8 (rd_T25 l2 (i : Int)).f8.length c8, .slice A9 (rd_T25 l2 (i : Int)).f9.length c9] 25 (0, 0))) ∧ Aside0 (w'.heap[g0]? = some (.cells #[.int .i64 a0, .slice (some ad1) l1.length c1, .slice (some ad2) l2.length c2, .slice (some ad3) l3.length c3] 42 (0, 0))) ∧ Aside0 (Below w.heap.size w w'))
             case atStart => exact ⟨0, y, rfl, ⟨by omega⟩, HY, HV2, BU, BI, BK, HB⟩
             case round =>
              clear z7 HV2 HY HJ BU BI BK HB
              obtain ⟨j, y, rfl, HX2, HY, HJ2, BU, BI, BK, HB⟩ := hrel
              cases gk with
              | zero => exact absurd HX2.out.2 (by omega)
              | succ k4 =>
               by_cases c : j < (rd_T25 l2 (i : Int)).f7.length
               ·
                have HIJ := Aside0.mk c
                have H := HJ2.out
                rw [Lib.drop_rd (0 : Int) (rd_T25 l2 (i : Int)).f7 j c, show (rd_T25 l2 (i : Int)).f7.getD j 0 = (rd (rd_T25 l2 (i : Int)).f7 (j : Int)) from rfl] at H
                unfold impl_IsFS.blk at H
                obtain ⟨ad, e0, hx⟩ := Kd.at_int (Kd.C_below HC7.out HB.out) (j : Int) (by omega) (by omega)
                cases e0
                simp only [Int.toNat_natCast] at hx
                have b4 : decide ((j : Int) < ((rd_T25 l2 (i : Int)).f7.length : Int)) = true := decide_eq_true (by omega)
                have b5 := eq_true (show (j : Int) < ((rd_T25 l2 (i : Int)).f7.length : Int) by omega)
                have b6 := eq_true (show 0 ≤ (j : Int) by omega)
                by_cases hm : (rd (rd_T25 l2 (i : Int)).f7 (j : Int)) = -1
                ·
                 rw [if_pos hm] at H
                 have HJ3 := Aside0.mk H
                 have b7 : ((rd (rd_T25 l2 (i : Int)).f7 (j : Int)) == -1) = true := beq_iff_eq.mpr hm
                 clear H hm
                 go_wp2
                 go_roundg k4
                 case measure => exact Nat.lt_succ_self _
                 case rel => exact ⟨j + 1, y, by rw [show wrap64 ((j : Int) + 1) = ((j + 1 : Nat) : Int) by have h1_ := HL7.out; have h2_ := HIJ.out; have h3_ := HK7.out; unfold wrap64; omega], ⟨by have h1_ := HX2.out; have h2_ := HIJ.out; omega⟩, HY, HJ3, BU, BI, BK, HB⟩
                ·
                 rw [if_neg hm] at H
                 obtain ⟨o, ho, H⟩ := Option.bind_eq_some_iff.1 H
                 have HO := Aside0.mk ho
                 have b7 : ((rd (rd_T25 l2 (i : Int)).f7 (j : Int)) == -1) = false := beq_eq_false_iff_ne.mpr hm
                 clear ho hm
                 go_upto_region 25 with (fail)
                 clear hx b4 b5 b6 b7
                 by_cases hu : o = (rd_T25 l2 (i : Int)).f2
                 ·
                  rw [if_pos hu] at H
                  by_cases hb56 : 0 ≤ (rd (rd_T25 l2 (i : Int)).f7 (j : Int)) ∧ (rd (rd_T25 l2 (i : Int)).f7 (j : Int)) < 56
                  rotate_left
                  ·
                   rw [if_neg hb56] at H
                   cases H
                  rw [if_pos hb56] at H
                  have b8 : (o != (rd_T25 l2 (i : Int)).f2) = false := bne_eq_false_iff_eq.mpr hu
                  have HBN : Aside0 ((rd (rd_T25 l2 (i : Int)).f7 (j : Int)).toNat < 56) := ⟨by omega⟩
                  have HB0 := Aside0.mk hb56
                  have b9 := eq_true hb56.1
                  have b10 := eq_true hb56.2
                  clear hu hb56
                  cases hT : y.getD (rd (rd_T25 l2 (i : Int)).f7 (j : Int)).toNat false with
                  | true =>
                   rw [hT, if_pos rfl] at H
                   obtain rfl := Option.some.inj H
                   have H := HW.out
                   obtain rfl := Option.some.inj H
                   have H := HV.out
                   obtain rfl := Option.some.inj H
                   clear H
                   have HM : ∀ W, Below wr.heap.size wr W → (W.cell? ⟨gi, 2, none⟩ = some (.int .i64 (rd_T25 l2 (i : Int)).f2) ∧ W.cell? ⟨g7, (rd (rd_T25 l2 (i : Int)).f7 (j : Int)).toNat, none⟩ = some (.bool true)) := fun W hb => ⟨(blk_cell (blk_below BI.out hb) 2).trans rfl, (blk_cell (blk_below BU.out hb) (rd (rd_T25 l2 (i : Int)).f7 (j : Int)).toNat).trans ((impl_IsFS.at_ y (rd (rd_T25 l2 (i : Int)).f7 (j : Int)).toNat (by have := HY.out; have := HBN.out; omega)).trans (by rw [hT]))⟩
                   refine Lib.q_start wr Try.f41 (by kernel_rfl) rfl (by kernel_rfl) (Below.refl _ _) ?_
                   refine Lib.q (.tmp 11) (.tmp 11) (hw := Lib.want_n rfl) (hx := fun _ => rfl) (hy := fun _ => rfl) (h := ?_)
                   refine Lib.q_call (.int .i64 o) #[.int .i64 (rd (rd_T25 l2 (i : Int)).f7 (j : Int))] Try.func103 (hcl := ?_) (h := ?_)
                   ·
                    exact fun _ W hb => Lib.of_drawn (impl_BlockOwner.calls _ o W HO.out)
                   refine Lib.q (.tmp 9) (.tmp 9) (hw := Lib.want_n rfl) (hx := fun _ => rfl) (hy := fun _ => rfl) (h := ?_)
                   refine Lib.q (.tmp 100) (.tmp 100) (hw := Lib.want_n rfl) (hx := fun _ => rfl) (hy := fun _ => rfl) (h := ?_)
                   refine Lib.q (.tmp 99) (.tmp 101) (hw := Lib.want_n rfl) (hx := fun _ => rfl) (hy := fun _ => rfl) (h := ?_)
                   refine Lib.q (.tmp 102) (.tmp 102) (hw := Lib.want_n rfl) (hx := fun _ => rfl) (hy := fun _ => rfl) (h := ?_)
                   refine Lib.q (.tmp 11) (.tmp 11) (hw := Lib.want_f rfl rfl rfl rfl) (hx := fun _ => rfl) (hy := fun _ => rfl) (h := ?_)
                   refine Lib.q (.tmp 7) (.tmp 104) (hw := Lib.want_f rfl rfl rfl rfl) (u2 := .int .i64 (rd (rd_T25 l2 (i : Int)).f7 (j : Int))) (hx := fun _ => rfl) (hy := fun _ => rfl) (h := ?_)
                   refine Lib.q (.tmp 105) (.tmp 105) (hw := Lib.want_f rfl rfl rfl rfl) (u1 := (.pointer (some ⟨g7, (rd (rd_T25 l2 (i : Int)).f7 (j : Int)).toNat, none⟩))) (u2 := (.pointer (some ⟨g7, (rd (rd_T25 l2 (i : Int)).f7 (j : Int)).toNat, none⟩))) (hx := fun _ => rfl) (hy := fun _ => rfl) (h := ?_)
                   refine Lib.q_or (b := false) (z := true) (c2 := true) (.tmp 103) (.tmp 106) (hx := fun _ => rfl) (hc := Or.inl rfl) (h := ?_)
                   refine Lib.q_done (fun W hb => ?_)
                   go_wp2
                   go_ret
                   exact ⟨rfl, below_step HB.out hb⟩
                  | false =>
                   rw [hT, if_neg (by decide)] at H
                   have HM : ∀ W, Below wr.heap.size wr W → (W.cell? ⟨gi, 2, none⟩ = some (.int .i64 (rd_T25 l2 (i : Int)).f2) ∧ W.cell? ⟨g7, (rd (rd_T25 l2 (i : Int)).f7 (j : Int)).toNat, none⟩ = some (.bool false)) := fun W hb => ⟨(blk_cell (blk_below BI.out hb) 2).trans rfl, (blk_cell (blk_below BU.out hb) (rd (rd_T25 l2 (i : Int)).f7 (j : Int)).toNat).trans ((impl_IsFS.at_ y (rd (rd_T25 l2 (i : Int)).f7 (j : Int)).toNat (by have := HY.out; have := HBN.out; omega)).trans (by rw [hT]))⟩
                   refine Lib.q_start wr Try.f41 (by kernel_rfl) rfl (by kernel_rfl) (Below.refl _ _) ?_
                   refine Lib.q (.tmp 11) (.tmp 11) (hw := Lib.want_n rfl) (hx := fun _ => rfl) (hy := fun _ => rfl) (h := ?_)
                   refine Lib.q_call (.int .i64 o) #[.int .i64 (rd (rd_T25 l2 (i : Int)).f7 (j : Int))] Try.func103 (hcl := ?_) (h := ?_)
                   ·
                    exact fun _ W hb => Lib.of_drawn (impl_BlockOwner.calls _ o W HO.out)
                   refine Lib.q (.tmp 9) (.tmp 9) (hw := Lib.want_n rfl) (hx := fun _ => rfl) (hy := fun _ => rfl) (h := ?_)
                   refine Lib.q (.tmp 100) (.tmp 100) (hw := Lib.want_n rfl) (hx := fun _ => rfl) (hy := fun _ => rfl) (h := ?_)
                   refine Lib.q (.tmp 99) (.tmp 101) (hw := Lib.want_n rfl) (hx := fun _ => rfl) (hy := fun _ => rfl) (h := ?_)
                   refine Lib.q (.tmp 102) (.tmp 102) (hw := Lib.want_n rfl) (hx := fun _ => rfl) (hy := fun _ => rfl) (h := ?_)
                   refine Lib.q (.tmp 11) (.tmp 11) (hw := Lib.want_f rfl rfl rfl rfl) (hx := fun _ => rfl) (hy := fun _ => rfl) (h := ?_)
                   refine Lib.q (.tmp 7) (.tmp 104) (hw := Lib.want_f rfl rfl rfl rfl) (u2 := .int .i64 (rd (rd_T25 l2 (i : Int)).f7 (j : Int))) (hx := fun _ => rfl) (hy := fun _ => rfl) (h := ?_)
                   refine Lib.q (.tmp 105) (.tmp 105) (hw := Lib.want_f rfl rfl rfl rfl) (u1 := (.pointer (some ⟨g7, (rd (rd_T25 l2 (i : Int)).f7 (j : Int)).toNat, none⟩))) (u2 := (.pointer (some ⟨g7, (rd (rd_T25 l2 (i : Int)).f7 (j : Int)).toNat, none⟩))) (hx := fun _ => rfl) (hy := fun _ => rfl) (h := ?_)
                   refine Lib.q_or (b := false) (z := false) (c2 := true) (.tmp 103) (.tmp 106) (hx := fun _ => rfl) (hc := Or.inl rfl) (h := ?_)
                   refine Lib.q_done (fun W hb => ?_)
                   replace BK := Aside0.mk (blk_below BK.out hb); replace BU := Aside0.mk (blk_below BU.out hb); replace BI := Aside0.mk (blk_below BI.out hb); replace HB := Aside0.mk (below_step HB.out hb)
                   clear hb HM b8
                   have z1 : W.cell? ⟨g7, (rd (rd_T25 l2 (i : Int)).f7 (j : Int)).toNat, none⟩ = some (.bool false) := (blk_cell BU.out (rd (rd_T25 l2 (i : Int)).f7 (j : Int)).toNat).trans ((impl_IsFS.at_ y (rd (rd_T25 l2 (i : Int)).f7 (j : Int)).toNat (by have := HY.out; have := HBN.out; omega)).trans (by rw [hT]))
                   have z2 := blk_frozen BU.out (rd (rd_T25 l2 (i : Int)).f7 (j : Int)).toNat
                   clear hT
                   go_upto_region 28 with (fail)
                   clear z1 z2 b9 b10
                   obtain ⟨w6, hw_⟩ : ∃ W6, W6 = W.setCell ⟨g7, (rd (rd_T25 l2 (i : Int)).f7 (j : Int)).toNat, none⟩ (.bool true) := ⟨_, rfl⟩
                   rw [← hw_]
                   replace BU : Aside0 (w6.heap[g7]? = some (.cells ((y.set (rd (rd_T25 l2 (i : Int)).f7 (j : Int)).toNat true).map Value.bool).toArray 115 (0, 0))) := ⟨by rw [hw_]; exact blk_put BU.out _ _ (impl_IsFS.set_ y _)⟩
                   replace BI := Aside0.mk (hw_ ▸ blk_far (p := ⟨g7, (rd (rd_T25 l2 (i : Int)).f7 (j : Int)).toNat, none⟩) BI.out (Nat.ne_of_gt GI.out.2.1) (.bool true))
                   replace BK := Aside0.mk (hw_ ▸ blk_far (p := ⟨g7, (rd (rd_T25 l2 (i : Int)).f7 (j : Int)).toNat, none⟩) BK.out (Nat.ne_of_lt NE.out.2) (.bool true))
                   replace HB := Aside0.mk (hw_ ▸ below_set (j := (rd (rd_T25 l2 (i : Int)).f7 (j : Int)).toNat) (v := .bool true) HB.out NE.out.1)
                   clear hw_
                   have z5 := (blk_cell BI.out 5).trans rfl
                   have z3 := (blk_cell BK.out 3).trans rfl
                   unfold impl_IsFS.end_ at H
                   by_cases hE : (wrap64 ((rd_T25 l2 (i : Int)).f5 - wrap64 ((j : Int) * 32))) < 32
                   ·
                    rw [if_pos hE] at H
                    by_cases hS : 0 ≤ (wrap64 ((rd_T25 l2 (i : Int)).f5 - wrap64 ((j : Int) * 32))) ∧ (wrap64 ((rd_T25 l2 (i : Int)).f5 - wrap64 ((j : Int) * 32))) ≤ ((rdOf ByteArray.empty l3 (rd (rd_T25 l2 (i : Int)).f7 (j : Int))).size : Int)
                    rotate_left
                    ·
                     rw [if_neg hS] at H
                     cases H
                    rw [if_pos hS] at H
                    obtain ⟨z, hz_, H⟩ := Option.bind_eq_some_iff.1 H
                    have HZ_ := Aside0.mk hz_
                    have c1 := eq_true hS.1
                    have c2 := eq_true hS.2
                    have c3 := decide_eq_true hS.1
                    have c4 := decide_eq_true hS.2
                    have c5 : decide ((wrap64 ((rd_T25 l2 (i : Int)).f5 - wrap64 ((j : Int) * 32))) < 32) = true := decide_eq_true hE
                    have b9 := eq_true HB0.out.1
                    have b10 : ((rd (rd_T25 l2 (i : Int)).f7 (j : Int)) < (l3.length : Int)) = True := eq_true (by have h1_ := HB0.out.2; have h2_ := HL.out; omega)
                    obtain ⟨ad, e0, hxs⟩ := Kd.at_string (Kd.C_below HR3.out HB.out) (rd (rd_T25 l2 (i : Int)).f7 (j : Int)) HB0.out.1 (of_eq_true b10)
                    obtain rfl : ad3 = ad := by injection e0
                    clear hz_ hS hE
                    cases z with
                    | false =>
                     rw [if_neg (by decide)] at H
                     obtain rfl := Option.some.inj H
                     have H := HW.out
                     obtain rfl := Option.some.inj H
                     have H := HV.out
                     obtain rfl := Option.some.inj H
                     clear H
                     go_wp2_with (first | ((with_reducible refine gate_callee (f := 104) rfl ?_); (try (refine gate_guard (by rfl) ?_; dsimp only)); refine goesL_ (some 125) rfl rfl Try.func104 (by kernel_rfl) rfl #[.string ((rdOf ByteArray.empty l3 (rd (rd_T25 l2 (i : Int)).f7 (j : Int))).extract (wrap64 ((rd_T25 l2 (i : Int)).f5 - wrap64 ((j : Int) * 32))).toNat (rdOf ByteArray.empty l3 (rd (rd_T25 l2 (i : Int)).f7 (j : Int))).size)] rfl (by (try simp only [List.map_toArray, List.map_cons, List.map_nil]); first | done | rfl) ?_; refine (Lib.of_drawn (impl_IsZeroes.calls k ((rdOf ByteArray.empty l3 (rd (rd_T25 l2 (i : Int)).f7 (j : Int))).extract (wrap64 ((rd_T25 l2 (i : Int)).f5 - wrap64 ((j : Int) * 32))).toNat (rdOf ByteArray.empty l3 (rd (rd_T25 l2 (i : Int)).f7 (j : Int))).size) _ w6 HZ_.out)).mono ?_; rintro e w7 ⟨rfl, hb⟩; refine ⟨_, rfl, ?_⟩; replace BK := Aside0.mk (blk_below BK.out hb); replace BU := Aside0.mk (blk_below BU.out hb); replace BI := Aside0.mk (blk_below BI.out hb); replace HB := Aside0.mk (below_step HB.out hb); clear hb))
                     go_ret
                     exact ⟨rfl, HB.out⟩
                    | true =>
                     rw [if_pos rfl] at H
                     have HJ3 := Aside0.mk H
                     clear H
                     go_wp2_with (first | ((with_reducible refine gate_callee (f := 104) rfl ?_); (try (refine gate_guard (by rfl) ?_; dsimp only)); refine goesL_ (some 125) rfl rfl Try.func104 (by kernel_rfl) rfl #[.string ((rdOf ByteArray.empty l3 (rd (rd_T25 l2 (i : Int)).f7 (j : Int))).extract (wrap64 ((rd_T25 l2 (i : Int)).f5 - wrap64 ((j : Int) * 32))).toNat (rdOf ByteArray.empty l3 (rd (rd_T25 l2 (i : Int)).f7 (j : Int))).size)] rfl (by (try simp only [List.map_toArray, List.map_cons, List.map_nil]); first | done | rfl) ?_; refine (Lib.of_drawn (impl_IsZeroes.calls k ((rdOf ByteArray.empty l3 (rd (rd_T25 l2 (i : Int)).f7 (j : Int))).extract (wrap64 ((rd_T25 l2 (i : Int)).f5 - wrap64 ((j : Int) * 32))).toNat (rdOf ByteArray.empty l3 (rd (rd_T25 l2 (i : Int)).f7 (j : Int))).size) _ w6 HZ_.out)).mono ?_; rintro e w7 ⟨rfl, hb⟩; refine ⟨_, rfl, ?_⟩; replace BK := Aside0.mk (blk_below BK.out hb); replace BU := Aside0.mk (blk_below BU.out hb); replace BI := Aside0.mk (blk_below BI.out hb); replace HB := Aside0.mk (below_step HB.out hb); clear hb))
                     go_roundg k4
                     case measure => exact Nat.lt_succ_self _
                     case rel => exact ⟨j + 1, (y.set (rd (rd_T25 l2 (i : Int)).f7 (j : Int)).toNat true), by rw [show wrap64 ((j : Int) + 1) = ((j + 1 : Nat) : Int) by have h1_ := HL7.out; have h2_ := HIJ.out; have h3_ := HK7.out; unfold wrap64; omega], ⟨by have h1_ := HX2.out; have h2_ := HIJ.out; omega⟩, ⟨by rw [List.length_set]; exact HY.out⟩, HJ3, BU, BI, BK, HB⟩
                   ·
                    rw [if_neg hE] at H
                    have HJ3 := Aside0.mk H
                    have c5 : decide ((wrap64 ((rd_T25 l2 (i : Int)).f5 - wrap64 ((j : Int) * 32))) < 32) = false := decide_eq_false hE
                    clear H hE
                    go_wp2
                    go_roundg k4
                    case measure => exact Nat.lt_succ_self _
                    case rel => exact ⟨j + 1, (y.set (rd (rd_T25 l2 (i : Int)).f7 (j : Int)).toNat true), by rw [show wrap64 ((j : Int) + 1) = ((j + 1 : Nat) : Int) by have h1_ := HL7.out; have h2_ := HIJ.out; have h3_ := HK7.out; unfold wrap64; omega], ⟨by have h1_ := HX2.out; have h2_ := HIJ.out; omega⟩, ⟨by rw [List.length_set]; exact HY.out⟩, HJ3, BU, BI, BK, HB⟩
                 ·
                  rw [if_neg hu] at H
                  obtain rfl := Option.some.inj H
                  have H := HW.out
                  obtain rfl := Option.some.inj H
                  have H := HV.out
                  obtain rfl := Option.some.inj H
                  clear H
                  have b8 : (o != (rd_T25 l2 (i : Int)).f2) = true := bne_iff_ne.mpr hu
                  clear hu
                  have HM : ∀ W, Below wr.heap.size wr W → (W.cell? ⟨gi, 2, none⟩ = some (.int .i64 (rd_T25 l2 (i : Int)).f2)) := fun W hb => (blk_cell (blk_below BI.out hb) 2).trans rfl
                  refine Lib.q_start wr Try.f41 (by kernel_rfl) rfl (by kernel_rfl) (Below.refl _ _) ?_
                  refine Lib.q (.tmp 11) (.tmp 11) (hw := Lib.want_n rfl) (hx := fun _ => rfl) (hy := fun _ => rfl) (h := ?_)
                  refine Lib.q_call (.int .i64 o) #[.int .i64 (rd (rd_T25 l2 (i : Int)).f7 (j : Int))] Try.func103 (hcl := ?_) (h := ?_)
                  ·
                   exact fun _ W hb => Lib.of_drawn (impl_BlockOwner.calls _ o W HO.out)
                  refine Lib.q (.tmp 9) (.tmp 9) (hw := Lib.want_n rfl) (hx := fun _ => rfl) (hy := fun _ => rfl) (h := ?_)
                  refine Lib.q (.tmp 100) (.tmp 100) (hw := Lib.want_n rfl) (hx := fun _ => rfl) (hy := fun _ => rfl) (h := ?_)
                  refine Lib.q (.tmp 99) (.tmp 101) (hw := Lib.want_n rfl) (hx := fun _ => rfl) (hy := fun _ => rfl) (h := ?_)
                  refine Lib.q (.tmp 102) (.tmp 102) (hw := Lib.want_n rfl) (hx := fun _ => rfl) (hy := fun _ => rfl) (h := ?_)
                  refine Lib.q (.tmp 11) (.tmp 11) (hw := Lib.want_f rfl rfl rfl rfl) (hx := fun _ => rfl) (hy := fun _ => rfl) (h := ?_)
                  refine Lib.q (.tmp 7) (.tmp 104) (hw := Lib.want_f rfl rfl rfl rfl) (u1 := undef) (u2 := undef) (hx := fun h_ => absurd h_ (by simp)) (hy := fun h_ => absurd h_ (by simp)) (v := .bool false) (hr := fun h_ => absurd h_ (by first | simp | simp [b8])) (h := ?_)
                  refine Lib.q (.tmp 105) (.tmp 105) (hw := Lib.want_f rfl rfl rfl rfl) (u1 := undef) (u2 := undef) (hx := fun h_ => absurd h_ (by simp)) (hy := fun h_ => absurd h_ (by simp)) (v := .bool false) (hr := fun h_ => absurd h_ (by first | simp | simp [b8])) (h := ?_)
                  refine Lib.q_or (b := true) (z := false) (c2 := !true) (.tmp 103) (.tmp 106) (hx := fun _ => rfl) (hc := Or.inl rfl) (h := ?_)
                  refine Lib.q_done (fun W hb => ?_)
                  go_wp2
                  go_ret
                  exact ⟨rfl, below_step HB.out hb⟩
               ·
                have H := HJ2.out
                rw [List.drop_eq_nil_of_le (by omega)] at H
                obtain rfl := Option.some.inj H
                have HJ3 : Aside0 (impl_IsFS.ino k l3 (l2.drop (i + 1)) y = some V) := ⟨HW.out⟩
                have b4 : decide ((j : Int) < ((rd_T25 l2 (i : Int)).f7.length : Int)) = false := decide_eq_false (by omega)
                have b5 := eq_false (show ¬ (j : Int) < ((rd_T25 l2 (i : Int)).f7.length : Int) by omega)
                clear c H
                go_wp2
                go_roundg k3
                case measure => exact Nat.lt_succ_self _
                case rel => exact ⟨i + 1, y, by rw [show wrap64 ((i : Int) + 1) = ((i + 1 : Nat) : Int) by have h1_ := HL.out; have h2_ := HI.out; unfold wrap64; omega], ⟨by have h1_ := HX.out; have h2_ := HI.out; omega⟩, HY, HJ3, BU, BK, HB⟩
           ·
            have H := HJ.out
            rw [List.drop_eq_nil_of_le (by omega)] at H
            obtain rfl := Option.some.inj H
            have H : (impl_IsFS.dat k y 0 l3).bind (fun t => some (t && (rd_T25 l2 0).f0 == 2)) = some r := HV.out
            obtain ⟨tt, htt, H⟩ := Option.bind_eq_some_iff.1 H
            obtain rfl := Option.some.inj H
            have HD0 := Aside0.mk htt
            clear HV HJ htt H
            have b4 : decide ((i : Int) < (l2.length : Int)) = false := decide_eq_false (by omega)
            have b5 := eq_false (show ¬ (i : Int) < (l2.length : Int) by omega)
            clear c
            have z3 : wr.cell? ⟨g0, 3, none⟩ = some (.slice (some ad3) l3.length c3) := (blk_cell BK.out 3).trans rfl
            go_wp2
            go_loopg [133] (l3.length + 1) (fun kq v w' => ∃ i : Nat, v = .int .i64 (i : Int) ∧ Aside0 (i ≤ l3.length ∧ l3.length - i < kq) ∧ Aside0 (impl_IsFS.dat k y i (l3.drop i) = some tt) ∧ Aside0 (w'.heap[g7]? = some (.cells (y.map Value.bool).toArray 115 (0, 0))) ∧ Aside0 (w'.heap[g0]? = some (.cells #[.int .i64 a0, .slice (some ad1) l1.length c1, .slice (some ad2) l2.length c2, .slice (some ad3) l3.length c3] 42 (0, 0))) ∧ Aside0 (Below w.heap.size w w'))
            case atStart => exact ⟨0, rfl, ⟨by omega⟩, HD0, BU, BK, HB⟩
            case round =>
             clear z3 BK HB BU HD0 b4 b5 HX
             obtain ⟨i, rfl, HX, HJ, BU, BK, HB⟩ := hrel
             cases gk with
             | zero => exact absurd HX.out.2 (by omega)
             | succ k5 =>
              by_cases c : i < l3.length
              ·
               have HI := Aside0.mk c
               have H := HJ.out
               rw [Lib.drop_rd ByteArray.empty l3 i c, show l3.getD i ByteArray.empty = (rdOf ByteArray.empty l3 (i : Int)) from rfl] at H
               unfold impl_IsFS.dat at H
               obtain ⟨ad, e0, hx⟩ := Kd.at_string (Kd.C_below HR3.out HB.out) (i : Int) (by omega) (by omega)
               obtain rfl : ad3 = ad := by injection e0
               simp only [Int.toNat_natCast] at hx
               have b4 : decide ((i : Int) < (l3.length : Int)) = true := decide_eq_true (by omega)
               have b5 := eq_true (show (i : Int) < (l3.length : Int) by omega)
               have b6 := eq_true (show 0 ≤ (i : Int) by omega)
               have b7 : ((i : Int) < 56) = True := eq_true (by have := HL.out; omega)
               cases hT : y.getD i false with
               | true =>
                rw [hT, if_pos rfl] at H
                have HJ3 := Aside0.mk H
                have z1 : wr.cell? ⟨g7, i, none⟩ = some (.bool true) := (blk_cell BU.out i).trans ((impl_IsFS.at_ y i (by have := HY.out; have := HL.out; omega)).trans (by rw [hT]))
                clear H hT c
                go_wp2
                go_roundg k5
                case measure => exact Nat.lt_succ_self _
                case rel => exact ⟨i + 1, by rw [show wrap64 ((i : Int) + 1) = ((i + 1 : Nat) : Int) by have h1_ := HL.out; have h2_ := HI.out; unfold wrap64; omega], ⟨by have h1_ := HX.out; have h2_ := HI.out; omega⟩, HJ3, BU, BK, HB⟩
               | false =>
                rw [hT, if_neg (by decide)] at H
                have z1 : wr.cell? ⟨g7, i, none⟩ = some (.bool false) := (blk_cell BU.out i).trans ((impl_IsFS.at_ y i (by have := HY.out; have := HL.out; omega)).trans (by rw [hT]))
                obtain ⟨z, hz_, H⟩ := Option.bind_eq_some_iff.1 H
                have HZ_ := Aside0.mk hz_
                clear hz_ hT c
                cases z with
                | false =>
                 rw [if_neg (by decide)] at H
                 obtain rfl := Option.some.inj H
                 clear H
                 go_wp2_with (first | ((with_reducible refine gate_callee (f := 104) rfl ?_); (try (refine gate_guard (by rfl) ?_; dsimp only)); refine goesL_ (some 144) rfl rfl Try.func104 (by kernel_rfl) rfl #[.string (rdOf ByteArray.empty l3 (i : Int))] rfl (by (try simp only [List.map_toArray, List.map_cons, List.map_nil]); first | done | rfl) ?_; refine (Lib.of_drawn (impl_IsZeroes.calls k (rdOf ByteArray.empty l3 (i : Int)) _ wr HZ_.out)).mono ?_; rintro e w7 ⟨rfl, hb⟩; refine ⟨_, rfl, ?_⟩; replace BK := Aside0.mk (blk_below BK.out hb); replace BU := Aside0.mk (blk_below BU.out hb); replace HB := Aside0.mk (below_step HB.out hb); clear hb))
                 go_ret
                 exact ⟨rfl, HB.out⟩
                | true =>
                 rw [if_pos rfl] at H
                 have HJ3 := Aside0.mk H
                 clear H
                 go_wp2_with (first | ((with_reducible refine gate_callee (f := 104) rfl ?_); (try (refine gate_guard (by rfl) ?_; dsimp only)); refine goesL_ (some 144) rfl rfl Try.func104 (by kernel_rfl) rfl #[.string (rdOf ByteArray.empty l3 (i : Int))] rfl (by (try simp only [List.map_toArray, List.map_cons, List.map_nil]); first | done | rfl) ?_; refine (Lib.of_drawn (impl_IsZeroes.calls k (rdOf ByteArray.empty l3 (i : Int)) _ wr HZ_.out)).mono ?_; rintro e w7 ⟨rfl, hb⟩; refine ⟨_, rfl, ?_⟩; replace BK := Aside0.mk (blk_below BK.out hb); replace BU := Aside0.mk (blk_below BU.out hb); replace HB := Aside0.mk (below_step HB.out hb); clear hb))
                 go_roundg k5
                 case measure => exact Nat.lt_succ_self _
                 case rel => exact ⟨i + 1, by rw [show wrap64 ((i : Int) + 1) = ((i + 1 : Nat) : Int) by have h1_ := HL.out; have h2_ := HI.out; unfold wrap64; omega], ⟨by have h1_ := HX.out; have h2_ := HI.out; omega⟩, HJ3, BU, BK, HB⟩
              ·
               have H := HJ.out
               rw [List.drop_eq_nil_of_le (by omega)] at H
               obtain rfl := Option.some.inj H
               have b4 : decide ((i : Int) < (l3.length : Int)) = false := decide_eq_false (by omega)
               have b5 := eq_false (show ¬ (i : Int) < (l3.length : Int) by omega)
               clear c H
               have z2 : wr.cell? ⟨g0, 2, none⟩ = some (.slice (some ad2) l2.length c2) := (blk_cell BK.out 2).trans rfl
               obtain ⟨ad, A7, c7, A8, c8, A9, c9, e0, hx0, _⟩ := at_T25 (Kd.C_below HR2.out HB.out) 0 (by decide) (by have := HL.out; omega)
               obtain rfl : ad2 = ad := by injection e0
               have b6 : ((0 : Int) < (l2.length : Int)) = True := eq_true (by have := HL.out; omega)
               have b7 : (0 < l2.length) = True := eq_true (by have := HL.out; omega)
               have z9 : wr.cell? ad2 = some (.int .i64 (rd_T25 l2 0).f0) := by first | exact hx0 | (have h_ := hx0; simpa using h_)
               go_wp2
               go_ret
               exact ⟨rfl, HB.out⟩

/-! ### impl_UsedBlocks: function 38 -/
def impl_UsedBlocks.l0 : Nat → List Int → List Int → Int → Int → Option (List Int)
 | 0, _, _, _, _ => none
 | k + 1, x3, x8, x9, x10 => if x10 < x9 then (if 0 ≤ x10 then (if x10 < (x8.length : Int) then (if (rd x8 x10) = (-1) then (impl_UsedBlocks.l0 k x3 x8 x9 (wrap64 (x10 + 1))) else (if x3.length < 17592186044416 then (impl_UsedBlocks.l0 k (x3 ++ [rd x8 x10]) x8 x9 (wrap64 (x10 + 1))) else (none))) else (none)) else (none)) else (some x3)
def impl_UsedBlocks.f (k : Nat) (a0_0 : Int) (a0_1 : Int) (a0_2 : Int) (a0_3 : Int) (a0_4 : Int) (a0_5 : Int) (a0_6 : Int) (l0_7 : List Int) (l0_8 : List (S107)) (l0_9 : List (S107)) : Option (List Int) := impl_UsedBlocks.l0 k (([] : List Int)) l0_7 (l0_7.length : Int) 0
theorem impl_UsedBlocks.mono_l : ∀ k, (∀ y0 y1 y2 y3, LeO (impl_UsedBlocks.l0 k y0 y1 y2 y3) (impl_UsedBlocks.l0 (k + 1) y0 y1 y2 y3))
 | 0 => fun _ _ _ _ r h => by simp [impl_UsedBlocks.l0] at h
 | k + 1 => by
  have ih0 := impl_UsedBlocks.mono_l k
  ·
   intro y0 y1 y2 y3
   unfold impl_UsedBlocks.l0
   repeat' first
   | (with_reducible exact ih0 _ _ _ _)
   | (with_reducible exact LeO.refl _)
   | (with_reducible exact LeO.none _)
   | (with_reducible refine LeO.ite ?_ ?_)
   | (with_reducible refine LeO.bind ?_ (fun _ => ?_))
   | exact ih0 _ _ _ _
   | exact LeO.none _
   | refine LeO.ite ?_ ?_
   | refine LeO.bind ?_ (fun _ => ?_)
theorem impl_UsedBlocks.mono : ∀ a0 a1 a2 a3 a4 a5 a6 a7 a8 a9 k, LeO (impl_UsedBlocks.f k a0 a1 a2 a3 a4 a5 a6 a7 a8 a9) (impl_UsedBlocks.f (k + 1) a0 a1 a2 a3 a4 a5 a6 a7 a8 a9) := by
 intro a0 a1 a2 a3 a4 a5 a6 a7 a8 a9 k
 have ih0 := impl_UsedBlocks.mono_l k
 unfold impl_UsedBlocks.f
 repeat' first
  | (with_reducible exact ih0 _ _ _ _)
  | (with_reducible exact LeO.refl _)
  | (with_reducible exact LeO.none _)
  | (with_reducible refine LeO.ite ?_ ?_)
  | (with_reducible refine LeO.bind ?_ (fun _ => ?_))
  | exact ih0 _ _ _ _
  | exact LeO.none _
  | refine LeO.ite ?_ ?_
  | refine LeO.bind ?_ (fun _ => ?_)
set_option maxHeartbeats 8000000 in
set_option maxRecDepth 100000 in
theorem impl_UsedBlocks.calls (k : Nat) (a0_0 : Int) (a0_1 : Int) (a0_2 : Int) (a0_3 : Int) (a0_4 : Int) (a0_5 : Int) (a0_6 : Int) (A0_7 : Option Addr) (c0_7 : Nat) (l0_7 : List Int) (A0_8 : Option Addr) (c0_8 : Nat) (l0_8 : List (S107)) (A0_9 : Option Addr) (c0_9 : Nat) (l0_9 : List (S107)) (r : List Int) (w : World) (hr0_7 : Kd.C (Kd.int .i64) w A0_7 l0_7.length l0_7) (hc0_7 : l0_7.length ≤ c0_7) (hr0_8 : Kd.C k107 w A0_8 l0_8.length l0_8) (hc0_8 : l0_8.length ≤ c0_8) (hr0_9 : Kd.C k107 w A0_9 l0_9.length l0_9) (hc0_9 : l0_9.length ≤ c0_9) (h : impl_UsedBlocks.f k a0_0 a0_1 a0_2 a0_3 a0_4 a0_5 a0_6 l0_7 l0_8 l0_9 = some r) :
 Calls Try.prog 38 #[.agg #[.int .i64 a0_0, .int .i64 a0_1, .int .i64 a0_2, .int .i64 a0_3, .int .i64 a0_4, .int .i64 a0_5, .int .i64 a0_6, .slice A0_7 l0_7.length c0_7, .slice A0_8 l0_8.length c0_8, .slice A0_9 l0_9.length c0_9]] w fun e w' => ∃ v0_ : Value, e = .returned (v0_) ∧ Kd.R (Kd.int .i64) 3 w' w.heap.size (fun _ => True) v0_ r ∧ Below w.heap.size w w' := by
 have hu25 := Try.underlying25
 have HR0_7 := Aside0.mk hr0_7
 have HC0_7 := Aside0.mk hc0_7
 clear hr0_7 hc0_7
 have HR0_8 := Aside0.mk hr0_8
 have HC0_8 := Aside0.mk hc0_8
 clear hr0_8 hc0_8
 have HR0_9 := Aside0.mk hr0_9
 have HC0_9 := Aside0.mk hc0_9
 clear hr0_9 hc0_9
 have HB := Aside0.mk (Below.refl w.heap.size w)
 have H : (impl_UsedBlocks.l0 k (([] : List Int)) l0_7 (l0_7.length : Int) 0) = some r := h
 clear h
 obtain ⟨y254, hy254⟩ : ∃ y_ : List Int, y_ = (([] : List Int)) := ⟨_, rfl⟩
 replace H : (impl_UsedBlocks.l0 k y254 l0_7 (l0_7.length : Int) 0) = some r := by first | (rw [hy254]; with_reducible exact H) | (have H2_ := (Option.bind_some _ _).symm.trans H; rw [hy254]; with_reducible exact H2_) | (have H2_ := (Option.bind_some _ _).symm.trans H; with_reducible exact H2_) | with_reducible exact H | (rw [hy254]; exact H) | exact H
 have Ny254 := Aside0.mk hy254
 clear hy254
 have H' := Aside0.mk H
 clear H
 go_enter Try.func38, Try.ntmps38
 go_wp2_with (first | ((with_reducible refine gate_dst (N := 1) rfl ?_); refine box_event ?hg (N := 1) ?hd (cs := #[.int .i64 a0_0, .int .i64 a0_1, .int .i64 a0_2, .int .i64 a0_3, .int .i64 a0_4, .int .i64 a0_5, .int .i64 a0_6, .slice A0_7 l0_7.length c0_7, .slice A0_8 l0_8.length c0_8, .slice A0_9 l0_9.length c0_9]) (t := 25) ?hr ?_; (case hd => rfl); (case hg => rfl); (case hr => first | (go_simp; done) | (go_simp; rfl)); intro gb253 hg w2 hbox hb; have n0_ := Aside0.mk (below_step (by exact Lib.bw HB.out) hb); have n1_ := Aside0.mk (hbox); have n2_ := Aside0.mk ((by rw [hg]; exact (below_size (by exact Lib.bw HB.out)) : w.heap.size ≤ gb253)); have n3_ := Aside0.mk ((by rw [hg]; exact (below_size (by exact Lib.bw HB.out)) : w.heap.size ≤ gb253)); clear HB; have HB := n0_; have BK253 := n1_; have GW253 := n2_; have GE253 := n3_; clear n0_ n1_ n2_ n3_; clear hb hbox hg) | ((with_reducible refine gate_dst (N := 6) rfl ?_); refine Kd.R_lit (Kd.int .i64) _ 3 ?hg (N := 6) ?hd (xs := ([] : List Int)) (inner := []) (ok := fun _ => True) (okp := fun _ => True) ?hr ?hp (fun _ hk => hk) trivial (Below.refl _ _) (Nat.le_refl _) (by simp) ?_; (case hd => rfl); (case hg => rfl); (case hr => first | (go_simp; done) | (go_simp; rfl)); (case hp => exact (Reps.none _ _)); intro v255 w3 ho4 hb hg_ hnew_; clear hg_ hnew_; (first | rw [← Ny254.out] at ho4 | (simp only [Int.reduceToNat] at ho4; rw [← Ny254.out] at ho4)); have n0_ := Aside0.mk (Kd.R_lower ho4 (below_size (by exact Lib.bs HB.out GE253.out))); have n1_ := Aside0.mk (blk_below (g := gb253) (o := .cells #[.int .i64 a0_0, .int .i64 a0_1, .int .i64 a0_2, .int .i64 a0_3, .int .i64 a0_4, .int .i64 a0_5, .int .i64 a0_6, .slice A0_7 l0_7.length c0_7, .slice A0_8 l0_8.length c0_8, .slice A0_9 l0_9.length c0_9] 25 (0, 0)) (by exact Lib.bk BK253.out) hb); have n2_ := Aside0.mk (below_step (by exact Lib.bs HB.out GE253.out) hb); clear BK253; clear HB; have HO256 := n0_; have BK253 := n1_; have HB := n2_; clear n0_ n1_ n2_; clear hb ho4; obtain ⟨hcz5_0, hcz5_1, hcz5_2, hcz5_3, hcz5_4, hcz5_5, hcz5_6, hcz5_7, hcz5_8, hcz5_9, hfz5_0, hfz5_1, hfz5_2, hfz5_3, hfz5_4, hfz5_5, hfz5_6, hfz5_7, hfz5_8, hfz5_9⟩ := Lib.cel10 (W := w3) BK253.out))
 go_loopg [3, 10] k (fun kq v3 v10 w' => ∃ (x3_1 : List Int) (x10_1 : Int), v10 = .int .i64 x10_1 ∧ Aside0 (impl_UsedBlocks.l0 kq x3_1 l0_7 (l0_7.length : Int) x10_1 = some r) ∧ Aside0 (kq ≤ k) ∧ Aside0 (Kd.R (Kd.int .i64) 3 w' w.heap.size (fun _ => True) v3 x3_1) ∧ Aside0 (w'.heap[gb253]? = some (.cells #[.int .i64 a0_0, .int .i64 a0_1, .int .i64 a0_2, .int .i64 a0_3, .int .i64 a0_4, .int .i64 a0_5, .int .i64 a0_6, (.slice A0_7 l0_7.length c0_7), (.slice A0_8 l0_8.length c0_8), (.slice A0_9 l0_9.length c0_9)] 25 (0, 0))) ∧ Aside0 (Below w.heap.size w w'))
 case atStart => exact ⟨(y254), (0), (by first | rfl | (simp; done) | (simp [*]; done)), H', ⟨Nat.le_refl _⟩, ⟨by exact Lib.cr HO256.out⟩, ⟨by exact Lib.bk BK253.out⟩, ⟨by exact Lib.bs HB.out GE253.out⟩⟩
 case round =>
  clear H'
  try clear p2
  try clear c3
  try clear hcz5_0
  try clear hcz5_1
  try clear hcz5_2
  try clear hcz5_3
  try clear hcz5_4
  try clear hcz5_5
  try clear hcz5_6
  try clear hcz5_7
  try clear hcz5_8
  try clear hcz5_9
  try clear hfz5_0
  try clear hfz5_1
  try clear hfz5_2
  try clear hfz5_3
  try clear hfz5_4
  try clear hfz5_5
  try clear hfz5_6
  try clear hfz5_7
  try clear hfz5_8
  try clear hfz5_9
  obtain ⟨x3_1, x10_1, rfl, HA, HK1, HO_3, BK253, HB⟩ := hrel
  cases gk with
  | zero => exact absurd HA.out (by simp [impl_UsedBlocks.l0])
  | succ k1 =>
   have H := HA.out
   clear HA
   simp only [impl_UsedBlocks.l0] at H
   by_cases c6 : x10_1 < (l0_7.length : Int)
   ·
    rw [if_pos c6] at H
    have c6b0 : decide (x10_1 < (l0_7.length : Int)) = true := decide_eq_true c6
    clear c6
    by_cases c7 : 0 ≤ x10_1
    ·
     rw [if_pos c7] at H
     have c7b0 : decide (0 ≤ x10_1) = true := decide_eq_true c7
     clear c7
     by_cases c8 : x10_1 < (l0_7.length : Int)
     ·
      rw [if_pos c8] at H
      have c8b0 : decide (x10_1 < (l0_7.length : Int)) = true := decide_eq_true c8
      clear c8
      by_cases c9 : (rd l0_7 x10_1) = (-1)
      ·
       rw [if_pos c9] at H
       have c9b0 : ((rd l0_7 x10_1) == (-1)) = true := beq_iff_eq.mpr c9
       have c9b1 : ((rd l0_7 x10_1) != (-1)) = false := bne_eq_false_iff_eq.mpr c9
       clear c9
       have H' := Aside0.mk H
       clear H
       have p257 : 0 ≤ (x10_1 : Int) := Lib.od
       have q257 : x10_1 < (l0_7.length : Int) := Lib.od
       obtain ⟨ad257, e257, hx257_0⟩ := Kd.at_int HR0_7.out x10_1 p257 q257
       cases e257
       replace hx257_0 := (HB.out.cell (World.block_lt_of_cell? w _ hx257_0)).trans hx257_0
       replace p257 := eq_true p257
       replace q257 := eq_true q257
       go_wp2
       go_roundg k1
       case measure => have := HK1.out; omega
       case rel => exact ⟨(x3_1), (wrap64 (x10_1 + 1)), (by first | rfl | (simp; done) | (simp [*]; done)), H', ⟨by have := HK1.out; omega⟩, ⟨by exact Lib.cr HO_3.out⟩, ⟨by exact Lib.bk BK253.out⟩, ⟨by exact Lib.bs HB.out GE253.out⟩⟩
      ·
       rw [if_neg c9] at H
       have c9b0 : ((rd l0_7 x10_1) == (-1)) = false := beq_eq_false_iff_ne.mpr c9
       have c9b1 : ((rd l0_7 x10_1) != (-1)) = true := bne_iff_ne.mpr c9
       by_cases c10 : x3_1.length < 17592186044416
       ·
        rw [if_pos c10] at H
        have LMc10 := Aside0.mk c10
        clear c10
        obtain ⟨y258, hy258⟩ : ∃ y_ : List Int, y_ = (x3_1 ++ [rd l0_7 x10_1]) := ⟨_, rfl⟩
        replace H : (impl_UsedBlocks.l0 k1 y258 l0_7 (l0_7.length : Int) (wrap64 (x10_1 + 1))) = some r := by first | (rw [hy258]; with_reducible exact H) | (have H2_ := (Option.bind_some _ _).symm.trans H; rw [hy258]; with_reducible exact H2_) | (have H2_ := (Option.bind_some _ _).symm.trans H; with_reducible exact H2_) | with_reducible exact H | (rw [hy258]; exact H) | exact H
        have Ny258 := Aside0.mk hy258
        clear hy258
        have H' := Aside0.mk H
        clear H
        have p257 : 0 ≤ (x10_1 : Int) := Lib.od
        have q257 : x10_1 < (l0_7.length : Int) := Lib.od
        obtain ⟨ad257, e257, hx257_0⟩ := Kd.at_int HR0_7.out x10_1 p257 q257
        cases e257
        replace hx257_0 := (HB.out.cell (World.block_lt_of_cell? w _ hx257_0)).trans hx257_0
        replace p257 := eq_true p257
        replace q257 := eq_true q257
        go_wp2_with (first | ((with_reducible refine gate_builtin (b := .append) (xs := #[.tmp 16, .tmp 18]) rfl ?_); at_builtin; refine Kd.R_append (Kd.int .i64) (w0 := w) w.heap.size rfl (.tmp 16) (.tmp 18) 22 3 (.int .i64 0) 8 rfl Try.underlying22 info3 rfl (by decide) (by omega) u3 x3_1 (rd l0_7 x10_1) [.int .i64 (rd l0_7 x10_1)] (fun _ => True) (fun _ => False) rfl rfl ?aP (fun _ hk => hk.elim) ?aF ?aO ?aB ?aS ?aL ?_; (case aP => exact rfl); (case aB => exact (by exact Lib.bs HB.out GE253.out)); (case aF => exact (fun _ _ => trivial)); (case aO => exact (by exact Lib.cr HO_3.out)); (case aS => exact (below_size (by exact Lib.bs HB.out GE253.out))); (case aL => have := LMc10.out; omega); intro v259 w11 ho hb hg hat; rw [← Ny258.out] at ho; have n0_ := Aside0.mk (blk_grown (g := gb253) (o := .cells #[.int .i64 a0_0, .int .i64 a0_1, .int .i64 a0_2, .int .i64 a0_3, .int .i64 a0_4, .int .i64 a0_5, .int .i64 a0_6, .slice (some ad257) l0_7.length c0_7, .slice A0_8 l0_8.length c0_8, .slice A0_9 l0_9.length c0_9] 25 (0, 0)) (by exact Lib.bk BK253.out) hg (Kd.R_ne HO_3.out BK253.out (by decide))); have n1_ := Aside0.mk (hb); have n2_ := Aside0.mk (ho); clear BK253; clear HB; clear HO_3; have BK253 := n0_; have HB := n1_; have HO260 := n2_; clear n0_ n1_ n2_; clear ho hb hg hat))
        go_roundg k1
        case measure => have := HK1.out; omega
        case rel => exact ⟨(y258), (wrap64 (x10_1 + 1)), (by first | rfl | (simp; done) | (simp [*]; done)), H', ⟨by have := HK1.out; omega⟩, ⟨by exact Lib.cr HO260.out⟩, ⟨by exact Lib.bk BK253.out⟩, ⟨by exact Lib.bs HB.out GE253.out⟩⟩
       ·
        rw [if_neg c10] at H
        exact absurd H (by simp)
     ·
      rw [if_neg c8] at H
      exact absurd H (by simp)
    ·
     rw [if_neg c7] at H
     exact absurd H (by simp)
   ·
    rw [if_neg c6] at H
    have c6b0 : decide (x10_1 < (l0_7.length : Int)) = false := decide_eq_false c6
    clear c6
    obtain rfl := Option.some.inj H
    go_wp2
    go_ret
    exact ⟨_, by first | rfl | (simp [errW_none, errW_some] <;> rfl) | (simp [*, errW_none, errW_some] <;> rfl), by exact Lib.cr HO_3.out, by exact Lib.bs HB.out GE253.out⟩

end Go.Proofs.Ytnfiapcemafmiaa.PFnExactNextBlock
