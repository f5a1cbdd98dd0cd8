-- Written by a program of this session over Lean's own print of the program.
import Derived.Test.YtnfiapcemafmiaaPFnExactNextBlockx0
import Derived.Test.YtnfiapcemafmiaaPFnExactNextBlockx2
import Derived.Test.YtnfiapcemafmiaaPFnExactNextBlockx5
namespace Go.Proofs.Ytnfiapcemafmiaa.PFnExactNextBlock
open Go.RowKit Go.Proofs.YtnfiapcemafmiaaW.PrintWords Go.Proofs.YtnfiapcemafmiaaW.PrintLast Go.Proofs.YtnfiapcemafmiaaW.PrintMore
attribute [local go_sem] max2_int min2_int max_two min_two max_three min_three max_four min_four   -- for this text's walks alone
set_option linter.unusedVariables false
set_option linter.unusedSimpArgs false

/-! ### spec_IsFS: function 40 -/
def spec_IsFS.qOk (q : S112) : Bool := !(!Lib.inB q.f0 0 5 || !Lib.inB q.f1 0 14)
def spec_IsFS.ino (k : Nat) : List (S25) → Option Bool
 | [] => some true
 | x :: l => (spec_IsInode.f k x.f0 x.f1 x.f2 x.f3 x.f4 x.f5 x.f6 x.f7 x.f8 x.f9).bind fun t => if t = true then spec_IsFS.ino k l else some false
def spec_IsFS.dat (k : Nat) (u : List Bool) : Nat → List ByteArray → Option Bool
 | _, [] => some true
 | i, s :: l => if (s.size : Int) = 32 then (if i < u.length then (if u.getD i false = true then spec_IsFS.dat k u (i + 1) l else (spec_IsZeroes.f k s).bind fun z => if z = true then spec_IsFS.dat k u (i + 1) l else some false) else none) else some false
/-- Behind the last byte of each object there are zeroes. -/
def spec_IsFS.tail (k : Nat) (d : List ByteArray) : List (S25) → Option Bool
 | [] => some true
 | x :: l => if x.f7.length ≤ 4611686018427387904 then (if x.f7 = [] then spec_IsFS.tail k d l else if (rd x.f7 (wrap64 ((x.f7.length : Int) - 1))) = -1 then spec_IsFS.tail k d l else if 0 ≤ (rd x.f7 (wrap64 ((x.f7.length : Int) - 1))) ∧ (rd x.f7 (wrap64 ((x.f7.length : Int) - 1))) < (d.length : Int) then (if 0 ≤ (wrap64 (x.f5 - wrap64 ((wrap64 ((x.f7.length : Int) - 1)) * 32))) ∧ (wrap64 (x.f5 - wrap64 ((wrap64 ((x.f7.length : Int) - 1)) * 32))) ≤ ((rdOf ByteArray.empty d (rd x.f7 (wrap64 ((x.f7.length : Int) - 1)))).size : Int) then (spec_IsZeroes.f k ((rdOf ByteArray.empty d (rd x.f7 (wrap64 ((x.f7.length : Int) - 1)))).extract (wrap64 (x.f5 - wrap64 ((wrap64 ((x.f7.length : Int) - 1)) * 32))).toNat (rdOf ByteArray.empty d (rd x.f7 (wrap64 ((x.f7.length : Int) - 1)))).size)).bind fun z => if z = true then spec_IsFS.tail k d l else some false else none) else none) else none
/-- spec.IsFS. -/
def spec_IsFS.f (k : Nat) (a0 : Int) (l1 : List (S112)) (l2 : List (S25)) (l3 : List ByteArray) : Option Bool :=
 if (!Lib.inB a0 0 1000000000 || ((l1.length : Int) != 4) || ((l2.length : Int) != 20) || ((l3.length : Int) != 56)) = true then some false else if l1.all spec_IsFS.qOk = true then (spec_IsFS.ino k l2).bind fun t => if t = true then (if (rd_T25 l2 0).f0 = 2 then (spec_l08Used.f k a0 l1 l2 l3).bind fun u => if u.2 = true then (spec_IsFS.dat k u.1 0 l3).bind fun t => if t = true then spec_IsFS.tail k l3 l2 else some false else some false else some false) else some false else some false
theorem spec_IsFS.ino_mono (k : Nat) : ∀ (l : List (S25)), LeO (spec_IsFS.ino k l) (spec_IsFS.ino (k + 1) l)
 | [] => LeO.refl _
 | x :: l => by
  unfold spec_IsFS.ino
  exact LeO.bind (spec_IsInode.mono _ _ _ _ _ _ _ _ _ _ _) fun _ => LeO.ite (spec_IsFS.ino_mono k l) (LeO.refl _)
theorem spec_IsFS.dat_mono (u : List Bool) (k : Nat) : ∀ (l : List ByteArray) (i : Nat), LeO (spec_IsFS.dat k u i l) (spec_IsFS.dat (k + 1) u i l)
 | [], _ => LeO.refl _
 | x :: l, i => by
  unfold spec_IsFS.dat
  exact LeO.ite (LeO.ite (LeO.ite (spec_IsFS.dat_mono u k l _) (LeO.bind (spec_IsZeroes.mono _ _) fun _ => LeO.ite (spec_IsFS.dat_mono u k l _) (LeO.refl _))) (LeO.refl _)) (LeO.refl _)
theorem spec_IsFS.tail_mono (d : List ByteArray) (k : Nat) : ∀ (l : List (S25)), LeO (spec_IsFS.tail k d l) (spec_IsFS.tail (k + 1) d l)
 | [] => LeO.refl _
 | x :: l => by
  unfold spec_IsFS.tail
  exact LeO.ite (LeO.ite (spec_IsFS.tail_mono d k l) (LeO.ite (spec_IsFS.tail_mono d k l) (LeO.ite (LeO.ite (LeO.bind (spec_IsZeroes.mono _ _) fun _ => LeO.ite (spec_IsFS.tail_mono d k l) (LeO.refl _)) (LeO.refl _)) (LeO.refl _)))) (LeO.refl _)
theorem spec_IsFS.mono : ∀ a0 a1 a2 a3 k, LeO (spec_IsFS.f k a0 a1 a2 a3) (spec_IsFS.f (k + 1) a0 a1 a2 a3) := by
 intro a0 a1 a2 a3 k
 unfold spec_IsFS.f
 exact LeO.ite (LeO.refl _) (LeO.ite (LeO.bind (spec_IsFS.ino_mono _ _) fun _ => LeO.ite (LeO.ite (LeO.bind (spec_l08Used.mono _ _ _ _ _) fun _ => LeO.ite (LeO.bind (spec_IsFS.dat_mono _ _ _ _) fun _ => LeO.ite (spec_IsFS.tail_mono _ _ _) (LeO.refl _)) (LeO.refl _)) (LeO.refl _)) (LeO.refl _)) (LeO.refl _))
/-- An operation that is not asked for. -/
theorem spec_IsFS.q_skip {P : Program} {f : Func} {id : Nat} {w0 : World} {Q : Act → Prop} {l : List Oper} {a a' : Act} {o : Oper} {g : Option Tmp} (hw : Region.wanted o (yielded (opsOf f id) a.tmps) = false) (hd : o.dst = g := by rfl) (ha : a.put g undef = a' := by simp only [Lib.pw, Lib.px, Lib.py]; rfl) (h : Lib.Wq P f id w0 Q l a') : Lib.Wq P f id w0 Q (o :: l) a := by
 subst hd
 exact Lib.q_raw (v := undef) hw (fun h => absurd h (by decide)) ha h
set_option maxHeartbeats 8000000 in
set_option maxRecDepth 100000 in
theorem spec_IsFS.calls (k : Nat) (a0 : Int) (A1 : Option Addr) (c1 : Nat) (l1 : List (S112)) (A2 : Option Addr) (c2 : Nat) (l2 : List (S25)) (A3 : Option Addr) (c3 : Nat) (l3 : List ByteArray) (r : Bool) (w : World) (hr1 : Kd.C k112 w A1 l1.length l1) (hc1 : l1.length ≤ c1) (hr2 : Kd.C k25 w A2 l2.length l2) (hc2 : l2.length ≤ c2) (hr3 : Kd.C Kd.string w A3 l3.length l3) (hc3 : l3.length ≤ c3) (h : spec_IsFS.f k a0 l1 l2 l3 = some r) :
 Calls Try.prog 40 #[.agg #[.int .i64 a0, .slice A1 l1.length c1, .slice A2 l2.length c2, .slice A3 l3.length c3]] w fun e w' => e = .returned (.bool r) ∧ Below w.heap.size w w' := by
 have hu42 := Try.underlying42
 have hu25 := Try.underlying25
 have hu112 := Try.underlying112
 have hvt := @Lib.vif_true
 have HR1 := Aside0.mk hr1
 have HC1 := Aside0.mk hc1
 clear hr1 hc1
 have HR2 := Aside0.mk hr2
 have HC2 := Aside0.mk hc2
 clear hr2 hc2
 have HR3 := Aside0.mk hr3
 have HC3 := Aside0.mk hc3
 clear hr3 hc3
 have HH := Aside0.mk h
 clear h
 go_enter Try.func40, Try.ntmps40
 go_upto_region 1 with (first | ((with_reducible refine gate_dst (N := 1) rfl ?_); refine box_event rfl (N := 1) rfl (cs := #[.int .i64 a0, .slice A1 l1.length c1, .slice A2 l2.length c2, .slice A3 l3.length c3]) (t := 42) (by first | (go_simp; done) | (go_simp; rfl)) ?_; intro g0 hg w1 hbox hb; have BK := Aside0.mk hbox; have HB := Aside0.mk hb; have G0 : Aside0 (w.heap.size ≤ g0) := ⟨by rw [hg]; exact Nat.le_refl _⟩; clear hg hbox hb))
 (try simp only [Act.put, List.setIfInBounds_toArray, List.set_cons_zero, List.set_cons_succ])
 go_cut [35] (fun v wc => v = .bool (!Lib.inB a0 0 1000000000 || ((l1.length : Int) != 4) || ((l2.length : Int) != 20) || ((l3.length : Int) != 56)) ∧ Aside0 (wc.heap[g0]? = some (.cells #[.int .i64 a0, .slice A1 l1.length c1, .slice A2 l2.length c2, .slice A3 l3.length c3] 42 (0, 0))) ∧ Aside0 (Below w.heap.size w wc))
 case first =>
  have HM : ∀ W, Below w1.heap.size w1 W → (W.cell? ⟨g0, 0, none⟩ = some (.int .i64 a0) ∧ W.cell? ⟨g0, 1, none⟩ = some (.slice A1 l1.length c1) ∧ W.cell? ⟨g0, 2, none⟩ = some (.slice A2 l2.length c2) ∧ W.cell? ⟨g0, 3, none⟩ = some (.slice A3 l3.length c3)) := fun W hb => ⟨(blk_cell (blk_below BK.out hb) 0).trans rfl, (blk_cell (blk_below BK.out hb) 1).trans rfl, (blk_cell (blk_below BK.out hb) 2).trans rfl, (blk_cell (blk_below BK.out hb) 3).trans rfl⟩
  refine Lib.q_plain w1 Try.f40 rfl (Below.refl _ _) ?_
  refine Lib.q (.tmp 1) (.tmp 1) (hw := Lib.want_n rfl) (hx := fun _ => rfl) (hy := fun _ => rfl) (h := ?_)
  refine Lib.q (.tmp 14) (.tmp 14) (hw := Lib.want_n rfl) (hx := fun _ => rfl) (hy := fun _ => rfl) (h := ?_)
  refine Lib.q_call (.bool (Lib.inB a0 0 1000000000)) #[.int .i64 a0, .int .i64 0, .int .i64 1000000000] Try.func99 (hw := Lib.want_n rfl) (hargs := by intro hc; simp only [List.map_toArray, List.map_cons, List.map_nil]; exact Lib.args3 rfl rfl rfl) (hcl := ?_) (h := ?_)
  ·
   exact fun _ W hb => Lib.of_drawn (spec_l01In.calls _ _ _ _ W (by unfold spec_l01In.f Lib.inB; split <;> rfl))
  refine Lib.q (.tmp 16) (.tmp 16) (hw := Lib.want_n rfl) (hx := fun _ => rfl) (hy := fun _ => rfl) (h := ?_)
  refine Lib.q (.tmp 17) (.tmp 17) (hw := Lib.want_n rfl) (hx := fun _ => rfl) (hy := fun _ => rfl) (h := ?_)
  refine Lib.q (.tmp 1) (.tmp 1) (hw := Lib.want_f rfl rfl rfl rfl) (hx := fun _ => rfl) (hy := fun _ => rfl) (h := ?_)
  refine Lib.q (.tmp 19) (.tmp 19) (hw := Lib.want_f rfl rfl rfl rfl) (hx := fun h => Lib.vif_on h) (hy := fun h => Lib.vif_on h) (h := ?_)
  refine Lib.q (.tmp 20) (.tmp 20) (hw := Lib.want_f rfl rfl rfl rfl) (hx := fun h => Lib.vif_on h) (hy := fun h => Lib.vif_on h) (h := ?_)
  refine Lib.q (.tmp 21) (.tmp 21) (hw := Lib.want_f rfl rfl rfl rfl) (hx := fun h => Lib.vif_on h) (hy := fun h => Lib.vif_on h) (h := ?_)
  refine Lib.q_or (.tmp 18) (.tmp 22) (h := ?_)
  refine Lib.q (.tmp 23) (.tmp 23) (hw := Lib.want_n rfl) (hx := fun _ => rfl) (hy := fun _ => rfl) (h := ?_)
  refine Lib.q (.tmp 1) (.tmp 1) (hw := Lib.want_f rfl rfl rfl rfl) (hx := fun _ => rfl) (hy := fun _ => rfl) (h := ?_)
  refine Lib.q (.tmp 25) (.tmp 25) (hw := Lib.want_f rfl rfl rfl rfl) (hx := fun h => Lib.vif_on h) (hy := fun h => Lib.vif_on h) (h := ?_)
  refine Lib.q (.tmp 26) (.tmp 26) (hw := Lib.want_f rfl rfl rfl rfl) (hx := fun h => Lib.vif_on h) (hy := fun h => Lib.vif_on h) (h := ?_)
  refine Lib.q (.tmp 27) (.tmp 27) (hw := Lib.want_f rfl rfl rfl rfl) (hx := fun h => Lib.vif_on h) (hy := fun h => Lib.vif_on h) (h := ?_)
  refine Lib.q_or (.tmp 24) (.tmp 28) (h := ?_)
  refine Lib.q (.tmp 29) (.tmp 29) (hw := Lib.want_n rfl) (hx := fun _ => rfl) (hy := fun _ => rfl) (h := ?_)
  refine Lib.q (.tmp 1) (.tmp 1) (hw := Lib.want_f rfl rfl rfl rfl) (hx := fun _ => rfl) (hy := fun _ => rfl) (h := ?_)
  refine Lib.q (.tmp 31) (.tmp 31) (hw := Lib.want_f rfl rfl rfl rfl) (hx := fun h => Lib.vif_on h) (hy := fun h => Lib.vif_on h) (h := ?_)
  refine Lib.q (.tmp 32) (.tmp 32) (hw := Lib.want_f rfl rfl rfl rfl) (hx := fun h => Lib.vif_on h) (hy := fun h => Lib.vif_on h) (h := ?_)
  refine Lib.q (.tmp 33) (.tmp 33) (hw := Lib.want_f rfl rfl rfl rfl) (hx := fun h => Lib.vif_on h) (hy := fun h => Lib.vif_on h) (h := ?_)
  refine Lib.q_or (.tmp 30) (.tmp 34) (h := ?_)
  refine Lib.q_done (fun W hb => ?_)
  try go_wp2
  go_meet
  case rel => exact ⟨rfl, ⟨blk_below BK.out hb⟩, ⟨below_step HB.out hb⟩⟩
 case rest =>
  clear BK HB
  obtain ⟨rfl, BK, HB⟩ := hcut
  have H := HH.out
  unfold spec_IsFS.f at H
  cases hD : (!Lib.inB a0 0 1000000000 || ((l1.length : Int) != 4) || ((l2.length : Int) != 20) || ((l3.length : Int) != 56)) with
  | true =>
   rw [hD, if_pos rfl] at H
   obtain rfl := Option.some.inj H
   go_wp2
   go_ret
   exact ⟨rfl, HB.out⟩
  | false =>
   rw [hD, if_neg (by decide)] at H
   have HL : Aside0 (l1.length = 4 ∧ l2.length = 20 ∧ l3.length = 56) := ⟨by simp only [Bool.or_eq_false_iff, bne_eq_false_iff_eq] at hD; omega⟩
   clear hD HH
   have HH := Aside0.mk H
   clear H
   obtain ⟨ad1, e1, _⟩ := at_T112 HR1.out 0 (by decide) (by have := HL.out; omega)
   obtain ⟨ad2, _, _, _, _, _, _, e2, _⟩ := at_T25 HR2.out 0 (by decide) (by have := HL.out; omega)
   obtain ⟨ad3, e3, _⟩ := Kd.at_string HR3.out 0 (by decide) (by have := HL.out; omega)
   cases e1
   cases e2
   cases e3
   have z1 : wc.cell? ⟨g0, 1, none⟩ = some (.slice (some ad1) l1.length c1) := (blk_cell BK.out 1).trans rfl
   go_wp2
   go_loopg [39] (l1.length + 1) (fun kq v w' => ∃ i : Nat, v = .int .i64 (i : Int) ∧ Aside0 (i ≤ l1.length ∧ l1.length - i < kq) ∧ Aside0 ((l1.drop i).all spec_IsFS.qOk = l1.all spec_IsFS.qOk) ∧ Aside0 (w'.heap[g0]? = some (.cells #[.int .i64 a0, .slice (some ad1) l1.length c1, .slice (some ad2) l2.length c2, .slice (some ad3) l3.length c3] 42 (0, 0))) ∧ Aside0 (Below w.heap.size w w'))
   case atStart => exact ⟨0, rfl, ⟨by omega⟩, ⟨rfl⟩, BK, HB⟩
   case round =>
    clear z1 BK HB
    obtain ⟨i, rfl, HX, HJ, BK, HB⟩ := hrel
    cases gk with
    | zero => exact absurd HX.out.2 (by omega)
    | succ k1 =>
     by_cases c : i < l1.length
     ·
      have HI := Aside0.mk c
      have HD : Aside0 ((l1.drop i).all spec_IsFS.qOk = (spec_IsFS.qOk (rd_T112 l1 (i : Int)) && (l1.drop (i + 1)).all spec_IsFS.qOk)) := ⟨by rw [Lib.drop_rd z112 l1 i c]; rfl⟩
      obtain ⟨ad, e0, hx0, hx1⟩ := at_T112 (Kd.C_below HR1.out HB.out) (i : Int) (by omega) (by omega)
      obtain rfl : ad1 = ad := by injection e0
      simp only [Int.toNat_natCast] at hx0 hx1
      have b4 : decide ((i : Int) < (l1.length : Int)) = true := decide_eq_true (by omega)
      have b5 := eq_true (show (i : Int) < (l1.length : Int) by omega)
      have b6 := eq_true (show 0 ≤ (i : Int) by omega)
      go_upto_region 6 with (fail)
      obtain ⟨w3, hw_⟩ : ∃ W, W = wr.alloc (.cells #[.int .i64 (rd_T112 l1 (i : Int)).f0, .int .i64 (rd_T112 l1 (i : Int)).f1] 112 (0, 0)) := ⟨_, rfl⟩
      rw [← hw_]
      have BN : Aside0 (w3.heap[wr.heap.size]? = some (.cells #[.int .i64 (rd_T112 l1 (i : Int)).f0, .int .i64 (rd_T112 l1 (i : Int)).f1] 112 (0, 0))) := ⟨by rw [hw_]; exact blk_new _ _⟩
      replace BK : Aside0 (w3.heap[g0]? = some (.cells #[.int .i64 a0, .slice (some ad1) l1.length c1, .slice (some ad2) l2.length c2, .slice (some ad3) l3.length c3] 42 (0, 0))) := ⟨by rw [hw_]; exact blk_alloc BK.out _⟩
      replace HB : Aside0 (Below w.heap.size w w3) := ⟨by rw [hw_]; exact below_alloc HB.out _⟩
      clear hw_
      go_cut [52] (fun v wc => v = .bool (!Lib.inB (rd_T112 l1 (i : Int)).f0 0 5 || !Lib.inB (rd_T112 l1 (i : Int)).f1 0 14) ∧ Aside0 (wc.heap[g0]? = some (.cells #[.int .i64 a0, .slice (some ad1) l1.length c1, .slice (some ad2) l2.length c2, .slice (some ad3) l3.length c3] 42 (0, 0))) ∧ Aside0 (Below w.heap.size w wc))
      case first =>
       have HM : ∀ W, Below w3.heap.size w3 W → (W.cell? ⟨wr.heap.size, 0, none⟩ = some (.int .i64 (rd_T112 l1 (i : Int)).f0) ∧ W.cell? ⟨wr.heap.size, 1, none⟩ = some (.int .i64 (rd_T112 l1 (i : Int)).f1)) := fun W hb => ⟨(blk_cell (blk_below BN.out hb) 0).trans rfl, (blk_cell (blk_below BN.out hb) 1).trans rfl⟩
       refine Lib.q_plain w3 Try.f40 rfl (Below.refl _ _) ?_
       refine Lib.q (.tmp 4) (.tmp 4) (hw := Lib.want_n rfl) (hx := fun _ => rfl) (hy := fun _ => rfl) (h := ?_)
       refine Lib.q (.tmp 43) (.tmp 43) (hw := Lib.want_n rfl) (hx := fun _ => rfl) (hy := fun _ => rfl) (h := ?_)
       refine Lib.q_call (.bool (Lib.inB (rd_T112 l1 (i : Int)).f0 0 5)) #[.int .i64 (rd_T112 l1 (i : Int)).f0, .int .i64 0, .int .i64 5] Try.func99 (hw := Lib.want_n rfl) (hargs := by intro hc; simp only [List.map_toArray, List.map_cons, List.map_nil]; exact Lib.args3 rfl rfl rfl) (hcl := ?_) (h := ?_)
       ·
        exact fun _ W hb => Lib.of_drawn (spec_l01In.calls _ _ _ _ W (by unfold spec_l01In.f Lib.inB; split <;> rfl))
       refine Lib.q (.tmp 45) (.tmp 45) (hw := Lib.want_n rfl) (hx := fun _ => rfl) (hy := fun _ => rfl) (h := ?_)
       refine Lib.q (.tmp 46) (.tmp 46) (hw := Lib.want_n rfl) (hx := fun _ => rfl) (hy := fun _ => rfl) (h := ?_)
       refine Lib.q (.tmp 4) (.tmp 4) (hw := Lib.want_f rfl rfl rfl rfl) (hx := fun _ => rfl) (hy := fun _ => rfl) (h := ?_)
       refine Lib.q (.tmp 48) (.tmp 48) (hw := Lib.want_f rfl rfl rfl rfl) (hx := fun h => Lib.vif_on h) (hy := fun h => Lib.vif_on h) (h := ?_)
       refine Lib.q_call (.bool (Lib.inB (rd_T112 l1 (i : Int)).f1 0 14)) #[.int .i64 (rd_T112 l1 (i : Int)).f1, .int .i64 0, .int .i64 14] Try.func99 (hw := Lib.want_f rfl rfl rfl rfl) (hargs := by intro hc; simp only [List.map_toArray, List.map_cons, List.map_nil]; exact Lib.args3 (Lib.vif_on hc) rfl rfl) (hcl := ?_) (h := ?_)
       ·
        exact fun _ W hb => Lib.of_drawn (spec_l01In.calls _ _ _ _ W (by unfold spec_l01In.f Lib.inB; split <;> rfl))
       refine Lib.q (.tmp 50) (.tmp 50) (hw := Lib.want_f rfl rfl rfl rfl) (hx := fun h => Lib.vif_on h) (hy := fun h => Lib.vif_on h) (h := ?_)
       refine Lib.q_or (.tmp 47) (.tmp 51) (h := ?_)
       refine Lib.q_done (fun W hb => ?_)
       try go_wp2
       go_meet
       case rel => exact ⟨rfl, ⟨blk_below BK.out hb⟩, ⟨below_step HB.out hb⟩⟩
      case rest =>
       clear BK HB BN
       obtain ⟨rfl, BK, HB⟩ := hcut
       cases hv : (!Lib.inB (rd_T112 l1 (i : Int)).f0 0 5 || !Lib.inB (rd_T112 l1 (i : Int)).f1 0 14) with
       | true =>
        have H := HH.out
        rw [← HJ.out, HD.out, show spec_IsFS.qOk (rd_T112 l1 (i : Int)) = false by unfold spec_IsFS.qOk; rw [hv]; rfl, Bool.false_and, if_neg (by decide)] at H
        obtain rfl := Option.some.inj H
        clear hv H
        go_wp2
        go_ret
        exact ⟨rfl, HB.out⟩
       | false =>
        have HF : Aside0 ((l1.drop (i + 1)).all spec_IsFS.qOk = l1.all spec_IsFS.qOk) := ⟨by rw [← HJ.out, HD.out, show spec_IsFS.qOk (rd_T112 l1 (i : Int)) = true by unfold spec_IsFS.qOk; rw [hv]; rfl, Bool.true_and]⟩
        clear hv
        go_wp2
        go_roundg k1
        case measure => exact Nat.lt_succ_self _
        case rel => exact ⟨i + 1, by rw [show wrap64 ((i : Int) + 1) = ((i + 1 : Nat) : Int) by have h1_ := HL.out; have h2_ := HI.out; unfold wrap64; omega], ⟨by have h1_ := HX.out; have h2_ := HI.out; omega⟩, HF, BK, HB⟩
     ·
      have hF : l1.all spec_IsFS.qOk = true := by rw [← HJ.out, List.drop_eq_nil_of_le (by omega)]; rfl
      have H := HH.out
      rw [if_pos hF] at H
      obtain ⟨tI, hti, H⟩ := Option.bind_eq_some_iff.1 H
      have HI0 := Aside0.mk hti
      have HRR := Aside0.mk H
      clear HH HJ hF hti H
      have b4 : decide ((i : Int) < (l1.length : Int)) = false := decide_eq_false (by omega)
      have b5 := eq_false (show ¬ (i : Int) < (l1.length : Int) by omega)
      have z2 : wr.cell? ⟨g0, 2, none⟩ = some (.slice (some ad2) l2.length c2) := (blk_cell BK.out 2).trans rfl
      clear c
      go_wp2
      go_loopg [57] (l2.length + 1) (fun kq v w' => ∃ i : Nat, v = .int .i64 (i : Int) ∧ Aside0 (i ≤ l2.length ∧ l2.length - i < kq) ∧ Aside0 (spec_IsFS.ino k (l2.drop i) = some tI) ∧ Aside0 (w'.heap[g0]? = some (.cells #[.int .i64 a0, .slice (some ad1) l1.length c1, .slice (some ad2) l2.length c2, .slice (some ad3) l3.length c3] 42 (0, 0))) ∧ Aside0 (Below w.heap.size w w'))
      case atStart => exact ⟨0, rfl, ⟨by omega⟩, HI0, BK, HB⟩
      case round =>
       clear z2 BK HB HI0 b4 b5 HX
       obtain ⟨i, rfl, HX, HJ, BK, HB⟩ := hrel
       cases gk with
       | zero => exact absurd HX.out.2 (by omega)
       | succ k3 =>
        by_cases c : i < l2.length
        ·
         have HI := Aside0.mk c
         have H := HJ.out
         rw [Lib.drop_rd z25 l2 i c, show l2.getD i z25 = (rd_T25 l2 (i : Int)) from rfl] at H
         unfold spec_IsFS.ino at H
         obtain ⟨t, ht, H⟩ := Option.bind_eq_some_iff.1 H
         have HT := Aside0.mk ht
         clear ht
         obtain ⟨ad, A7, c7, A8, c8, A9, c9, e0, hx0, hx1, hx2, hx3, hx4, hx5, hx6, hx7, hx8, hx9, hl7, hC7, hl8, hC8, hl9, hC9⟩ := at_T25 HR2.out (i : Int) (by omega) (by omega)
         obtain rfl : ad2 = ad := by injection e0
         simp only [Int.toNat_natCast] at hx0 hx1 hx2 hx3 hx4 hx5 hx6 hx7 hx8 hx9
         replace hx0 := pw_cell_below HB.out hx0
         replace hx1 := pw_cell_below HB.out hx1
         replace hx2 := pw_cell_below HB.out hx2
         replace hx3 := pw_cell_below HB.out hx3
         replace hx4 := pw_cell_below HB.out hx4
         replace hx5 := pw_cell_below HB.out hx5
         replace hx6 := pw_cell_below HB.out hx6
         replace hx7 := pw_cell_below HB.out hx7
         replace hx8 := pw_cell_below HB.out hx8
         replace hx9 := pw_cell_below HB.out hx9
         have HL7 := Aside0.mk hl7
         have HC7 := Aside0.mk hC7
         clear hl7 hC7
         have HL8 := Aside0.mk hl8
         have HC8 := Aside0.mk hC8
         clear hl8 hC8
         have HL9 := Aside0.mk hl9
         have HC9 := Aside0.mk hC9
         clear hl9 hC9
         have b4 : decide ((i : Int) < (l2.length : Int)) = true := decide_eq_true (by omega)
         have b5 := eq_true (show (i : Int) < (l2.length : Int) by omega)
         have b6 := eq_true (show 0 ≤ (i : Int) by omega)
         go_upto_region 12 with (fail)
         clear hx0 hx1 hx2 hx3 hx4 hx5 hx6 hx7 hx8 hx9 b4 b5 b6
         have BKo := BK
         obtain ⟨w4, hw_⟩ : ∃ W, W = wr.alloc (.cells #[.int .i64 (rd_T25 l2 (i : Int)).f0, .int .i64 (rd_T25 l2 (i : Int)).f1, .int .i64 (rd_T25 l2 (i : Int)).f2, .int .i64 (rd_T25 l2 (i : Int)).f3, .int .i64 (rd_T25 l2 (i : Int)).f4, .int .i64 (rd_T25 l2 (i : Int)).f5, .int .i64 (rd_T25 l2 (i : Int)).f6, .slice A7 (rd_T25 l2 (i : Int)).f7.length c7, .slice A8 (rd_T25 l2 (i : Int)).f8.length c8, .slice A9 (rd_T25 l2 (i : Int)).f9.length c9] 25 (0, 0)) := ⟨_, rfl⟩
         rw [← hw_]
         have BI : Aside0 (w4.heap[wr.heap.size]? = some (.cells #[.int .i64 (rd_T25 l2 (i : Int)).f0, .int .i64 (rd_T25 l2 (i : Int)).f1, .int .i64 (rd_T25 l2 (i : Int)).f2, .int .i64 (rd_T25 l2 (i : Int)).f3, .int .i64 (rd_T25 l2 (i : Int)).f4, .int .i64 (rd_T25 l2 (i : Int)).f5, .int .i64 (rd_T25 l2 (i : Int)).f6, .slice A7 (rd_T25 l2 (i : Int)).f7.length c7, .slice A8 (rd_T25 l2 (i : Int)).f8.length c8, .slice A9 (rd_T25 l2 (i : Int)).f9.length c9] 25 (0, 0))) := ⟨by rw [hw_]; exact blk_new _ _⟩
         replace BK : Aside0 (w4.heap[g0]? = some (.cells #[.int .i64 a0, .slice (some ad1) l1.length c1, .slice (some ad2) l2.length c2, .slice (some ad3) l3.length c3] 42 (0, 0))) := ⟨by rw [hw_]; exact blk_alloc BK.out _⟩
         replace HB : Aside0 (Below w.heap.size w w4) := ⟨by rw [hw_]; exact below_alloc HB.out _⟩
         clear hw_ BKo
         obtain ⟨p0, p1, p2, p3, p4, p5, p6, p7, p8, p9, q0, q1, q2, q3, q4, q5, q6, q7, q8, q9⟩ := Lib.cel10 BI.out
         cases t with
         | false =>
          rw [if_neg (by decide)] at H
          obtain rfl := Option.some.inj H
          have H := HRR.out
          rw [if_neg (by decide)] at H
          obtain rfl := Option.some.inj H
          clear H
          go_wp2_with (first | ((with_reducible refine gate_callee (f := 100) rfl ?_); refine goesL_ (some 62) rfl rfl Try.func100 (by kernel_rfl) rfl #[.agg #[.int .i64 (rd_T25 l2 (i : Int)).f0, .int .i64 (rd_T25 l2 (i : Int)).f1, .int .i64 (rd_T25 l2 (i : Int)).f2, .int .i64 (rd_T25 l2 (i : Int)).f3, .int .i64 (rd_T25 l2 (i : Int)).f4, .int .i64 (rd_T25 l2 (i : Int)).f5, .int .i64 (rd_T25 l2 (i : Int)).f6, .slice A7 (rd_T25 l2 (i : Int)).f7.length c7, .slice A8 (rd_T25 l2 (i : Int)).f8.length c8, .slice A9 (rd_T25 l2 (i : Int)).f9.length c9]] rfl (by (try simp only [List.map_toArray, List.map_cons, List.map_nil]); first | done | rfl) ?_; refine (spec_IsInode.calls k (rd_T25 l2 (i : Int)).f0 (rd_T25 l2 (i : Int)).f1 (rd_T25 l2 (i : Int)).f2 (rd_T25 l2 (i : Int)).f3 (rd_T25 l2 (i : Int)).f4 (rd_T25 l2 (i : Int)).f5 (rd_T25 l2 (i : Int)).f6 _ _ (rd_T25 l2 (i : Int)).f7 _ _ (rd_T25 l2 (i : Int)).f8 _ _ (rd_T25 l2 (i : Int)).f9 _ w4 (Kd.C_below HC7.out HB.out) HL7.out (Kd.C_below HC8.out HB.out) HL8.out (Kd.C_below HC9.out HB.out) HL9.out HT.out).mono ?_; rintro e w5 ⟨rfl, hb⟩; refine ⟨_, rfl, ?_⟩; replace BK := Aside0.mk (blk_below BK.out hb); replace HB := Aside0.mk (below_step HB.out hb); clear hb BI p0 p1 p2 p3 p4 p5 p6 p7 p8 p9 q0 q1 q2 q3 q4 q5 q6 q7 q8 q9))
          go_ret
          exact ⟨rfl, HB.out⟩
         | true =>
          rw [if_pos rfl] at H
          have HJ3 := Aside0.mk H
          clear H
          go_wp2_with (first | ((with_reducible refine gate_callee (f := 100) rfl ?_); refine goesL_ (some 62) rfl rfl Try.func100 (by kernel_rfl) rfl #[.agg #[.int .i64 (rd_T25 l2 (i : Int)).f0, .int .i64 (rd_T25 l2 (i : Int)).f1, .int .i64 (rd_T25 l2 (i : Int)).f2, .int .i64 (rd_T25 l2 (i : Int)).f3, .int .i64 (rd_T25 l2 (i : Int)).f4, .int .i64 (rd_T25 l2 (i : Int)).f5, .int .i64 (rd_T25 l2 (i : Int)).f6, .slice A7 (rd_T25 l2 (i : Int)).f7.length c7, .slice A8 (rd_T25 l2 (i : Int)).f8.length c8, .slice A9 (rd_T25 l2 (i : Int)).f9.length c9]] rfl (by (try simp only [List.map_toArray, List.map_cons, List.map_nil]); first | done | rfl) ?_; refine (spec_IsInode.calls k (rd_T25 l2 (i : Int)).f0 (rd_T25 l2 (i : Int)).f1 (rd_T25 l2 (i : Int)).f2 (rd_T25 l2 (i : Int)).f3 (rd_T25 l2 (i : Int)).f4 (rd_T25 l2 (i : Int)).f5 (rd_T25 l2 (i : Int)).f6 _ _ (rd_T25 l2 (i : Int)).f7 _ _ (rd_T25 l2 (i : Int)).f8 _ _ (rd_T25 l2 (i : Int)).f9 _ w4 (Kd.C_below HC7.out HB.out) HL7.out (Kd.C_below HC8.out HB.out) HL8.out (Kd.C_below HC9.out HB.out) HL9.out HT.out).mono ?_; rintro e w5 ⟨rfl, hb⟩; refine ⟨_, rfl, ?_⟩; replace BK := Aside0.mk (blk_below BK.out hb); replace HB := Aside0.mk (below_step HB.out hb); clear hb BI p0 p1 p2 p3 p4 p5 p6 p7 p8 p9 q0 q1 q2 q3 q4 q5 q6 q7 q8 q9))
          go_roundg k3
          case measure => exact Nat.lt_succ_self _
          case rel => exact ⟨i + 1, by rw [show wrap64 ((i : Int) + 1) = ((i + 1 : Nat) : Int) by have h1_ := HL.out; have h2_ := HI.out; unfold wrap64; omega], ⟨by have h1_ := HX.out; have h2_ := HI.out; omega⟩, HJ3, BK, HB⟩
        ·
         have H := HJ.out
         rw [List.drop_eq_nil_of_le (by omega)] at H
         obtain rfl := Option.some.inj H
         have H := HRR.out
         rw [if_pos rfl] at H
         have b4 : decide ((i : Int) < (l2.length : Int)) = false := decide_eq_false (by omega)
         have b5 := eq_false (show ¬ (i : Int) < (l2.length : Int) by omega)
         clear c
         obtain ⟨ad, A7, c7, A8, c8, A9, c9, e0, hx0, _⟩ := at_T25 (Kd.C_below HR2.out HB.out) 0 (by decide) (by have := HL.out; omega)
         obtain rfl : ad2 = ad := by injection e0
         have z9 : wr.cell? ad2 = some (.int .i64 (rd_T25 l2 0).f0) := by first | exact hx0 | (have h_ := hx0; simpa using h_)
         have b6 : ((0 : Int) < (l2.length : Int)) = True := eq_true (by have := HL.out; omega)
         have b7 : (0 < l2.length) = True := eq_true (by have := HL.out; omega)
         clear hx0 e0
         have z0 : wr.cell? ⟨g0, 0, none⟩ = some (.int .i64 a0) := (blk_cell BK.out 0).trans rfl
         have z1 : wr.cell? ⟨g0, 1, none⟩ = some (.slice (some ad1) l1.length c1) := (blk_cell BK.out 1).trans rfl
         have z2 : wr.cell? ⟨g0, 2, none⟩ = some (.slice (some ad2) l2.length c2) := (blk_cell BK.out 2).trans rfl
         have z3 : wr.cell? ⟨g0, 3, none⟩ = some (.slice (some ad3) l3.length c3) := (blk_cell BK.out 3).trans rfl
         by_cases h2 : (rd_T25 l2 0).f0 = 2
         rotate_left
         ·
          rw [if_neg h2] at H
          obtain rfl := Option.some.inj H
          have b8 : ((rd_T25 l2 0).f0 != 2) = true := bne_iff_ne.mpr h2
          clear H h2
          go_wp2
          go_ret
          exact ⟨rfl, HB.out⟩
         rw [if_pos h2] at H
         have b8 : ((rd_T25 l2 0).f0 != 2) = false := bne_eq_false_iff_eq.mpr h2
         obtain ⟨u, hu_, H⟩ := Option.bind_eq_some_iff.1 H
         obtain ⟨y, ok_⟩ := u
         dsimp only at H
         have HU := Aside0.mk hu_
         have f0 := blk_frozen BK.out 0
         have f1 := blk_frozen BK.out 1
         have f2 := blk_frozen BK.out 2
         have f3 := blk_frozen BK.out 3
         clear hu_ h2
         cases ok_ with
         | false =>
          rw [if_neg (by decide)] at H
          obtain rfl := Option.some.inj H
          clear H
          go_wp2_with (first | ((with_reducible refine gate_callee (f := 101) rfl ?_); refine goesL_ (some 73) rfl rfl Try.func101 (by kernel_rfl) rfl #[.agg #[.int .i64 a0, .slice (some ad1) l1.length c1, .slice (some ad2) l2.length c2, .slice (some ad3) l3.length c3]] rfl (by (try simp only [List.map_toArray, List.map_cons, List.map_nil]); first | done | rfl) ?_; refine (spec_l08Used.calls k a0 _ _ l1 _ _ l2 _ _ l3 y _ wr (Kd.C_below HR1.out HB.out) HC1.out (Kd.C_below HR2.out HB.out) HC2.out (Kd.C_below HR3.out HB.out) HC3.out HU.out).mono ?_; rintro e w8 ⟨v0, rfl, hR, hb⟩; refine ⟨_, rfl, ?_⟩; have HRU := Aside0.mk (Kd.R_lower hR HB.out.size); replace BK := Aside0.mk (blk_below BK.out hb); replace HB := Aside0.mk (below_step HB.out hb); clear hb hR z0 z1 z2 z3 f0 f1 f2 f3))
          go_ret
          exact ⟨rfl, HB.out⟩
         | true =>
          rw [if_pos rfl] at H
          obtain ⟨tt, htt, H⟩ := Option.bind_eq_some_iff.1 H
          have HD0 := Aside0.mk htt
          have HRR2 := Aside0.mk H
          clear htt H HRR
          have HRR := HRR2
          clear HRR2
          go_upto_region 20 with (first | ((with_reducible refine gate_callee (f := 101) rfl ?_); refine goesL_ (some 73) rfl rfl Try.func101 (by kernel_rfl) rfl #[.agg #[.int .i64 a0, .slice (some ad1) l1.length c1, .slice (some ad2) l2.length c2, .slice (some ad3) l3.length c3]] rfl (by (try simp only [List.map_toArray, List.map_cons, List.map_nil]); first | done | rfl) ?_; refine (spec_l08Used.calls k a0 _ _ l1 _ _ l2 _ _ l3 y _ wr (Kd.C_below HR1.out HB.out) HC1.out (Kd.C_below HR2.out HB.out) HC2.out (Kd.C_below HR3.out HB.out) HC3.out HU.out).mono ?_; rintro e w8 ⟨v0, rfl, hR, hb⟩; refine ⟨_, rfl, ?_⟩; have HRU := Aside0.mk (Kd.R_lower hR HB.out.size); replace BK := Aside0.mk (blk_below BK.out hb); replace HB := Aside0.mk (below_step HB.out hb); clear hb hR z0 z1 z2 z3 f0 f1 f2 f3))
          clear z9 b4 b5 b6 b7 b8 HX HJ
          obtain ⟨A7u, c7u, e7⟩ := Kd.R_slice HRU.out
          subst e7
          have z3 : w8.cell? ⟨g0, 3, none⟩ = some (.slice (some ad3) l3.length c3) := (blk_cell BK.out 3).trans rfl
          go_wp2
          go_loopg [81] (l3.length + 1) (fun kq v w' => ∃ i : Nat, v = .int .i64 (i : Int) ∧ Aside0 (i ≤ l3.length ∧ l3.length - i < kq) ∧ Aside0 (spec_IsFS.dat k y i (l3.drop i) = some tt) ∧ Aside0 (Kd.R Kd.bool 4 w' w.heap.size (fun _ => True) (.slice A7u y.length c7u) y) ∧ Aside0 (w'.heap[g0]? = some (.cells #[.int .i64 a0, .slice (some ad1) l1.length c1, .slice (some ad2) l2.length c2, .slice (some ad3) l3.length c3] 42 (0, 0))) ∧ Aside0 (Below w.heap.size w w'))
          case atStart => exact ⟨0, rfl, ⟨by omega⟩, HD0, HRU, BK, HB⟩
          case round =>
           clear z3 BK HB HRU HD0
           obtain ⟨i, rfl, HX, HJ, HRU, BK, HB⟩ := hrel
           cases gk with
           | zero => exact absurd HX.out.2 (by omega)
           | succ k5 =>
            by_cases c : i < l3.length
            ·
             have HI := Aside0.mk c
             have H := HJ.out
             rw [Lib.drop_rd ByteArray.empty l3 i c, show l3.getD i ByteArray.empty = (rdOf ByteArray.empty l3 (i : Int)) from rfl] at H
             unfold spec_IsFS.dat at H
             obtain ⟨ad, e0, hx⟩ := Kd.at_string (Kd.C_below HR3.out HB.out) (i : Int) (by omega) (by omega)
             obtain rfl : ad3 = ad := by injection e0
             simp only [Int.toNat_natCast] at hx
             have b4 : decide ((i : Int) < (l3.length : Int)) = true := decide_eq_true (by omega)
             have b5 := eq_true (show (i : Int) < (l3.length : Int) by omega)
             have b6 := eq_true (show 0 ≤ (i : Int) by omega)
             by_cases h32 : ((rdOf ByteArray.empty l3 (i : Int)).size : Int) = 32
             rotate_left
             ·
              rw [if_neg h32] at H
              obtain rfl := Option.some.inj H
              have b8 : (((rdOf ByteArray.empty l3 (i : Int)).size : Int) != 32) = true := bne_iff_ne.mpr h32
              have H := HRR.out
              rw [if_neg (by decide)] at H
              obtain rfl := Option.some.inj H
              clear H h32
              go_wp2
              go_ret
              exact ⟨rfl, HB.out⟩
             rw [if_pos h32] at H
             have b8 : (((rdOf ByteArray.empty l3 (i : Int)).size : Int) != 32) = false := bne_eq_false_iff_eq.mpr h32
             by_cases hul : i < y.length
             rotate_left
             ·
              rw [if_neg hul] at H
              cases H
             rw [if_pos hul] at H
             obtain ⟨adu, eu, hxu⟩ := Kd.at_bool (Kd.R_reads' HRU.out).2.2 (i : Int) (by omega) (by omega)
             cases eu
             simp only [Int.toNat_natCast] at hxu
             have b9 : ((i : Int) < (y.length : Int)) = True := eq_true (by omega)
             have b9d : decide ((i : Int) < (y.length : Int)) = true := decide_eq_true (by omega)
             rw [show y.getD i false = rdOf false y (i : Int) from rfl] at H
             clear h32 hul
             cases hT : rdOf false y (i : Int) with
             | true =>
              rw [hT, if_pos rfl] at H
              have HJ3 := Aside0.mk H
              rw [hT] at hxu
              clear H hT c
              go_wp2
              go_roundg k5
              case measure => exact Nat.lt_succ_self _
              case rel => exact ⟨i + 1, by rw [show wrap64 ((i : Int) + 1) = ((i + 1 : Nat) : Int) by have h1_ := HL.out; have h2_ := HI.out; unfold wrap64; omega], ⟨by have h1_ := HX.out; have h2_ := HI.out; omega⟩, HJ3, HRU, BK, HB⟩
             | false =>
              rw [hT, if_neg (by decide)] at H
              rw [hT] at hxu
              obtain ⟨z, hz_, H⟩ := Option.bind_eq_some_iff.1 H
              have HZ_ := Aside0.mk hz_
              clear hz_ hT c
              cases z with
              | false =>
               rw [if_neg (by decide)] at H
               obtain rfl := Option.some.inj H
               have H := HRR.out
               rw [if_neg (by decide)] at H
               obtain rfl := Option.some.inj H
               clear H
               go_wp2_with (first | ((with_reducible refine gate_callee (f := 102) rfl ?_); (try (refine gate_guard (by rfl) ?_; dsimp only)); refine goesL_ (some 97) rfl rfl Try.func102 (by kernel_rfl) rfl #[.string (rdOf ByteArray.empty l3 (i : Int))] rfl (by (try simp only [List.map_toArray, List.map_cons, List.map_nil]); first | done | rfl) ?_; refine (Lib.of_drawn (spec_IsZeroes.calls k (rdOf ByteArray.empty l3 (i : Int)) _ wr HZ_.out)).mono ?_; rintro e w7 ⟨rfl, hb⟩; refine ⟨_, rfl, ?_⟩; replace BK := Aside0.mk (blk_below BK.out hb); replace HRU := Aside0.mk (Kd.R_below HRU.out hb); replace HB := Aside0.mk (below_step HB.out hb); clear hb))
               go_ret
               exact ⟨rfl, HB.out⟩
              | true =>
               rw [if_pos rfl] at H
               have HJ3 := Aside0.mk H
               clear H
               go_wp2_with (first | ((with_reducible refine gate_callee (f := 102) rfl ?_); (try (refine gate_guard (by rfl) ?_; dsimp only)); refine goesL_ (some 97) rfl rfl Try.func102 (by kernel_rfl) rfl #[.string (rdOf ByteArray.empty l3 (i : Int))] rfl (by (try simp only [List.map_toArray, List.map_cons, List.map_nil]); first | done | rfl) ?_; refine (Lib.of_drawn (spec_IsZeroes.calls k (rdOf ByteArray.empty l3 (i : Int)) _ wr HZ_.out)).mono ?_; rintro e w7 ⟨rfl, hb⟩; refine ⟨_, rfl, ?_⟩; replace BK := Aside0.mk (blk_below BK.out hb); replace HRU := Aside0.mk (Kd.R_below HRU.out hb); replace HB := Aside0.mk (below_step HB.out hb); clear hb))
               go_roundg k5
               case measure => exact Nat.lt_succ_self _
               case rel => exact ⟨i + 1, by rw [show wrap64 ((i : Int) + 1) = ((i + 1 : Nat) : Int) by have h1_ := HL.out; have h2_ := HI.out; unfold wrap64; omega], ⟨by have h1_ := HX.out; have h2_ := HI.out; omega⟩, HJ3, HRU, BK, HB⟩
            ·
             have H := HJ.out
             rw [List.drop_eq_nil_of_le (by omega)] at H
             obtain rfl := Option.some.inj H
             have H := HRR.out
             rw [if_pos rfl] at H
             have HT0 := Aside0.mk H
             have b4 : decide ((i : Int) < (l3.length : Int)) = false := decide_eq_false (by omega)
             have b5 := eq_false (show ¬ (i : Int) < (l3.length : Int) by omega)
             clear c H
             have z2 : wr.cell? ⟨g0, 2, none⟩ = some (.slice (some ad2) l2.length c2) := (blk_cell BK.out 2).trans rfl
             go_wp2
             go_loopg [105] (l2.length + 1) (fun kq v w' => ∃ i : Nat, v = .int .i64 (i : Int) ∧ Aside0 (i ≤ l2.length ∧ l2.length - i < kq) ∧ Aside0 (spec_IsFS.tail k l3 (l2.drop i) = some r) ∧ Aside0 (w'.heap[g0]? = some (.cells #[.int .i64 a0, .slice (some ad1) l1.length c1, .slice (some ad2) l2.length c2, .slice (some ad3) l3.length c3] 42 (0, 0))) ∧ Aside0 (Below w.heap.size w w'))
             case atStart => exact ⟨0, rfl, ⟨by omega⟩, HT0, BK, HB⟩
             case round =>
              clear z2 BK HB HT0 b4 b5 HX
              obtain ⟨i, rfl, HX, HJ, BK, HB⟩ := hrel
              cases gk with
              | zero => exact absurd HX.out.2 (by omega)
              | succ k6 =>
               by_cases c : i < l2.length
               ·
                have HI := Aside0.mk c
                have H := HJ.out
                rw [Lib.drop_rd z25 l2 i c, show l2.getD i z25 = (rd_T25 l2 (i : Int)) from rfl] at H
                unfold spec_IsFS.tail at H
                by_cases hk7 : (rd_T25 l2 (i : Int)).f7.length ≤ 4611686018427387904
                rotate_left
                ·
                 rw [if_neg hk7] at H
                 cases H
                rw [if_pos hk7] at H
                have hK : (wrap64 (((rd_T25 l2 (i : Int)).f7.length : Int) - 1)) = ((rd_T25 l2 (i : Int)).f7.length : Int) - 1 := by unfold wrap64; omega
                rw [hK] at H
                clear hK
                obtain ⟨ad, A7, c7, A8, c8, A9, c9, e0, hx0, hx1, hx2, hx3, hx4, hx5, hx6, hx7, hx8, hx9, hl7, hC7, hl8, hC8, hl9, hC9⟩ := at_T25 HR2.out (i : Int) (by omega) (by omega)
                obtain rfl : ad2 = ad := by injection e0
                simp only [Int.toNat_natCast] at hx0 hx1 hx2 hx3 hx4 hx5 hx6 hx7 hx8 hx9
                replace hx0 := pw_cell_below HB.out hx0
                replace hx1 := pw_cell_below HB.out hx1
                replace hx2 := pw_cell_below HB.out hx2
                replace hx3 := pw_cell_below HB.out hx3
                replace hx4 := pw_cell_below HB.out hx4
                replace hx5 := pw_cell_below HB.out hx5
                replace hx6 := pw_cell_below HB.out hx6
                replace hx7 := pw_cell_below HB.out hx7
                replace hx8 := pw_cell_below HB.out hx8
                replace hx9 := pw_cell_below HB.out hx9
                have HL7 := Aside0.mk hl7
                have HC7 := Aside0.mk hC7
                clear hl7 hC7
                have HL8 := Aside0.mk hl8
                have HC8 := Aside0.mk hC8
                clear hl8 hC8
                have HL9 := Aside0.mk hl9
                have HC9 := Aside0.mk hC9
                clear hl9 hC9
                have b4 : decide ((i : Int) < (l2.length : Int)) = true := decide_eq_true (by omega)
                have b5 := eq_true (show (i : Int) < (l2.length : Int) by omega)
                have b6 := eq_true (show 0 ≤ (i : Int) by omega)
                go_upto_region 29 with (fail)
                clear hx0 hx1 hx2 hx3 hx4 hx5 hx6 hx7 hx8 hx9 b4 b5 b6
                have BKo := BK
                obtain ⟨w6, hw_⟩ : ∃ W, W = wr.alloc (.cells #[.int .i64 (rd_T25 l2 (i : Int)).f0, .int .i64 (rd_T25 l2 (i : Int)).f1, .int .i64 (rd_T25 l2 (i : Int)).f2, .int .i64 (rd_T25 l2 (i : Int)).f3, .int .i64 (rd_T25 l2 (i : Int)).f4, .int .i64 (rd_T25 l2 (i : Int)).f5, .int .i64 (rd_T25 l2 (i : Int)).f6, .slice A7 (rd_T25 l2 (i : Int)).f7.length c7, .slice A8 (rd_T25 l2 (i : Int)).f8.length c8, .slice A9 (rd_T25 l2 (i : Int)).f9.length c9] 25 (0, 0)) := ⟨_, rfl⟩
                rw [← hw_]
                have BI : Aside0 (w6.heap[wr.heap.size]? = some (.cells #[.int .i64 (rd_T25 l2 (i : Int)).f0, .int .i64 (rd_T25 l2 (i : Int)).f1, .int .i64 (rd_T25 l2 (i : Int)).f2, .int .i64 (rd_T25 l2 (i : Int)).f3, .int .i64 (rd_T25 l2 (i : Int)).f4, .int .i64 (rd_T25 l2 (i : Int)).f5, .int .i64 (rd_T25 l2 (i : Int)).f6, .slice A7 (rd_T25 l2 (i : Int)).f7.length c7, .slice A8 (rd_T25 l2 (i : Int)).f8.length c8, .slice A9 (rd_T25 l2 (i : Int)).f9.length c9] 25 (0, 0))) := ⟨by rw [hw_]; exact blk_new _ _⟩
                replace BK : Aside0 (w6.heap[g0]? = some (.cells #[.int .i64 a0, .slice (some ad1) l1.length c1, .slice (some ad2) l2.length c2, .slice (some ad3) l3.length c3] 42 (0, 0))) := ⟨by rw [hw_]; exact blk_alloc BK.out _⟩
                replace HB : Aside0 (Below w.heap.size w w6) := ⟨by rw [hw_]; exact below_alloc HB.out _⟩
                clear hw_ BKo
                obtain ⟨gi, hgi⟩ : ∃ g, g = wr.heap.size := ⟨_, rfl⟩
                rw [← hgi] at BI ⊢
                clear hgi
                have z7 := (blk_cell BI.out 7).trans rfl
                go_upto_region 30 with (fail)
                clear z7
                obtain ⟨z, ad7, h7_, h3_, HT_⟩ : ∃ (z : Bool) (ad7 : Addr), (decide ((1 : Int) ≤ ((rd_T25 l2 (i : Int)).f7.length : Int)) = true → A7 = some ad7 ∧ ∀ W, Below w6.heap.size w6 W → W.cell? (ad7.add (((rd_T25 l2 (i : Int)).f7.length : Int) - 1).toNat) = some (.int .i64 (rd (rd_T25 l2 (i : Int)).f7 (((rd_T25 l2 (i : Int)).f7.length : Int) - 1)))) ∧ ((decide ((1 : Int) ≤ ((rd_T25 l2 (i : Int)).f7.length : Int)) && ((rd (rd_T25 l2 (i : Int)).f7 (((rd_T25 l2 (i : Int)).f7.length : Int) - 1)) != -1)) = true → (0 ≤ (rd (rd_T25 l2 (i : Int)).f7 (((rd_T25 l2 (i : Int)).f7.length : Int) - 1)) ∧ (rd (rd_T25 l2 (i : Int)).f7 (((rd_T25 l2 (i : Int)).f7.length : Int) - 1)) < (l3.length : Int)) ∧ (0 ≤ (wrap64 ((rd_T25 l2 (i : Int)).f5 - wrap64 ((((rd_T25 l2 (i : Int)).f7.length : Int) - 1) * 32))) ∧ (wrap64 ((rd_T25 l2 (i : Int)).f5 - wrap64 ((((rd_T25 l2 (i : Int)).f7.length : Int) - 1) * 32))) ≤ ((rdOf ByteArray.empty l3 (rd (rd_T25 l2 (i : Int)).f7 (((rd_T25 l2 (i : Int)).f7.length : Int) - 1))).size : Int)) ∧ spec_IsZeroes.f k ((rdOf ByteArray.empty l3 (rd (rd_T25 l2 (i : Int)).f7 (((rd_T25 l2 (i : Int)).f7.length : Int) - 1))).extract (wrap64 ((rd_T25 l2 (i : Int)).f5 - wrap64 ((((rd_T25 l2 (i : Int)).f7.length : Int) - 1) * 32))).toNat (rdOf ByteArray.empty l3 (rd (rd_T25 l2 (i : Int)).f7 (((rd_T25 l2 (i : Int)).f7.length : Int) - 1))).size) = some z) ∧ (if ((decide ((1 : Int) ≤ ((rd_T25 l2 (i : Int)).f7.length : Int)) && ((rd (rd_T25 l2 (i : Int)).f7 (((rd_T25 l2 (i : Int)).f7.length : Int) - 1)) != -1)) && !z) = true then some false else spec_IsFS.tail k l3 (l2.drop (i + 1))) = some r := by
                 by_cases he : (rd_T25 l2 (i : Int)).f7 = []
                 ·
                  rw [if_pos he] at H
                  have hD0 : decide ((1 : Int) ≤ ((rd_T25 l2 (i : Int)).f7.length : Int)) = false := decide_eq_false (by rw [he]; decide)
                  refine ⟨true, ⟨0, 0, none⟩, fun h => absurd (hD0.symm.trans h) (by decide), fun h => absurd ((Bool.and_eq_true_iff.mp h).1) (by rw [hD0]; decide), ?_⟩
                  rw [hD0]
                  exact H
                 ·
                  rw [if_neg he] at H
                  have hn : 0 < (rd_T25 l2 (i : Int)).f7.length := List.length_pos_iff.mpr he
                  obtain ⟨ad7, e0, hs7⟩ := Kd.at_int (Kd.C_below HC7.out HB.out) (((rd_T25 l2 (i : Int)).f7.length : Int) - 1) (by omega) (by omega)
                  have hD0 : decide ((1 : Int) ≤ ((rd_T25 l2 (i : Int)).f7.length : Int)) = true := decide_eq_true (by omega)
                  have g7 : decide ((1 : Int) ≤ ((rd_T25 l2 (i : Int)).f7.length : Int)) = true → A7 = some ad7 ∧ ∀ W, Below w6.heap.size w6 W → W.cell? (ad7.add (((rd_T25 l2 (i : Int)).f7.length : Int) - 1).toNat) = some (.int .i64 (rd (rd_T25 l2 (i : Int)).f7 (((rd_T25 l2 (i : Int)).f7.length : Int) - 1))) := fun _ => ⟨e0, fun W hb => (hb.cell (World.block_lt_of_cell? w6 _ hs7)).trans hs7⟩
                  by_cases hm : (rd (rd_T25 l2 (i : Int)).f7 (((rd_T25 l2 (i : Int)).f7.length : Int) - 1)) = -1
                  ·
                   rw [if_pos hm] at H
                   have hM : ((rd (rd_T25 l2 (i : Int)).f7 (((rd_T25 l2 (i : Int)).f7.length : Int) - 1)) != -1) = false := bne_eq_false_iff_eq.mpr hm
                   refine ⟨true, ad7, g7, fun h => absurd ((Bool.and_eq_true_iff.mp h).2) (by rw [hM]; decide), ?_⟩
                   rw [hM, Bool.and_false]
                   exact H
                  ·
                   rw [if_neg hm] at H
                   have hM : ((rd (rd_T25 l2 (i : Int)).f7 (((rd_T25 l2 (i : Int)).f7.length : Int) - 1)) != -1) = true := bne_iff_ne.mpr hm
                   by_cases hb_ : 0 ≤ (rd (rd_T25 l2 (i : Int)).f7 (((rd_T25 l2 (i : Int)).f7.length : Int) - 1)) ∧ (rd (rd_T25 l2 (i : Int)).f7 (((rd_T25 l2 (i : Int)).f7.length : Int) - 1)) < (l3.length : Int)
                   ·
                    rw [if_pos hb_] at H
                    by_cases he_ : 0 ≤ (wrap64 ((rd_T25 l2 (i : Int)).f5 - wrap64 ((((rd_T25 l2 (i : Int)).f7.length : Int) - 1) * 32))) ∧ (wrap64 ((rd_T25 l2 (i : Int)).f5 - wrap64 ((((rd_T25 l2 (i : Int)).f7.length : Int) - 1) * 32))) ≤ ((rdOf ByteArray.empty l3 (rd (rd_T25 l2 (i : Int)).f7 (((rd_T25 l2 (i : Int)).f7.length : Int) - 1))).size : Int)
                    ·
                     rw [if_pos he_] at H
                     obtain ⟨z, hz_, H⟩ := Option.bind_eq_some_iff.1 H
                     refine ⟨z, ad7, g7, fun _ => ⟨hb_, he_, hz_⟩, ?_⟩
                     rw [hD0, hM]
                     cases z with
                     | true => exact H
                     | false => exact H
                    ·
                     rw [if_neg he_] at H
                     cases H
                   ·
                    rw [if_neg hb_] at H
                    cases H
                have H7 := Aside0.mk h7_
                have H3 := Aside0.mk h3_
                have HT2 := Aside0.mk HT_
                clear h7_ h3_ HT_ H
                have hs3_ : (decide ((1 : Int) ≤ ((rd_T25 l2 (i : Int)).f7.length : Int)) && ((rd (rd_T25 l2 (i : Int)).f7 (((rd_T25 l2 (i : Int)).f7.length : Int) - 1)) != -1)) = true → ∀ W, Below w6.heap.size w6 W → W.cell? (ad3.add (rd (rd_T25 l2 (i : Int)).f7 (((rd_T25 l2 (i : Int)).f7.length : Int) - 1)).toNat) = some (.string (rdOf ByteArray.empty l3 (rd (rd_T25 l2 (i : Int)).f7 (((rd_T25 l2 (i : Int)).f7.length : Int) - 1)))) := by
                 intro hc W hb
                 obtain ⟨ad, e0, hs0⟩ := Kd.at_string HR3.out (rd (rd_T25 l2 (i : Int)).f7 (((rd_T25 l2 (i : Int)).f7.length : Int) - 1)) (H3.out hc).1.1 (H3.out hc).1.2
                 obtain rfl : ad3 = ad := by injection e0
                 exact pw_cell_below (below_step HB.out hb) hs0
                go_cut [141] (fun v wc => v = .bool ((decide ((1 : Int) ≤ ((rd_T25 l2 (i : Int)).f7.length : Int)) && ((rd (rd_T25 l2 (i : Int)).f7 (((rd_T25 l2 (i : Int)).f7.length : Int) - 1)) != -1)) && !z) ∧ Aside0 (wc.heap[g0]? = some (.cells #[.int .i64 a0, .slice (some ad1) l1.length c1, .slice (some ad2) l2.length c2, .slice (some ad3) l3.length c3] 42 (0, 0))) ∧ Aside0 (Below w.heap.size w wc))
                case first =>
                 have HM : ∀ W, Below w6.heap.size w6 W → (W.cell? ⟨gi, 7, none⟩ = some (.slice A7 (rd_T25 l2 (i : Int)).f7.length c7) ∧ W.cell? ⟨gi, 5, none⟩ = some (.int .i64 (rd_T25 l2 (i : Int)).f5) ∧ W.cell? ⟨g0, 3, none⟩ = some (.slice (some ad3) l3.length c3) ∧ (decide ((1 : Int) ≤ ((rd_T25 l2 (i : Int)).f7.length : Int)) = true → W.cell? (ad7.add (((rd_T25 l2 (i : Int)).f7.length : Int) - 1).toNat) = some (.int .i64 (rd (rd_T25 l2 (i : Int)).f7 (((rd_T25 l2 (i : Int)).f7.length : Int) - 1))) ∧ W.cell? (ad7.add ((rd_T25 l2 (i : Int)).f7.length - 1)) = some (.int .i64 (rd (rd_T25 l2 (i : Int)).f7 (((rd_T25 l2 (i : Int)).f7.length : Int) - 1)))) ∧ ((decide ((1 : Int) ≤ ((rd_T25 l2 (i : Int)).f7.length : Int)) && ((rd (rd_T25 l2 (i : Int)).f7 (((rd_T25 l2 (i : Int)).f7.length : Int) - 1)) != -1)) = true → W.cell? (ad3.add (rd (rd_T25 l2 (i : Int)).f7 (((rd_T25 l2 (i : Int)).f7.length : Int) - 1)).toNat) = some (.string (rdOf ByteArray.empty l3 (rd (rd_T25 l2 (i : Int)).f7 (((rd_T25 l2 (i : Int)).f7.length : Int) - 1)))))) := fun W hb => ⟨(blk_cell (blk_below BI.out hb) 7).trans rfl, (blk_cell (blk_below BI.out hb) 5).trans rfl, (blk_cell (blk_below BK.out hb) 3).trans rfl, fun hc => ⟨(H7.out hc).2 W hb, (show _ by have h_ := (H7.out hc).2 W hb; have hl_ := of_decide_eq_true hc; rw [show (((rd_T25 l2 (i : Int)).f7.length : Int) - 1).toNat = (rd_T25 l2 (i : Int)).f7.length - 1 by omega] at h_; exact h_)⟩, fun hc => (hs3_ hc W hb)⟩
                 clear hs3_
                 refine Lib.q_start w6 Try.f40 (by kernel_rfl) rfl (by kernel_rfl) (Below.refl _ _) ?_
                 (try simp only [List.append_eq, List.cons_append, List.nil_append])
                 refine Lib.q (.tmp 13) (.tmp 13) (hw := Lib.want_n rfl) (hx := fun _ => rfl) (hy := fun _ => rfl) (hr := by intro hc ρ h1 h2 hk w ⟨w1_, w2_, w3_, w4_, w5_⟩; clear hc w4_ w5_; first | (go_simp; with_reducible rfl) | (simp only [h1, h2, hk]; go_simp; with_reducible rfl)) (h := ?_)
                 refine Lib.q (.tmp 113) (.tmp 113) (hw := Lib.want_n rfl) (hx := fun _ => rfl) (hy := fun _ => rfl) (hr := by intro hc ρ h1 h2 hk w ⟨w1_, w2_, w3_, w4_, w5_⟩; clear hc w4_ w5_; first | (go_simp; with_reducible rfl) | (simp only [h1, h2, hk]; go_simp; with_reducible rfl)) (h := ?_)
                 refine Lib.q (.tmp 114) (.tmp 114) (hw := Lib.want_n rfl) (hx := fun _ => rfl) (hy := fun _ => rfl) (hr := by intro hc ρ h1 h2 hk w ⟨w1_, w2_, w3_, w4_, w5_⟩; clear hc w4_ w5_; first | (go_simp; with_reducible rfl) | (simp only [h1, h2, hk]; go_simp; with_reducible rfl)) (h := ?_)
                 refine Lib.q (.tmp 12) (.tmp 12) (hw := Lib.want_t rfl rfl rfl rfl) (hx := fun _ => rfl) (hy := fun _ => rfl) (hr := by intro hc ρ h1 h2 hk w ⟨w1_, w2_, w3_, w4_, w5_⟩; clear hc w4_ w5_; first | (go_simp; with_reducible rfl) | (simp only [h1, h2, hk]; go_simp; with_reducible rfl)) (h := ?_)
                 refine Lib.q (.tmp 116) (.tmp 116) (hw := Lib.want_t rfl rfl rfl rfl) (hx := fun h => Lib.vif_on h) (hy := fun h => Lib.vif_on h) (hr := by intro hc ρ h1 h2 hk w ⟨w1_, w2_, w3_, w4_, w5_⟩; clear hc w4_ w5_; first | (go_simp; with_reducible rfl) | (simp only [h1, h2, hk]; go_simp; with_reducible rfl)) (h := ?_)
                 refine Lib.q (.tmp 13) (.tmp 13) (hw := Lib.want_t rfl rfl rfl rfl) (hx := fun _ => rfl) (hy := fun _ => rfl) (hr := by intro hc ρ h1 h2 hk w ⟨w1_, w2_, w3_, w4_, w5_⟩; clear hc w4_ w5_; first | (go_simp; with_reducible rfl) | (simp only [h1, h2, hk]; go_simp; with_reducible rfl)) (h := ?_)
                 refine Lib.q (.tmp 117) (.tmp 118) (hw := Lib.want_t rfl rfl rfl rfl) (hx := fun h => Lib.vif_on h) (hy := fun h => Lib.vif_on h) (hr := by intro hc ρ h1 h2 hk w ⟨w1_, w2_, w3_, w4_, w5_⟩; have hl_ := of_decide_eq_true hc; have b9d := eq_true (show 0 ≤ (((rd_T25 l2 (i : Int)).f7.length : Int) - 1) by omega); have b9 := eq_true (show (1 : Int) ≤ ((rd_T25 l2 (i : Int)).f7.length : Int) by omega); have b10 := eq_true (show (((rd_T25 l2 (i : Int)).f7.length : Int) - 1) < ((rd_T25 l2 (i : Int)).f7.length : Int) by omega); clear hl_; obtain ⟨w4_, w4b_⟩ := w4_ hc; rw [(H7.out hc).1] at h1; clear hc w5_; first | (go_simp; with_reducible rfl) | (simp only [h1, h2, hk]; go_simp; with_reducible rfl)) (h := ?_)
                 refine Lib.q (.tmp 119) (.tmp 119) (hw := Lib.want_t rfl rfl rfl rfl) (hx := fun h => Lib.vif_on h) (hy := fun h => Lib.vif_on h) (hr := by intro hc ρ h1 h2 hk w ⟨w1_, w2_, w3_, w4_, w5_⟩; have hl_ := of_decide_eq_true hc; have b9d := eq_true (show 0 ≤ (((rd_T25 l2 (i : Int)).f7.length : Int) - 1) by omega); have b9 := eq_true (show (1 : Int) ≤ ((rd_T25 l2 (i : Int)).f7.length : Int) by omega); have b10 := eq_true (show (((rd_T25 l2 (i : Int)).f7.length : Int) - 1) < ((rd_T25 l2 (i : Int)).f7.length : Int) by omega); clear hl_; obtain ⟨w4_, w4b_⟩ := w4_ hc; clear hc w5_; first | (go_simp; with_reducible rfl) | (simp only [h1, h2, hk]; go_simp; with_reducible rfl)) (h := ?_)
                 refine Lib.q (.tmp 120) (.tmp 120) (hw := Lib.want_t rfl rfl rfl rfl) (hx := fun h => Lib.vif_on h) (hy := fun h => Lib.vif_on h) (hr := by intro hc ρ h1 h2 hk w ⟨w1_, w2_, w3_, w4_, w5_⟩; clear hc w4_ w5_; first | (go_simp; with_reducible rfl) | (simp only [h1, h2, hk]; go_simp; with_reducible rfl)) (h := ?_)
                 refine Lib.q_and (.tmp 115) (.tmp 121) (hw := Lib.want_n rfl) (h := ?_)
                 refine Lib.q (.tmp 122) (.tmp 122) (hw := Lib.want_n rfl) (hx := fun _ => rfl) (hy := fun _ => rfl) (hr := by intro hc ρ h1 h2 hk w ⟨w1_, w2_, w3_, w4_, w5_⟩; clear hc w4_ w5_; first | (go_simp; with_reducible rfl) | (simp only [h1, h2, hk]; go_simp; with_reducible rfl)) (h := ?_)
                 refine Lib.q (.tmp 1) (.tmp 1) (hw := Lib.want_t rfl rfl rfl rfl) (hx := fun _ => rfl) (hy := fun _ => rfl) (hr := by intro hc ρ h1 h2 hk w ⟨w1_, w2_, w3_, w4_, w5_⟩; clear hc w4_ w5_; first | (go_simp; with_reducible rfl) | (simp only [h1, h2, hk]; go_simp; with_reducible rfl)) (h := ?_)
                 refine Lib.q (.tmp 124) (.tmp 124) (hw := Lib.want_t rfl rfl rfl rfl) (hx := fun h => Lib.vif_on h) (hy := fun h => Lib.vif_on h) (hr := by intro hc ρ h1 h2 hk w ⟨w1_, w2_, w3_, w4_, w5_⟩; clear hc w4_ w5_; first | (go_simp; with_reducible rfl) | (simp only [h1, h2, hk]; go_simp; with_reducible rfl)) (h := ?_)
                 refine Lib.q (.tmp 12) (.tmp 12) (hw := Lib.want_t rfl rfl rfl rfl) (hx := fun _ => rfl) (hy := fun _ => rfl) (hr := by intro hc ρ h1 h2 hk w ⟨w1_, w2_, w3_, w4_, w5_⟩; clear hc w4_ w5_; first | (go_simp; with_reducible rfl) | (simp only [h1, h2, hk]; go_simp; with_reducible rfl)) (h := ?_)
                 refine Lib.q (.tmp 126) (.tmp 126) (hw := Lib.want_t rfl rfl rfl rfl) (hx := fun h => Lib.vif_on h) (hy := fun h => Lib.vif_on h) (hr := by intro hc ρ h1 h2 hk w ⟨w1_, w2_, w3_, w4_, w5_⟩; clear hc w4_ w5_; first | (go_simp; with_reducible rfl) | (simp only [h1, h2, hk]; go_simp; with_reducible rfl)) (h := ?_)
                 refine Lib.q (.tmp 13) (.tmp 13) (hw := Lib.want_t rfl rfl rfl rfl) (hx := fun _ => rfl) (hy := fun _ => rfl) (hr := by intro hc ρ h1 h2 hk w ⟨w1_, w2_, w3_, w4_, w5_⟩; clear hc w4_ w5_; first | (go_simp; with_reducible rfl) | (simp only [h1, h2, hk]; go_simp; with_reducible rfl)) (h := ?_)
                 refine Lib.q (.tmp 127) (.tmp 128) (hw := Lib.want_t rfl rfl rfl rfl) (hx := fun h => Lib.vif_on h) (hy := fun h => Lib.vif_on h) (hr := by intro hc ρ h1 h2 hk w ⟨w1_, w2_, w3_, w4_, w5_⟩; have hc0 := (Bool.and_eq_true_iff.mp hc).1; have hl_ := of_decide_eq_true hc0; have b9d := eq_true (show 0 ≤ (((rd_T25 l2 (i : Int)).f7.length : Int) - 1) by omega); have b9 := eq_true (show (1 : Int) ≤ ((rd_T25 l2 (i : Int)).f7.length : Int) by omega); have b10 := eq_true (show (((rd_T25 l2 (i : Int)).f7.length : Int) - 1) < ((rd_T25 l2 (i : Int)).f7.length : Int) by omega); clear hl_; obtain ⟨w4_, w4b_⟩ := w4_ hc0; replace w5_ := w5_ hc; rw [(H7.out hc0).1] at h1; clear hc hc0; first | (go_simp; with_reducible rfl) | (simp only [h1, h2, hk]; go_simp; with_reducible rfl)) (h := ?_)
                 refine Lib.q (.tmp 129) (.tmp 129) (hw := Lib.want_t rfl rfl rfl rfl) (hx := fun h => Lib.vif_on h) (hy := fun h => Lib.vif_on h) (hr := by intro hc ρ h1 h2 hk w ⟨w1_, w2_, w3_, w4_, w5_⟩; have hc0 := (Bool.and_eq_true_iff.mp hc).1; have hl_ := of_decide_eq_true hc0; have b9d := eq_true (show 0 ≤ (((rd_T25 l2 (i : Int)).f7.length : Int) - 1) by omega); have b9 := eq_true (show (1 : Int) ≤ ((rd_T25 l2 (i : Int)).f7.length : Int) by omega); have b10 := eq_true (show (((rd_T25 l2 (i : Int)).f7.length : Int) - 1) < ((rd_T25 l2 (i : Int)).f7.length : Int) by omega); clear hl_; obtain ⟨w4_, w4b_⟩ := w4_ hc0; replace w5_ := w5_ hc; clear hc hc0; first | (go_simp; with_reducible rfl) | (simp only [h1, h2, hk]; go_simp; with_reducible rfl)) (h := ?_)
                 refine Lib.q (.tmp 125) (.tmp 130) (hw := Lib.want_t rfl rfl rfl rfl) (hx := fun h => Lib.vif_on h) (hy := fun h => Lib.vif_on h) (hr := by intro hc ρ h1 h2 hk w ⟨w1_, w2_, w3_, w4_, w5_⟩; have hc0 := (Bool.and_eq_true_iff.mp hc).1; have hl_ := of_decide_eq_true hc0; have b9d := eq_true (show 0 ≤ (((rd_T25 l2 (i : Int)).f7.length : Int) - 1) by omega); have b9 := eq_true (show (1 : Int) ≤ ((rd_T25 l2 (i : Int)).f7.length : Int) by omega); have b10 := eq_true (show (((rd_T25 l2 (i : Int)).f7.length : Int) - 1) < ((rd_T25 l2 (i : Int)).f7.length : Int) by omega); clear hl_; obtain ⟨w4_, w4b_⟩ := w4_ hc0; replace w5_ := w5_ hc; obtain ⟨hb_, he_, _⟩ := H3.out hc; have k5_ := eq_true hb_.1; have k6_ := eq_true hb_.2; clear hb_ he_; clear hc hc0; first | (go_simp; with_reducible rfl) | (simp only [h1, h2, hk]; go_simp; with_reducible rfl)) (h := ?_)
                 refine Lib.q (.tmp 131) (.tmp 131) (hw := Lib.want_t rfl rfl rfl rfl) (hx := fun h => Lib.vif_on h) (hy := fun h => Lib.vif_on h) (hr := by intro hc ρ h1 h2 hk w ⟨w1_, w2_, w3_, w4_, w5_⟩; have hc0 := (Bool.and_eq_true_iff.mp hc).1; have hl_ := of_decide_eq_true hc0; have b9d := eq_true (show 0 ≤ (((rd_T25 l2 (i : Int)).f7.length : Int) - 1) by omega); have b9 := eq_true (show (1 : Int) ≤ ((rd_T25 l2 (i : Int)).f7.length : Int) by omega); have b10 := eq_true (show (((rd_T25 l2 (i : Int)).f7.length : Int) - 1) < ((rd_T25 l2 (i : Int)).f7.length : Int) by omega); clear hl_; obtain ⟨w4_, w4b_⟩ := w4_ hc0; replace w5_ := w5_ hc; clear hc hc0; first | (go_simp; with_reducible rfl) | (simp only [h1, h2, hk]; go_simp; with_reducible rfl)) (h := ?_)
                 refine Lib.q (.tmp 12) (.tmp 12) (hw := Lib.want_t rfl rfl rfl rfl) (hx := fun _ => rfl) (hy := fun _ => rfl) (hr := by intro hc ρ h1 h2 hk w ⟨w1_, w2_, w3_, w4_, w5_⟩; clear hc w4_ w5_; first | (go_simp; with_reducible rfl) | (simp only [h1, h2, hk]; go_simp; with_reducible rfl)) (h := ?_)
                 refine Lib.q (.tmp 133) (.tmp 133) (hw := Lib.want_t rfl rfl rfl rfl) (hx := fun h => Lib.vif_on h) (hy := fun h => Lib.vif_on h) (hr := by intro hc ρ h1 h2 hk w ⟨w1_, w2_, w3_, w4_, w5_⟩; clear hc w4_ w5_; first | (go_simp; with_reducible rfl) | (simp only [h1, h2, hk]; go_simp; with_reducible rfl)) (h := ?_)
                 refine Lib.q (.tmp 13) (.tmp 13) (hw := Lib.want_t rfl rfl rfl rfl) (hx := fun _ => rfl) (hy := fun _ => rfl) (hr := by intro hc ρ h1 h2 hk w ⟨w1_, w2_, w3_, w4_, w5_⟩; clear hc w4_ w5_; first | (go_simp; with_reducible rfl) | (simp only [h1, h2, hk]; go_simp; with_reducible rfl)) (h := ?_)
                 refine Lib.q (.tmp 135) (.tmp 135) (hw := Lib.want_t rfl rfl rfl rfl) (hx := fun h => Lib.vif_on h) (hy := fun h => Lib.vif_on h) (hr := by intro hc ρ h1 h2 hk w ⟨w1_, w2_, w3_, w4_, w5_⟩; clear hc w4_ w5_; first | (go_simp; with_reducible rfl) | (simp only [h1, h2, hk]; go_simp; with_reducible rfl)) (h := ?_)
                 refine Lib.q (.tmp 134) (.tmp 136) (hw := Lib.want_t rfl rfl rfl rfl) (hx := fun h => Lib.vif_on h) (hy := fun h => Lib.vif_on h) (hr := by intro hc ρ h1 h2 hk w ⟨w1_, w2_, w3_, w4_, w5_⟩; clear hc w4_ w5_; first | (go_simp; with_reducible rfl) | (simp only [h1, h2, hk]; go_simp; with_reducible rfl)) (h := ?_)
                 refine Lib.q (.tmp 132) (.tmp 137) (hw := Lib.want_t rfl rfl rfl rfl) (hx := fun h => Lib.vif_on h) (hy := fun h => Lib.vif_on h) (v := .string ((rdOf ByteArray.empty l3 (rd (rd_T25 l2 (i : Int)).f7 (((rd_T25 l2 (i : Int)).f7.length : Int) - 1))).extract (wrap64 ((rd_T25 l2 (i : Int)).f5 - wrap64 ((((rd_T25 l2 (i : Int)).f7.length : Int) - 1) * 32))).toNat (rdOf ByteArray.empty l3 (rd (rd_T25 l2 (i : Int)).f7 (((rd_T25 l2 (i : Int)).f7.length : Int) - 1))).size)) (hr := by intro hc ρ h1 h2 hk w ⟨w1_, w2_, w3_, w4_, w5_⟩; have hc0 := (Bool.and_eq_true_iff.mp hc).1; have hl_ := of_decide_eq_true hc0; have b9d := eq_true (show 0 ≤ (((rd_T25 l2 (i : Int)).f7.length : Int) - 1) by omega); have b9 := eq_true (show (1 : Int) ≤ ((rd_T25 l2 (i : Int)).f7.length : Int) by omega); have b10 := eq_true (show (((rd_T25 l2 (i : Int)).f7.length : Int) - 1) < ((rd_T25 l2 (i : Int)).f7.length : Int) by omega); clear hl_; obtain ⟨w4_, w4b_⟩ := w4_ hc0; replace w5_ := w5_ hc; obtain ⟨hb_, he_, _⟩ := H3.out hc; clear hb_; clear hc hc0; go_simp; rw [i64_w, i64_w]; exact if_pos he_) (h := ?_)
                 refine Lib.q_call (.bool z) #[.string ((rdOf ByteArray.empty l3 (rd (rd_T25 l2 (i : Int)).f7 (((rd_T25 l2 (i : Int)).f7.length : Int) - 1))).extract (wrap64 ((rd_T25 l2 (i : Int)).f5 - wrap64 ((((rd_T25 l2 (i : Int)).f7.length : Int) - 1) * 32))).toNat (rdOf ByteArray.empty l3 (rd (rd_T25 l2 (i : Int)).f7 (((rd_T25 l2 (i : Int)).f7.length : Int) - 1))).size)] Try.func102 (hw := Lib.want_t rfl rfl rfl rfl) (hargs := by intro hc; simp only [List.map_toArray, List.map_cons, List.map_nil]; exact Lib.args1 (Lib.vif_on hc)) (hcl := ?_) (h := ?_)
                 ·
                  exact fun hc W hb => Lib.of_drawn (spec_IsZeroes.calls k ((rdOf ByteArray.empty l3 (rd (rd_T25 l2 (i : Int)).f7 (((rd_T25 l2 (i : Int)).f7.length : Int) - 1))).extract (wrap64 ((rd_T25 l2 (i : Int)).f5 - wrap64 ((((rd_T25 l2 (i : Int)).f7.length : Int) - 1) * 32))).toNat (rdOf ByteArray.empty l3 (rd (rd_T25 l2 (i : Int)).f7 (((rd_T25 l2 (i : Int)).f7.length : Int) - 1))).size) _ W (H3.out hc).2.2)
                 refine Lib.q (.tmp 139) (.tmp 139) (hw := Lib.want_t rfl rfl rfl rfl) (hx := fun h => Lib.vif_on h) (hy := fun h => Lib.vif_on h) (hr := by intro hc ρ h1 h2 hk w ⟨w1_, w2_, w3_, w4_, w5_⟩; clear hc w4_ w5_; first | (go_simp; with_reducible rfl) | (simp only [h1, h2, hk]; go_simp; with_reducible rfl)) (h := ?_)
                 refine Lib.q_and (.tmp 123) (.tmp 140) (hw := Lib.want_n rfl) (h := ?_)
                 refine Lib.q_done (fun W hb => ?_)
                 try go_wp2
                 go_meet
                 case rel => exact ⟨rfl, ⟨blk_below BK.out hb⟩, ⟨below_step HB.out hb⟩⟩
                case rest =>
                 clear BK HB BI
                 obtain ⟨rfl, BK, HB⟩ := hcut
                 have H := HT2.out
                 cases hv : ((decide ((1 : Int) ≤ ((rd_T25 l2 (i : Int)).f7.length : Int)) && ((rd (rd_T25 l2 (i : Int)).f7 (((rd_T25 l2 (i : Int)).f7.length : Int) - 1)) != -1)) && !z) with
                 | true =>
                  rw [hv, if_pos rfl] at H
                  obtain rfl := Option.some.inj H
                  clear H
                  go_wp2
                  go_ret
                  exact ⟨rfl, HB.out⟩
                 | false =>
                  rw [hv, if_neg (by decide)] at H
                  have HJ3 := Aside0.mk H
                  clear H
                  go_wp2
                  go_roundg k6
                  case measure => exact Nat.lt_succ_self _
                  case rel => exact ⟨i + 1, by rw [show wrap64 ((i : Int) + 1) = ((i + 1 : Nat) : Int) by have h1_ := HL.out; have h2_ := HI.out; unfold wrap64; omega], ⟨by have h1_ := HX.out; have h2_ := HI.out; omega⟩, HJ3, BK, HB⟩
               ·
                have H := HJ.out
                rw [List.drop_eq_nil_of_le (by omega)] at H
                obtain rfl := Option.some.inj H
                have b4 : decide ((i : Int) < (l2.length : Int)) = false := decide_eq_false (by omega)
                have b5 := eq_false (show ¬ (i : Int) < (l2.length : Int) by omega)
                clear c H
                go_wp2
                go_ret
                exact ⟨rfl, HB.out⟩

end Go.Proofs.Ytnfiapcemafmiaa.PFnExactNextBlock
