/- The law FnAccess holds for every input of its kind; no further condition. -/
import Derived.Test.YtmnojegajblagaaPFnAccessx7
import Derived.Test.YtmnojegajblagaaLibBase
import Derived.Test.YtmnojegajblagaaLibModes
namespace Go.Proofs.Ytmnojegajblagaa.Pure
open Go.RowKit Go.Proofs.Ytmnojegajblagaa.PFnAccess Go.Proofs.Ytmnojegajblagaa.Lib Go.Proofs.YtmnojegajblagaaW.PrintWords Go.Proofs.YtmnojegajblagaaW.PrintLast Go.Proofs.YtmnojegajblagaaW.PrintMore
set_option linter.unusedVariables false
set_option linter.unusedSimpArgs false

theorem i64_and255 (n : Int) : Go.bits .and .i64 n 255 = n % 256 := by
  have h127 : (BitVec.ofInt 64 255).toNat = 2 ^ 8 - 1 := by decide
  have key : (BitVec.ofInt 64 n &&& BitVec.ofInt 64 255).toNat = (n % ((2 ^ 64 : Nat) : Int)).toNat % 2 ^ 8 := by
    rw [BitVec.toNat_and, BitVec.toNat_ofInt, h127, Nat.and_two_pow_sub_one_eq_mod]
  show IntKind.i64.wrap ((BitVec.ofInt 64 n &&& BitVec.ofInt 64 255).toNat : Nat) = n % 256
  rw [key, IntKind.wrap_i64]
  omega
theorem l01Byte_ex (s : List Int) (i h : Int) (h0 : 0 ≤ i) (h1 : i ≤ 1048576) (hs : s.length ≤ 1048576) : ∃ v i' h', spec_l01Byte.f s i h = some (v, i', h') ∧ 0 ≤ v ∧ v ≤ 255 ∧ 0 ≤ i' ∧ i' ≤ 1048576 := by
  unfold spec_l01Byte.f
  by_cases hl : i < (s.length : Int)
  · rw [if_pos hl, if_pos h0]
    refine ⟨_, _, _, rfl, ?_, ?_, ?_, ?_⟩
    · rw [i64_and255]; omega
    · rw [i64_and255]; omega
    · rw [w64 (n := i + 1) (by omega) (by omega)]; omega
    · rw [w64 (n := i + 1) (by omega) (by omega)]; omega
  · rw [if_neg hl]
    refine ⟨_, _, _, rfl, ?_, ?_, h0, h1⟩
    · rw [i64_and255]; omega
    · rw [i64_and255]; omega
theorem l01New_ex (s : List Int) (hs : s.length ≤ 1048576) (d : Nat) : ∀ (h i : Int), 0 ≤ i → i + d = (s.length : Int) → ∃ h', Ev (fun k => spec_l01New.l0 k s h i) (s, 0, h') := by
  induction d with
  | zero =>
    intro h i h0 hd
    exact ⟨h, Ev.step (fun _ => spec_l01New.l0.eq_2 ..) (Ev.neg (by omega) (Ev.now _))⟩
  | succ d ih =>
    intro h i h0 hd
    by_cases h4 : i < 4000
    · obtain ⟨h', g⟩ := ih (Go.bits .and .i64 (wrap64 ((wrap64 ((wrap64 (h * 73)) + (wrap64 (rd s i)))) + 7)) 1073741823) (i + 1) (by omega) (by omega)
      refine ⟨h', Ev.step (fun _ => spec_l01New.l0.eq_2 ..) (Ev.pos (by omega) (Ev.pos h4 (Ev.pos h0 ?_)))⟩
      rw [w64 (n := i + 1) (by omega) (by omega)]
      exact g
    · exact ⟨h, Ev.step (fun _ => spec_l01New.l0.eq_2 ..) (Ev.pos (by omega) (Ev.neg h4 (Ev.now _)))⟩
theorem l25New_l (s : List Int) (hs : s.length ≤ 1048576) (n : Int) (hn : n ≤ 1000) (d : Nat) : ∀ (j i h : Int), 0 ≤ j → j + d = n → 0 ≤ i → i ≤ 1048576 → ∃ i' h', Ev (fun k => spec_l25New.l0 k n j s i h) (s, i', h') ∧ 0 ≤ i' ∧ i' ≤ 1048576 := by
  induction d with
  | zero =>
    intro j i h j0 hd i0 i1
    exact ⟨i, h, Ev.step (fun _ => spec_l25New.l0.eq_2 ..) (Ev.neg (by omega) (Ev.now _)), i0, i1⟩
  | succ d ih =>
    intro j i h j0 hd i0 i1
    obtain ⟨v, i2, h2, e, _, _, a, b⟩ := l01Byte_ex s i h i0 i1 hs
    obtain ⟨i', h', g, c⟩ := ih (j + 1) i2 h2 (by omega) (by omega) a b
    refine ⟨i', h', Ev.step (fun _ => spec_l25New.l0.eq_2 ..) (Ev.pos (by omega) (Ev.bind0 e ?_)), c⟩
    rw [w64 (n := j + 1) (by omega) (by omega)]
    exact g
theorem l25New_ex (s : List Int) (hs : s.length ≤ 1048576) (n : Int) (h0 : 0 ≤ n) (hn : n ≤ 1000) : ∃ i' h', Ev (fun k => spec_l25New.f k s n) (s, i', h') ∧ 0 ≤ i' ∧ i' ≤ 1048576 := by
  unfold spec_l25New.f
  obtain ⟨h, g⟩ := l01New_ex s hs s.length (wrap64 (1263 + (s.length : Int))) 0 (by omega) (by omega)
  obtain ⟨i', h', g2, c⟩ := l25New_l s hs n hn n.toNat 0 0 h (by omega) (by omega) (by omega) (by omega)
  exact ⟨i', h', Ev.bind (g := fun k => spec_l01New.f k s) g g2, c⟩

theorem makeNum_ex (s : List Int) (hs : s.length ≤ 1048576) (n : Int) (h0 : 0 ≤ n) (hn : n ≤ 1000) : ∃ v, Ev (fun k => spec_MakeNum.f k s n) v ∧ 0 ≤ v ∧ v ≤ 65535 := by
  unfold spec_MakeNum.f
  obtain ⟨i, h, g, a, b⟩ := l25New_ex s hs n h0 hn
  obtain ⟨v, i2, h2, e, v0, v1, a2, b2⟩ := l01Byte_ex s i h a b hs
  obtain ⟨u, i3, h3, e2, u0, u1, _, _⟩ := l01Byte_ex s i2 h2 a2 b2 hs
  refine ⟨_, Ev.bind g (Ev.bind0 e (Ev.bind0 e2 (Ev.now _))), ?_, ?_⟩
  · simp only []
    rw [w64 (n := v * 256) (by omega) (by omega), w64 (by omega) (by omega)]
    omega
  · simp only []
    rw [w64 (n := v * 256) (by omega) (by omega), w64 (by omega) (by omega)]
    omega

theorem isUser_impl (a : Int) : impl_isUser.f a = some (decide (0 ≤ a ∧ a ≤ 3)) := by
  unfold impl_isUser.f
  by_cases h : a ≥ 0
  · rw [if_pos h]
    congr 1
    apply decide_eq_decide.2
    omega
  · rw [if_neg h]
    congr 1
    symm
    apply decide_eq_false
    omega

theorem isCredI_l (a b : Int) (ha : 0 ≤ a ∧ a ≤ 3) (hb : 0 ≤ b ∧ b ≤ 3) (xs : List Int) (hx : xs.length ≤ 1048576) (h1 : ∀ x, x ∈ xs → 0 ≤ x ∧ x ≤ 3) (h2 : xs.Pairwise (· < ·)) (d : Nat) : ∀ i : Int, 0 ≤ i → i + d = (xs.length : Int) →
    Ev (fun k => impl_IsCred.l0 k xs (xs.length : Int) i a b xs) true := by
  have get : ∀ i : Int, 0 ≤ i → ∀ h : i.toNat < xs.length, rd xs i = xs[i.toNat] := by
    intro i h0 h
    show rdOf 0 xs i = _
    unfold rdOf
    rw [List.getD_eq_getElem?_getD, List.getElem?_eq_getElem h]
    rfl
  induction d with
  | zero =>
    intro i h0 hd
    refine Ev.step (fun _ => impl_IsCred.l0.eq_2 ..) (Ev.neg (by omega) (Ev.bind0 (isUser_impl a) (Ev.pos (decide_eq_true ha) (Ev.bind0 (isUser_impl b) ?_))))
    rw [decide_eq_true hb]
    exact Ev.now _
  | succ d ih =>
    intro i h0 hd
    have e := get i h0 (by omega)
    have r := h1 (xs[i.toNat]'(by omega)) (List.getElem_mem _)
    have g := ih (i + 1) (by omega) (by omega)
    refine Ev.step (fun _ => impl_IsCred.l0.eq_2 ..) (Ev.pos (by omega) (Ev.pos h0 (Ev.pos (by omega) (Ev.bind0 (isUser_impl _) (Ev.pos (by rw [e]; exact decide_eq_true r) ?_)))))
    rw [w64 (n := i + 1) (by omega) (by omega)]
    by_cases hi : i > 0
    · refine Ev.pos hi ?_
      rw [w64 (n := i - 1) (by omega) (by omega)]
      have e2 := get (i - 1) (by omega) (by omega)
      have lt : xs[(i - 1).toNat]'(by omega) < xs[i.toNat]'(by omega) := List.pairwise_iff_getElem.1 h2 _ _ _ _ (by omega)
      exact Ev.pos (by omega) (Ev.pos (by omega) (Ev.neg (by rw [e, e2]; omega) g))
    · exact Ev.neg hi g
theorem l01Below_ex (s : List Int) (i h n : Int) (h0 : 0 ≤ i) (h1 : i ≤ 1048576) (hs : s.length ≤ 1048576) (n1 : 1 ≤ n) (n2 : n ≤ 256) : ∃ v i' h', spec_l01Below.f s i h n = some (v, i', h') ∧ 0 ≤ v ∧ v < n ∧ 0 ≤ i' ∧ i' ≤ 1048576 := by
  unfold spec_l01Below.f
  obtain ⟨v, i', h', e, v0, v1, a, b⟩ := l01Byte_ex s i h h0 h1 hs
  rw [if_neg (by omega), if_pos n2, e, Option.bind_some, if_neg (by omega)]
  refine ⟨_, _, _, rfl, ?_, ?_, a, b⟩
  · simp only []
    rw [Int.tmod_eq_emod_of_nonneg v0]
    exact Int.emod_nonneg v (by omega)
  · simp only []
    rw [Int.tmod_eq_emod_of_nonneg v0]
    have := Int.emod_lt_of_pos v (show 0 < n by omega)
    omega
theorem l01Once_ex (s : List Int) (i h n : Int) (h0 : 0 ≤ i) (h1 : i ≤ 1048576) (hs : s.length ≤ 1048576) (n1 : 1 ≤ n) (n2 : n ≤ 256) : ∃ v i' h', spec_l01Once.f s i h n = some (v, i', h') ∧ 0 ≤ i' ∧ i' ≤ 1048576 := by
  unfold spec_l01Once.f
  obtain ⟨v, i', h', e, _, _, a, b⟩ := l01Below_ex s i h n h0 h1 hs n1 n2
  rw [e, Option.bind_some]
  exact ⟨_, _, _, rfl, a, b⟩
theorem l06Draw_l (s : List Int) (hs : s.length ≤ 1048576) (u v : Int) (d : Nat) : ∀ (j i h : Int) (G : List Int), 1 ≤ j → j + d = 4 → 0 ≤ i → i ≤ 1048576 → (∀ x, x ∈ G → 0 ≤ x ∧ x < j) → G.Pairwise (· < ·) → (G.length : Int) < j →
    ∃ G' i' h', Ev (fun k => spec_l06Draw.l0 k j s i h u v G) (u, v, G', i', h') ∧ (∀ x, x ∈ G' → 0 ≤ x ∧ x < 4) ∧ G'.Pairwise (· < ·) ∧ (G'.length : Int) < 4 := by
  induction d with
  | zero =>
    intro j i h G h1 hd i0 i1 hg hp hl
    exact ⟨G, i, h, Ev.step (fun _ => spec_l06Draw.l0.eq_2 ..) (Ev.neg (by omega) (Ev.now _)), fun x hx => by have := hg x hx; omega, hp, by omega⟩
  | succ d ih =>
    intro j i h G h1 hd i0 i1 hg hp hl
    obtain ⟨t, i2, h2, e, a, b⟩ := l01Once_ex s i h 4 i0 i1 hs (by omega) (by omega)
    by_cases ht : t = true
    · obtain ⟨G', i', h', g, r⟩ := ih (j + 1) i2 h2 (G ++ [j]) (by omega) (by omega) a b (by
        intro x hx
        rcases List.mem_append.1 hx with hx | hx
        · have := hg x hx; omega
        · rw [List.mem_singleton.1 hx]; omega) (List.pairwise_append.2 ⟨hp, List.pairwise_singleton _ _, fun x hx y hy => by rw [List.mem_singleton.1 hy]; exact (hg x hx).2⟩) (by rw [List.length_append, List.length_singleton]; omega)
      refine ⟨G', i', h', Ev.step (fun _ => spec_l06Draw.l0.eq_2 ..) (Ev.pos (by omega) (Ev.bind0 e (Ev.pos ht (Ev.pos (by omega) ?_)))), r⟩
      rw [w64 (n := j + 1) (by omega) (by omega)]
      exact g
    · obtain ⟨G', i', h', g, r⟩ := ih (j + 1) i2 h2 G (by omega) (by omega) a b (fun x hx => by have := hg x hx; omega) hp (by omega)
      refine ⟨G', i', h', Ev.step (fun _ => spec_l06Draw.l0.eq_2 ..) (Ev.pos (by omega) (Ev.bind0 e (Ev.neg ht ?_))), r⟩
      rw [w64 (n := j + 1) (by omega) (by omega)]
      exact g
theorem makeCred_ex (s : List Int) (hs : s.length ≤ 1048576) (n : Int) (h0 : 0 ≤ n) (hn : n ≤ 1000) : ∃ u v G, Ev (fun k => spec_MakeCred.f k s n) (u, v, G) ∧ Ev (fun k => impl_IsCred.f k u v G) true := by
  unfold spec_MakeCred.f spec_l06Draw.f
  obtain ⟨i, h, g, a, b⟩ := l25New_ex s hs n h0 hn
  obtain ⟨u, i2, h2, e, u0, u1, a2, b2⟩ := l01Below_ex s i h 4 a b hs (by omega) (by omega)
  obtain ⟨v, i3, h3, e2, v0, v1, a3, b3⟩ := l01Below_ex s i2 h2 4 a2 b2 hs (by omega) (by omega)
  obtain ⟨G, i4, h4, g2, r1, r2, r3⟩ := l06Draw_l s hs u v 3 1 i3 h3 [] (by omega) (by omega) a3 b3 (fun x hx => by cases hx) List.Pairwise.nil (by simp)
  refine ⟨u, v, G, Ev.bind g (Ev.bind (a := (u, v, G, i4, h4)) (Ev.bind0 e (Ev.bind0 e2 g2)) (Ev.now _)), ?_⟩
  unfold impl_IsCred.f
  exact isCredI_l u v ⟨u0, by omega⟩ ⟨v0, by omega⟩ G (by omega) (fun x hx => by have := r1 x hx; omega) r2 G.length 0 (by omega) (by omega)

/-- One entry is well formed. -/
def entryM (x : S120) : Bool := decide (0 ≤ x.f2 ∧ x.f2 ≤ 7 ∧ ((x.f0 = 1 ∨ x.f0 = 2) ∧ 0 ≤ x.f1 ∧ x.f1 ≤ 3 ∨ x.f0 = 3 ∧ x.f1 = 0))
/-- Two neighbours rise. -/
def riseM (x y : S120) : Bool := decide (x.f0 < y.f0 ∨ x.f0 = y.f0 ∧ x.f1 < y.f1)
/-- The entries from one with a left neighbour on. -/
def aclFrom : Option S120 → List S120 → Bool
  | none, [] => true
  | some p, [] => decide (p.f0 = 3)
  | none, x :: l => entryM x && aclFrom (some x) l
  | some p, x :: l => entryM x && (riseM p x && aclFrom (some x) l)
def isAclM (l : List S120) : Bool := decide (l.length ≤ 6) && aclFrom none l
/-- What stands left of place i. -/
def leftOf (xs : List S120) (i : Int) : Option S120 := if i > 0 then some (rd_T120 xs (i - 1)) else none
theorem rd_last (xs : List S120) (i : Int) (h : (xs.length : Int) ≤ i) (h0 : 0 ≤ i) (hi : i ≤ (xs.length : Int)) : i = (xs.length : Int) := by omega
theorem cmp_impl (a b : Int) : cmp_Compare_int.f a b = some (if a < b then -1 else if a > b then 1 else 0) := by
  unfold cmp_Compare_int.f cmp_isNaN_int.f
  simp only [bne_self_eq_false, Option.bind_some]
  rw [if_neg (by simp), if_neg (by simp)]
  repeat' split
  all_goals rfl
theorem cmpOr_impl (a b : Int) : Ev (fun k => cmp_Or_int.f k [a, b]) (if a = 0 then b else a) := by
  unfold cmp_Or_int.f
  refine Ev.step (fun _ => cmp_Or_int.l0.eq_2 ..) (Ev.pos (by simp) (Ev.pos (by decide) (Ev.pos (by simp) ?_)))
  rw [show rd [a, b] 0 = a from rfl, show wrap64 (0 + 1) = 1 by unfold wrap64; omega]
  by_cases ha : a = 0
  · refine Ev.pos ha (Ev.step (fun _ => cmp_Or_int.l0.eq_2 ..) (Ev.pos (by simp) (Ev.pos (by decide) (Ev.pos (by simp) ?_))))
    rw [show rd [a, b] 1 = b from rfl, show wrap64 (1 + 1) = 2 by unfold wrap64; omega, if_pos ha]
    by_cases hb : b = 0
    · refine Ev.pos hb (Ev.step (fun _ => cmp_Or_int.l0.eq_2 ..) (Ev.neg (by simp) ?_))
      rw [hb]
      exact Ev.now _
    · exact Ev.neg hb (Ev.now _)
  · rw [if_neg ha]
    exact Ev.neg ha (Ev.now _)
theorem isAcl_j3 {xs : List S120} (hx : xs.length ≤ 1048576) {i : Int} (h0 : 0 ≤ i) (hi : i < (xs.length : Int)) (a b c : Int) {r : Bool} {l : List S120} (he : entryM ⟨a, b, c⟩ = true) (hr : aclFrom (some ⟨a, b, c⟩) l = r) (h : Ev (fun k => impl_IsAcl.l0 k xs xs (xs.length : Int) (i + 1)) r) :
    Ev (fun k => impl_IsAcl.j3 k xs i xs (xs.length : Int) i a b c) (aclFrom (leftOf xs i) (⟨a, b, c⟩ :: l)) := by
  refine Ev.step (fun _ => impl_IsAcl.j3.eq_2 ..) ?_
  rw [w64 (n := i + 1) (by omega) (by omega), w64 (n := i - 1) (by omega) (by omega)]
  by_cases c2 : i > 0
  · rw [show leftOf xs i = some (rd_T120 xs (i - 1)) by unfold leftOf; rw [if_pos c2], aclFrom, he, Bool.true_and, hr]
    generalize rd_T120 xs (i - 1) = y at *
    refine Ev.pos c2 (Ev.pos (by omega) (Ev.pos (by omega) (Ev.bind0 (cmp_impl _ _) (Ev.bind0 (cmp_impl _ _) (Ev.bind (cmpOr_impl _ _) ?_)))))
    by_cases hc : y.f0 < a ∨ y.f0 = a ∧ y.f1 < b
    · rw [show riseM y ⟨a, b, c⟩ = true by unfold riseM; exact decide_eq_true hc, Bool.true_and]
      refine Ev.neg ?_ h
      repeat' split
      all_goals omega
    · rw [show riseM y ⟨a, b, c⟩ = false by unfold riseM; exact decide_eq_false hc, Bool.false_and]
      refine Ev.pos ?_ (Ev.now _)
      repeat' split
      all_goals omega
  · rw [show leftOf xs i = none by unfold leftOf; rw [if_neg c2], aclFrom, he, Bool.true_and, hr]
    exact Ev.neg c2 h
theorem isAcl_impl_l (xs : List S120) (hx : xs.length ≤ 1048576) (l : List S120) : ∀ (i : Int), 0 ≤ i → i ≤ (xs.length : Int) → xs.drop i.toNat = l →
    Ev (fun k => impl_IsAcl.l0 k xs xs (xs.length : Int) i) (aclFrom (leftOf xs i) l) := by
  induction l with
  | nil =>
    intro i h0 hi h
    have h1 := ldrop_nil h0 h
    have hi' : i = (xs.length : Int) := by omega
    subst hi'
    refine Ev.step (fun _ => impl_IsAcl.l0.eq_2 ..) (Ev.neg (by omega) ?_)
    by_cases hz : (xs.length : Int) = 0
    · refine Ev.pos hz ?_
      rw [show leftOf xs (xs.length : Int) = none by unfold leftOf; rw [if_neg (by omega)], aclFrom]
      exact Ev.now _
    · refine Ev.neg hz ?_
      rw [show leftOf xs (xs.length : Int) = some (rd_T120 xs ((xs.length : Int) - 1)) by unfold leftOf; rw [if_pos (by omega)], aclFrom, w64 (by omega) (by omega)]
      exact Ev.pos (by omega) (Ev.pos (by omega) (Ev.now _))
  | cons x l ih =>
    intro i h0 hi h
    obtain ⟨p, q, c, e⟩ := ldrop_cons z120 h0 h
    have hx' : rd_T120 xs i = x := q
    have := ih (i + 1) (by omega) (by omega) c
    rw [show leftOf xs (i + 1) = some x by unfold leftOf; rw [if_pos (by omega), show i + 1 - 1 = i by omega, hx']] at this
    have bad : entryM x = false → aclFrom (leftOf xs i) (x :: l) = false := by
      intro c1'
      cases leftOf xs i <;> simp [aclFrom, c1']
    refine Ev.step (fun _ => impl_IsAcl.l0.eq_2 ..) (Ev.pos p (Ev.pos h0 (Ev.pos p ?_)))
    rw [hx']
    obtain ⟨a, b, d⟩ := x
    simp only
    have j1no : Ev (fun k => impl_IsAcl.j1 k xs i xs (xs.length : Int) i true a b d) false := Ev.step (fun _ => impl_IsAcl.j1.eq_2 ..) (Ev.pos rfl (Ev.now _))
    by_cases d1 : d < 0
    · rw [bad (by unfold entryM; apply decide_eq_false; simp only; omega)]
      exact Ev.pos d1 j1no
    · refine Ev.neg d1 ?_
      by_cases d2 : d > 7
      · rw [bad (by unfold entryM; apply decide_eq_false; simp only; omega), show decide (d > 7) = true by simpa using d2]
        exact j1no
      · rw [show decide (d > 7) = false by simpa using d2]
        refine Ev.step (fun _ => impl_IsAcl.j1.eq_2 ..) (Ev.neg (by simp) ?_)
        have j2 : ∀ t : Bool, t = decide (a = 1 ∨ a = 2) → Ev (fun k => impl_IsAcl.j2 k xs i xs (xs.length : Int) i a t a b d) (aclFrom (leftOf xs i) (⟨a, b, d⟩ :: l)) := by
          intro t ht
          refine Ev.step (fun _ => impl_IsAcl.j2.eq_2 ..) ?_
          by_cases h12 : a = 1 ∨ a = 2
          · refine Ev.pos (by rw [ht]; exact decide_eq_true h12) (Ev.bind0 (isUser_impl b) ?_)
            by_cases hb : 0 ≤ b ∧ b ≤ 3
            · exact Ev.pos (by simpa using hb) (isAcl_j3 hx h0 p a b d (by unfold entryM; apply decide_eq_true; simp only; omega) rfl this)
            · rw [bad (by unfold entryM; apply decide_eq_false; simp only; omega)]
              exact Ev.neg (by simpa using hb) (Ev.now _)
          · refine Ev.neg (by rw [ht]; simpa using h12) ?_
            by_cases h3 : a = 3
            · refine Ev.pos h3 ?_
              by_cases hb : b = 0
              · exact Ev.pos hb (isAcl_j3 hx h0 p a b d (by unfold entryM; apply decide_eq_true; simp only; omega) rfl this)
              · rw [bad (by unfold entryM; apply decide_eq_false; simp only; omega)]
                exact Ev.neg hb (Ev.now _)
            · rw [bad (by unfold entryM; apply decide_eq_false; simp only; omega)]
              exact Ev.neg h3 (Ev.now _)
        by_cases h1 : a = 1
        · exact Ev.pos h1 (j2 _ (by simp [h1]))
        · exact Ev.neg h1 (j2 _ (by simp [h1]; rfl))
theorem isAcl_impl (xs : List S120) (hx : xs.length ≤ 1048576) : Ev (fun k => impl_IsAcl.f k xs) (isAclM xs) := by
  unfold impl_IsAcl.f isAclM
  by_cases h : (xs.length : Int) > 6
  · rw [show decide (xs.length ≤ 6) = false by simp only [decide_eq_false_iff_not]; omega, Bool.false_and]
    exact Ev.pos h (Ev.now _)
  · rw [show decide (xs.length ≤ 6) = true by simp only [decide_eq_true_eq]; omega, Bool.true_and]
    exact Ev.neg h (isAcl_impl_l xs hx xs 0 (by omega) (by omega) rfl)

theorem l01BelowB_ex (s : List Int) (i h : Int) (h0 : 0 ≤ i) (h1 : i ≤ 1048576) (hs : s.length ≤ 1048576) (n : Int) (hn : 1 ≤ n) (hn2 : n ≤ 256) : ∃ v i' h', spec_l01Below.f s i h n = some (v, i', h') ∧ 0 ≤ v ∧ v < n ∧ 0 ≤ i' ∧ i' ≤ 1048576 := by
  obtain ⟨v, i', h', e, v0, v1, a, b⟩ := l01Byte_ex s i h h0 h1 hs
  refine ⟨Int.tmod v n, i', h', ?_, ?_, ?_, a, b⟩
  · unfold spec_l01Below.f
    rw [if_neg (by omega), if_pos hn2, e, Option.bind_some]
    simp only []
    rw [if_neg (by omega)]
  · exact Int.tmod_nonneg n v0
  · rw [Int.tmod_eq_emod_of_nonneg v0]
    exact Int.emod_lt_of_pos v (by omega)
theorem l01Pick_ex (s : List Int) (i h : Int) (h0 : 0 ≤ i) (h1 : i ≤ 1048576) (hs : s.length ≤ 1048576) (l : List Int) (hl : 1 ≤ l.length) (hl2 : l.length ≤ 256) : ∃ v i' h', spec_l01Pick.f s i h l = some (v, i', h') ∧ 0 ≤ i' ∧ i' ≤ 1048576 := by
  obtain ⟨v, i', h', e, v0, v1, a, b⟩ := l01BelowB_ex s i h h0 h1 hs (l.length : Int) (by omega) (by omega)
  refine ⟨rd l v, i', h', ?_, a, b⟩
  · unfold spec_l01Pick.f
    rw [e, Option.bind_some]
    simp only []
    rw [if_pos v0, if_pos v1]
theorem l01Pick_in (s : List Int) (i h : Int) (h0 : 0 ≤ i) (h1 : i ≤ 1048576) (hs : s.length ≤ 1048576) (l : List Int) (hl : 1 ≤ l.length) (hl2 : l.length ≤ 256) : ∃ v i' h', spec_l01Pick.f s i h l = some (v, i', h') ∧ v ∈ l := by
  obtain ⟨v, i', h', e, v0, v1, a, b⟩ := l01BelowB_ex s i h h0 h1 hs (l.length : Int) (by omega) (by omega)
  refine ⟨rd l v, i', h', ?_, ?_⟩
  · unfold spec_l01Pick.f
    rw [e, Option.bind_some]
    simp only []
    rw [if_pos v0, if_pos v1]
  · have hlt : v.toNat < l.length := by omega
    show l.getD v.toNat 0 ∈ l
    rw [List.getD_eq_getElem?_getD, List.getElem?_eq_getElem hlt]
    exact List.getElem_mem hlt
def chF : Option S120 → List S120 → Prop
  | _, [] => True
  | o, x :: l => entryM x = true ∧ (∀ p, o = some p → riseM p x = true) ∧ chF (some x) l
theorem chF_append (l : List S120) (y : S120) (hy : entryM y = true) : ∀ o, chF o l → (∀ p, o = some p → riseM p y = true) → (∀ x ∈ l, riseM x y = true) → chF o (l ++ [y]) := by
  induction l with
  | nil => exact fun o _ h _ => ⟨hy, h, trivial⟩
  | cons x l ih =>
    intro o h ho hl
    exact ⟨h.1, h.2.1, ih (some x) h.2.2 (fun p hp => by rw [← Option.some.inj hp]; exact hl x (List.mem_cons_self ..)) (fun z hz => hl z (List.mem_cons_of_mem _ hz))⟩
theorem chF_acl (l : List S120) (y : S120) (hy : y.f0 = 3) : ∀ o, chF o (l ++ [y]) → aclFrom o (l ++ [y]) = true := by
  induction l with
  | nil =>
    intro o h
    have h3 : aclFrom (some y) [] = true := decide_eq_true hy
    cases o with
    | none =>
      show (entryM y && aclFrom (some y) []) = true
      rw [h.1, h3]
      rfl
    | some p =>
      show (entryM y && (riseM p y && aclFrom (some y) [])) = true
      rw [h.1, h.2.1 p rfl, h3]
      rfl
  | cons x l ih =>
    intro o h
    have h3 := ih (some x) h.2.2
    cases o with
    | none =>
      show (entryM x && aclFrom (some x) (l ++ [y])) = true
      rw [h.1, h3]
      rfl
    | some p =>
      show (entryM x && (riseM p x && aclFrom (some x) (l ++ [y]))) = true
      rw [h.1, h.2.1 p rfl, h3]
      rfl
/-- What is drawn so far: rising entries, all below a tag and a number. -/
def DrawI (x3 : List S120) (t u : Int) : Prop := x3.length ≤ 4 ∧ chF none x3 ∧ ∀ x ∈ x3, x.f0 < t ∨ x.f0 = t ∧ x.f1 < u
theorem once_ex (s : List Int) (i h : Int) (h0 : 0 ≤ i) (h1 : i ≤ 1048576) (hs : s.length ≤ 1048576) : ∃ b i' h', spec_l01Once.f s i h 3 = some (b, i', h') ∧ 0 ≤ i' ∧ i' ≤ 1048576 := by
  obtain ⟨v, i', h', e, _, _, a, b⟩ := l01BelowB_ex s i h h0 h1 hs 3 (by decide) (by decide)
  refine ⟨(v == 0), i', h', ?_, a, b⟩
  unfold spec_l01Once.f
  rw [e, Option.bind_some]
theorem draw_l1 (s : List Int) (hs : s.length ≤ 1048576) (t : Int) (ht : t = 1 ∨ t = 2) (K : ∀ (x3 : List S120) (i h : Int), DrawI x3 (t + 1) 0 → 0 ≤ i → i ≤ 1048576 → ∃ r, Ev (fun k => spec_l05Draw.l0 k x3 (t + 1) s i h) r ∧ isAclM r.1 = true) (d : Nat) :
    ∀ (x3 : List S120) (u i h : Int), u + d = 4 → 1 ≤ u → DrawI x3 t u → 0 ≤ i → i ≤ 1048576 → ∃ r, Ev (fun k => spec_l05Draw.l1 k x3 t u s i h) r ∧ isAclM r.1 = true := by
  induction d with
  | zero =>
    intro x3 u i h hu hu1 hI h0 h1
    obtain ⟨r, e, g⟩ := K x3 i h ⟨hI.1, hI.2.1, fun x hx => by have := hI.2.2 x hx; omega⟩ h0 h1
    refine ⟨r, Ev.step (fun _ => spec_l05Draw.l1.eq_2 ..) (Ev.neg (by omega) ?_), g⟩
    rw [w64 (n := t + 1) (by omega) (by omega)]
    exact e
  | succ d ih =>
    intro x3 u i h hu hu1 hI h0 h1
    have next : DrawI x3 t (u + 1) := ⟨hI.1, hI.2.1, fun x hx => by have := hI.2.2 x hx; omega⟩
    obtain ⟨b, i2, h2, e, a0, a1⟩ := once_ex s i h h0 h1 hs
    have hw : wrap64 (u + 1) = u + 1 := w64 (by omega) (by omega)
    cases b with
    | false =>
      obtain ⟨r, g1, g2⟩ := ih x3 (u + 1) i2 h2 (by omega) (by omega) next a0 a1
      refine ⟨r, Ev.step (fun _ => spec_l05Draw.l1.eq_2 ..) (Ev.pos (by omega) (Ev.bind0 e (Ev.neg (by simp) ?_))), g2⟩
      rw [hw]
      exact g1
    | true =>
      by_cases h4 : (x3.length : Int) < 4
      · obtain ⟨v, i3, h3, e2, v0, v1, b0, b1⟩ := l01BelowB_ex s i2 h2 a0 a1 hs 8 (by decide) (by decide)
        have hy : entryM (⟨t, u, v⟩ : S120) = true := decide_eq_true (by simp only []; omega)
        have hI2 : DrawI (x3 ++ [⟨t, u, v⟩]) t (u + 1) := by
          refine ⟨by rw [List.length_append, List.length_singleton]; omega, chF_append x3 _ hy none hI.2.1 (fun p hp => by cases hp) (fun x hx => ?_), fun x hx => ?_⟩
          · have := hI.2.2 x hx
            exact decide_eq_true (by simp only []; omega)
          · rcases List.mem_append.1 hx with hx | hx
            · have := hI.2.2 x hx
              omega
            · rw [List.mem_singleton.1 hx]
              exact Or.inr ⟨rfl, by simp only []; omega⟩
        obtain ⟨r, g1, g2⟩ := ih (x3 ++ [⟨t, u, v⟩]) (u + 1) i3 h3 (by omega) (by omega) hI2 b0 b1
        refine ⟨r, Ev.step (fun _ => spec_l05Draw.l1.eq_2 ..) (Ev.pos (by omega) (Ev.bind0 e (Ev.pos rfl (Ev.pos h4 (Ev.bind0 e2 (Ev.pos (by omega) ?_)))))), g2⟩
        rw [hw]
        exact g1
      · obtain ⟨r, g1, g2⟩ := ih x3 (u + 1) i2 h2 (by omega) (by omega) next a0 a1
        refine ⟨r, Ev.step (fun _ => spec_l05Draw.l1.eq_2 ..) (Ev.pos (by omega) (Ev.bind0 e (Ev.pos rfl (Ev.neg h4 ?_)))), g2⟩
        rw [hw]
        exact g1
theorem draw_end (s : List Int) (hs : s.length ≤ 1048576) (x3 : List S120) (i h : Int) (hI : DrawI x3 3 0) (h0 : 0 ≤ i) (h1 : i ≤ 1048576) : ∃ r, Ev (fun k => spec_l05Draw.l0 k x3 3 s i h) r ∧ isAclM r.1 = true := by
  obtain ⟨v, i2, h2, e, hv⟩ := l01Pick_in s i h h0 h1 hs [7, 7, 6, 5, 4, 0] (by decide) (by decide)
  have hv' : 0 ≤ v ∧ v ≤ 7 := by
    simp only [List.mem_cons, List.not_mem_nil, or_false] at hv
    omega
  have hy : entryM (⟨3, 0, v⟩ : S120) = true := decide_eq_true ⟨hv'.1, hv'.2, Or.inr ⟨rfl, rfl⟩⟩
  have hl := hI.1
  refine ⟨(x3 ++ [⟨3, 0, v⟩], i2, h2), Ev.step (fun _ => spec_l05Draw.l0.eq_2 ..) (Ev.neg (by decide) (Ev.bind0 e (Ev.pos (by omega) (Ev.now _)))), ?_⟩
  have hc : aclFrom none (x3 ++ [⟨3, 0, v⟩]) = true := chF_acl x3 _ rfl none (chF_append x3 _ hy none hI.2.1 (fun p hp => by cases hp) (fun x hx => by
    have := hI.2.2 x hx
    exact decide_eq_true (by simp only []; omega)))
  show isAclM (x3 ++ [⟨3, 0, v⟩]) = true
  unfold isAclM
  rw [hc, Bool.and_true]
  exact decide_eq_true (by rw [List.length_append, List.length_singleton]; omega)
theorem draw_l0 (s : List Int) (hs : s.length ≤ 1048576) (t : Int) (ht : t = 1 ∨ t = 2) (K : ∀ (x3 : List S120) (i h : Int), DrawI x3 (t + 1) 0 → 0 ≤ i → i ≤ 1048576 → ∃ r, Ev (fun k => spec_l05Draw.l0 k x3 (t + 1) s i h) r ∧ isAclM r.1 = true) (x3 : List S120) (i h : Int) (hI : DrawI x3 t 0) (h0 : 0 ≤ i) (h1 : i ≤ 1048576) : ∃ r, Ev (fun k => spec_l05Draw.l0 k x3 t s i h) r ∧ isAclM r.1 = true := by
  obtain ⟨r, g1, g2⟩ := draw_l1 s hs t ht K 3 x3 1 i h (by omega) (by omega) ⟨hI.1, hI.2.1, fun x hx => by have := hI.2.2 x hx; omega⟩ h0 h1
  exact ⟨r, Ev.step (fun _ => spec_l05Draw.l0.eq_2 ..) (Ev.pos (by omega) g1), g2⟩
theorem makeAcl_ex (s : List Int) (hs : s.length ≤ 1048576) (n : Int) (h0 : 0 ≤ n) (hn : n ≤ 1000) : ∃ l, Ev (fun k => spec_MakeAcl.f k s n) l ∧ isAclM l = true := by
  obtain ⟨i, h, g, a, b⟩ := l25New_ex s hs n h0 hn
  obtain ⟨o, i2, h2, e, a2, b2⟩ := once_ex s i h a b hs
  have hd : ∃ r, Ev (fun k => spec_l05Draw.f k s i h) r ∧ isAclM r.1 = true := by
    unfold spec_l05Draw.f
    cases o with
    | true => exact ⟨([], i2, h2), Ev.bind0 rfl (Ev.bind0 e (Ev.pos rfl (Ev.now _))), rfl⟩
    | false =>
      obtain ⟨r, p1, p2⟩ := draw_l0 s hs 1 (Or.inl rfl) (fun x3 i h hI h0 h1 => draw_l0 s hs 2 (Or.inr rfl) (fun x3 i h hI h0 h1 => draw_end s hs x3 i h hI h0 h1) x3 i h hI h0 h1) [] i2 h2 ⟨by decide, trivial, fun x hx => by cases hx⟩ a2 b2
      exact ⟨r, Ev.bind0 rfl (Ev.bind0 e (Ev.neg (by simp) p1)), p2⟩
  obtain ⟨r, p1, p2⟩ := hd
  unfold spec_MakeAcl.f
  exact ⟨r.1, Ev.bind g (Ev.bind p1 (Ev.now _)), p2⟩

theorem isMode_impl (a : Int) : impl_isMode.f a = some (decide (0 ≤ a ∧ a ≤ 2047)) := by
  unfold impl_isMode.f
  by_cases h : a ≥ 0
  · rw [if_pos h]
    simp [show 0 ≤ a from h]
  · rw [if_neg h]
    simp [show ¬ 0 ≤ a from h]

theorem permOf_impl (m c : Int) : impl_PermOf.f m c = some (permOf m c) := by
  unfold impl_PermOf.f
  rw [isMode_impl]
  simp only [Option.bind_some, decide_eq_true_eq]
  by_cases hm : 0 ≤ m ∧ m ≤ 2047
  · rw [if_pos hm]
    by_cases h1 : c < 0
    · rw [if_pos h1]
      unfold permOf
      rw [if_neg (by omega)]
    · rw [if_neg h1]
      by_cases h2 : c > 2
      · rw [if_pos h2]
        unfold permOf
        rw [if_neg (by omega)]
      · rw [if_neg h2]
        unfold permOf
        rw [if_pos (show 0 ≤ m ∧ m ≤ 2047 ∧ 0 ≤ c ∧ c ≤ 2 by omega)]
        obtain rfl | rfl | rfl : c = 0 ∨ c = 1 ∨ c = 2 := by omega
        · rw [show wrap64 (6 - wrap64 (3 * 0)) = 6 by unfold wrap64; omega, if_pos (by decide), shr_at (y := 6) 6 rfl (by decide), i64_and7 (by omega) (by omega), if_pos rfl]
          rfl
        · rw [show wrap64 (6 - wrap64 (3 * 1)) = 3 by unfold wrap64; omega, if_pos (by decide), shr_at (y := 3) 3 rfl (by decide), i64_and7 (by omega) (by omega), if_neg (by decide), if_pos rfl]
          rfl
        · rw [show wrap64 (6 - wrap64 (3 * 2)) = 0 by unfold wrap64; omega, if_pos (by decide), shr_at (y := 0) 0 rfl (by decide), i64_and7 (by omega) (by omega), if_neg (by decide), if_neg (by decide)]
          simp
  · rw [if_neg hm]
    unfold permOf
    rw [if_neg (by omega)]

def maskM : List S120 → Int
  | [] => 7
  | x :: l => if x.f0 = 3 then x.f2 else maskM l
theorem maskOf_impl_l (xs : List S120) (hx : xs.length ≤ 1048576) (l : List S120) : ∀ (i : Int), 0 ≤ i → xs.drop i.toNat = l → Ev (fun k => impl_MaskOf.l0 k xs (xs.length : Int) i) (maskM l) := by
  induction l with
  | nil =>
    intro i h0 h
    have := ldrop_nil h0 h
    exact Ev.step (fun _ => impl_MaskOf.l0.eq_2 ..) (Ev.neg (by omega) (Ev.now _))
  | cons x l ih =>
    intro i h0 h
    obtain ⟨p, q, c, e⟩ := ldrop_cons z120 h0 h
    refine Ev.step (fun _ => impl_MaskOf.l0.eq_2 ..) (Ev.pos p (Ev.pos h0 (Ev.pos p ?_)))
    rw [show rd_T120 xs i = x from q, w64 (by omega) (by omega), maskM]
    by_cases c1 : x.f0 = 3
    · rw [if_pos c1]
      exact Ev.pos c1 (Ev.now _)
    · rw [if_neg c1]
      exact Ev.neg c1 (ih (i + 1) (by omega) c)
theorem maskOf_impl (xs : List S120) (hx : xs.length ≤ 1048576) : Ev (fun k => impl_MaskOf.f k xs) (maskM xs) := maskOf_impl_l xs hx xs 0 (by omega) rfl

def permM (t i : Int) : List S120 → Int × Bool
  | [] => (0, false)
  | x :: l => if x.f0 = t ∧ x.f1 = i then (x.f2, true) else permM t i l
theorem aclPerm_impl_l (t u : Int) (xs : List S120) (hx : xs.length ≤ 1048576) (l : List S120) : ∀ (i : Int), 0 ≤ i → xs.drop i.toNat = l → Ev (fun k => impl_AclPerm.l0 k t u xs (xs.length : Int) i) (permM t u l) := by
  induction l with
  | nil =>
    intro i h0 h
    have := ldrop_nil h0 h
    exact Ev.step (fun _ => impl_AclPerm.l0.eq_2 ..) (Ev.neg (by omega) (Ev.now _))
  | cons x l ih =>
    intro i h0 h
    obtain ⟨p, q, c, e⟩ := ldrop_cons z120 h0 h
    have := ih (i + 1) (by omega) c
    refine Ev.step (fun _ => impl_AclPerm.l0.eq_2 ..) (Ev.pos p (Ev.pos h0 (Ev.pos p ?_)))
    rw [show rd_T120 xs i = x from q, w64 (by omega) (by omega), permM]
    by_cases c1 : x.f0 = t <;> by_cases c2 : x.f1 = u
    · rw [if_pos ⟨c1, c2⟩]
      exact Ev.pos c1 (Ev.pos c2 (Ev.now _))
    · rw [if_neg (fun h => c2 h.2)]
      exact Ev.pos c1 (Ev.neg c2 this)
    · rw [if_neg (fun h => c1 h.1)]
      exact Ev.neg c1 this
    · rw [if_neg (fun h => c1 h.1)]
      exact Ev.neg c1 this
theorem aclPerm_impl (xs : List S120) (t u : Int) (hx : xs.length ≤ 1048576) : Ev (fun k => impl_AclPerm.f k xs t u) (permM t u xs) := aclPerm_impl_l t u xs hx xs 0 (by omega) rfl

def covM (w x : Int) : Bool := (Go.bits .and .i64 x w) == w
theorem cov_impl (x w : Int) : impl_Allowed_1.f x w = some (covM w x) := rfl
theorem contains_impl (ps : List Int) (w : Int) (h : ps.length ≤ 1048577) : slices_ContainsFunc_int_int.f ps w = some (ps.any (covM w)) := by
  unfold slices_ContainsFunc_int_int.f
  rw [if_pos (by omega)]
  rfl
theorem index_ex (v : Int) (xs : List Int) (hx : xs.length ≤ 1048576) (l : List Int) : ∀ (i : Int), 0 ≤ i → xs.drop i.toNat = l → ∃ j, Ev (fun k => slices_Index_int_int.l0 k xs v (xs.length : Int) i) j := by
  induction l with
  | nil =>
    intro i h0 h
    have := ldrop_nil h0 h
    exact ⟨-1, Ev.step (fun _ => slices_Index_int_int.l0.eq_2 ..) (Ev.neg (by omega) (Ev.now _))⟩
  | cons x l ih =>
    intro i h0 h
    obtain ⟨p, q, c, e⟩ := ldrop_cons (0 : Int) h0 h
    obtain ⟨j, h2⟩ := ih (i + 1) (by omega) c
    by_cases c1 : v = rd xs i
    · exact ⟨i, Ev.step (fun _ => slices_Index_int_int.l0.eq_2 ..) (Ev.pos p (Ev.pos h0 (Ev.pos p (by first | exact Ev.pos c1 (Ev.now _) | exact Ev.pos c1.symm (Ev.now _)))))⟩
    · refine ⟨j, Ev.step (fun _ => slices_Index_int_int.l0.eq_2 ..) (Ev.pos p (Ev.pos h0 (Ev.pos p ?_)))⟩
      rw [w64 (n := i + 1) (by omega) (by omega)]
      first | exact Ev.neg c1 h2 | exact Ev.neg (fun e => c1 e.symm) h2
theorem inGroup_ex (a b : Int) (l : List Int) (g : Int) (hl : l.length ≤ 1048576) : ∃ r, Ev (fun k => impl_InGroup.f k a b l g) r := by
  unfold impl_InGroup.f
  by_cases h : g = b
  · exact ⟨true, Ev.pos h (Ev.now _)⟩
  · obtain ⟨j, h2⟩ := index_ex g l hl l 0 (by omega) rfl
    refine ⟨decide (j ≥ 0), Ev.neg h ?_⟩
    refine Ev.bind (g := fun k => slices_Contains_int_int.f k l g) (a := decide (j ≥ 0)) ?_ (Ev.now _)
    unfold slices_Contains_int_int.f
    exact Ev.bind (g := fun k => slices_Index_int_int.f k l g) h2 (Ev.now _)
def grpL (h : Int → Bool) : List S120 → List Int
  | [] => []
  | x :: l => if x.f0 = 2 then (if h x.f1 = true then x.f2 :: grpL h l else grpL h l) else grpL h l
def endM (w m msk : Int) (ps : List Int) : Bool := if 0 < ps.length then covM w msk && ps.any (covM w) else covM w (permOf m 2)
def alM (h : Int → Bool) (a u g m : Int) (xs : List S120) (w : Int) : Bool := if a = 0 then true else if a = u then covM w (permOf m 0) else if (permM 1 a xs).2 = true then covM w (Go.bits .and .i64 (permM 1 a xs).1 (maskM xs)) else endM w m (maskM xs) ((if h g = true then [permOf m 1] else []) ++ grpL h xs)
theorem allowedI_l (m w msk a b : Int) (G : List Int) (h : Int → Bool) (hh : ∀ g, Ev (fun k => impl_InGroup.f k a b G g) (h g)) (xs : List S120) (hx : xs.length ≤ 1048576) (l : List S120) : ∀ (i : Int) (ps : List Int), 0 ≤ i → i ≤ (xs.length : Int) → xs.drop i.toNat = l → (ps.length : Int) ≤ i + 1 →
    Ev (fun k => impl_Allowed.l0 k m msk ps xs (xs.length : Int) i a b G w) (endM w m msk (ps ++ grpL h l)) := by
  induction l with
  | nil =>
    intro i ps h0 hi hd hp
    have h1 := ldrop_nil h0 hd
    rw [grpL, List.append_nil, endM]
    refine Ev.step (fun _ => impl_Allowed.l0.eq_2 ..) (Ev.neg (by omega) ?_)
    by_cases hc : 0 < ps.length
    · rw [if_pos hc]
      refine Ev.pos (by omega) (Ev.bind0 (cov_impl msk w) ?_)
      cases covM w msk with
      | true => exact Ev.pos rfl (Ev.bind0 (contains_impl ps w (by omega)) (by rw [Bool.true_and]; exact Ev.now _))
      | false => rw [Bool.false_and]; exact Ev.neg (by decide) (Ev.now _)
    · rw [if_neg hc]
      exact Ev.neg (by omega) (Ev.bind0 (permOf_impl m 2) (Ev.bind0 (cov_impl _ w) (Ev.now _)))
  | cons x l ih =>
    intro i ps h0 hi hd hp
    obtain ⟨p, q, c, e⟩ := ldrop_cons z120 h0 hd
    have hr : rd_T120 xs i = x := q
    rw [grpL]
    refine Ev.step (fun _ => impl_Allowed.l0.eq_2 ..) (Ev.pos p (Ev.pos h0 (Ev.pos p ?_)))
    rw [hr, w64 (n := i + 1) (by omega) (by omega)]
    by_cases h2 : x.f0 = 2
    · rw [if_pos h2]
      have hg := hh x.f1
      cases hv : h x.f1 with
      | true =>
        rw [hv] at hg
        rw [if_pos rfl]
        have r2 := ih (i + 1) (ps ++ [x.f2]) (by omega) (by omega) c (by rw [List.length_append, List.length_singleton]; omega)
        rw [List.append_assoc, List.singleton_append] at r2
        exact Ev.pos h2 (Ev.bind hg (Ev.pos rfl (Ev.pos (by omega) r2)))
      | false =>
        rw [hv] at hg
        rw [if_neg (by decide)]
        exact Ev.pos h2 (Ev.bind hg (Ev.neg (by decide) (ih (i + 1) ps (by omega) (by omega) c (by omega))))
    · rw [if_neg h2]
      exact Ev.neg h2 (ih (i + 1) ps (by omega) (by omega) c (by omega))
theorem allowedI (a b : Int) (G : List Int) (u g m w : Int) (xs : List S120) (h : Int → Bool) (hh : ∀ g, Ev (fun k => impl_InGroup.f k a b G g) (h g)) (hx : xs.length ≤ 1048576)
    (hc : Ev (fun k => impl_IsCred.f k a b G) true) (hA : isAclM xs = true) (hu : 0 ≤ u ∧ u ≤ 3) (hg : 0 ≤ g ∧ g ≤ 3) (hm : 0 ≤ m ∧ m ≤ 2047) (hw : 0 ≤ w ∧ w ≤ 7) :
    Ev (fun k => impl_Allowed.f k a b G u g m xs w) (alM h a u g m xs w) := by
  have d2 := isAcl_impl xs hx
  rw [hA] at d2
  unfold impl_Allowed.f
  refine Ev.bind hc (Ev.pos rfl (Ev.bind d2 (Ev.pos rfl (Ev.bind0 (isUser_impl u) (Ev.pos (decide_eq_true hu) (Ev.bind0 (isUser_impl g) (Ev.pos (decide_eq_true hg) (Ev.bind0 (isMode_impl m) (Ev.pos (decide_eq_true hm) (Ev.neg (by omega) ?_))))))))))
  rw [decide_eq_false (show ¬ w > 7 by omega)]
  refine Ev.step (fun _ => impl_Allowed.j0.eq_2 ..) (Ev.neg (by decide) ?_)
  unfold alM
  by_cases h0 : a = 0
  · rw [if_pos h0]
    exact Ev.pos h0 (Ev.now _)
  rw [if_neg h0]
  refine Ev.neg h0 ?_
  by_cases h1 : a = u
  · rw [if_pos h1]
    exact Ev.pos h1 (Ev.bind0 (permOf_impl m 0) (Ev.bind0 (cov_impl _ w) (Ev.now _)))
  rw [if_neg h1]
  refine Ev.neg h1 (Ev.bind (maskOf_impl xs hx) (Ev.bind (aclPerm_impl xs 1 a hx) ?_))
  by_cases h2 : (permM 1 a xs).2 = true
  · rw [if_pos h2]
    exact Ev.pos h2 (Ev.bind0 (cov_impl _ w) (Ev.now _))
  rw [if_neg h2]
  refine Ev.neg h2 (Ev.bind0 rfl ?_)
  have hgg := hh g
  cases hv : h g with
  | true =>
    rw [hv] at hgg
    rw [if_pos rfl]
    exact Ev.bind hgg (Ev.pos rfl (Ev.bind0 (permOf_impl m 1) (Ev.pos (by decide) (Ev.step (fun _ => impl_Allowed.j1.eq_2 ..) (allowedI_l m w (maskM xs) a b G h hh xs hx xs 0 [permOf m 1] (by omega) (by omega) rfl (by rw [List.length_singleton]; omega))))))
  | false =>
    rw [hv] at hgg
    rw [if_neg (by decide)]
    exact Ev.bind hgg (Ev.neg (by decide) (Ev.step (fun _ => impl_Allowed.j1.eq_2 ..) (allowedI_l m w (maskM xs) a b G h hh xs hx xs 0 [] (by omega) (by omega) rfl (by decide))))

theorem cov_mono8 : ∀ e w x : Fin 8, (Go.bits .and .i64 (e.val : Int) (w.val : Int) = (e.val : Int)) → covM (w.val : Int) (x.val : Int) = true → covM (e.val : Int) (x.val : Int) = true := by decide +kernel
theorem cov_and8 : ∀ p q w : Fin 8, covM (w.val : Int) (Go.bits .and .i64 (p.val : Int) (q.val : Int)) = true → covM (w.val : Int) (q.val : Int) = true := by decide +kernel
theorem and_range8 : ∀ p q : Fin 8, 0 ≤ Go.bits .and .i64 (p.val : Int) (q.val : Int) ∧ Go.bits .and .i64 (p.val : Int) (q.val : Int) ≤ 7 := by decide +kernel
theorem cov_mono {e w x : Int} (he : 0 ≤ e ∧ e ≤ 7) (hw : 0 ≤ w ∧ w ≤ 7) (hx : 0 ≤ x ∧ x ≤ 7) (h : Go.bits .and .i64 e w = e) (hc : covM w x = true) : covM e x = true := by
  obtain ⟨e, rfl⟩ := fin_of (m := 8) he.1 (by omega)
  obtain ⟨w, rfl⟩ := fin_of (m := 8) hw.1 (by omega)
  obtain ⟨x, rfl⟩ := fin_of (m := 8) hx.1 (by omega)
  exact cov_mono8 e w x h hc
theorem cov_and {p q w : Int} (hp : 0 ≤ p ∧ p ≤ 7) (hq : 0 ≤ q ∧ q ≤ 7) (hw : 0 ≤ w ∧ w ≤ 7) (hc : covM w (Go.bits .and .i64 p q) = true) : covM w q = true := by
  obtain ⟨p, rfl⟩ := fin_of (m := 8) hp.1 (by omega)
  obtain ⟨q, rfl⟩ := fin_of (m := 8) hq.1 (by omega)
  obtain ⟨w, rfl⟩ := fin_of (m := 8) hw.1 (by omega)
  exact cov_and8 p q w hc
theorem and_range {p q : Int} (hp : 0 ≤ p ∧ p ≤ 7) (hq : 0 ≤ q ∧ q ≤ 7) : 0 ≤ Go.bits .and .i64 p q ∧ Go.bits .and .i64 p q ≤ 7 := by
  obtain ⟨p, rfl⟩ := fin_of (m := 8) hp.1 (by omega)
  obtain ⟨q, rfl⟩ := fin_of (m := 8) hq.1 (by omega)
  exact and_range8 p q
theorem acl_all (l : List S120) : ∀ o, aclFrom o l = true → ∀ x ∈ l, 0 ≤ x.f2 ∧ x.f2 ≤ 7 := by
  induction l with
  | nil => intro o _ x hx; cases hx
  | cons y l ih =>
    intro o h x hx
    have h1 : entryM y = true ∧ aclFrom (some y) l = true := by
      cases o with
      | none =>
        rw [aclFrom, Bool.and_eq_true] at h
        exact h
      | some p =>
        rw [aclFrom, Bool.and_eq_true, Bool.and_eq_true] at h
        exact ⟨h.1, h.2.2⟩
    rcases List.mem_cons.1 hx with e | e
    · subst e
      have := of_decide_eq_true h1.1
      exact ⟨this.1, this.2.1⟩
    · exact ih _ h1.2 x e
theorem mask_range (l : List S120) (h : ∀ x ∈ l, 0 ≤ x.f2 ∧ x.f2 ≤ 7) : 0 ≤ maskM l ∧ maskM l ≤ 7 := by
  induction l with
  | nil => exact ⟨by decide, by decide⟩
  | cons y l ih =>
    rw [maskM]
    by_cases c : y.f0 = 3
    · rw [if_pos c]
      exact h y (List.mem_cons_self ..)
    · rw [if_neg c]
      exact ih (fun x hx => h x (List.mem_cons_of_mem _ hx))
theorem perm_range (t i : Int) (l : List S120) (h : ∀ x ∈ l, 0 ≤ x.f2 ∧ x.f2 ≤ 7) : 0 ≤ (permM t i l).1 ∧ (permM t i l).1 ≤ 7 := by
  induction l with
  | nil => rw [permM]; exact ⟨by decide, by decide⟩
  | cons y l ih =>
    rw [permM]
    by_cases c : y.f0 = t ∧ y.f1 = i
    · rw [if_pos c]
      exact h y (List.mem_cons_self ..)
    · rw [if_neg c]
      exact ih (fun x hx => h x (List.mem_cons_of_mem _ hx))
theorem grp_range (hf : Int → Bool) (l : List S120) (h : ∀ x ∈ l, 0 ≤ x.f2 ∧ x.f2 ≤ 7) : ∀ v ∈ grpL hf l, 0 ≤ v ∧ v ≤ 7 := by
  induction l with
  | nil => intro v hv; cases hv
  | cons y l ih =>
    intro v hv
    have hi := ih (fun x hx => h x (List.mem_cons_of_mem _ hx))
    rw [grpL] at hv
    by_cases c : y.f0 = 2
    · rw [if_pos c] at hv
      by_cases c2 : hf y.f1 = true
      · rw [if_pos c2] at hv
        rcases List.mem_cons.1 hv with e | e
        · subst e
          exact h y (List.mem_cons_self ..)
        · exact hi v e
      · rw [if_neg c2] at hv
        exact hi v hv
    · rw [if_neg c] at hv
      exact hi v hv
theorem end_mono {e w m msk : Int} {ps : List Int} (he : 0 ≤ e ∧ e ≤ 7) (hw : 0 ≤ w ∧ w ≤ 7) (hk : 0 ≤ msk ∧ msk ≤ 7) (hp : ∀ v ∈ ps, 0 ≤ v ∧ v ≤ 7) (h : Go.bits .and .i64 e w = e) (hc : endM w m msk ps = true) : endM e m msk ps = true := by
  unfold endM at hc ⊢
  by_cases c : 0 < ps.length
  · rw [if_pos c, Bool.and_eq_true] at hc
    rw [if_pos c, Bool.and_eq_true]
    refine ⟨cov_mono he hw hk h hc.1, ?_⟩
    obtain ⟨v, hv, h2⟩ := List.any_eq_true.1 hc.2
    exact List.any_eq_true.2 ⟨v, hv, cov_mono he hw (hp v hv) h h2⟩
  · rw [if_neg c] at hc ⊢
    exact cov_mono he hw (permOf_range m 2) h hc
theorem al_mono {hf : Int → Bool} {a u g m e w : Int} {xs : List S120} (he : 0 ≤ e ∧ e ≤ 7) (hw : 0 ≤ w ∧ w ≤ 7) (hx : ∀ x ∈ xs, 0 ≤ x.f2 ∧ x.f2 ≤ 7) (h : Go.bits .and .i64 e w = e) (hc : alM hf a u g m xs w = true) : alM hf a u g m xs e = true := by
  unfold alM at hc ⊢
  by_cases h0 : a = 0
  · rw [if_pos h0]
  rw [if_neg h0] at hc ⊢
  by_cases h1 : a = u
  · rw [if_pos h1] at hc ⊢
    exact cov_mono he hw (permOf_range m 0) h hc
  rw [if_neg h1] at hc ⊢
  by_cases h2 : (permM 1 a xs).2 = true
  · rw [if_pos h2] at hc ⊢
    exact cov_mono he hw (and_range (perm_range 1 a xs hx) (mask_range xs hx)) h hc
  rw [if_neg h2] at hc ⊢
  refine end_mono he hw (mask_range xs hx) ?_ h hc
  intro v hv
  rcases List.mem_append.1 hv with q | q
  · by_cases c : hf g = true
    · rw [if_pos c] at q
      rw [List.mem_singleton.1 q]
      exact permOf_range m 1
    · rw [if_neg c] at q
      cases q
  · exact grp_range hf xs hx v q
section
variable (a b : Int) (G : List Int) (u g m : Int) (xs : List S120) (hf : Int → Bool) (hh : ∀ g, Ev (fun k => impl_InGroup.f k a b G g) (hf g)) (hx : xs.length ≤ 1048576)
    (hc : Ev (fun k => impl_IsCred.f k a b G) true) (hc0 : Ev (fun k => impl_IsCred.f k 0 0 []) true) (hA : isAclM xs = true) (hu : 0 ≤ u ∧ u ≤ 3) (hg : 0 ≤ g ∧ g ≤ 3) (hm : 0 ≤ m ∧ m ≤ 2047) (hr : ∀ x ∈ xs, 0 ≤ x.f2 ∧ x.f2 ≤ 7)
include hh hx hc hA hu hg hm hr
theorem access_l1 (w : Int) (hw : 0 ≤ w ∧ w ≤ 7) (K : Ev (fun k => laws_FnAccess.l0 k xs m u g (w + 1) a b G) true) (d : Nat) : ∀ e : Int, 0 ≤ e → e + d = 8 → Ev (fun k => laws_FnAccess.l1 k xs m u g w (alM hf a u g m xs w) e a b G) true := by
  have K' : Ev (fun k => laws_FnAccess.l0 k xs m u g (wrap64 (w + 1)) a b G) true := by rw [w64 (n := w + 1) (by omega) (by omega)]; exact K
  have j3 : Ev (fun k => laws_FnAccess.j3 k xs m u g w (alM hf a u g m xs w) false a b G) true := by
    refine Ev.step (fun _ => laws_FnAccess.j3.eq_2 ..) (Ev.neg (by decide) ?_)
    by_cases h1 : a = u
    · refine Ev.pos h1 ?_
      by_cases h0 : a = 0
      · exact Ev.pos h0 K'
      · refine Ev.neg h0 (Ev.bind0 (permOf_impl m 0) (Ev.neg ?_ K'))
        have : alM hf a u g m xs w = covM w (permOf m 0) := by unfold alM; rw [if_neg h0, if_pos h1]
        rw [this]
        unfold covM
        simp
    · exact Ev.neg h1 K'
  induction d with
  | zero =>
    intro e h0 hd
    refine Ev.step (fun _ => laws_FnAccess.l1.eq_2 ..) (Ev.neg (by omega) (Ev.bind (aclPerm_impl xs 1 a hx) ?_))
    cases hal : alM hf a u g m xs w with
    | false =>
      rw [hal] at j3
      exact Ev.neg (by decide) j3
    | true =>
      refine Ev.pos rfl ?_
      by_cases h2 : (permM 1 a xs).2 = true
      · refine Ev.pos h2 ?_
        by_cases h0 : a = 0
        · rw [hal] at j3
          exact Ev.pos h0 j3
        · refine Ev.neg h0 ?_
          by_cases h1 : a = u
          · rw [hal] at j3
            exact Ev.pos h1 j3
          · refine Ev.neg h1 (Ev.bind (maskOf_impl xs hx) ?_)
            have h3 : covM w (Go.bits .and .i64 (permM 1 a xs).1 (maskM xs)) = true := by
              have := hal
              unfold alM at this
              rw [if_neg h0, if_neg h1, if_pos h2] at this
              exact this
            have h4 := cov_and (perm_range 1 a xs hr) (mask_range xs hr) hw h3
            have h5 : ((Go.bits .and .i64 (maskM xs) w) != w) = false := by
              unfold covM at h4
              rw [bne, h4]
              rfl
            rw [h5]
            rw [hal] at j3
            exact j3
      · rw [hal] at j3
        exact Ev.neg h2 j3
  | succ d ih =>
    intro e h0 hd
    have nx := ih (e + 1) (by omega) (by omega)
    refine Ev.step (fun _ => laws_FnAccess.l1.eq_2 ..) (Ev.pos (by omega) ?_)
    rw [w64 (n := e + 1) (by omega) (by omega)]
    by_cases h1 : Go.bits .and .i64 e w = e
    · refine Ev.pos h1 ?_
      by_cases h2 : alM hf a u g m xs w = true
      · refine Ev.pos h2 (Ev.bind (allowedI a b G u g m e xs hf hh hx hc hA hu hg hm ⟨h0, by omega⟩) (Ev.pos (al_mono ⟨h0, by omega⟩ hw hr h1 h2) nx))
      · exact Ev.neg h2 nx
    · exact Ev.neg h1 nx
include hc0
theorem access_l0 (d : Nat) : ∀ w : Int, 0 ≤ w → w + d = 8 → Ev (fun k => laws_FnAccess.l0 k xs m u g w a b G) true := by
  induction d with
  | zero =>
    intro w h0 hd
    refine Ev.step (fun _ => laws_FnAccess.l0.eq_2 ..) (Ev.neg (by omega) (Ev.bind hc (Ev.pos rfl (Ev.bind (a := true) ?_ (Ev.now _)))))
    unfold impl_InGroup.f
    exact Ev.pos rfl (Ev.now _)
  | succ d ih =>
    intro w h0 hd
    have hw : 0 ≤ w ∧ w ≤ 7 := ⟨h0, by omega⟩
    have nx := access_l1 a b G u g m xs hf hh hx hc hA hu hg hm hr w hw (ih (w + 1) (by omega) (by omega)) 8 0 (by omega) (by omega)
    have e0 := allowedI 0 0 [] u g m w xs (fun g => Classical.choose (inGroup_ex 0 0 [] g (by decide))) (fun g => Classical.choose_spec (inGroup_ex 0 0 [] g (by decide))) hx hc0 hA hu hg hm hw
    have e1 : ∀ hq, alM hq 0 u g m xs w = true := fun hq => by unfold alM; rw [if_pos rfl]
    rw [e1] at e0
    have j1 : Ev (fun k => laws_FnAccess.j1 k xs m u g w (alM hf a u g m xs w) false a b G) true := Ev.step (fun _ => laws_FnAccess.j1.eq_2 ..) (Ev.neg (by decide) nx)
    refine Ev.step (fun _ => laws_FnAccess.l0.eq_2 ..) (Ev.pos (by omega) (Ev.bind (allowedI a b G u g m w xs hf hh hx hc hA hu hg hm hw) (Ev.bind e0 (Ev.pos rfl ?_))))
    by_cases c1 : w = 0
    · refine Ev.pos c1 ?_
      by_cases c2 : a = 0
      · refine Ev.pos c2 ?_
        have : alM hf a u g m xs w = true := by unfold alM; rw [if_pos c2]
        rw [this] at j1 ⊢
        exact j1
      · exact Ev.neg c2 j1
    · exact Ev.neg c1 j1
end
theorem cred0 : Ev (fun k => impl_IsCred.f k 0 0 []) true := by
  unfold impl_IsCred.f
  exact isCredI_l 0 0 ⟨by omega, by omega⟩ ⟨by omega, by omega⟩ [] (by decide) (fun x hx => by cases hx) List.Pairwise.nil 0 0 (by omega) (by decide)
theorem makeCred_ex4 (s : List Int) (hs : s.length ≤ 1048576) (n : Int) (h0 : 0 ≤ n) (hn : n ≤ 1000) : ∃ u v G, Ev (fun k => spec_MakeCred.f k s n) (u, v, G) ∧ Ev (fun k => impl_IsCred.f k u v G) true ∧ G.length ≤ 1048576 := by
  unfold spec_MakeCred.f spec_l06Draw.f
  obtain ⟨i, h, g, a, b⟩ := l25New_ex s hs n h0 hn
  obtain ⟨u, i2, h2, e, u0, u1, a2, b2⟩ := l01Below_ex s i h 4 a b hs (by omega) (by omega)
  obtain ⟨v, i3, h3, e2, v0, v1, a3, b3⟩ := l01Below_ex s i2 h2 4 a2 b2 hs (by omega) (by omega)
  obtain ⟨G, i4, h4, g2, r1, r2, r3⟩ := l06Draw_l s hs u v 3 1 i3 h3 [] (by omega) (by omega) a3 b3 (fun x hx => by cases hx) List.Pairwise.nil (by simp)
  refine ⟨u, v, G, Ev.bind g (Ev.bind (a := (u, v, G, i4, h4)) (Ev.bind0 e (Ev.bind0 e2 g2)) (Ev.now _)), ?_, by omega⟩
  unfold impl_IsCred.f
  exact isCredI_l u v ⟨u0, by omega⟩ ⟨v0, by omega⟩ G (by omega) (fun x hx => by have := r1 x hx; omega) r2 G.length 0 (by omega) (by omega)
theorem FnAccess : laws_FnAccess.Pure := by
  intro s h1 h2 h3
  apply Ev.rounds
  unfold laws_FnAccess.f
  by_cases hb : (s.length : Int) > 1048576
  · exact Ev.pos hb (Ev.now _)
  · obtain ⟨a, b, G, c1, c2, hG⟩ := makeCred_ex4 s (by omega) 1 (by omega) (by omega)
    obtain ⟨l, l1, l2⟩ := makeAcl_ex s (by omega) 9 (by omega) (by omega)
    obtain ⟨x, x1, x2, x3⟩ := makeNum_ex s (by omega) 2 (by omega) (by omega)
    obtain ⟨y, y1, y2, y3⟩ := makeNum_ex s (by omega) 4 (by omega) (by omega)
    obtain ⟨z, z1, z2, z3⟩ := makeNum_ex s (by omega) 5 (by omega) (by omega)
    have hA := l2
    rw [isAclM, Bool.and_eq_true] at l2
    have hl := of_decide_eq_true l2.1
    have hr := acl_all l none l2.2
    have t1 := Int.tmod_eq_emod_of_nonneg (b := 512) x2
    have t2 := Int.tmod_eq_emod_of_nonneg (b := 4) y2
    have t3 := Int.tmod_eq_emod_of_nonneg (b := 4) z2
    refine Ev.neg hb (Ev.bind c1 (Ev.bind l1 (Ev.bind x1 (Ev.bind y1 (Ev.bind z1 ?_)))))
    exact access_l0 a b G (Int.tmod y 4) (Int.tmod z 4) (Int.tmod x 512) l (fun g => Classical.choose (inGroup_ex a b G g hG)) (fun g => Classical.choose_spec (inGroup_ex a b G g hG)) (by omega) c2 cred0 hA (by omega) (by omega) (by omega) hr 8 0 (by omega) (by omega)

end Go.Proofs.Ytmnojegajblagaa.Pure
