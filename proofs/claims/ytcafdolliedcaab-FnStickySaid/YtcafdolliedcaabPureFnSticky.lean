/- The law FnSticky holds for every input of its kind; no further condition. -/
import Derived.Test.YtcafdolliedcaabPFnStickyx2
import Derived.Test.YtcafdolliedcaabLibBase
namespace Go.Proofs.Ytcafdolliedcaab.Pure
open Go.RowKit Go.Proofs.Ytcafdolliedcaab.PFnSticky Go.Proofs.Ytcafdolliedcaab.Lib Go.Proofs.YtcafdolliedcaabW.PrintWords Go.Proofs.YtcafdolliedcaabW.PrintLast Go.Proofs.YtcafdolliedcaabW.PrintMore
set_option linter.unusedVariables false
set_option linter.unusedSimpArgs false

theorem i64_and255 (n : Int) : Go.bits .and .i64 n 255 = n % 256 := by
  have h127 : (BitVec.ofInt 64 255).toNat = 2 ^ 8 - 1 := by decide
  have key : (BitVec.ofInt 64 n &&& BitVec.ofInt 64 255).toNat = (n % ((2 ^ 64 : Nat) : Int)).toNat % 2 ^ 8 := by
    rw [BitVec.toNat_and, BitVec.toNat_ofInt, h127, Nat.and_two_pow_sub_one_eq_mod]
  show IntKind.i64.wrap ((BitVec.ofInt 64 n &&& BitVec.ofInt 64 255).toNat : Nat) = n % 256
  rw [key, IntKind.wrap_i64]
  omega
theorem l01Byte_ex (s : List Int) (i h : Int) (h0 : 0 ≤ i) (h1 : i ≤ 1048576) (hs : s.length ≤ 1048576) : ∃ v i' h', spec_l01Byte.f s i h = some (v, i', h') ∧ 0 ≤ v ∧ v ≤ 255 ∧ 0 ≤ i' ∧ i' ≤ 1048576 := by
  unfold spec_l01Byte.f
  by_cases hl : i < (s.length : Int)
  · rw [if_pos hl, if_pos h0]
    refine ⟨_, _, _, rfl, ?_, ?_, ?_, ?_⟩
    · rw [i64_and255]; omega
    · rw [i64_and255]; omega
    · rw [w64 (n := i + 1) (by omega) (by omega)]; omega
    · rw [w64 (n := i + 1) (by omega) (by omega)]; omega
  · rw [if_neg hl]
    refine ⟨_, _, _, rfl, ?_, ?_, h0, h1⟩
    · rw [i64_and255]; omega
    · rw [i64_and255]; omega
theorem l01New_ex (s : List Int) (hs : s.length ≤ 1048576) (d : Nat) : ∀ (h i : Int), 0 ≤ i → i + d = (s.length : Int) → ∃ h', Ev (fun k => spec_l01New.l0 k s h i) (s, 0, h') := by
  induction d with
  | zero =>
    intro h i h0 hd
    exact ⟨h, Ev.step (fun _ => spec_l01New.l0.eq_2 ..) (Ev.neg (by omega) (Ev.now _))⟩
  | succ d ih =>
    intro h i h0 hd
    by_cases h4 : i < 4000
    · obtain ⟨h', g⟩ := ih (Go.bits .and .i64 (wrap64 ((wrap64 ((wrap64 (h * 73)) + (wrap64 (rd s i)))) + 7)) 1073741823) (i + 1) (by omega) (by omega)
      refine ⟨h', Ev.step (fun _ => spec_l01New.l0.eq_2 ..) (Ev.pos (by omega) (Ev.pos h4 (Ev.pos h0 ?_)))⟩
      rw [w64 (n := i + 1) (by omega) (by omega)]
      exact g
    · exact ⟨h, Ev.step (fun _ => spec_l01New.l0.eq_2 ..) (Ev.pos (by omega) (Ev.neg h4 (Ev.now _)))⟩
theorem l25New_l (s : List Int) (hs : s.length ≤ 1048576) (n : Int) (hn : n ≤ 1000) (d : Nat) : ∀ (j i h : Int), 0 ≤ j → j + d = n → 0 ≤ i → i ≤ 1048576 → ∃ i' h', Ev (fun k => spec_l25New.l0 k n j s i h) (s, i', h') ∧ 0 ≤ i' ∧ i' ≤ 1048576 := by
  induction d with
  | zero =>
    intro j i h j0 hd i0 i1
    exact ⟨i, h, Ev.step (fun _ => spec_l25New.l0.eq_2 ..) (Ev.neg (by omega) (Ev.now _)), i0, i1⟩
  | succ d ih =>
    intro j i h j0 hd i0 i1
    obtain ⟨v, i2, h2, e, _, _, a, b⟩ := l01Byte_ex s i h i0 i1 hs
    obtain ⟨i', h', g, c⟩ := ih (j + 1) i2 h2 (by omega) (by omega) a b
    refine ⟨i', h', Ev.step (fun _ => spec_l25New.l0.eq_2 ..) (Ev.pos (by omega) (Ev.bind0 e ?_)), c⟩
    rw [w64 (n := j + 1) (by omega) (by omega)]
    exact g
theorem l25New_ex (s : List Int) (hs : s.length ≤ 1048576) (n : Int) (h0 : 0 ≤ n) (hn : n ≤ 1000) : ∃ i' h', Ev (fun k => spec_l25New.f k s n) (s, i', h') ∧ 0 ≤ i' ∧ i' ≤ 1048576 := by
  unfold spec_l25New.f
  obtain ⟨h, g⟩ := l01New_ex s hs s.length (wrap64 (1263 + (s.length : Int))) 0 (by omega) (by omega)
  obtain ⟨i', h', g2, c⟩ := l25New_l s hs n hn n.toNat 0 0 h (by omega) (by omega) (by omega) (by omega)
  exact ⟨i', h', Ev.bind (g := fun k => spec_l01New.f k s) g g2, c⟩

theorem makeNum_ex (s : List Int) (hs : s.length ≤ 1048576) (n : Int) (h0 : 0 ≤ n) (hn : n ≤ 1000) : ∃ v, Ev (fun k => spec_MakeNum.f k s n) v ∧ 0 ≤ v ∧ v ≤ 65535 := by
  unfold spec_MakeNum.f
  obtain ⟨i, h, g, a, b⟩ := l25New_ex s hs n h0 hn
  obtain ⟨v, i2, h2, e, v0, v1, a2, b2⟩ := l01Byte_ex s i h a b hs
  obtain ⟨u, i3, h3, e2, u0, u1, _, _⟩ := l01Byte_ex s i2 h2 a2 b2 hs
  refine ⟨_, Ev.bind g (Ev.bind0 e (Ev.bind0 e2 (Ev.now _))), ?_, ?_⟩
  · simp only []
    rw [w64 (n := v * 256) (by omega) (by omega), w64 (by omega) (by omega)]
    omega
  · simp only []
    rw [w64 (n := v * 256) (by omega) (by omega), w64 (by omega) (by omega)]
    omega

theorem isUser_impl (a : Int) : impl_isUser.f a = some (decide (0 ≤ a ∧ a ≤ 3)) := by
  unfold impl_isUser.f
  by_cases h : a ≥ 0
  · rw [if_pos h]
    congr 1
    apply decide_eq_decide.2
    omega
  · rw [if_neg h]
    congr 1
    symm
    apply decide_eq_false
    omega

theorem isCredI_l (a b : Int) (ha : 0 ≤ a ∧ a ≤ 3) (hb : 0 ≤ b ∧ b ≤ 3) (xs : List Int) (hx : xs.length ≤ 1048576) (h1 : ∀ x, x ∈ xs → 0 ≤ x ∧ x ≤ 3) (h2 : xs.Pairwise (· < ·)) (d : Nat) : ∀ i : Int, 0 ≤ i → i + d = (xs.length : Int) →
    Ev (fun k => impl_IsCred.l0 k xs (xs.length : Int) i a b xs) true := by
  have get : ∀ i : Int, 0 ≤ i → ∀ h : i.toNat < xs.length, rd xs i = xs[i.toNat] := by
    intro i h0 h
    show rdOf 0 xs i = _
    unfold rdOf
    rw [List.getD_eq_getElem?_getD, List.getElem?_eq_getElem h]
    rfl
  induction d with
  | zero =>
    intro i h0 hd
    refine Ev.step (fun _ => impl_IsCred.l0.eq_2 ..) (Ev.neg (by omega) (Ev.bind0 (isUser_impl a) (Ev.pos (decide_eq_true ha) (Ev.bind0 (isUser_impl b) ?_))))
    rw [decide_eq_true hb]
    exact Ev.now _
  | succ d ih =>
    intro i h0 hd
    have e := get i h0 (by omega)
    have r := h1 (xs[i.toNat]'(by omega)) (List.getElem_mem _)
    have g := ih (i + 1) (by omega) (by omega)
    refine Ev.step (fun _ => impl_IsCred.l0.eq_2 ..) (Ev.pos (by omega) (Ev.pos h0 (Ev.pos (by omega) (Ev.bind0 (isUser_impl _) (Ev.pos (by rw [e]; exact decide_eq_true r) ?_)))))
    rw [w64 (n := i + 1) (by omega) (by omega)]
    by_cases hi : i > 0
    · refine Ev.pos hi ?_
      rw [w64 (n := i - 1) (by omega) (by omega)]
      have e2 := get (i - 1) (by omega) (by omega)
      have lt : xs[(i - 1).toNat]'(by omega) < xs[i.toNat]'(by omega) := List.pairwise_iff_getElem.1 h2 _ _ _ _ (by omega)
      exact Ev.pos (by omega) (Ev.pos (by omega) (Ev.neg (by rw [e, e2]; omega) g))
    · exact Ev.neg hi g
theorem mayRemoveI {a b d m u : Int} {l : List Int} (h : Ev (fun k => impl_IsCred.f k a b l) true) (hm : impl_isMode.f m = some true) : Ev (fun k => impl_MayRemove.f k a b l d m u) (if Go.bits .and .i64 m 512 = 0 then true else if a = 0 then true else if a = d then true else (a == u)) := by
  unfold impl_MayRemove.f
  refine Ev.bind h (Ev.pos rfl (Ev.bind0 hm (Ev.pos rfl ?_)))
  by_cases h1 : Go.bits .and .i64 m 512 = 0
  · simp only [if_pos h1]
    exact Ev.now _
  · simp only [if_neg h1]
    by_cases h2 : a = 0
    · simp only [if_pos h2]
      exact Ev.now _
    · simp only [if_neg h2]
      by_cases h3 : a = d
      · simp only [if_pos h3]
        exact Ev.now _
      · simp only [if_neg h3]
        exact Ev.now _
theorem l01Below_ex (s : List Int) (i h n : Int) (h0 : 0 ≤ i) (h1 : i ≤ 1048576) (hs : s.length ≤ 1048576) (n1 : 1 ≤ n) (n2 : n ≤ 256) : ∃ v i' h', spec_l01Below.f s i h n = some (v, i', h') ∧ 0 ≤ v ∧ v < n ∧ 0 ≤ i' ∧ i' ≤ 1048576 := by
  unfold spec_l01Below.f
  obtain ⟨v, i', h', e, v0, v1, a, b⟩ := l01Byte_ex s i h h0 h1 hs
  rw [if_neg (by omega), if_pos n2, e, Option.bind_some, if_neg (by omega)]
  refine ⟨_, _, _, rfl, ?_, ?_, a, b⟩
  · simp only []
    rw [Int.tmod_eq_emod_of_nonneg v0]
    exact Int.emod_nonneg v (by omega)
  · simp only []
    rw [Int.tmod_eq_emod_of_nonneg v0]
    have := Int.emod_lt_of_pos v (show 0 < n by omega)
    omega
theorem l01Once_ex (s : List Int) (i h n : Int) (h0 : 0 ≤ i) (h1 : i ≤ 1048576) (hs : s.length ≤ 1048576) (n1 : 1 ≤ n) (n2 : n ≤ 256) : ∃ v i' h', spec_l01Once.f s i h n = some (v, i', h') ∧ 0 ≤ i' ∧ i' ≤ 1048576 := by
  unfold spec_l01Once.f
  obtain ⟨v, i', h', e, _, _, a, b⟩ := l01Below_ex s i h n h0 h1 hs n1 n2
  rw [e, Option.bind_some]
  exact ⟨_, _, _, rfl, a, b⟩
theorem l06Draw_l (s : List Int) (hs : s.length ≤ 1048576) (u v : Int) (d : Nat) : ∀ (j i h : Int) (G : List Int), 1 ≤ j → j + d = 4 → 0 ≤ i → i ≤ 1048576 → (∀ x, x ∈ G → 0 ≤ x ∧ x < j) → G.Pairwise (· < ·) → (G.length : Int) < j →
    ∃ G' i' h', Ev (fun k => spec_l06Draw.l0 k j s i h u v G) (u, v, G', i', h') ∧ (∀ x, x ∈ G' → 0 ≤ x ∧ x < 4) ∧ G'.Pairwise (· < ·) ∧ (G'.length : Int) < 4 := by
  induction d with
  | zero =>
    intro j i h G h1 hd i0 i1 hg hp hl
    exact ⟨G, i, h, Ev.step (fun _ => spec_l06Draw.l0.eq_2 ..) (Ev.neg (by omega) (Ev.now _)), fun x hx => by have := hg x hx; omega, hp, by omega⟩
  | succ d ih =>
    intro j i h G h1 hd i0 i1 hg hp hl
    obtain ⟨t, i2, h2, e, a, b⟩ := l01Once_ex s i h 4 i0 i1 hs (by omega) (by omega)
    by_cases ht : t = true
    · obtain ⟨G', i', h', g, r⟩ := ih (j + 1) i2 h2 (G ++ [j]) (by omega) (by omega) a b (by
        intro x hx
        rcases List.mem_append.1 hx with hx | hx
        · have := hg x hx; omega
        · rw [List.mem_singleton.1 hx]; omega) (List.pairwise_append.2 ⟨hp, List.pairwise_singleton _ _, fun x hx y hy => by rw [List.mem_singleton.1 hy]; exact (hg x hx).2⟩) (by rw [List.length_append, List.length_singleton]; omega)
      refine ⟨G', i', h', Ev.step (fun _ => spec_l06Draw.l0.eq_2 ..) (Ev.pos (by omega) (Ev.bind0 e (Ev.pos ht (Ev.pos (by omega) ?_)))), r⟩
      rw [w64 (n := j + 1) (by omega) (by omega)]
      exact g
    · obtain ⟨G', i', h', g, r⟩ := ih (j + 1) i2 h2 G (by omega) (by omega) a b (fun x hx => by have := hg x hx; omega) hp (by omega)
      refine ⟨G', i', h', Ev.step (fun _ => spec_l06Draw.l0.eq_2 ..) (Ev.pos (by omega) (Ev.bind0 e (Ev.neg ht ?_))), r⟩
      rw [w64 (n := j + 1) (by omega) (by omega)]
      exact g
theorem makeCred_ex (s : List Int) (hs : s.length ≤ 1048576) (n : Int) (h0 : 0 ≤ n) (hn : n ≤ 1000) : ∃ u v G, Ev (fun k => spec_MakeCred.f k s n) (u, v, G) ∧ Ev (fun k => impl_IsCred.f k u v G) true := by
  unfold spec_MakeCred.f spec_l06Draw.f
  obtain ⟨i, h, g, a, b⟩ := l25New_ex s hs n h0 hn
  obtain ⟨u, i2, h2, e, u0, u1, a2, b2⟩ := l01Below_ex s i h 4 a b hs (by omega) (by omega)
  obtain ⟨v, i3, h3, e2, v0, v1, a3, b3⟩ := l01Below_ex s i2 h2 4 a2 b2 hs (by omega) (by omega)
  obtain ⟨G, i4, h4, g2, r1, r2, r3⟩ := l06Draw_l s hs u v 3 1 i3 h3 [] (by omega) (by omega) a3 b3 (fun x hx => by cases hx) List.Pairwise.nil (by simp)
  refine ⟨u, v, G, Ev.bind g (Ev.bind (a := (u, v, G, i4, h4)) (Ev.bind0 e (Ev.bind0 e2 g2)) (Ev.now _)), ?_⟩
  unfold impl_IsCred.f
  exact isCredI_l u v ⟨u0, by omega⟩ ⟨v0, by omega⟩ G (by omega) (fun x hx => by have := r1 x hx; omega) r2 G.length 0 (by omega) (by omega)

theorem FnSticky : laws_FnSticky.Pure := by
  intro s h1 h2 h3
  apply Ev.rounds
  unfold laws_FnSticky.f
  by_cases hb : (s.length : Int) > 1048576
  · exact Ev.pos hb (Ev.now _)
  · obtain ⟨u, v, G, c1, c2⟩ := makeCred_ex s (by omega) 1 (by omega) (by omega)
    obtain ⟨x, x1, _, _⟩ := makeNum_ex s (by omega) 4 (by omega) (by omega)
    obtain ⟨y, y1, _, _⟩ := makeNum_ex s (by omega) 5 (by omega) (by omega)
    have m1 := mayRemoveI (d := Int.tmod x 4) (m := 512) (u := Int.tmod y 4) c2 (by decide +kernel)
    have m2 := mayRemoveI (d := Int.tmod x 4) (m := 0) (u := Int.tmod y 4) c2 (by decide +kernel)
    rw [if_neg (show ¬ Go.bits .and .i64 512 512 = 0 by decide +kernel)] at m1
    rw [if_pos (show Go.bits .and .i64 0 512 = 0 by decide +kernel)] at m2
    refine Ev.neg hb (Ev.bind c1 (Ev.bind x1 (Ev.bind y1 (Ev.bind m1 (Ev.bind m2 (Ev.pos rfl ?_))))))
    simp only []
    by_cases g1 : u = 0
    · refine Ev.pos g1 ?_
      rw [if_pos g1]
      exact Ev.now _
    · refine Ev.neg g1 ?_
      rw [if_neg g1]
      by_cases g2 : u = Int.tmod x 4
      · refine Ev.pos g2 ?_
        rw [if_pos g2]
        exact Ev.now _
      · refine Ev.neg g2 ?_
        rw [if_neg g2, beq_self_eq_true]
        exact Ev.now _

end Go.Proofs.Ytcafdolliedcaab.Pure
