/- The law FnInodes holds for every input of its kind; no further condition. -/
import Derived.Test.YtnfiapcemafmiaaPFnInodesx11
import Derived.Test.YtnfiapcemafmiaaLibBase
import Derived.Test.YtnfiapcemafmiaaLibAllEq
import Derived.Test.YtnfiapcemafmiaaLibNumbers
namespace Go.Proofs.Ytnfiapcemafmiaa.Pure
open Go.RowKit Go.Proofs.Ytnfiapcemafmiaa.PFnInodes Go.Proofs.Ytnfiapcemafmiaa.Lib Go.Proofs.YtnfiapcemafmiaaW.PrintWords Go.Proofs.YtnfiapcemafmiaaW.PrintLast Go.Proofs.YtnfiapcemafmiaaW.PrintMore
set_option linter.unusedVariables false
set_option linter.unusedSimpArgs false

theorem i64_and255 (n : Int) : Go.bits .and .i64 n 255 = n % 256 := by
  have h127 : (BitVec.ofInt 64 255).toNat = 2 ^ 8 - 1 := by decide
  have key : (BitVec.ofInt 64 n &&& BitVec.ofInt 64 255).toNat = (n % ((2 ^ 64 : Nat) : Int)).toNat % 2 ^ 8 := by
    rw [BitVec.toNat_and, BitVec.toNat_ofInt, h127, Nat.and_two_pow_sub_one_eq_mod]
  show IntKind.i64.wrap ((BitVec.ofInt 64 n &&& BitVec.ofInt 64 255).toNat : Nat) = n % 256
  rw [key, IntKind.wrap_i64]
  omega
theorem l01Byte_ex (s : List Int) (i h : Int) (h0 : 0 ≤ i) (h1 : i ≤ 1048576) (hs : s.length ≤ 1048576) : ∃ v i' h', spec_l01Byte.f s i h = some (v, i', h') ∧ 0 ≤ v ∧ v ≤ 255 ∧ 0 ≤ i' ∧ i' ≤ 1048576 := by
  unfold spec_l01Byte.f
  by_cases hl : i < (s.length : Int)
  · rw [if_pos hl, if_pos h0]
    refine ⟨_, _, _, rfl, ?_, ?_, ?_, ?_⟩
    · rw [i64_and255]; omega
    · rw [i64_and255]; omega
    · rw [w64 (n := i + 1) (by omega) (by omega)]; omega
    · rw [w64 (n := i + 1) (by omega) (by omega)]; omega
  · rw [if_neg hl]
    refine ⟨_, _, _, rfl, ?_, ?_, h0, h1⟩
    · rw [i64_and255]; omega
    · rw [i64_and255]; omega
theorem l01New_ex (s : List Int) (hs : s.length ≤ 1048576) (d : Nat) : ∀ (h i : Int), 0 ≤ i → i + d = (s.length : Int) → ∃ h', Ev (fun k => spec_l01New.l0 k s h i) (s, 0, h') := by
  induction d with
  | zero =>
    intro h i h0 hd
    exact ⟨h, Ev.step (fun _ => spec_l01New.l0.eq_2 ..) (Ev.neg (by omega) (Ev.now _))⟩
  | succ d ih =>
    intro h i h0 hd
    by_cases h4 : i < 4000
    · obtain ⟨h', g⟩ := ih (Go.bits .and .i64 (wrap64 ((wrap64 ((wrap64 (h * 73)) + (wrap64 (rd s i)))) + 7)) 1073741823) (i + 1) (by omega) (by omega)
      refine ⟨h', Ev.step (fun _ => spec_l01New.l0.eq_2 ..) (Ev.pos (by omega) (Ev.pos h4 (Ev.pos h0 ?_)))⟩
      rw [w64 (n := i + 1) (by omega) (by omega)]
      exact g
    · exact ⟨h, Ev.step (fun _ => spec_l01New.l0.eq_2 ..) (Ev.pos (by omega) (Ev.neg h4 (Ev.now _)))⟩
theorem isUser_impl (a : Int) : impl_isUser.f a = some (decide (0 ≤ a ∧ a ≤ 3)) := by
  unfold impl_isUser.f
  by_cases h : a ≥ 0
  · rw [if_pos h]
    congr 1
    apply decide_eq_decide.2
    omega
  · rw [if_neg h]
    congr 1
    symm
    apply decide_eq_false
    omega

/-- One entry is well formed. -/
def entryM (x : S107) : Bool := decide (0 ≤ x.f2 ∧ x.f2 ≤ 7 ∧ ((x.f0 = 1 ∨ x.f0 = 2) ∧ 0 ≤ x.f1 ∧ x.f1 ≤ 3 ∨ x.f0 = 3 ∧ x.f1 = 0))
/-- Two neighbours rise. -/
def riseM (x y : S107) : Bool := decide (x.f0 < y.f0 ∨ x.f0 = y.f0 ∧ x.f1 < y.f1)
/-- The entries from one with a left neighbour on. -/
def aclFrom : Option S107 → List S107 → Bool
  | none, [] => true
  | some p, [] => decide (p.f0 = 3)
  | none, x :: l => entryM x && aclFrom (some x) l
  | some p, x :: l => entryM x && (riseM p x && aclFrom (some x) l)
def isAclM (l : List S107) : Bool := decide (l.length ≤ 6) && aclFrom none l
/-- What stands left of place i. -/
def leftOf (xs : List S107) (i : Int) : Option S107 := if i > 0 then some (rd_T107 xs (i - 1)) else none
theorem rd_last (xs : List S107) (i : Int) (h : (xs.length : Int) ≤ i) (h0 : 0 ≤ i) (hi : i ≤ (xs.length : Int)) : i = (xs.length : Int) := by omega
theorem cmp_impl (a b : Int) : cmp_Compare_int.f a b = some (if a < b then -1 else if a > b then 1 else 0) := by
  unfold cmp_Compare_int.f cmp_isNaN_int.f
  simp only [bne_self_eq_false, Option.bind_some]
  rw [if_neg (by simp), if_neg (by simp)]
  repeat' split
  all_goals rfl
theorem cmpOr_impl (a b : Int) : Ev (fun k => cmp_Or_int.f k [a, b]) (if a = 0 then b else a) := by
  unfold cmp_Or_int.f
  refine Ev.step (fun _ => cmp_Or_int.l0.eq_2 ..) (Ev.pos (by simp) (Ev.pos (by decide) (Ev.pos (by simp) ?_)))
  rw [show rd [a, b] 0 = a from rfl, show wrap64 (0 + 1) = 1 by unfold wrap64; omega]
  by_cases ha : a = 0
  · refine Ev.pos ha (Ev.step (fun _ => cmp_Or_int.l0.eq_2 ..) (Ev.pos (by simp) (Ev.pos (by decide) (Ev.pos (by simp) ?_))))
    rw [show rd [a, b] 1 = b from rfl, show wrap64 (1 + 1) = 2 by unfold wrap64; omega, if_pos ha]
    by_cases hb : b = 0
    · refine Ev.pos hb (Ev.step (fun _ => cmp_Or_int.l0.eq_2 ..) (Ev.neg (by simp) ?_))
      rw [hb]
      exact Ev.now _
    · exact Ev.neg hb (Ev.now _)
  · rw [if_neg ha]
    exact Ev.neg ha (Ev.now _)
theorem isAcl_j3 {xs : List S107} (hx : xs.length ≤ 1048576) {i : Int} (h0 : 0 ≤ i) (hi : i < (xs.length : Int)) (a b c : Int) {r : Bool} {l : List S107} (he : entryM ⟨a, b, c⟩ = true) (hr : aclFrom (some ⟨a, b, c⟩) l = r) (h : Ev (fun k => impl_IsAcl.l0 k xs xs (xs.length : Int) (i + 1)) r) :
    Ev (fun k => impl_IsAcl.j3 k xs i xs (xs.length : Int) i a b c) (aclFrom (leftOf xs i) (⟨a, b, c⟩ :: l)) := by
  refine Ev.step (fun _ => impl_IsAcl.j3.eq_2 ..) ?_
  rw [w64 (n := i + 1) (by omega) (by omega), w64 (n := i - 1) (by omega) (by omega)]
  by_cases c2 : i > 0
  · rw [show leftOf xs i = some (rd_T107 xs (i - 1)) by unfold leftOf; rw [if_pos c2], aclFrom, he, Bool.true_and, hr]
    generalize rd_T107 xs (i - 1) = y at *
    refine Ev.pos c2 (Ev.pos (by omega) (Ev.pos (by omega) (Ev.bind0 (cmp_impl _ _) (Ev.bind0 (cmp_impl _ _) (Ev.bind (cmpOr_impl _ _) ?_)))))
    by_cases hc : y.f0 < a ∨ y.f0 = a ∧ y.f1 < b
    · rw [show riseM y ⟨a, b, c⟩ = true by unfold riseM; exact decide_eq_true hc, Bool.true_and]
      refine Ev.neg ?_ h
      repeat' split
      all_goals omega
    · rw [show riseM y ⟨a, b, c⟩ = false by unfold riseM; exact decide_eq_false hc, Bool.false_and]
      refine Ev.pos ?_ (Ev.now _)
      repeat' split
      all_goals omega
  · rw [show leftOf xs i = none by unfold leftOf; rw [if_neg c2], aclFrom, he, Bool.true_and, hr]
    exact Ev.neg c2 h
theorem isAcl_impl_l (xs : List S107) (hx : xs.length ≤ 1048576) (l : List S107) : ∀ (i : Int), 0 ≤ i → i ≤ (xs.length : Int) → xs.drop i.toNat = l →
    Ev (fun k => impl_IsAcl.l0 k xs xs (xs.length : Int) i) (aclFrom (leftOf xs i) l) := by
  induction l with
  | nil =>
    intro i h0 hi h
    have h1 := ldrop_nil h0 h
    have hi' : i = (xs.length : Int) := by omega
    subst hi'
    refine Ev.step (fun _ => impl_IsAcl.l0.eq_2 ..) (Ev.neg (by omega) ?_)
    by_cases hz : (xs.length : Int) = 0
    · refine Ev.pos hz ?_
      rw [show leftOf xs (xs.length : Int) = none by unfold leftOf; rw [if_neg (by omega)], aclFrom]
      exact Ev.now _
    · refine Ev.neg hz ?_
      rw [show leftOf xs (xs.length : Int) = some (rd_T107 xs ((xs.length : Int) - 1)) by unfold leftOf; rw [if_pos (by omega)], aclFrom, w64 (by omega) (by omega)]
      exact Ev.pos (by omega) (Ev.pos (by omega) (Ev.now _))
  | cons x l ih =>
    intro i h0 hi h
    obtain ⟨p, q, c, e⟩ := ldrop_cons z107 h0 h
    have hx' : rd_T107 xs i = x := q
    have := ih (i + 1) (by omega) (by omega) c
    rw [show leftOf xs (i + 1) = some x by unfold leftOf; rw [if_pos (by omega), show i + 1 - 1 = i by omega, hx']] at this
    have bad : entryM x = false → aclFrom (leftOf xs i) (x :: l) = false := by
      intro c1'
      cases leftOf xs i <;> simp [aclFrom, c1']
    refine Ev.step (fun _ => impl_IsAcl.l0.eq_2 ..) (Ev.pos p (Ev.pos h0 (Ev.pos p ?_)))
    rw [hx']
    obtain ⟨a, b, d⟩ := x
    simp only
    have j1no : Ev (fun k => impl_IsAcl.j1 k xs i xs (xs.length : Int) i true a b d) false := Ev.step (fun _ => impl_IsAcl.j1.eq_2 ..) (Ev.pos rfl (Ev.now _))
    by_cases d1 : d < 0
    · rw [bad (by unfold entryM; apply decide_eq_false; simp only; omega)]
      exact Ev.pos d1 j1no
    · refine Ev.neg d1 ?_
      by_cases d2 : d > 7
      · rw [bad (by unfold entryM; apply decide_eq_false; simp only; omega), show decide (d > 7) = true by simpa using d2]
        exact j1no
      · rw [show decide (d > 7) = false by simpa using d2]
        refine Ev.step (fun _ => impl_IsAcl.j1.eq_2 ..) (Ev.neg (by simp) ?_)
        have j2 : ∀ t : Bool, t = decide (a = 1 ∨ a = 2) → Ev (fun k => impl_IsAcl.j2 k xs i xs (xs.length : Int) i a t a b d) (aclFrom (leftOf xs i) (⟨a, b, d⟩ :: l)) := by
          intro t ht
          refine Ev.step (fun _ => impl_IsAcl.j2.eq_2 ..) ?_
          by_cases h12 : a = 1 ∨ a = 2
          · refine Ev.pos (by rw [ht]; exact decide_eq_true h12) (Ev.bind0 (isUser_impl b) ?_)
            by_cases hb : 0 ≤ b ∧ b ≤ 3
            · exact Ev.pos (by simpa using hb) (isAcl_j3 hx h0 p a b d (by unfold entryM; apply decide_eq_true; simp only; omega) rfl this)
            · rw [bad (by unfold entryM; apply decide_eq_false; simp only; omega)]
              exact Ev.neg (by simpa using hb) (Ev.now _)
          · refine Ev.neg (by rw [ht]; simpa using h12) ?_
            by_cases h3 : a = 3
            · refine Ev.pos h3 ?_
              by_cases hb : b = 0
              · exact Ev.pos hb (isAcl_j3 hx h0 p a b d (by unfold entryM; apply decide_eq_true; simp only; omega) rfl this)
              · rw [bad (by unfold entryM; apply decide_eq_false; simp only; omega)]
                exact Ev.neg hb (Ev.now _)
            · rw [bad (by unfold entryM; apply decide_eq_false; simp only; omega)]
              exact Ev.neg h3 (Ev.now _)
        by_cases h1 : a = 1
        · exact Ev.pos h1 (j2 _ (by simp [h1]))
        · exact Ev.neg h1 (j2 _ (by simp [h1]; rfl))
theorem isAcl_impl (xs : List S107) (hx : xs.length ≤ 1048576) : Ev (fun k => impl_IsAcl.f k xs) (isAclM xs) := by
  unfold impl_IsAcl.f isAclM
  by_cases h : (xs.length : Int) > 6
  · rw [show decide (xs.length ≤ 6) = false by simp only [decide_eq_false_iff_not]; omega, Bool.false_and]
    exact Ev.pos h (Ev.now _)
  · rw [show decide (xs.length ≤ 6) = true by simp only [decide_eq_true_eq]; omega, Bool.true_and]
    exact Ev.neg h (isAcl_impl_l xs hx xs 0 (by omega) (by omega) rfl)

theorem l01BelowB_ex (s : List Int) (i h : Int) (h0 : 0 ≤ i) (h1 : i ≤ 1048576) (hs : s.length ≤ 1048576) (n : Int) (hn : 1 ≤ n) (hn2 : n ≤ 256) : ∃ v i' h', spec_l01Below.f s i h n = some (v, i', h') ∧ 0 ≤ v ∧ v < n ∧ 0 ≤ i' ∧ i' ≤ 1048576 := by
  obtain ⟨v, i', h', e, v0, v1, a, b⟩ := l01Byte_ex s i h h0 h1 hs
  refine ⟨Int.tmod v n, i', h', ?_, ?_, ?_, a, b⟩
  · unfold spec_l01Below.f
    rw [if_neg (by omega), if_pos hn2, e, Option.bind_some]
    simp only []
    rw [if_neg (by omega)]
  · exact Int.tmod_nonneg n v0
  · rw [Int.tmod_eq_emod_of_nonneg v0]
    exact Int.emod_lt_of_pos v (by omega)
theorem l01Pick_ex (s : List Int) (i h : Int) (h0 : 0 ≤ i) (h1 : i ≤ 1048576) (hs : s.length ≤ 1048576) (l : List Int) (hl : 1 ≤ l.length) (hl2 : l.length ≤ 256) : ∃ v i' h', spec_l01Pick.f s i h l = some (v, i', h') ∧ 0 ≤ i' ∧ i' ≤ 1048576 := by
  obtain ⟨v, i', h', e, v0, v1, a, b⟩ := l01BelowB_ex s i h h0 h1 hs (l.length : Int) (by omega) (by omega)
  refine ⟨rd l v, i', h', ?_, a, b⟩
  · unfold spec_l01Pick.f
    rw [e, Option.bind_some]
    simp only []
    rw [if_pos v0, if_pos v1]
theorem l01Pick_in (s : List Int) (i h : Int) (h0 : 0 ≤ i) (h1 : i ≤ 1048576) (hs : s.length ≤ 1048576) (l : List Int) (hl : 1 ≤ l.length) (hl2 : l.length ≤ 256) : ∃ v i' h', spec_l01Pick.f s i h l = some (v, i', h') ∧ v ∈ l := by
  obtain ⟨v, i', h', e, v0, v1, a, b⟩ := l01BelowB_ex s i h h0 h1 hs (l.length : Int) (by omega) (by omega)
  refine ⟨rd l v, i', h', ?_, ?_⟩
  · unfold spec_l01Pick.f
    rw [e, Option.bind_some]
    simp only []
    rw [if_pos v0, if_pos v1]
  · have hlt : v.toNat < l.length := by omega
    show l.getD v.toNat 0 ∈ l
    rw [List.getD_eq_getElem?_getD, List.getElem?_eq_getElem hlt]
    exact List.getElem_mem hlt
def chF : Option S107 → List S107 → Prop
  | _, [] => True
  | o, x :: l => entryM x = true ∧ (∀ p, o = some p → riseM p x = true) ∧ chF (some x) l
theorem chF_append (l : List S107) (y : S107) (hy : entryM y = true) : ∀ o, chF o l → (∀ p, o = some p → riseM p y = true) → (∀ x ∈ l, riseM x y = true) → chF o (l ++ [y]) := by
  induction l with
  | nil => exact fun o _ h _ => ⟨hy, h, trivial⟩
  | cons x l ih =>
    intro o h ho hl
    exact ⟨h.1, h.2.1, ih (some x) h.2.2 (fun p hp => by rw [← Option.some.inj hp]; exact hl x (List.mem_cons_self ..)) (fun z hz => hl z (List.mem_cons_of_mem _ hz))⟩
theorem chF_acl (l : List S107) (y : S107) (hy : y.f0 = 3) : ∀ o, chF o (l ++ [y]) → aclFrom o (l ++ [y]) = true := by
  induction l with
  | nil =>
    intro o h
    have h3 : aclFrom (some y) [] = true := decide_eq_true hy
    cases o with
    | none =>
      show (entryM y && aclFrom (some y) []) = true
      rw [h.1, h3]
      rfl
    | some p =>
      show (entryM y && (riseM p y && aclFrom (some y) [])) = true
      rw [h.1, h.2.1 p rfl, h3]
      rfl
  | cons x l ih =>
    intro o h
    have h3 := ih (some x) h.2.2
    cases o with
    | none =>
      show (entryM x && aclFrom (some x) (l ++ [y])) = true
      rw [h.1, h3]
      rfl
    | some p =>
      show (entryM x && (riseM p x && aclFrom (some x) (l ++ [y]))) = true
      rw [h.1, h.2.1 p rfl, h3]
      rfl
/-- A list drawn, and where the cursor then stands. -/
def okDraw (r : List S107 × Int × Int) : Prop := isAclM r.1 = true ∧ 0 ≤ r.2.1 ∧ r.2.1 ≤ 1048576
/-- What is drawn so far: rising entries, all below a tag and a number. -/
def DrawI (x3 : List S107) (t u : Int) : Prop := x3.length ≤ 4 ∧ chF none x3 ∧ ∀ x ∈ x3, x.f0 < t ∨ x.f0 = t ∧ x.f1 < u
theorem once_ex (s : List Int) (i h : Int) (h0 : 0 ≤ i) (h1 : i ≤ 1048576) (hs : s.length ≤ 1048576) : ∃ b i' h', spec_l01Once.f s i h 3 = some (b, i', h') ∧ 0 ≤ i' ∧ i' ≤ 1048576 := by
  obtain ⟨v, i', h', e, _, _, a, b⟩ := l01BelowB_ex s i h h0 h1 hs 3 (by decide) (by decide)
  refine ⟨(v == 0), i', h', ?_, a, b⟩
  unfold spec_l01Once.f
  rw [e, Option.bind_some]
theorem draw_l1 (s : List Int) (hs : s.length ≤ 1048576) (t : Int) (ht : t = 1 ∨ t = 2) (K : ∀ (x3 : List S107) (i h : Int), DrawI x3 (t + 1) 0 → 0 ≤ i → i ≤ 1048576 → ∃ r, Ev (fun k => spec_l05Draw.l0 k x3 (t + 1) s i h) r ∧ okDraw r) (d : Nat) :
    ∀ (x3 : List S107) (u i h : Int), u + d = 4 → 1 ≤ u → DrawI x3 t u → 0 ≤ i → i ≤ 1048576 → ∃ r, Ev (fun k => spec_l05Draw.l1 k x3 t u s i h) r ∧ okDraw r := by
  induction d with
  | zero =>
    intro x3 u i h hu hu1 hI h0 h1
    obtain ⟨r, e, g⟩ := K x3 i h ⟨hI.1, hI.2.1, fun x hx => by have := hI.2.2 x hx; omega⟩ h0 h1
    refine ⟨r, Ev.step (fun _ => spec_l05Draw.l1.eq_2 ..) (Ev.neg (by omega) ?_), g⟩
    rw [w64 (n := t + 1) (by omega) (by omega)]
    exact e
  | succ d ih =>
    intro x3 u i h hu hu1 hI h0 h1
    have next : DrawI x3 t (u + 1) := ⟨hI.1, hI.2.1, fun x hx => by have := hI.2.2 x hx; omega⟩
    obtain ⟨b, i2, h2, e, a0, a1⟩ := once_ex s i h h0 h1 hs
    have hw : wrap64 (u + 1) = u + 1 := w64 (by omega) (by omega)
    cases b with
    | false =>
      obtain ⟨r, g1, g2⟩ := ih x3 (u + 1) i2 h2 (by omega) (by omega) next a0 a1
      refine ⟨r, Ev.step (fun _ => spec_l05Draw.l1.eq_2 ..) (Ev.pos (by omega) (Ev.bind0 e (Ev.neg (by simp) ?_))), g2⟩
      rw [hw]
      exact g1
    | true =>
      by_cases h4 : (x3.length : Int) < 4
      · obtain ⟨v, i3, h3, e2, v0, v1, b0, b1⟩ := l01BelowB_ex s i2 h2 a0 a1 hs 8 (by decide) (by decide)
        have hy : entryM (⟨t, u, v⟩ : S107) = true := decide_eq_true (by simp only []; omega)
        have hI2 : DrawI (x3 ++ [⟨t, u, v⟩]) t (u + 1) := by
          refine ⟨by rw [List.length_append, List.length_singleton]; omega, chF_append x3 _ hy none hI.2.1 (fun p hp => by cases hp) (fun x hx => ?_), fun x hx => ?_⟩
          · have := hI.2.2 x hx
            exact decide_eq_true (by simp only []; omega)
          · rcases List.mem_append.1 hx with hx | hx
            · have := hI.2.2 x hx
              omega
            · rw [List.mem_singleton.1 hx]
              exact Or.inr ⟨rfl, by simp only []; omega⟩
        obtain ⟨r, g1, g2⟩ := ih (x3 ++ [⟨t, u, v⟩]) (u + 1) i3 h3 (by omega) (by omega) hI2 b0 b1
        refine ⟨r, Ev.step (fun _ => spec_l05Draw.l1.eq_2 ..) (Ev.pos (by omega) (Ev.bind0 e (Ev.pos rfl (Ev.pos h4 (Ev.bind0 e2 (Ev.pos (by omega) ?_)))))), g2⟩
        rw [hw]
        exact g1
      · obtain ⟨r, g1, g2⟩ := ih x3 (u + 1) i2 h2 (by omega) (by omega) next a0 a1
        refine ⟨r, Ev.step (fun _ => spec_l05Draw.l1.eq_2 ..) (Ev.pos (by omega) (Ev.bind0 e (Ev.pos rfl (Ev.neg h4 ?_)))), g2⟩
        rw [hw]
        exact g1
theorem draw_end (s : List Int) (hs : s.length ≤ 1048576) (x3 : List S107) (i h : Int) (hI : DrawI x3 3 0) (h0 : 0 ≤ i) (h1 : i ≤ 1048576) : ∃ r, Ev (fun k => spec_l05Draw.l0 k x3 3 s i h) r ∧ okDraw r := by
  obtain ⟨v, i2, h2, e, hv⟩ := l01Pick_in s i h h0 h1 hs [7, 7, 6, 5, 4, 0] (by decide) (by decide)
  have hb2 : 0 ≤ i2 ∧ i2 ≤ 1048576 := by
    obtain ⟨v', i', h', e', a', b'⟩ := l01Pick_ex s i h h0 h1 hs [7, 7, 6, 5, 4, 0] (by decide) (by decide)
    rw [e] at e'
    have e' := Option.some.inj e'
    simp only [Prod.mk.injEq] at e'
    obtain ⟨_, e1, _⟩ := e'
    subst e1
    exact ⟨a', b'⟩
  have hv' : 0 ≤ v ∧ v ≤ 7 := by
    simp only [List.mem_cons, List.not_mem_nil, or_false] at hv
    omega
  have hy : entryM (⟨3, 0, v⟩ : S107) = true := decide_eq_true ⟨hv'.1, hv'.2, Or.inr ⟨rfl, rfl⟩⟩
  have hl := hI.1
  refine ⟨(x3 ++ [⟨3, 0, v⟩], i2, h2), Ev.step (fun _ => spec_l05Draw.l0.eq_2 ..) (Ev.neg (by decide) (Ev.bind0 e (Ev.pos (by omega) (Ev.now _)))), ?_⟩
  have hc : aclFrom none (x3 ++ [⟨3, 0, v⟩]) = true := chF_acl x3 _ rfl none (chF_append x3 _ hy none hI.2.1 (fun p hp => by cases hp) (fun x hx => by
    have := hI.2.2 x hx
    exact decide_eq_true (by simp only []; omega)))
  refine ⟨?_, hb2⟩
  show isAclM (x3 ++ [⟨3, 0, v⟩]) = true
  unfold isAclM
  rw [hc, Bool.and_true]
  exact decide_eq_true (by rw [List.length_append, List.length_singleton]; omega)
theorem draw_l0 (s : List Int) (hs : s.length ≤ 1048576) (t : Int) (ht : t = 1 ∨ t = 2) (K : ∀ (x3 : List S107) (i h : Int), DrawI x3 (t + 1) 0 → 0 ≤ i → i ≤ 1048576 → ∃ r, Ev (fun k => spec_l05Draw.l0 k x3 (t + 1) s i h) r ∧ okDraw r) (x3 : List S107) (i h : Int) (hI : DrawI x3 t 0) (h0 : 0 ≤ i) (h1 : i ≤ 1048576) : ∃ r, Ev (fun k => spec_l05Draw.l0 k x3 t s i h) r ∧ okDraw r := by
  obtain ⟨r, g1, g2⟩ := draw_l1 s hs t ht K 3 x3 1 i h (by omega) (by omega) ⟨hI.1, hI.2.1, fun x hx => by have := hI.2.2 x hx; omega⟩ h0 h1
  exact ⟨r, Ev.step (fun _ => spec_l05Draw.l0.eq_2 ..) (Ev.pos (by omega) g1), g2⟩
theorem drawAcl_ex (s : List Int) (hs : s.length ≤ 1048576) (i h : Int) (a : 0 ≤ i) (b : i ≤ 1048576) : ∃ r, Ev (fun k => spec_l05Draw.f k s i h) r ∧ okDraw r := by
  obtain ⟨o, i2, h2, e, a2, b2⟩ := once_ex s i h a b hs
  unfold spec_l05Draw.f
  cases o with
  | true => exact ⟨([], i2, h2), Ev.bind0 rfl (Ev.bind0 e (Ev.pos rfl (Ev.now _))), rfl, a2, b2⟩
  | false =>
    obtain ⟨r, p1, p2⟩ := draw_l0 s hs 1 (Or.inl rfl) (fun x3 i h hI h0 h1 => draw_l0 s hs 2 (Or.inr rfl) (fun x3 i h hI h0 h1 => draw_end s hs x3 i h hI h0 h1) x3 i h hI h0 h1) [] i2 h2 ⟨by decide, trivial, fun x hx => by cases hx⟩ a2 b2
    exact ⟨r, Ev.bind0 rfl (Ev.bind0 e (Ev.neg (by simp) p1)), p2⟩

theorem data_eq_len (s : ByteArray) : s.data.toList.length = s.size := by rw [Array.length_toList]; rfl
theorem bytesOf_zeros (d : Nat) : bytesOf (⟨(Go.Lib.repeatL [0] d).toArray⟩ : ByteArray) = List.replicate d 0 := by
  have h := Go.Lib.repeatL_replicate 0 1 d
  rw [Nat.mul_one, show List.replicate 1 (0 : UInt8) = [0] from rfl] at h
  rw [h]
  unfold bytesOf
  rw [List.toList_toArray, List.map_replicate]
  rfl
theorem putNumber_impl_l (d : Nat) : ∀ (n : Int) (xs : List Int), 0 ≤ n → n ≤ 9223372036854775807 → d ≤ xs.length → xs.length ≤ 6 → Ev (fun k => impl_PutNumber.l0 k n xs ((d : Int) - 1)) (strOfNums (putL d n ++ xs.drop d)) := by
  induction d with
  | zero =>
    intro n xs h0 hn h h6
    exact Ev.step (fun _ => impl_PutNumber.l0.eq_2 ..) (Ev.neg (by decide) (Ev.now _))
  | succ d ih =>
    intro n xs h0 hn h h6
    rw [show ((d + 1 : Nat) : Int) - 1 = (d : Int) by omega]
    refine Ev.step (fun _ => impl_PutNumber.l0.eq_2 ..) (Ev.pos (by omega) (Ev.pos (by omega) (Ev.pos (by omega) ?_)))
    rw [w64 (n := (d : Int) - 1) (by omega) (by omega), Int.toNat_natCast]
    have := ih (n / 256) (xs.set d (n % 256)) (by omega) (by omega) (by rw [List.length_set]; omega) (by rw [List.length_set]; omega)
    rw [set_drop (n % 256) (by omega)] at this
    rw [putL, List.append_assoc]
    exact this
theorem putNumber_impl (n w : Int) (hn : n ≤ 9223372036854775807) : Ev (fun k => impl_PutNumber.f k n w) (putNumber n w) := by
  unfold impl_PutNumber.f
  have no : ¬ (1 ≤ w ∧ w ≤ 6 ∧ 0 ≤ n ∧ n < 256 ^ w.toNat) → Ev (fun k => impl_PutNumber.j0 k n w true) (putNumber n w) := by
    intro h
    unfold putNumber
    rw [if_neg h]
    exact Ev.step (fun _ => impl_PutNumber.j0.eq_2 ..) (Ev.pos rfl (Ev.now _))
  by_cases hw : w < 1
  · exact Ev.pos hw (no (fun h => by have := h.1; omega))
  · refine Ev.neg hw ?_
    by_cases hw6 : w > 6
    · exact Ev.pos hw6 (no (fun h => by have := h.2.1; omega))
    · refine Ev.neg hw6 ?_
      by_cases h0 : n < 0
      · exact Ev.pos h0 (no (fun h => by have := h.2.2.1; omega))
      · obtain ⟨e1, e2, e3, e4⟩ := shl_put (w := w) (by omega) (by omega)
        refine Ev.neg h0 (Ev.pos e4 ?_)
        rw [e3]
        by_cases h1 : n ≥ 256 ^ w.toNat
        · rw [show decide (n ≥ 256 ^ w.toNat) = true by simpa using h1]
          exact no (fun h => by have := h.2.2.2; omega)
        · rw [show decide (n ≥ 256 ^ w.toNat) = false by simpa using h1]
          refine Ev.step (fun _ => impl_PutNumber.j0.eq_2 ..) (Ev.neg (by decide) (Ev.pos (by omega) (Ev.pos (by omega) ?_)))
          have := putNumber_impl_l w.toNat n (List.replicate w.toNat 0) (by omega) hn (by rw [List.length_replicate]; omega) (by rw [List.length_replicate]; omega)
          rw [List.drop_eq_nil_of_le (by rw [List.length_replicate]; omega), List.append_nil, show ((w.toNat : Nat) : Int) = w by omega] at this
          unfold putNumber
          rw [if_pos ⟨by omega, by omega, by omega, by omega⟩, w64 (n := w - 1) (by omega) (by omega)]
          exact this

theorem strOfNums_size (l : List Int) : (strOfNums l).size = l.length := by
  have h : (strOfNums l).data.toList.length = (strOfNums l).size := by rw [Array.length_toList]; rfl
  rw [← h, strOfNums_data, List.length_map]
theorem putNumber_size (n w : Int) : (putNumber n w).size ≤ 6 := by
  unfold putNumber
  by_cases h : 1 ≤ w ∧ w ≤ 6 ∧ 0 ≤ n ∧ n < 256 ^ w.toNat
  · rw [if_pos h, strOfNums_size, putL_length]
    omega
  · rw [if_neg h]
    exact Nat.zero_le _

theorem aclFrom_all (l : List S107) : ∀ o, aclFrom o l = true → ∀ x ∈ l, entryM x = true := by
  induction l with
  | nil =>
    intro o _ x hx
    cases hx
  | cons y l ih =>
    intro o h x hx
    have h' : entryM y = true ∧ aclFrom (some y) l = true := by
      cases o <;> simp [aclFrom] at h <;> simp [h]
    rcases List.mem_cons.1 hx with rfl | hx
    · exact h'.1
    · exact ih _ h'.2 x hx
theorem entry_facts {x : S107} (h : entryM x = true) : (x.f0 = 1 ∨ x.f0 = 2 ∨ x.f0 = 3) ∧ 0 ≤ x.f1 ∧ x.f1 ≤ 3 ∧ 0 ≤ x.f2 ∧ x.f2 ≤ 7 := by
  have := of_decide_eq_true h
  omega
theorem isAcl_len {xs : List S107} (h : isAclM xs = true) : xs.length ≤ 6 ∧ ∀ x ∈ xs, entryM x = true := by
  unfold isAclM at h
  rw [Bool.and_eq_true] at h
  exact ⟨of_decide_eq_true h.1, aclFrom_all xs none h.2⟩

theorem putNumber_one : ∀ n : Fin 256, bytesOf (putNumber (n.val : Int) 1) = [(n.val : Int)] := by decide +kernel
theorem putNumber_1 {n : Int} (h0 : 0 ≤ n) (h1 : n < 256) : bytesOf (putNumber n 1) = [n] := by
  have h := putNumber_one ⟨n.toNat, by omega⟩
  have e : ((n.toNat : Nat) : Int) = n := by omega
  simp only [e] at h
  exact h
theorem putNumber_1z {n : Int} (h0 : 0 ≤ n) (h1 : n < 256) : (putNumber n 1).size = 1 := by
  rw [← bytesOf_length, putNumber_1 h0 h1]
  rfl
theorem padTo_implv (s : ByteArray) (n : Int) (hs : s.size ≤ 100000) (hn : n ≤ 100000) : impl_PadTo.f s n = some (strOfNums (bytesOf s ++ List.replicate (n - ((bytesOf s).length : Int)).toNat 0)) := by
  unfold impl_PadTo.f
  rw [bytesOf_length]
  by_cases h : (s.size : Int) ≥ n
  · rw [if_pos h, show (n - (s.size : Int)).toNat = 0 by omega, List.replicate_zero, List.append_nil, strOfNums_bytesOf]
  · rw [if_neg h, if_neg (by omega), w64 (by omega) (by omega)]
    unfold strings_Repeat.f
    have z : (⟨#[0]⟩ : ByteArray).size = 1 := rfl
    rw [if_pos ⟨by omega, by omega, by rw [z]; omega⟩, Option.bind_some]
    have z2 : (⟨(Go.Lib.repeatL [0] (n - (s.size : Int)).toNat).toArray⟩ : ByteArray).size = (n - (s.size : Int)).toNat := by
      rw [← data_eq_len]
      simp only []
      rw [Go.Lib.repeatL_length]
      exact Nat.mul_one _
    have e : s ++ (⟨(Go.Lib.repeatL [0] (n - (s.size : Int)).toNat).toArray⟩ : ByteArray) = strOfNums (bytesOf s ++ List.replicate (n - (s.size : Int)).toNat 0) := by
      apply bytesOf_inj
      rw [bytesOf_append, bytesOf_zeros, bytesOf_strOfNums]
      intro x hx
      rcases List.mem_append.1 hx with h1 | h1
      · exact bytesOf_range h1
      · rw [List.eq_of_mem_replicate h1]
        decide
    rw [← e]
    exact if_pos (by simp only [] at z2 ⊢; rw [z2]; omega)
def tripB : List S107 → List Int
  | [] => []
  | x :: l => x.f0 :: x.f1 :: x.f2 :: tripB l
theorem tripB_len (l : List S107) : (tripB l).length = 3 * l.length := by
  induction l with
  | nil => rfl
  | cons x l ih =>
    show (tripB l).length + 1 + 1 + 1 = 3 * (l.length + 1)
    omega
def padB (b : List Int) : ByteArray := strOfNums (b ++ List.replicate ((19 : Int) - (b.length : Int)).toNat 0)
theorem pack_li (xs : List S107) (hx : xs.length ≤ 6) (he : ∀ x ∈ xs, entryM x = true) (l : List S107) : ∀ (i : Int) (s : ByteArray), 0 ≤ i → i ≤ (xs.length : Int) → xs.drop i.toNat = l → (s.size : Int) ≤ 10 + i * 18 →
    Ev (fun k => impl_PackAcl.l0 k s xs (xs.length : Int) i) (padB (bytesOf s ++ tripB l)) := by
  induction l with
  | nil =>
    intro i s h0 hi h hs
    have := ldrop_nil h0 h
    have p := padTo_implv s 19 (by omega) (by omega)
    show Ev _ (padB (bytesOf s ++ []))
    rw [List.append_nil]
    exact Ev.step (fun _ => impl_PackAcl.l0.eq_2 ..) (Ev.neg (by omega) (Ev.bind0 p (Ev.now _)))
  | cons x l ih =>
    intro i s h0 hi h hs
    obtain ⟨a, b, c, e⟩ := ldrop_cons z107 h0 h
    have hr : rd_T107 xs i = x := b
    obtain ⟨e1, e2, e3, e4, e5⟩ := entry_facts (he x (by
      have : x ∈ xs.drop i.toNat := by rw [h]; exact List.mem_cons_self ..
      exact List.mem_of_mem_drop this))
    have z1 := putNumber_1z (n := x.f0) (by omega) (by omega)
    have z2 := putNumber_1z (n := x.f1) (by omega) (by omega)
    have z3 := putNumber_1z (n := x.f2) (by omega) (by omega)
    have a1 := ba_size_append (putNumber x.f0 1) (putNumber x.f1 1)
    have a2 := ba_size_append (putNumber x.f0 1 ++ putNumber x.f1 1) (putNumber x.f2 1)
    have a3 := ba_size_append s (putNumber x.f0 1 ++ putNumber x.f1 1 ++ putNumber x.f2 1)
    have p := ih (i + 1) (s ++ (putNumber x.f0 1 ++ putNumber x.f1 1 ++ putNumber x.f2 1)) (by omega) (by omega) c (by omega)
    rw [bytesOf_append, bytesOf_append, bytesOf_append, putNumber_1 (n := x.f0) (by omega) (by omega), putNumber_1 (n := x.f1) (by omega) (by omega), putNumber_1 (n := x.f2) (by omega) (by omega), List.append_assoc] at p
    refine Ev.step (fun _ => impl_PackAcl.l0.eq_2 ..) (Ev.pos a (Ev.pos h0 (Ev.pos a ?_)))
    rw [hr, w64 (n := i + 1) (by omega) (by omega)]
    exact Ev.bind (putNumber_impl x.f0 1 (by omega)) (Ev.bind (putNumber_impl x.f1 1 (by omega)) (Ev.pos (by omega) (Ev.bind (putNumber_impl x.f2 1 (by omega)) (Ev.pos (by omega) (Ev.pos (by omega) p)))))
def packB (xs : List S107) : ByteArray := padB ((xs.length : Int) :: tripB xs)
theorem packAcl_implv (xs : List S107) (h : isAclM xs = true) : Ev (fun k => impl_PackAcl.f k xs) (packB xs) := by
  obtain ⟨h6, he⟩ := isAcl_len h
  have h2 := isAcl_impl xs (by omega)
  rw [h] at h2
  have p := pack_li xs h6 he xs 0 (putNumber (xs.length : Int) 1) (by omega) (by omega) rfl (by rw [putNumber_1z (by omega) (by omega)]; omega)
  rw [putNumber_1 (n := (xs.length : Int)) (by omega) (by omega)] at p
  unfold impl_PackAcl.f
  exact Ev.bind h2 (Ev.pos rfl (Ev.bind (putNumber_impl (xs.length : Int) 1 (by omega)) p))
theorem packB_bytes (xs : List S107) (h : isAclM xs = true) : bytesOf (packB xs) = ((xs.length : Int) :: tripB xs) ++ List.replicate ((19 : Int) - (((xs.length : Int) :: tripB xs).length : Int)).toNat 0 ∧ (packB xs).size = 19 := by
  obtain ⟨h6, he⟩ := isAcl_len h
  have hl := tripB_len xs
  have hr : ∀ (m : List S107), (∀ x ∈ m, entryM x = true) → ∀ x ∈ tripB m, 0 ≤ x ∧ x ≤ 255 := by
    intro m
    induction m with
    | nil => exact fun _ x hx => by cases hx
    | cons y m ih =>
      intro hm x hx
      obtain ⟨e1, e2, e3, e4, e5⟩ := entry_facts (hm y (List.mem_cons_self ..))
      have hx' : x ∈ y.f0 :: y.f1 :: y.f2 :: tripB m := hx
      simp only [List.mem_cons] at hx'
      rcases hx' with rfl | rfl | rfl | hx'
      · omega
      · omega
      · omega
      · exact ih (fun z hz => hm z (List.mem_cons_of_mem _ hz)) x hx'
  have e : bytesOf (packB xs) = ((xs.length : Int) :: tripB xs) ++ List.replicate ((19 : Int) - (((xs.length : Int) :: tripB xs).length : Int)).toNat 0 := by
    unfold packB padB
    apply bytesOf_strOfNums
    intro x hx
    rcases List.mem_append.1 hx with h1 | h1
    · rcases List.mem_cons.1 h1 with rfl | h1
      · omega
      · exact hr xs he x h1
    · rw [List.eq_of_mem_replicate h1]
      decide
  refine ⟨e, ?_⟩
  rw [← bytesOf_length, e, List.length_append, List.length_replicate, List.length_cons]
  omega
theorem unpack_li (b : ByteArray) (hb : b.size = 19) (xs : List S107) (hx : xs.length ≤ 6) (hp : Ev (fun k => impl_PackAcl.f k xs) b) (m : List S107) : ∀ (out : List S107) (z : List Int), xs = out ++ m → (bytesOf b).drop (1 + 3 * out.length) = tripB m ++ z → (∀ x ∈ m, entryM x = true) →
    Ev (fun k => impl_UnpackAcl.l0 k b out (xs.length : Int) (out.length : Int)) (xs, true) := by
  induction m with
  | nil =>
    intro out z h hd _
    rw [List.append_nil] at h
    subst h
    exact Ev.step (fun _ => impl_UnpackAcl.l0.eq_2 ..) (Ev.neg (by omega) (Ev.bind hp (Ev.pos rfl (Ev.now _))))
  | cons x m ih =>
    intro out z h hd he
    have hl : xs.length = out.length + (m.length + 1) := by rw [h, List.length_append, List.length_cons]
    obtain ⟨e1, e2, e3, e4, e5⟩ := entry_facts (he x (List.mem_cons_self ..))
    have hd' : (bytesOf b).drop (1 + 3 * out.length) = x.f0 :: x.f1 :: x.f2 :: (tripB m ++ z) := hd
    obtain ⟨b1, c1, d1, _⟩ := bdrop_cons (s := b) (i := 3 * (out.length : Int) + 1) (x := x.f0) (l := x.f1 :: x.f2 :: (tripB m ++ z)) (by omega) (by rw [show (3 * (out.length : Int) + 1).toNat = 1 + 3 * out.length by omega]; exact hd')
    obtain ⟨b2, c2, d2, _⟩ := bdrop_cons (s := b) (i := 3 * (out.length : Int) + 1 + 1) (x := x.f1) (l := x.f2 :: (tripB m ++ z)) (by omega) d1
    obtain ⟨b3, c3, d3, _⟩ := bdrop_cons (s := b) (i := 3 * (out.length : Int) + 1 + 1 + 1) (x := x.f2) (l := tripB m ++ z) (by omega) d2
    rw [show 3 * (out.length : Int) + 1 + 1 = 3 * (out.length : Int) + 2 by omega] at b2 c2 d2 b3 c3 d3
    rw [show 3 * (out.length : Int) + 2 + 1 = 3 * (out.length : Int) + 3 by omega] at b3 c3 d3
    have g := ih (out ++ [x]) z (by rw [h, List.append_assoc]; rfl) (by rw [List.length_append, List.length_singleton, show 1 + 3 * (out.length + 1) = (3 * (out.length : Int) + 3 + 1).toNat by omega]; exact d3) (fun y hy => he y (List.mem_cons_of_mem _ hy))
    rw [List.length_append, List.length_singleton, show ((out.length + 1 : Nat) : Int) = (out.length : Int) + 1 by omega] at g
    refine Ev.step (fun _ => impl_UnpackAcl.l0.eq_2 ..) (Ev.pos (by omega) ?_)
    rw [w64 (n := 3 * (out.length : Int)) (by omega) (by omega), Int.add_comm 1 (3 * (out.length : Int)), Int.add_comm 2 (3 * (out.length : Int)), Int.add_comm 3 (3 * (out.length : Int)), w64 (n := 3 * (out.length : Int) + 1) (by omega) (by omega), w64 (n := 3 * (out.length : Int) + 2) (by omega) (by omega), w64 (n := 3 * (out.length : Int) + 3) (by omega) (by omega), w64 (n := (out.length : Int) + 1) (by omega) (by omega), c1, c2, c3, w64 (n := x.f0) (by omega) (by omega), w64 (n := x.f1) (by omega) (by omega), w64 (n := x.f2) (by omega) (by omega)]
    exact Ev.pos (by omega) (Ev.pos (by omega) (Ev.pos (by omega) (Ev.pos (by omega) (Ev.pos (by omega) (Ev.pos (by omega) (Ev.pos (by omega) g))))))
theorem unpack_pack (xs : List S107) (h : isAclM xs = true) : Ev (fun k => impl_UnpackAcl.f k (packB xs)) (xs, true) := by
  obtain ⟨h6, he⟩ := isAcl_len h
  obtain ⟨hb, hz⟩ := packB_bytes xs h
  obtain ⟨b1, c1, d1, _⟩ := bdrop_cons (s := packB xs) (i := 0) (x := (xs.length : Int)) (l := tripB xs ++ List.replicate ((19 : Int) - (((xs.length : Int) :: tripB xs).length : Int)).toNat 0) (by omega) (by rw [hb]; rfl)
  have g := unpack_li (packB xs) hz xs h6 (packAcl_implv xs h) xs [] _ rfl d1 he
  unfold impl_UnpackAcl.f
  refine Ev.pos (by omega) (Ev.pos (by omega) (Ev.step (fun _ => impl_UnpackAcl.j0.eq_2 ..) (Ev.neg (by rw [decide_eq_true_iff, c1]; omega) (Ev.pos (by omega) ?_))))
  rw [c1, w64 (n := (xs.length : Int)) (by omega) (by omega)]
  exact g

theorem getNumber_impl_l {s : ByteArray} (hs : s.size ≤ 140737488351232) {a w : Int} (h0 : 0 ≤ a) (h1 : a + w ≤ (s.size : Int)) (h6 : w ≤ 6) (d : Nat) : ∀ (i n : Int), 0 ≤ i → i + d = w → okAcc i n →
    Ev (fun k => impl_GetNumber.l0 k s a n w i) (num256 (((bytesOf s).drop (a + i).toNat).take d) n, true) := by
  induction d with
  | zero =>
    intro i n hi hd hn
    exact Ev.step (fun _ => impl_GetNumber.l0.eq_2 ..) (Ev.neg (by omega) (Ev.now _))
  | succ d ih =>
    intro i n hi hd hn
    have hb := bt_range s (a + i)
    have hlt := okAcc_lt hn
    have hn' : n < 1099511627776 := by unfold okAcc at hn; omega
    have e : (a + i).toNat < (bytesOf s).length := by rw [bytesOf_length]; omega
    have hd0 := List.drop_eq_getElem_cons e
    obtain ⟨c1, c2, c3, c4⟩ := bdrop_cons (i := a + i) (by omega) hd0
    refine Ev.step (fun _ => impl_GetNumber.l0.eq_2 ..) (Ev.pos (by omega) ?_)
    rw [w64 (n := a + i) (by omega) (by omega), w64 (n := bt s (a + i)) (by omega) (by omega), w64 (n := n * 256) (by omega) (by omega), i64_or8 (by omega) (by omega) (by omega) (by omega) (by omega), w64 (n := i + 1) (by omega) (by omega)]
    refine Ev.pos (by omega) (Ev.pos (by omega) ?_)
    rw [hd0, List.take_succ_cons, num256, ← c2, ← c3, show a + i + 1 = a + (i + 1) by omega, Int.mul_comm n 256]
    exact ih (i + 1) _ (by omega) (by omega) (okAcc_step hn (by omega) hb.1 hb.2)
theorem getNumber_impl {s : ByteArray} (hs : s.size ≤ 140737488351232) (a w : Int) (ha : a ≤ 9223372036854775807) : Ev (fun k => impl_GetNumber.f k s a w) (getNumber s a w) := by
  unfold impl_GetNumber.f
  have no : ¬ (1 ≤ w ∧ w ≤ 6 ∧ 0 ≤ a ∧ a ≤ (s.size : Int) - w) → Ev (fun k => impl_GetNumber.j0 k s a w true) (getNumber s a w) := by
    intro h
    unfold getNumber
    rw [if_neg h]
    exact Ev.step (fun _ => impl_GetNumber.j0.eq_2 ..) (Ev.pos rfl (Ev.now _))
  by_cases hw : w < 1
  · exact Ev.pos hw (no (by omega))
  · refine Ev.neg hw ?_
    by_cases hw6 : w > 6
    · exact Ev.pos hw6 (no (by omega))
    · refine Ev.neg hw6 ?_
      by_cases h0 : a < 0
      · exact Ev.pos h0 (no (by omega))
      · refine Ev.neg h0 ?_
        rw [w64 (n := (s.size : Int) - w) (by omega) (by omega)]
        by_cases h1 : a > (s.size : Int) - w
        · rw [show decide (a > (s.size : Int) - w) = true by simpa using h1]
          exact no (by omega)
        · rw [show decide (a > (s.size : Int) - w) = false by simpa using h1]
          refine Ev.step (fun _ => impl_GetNumber.j0.eq_2 ..) (Ev.neg (by decide) ?_)
          have := getNumber_impl_l hs (a := a) (w := w) (by omega) (by omega) (by omega) w.toNat 0 0 (by omega) (by omega) (by unfold okAcc; omega)
          unfold getNumber
          rw [if_pos (by omega)]
          simpa using this

theorem num256_app (x : Int) : ∀ (l : List Int) (m : Int), num256 (l ++ [x]) m = 256 * num256 l m + x
  | [], _ => rfl
  | y :: l, m => num256_app x l (256 * m + y)
theorem num256_putL : ∀ (w : Nat) (n : Int), 0 ≤ n → n < 256 ^ w → num256 (putL w n) 0 = n
  | 0, n, h0, h => by
    rw [Int.pow_zero] at h
    show (0 : Int) = n
    omega
  | w + 1, n, h0, h => by
    rw [Int.pow_succ] at h
    rw [putL, num256_app, num256_putL w (n / 256) (by omega) (by omega)]
    omega
theorem putB {n w : Int} (h1 : 1 ≤ w ∧ w ≤ 6) (h : 0 ≤ n ∧ n < 256 ^ w.toNat) : bytesOf (putNumber n w) = putL w.toNat n := by
  unfold putNumber
  rw [if_pos ⟨h1.1, h1.2, h.1, h.2⟩, bytesOf_strOfNums (fun x hx => putL_range _ _ x hx)]
theorem putBz {n w : Int} (h1 : 1 ≤ w ∧ w ≤ 6) (h : 0 ≤ n ∧ n < 256 ^ w.toNat) : (putNumber n w).size = w.toNat := by
  rw [← bytesOf_length, putB h1 h, putL_length]
/-- A number that stands behind t is read back, and what follows stands behind it. -/
theorem get_next {s : ByteArray} {a w n : Int} {t m : List Int} (hw : 1 ≤ w ∧ w ≤ 6) (h : 0 ≤ n ∧ n < 256 ^ w.toNat) (ht : (t.length : Int) = a) (hs : bytesOf s = t ++ (putL w.toNat n ++ m)) :
    getNumber s a w = (n, true) ∧ bytesOf s = (t ++ putL w.toNat n) ++ m ∧ ((t ++ putL w.toNat n).length : Int) = a + w := by
  have hl : s.size = t.length + (w.toNat + m.length) := by rw [← bytesOf_length, hs, List.length_append, List.length_append, putL_length]
  refine ⟨?_, by rw [hs, List.append_assoc], by rw [List.length_append, putL_length]; omega⟩
  unfold getNumber
  rw [if_pos ⟨hw.1, hw.2, by omega, by omega⟩, hs, show a.toNat = t.length by omega, List.drop_left, List.take_left' (putL_length _ _), num256_putL _ _ h.1 h.2]
/-- The bytes of n blocks, from block i on. -/
def blkB (b : List Int) : Nat → Nat → List Int
  | _, 0 => []
  | i, n + 1 => putL 2 (if i < b.length then b.getD i 0 + 1 else 0) ++ blkB b (i + 1) n
theorem blkB_length (b : List Int) : ∀ n i, (blkB b i n).length = 2 * n
  | 0, _ => rfl
  | n + 1, i => by
    rw [blkB, List.length_append, putL_length, blkB_length b n]
    omega
theorem blkV {b : List Int} (hbv : ∀ v, v ∈ b → -1 ≤ v ∧ v ≤ 999) (i : Nat) : 0 ≤ (if i < b.length then b.getD i 0 + 1 else 0) ∧ (if i < b.length then b.getD i 0 + 1 else 0) < (256 : Int) ^ (2 : Int).toNat := by
  have e2 : (256 : Int) ^ (2 : Int).toNat = 65536 := by decide
  rw [e2]
  by_cases h : i < b.length
  · have := hbv (b.getD i 0) (by rw [List.getD_eq_getElem?_getD, List.getElem?_eq_getElem h]; exact List.getElem_mem _)
    rw [if_pos h]
    omega
  · rw [if_neg h]
    omega
theorem packInode_lv (a0 a1 a2 a3 a4 a5 a6 : Int) (b : List Int) (c d : List S107) (hc : isAclM c = true) (hd : isAclM d = true) (hb : b.length ≤ 8) (hbv : ∀ v, v ∈ b → -1 ≤ v ∧ v ≤ 999) (n : Nat) : ∀ (i : Nat) (s : ByteArray), i + n = 8 → s.size = 13 + 2 * i →
    ∃ r m, Ev (fun k => impl_PackInode.l0 k s (i : Int) a0 a1 a2 a3 a4 a5 a6 b c d) r ∧ r.size = 96 ∧ bytesOf r = bytesOf s ++ (blkB b i n ++ (bytesOf (packB c) ++ (bytesOf (packB d) ++ m))) := by
  induction n with
  | zero =>
    intro i s hi hs
    obtain ⟨x1, x2⟩ := packB_bytes c hc
    obtain ⟨y1, y2⟩ := packB_bytes d hd
    have X := packAcl_implv c hc
    have Y := packAcl_implv d hd
    have z1 := ba_size_append s (packB c)
    have z2 := ba_size_append (s ++ packB c) (packB d)
    have p := padTo_implv (s ++ packB c ++ packB d) 96 (by omega) (by omega)
    have e : bytesOf (strOfNums (bytesOf (s ++ packB c ++ packB d) ++ List.replicate ((96 : Int) - ((bytesOf (s ++ packB c ++ packB d)).length : Int)).toNat 0)) = bytesOf (s ++ packB c ++ packB d) ++ List.replicate ((96 : Int) - ((bytesOf (s ++ packB c ++ packB d)).length : Int)).toNat 0 := by
      apply bytesOf_strOfNums
      intro x hx
      rcases List.mem_append.1 hx with h | h
      · exact bytesOf_range h
      · rw [List.eq_of_mem_replicate h]
        decide
    refine ⟨_, _, Ev.step (fun _ => impl_PackInode.l0.eq_2 ..) (Ev.neg (by omega) (Ev.bind X (Ev.pos (by omega) (Ev.bind Y (Ev.pos (by omega) (Ev.bind0 p (Ev.now _))))))), ?_, by rw [e, bytesOf_append, bytesOf_append, blkB, List.nil_append, List.append_assoc, List.append_assoc]⟩
    rw [← bytesOf_length, e, List.length_append, List.length_replicate, bytesOf_length]
    omega
  | succ n ih =>
    intro i s hi hs
    have e2 : (256 : Int) ^ (2 : Int).toNat = 65536 := by decide
    have hV := blkV hbv i
    by_cases hl : i < b.length
    · rw [if_pos hl] at hV
      have hV' := hV
      rw [e2] at hV'
      have hr : rd b (i : Int) = b.getD i 0 := by
        show b.getD (i : Int).toNat 0 = b.getD i 0
        rw [Int.toNat_natCast]
      have hz := putBz (n := b.getD i 0 + 1) (w := 2) (by omega) hV
      have hy := putB (n := b.getD i 0 + 1) (w := 2) (by omega) hV
      have z1 := ba_size_append s (putNumber (b.getD i 0 + 1) 2)
      obtain ⟨r, m, p1, p2, p3⟩ := ih (i + 1) (s ++ putNumber (b.getD i 0 + 1) 2) (by omega) (by omega)
      rw [show ((i + 1 : Nat) : Int) = (i : Int) + 1 by omega] at p1
      refine ⟨r, m, Ev.step (fun _ => impl_PackInode.l0.eq_2 ..) (Ev.pos (by omega) (Ev.pos (by omega) (Ev.pos (by omega) ?_))), p2, ?_⟩
      · rw [hr, w64 (n := b.getD i 0 + 1) (by omega) (by omega), w64 (n := (i : Int) + 1) (by omega) (by omega)]
        exact Ev.bind (putNumber_impl _ 2 (by omega)) (Ev.pos (by omega) p1)
      · rw [p3, bytesOf_append, hy, blkB, if_pos hl]
        simp only [List.append_assoc]
        rfl
    · have hz : (putNumber ((-1) + 1) 2).size = 2 := by decide +kernel
      have hy : bytesOf (putNumber ((-1) + 1) 2) = putL 2 0 := by decide +kernel
      have z1 := ba_size_append s (putNumber ((-1) + 1) 2)
      obtain ⟨r, m, p1, p2, p3⟩ := ih (i + 1) (s ++ putNumber ((-1) + 1) 2) (by omega) (by omega)
      rw [show ((i + 1 : Nat) : Int) = (i : Int) + 1 by omega] at p1
      refine ⟨r, m, Ev.step (fun _ => impl_PackInode.l0.eq_2 ..) (Ev.pos (by omega) (Ev.neg (by omega) (Ev.bind (putNumber_impl _ 2 (by decide)) (Ev.pos (by omega) ?_)))), p2, ?_⟩
      · rw [w64 (n := (i : Int) + 1) (by omega) (by omega)]
        exact p1
      · rw [p3, bytesOf_append, hy, blkB, if_neg hl]
        simp only [List.append_assoc]
/-- An inode that holds, its numbers of their width. -/
structure GoodIn (a0 a1 a2 a3 a4 a5 a6 : Int) (b : List Int) (c d : List S107) : Prop where
  ok : Ev (fun k => impl_IsInode.f k a0 a1 a2 a3 a4 a5 a6 b c d) true
  h0 : 0 ≤ a0 ∧ a0 < 256
  h1 : 0 ≤ a1 ∧ a1 < 65536
  h2 : 0 ≤ a2 ∧ a2 < 256
  h3 : 0 ≤ a3 ∧ a3 < 256
  h4 : 0 ≤ a4 ∧ a4 < 65536
  h5 : 0 ≤ a5 ∧ a5 < 65536
  h6 : 0 ≤ a6 ∧ a6 < 4294967296
  hn : (b.length : Int) = Lib.needB a5
  hb : b.length ≤ 8
  hv : ∀ v, v ∈ b → -1 ≤ v ∧ v ≤ 999
  hc : isAclM c = true
  hd : isAclM d = true
theorem packInode_v {a0 a1 a2 a3 a4 a5 a6 : Int} {b : List Int} {c d : List S107} (g : GoodIn a0 a1 a2 a3 a4 a5 a6 b c d) :
    ∃ r m, Ev (fun k => impl_PackInode.f k a0 a1 a2 a3 a4 a5 a6 b c d) r ∧ r.size = 96 ∧ bytesOf r = putL 1 a0 ++ (putL 2 a1 ++ (putL 1 a2 ++ (putL 1 a3 ++ (putL 2 a4 ++ (putL 2 a5 ++ (putL 4 a6 ++ (blkB b 0 8 ++ (bytesOf (packB c) ++ (bytesOf (packB d) ++ m))))))))) := by
  obtain ⟨ok, h0, h1, h2, h3, h4, h5, h6, hn, hb, hv, hc, hd⟩ := g
  have e1 : (256 : Int) ^ (1 : Int).toNat = 256 := by decide
  have e2 : (256 : Int) ^ (2 : Int).toNat = 65536 := by decide
  have e4 : (256 : Int) ^ (4 : Int).toNat = 4294967296 := by decide
  have z0 := putBz (n := a0) (w := 1) (by omega) (by rw [e1]; exact h0)
  have z1 := putBz (n := a1) (w := 2) (by omega) (by rw [e2]; exact h1)
  have z2 := putBz (n := a2) (w := 1) (by omega) (by rw [e1]; exact h2)
  have z3 := putBz (n := a3) (w := 1) (by omega) (by rw [e1]; exact h3)
  have z4 := putBz (n := a4) (w := 2) (by omega) (by rw [e2]; exact h4)
  have z5 := putBz (n := a5) (w := 2) (by omega) (by rw [e2]; exact h5)
  have z6 := putBz (n := a6) (w := 4) (by omega) (by rw [e4]; exact h6)
  have b0 := putB (n := a0) (w := 1) (by omega) (by rw [e1]; exact h0)
  have b1 := putB (n := a1) (w := 2) (by omega) (by rw [e2]; exact h1)
  have b2 := putB (n := a2) (w := 1) (by omega) (by rw [e1]; exact h2)
  have b3 := putB (n := a3) (w := 1) (by omega) (by rw [e1]; exact h3)
  have b4 := putB (n := a4) (w := 2) (by omega) (by rw [e2]; exact h4)
  have b5 := putB (n := a5) (w := 2) (by omega) (by rw [e2]; exact h5)
  have b6 := putB (n := a6) (w := 4) (by omega) (by rw [e4]; exact h6)
  have y1 := ba_size_append (putNumber a0 1) (putNumber a1 2)
  have y2 := ba_size_append (putNumber a0 1 ++ putNumber a1 2) (putNumber a2 1)
  have y3 := ba_size_append (putNumber a0 1 ++ putNumber a1 2 ++ putNumber a2 1) (putNumber a3 1)
  have y4 := ba_size_append (putNumber a0 1 ++ putNumber a1 2 ++ putNumber a2 1 ++ putNumber a3 1) (putNumber a4 2)
  have y5 := ba_size_append (putNumber a0 1 ++ putNumber a1 2 ++ putNumber a2 1 ++ putNumber a3 1 ++ putNumber a4 2) (putNumber a5 2)
  have y6 := ba_size_append (putNumber a0 1 ++ putNumber a1 2 ++ putNumber a2 1 ++ putNumber a3 1 ++ putNumber a4 2 ++ putNumber a5 2) (putNumber a6 4)
  obtain ⟨r, m, p1, p2, p3⟩ := packInode_lv a0 a1 a2 a3 a4 a5 a6 b c d hc hd hb hv 8 0 (putNumber a0 1 ++ putNumber a1 2 ++ putNumber a2 1 ++ putNumber a3 1 ++ putNumber a4 2 ++ putNumber a5 2 ++ putNumber a6 4) (by omega) (by omega)
  refine ⟨r, m, ?_, p2, ?_⟩
  · unfold impl_PackInode.f
    exact Ev.bind ok (Ev.pos rfl (Ev.bind (putNumber_impl a0 1 (by omega)) (Ev.bind (putNumber_impl a1 2 (by omega)) (Ev.pos (by omega) (Ev.bind (putNumber_impl a2 1 (by omega)) (Ev.pos (by omega) (Ev.bind (putNumber_impl a3 1 (by omega)) (Ev.pos (by omega) (Ev.bind (putNumber_impl a4 2 (by omega)) (Ev.pos (by omega) (Ev.bind (putNumber_impl a5 2 (by omega)) (Ev.pos (by omega) (Ev.bind (putNumber_impl a6 4 (by omega)) (Ev.pos (by omega) p1))))))))))))))
  · rw [p3]
    simp only [bytesOf_append, b0, b1, b2, b3, b4, b5, b6, List.append_assoc]
    rfl
theorem extractV {s X : ByteArray} {t m : List Int} {a b : Nat} (ht : t.length = a) (hX : a + X.size = b) (h : bytesOf s = t ++ (bytesOf X ++ m)) : s.extract a b = X := by
  apply bytesOf_inj
  rw [bytesOf_extract, h, ← List.append_assoc, List.take_append_of_le_length (by rw [List.length_append, bytesOf_length]; omega), List.take_of_length_le (by rw [List.length_append, bytesOf_length]; omega), List.drop_append_of_le_length (by omega), List.drop_of_length_le (by omega), List.nil_append]
theorem unpack_blkv (s : ByteArray) (hs : s.size = 96) (size : Int) (b : List Int) (hn : (b.length : Int) = Lib.needB size) (hbv : ∀ v, v ∈ b → -1 ≤ v ∧ v ≤ 999) (m : List Int) (n : Nat) : ∀ (i : Nat) (t : List Int), i + n = 8 → (t.length : Int) = 13 + 2 * (i : Int) → bytesOf s = t ++ (blkB b i n ++ m) →
    Ev (fun k => impl_UnpackInode.blk k s size (List.range' i n) (b.take i)) (b.take 8) := by
  induction n with
  | zero =>
    intro i t hi ht h
    obtain rfl : i = 8 := by omega
    exact Ev.now _
  | succ n ih =>
    intro i t hi ht h
    have e2 : (256 : Int) ^ (2 : Int).toNat = 65536 := by decide
    have hV := blkV hbv i
    rw [blkB, List.append_assoc] at h
    obtain ⟨g1, g2, g3⟩ := get_next (w := 2) (by omega) hV ht h
    have p := ih (i + 1) _ (by omega) (by rw [g3]; omega) g2
    rw [show List.range' i (n + 1) = i :: List.range' (i + 1) n from rfl]
    unfold impl_UnpackInode.blk
    have q := getNumber_impl (s := s) (by omega) (13 + 2 * (i : Int)) 2 (by omega)
    rw [g1] at q
    refine Ev.bind q ?_
    by_cases hl : i < b.length
    · rw [if_pos hl] at hV ⊢
      rw [e2] at hV
      rw [if_pos (show (i : Int) < Lib.needB size by omega), show b.getD i 0 + 1 - 1 = b.getD i 0 by omega, w64 (by omega) (by omega), ← Lib.take_rd (0 : Int) b i hl]
      exact p
    · rw [if_neg (show ¬ (i : Int) < Lib.needB size by omega), List.take_of_length_le (show b.length ≤ i by omega)]
      rw [List.take_of_length_le (show b.length ≤ i + 1 by omega)] at p
      exact p
theorem unpackInode_v {a0 a1 a2 a3 a4 a5 a6 : Int} {b : List Int} {c d : List S107} (g : GoodIn a0 a1 a2 a3 a4 a5 a6 b c d) :
    ∃ r, Ev (fun k => impl_PackInode.f k a0 a1 a2 a3 a4 a5 a6 b c d) r ∧ r.size = 96 ∧ Ev (fun k => impl_UnpackInode.f k r) (a0, a1, a2, a3, a4, a5, a6, b, c, d, true) := by
  obtain ⟨r, m, P, hz, hB⟩ := packInode_v g
  obtain ⟨ok, h0, h1, h2, h3, h4, h5, h6, hn, hb, hv, hc, hd⟩ := g
  have e1 : (256 : Int) ^ (1 : Int).toNat = 256 := by decide
  have e2 : (256 : Int) ^ (2 : Int).toNat = 65536 := by decide
  have e4 : (256 : Int) ^ (4 : Int).toNat = 4294967296 := by decide
  have hm : r.size ≤ 140737488351232 := by omega
  obtain ⟨g0, s0, l0⟩ := get_next (s := r) (a := 0) (w := 1) (n := a0) (t := []) (by omega) (by rw [e1]; exact h0) rfl hB
  obtain ⟨g1, s1, l1⟩ := get_next (w := 2) (n := a1) (by omega) (by rw [e2]; exact h1) l0 s0
  obtain ⟨g2, s2, l2⟩ := get_next (w := 1) (n := a2) (by omega) (by rw [e1]; exact h2) l1 s1
  obtain ⟨g3, s3, l3⟩ := get_next (w := 1) (n := a3) (by omega) (by rw [e1]; exact h3) l2 s2
  obtain ⟨g4, s4, l4⟩ := get_next (w := 2) (n := a4) (by omega) (by rw [e2]; exact h4) l3 s3
  obtain ⟨g5, s5, l5⟩ := get_next (w := 2) (n := a5) (by omega) (by rw [e2]; exact h5) l4 s4
  obtain ⟨g6, s6, l6⟩ := get_next (w := 4) (n := a6) (by omega) (by rw [e4]; exact h6) l5 s5
  have q0 := getNumber_impl hm 0 1 (by omega)
  have q1 := getNumber_impl hm 1 2 (by omega)
  have q2 := getNumber_impl hm 3 1 (by omega)
  have q3 := getNumber_impl hm 4 1 (by omega)
  have q4 := getNumber_impl hm 5 2 (by omega)
  have q5 := getNumber_impl hm 7 2 (by omega)
  have q6 := getNumber_impl hm 9 4 (by omega)
  rw [show (0 : Int) + 1 = 1 by omega] at g1 l1 l2 l3 l4 l5 l6
  rw [show (0 : Int) + 1 = 1 by omega, show (1 : Int) + 2 = 3 by omega] at g2
  rw [show (0 : Int) + 1 = 1 by omega, show (1 : Int) + 2 = 3 by omega, show (3 : Int) + 1 = 4 by omega] at g3
  rw [show (0 : Int) + 1 = 1 by omega, show (1 : Int) + 2 = 3 by omega, show (3 : Int) + 1 = 4 by omega, show (4 : Int) + 1 = 5 by omega] at g4
  rw [show (0 : Int) + 1 = 1 by omega, show (1 : Int) + 2 = 3 by omega, show (3 : Int) + 1 = 4 by omega, show (4 : Int) + 1 = 5 by omega, show (5 : Int) + 2 = 7 by omega] at g5
  rw [show (0 : Int) + 1 = 1 by omega, show (1 : Int) + 2 = 3 by omega, show (3 : Int) + 1 = 4 by omega, show (4 : Int) + 1 = 5 by omega, show (5 : Int) + 2 = 7 by omega, show (7 : Int) + 2 = 9 by omega] at g6
  rw [g0] at q0
  rw [g1] at q1
  rw [g2] at q2
  rw [g3] at q3
  rw [g4] at q4
  rw [g5] at q5
  rw [g6] at q6
  have K := unpack_blkv r hz a5 b hn hv _ 8 0 _ (by omega) (by omega) s6
  rw [List.take_of_length_le hb] at K
  obtain ⟨_, x2⟩ := packB_bytes c hc
  obtain ⟨_, y2⟩ := packB_bytes d hd
  have hk := blkB_length b 8 0
  rw [← List.append_assoc] at s6
  have X := extractV (X := packB c) (a := 29) (b := 48) (by rw [List.length_append, hk]; omega) (by omega) s6
  rw [← List.append_assoc] at s6
  have Y := extractV (X := packB d) (a := 48) (b := 67) (by rw [List.length_append, List.length_append, hk, bytesOf_length]; omega) (by omega) s6
  have x := unpack_pack c hc
  have y := unpack_pack d hd
  rw [← X] at x
  rw [← Y] at y
  refine ⟨r, P, hz, ?_⟩
  unfold impl_UnpackInode.f
  refine Ev.pos hz (Ev.bind q0 (Ev.bind q1 (Ev.bind q2 (Ev.bind q3 (Ev.bind q4 (Ev.bind q5 (Ev.bind q6 (Ev.bind K (Ev.bind x (Ev.bind y (Ev.bind P ?_)))))))))))
  rw [if_neg (by simp)]
  exact Ev.now _

def aclEq (x y : S107) : Bool := decide (x.f0 = y.f0 ∧ x.f1 = y.f1 ∧ x.f2 = y.f2)
theorem aclEq_refl (x : S107) : aclEq x x = true := decide_eq_true ⟨rfl, rfl, rfl⟩
theorem aclEq_cond (x y : S107) : ((!(x.f0 == y.f0) || (!(x.f1 == y.f1) || !(x.f2 == y.f2))) = true) ↔ ¬ (aclEq x y = true) := by
  unfold aclEq
  simp only [Bool.or_eq_true, Bool.not_eq_true', beq_eq_false_iff_ne, decide_eq_true_eq, ne_eq]
  omega

theorem slices_Equal_int_int_l (a b : List Int) (ha : a.length ≤ 1048576) (hab : a.length = b.length) (l : List Int) : ∀ (i : Int) (m : List Int), 0 ≤ i → a.drop i.toNat = l → b.drop i.toNat = m → Ev (fun k => slices_Equal_int_int.l0 k a b (a.length : Int) i) (allEq intEq l m) := by
  induction l with
  | nil =>
    intro i m h0 h h'
    have h1 := ldrop_nil h0 h
    have hm : m = [] := by rw [← h']; exact List.drop_eq_nil_of_le (by omega)
    rw [hm]
    exact Ev.step (fun _ => slices_Equal_int_int.l0.eq_2 ..) (Ev.neg (by omega) (Ev.now _))
  | cons x l ih =>
    intro i m h0 h h'
    obtain ⟨p, q, c, e⟩ := ldrop_cons (0 : Int) h0 h
    cases m with
    | nil =>
      have := ldrop_nil h0 h'
      omega
    | cons y m =>
      obtain ⟨p', q', c', e'⟩ := ldrop_cons (0 : Int) h0 h'
      have this := ih (i + 1) m (by omega) c c'
      have hq : rd a i = x := q
      have hq' : rd b i = y := q'
      refine Ev.step (fun _ => slices_Equal_int_int.l0.eq_2 ..) (Ev.pos p (Ev.pos h0 (Ev.pos p (Ev.pos p' ?_))))
      rw [hq, hq', w64 (n := i + 1) (by omega) (by omega), allEq]
      by_cases hxy : x = y
      · rw [show intEq x y = true from decide_eq_true hxy, Bool.true_and]
        exact Ev.pos hxy this
      · rw [show intEq x y = false from decide_eq_false hxy, Bool.false_and]
        exact Ev.neg hxy (Ev.now _)
theorem slices_Equal_int_int_f (a b : List Int) (ha : a.length ≤ 1048576) : Ev (fun k => slices_Equal_int_int.f k a b) (allEq intEq a b) := by
  unfold slices_Equal_int_int.f
  by_cases h : (a.length : Int) = (b.length : Int)
  · exact Ev.pos h (slices_Equal_int_int_l a b ha (by omega) a 0 b (by omega) rfl rfl)
  · rw [allEq_len a b (by omega)]
    exact Ev.neg h (Ev.now _)

theorem impl_AclEntry_l (a b : List S107) (ha : a.length ≤ 1048576) (hab : a.length = b.length) (l : List S107) : ∀ (i : Int) (m : List S107), 0 ≤ i → a.drop i.toNat = l → b.drop i.toNat = m → Ev (fun k => impl_AclEntry.l0 k a b (a.length : Int) i) (allEq aclEq l m) := by
  induction l with
  | nil =>
    intro i m h0 h h'
    have h1 := ldrop_nil h0 h
    have hm : m = [] := by rw [← h']; exact List.drop_eq_nil_of_le (by omega)
    rw [hm]
    exact Ev.step (fun _ => impl_AclEntry.l0.eq_2 ..) (Ev.neg (by omega) (Ev.now _))
  | cons x l ih =>
    intro i m h0 h h'
    obtain ⟨p, q, c, e⟩ := ldrop_cons z107 h0 h
    cases m with
    | nil =>
      have := ldrop_nil h0 h'
      omega
    | cons y m =>
      obtain ⟨p', q', c', e'⟩ := ldrop_cons z107 h0 h'
      have this := ih (i + 1) m (by omega) c c'
      have hq : rd_T107 a i = x := q
      have hq' : rd_T107 b i = y := q'
      refine Ev.step (fun _ => impl_AclEntry.l0.eq_2 ..) (Ev.pos p (Ev.pos h0 (Ev.pos p (Ev.pos p' ?_))))
      rw [hq, hq', w64 (n := i + 1) (by omega) (by omega), allEq]
      by_cases hxy : aclEq x y = true
      · rw [hxy, Bool.true_and]
        exact Ev.neg (fun h => (aclEq_cond x y).1 h hxy) this
      · rw [show aclEq x y = false by simpa using hxy, Bool.false_and]
        exact Ev.pos ((aclEq_cond x y).2 hxy) (Ev.now _)
theorem impl_AclEntry_f (a b : List S107) (ha : a.length ≤ 1048576) : Ev (fun k => impl_AclEntry.f k a b) (allEq aclEq a b) := by
  unfold impl_AclEntry.f
  by_cases h : (a.length : Int) = (b.length : Int)
  · exact Ev.pos h (impl_AclEntry_l a b ha (by omega) a 0 b (by omega) rfl rfl)
  · rw [allEq_len a b (by omega)]
    exact Ev.neg h (Ev.now _)

def sameInodeM (a0 a1 a2 a3 a4 a5 a6 : Int) (b : List Int) (c d : List S107) (x0 x1 x2 x3 x4 x5 x6 : Int) (y : List Int) (z w : List S107) : Bool :=
  if a0 = x0 ∧ a1 = x1 ∧ a2 = x2 ∧ a3 = x3 ∧ a4 = x4 ∧ a5 = x5 ∧ a6 = x6 then (if allEq intEq b y = true then (if allEq aclEq c z = true then allEq aclEq d w else false) else false) else false
theorem sameInode_impl (a0 a1 a2 a3 a4 a5 a6 : Int) (b : List Int) (c d : List S107) (x0 x1 x2 x3 x4 x5 x6 : Int) (y : List Int) (z w : List S107) (hb : b.length ≤ 1048576) (hc : c.length ≤ 1048576) (hd : d.length ≤ 1048576) :
    Ev (fun k => impl_SameInode.f k a0 a1 a2 a3 a4 a5 a6 b c d x0 x1 x2 x3 x4 x5 x6 y z w) (sameInodeM a0 a1 a2 a3 a4 a5 a6 b c d x0 x1 x2 x3 x4 x5 x6 y z w) := by
  unfold impl_SameInode.f
  refine Ev.bind (slices_Equal_int_int_f b y hb) (Ev.bind (impl_AclEntry_f c z hc) (Ev.bind (impl_AclEntry_f d w hd) (Ev.ofEq (congrArg some ?_))))
  unfold sameInodeM
  by_cases h : a0 = x0 ∧ a1 = x1 ∧ a2 = x2 ∧ a3 = x3 ∧ a4 = x4 ∧ a5 = x5 ∧ a6 = x6
  · rw [if_pos h]
    obtain ⟨rfl, rfl, rfl, rfl, rfl, rfl, rfl⟩ := h
    simp only [BEq.rfl]
    cases allEq intEq b y <;> cases allEq aclEq c z <;> simp
  · rw [if_neg h, show (a0 == x0 && a1 == x1 && a2 == x2 && a3 == x3 && a4 == x4 && a5 == x5 && a6 == x6) = false by
      rw [Bool.eq_false_iff]
      intro e
      simp only [Bool.and_eq_true, beq_iff_eq] at e
      omega]
    rfl

def usedM (l : List Int) : List Int := l.filter (fun b => !decide (b = -1))
theorem usedBlocks_impl_l (xs : List Int) (hx : xs.length ≤ 1048576) (l : List Int) : ∀ (i : Int) (out : List Int), 0 ≤ i → xs.drop i.toNat = l → (out.length : Int) ≤ i → Ev (fun k => impl_UsedBlocks.l0 k out xs (xs.length : Int) i) (out ++ usedM l) := by
  induction l with
  | nil =>
    intro i out h0 h ho
    have := ldrop_nil h0 h
    rw [usedM, List.filter_nil, List.append_nil]
    exact Ev.step (fun _ => impl_UsedBlocks.l0.eq_2 ..) (Ev.neg (by omega) (Ev.now _))
  | cons x l ih =>
    intro i out h0 h ho
    obtain ⟨p, q, c, e⟩ := ldrop_cons (0 : Int) h0 h
    refine Ev.step (fun _ => impl_UsedBlocks.l0.eq_2 ..) (Ev.pos p (Ev.pos h0 (Ev.pos p ?_)))
    rw [show rd xs i = x from q, w64 (n := i + 1) (by omega) (by omega)]
    by_cases hx1 : x = -1
    · rw [usedM, List.filter_cons_of_neg (by simpa using hx1)]
      exact Ev.pos hx1 (ih (i + 1) out (by omega) c (by omega))
    · rw [show out ++ usedM (x :: l) = out ++ [x] ++ usedM l by rw [usedM, List.filter_cons_of_pos (by simpa using hx1), List.append_assoc]; rfl]
      exact Ev.neg hx1 (Ev.pos (by omega) (ih (i + 1) (out ++ [x]) (by omega) c (by rw [List.length_append, List.length_singleton]; omega)))
theorem usedBlocks_impl (a0 a1 a2 a3 a4 a5 a6 : Int) (b : List Int) (c d : List S107) (hb : b.length ≤ 1048576) : Ev (fun k => impl_UsedBlocks.f k a0 a1 a2 a3 a4 a5 a6 b c d) (usedM b) := usedBlocks_impl_l b hb b 0 [] (by omega) rfl (by simp)
theorem usedM_length (b : List Int) : (usedM b).length ≤ b.length := List.length_filter_le _ _

theorem i64_and511 (n : Int) : Go.bits .and .i64 n 511 = n % 512 := by
  unfold Go.bits
  simp only []
  rw [BitVec.toNat_and, show (BitVec.ofInt IntKind.i64.bits 511).toNat = 2 ^ 9 - 1 from rfl, Nat.and_two_pow_sub_one_eq_mod, BitVec.toNat_ofInt, IntKind.wrap_i64, show IntKind.i64.bits = 64 from rfl]
  omega
theorem and512 : ∀ n : Fin 512, Go.bits .and .i64 (n.val : Int) 512 = 0 := by decide +kernel
theorem and512_0 {n : Int} (h0 : 0 ≤ n) (h1 : n < 512) : Go.bits .and .i64 n 512 = 0 := by
  have h := and512 ⟨n.toNat, by omega⟩
  have e : ((n.toNat : Nat) : Int) = n := by omega
  simp only [e] at h
  exact h
theorem below_any (s : List Int) (i h : Int) (h0 : 0 ≤ i) (h1 : i ≤ 1048576) (hs : s.length ≤ 1048576) (n : Int) (hn : 1 ≤ n) : ∃ v i' h', spec_l01Below.f s i h n = some (v, i', h') ∧ 0 ≤ i' ∧ i' ≤ 1048576 := by
  by_cases h2 : n ≤ 256
  · obtain ⟨v, i', h', e, _, _, a, b⟩ := l01BelowB_ex s i h h0 h1 hs n hn h2
    exact ⟨v, i', h', e, a, b⟩
  · obtain ⟨v1, i1, g1, e1, _, _, a1, b1⟩ := l01Byte_ex s i h h0 h1 hs
    obtain ⟨v2, i2, g2, e2, _, _, a2, b2⟩ := l01Byte_ex s i1 g1 a1 b1 hs
    obtain ⟨v3, i3, g3, e3, _, _, a3, b3⟩ := l01Byte_ex s i2 g2 a2 b2 hs
    obtain ⟨v4, i4, g4, e4, _, _, a4, b4⟩ := l01Byte_ex s i3 g3 a3 b3 hs
    unfold spec_l01Below.f
    rw [if_neg (by omega), if_neg h2, e1, Option.bind_some]
    simp only []
    rw [e2, Option.bind_some]
    simp only []
    rw [e3, Option.bind_some]
    simp only []
    rw [e4, Option.bind_some]
    simp only []
    rw [if_neg (by omega)]
    exact ⟨_, _, _, rfl, a4, b4⟩
theorem onceN (s : List Int) (i h : Int) (h0 : 0 ≤ i) (h1 : i ≤ 1048576) (hs : s.length ≤ 1048576) (n : Int) (hn : 1 ≤ n) : ∃ b i' h', spec_l01Once.f s i h n = some (b, i', h') ∧ 0 ≤ i' ∧ i' ≤ 1048576 := by
  obtain ⟨v, i', h', e, a, b⟩ := below_any s i h h0 h1 hs n hn
  refine ⟨(v == 0), i', h', ?_, a, b⟩
  unfold spec_l01Once.f
  rw [e, Option.bind_some]
theorem near_any (s : List Int) (i h : Int) (h0 : 0 ≤ i) (h1 : i ≤ 1048576) (hs : s.length ≤ 1048576) : ∃ v i' h', spec_l01Near.f s i h 0 2047 = some (v, i', h') ∧ 0 ≤ i' ∧ i' ≤ 1048576 := by
  obtain ⟨v, i1, g1, e, a, b⟩ := below_any s i h h0 h1 hs 12 (by decide)
  obtain ⟨p, i2, g2, e2, a2, b2⟩ := l01Pick_ex s i1 g1 a b hs [9223372036854775807, (-9223372036854775808), (-1), 0, 1000000000] (by decide) (by decide)
  obtain ⟨q, i3, g3, e3, a3, b3⟩ := below_any s i1 g1 a b hs (wrap64 ((wrap64 ((2047 : Int) - 0)) + 1)) (by decide +kernel)
  unfold spec_l01Near.f
  rw [e, Option.bind_some]
  simp only []
  by_cases c0 : v = 0
  · exact ⟨_, _, _, if_pos c0, a, b⟩
  by_cases c1 : v = 1
  · exact ⟨_, _, _, by rw [if_neg c0, if_pos c1], a, b⟩
  by_cases c2 : v = 2
  · exact ⟨_, _, _, by rw [if_neg c0, if_neg c1, if_pos c2], a, b⟩
  by_cases c3 : v = 3
  · exact ⟨_, _, _, by rw [if_neg c0, if_neg c1, if_neg c2, if_pos c3], a, b⟩
  by_cases c4 : v = 4
  · exact ⟨_, _, _, by rw [if_neg c0, if_neg c1, if_neg c2, if_neg c3, if_pos c4, e2, Option.bind_some], a2, b2⟩
  · exact ⟨_, _, _, by rw [if_neg c0, if_neg c1, if_neg c2, if_neg c3, if_neg c4, if_neg (by decide +kernel), e3, Option.bind_some], a3, b3⟩
theorem modes_any (s : List Int) (i h : Int) (h0 : 0 ≤ i) (h1 : i ≤ 1048576) (hs : s.length ≤ 1048576) : ∃ v i' h', spec_l06Modes.f s i h = some (v, i', h') ∧ 0 ≤ i' ∧ i' ≤ 1048576 := by
  obtain ⟨o, i1, g1, e1, a1, b1⟩ := onceN s i h h0 h1 hs 12 (by decide)
  unfold spec_l06Modes.f
  rw [e1, Option.bind_some]
  cases o with
  | true =>
    obtain ⟨v, i2, g2, e2, a2, b2⟩ := near_any s i1 g1 a1 b1 hs
    refine ⟨v, i2, g2, ?_, a2, b2⟩
    show (if true = true then _ else _) = _
    rw [if_pos rfl, e2, Option.bind_some]
  | false =>
    obtain ⟨v2, i2, g2, e2, a2, b2⟩ := below_any s i1 g1 a1 b1 hs 8 (by decide)
    obtain ⟨v3, i3, g3, e3, a3, b3⟩ := below_any s i2 g2 a2 b2 hs 8 (by decide)
    obtain ⟨v4, i4, g4, e4, a4, b4⟩ := below_any s i3 g3 a3 b3 hs 8 (by decide)
    obtain ⟨v5, i5, g5, e5, a5, b5⟩ := l01Pick_ex s i4 g4 a4 b4 hs [0, 0, 0, 1, 2, 3] (by decide) (by decide)
    refine ⟨wrap64 ((wrap64 ((wrap64 ((wrap64 (64 * v2)) + (wrap64 (8 * v3)))) + v4)) + (wrap64 (512 * v5))), i5, g5, ?_, a5, b5⟩
    show (if false = true then _ else _) = _
    rw [if_neg (by decide), e2, Option.bind_some]
    simp only []
    rw [e3, Option.bind_some]
    simp only []
    rw [e4, Option.bind_some]
    simp only []
    rw [e5, Option.bind_some]
theorem needSp (a : Int) : spec_BlocksNeeded.f a = some (Lib.needB a) := by
  unfold spec_BlocksNeeded.f Lib.needB
  by_cases h : a ≤ 0
  · rw [if_pos h, if_pos h]
  · rw [if_neg h, if_neg h]
theorem needIm (a : Int) : impl_BlocksNeeded.f a = some (Lib.needB a) := by
  unfold impl_BlocksNeeded.f Lib.needB
  by_cases h : a ≤ 0
  · rw [if_pos h, if_pos h]
  · rw [if_neg h, if_neg h]
theorem needB_v {a : Int} (h : a ≤ 99) : Lib.needB a = if a ≤ 0 then 0 else (a - 1) / 32 + 1 := by
  unfold Lib.needB
  by_cases h0 : a ≤ 0
  · rw [if_pos h0, if_pos h0]
  · rw [if_neg h0, if_neg h0, w64 (n := a - 1) (by omega) (by omega), Int.tdiv_eq_ediv_of_nonneg (by omega), w64 (n := (a - 1) / 32) (by omega) (by omega), w64 (by omega) (by omega)]
theorem needB_4 {a : Int} (h : a ≤ 99) : Lib.needB a ≤ 4 := by
  rw [needB_v h]
  split <;> omega
theorem needB_0 {a : Int} (h : a ≤ 99) : 0 ≤ Lib.needB a := by
  rw [needB_v h]
  split <;> omega
theorem inB_t {a lo hi : Int} (h : lo ≤ a ∧ a ≤ hi) : Lib.inB a lo hi = true := by
  unfold Lib.inB
  rw [if_pos (show a ≥ lo from h.1), decide_eq_true h.2]
theorem blkFrom_app (x : Int) : ∀ (l pre : List Int), Lib.blkFrom pre (l ++ [x]) = (Lib.blkFrom pre l && (x == -1 || (Lib.inB x 0 999 && !((pre ++ l).any (· == x)))))
  | [], pre => by
    show ((x == -1 || (Lib.inB x 0 999 && !(pre.any (· == x)))) && true) = _
    rw [List.append_nil, Bool.and_true]
    rfl
  | b :: l, pre => by
    show ((b == -1 || (Lib.inB b 0 999 && !(pre.any (· == b)))) && Lib.blkFrom (pre ++ [b]) (l ++ [x])) = _
    rw [blkFrom_app x l (pre ++ [b]), List.append_assoc, ← Bool.and_assoc]
    rfl
/-- The blocks drawn so far, those left being i. -/
def DrawB (i : Int) (b : List Int) : Prop := Lib.blkFrom [] b = true ∧ ∀ v, v ∈ b → v = -1 ∨ 10 * (i + 1) ≤ v ∧ v ≤ 999
theorem drawB_none {i : Int} {b : List Int} (h : DrawB i b) (hi : 1 ≤ i) : DrawB (i - 1) (b ++ [-1]) := by
  refine ⟨by rw [blkFrom_app, h.1]; rfl, fun v hv => ?_⟩
  rcases List.mem_append.1 hv with hv | hv
  · have := h.2 v hv
    omega
  · exact Or.inl (List.mem_singleton.1 hv)
theorem drawB_some {i v : Int} {b : List Int} (h : DrawB i b) (hi : 1 ≤ i) (hi4 : i ≤ 4) (h0 : 0 ≤ v) (h1 : v < 9) : DrawB (i - 1) (b ++ [10 * i + v]) := by
  refine ⟨?_, fun y hy => ?_⟩
  · rw [blkFrom_app, h.1, inB_t (by omega), show (([] : List Int) ++ b).any (· == 10 * i + v) = false from ?_]
    · simp
    · rw [List.any_eq_false]
      intro y hy
      have := h.2 y hy
      rw [beq_iff_eq]
      omega
  · rcases List.mem_append.1 hy with hy | hy
    · have := h.2 y hy
      omega
    · have := List.mem_singleton.1 hy
      omega
theorem good_of {a0 a1 a2 a3 a4 a5 a6 : Int} {b : List Int} {c d : List S107} (h0 : a0 = 1 ∨ a0 = 2) (h1 : 0 ≤ a1 ∧ a1 ≤ 511) (h2 : 0 ≤ a2 ∧ a2 ≤ 3) (h3 : 0 ≤ a3 ∧ a3 ≤ 3) (h4 : 0 ≤ a4 ∧ a4 ≤ 3) (h5 : 0 ≤ a5 ∧ a5 ≤ 99) (h6 : 0 ≤ a6 ∧ a6 ≤ 49) (hb : (b.length : Int) = Lib.needB a5) (hB : DrawB 0 b) (hc : isAclM c = true) (hd : isAclM d = true) (hk : a0 = 2 ∨ d = []) : GoodIn a0 a1 a2 a3 a4 a5 a6 b c d := by
  have hlc : c.length ≤ 6 := (isAcl_len hc).1
  have hld : d.length ≤ 6 := (isAcl_len hd).1
  have hl : b.length ≤ 8 := by
    have := needB_4 h5.2
    omega
  refine ⟨?_, by omega, by omega, by omega, by omega, by omega, by omega, by omega, hb, hl, fun v hv => by have := hB.2 v hv; omega, hc, hd⟩
  unfold impl_IsInode.f
  have p := isAcl_impl c (by omega)
  have q := isAcl_impl d (by omega)
  refine Ev.neg (by omega) (Ev.pos h0 (Ev.bind p (Ev.bind q (Ev.pos (by omega) (Ev.ofEq (congrArg some ?_))))))
  rw [hc, hd, hB.1]
  have e1 : Lib.chainI a1 a2 a3 a4 a5 a6 (b.length : Int) true true = false := by
    unfold Lib.chainI
    rw [inB_t (by omega), inB_t (by omega), inB_t (by omega), decide_eq_false (show ¬ a4 < 0 by omega), decide_eq_false (show ¬ 1000 < a4 by omega), decide_eq_false (show ¬ a5 < 0 by omega), decide_eq_false (show ¬ 256 < a5 by omega), decide_eq_false (show ¬ a6 < 0 by omega), decide_eq_false (show ¬ 1000000000 < a6 by omega), hb, bne_self_eq_false]
    rfl
  have e2 : Lib.tailI a0 a1 (d.length : Int) = true := by
    unfold Lib.tailI
    rcases hk with h | h
    · subst h
      rfl
    · subst h
      rw [and512_0 (by omega) (by omega)]
      simp
  rw [e1, e2]
  rfl
theorem good_free : GoodIn 0 0 0 0 0 0 0 [] [] [] := by
  refine ⟨?_, by decide, by decide, by decide, by decide, by decide, by decide, by decide, rfl, by decide, fun v hv => (by cases hv), rfl, rfl⟩
  unfold impl_IsInode.f
  have h := sameInode_impl 0 0 0 0 0 0 0 [] [] [] 0 0 0 0 0 0 0 [] [] [] (by simp) (by simp) (by simp)
  have e : sameInodeM 0 0 0 0 0 0 0 [] [] [] 0 0 0 0 0 0 0 [] [] [] = true := by
    unfold sameInodeM
    rw [if_pos (by decide)]
    rfl
  rw [e] at h
  exact Ev.pos rfl h
theorem draw_blocks (s : List Int) (hs : s.length ≤ 1048576) (a0 a1 a2 a3 a4 a5 a6 : Int) (h0 : a0 = 1 ∨ a0 = 2) (h1 : 0 ≤ a1 ∧ a1 ≤ 511) (h2 : 0 ≤ a2 ∧ a2 ≤ 3) (h3 : 0 ≤ a3 ∧ a3 ≤ 3) (h4 : 0 ≤ a4 ∧ a4 ≤ 3) (h5 : 0 ≤ a5 ∧ a5 ≤ 99) (h6 : 0 ≤ a6 ∧ a6 ≤ 49) (n : Nat) : ∀ (b : List Int) (i h : Int), 0 ≤ i → i ≤ 1048576 → n ≤ 4 → DrawB (n : Int) b → (b.length : Int) + n = Lib.needB a5 → b.length ≤ 4 →
    ∃ b' c d i' h', Ev (fun k => spec_l07Draw.l0 k (n : Int) s i h a0 a1 a2 a3 a4 a5 a6 b) (a0, a1, a2, a3, a4, a5, a6, b', c, d, i', h') ∧ GoodIn a0 a1 a2 a3 a4 a5 a6 b' c d := by
  induction n with
  | zero =>
    intro b i h p q _ hB hl _
    obtain ⟨r, e, g1, g2, g3⟩ := drawAcl_ex s hs i h p q
    rcases h0 with h0 | h0
    · exact ⟨b, r.1, [], _, _, Ev.step (fun _ => spec_l07Draw.l0.eq_2 ..) (Ev.neg (by decide) (Ev.bind e (Ev.neg (by omega) (Ev.now _)))), good_of (Or.inl h0) h1 h2 h3 h4 h5 h6 (by omega) hB g1 rfl (Or.inr rfl)⟩
    · obtain ⟨r2, e2, f1, _, _⟩ := drawAcl_ex s hs r.2.1 r.2.2 g2 g3
      exact ⟨b, r.1, r2.1, _, _, Ev.step (fun _ => spec_l07Draw.l0.eq_2 ..) (Ev.neg (by decide) (Ev.bind e (Ev.pos h0 (Ev.bind e2 (Ev.now _))))), good_of (Or.inr h0) h1 h2 h3 h4 h5 h6 (by omega) hB g1 f1 (Or.inl h0)⟩
  | succ n ih =>
    intro b i h p q hn hB hl hb4
    obtain ⟨o, i1, g1, e1, p1, q1⟩ := onceN s i h p q hs 4 (by decide)
    have hw : wrap64 (((n + 1 : Nat) : Int) - 1) = (n : Int) := by rw [w64 (by omega) (by omega)]; omega
    cases o with
    | true =>
      have hB' := drawB_none hB (by omega)
      rw [show ((n + 1 : Nat) : Int) - 1 = (n : Int) by omega] at hB'
      obtain ⟨b', c, d, i', h', r1, r2⟩ := ih (b ++ [-1]) i1 g1 p1 q1 (by omega) hB' (by rw [List.length_append, List.length_singleton]; omega) (by
        have : b.length + (n + 1) ≤ 4 := by
          have : Lib.needB a5 ≤ 4 := needB_4 h5.2
          omega
        rw [List.length_append, List.length_singleton]; omega)
      refine ⟨b', c, d, i', h', Ev.step (fun _ => spec_l07Draw.l0.eq_2 ..) (Ev.pos (by omega) (Ev.bind0 e1 (Ev.pos rfl (Ev.pos (by omega) ?_)))), r2⟩
      rw [hw]
      exact r1
    | false =>
      obtain ⟨v, i2, g2, e2, v0, v1, p2, q2⟩ := l01BelowB_ex s i1 g1 p1 q1 hs 9 (by decide) (by decide)
      have hB' := drawB_some hB (by omega) (by omega) v0 v1
      rw [show ((n + 1 : Nat) : Int) - 1 = (n : Int) by omega] at hB'
      obtain ⟨b', c, d, i', h', r1, r2⟩ := ih (b ++ [10 * ((n + 1 : Nat) : Int) + v]) i2 g2 p2 q2 (by omega) hB' (by rw [List.length_append, List.length_singleton]; omega) (by
        have : b.length + (n + 1) ≤ 4 := by
          have : Lib.needB a5 ≤ 4 := needB_4 h5.2
          omega
        rw [List.length_append, List.length_singleton]; omega)
      refine ⟨b', c, d, i', h', Ev.step (fun _ => spec_l07Draw.l0.eq_2 ..) (Ev.pos (by omega) (Ev.bind0 e1 (Ev.neg (by simp) (Ev.bind0 e2 (Ev.pos (by omega) ?_))))), r2⟩
      rw [hw, w64 (n := 10 * ((n + 1 : Nat) : Int)) (by omega) (by omega), w64 (by omega) (by omega)]
      exact r1
theorem drawInode_ex (s : List Int) (hs : s.length ≤ 1048576) (i h : Int) (p : 0 ≤ i) (q : i ≤ 1048576) : ∃ a0 a1 a2 a3 a4 a5 a6 b c d i' h', Ev (fun k => spec_l07Draw.f k s i h) (a0, a1, a2, a3, a4, a5, a6, b, c, d, i', h') ∧ GoodIn a0 a1 a2 a3 a4 a5 a6 b c d := by
  obtain ⟨o, i1, g1, e1, p1, q1⟩ := onceN s i h p q hs 10 (by decide)
  unfold spec_l07Draw.f
  cases o with
  | true => exact ⟨_, _, _, _, _, _, _, _, _, _, _, _, Ev.bind0 e1 (Ev.pos rfl (Ev.now _)), good_free⟩
  | false =>
    obtain ⟨v2, i2, g2, e2, u2, t2, p2, q2⟩ := l01BelowB_ex s i1 g1 p1 q1 hs 2 (by decide) (by decide)
    obtain ⟨v3, i3, g3, e3, p3, q3⟩ := modes_any s i2 g2 p2 q2 hs
    obtain ⟨v4, i4, g4, e4, u4, t4, p4, q4⟩ := l01BelowB_ex s i3 g3 p3 q3 hs 4 (by decide) (by decide)
    obtain ⟨v5, i5, g5, e5, u5, t5, p5, q5⟩ := l01BelowB_ex s i4 g4 p4 q4 hs 4 (by decide) (by decide)
    obtain ⟨v6, i6, g6, e6, u6, t6, p6, q6⟩ := l01BelowB_ex s i5 g5 p5 q5 hs 4 (by decide) (by decide)
    obtain ⟨v7, i7, g7, e7, u7, t7, p7, q7⟩ := l01BelowB_ex s i6 g6 p6 q6 hs 100 (by decide) (by decide)
    obtain ⟨v8, i8, g8, e8, u8, t8, p8, q8⟩ := l01BelowB_ex s i7 g7 p7 q7 hs 50 (by decide) (by decide)
    have hn4 := needB_4 (a := v7) (by omega)
    have hn0 := needB_0 (a := v7)  (by omega)
    have hk : wrap64 (1 + v2) = 1 + v2 := w64 (by omega) (by omega)
    obtain ⟨b', c, d, i', h', r1, r2⟩ := draw_blocks s hs (1 + v2) (Go.bits .and .i64 v3 511) v4 v5 v6 v7 v8 (by omega) (by rw [i64_and511]; omega) (by omega) (by omega) (by omega) (by omega) (by omega) (Lib.needB v7).toNat [] i8 g8 p8 q8 (by omega) ⟨rfl, fun v hv => by cases hv⟩ (by simp only [List.length_nil]; omega) (by simp)
    rw [show (((Lib.needB v7).toNat : Nat) : Int) = Lib.needB v7 by omega] at r1
    refine ⟨_, _, _, _, _, _, _, b', c, d, i', h', Ev.bind0 e1 (Ev.neg (by simp) (Ev.bind0 e2 (Ev.bind0 e3 (Ev.bind0 e4 (Ev.bind0 e5 (Ev.bind0 e6 (Ev.bind0 e7 (Ev.bind0 e8 (Ev.bind0 (needSp v7) ?_))))))))), r2⟩
    simp only [hk]
    exact r1

theorem FnInodes : laws_FnInodes.Pure := by
  intro l0 hl0 hl1 hl2
  apply Ev.rounds
  unfold laws_FnInodes.f
  by_cases hb : (l0.length : Int) > 1048576
  · exact Ev.pos hb (Ev.now _)
  · obtain ⟨h', e⟩ := l01New_ex l0 (by omega) l0.length (wrap64 (1263 + (l0.length : Int))) 0 (by omega) (by omega)
    obtain ⟨a0, a1, a2, a3, a4, a5, a6, b, c, d, i1, g1, e1, G⟩ := drawInode_ex l0 (by omega) 0 h' (by omega) (by omega)
    have M : Ev (fun k => spec_MakeInode.f k l0) (a0, a1, a2, a3, a4, a5, a6, b, c, d) := by
      unfold spec_MakeInode.f spec_l01New.f
      exact Ev.bind e (Ev.bind e1 (Ev.now _))
    obtain ⟨r, P, hz, U⟩ := unpackInode_v G
    have hb8 := G.hb
    have hlc := (isAcl_len G.hc).1
    have hld := (isAcl_len G.hd).1
    have S := sameInode_impl a0 a1 a2 a3 a4 a5 a6 b c d a0 a1 a2 a3 a4 a5 a6 b c d (by omega) (by omega) (by omega)
    have e2 : sameInodeM a0 a1 a2 a3 a4 a5 a6 b c d a0 a1 a2 a3 a4 a5 a6 b c d = true := by
      unfold sameInodeM
      rw [if_pos ⟨rfl, rfl, rfl, rfl, rfl, rfl, rfl⟩, if_pos (allEq_refl intEq_refl b), if_pos (allEq_refl aclEq_refl c), allEq_refl aclEq_refl d]
    rw [e2] at S
    have W := usedBlocks_impl a0 a1 a2 a3 a4 a5 a6 b c d (by omega)
    have hw := usedM_length b
    refine Ev.neg hb (Ev.bind M (Ev.bind P (Ev.bind U (Ev.pos rfl (Ev.bind S (Ev.pos rfl (Ev.bind G.ok (Ev.pos rfl (Ev.bind P (Ev.pos (by omega) (Ev.bind W (Ev.pos (by show ((usedM b).length : Int) ≤ (b.length : Int); omega) (Ev.bind0 (needIm a5) (Ev.ofEq (congrArg some ?_)))))))))))))))
    rw [G.hn]
    exact beq_self_eq_true _

end Go.Proofs.Ytnfiapcemafmiaa.Pure
