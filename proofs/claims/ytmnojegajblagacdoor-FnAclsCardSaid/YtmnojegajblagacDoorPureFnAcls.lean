/- The law FnAcls holds for every input of its kind; no further condition. -/
import Derived.Test.YtmnojegajblagacDoorPFnAclsx8
import Derived.Test.YtmnojegajblagacDoorLibBase
import Derived.Test.YtmnojegajblagacDoorLibNumbers
namespace Go.Proofs.YtmnojegajblagacDoor.Pure
open Go.RowKit Go.Proofs.YtmnojegajblagacDoor.PFnAcls Go.Proofs.YtmnojegajblagacDoor.Lib Go.Proofs.YtmnojegajblagacDoorW.PrintWords Go.Proofs.YtmnojegajblagacDoorW.PrintLast Go.Proofs.YtmnojegajblagacDoorW.PrintMore
set_option linter.unusedVariables false
set_option linter.unusedSimpArgs false

theorem isUser_impl (a : Int) : impl_isUser.f a = some (decide (0 ≤ a ∧ a ≤ 3)) := by
  unfold impl_isUser.f
  by_cases h : a ≥ 0
  · rw [if_pos h]
    congr 1
    apply decide_eq_decide.2
    omega
  · rw [if_neg h]
    congr 1
    symm
    apply decide_eq_false
    omega

/-- One entry is well formed. -/
def entryM (x : S33) : Bool := decide (0 ≤ x.f2 ∧ x.f2 ≤ 7 ∧ ((x.f0 = 1 ∨ x.f0 = 2) ∧ 0 ≤ x.f1 ∧ x.f1 ≤ 3 ∨ x.f0 = 3 ∧ x.f1 = 0))
/-- Two neighbours rise. -/
def riseM (x y : S33) : Bool := decide (x.f0 < y.f0 ∨ x.f0 = y.f0 ∧ x.f1 < y.f1)
/-- The entries from one with a left neighbour on. -/
def aclFrom : Option S33 → List S33 → Bool
  | none, [] => true
  | some p, [] => decide (p.f0 = 3)
  | none, x :: l => entryM x && aclFrom (some x) l
  | some p, x :: l => entryM x && (riseM p x && aclFrom (some x) l)
def isAclM (l : List S33) : Bool := decide (l.length ≤ 6) && aclFrom none l
/-- What stands left of place i. -/
def leftOf (xs : List S33) (i : Int) : Option S33 := if i > 0 then some (rd_T33 xs (i - 1)) else none
theorem rd_last (xs : List S33) (i : Int) (h : (xs.length : Int) ≤ i) (h0 : 0 ≤ i) (hi : i ≤ (xs.length : Int)) : i = (xs.length : Int) := by omega
theorem cmp_impl (a b : Int) : cmp_Compare_int.f a b = some (if a < b then -1 else if a > b then 1 else 0) := by
  unfold cmp_Compare_int.f cmp_isNaN_int.f
  simp only [bne_self_eq_false, Option.bind_some]
  rw [if_neg (by simp), if_neg (by simp)]
  repeat' split
  all_goals rfl
theorem cmpOr_impl (a b : Int) : Ev (fun k => cmp_Or_int.f k [a, b]) (if a = 0 then b else a) := by
  unfold cmp_Or_int.f
  refine Ev.step (fun _ => cmp_Or_int.l0.eq_2 ..) (Ev.pos (by simp) (Ev.pos (by decide) (Ev.pos (by simp) ?_)))
  rw [show rd [a, b] 0 = a from rfl, show wrap64 (0 + 1) = 1 by unfold wrap64; omega]
  by_cases ha : a = 0
  · refine Ev.pos ha (Ev.step (fun _ => cmp_Or_int.l0.eq_2 ..) (Ev.pos (by simp) (Ev.pos (by decide) (Ev.pos (by simp) ?_))))
    rw [show rd [a, b] 1 = b from rfl, show wrap64 (1 + 1) = 2 by unfold wrap64; omega, if_pos ha]
    by_cases hb : b = 0
    · refine Ev.pos hb (Ev.step (fun _ => cmp_Or_int.l0.eq_2 ..) (Ev.neg (by simp) ?_))
      rw [hb]
      exact Ev.now _
    · exact Ev.neg hb (Ev.now _)
  · rw [if_neg ha]
    exact Ev.neg ha (Ev.now _)
theorem isAcl_j3 {xs : List S33} (hx : xs.length ≤ 1048576) {i : Int} (h0 : 0 ≤ i) (hi : i < (xs.length : Int)) (a b c : Int) {r : Bool} {l : List S33} (he : entryM ⟨a, b, c⟩ = true) (hr : aclFrom (some ⟨a, b, c⟩) l = r) (h : Ev (fun k => impl_IsAcl.l0 k xs xs (xs.length : Int) (i + 1)) r) :
    Ev (fun k => impl_IsAcl.j3 k xs i xs (xs.length : Int) i a b c) (aclFrom (leftOf xs i) (⟨a, b, c⟩ :: l)) := by
  refine Ev.step (fun _ => impl_IsAcl.j3.eq_2 ..) ?_
  rw [w64 (n := i + 1) (by omega) (by omega), w64 (n := i - 1) (by omega) (by omega)]
  by_cases c2 : i > 0
  · rw [show leftOf xs i = some (rd_T33 xs (i - 1)) by unfold leftOf; rw [if_pos c2], aclFrom, he, Bool.true_and, hr]
    generalize rd_T33 xs (i - 1) = y at *
    refine Ev.pos c2 (Ev.pos (by omega) (Ev.pos (by omega) (Ev.bind0 (cmp_impl _ _) (Ev.bind0 (cmp_impl _ _) (Ev.bind (cmpOr_impl _ _) ?_)))))
    by_cases hc : y.f0 < a ∨ y.f0 = a ∧ y.f1 < b
    · rw [show riseM y ⟨a, b, c⟩ = true by unfold riseM; exact decide_eq_true hc, Bool.true_and]
      refine Ev.neg ?_ h
      repeat' split
      all_goals omega
    · rw [show riseM y ⟨a, b, c⟩ = false by unfold riseM; exact decide_eq_false hc, Bool.false_and]
      refine Ev.pos ?_ (Ev.now _)
      repeat' split
      all_goals omega
  · rw [show leftOf xs i = none by unfold leftOf; rw [if_neg c2], aclFrom, he, Bool.true_and, hr]
    exact Ev.neg c2 h
theorem isAcl_impl_l (xs : List S33) (hx : xs.length ≤ 1048576) (l : List S33) : ∀ (i : Int), 0 ≤ i → i ≤ (xs.length : Int) → xs.drop i.toNat = l →
    Ev (fun k => impl_IsAcl.l0 k xs xs (xs.length : Int) i) (aclFrom (leftOf xs i) l) := by
  induction l with
  | nil =>
    intro i h0 hi h
    have h1 := ldrop_nil h0 h
    have hi' : i = (xs.length : Int) := by omega
    subst hi'
    refine Ev.step (fun _ => impl_IsAcl.l0.eq_2 ..) (Ev.neg (by omega) ?_)
    by_cases hz : (xs.length : Int) = 0
    · refine Ev.pos hz ?_
      rw [show leftOf xs (xs.length : Int) = none by unfold leftOf; rw [if_neg (by omega)], aclFrom]
      exact Ev.now _
    · refine Ev.neg hz ?_
      rw [show leftOf xs (xs.length : Int) = some (rd_T33 xs ((xs.length : Int) - 1)) by unfold leftOf; rw [if_pos (by omega)], aclFrom, w64 (by omega) (by omega)]
      exact Ev.pos (by omega) (Ev.pos (by omega) (Ev.now _))
  | cons x l ih =>
    intro i h0 hi h
    obtain ⟨p, q, c, e⟩ := ldrop_cons z33 h0 h
    have hx' : rd_T33 xs i = x := q
    have := ih (i + 1) (by omega) (by omega) c
    rw [show leftOf xs (i + 1) = some x by unfold leftOf; rw [if_pos (by omega), show i + 1 - 1 = i by omega, hx']] at this
    have bad : entryM x = false → aclFrom (leftOf xs i) (x :: l) = false := by
      intro c1'
      cases leftOf xs i <;> simp [aclFrom, c1']
    refine Ev.step (fun _ => impl_IsAcl.l0.eq_2 ..) (Ev.pos p (Ev.pos h0 (Ev.pos p ?_)))
    rw [hx']
    obtain ⟨a, b, d⟩ := x
    simp only
    have j1no : Ev (fun k => impl_IsAcl.j1 k xs i xs (xs.length : Int) i true a b d) false := Ev.step (fun _ => impl_IsAcl.j1.eq_2 ..) (Ev.pos rfl (Ev.now _))
    by_cases d1 : d < 0
    · rw [bad (by unfold entryM; apply decide_eq_false; simp only; omega)]
      exact Ev.pos d1 j1no
    · refine Ev.neg d1 ?_
      by_cases d2 : d > 7
      · rw [bad (by unfold entryM; apply decide_eq_false; simp only; omega), show decide (d > 7) = true by simpa using d2]
        exact j1no
      · rw [show decide (d > 7) = false by simpa using d2]
        refine Ev.step (fun _ => impl_IsAcl.j1.eq_2 ..) (Ev.neg (by simp) ?_)
        have j2 : ∀ t : Bool, t = decide (a = 1 ∨ a = 2) → Ev (fun k => impl_IsAcl.j2 k xs i xs (xs.length : Int) i a t a b d) (aclFrom (leftOf xs i) (⟨a, b, d⟩ :: l)) := by
          intro t ht
          refine Ev.step (fun _ => impl_IsAcl.j2.eq_2 ..) ?_
          by_cases h12 : a = 1 ∨ a = 2
          · refine Ev.pos (by rw [ht]; exact decide_eq_true h12) (Ev.bind0 (isUser_impl b) ?_)
            by_cases hb : 0 ≤ b ∧ b ≤ 3
            · exact Ev.pos (by simpa using hb) (isAcl_j3 hx h0 p a b d (by unfold entryM; apply decide_eq_true; simp only; omega) rfl this)
            · rw [bad (by unfold entryM; apply decide_eq_false; simp only; omega)]
              exact Ev.neg (by simpa using hb) (Ev.now _)
          · refine Ev.neg (by rw [ht]; simpa using h12) ?_
            by_cases h3 : a = 3
            · refine Ev.pos h3 ?_
              by_cases hb : b = 0
              · exact Ev.pos hb (isAcl_j3 hx h0 p a b d (by unfold entryM; apply decide_eq_true; simp only; omega) rfl this)
              · rw [bad (by unfold entryM; apply decide_eq_false; simp only; omega)]
                exact Ev.neg hb (Ev.now _)
            · rw [bad (by unfold entryM; apply decide_eq_false; simp only; omega)]
              exact Ev.neg h3 (Ev.now _)
        by_cases h1 : a = 1
        · exact Ev.pos h1 (j2 _ (by simp [h1]))
        · exact Ev.neg h1 (j2 _ (by simp [h1]; rfl))
theorem isAcl_impl (xs : List S33) (hx : xs.length ≤ 1048576) : Ev (fun k => impl_IsAcl.f k xs) (isAclM xs) := by
  unfold impl_IsAcl.f isAclM
  by_cases h : (xs.length : Int) > 6
  · rw [show decide (xs.length ≤ 6) = false by simp only [decide_eq_false_iff_not]; omega, Bool.false_and]
    exact Ev.pos h (Ev.now _)
  · rw [show decide (xs.length ≤ 6) = true by simp only [decide_eq_true_eq]; omega, Bool.true_and]
    exact Ev.neg h (isAcl_impl_l xs hx xs 0 (by omega) (by omega) rfl)

/-- A number's decimal digits. -/
def decS (u : Nat) : ByteArray := ⟨(Go.Lib.decDigits u).toArray⟩
theorem dec_len (u : Nat) : (Go.Lib.decDigits u).length ≤ u + 1 := by
  induction u using Nat.strongRecOn with
  | _ u ih =>
    rw [Go.Lib.decDigits]
    by_cases h : u < 10
    · rw [dif_pos h, List.length_singleton]
      omega
    · rw [dif_neg h, List.length_append, List.length_singleton]
      have := ih (u / 10) (by omega)
      omega
theorem decS_size (u : Nat) : (decS u).size ≤ u + 1 := dec_len u
theorem decS_small {u : Nat} (h : u < 10) : decS u = strOfNums [(48 + (u : Int)) % 256] := by
  apply ba_ext
  rw [strOfNums_data]
  show Go.Lib.decDigits u = _
  rw [Go.Lib.decDigits, dif_pos h, List.map_singleton, show ((48 + (u : Int)) % 256).toNat = 48 + u by omega]
theorem decS_big {u : Nat} (h : ¬ u < 10) : decS u = decS (u / 10) ++ strOfNums [(48 + ((u % 10 : Nat) : Int)) % 256] := by
  apply ba_ext
  rw [ByteArray.data_append, Array.toList_append, strOfNums_data]
  show Go.Lib.decDigits u = Go.Lib.decDigits (u / 10) ++ _
  rw [Go.Lib.decDigits, dif_neg h, List.map_singleton, show ((48 + ((u % 10 : Nat) : Int)) % 256).toNat = 48 + u % 10 by omega]
theorem ba_assoc (a b c : ByteArray) : (a ++ b) ++ c = a ++ (b ++ c) := by
  apply bytesOf_inj
  rw [bytesOf_append, bytesOf_append, bytesOf_append, bytesOf_append, List.append_assoc]
/-- A number's text. -/
def itoaS (n : Int) : ByteArray := ⟨(Go.Lib.itoa n).toArray⟩

theorem formatInt_impl (n : Int) (h0 : -9223372036854775808 ≤ n) (h1 : n ≤ 9223372036854775807) : impl_FormatInt.f n = some (itoaS n) := by
  unfold impl_FormatInt.f strconv_Itoa.f
  rw [if_pos ⟨h0, h1⟩]
  rfl

theorem digit_toNat {d : Nat} (h : d < 10) : (UInt8.ofNat (48 + d)).toNat = 48 + d := by
  rw [UInt8.toNat_ofNat']
  omega
theorem dec_head (u : Nat) : ∃ c r, Go.Lib.decDigits u = c :: r ∧ 48 ≤ c.toNat ∧ c.toNat ≤ 57 := by
  induction u using Nat.strongRecOn with
  | _ u ih =>
    by_cases h : u < 10
    · refine ⟨UInt8.ofNat (48 + u), [], ?_, ?_, ?_⟩
      · rw [Go.Lib.decDigits, dif_pos h]
      · rw [digit_toNat h]
        omega
      · rw [digit_toNat h]
        omega
    · obtain ⟨c, r, e, h1, h2⟩ := ih (u / 10) (by omega)
      exact ⟨c, r ++ [UInt8.ofNat (48 + u % 10)], by rw [Go.Lib.decDigits, dif_neg h, e, List.cons_append], h1, h2⟩
theorem dec_len_k (k : Nat) : ∀ u : Nat, u < 10 ^ (k + 1) → (Go.Lib.decDigits u).length ≤ k + 1 := by
  induction k with
  | zero =>
    intro u hu
    rw [Go.Lib.decDigits, dif_pos (by omega), List.length_singleton]
    omega
  | succ k ih =>
    intro u hu
    rw [Go.Lib.decDigits]
    by_cases h : u < 10
    · rw [dif_pos h, List.length_singleton]
      omega
    · have h2 : 10 ^ (k + 1 + 1) = 10 ^ (k + 1) * 10 := Nat.pow_succ ..
      have := ih (u / 10) (by omega)
      rw [dif_neg h, List.length_append, List.length_singleton]
      omega
theorem itoaS_size (n : Int) (h0 : -9223372036854775808 ≤ n) (h1 : n ≤ 9223372036854775807) : (itoaS n).size ≤ 20 := by
  show (Go.Lib.itoa n).length ≤ 20
  unfold Go.Lib.itoa
  by_cases h : n < 0
  · rw [if_pos h, List.length_cons]
    have := dec_len_k 18 n.natAbs (by omega)
    omega
  · rw [if_neg h]
    have := dec_len_k 18 n.toNat (by omega)
    omega

theorem aclFrom_all (l : List S33) : ∀ o, aclFrom o l = true → ∀ x ∈ l, entryM x = true := by
  induction l with
  | nil =>
    intro o _ x hx
    cases hx
  | cons y l ih =>
    intro o h x hx
    have h' : entryM y = true ∧ aclFrom (some y) l = true := by
      cases o <;> simp [aclFrom] at h <;> simp [h]
    rcases List.mem_cons.1 hx with rfl | hx
    · exact h'.1
    · exact ih _ h'.2 x hx
def letS (n : Int) : ByteArray := (⟨#[63, 117, 103, 109]⟩ : ByteArray).extract n.toNat (n + 1).toNat
theorem letS_impl {n : Int} (h : n = 1 ∨ n = 2 ∨ n = 3) : (⟨#[117, 103, 109]⟩ : ByteArray).extract (n - 1).toNat n.toNat = letS n := by
  rcases h with rfl | rfl | rfl <;> rfl
theorem letS_size {n : Int} (h : n = 1 ∨ n = 2 ∨ n = 3) : (letS n).size = 1 := by
  rcases h with rfl | rfl | rfl <;> rfl
def entS (x : S33) : ByteArray := ((letS x.f0 ++ itoaS x.f1) ++ (⟨#[58]⟩ : ByteArray)) ++ itoaS x.f2
theorem entry_facts {x : S33} (h : entryM x = true) : (x.f0 = 1 ∨ x.f0 = 2 ∨ x.f0 = 3) ∧ 0 ≤ x.f1 ∧ x.f1 ≤ 3 ∧ 0 ≤ x.f2 ∧ x.f2 ≤ 7 := by
  have := of_decide_eq_true h
  omega
def joinS (ys : List ByteArray) : ByteArray := ⟨(Go.Lib.join (ys.map (·.data.toList)) [44]).toArray⟩
theorem join_val {ys : List ByteArray} {r : ByteArray} (h : impl_Join.f ys (⟨#[44]⟩ : ByteArray) = some r) : r = joinS ys := by
  unfold impl_Join.f strings_Join.f at h
  by_cases hc : ys.length ≤ 140737488355328 ∧ (Go.Lib.join (ys.map (·.data.toList)) (⟨#[44]⟩ : ByteArray).data.toList).length ≤ 140737488355328
  · rw [if_pos hc, Option.bind_some] at h
    exact (Option.some.inj h).symm
  · rw [if_neg hc] at h
    cases h
/-- A list's text. -/
def fmtAcl (xs : List S33) : ByteArray := if isAclM xs = true then (if (xs.length : Int) = 0 then (⟨#[45]⟩ : ByteArray) else joinS (xs.map entS)) else ⟨#[]⟩
def digB (u : Nat) : List Int := (Go.Lib.decDigits u).map fun b => (b.toNat : Int)
theorem digB_small {u : Nat} (h : u < 10) : digB u = [48 + (u : Int)] := by
  unfold digB
  rw [Go.Lib.decDigits, dif_pos h, List.map_singleton, digit_toNat h]
  rfl
theorem digB_big {u : Nat} (h : ¬ u < 10) : digB u = digB (u / 10) ++ [48 + ((u % 10 : Nat) : Int)] := by
  unfold digB
  rw [Go.Lib.decDigits, dif_neg h, List.map_append, List.map_singleton, digit_toNat (by omega)]
  rfl
theorem itoaS_bytes (n : Int) : bytesOf (itoaS n) = if n < 0 then 45 :: digB n.natAbs else digB n.toNat := by
  show (Go.Lib.itoa n).map (fun b => (b.toNat : Int)) = _
  unfold Go.Lib.itoa
  by_cases h : n < 0
  · rw [if_pos h, if_pos h]
    rfl
  · rw [if_neg h, if_neg h]
    rfl

/-- Bytes split at a byte. -/
def spl (c : Int) : List Int → List Int → List (List Int)
  | cur, [] => [cur]
  | cur, b :: r => if b = c then cur :: spl c [] r else spl c (cur ++ [b]) r
def joinB (c : Int) : List (List Int) → List Int
  | [] => []
  | [e] => e
  | e :: f :: es => e ++ c :: joinB c (f :: es)
theorem spl_through (c : Int) (e : List Int) : ∀ (cur r : List Int), c ∉ e → spl c cur (e ++ r) = spl c (cur ++ e) r := by
  induction e with
  | nil => intro cur r _; simp
  | cons b e ih =>
    intro cur r h
    rw [List.mem_cons, not_or] at h
    rw [List.cons_append]
    show (if b = c then cur :: spl c [] (e ++ r) else spl c (cur ++ [b]) (e ++ r)) = _
    rw [if_neg (fun x => h.1 x.symm), ih (cur ++ [b]) r h.2, List.append_assoc]
    rfl
theorem spl_join (c : Int) (es : List (List Int)) : es ≠ [] → (∀ e ∈ es, c ∉ e) → spl c [] (joinB c es) = es := by
  induction es with
  | nil => exact fun h _ => absurd rfl h
  | cons e es ih =>
    intro _ h
    have he := h e (List.mem_cons_self ..)
    cases es with
    | nil =>
      have := spl_through c e [] [] he
      rw [List.append_nil, List.nil_append] at this
      exact this
    | cons f es =>
      show spl c [] (e ++ c :: joinB c (f :: es)) = _
      rw [spl_through c e [] _ he, List.nil_append]
      show (if c = c then e :: spl c [] (joinB c (f :: es)) else _) = _
      rw [if_pos rfl, ih (by simp) (fun x hx => h x (List.mem_cons_of_mem _ hx))]
theorem spl_length (c : Int) (r : List Int) : ∀ cur, 1 ≤ (spl c cur r).length ∧ (spl c cur r).length ≤ r.length + 1 := by
  induction r with
  | nil => exact fun cur => ⟨Nat.le_refl _, Nat.le_refl _⟩
  | cons b r ih =>
    intro cur
    show 1 ≤ (if b = c then cur :: spl c [] r else spl c (cur ++ [b]) r).length ∧ (if b = c then cur :: spl c [] r else spl c (cur ++ [b]) r).length ≤ r.length + 1 + 1
    by_cases h : b = c
    · rw [if_pos h, List.length_cons]
      have := ih []
      omega
    · rw [if_neg h]
      have := ih (cur ++ [b])
      omega
theorem spl_mem (c : Int) (r : List Int) : ∀ cur, ∀ e ∈ spl c cur r, e.length ≤ cur.length + r.length ∧ ∀ x ∈ e, x ∈ cur ∨ x ∈ r := by
  induction r with
  | nil =>
    intro cur e he
    rw [List.mem_singleton.1 he]
    exact ⟨Nat.le_refl _, fun x hx => Or.inl hx⟩
  | cons b r ih =>
    intro cur e he
    have he' : e ∈ (if b = c then cur :: spl c [] r else spl c (cur ++ [b]) r) := he
    by_cases h : b = c
    · rw [if_pos h] at he'
      rcases List.mem_cons.1 he' with rfl | he'
      · exact ⟨by omega, fun x hx => Or.inl hx⟩
      · obtain ⟨a, d⟩ := ih [] e he'
        have a' : e.length ≤ 0 + r.length := a
        refine ⟨by rw [List.length_cons]; omega, fun x hx => ?_⟩
        rcases d x hx with d | d
        · cases d
        · exact Or.inr (List.mem_cons_of_mem _ d)
    · rw [if_neg h] at he'
      obtain ⟨a, d⟩ := ih (cur ++ [b]) e he'
      rw [List.length_append, List.length_singleton] at a
      refine ⟨by rw [List.length_cons]; omega, fun x hx => ?_⟩
      rcases d x hx with d | d
      · rcases List.mem_append.1 d with d | d
        · exact Or.inl d
        · exact Or.inr (by rw [List.mem_singleton.1 d]; exact List.mem_cons_self ..)
      · exact Or.inr (List.mem_cons_of_mem _ d)
theorem spl_first (c : Int) (r : List Int) : ∀ cur, ∃ e es, spl c cur r = e :: es ∧ es.length + e.length ≤ r.length + cur.length := by
  induction r with
  | nil => exact fun cur => ⟨cur, [], rfl, by simp⟩
  | cons b r ih =>
    intro cur
    show ∃ e es, (if b = c then cur :: spl c [] r else spl c (cur ++ [b]) r) = e :: es ∧ es.length + e.length ≤ r.length + 1 + cur.length
    by_cases h : b = c
    · rw [if_pos h]
      have := (spl_length c r []).2
      exact ⟨cur, _, rfl, by omega⟩
    · rw [if_neg h]
      obtain ⟨e, es, h1, h2⟩ := ih (cur ++ [b])
      rw [List.length_append, List.length_singleton] at h2
      exact ⟨e, es, h1, by omega⟩
/-- A piece of a text, out of its bytes. -/
theorem piece_str {s : ByteArray} {a i : Nat} {cur r : List Int} (h : (bytesOf s).drop a = cur ++ r) (hi : i = a + cur.length) : s.extract a i = strOfNums cur := by
  subst hi
  rw [← strOfNums_bytesOf (s.extract a (a + cur.length)), bytesOf_extract, List.drop_take, show a + cur.length - a = cur.length by omega, h, List.take_left' rfl]

theorem joinTail_cons (sep : List UInt8) (y : List UInt8) (r : List (List UInt8)) : Go.Lib.joinTail sep (y :: r) = sep ++ Go.Lib.join (y :: r) sep := by
  rw [Go.Lib.join_cons]
  show (sep ++ y) ++ Go.Lib.joinTail sep r = _
  rw [List.append_assoc]

theorem tl0 : (⟨#[]⟩ : ByteArray).toList = ([] : List UInt8) := by decide +kernel
theorem tl45 : (⟨#[45]⟩ : ByteArray).toList = ([45] : List UInt8) := by decide +kernel
theorem itoaS_digit {n : Int} (h0 : 0 ≤ n) (h1 : n ≤ 9) : bytesOf (itoaS n) = [48 + n] := by
  rw [itoaS_bytes, if_neg (by omega), digB_small (by omega), show ((n.toNat : Nat) : Int) = n by omega]
def letB (n : Int) : Int := if n = 1 then 117 else if n = 2 then 103 else 109
theorem letS_bytes {n : Int} (h : n = 1 ∨ n = 2 ∨ n = 3) : bytesOf (letS n) = [letB n] := by
  rcases h with rfl | rfl | rfl <;> decide +kernel
theorem entS_bytes {x : S33} (h : entryM x = true) : bytesOf (entS x) = [letB x.f0, 48 + x.f1, 58, 48 + x.f2] := by
  obtain ⟨e1, e2, e3, e4, e5⟩ := entry_facts h
  unfold entS
  rw [bytesOf_append, bytesOf_append, bytesOf_append, letS_bytes e1, itoaS_digit e2 (by omega), itoaS_digit e4 (by omega)]
  rfl
theorem letB_cases (n : Int) : letB n = 117 ∨ letB n = 103 ∨ letB n = 109 := by
  unfold letB
  split
  · exact Or.inl rfl
  · split
    · exact Or.inr (Or.inl rfl)
    · exact Or.inr (Or.inr rfl)
theorem entS_size {x : S33} (h : entryM x = true) : (entS x).size = 4 := by
  rw [← bytesOf_length, entS_bytes h]
  rfl
theorem joinS_bytes (ys : List ByteArray) : bytesOf (joinS ys) = joinB 44 (ys.map bytesOf) := by
  show (Go.Lib.join (ys.map (·.data.toList)) [44]).map (fun b => (b.toNat : Int)) = _
  induction ys with
  | nil => rfl
  | cons y ys ih =>
    cases ys with
    | nil =>
      rw [List.map_singleton, Go.Lib.join_one, List.map_singleton]
      rfl
    | cons z ys =>
      rw [List.map_cons, Go.Lib.join_cons, List.map_cons, joinTail_cons, List.map_append, List.map_append]
      have ih' : (Go.Lib.join (z.data.toList :: List.map (·.data.toList) ys) [44]).map (fun b => (b.toNat : Int)) = joinB 44 ((z :: ys).map bytesOf) := ih
      rw [ih']
      rfl
theorem isAcl_len {xs : List S33} (h : isAclM xs = true) : xs.length ≤ 6 ∧ ∀ x ∈ xs, entryM x = true := by
  unfold isAclM at h
  rw [Bool.and_eq_true] at h
  exact ⟨of_decide_eq_true h.1, aclFrom_all xs none h.2⟩
/-- A text of a list, split at its commas. -/
theorem fmt_split {xs : List S33} (h : isAclM xs = true) (hn : xs ≠ []) : (spl 44 [] (bytesOf (fmtAcl xs))).map strOfNums = xs.map entS := by
  obtain ⟨h6, he⟩ := isAcl_len h
  unfold fmtAcl
  rw [if_pos h, if_neg (by
    intro e
    exact hn (List.eq_nil_of_length_eq_zero (by omega))), joinS_bytes, spl_join]
  · rw [List.map_map, List.map_map]
    apply List.map_congr_left
    intro x _
    exact strOfNums_bytesOf _
  · intro e
    rw [List.map_map, List.map_eq_nil_iff] at e
    exact hn e
  · intro e hm
    rw [List.map_map] at hm
    obtain ⟨x, hx, rfl⟩ := List.mem_map.1 hm
    obtain ⟨e1, e2, e3, e4, e5⟩ := entry_facts (he x hx)
    show (44 : Int) ∉ bytesOf (entS x)
    rw [entS_bytes (he x hx)]
    have := letB_cases x.f0
    simp only [List.mem_cons, List.not_mem_nil, or_false, not_or]
    omega
theorem fmt_long {xs : List S33} (h : isAclM xs = true) (hn : xs ≠ []) : fmtAcl xs ≠ (⟨#[45]⟩ : ByteArray) := by
  intro e
  have hs := fmt_split h hn
  rw [e] at hs
  cases xs with
  | nil => exact hn rfl
  | cons x xs =>
    have : [strOfNums [45]] = (x :: xs).map entS := hs
    rw [List.map_cons] at this
    injection this with h1 h2
    have := entS_size ((isAcl_len h).2 x (List.mem_cons_self ..))
    rw [← h1, strOfNums_size] at this
    exact absurd this (by decide)
/-- A parse's answer: no list, or the list that the text is the text of. -/
def GoodL (t : ByteArray) (r : List S33 × Bool) : Prop := (r = ([], false) ∨ ∃ l, isAclM l = true ∧ r = (l, true) ∧ t = fmtAcl l) ∧ ∀ l, isAclM l = true → t = fmtAcl l → r = (l, true)
theorem GoodL.uniq {t : ByteArray} {r r' : List S33 × Bool} (h : GoodL t r) (h' : GoodL t r') : r = r' := by
  rcases h.1 with e | ⟨n, n0, e, es⟩
  · rcases h'.1 with e' | ⟨m, m0, e', es⟩
    · rw [e, e']
    · rw [e', h.2 m m0 es]
  · rw [e, h'.2 n n0 es]
theorem GoodL.len {t : ByteArray} {r : List S33 × Bool} (h : GoodL t r) : r.1.length ≤ 6 := by
  rcases h.1 with e | ⟨n, n0, e, es⟩
  · rw [e]
    exact Nat.zero_le _
  · rw [e]
    exact (isAcl_len n0).1
theorem fmt_empty {xs : List S33} (h : ¬ isAclM xs = true) : fmtAcl xs = (⟨#[]⟩ : ByteArray) := by
  unfold fmtAcl
  exact if_neg h
/-- A text whose first piece is empty is no list's. -/
theorem no_list {t : ByteArray} (hd : t ≠ (⟨#[45]⟩ : ByteArray)) {es : List (List Int)} (h : spl 44 [] (bytesOf t) = [] :: es) (l : List S33) (hl : isAclM l = true) (ht : t = fmtAcl l) : False := by
  by_cases hn : l = []
  · rw [hn] at ht
    exact hd (ht.trans rfl)
  · have h2 := fmt_split hl hn
    rw [← ht, h] at h2
    cases l with
    | nil => exact hn rfl
    | cons x l =>
      rw [List.map_cons, List.map_cons] at h2
      injection h2 with h1 _
      have := entS_size ((isAcl_len hl).2 x (List.mem_cons_self ..))
      rw [← h1, strOfNums_size] at this
      exact absurd this (by decide)

theorem joinB_len (c : Int) (B : Nat) (es : List (List Int)) : (∀ e ∈ es, e.length + 1 ≤ B) → (joinB c es).length ≤ B * es.length := by
  induction es with
  | nil => exact fun _ => Nat.zero_le _
  | cons e es ih =>
    intro h
    have he := h e (List.mem_cons_self ..)
    have := ih (fun x hx => h x (List.mem_cons_of_mem _ hx))
    cases es with
    | nil =>
      show e.length ≤ B * 1
      omega
    | cons f es =>
      show (e ++ c :: joinB c (f :: es)).length ≤ B * ((f :: es).length + 1)
      rw [List.length_append, List.length_cons, Nat.mul_add, Nat.mul_one]
      omega
theorem join_impl (ys : List ByteArray) (h6 : ys.length ≤ 1000) (hs : ∀ y ∈ ys, y.size ≤ 1000) : impl_Join.f ys (⟨#[44]⟩ : ByteArray) = some (joinS ys) := by
  have hb := joinS_bytes ys
  have hl := joinB_len 44 1001 (ys.map bytesOf) (by
    intro e he
    obtain ⟨y, hy, rfl⟩ := List.mem_map.1 he
    have := hs y hy
    rw [bytesOf_length]
    omega)
  rw [← hb, List.length_map, bytesOf_length] at hl
  have hz : (joinS ys).size = (Go.Lib.join (ys.map (·.data.toList)) [44]).length := rfl
  unfold impl_Join.f strings_Join.f
  rw [if_pos ⟨by omega, by show (Go.Lib.join (ys.map (·.data.toList)) [44]).length ≤ _; rw [← hz]; omega⟩]
  rfl
theorem formatAcl_li (xs : List S33) (hx : xs.length ≤ 6) (he : ∀ x ∈ xs, entryM x = true) (l : List S33) : ∀ (i : Int) (ys : List ByteArray), 0 ≤ i → i ≤ (xs.length : Int) → xs.drop i.toNat = l → (ys.length : Int) = i → (∀ y ∈ ys, y.size ≤ 1000) →
    Ev (fun k => impl_FormatAcl.l0 k ys xs (xs.length : Int) i) (joinS (ys ++ l.map entS)) := by
  induction l with
  | nil =>
    intro i ys h0 hi h hl hs
    have := ldrop_nil h0 h
    rw [List.map_nil, List.append_nil]
    exact Ev.step (fun _ => impl_FormatAcl.l0.eq_2 ..) (Ev.neg (by omega) (Ev.bind0 (join_impl ys (by omega) hs) (Ev.now _)))
  | cons x l ih =>
    intro i ys h0 hi h hl hs
    obtain ⟨a, b, c, e⟩ := ldrop_cons z33 h0 h
    have hr : rd_T33 xs i = x := b
    have hx' := he x (by
      have : x ∈ xs.drop i.toNat := by rw [h]; exact List.mem_cons_self ..
      exact List.mem_of_mem_drop this)
    obtain ⟨e1, e2, e3, e4, e5⟩ := entry_facts hx'
    have z0 := letS_size e1
    have z1 := itoaS_size x.f1 (by omega) (by omega)
    have z2 := itoaS_size x.f2 (by omega) (by omega)
    have a1 := ba_size_append (letS x.f0) (itoaS x.f1)
    have a2 := ba_size_append (letS x.f0 ++ itoaS x.f1) (⟨#[58]⟩ : ByteArray)
    have a4 : (⟨#[58]⟩ : ByteArray).size = 1 := rfl
    have p2 := ih (i + 1) (ys ++ [entS x]) (by omega) (by omega) c (by rw [List.length_append, List.length_singleton]; omega) (by
      intro y hy
      rcases List.mem_append.1 hy with hy | hy
      · exact hs y hy
      · rw [List.mem_singleton.1 hy, entS_size hx']
        decide)
    rw [List.append_assoc] at p2
    refine Ev.step (fun _ => impl_FormatAcl.l0.eq_2 ..) (Ev.pos a (Ev.pos h0 (Ev.pos a ?_)))
    rw [hr, w64 (n := i + 1) (by omega) (by omega), w64 (n := x.f0 - 1) (by omega) (by omega), letS_impl e1]
    refine Ev.pos (by omega) (Ev.pos (by omega) (Ev.pos (by omega) (Ev.bind0 (formatInt_impl x.f1 (by omega) (by omega)) ?_)))
    refine Ev.pos (show (letS x.f0).size + (itoaS x.f1).size ≤ _ by omega) (Ev.pos (show (letS x.f0 ++ itoaS x.f1).size + 1 ≤ _ by omega) (Ev.bind0 (formatInt_impl x.f2 (by omega) (by omega)) ?_))
    exact Ev.pos (show ((letS x.f0 ++ itoaS x.f1) ++ (⟨#[58]⟩ : ByteArray)).size + (itoaS x.f2).size ≤ _ by omega) (Ev.pos (by omega) p2)
theorem formatAcl_implv (xs : List S33) (hx : xs.length ≤ 1048576) : Ev (fun k => impl_FormatAcl.f k xs) (fmtAcl xs) := by
  unfold impl_FormatAcl.f fmtAcl
  have h2 := isAcl_impl xs hx
  cases ho : isAclM xs with
  | false =>
    rw [ho] at h2
    exact Ev.bind h2 (Ev.neg (by decide) (Ev.now _))
  | true =>
    rw [ho] at h2
    rw [if_pos rfl]
    obtain ⟨h6, he⟩ := isAcl_len ho
    by_cases hz : (xs.length : Int) = 0
    · rw [if_pos hz]
      exact Ev.bind h2 (Ev.pos rfl (Ev.pos hz (Ev.now _)))
    · rw [if_neg hz]
      have p2 := formatAcl_li xs h6 he xs 0 [] (by omega) (by omega) rfl rfl (by simp)
      exact Ev.bind h2 (Ev.pos rfl (Ev.neg hz p2))

theorem indexByte_mem (l : List UInt8) (c : UInt8) : Go.Lib.indexByte l c ≥ 0 ↔ c ∈ l := by
  induction l with
  | nil => simp [Go.Lib.indexByte]
  | cons b l ih =>
    unfold Go.Lib.indexByte
    have hg := Go.Lib.indexByte_ge l c
    by_cases hb : (b == c) = true
    · rw [if_pos hb]
      have : b = c := by simpa using hb
      subst this
      simp
    · rw [if_neg hb]
      have hb' : c ≠ b := fun e => hb (by rw [e]; simp)
      rw [List.mem_cons, or_iff_right hb', ← ih]
      by_cases h : (Go.Lib.indexByte l c == -1) = true
      · rw [if_pos h]
        have : Go.Lib.indexByte l c = -1 := by simpa using h
        omega
      · rw [if_neg h]
        have : Go.Lib.indexByte l c ≠ -1 := by simpa using h
        omega
theorem mem_bytesOf (s : ByteArray) (b : Int) (h0 : 0 ≤ b) (h1 : b ≤ 255) : b.toNat.toUInt8 ∈ s.data.toList ↔ b ∈ bytesOf s := by
  unfold bytesOf
  rw [List.mem_map]
  constructor
  · intro h
    refine ⟨_, h, ?_⟩
    have : (b.toNat.toUInt8).toNat = b.toNat % 256 := by simp [Nat.toUInt8]
    rw [this]
    omega
  · rintro ⟨a, h, rfl⟩
    have : (((a.toNat : Nat) : Int).toNat).toUInt8 = a := by
      rw [Int.toNat_natCast]
      simp [Nat.toUInt8]
    rw [this]
    exact h

theorem spl_impl (s : ByteArray) (c : UInt8) (hs : s.size ≤ 1048576) (r : List Int) : ∀ (cur : List Int) (a : Nat) (x : List ByteArray), (bytesOf s).drop a = cur ++ r → a ≤ s.size → x.length ≤ a →
    Ev (fun k => impl_SplitAny.l0 k s (⟨#[c]⟩ : ByteArray) x (a : Int) (s.size : Int) ((a + cur.length : Nat) : Int)) (x ++ (spl (c.toNat : Int) cur r).map strOfNums) := by
  induction r with
  | nil =>
    intro cur a x h ha hx
    have hl : cur.length = s.size - a := by
      have := congrArg List.length h
      rw [List.length_drop, bytesOf_length, List.append_nil] at this
      exact this.symm
    refine Ev.step (fun _ => impl_SplitAny.l0.eq_2 ..) (Ev.neg (by omega) (Ev.pos (by omega) (Ev.pos (by omega) (Ev.pos (by omega) ?_))))
    rw [Int.toNat_natCast, piece_str h (by omega)]
    exact Ev.now _
  | cons b r ih =>
    intro cur a x h ha hx
    have hl : cur.length + (r.length + 1) = s.size - a := by
      have := congrArg List.length h
      rw [List.length_drop, bytesOf_length, List.length_append, List.length_cons] at this
      exact this.symm
    have hd : (bytesOf s).drop (a + cur.length) = b :: r := by rw [← List.drop_drop, h, List.drop_left]
    obtain ⟨h1, h2, h3, h4⟩ := bdrop_cons (s := s) (i := ((a + cur.length : Nat) : Int)) (x := b) (l := r) (by omega) (by rw [Int.toNat_natCast]; exact hd)
    have e1 : ((a + cur.length : Nat) : Int) + 1 = ((a + cur.length + 1 : Nat) : Int) := by omega
    have hb := bytesOf_range (s := s) (x := b) (List.mem_of_mem_drop (by rw [hd]; exact List.mem_cons_self ..))
    have hf : strings_IndexByte.f (⟨#[c]⟩ : ByteArray) (bt s ((a + cur.length : Nat) : Int)) = some (Go.Lib.indexByte [c] (bt s ((a + cur.length : Nat) : Int)).toNat.toUInt8) := rfl
    have hiff : Go.Lib.indexByte [c] (bt s ((a + cur.length : Nat) : Int)).toNat.toUInt8 ≥ 0 ↔ b = (c.toNat : Int) := by
      have m := mem_bytesOf (⟨#[c]⟩ : ByteArray) b hb.1 hb.2
      rw [indexByte_mem, h2]
      refine m.trans ?_
      show b ∈ [(c.toNat : Int)] ↔ _
      exact List.mem_singleton
    refine Ev.step (fun _ => impl_SplitAny.l0.eq_2 ..) (Ev.pos (by omega) (Ev.pos (by omega) (Ev.pos h1 (Ev.bind0 hf ?_))))
    show Ev _ (x ++ List.map strOfNums (if b = (c.toNat : Int) then cur :: spl (c.toNat : Int) [] r else spl (c.toNat : Int) (cur ++ [b]) r))
    rw [w64 (n := ((a + cur.length : Nat) : Int) + 1) (by omega) (by omega), e1]
    by_cases hc : b = (c.toNat : Int)
    · rw [if_pos hc]
      refine Ev.pos (hiff.2 hc) (Ev.pos (by omega) (Ev.pos (by omega) (Ev.pos (by omega) (Ev.pos (by omega) ?_))))
      rw [Int.toNat_natCast, Int.toNat_natCast, piece_str h rfl]
      have g := ih [] (a + cur.length + 1) (x ++ [strOfNums cur]) (by rw [List.nil_append]; rw [e1, Int.toNat_natCast] at h3; exact h3) (by omega) (by rw [List.length_append, List.length_singleton]; omega)
      rw [List.append_assoc] at g
      exact g
    · rw [if_neg hc]
      refine Ev.neg (fun e => hc (hiff.1 e)) ?_
      have g := ih (cur ++ [b]) a x (by rw [h, List.append_assoc]; rfl) ha hx
      rw [List.length_append, List.length_singleton] at g
      exact g
theorem splitAny_impl (s : ByteArray) (c : UInt8) (hs : s.size ≤ 1048576) : Ev (fun k => impl_SplitAny.f k s (⟨#[c]⟩ : ByteArray)) ((spl (c.toNat : Int) [] (bytesOf s)).map strOfNums) :=
  spl_impl s c hs (bytesOf s) [] 0 [] rfl (by omega) (by simp)

theorem ugm_at {n : Int} (h : n = 1 ∨ n = 2 ∨ n = 3) : Go.Lib.indexByte (⟨#[117, 103, 109]⟩ : ByteArray).data.toList (letB n).toNat.toUInt8 = n - 1 := by
  rcases h with rfl | rfl | rfl <;> decide +kernel
theorem ugm_range (c : UInt8) : -1 ≤ Go.Lib.indexByte (⟨#[117, 103, 109]⟩ : ByteArray).data.toList c ∧ Go.Lib.indexByte (⟨#[117, 103, 109]⟩ : ByteArray).data.toList c ≤ 2 := by
  refine ⟨Go.Lib.indexByte_ge _ _, ?_⟩
  show Go.Lib.indexByte [117, 103, 109] c ≤ 2
  unfold Go.Lib.indexByte Go.Lib.indexByte Go.Lib.indexByte Go.Lib.indexByte
  repeat' split
  all_goals first
    | omega
    | decide
theorem bt_ent {x : S33} (h : entryM x = true) : bt (entS x) 0 = letB x.f0 ∧ bt (entS x) 1 = 48 + x.f1 ∧ bt (entS x) 3 = 48 + x.f2 := by
  have hb := entS_bytes h
  refine ⟨?_, ?_, ?_⟩
  · exact (bdrop_cons (s := entS x) (i := 0) (x := letB x.f0) (l := [48 + x.f1, 58, 48 + x.f2]) (by omega) (by rw [hb]; rfl)).2.1
  · exact (bdrop_cons (s := entS x) (i := 1) (x := 48 + x.f1) (l := [58, 48 + x.f2]) (by omega) (by rw [hb]; rfl)).2.1
  · exact (bdrop_cons (s := entS x) (i := 3) (x := 48 + x.f2) (l := []) (by omega) (by rw [hb]; rfl)).2.1
theorem bt_lt {s : ByteArray} {i : Int} (h0 : 0 ≤ i) (h : i < (s.size : Int)) : 0 ≤ bt s i ∧ bt s i ≤ 255 := by
  cases hh : (bytesOf s).drop i.toNat with
  | nil => exact absurd (bdrop_nil h0 hh) (by omega)
  | cons b m =>
    obtain ⟨_, k2, _, _⟩ := bdrop_cons h0 hh
    rw [k2]
    exact bytesOf_range (List.mem_of_mem_drop (by rw [hh]; exact List.mem_cons_self ..))
theorem parseAcl_impl_l (t : ByteArray) (ps : List ByteArray) (hp : ps.length ≤ 1048576) (l : List ByteArray) : ∀ (i : Int) (out : List S33), 0 ≤ i → ps.drop i.toNat = l → (out.length : Int) = i → out.length ≤ 1048576 →
    ∃ r, Ev (fun k => impl_ParseAcl.l0 k t out ps (ps.length : Int) i) r ∧ (r = ([], false) ∨ ∃ o, r = (o, true) ∧ t = fmtAcl o) ∧ ∀ m, l = m.map entS → (∀ x ∈ m, entryM x = true) → t = fmtAcl (out ++ m) → r = (out ++ m, true) := by
  induction l with
  | nil =>
    intro i out h0 h hl hz
    have hn := ldrop_nil h0 h
    have f2 := formatAcl_implv out hz
    by_cases e : t = fmtAcl out
    · refine ⟨(out, true), Ev.step (fun _ => impl_ParseAcl.l0.eq_2 ..) (Ev.neg (by omega) (Ev.bind f2 (Ev.pos (by rw [← e]) (Ev.now _)))), Or.inr ⟨out, rfl, e⟩, ?_⟩
      intro m hm _ _
      have : m = [] := List.map_eq_nil_iff.1 hm.symm
      rw [this, List.append_nil]
    · refine ⟨([], false), Ev.step (fun _ => impl_ParseAcl.l0.eq_2 ..) (Ev.neg (by omega) (Ev.bind f2 (Ev.neg (fun h => e ((ba_eq_iff _ _).1 h).symm) (Ev.now _)))), Or.inl rfl, ?_⟩
      intro m hm _ ht
      have : m = [] := List.map_eq_nil_iff.1 hm.symm
      rw [this, List.append_nil] at ht
      exact absurd ht e
  | cons p l ih =>
    intro i out h0 h hl hz
    obtain ⟨a, b, c, e⟩ := ldrop_cons ByteArray.empty h0 h
    by_cases h4 : (p.size : Int) = 4
    · have b0 := bt_lt (s := p) (i := 0) (by omega) (by omega)
      have b1 := bt_lt (s := p) (i := 1) (by omega) (by omega)
      have b3 := bt_lt (s := p) (i := 3) (by omega) (by omega)
      have hr := ugm_range (bt p 0).toNat.toUInt8
      by_cases hz2 : out.length < 1048576
      · obtain ⟨r, p1, p2, p3⟩ := ih (i + 1) (out ++ [⟨1 + Go.Lib.indexByte (⟨#[117, 103, 109]⟩ : ByteArray).data.toList (bt p 0).toNat.toUInt8, bt p 1 - 48, bt p 3 - 48⟩]) (by omega) c (by rw [List.length_append, List.length_singleton]; omega) (by rw [List.length_append, List.length_singleton]; omega)
        refine ⟨r, Ev.step (fun _ => impl_ParseAcl.l0.eq_2 ..) (Ev.pos a (Ev.pos h0 (Ev.pos a ?_))), p2, ?_⟩
        · rw [b]
          refine Ev.pos h4 (Ev.pos (by omega) (Ev.bind0 rfl (Ev.pos (by omega) (Ev.pos (by omega) (Ev.pos (by omega) ?_)))))
          rw [w64 (n := bt p 1) (by omega) (by omega), w64 (n := bt p 3) (by omega) (by omega), w64 (n := bt p 1 - 48) (by omega) (by omega), w64 (n := bt p 3 - 48) (by omega) (by omega), w64 (n := 1 + Go.Lib.indexByte (⟨#[117, 103, 109]⟩ : ByteArray).data.toList (bt p 0).toNat.toUInt8) (by omega) (by omega), w64 (n := i + 1) (by omega) (by omega)]
          exact p1
        · intro m hm he ht
          cases m with
          | nil => cases hm
          | cons x m =>
            rw [List.map_cons] at hm
            injection hm with hm1 hm2
            have hx := he x (List.mem_cons_self ..)
            obtain ⟨t0, t1, t3⟩ := bt_ent hx
            obtain ⟨e1, _⟩ := entry_facts hx
            have hent : (⟨1 + Go.Lib.indexByte (⟨#[117, 103, 109]⟩ : ByteArray).data.toList (bt p 0).toNat.toUInt8, bt p 1 - 48, bt p 3 - 48⟩ : S33) = x := by
              rw [hm1, t0, t1, t3, ugm_at e1, show 1 + (x.f0 - 1) = x.f0 by omega, show 48 + x.f1 - 48 = x.f1 by omega, show 48 + x.f2 - 48 = x.f2 by omega]
            rw [hent] at p3
            have := p3 m hm2 (fun y hy => he y (List.mem_cons_of_mem _ hy))
            rw [List.append_assoc] at this
            exact this ht
      · omega
    · refine ⟨([], false), Ev.step (fun _ => impl_ParseAcl.l0.eq_2 ..) (Ev.pos a (Ev.pos h0 (Ev.pos a (Ev.neg (by rw [b]; exact h4) (Ev.now _))))), Or.inl rfl, ?_⟩
      intro m hm he ht
      cases m with
      | nil => cases hm
      | cons x m =>
        rw [List.map_cons] at hm
        injection hm with hm1 hm2
        have := entS_size (he x (List.mem_cons_self ..))
        rw [hm1] at h4
        omega
theorem parseAcl_impl (t : ByteArray) (hs : t.size ≤ 1048576) : ∃ r, Ev (fun k => impl_ParseAcl.f k t) r ∧ GoodL t r := by
  unfold impl_ParseAcl.f
  by_cases hd : t = (⟨#[45]⟩ : ByteArray)
  · refine ⟨([], true), Ev.pos (by rw [hd]; exact tl45) (Ev.now _), Or.inr ⟨[], by decide, rfl, by rw [hd]; rfl⟩, ?_⟩
    intro l hl ht
    by_cases hn : l = []
    · rw [hn]
    · exact absurd (ht.symm.trans hd) (fmt_long hl hn)
  · have hd' : ¬ t.toList = ([45] : List UInt8) := fun e => hd ((ba_eq_iff t (⟨#[45]⟩ : ByteArray)).1 (e.trans tl45.symm))
    have hsp := splitAny_impl t 44 (by omega)
    obtain ⟨e, es, h1, h2⟩ := spl_first 44 (bytesOf t) []
    rw [bytesOf_length] at h2
    by_cases he : e = []
    · subst he
      refine ⟨([], false), Ev.neg hd' (Ev.bind hsp ?_), Or.inl rfl, fun l hl ht => (no_list hd h1 l hl ht).elim⟩
      show Ev (fun k => impl_ParseAcl.l0 k t [] ((spl 44 [] (bytesOf t)).map strOfNums) (((spl 44 [] (bytesOf t)).map strOfNums).length : Int) 0) _
      rw [h1, List.map_cons]
      exact Ev.step (fun _ => impl_ParseAcl.l0.eq_2 ..) (Ev.pos (by rw [List.length_cons]; omega) (Ev.pos (by decide) (Ev.pos (by rw [List.length_cons]; omega) (Ev.neg (by show ¬ ((0 : Nat) : Int) = 4; decide) (Ev.now _)))))
    · have hlen : (spl 44 [] (bytesOf t)).length ≤ 1048576 := by
        rw [h1, List.length_cons]
        have : 0 < e.length := List.length_pos_iff.2 he
        simp only [List.length_nil] at h2
        omega
      obtain ⟨r, p1, p2, p3⟩ := parseAcl_impl_l t ((spl 44 [] (bytesOf t)).map strOfNums) (by rw [List.length_map]; exact hlen) _ 0 [] (by omega) rfl rfl (by simp)
      refine ⟨r, Ev.neg hd' (Ev.bind hsp p1), ?_, ?_⟩
      · rcases p2 with p2 | ⟨o, p2, e'⟩
        · exact Or.inl p2
        · refine Or.inr ⟨o, ?_, p2, e'⟩
          by_cases ho : isAclM o = true
          · exact ho
          · rw [fmt_empty ho] at e'
            subst e'
            have h3 : [] :: [] = e :: es := h1
            injection h3 with h3 _
            exact absurd h3.symm he
      · intro l hl ht
        have hn : l ≠ [] := by
          intro e
          rw [e] at ht
          exact hd (ht.trans rfl)
        have := p3 l (by rw [ht]; exact fmt_split hl hn) (isAcl_len hl).2 (by rw [List.nil_append]; exact ht)
        rw [List.nil_append] at this
        exact this

theorem data_eq_len (s : ByteArray) : s.data.toList.length = s.size := by rw [Array.length_toList]; rfl
theorem bytesOf_zeros (d : Nat) : bytesOf (⟨(Go.Lib.repeatL [0] d).toArray⟩ : ByteArray) = List.replicate d 0 := by
  have h := Go.Lib.repeatL_replicate 0 1 d
  rw [Nat.mul_one, show List.replicate 1 (0 : UInt8) = [0] from rfl] at h
  rw [h]
  unfold bytesOf
  rw [List.toList_toArray, List.map_replicate]
  rfl
theorem putNumber_impl_l (d : Nat) : ∀ (n : Int) (xs : List Int), 0 ≤ n → n ≤ 9223372036854775807 → d ≤ xs.length → xs.length ≤ 6 → Ev (fun k => impl_PutNumber.l0 k n xs ((d : Int) - 1)) (strOfNums (putL d n ++ xs.drop d)) := by
  induction d with
  | zero =>
    intro n xs h0 hn h h6
    exact Ev.step (fun _ => impl_PutNumber.l0.eq_2 ..) (Ev.neg (by decide) (Ev.now _))
  | succ d ih =>
    intro n xs h0 hn h h6
    rw [show ((d + 1 : Nat) : Int) - 1 = (d : Int) by omega]
    refine Ev.step (fun _ => impl_PutNumber.l0.eq_2 ..) (Ev.pos (by omega) (Ev.pos (by omega) (Ev.pos (by omega) ?_)))
    rw [w64 (n := (d : Int) - 1) (by omega) (by omega), Int.toNat_natCast]
    have := ih (n / 256) (xs.set d (n % 256)) (by omega) (by omega) (by rw [List.length_set]; omega) (by rw [List.length_set]; omega)
    rw [set_drop (n % 256) (by omega)] at this
    rw [putL, List.append_assoc]
    exact this
theorem putNumber_impl (n w : Int) (hn : n ≤ 9223372036854775807) : Ev (fun k => impl_PutNumber.f k n w) (putNumber n w) := by
  unfold impl_PutNumber.f
  have no : ¬ (1 ≤ w ∧ w ≤ 6 ∧ 0 ≤ n ∧ n < 256 ^ w.toNat) → Ev (fun k => impl_PutNumber.j0 k n w true) (putNumber n w) := by
    intro h
    unfold putNumber
    rw [if_neg h]
    exact Ev.step (fun _ => impl_PutNumber.j0.eq_2 ..) (Ev.pos rfl (Ev.now _))
  by_cases hw : w < 1
  · exact Ev.pos hw (no (fun h => by have := h.1; omega))
  · refine Ev.neg hw ?_
    by_cases hw6 : w > 6
    · exact Ev.pos hw6 (no (fun h => by have := h.2.1; omega))
    · refine Ev.neg hw6 ?_
      by_cases h0 : n < 0
      · exact Ev.pos h0 (no (fun h => by have := h.2.2.1; omega))
      · obtain ⟨e1, e2, e3, e4⟩ := shl_put (w := w) (by omega) (by omega)
        refine Ev.neg h0 (Ev.pos e4 ?_)
        rw [e3]
        by_cases h1 : n ≥ 256 ^ w.toNat
        · rw [show decide (n ≥ 256 ^ w.toNat) = true by simpa using h1]
          exact no (fun h => by have := h.2.2.2; omega)
        · rw [show decide (n ≥ 256 ^ w.toNat) = false by simpa using h1]
          refine Ev.step (fun _ => impl_PutNumber.j0.eq_2 ..) (Ev.neg (by decide) (Ev.pos (by omega) (Ev.pos (by omega) ?_)))
          have := putNumber_impl_l w.toNat n (List.replicate w.toNat 0) (by omega) hn (by rw [List.length_replicate]; omega) (by rw [List.length_replicate]; omega)
          rw [List.drop_eq_nil_of_le (by rw [List.length_replicate]; omega), List.append_nil, show ((w.toNat : Nat) : Int) = w by omega] at this
          unfold putNumber
          rw [if_pos ⟨by omega, by omega, by omega, by omega⟩, w64 (n := w - 1) (by omega) (by omega)]
          exact this

theorem strOfNums_size (l : List Int) : (strOfNums l).size = l.length := by
  have h : (strOfNums l).data.toList.length = (strOfNums l).size := by rw [Array.length_toList]; rfl
  rw [← h, strOfNums_data, List.length_map]
theorem putNumber_size (n w : Int) : (putNumber n w).size ≤ 6 := by
  unfold putNumber
  by_cases h : 1 ≤ w ∧ w ≤ 6 ∧ 0 ≤ n ∧ n < 256 ^ w.toNat
  · rw [if_pos h, strOfNums_size, putL_length]
    omega
  · rw [if_neg h]
    exact Nat.zero_le _

def maskM : List S33 → Int
  | [] => 7
  | x :: l => if x.f0 = 3 then x.f2 else maskM l
theorem maskOf_impl_l (xs : List S33) (hx : xs.length ≤ 1048576) (l : List S33) : ∀ (i : Int), 0 ≤ i → xs.drop i.toNat = l → Ev (fun k => impl_MaskOf.l0 k xs (xs.length : Int) i) (maskM l) := by
  induction l with
  | nil =>
    intro i h0 h
    have := ldrop_nil h0 h
    exact Ev.step (fun _ => impl_MaskOf.l0.eq_2 ..) (Ev.neg (by omega) (Ev.now _))
  | cons x l ih =>
    intro i h0 h
    obtain ⟨p, q, c, e⟩ := ldrop_cons z33 h0 h
    refine Ev.step (fun _ => impl_MaskOf.l0.eq_2 ..) (Ev.pos p (Ev.pos h0 (Ev.pos p ?_)))
    rw [show rd_T33 xs i = x from q, w64 (by omega) (by omega), maskM]
    by_cases c1 : x.f0 = 3
    · rw [if_pos c1]
      exact Ev.pos c1 (Ev.now _)
    · rw [if_neg c1]
      exact Ev.neg c1 (ih (i + 1) (by omega) c)
theorem maskOf_impl (xs : List S33) (hx : xs.length ≤ 1048576) : Ev (fun k => impl_MaskOf.f k xs) (maskM xs) := maskOf_impl_l xs hx xs 0 (by omega) rfl

def permM (t i : Int) : List S33 → Int × Bool
  | [] => (0, false)
  | x :: l => if x.f0 = t ∧ x.f1 = i then (x.f2, true) else permM t i l
theorem aclPerm_impl_l (t u : Int) (xs : List S33) (hx : xs.length ≤ 1048576) (l : List S33) : ∀ (i : Int), 0 ≤ i → xs.drop i.toNat = l → Ev (fun k => impl_AclPerm.l0 k t u xs (xs.length : Int) i) (permM t u l) := by
  induction l with
  | nil =>
    intro i h0 h
    have := ldrop_nil h0 h
    exact Ev.step (fun _ => impl_AclPerm.l0.eq_2 ..) (Ev.neg (by omega) (Ev.now _))
  | cons x l ih =>
    intro i h0 h
    obtain ⟨p, q, c, e⟩ := ldrop_cons z33 h0 h
    have := ih (i + 1) (by omega) c
    refine Ev.step (fun _ => impl_AclPerm.l0.eq_2 ..) (Ev.pos p (Ev.pos h0 (Ev.pos p ?_)))
    rw [show rd_T33 xs i = x from q, w64 (by omega) (by omega), permM]
    by_cases c1 : x.f0 = t <;> by_cases c2 : x.f1 = u
    · rw [if_pos ⟨c1, c2⟩]
      exact Ev.pos c1 (Ev.pos c2 (Ev.now _))
    · rw [if_neg (fun h => c2 h.2)]
      exact Ev.pos c1 (Ev.neg c2 this)
    · rw [if_neg (fun h => c1 h.1)]
      exact Ev.neg c1 this
    · rw [if_neg (fun h => c1 h.1)]
      exact Ev.neg c1 this
theorem aclPerm_impl (xs : List S33) (t u : Int) (hx : xs.length ≤ 1048576) : Ev (fun k => impl_AclPerm.f k xs t u) (permM t u xs) := aclPerm_impl_l t u xs hx xs 0 (by omega) rfl

theorem i64_and255 (n : Int) : Go.bits .and .i64 n 255 = n % 256 := by
  have h127 : (BitVec.ofInt 64 255).toNat = 2 ^ 8 - 1 := by decide
  have key : (BitVec.ofInt 64 n &&& BitVec.ofInt 64 255).toNat = (n % ((2 ^ 64 : Nat) : Int)).toNat % 2 ^ 8 := by
    rw [BitVec.toNat_and, BitVec.toNat_ofInt, h127, Nat.and_two_pow_sub_one_eq_mod]
  show IntKind.i64.wrap ((BitVec.ofInt 64 n &&& BitVec.ofInt 64 255).toNat : Nat) = n % 256
  rw [key, IntKind.wrap_i64]
  omega
theorem l01Byte_ex (s : List Int) (i h : Int) (h0 : 0 ≤ i) (h1 : i ≤ 1048576) (hs : s.length ≤ 1048576) : ∃ v i' h', spec_l01Byte.f s i h = some (v, i', h') ∧ 0 ≤ v ∧ v ≤ 255 ∧ 0 ≤ i' ∧ i' ≤ 1048576 := by
  unfold spec_l01Byte.f
  by_cases hl : i < (s.length : Int)
  · rw [if_pos hl, if_pos h0]
    refine ⟨_, _, _, rfl, ?_, ?_, ?_, ?_⟩
    · rw [i64_and255]; omega
    · rw [i64_and255]; omega
    · rw [w64 (n := i + 1) (by omega) (by omega)]; omega
    · rw [w64 (n := i + 1) (by omega) (by omega)]; omega
  · rw [if_neg hl]
    refine ⟨_, _, _, rfl, ?_, ?_, h0, h1⟩
    · rw [i64_and255]; omega
    · rw [i64_and255]; omega
theorem l01New_ex (s : List Int) (hs : s.length ≤ 1048576) (d : Nat) : ∀ (h i : Int), 0 ≤ i → i + d = (s.length : Int) → ∃ h', Ev (fun k => spec_l01New.l0 k s h i) (s, 0, h') := by
  induction d with
  | zero =>
    intro h i h0 hd
    exact ⟨h, Ev.step (fun _ => spec_l01New.l0.eq_2 ..) (Ev.neg (by omega) (Ev.now _))⟩
  | succ d ih =>
    intro h i h0 hd
    by_cases h4 : i < 4000
    · obtain ⟨h', g⟩ := ih (Go.bits .and .i64 (wrap64 ((wrap64 ((wrap64 (h * 73)) + (wrap64 (rd s i)))) + 7)) 1073741823) (i + 1) (by omega) (by omega)
      refine ⟨h', Ev.step (fun _ => spec_l01New.l0.eq_2 ..) (Ev.pos (by omega) (Ev.pos h4 (Ev.pos h0 ?_)))⟩
      rw [w64 (n := i + 1) (by omega) (by omega)]
      exact g
    · exact ⟨h, Ev.step (fun _ => spec_l01New.l0.eq_2 ..) (Ev.pos (by omega) (Ev.neg h4 (Ev.now _)))⟩
theorem l25New_l (s : List Int) (hs : s.length ≤ 1048576) (n : Int) (hn : n ≤ 1000) (d : Nat) : ∀ (j i h : Int), 0 ≤ j → j + d = n → 0 ≤ i → i ≤ 1048576 → ∃ i' h', Ev (fun k => spec_l25New.l0 k n j s i h) (s, i', h') ∧ 0 ≤ i' ∧ i' ≤ 1048576 := by
  induction d with
  | zero =>
    intro j i h j0 hd i0 i1
    exact ⟨i, h, Ev.step (fun _ => spec_l25New.l0.eq_2 ..) (Ev.neg (by omega) (Ev.now _)), i0, i1⟩
  | succ d ih =>
    intro j i h j0 hd i0 i1
    obtain ⟨v, i2, h2, e, _, _, a, b⟩ := l01Byte_ex s i h i0 i1 hs
    obtain ⟨i', h', g, c⟩ := ih (j + 1) i2 h2 (by omega) (by omega) a b
    refine ⟨i', h', Ev.step (fun _ => spec_l25New.l0.eq_2 ..) (Ev.pos (by omega) (Ev.bind0 e ?_)), c⟩
    rw [w64 (n := j + 1) (by omega) (by omega)]
    exact g
theorem l25New_ex (s : List Int) (hs : s.length ≤ 1048576) (n : Int) (h0 : 0 ≤ n) (hn : n ≤ 1000) : ∃ i' h', Ev (fun k => spec_l25New.f k s n) (s, i', h') ∧ 0 ≤ i' ∧ i' ≤ 1048576 := by
  unfold spec_l25New.f
  obtain ⟨h, g⟩ := l01New_ex s hs s.length (wrap64 (1263 + (s.length : Int))) 0 (by omega) (by omega)
  obtain ⟨i', h', g2, c⟩ := l25New_l s hs n hn n.toNat 0 0 h (by omega) (by omega) (by omega) (by omega)
  exact ⟨i', h', Ev.bind (g := fun k => spec_l01New.f k s) g g2, c⟩

theorem l01Below_ex (s : List Int) (i h : Int) (h0 : 0 ≤ i) (h1 : i ≤ 1048576) (hs : s.length ≤ 1048576) (n : Int) (hn : 1 ≤ n) (hn2 : n ≤ 256) : ∃ v i' h', spec_l01Below.f s i h n = some (v, i', h') ∧ 0 ≤ v ∧ v < n ∧ 0 ≤ i' ∧ i' ≤ 1048576 := by
  obtain ⟨v, i', h', e, v0, v1, a, b⟩ := l01Byte_ex s i h h0 h1 hs
  refine ⟨Int.tmod v n, i', h', ?_, ?_, ?_, a, b⟩
  · unfold spec_l01Below.f
    rw [if_neg (by omega), if_pos hn2, e, Option.bind_some]
    simp only []
    rw [if_neg (by omega)]
  · exact Int.tmod_nonneg n v0
  · rw [Int.tmod_eq_emod_of_nonneg v0]
    exact Int.emod_lt_of_pos v (by omega)

theorem l01Pick_ex (s : List Int) (i h : Int) (h0 : 0 ≤ i) (h1 : i ≤ 1048576) (hs : s.length ≤ 1048576) (l : List Int) (hl : 1 ≤ l.length) (hl2 : l.length ≤ 256) : ∃ v i' h', spec_l01Pick.f s i h l = some (v, i', h') ∧ 0 ≤ i' ∧ i' ≤ 1048576 := by
  obtain ⟨v, i', h', e, v0, v1, a, b⟩ := l01Below_ex s i h h0 h1 hs (l.length : Int) (by omega) (by omega)
  refine ⟨rd l v, i', h', ?_, a, b⟩
  · unfold spec_l01Pick.f
    rw [e, Option.bind_some]
    simp only []
    rw [if_pos v0, if_pos v1]
theorem l01Pick_in (s : List Int) (i h : Int) (h0 : 0 ≤ i) (h1 : i ≤ 1048576) (hs : s.length ≤ 1048576) (l : List Int) (hl : 1 ≤ l.length) (hl2 : l.length ≤ 256) : ∃ v i' h', spec_l01Pick.f s i h l = some (v, i', h') ∧ v ∈ l := by
  obtain ⟨v, i', h', e, v0, v1, a, b⟩ := l01Below_ex s i h h0 h1 hs (l.length : Int) (by omega) (by omega)
  refine ⟨rd l v, i', h', ?_, ?_⟩
  · unfold spec_l01Pick.f
    rw [e, Option.bind_some]
    simp only []
    rw [if_pos v0, if_pos v1]
  · have hlt : v.toNat < l.length := by omega
    show l.getD v.toNat 0 ∈ l
    rw [List.getD_eq_getElem?_getD, List.getElem?_eq_getElem hlt]
    exact List.getElem_mem hlt

theorem putNumber_one : ∀ n : Fin 256, bytesOf (putNumber (n.val : Int) 1) = [(n.val : Int)] := by decide +kernel
theorem putNumber_1 {n : Int} (h0 : 0 ≤ n) (h1 : n < 256) : bytesOf (putNumber n 1) = [n] := by
  have h := putNumber_one ⟨n.toNat, by omega⟩
  have e : ((n.toNat : Nat) : Int) = n := by omega
  simp only [e] at h
  exact h
theorem putNumber_1z {n : Int} (h0 : 0 ≤ n) (h1 : n < 256) : (putNumber n 1).size = 1 := by
  rw [← bytesOf_length, putNumber_1 h0 h1]
  rfl
theorem padTo_implv (s : ByteArray) (n : Int) (hs : s.size ≤ 100000) (hn : n ≤ 100000) : impl_PadTo.f s n = some (strOfNums (bytesOf s ++ List.replicate (n - ((bytesOf s).length : Int)).toNat 0)) := by
  unfold impl_PadTo.f
  rw [bytesOf_length]
  by_cases h : (s.size : Int) ≥ n
  · rw [if_pos h, show (n - (s.size : Int)).toNat = 0 by omega, List.replicate_zero, List.append_nil, strOfNums_bytesOf]
  · rw [if_neg h, if_neg (by omega), w64 (by omega) (by omega)]
    unfold strings_Repeat.f
    have z : (⟨#[0]⟩ : ByteArray).size = 1 := rfl
    rw [if_pos ⟨by omega, by omega, by rw [z]; omega⟩, Option.bind_some]
    have z2 : (⟨(Go.Lib.repeatL [0] (n - (s.size : Int)).toNat).toArray⟩ : ByteArray).size = (n - (s.size : Int)).toNat := by
      rw [← data_eq_len]
      simp only []
      rw [Go.Lib.repeatL_length]
      exact Nat.mul_one _
    have e : s ++ (⟨(Go.Lib.repeatL [0] (n - (s.size : Int)).toNat).toArray⟩ : ByteArray) = strOfNums (bytesOf s ++ List.replicate (n - (s.size : Int)).toNat 0) := by
      apply bytesOf_inj
      rw [bytesOf_append, bytesOf_zeros, bytesOf_strOfNums]
      intro x hx
      rcases List.mem_append.1 hx with h1 | h1
      · exact bytesOf_range h1
      · rw [List.eq_of_mem_replicate h1]
        decide
    rw [← e]
    exact if_pos (by simp only [] at z2 ⊢; rw [z2]; omega)
def tripB : List S33 → List Int
  | [] => []
  | x :: l => x.f0 :: x.f1 :: x.f2 :: tripB l
theorem tripB_len (l : List S33) : (tripB l).length = 3 * l.length := by
  induction l with
  | nil => rfl
  | cons x l ih =>
    show (tripB l).length + 1 + 1 + 1 = 3 * (l.length + 1)
    omega
def padB (b : List Int) : ByteArray := strOfNums (b ++ List.replicate ((19 : Int) - (b.length : Int)).toNat 0)
theorem pack_li (xs : List S33) (hx : xs.length ≤ 6) (he : ∀ x ∈ xs, entryM x = true) (l : List S33) : ∀ (i : Int) (s : ByteArray), 0 ≤ i → i ≤ (xs.length : Int) → xs.drop i.toNat = l → (s.size : Int) ≤ 10 + i * 18 →
    Ev (fun k => impl_PackAcl.l0 k s xs (xs.length : Int) i) (padB (bytesOf s ++ tripB l)) := by
  induction l with
  | nil =>
    intro i s h0 hi h hs
    have := ldrop_nil h0 h
    have p := padTo_implv s 19 (by omega) (by omega)
    show Ev _ (padB (bytesOf s ++ []))
    rw [List.append_nil]
    exact Ev.step (fun _ => impl_PackAcl.l0.eq_2 ..) (Ev.neg (by omega) (Ev.bind0 p (Ev.now _)))
  | cons x l ih =>
    intro i s h0 hi h hs
    obtain ⟨a, b, c, e⟩ := ldrop_cons z33 h0 h
    have hr : rd_T33 xs i = x := b
    obtain ⟨e1, e2, e3, e4, e5⟩ := entry_facts (he x (by
      have : x ∈ xs.drop i.toNat := by rw [h]; exact List.mem_cons_self ..
      exact List.mem_of_mem_drop this))
    have z1 := putNumber_1z (n := x.f0) (by omega) (by omega)
    have z2 := putNumber_1z (n := x.f1) (by omega) (by omega)
    have z3 := putNumber_1z (n := x.f2) (by omega) (by omega)
    have a1 := ba_size_append (putNumber x.f0 1) (putNumber x.f1 1)
    have a2 := ba_size_append (putNumber x.f0 1 ++ putNumber x.f1 1) (putNumber x.f2 1)
    have a3 := ba_size_append s (putNumber x.f0 1 ++ putNumber x.f1 1 ++ putNumber x.f2 1)
    have p := ih (i + 1) (s ++ (putNumber x.f0 1 ++ putNumber x.f1 1 ++ putNumber x.f2 1)) (by omega) (by omega) c (by omega)
    rw [bytesOf_append, bytesOf_append, bytesOf_append, putNumber_1 (n := x.f0) (by omega) (by omega), putNumber_1 (n := x.f1) (by omega) (by omega), putNumber_1 (n := x.f2) (by omega) (by omega), List.append_assoc] at p
    refine Ev.step (fun _ => impl_PackAcl.l0.eq_2 ..) (Ev.pos a (Ev.pos h0 (Ev.pos a ?_)))
    rw [hr, w64 (n := i + 1) (by omega) (by omega)]
    exact Ev.bind (putNumber_impl x.f0 1 (by omega)) (Ev.bind (putNumber_impl x.f1 1 (by omega)) (Ev.pos (by omega) (Ev.bind (putNumber_impl x.f2 1 (by omega)) (Ev.pos (by omega) (Ev.pos (by omega) p)))))
def packB (xs : List S33) : ByteArray := padB ((xs.length : Int) :: tripB xs)
theorem packAcl_implv (xs : List S33) (h : isAclM xs = true) : Ev (fun k => impl_PackAcl.f k xs) (packB xs) := by
  obtain ⟨h6, he⟩ := isAcl_len h
  have h2 := isAcl_impl xs (by omega)
  rw [h] at h2
  have p := pack_li xs h6 he xs 0 (putNumber (xs.length : Int) 1) (by omega) (by omega) rfl (by rw [putNumber_1z (by omega) (by omega)]; omega)
  rw [putNumber_1 (n := (xs.length : Int)) (by omega) (by omega)] at p
  unfold impl_PackAcl.f
  exact Ev.bind h2 (Ev.pos rfl (Ev.bind (putNumber_impl (xs.length : Int) 1 (by omega)) p))
theorem packB_bytes (xs : List S33) (h : isAclM xs = true) : bytesOf (packB xs) = ((xs.length : Int) :: tripB xs) ++ List.replicate ((19 : Int) - (((xs.length : Int) :: tripB xs).length : Int)).toNat 0 ∧ (packB xs).size = 19 := by
  obtain ⟨h6, he⟩ := isAcl_len h
  have hl := tripB_len xs
  have hr : ∀ (m : List S33), (∀ x ∈ m, entryM x = true) → ∀ x ∈ tripB m, 0 ≤ x ∧ x ≤ 255 := by
    intro m
    induction m with
    | nil => exact fun _ x hx => by cases hx
    | cons y m ih =>
      intro hm x hx
      obtain ⟨e1, e2, e3, e4, e5⟩ := entry_facts (hm y (List.mem_cons_self ..))
      have hx' : x ∈ y.f0 :: y.f1 :: y.f2 :: tripB m := hx
      simp only [List.mem_cons] at hx'
      rcases hx' with rfl | rfl | rfl | hx'
      · omega
      · omega
      · omega
      · exact ih (fun z hz => hm z (List.mem_cons_of_mem _ hz)) x hx'
  have e : bytesOf (packB xs) = ((xs.length : Int) :: tripB xs) ++ List.replicate ((19 : Int) - (((xs.length : Int) :: tripB xs).length : Int)).toNat 0 := by
    unfold packB padB
    apply bytesOf_strOfNums
    intro x hx
    rcases List.mem_append.1 hx with h1 | h1
    · rcases List.mem_cons.1 h1 with rfl | h1
      · omega
      · exact hr xs he x h1
    · rw [List.eq_of_mem_replicate h1]
      decide
  refine ⟨e, ?_⟩
  rw [← bytesOf_length, e, List.length_append, List.length_replicate, List.length_cons]
  omega
theorem unpack_li (b : ByteArray) (hb : b.size = 19) (xs : List S33) (hx : xs.length ≤ 6) (hp : Ev (fun k => impl_PackAcl.f k xs) b) (m : List S33) : ∀ (out : List S33) (z : List Int), xs = out ++ m → (bytesOf b).drop (1 + 3 * out.length) = tripB m ++ z → (∀ x ∈ m, entryM x = true) →
    Ev (fun k => impl_UnpackAcl.l0 k b out (xs.length : Int) (out.length : Int)) (xs, true) := by
  induction m with
  | nil =>
    intro out z h hd _
    rw [List.append_nil] at h
    subst h
    exact Ev.step (fun _ => impl_UnpackAcl.l0.eq_2 ..) (Ev.neg (by omega) (Ev.bind hp (Ev.pos rfl (Ev.now _))))
  | cons x m ih =>
    intro out z h hd he
    have hl : xs.length = out.length + (m.length + 1) := by rw [h, List.length_append, List.length_cons]
    obtain ⟨e1, e2, e3, e4, e5⟩ := entry_facts (he x (List.mem_cons_self ..))
    have hd' : (bytesOf b).drop (1 + 3 * out.length) = x.f0 :: x.f1 :: x.f2 :: (tripB m ++ z) := hd
    obtain ⟨b1, c1, d1, _⟩ := bdrop_cons (s := b) (i := 3 * (out.length : Int) + 1) (x := x.f0) (l := x.f1 :: x.f2 :: (tripB m ++ z)) (by omega) (by rw [show (3 * (out.length : Int) + 1).toNat = 1 + 3 * out.length by omega]; exact hd')
    obtain ⟨b2, c2, d2, _⟩ := bdrop_cons (s := b) (i := 3 * (out.length : Int) + 1 + 1) (x := x.f1) (l := x.f2 :: (tripB m ++ z)) (by omega) d1
    obtain ⟨b3, c3, d3, _⟩ := bdrop_cons (s := b) (i := 3 * (out.length : Int) + 1 + 1 + 1) (x := x.f2) (l := tripB m ++ z) (by omega) d2
    rw [show 3 * (out.length : Int) + 1 + 1 = 3 * (out.length : Int) + 2 by omega] at b2 c2 d2 b3 c3 d3
    rw [show 3 * (out.length : Int) + 2 + 1 = 3 * (out.length : Int) + 3 by omega] at b3 c3 d3
    have g := ih (out ++ [x]) z (by rw [h, List.append_assoc]; rfl) (by rw [List.length_append, List.length_singleton, show 1 + 3 * (out.length + 1) = (3 * (out.length : Int) + 3 + 1).toNat by omega]; exact d3) (fun y hy => he y (List.mem_cons_of_mem _ hy))
    rw [List.length_append, List.length_singleton, show ((out.length + 1 : Nat) : Int) = (out.length : Int) + 1 by omega] at g
    refine Ev.step (fun _ => impl_UnpackAcl.l0.eq_2 ..) (Ev.pos (by omega) ?_)
    rw [w64 (n := 3 * (out.length : Int)) (by omega) (by omega), Int.add_comm 1 (3 * (out.length : Int)), Int.add_comm 2 (3 * (out.length : Int)), Int.add_comm 3 (3 * (out.length : Int)), w64 (n := 3 * (out.length : Int) + 1) (by omega) (by omega), w64 (n := 3 * (out.length : Int) + 2) (by omega) (by omega), w64 (n := 3 * (out.length : Int) + 3) (by omega) (by omega), w64 (n := (out.length : Int) + 1) (by omega) (by omega), c1, c2, c3, w64 (n := x.f0) (by omega) (by omega), w64 (n := x.f1) (by omega) (by omega), w64 (n := x.f2) (by omega) (by omega)]
    exact Ev.pos (by omega) (Ev.pos (by omega) (Ev.pos (by omega) (Ev.pos (by omega) (Ev.pos (by omega) (Ev.pos (by omega) (Ev.pos (by omega) g))))))
theorem unpack_pack (xs : List S33) (h : isAclM xs = true) : Ev (fun k => impl_UnpackAcl.f k (packB xs)) (xs, true) := by
  obtain ⟨h6, he⟩ := isAcl_len h
  obtain ⟨hb, hz⟩ := packB_bytes xs h
  obtain ⟨b1, c1, d1, _⟩ := bdrop_cons (s := packB xs) (i := 0) (x := (xs.length : Int)) (l := tripB xs ++ List.replicate ((19 : Int) - (((xs.length : Int) :: tripB xs).length : Int)).toNat 0) (by omega) (by rw [hb]; rfl)
  have g := unpack_li (packB xs) hz xs h6 (packAcl_implv xs h) xs [] _ rfl d1 he
  unfold impl_UnpackAcl.f
  refine Ev.pos (by omega) (Ev.pos (by omega) (Ev.step (fun _ => impl_UnpackAcl.j0.eq_2 ..) (Ev.neg (by rw [decide_eq_true_iff, c1]; omega) (Ev.pos (by omega) ?_))))
  rw [c1, w64 (n := (xs.length : Int)) (by omega) (by omega)]
  exact g
theorem rise_facts {x y : S33} (h : riseM x y = true) : x.f0 < y.f0 ∨ x.f0 = y.f0 ∧ x.f1 < y.f1 := of_decide_eq_true h
theorem aclFrom_cons {o : Option S33} {x : S33} {l : List S33} (h : aclFrom o (x :: l) = true) : entryM x = true ∧ aclFrom (some x) l = true ∧ ∀ p, o = some p → riseM p x = true := by
  cases o with
  | none =>
    have h' : (entryM x && aclFrom (some x) l) = true := h
    rw [Bool.and_eq_true] at h'
    exact ⟨h'.1, h'.2, fun p hp => by cases hp⟩
  | some q =>
    have h' : (entryM x && (riseM q x && aclFrom (some x) l)) = true := h
    rw [Bool.and_eq_true, Bool.and_eq_true] at h'
    exact ⟨h'.1, h'.2.2, fun p hp => by rw [← Option.some.inj hp]; exact h'.2.1⟩
theorem rise_all (l : List S33) : ∀ p, aclFrom (some p) l = true → ∀ x ∈ l, p.f0 < x.f0 ∨ p.f0 = x.f0 ∧ p.f1 < x.f1 := by
  induction l with
  | nil => exact fun p _ x hx => by cases hx
  | cons y l ih =>
    intro p h x hx
    obtain ⟨_, h2, h3⟩ := aclFrom_cons h
    have hr := rise_facts (h3 p rfl)
    rcases List.mem_cons.1 hx with rfl | hx
    · exact hr
    · have := ih y h2 x hx
      omega
theorem perm_all (l : List S33) : ∀ o, aclFrom o l = true → ∀ x ∈ l, permM x.f0 x.f1 l = (x.f2, true) := by
  induction l with
  | nil => exact fun o _ x hx => by cases hx
  | cons y l ih =>
    intro o h x hx
    obtain ⟨_, h2, _⟩ := aclFrom_cons h
    show (if y.f0 = x.f0 ∧ y.f1 = x.f1 then (y.f2, true) else permM x.f0 x.f1 l) = _
    rcases List.mem_cons.1 hx with rfl | hx
    · rw [if_pos ⟨rfl, rfl⟩]
    · have := rise_all l y h2 x hx
      rw [if_neg (by omega)]
      exact ih _ h2 x hx
theorem mask_last (l : List S33) : ∀ p, entryM p = true → aclFrom (some p) l = true → maskM (p :: l) = ((p :: l).getD l.length z33).f2 := by
  induction l with
  | nil =>
    intro p _ h
    have h3 : p.f0 = 3 := of_decide_eq_true h
    show (if p.f0 = 3 then p.f2 else maskM []) = p.f2
    rw [if_pos h3]
  | cons y l ih =>
    intro p hp h
    obtain ⟨hy, h2, h3⟩ := aclFrom_cons h
    have hr := rise_facts (h3 p rfl)
    have ep := of_decide_eq_true hp
    have ey := of_decide_eq_true hy
    show (if p.f0 = 3 then p.f2 else maskM (y :: l)) = ((p :: y :: l).getD (l.length + 1) z33).f2
    rw [if_neg (by omega), ih y hy h2, List.getD_cons_succ]
theorem FnAcls_loop (xs : List S33) (h : isAclM xs = true) (l : List S33) : ∀ i : Int, 0 ≤ i → xs.drop i.toNat = l → Ev (fun k => laws_FnAcls.l0 k xs xs (xs.length : Int) i) true := by
  obtain ⟨h6, he⟩ := isAcl_len h
  have ha : aclFrom none xs = true := by
    unfold isAclM at h
    rw [Bool.and_eq_true] at h
    exact h.2
  induction l with
  | nil =>
    intro i h0 hd
    have hn := ldrop_nil h0 hd
    refine Ev.step (fun _ => laws_FnAcls.l0.eq_2 ..) (Ev.neg (by omega) ?_)
    by_cases hz : (xs.length : Int) = 0
    · exact Ev.pos hz (Ev.now _)
    · refine Ev.neg hz (Ev.bind (maskOf_impl xs (by omega)) ?_)
      rw [w64 (n := (xs.length : Int) - 1) (by omega) (by omega)]
      refine Ev.pos (by omega) (Ev.pos (by omega) ?_)
      cases xs with
      | nil => exact absurd rfl hz
      | cons p l =>
        obtain ⟨hp, h2, _⟩ := aclFrom_cons ha
        have e := mask_last l p hp h2
        have e2 : (rd_T33 (p :: l) (((p :: l).length : Int) - 1)) = (p :: l).getD l.length z33 := by
          show (p :: l).getD (((p :: l).length : Int) - 1).toNat z33 = _
          rw [List.length_cons, show (((l.length + 1 : Nat) : Int) - 1).toNat = l.length by omega]
        rw [e, e2, beq_self_eq_true]
        exact Ev.now _
  | cons x l ih =>
    intro i h0 hd
    obtain ⟨a, b, c, e⟩ := ldrop_cons z33 h0 hd
    have hr : rd_T33 xs i = x := b
    have hx : x ∈ xs := by
      have : x ∈ xs.drop i.toNat := by rw [hd]; exact List.mem_cons_self ..
      exact List.mem_of_mem_drop this
    have hp := aclPerm_impl xs x.f0 x.f1 (by omega)
    rw [perm_all xs none ha x hx] at hp
    refine Ev.step (fun _ => laws_FnAcls.l0.eq_2 ..) (Ev.pos a (Ev.pos h0 (Ev.pos a ?_)))
    rw [hr, w64 (n := i + 1) (by omega) (by omega)]
    exact Ev.bind hp (Ev.pos rfl (Ev.pos rfl (ih (i + 1) (by omega) c)))
def chF : Option S33 → List S33 → Prop
  | _, [] => True
  | o, x :: l => entryM x = true ∧ (∀ p, o = some p → riseM p x = true) ∧ chF (some x) l
theorem chF_append (l : List S33) (y : S33) (hy : entryM y = true) : ∀ o, chF o l → (∀ p, o = some p → riseM p y = true) → (∀ x ∈ l, riseM x y = true) → chF o (l ++ [y]) := by
  induction l with
  | nil => exact fun o _ h _ => ⟨hy, h, trivial⟩
  | cons x l ih =>
    intro o h ho hl
    exact ⟨h.1, h.2.1, ih (some x) h.2.2 (fun p hp => by rw [← Option.some.inj hp]; exact hl x (List.mem_cons_self ..)) (fun z hz => hl z (List.mem_cons_of_mem _ hz))⟩
theorem chF_acl (l : List S33) (y : S33) (hy : y.f0 = 3) : ∀ o, chF o (l ++ [y]) → aclFrom o (l ++ [y]) = true := by
  induction l with
  | nil =>
    intro o h
    have h3 : aclFrom (some y) [] = true := decide_eq_true hy
    cases o with
    | none =>
      show (entryM y && aclFrom (some y) []) = true
      rw [h.1, h3]
      rfl
    | some p =>
      show (entryM y && (riseM p y && aclFrom (some y) [])) = true
      rw [h.1, h.2.1 p rfl, h3]
      rfl
  | cons x l ih =>
    intro o h
    have h3 := ih (some x) h.2.2
    cases o with
    | none =>
      show (entryM x && aclFrom (some x) (l ++ [y])) = true
      rw [h.1, h3]
      rfl
    | some p =>
      show (entryM x && (riseM p x && aclFrom (some x) (l ++ [y]))) = true
      rw [h.1, h.2.1 p rfl, h3]
      rfl
/-- What is drawn so far: rising entries, all below a tag and a number. -/
def DrawI (x3 : List S33) (t u : Int) : Prop := x3.length ≤ 4 ∧ chF none x3 ∧ ∀ x ∈ x3, x.f0 < t ∨ x.f0 = t ∧ x.f1 < u
theorem once_ex (s : List Int) (i h : Int) (h0 : 0 ≤ i) (h1 : i ≤ 1048576) (hs : s.length ≤ 1048576) : ∃ b i' h', spec_l01Once.f s i h 3 = some (b, i', h') ∧ 0 ≤ i' ∧ i' ≤ 1048576 := by
  obtain ⟨v, i', h', e, _, _, a, b⟩ := l01Below_ex s i h h0 h1 hs 3 (by decide) (by decide)
  refine ⟨(v == 0), i', h', ?_, a, b⟩
  unfold spec_l01Once.f
  rw [e, Option.bind_some]
theorem draw_l1 (s : List Int) (hs : s.length ≤ 1048576) (t : Int) (ht : t = 1 ∨ t = 2) (K : ∀ (x3 : List S33) (i h : Int), DrawI x3 (t + 1) 0 → 0 ≤ i → i ≤ 1048576 → ∃ r, Ev (fun k => spec_l05Draw.l0 k x3 (t + 1) s i h) r ∧ isAclM r.1 = true) (d : Nat) :
    ∀ (x3 : List S33) (u i h : Int), u + d = 4 → 1 ≤ u → DrawI x3 t u → 0 ≤ i → i ≤ 1048576 → ∃ r, Ev (fun k => spec_l05Draw.l1 k x3 t u s i h) r ∧ isAclM r.1 = true := by
  induction d with
  | zero =>
    intro x3 u i h hu hu1 hI h0 h1
    obtain ⟨r, e, g⟩ := K x3 i h ⟨hI.1, hI.2.1, fun x hx => by have := hI.2.2 x hx; omega⟩ h0 h1
    refine ⟨r, Ev.step (fun _ => spec_l05Draw.l1.eq_2 ..) (Ev.neg (by omega) ?_), g⟩
    rw [w64 (n := t + 1) (by omega) (by omega)]
    exact e
  | succ d ih =>
    intro x3 u i h hu hu1 hI h0 h1
    have next : DrawI x3 t (u + 1) := ⟨hI.1, hI.2.1, fun x hx => by have := hI.2.2 x hx; omega⟩
    obtain ⟨b, i2, h2, e, a0, a1⟩ := once_ex s i h h0 h1 hs
    have hw : wrap64 (u + 1) = u + 1 := w64 (by omega) (by omega)
    cases b with
    | false =>
      obtain ⟨r, g1, g2⟩ := ih x3 (u + 1) i2 h2 (by omega) (by omega) next a0 a1
      refine ⟨r, Ev.step (fun _ => spec_l05Draw.l1.eq_2 ..) (Ev.pos (by omega) (Ev.bind0 e (Ev.neg (by simp) ?_))), g2⟩
      rw [hw]
      exact g1
    | true =>
      by_cases h4 : (x3.length : Int) < 4
      · obtain ⟨v, i3, h3, e2, v0, v1, b0, b1⟩ := l01Below_ex s i2 h2 a0 a1 hs 8 (by decide) (by decide)
        have hy : entryM (⟨t, u, v⟩ : S33) = true := decide_eq_true (by simp only []; omega)
        have hI2 : DrawI (x3 ++ [⟨t, u, v⟩]) t (u + 1) := by
          refine ⟨by rw [List.length_append, List.length_singleton]; omega, chF_append x3 _ hy none hI.2.1 (fun p hp => by cases hp) (fun x hx => ?_), fun x hx => ?_⟩
          · have := hI.2.2 x hx
            exact decide_eq_true (by simp only []; omega)
          · rcases List.mem_append.1 hx with hx | hx
            · have := hI.2.2 x hx
              omega
            · rw [List.mem_singleton.1 hx]
              exact Or.inr ⟨rfl, by simp only []; omega⟩
        obtain ⟨r, g1, g2⟩ := ih (x3 ++ [⟨t, u, v⟩]) (u + 1) i3 h3 (by omega) (by omega) hI2 b0 b1
        refine ⟨r, Ev.step (fun _ => spec_l05Draw.l1.eq_2 ..) (Ev.pos (by omega) (Ev.bind0 e (Ev.pos rfl (Ev.pos h4 (Ev.bind0 e2 (Ev.pos (by omega) ?_)))))), g2⟩
        rw [hw]
        exact g1
      · obtain ⟨r, g1, g2⟩ := ih x3 (u + 1) i2 h2 (by omega) (by omega) next a0 a1
        refine ⟨r, Ev.step (fun _ => spec_l05Draw.l1.eq_2 ..) (Ev.pos (by omega) (Ev.bind0 e (Ev.pos rfl (Ev.neg h4 ?_)))), g2⟩
        rw [hw]
        exact g1
theorem draw_end (s : List Int) (hs : s.length ≤ 1048576) (x3 : List S33) (i h : Int) (hI : DrawI x3 3 0) (h0 : 0 ≤ i) (h1 : i ≤ 1048576) : ∃ r, Ev (fun k => spec_l05Draw.l0 k x3 3 s i h) r ∧ isAclM r.1 = true := by
  obtain ⟨v, i2, h2, e, hv⟩ := l01Pick_in s i h h0 h1 hs [7, 7, 6, 5, 4, 0] (by decide) (by decide)
  have hv' : 0 ≤ v ∧ v ≤ 7 := by
    simp only [List.mem_cons, List.not_mem_nil, or_false] at hv
    omega
  have hy : entryM (⟨3, 0, v⟩ : S33) = true := decide_eq_true ⟨hv'.1, hv'.2, Or.inr ⟨rfl, rfl⟩⟩
  have hl := hI.1
  refine ⟨(x3 ++ [⟨3, 0, v⟩], i2, h2), Ev.step (fun _ => spec_l05Draw.l0.eq_2 ..) (Ev.neg (by decide) (Ev.bind0 e (Ev.pos (by omega) (Ev.now _)))), ?_⟩
  have hc : aclFrom none (x3 ++ [⟨3, 0, v⟩]) = true := chF_acl x3 _ rfl none (chF_append x3 _ hy none hI.2.1 (fun p hp => by cases hp) (fun x hx => by
    have := hI.2.2 x hx
    exact decide_eq_true (by simp only []; omega)))
  show isAclM (x3 ++ [⟨3, 0, v⟩]) = true
  unfold isAclM
  rw [hc, Bool.and_true]
  exact decide_eq_true (by rw [List.length_append, List.length_singleton]; omega)
theorem draw_l0 (s : List Int) (hs : s.length ≤ 1048576) (t : Int) (ht : t = 1 ∨ t = 2) (K : ∀ (x3 : List S33) (i h : Int), DrawI x3 (t + 1) 0 → 0 ≤ i → i ≤ 1048576 → ∃ r, Ev (fun k => spec_l05Draw.l0 k x3 (t + 1) s i h) r ∧ isAclM r.1 = true) (x3 : List S33) (i h : Int) (hI : DrawI x3 t 0) (h0 : 0 ≤ i) (h1 : i ≤ 1048576) : ∃ r, Ev (fun k => spec_l05Draw.l0 k x3 t s i h) r ∧ isAclM r.1 = true := by
  obtain ⟨r, g1, g2⟩ := draw_l1 s hs t ht K 3 x3 1 i h (by omega) (by omega) ⟨hI.1, hI.2.1, fun x hx => by have := hI.2.2 x hx; omega⟩ h0 h1
  exact ⟨r, Ev.step (fun _ => spec_l05Draw.l0.eq_2 ..) (Ev.pos (by omega) g1), g2⟩
theorem makeAcl_ex (s : List Int) (hs : s.length ≤ 1048576) (n : Int) (h0 : 0 ≤ n) (hn : n ≤ 1000) : ∃ l, Ev (fun k => spec_MakeAcl.f k s n) l ∧ isAclM l = true := by
  obtain ⟨i, h, g, a, b⟩ := l25New_ex s hs n h0 hn
  obtain ⟨o, i2, h2, e, a2, b2⟩ := once_ex s i h a b hs
  have hd : ∃ r, Ev (fun k => spec_l05Draw.f k s i h) r ∧ isAclM r.1 = true := by
    unfold spec_l05Draw.f
    cases o with
    | true => exact ⟨([], i2, h2), Ev.bind0 rfl (Ev.bind0 e (Ev.pos rfl (Ev.now _))), rfl⟩
    | false =>
      obtain ⟨r, p1, p2⟩ := draw_l0 s hs 1 (Or.inl rfl) (fun x3 i h hI h0 h1 => draw_l0 s hs 2 (Or.inr rfl) (fun x3 i h hI h0 h1 => draw_end s hs x3 i h hI h0 h1) x3 i h hI h0 h1) [] i2 h2 ⟨by decide, trivial, fun x hx => by cases hx⟩ a2 b2
      exact ⟨r, Ev.bind0 rfl (Ev.bind0 e (Ev.neg (by simp) p1)), p2⟩
  obtain ⟨r, p1, p2⟩ := hd
  unfold spec_MakeAcl.f
  exact ⟨r.1, Ev.bind g (Ev.bind p1 (Ev.now _)), p2⟩
theorem fmt_size (xs : List S33) : (fmtAcl xs).size ≤ 1000 := by
  unfold fmtAcl
  by_cases h : isAclM xs = true
  · rw [if_pos h]
    by_cases hz : (xs.length : Int) = 0
    · rw [if_pos hz]
      decide
    · rw [if_neg hz, ← bytesOf_length, joinS_bytes]
      obtain ⟨h6, he⟩ := isAcl_len h
      have := joinB_len 44 5 ((xs.map entS).map bytesOf) (by
        intro e hx
        rw [List.map_map] at hx
        obtain ⟨x, hx2, rfl⟩ := List.mem_map.1 hx
        show (bytesOf (entS x)).length + 1 ≤ 5
        rw [bytesOf_length, entS_size (he x hx2)]
        decide)
      rw [List.length_map, List.length_map] at this
      omega
  · rw [if_neg h]
    decide
theorem FnAcls : laws_FnAcls.Pure := by
  intro s h1 h2 h3
  apply Ev.rounds
  unfold laws_FnAcls.f
  by_cases hb : (s.length : Int) > 1048576
  · exact Ev.pos hb (Ev.now _)
  · obtain ⟨l, m1, m2⟩ := makeAcl_ex s (by omega) 1 (by omega) (by omega)
    have h6 := (isAcl_len m2).1
    have f := formatAcl_implv l (by omega)
    have hz := fmt_size l
    obtain ⟨r, p1, p2⟩ := parseAcl_impl (fmtAcl l) (by omega)
    have hr : r = (l, true) := p2.2 l m2 rfl
    subst hr
    have q1 := packAcl_implv l m2
    have q2 := unpack_pack l m2
    have hi := isAcl_impl l (by omega)
    rw [m2] at hi
    refine Ev.neg hb (Ev.bind m1 (Ev.bind f (Ev.bind p1 (Ev.bind q1 (Ev.bind q2 (Ev.pos rfl (Ev.pos rfl (Ev.bind hi (Ev.pos rfl (Ev.bind f (Ev.bind f (Ev.pos rfl (Ev.bind f (Ev.bind f ?_))))))))))))))
    rw [bne_self_eq_false]
    exact Ev.step (fun _ => laws_FnAcls.j0.eq_2 ..) (Ev.neg (by decide) (FnAcls_loop l m2 l 0 (by omega) rfl))

end Go.Proofs.YtmnojegajblagacDoor.Pure
