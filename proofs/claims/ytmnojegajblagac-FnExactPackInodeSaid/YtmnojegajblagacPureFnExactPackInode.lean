/- The law FnExactPackInode holds for every input of its kind; no further condition. -/
import Derived.Test.YtmnojegajblagacPFnExactPackInodex17
import Derived.Test.YtmnojegajblagacLibBase
import Derived.Test.YtmnojegajblagacLibOpen
import Derived.Test.YtmnojegajblagacLibNumbers
import Derived.Test.YtmnojegajblagacLibAllEq
namespace Go.Proofs.Ytmnojegajblagac.Pure
open Go.RowKit Go.Proofs.Ytmnojegajblagac.PFnExactPackInode Go.Proofs.Ytmnojegajblagac.Lib Go.Proofs.YtmnojegajblagacW.PrintWords Go.Proofs.YtmnojegajblagacW.PrintLast Go.Proofs.YtmnojegajblagacW.PrintMore
set_option linter.unusedVariables false
set_option linter.unusedSimpArgs false

def aclTo (x : S118) : S116 := ⟨x.f0, x.f1, x.f2⟩
theorem szAclEntryS_ex (l : List S118) (hl : l.length ≤ 9223372036854775807) (n : Int) (hn : 0 ≤ n) (hn' : n ≤ 1048576) : ∃ t, laws_szAclEntryS.f l n = some t ∧ (t < 0 ∨ ((l.length : Int) ≤ n ∧ t = n - (l.length : Int))) := by
  unfold laws_szAclEntryS.f
  rw [w64 (by omega) (by omega)]
  by_cases h : n - (l.length : Int) < 0
  · rw [if_pos h]
    exact ⟨-1, by simp, by omega⟩
  · rw [if_neg h]
    exact ⟨_, rfl, by omega⟩
theorem toAclEntryS_l (xs : List S118) (hx : xs.length ≤ 1048576) (l : List S118) : ∀ (i : Int) (ys : List S116), 0 ≤ i → xs.drop i.toNat = l → ys.length = xs.length → Ev (fun k => laws_toAclEntryS.l0 k xs ys i) (ys.take i.toNat ++ l.map aclTo) := by
  induction l with
  | nil =>
    intro i ys h0 h hy
    have := ldrop_nil h0 h
    rw [List.map_nil, List.append_nil, List.take_of_length_le (by omega)]
    exact Ev.step (fun _ => laws_toAclEntryS.l0.eq_2 ..) (Ev.neg (by omega) (Ev.now _))
  | cons x l ih =>
    intro i ys h0 h hy
    obtain ⟨a, b, c, e⟩ := ldrop_cons z118 h0 h
    refine Ev.step (fun _ => laws_toAclEntryS.l0.eq_2 ..) (Ev.pos a (Ev.pos h0 (Ev.bind0 rfl (Ev.pos (by omega) ?_))))
    have := ih (i + 1) (ys.set i.toNat (aclTo x)) (by omega) c (by rw [List.length_set]; exact hy)
    rw [set_take _ h0 (by omega), List.append_assoc] at this
    rw [w64 (by omega) (by omega), show rd_T118 xs i = x from b]
    exact this
theorem toAclEntryS_f (xs : List S118) (hx : xs.length ≤ 1048576) : Ev (fun k => laws_toAclEntryS.f k xs) (xs.map aclTo) := by
  unfold laws_toAclEntryS.f
  exact Ev.pos (by omega) (Ev.pos (by omega) (toAclEntryS_l xs hx xs 0 _ (by omega) rfl (by rw [List.length_replicate]; omega)))

theorem eqAclEntryS_l (d : Nat) : ∀ (i : Int) (l : List S116), 0 ≤ i → i + d = (l.length : Int) → l.length ≤ 1048576 → Ev (fun k => laws_eqAclEntryS.l0 k l l i) true := by
  induction d with
  | zero =>
    intro i l h0 hd hl
    exact Ev.step (fun _ => laws_eqAclEntryS.l0.eq_2 ..) (Ev.neg (by omega) (Ev.now _))
  | succ d ih =>
    intro i l h0 hd hl
    refine Ev.step (fun _ => laws_eqAclEntryS.l0.eq_2 ..) (Ev.pos (by omega) (Ev.pos h0 (Ev.pos (by omega) (Ev.bind0 (a := true) (by unfold laws_eqAclEntry.f; simp) (Ev.pos rfl ?_)))))
    rw [w64 (n := i + 1) (by omega) (by omega)]
    exact ih (i + 1) l (by omega) (by omega) hl
theorem eqAclEntryS_f (l : List S116) (hl : l.length ≤ 1048576) : Ev (fun k => laws_eqAclEntryS.f k l l) true := by
  unfold laws_eqAclEntryS.f
  exact Ev.pos rfl (eqAclEntryS_l l.length 0 l (by omega) (by omega) hl)

theorem toIntS_l (xs : List Int) (hx : xs.length ≤ 1048576) (l : List Int) : ∀ (i : Int) (ys : List Int), 0 ≤ i → xs.drop i.toNat = l → ys.length = xs.length → Ev (fun k => laws_toIntS.l0 k xs ys i) (ys.take i.toNat ++ l) := by
  induction l with
  | nil =>
    intro i ys h0 h hy
    have := ldrop_nil h0 h
    rw [List.append_nil, List.take_of_length_le (by omega)]
    exact Ev.step (fun _ => laws_toIntS.l0.eq_2 ..) (Ev.neg (by omega) (Ev.now _))
  | cons x l ih =>
    intro i ys h0 h hy
    obtain ⟨a, b, c, e⟩ := ldrop_cons (0 : Int) h0 h
    refine Ev.step (fun _ => laws_toIntS.l0.eq_2 ..) (Ev.pos a (Ev.pos h0 (Ev.pos (by omega) ?_)))
    have := ih (i + 1) (ys.set i.toNat (rd xs i)) (by omega) c (by rw [List.length_set]; exact hy)
    rw [set_take _ h0 (by omega), List.append_assoc, show rd xs i = x from b] at this
    rw [w64 (by omega) (by omega), show rd xs i = x from b]
    exact this
theorem toIntS_f (xs : List Int) (hx : xs.length ≤ 1048576) : Ev (fun k => laws_toIntS.f k xs) xs := by
  unfold laws_toIntS.f
  exact Ev.pos (by omega) (Ev.pos (by omega) (toIntS_l xs hx xs 0 _ (by omega) rfl (by rw [List.length_replicate]; omega)))

theorem eqIntS_l (d : Nat) : ∀ (i : Int) (l : List Int), 0 ≤ i → i + d = (l.length : Int) → l.length ≤ 1048576 → Ev (fun k => laws_eqIntS.l0 k l l i) true := by
  induction d with
  | zero =>
    intro i l h0 hd hl
    exact Ev.step (fun _ => laws_eqIntS.l0.eq_2 ..) (Ev.neg (by omega) (Ev.now _))
  | succ d ih =>
    intro i l h0 hd hl
    refine Ev.step (fun _ => laws_eqIntS.l0.eq_2 ..) (Ev.pos (by omega) (Ev.pos h0 (Ev.pos (by omega) (Ev.pos rfl ?_))))
    rw [w64 (n := i + 1) (by omega) (by omega)]
    exact ih (i + 1) l (by omega) (by omega) hl
theorem eqIntS_f (l : List Int) (hl : l.length ≤ 1048576) : Ev (fun k => laws_eqIntS.f k l l) true := by
  unfold laws_eqIntS.f
  exact Ev.pos rfl (eqIntS_l l.length 0 l (by omega) (by omega) hl)

def okInt (l : List Int) : Prop := l.length ≤ 9223372036854775807 ∧ ∀ x, x ∈ l → (Lit.int .i64 x).wf = true
def okAcls (l : List S118) : Prop := l.length ≤ 9223372036854775807 ∧ ∀ x, x ∈ l → (Lit.int .i64 x.f0).wf = true ∧ (Lit.int .i64 x.f1).wf = true ∧ (Lit.int .i64 x.f2).wf = true
/-- What is left of an inode's size, and what follows for its parts. -/
theorem szInode_ex (a0 a1 a2 a3 a4 a5 a6 : Int) (b : List Int) (c d : List S118) (hb : b.length ≤ 9223372036854775807) (hc : c.length ≤ 9223372036854775807) (hd : d.length ≤ 9223372036854775807) (left : Int) (hl : 0 ≤ left) (hl' : left ≤ 1048576) :
    ∃ t, laws_szInode.f a0 a1 a2 a3 a4 a5 a6 b c d left = some t ∧ (t < 0 ∨ 0 ≤ t ∧ t ≤ left ∧ (b.length : Int) ≤ left ∧ (c.length : Int) ≤ left ∧ (d.length : Int) ≤ left) := by
  unfold laws_szInode.f laws_szIntS.f
  rw [w64 (by omega) (by omega)]
  by_cases h1 : left - (b.length : Int) < 0
  · rw [if_pos h1, Option.bind_some, if_pos (by decide)]
    exact ⟨-1, rfl, by omega⟩
  · rw [if_neg h1, Option.bind_some, if_neg h1]
    obtain ⟨t, h2, h3⟩ := szAclEntryS_ex c hc (left - (b.length : Int)) (by omega) (by omega)
    rw [h2, Option.bind_some]
    by_cases h4 : t < 0
    · rw [if_pos h4]
      exact ⟨-1, rfl, by omega⟩
    · rw [if_neg h4]
      obtain ⟨u, h5, h6⟩ := szAclEntryS_ex d hd t (by omega) (by omega)
      rw [h5, Option.bind_some]
      by_cases h7 : u < 0
      · rw [if_pos h7]
        exact ⟨-1, rfl, by omega⟩
      · rw [if_neg h7]
        exact ⟨u, rfl, by omega⟩
theorem toInode_f (a0 a1 a2 a3 a4 a5 a6 : Int) (b : List Int) (c d : List S118) (hb : b.length ≤ 1048576) (hc : c.length ≤ 1048576) (hd : d.length ≤ 1048576) :
    Ev (fun k => laws_toInode.f k a0 a1 a2 a3 a4 a5 a6 b c d) (a0, a1, a2, a3, a4, a5, a6, b, c.map aclTo, d.map aclTo) := by
  unfold laws_toInode.f
  exact Ev.bind (toIntS_f b hb) (Ev.bind (toAclEntryS_f c hc) (Ev.bind (toAclEntryS_f d hd) (Ev.now _)))
theorem eqInode_f (a0 a1 a2 a3 a4 a5 a6 : Int) (b : List Int) (c d : List S116) (hb : b.length ≤ 1048576) (hc : c.length ≤ 1048576) (hd : d.length ≤ 1048576) :
    Ev (fun k => laws_eqInode.f k a0 a1 a2 a3 a4 a5 a6 b c d a0 a1 a2 a3 a4 a5 a6 b c d) true := by
  unfold laws_eqInode.f
  exact Ev.pos rfl (Ev.pos rfl (Ev.pos rfl (Ev.pos rfl (Ev.pos rfl (Ev.pos rfl (Ev.pos rfl (Ev.bind (eqIntS_f b hb) (Ev.pos rfl (Ev.bind (eqAclEntryS_f c hc) (Ev.pos rfl (Ev.bind (eqAclEntryS_f d hd) (Ev.pos rfl (Ev.now _)))))))))))))

theorem l01In_spec (a b c : Int) : spec_l01In.f a b c = some (decide (b ≤ a ∧ a ≤ c)) := by
  unfold spec_l01In.f
  by_cases h : a ≥ b
  · rw [if_pos h]
    simp [show b ≤ a from h]
  · rw [if_neg h]
    simp [show ¬ b ≤ a from h]

theorem putNumber_spec_l (d : Nat) : ∀ (n : Int) (xs : List Int), 0 ≤ n → n ≤ 9223372036854775807 → d ≤ xs.length → xs.length ≤ 6 → Ev (fun k => spec_PutNumber.l0 k n xs ((d : Int) - 1)) (strOfNums (putL d n ++ xs.drop d)) := by
  induction d with
  | zero =>
    intro n xs h0 hn h h6
    exact Ev.step (fun _ => spec_PutNumber.l0.eq_2 ..) (Ev.neg (by decide) (Ev.now _))
  | succ d ih =>
    intro n xs h0 hn h h6
    rw [show ((d + 1 : Nat) : Int) - 1 = (d : Int) by omega]
    refine Ev.step (fun _ => spec_PutNumber.l0.eq_2 ..) (Ev.pos (by omega) (Ev.pos (by omega) (Ev.pos (by omega) ?_)))
    rw [Int.tdiv_eq_ediv_of_nonneg h0, Int.tmod_eq_emod_of_nonneg h0, w64 (n := n / 256) (by omega) (by omega), w64 (n := (d : Int) - 1) (by omega) (by omega), Int.toNat_natCast, Int.emod_emod_of_dvd n (Int.dvd_refl 256)]
    have := ih (n / 256) (xs.set d (n % 256)) (by omega) (by omega) (by rw [List.length_set]; omega) (by rw [List.length_set]; omega)
    rw [set_drop (n % 256) (by omega)] at this
    rw [putL, List.append_assoc]
    exact this
theorem putNumber_impl_l (d : Nat) : ∀ (n : Int) (xs : List Int), 0 ≤ n → n ≤ 9223372036854775807 → d ≤ xs.length → xs.length ≤ 6 → Ev (fun k => impl_PutNumber.l0 k n xs ((d : Int) - 1)) (strOfNums (putL d n ++ xs.drop d)) := by
  induction d with
  | zero =>
    intro n xs h0 hn h h6
    exact Ev.step (fun _ => impl_PutNumber.l0.eq_2 ..) (Ev.neg (by decide) (Ev.now _))
  | succ d ih =>
    intro n xs h0 hn h h6
    rw [show ((d + 1 : Nat) : Int) - 1 = (d : Int) by omega]
    refine Ev.step (fun _ => impl_PutNumber.l0.eq_2 ..) (Ev.pos (by omega) (Ev.pos (by omega) (Ev.pos (by omega) ?_)))
    rw [w64 (n := (d : Int) - 1) (by omega) (by omega), Int.toNat_natCast]
    have := ih (n / 256) (xs.set d (n % 256)) (by omega) (by omega) (by rw [List.length_set]; omega) (by rw [List.length_set]; omega)
    rw [set_drop (n % 256) (by omega)] at this
    rw [putL, List.append_assoc]
    exact this
theorem putNumber_spec (n w : Int) (hn : n ≤ 9223372036854775807) : Ev (fun k => spec_PutNumber.f k n w) (putNumber n w) := by
  unfold spec_PutNumber.f
  refine Ev.bind0 (l01In_spec w 1 6) ?_
  have no : ¬ (1 ≤ w ∧ w ≤ 6 ∧ 0 ≤ n ∧ n < 256 ^ w.toNat) → Ev (fun k => spec_PutNumber.j0 k n w true) (putNumber n w) := by
    intro h
    unfold putNumber
    rw [if_neg h]
    exact Ev.step (fun _ => spec_PutNumber.j0.eq_2 ..) (Ev.pos rfl (Ev.now _))
  by_cases hw : 1 ≤ w ∧ w ≤ 6
  · refine Ev.pos (by simpa using hw) ?_
    by_cases h0 : n < 0
    · exact Ev.pos h0 (no (by omega))
    · obtain ⟨e1, e2, e3, e4⟩ := shl_put hw.1 hw.2
      refine Ev.neg h0 (Ev.pos e2 ?_)
      rw [e1]
      by_cases h1 : n ≥ 256 ^ w.toNat
      · rw [show decide (n ≥ 256 ^ w.toNat) = true by simpa using h1]
        exact no (fun h => by have := h.2.2.2; omega)
      · rw [show decide (n ≥ 256 ^ w.toNat) = false by simpa using h1]
        refine Ev.step (fun _ => spec_PutNumber.j0.eq_2 ..) (Ev.neg (by decide) (Ev.pos (by omega) (Ev.pos (by omega) ?_)))
        have := putNumber_spec_l w.toNat n (List.replicate w.toNat 0) (by omega) hn (by rw [List.length_replicate]; omega) (by rw [List.length_replicate]; omega)
        rw [List.drop_eq_nil_of_le (by rw [List.length_replicate]; omega), List.append_nil, show ((w.toNat : Nat) : Int) = w by omega] at this
        unfold putNumber
        rw [if_pos ⟨hw.1, hw.2, by omega, by omega⟩, w64 (n := w - 1) (by omega) (by omega)]
        exact this
  · exact Ev.neg (by simpa using hw) (no (fun h => hw ⟨h.1, h.2.1⟩))
theorem putNumber_impl (n w : Int) (hn : n ≤ 9223372036854775807) : Ev (fun k => impl_PutNumber.f k n w) (putNumber n w) := by
  unfold impl_PutNumber.f
  have no : ¬ (1 ≤ w ∧ w ≤ 6 ∧ 0 ≤ n ∧ n < 256 ^ w.toNat) → Ev (fun k => impl_PutNumber.j0 k n w true) (putNumber n w) := by
    intro h
    unfold putNumber
    rw [if_neg h]
    exact Ev.step (fun _ => impl_PutNumber.j0.eq_2 ..) (Ev.pos rfl (Ev.now _))
  by_cases hw : w < 1
  · exact Ev.pos hw (no (fun h => by have := h.1; omega))
  · refine Ev.neg hw ?_
    by_cases hw6 : w > 6
    · exact Ev.pos hw6 (no (fun h => by have := h.2.1; omega))
    · refine Ev.neg hw6 ?_
      by_cases h0 : n < 0
      · exact Ev.pos h0 (no (fun h => by have := h.2.2.1; omega))
      · obtain ⟨e1, e2, e3, e4⟩ := shl_put (w := w) (by omega) (by omega)
        refine Ev.neg h0 (Ev.pos e4 ?_)
        rw [e3]
        by_cases h1 : n ≥ 256 ^ w.toNat
        · rw [show decide (n ≥ 256 ^ w.toNat) = true by simpa using h1]
          exact no (fun h => by have := h.2.2.2; omega)
        · rw [show decide (n ≥ 256 ^ w.toNat) = false by simpa using h1]
          refine Ev.step (fun _ => impl_PutNumber.j0.eq_2 ..) (Ev.neg (by decide) (Ev.pos (by omega) (Ev.pos (by omega) ?_)))
          have := putNumber_impl_l w.toNat n (List.replicate w.toNat 0) (by omega) hn (by rw [List.length_replicate]; omega) (by rw [List.length_replicate]; omega)
          rw [List.drop_eq_nil_of_le (by rw [List.length_replicate]; omega), List.append_nil, show ((w.toNat : Nat) : Int) = w by omega] at this
          unfold putNumber
          rw [if_pos ⟨by omega, by omega, by omega, by omega⟩, w64 (n := w - 1) (by omega) (by omega)]
          exact this

theorem strOfNums_size (l : List Int) : (strOfNums l).size = l.length := by
  have h : (strOfNums l).data.toList.length = (strOfNums l).size := by rw [Array.length_toList]; rfl
  rw [← h, strOfNums_data, List.length_map]
theorem putNumber_size (n w : Int) : (putNumber n w).size ≤ 6 := by
  unfold putNumber
  by_cases h : 1 ≤ w ∧ w ≤ 6 ∧ 0 ≤ n ∧ n < 256 ^ w.toNat
  · rw [if_pos h, strOfNums_size, putL_length]
    omega
  · rw [if_neg h]
    exact Nat.zero_le _

theorem data_eq_len (s : ByteArray) : s.data.toList.length = s.size := by rw [Array.length_toList]; rfl
theorem bytesOf_zeros (d : Nat) : bytesOf (⟨(Go.Lib.repeatL [0] d).toArray⟩ : ByteArray) = List.replicate d 0 := by
  have h := Go.Lib.repeatL_replicate 0 1 d
  rw [Nat.mul_one, show List.replicate 1 (0 : UInt8) = [0] from rfl] at h
  rw [h]
  unfold bytesOf
  rw [List.toList_toArray, List.map_replicate]
  rfl
theorem padTo_spec_l (n : Int) (hn : n ≤ 100000) (d : Nat) : ∀ (xs : List Int), (n - (xs.length : Int)).toNat = d → Ev (fun k => spec_PadTo.l0 k n xs) (strOfNums (xs ++ List.replicate d 0)) := by
  induction d with
  | zero =>
    intro xs hd
    rw [List.replicate_zero, List.append_nil]
    exact Ev.step (fun _ => spec_PadTo.l0.eq_2 ..) (Ev.neg (by omega) (Ev.now _))
  | succ d ih =>
    intro xs hd
    have := ih (xs ++ [0]) (by rw [List.length_append, List.length_singleton]; omega)
    rw [List.append_assoc, show [(0 : Int)] ++ List.replicate d 0 = List.replicate (d + 1) 0 from rfl] at this
    exact Ev.step (fun _ => spec_PadTo.l0.eq_2 ..) (Ev.pos (by omega) (Ev.pos (by omega) this))
theorem padTo_both' (s : ByteArray) (n : Int) (hs : s.size ≤ 100000) (hn : n ≤ 100000) : Ev (fun k => spec_PadTo.f k s n) (strOfNums (bytesOf s ++ List.replicate (n - ((bytesOf s).length : Int)).toNat 0)) ∧ impl_PadTo.f s n = some (strOfNums (bytesOf s ++ List.replicate (n - ((bytesOf s).length : Int)).toNat 0)) := by
  unfold spec_PadTo.f impl_PadTo.f
  refine ⟨Ev.neg (by omega) (Ev.pos (by omega) (padTo_spec_l n hn _ _ rfl)), ?_⟩
  rw [bytesOf_length]
  by_cases h : (s.size : Int) ≥ n
  · rw [if_pos h, show (n - (s.size : Int)).toNat = 0 by omega, List.replicate_zero, List.append_nil, strOfNums_bytesOf]
  · rw [if_neg h, if_neg (by omega), w64 (by omega) (by omega)]
    unfold strings_Repeat.f
    have z : (⟨#[0]⟩ : ByteArray).size = 1 := rfl
    rw [if_pos ⟨by omega, by omega, by rw [z]; omega⟩, Option.bind_some]
    have z2 : (⟨(Go.Lib.repeatL [0] (n - (s.size : Int)).toNat).toArray⟩ : ByteArray).size = (n - (s.size : Int)).toNat := by
      rw [← data_eq_len]
      simp only []
      rw [Go.Lib.repeatL_length]
      exact Nat.mul_one _
    have e : s ++ (⟨(Go.Lib.repeatL [0] (n - (s.size : Int)).toNat).toArray⟩ : ByteArray) = strOfNums (bytesOf s ++ List.replicate (n - (s.size : Int)).toNat 0) := by
      apply bytesOf_inj
      rw [bytesOf_append, bytesOf_zeros, bytesOf_strOfNums]
      intro x hx
      rcases List.mem_append.1 hx with h1 | h1
      · exact bytesOf_range h1
      · rw [List.eq_of_mem_replicate h1]
        decide
    rw [← e]
    exact if_pos (by simp only [] at z2 ⊢; rw [z2]; omega)
theorem padTo_both (s : ByteArray) (n : Int) (hs : s.size ≤ 100000) (hn : n ≤ 100000) : ∃ r, Ev (fun k => spec_PadTo.f k s n) r ∧ impl_PadTo.f s n = some r := ⟨_, padTo_both' s n hs hn⟩
theorem padTo_front (s : ByteArray) (n : Int) (hs : s.size ≤ 100000) (hn : n ≤ 100000) : ∃ r m, Ev (fun k => spec_PadTo.f k s n) r ∧ impl_PadTo.f s n = some r ∧ bytesOf r = bytesOf s ++ m ∧ r.size ≤ s.size + n.toNat := by
  obtain ⟨h1, h2⟩ := padTo_both' s n hs hn
  refine ⟨_, _, h1, h2, bytesOf_strOfNums ?_, ?_⟩
  rotate_left
  · rw [← data_eq_len, strOfNums_data, List.length_map, List.length_append, bytesOf_length, List.length_replicate]
    omega
  intro x hx
  rcases List.mem_append.1 hx with h1 | h1
  · exact bytesOf_range h1
  · rw [List.eq_of_mem_replicate h1]
    decide

theorem isUser_impl (a : Int) : impl_isUser.f a = some (decide (0 ≤ a ∧ a ≤ 3)) := by
  unfold impl_isUser.f
  by_cases h : a ≥ 0
  · rw [if_pos h]
    congr 1
    apply decide_eq_decide.2
    omega
  · rw [if_neg h]
    congr 1
    symm
    apply decide_eq_false
    omega

/-- One entry is well formed. -/
def entryM (x : S116) : Bool := decide (0 ≤ x.f2 ∧ x.f2 ≤ 7 ∧ ((x.f0 = 1 ∨ x.f0 = 2) ∧ 0 ≤ x.f1 ∧ x.f1 ≤ 3 ∨ x.f0 = 3 ∧ x.f1 = 0))
/-- Two neighbours rise. -/
def riseM (x y : S116) : Bool := decide (x.f0 < y.f0 ∨ x.f0 = y.f0 ∧ x.f1 < y.f1)
/-- The entries from one with a left neighbour on. -/
def aclFrom : Option S116 → List S116 → Bool
  | none, [] => true
  | some p, [] => decide (p.f0 = 3)
  | none, x :: l => entryM x && aclFrom (some x) l
  | some p, x :: l => entryM x && (riseM p x && aclFrom (some x) l)
def isAclM (l : List S116) : Bool := decide (l.length ≤ 6) && aclFrom none l
/-- What stands left of place i. -/
def leftOf (xs : List S116) (i : Int) : Option S116 := if i > 0 then some (rd_T116 xs (i - 1)) else none
theorem l05Entry_spec (a b c : Int) : Ev (fun k => spec_l05Entry.f k a b c) (entryM ⟨a, b, c⟩) := by
  unfold spec_l05Entry.f
  refine Ev.bind0 (l01In_spec c 0 7) ?_
  by_cases hc : 0 ≤ c ∧ c ≤ 7
  · refine Ev.pos (by simpa using hc) ?_
    by_cases h1 : a = 1
    · refine Ev.pos h1 (Ev.step (fun _ => spec_l05Entry.j0.eq_2 ..) (Ev.pos (by simpa using h1) (Ev.bind0 (l01In_spec b 0 3) ?_)))
      rw [show entryM ⟨a, b, c⟩ = decide (0 ≤ b ∧ b ≤ 3) by unfold entryM; apply decide_eq_decide.2; simp only; omega]
      exact Ev.now _
    · refine Ev.neg h1 (Ev.step (fun _ => spec_l05Entry.j0.eq_2 ..) ?_)
      by_cases h2 : a = 2
      · refine Ev.pos (by simpa using h2) (Ev.bind0 (l01In_spec b 0 3) ?_)
        rw [show entryM ⟨a, b, c⟩ = decide (0 ≤ b ∧ b ≤ 3) by unfold entryM; apply decide_eq_decide.2; simp only; omega]
        exact Ev.now _
      · refine Ev.neg (by simpa using h2) ?_
        by_cases h3 : a = 3
        · refine Ev.pos h3 ?_
          rw [show entryM ⟨a, b, c⟩ = (b == 0) by unfold entryM; rw [show (b == 0) = decide (b = 0) from rfl]; apply decide_eq_decide.2; simp only; omega]
          exact Ev.now _
        · refine Ev.neg h3 ?_
          rw [show entryM ⟨a, b, c⟩ = false by unfold entryM; apply decide_eq_false; simp only; omega]
          exact Ev.now _
  · refine Ev.neg (by simpa using hc) ?_
    rw [show entryM ⟨a, b, c⟩ = false by unfold entryM; apply decide_eq_false; simp only; omega]
    exact Ev.now _
theorem rd_last (xs : List S116) (i : Int) (h : (xs.length : Int) ≤ i) (h0 : 0 ≤ i) (hi : i ≤ (xs.length : Int)) : i = (xs.length : Int) := by omega
theorem isAcl_spec_l (xs : List S116) (hx : xs.length ≤ 1048576) (l : List S116) : ∀ (i : Int), 0 ≤ i → i ≤ (xs.length : Int) → xs.drop i.toNat = l →
    Ev (fun k => spec_IsAcl.l0 k xs xs (xs.length : Int) i) (aclFrom (leftOf xs i) l && decide (xs.length ≤ 6)) := by
  induction l with
  | nil =>
    intro i h0 hi h
    have h1 := ldrop_nil h0 h
    have hi' : i = (xs.length : Int) := by omega
    subst hi'
    refine Ev.step (fun _ => spec_IsAcl.l0.eq_2 ..) (Ev.neg (by omega) ?_)
    by_cases hz : (xs.length : Int) = 0
    · refine Ev.pos hz ?_
      rw [show leftOf xs (xs.length : Int) = none by unfold leftOf; rw [if_neg (by omega)], aclFrom, show decide (xs.length ≤ 6) = true by simp only [decide_eq_true_eq]; omega]
      exact Ev.now _
    · refine Ev.neg hz ?_
      rw [show leftOf xs (xs.length : Int) = some (rd_T116 xs ((xs.length : Int) - 1)) by unfold leftOf; rw [if_pos (by omega)], aclFrom, w64 (by omega) (by omega)]
      by_cases h6 : (xs.length : Int) ≤ 6
      · refine Ev.pos h6 (Ev.pos (by omega) (Ev.pos (by omega) ?_))
        rw [show decide (xs.length ≤ 6) = true by simp only [decide_eq_true_eq]; omega, Bool.and_true]
        exact Ev.now _
      · refine Ev.neg h6 ?_
        rw [show decide (xs.length ≤ 6) = false by simp only [decide_eq_false_iff_not]; omega, Bool.and_false]
        exact Ev.now _
  | cons x l ih =>
    intro i h0 hi h
    obtain ⟨p, q, c, e⟩ := ldrop_cons z116 h0 h
    have hx' : rd_T116 xs i = x := q
    have := ih (i + 1) (by omega) (by omega) c
    rw [show leftOf xs (i + 1) = some x by unfold leftOf; rw [if_pos (by omega), show i + 1 - 1 = i by omega, hx']] at this
    refine Ev.step (fun _ => spec_IsAcl.l0.eq_2 ..) (Ev.pos p (Ev.pos h0 (Ev.pos p ?_)))
    rw [hx']
    refine Ev.bind (l05Entry_spec x.f0 x.f1 x.f2) ?_
    rw [w64 (n := i + 1) (by omega) (by omega), w64 (n := i - 1) (by omega) (by omega)]
    by_cases c1 : entryM x = true
    · refine Ev.pos c1 ?_
      by_cases c2 : i > 0
      · refine Ev.pos c2 (Ev.pos (by omega) (Ev.pos (by omega) ?_))
        rw [show leftOf xs i = some (rd_T116 xs (i - 1)) by unfold leftOf; rw [if_pos c2], aclFrom, c1, Bool.true_and]
        generalize rd_T116 xs (i - 1) = y at *
        by_cases c3 : y.f0 > x.f0
        · rw [show riseM y x = false by unfold riseM; apply decide_eq_false; omega]
          exact Ev.pos c3 (Ev.now _)
        · refine Ev.neg c3 ?_
          by_cases c4 : y.f0 = x.f0
          · refine Ev.pos c4 ?_
            by_cases c5 : y.f1 ≥ x.f1
            · rw [show riseM y x = false by unfold riseM; apply decide_eq_false; omega]
              exact Ev.pos c5 (Ev.now _)
            · rw [show riseM y x = true by unfold riseM; apply decide_eq_true; omega, Bool.true_and]
              exact Ev.neg c5 this
          · rw [show riseM y x = true by unfold riseM; apply decide_eq_true; omega, Bool.true_and]
            exact Ev.neg c4 this
      · refine Ev.neg c2 ?_
        rw [show leftOf xs i = none by unfold leftOf; rw [if_neg c2], aclFrom, c1, Bool.true_and]
        exact this
    · refine Ev.neg c1 ?_
      have c1' : entryM x = false := by simpa using c1
      have : (aclFrom (leftOf xs i) (x :: l) && decide (xs.length ≤ 6)) = false := by
        cases leftOf xs i <;> simp [aclFrom, c1']
      rw [this]
      exact Ev.now _
theorem cmp_impl (a b : Int) : cmp_Compare_int.f a b = some (if a < b then -1 else if a > b then 1 else 0) := by
  unfold cmp_Compare_int.f cmp_isNaN_int.f
  simp only [bne_self_eq_false, Option.bind_some]
  rw [if_neg (by simp), if_neg (by simp)]
  repeat' split
  all_goals rfl
theorem cmpOr_impl (a b : Int) : Ev (fun k => cmp_Or_int.f k [a, b]) (if a = 0 then b else a) := by
  unfold cmp_Or_int.f
  refine Ev.step (fun _ => cmp_Or_int.l0.eq_2 ..) (Ev.pos (by simp) (Ev.pos (by decide) (Ev.pos (by simp) ?_)))
  rw [show rd [a, b] 0 = a from rfl, show wrap64 (0 + 1) = 1 by unfold wrap64; omega]
  by_cases ha : a = 0
  · refine Ev.pos ha (Ev.step (fun _ => cmp_Or_int.l0.eq_2 ..) (Ev.pos (by simp) (Ev.pos (by decide) (Ev.pos (by simp) ?_))))
    rw [show rd [a, b] 1 = b from rfl, show wrap64 (1 + 1) = 2 by unfold wrap64; omega, if_pos ha]
    by_cases hb : b = 0
    · refine Ev.pos hb (Ev.step (fun _ => cmp_Or_int.l0.eq_2 ..) (Ev.neg (by simp) ?_))
      rw [hb]
      exact Ev.now _
    · exact Ev.neg hb (Ev.now _)
  · rw [if_neg ha]
    exact Ev.neg ha (Ev.now _)
theorem isAcl_j3 {xs : List S116} (hx : xs.length ≤ 1048576) {i : Int} (h0 : 0 ≤ i) (hi : i < (xs.length : Int)) (a b c : Int) {r : Bool} {l : List S116} (he : entryM ⟨a, b, c⟩ = true) (hr : aclFrom (some ⟨a, b, c⟩) l = r) (h : Ev (fun k => impl_IsAcl.l0 k xs xs (xs.length : Int) (i + 1)) r) :
    Ev (fun k => impl_IsAcl.j3 k xs i xs (xs.length : Int) i a b c) (aclFrom (leftOf xs i) (⟨a, b, c⟩ :: l)) := by
  refine Ev.step (fun _ => impl_IsAcl.j3.eq_2 ..) ?_
  rw [w64 (n := i + 1) (by omega) (by omega), w64 (n := i - 1) (by omega) (by omega)]
  by_cases c2 : i > 0
  · rw [show leftOf xs i = some (rd_T116 xs (i - 1)) by unfold leftOf; rw [if_pos c2], aclFrom, he, Bool.true_and, hr]
    generalize rd_T116 xs (i - 1) = y at *
    refine Ev.pos c2 (Ev.pos (by omega) (Ev.pos (by omega) (Ev.bind0 (cmp_impl _ _) (Ev.bind0 (cmp_impl _ _) (Ev.bind (cmpOr_impl _ _) ?_)))))
    by_cases hc : y.f0 < a ∨ y.f0 = a ∧ y.f1 < b
    · rw [show riseM y ⟨a, b, c⟩ = true by unfold riseM; exact decide_eq_true hc, Bool.true_and]
      refine Ev.neg ?_ h
      repeat' split
      all_goals omega
    · rw [show riseM y ⟨a, b, c⟩ = false by unfold riseM; exact decide_eq_false hc, Bool.false_and]
      refine Ev.pos ?_ (Ev.now _)
      repeat' split
      all_goals omega
  · rw [show leftOf xs i = none by unfold leftOf; rw [if_neg c2], aclFrom, he, Bool.true_and, hr]
    exact Ev.neg c2 h
theorem isAcl_impl_l (xs : List S116) (hx : xs.length ≤ 1048576) (l : List S116) : ∀ (i : Int), 0 ≤ i → i ≤ (xs.length : Int) → xs.drop i.toNat = l →
    Ev (fun k => impl_IsAcl.l0 k xs xs (xs.length : Int) i) (aclFrom (leftOf xs i) l) := by
  induction l with
  | nil =>
    intro i h0 hi h
    have h1 := ldrop_nil h0 h
    have hi' : i = (xs.length : Int) := by omega
    subst hi'
    refine Ev.step (fun _ => impl_IsAcl.l0.eq_2 ..) (Ev.neg (by omega) ?_)
    by_cases hz : (xs.length : Int) = 0
    · refine Ev.pos hz ?_
      rw [show leftOf xs (xs.length : Int) = none by unfold leftOf; rw [if_neg (by omega)], aclFrom]
      exact Ev.now _
    · refine Ev.neg hz ?_
      rw [show leftOf xs (xs.length : Int) = some (rd_T116 xs ((xs.length : Int) - 1)) by unfold leftOf; rw [if_pos (by omega)], aclFrom, w64 (by omega) (by omega)]
      exact Ev.pos (by omega) (Ev.pos (by omega) (Ev.now _))
  | cons x l ih =>
    intro i h0 hi h
    obtain ⟨p, q, c, e⟩ := ldrop_cons z116 h0 h
    have hx' : rd_T116 xs i = x := q
    have := ih (i + 1) (by omega) (by omega) c
    rw [show leftOf xs (i + 1) = some x by unfold leftOf; rw [if_pos (by omega), show i + 1 - 1 = i by omega, hx']] at this
    have bad : entryM x = false → aclFrom (leftOf xs i) (x :: l) = false := by
      intro c1'
      cases leftOf xs i <;> simp [aclFrom, c1']
    refine Ev.step (fun _ => impl_IsAcl.l0.eq_2 ..) (Ev.pos p (Ev.pos h0 (Ev.pos p ?_)))
    rw [hx']
    obtain ⟨a, b, d⟩ := x
    simp only
    have j1no : Ev (fun k => impl_IsAcl.j1 k xs i xs (xs.length : Int) i true a b d) false := Ev.step (fun _ => impl_IsAcl.j1.eq_2 ..) (Ev.pos rfl (Ev.now _))
    by_cases d1 : d < 0
    · rw [bad (by unfold entryM; apply decide_eq_false; simp only; omega)]
      exact Ev.pos d1 j1no
    · refine Ev.neg d1 ?_
      by_cases d2 : d > 7
      · rw [bad (by unfold entryM; apply decide_eq_false; simp only; omega), show decide (d > 7) = true by simpa using d2]
        exact j1no
      · rw [show decide (d > 7) = false by simpa using d2]
        refine Ev.step (fun _ => impl_IsAcl.j1.eq_2 ..) (Ev.neg (by simp) ?_)
        have j2 : ∀ t : Bool, t = decide (a = 1 ∨ a = 2) → Ev (fun k => impl_IsAcl.j2 k xs i xs (xs.length : Int) i a t a b d) (aclFrom (leftOf xs i) (⟨a, b, d⟩ :: l)) := by
          intro t ht
          refine Ev.step (fun _ => impl_IsAcl.j2.eq_2 ..) ?_
          by_cases h12 : a = 1 ∨ a = 2
          · refine Ev.pos (by rw [ht]; exact decide_eq_true h12) (Ev.bind0 (isUser_impl b) ?_)
            by_cases hb : 0 ≤ b ∧ b ≤ 3
            · exact Ev.pos (by simpa using hb) (isAcl_j3 hx h0 p a b d (by unfold entryM; apply decide_eq_true; simp only; omega) rfl this)
            · rw [bad (by unfold entryM; apply decide_eq_false; simp only; omega)]
              exact Ev.neg (by simpa using hb) (Ev.now _)
          · refine Ev.neg (by rw [ht]; simpa using h12) ?_
            by_cases h3 : a = 3
            · refine Ev.pos h3 ?_
              by_cases hb : b = 0
              · exact Ev.pos hb (isAcl_j3 hx h0 p a b d (by unfold entryM; apply decide_eq_true; simp only; omega) rfl this)
              · rw [bad (by unfold entryM; apply decide_eq_false; simp only; omega)]
                exact Ev.neg hb (Ev.now _)
            · rw [bad (by unfold entryM; apply decide_eq_false; simp only; omega)]
              exact Ev.neg h3 (Ev.now _)
        by_cases h1 : a = 1
        · exact Ev.pos h1 (j2 _ (by simp [h1]))
        · exact Ev.neg h1 (j2 _ (by simp [h1]; rfl))
theorem isAcl_spec (xs : List S116) (hx : xs.length ≤ 1048576) : Ev (fun k => spec_IsAcl.f k xs) (isAclM xs) := by
  have := isAcl_spec_l xs hx xs 0 (by omega) (by omega) rfl
  unfold isAclM
  rw [Bool.and_comm]
  exact this
theorem isAcl_impl (xs : List S116) (hx : xs.length ≤ 1048576) : Ev (fun k => impl_IsAcl.f k xs) (isAclM xs) := by
  unfold impl_IsAcl.f isAclM
  by_cases h : (xs.length : Int) > 6
  · rw [show decide (xs.length ≤ 6) = false by simp only [decide_eq_false_iff_not]; omega, Bool.false_and]
    exact Ev.pos h (Ev.now _)
  · rw [show decide (xs.length ≤ 6) = true by simp only [decide_eq_true_eq]; omega, Bool.true_and]
    exact Ev.neg h (isAcl_impl_l xs hx xs 0 (by omega) (by omega) rfl)

def aclSmall (xs : List S116) : Prop := ∀ x, x ∈ xs → x.f0 ≤ 9223372036854775807 ∧ x.f1 ≤ 9223372036854775807 ∧ x.f2 ≤ 9223372036854775807
theorem pack_both (xs : List S116) (hx : xs.length ≤ 6) (hb : aclSmall xs) (l : List S116) : ∀ (i : Int) (s : ByteArray), 0 ≤ i → i ≤ (xs.length : Int) → xs.drop i.toNat = l → (s.size : Int) ≤ 6 + i * 18 →
    ∃ r m, Ev (fun k => spec_PackAcl.l0 k s xs (xs.length : Int) i) r ∧ Ev (fun k => impl_PackAcl.l0 k s xs (xs.length : Int) i) r ∧ bytesOf r = bytesOf s ++ m ∧ r.size ≤ 200 := by
  induction l with
  | nil =>
    intro i s h0 hi h hs
    have := ldrop_nil h0 h
    obtain ⟨r, m, p1, p2, p3, p4⟩ := padTo_front s 19 (by omega) (by omega)
    exact ⟨r, m, Ev.step (fun _ => spec_PackAcl.l0.eq_2 ..) (Ev.neg (by omega) (Ev.bind p1 (Ev.now _))), Ev.step (fun _ => impl_PackAcl.l0.eq_2 ..) (Ev.neg (by omega) (Ev.bind0 p2 (Ev.now _))), p3, by omega⟩
  | cons x l ih =>
    intro i s h0 hi h hs
    obtain ⟨a, b, c, e⟩ := ldrop_cons z116 h0 h
    have hr : rd_T116 xs i = x := b
    obtain ⟨b1, b2, b3⟩ := hb x (by
      have : x ∈ xs.drop i.toNat := by rw [h]; exact List.mem_cons_self ..
      exact List.mem_of_mem_drop this)
    have z1 := putNumber_size x.f0 1
    have z2 := putNumber_size x.f1 1
    have z3 := putNumber_size x.f2 1
    have a1 := ba_size_append s (putNumber x.f0 1)
    have a2 := ba_size_append (s ++ putNumber x.f0 1) (putNumber x.f1 1)
    have a3 := ba_size_append (s ++ putNumber x.f0 1 ++ putNumber x.f1 1) (putNumber x.f2 1)
    have a4 := ba_size_append (putNumber x.f0 1) (putNumber x.f1 1)
    have a5 := ba_size_append (putNumber x.f0 1 ++ putNumber x.f1 1) (putNumber x.f2 1)
    obtain ⟨r, m, p1, p2, p3, p4⟩ := ih (i + 1) (s ++ putNumber x.f0 1 ++ putNumber x.f1 1 ++ putNumber x.f2 1) (by omega) (by omega) c (by omega)
    refine ⟨r, _, Ev.step (fun _ => spec_PackAcl.l0.eq_2 ..) (Ev.pos a (Ev.pos h0 (Ev.pos a ?_))), Ev.step (fun _ => impl_PackAcl.l0.eq_2 ..) (Ev.pos a (Ev.pos h0 (Ev.pos a ?_))), p3.trans (by rw [bytesOf_append, bytesOf_append, bytesOf_append, List.append_assoc, List.append_assoc, List.append_assoc]), p4⟩
    · rw [hr, w64 (n := i + 1) (by omega) (by omega)]
      exact Ev.bind (putNumber_spec x.f0 1 b1) (Ev.pos (by omega) (Ev.bind (putNumber_spec x.f1 1 b2) (Ev.pos (by omega) (Ev.bind (putNumber_spec x.f2 1 b3) (Ev.pos (by omega) p1)))))
    · rw [hr, w64 (n := i + 1) (by omega) (by omega)]
      rw [show s ++ putNumber x.f0 1 ++ putNumber x.f1 1 ++ putNumber x.f2 1 = s ++ (putNumber x.f0 1 ++ putNumber x.f1 1 ++ putNumber x.f2 1) by simp only [ByteArray.append_assoc]] at p2
      exact Ev.bind (putNumber_impl x.f0 1 b1) (Ev.bind (putNumber_impl x.f1 1 b2) (Ev.pos (by omega) (Ev.bind (putNumber_impl x.f2 1 b3) (Ev.pos (by omega) (Ev.pos (by omega) p2)))))
theorem packAcl_front (xs : List S116) (hx : xs.length ≤ 1048576) (hb : aclSmall xs) : ∃ r, Ev (fun k => spec_PackAcl.f k xs) r ∧ Ev (fun k => impl_PackAcl.f k xs) r ∧ (r = ⟨#[]⟩ ∨ ∃ m, bytesOf r = bytesOf (putNumber (xs.length : Int) 1) ++ m) ∧ r.size ≤ 200 := by
  unfold spec_PackAcl.f impl_PackAcl.f
  have h1 := isAcl_spec xs hx
  have h2 := isAcl_impl xs hx
  cases ho : isAclM xs with
  | false =>
    rw [ho] at h1 h2
    exact ⟨_, Ev.bind h1 (Ev.neg (by decide) (Ev.now _)), Ev.bind h2 (Ev.neg (by decide) (Ev.now _)), Or.inl rfl, by decide⟩
  | true =>
    rw [ho] at h1 h2
    have h6 : xs.length ≤ 6 := by
      unfold isAclM at ho
      rw [Bool.and_eq_true] at ho
      exact of_decide_eq_true ho.1
    have z := putNumber_size (xs.length : Int) 1
    obtain ⟨r, m, p1, p2, p3, p4⟩ := pack_both xs h6 hb xs 0 (putNumber (xs.length : Int) 1) (by omega) (by omega) rfl (by omega)
    exact ⟨r, Ev.bind h1 (Ev.pos rfl (Ev.bind (putNumber_spec _ 1 (by omega)) p1)), Ev.bind h2 (Ev.pos rfl (Ev.bind (putNumber_impl _ 1 (by omega)) p2)), Or.inr ⟨m, p3⟩, p4⟩
theorem packAcl_both (xs : List S116) (hx : xs.length ≤ 1048576) (hb : aclSmall xs) : ∃ r, Ev (fun k => spec_PackAcl.f k xs) r ∧ Ev (fun k => impl_PackAcl.f k xs) r := by
  obtain ⟨r, h1, h2, _⟩ := packAcl_front xs hx hb
  exact ⟨r, h1, h2⟩

theorem l06Mode_spec (a : Int) : spec_l06Mode.f a = some (decide (0 ≤ a ∧ a ≤ 2047)) := by
  unfold spec_l06Mode.f
  rw [l01In_spec]
  rfl

theorem l06User_spec (a : Int) : spec_l06User.f a = some (decide (0 ≤ a ∧ a ≤ 3)) := by
  unfold spec_l06User.f
  rw [l01In_spec]
  rfl

theorem isMode_impl (a : Int) : impl_isMode.f a = some (decide (0 ≤ a ∧ a ≤ 2047)) := by
  unfold impl_isMode.f
  by_cases h : a ≥ 0
  · rw [if_pos h]
    simp [show 0 ≤ a from h]
  · rw [if_neg h]
    simp [show ¬ 0 ≤ a from h]

theorem spec_l02Same_l (a b : List Int) (ha : a.length ≤ 1048576) (hab : a.length = b.length) (l : List Int) : ∀ (i : Int) (m : List Int), 0 ≤ i → a.drop i.toNat = l → b.drop i.toNat = m → Ev (fun k => spec_l02Same.l0 k b a (a.length : Int) i) (allEq intEq l m) := by
  induction l with
  | nil =>
    intro i m h0 h h'
    have h1 := ldrop_nil h0 h
    have hm : m = [] := by rw [← h']; exact List.drop_eq_nil_of_le (by omega)
    rw [hm]
    exact Ev.step (fun _ => spec_l02Same.l0.eq_2 ..) (Ev.neg (by omega) (Ev.now _))
  | cons x l ih =>
    intro i m h0 h h'
    obtain ⟨p, q, c, e⟩ := ldrop_cons (0 : Int) h0 h
    cases m with
    | nil =>
      have := ldrop_nil h0 h'
      omega
    | cons y m =>
      obtain ⟨p', q', c', e'⟩ := ldrop_cons (0 : Int) h0 h'
      have this := ih (i + 1) m (by omega) c c'
      have hq : rd a i = x := q
      have hq' : rd b i = y := q'
      refine Ev.step (fun _ => spec_l02Same.l0.eq_2 ..) (Ev.pos p (Ev.pos h0 (Ev.pos p (Ev.pos p' ?_))))
      rw [hq, hq', w64 (n := i + 1) (by omega) (by omega), allEq]
      by_cases hxy : x = y
      · rw [show intEq x y = true from decide_eq_true hxy, Bool.true_and]
        exact Ev.pos hxy this
      · rw [show intEq x y = false from decide_eq_false hxy, Bool.false_and]
        exact Ev.neg hxy (Ev.now _)
theorem spec_l02Same_f (a b : List Int) (ha : a.length ≤ 1048576) : Ev (fun k => spec_l02Same.f k a b) (allEq intEq a b) := by
  unfold spec_l02Same.f
  by_cases h : (a.length : Int) = (b.length : Int)
  · exact Ev.pos h (spec_l02Same_l a b ha (by omega) a 0 b (by omega) rfl rfl)
  · rw [allEq_len a b (by omega)]
    exact Ev.neg h (Ev.now _)

def aclEq (x y : S116) : Bool := decide (x.f0 = y.f0 ∧ x.f1 = y.f1 ∧ x.f2 = y.f2)
theorem aclEq_refl (x : S116) : aclEq x x = true := decide_eq_true ⟨rfl, rfl, rfl⟩
theorem aclEq_cond (x y : S116) : ((!(x.f0 == y.f0) || (!(x.f1 == y.f1) || !(x.f2 == y.f2))) = true) ↔ ¬ (aclEq x y = true) := by
  unfold aclEq
  simp only [Bool.or_eq_true, Bool.not_eq_true', beq_eq_false_iff_ne, decide_eq_true_eq, ne_eq]
  omega

theorem spec_l05Same_l (a b : List S116) (ha : a.length ≤ 1048576) (hab : a.length = b.length) (l : List S116) : ∀ (i : Int) (m : List S116), 0 ≤ i → a.drop i.toNat = l → b.drop i.toNat = m → Ev (fun k => spec_l05Same.l0 k b a (a.length : Int) i) (allEq aclEq l m) := by
  induction l with
  | nil =>
    intro i m h0 h h'
    have h1 := ldrop_nil h0 h
    have hm : m = [] := by rw [← h']; exact List.drop_eq_nil_of_le (by omega)
    rw [hm]
    exact Ev.step (fun _ => spec_l05Same.l0.eq_2 ..) (Ev.neg (by omega) (Ev.now _))
  | cons x l ih =>
    intro i m h0 h h'
    obtain ⟨p, q, c, e⟩ := ldrop_cons z116 h0 h
    cases m with
    | nil =>
      have := ldrop_nil h0 h'
      omega
    | cons y m =>
      obtain ⟨p', q', c', e'⟩ := ldrop_cons z116 h0 h'
      have this := ih (i + 1) m (by omega) c c'
      have hq : rd_T116 a i = x := q
      have hq' : rd_T116 b i = y := q'
      refine Ev.step (fun _ => spec_l05Same.l0.eq_2 ..) (Ev.pos p (Ev.pos h0 (Ev.pos p (Ev.pos p' ?_))))
      rw [hq, hq', w64 (n := i + 1) (by omega) (by omega), allEq]
      by_cases hxy : aclEq x y = true
      · rw [hxy, Bool.true_and]
        exact Ev.neg (fun h => (aclEq_cond x y).1 h hxy) this
      · rw [show aclEq x y = false by simpa using hxy, Bool.false_and]
        exact Ev.pos ((aclEq_cond x y).2 hxy) (Ev.now _)
theorem spec_l05Same_f (a b : List S116) (ha : a.length ≤ 1048576) : Ev (fun k => spec_l05Same.f k a b) (allEq aclEq a b) := by
  unfold spec_l05Same.f
  by_cases h : (a.length : Int) = (b.length : Int)
  · exact Ev.pos h (spec_l05Same_l a b ha (by omega) a 0 b (by omega) rfl rfl)
  · rw [allEq_len a b (by omega)]
    exact Ev.neg h (Ev.now _)

theorem slices_Equal_int_int_l (a b : List Int) (ha : a.length ≤ 1048576) (hab : a.length = b.length) (l : List Int) : ∀ (i : Int) (m : List Int), 0 ≤ i → a.drop i.toNat = l → b.drop i.toNat = m → Ev (fun k => slices_Equal_int_int.l0 k a b (a.length : Int) i) (allEq intEq l m) := by
  induction l with
  | nil =>
    intro i m h0 h h'
    have h1 := ldrop_nil h0 h
    have hm : m = [] := by rw [← h']; exact List.drop_eq_nil_of_le (by omega)
    rw [hm]
    exact Ev.step (fun _ => slices_Equal_int_int.l0.eq_2 ..) (Ev.neg (by omega) (Ev.now _))
  | cons x l ih =>
    intro i m h0 h h'
    obtain ⟨p, q, c, e⟩ := ldrop_cons (0 : Int) h0 h
    cases m with
    | nil =>
      have := ldrop_nil h0 h'
      omega
    | cons y m =>
      obtain ⟨p', q', c', e'⟩ := ldrop_cons (0 : Int) h0 h'
      have this := ih (i + 1) m (by omega) c c'
      have hq : rd a i = x := q
      have hq' : rd b i = y := q'
      refine Ev.step (fun _ => slices_Equal_int_int.l0.eq_2 ..) (Ev.pos p (Ev.pos h0 (Ev.pos p (Ev.pos p' ?_))))
      rw [hq, hq', w64 (n := i + 1) (by omega) (by omega), allEq]
      by_cases hxy : x = y
      · rw [show intEq x y = true from decide_eq_true hxy, Bool.true_and]
        exact Ev.pos hxy this
      · rw [show intEq x y = false from decide_eq_false hxy, Bool.false_and]
        exact Ev.neg hxy (Ev.now _)
theorem slices_Equal_int_int_f (a b : List Int) (ha : a.length ≤ 1048576) : Ev (fun k => slices_Equal_int_int.f k a b) (allEq intEq a b) := by
  unfold slices_Equal_int_int.f
  by_cases h : (a.length : Int) = (b.length : Int)
  · exact Ev.pos h (slices_Equal_int_int_l a b ha (by omega) a 0 b (by omega) rfl rfl)
  · rw [allEq_len a b (by omega)]
    exact Ev.neg h (Ev.now _)

theorem impl_AclEntry_l (a b : List S116) (ha : a.length ≤ 1048576) (hab : a.length = b.length) (l : List S116) : ∀ (i : Int) (m : List S116), 0 ≤ i → a.drop i.toNat = l → b.drop i.toNat = m → Ev (fun k => impl_AclEntry.l0 k a b (a.length : Int) i) (allEq aclEq l m) := by
  induction l with
  | nil =>
    intro i m h0 h h'
    have h1 := ldrop_nil h0 h
    have hm : m = [] := by rw [← h']; exact List.drop_eq_nil_of_le (by omega)
    rw [hm]
    exact Ev.step (fun _ => impl_AclEntry.l0.eq_2 ..) (Ev.neg (by omega) (Ev.now _))
  | cons x l ih =>
    intro i m h0 h h'
    obtain ⟨p, q, c, e⟩ := ldrop_cons z116 h0 h
    cases m with
    | nil =>
      have := ldrop_nil h0 h'
      omega
    | cons y m =>
      obtain ⟨p', q', c', e'⟩ := ldrop_cons z116 h0 h'
      have this := ih (i + 1) m (by omega) c c'
      have hq : rd_T116 a i = x := q
      have hq' : rd_T116 b i = y := q'
      refine Ev.step (fun _ => impl_AclEntry.l0.eq_2 ..) (Ev.pos p (Ev.pos h0 (Ev.pos p (Ev.pos p' ?_))))
      rw [hq, hq', w64 (n := i + 1) (by omega) (by omega), allEq]
      by_cases hxy : aclEq x y = true
      · rw [hxy, Bool.true_and]
        exact Ev.neg (fun h => (aclEq_cond x y).1 h hxy) this
      · rw [show aclEq x y = false by simpa using hxy, Bool.false_and]
        exact Ev.pos ((aclEq_cond x y).2 hxy) (Ev.now _)
theorem impl_AclEntry_f (a b : List S116) (ha : a.length ≤ 1048576) : Ev (fun k => impl_AclEntry.f k a b) (allEq aclEq a b) := by
  unfold impl_AclEntry.f
  by_cases h : (a.length : Int) = (b.length : Int)
  · exact Ev.pos h (impl_AclEntry_l a b ha (by omega) a 0 b (by omega) rfl rfl)
  · rw [allEq_len a b (by omega)]
    exact Ev.neg h (Ev.now _)

def sameInodeM (a0 a1 a2 a3 a4 a5 a6 : Int) (b : List Int) (c d : List S116) (x0 x1 x2 x3 x4 x5 x6 : Int) (y : List Int) (z w : List S116) : Bool :=
  if a0 = x0 ∧ a1 = x1 ∧ a2 = x2 ∧ a3 = x3 ∧ a4 = x4 ∧ a5 = x5 ∧ a6 = x6 then (if allEq intEq b y = true then (if allEq aclEq c z = true then allEq aclEq d w else false) else false) else false
theorem sameInode_spec (a0 a1 a2 a3 a4 a5 a6 : Int) (b : List Int) (c d : List S116) (x0 x1 x2 x3 x4 x5 x6 : Int) (y : List Int) (z w : List S116) (hb : b.length ≤ 1048576) (hc : c.length ≤ 1048576) (hd : d.length ≤ 1048576) :
    Ev (fun k => spec_SameInode.f k a0 a1 a2 a3 a4 a5 a6 b c d x0 x1 x2 x3 x4 x5 x6 y z w) (sameInodeM a0 a1 a2 a3 a4 a5 a6 b c d x0 x1 x2 x3 x4 x5 x6 y z w) := by
  unfold spec_SameInode.f
  have j : ∀ t : Bool, t = !decide (a0 = x0 ∧ a1 = x1 ∧ a2 = x2 ∧ a3 = x3 ∧ a4 = x4 ∧ a5 = x5 ∧ a6 = x6) →
      Ev (fun k => spec_SameInode.j0 k t a0 a1 a2 a3 a4 a5 a6 b c d x0 x1 x2 x3 x4 x5 x6 y z w) (sameInodeM a0 a1 a2 a3 a4 a5 a6 b c d x0 x1 x2 x3 x4 x5 x6 y z w) := by
    intro t ht
    refine Ev.step (fun _ => spec_SameInode.j0.eq_2 ..) ?_
    unfold sameInodeM
    by_cases hall : a0 = x0 ∧ a1 = x1 ∧ a2 = x2 ∧ a3 = x3 ∧ a4 = x4 ∧ a5 = x5 ∧ a6 = x6
    · rw [if_pos hall]
      refine Ev.neg (by rw [ht, decide_eq_true hall]; decide) (Ev.bind (spec_l02Same_f b y hb) ?_)
      by_cases h1 : allEq intEq b y = true
      · rw [if_pos h1]
        refine Ev.pos h1 (Ev.bind (spec_l05Same_f c z hc) ?_)
        by_cases h2 : allEq aclEq c z = true
        · rw [if_pos h2]
          exact Ev.pos h2 (Ev.bind (spec_l05Same_f d w hd) (Ev.now _))
        · rw [if_neg h2]
          exact Ev.neg h2 (Ev.now _)
      · rw [if_neg h1]
        exact Ev.neg h1 (Ev.now _)
    · rw [if_neg hall]
      exact Ev.pos (by rw [ht, decide_eq_false hall]; decide) (Ev.now _)
  have no : ¬ (a0 = x0 ∧ a1 = x1 ∧ a2 = x2 ∧ a3 = x3 ∧ a4 = x4 ∧ a5 = x5 ∧ a6 = x6) → Ev (fun k => spec_SameInode.j0 k true a0 a1 a2 a3 a4 a5 a6 b c d x0 x1 x2 x3 x4 x5 x6 y z w) (sameInodeM a0 a1 a2 a3 a4 a5 a6 b c d x0 x1 x2 x3 x4 x5 x6 y z w) := fun h => j true (by rw [decide_eq_false h]; rfl)
  by_cases e0 : a0 = x0
  · refine Ev.pos e0 ?_
    by_cases e1 : a1 = x1
    · refine Ev.pos e1 ?_
      by_cases e2 : a2 = x2
      · refine Ev.pos e2 ?_
        by_cases e3 : a3 = x3
        · refine Ev.pos e3 ?_
          by_cases e4 : a4 = x4
          · refine Ev.pos e4 ?_
            by_cases e5 : a5 = x5
            · refine Ev.pos e5 (j _ ?_)
              by_cases e6 : a6 = x6
              · rw [decide_eq_true ⟨e0, e1, e2, e3, e4, e5, e6⟩]
                simp [e6]
              · rw [decide_eq_false (fun h => e6 h.2.2.2.2.2.2)]
                simp [e6]
            · exact Ev.neg e5 (no (fun h => e5 h.2.2.2.2.2.1))
          · exact Ev.neg e4 (no (fun h => e4 h.2.2.2.2.1))
        · exact Ev.neg e3 (no (fun h => e3 h.2.2.2.1))
      · exact Ev.neg e2 (no (fun h => e2 h.2.2.1))
    · exact Ev.neg e1 (no (fun h => e1 h.2.1))
  · exact Ev.neg e0 (no (fun h => e0 h.1))
theorem sameInode_impl (a0 a1 a2 a3 a4 a5 a6 : Int) (b : List Int) (c d : List S116) (x0 x1 x2 x3 x4 x5 x6 : Int) (y : List Int) (z w : List S116) (hb : b.length ≤ 1048576) (hc : c.length ≤ 1048576) (hd : d.length ≤ 1048576) :
    Ev (fun k => impl_SameInode.f k a0 a1 a2 a3 a4 a5 a6 b c d x0 x1 x2 x3 x4 x5 x6 y z w) (sameInodeM a0 a1 a2 a3 a4 a5 a6 b c d x0 x1 x2 x3 x4 x5 x6 y z w) := by
  unfold impl_SameInode.f sameInodeM
  by_cases hall : a0 = x0 ∧ a1 = x1 ∧ a2 = x2 ∧ a3 = x3 ∧ a4 = x4 ∧ a5 = x5 ∧ a6 = x6
  · rw [if_pos hall]
    obtain ⟨e0, e1, e2, e3, e4, e5, e6⟩ := hall
    refine Ev.pos e0 (Ev.pos e1 (Ev.pos e2 (Ev.pos e3 (Ev.pos e4 (Ev.pos e5 (Ev.pos e6 (Ev.bind (slices_Equal_int_int_f b y hb) ?_)))))))
    by_cases h1 : allEq intEq b y = true
    · rw [if_pos h1]
      refine Ev.pos h1 (Ev.bind (impl_AclEntry_f c z hc) ?_)
      by_cases h2 : allEq aclEq c z = true
      · rw [if_pos h2]
        exact Ev.pos h2 (Ev.bind (impl_AclEntry_f d w hd) (Ev.now _))
      · rw [if_neg h2]
        exact Ev.neg h2 (Ev.now _)
    · rw [if_neg h1]
      exact Ev.neg h1 (Ev.now _)
  · rw [if_neg hall]
    by_cases e0 : a0 = x0
    · refine Ev.pos e0 ?_
      by_cases e1 : a1 = x1
      · refine Ev.pos e1 ?_
        by_cases e2 : a2 = x2
        · refine Ev.pos e2 ?_
          by_cases e3 : a3 = x3
          · refine Ev.pos e3 ?_
            by_cases e4 : a4 = x4
            · refine Ev.pos e4 ?_
              by_cases e5 : a5 = x5
              · exact Ev.pos e5 (Ev.neg (fun e6 => hall ⟨e0, e1, e2, e3, e4, e5, e6⟩) (Ev.now _))
              · exact Ev.neg e5 (Ev.now _)
            · exact Ev.neg e4 (Ev.now _)
          · exact Ev.neg e3 (Ev.now _)
        · exact Ev.neg e2 (Ev.now _)
      · exact Ev.neg e1 (Ev.now _)
    · exact Ev.neg e0 (Ev.now _)

theorem l02Has_index (v : Int) (xs : List Int) (hx : xs.length ≤ 1048576) (l : List Int) : ∀ (i : Int), 0 ≤ i → xs.drop i.toNat = l →
    ∃ j, Ev (fun k => spec_l02Has.l0 k v xs (xs.length : Int) i) (decide (j ≥ 0)) ∧ Ev (fun k => slices_Index_int_int.l0 k xs v (xs.length : Int) i) j := by
  induction l with
  | nil =>
    intro i h0 h
    have := ldrop_nil h0 h
    exact ⟨-1, Ev.step (fun _ => spec_l02Has.l0.eq_2 ..) (Ev.neg (by omega) (Ev.now _)), Ev.step (fun _ => slices_Index_int_int.l0.eq_2 ..) (Ev.neg (by omega) (Ev.now _))⟩
  | cons x l ih =>
    intro i h0 h
    obtain ⟨p, q, c, e⟩ := ldrop_cons (0 : Int) h0 h
    obtain ⟨j, h1, h2⟩ := ih (i + 1) (by omega) c
    by_cases c1 : rd xs i = v
    · refine ⟨i, Ev.step (fun _ => spec_l02Has.l0.eq_2 ..) ?_, Ev.step (fun _ => slices_Index_int_int.l0.eq_2 ..) ?_⟩
      · rw [show decide (i ≥ 0) = true by simpa using h0]
        (repeat' (first | exact Ev.now _ | refine Ev.pos (by first | assumption | omega) ?_ | refine Ev.neg (by first | assumption | omega) ?_))
      · (repeat' (first | exact Ev.now _ | refine Ev.pos (by first | assumption | omega) ?_ | refine Ev.neg (by first | assumption | omega) ?_))
    · refine ⟨j, Ev.step (fun _ => spec_l02Has.l0.eq_2 ..) ?_, Ev.step (fun _ => slices_Index_int_int.l0.eq_2 ..) ?_⟩
      · simp (disch := omega) only [w64]
        (repeat' (first | exact Ev.now _ | exact h1 | refine Ev.pos (by first | assumption | omega) ?_ | refine Ev.neg (by first | assumption | omega) ?_))
      · simp (disch := omega) only [w64]
        (repeat' (first | exact Ev.now _ | exact h2 | refine Ev.pos (by first | assumption | omega) ?_ | refine Ev.neg (by first | assumption | omega) ?_))

theorem l02Has_both (v : Int) (xs : List Int) (hx : xs.length ≤ 1048576) : ∃ r, Ev (fun k => spec_l02Has.f k xs v) r ∧ Ev (fun k => slices_Contains_int_int.f k xs v) r := by
  obtain ⟨j, h1, h2⟩ := l02Has_index v xs hx xs 0 (by omega) rfl
  refine ⟨decide (j ≥ 0), h1, ?_⟩
  unfold slices_Contains_int_int.f
  exact Ev.bind (g := fun k => slices_Index_int_int.f k xs v) h2 (Ev.now _)

theorem isInode_loop (a0 a1 a2 a3 a4 a5 a6 : Int) (b : List Int) (c d : List S116) (hb : b.length ≤ 1048576) (l : List Int) : ∀ i : Int, 0 ≤ i → b.drop i.toNat = l →
    ∃ B : Bool, (∀ ts, Ev (fun k => (if a0 = 1 then (if (d.length : Int) > 0 then (spec_IsInode.j2 k true a0 a1 a2 a3 a4 a5 a6 b c d) else (spec_IsInode.j2 k ((Go.bits .and .i64 a1 512) != 0) a0 a1 a2 a3 a4 a5 a6 b c d)) else (spec_IsInode.j2 k false a0 a1 a2 a3 a4 a5 a6 b c d))) ts → Ev (fun k => spec_IsInode.l0 k b (b.length : Int) i a0 a1 a2 a3 a4 a5 a6 b c d) (B && ts)) ∧
      (∀ ti, Ev (fun k => (if a0 = 2 then (some true) else (if (d.length : Int) = 0 then (some ((Go.bits .and .i64 a1 512) == 0)) else (some false)))) ti → Ev (fun k => impl_IsInode.l0 k b (b.length : Int) i a0 a1 a2 a3 a4 a5 a6 b c d) (B && ti)) := by
  induction l with
  | nil =>
    intro i h0 h
    have := ldrop_nil h0 h
    exact ⟨true, fun ts ht => Ev.step (fun _ => spec_IsInode.l0.eq_2 ..) (Ev.neg (by omega) ht), fun ti ht => Ev.step (fun _ => impl_IsInode.l0.eq_2 ..) (Ev.neg (by omega) ht)⟩
  | cons x l ih =>
    intro i h0 h
    obtain ⟨p, q, r, e⟩ := ldrop_cons (0 : Int) h0 h
    have hr : rd b i = x := q
    obtain ⟨B, i1, i2⟩ := ih (i + 1) (by omega) r
    by_cases hx1 : x = -1
    · refine ⟨B, fun ts ht => Ev.step (fun _ => spec_IsInode.l0.eq_2 ..) (Ev.pos p (Ev.pos h0 (Ev.pos p ?_))), fun ti ht => Ev.step (fun _ => impl_IsInode.l0.eq_2 ..) (Ev.pos p (Ev.pos h0 (Ev.pos p ?_)))⟩
      · rw [hr, w64 (n := i + 1) (by omega) (by omega)]
        exact Ev.bind0 (l01In_spec x (-1) 999) (Ev.pos (by simp only [decide_eq_true_eq]; omega) (Ev.pos hx1 (i1 ts ht)))
      · rw [hr, w64 (n := i + 1) (by omega) (by omega)]
        exact Ev.pos hx1 (i2 ti ht)
    · by_cases hx2 : 0 ≤ x ∧ x ≤ 999
      · obtain ⟨t, g1, g2⟩ := l02Has_both x (b.take i.toNat) (by rw [List.length_take]; omega)
        cases t with
        | true =>
          refine ⟨false, fun ts ht => Ev.step (fun _ => spec_IsInode.l0.eq_2 ..) (Ev.pos p (Ev.pos h0 (Ev.pos p ?_))), fun ti ht => Ev.step (fun _ => impl_IsInode.l0.eq_2 ..) (Ev.pos p (Ev.pos h0 (Ev.pos p ?_)))⟩
          · rw [hr]
            exact Ev.bind0 (l01In_spec x (-1) 999) (Ev.pos (by simp only [decide_eq_true_eq]; omega) (Ev.neg hx1 (Ev.pos (by omega) (Ev.bind g1 (Ev.pos rfl (Ev.now _))))))
          · rw [hr]
            exact Ev.neg hx1 (Ev.neg (by omega) (Ev.neg (by omega) (Ev.pos (by omega) (Ev.bind g2 (Ev.pos rfl (Ev.now _))))))
        | false =>
          refine ⟨B, fun ts ht => Ev.step (fun _ => spec_IsInode.l0.eq_2 ..) (Ev.pos p (Ev.pos h0 (Ev.pos p ?_))), fun ti ht => Ev.step (fun _ => impl_IsInode.l0.eq_2 ..) (Ev.pos p (Ev.pos h0 (Ev.pos p ?_)))⟩
          · rw [hr, w64 (n := i + 1) (by omega) (by omega)]
            exact Ev.bind0 (l01In_spec x (-1) 999) (Ev.pos (by simp only [decide_eq_true_eq]; omega) (Ev.neg hx1 (Ev.pos (by omega) (Ev.bind g1 (Ev.neg (by decide) (i1 ts ht))))))
          · rw [hr, w64 (n := i + 1) (by omega) (by omega)]
            exact Ev.neg hx1 (Ev.neg (by omega) (Ev.neg (by omega) (Ev.pos (by omega) (Ev.bind g2 (Ev.neg (by decide) (i2 ti ht))))))
      · refine ⟨false, fun ts ht => Ev.step (fun _ => spec_IsInode.l0.eq_2 ..) (Ev.pos p (Ev.pos h0 (Ev.pos p ?_))), fun ti ht => Ev.step (fun _ => impl_IsInode.l0.eq_2 ..) (Ev.pos p (Ev.pos h0 (Ev.pos p ?_)))⟩
        · rw [hr]
          exact Ev.bind0 (l01In_spec x (-1) 999) (Ev.neg (by simp only [decide_eq_true_eq]; omega) (Ev.now _))
        · rw [hr]
          by_cases hx3 : x < 0
          · exact Ev.neg hx1 (Ev.pos hx3 (Ev.now _))
          · exact Ev.neg hx1 (Ev.neg hx3 (Ev.pos (by omega) (Ev.now _)))

def inodeS (k : Nat) (a0 a1 a2 a3 a4 a5 a6 : Int) (b : List Int) (c d : List S116) : Option Bool := (spec_l06Mode.f a1).bind fun t1 => (if t1 = true then ((spec_l06User.f a2).bind fun t2 => (if t2 = true then ((spec_l06User.f a3).bind fun t3 => (if t3 = true then ((spec_l01In.f a4 0 1000).bind fun t4 => (if t4 = true then ((spec_l01In.f a5 0 256).bind fun t5 => (if t5 = true then ((spec_l01In.f a6 0 1000000000).bind fun t6 => (if t6 = true then ((spec_BlocksNeeded.f a5).bind fun t7 => (spec_IsInode.j0 k ((b.length : Int) != t7) a0 a1 a2 a3 a4 a5 a6 b c d)) else (spec_IsInode.j0 k true a0 a1 a2 a3 a4 a5 a6 b c d))) else (spec_IsInode.j0 k true a0 a1 a2 a3 a4 a5 a6 b c d))) else (spec_IsInode.j0 k true a0 a1 a2 a3 a4 a5 a6 b c d))) else (spec_IsInode.j0 k true a0 a1 a2 a3 a4 a5 a6 b c d))) else (spec_IsInode.j0 k true a0 a1 a2 a3 a4 a5 a6 b c d))) else (spec_IsInode.j0 k true a0 a1 a2 a3 a4 a5 a6 b c d))

def needM (a : Int) : Int := if a ≤ 0 then 0 else wrap64 ((wrap64 (Int.tdiv (wrap64 (a - 1)) 32)) + 1)

theorem need_spec (a : Int) : spec_BlocksNeeded.f a = some (needM a) := by
  unfold spec_BlocksNeeded.f needM
  by_cases h : a ≤ 0
  · rw [if_pos h, if_pos h]
  · rw [if_neg h, if_neg h]
theorem need_impl (a : Int) : impl_BlocksNeeded.f a = some (needM a) := by
  unfold impl_BlocksNeeded.f needM
  by_cases h : a ≤ 0
  · rw [if_pos h, if_pos h]
  · rw [if_neg h, if_neg h]

theorem isInode_chain (a0 a1 a2 a3 a4 a5 a6 : Int) (b : List Int) (c d : List S116) (h12 : a0 = 1 ∨ a0 = 2) (hb : b.length ≤ 1048576) (hc : c.length ≤ 1048576) (hd : d.length ≤ 1048576) :
    ∃ r, Ev (fun k => inodeS k a0 a1 a2 a3 a4 a5 a6 b c d) r ∧ Ev (fun k => impl_IsInode.j0 k a0 a1 a2 a3 a4 a5 a6 b c d) r ∧ (r = true → isAclM c = true ∧ isAclM d = true ∧ b.length = (needM a5).toNat ∧ 0 ≤ a5 ∧ a5 ≤ 256 ∧ 0 ≤ needM a5) := by
  have no : Ev (fun k => spec_IsInode.j0 k true a0 a1 a2 a3 a4 a5 a6 b c d) false := Ev.step (fun _ => spec_IsInode.j0.eq_2 ..) (Ev.pos rfl (Ev.now _))
  have ni : Ev (fun k => impl_IsInode.j1 k true a0 a1 a2 a3 a4 a5 a6 b c d) false := Ev.step (fun _ => impl_IsInode.j1.eq_2 ..) (Ev.pos rfl (Ev.now _))
  have st : ∀ {r : Bool} {g : Nat → Option Bool}, (∀ k, impl_IsInode.j0 (k + 1) a0 a1 a2 a3 a4 a5 a6 b c d = g k) → Ev g r → Ev (fun k => impl_IsInode.j0 k a0 a1 a2 a3 a4 a5 a6 b c d) r := fun h h' => Ev.step h h'
  unfold inodeS
  by_cases h1 : 0 ≤ a1 ∧ a1 ≤ 2047
  rotate_left
  · exact ⟨false, Ev.bind0 (l06Mode_spec a1) (Ev.neg (by simp only [decide_eq_true_eq]; exact h1) no), st (fun _ => impl_IsInode.j0.eq_2 ..) (Ev.bind0 (isMode_impl a1) (Ev.neg (by simp only [decide_eq_true_eq]; exact h1) ni)), fun h => by cases h⟩
  by_cases h2 : 0 ≤ a2 ∧ a2 ≤ 3
  rotate_left
  · exact ⟨false, Ev.bind0 (l06Mode_spec a1) (Ev.pos (by simp only [decide_eq_true_eq]; exact h1) (Ev.bind0 (l06User_spec a2) (Ev.neg (by simp only [decide_eq_true_eq]; exact h2) no))), st (fun _ => impl_IsInode.j0.eq_2 ..) (Ev.bind0 (isMode_impl a1) (Ev.pos (by simp only [decide_eq_true_eq]; exact h1) (Ev.bind0 (isUser_impl a2) (Ev.neg (by simp only [decide_eq_true_eq]; exact h2) ni)))), fun h => by cases h⟩
  by_cases h3 : 0 ≤ a3 ∧ a3 ≤ 3
  rotate_left
  · exact ⟨false, Ev.bind0 (l06Mode_spec a1) (Ev.pos (by simp only [decide_eq_true_eq]; exact h1) (Ev.bind0 (l06User_spec a2) (Ev.pos (by simp only [decide_eq_true_eq]; exact h2) (Ev.bind0 (l06User_spec a3) (Ev.neg (by simp only [decide_eq_true_eq]; exact h3) no))))), st (fun _ => impl_IsInode.j0.eq_2 ..) (Ev.bind0 (isMode_impl a1) (Ev.pos (by simp only [decide_eq_true_eq]; exact h1) (Ev.bind0 (isUser_impl a2) (Ev.pos (by simp only [decide_eq_true_eq]; exact h2) (Ev.bind0 (isUser_impl a3) (Ev.neg (by simp only [decide_eq_true_eq]; exact h3) ni)))))), fun h => by cases h⟩
  by_cases h4 : 0 ≤ a4 ∧ a4 ≤ 1000
  rotate_left
  · by_cases g : a4 < 0
    · exact ⟨false, Ev.bind0 (l06Mode_spec a1) (Ev.pos (by simp only [decide_eq_true_eq]; exact h1) (Ev.bind0 (l06User_spec a2) (Ev.pos (by simp only [decide_eq_true_eq]; exact h2) (Ev.bind0 (l06User_spec a3) (Ev.pos (by simp only [decide_eq_true_eq]; exact h3) (Ev.bind0 (l01In_spec a4 0 1000) (Ev.neg (by simp only [decide_eq_true_eq]; exact h4) no))))))), st (fun _ => impl_IsInode.j0.eq_2 ..) (Ev.bind0 (isMode_impl a1) (Ev.pos (by simp only [decide_eq_true_eq]; exact h1) (Ev.bind0 (isUser_impl a2) (Ev.pos (by simp only [decide_eq_true_eq]; exact h2) (Ev.bind0 (isUser_impl a3) (Ev.pos (by simp only [decide_eq_true_eq]; exact h3) (Ev.pos g ni))))))), fun h => by cases h⟩
    · exact ⟨false, Ev.bind0 (l06Mode_spec a1) (Ev.pos (by simp only [decide_eq_true_eq]; exact h1) (Ev.bind0 (l06User_spec a2) (Ev.pos (by simp only [decide_eq_true_eq]; exact h2) (Ev.bind0 (l06User_spec a3) (Ev.pos (by simp only [decide_eq_true_eq]; exact h3) (Ev.bind0 (l01In_spec a4 0 1000) (Ev.neg (by simp only [decide_eq_true_eq]; exact h4) no))))))), st (fun _ => impl_IsInode.j0.eq_2 ..) (Ev.bind0 (isMode_impl a1) (Ev.pos (by simp only [decide_eq_true_eq]; exact h1) (Ev.bind0 (isUser_impl a2) (Ev.pos (by simp only [decide_eq_true_eq]; exact h2) (Ev.bind0 (isUser_impl a3) (Ev.pos (by simp only [decide_eq_true_eq]; exact h3) (Ev.neg g (Ev.pos (by omega) ni)))))))), fun h => by cases h⟩
  by_cases h5 : 0 ≤ a5 ∧ a5 ≤ 256
  rotate_left
  · by_cases g : a5 < 0
    · exact ⟨false, Ev.bind0 (l06Mode_spec a1) (Ev.pos (by simp only [decide_eq_true_eq]; exact h1) (Ev.bind0 (l06User_spec a2) (Ev.pos (by simp only [decide_eq_true_eq]; exact h2) (Ev.bind0 (l06User_spec a3) (Ev.pos (by simp only [decide_eq_true_eq]; exact h3) (Ev.bind0 (l01In_spec a4 0 1000) (Ev.pos (by simp only [decide_eq_true_eq]; exact h4) (Ev.bind0 (l01In_spec a5 0 256) (Ev.neg (by simp only [decide_eq_true_eq]; exact h5) no))))))))), st (fun _ => impl_IsInode.j0.eq_2 ..) (Ev.bind0 (isMode_impl a1) (Ev.pos (by simp only [decide_eq_true_eq]; exact h1) (Ev.bind0 (isUser_impl a2) (Ev.pos (by simp only [decide_eq_true_eq]; exact h2) (Ev.bind0 (isUser_impl a3) (Ev.pos (by simp only [decide_eq_true_eq]; exact h3) (Ev.neg (by omega) (Ev.neg (by omega) (Ev.pos g ni))))))))), fun h => by cases h⟩
    · exact ⟨false, Ev.bind0 (l06Mode_spec a1) (Ev.pos (by simp only [decide_eq_true_eq]; exact h1) (Ev.bind0 (l06User_spec a2) (Ev.pos (by simp only [decide_eq_true_eq]; exact h2) (Ev.bind0 (l06User_spec a3) (Ev.pos (by simp only [decide_eq_true_eq]; exact h3) (Ev.bind0 (l01In_spec a4 0 1000) (Ev.pos (by simp only [decide_eq_true_eq]; exact h4) (Ev.bind0 (l01In_spec a5 0 256) (Ev.neg (by simp only [decide_eq_true_eq]; exact h5) no))))))))), st (fun _ => impl_IsInode.j0.eq_2 ..) (Ev.bind0 (isMode_impl a1) (Ev.pos (by simp only [decide_eq_true_eq]; exact h1) (Ev.bind0 (isUser_impl a2) (Ev.pos (by simp only [decide_eq_true_eq]; exact h2) (Ev.bind0 (isUser_impl a3) (Ev.pos (by simp only [decide_eq_true_eq]; exact h3) (Ev.neg (by omega) (Ev.neg (by omega) (Ev.neg g (Ev.pos (by omega) ni)))))))))), fun h => by cases h⟩
  by_cases h6 : 0 ≤ a6 ∧ a6 ≤ 1000000000
  rotate_left
  · by_cases g : a6 < 0
    · exact ⟨false, Ev.bind0 (l06Mode_spec a1) (Ev.pos (by simp only [decide_eq_true_eq]; exact h1) (Ev.bind0 (l06User_spec a2) (Ev.pos (by simp only [decide_eq_true_eq]; exact h2) (Ev.bind0 (l06User_spec a3) (Ev.pos (by simp only [decide_eq_true_eq]; exact h3) (Ev.bind0 (l01In_spec a4 0 1000) (Ev.pos (by simp only [decide_eq_true_eq]; exact h4) (Ev.bind0 (l01In_spec a5 0 256) (Ev.pos (by simp only [decide_eq_true_eq]; exact h5) (Ev.bind0 (l01In_spec a6 0 1000000000) (Ev.neg (by simp only [decide_eq_true_eq]; exact h6) no))))))))))), st (fun _ => impl_IsInode.j0.eq_2 ..) (Ev.bind0 (isMode_impl a1) (Ev.pos (by simp only [decide_eq_true_eq]; exact h1) (Ev.bind0 (isUser_impl a2) (Ev.pos (by simp only [decide_eq_true_eq]; exact h2) (Ev.bind0 (isUser_impl a3) (Ev.pos (by simp only [decide_eq_true_eq]; exact h3) (Ev.neg (by omega) (Ev.neg (by omega) (Ev.neg (by omega) (Ev.neg (by omega) (Ev.pos g ni))))))))))), fun h => by cases h⟩
    · exact ⟨false, Ev.bind0 (l06Mode_spec a1) (Ev.pos (by simp only [decide_eq_true_eq]; exact h1) (Ev.bind0 (l06User_spec a2) (Ev.pos (by simp only [decide_eq_true_eq]; exact h2) (Ev.bind0 (l06User_spec a3) (Ev.pos (by simp only [decide_eq_true_eq]; exact h3) (Ev.bind0 (l01In_spec a4 0 1000) (Ev.pos (by simp only [decide_eq_true_eq]; exact h4) (Ev.bind0 (l01In_spec a5 0 256) (Ev.pos (by simp only [decide_eq_true_eq]; exact h5) (Ev.bind0 (l01In_spec a6 0 1000000000) (Ev.neg (by simp only [decide_eq_true_eq]; exact h6) no))))))))))), st (fun _ => impl_IsInode.j0.eq_2 ..) (Ev.bind0 (isMode_impl a1) (Ev.pos (by simp only [decide_eq_true_eq]; exact h1) (Ev.bind0 (isUser_impl a2) (Ev.pos (by simp only [decide_eq_true_eq]; exact h2) (Ev.bind0 (isUser_impl a3) (Ev.pos (by simp only [decide_eq_true_eq]; exact h3) (Ev.neg (by omega) (Ev.neg (by omega) (Ev.neg (by omega) (Ev.neg (by omega) (Ev.neg g (Ev.pos (by omega) ni)))))))))))), fun h => by cases h⟩
  by_cases h7 : (b.length : Int) = needM a5
  rotate_left
  · refine ⟨false, Ev.bind0 (l06Mode_spec a1) (Ev.pos (by simp only [decide_eq_true_eq]; exact h1) (Ev.bind0 (l06User_spec a2) (Ev.pos (by simp only [decide_eq_true_eq]; exact h2) (Ev.bind0 (l06User_spec a3) (Ev.pos (by simp only [decide_eq_true_eq]; exact h3) (Ev.bind0 (l01In_spec a4 0 1000) (Ev.pos (by simp only [decide_eq_true_eq]; exact h4) (Ev.bind0 (l01In_spec a5 0 256) (Ev.pos (by simp only [decide_eq_true_eq]; exact h5) (Ev.bind0 (l01In_spec a6 0 1000000000) (Ev.pos (by simp only [decide_eq_true_eq]; exact h6) (Ev.bind0 (need_spec a5) ?_)))))))))))), st (fun _ => impl_IsInode.j0.eq_2 ..) (Ev.bind0 (isMode_impl a1) (Ev.pos (by simp only [decide_eq_true_eq]; exact h1) (Ev.bind0 (isUser_impl a2) (Ev.pos (by simp only [decide_eq_true_eq]; exact h2) (Ev.bind0 (isUser_impl a3) (Ev.pos (by simp only [decide_eq_true_eq]; exact h3) (Ev.neg (by omega) (Ev.neg (by omega) (Ev.neg (by omega) (Ev.neg (by omega) (Ev.neg (by omega) (Ev.neg (by omega) (Ev.bind0 (need_impl a5) (Ev.neg h7 ni)))))))))))))), fun h => by cases h⟩
    rw [show ((b.length : Int) != needM a5) = true from bne_iff_ne.mpr h7]
    exact no
  · obtain ⟨B, l1, l2⟩ := isInode_loop a0 a1 a2 a3 a4 a5 a6 b c d hb b 0 (by omega) rfl
    have s1 := isAcl_spec c hc
    have s2 := isAcl_spec d hd
    have g1 := isAcl_impl c hc
    have g2 := isAcl_impl d hd
    have j2f : Ev (fun k => spec_IsInode.j2 k true a0 a1 a2 a3 a4 a5 a6 b c d) false := Ev.step (fun _ => spec_IsInode.j2.eq_2 ..) (Ev.pos rfl (Ev.now _))
    have j2t : Ev (fun k => spec_IsInode.j2 k false a0 a1 a2 a3 a4 a5 a6 b c d) (isAclM c && isAclM d) := by
      cases hcc : isAclM c with
      | true =>
        rw [hcc] at s1
        exact Ev.step (fun _ => spec_IsInode.j2.eq_2 ..) (Ev.neg (by decide) (Ev.bind s1 (Ev.pos rfl (Ev.bind s2 (Ev.now _)))))
      | false =>
        rw [hcc] at s1
        exact Ev.step (fun _ => spec_IsInode.j2.eq_2 ..) (Ev.neg (by decide) (Ev.bind s1 (Ev.neg (by decide) (Ev.now _))))
    have tl : ∃ D : Bool, Ev (fun k => (if a0 = 1 then (if (d.length : Int) > 0 then (spec_IsInode.j2 k true a0 a1 a2 a3 a4 a5 a6 b c d) else (spec_IsInode.j2 k ((Go.bits .and .i64 a1 512) != 0) a0 a1 a2 a3 a4 a5 a6 b c d)) else (spec_IsInode.j2 k false a0 a1 a2 a3 a4 a5 a6 b c d))) (D && (isAclM c && isAclM d)) ∧ Ev (fun k => (if a0 = 2 then (some true) else (if (d.length : Int) = 0 then (some ((Go.bits .and .i64 a1 512) == 0)) else (some false)))) D := by
      rcases h12 with h | h
      · by_cases hd0 : (d.length : Int) > 0
        · exact ⟨false, Ev.pos h (Ev.pos hd0 j2f), Ev.neg (by omega) (Ev.neg (by omega) (Ev.now _))⟩
        · cases hm : ((Go.bits .and .i64 a1 512) != 0) with
          | true =>
            refine ⟨false, Ev.pos h (Ev.neg hd0 j2f), Ev.neg (by omega) (Ev.pos (by omega) ?_)⟩
            rw [show ((Go.bits .and .i64 a1 512) == 0) = false by rw [bne_iff_ne] at hm; exact beq_eq_false_iff_ne.mpr hm]
            exact Ev.now _
          | false =>
            refine ⟨true, Ev.pos h (Ev.neg hd0 j2t), Ev.neg (by omega) (Ev.pos (by omega) ?_)⟩
            rw [show ((Go.bits .and .i64 a1 512) == 0) = true by rw [bne_eq_false_iff_eq] at hm; exact beq_iff_eq.mpr hm]
            exact Ev.now _
      · exact ⟨true, Ev.neg (by omega) j2t, Ev.pos h (Ev.now _)⟩
    obtain ⟨D, t1, t2⟩ := tl
    refine ⟨B && (D && (isAclM c && isAclM d)), Ev.bind0 (l06Mode_spec a1) (Ev.pos (by simp only [decide_eq_true_eq]; exact h1) (Ev.bind0 (l06User_spec a2) (Ev.pos (by simp only [decide_eq_true_eq]; exact h2) (Ev.bind0 (l06User_spec a3) (Ev.pos (by simp only [decide_eq_true_eq]; exact h3) (Ev.bind0 (l01In_spec a4 0 1000) (Ev.pos (by simp only [decide_eq_true_eq]; exact h4) (Ev.bind0 (l01In_spec a5 0 256) (Ev.pos (by simp only [decide_eq_true_eq]; exact h5) (Ev.bind0 (l01In_spec a6 0 1000000000) (Ev.pos (by simp only [decide_eq_true_eq]; exact h6) (Ev.bind0 (need_spec a5) ?_)))))))))))), st (fun _ => impl_IsInode.j0.eq_2 ..) (Ev.bind0 (isMode_impl a1) (Ev.pos (by simp only [decide_eq_true_eq]; exact h1) (Ev.bind0 (isUser_impl a2) (Ev.pos (by simp only [decide_eq_true_eq]; exact h2) (Ev.bind0 (isUser_impl a3) (Ev.pos (by simp only [decide_eq_true_eq]; exact h3) (Ev.neg (by omega) (Ev.neg (by omega) (Ev.neg (by omega) (Ev.neg (by omega) (Ev.neg (by omega) (Ev.neg (by omega) (Ev.bind0 (need_impl a5) (Ev.pos h7 ?_)))))))))))))), ?_⟩
    · rw [show ((b.length : Int) != needM a5) = false from bne_eq_false_iff_eq.mpr h7]
      exact Ev.step (fun _ => spec_IsInode.j0.eq_2 ..) (Ev.neg (by decide) (l1 _ t1))
    · have e : ∀ z : Bool, Ev (fun k => impl_IsInode.j1 k (!z) a0 a1 a2 a3 a4 a5 a6 b c d) (B && (D && z)) := by
        intro z
        cases z with
        | true =>
          rw [Bool.and_true]
          exact Ev.step (fun _ => impl_IsInode.j1.eq_2 ..) (Ev.neg (by decide) (l2 _ t2))
        | false =>
          rw [Bool.and_false, Bool.and_false]
          exact ni
      cases hcc : isAclM c with
      | true =>
        rw [hcc] at g1
        rw [Bool.true_and]
        exact Ev.bind g1 (Ev.pos rfl (Ev.bind g2 (e _)))
      | false =>
        rw [hcc] at g1
        rw [Bool.false_and]
        exact Ev.bind g1 (Ev.neg (by decide) (e false))
    · intro h
      simp only [Bool.and_eq_true] at h
      exact ⟨h.2.2.1, h.2.2.2, by omega, h5.1, h5.2, by omega⟩
theorem isInode_both (a0 a1 a2 a3 a4 a5 a6 : Int) (b : List Int) (c d : List S116) (hb : b.length ≤ 1048576) (hc : c.length ≤ 1048576) (hd : d.length ≤ 1048576) :
    ∃ r, Ev (fun k => spec_IsInode.f k a0 a1 a2 a3 a4 a5 a6 b c d) r ∧ Ev (fun k => impl_IsInode.f k a0 a1 a2 a3 a4 a5 a6 b c d) r := by
  unfold spec_IsInode.f impl_IsInode.f
  by_cases h0 : a0 = 0
  · exact ⟨_, Ev.pos h0 (Ev.bind (sameInode_spec a0 a1 a2 a3 a4 a5 a6 b c d 0 0 0 0 0 0 0 [] [] [] hb hc hd) (Ev.now _)), Ev.pos h0 (Ev.bind (sameInode_impl a0 a1 a2 a3 a4 a5 a6 b c d 0 0 0 0 0 0 0 [] [] [] hb hc hd) (Ev.now _))⟩
  · by_cases h1 : a0 = 1
    · obtain ⟨r, p, q, _⟩ := isInode_chain a0 a1 a2 a3 a4 a5 a6 b c d (Or.inl h1) hb hc hd
      exact ⟨r, Ev.neg h0 (Ev.pos h1 p), Ev.neg h0 (Ev.pos h1 q)⟩
    · by_cases h2 : a0 = 2
      · obtain ⟨r, p, q, _⟩ := isInode_chain a0 a1 a2 a3 a4 a5 a6 b c d (Or.inr h2) hb hc hd
        exact ⟨r, Ev.neg h0 (Ev.neg h1 (Ev.pos h2 p)), Ev.neg h0 (Ev.neg h1 (Ev.pos h2 q))⟩
      · have no : Ev (fun k => spec_IsInode.j0 k true a0 a1 a2 a3 a4 a5 a6 b c d) false := Ev.step (fun _ => spec_IsInode.j0.eq_2 ..) (Ev.pos rfl (Ev.now _))
        exact ⟨false, Ev.neg h0 (Ev.neg h1 (Ev.neg h2 no)), Ev.neg h0 (Ev.neg h1 (Ev.neg h2 (Ev.now _)))⟩

theorem wrap_le (z : Int) : wrap64 z ≤ 9223372036854775807 := by unfold wrap64; omega
theorem packInode_l (a0 a1 a2 a3 a4 a5 a6 : Int) (b : List Int) (c d : List S116) (hb : b.length ≤ 1048576) (hc : c.length ≤ 1048576) (hd : d.length ≤ 1048576) (hcs : aclSmall c) (hds : aclSmall d) (n : Nat) : ∀ (i : Int) (s : ByteArray), 0 ≤ i → i + n = 8 → (s.size : Int) ≤ 100 + 6 * i →
    ∃ r, Ev (fun k => spec_PackInode.l0 k s i a0 a1 a2 a3 a4 a5 a6 b c d) r ∧ Ev (fun k => impl_PackInode.l0 k s i a0 a1 a2 a3 a4 a5 a6 b c d) r := by
  induction n with
  | zero =>
    intro i s h0 hi hs
    obtain ⟨x, x1, x2, _, x4⟩ := packAcl_front c hc hcs
    obtain ⟨y, y1, y2, _, y4⟩ := packAcl_front d hd hds
    have z1 := ba_size_append s x
    have z2 := ba_size_append (s ++ x) y
    obtain ⟨r, p1, p2⟩ := padTo_both (s ++ x ++ y) 96 (by omega) (by omega)
    exact ⟨r, Ev.step (fun _ => spec_PackInode.l0.eq_2 ..) (Ev.neg (by omega) (Ev.bind x1 (Ev.pos (by omega) (Ev.bind y1 (Ev.pos (by omega) (Ev.bind p1 (Ev.now _))))))), Ev.step (fun _ => impl_PackInode.l0.eq_2 ..) (Ev.neg (by omega) (Ev.bind x2 (Ev.pos (by omega) (Ev.bind y2 (Ev.pos (by omega) (Ev.bind0 p2 (Ev.now _)))))))⟩
  | succ n ih =>
    intro i s h0 hi hs
    by_cases hl : i < (b.length : Int)
    · have z := putNumber_size (wrap64 (rd b i + 1)) 2
      have z1 := ba_size_append s (putNumber (wrap64 (rd b i + 1)) 2)
      obtain ⟨r, p1, p2⟩ := ih (i + 1) (s ++ putNumber (wrap64 (rd b i + 1)) 2) (by omega) (by omega) (by omega)
      refine ⟨r, Ev.step (fun _ => spec_PackInode.l0.eq_2 ..) (Ev.pos (by omega) (Ev.pos hl (Ev.pos h0 (Ev.bind (putNumber_spec _ 2 (wrap_le _)) (Ev.pos (by omega) ?_))))), Ev.step (fun _ => impl_PackInode.l0.eq_2 ..) (Ev.pos (by omega) (Ev.pos hl (Ev.pos h0 (Ev.bind (putNumber_impl _ 2 (wrap_le _)) (Ev.pos (by omega) ?_)))))⟩
      · rw [w64 (n := i + 1) (by omega) (by omega)]
        exact p1
      · rw [w64 (n := i + 1) (by omega) (by omega)]
        exact p2
    · have z := putNumber_size ((-1) + 1) 2
      have z1 := ba_size_append s (putNumber ((-1) + 1) 2)
      obtain ⟨r, p1, p2⟩ := ih (i + 1) (s ++ putNumber ((-1) + 1) 2) (by omega) (by omega) (by omega)
      refine ⟨r, Ev.step (fun _ => spec_PackInode.l0.eq_2 ..) (Ev.pos (by omega) (Ev.neg hl (Ev.bind (putNumber_spec _ 2 (by decide)) (Ev.pos (by omega) ?_)))), Ev.step (fun _ => impl_PackInode.l0.eq_2 ..) (Ev.pos (by omega) (Ev.neg hl (Ev.bind (putNumber_impl _ 2 (by decide)) (Ev.pos (by omega) ?_))))⟩
      · rw [w64 (n := i + 1) (by omega) (by omega)]
        exact p1
      · rw [w64 (n := i + 1) (by omega) (by omega)]
        exact p2
def intSmall (a : Int) : Prop := a ≤ 9223372036854775807
theorem packInode_both (a0 a1 a2 a3 a4 a5 a6 : Int) (b : List Int) (c d : List S116) (h0 : intSmall a0) (h1 : intSmall a1) (h2 : intSmall a2) (h3 : intSmall a3) (h4 : intSmall a4) (h5 : intSmall a5) (h6 : intSmall a6) (hb : b.length ≤ 1048576) (hc : c.length ≤ 1048576) (hd : d.length ≤ 1048576) (hcs : aclSmall c) (hds : aclSmall d) :
    ∃ r, Ev (fun k => spec_PackInode.f k a0 a1 a2 a3 a4 a5 a6 b c d) r ∧ Ev (fun k => impl_PackInode.f k a0 a1 a2 a3 a4 a5 a6 b c d) r := by
  unfold spec_PackInode.f impl_PackInode.f
  obtain ⟨t, t1, t2⟩ := isInode_both a0 a1 a2 a3 a4 a5 a6 b c d hb hc hd
  cases t with
  | false => exact ⟨_, Ev.bind t1 (Ev.neg (by decide) (Ev.now _)), Ev.bind t2 (Ev.neg (by decide) (Ev.now _))⟩
  | true =>
    have z0 := putNumber_size a0 1
    have z1 := putNumber_size a1 2
    have z2 := putNumber_size a2 1
    have z3 := putNumber_size a3 1
    have z4 := putNumber_size a4 2
    have z5 := putNumber_size a5 2
    have z6 := putNumber_size a6 4
    have y1 := ba_size_append (putNumber a0 1) (putNumber a1 2)
    have y2 := ba_size_append (putNumber a0 1 ++ putNumber a1 2) (putNumber a2 1)
    have y3 := ba_size_append (putNumber a0 1 ++ putNumber a1 2 ++ putNumber a2 1) (putNumber a3 1)
    have y4 := ba_size_append (putNumber a0 1 ++ putNumber a1 2 ++ putNumber a2 1 ++ putNumber a3 1) (putNumber a4 2)
    have y5 := ba_size_append (putNumber a0 1 ++ putNumber a1 2 ++ putNumber a2 1 ++ putNumber a3 1 ++ putNumber a4 2) (putNumber a5 2)
    have y6 := ba_size_append (putNumber a0 1 ++ putNumber a1 2 ++ putNumber a2 1 ++ putNumber a3 1 ++ putNumber a4 2 ++ putNumber a5 2) (putNumber a6 4)
    obtain ⟨r, p1, p2⟩ := packInode_l a0 a1 a2 a3 a4 a5 a6 b c d hb hc hd hcs hds 8 0 (putNumber a0 1 ++ putNumber a1 2 ++ putNumber a2 1 ++ putNumber a3 1 ++ putNumber a4 2 ++ putNumber a5 2 ++ putNumber a6 4) (by omega) (by omega) (by omega)
    exact ⟨r, Ev.bind t1 (Ev.pos rfl (Ev.bind (putNumber_spec a0 1 h0) (Ev.bind (putNumber_spec a1 2 h1) (Ev.pos (by omega) (Ev.bind (putNumber_spec a2 1 h2) (Ev.pos (by omega) (Ev.bind (putNumber_spec a3 1 h3) (Ev.pos (by omega) (Ev.bind (putNumber_spec a4 2 h4) (Ev.pos (by omega) (Ev.bind (putNumber_spec a5 2 h5) (Ev.pos (by omega) (Ev.bind (putNumber_spec a6 4 h6) (Ev.pos (by omega) p1)))))))))))))),
      Ev.bind t2 (Ev.pos rfl (Ev.bind (putNumber_impl a0 1 h0) (Ev.bind (putNumber_impl a1 2 h1) (Ev.pos (by omega) (Ev.bind (putNumber_impl a2 1 h2) (Ev.pos (by omega) (Ev.bind (putNumber_impl a3 1 h3) (Ev.pos (by omega) (Ev.bind (putNumber_impl a4 2 h4) (Ev.pos (by omega) (Ev.bind (putNumber_impl a5 2 h5) (Ev.pos (by omega) (Ev.bind (putNumber_impl a6 4 h6) (Ev.pos (by omega) p2))))))))))))))⟩

theorem FnExactPackInode (a0 a1 a2 a3 a4 a5 a6 : Int) (b : List Int) (c d : List S118)
    (h : (Lit.int .i64 a0).wf = true ∧ (Lit.int .i64 a1).wf = true ∧ (Lit.int .i64 a2).wf = true ∧ (Lit.int .i64 a3).wf = true ∧ (Lit.int .i64 a4).wf = true ∧ (Lit.int .i64 a5).wf = true ∧ (Lit.int .i64 a6).wf = true ∧ okInt b ∧ okAcls c ∧ okAcls d) :
    ∃ k, laws_FnExactPackInode.f k a0 a1 a2 a3 a4 a5 a6 b c d = some true := by
  obtain ⟨w0, w1, w2, w3, w4, w5, w6, hb0, hc0, hd0⟩ := h
  obtain ⟨t, ht, hs⟩ := szInode_ex a0 a1 a2 a3 a4 a5 a6 b c d hb0.1 hc0.1 hd0.1 1048576 (by omega) (by omega)
  apply Ev.rounds
  unfold laws_FnExactPackInode.f
  refine Ev.bind0 ht ?_
  by_cases hn : t < 0
  · exact Ev.pos hn (Ev.now _)
  · obtain ⟨t0, t1, hb, hc, hd⟩ := hs.resolve_left hn
    have hcm : (c.map aclTo).length ≤ 1048576 := by rw [List.length_map]; omega
    have hdm : (d.map aclTo).length ≤ 1048576 := by rw [List.length_map]; omega
    have p := toInode_f a0 a1 a2 a3 a4 a5 a6 b c d (by omega) (by omega) (by omega)
    have sm : ∀ l : List S118, okAcls l → aclSmall (l.map aclTo) := by
      intro l hl x hx
      obtain ⟨y, hy, rfl⟩ := List.mem_map.1 hx
      obtain ⟨q1, q2, q3⟩ := hl.2 y hy
      exact ⟨(i64_range q1).2, (i64_range q2).2, (i64_range q3).2⟩
    obtain ⟨r, h1, h2⟩ := packInode_both a0 a1 a2 a3 a4 a5 a6 b (c.map aclTo) (d.map aclTo) (i64_range w0).2 (i64_range w1).2 (i64_range w2).2 (i64_range w3).2 (i64_range w4).2 (i64_range w5).2 (i64_range w6).2 (by omega) hcm hdm (sm c hc0) (sm d hd0)
    exact Ev.neg hn (Ev.bind p (Ev.bind h1 (Ev.bind p (Ev.bind h2 (Ev.pos rfl (Ev.bind p (Ev.bind (eqInode_f a0 a1 a2 a3 a4 a5 a6 b _ _ (by omega) hcm hdm) (Ev.pos rfl (Ev.now _)))))))))

end Go.Proofs.Ytmnojegajblagac.Pure
