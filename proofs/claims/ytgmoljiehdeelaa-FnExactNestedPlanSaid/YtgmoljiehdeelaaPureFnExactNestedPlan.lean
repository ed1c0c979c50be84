/- The program's NestedPlan and the reference's make the same nested plan from chain periods. No conditions. -/
import Derived.Test.YtgmoljiehdeelaaKit
import Derived.Test.YtgmoljiehdeelaaXFnExactNestedPlanx11
namespace Go.Proofs.Ytgmoljiehdeelaa.Pure
set_option linter.unusedVariables false
open Go.RowKit Go.Proofs.Ytgmoljiehdeelaa.PFnExactNestedPlan Go.Proofs.YtgmoljiehdeelaaW.PrintWords Go.Proofs.YtgmoljiehdeelaaW.PrintLast Go.Proofs.Ytgmoljiehdeelaa.Kit

theorem in_eq (a b c : Int) : spec_l1In.f a b c = some (decide (b ≤ a ∧ a ≤ c)) := by
  unfold spec_l1In.f
  by_cases h : b ≤ a <;> simp [h]
theorem within_eq (a b c : Int) : impl_within.f a b c = some (decide (b ≤ a ∧ a ≤ c)) := by
  unfold impl_within.f
  by_cases h : b ≤ a <;> simp [h]
theorem toIntS_l0 (xs : List Int) (hn : xs.length ≤ 35184372088832) (d : Nat) : ∀ (i : Nat) (ys : List Int), i + d = xs.length → ys.length = xs.length → ys.take i = xs.take i →
    Ev (fun k => laws_toIntS.l0 k xs ys (i : Int)) xs := by
  induction d with
  | zero =>
    intro i ys hi hl ht
    refine ev_succ ?_
    simp only [laws_toIntS.l0]
    refine ev_neg (by omega) ?_
    rw [List.take_of_length_le (by omega), List.take_of_length_le (by omega)] at ht
    rw [ht]
    exact ev_some _
  | succ d ih =>
    intro i ys hi hl ht
    refine ev_succ ?_
    simp only [laws_toIntS.l0]
    refine ev_pos (by omega) (ev_pos (by omega) (ev_pos (by omega) ?_))
    have hw : wrap64 ((i : Int) + 1) = ((i + 1 : Nat) : Int) := by rw [wid (by omega) (by omega)]; omega
    rw [hw]
    refine ih (i + 1) _ (by omega) (by simpa using hl) ?_
    rw [rd_nat xs i (by omega), Int.toNat_natCast, List.take_succ_eq_append_getElem (by simp; omega), List.take_succ_eq_append_getElem (by omega), List.getElem_set_self, List.take_set_of_le (by omega), ht]
theorem toIntS_ev (xs : List Int) (hn : xs.length ≤ 35184372088832) : Ev (fun k => laws_toIntS.f k xs) xs := by
  unfold laws_toIntS.f
  refine ev_pos (by omega) (ev_pos (by omega) ?_)
  exact toIntS_l0 xs hn xs.length 0 _ (by omega) (by simp) rfl
theorem eqIntS_l0 (xs ys : List Int) (hn : xs.length ≤ 35184372088832) (hl : ys.length = xs.length) (d : Nat) : ∀ (i : Nat), i + d = xs.length →
    Ev (fun k => laws_eqIntS.l0 k xs ys (i : Int)) (decide (xs.drop i = ys.drop i)) := by
  induction d with
  | zero =>
    intro i hi
    refine ev_succ ?_
    simp only [laws_eqIntS.l0]
    refine ev_neg (by omega) ?_
    rw [List.drop_of_length_le (by omega), List.drop_of_length_le (by omega)]
    exact ev_some _
  | succ d ih =>
    intro i hi
    refine ev_succ ?_
    simp only [laws_eqIntS.l0]
    refine ev_pos (by omega) (ev_pos (by omega) (ev_pos (by omega) ?_))
    have hw : wrap64 ((i : Int) + 1) = ((i + 1 : Nat) : Int) := by rw [wid (by omega) (by omega)]; omega
    rw [hw, drop_rd xs i (by omega), drop_rd ys i (by omega)]
    by_cases h : rd xs i = rd ys i
    · refine ev_pos h (ev_cast (ih (i + 1) (by omega)) ?_)
      simp [h]
    · refine ev_neg h (ev_cast (ev_some false) ?_)
      simp [h]
theorem eqIntS_ev (xs ys : List Int) (hn : xs.length ≤ 35184372088832) : Ev (fun k => laws_eqIntS.f k xs ys) (decide (xs = ys)) := by
  unfold laws_eqIntS.f
  by_cases h : xs.length = ys.length
  · refine ev_pos (by omega) (ev_cast (eqIntS_l0 xs ys hn h.symm xs.length 0 (by omega)) (by simp))
  · refine ev_neg (by omega) (ev_cast (ev_some false) ?_)
    have : xs ≠ ys := fun e => h (by rw [e])
    simp [this]
theorem allWithin_l0 (lo up : Int) (xs : List Int) (hn : xs.length ≤ 35184372088832) (d : Nat) : ∀ (i : Nat), i + d = xs.length →
    Ev (fun k => impl_allWithin.l0 k lo up xs (xs.length : Int) (i : Int)) (decide (∀ x ∈ xs.drop i, lo ≤ x ∧ x ≤ up)) := by
  induction d with
  | zero =>
    intro i hi
    refine ev_succ ?_
    simp only [impl_allWithin.l0]
    refine ev_neg (by omega) ?_
    rw [List.drop_of_length_le (by omega)]
    exact ev_cast (ev_some true) (by simp)
  | succ d ih =>
    intro i hi
    refine ev_succ ?_
    simp only [impl_allWithin.l0, within_eq, Option.bind_some]
    refine ev_pos (by omega) (ev_pos (by omega) (ev_pos (by omega) ?_))
    have hw : wrap64 ((i : Int) + 1) = ((i + 1 : Nat) : Int) := by rw [wid (by omega) (by omega)]; omega
    rw [hw, drop_rd xs i (by omega)]
    by_cases h : lo ≤ rd xs i ∧ rd xs i ≤ up
    · refine ev_pos (by simpa using h) (ev_cast (ih (i + 1) (by omega)) ?_)
      simp [h]
    · refine ev_neg (by simpa using h) (ev_cast (ev_some false) ?_)
      symm
      simp only [decide_eq_false_iff_not, List.mem_cons]
      exact fun hh => h (hh _ (Or.inl rfl))
theorem allWithin_ev (xs : List Int) (lo hi : Int) (hn : xs.length ≤ 35184372088832) : Ev (fun k => impl_allWithin.f k xs lo hi) (decide (∀ x ∈ xs, lo ≤ x ∧ x ≤ hi)) := by
  unfold impl_allWithin.f
  exact allWithin_l0 lo hi xs hn xs.length 0 (by omega)
theorem l2Row_l0 (n up : Int) (xs : List Int) (hn : xs.length ≤ 35184372088832) (d : Nat) : ∀ (i : Nat), i + d = xs.length →
    Ev (fun k => spec_l2Row.l0 k xs n up (i : Int)) (decide ((∀ x ∈ xs.drop i, 0 ≤ x ∧ x ≤ up) ∧ (xs.length : Int) = n)) := by
  induction d with
  | zero =>
    intro i hi
    refine ev_succ ?_
    simp only [spec_l2Row.l0]
    refine ev_neg (by omega) ?_
    rw [List.drop_of_length_le (by omega)]
    refine ev_cast (ev_some _) ?_
    rw [Bool.eq_iff_iff]
    simp
  | succ d ih =>
    intro i hi
    refine ev_succ ?_
    simp only [spec_l2Row.l0, in_eq, Option.bind_some]
    refine ev_pos (by omega) (ev_pos (by omega) ?_)
    have hw : wrap64 ((i : Int) + 1) = ((i + 1 : Nat) : Int) := by rw [wid (by omega) (by omega)]; omega
    rw [hw, drop_rd xs i (by omega)]
    by_cases h : 0 ≤ rd xs i ∧ rd xs i ≤ up
    · refine ev_pos (by simpa using h) (ev_cast (ih (i + 1) (by omega)) ?_)
      simp [h]
    · refine ev_neg (by simpa using h) (ev_cast (ev_some false) ?_)
      symm
      simp only [decide_eq_false_iff_not, List.mem_cons]
      exact fun hh => h (hh.1 _ (Or.inl rfl))
theorem l2Row_ev (xs : List Int) (n up : Int) (hn : xs.length ≤ 35184372088832) : Ev (fun k => spec_l2Row.f k xs n up) (decide ((∀ x ∈ xs, 0 ≤ x ∧ x ≤ up) ∧ (xs.length : Int) = n)) := by
  unfold spec_l2Row.f
  exact l2Row_l0 n up xs hn xs.length 0 (by omega)
theorem szIntS_eq (xs : List Int) (a : Int) (h0 : 0 ≤ a) (h1 : a ≤ 1048576) (hl : xs.length ≤ maxLen) : laws_szIntS.f xs a = some (if a - (xs.length : Int) < 0 then -1 else a - (xs.length : Int)) := by
  unfold maxLen at hl
  unfold laws_szIntS.f
  rw [wid (by omega) (by omega)]
  split <;> rfl
theorem less_eq (a b : Int) : cmp_Less_int.f a b = some (decide (a < b)) := by
  unfold cmp_Less_int.f cmp_isNaN_int.f
  simp
/-- No number is less than the one before it. -/
def Ups (xs : List Int) : Prop := ∀ i : Nat, i + 1 < xs.length → ¬ rd xs ((i + 1 : Nat) : Int) < rd xs (i : Int)
theorem ups_iff (xs : List Int) : Ups xs ↔ ∀ i : Nat, i < xs.length → i + 1 < xs.length → ¬ rd xs ((i + 1 : Nat) : Int) < rd xs (i : Int) := ⟨fun h i _ h2 => h i h2, fun h i h2 => h i (by omega) h2⟩
instance (xs : List Int) : Decidable (Ups xs) := decidable_of_iff _ (ups_iff xs).symm
theorem isSorted_l0 (xs : List Int) (hn : xs.length ≤ 35184372088832) : ∀ (i : Nat), (i : Int) ≤ (xs.length : Int) - 1 → (∀ j : Nat, i ≤ j → j + 1 < xs.length → ¬ rd xs ((j + 1 : Nat) : Int) < rd xs (j : Int)) →
    Ev (fun k => slices_IsSorted_int_int.l0 k xs (i : Int)) (decide (Ups xs)) := by
  intro i
  induction i with
  | zero =>
    intro hi h
    refine ev_succ ?_
    simp only [slices_IsSorted_int_int.l0]
    exact ev_neg (by omega) (ev_true fun j hj => h j (by omega) hj)
  | succ i ih =>
    intro hi h
    refine ev_succ ?_
    simp only [slices_IsSorted_int_int.l0, less_eq, Option.bind_some]
    have hw : wrap64 (((i + 1 : Nat) : Int) - 1) = (i : Int) := by rw [wid (by omega) (by omega)]; omega
    rw [hw]
    refine ev_pos (by omega) (ev_pos (by omega) (ev_pos (by omega) (ev_pos (by omega) (ev_pos (by omega) ?_))))
    by_cases hb : rd xs ((i + 1 : Nat) : Int) < rd xs (i : Int)
    · exact ev_pos (by simpa using hb) (ev_false fun u => u i (by omega) hb)
    · refine ev_neg (by simpa using hb) (ih (by omega) fun j h1 h2 => ?_)
      by_cases e : j = i
      · rw [e]; exact hb
      · exact h j (by omega) h2
theorem isSorted_ev (xs : List Int) (hn : xs.length ≤ 35184372088832) : Ev (fun k => slices_IsSorted_int_int.f k xs) (decide (Ups xs)) := by
  unfold slices_IsSorted_int_int.f
  rw [wid (by omega) (by omega)]
  by_cases h : xs.length = 0
  · refine ev_succ ?_
    simp only [slices_IsSorted_int_int.l0]
    exact ev_neg (by omega) (ev_true fun j hj => by omega)
  · have e : (xs.length : Int) - 1 = ((xs.length - 1 : Nat) : Int) := by omega
    rw [e]
    exact isSorted_l0 xs hn (xs.length - 1) (by omega) (fun j h1 h2 => by omega)
theorem szChain_eq (l m h : List Int) (n : Int) (h0 : 0 ≤ n) (h1 : n ≤ 1048576) (hl : l.length ≤ maxLen) (hm : m.length ≤ maxLen) (hh : h.length ≤ maxLen) :
    ∃ r, laws_szChain.f l m h n = some r ∧ (0 ≤ r → r = n - l.length - m.length - h.length) := by
  unfold laws_szChain.f
  rw [szIntS_eq l n h0 h1 hl]
  simp only [Option.bind_some]
  by_cases c1 : n - (l.length : Int) < 0
  · rw [if_pos c1, if_pos (by omega)]
    exact ⟨_, rfl, by omega⟩
  · rw [if_neg c1, if_neg c1, szIntS_eq m _ (by omega) (by omega) hm]
    simp only [Option.bind_some]
    by_cases c2 : n - (l.length : Int) - (m.length : Int) < 0
    · rw [if_pos c2, if_pos (by omega)]
      exact ⟨_, rfl, by omega⟩
    · rw [if_neg c2, if_neg c2, szIntS_eq h _ (by omega) (by omega) hh]
      simp only [Option.bind_some]
      by_cases c3 : n - (l.length : Int) - (m.length : Int) - (h.length : Int) < 0
      · rw [if_pos c3, if_pos (by omega)]
        exact ⟨_, rfl, by omega⟩
      · rw [if_neg c3, if_neg c3]
        exact ⟨_, rfl, fun _ => rfl⟩
theorem toChain_ev (l m h : List Int) (hl : l.length ≤ 35184372088832) (hm : m.length ≤ 35184372088832) (hh : h.length ≤ 35184372088832) : Ev (fun k => laws_toChain.f k l m h) (l, m, h) := by
  unfold laws_toChain.f
  exact ev_bind (toIntS_ev l hl) (ev_bind (toIntS_ev m hm) (ev_bind (toIntS_ev h hh) (ev_some _)))
theorem eqChain_ev (l m h : List Int) (hl : l.length ≤ 35184372088832) (hm : m.length ≤ 35184372088832) (hh : h.length ≤ 35184372088832) : Ev (fun k => laws_eqChain.f k l m h l m h) true := by
  unfold laws_eqChain.f
  exact ev_bind (eqIntS_ev l l hl) (ev_pos (by simp) (ev_bind (eqIntS_ev m m hm) (ev_pos (by simp) (ev_bind (eqIntS_ev h h hh) (ev_pos (by simp) (ev_some _))))))

/-- What a valid chain is. -/
def ChainOk (l m h : List Int) : Prop :=
  (l.length : Int) ≤ 6 ∧ (∀ x ∈ l, 0 ≤ x ∧ x ≤ 20) ∧ (1 ≤ (m.length : Int) ∧ (m.length : Int) ≤ 3) ∧ (h.length : Int) = (m.length : Int) ∧ (∀ x ∈ m, 0 ≤ x ∧ x ≤ 99) ∧ (∀ x ∈ h, 0 ≤ x ∧ x ≤ 9) ∧ Ups h
instance (l m h : List Int) : Decidable (ChainOk l m h) := by unfold ChainOk; infer_instance
theorem implChain_ev (l m h : List Int) (hl : l.length ≤ 35184372088832) (hm : m.length ≤ 35184372088832) (hh : h.length ≤ 35184372088832) : Ev (fun k => impl_IsChain.f k l m h) (decide (ChainOk l m h)) := by
  unfold impl_IsChain.f ChainOk
  simp only [within_eq, Option.bind_some]
  exact ev_andp fun _ => ev_bind (allWithin_ev l 0 20 hl) (ev_and rfl fun _ => ev_and rfl fun _ => ev_andp fun _ => ev_bind (allWithin_ev m 0 99 hm) (ev_and rfl fun _ => ev_bind (allWithin_ev h 0 9 hh) (ev_and rfl fun _ => ev_bind (isSorted_ev h hh) (ev_some _))))
theorem l7Good_l0 (l m h : List Int) (hh : h.length ≤ 35184372088832) (d : Nat) : ∀ (i : Nat), i + 1 + d = h.length → (∀ j : Nat, j < i → ¬ rd h ((j + 1 : Nat) : Int) < rd h (j : Int)) →
    Ev (fun k => spec_l7Good.l0 k ((i + 1 : Nat) : Int) l m h) (decide (Ups h)) := by
  induction d with
  | zero =>
    intro i hi hj
    refine ev_succ ?_
    simp only [spec_l7Good.l0]
    exact ev_neg (by omega) (ev_true fun j h1 => hj j (by omega))
  | succ d ih =>
    intro i hi hj
    refine ev_succ ?_
    simp only [spec_l7Good.l0]
    have hw : wrap64 (((i + 1 : Nat) : Int) - 1) = (i : Int) := by rw [wid (by omega) (by omega)]; omega
    have hw2 : wrap64 (((i + 1 : Nat) : Int) + 1) = ((i + 1 + 1 : Nat) : Int) := by rw [wid (by omega) (by omega)]; omega
    rw [hw, hw2]
    refine ev_pos (by omega) (ev_pos (by omega) (ev_pos (by omega) (ev_pos (by omega) ?_)))
    by_cases hb : rd h ((i + 1 : Nat) : Int) < rd h (i : Int)
    · exact ev_pos hb (ev_false fun u => u i (by omega) hb)
    · refine ev_neg hb (ih (i + 1) (by omega) fun j h1 => ?_)
      by_cases e : j = i
      · rw [e]; exact hb
      · exact hj j (by omega)
theorem specChain_ev (l m h : List Int) (hl : l.length ≤ 35184372088832) (hm : m.length ≤ 35184372088832) (hh : h.length ≤ 35184372088832) : Ev (fun k => spec_l7Good.f k l m h) (decide (ChainOk l m h)) := by
  unfold spec_l7Good.f
  simp only [in_eq, Option.bind_some]
  have no : ∀ {P : Prop}, ¬ P → (ChainOk l m h → P) → Ev (fun k => spec_l7Good.j0 k true l m h) (decide (ChainOk l m h)) := by
    intro P hp hc
    refine ev_succ ?_
    simp only [spec_l7Good.j0, if_true]
    exact ev_false fun h => hp (hc h)
  have no1 : ∀ {P : Prop}, ¬ P → (ChainOk l m h → P) → Ev (fun k => spec_l7Good.j1 k true l m h) (decide (ChainOk l m h)) := by
    intro P hp hc
    refine ev_succ ?_
    simp only [spec_l7Good.j1, if_true]
    exact ev_false fun h => hp (hc h)
  by_cases h1 : (l.length : Int) > 6
  · exact ev_pos h1 (no (P := (l.length : Int) ≤ 6) (by omega) fun c => c.1)
  refine ev_neg h1 (ev_bind (l2Row_ev l _ 20 hl) ?_)
  by_cases h2 : ∀ x ∈ l, 0 ≤ x ∧ x ≤ 20
  rotate_left
  · exact ev_neg (by simpa using h2) (no h2 fun c => c.2.1)
  refine ev_pos (by simpa using h2) ?_
  by_cases h3 : 1 ≤ (m.length : Int) ∧ (m.length : Int) ≤ 3
  rotate_left
  · rw [decide_eq_false h3]
    exact no h3 fun c => c.2.2.1
  rw [decide_eq_true h3]
  refine ev_succ ?_
  simp only [spec_l7Good.j0]
  refine ev_neg (by simp) (ev_bind (l2Row_ev m _ 99 hm) ?_)
  by_cases h4 : ∀ x ∈ m, 0 ≤ x ∧ x ≤ 99
  rotate_left
  · exact ev_neg (by simpa using h4) (no1 h4 fun c => c.2.2.2.2.1)
  refine ev_pos (by simpa using h4) (ev_bind (l2Row_ev h _ 9 hh) ?_)
  by_cases h5 : (∀ x ∈ h, 0 ≤ x ∧ x ≤ 9) ∧ (h.length : Int) = (m.length : Int)
  rotate_left
  · rw [decide_eq_false h5]
    exact no1 h5 fun c => ⟨c.2.2.2.2.2.1, c.2.2.2.1⟩
  rw [decide_eq_true h5]
  refine ev_succ ?_
  simp only [spec_l7Good.j1]
  refine ev_neg (by simp) (ev_dec (P := Ups h) ?_ ⟨fun u => ⟨by omega, h2, h3, h5.2, h4, h5.1, u⟩, fun c => c.2.2.2.2.2.2⟩)
  exact l7Good_l0 l m h hh (h.length - 1) 0 (by omega) (fun j hj => by omega)
theorem rd_in {xs : List Int} {lo up : Int} (h : ∀ x ∈ xs, lo ≤ x ∧ x ≤ up) (i : Nat) (hi : i < xs.length) : lo ≤ rd xs (i : Int) ∧ rd xs (i : Int) ≤ up := by
  rw [rd_nat xs i hi]
  exact h _ (List.getElem_mem _)
theorem rd_L1_nat (xs : List (List Int)) (i : Nat) (h : i < xs.length) : rd_L1 xs (i : Int) = xs[i] := by
  unfold rd_L1
  simp [List.getD_eq_getElem?_getD, h]
theorem drop_rd_L1 (xs : List (List Int)) (i : Nat) (h : i < xs.length) : xs.drop i = rd_L1 xs (i : Int) :: xs.drop (i + 1) := by
  rw [rd_L1_nat xs i h]
  exact List.drop_eq_getElem_cons h
theorem rd_L1_mem (xs : List (List Int)) (i : Nat) (h : i < xs.length) : rd_L1 xs (i : Int) ∈ xs := by
  rw [rd_L1_nat xs i h]
  exact List.getElem_mem _
theorem szIntSS_l0 (l : List (List Int)) (hl : l.length ≤ maxLen) (hw : ∀ r ∈ l, r.length ≤ maxLen) (d : Nat) : ∀ (i : Nat) (n : Int), i + d = l.length → 0 ≤ n → n ≤ 1048576 →
    ∃ r, Ev (fun k => laws_szIntSS.l0 k l n (i : Int)) r ∧ (0 ≤ r → ∀ j : Nat, i ≤ j → j < l.length → (rd_L1 l (j : Int)).length ≤ 1048576) := by
  have h47 : l.length ≤ 9223372036854775807 := by unfold maxLen at hl; omega
  induction d with
  | zero =>
    intro i n hi h0 h1
    refine ⟨n, ev_succ ?_, fun _ j h2 h3 => by omega⟩
    simp only [laws_szIntSS.l0]
    exact ev_neg (by omega) (ev_some _)
  | succ d ih =>
    intro i n hi h0 h1
    have hr := hw _ (rd_L1_mem l i (by omega))
    have hw1 : wrap64 ((i : Int) + 1) = ((i + 1 : Nat) : Int) := by rw [wid (by omega) (by omega)]; omega
    by_cases c : n - ((rd_L1 l (i : Int)).length : Int) < 0
    · refine ⟨-1, ev_succ ?_, fun h => by omega⟩
      simp only [laws_szIntSS.l0, szIntS_eq _ n h0 h1 hr, Option.bind_some]
      rw [if_pos c]
      exact ev_pos (by omega) (ev_pos (by omega) (ev_pos (by omega) (ev_some _)))
    · obtain ⟨r, hr1, hr2⟩ := ih (i + 1) (n - ((rd_L1 l (i : Int)).length : Int)) (by omega) (by omega) (by omega)
      refine ⟨r, ev_succ ?_, fun h j h2 h3 => ?_⟩
      · simp only [laws_szIntSS.l0, szIntS_eq _ n h0 h1 hr, Option.bind_some]
        rw [if_neg c, hw1]
        exact ev_pos (by omega) (ev_pos (by omega) (ev_neg (by omega) hr1))
      · by_cases e : j = i
        · rw [e]; omega
        · exact hr2 h j (by omega) h3
theorem szIntSS_ev (l : List (List Int)) (n : Int) (h0 : 0 ≤ n) (h1 : n ≤ 1048576) (hl : l.length ≤ maxLen) (hw : ∀ r ∈ l, r.length ≤ maxLen) :
    ∃ r, Ev (fun k => laws_szIntSS.f k l n) r ∧ (0 ≤ r → l.length ≤ 1048576 ∧ ∀ x ∈ l, x.length ≤ 1048576) := by
  have h47 : l.length ≤ 9223372036854775807 := by unfold maxLen at hl; omega
  unfold laws_szIntSS.f
  rw [wid (by omega) (by omega)]
  by_cases c : n - (l.length : Int) < 0
  · exact ⟨-1, ev_pos c (ev_some _), fun h => by omega⟩
  · obtain ⟨r, hr1, hr2⟩ := szIntSS_l0 l hl hw l.length 0 (n - (l.length : Int)) (by omega) (by omega) (by omega)
    refine ⟨r, ev_neg c hr1, fun h => ⟨by omega, fun x hx => ?_⟩⟩
    obtain ⟨j, hj, rfl⟩ := List.getElem_of_mem hx
    have := hr2 h j (by omega) hj
    rwa [rd_L1_nat l j hj] at this
theorem toIntSS_l0 (xs : List (List Int)) (hn : xs.length ≤ 1048576) (hw : ∀ r ∈ xs, r.length ≤ 1048576) (d : Nat) : ∀ (i : Nat) (ys : List (List Int)), i + d = xs.length → ys.length = xs.length → ys.take i = xs.take i →
    Ev (fun k => laws_toIntSS.l0 k xs ys (i : Int)) xs := by
  induction d with
  | zero =>
    intro i ys hi hl ht
    refine ev_succ ?_
    simp only [laws_toIntSS.l0]
    refine ev_neg (by omega) ?_
    rw [List.take_of_length_le (by omega), List.take_of_length_le (by omega)] at ht
    rw [ht]
    exact ev_some _
  | succ d ih =>
    intro i ys hi hl ht
    have hr := hw _ (rd_L1_mem xs i (by omega))
    refine ev_succ ?_
    simp only [laws_toIntSS.l0]
    have hw : wrap64 ((i : Int) + 1) = ((i + 1 : Nat) : Int) := by rw [wid (by omega) (by omega)]; omega
    rw [hw]
    refine ev_pos (by omega) (ev_pos (by omega) (ev_bind (toIntS_ev _ (by omega)) (ev_pos (by omega) ?_)))
    refine ih (i + 1) _ (by omega) (by simpa using hl) ?_
    rw [rd_L1_nat xs i (by omega), Int.toNat_natCast, List.take_succ_eq_append_getElem (by simp; omega), List.take_succ_eq_append_getElem (by omega), List.getElem_set_self, List.take_set_of_le (by omega), ht]
theorem toIntSS_ev (xs : List (List Int)) (hn : xs.length ≤ 1048576) (hw : ∀ r ∈ xs, r.length ≤ 1048576) : Ev (fun k => laws_toIntSS.f k xs) xs := by
  unfold laws_toIntSS.f
  exact ev_pos (by omega) (ev_pos (by omega) (toIntSS_l0 xs hn hw xs.length 0 _ (by omega) (by simp) rfl))
theorem eqIntSS_l0 (xs : List (List Int)) (hn : xs.length ≤ 1048576) (hw : ∀ r ∈ xs, r.length ≤ 1048576) (d : Nat) : ∀ (i : Nat), i + d = xs.length → Ev (fun k => laws_eqIntSS.l0 k xs xs (i : Int)) true := by
  induction d with
  | zero =>
    intro i hi
    refine ev_succ ?_
    simp only [laws_eqIntSS.l0]
    exact ev_neg (by omega) (ev_some _)
  | succ d ih =>
    intro i hi
    have hr := hw _ (rd_L1_mem xs i (by omega))
    refine ev_succ ?_
    simp only [laws_eqIntSS.l0]
    have hw : wrap64 ((i : Int) + 1) = ((i + 1 : Nat) : Int) := by rw [wid (by omega) (by omega)]; omega
    rw [hw]
    exact ev_pos (by omega) (ev_pos (by omega) (ev_pos (by omega) (ev_bind (eqIntS_ev _ _ (by omega)) (ev_pos (by simp) (ih (i + 1) (by omega))))))
theorem eqIntSS_ev (xs : List (List Int)) (hn : xs.length ≤ 1048576) (hw : ∀ r ∈ xs, r.length ≤ 1048576) : Ev (fun k => laws_eqIntSS.f k xs xs) true := by
  unfold laws_eqIntSS.f
  exact ev_pos rfl (eqIntSS_l0 xs hn hw xs.length 0 (by omega))
/-- A strictly rising list of numbers from 0 to hi, from its place i on. -/
def risB (xs : List Int) (hi : Int) : Nat → Nat → Bool
  | 0, _ => true
  | d + 1, i => if 0 ≤ rd xs (i : Int) ∧ rd xs (i : Int) ≤ hi then (if 0 < i then (if rd xs ((i - 1 : Nat) : Int) ≥ rd xs (i : Int) then false else risB xs hi d (i + 1)) else risB xs hi d (i + 1)) else false
theorem risB_in {xs : List Int} {top : Int} (d : Nat) : ∀ i : Nat, i + d = xs.length → risB xs top d i = true → ∀ j : Nat, i ≤ j → j < xs.length → 0 ≤ rd xs (j : Int) ∧ rd xs (j : Int) ≤ top := by
  induction d with
  | zero => intro i hi h j h1 h2; omega
  | succ d ih =>
    intro i hi h j h1 h2
    simp only [risB] at h
    by_cases c : 0 ≤ rd xs (i : Int) ∧ rd xs (i : Int) ≤ top
    · rw [if_pos c] at h
      by_cases e : j = i
      · subst e
        exact c
      · have q : risB xs top d (i + 1) = true := by
          split at h
          · split at h
            · exact absurd h (by simp)
            · exact h
          · exact h
        exact ih (i + 1) (by omega) q j (by omega) h2
    · rw [if_neg c] at h
      exact absurd h (by simp)
theorem specRising_l0 (xs : List Int) (top : Int) (hn : xs.length ≤ 35184372088832) (d : Nat) : ∀ i : Nat, i + d = xs.length → Ev (fun k => spec_l1Rising.l0 k xs 0 top (i : Int)) (risB xs top d i) := by
  induction d with
  | zero =>
    intro i hi
    refine ev_succ ?_
    simp only [spec_l1Rising.l0, risB]
    exact ev_neg (by omega) (ev_some _)
  | succ d ih =>
    intro i hi
    have hw : wrap64 ((i : Int) + 1) = ((i + 1 : Nat) : Int) := by rw [wid (by omega) (by omega)]; omega
    refine ev_succ ?_
    simp only [spec_l1Rising.l0, in_eq, Option.bind_some, risB]
    rw [hw]
    refine ev_pos (by omega) (ev_pos (by omega) ?_)
    by_cases c : 0 ≤ rd xs (i : Int) ∧ rd xs (i : Int) ≤ top
    · rw [if_pos c]
      refine ev_pos (decide_eq_true c) ?_
      by_cases c2 : 0 < i
      · have hw2 : wrap64 ((i : Int) - 1) = ((i - 1 : Nat) : Int) := by rw [wid (by omega) (by omega)]; omega
        rw [if_pos c2, hw2]
        refine ev_pos (by omega) (ev_pos (by omega) (ev_pos (by omega) ?_))
        by_cases c3 : rd xs ((i - 1 : Nat) : Int) ≥ rd xs (i : Int)
        · rw [if_pos c3]
          exact ev_pos c3 (ev_some _)
        · rw [if_neg c3]
          exact ev_neg c3 (ih (i + 1) (by omega))
      · rw [if_neg c2]
        exact ev_neg (by omega) (ih (i + 1) (by omega))
    · rw [if_neg c]
      exact ev_neg (by rw [decide_eq_true_eq]; exact c) (ev_some _)
theorem specRising_ev (xs : List Int) (top : Int) (hn : xs.length ≤ 35184372088832) : Ev (fun k => spec_l1Rising.f k xs 0 top) (risB xs top xs.length 0) := by
  unfold spec_l1Rising.f
  exact specRising_l0 xs top hn xs.length 0 (by omega)
theorem l2Sum_l0 (xs : List Int) (hn : xs.length ≤ 35184372088832) (hs : ∀ i, -9223372036854775808 ≤ (xs.take i).sum ∧ (xs.take i).sum ≤ 9223372036854775807) (d : Nat) : ∀ (i : Nat), i + d = xs.length →
    Ev (fun k => spec_l2Sum.l0 k xs (xs.take i).sum (i : Int)) xs.sum := by
  induction d with
  | zero =>
    intro i hi
    refine ev_succ ?_
    simp only [spec_l2Sum.l0]
    refine ev_neg (by omega) ?_
    rw [List.take_of_length_le (by omega)]
    exact ev_some _
  | succ d ih =>
    intro i hi
    refine ev_succ ?_
    simp only [spec_l2Sum.l0]
    refine ev_pos (by omega) (ev_pos (by omega) ?_)
    have hw : wrap64 ((i : Int) + 1) = ((i + 1 : Nat) : Int) := by rw [wid (by omega) (by omega)]; omega
    have ht := take_sum_succ xs i (by omega)
    rw [hw, ht, wid (hs _).1 (hs _).2]
    exact ih (i + 1) (by omega)
theorem l2Sum_ev (xs : List Int) (hn : xs.length ≤ 35184372088832) (hs : ∀ i, -9223372036854775808 ≤ (xs.take i).sum ∧ (xs.take i).sum ≤ 9223372036854775807) : Ev (fun k => spec_l2Sum.f k xs) xs.sum := by
  unfold spec_l2Sum.f
  exact l2Sum_l0 xs hn hs xs.length 0 (by omega)
/-- The numbers from a on. -/
def asc (a : Int) (n : Nat) : List Int := (List.range n).map fun i => a + ((i : Nat) : Int)
theorem asc_length (a : Int) (n : Nat) : (asc a n).length = n := by simp [asc]
theorem asc_succ (a : Int) (n : Nat) : asc a (n + 1) = asc a n ++ [a + (n : Int)] := by simp [asc, List.range_succ]
theorem rd_asc (a : Int) (n i : Nat) (h : i < n) : rd (asc a n) (i : Int) = a + (i : Int) := by
  rw [rd_nat _ _ (by rw [asc_length]; exact h)]
  simp [asc]
theorem mark_l0 (n : Nat) (a : Int) (h0 : 0 ≤ a) (hn : n ≤ 35184372088832) (ha : a ≤ 35184372088832) (d : Nat) : ∀ (i : Nat) (ys : List Int), i + d = n → ys.length = n → ys.take i = asc a i →
    Ev (fun k => laws_markIntS.l0 k ys (a + (i : Int)) (i : Int)) (a + (n : Int), asc a n) := by
  induction d with
  | zero =>
    intro i ys hi hl ht
    refine ev_succ ?_
    simp only [laws_markIntS.l0]
    refine ev_neg (by omega) (ev_cast (ev_some _) ?_)
    rw [List.take_of_length_le (by omega)] at ht
    rw [ht, show i = n by omega]
  | succ d ih =>
    intro i ys hi hl ht
    refine ev_succ ?_
    simp only [laws_markIntS.l0]
    have hw : wrap64 ((i : Int) + 1) = ((i + 1 : Nat) : Int) := by rw [wid (by omega) (by omega)]; omega
    have hw2 : wrap64 (a + (i : Int) + 1) = a + ((i + 1 : Nat) : Int) := by rw [wid (by omega) (by omega)]; omega
    rw [hw, hw2]
    refine ev_pos (by omega) (ev_pos (by omega) (ih (i + 1) _ (by omega) (by simpa using hl) ?_))
    rw [Int.toNat_natCast, List.take_succ_eq_append_getElem (by simp; omega), List.getElem_set_self, List.take_set_of_le (by omega), ht, asc_succ]
theorem mark_ev (ys : List Int) (a : Int) (h0 : 0 ≤ a) (hn : ys.length ≤ 35184372088832) (ha : a ≤ 35184372088832) : Ev (fun k => laws_markIntS.f k ys a) (a + (ys.length : Int), asc a ys.length) := by
  unfold laws_markIntS.f
  have := mark_l0 ys.length a h0 hn ha ys.length 0 ys (by omega) rfl rfl
  simpa using this
theorem held_l0 (n : Nat) (a : Int) (h0 : 0 ≤ a) (hn : n ≤ 35184372088832) (ha : a ≤ 35184372088832) (d : Nat) : ∀ (i : Nat), i + d = n →
    Ev (fun k => laws_heldIntS.l0 k (asc a n) (a + (i : Int)) (i : Int)) (a + (n : Int)) := by
  induction d with
  | zero =>
    intro i hi
    refine ev_succ ?_
    simp only [laws_heldIntS.l0, asc_length]
    refine ev_neg (by omega) (ev_cast (ev_some _) ?_)
    rw [show i = n by omega]
  | succ d ih =>
    intro i hi
    refine ev_succ ?_
    simp only [laws_heldIntS.l0, asc_length]
    have hw : wrap64 ((i : Int) + 1) = ((i + 1 : Nat) : Int) := by rw [wid (by omega) (by omega)]; omega
    have hw2 : wrap64 (a + (i : Int) + 1) = a + ((i + 1 : Nat) : Int) := by rw [wid (by omega) (by omega)]; omega
    rw [hw, hw2, rd_asc a n i (by omega)]
    exact ev_pos (by omega) (ev_pos (by omega) (ev_pos rfl (ih (i + 1) (by omega))))
theorem held_ev (a : Int) (n : Nat) (h0 : 0 ≤ a) (hn : n ≤ 35184372088832) (ha : a ≤ 35184372088832) : Ev (fun k => laws_heldIntS.f k (asc a n) a) (a + (n : Int)) := by
  unfold laws_heldIntS.f
  have := held_l0 n a h0 hn ha n 0 (by omega)
  simpa using this
/-- Rows of marks. -/
def tot : List (List Int) → Int
  | [] => 0
  | r :: rs => (r.length : Int) + tot rs
def mkS : Int → List (List Int) → List (List Int)
  | _, [] => []
  | a, r :: rs => asc a r.length :: mkS (a + (r.length : Int)) rs
theorem tot_in (rs : List (List Int)) (h : ∀ r ∈ rs, r.length ≤ 1048576) : 0 ≤ tot rs ∧ tot rs ≤ rs.length * 1048576 := by
  induction rs with
  | nil => simp [tot]
  | cons r rs ih =>
    have h1 := h r (by simp)
    have h2 := ih fun x hx => h x (by simp [hx])
    simp only [tot, List.length_cons]
    omega
theorem rd_mid (pre post : List (List Int)) (r : List Int) : rd_L1 (pre ++ r :: post) (pre.length : Int) = r := by
  rw [rd_L1_nat _ _ (by simp)]
  simp
theorem markSS_l0 (post : List (List Int)) : ∀ (pre : List (List Int)) (a : Int), (pre ++ post).length ≤ 1048576 → (∀ r ∈ post, r.length ≤ 1048576) → 0 ≤ a → a + tot post ≤ 35184372088832 →
    Ev (fun k => laws_markIntSS.l0 k (pre ++ post) a (pre.length : Int)) (a + tot post, pre ++ mkS a post) := by
  induction post with
  | nil =>
    intro pre a hl hr h0 ha
    refine ev_succ ?_
    simp only [laws_markIntSS.l0, List.append_nil, tot, mkS, Int.add_zero]
    exact ev_neg (by omega) (ev_some _)
  | cons r rs ih =>
    intro pre a hl hr h0 ha
    have h1 := hr r (by simp)
    have h2 := tot_in rs fun x hx => hr x (by simp [hx])
    simp only [List.length_append, List.length_cons] at hl
    simp only [tot] at ha
    have hw : wrap64 ((pre.length : Int) + 1) = ((pre ++ [asc a r.length]).length : Int) := by rw [wid (by omega) (by omega)]; simp
    have hs : (pre ++ r :: rs).set (pre.length : Int).toNat (asc a r.length) = (pre ++ [asc a r.length]) ++ rs := by rw [Int.toNat_natCast]; simp
    have q := ih (pre ++ [asc a r.length]) (a + (r.length : Int)) (by simp; omega) (fun x hx => hr x (by simp [hx])) (by omega) (by omega)
    refine ev_succ ?_
    simp only [laws_markIntSS.l0]
    rw [rd_mid, hw]
    refine ev_pos (by simp; omega) (ev_pos (by omega) (ev_bind (mark_ev r a h0 (by omega) (by omega)) ?_))
    simp only [hs]
    refine ev_cast q ?_
    simp [tot, mkS, Int.add_assoc]
theorem markSS_ev (rs : List (List Int)) (a : Int) (hl : rs.length ≤ 1048576) (hr : ∀ r ∈ rs, r.length ≤ 1048576) (h0 : 0 ≤ a) (ha : a ≤ 17592186044416) : Ev (fun k => laws_markIntSS.f k rs a) (a + tot rs, mkS a rs) := by
  have h := tot_in rs hr
  unfold laws_markIntSS.f
  exact markSS_l0 rs [] a (by simpa using hl) hr h0 (by omega)
theorem heldSS_l0 (post : List (List Int)) : ∀ (pre : List (List Int)) (a : Int), (pre ++ post).length ≤ 1048576 → (∀ r ∈ post, r.length ≤ 1048576) → 0 ≤ a → a + tot post ≤ 35184372088832 →
    Ev (fun k => laws_heldIntSS.l0 k (pre ++ mkS a post) a (pre.length : Int)) (a + tot post) := by
  induction post with
  | nil =>
    intro pre a hl hr h0 ha
    refine ev_succ ?_
    simp only [laws_heldIntSS.l0, List.append_nil, tot, mkS, Int.add_zero]
    exact ev_neg (by omega) (ev_some _)
  | cons r rs ih =>
    intro pre a hl hr h0 ha
    have h1 := hr r (by simp)
    have h2 := tot_in rs fun x hx => hr x (by simp [hx])
    simp only [List.length_append, List.length_cons] at hl
    simp only [tot] at ha
    have hw : wrap64 ((pre.length : Int) + 1) = ((pre ++ [asc a r.length]).length : Int) := by rw [wid (by omega) (by omega)]; simp
    have q := ih (pre ++ [asc a r.length]) (a + (r.length : Int)) (by simp; omega) (fun x hx => hr x (by simp [hx])) (by omega) (by omega)
    refine ev_succ ?_
    simp only [laws_heldIntSS.l0, mkS]
    rw [rd_mid, hw]
    refine ev_pos (by simp; omega) (ev_pos (by omega) (ev_bind (held_ev a r.length h0 (by omega) (by omega)) (ev_neg (by omega) ?_)))
    rw [show pre ++ asc a r.length :: mkS (a + (r.length : Int)) rs = (pre ++ [asc a r.length]) ++ mkS (a + (r.length : Int)) rs by simp]
    refine ev_cast q ?_
    simp [tot, Int.add_assoc]
theorem heldSS_ev (rs : List (List Int)) (hl : rs.length ≤ 1048576) (hr : ∀ r ∈ rs, r.length ≤ 1048576) : Ev (fun k => laws_heldIntSS.f k (mkS 1 rs) 1) (1 + tot rs) := by
  have h := tot_in rs hr
  unfold laws_heldIntSS.f
  exact heldSS_l0 rs [] 1 (by simpa using hl) hr (by omega) (by omega)
/-- The case of a stage. -/
def stage (need : List Int) (a b : Int) : List Int × List Int × List Int × List Int := (need, List.replicate need.length a, List.replicate need.length 0, List.replicate need.length b)
theorem even_l0 (need Z : List Int) (a b : Int) (n : Nat) (h6 : n ≤ 6) (d : Nat) : ∀ i : Nat, i + d = n → Ev (fun k => impl_evenCase.l0 k a b (n : Int) (i : Int) need (List.replicate i a) Z (List.replicate i b)) (need, List.replicate n a, Z, List.replicate n b) := by
  induction d with
  | zero =>
    intro i hi
    refine ev_succ ?_
    simp only [impl_evenCase.l0]
    refine ev_neg (by omega) (ev_cast (ev_some _) ?_)
    rw [show i = n by omega]
  | succ d ih =>
    intro i hi
    have hw : wrap64 ((i : Int) + 1) = ((i + 1 : Nat) : Int) := by rw [wid (by omega) (by omega)]; omega
    have q := ih (i + 1) (by omega)
    rw [List.replicate_succ', List.replicate_succ'] at q
    have l2 : (List.replicate i a).length + [a].length < 17592186044416 := by simp only [List.length_replicate, List.length_cons, List.length_nil]; omega
    have l4 : (List.replicate i b).length + [b].length < 17592186044416 := by simp only [List.length_replicate, List.length_cons, List.length_nil]; omega
    refine ev_succ ?_
    simp only [impl_evenCase.l0, Option.bind_some]
    rw [hw]
    exact ev_pos (by omega) (ev_pos l2 (ev_pos l4 q))
theorem even_ev (need : List Int) (a b : Int) (h6 : need.length ≤ 6) : Ev (fun k => impl_evenCase.f k need a b) (stage need a b) := by
  unfold impl_evenCase.f
  have hc : impl_copied.f need = some need := by
    unfold impl_copied.f
    simp only [Option.bind_some, List.nil_append, List.length_nil]
    rw [if_pos (by omega)]
  rw [hc]
  simp only [Option.bind_some, Int.toNat_natCast]
  refine ev_pos (by omega) (ev_pos (by omega) ?_)
  exact even_l0 need (List.replicate need.length 0) a b need.length h6 need.length 0 (by omega)

theorem has_l0 (xs : List Int) (y : Int) (hn : xs.length ≤ 35184372088832) (d : Nat) : ∀ i : Nat, i + d = xs.length → Ev (fun k => spec_l1Has.l0 k xs y (i : Int)) (decide (y ∈ xs.drop i)) := by
  induction d with
  | zero =>
    intro i hi
    refine ev_succ ?_
    simp only [spec_l1Has.l0]
    refine ev_neg (by omega) (ev_false ?_)
    rw [List.drop_of_length_le (by omega)]
    simp
  | succ d ih =>
    intro i hi
    have hw : wrap64 ((i : Int) + 1) = ((i + 1 : Nat) : Int) := by rw [wid (by omega) (by omega)]; omega
    refine ev_succ ?_
    simp only [spec_l1Has.l0]
    rw [hw, drop_rd xs i (by omega)]
    refine ev_pos (by omega) (ev_pos (by omega) ?_)
    by_cases c : rd xs (i : Int) = y
    · exact ev_pos c (ev_true (by rw [c]; simp))
    · exact ev_neg c (ev_dec (ih (i + 1) (by omega)) (by rw [List.mem_cons]; exact ⟨Or.inr, fun x => x.elim (fun e => absurd e.symm c) id⟩))
theorem has_ev (xs : List Int) (y : Int) (hn : xs.length ≤ 35184372088832) : Ev (fun k => spec_l1Has.f k xs y) (decide (y ∈ xs)) := by
  unfold spec_l1Has.f
  have := has_l0 xs y hn xs.length 0 (by omega)
  simpa using this
theorem index_l0 (xs : List Int) (y : Int) (hn : xs.length ≤ 35184372088832) (d : Nat) : ∀ i : Nat, i + d = xs.length → ∃ r, Ev (fun k => slices_Index_int_int.l0 k xs y (xs.length : Int) (i : Int)) r ∧ (r ≥ 0 ↔ y ∈ xs.drop i) := by
  induction d with
  | zero =>
    intro i hi
    refine ⟨-1, ev_succ ?_, ?_⟩
    · simp only [slices_Index_int_int.l0]
      exact ev_neg (by omega) (ev_some _)
    · rw [List.drop_of_length_le (by omega)]
      simp
  | succ d ih =>
    intro i hi
    have hw : wrap64 ((i : Int) + 1) = ((i + 1 : Nat) : Int) := by rw [wid (by omega) (by omega)]; omega
    rw [drop_rd xs i (by omega)]
    by_cases c : y = rd xs (i : Int)
    · refine ⟨(i : Int), ev_succ ?_, ?_⟩
      · simp only [slices_Index_int_int.l0]
        exact ev_pos (by omega) (ev_pos (by omega) (ev_pos (by omega) (ev_pos c (ev_some _))))
      · simp [c]
    · obtain ⟨r, h1, h2⟩ := ih (i + 1) (by omega)
      refine ⟨r, ev_succ ?_, ?_⟩
      · simp only [slices_Index_int_int.l0]
        rw [hw]
        exact ev_pos (by omega) (ev_pos (by omega) (ev_pos (by omega) (ev_neg c h1)))
      · rw [h2]
        simp [c]
theorem contains_ev (xs : List Int) (y : Int) (hn : xs.length ≤ 35184372088832) : Ev (fun k => slices_Contains_int_int.f k xs y) (decide (y ∈ xs)) := by
  unfold slices_Contains_int_int.f slices_Index_int_int.f
  obtain ⟨r, h1, h2⟩ := index_l0 xs y hn xs.length 0 (by omega)
  refine ev_bind h1 (ev_cast (ev_some _) ?_)
  rw [List.drop_zero] at h2
  rw [decide_eq_decide]
  exact h2
/-- All numbers of a list from a place on lie in another one. -/
def subB (P Q : List Int) : Bool := decide (∀ y ∈ P, y ∈ Q)
theorem within7_l0 (P Q : List Int) (hp : P.length ≤ 35184372088832) (hq : Q.length ≤ 35184372088832) (d : Nat) : ∀ i : Nat, i + d = P.length → Ev (fun k => spec_l7Within.l0 k P Q (i : Int)) (subB (P.drop i) Q) := by
  induction d with
  | zero =>
    intro i hi
    refine ev_succ ?_
    simp only [spec_l7Within.l0, subB]
    refine ev_neg (by omega) (ev_true ?_)
    rw [List.drop_of_length_le (by omega)]
    simp
  | succ d ih =>
    intro i hi
    have hw : wrap64 ((i : Int) + 1) = ((i + 1 : Nat) : Int) := by rw [wid (by omega) (by omega)]; omega
    have q := ih (i + 1) (by omega)
    refine ev_succ ?_
    simp only [spec_l7Within.l0]
    rw [hw, drop_rd P i (by omega)]
    refine ev_pos (by omega) (ev_pos (by omega) (ev_bind (has_ev Q _ hq) ?_))
    by_cases c : rd P (i : Int) ∈ Q
    · refine ev_pos (decide_eq_true c) (ev_cast q ?_)
      simp [subB, c]
    · refine ev_neg (by rw [decide_eq_true_eq]; exact c) (ev_cast (ev_some _) ?_)
      simp [subB, c]
theorem within7_ev (P Q : List Int) (hp : P.length ≤ 35184372088832) (hq : Q.length ≤ 35184372088832) : Ev (fun k => spec_l7Within.f k P Q) (subB P Q) := by
  unfold spec_l7Within.f
  have := within7_l0 P Q hp hq P.length 0 (by omega)
  simpa using this
/-- Chain periods: each row rises, and holds the one ahead of it; from a row on. -/
def perB (top : Int) (pl : List (List Int)) : Nat → Nat → Bool
  | 0, _ => true
  | d + 1, s => risB (rd_L1 pl (s : Int)) top (rd_L1 pl (s : Int)).length 0 && (decide (s = 0) || subB (rd_L1 pl ((s - 1 : Nat) : Int)) (rd_L1 pl (s : Int))) && perB top pl d (s + 1)
theorem perB_at {top : Int} {pl : List (List Int)} (d : Nat) : ∀ s : Nat, perB top pl d s = true → ∀ j : Nat, s ≤ j → j < s + d → risB (rd_L1 pl (j : Int)) top (rd_L1 pl (j : Int)).length 0 = true := by
  induction d with
  | zero => intro s _ j h1 h2; omega
  | succ d ih =>
    intro s h j h1 h2
    simp only [perB, Bool.and_eq_true] at h
    by_cases e : j = s
    · rw [e]; exact h.1.1
    · exact ih (s + 1) h.2 j (by omega) (by omega)
section
variable {need m h : List Int} {pl : List (List Int)} (h6 : need.length ≤ 6) (hp : pl.length ≤ 1048576) (hr : ∀ r ∈ pl, r.length ≤ 1048576)
include h6 hp hr
omit h6 hp in
theorem rowLen (s : Nat) (hs : s < pl.length) : (rd_L1 pl (s : Int)).length ≤ 35184372088832 := by
  have := hr _ (rd_L1_mem pl s hs)
  omega
theorem specPer_l0 (d : Nat) : ∀ s : Nat, s + d = pl.length → Ev (fun k => spec_l7Periods.l0 k pl (s : Int) need m h) (perB ((need.length : Int) - 1) pl d s && ((pl.length : Int) == (m.length : Int))) := by
  induction d with
  | zero =>
    intro s hs
    refine ev_succ ?_
    simp only [spec_l7Periods.l0, perB, Bool.true_and]
    exact ev_neg (by omega) (ev_some _)
  | succ d ih =>
    intro s hs
    have hw : wrap64 ((s : Int) + 1) = ((s + 1 : Nat) : Int) := by rw [wid (by omega) (by omega)]; omega
    have hw0 : wrap64 ((need.length : Int) - 1) = (need.length : Int) - 1 := wid (by omega) (by omega)
    have l1 := rowLen hr s (by omega)
    have q := ih (s + 1) (by omega)
    refine ev_succ ?_
    simp only [spec_l7Periods.l0, perB]
    rw [hw, hw0]
    refine ev_pos (by omega) (ev_pos (by omega) (ev_bind (specRising_ev _ _ l1) ?_))
    cases c : risB (rd_L1 pl (s : Int)) ((need.length : Int) - 1) (rd_L1 pl (s : Int)).length 0 with
    | false => exact ev_neg (by simp) (ev_some _)
    | true =>
      refine ev_pos rfl ?_
      by_cases z : s = 0
      · refine ev_neg (by omega) (ev_cast q ?_)
        simp [z]
      · have hw2 : wrap64 ((s : Int) - 1) = ((s - 1 : Nat) : Int) := by rw [wid (by omega) (by omega)]; omega
        have l2 := rowLen hr (s - 1) (by omega)
        rw [hw2]
        refine ev_pos (by omega) (ev_pos (by omega) (ev_pos (by omega) (ev_bind (within7_ev _ _ l2 l1) ?_)))
        cases c2 : subB (rd_L1 pl ((s - 1 : Nat) : Int)) (rd_L1 pl (s : Int)) with
        | false =>
          refine ev_neg (by simp) (ev_cast (ev_some _) ?_)
          simp [z]
        | true =>
          refine ev_pos rfl (ev_cast q ?_)
          simp
theorem specPer_ev : Ev (fun k => spec_l7Periods.f k need m h pl) (perB ((need.length : Int) - 1) pl pl.length 0 && ((pl.length : Int) == (m.length : Int))) := by
  unfold spec_l7Periods.f
  exact specPer_l0 h6 hp hr pl.length 0 (by omega)
omit hp hr in
theorem arePer_l0 (P b c e : List Int) (hP : P.length ≤ 35184372088832) (d : Nat) : ∀ i : Nat, i + d = P.length → Ev (fun k => impl_Case_arePeriods.l0 k P P (P.length : Int) (i : Int) need b c e) (risB P ((need.length : Int) - 1) d i) := by
  have hw0 : wrap64 ((need.length : Int) - 1) = (need.length : Int) - 1 := wid (by omega) (by omega)
  induction d with
  | zero =>
    intro i hi
    refine ev_succ ?_
    simp only [impl_Case_arePeriods.l0, risB]
    exact ev_neg (by omega) (ev_some _)
  | succ d ih =>
    intro i hi
    have hw : wrap64 ((i : Int) + 1) = ((i + 1 : Nat) : Int) := by rw [wid (by omega) (by omega)]; omega
    refine ev_succ ?_
    simp only [impl_Case_arePeriods.l0, within_eq, Option.bind_some, risB]
    rw [hw, hw0]
    refine ev_pos (by omega) (ev_pos (by omega) (ev_pos (by omega) ?_))
    by_cases c : 0 ≤ rd P (i : Int) ∧ rd P (i : Int) ≤ (need.length : Int) - 1
    · rw [if_pos c]
      refine ev_pos (decide_eq_true c) ?_
      by_cases c2 : 0 < i
      · have hw2 : wrap64 ((i : Int) - 1) = ((i - 1 : Nat) : Int) := by rw [wid (by omega) (by omega)]; omega
        rw [if_pos c2, hw2]
        refine ev_pos (by omega) (ev_pos (by omega) (ev_pos (by omega) ?_))
        by_cases c3 : rd P ((i - 1 : Nat) : Int) ≥ rd P (i : Int)
        · rw [if_pos c3]
          exact ev_pos c3 (ev_some _)
        · rw [if_neg c3]
          exact ev_neg c3 (ih (i + 1) (by omega))
      · rw [if_neg c2]
        exact ev_neg (by omega) (ih (i + 1) (by omega))
    · rw [if_neg c]
      exact ev_neg (by rw [decide_eq_true_eq]; exact c) (ev_some _)
omit hp hr in
theorem arePer_ev (P b c e : List Int) (hP : P.length ≤ 35184372088832) : Ev (fun k => impl_Case_arePeriods.f k need b c e P) (risB P ((need.length : Int) - 1) P.length 0) := by
  unfold impl_Case_arePeriods.f
  exact arePer_l0 h6 P b c e hP P.length 0 (by omega)
end

/-- No need stands ahead of the first period; from a period on. -/
def fedB (need P : List Int) : Nat → Nat → Bool
  | 0, _ => true
  | d + 1, t => if rd need (t : Int) > 0 then (if (P.length : Int) > 0 then decide (rd P 0 ≤ (t : Int)) else false) else fedB need P d (t + 1)
theorem fedB_true (need P : List Int) (hP : 0 < P.length) (d : Nat) : ∀ t : Nat, rd P 0 ≤ (t : Int) → fedB need P d t = true := by
  induction d with
  | zero => intro t _; rfl
  | succ d ih =>
    intro t h
    simp only [fedB]
    by_cases c : rd need (t : Int) > 0
    · rw [if_pos c, if_pos (by omega)]
      exact decide_eq_true h
    · rw [if_neg c]
      exact ih (t + 1) (by omega)
theorem fed_l0 (need P : List Int) (h6 : need.length ≤ 6) (d : Nat) : ∀ t : Nat, t + d = need.length → Ev (fun k => spec_l7Fed.l0 k need P (t : Int)) (fedB need P d t) := by
  induction d with
  | zero =>
    intro t ht
    refine ev_succ ?_
    simp only [spec_l7Fed.l0, fedB]
    exact ev_neg (by omega) (ev_some _)
  | succ d ih =>
    intro t ht
    have hw : wrap64 ((t : Int) + 1) = ((t + 1 : Nat) : Int) := by rw [wid (by omega) (by omega)]; omega
    refine ev_succ ?_
    simp only [spec_l7Fed.l0, fedB]
    rw [hw]
    refine ev_pos (by omega) (ev_pos (by omega) ?_)
    by_cases c : rd need (t : Int) > 0
    · rw [if_pos c]
      refine ev_pos c ?_
      by_cases c2 : (P.length : Int) > 0
      · exact ev_pos c2 (ev_pos c2 (ev_cast (ev_some _) (if_pos c2).symm))
      · exact ev_neg c2 (ev_cast (ev_some _) (if_neg c2).symm)
    · rw [if_neg c]
      exact ev_neg c (ih (t + 1) (by omega))
theorem fed_ev (need P : List Int) (h6 : need.length ≤ 6) : Ev (fun k => spec_l7Fed.f k need P) (fedB need P need.length 0) := by
  unfold spec_l7Fed.f
  exact fed_l0 need P h6 need.length 0 (by omega)

/-- Where a period's amount ends. -/
def endOf (n : Nat) (P : List Int) (i : Nat) : Nat := if i + 1 < P.length then (rd P ((i + 1 : Nat) : Int)).toNat else n
def part (need : List Int) (a b : Nat) : Int := ((need.take b).drop a).sum
/-- The amounts of the first periods. -/
def rowUp (need P : List Int) : Nat → List Int
  | 0 => List.replicate need.length 0
  | i + 1 => (rowUp need P i).set (rd P (i : Int)).toNat (part need (rd P (i : Int)).toNat (endOf need.length P i))
theorem rowUp_length (need P : List Int) (i : Nat) : (rowUp need P i).length = need.length := by
  induction i with
  | zero => simp [rowUp]
  | succ i ih => simp [rowUp, ih]
def Ris (P : List Int) (n : Nat) : Prop := (∀ j : Nat, j < P.length → 0 ≤ rd P (j : Int) ∧ rd P (j : Int) < (n : Int)) ∧ ∀ j : Nat, j + 1 < P.length → rd P (j : Int) < rd P ((j + 1 : Nat) : Int)
theorem risB_up {xs : List Int} {top : Int} (d : Nat) : ∀ i : Nat, i + d = xs.length → risB xs top d i = true → ∀ j : Nat, i ≤ j + 1 → j + 1 < xs.length → rd xs (j : Int) < rd xs ((j + 1 : Nat) : Int) := by
  induction d with
  | zero => intro i hi h j h1 h2; omega
  | succ d ih =>
    intro i hi h j h1 h2
    simp only [risB] at h
    by_cases c : 0 ≤ rd xs (i : Int) ∧ rd xs (i : Int) ≤ top
    · rw [if_pos c] at h
      by_cases z : 0 < i
      · rw [if_pos z] at h
        by_cases c3 : rd xs ((i - 1 : Nat) : Int) ≥ rd xs (i : Int)
        · rw [if_pos c3] at h
          exact absurd h (by simp)
        · rw [if_neg c3] at h
          by_cases e : j + 1 = i
          · rw [← e] at c3
            simp only [Nat.add_sub_cancel] at c3
            omega
          · exact ih (i + 1) (by omega) h j (by omega) h2
      · rw [if_neg z] at h
        exact ih (i + 1) (by omega) h j (by omega) h2
    · rw [if_neg c] at h
      exact absurd h (by simp)
theorem ris_of {P : List Int} {n : Nat} (h : risB P ((n : Int) - 1) P.length 0 = true) : Ris P n :=
  ⟨fun j hj => by have := risB_in P.length 0 (by omega) h j (by omega) hj; omega, fun j hj => risB_up P.length 0 (by omega) h j (by omega) hj⟩
theorem ris_lt {P : List Int} {n : Nat} (h : Ris P n) (d : Nat) : ∀ j : Nat, j + d + 1 < P.length → rd P (j : Int) < rd P ((j + d + 1 : Nat) : Int) := by
  induction d with
  | zero => intro j hj; exact h.2 j hj
  | succ d ih =>
    intro j hj
    have h1 := ih j (by omega)
    have h2 := h.2 (j + d + 1) (by omega)
    rw [show j + (d + 1) + 1 = j + d + 1 + 1 by omega]
    omega
theorem ris_mono {P : List Int} {n : Nat} (h : Ris P n) (i j : Nat) (hij : i < j) (hj : j < P.length) : rd P (i : Int) < rd P (j : Int) := by
  have := ris_lt h (j - i - 1) i (by omega)
  rwa [show i + (j - i - 1) + 1 = j by omega] at this
theorem ris_len {P : List Int} {n : Nat} (h : Ris P n) (i : Nat) (hi : i < P.length) : (i : Int) ≤ rd P (i : Int) := by
  induction i with
  | zero => exact (h.1 0 hi).1
  | succ i ih =>
    have := ih (by omega)
    have := h.2 i hi
    omega
theorem endOf_le {P : List Int} {n : Nat} (h : Ris P n) (i : Nat) (hi : i < P.length) : rd P (i : Int) ≤ (endOf n P i : Int) ∧ endOf n P i ≤ n := by
  unfold endOf
  have h1 := h.1 i hi
  by_cases c : i + 1 < P.length
  · rw [if_pos c]
    have h2 := h.2 i c
    have h3 := h.1 (i + 1) c
    omega
  · rw [if_neg c]
    omega
section
variable {need P : List Int} (h6 : need.length ≤ 6) (hN : ∀ x ∈ need, 0 ≤ x ∧ x ≤ 20) (hR : Ris P need.length)
include h6 hN hR
omit hR in
theorem part_sum64 (a b : Nat) : ∀ i, -9223372036854775808 ≤ ((((need.take b).drop a)).take i).sum ∧ ((((need.take b).drop a)).take i).sum ≤ 9223372036854775807 :=
  take_sum64 (b := 20) (by omega) (by omega) (fun x hx => hN x (List.mem_of_mem_take (List.mem_of_mem_drop hx))) (by rw [List.length_drop, List.length_take]; omega)
omit hR in
theorem part_ev (a b : Nat) : Ev (fun k => spec_l2Sum.f k ((need.take b).drop a)) (part need a b) := l2Sum_ev _ (by rw [List.length_drop, List.length_take]; omega) (part_sum64 h6 hN a b)
theorem row_l0 (d : Nat) : ∀ i : Nat, i + d = P.length → Ev (fun k => spec_l7Row.l0 k need P (rowUp need P i) (i : Int)) (rowUp need P P.length) := by
  induction d with
  | zero =>
    intro i hi
    refine ev_succ ?_
    simp only [spec_l7Row.l0]
    refine ev_neg (by omega) (ev_cast (ev_some _) ?_)
    rw [show i = P.length by omega]
  | succ d ih =>
    intro i hi
    have b := hR.1 i (by omega)
    have l := ris_len hR i (by omega)
    have hw : wrap64 ((i : Int) + 1) = ((i + 1 : Nat) : Int) := by rw [wid (by omega) (by omega)]; omega
    have q := ih (i + 1) (by omega)
    have e := endOf_le hR i (by omega)
    have pe := part_ev h6 hN (rd P (i : Int)).toNat (endOf need.length P i)
    simp only [rowUp] at q
    have ll := rowUp_length need P i
    refine ev_succ ?_
    simp only [spec_l7Row.l0]
    rw [hw]
    refine ev_pos (by omega) ?_
    by_cases c : i + 1 < P.length
    · have b2 := hR.1 (i + 1) c
      unfold endOf at pe q e
      rw [if_pos c] at pe q e
      exact ev_pos (by omega) (ev_pos (by omega) (ev_pos (by omega) (ev_pos (by omega) (ev_pos (by omega) (ev_pos (by omega) (ev_bind pe (ev_pos (by omega) q)))))))
    · unfold endOf at pe q e
      rw [if_neg c] at pe q e
      exact ev_neg (by omega) (ev_pos (by omega) (ev_pos (by omega) (ev_pos (by omega) (ev_pos (by omega) (ev_bind (by rw [Int.toNat_natCast]; exact pe) (ev_pos (by omega) q))))))
theorem row_ev : Ev (fun k => spec_l7Row.f k need P) (rowUp need P P.length) := by
  unfold spec_l7Row.f
  refine ev_pos (by omega) (ev_pos (by omega) ?_)
  rw [Int.toNat_natCast]
  exact row_l0 h6 hN hR P.length 0 (by omega)

/-- The program's plan so far: c periods have begun, i needs have been added. -/
def cur (need P : List Int) (i : Nat) : Nat → List Int
  | 0 => List.replicate need.length 0
  | c + 1 => (rowUp need P c).set (rd P (c : Int)).toNat (part need (rd P (c : Int)).toNat i)
omit h6 hN hR in
theorem cur_length (i c : Nat) : (cur need P i c).length = need.length := by
  cases c with
  | zero => simp [cur]
  | succ c => simp [cur, rowUp_length]
omit h6 hN in
theorem rowUp_zero (c : Nat) : ∀ j : Nat, c ≤ P.length → (∀ q : Nat, q < c → rd P (q : Int) < (j : Int)) → rd (rowUp need P c) (j : Int) = 0 := by
  induction c with
  | zero =>
    intro j _ _
    unfold rd rowUp
    rw [Int.toNat_natCast, List.getD_eq_getElem?_getD]
    by_cases z : j < need.length
    · simp [z]
    · rw [List.getElem?_eq_none (by simp; omega)]
      rfl
  | succ c ih =>
    intro j hc hj
    have h1 := ih j (by omega) fun q hq => hj q (by omega)
    have h2 := hj c (by omega)
    have h3 := hR.1 c (by omega)
    unfold rd at h1 ⊢
    simp only [rowUp]
    rw [Int.toNat_natCast, List.getD_eq_getElem?_getD] at h1 ⊢
    rw [List.getElem?_set_ne (by omega)]
    exact h1
omit h6 hN hR in
theorem part_self (a : Nat) : part need a a = 0 := by
  unfold part
  rw [List.drop_of_length_le (by rw [List.length_take]; omega)]
  rfl
omit h6 hN hR in
theorem part_succ (a i : Nat) (ha : a ≤ i) (hi : i < need.length) : part need a (i + 1) = part need a i + rd need (i : Int) := by
  unfold part
  rw [List.take_succ_eq_append_getElem hi, List.drop_append, List.sum_append, rd_nat need i hi]
  rw [show a - (need.take i).length = 0 by rw [List.length_take]; omega]
  simp
omit h6 hN hR in
theorem set_rd (xs : List Int) (j : Nat) (v : Int) (h : rd xs (j : Int) = v) (hj : j < xs.length) : xs.set j v = xs := by
  rw [rd_nat xs j hj] at h
  rw [← h]
  simp
omit h6 hN in
/-- A period begins: the plan stays as it is. -/
theorem cur_begin (i c : Nat) (hi : i < need.length) (hc : c < P.length) (e : rd P (c : Int) = (i : Int)) : cur need P i c = cur need P i (c + 1) := by
  have z := rowUp_zero (need := need) hR c i (by omega) fun q hq => by have := ris_mono hR q c hq hc; omega
  simp only [cur]
  rw [e, Int.toNat_natCast, part_self, set_rd _ _ _ z (by rw [rowUp_length]; exact hi)]
  cases c with
  | zero => rfl
  | succ c =>
    simp only [rowUp]
    unfold endOf
    rw [if_pos (by omega), e, Int.toNat_natCast]
theorem cur_next (i c : Nat) (hi : i < need.length) (hc : c < P.length) (hle : rd P (c : Int) ≤ (i : Int)) :
    (cur need P i (c + 1)).set (rd P (c : Int)).toNat (wrap64 (rd (cur need P i (c + 1)) (rd P (c : Int)) + rd need (i : Int))) = cur need P (i + 1) (c + 1) := by
  have b := hR.1 c hc
  have s := part_sum64 h6 hN (rd P (c : Int)).toNat (i + 1) need.length
  rw [List.take_of_length_le (by rw [List.length_drop, List.length_take]; omega)] at s
  have s : -9223372036854775808 ≤ part need (rd P (c : Int)).toNat (i + 1) ∧ part need (rd P (c : Int)).toNat (i + 1) ≤ 9223372036854775807 := s
  have e := part_succ (need := need) (rd P (c : Int)).toNat i (by omega) hi
  have r : rd (cur need P i (c + 1)) (rd P (c : Int)) = part need (rd P (c : Int)).toNat i := by
    have e2 : rd P (c : Int) = (((rd P (c : Int)).toNat : Nat) : Int) := by omega
    simp only [cur]
    generalize (rd P (c : Int)).toNat = a at e2 ⊢
    rw [e2, rd_nat _ a (by rw [List.length_set, rowUp_length]; omega)]
    simp
  rw [r, ← e, wid s.1 s.2]
  simp only [cur, List.set_set]
theorem plan_ans (b c e : List Int) (d : Nat) : ∀ i q : Nat, i + d = need.length → q ≤ P.length → (∀ j : Nat, j < q → rd P (j : Int) < (i : Int)) → (∀ j : Nat, q ≤ j → j < P.length → (i : Int) ≤ rd P (j : Int)) →
    Ev (fun k => impl_Case_planFrom.l0 k P (cur need P i q) (q : Int) need (need.length : Int) (i : Int)) (if 0 < q ∨ fedB need P d i = true then (rowUp need P P.length, true) else ([], false)) := by
  induction d with
  | zero =>
    intro i q hi hq h1 h2
    have e1 : q = P.length := by
      by_cases z : q < P.length
      · have := h2 q (by omega) z
        have := hR.1 q z
        omega
      · omega
    refine ev_succ ?_
    simp only [impl_Case_planFrom.l0]
    refine ev_neg (by omega) (ev_cast (ev_some _) ?_)
    rw [if_pos (show 0 < q ∨ fedB need P 0 i = true from Or.inr rfl)]
    congr 1
    subst e1
    cases hl : P.length with
    | zero => rfl
    | succ c =>
      simp only [cur, rowUp]
      unfold endOf
      rw [if_neg (by omega), show i = need.length by omega]
  | succ d ih =>
    intro i q hi hq h1 h2
    have hw : wrap64 ((i : Int) + 1) = ((i + 1 : Nat) : Int) := by rw [wid (by omega) (by omega)]; omega
    have hql : q ≤ 6 := by
      by_cases z : q = 0
      · omega
      · have g1 := ris_len hR (q - 1) (by omega)
        have g2 := h1 (q - 1) (by omega)
        omega
    have hq1 : wrap64 ((q : Int) + 1) = ((q + 1 : Nat) : Int) := by rw [wid (by omega) (by omega)]; omega
    have some_ : ∀ c : Nat, c < P.length → (∀ j : Nat, j < c + 1 → rd P (j : Int) ≤ (i : Int)) → (∀ j : Nat, c + 1 ≤ j → j < P.length → (i : Int) < rd P (j : Int)) → c ≤ 6 →
        Ev (fun k => impl_Case_planFrom.j2 k P (cur need P i (c + 1)) ((c + 1 : Nat) : Int) (rd need (i : Int)) need (need.length : Int) (i : Int)) (rowUp need P P.length, true) := by
      intro c hc g1 g2 hc6
      have b := hR.1 c hc
      have g3 := g1 c (by omega)
      have hc1 : wrap64 (((c + 1 : Nat) : Int) - 1) = (c : Int) := by rw [wid (by omega) (by omega)]; omega
      have p := ih (i + 1) (c + 1) (by omega) (by omega) (fun j hj => by have := g1 j hj; omega) (fun j hj hj2 => by have := g2 j hj hj2; omega)
      rw [if_pos (Or.inl (by omega)), ← cur_next h6 hN hR i c (by omega) hc g3] at p
      refine ev_succ ?_
      simp only [impl_Case_planFrom.j2]
      rw [hc1, hw]
      exact ev_neg (by omega) (ev_pos (by omega) (ev_pos (by omega) (ev_pos (by omega) (ev_pos (by rw [cur_length]; omega) p))))
    have stay : (∀ j : Nat, q ≤ j → j < P.length → (i : Int) < rd P (j : Int)) →
        Ev (fun k => impl_Case_planFrom.j2 k P (cur need P i q) (q : Int) (rd need (i : Int)) need (need.length : Int) (i : Int)) (if 0 < q ∨ fedB need P (d + 1) i = true then (rowUp need P P.length, true) else ([], false)) := by
      intro g
      by_cases z : q = 0
      · subst z
        refine ev_succ ?_
        simp only [impl_Case_planFrom.j2]
        rw [hw]
        refine ev_pos rfl ?_
        by_cases c : rd need (i : Int) > 0
        · refine ev_pos c (ev_cast (ev_some _) ?_)
          rw [if_neg]
          intro x
          rcases x with x | x
          · omega
          · simp only [fedB] at x
            rw [if_pos c] at x
            by_cases c2 : (P.length : Int) > 0
            · rw [if_pos c2] at x
              have x := of_decide_eq_true x
              have y := g 0 (by omega) (by omega)
              rw [Int.natCast_zero] at y
              omega
            · rw [if_neg c2] at x
              exact absurd x (by simp)
        · have p := ih (i + 1) 0 (by omega) (by omega) (fun j hj => by omega) (fun j hj hj2 => by have := g j hj hj2; omega)
          have e : fedB need P (d + 1) i = fedB need P d (i + 1) := by
            simp only [fedB]
            rw [if_neg c]
          rw [e]
          exact ev_neg c p
      · obtain ⟨c, rfl⟩ : ∃ c, q = c + 1 := ⟨q - 1, by omega⟩
        rw [if_pos (Or.inl (by omega))]
        exact some_ c (by omega) (fun j hj => by have := h1 j hj; omega) g (by omega)
    refine ev_succ ?_
    simp only [impl_Case_planFrom.l0]
    refine ev_pos (by omega) (ev_pos (by omega) (ev_pos (by omega) ?_))
    by_cases z : q < P.length
    · refine ev_pos (by omega) (ev_pos (by omega) (ev_succ ?_))
      simp only [impl_Case_planFrom.j1]
      by_cases e1 : rd P (q : Int) = (i : Int)
      · refine ev_pos (by rw [beq_iff_eq]; exact e1) ?_
        rw [hq1, cur_begin hR i q (by omega) z e1]
        refine ev_cast (some_ q z (fun j hj => ?_) (fun j hj hj2 => by have := ris_mono hR q j (by omega) hj2; omega) hql) ?_
        · by_cases ej : j = q
          · rw [ej]; omega
          · have := h1 j (by omega); omega
        · rw [if_pos]
          refine Or.inr (fedB_true need P (by omega) (d + 1) i ?_)
          by_cases q0 : q = 0
          · subst q0
            rw [Int.natCast_zero] at e1
            omega
          · have := h1 0 (by omega)
            rw [Int.natCast_zero] at this
            omega
      · refine ev_neg (by rw [beq_iff_eq]; exact e1) (stay fun j hj hj2 => ?_)
        by_cases ej : j = q
        · have := h2 q (by omega) z
          rw [ej]
          omega
        · have g1 := ris_mono hR q j (by omega) hj2
          have g2 := h2 q (by omega) z
          omega
    · refine ev_neg (by omega) (ev_succ ?_)
      simp only [impl_Case_planFrom.j1]
      exact ev_neg (by simp) (stay fun j hj hj2 => by omega)
theorem plan_ev (b c e : List Int) : Ev (fun k => impl_Case_planFrom.f k need b c e P) (if fedB need P need.length 0 = true then (rowUp need P P.length, true) else ([], false)) := by
  unfold impl_Case_planFrom.f
  refine ev_pos (by omega) (ev_pos (by omega) ?_)
  rw [Int.toNat_natCast]
  have := plan_ans h6 hN hR b c e need.length 0 0 (by omega) (by omega) (fun j hj => by omega) (fun j _ hj => by have := hR.1 j hj; omega)
  refine ev_cast this ?_
  simp
end

/-- The rows of a nested plan, from a row on. -/
def rowsB (need : List Int) (pl : List (List Int)) : Nat → Nat → List (List Int) → List (List Int) × Bool
  | 0, _, T => (T, true)
  | d + 1, s, T => if fedB need (rd_L1 pl (s : Int)) need.length 0 = true then rowsB need pl d (s + 1) (T ++ [rowUp need (rd_L1 pl (s : Int)) (rd_L1 pl (s : Int)).length]) else ([], false)
theorem rowsB_in (need : List Int) (pl : List (List Int)) (h6 : need.length ≤ 6) (d : Nat) : ∀ (s : Nat) (T : List (List Int)), T.length + d ≤ 3 → (∀ r ∈ T, r.length ≤ 6) → (rowsB need pl d s T).1.length ≤ 3 ∧ ∀ r ∈ (rowsB need pl d s T).1, r.length ≤ 6 := by
  induction d with
  | zero => intro s T hT hr; exact ⟨hT, hr⟩
  | succ d ih =>
    intro s T hT hr
    simp only [rowsB]
    by_cases c : fedB need (rd_L1 pl (s : Int)) need.length 0 = true
    · rw [if_pos c]
      refine ih (s + 1) _ (by simp; omega) fun r hx => ?_
      rcases List.mem_append.mp hx with hx | hx
      · exact hr r hx
      · rw [List.mem_singleton] at hx
        rw [hx, rowUp_length]
        exact h6
    · rw [if_neg c]
      simp
section
variable {need m h : List Int} {pl : List (List Int)} (h6 : need.length ≤ 6) (hN : ∀ x ∈ need, 0 ≤ x ∧ x ≤ 20) (hp : pl.length ≤ 3) (hr : ∀ s : Nat, s < pl.length → Ris (rd_L1 pl (s : Int)) need.length)
include h6 hN hp hr
theorem specNP_l0 (d : Nat) : ∀ (s : Nat) (T : List (List Int)), s + d = pl.length → T.length = s → Ev (fun k => spec_NestedPlan.l0 k pl T (s : Int) need m h) (rowsB need pl d s T) := by
  induction d with
  | zero =>
    intro s T hs hT
    refine ev_succ ?_
    simp only [spec_NestedPlan.l0, rowsB]
    exact ev_neg (by omega) (ev_some _)
  | succ d ih =>
    intro s T hs hT
    have hw : wrap64 ((s : Int) + 1) = ((s + 1 : Nat) : Int) := by rw [wid (by omega) (by omega)]; omega
    refine ev_succ ?_
    simp only [spec_NestedPlan.l0, rowsB]
    rw [hw]
    refine ev_pos (by omega) (ev_pos (by omega) (ev_bind (fed_ev need _ h6) ?_))
    by_cases c : fedB need (rd_L1 pl (s : Int)) need.length 0 = true
    · rw [if_pos c]
      exact ev_pos c (ev_bind (row_ev h6 hN (hr s (by omega))) (ev_pos (by omega) (ih (s + 1) _ (by omega) (by simp [hT]))))
    · rw [if_neg c]
      exact ev_neg c (ev_some _)
theorem nested_l0 (d : Nat) : ∀ (s : Nat) (T : List (List Int)), s + d = pl.length → T.length = s → Ev (fun k => impl_Chain_nested.l0 k T pl (pl.length : Int) (s : Int) need m h) (rowsB need pl d s T) := by
  induction d with
  | zero =>
    intro s T hs hT
    refine ev_succ ?_
    simp only [impl_Chain_nested.l0, rowsB]
    exact ev_neg (by omega) (ev_some _)
  | succ d ih =>
    intro s T hs hT
    have hw : wrap64 ((s : Int) + 1) = ((s + 1 : Nat) : Int) := by rw [wid (by omega) (by omega)]; omega
    have pe := plan_ev h6 hN (hr s (by omega)) (List.replicate need.length 0) (List.replicate need.length 0) (List.replicate need.length 0)
    refine ev_succ ?_
    simp only [impl_Chain_nested.l0, rowsB]
    rw [hw]
    refine ev_pos (by omega) (ev_pos (by omega) (ev_pos (by omega) (ev_bind (even_ev need 0 0 h6) (ev_bind pe ?_))))
    by_cases c : fedB need (rd_L1 pl (s : Int)) need.length 0 = true
    · rw [if_pos c, if_pos c]
      exact ev_pos rfl (ev_pos (by omega) (ih (s + 1) _ (by omega) (by simp [hT])))
    · rw [if_neg c, if_neg c]
      exact ev_neg (by simp) (ev_some _)
theorem nested_ev : Ev (fun k => impl_Chain_nested.f k need m h pl) (rowsB need pl pl.length 0 []) := by
  unfold impl_Chain_nested.f
  exact nested_l0 h6 hN hp hr pl.length 0 [] (by omega) rfl
end
section
variable {need m h : List Int} {pl : List (List Int)} (h6 : need.length ≤ 6) (hN : ∀ x ∈ need, 0 ≤ x ∧ x ≤ 20) (hp : pl.length ≤ 3) (hr : ∀ r ∈ pl, r.length ≤ 1048576)
include h6 hN hp hr
omit h6 hN in
theorem implNP_l1 (s : Nat) (hs : s < pl.length) (hz : 0 < s) {R : List (List Int) × Bool} (d : Nat) : ∀ i : Nat, i + d = (rd_L1 pl ((s - 1 : Nat) : Int)).length → (subB ((rd_L1 pl ((s - 1 : Nat) : Int)).drop i) (rd_L1 pl (s : Int)) = true → Ev (fun k => impl_NestedPlan.l0 k pl pl (pl.length : Int) ((s + 1 : Nat) : Int) need m h) R) →
    Ev (fun k => impl_NestedPlan.l1 k pl (rd_L1 pl (s : Int)) pl (pl.length : Int) (s : Int) (rd_L1 pl ((s - 1 : Nat) : Int)) ((rd_L1 pl ((s - 1 : Nat) : Int)).length : Int) (i : Int) need m h) (if subB ((rd_L1 pl ((s - 1 : Nat) : Int)).drop i) (rd_L1 pl (s : Int)) = true then R else ([], false)) := by
  have hw1 : wrap64 ((s : Int) + 1) = ((s + 1 : Nat) : Int) := by rw [wid (by omega) (by omega)]; omega
  have l1 := rowLen hr s hs
  have l2 := rowLen hr (s - 1) (by omega)
  generalize rd_L1 pl ((s - 1 : Nat) : Int) = P at l2
  induction d with
  | zero =>
    intro i hi hR
    have e : subB (P.drop i) (rd_L1 pl (s : Int)) = true := by
      rw [List.drop_of_length_le (by omega)]
      simp [subB]
    refine ev_succ ?_
    simp only [impl_NestedPlan.l1]
    rw [hw1, if_pos e]
    exact ev_neg (by omega) (hR e)
  | succ d ih =>
    intro i hi hR
    have hw : wrap64 ((i : Int) + 1) = ((i + 1 : Nat) : Int) := by rw [wid (by omega) (by omega)]; omega
    refine ev_succ ?_
    simp only [impl_NestedPlan.l1]
    rw [hw]
    refine ev_pos (by omega) (ev_pos (by omega) (ev_pos (by omega) (ev_bind (contains_ev _ _ l1) ?_)))
    by_cases c : rd P (i : Int) ∈ rd_L1 pl (s : Int)
    · have e : subB (P.drop i) (rd_L1 pl (s : Int)) = subB (P.drop (i + 1)) (rd_L1 pl (s : Int)) := by
        rw [drop_rd P i (by omega)]
        simp [subB, c]
      rw [e] at hR ⊢
      exact ev_pos (decide_eq_true c) (ih (i + 1) (by omega) hR)
    · have e : subB (P.drop i) (rd_L1 pl (s : Int)) = false := by
        rw [drop_rd P i (by omega)]
        simp [subB, c]
      rw [e]
      exact ev_neg (by rw [decide_eq_true_eq]; exact c) (ev_some _)
omit hN in
theorem implNP_l0 (R : List (List Int) × Bool) (hR : perB ((need.length : Int) - 1) pl pl.length 0 = true → Ev (fun k => impl_Chain_nested.f k need m h pl) R) (d : Nat) : ∀ s : Nat, s + d = pl.length → (perB ((need.length : Int) - 1) pl d s = true → perB ((need.length : Int) - 1) pl pl.length 0 = true) →
    Ev (fun k => impl_NestedPlan.l0 k pl pl (pl.length : Int) (s : Int) need m h) (if perB ((need.length : Int) - 1) pl d s = true then R else ([], false)) := by
  induction d with
  | zero =>
    intro s hs hc
    refine ev_succ ?_
    simp only [impl_NestedPlan.l0]
    rw [if_pos (show perB ((need.length : Int) - 1) pl 0 s = true from rfl)]
    exact ev_neg (by omega) (ev_bind (hR (hc rfl)) (ev_some _))
  | succ d ih =>
    intro s hs hc
    have hw : wrap64 ((s : Int) + 1) = ((s + 1 : Nat) : Int) := by rw [wid (by omega) (by omega)]; omega
    have l1 := rowLen hr s (by omega)
    have ap := arePer_ev h6 (rd_L1 pl (s : Int)) (List.replicate need.length 0) (List.replicate need.length 0) (List.replicate need.length 0) l1
    have e0 : perB ((need.length : Int) - 1) pl (d + 1) s = (risB (rd_L1 pl (s : Int)) ((need.length : Int) - 1) (rd_L1 pl (s : Int)).length 0 && (decide (s = 0) || subB (rd_L1 pl ((s - 1 : Nat) : Int)) (rd_L1 pl (s : Int))) && perB ((need.length : Int) - 1) pl d (s + 1)) := rfl
    rw [e0] at hc ⊢
    refine ev_succ ?_
    simp only [impl_NestedPlan.l0]
    rw [hw]
    refine ev_pos (by omega) (ev_pos (by omega) (ev_pos (by omega) (ev_bind (even_ev need 0 0 h6) (ev_bind ap ?_))))
    by_cases c : risB (rd_L1 pl (s : Int)) ((need.length : Int) - 1) (rd_L1 pl (s : Int)).length 0 = true
    rotate_left
    · rw [Bool.not_eq_true] at c
      refine ev_neg (by rw [c]; simp) ?_
      rw [c]
      exact ev_some _
    rw [c] at hc
    refine ev_pos c ?_
    by_cases z : s = 0
    · refine ev_neg (by omega) ?_
      rw [c, decide_eq_true z, Bool.true_or, Bool.true_and, Bool.true_and]
      exact ih (s + 1) (by omega) fun x => hc (by rw [decide_eq_true z, x]; rfl)
    · have hw2 : wrap64 ((s : Int) - 1) = ((s - 1 : Nat) : Int) := by rw [wid (by omega) (by omega)]; omega
      rw [hw2]
      have q := implNP_l1 (m := m) (h := h) hp hr s (by omega) (by omega) (R := if perB ((need.length : Int) - 1) pl d (s + 1) = true then R else ([], false)) (rd_L1 pl ((s - 1 : Nat) : Int)).length 0 (by omega) fun e => ih (s + 1) (by omega) fun x => hc (by rw [List.drop_zero] at e; rw [e, x, Bool.or_true]; rfl)
      rw [List.drop_zero] at q
      refine ev_pos (by omega) (ev_pos (by omega) (ev_pos (by omega) ?_))
      rw [c, decide_eq_false z, Bool.false_or, Bool.true_and]
      by_cases c2 : subB (rd_L1 pl ((s - 1 : Nat) : Int)) (rd_L1 pl (s : Int)) = true
      · rw [if_pos c2] at q
        rw [c2, Bool.true_and]
        exact q
      · rw [if_neg c2] at q
        rw [Bool.not_eq_true] at c2
        rw [c2, Bool.false_and]
        exact q
end

def ans (l m h : List Int) (pl : List (List Int)) : List (List Int) × Bool := if ChainOk l m h ∧ (pl.length : Int) = (m.length : Int) ∧ perB ((l.length : Int) - 1) pl pl.length 0 = true then rowsB l pl pl.length 0 [] else ([], false)
theorem ans_in (l m h : List Int) (pl : List (List Int)) : (ans l m h pl).1.length ≤ 1048576 ∧ ∀ r ∈ (ans l m h pl).1, r.length ≤ 1048576 := by
  unfold ans
  by_cases c : ChainOk l m h ∧ (pl.length : Int) = (m.length : Int) ∧ perB ((l.length : Int) - 1) pl pl.length 0 = true
  · rw [if_pos c]
    have h6 := c.1.1
    have hm3 := c.1.2.2.1
    have hp := c.2.1
    have q := rowsB_in l pl (by omega) pl.length 0 [] (by simp; omega) (by simp)
    exact ⟨by omega, fun r hr => by have := q.2 r hr; omega⟩
  · rw [if_neg c]
    simp
theorem per_ris {l : List Int} {pl : List (List Int)} (h : perB ((l.length : Int) - 1) pl pl.length 0 = true) (s : Nat) (hs : s < pl.length) : Ris (rd_L1 pl (s : Int)) l.length := ris_of (perB_at pl.length 0 h s (by omega) (by omega))
theorem spec_ans (l m h : List Int) (pl : List (List Int)) (hl : l.length ≤ 35184372088832) (hm : m.length ≤ 35184372088832) (hh : h.length ≤ 35184372088832) (hp : pl.length ≤ 1048576) (hr : ∀ r ∈ pl, r.length ≤ 1048576) : Ev (fun k => spec_NestedPlan.f k l m h pl) (ans l m h pl) := by
  unfold spec_NestedPlan.f ans
  simp only [Option.bind_some]
  refine ev_bind (specChain_ev l m h hl hm hh) ?_
  by_cases c : ChainOk l m h
  rotate_left
  · refine ev_neg (by rw [decide_eq_true_eq]; exact c) (ev_succ ?_)
    simp only [spec_NestedPlan.j0]
    exact ev_cast (ev_pos trivial (ev_some _)) (if_neg fun x => c x.1).symm
  obtain ⟨h6, hN, hm3, hle, hS, hH, hO⟩ := id c
  refine ev_pos (decide_eq_true c) (ev_bind (specPer_ev (m := m) (h := h) (by omega) hp hr) (ev_succ ?_))
  simp only [spec_NestedPlan.j0]
  by_cases c1 : perB ((l.length : Int) - 1) pl pl.length 0 = true
  rotate_left
  · exact ev_cast (ev_pos (by rw [Bool.not_eq_true] at c1; rw [c1]; rfl) (ev_some _)) (if_neg fun x => c1 x.2.2).symm
  by_cases c2 : (pl.length : Int) = (m.length : Int)
  rotate_left
  · exact ev_cast (ev_pos (by rw [c1, beq_eq_false_iff_ne.mpr c2]; rfl) (ev_some _)) (if_neg fun x => c2 x.2.1).symm
  refine ev_neg (by rw [c1, c2]; simp) ?_
  rw [if_pos ⟨c, c2, c1⟩]
  exact specNP_l0 (by omega) hN (by omega) (per_ris c1) pl.length 0 [] (by omega) rfl
theorem impl_ans (l m h : List Int) (pl : List (List Int)) (hl : l.length ≤ 35184372088832) (hm : m.length ≤ 35184372088832) (hh : h.length ≤ 35184372088832) (hp : pl.length ≤ 1048576) (hr : ∀ r ∈ pl, r.length ≤ 1048576) : Ev (fun k => impl_NestedPlan.f k l m h pl) (ans l m h pl) := by
  unfold impl_NestedPlan.f ans
  refine ev_bind (implChain_ev l m h hl hm hh) ?_
  by_cases c : ChainOk l m h
  rotate_left
  · refine ev_neg (by rw [decide_eq_true_eq]; exact c) (ev_succ ?_)
    simp only [impl_NestedPlan.j0]
    exact ev_cast (ev_pos trivial (ev_some _)) (if_neg fun x => c x.1).symm
  obtain ⟨h6, hN, hm3, hle, hS, hH, hO⟩ := id c
  refine ev_pos (decide_eq_true c) (ev_succ ?_)
  simp only [impl_NestedPlan.j0]
  by_cases c2 : (pl.length : Int) = (m.length : Int)
  rotate_left
  · exact ev_cast (ev_pos (by simpa using c2) (ev_some _)) (if_neg fun x => c2 x.2.1).symm
  refine ev_neg (by simp [c2]) ?_
  have q := implNP_l0 (m := m) (h := h) (by omega) (by omega) hr (rowsB l pl pl.length 0 []) (fun x => nested_ev (by omega) hN (by omega) (per_ris x)) pl.length 0 (by omega) id
  refine ev_cast q ?_
  by_cases c1 : perB ((l.length : Int) - 1) pl pl.length 0 = true
  · rw [if_pos c1, if_pos ⟨c, c2, c1⟩]
  · rw [if_neg c1, if_neg fun x => c1 x.2.2]
theorem FnExactNestedPlan (l0_0 : List Int) (l0_1 : List Int) (l0_2 : List Int) (l1 : List (List Int)) (hl0_0 : l0_0.length ≤ maxLen) (hw0_0 : ∀ x ∈ l0_0, (Lit.int .i64 x).wf = true) (hl0_1 : l0_1.length ≤ maxLen) (hw0_1 : ∀ x ∈ l0_1, (Lit.int .i64 x).wf = true) (hl0_2 : l0_2.length ≤ maxLen) (hw0_2 : ∀ x ∈ l0_2, (Lit.int .i64 x).wf = true) (hl1 : l1.length ≤ maxLen) (hw1 : ∀ r ∈ l1, r.length ≤ maxLen ∧ ∀ x ∈ r, (Lit.int .i64 x).wf = true) :
    ∃ k, laws_FnExactNestedPlan.f k l0_0 l0_1 l0_2 l1 = some true := by
  refine Ev.rounds ?_
  unfold laws_FnExactNestedPlan.f
  obtain ⟨r, hr, hz⟩ := szChain_eq l0_0 l0_1 l0_2 1048576 (by omega) (by omega) hl0_0 hl0_1 hl0_2
  simp only [hr, Option.bind_some]
  by_cases c : r < 0
  · exact ev_pos c (ev_some _)
  have hz := hz (by omega)
  refine ev_neg c ?_
  obtain ⟨r2, hr2, hz2⟩ := szIntSS_ev l1 r (by omega) (by omega) hl1 (fun x hx => (hw1 x hx).1)
  refine ev_bind hr2 ?_
  by_cases c2 : r2 < 0
  · exact ev_pos c2 (ev_some _)
  have hz2 := hz2 (by omega)
  have h0 : l0_0.length ≤ 35184372088832 := by omega
  have h1 : l0_1.length ≤ 35184372088832 := by omega
  have h2 : l0_2.length ≤ 35184372088832 := by omega
  have hto := toChain_ev l0_0 l0_1 l0_2 h0 h1 h2
  have htp := toIntSS_ev l1 hz2.1 hz2.2
  have hS := spec_ans l0_0 l0_1 l0_2 l1 h0 h1 h2 hz2.1 hz2.2
  have hI := impl_ans l0_0 l0_1 l0_2 l1 h0 h1 h2 hz2.1 hz2.2
  have hL := ans_in l0_0 l0_1 l0_2 l1
  generalize ans l0_0 l0_1 l0_2 l1 = A at hS hI hL
  obtain ⟨g, o⟩ := A
  simp only at hL
  have hE := eqIntSS_ev g hL.1 hL.2
  have hm : Ev (fun k => laws_markChain.f k l0_0 l0_1 l0_2 1) (1 + (l0_0.length : Int) + (l0_1.length : Int) + (l0_2.length : Int), asc 1 l0_0.length, asc (1 + (l0_0.length : Int)) l0_1.length, asc (1 + (l0_0.length : Int) + (l0_1.length : Int)) l0_2.length) := by
    unfold laws_markChain.f
    exact ev_bind (mark_ev l0_0 1 (by omega) h0 (by omega)) (ev_bind (mark_ev l0_1 _ (by omega) h1 (by omega)) (ev_bind (mark_ev l0_2 _ (by omega) h2 (by omega)) (ev_some _)))
  have hm1 := markSS_ev l1 (1 + (l0_0.length : Int) + (l0_1.length : Int) + (l0_2.length : Int)) hz2.1 hz2.2 (by omega) (by omega)
  have hm2 := markSS_ev g 1 hL.1 hL.2 (by omega) (by omega)
  have hh := heldSS_ev g hL.1 hL.2
  have t1 := tot_in l1 hz2.2
  have t2 := tot_in g hL.2
  have g1 : ¬ (1 + (l0_0.length : Int) + (l0_1.length : Int) + (l0_2.length : Int) + tot l1 < 0) := by omega
  have g2 : ¬ (1 + tot g < 0) := by omega
  refine ev_neg c2 (ev_bind hto (ev_bind htp (ev_bind hS (ev_bind hto (ev_bind htp (ev_bind hI (ev_bind hE (ev_pos rfl (ev_neg (by simp) ?_)))))))))
  refine ev_bind hto (ev_bind (eqChain_ev l0_0 l0_1 l0_2 h0 h1 h2) (ev_pos rfl (ev_bind htp (ev_bind (eqIntSS_ev l1 hz2.1 hz2.2) (ev_pos rfl ?_)))))
  refine ev_bind hm (ev_bind hm1 (ev_neg g1 (ev_bind hE (ev_pos rfl (ev_bind hm2 (ev_bind hh (ev_neg g2 (ev_pos rfl ?_))))))))
  exact ev_bind hto (ev_bind htp (ev_bind hI (ev_bind hE (ev_pos rfl (ev_neg (by simp) (ev_bind hh (ev_neg g2 (ev_pos rfl (ev_some _)))))))))

end Go.Proofs.Ytgmoljiehdeelaa.Pure
