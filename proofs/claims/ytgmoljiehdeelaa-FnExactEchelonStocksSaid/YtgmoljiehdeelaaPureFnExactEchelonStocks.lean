/- The program's EchelonStocks and the reference's add the same stocks, stage by stage. No conditions. -/
import Derived.Test.YtgmoljiehdeelaaKit
import Derived.Test.YtgmoljiehdeelaaXFnExactEchelonStocksx10
namespace Go.Proofs.Ytgmoljiehdeelaa.Pure
set_option linter.unusedVariables false
open Go.RowKit Go.Proofs.Ytgmoljiehdeelaa.PFnExactEchelonStocks Go.Proofs.YtgmoljiehdeelaaW.PrintWords Go.Proofs.YtgmoljiehdeelaaW.PrintLast Go.Proofs.Ytgmoljiehdeelaa.Kit

theorem in_eq (a b c : Int) : spec_l1In.f a b c = some (decide (b ≤ a ∧ a ≤ c)) := by
  unfold spec_l1In.f
  by_cases h : b ≤ a <;> simp [h]
theorem within_eq (a b c : Int) : impl_within.f a b c = some (decide (b ≤ a ∧ a ≤ c)) := by
  unfold impl_within.f
  by_cases h : b ≤ a <;> simp [h]
theorem toIntS_l0 (xs : List Int) (hn : xs.length ≤ 35184372088832) (d : Nat) : ∀ (i : Nat) (ys : List Int), i + d = xs.length → ys.length = xs.length → ys.take i = xs.take i →
    Ev (fun k => laws_toIntS.l0 k xs ys (i : Int)) xs := by
  induction d with
  | zero =>
    intro i ys hi hl ht
    refine ev_succ ?_
    simp only [laws_toIntS.l0]
    refine ev_neg (by omega) ?_
    rw [List.take_of_length_le (by omega), List.take_of_length_le (by omega)] at ht
    rw [ht]
    exact ev_some _
  | succ d ih =>
    intro i ys hi hl ht
    refine ev_succ ?_
    simp only [laws_toIntS.l0]
    refine ev_pos (by omega) (ev_pos (by omega) (ev_pos (by omega) ?_))
    have hw : wrap64 ((i : Int) + 1) = ((i + 1 : Nat) : Int) := by rw [wid (by omega) (by omega)]; omega
    rw [hw]
    refine ih (i + 1) _ (by omega) (by simpa using hl) ?_
    rw [rd_nat xs i (by omega), Int.toNat_natCast, List.take_succ_eq_append_getElem (by simp; omega), List.take_succ_eq_append_getElem (by omega), List.getElem_set_self, List.take_set_of_le (by omega), ht]
theorem toIntS_ev (xs : List Int) (hn : xs.length ≤ 35184372088832) : Ev (fun k => laws_toIntS.f k xs) xs := by
  unfold laws_toIntS.f
  refine ev_pos (by omega) (ev_pos (by omega) ?_)
  exact toIntS_l0 xs hn xs.length 0 _ (by omega) (by simp) rfl
theorem eqIntS_l0 (xs ys : List Int) (hn : xs.length ≤ 35184372088832) (hl : ys.length = xs.length) (d : Nat) : ∀ (i : Nat), i + d = xs.length →
    Ev (fun k => laws_eqIntS.l0 k xs ys (i : Int)) (decide (xs.drop i = ys.drop i)) := by
  induction d with
  | zero =>
    intro i hi
    refine ev_succ ?_
    simp only [laws_eqIntS.l0]
    refine ev_neg (by omega) ?_
    rw [List.drop_of_length_le (by omega), List.drop_of_length_le (by omega)]
    exact ev_some _
  | succ d ih =>
    intro i hi
    refine ev_succ ?_
    simp only [laws_eqIntS.l0]
    refine ev_pos (by omega) (ev_pos (by omega) (ev_pos (by omega) ?_))
    have hw : wrap64 ((i : Int) + 1) = ((i + 1 : Nat) : Int) := by rw [wid (by omega) (by omega)]; omega
    rw [hw, drop_rd xs i (by omega), drop_rd ys i (by omega)]
    by_cases h : rd xs i = rd ys i
    · refine ev_pos h (ev_cast (ih (i + 1) (by omega)) ?_)
      simp [h]
    · refine ev_neg h (ev_cast (ev_some false) ?_)
      simp [h]
theorem eqIntS_ev (xs ys : List Int) (hn : xs.length ≤ 35184372088832) : Ev (fun k => laws_eqIntS.f k xs ys) (decide (xs = ys)) := by
  unfold laws_eqIntS.f
  by_cases h : xs.length = ys.length
  · refine ev_pos (by omega) (ev_cast (eqIntS_l0 xs ys hn h.symm xs.length 0 (by omega)) (by simp))
  · refine ev_neg (by omega) (ev_cast (ev_some false) ?_)
    have : xs ≠ ys := fun e => h (by rw [e])
    simp [this]
theorem allWithin_l0 (lo up : Int) (xs : List Int) (hn : xs.length ≤ 35184372088832) (d : Nat) : ∀ (i : Nat), i + d = xs.length →
    Ev (fun k => impl_allWithin.l0 k lo up xs (xs.length : Int) (i : Int)) (decide (∀ x ∈ xs.drop i, lo ≤ x ∧ x ≤ up)) := by
  induction d with
  | zero =>
    intro i hi
    refine ev_succ ?_
    simp only [impl_allWithin.l0]
    refine ev_neg (by omega) ?_
    rw [List.drop_of_length_le (by omega)]
    exact ev_cast (ev_some true) (by simp)
  | succ d ih =>
    intro i hi
    refine ev_succ ?_
    simp only [impl_allWithin.l0, within_eq, Option.bind_some]
    refine ev_pos (by omega) (ev_pos (by omega) (ev_pos (by omega) ?_))
    have hw : wrap64 ((i : Int) + 1) = ((i + 1 : Nat) : Int) := by rw [wid (by omega) (by omega)]; omega
    rw [hw, drop_rd xs i (by omega)]
    by_cases h : lo ≤ rd xs i ∧ rd xs i ≤ up
    · refine ev_pos (by simpa using h) (ev_cast (ih (i + 1) (by omega)) ?_)
      simp [h]
    · refine ev_neg (by simpa using h) (ev_cast (ev_some false) ?_)
      symm
      simp only [decide_eq_false_iff_not, List.mem_cons]
      exact fun hh => h (hh _ (Or.inl rfl))
theorem allWithin_ev (xs : List Int) (lo hi : Int) (hn : xs.length ≤ 35184372088832) : Ev (fun k => impl_allWithin.f k xs lo hi) (decide (∀ x ∈ xs, lo ≤ x ∧ x ≤ hi)) := by
  unfold impl_allWithin.f
  exact allWithin_l0 lo hi xs hn xs.length 0 (by omega)
theorem l2Row_l0 (n up : Int) (xs : List Int) (hn : xs.length ≤ 35184372088832) (d : Nat) : ∀ (i : Nat), i + d = xs.length →
    Ev (fun k => spec_l2Row.l0 k xs n up (i : Int)) (decide ((∀ x ∈ xs.drop i, 0 ≤ x ∧ x ≤ up) ∧ (xs.length : Int) = n)) := by
  induction d with
  | zero =>
    intro i hi
    refine ev_succ ?_
    simp only [spec_l2Row.l0]
    refine ev_neg (by omega) ?_
    rw [List.drop_of_length_le (by omega)]
    refine ev_cast (ev_some _) ?_
    rw [Bool.eq_iff_iff]
    simp
  | succ d ih =>
    intro i hi
    refine ev_succ ?_
    simp only [spec_l2Row.l0, in_eq, Option.bind_some]
    refine ev_pos (by omega) (ev_pos (by omega) ?_)
    have hw : wrap64 ((i : Int) + 1) = ((i + 1 : Nat) : Int) := by rw [wid (by omega) (by omega)]; omega
    rw [hw, drop_rd xs i (by omega)]
    by_cases h : 0 ≤ rd xs i ∧ rd xs i ≤ up
    · refine ev_pos (by simpa using h) (ev_cast (ih (i + 1) (by omega)) ?_)
      simp [h]
    · refine ev_neg (by simpa using h) (ev_cast (ev_some false) ?_)
      symm
      simp only [decide_eq_false_iff_not, List.mem_cons]
      exact fun hh => h (hh.1 _ (Or.inl rfl))
theorem l2Row_ev (xs : List Int) (n up : Int) (hn : xs.length ≤ 35184372088832) : Ev (fun k => spec_l2Row.f k xs n up) (decide ((∀ x ∈ xs, 0 ≤ x ∧ x ≤ up) ∧ (xs.length : Int) = n)) := by
  unfold spec_l2Row.f
  exact l2Row_l0 n up xs hn xs.length 0 (by omega)
theorem szIntS_eq (xs : List Int) (a : Int) (h0 : 0 ≤ a) (h1 : a ≤ 1048576) (hl : xs.length ≤ maxLen) : laws_szIntS.f xs a = some (if a - (xs.length : Int) < 0 then -1 else a - (xs.length : Int)) := by
  unfold maxLen at hl
  unfold laws_szIntS.f
  rw [wid (by omega) (by omega)]
  split <;> rfl
theorem less_eq (a b : Int) : cmp_Less_int.f a b = some (decide (a < b)) := by
  unfold cmp_Less_int.f cmp_isNaN_int.f
  simp
/-- No number is less than the one before it. -/
def Ups (xs : List Int) : Prop := ∀ i : Nat, i + 1 < xs.length → ¬ rd xs ((i + 1 : Nat) : Int) < rd xs (i : Int)
theorem ups_iff (xs : List Int) : Ups xs ↔ ∀ i : Nat, i < xs.length → i + 1 < xs.length → ¬ rd xs ((i + 1 : Nat) : Int) < rd xs (i : Int) := ⟨fun h i _ h2 => h i h2, fun h i h2 => h i (by omega) h2⟩
instance (xs : List Int) : Decidable (Ups xs) := decidable_of_iff _ (ups_iff xs).symm
theorem isSorted_l0 (xs : List Int) (hn : xs.length ≤ 35184372088832) : ∀ (i : Nat), (i : Int) ≤ (xs.length : Int) - 1 → (∀ j : Nat, i ≤ j → j + 1 < xs.length → ¬ rd xs ((j + 1 : Nat) : Int) < rd xs (j : Int)) →
    Ev (fun k => slices_IsSorted_int_int.l0 k xs (i : Int)) (decide (Ups xs)) := by
  intro i
  induction i with
  | zero =>
    intro hi h
    refine ev_succ ?_
    simp only [slices_IsSorted_int_int.l0]
    exact ev_neg (by omega) (ev_true fun j hj => h j (by omega) hj)
  | succ i ih =>
    intro hi h
    refine ev_succ ?_
    simp only [slices_IsSorted_int_int.l0, less_eq, Option.bind_some]
    have hw : wrap64 (((i + 1 : Nat) : Int) - 1) = (i : Int) := by rw [wid (by omega) (by omega)]; omega
    rw [hw]
    refine ev_pos (by omega) (ev_pos (by omega) (ev_pos (by omega) (ev_pos (by omega) (ev_pos (by omega) ?_))))
    by_cases hb : rd xs ((i + 1 : Nat) : Int) < rd xs (i : Int)
    · exact ev_pos (by simpa using hb) (ev_false fun u => u i (by omega) hb)
    · refine ev_neg (by simpa using hb) (ih (by omega) fun j h1 h2 => ?_)
      by_cases e : j = i
      · rw [e]; exact hb
      · exact h j (by omega) h2
theorem isSorted_ev (xs : List Int) (hn : xs.length ≤ 35184372088832) : Ev (fun k => slices_IsSorted_int_int.f k xs) (decide (Ups xs)) := by
  unfold slices_IsSorted_int_int.f
  rw [wid (by omega) (by omega)]
  by_cases h : xs.length = 0
  · refine ev_succ ?_
    simp only [slices_IsSorted_int_int.l0]
    exact ev_neg (by omega) (ev_true fun j hj => by omega)
  · have e : (xs.length : Int) - 1 = ((xs.length - 1 : Nat) : Int) := by omega
    rw [e]
    exact isSorted_l0 xs hn (xs.length - 1) (by omega) (fun j h1 h2 => by omega)
theorem szChain_eq (l m h : List Int) (n : Int) (h0 : 0 ≤ n) (h1 : n ≤ 1048576) (hl : l.length ≤ maxLen) (hm : m.length ≤ maxLen) (hh : h.length ≤ maxLen) :
    ∃ r, laws_szChain.f l m h n = some r ∧ (0 ≤ r → r = n - l.length - m.length - h.length) := by
  unfold laws_szChain.f
  rw [szIntS_eq l n h0 h1 hl]
  simp only [Option.bind_some]
  by_cases c1 : n - (l.length : Int) < 0
  · rw [if_pos c1, if_pos (by omega)]
    exact ⟨_, rfl, by omega⟩
  · rw [if_neg c1, if_neg c1, szIntS_eq m _ (by omega) (by omega) hm]
    simp only [Option.bind_some]
    by_cases c2 : n - (l.length : Int) - (m.length : Int) < 0
    · rw [if_pos c2, if_pos (by omega)]
      exact ⟨_, rfl, by omega⟩
    · rw [if_neg c2, if_neg c2, szIntS_eq h _ (by omega) (by omega) hh]
      simp only [Option.bind_some]
      by_cases c3 : n - (l.length : Int) - (m.length : Int) - (h.length : Int) < 0
      · rw [if_pos c3, if_pos (by omega)]
        exact ⟨_, rfl, by omega⟩
      · rw [if_neg c3, if_neg c3]
        exact ⟨_, rfl, fun _ => rfl⟩
theorem toChain_ev (l m h : List Int) (hl : l.length ≤ 35184372088832) (hm : m.length ≤ 35184372088832) (hh : h.length ≤ 35184372088832) : Ev (fun k => laws_toChain.f k l m h) (l, m, h) := by
  unfold laws_toChain.f
  exact ev_bind (toIntS_ev l hl) (ev_bind (toIntS_ev m hm) (ev_bind (toIntS_ev h hh) (ev_some _)))
theorem eqChain_ev (l m h : List Int) (hl : l.length ≤ 35184372088832) (hm : m.length ≤ 35184372088832) (hh : h.length ≤ 35184372088832) : Ev (fun k => laws_eqChain.f k l m h l m h) true := by
  unfold laws_eqChain.f
  exact ev_bind (eqIntS_ev l l hl) (ev_pos (by simp) (ev_bind (eqIntS_ev m m hm) (ev_pos (by simp) (ev_bind (eqIntS_ev h h hh) (ev_pos (by simp) (ev_some _))))))

/-- What a valid chain is. -/
def ChainOk (l m h : List Int) : Prop :=
  (l.length : Int) ≤ 6 ∧ (∀ x ∈ l, 0 ≤ x ∧ x ≤ 20) ∧ (1 ≤ (m.length : Int) ∧ (m.length : Int) ≤ 3) ∧ (h.length : Int) = (m.length : Int) ∧ (∀ x ∈ m, 0 ≤ x ∧ x ≤ 99) ∧ (∀ x ∈ h, 0 ≤ x ∧ x ≤ 9) ∧ Ups h
instance (l m h : List Int) : Decidable (ChainOk l m h) := by unfold ChainOk; infer_instance
theorem implChain_ev (l m h : List Int) (hl : l.length ≤ 35184372088832) (hm : m.length ≤ 35184372088832) (hh : h.length ≤ 35184372088832) : Ev (fun k => impl_IsChain.f k l m h) (decide (ChainOk l m h)) := by
  unfold impl_IsChain.f ChainOk
  simp only [within_eq, Option.bind_some]
  exact ev_andp fun _ => ev_bind (allWithin_ev l 0 20 hl) (ev_and rfl fun _ => ev_and rfl fun _ => ev_andp fun _ => ev_bind (allWithin_ev m 0 99 hm) (ev_and rfl fun _ => ev_bind (allWithin_ev h 0 9 hh) (ev_and rfl fun _ => ev_bind (isSorted_ev h hh) (ev_some _))))
theorem l7Good_l0 (l m h : List Int) (hh : h.length ≤ 35184372088832) (d : Nat) : ∀ (i : Nat), i + 1 + d = h.length → (∀ j : Nat, j < i → ¬ rd h ((j + 1 : Nat) : Int) < rd h (j : Int)) →
    Ev (fun k => spec_l7Good.l0 k ((i + 1 : Nat) : Int) l m h) (decide (Ups h)) := by
  induction d with
  | zero =>
    intro i hi hj
    refine ev_succ ?_
    simp only [spec_l7Good.l0]
    exact ev_neg (by omega) (ev_true fun j h1 => hj j (by omega))
  | succ d ih =>
    intro i hi hj
    refine ev_succ ?_
    simp only [spec_l7Good.l0]
    have hw : wrap64 (((i + 1 : Nat) : Int) - 1) = (i : Int) := by rw [wid (by omega) (by omega)]; omega
    have hw2 : wrap64 (((i + 1 : Nat) : Int) + 1) = ((i + 1 + 1 : Nat) : Int) := by rw [wid (by omega) (by omega)]; omega
    rw [hw, hw2]
    refine ev_pos (by omega) (ev_pos (by omega) (ev_pos (by omega) (ev_pos (by omega) ?_)))
    by_cases hb : rd h ((i + 1 : Nat) : Int) < rd h (i : Int)
    · exact ev_pos hb (ev_false fun u => u i (by omega) hb)
    · refine ev_neg hb (ih (i + 1) (by omega) fun j h1 => ?_)
      by_cases e : j = i
      · rw [e]; exact hb
      · exact hj j (by omega)
theorem specChain_ev (l m h : List Int) (hl : l.length ≤ 35184372088832) (hm : m.length ≤ 35184372088832) (hh : h.length ≤ 35184372088832) : Ev (fun k => spec_l7Good.f k l m h) (decide (ChainOk l m h)) := by
  unfold spec_l7Good.f
  simp only [in_eq, Option.bind_some]
  have no : ∀ {P : Prop}, ¬ P → (ChainOk l m h → P) → Ev (fun k => spec_l7Good.j0 k true l m h) (decide (ChainOk l m h)) := by
    intro P hp hc
    refine ev_succ ?_
    simp only [spec_l7Good.j0, if_true]
    exact ev_false fun h => hp (hc h)
  have no1 : ∀ {P : Prop}, ¬ P → (ChainOk l m h → P) → Ev (fun k => spec_l7Good.j1 k true l m h) (decide (ChainOk l m h)) := by
    intro P hp hc
    refine ev_succ ?_
    simp only [spec_l7Good.j1, if_true]
    exact ev_false fun h => hp (hc h)
  by_cases h1 : (l.length : Int) > 6
  · exact ev_pos h1 (no (P := (l.length : Int) ≤ 6) (by omega) fun c => c.1)
  refine ev_neg h1 (ev_bind (l2Row_ev l _ 20 hl) ?_)
  by_cases h2 : ∀ x ∈ l, 0 ≤ x ∧ x ≤ 20
  rotate_left
  · exact ev_neg (by simpa using h2) (no h2 fun c => c.2.1)
  refine ev_pos (by simpa using h2) ?_
  by_cases h3 : 1 ≤ (m.length : Int) ∧ (m.length : Int) ≤ 3
  rotate_left
  · rw [decide_eq_false h3]
    exact no h3 fun c => c.2.2.1
  rw [decide_eq_true h3]
  refine ev_succ ?_
  simp only [spec_l7Good.j0]
  refine ev_neg (by simp) (ev_bind (l2Row_ev m _ 99 hm) ?_)
  by_cases h4 : ∀ x ∈ m, 0 ≤ x ∧ x ≤ 99
  rotate_left
  · exact ev_neg (by simpa using h4) (no1 h4 fun c => c.2.2.2.2.1)
  refine ev_pos (by simpa using h4) (ev_bind (l2Row_ev h _ 9 hh) ?_)
  by_cases h5 : (∀ x ∈ h, 0 ≤ x ∧ x ≤ 9) ∧ (h.length : Int) = (m.length : Int)
  rotate_left
  · rw [decide_eq_false h5]
    exact no1 h5 fun c => ⟨c.2.2.2.2.2.1, c.2.2.2.1⟩
  rw [decide_eq_true h5]
  refine ev_succ ?_
  simp only [spec_l7Good.j1]
  refine ev_neg (by simp) (ev_dec (P := Ups h) ?_ ⟨fun u => ⟨by omega, h2, h3, h5.2, h4, h5.1, u⟩, fun c => c.2.2.2.2.2.2⟩)
  exact l7Good_l0 l m h hh (h.length - 1) 0 (by omega) (fun j hj => by omega)
theorem rd_in {xs : List Int} {lo up : Int} (h : ∀ x ∈ xs, lo ≤ x ∧ x ≤ up) (i : Nat) (hi : i < xs.length) : lo ≤ rd xs (i : Int) ∧ rd xs (i : Int) ≤ up := by
  rw [rd_nat xs i hi]
  exact h _ (List.getElem_mem _)
theorem rd_L1_nat (xs : List (List Int)) (i : Nat) (h : i < xs.length) : rd_L1 xs (i : Int) = xs[i] := by
  unfold rd_L1
  simp [List.getD_eq_getElem?_getD, h]
theorem drop_rd_L1 (xs : List (List Int)) (i : Nat) (h : i < xs.length) : xs.drop i = rd_L1 xs (i : Int) :: xs.drop (i + 1) := by
  rw [rd_L1_nat xs i h]
  exact List.drop_eq_getElem_cons h
theorem rd_L1_mem (xs : List (List Int)) (i : Nat) (h : i < xs.length) : rd_L1 xs (i : Int) ∈ xs := by
  rw [rd_L1_nat xs i h]
  exact List.getElem_mem _
theorem szIntSS_l0 (l : List (List Int)) (hl : l.length ≤ maxLen) (hw : ∀ r ∈ l, r.length ≤ maxLen) (d : Nat) : ∀ (i : Nat) (n : Int), i + d = l.length → 0 ≤ n → n ≤ 1048576 →
    ∃ r, Ev (fun k => laws_szIntSS.l0 k l n (i : Int)) r ∧ (0 ≤ r → ∀ j : Nat, i ≤ j → j < l.length → (rd_L1 l (j : Int)).length ≤ 1048576) := by
  have h47 : l.length ≤ 9223372036854775807 := by unfold maxLen at hl; omega
  induction d with
  | zero =>
    intro i n hi h0 h1
    refine ⟨n, ev_succ ?_, fun _ j h2 h3 => by omega⟩
    simp only [laws_szIntSS.l0]
    exact ev_neg (by omega) (ev_some _)
  | succ d ih =>
    intro i n hi h0 h1
    have hr := hw _ (rd_L1_mem l i (by omega))
    have hw1 : wrap64 ((i : Int) + 1) = ((i + 1 : Nat) : Int) := by rw [wid (by omega) (by omega)]; omega
    by_cases c : n - ((rd_L1 l (i : Int)).length : Int) < 0
    · refine ⟨-1, ev_succ ?_, fun h => by omega⟩
      simp only [laws_szIntSS.l0, szIntS_eq _ n h0 h1 hr, Option.bind_some]
      rw [if_pos c]
      exact ev_pos (by omega) (ev_pos (by omega) (ev_pos (by omega) (ev_some _)))
    · obtain ⟨r, hr1, hr2⟩ := ih (i + 1) (n - ((rd_L1 l (i : Int)).length : Int)) (by omega) (by omega) (by omega)
      refine ⟨r, ev_succ ?_, fun h j h2 h3 => ?_⟩
      · simp only [laws_szIntSS.l0, szIntS_eq _ n h0 h1 hr, Option.bind_some]
        rw [if_neg c, hw1]
        exact ev_pos (by omega) (ev_pos (by omega) (ev_neg (by omega) hr1))
      · by_cases e : j = i
        · rw [e]; omega
        · exact hr2 h j (by omega) h3
theorem szIntSS_ev (l : List (List Int)) (n : Int) (h0 : 0 ≤ n) (h1 : n ≤ 1048576) (hl : l.length ≤ maxLen) (hw : ∀ r ∈ l, r.length ≤ maxLen) :
    ∃ r, Ev (fun k => laws_szIntSS.f k l n) r ∧ (0 ≤ r → l.length ≤ 1048576 ∧ ∀ x ∈ l, x.length ≤ 1048576) := by
  have h47 : l.length ≤ 9223372036854775807 := by unfold maxLen at hl; omega
  unfold laws_szIntSS.f
  rw [wid (by omega) (by omega)]
  by_cases c : n - (l.length : Int) < 0
  · exact ⟨-1, ev_pos c (ev_some _), fun h => by omega⟩
  · obtain ⟨r, hr1, hr2⟩ := szIntSS_l0 l hl hw l.length 0 (n - (l.length : Int)) (by omega) (by omega) (by omega)
    refine ⟨r, ev_neg c hr1, fun h => ⟨by omega, fun x hx => ?_⟩⟩
    obtain ⟨j, hj, rfl⟩ := List.getElem_of_mem hx
    have := hr2 h j (by omega) hj
    rwa [rd_L1_nat l j hj] at this
theorem toIntSS_l0 (xs : List (List Int)) (hn : xs.length ≤ 1048576) (hw : ∀ r ∈ xs, r.length ≤ 1048576) (d : Nat) : ∀ (i : Nat) (ys : List (List Int)), i + d = xs.length → ys.length = xs.length → ys.take i = xs.take i →
    Ev (fun k => laws_toIntSS.l0 k xs ys (i : Int)) xs := by
  induction d with
  | zero =>
    intro i ys hi hl ht
    refine ev_succ ?_
    simp only [laws_toIntSS.l0]
    refine ev_neg (by omega) ?_
    rw [List.take_of_length_le (by omega), List.take_of_length_le (by omega)] at ht
    rw [ht]
    exact ev_some _
  | succ d ih =>
    intro i ys hi hl ht
    have hr := hw _ (rd_L1_mem xs i (by omega))
    refine ev_succ ?_
    simp only [laws_toIntSS.l0]
    have hw : wrap64 ((i : Int) + 1) = ((i + 1 : Nat) : Int) := by rw [wid (by omega) (by omega)]; omega
    rw [hw]
    refine ev_pos (by omega) (ev_pos (by omega) (ev_bind (toIntS_ev _ (by omega)) (ev_pos (by omega) ?_)))
    refine ih (i + 1) _ (by omega) (by simpa using hl) ?_
    rw [rd_L1_nat xs i (by omega), Int.toNat_natCast, List.take_succ_eq_append_getElem (by simp; omega), List.take_succ_eq_append_getElem (by omega), List.getElem_set_self, List.take_set_of_le (by omega), ht]
theorem toIntSS_ev (xs : List (List Int)) (hn : xs.length ≤ 1048576) (hw : ∀ r ∈ xs, r.length ≤ 1048576) : Ev (fun k => laws_toIntSS.f k xs) xs := by
  unfold laws_toIntSS.f
  exact ev_pos (by omega) (ev_pos (by omega) (toIntSS_l0 xs hn hw xs.length 0 _ (by omega) (by simp) rfl))
theorem eqIntSS_l0 (xs : List (List Int)) (hn : xs.length ≤ 1048576) (hw : ∀ r ∈ xs, r.length ≤ 1048576) (d : Nat) : ∀ (i : Nat), i + d = xs.length → Ev (fun k => laws_eqIntSS.l0 k xs xs (i : Int)) true := by
  induction d with
  | zero =>
    intro i hi
    refine ev_succ ?_
    simp only [laws_eqIntSS.l0]
    exact ev_neg (by omega) (ev_some _)
  | succ d ih =>
    intro i hi
    have hr := hw _ (rd_L1_mem xs i (by omega))
    refine ev_succ ?_
    simp only [laws_eqIntSS.l0]
    have hw : wrap64 ((i : Int) + 1) = ((i + 1 : Nat) : Int) := by rw [wid (by omega) (by omega)]; omega
    rw [hw]
    exact ev_pos (by omega) (ev_pos (by omega) (ev_pos (by omega) (ev_bind (eqIntS_ev _ _ (by omega)) (ev_pos (by simp) (ih (i + 1) (by omega))))))
theorem eqIntSS_ev (xs : List (List Int)) (hn : xs.length ≤ 1048576) (hw : ∀ r ∈ xs, r.length ≤ 1048576) : Ev (fun k => laws_eqIntSS.f k xs xs) true := by
  unfold laws_eqIntSS.f
  exact ev_pos rfl (eqIntSS_l0 xs hn hw xs.length 0 (by omega))
/-- What is taken from a stage, and the stock before a period of it. -/
def tkn (need : List Int) (pl : List (List Int)) (s : Nat) : List Int := if s + 1 < pl.length then rd_L1 pl ((s + 1 : Nat) : Int) else need
def cst (tk row : List Int) : Nat → Int
  | 0 => 0
  | n + 1 => cst tk row n + (rd row (n : Int) - rd tk (n : Int))
def csts (tk row : List Int) (n : Nat) : List Int := (List.range n).map fun i => cst tk row (i + 1)
theorem csts_length (tk row : List Int) (n : Nat) : (csts tk row n).length = n := by simp [csts]
theorem csts_succ (tk row : List Int) (n : Nat) : csts tk row (n + 1) = csts tk row n ++ [cst tk row (n + 1)] := by simp [csts, List.range_succ]
theorem rd_csts (tk row : List Int) (n i : Nat) (h : i < n) : rd (csts tk row n) (i : Int) = cst tk row (i + 1) := by
  rw [rd_nat _ _ (by rw [csts_length]; exact h)]
  simp [csts]
def RowOk (n : Int) (row : List Int) : Prop := (∀ x ∈ row, 0 ≤ x ∧ x ≤ 120) ∧ (row.length : Int) = n
instance (n : Int) (row : List Int) : Decidable (RowOk n row) := by unfold RowOk; infer_instance
def StOk (tk row : List Int) (n : Nat) : Prop := (∀ i : Nat, i < n → 0 ≤ cst tk row (i + 1)) ∧ cst tk row n = 0
instance (tk row : List Int) (n : Nat) : Decidable (StOk tk row n) := by unfold StOk; infer_instance
def CPlanOk (need : List Int) (m : Int) (pl : List (List Int)) : Prop := (pl.length : Int) = m ∧ (∀ s : Nat, s < pl.length → RowOk (need.length : Int) (rd_L1 pl (s : Int))) ∧ ∀ s : Nat, s < pl.length → StOk (tkn need pl s) (rd_L1 pl (s : Int)) need.length
instance (need : List Int) (m : Int) (pl : List (List Int)) : Decidable (CPlanOk need m pl) := by unfold CPlanOk; infer_instance
def stTab (need : List Int) (pl : List (List Int)) (s : Nat) : List (List Int) := (List.range s).map fun i => csts (tkn need pl i) (rd_L1 pl (i : Int)) need.length
theorem stTab_length (need : List Int) (pl : List (List Int)) (s : Nat) : (stTab need pl s).length = s := by simp [stTab]
theorem stTab_succ (need : List Int) (pl : List (List Int)) (s : Nat) : stTab need pl (s + 1) = stTab need pl s ++ [csts (tkn need pl s) (rd_L1 pl (s : Int)) need.length] := by simp [stTab, List.range_succ]
theorem rd_stTab (need : List Int) (pl : List (List Int)) (n i : Nat) (h : i < n) : rd_L1 (stTab need pl n) (i : Int) = csts (tkn need pl i) (rd_L1 pl (i : Int)) need.length := by
  rw [rd_L1_nat _ _ (by rw [stTab_length]; exact h)]
  simp [stTab]
theorem cst_in {tk row : List Int} {n : Nat} (h6 : n ≤ 6) (hl : RowOk (n : Int) tk) (hr : RowOk (n : Int) row) : ∀ i : Nat, i ≤ n → -(120 * (i : Int)) ≤ cst tk row i ∧ cst tk row i ≤ 120 * (i : Int) := by
  intro i
  have e1 := hl.2
  have e2 := hr.2
  induction i with
  | zero => intro _; simp [cst]
  | succ i ih =>
    intro hi
    have h1 := ih (by omega)
    have h2 := rd_in hl.1 i (by omega)
    have h3 := rd_in hr.1 i (by omega)
    show _ ≤ cst tk row i + (rd row (i : Int) - rd tk (i : Int)) ∧ cst tk row i + (rd row (i : Int) - rd tk (i : Int)) ≤ _
    omega
theorem cst_step {tk row : List Int} {n : Nat} (h6 : n ≤ 6) (hl : RowOk (n : Int) tk) (hr : RowOk (n : Int) row) (i : Nat) (hi : i < n) :
    wrap64 (wrap64 (cst tk row i + rd row (i : Int)) - rd tk (i : Int)) = cst tk row (i + 1) ∧ wrap64 (cst tk row i + wrap64 (rd row (i : Int) - rd tk (i : Int))) = cst tk row (i + 1) := by
  have e1 := hl.2
  have e2 := hr.2
  have h1 := cst_in h6 hl hr i (by omega)
  have h2 := rd_in hl.1 i (by omega)
  have h3 := rd_in hr.1 i (by omega)
  refine ⟨?_, ?_⟩
  · rw [wid (x := cst tk row i + rd row (i : Int)) (by omega) (by omega), wid (by omega) (by omega)]
    show _ = cst tk row i + (rd row (i : Int) - rd tk (i : Int))
    omega
  · rw [wid (x := rd row (i : Int) - rd tk (i : Int)) (by omega) (by omega), wid (by omega) (by omega)]
    rfl

section
variable (need m h : List Int) (pl : List (List Int)) (h6 : need.length ≤ 6) (h3 : pl.length ≤ 3) (hN : ∀ x ∈ need, 0 ≤ x ∧ x ≤ 20)
include h6 h3 hN

theorem tkn_ok (hrows : ∀ s : Nat, s < pl.length → RowOk (need.length : Int) (rd_L1 pl (s : Int))) (s : Nat) : RowOk (need.length : Int) (tkn need pl s) := by
  have _uh6 := h6
  have _uh3 := h3
  unfold tkn
  by_cases c : s + 1 < pl.length
  · rw [if_pos c]
    exact hrows _ c
  · rw [if_neg c]
    exact ⟨fun x hx => by have := hN x hx; omega, rfl⟩
theorem specOut_eq (hrows : ∀ s : Nat, s < pl.length → RowOk (need.length : Int) (rd_L1 pl (s : Int))) (s t : Nat) (hs : s < pl.length) (ht : t < need.length) :
    spec_l7Out.f need m h pl (s : Int) (t : Int) = some (rd (tkn need pl s) (t : Int)) := by
  have _uh6 := h6
  have _uhN := hN
  have hw : wrap64 ((s : Int) + 1) = ((s + 1 : Nat) : Int) := by rw [wid (by omega) (by omega)]; omega
  unfold spec_l7Out.f tkn
  rw [hw]
  by_cases c : s + 1 < pl.length
  · have e := (hrows _ c).2
    rw [if_pos (show ((s + 1 : Nat) : Int) < (pl.length : Int) by omega), if_pos (by omega), if_pos (by omega), if_pos (by omega), if_pos c]
  · rw [if_neg (by omega), if_pos (by omega), if_pos (by omega), if_neg c]
theorem specSt_l1 (hrows : ∀ s : Nat, s < pl.length → RowOk (need.length : Int) (rd_L1 pl (s : Int))) {R : List (List Int)} (s : Nat) (hs : s < pl.length) (hc : Ev (fun k => spec_l7Stocks.l0 k pl (stTab need pl (s + 1)) ((s + 1 : Nat) : Int) need m h) R) (d : Nat) :
    ∀ t : Nat, t + d = need.length → Ev (fun k => spec_l7Stocks.l1 k pl (stTab need pl s) (s : Int) (csts (tkn need pl s) (rd_L1 pl (s : Int)) t) (cst (tkn need pl s) (rd_L1 pl (s : Int)) t) (t : Int) need m h) R := by
  have hr := hrows s hs
  have htk := tkn_ok need pl h6 h3 hN hrows s
  have e := hr.2
  induction d with
  | zero =>
    intro t ht
    have hw : wrap64 ((s : Int) + 1) = ((s + 1 : Nat) : Int) := by rw [wid (by omega) (by omega)]; omega
    refine ev_succ ?_
    simp only [spec_l7Stocks.l1, stTab_length]
    rw [hw, show t = need.length by omega, ← stTab_succ]
    exact ev_neg (by omega) (ev_pos (by omega) hc)
  | succ d ih =>
    intro t ht
    have hw : wrap64 ((t : Int) + 1) = ((t + 1 : Nat) : Int) := by rw [wid (by omega) (by omega)]; omega
    have hst := (cst_step h6 htk hr t (by omega)).1
    have ho := specOut_eq need m h pl h6 h3 hN hrows s t hs (by omega)
    have q := ih (t + 1) (by omega)
    refine ev_succ ?_
    simp only [spec_l7Stocks.l1, ho, Option.bind_some, csts_length]
    rw [hw, hst, ← csts_succ]
    exact ev_pos (by omega) (ev_pos (by omega) (ev_pos (by omega) (ev_pos (by omega) (ev_pos (by omega) (ev_pos (by omega) q)))))
theorem specSt_l0 (hrows : ∀ s : Nat, s < pl.length → RowOk (need.length : Int) (rd_L1 pl (s : Int))) (d : Nat) : ∀ s : Nat, s + d = pl.length → Ev (fun k => spec_l7Stocks.l0 k pl (stTab need pl s) (s : Int) need m h) (stTab need pl pl.length) := by
  induction d with
  | zero =>
    intro s hs
    refine ev_succ ?_
    simp only [spec_l7Stocks.l0]
    refine ev_neg (by omega) (ev_cast (ev_some _) ?_)
    rw [show s = pl.length by omega]
  | succ d ih =>
    intro s hs
    have q := ih (s + 1) (by omega)
    refine ev_succ ?_
    simp only [spec_l7Stocks.l0]
    exact ev_pos (by omega) (specSt_l1 need m h pl h6 h3 hN hrows s (by omega) q need.length 0 (by omega))
theorem specStocks7_ev (hrows : ∀ s : Nat, s < pl.length → RowOk (need.length : Int) (rd_L1 pl (s : Int))) : Ev (fun k => spec_l7Stocks.f k need m h pl) (stTab need pl pl.length) := by
  unfold spec_l7Stocks.f
  exact specSt_l0 need m h pl h6 h3 hN hrows pl.length 0 (by omega)
theorem specCk_l2 {P : Prop} [Decidable P] (s : Nat) (hs : s < pl.length) (hc : StOk (tkn need pl s) (rd_L1 pl (s : Int)) need.length → Ev (fun k => spec_l7Plan.l1 k (stTab need pl pl.length) ((s + 1 : Nat) : Int)) (decide P)) (hn : ¬ StOk (tkn need pl s) (rd_L1 pl (s : Int)) need.length → ¬ P) (d : Nat) :
    ∀ t : Nat, t + d = need.length → (∀ j : Nat, j < t → 0 ≤ cst (tkn need pl s) (rd_L1 pl (s : Int)) (j + 1)) → (t = need.length → cst (tkn need pl s) (rd_L1 pl (s : Int)) need.length = 0) → Ev (fun k => spec_l7Plan.l2 k (stTab need pl pl.length) (s : Int) (t : Int)) (decide P) := by
  have _uhN := hN
  have hT := rd_stTab need pl pl.length s hs
  have hL := stTab_length need pl pl.length
  induction d with
  | zero =>
    intro t ht hj hz
    have hw : wrap64 ((s : Int) + 1) = ((s + 1 : Nat) : Int) := by rw [wid (by omega) (by omega)]; omega
    refine ev_succ ?_
    simp only [spec_l7Plan.l2]
    rw [hT, hw, csts_length]
    refine ev_pos (by omega) (ev_pos (by omega) (ev_neg (by omega) (hc ⟨fun i hi => hj i (by omega), hz (by omega)⟩)))
  | succ d ih =>
    intro t ht hj hz
    have hw : wrap64 ((t : Int) + 1) = ((t + 1 : Nat) : Int) := by rw [wid (by omega) (by omega)]; omega
    refine ev_succ ?_
    simp only [spec_l7Plan.l2]
    rw [hT, hw, csts_length, rd_csts _ _ need.length t (by omega)]
    refine ev_pos (by omega) (ev_pos (by omega) (ev_pos (by omega) (ev_pos (by omega) ?_)))
    by_cases c1 : cst (tkn need pl s) (rd_L1 pl (s : Int)) (t + 1) < 0
    · refine ev_pos c1 (ev_false (hn fun x => ?_))
      have := x.1 t (by omega)
      omega
    refine ev_neg c1 ?_
    have hj2 : ∀ j : Nat, j < t + 1 → 0 ≤ cst (tkn need pl s) (rd_L1 pl (s : Int)) (j + 1) := fun j h' => by
      by_cases e : j = t
      · rw [e]; omega
      · exact hj j (by omega)
    by_cases c2 : t + 1 = need.length
    · refine ev_pos (by omega) ?_
      by_cases c3 : cst (tkn need pl s) (rd_L1 pl (s : Int)) (t + 1) > 0
      · refine ev_pos c3 (ev_false (hn fun x => ?_))
        have := x.2
        rw [← c2] at this
        omega
      · refine ev_neg c3 (ih (t + 1) (by omega) hj2 fun _ => ?_)
        rw [← c2]
        omega
    · exact ev_neg (by omega) (ih (t + 1) (by omega) hj2 fun x => absurd x c2)
theorem specCk_l1 {P : Prop} [Decidable P] (hP : (∀ s : Nat, s < pl.length → StOk (tkn need pl s) (rd_L1 pl (s : Int)) need.length) → P) (hQ : ∀ s : Nat, s < pl.length → ¬ StOk (tkn need pl s) (rd_L1 pl (s : Int)) need.length → ¬ P) (d : Nat) :
    ∀ s : Nat, s + d = pl.length → (∀ j : Nat, j < s → StOk (tkn need pl j) (rd_L1 pl (j : Int)) need.length) → Ev (fun k => spec_l7Plan.l1 k (stTab need pl pl.length) (s : Int)) (decide P) := by
  have hL := stTab_length need pl pl.length
  induction d with
  | zero =>
    intro s hs hj
    refine ev_succ ?_
    simp only [spec_l7Plan.l1]
    exact ev_neg (by omega) (ev_true (hP fun j h' => hj j (by omega)))
  | succ d ih =>
    intro s hs hj
    refine ev_succ ?_
    simp only [spec_l7Plan.l1]
    refine ev_pos (by omega) (specCk_l2 need pl h6 h3 hN s (by omega) (fun x => ih (s + 1) (by omega) fun j h' => ?_) (hQ s (by omega)) need.length 0 (by omega) (fun j h' => by omega) (fun x => by rw [← x]; rfl))
    by_cases e : j = s
    · rw [e]; exact x
    · exact hj j (by omega)
theorem specPlan7_l0 (hle : (pl.length : Int) = (m.length : Int)) (hr : ∀ r ∈ pl, r.length ≤ 1048576) (d : Nat) : ∀ s : Nat, s + d = pl.length → (∀ j : Nat, j < s → RowOk (need.length : Int) (rd_L1 pl (j : Int))) → Ev (fun k => spec_l7Plan.l0 k pl (s : Int) need m h) (decide (CPlanOk need (m.length : Int) pl)) := by
  induction d with
  | zero =>
    intro s hs hj
    have hrows : ∀ s : Nat, s < pl.length → RowOk (need.length : Int) (rd_L1 pl (s : Int)) := fun j h' => hj j (by omega)
    refine ev_succ ?_
    simp only [spec_l7Plan.l0]
    exact ev_neg (by omega) (ev_bind (specStocks7_ev need m h pl h6 h3 hN hrows) (specCk_l1 need pl h6 h3 hN (fun x => ⟨hle, hrows, x⟩) (fun s hs x p => x (p.2.2 s hs)) pl.length 0 (by omega) (fun j h' => by omega)))
  | succ d ih =>
    intro s hs hj
    have hw : wrap64 ((s : Int) + 1) = ((s + 1 : Nat) : Int) := by rw [wid (by omega) (by omega)]; omega
    have hrl := hr _ (rd_L1_mem pl s (by omega))
    refine ev_succ ?_
    simp only [spec_l7Plan.l0]
    rw [hw]
    refine ev_pos (by omega) (ev_pos (by omega) (ev_bind (l2Row_ev (rd_L1 pl (s : Int)) _ 120 (by omega)) ?_))
    by_cases c : RowOk (need.length : Int) (rd_L1 pl (s : Int))
    · refine ev_pos (decide_eq_true c) (ih (s + 1) (by omega) fun j h' => ?_)
      by_cases e : j = s
      · rw [e]; exact c
      · exact hj j (by omega)
    · exact ev_neg (by rw [decide_eq_true_eq]; exact c) (ev_false fun p => c (p.2.1 s (by omega)))
theorem specPlan7_ev (hr : ∀ r ∈ pl, r.length ≤ 1048576) : Ev (fun k => spec_l7Plan.f k need m h pl) (decide (CPlanOk need (m.length : Int) pl)) := by
  unfold spec_l7Plan.f
  by_cases c : (pl.length : Int) = (m.length : Int)
  · exact ev_pos c (specPlan7_l0 need m h pl h6 h3 hN c hr pl.length 0 (by omega) (fun j h' => by omega))
  · exact ev_neg c (ev_false fun p => c p.1)

/-- What the program's stocks give. -/
def Good (P : Prop) [Decidable P] (T : List (List Int)) (r : List (List Int) × Bool) : Prop := r.2 = decide P ∧ (P → r.1 = T) ∧ (¬ P → r.1 = [])
omit h6 h3 hN in
theorem good_no {P : Prop} [Decidable P] {T : List (List Int)} (hp : ¬ P) : Good P T ([], false) := ⟨(decide_eq_false hp).symm, fun p => absurd p hp, fun _ => rfl⟩
theorem implSt_l1 {P : Prop} [Decidable P] {T : List (List Int)} (s : Nat) (hs : s < pl.length) (hr : RowOk (need.length : Int) (rd_L1 pl (s : Int))) (htk : RowOk (need.length : Int) (tkn need pl s))
    (hc : StOk (tkn need pl s) (rd_L1 pl (s : Int)) need.length → ∃ r, Ev (fun k => impl_Chain_stocks.l0 k pl (stTab need pl (s + 1)) pl (pl.length : Int) ((s + 1 : Nat) : Int) need m h) r ∧ Good P T r) (hn : ¬ StOk (tkn need pl s) (rd_L1 pl (s : Int)) need.length → ¬ P) (d : Nat) :
    ∀ t : Nat, t + d = need.length → (∀ j : Nat, j < t → 0 ≤ cst (tkn need pl s) (rd_L1 pl (s : Int)) (j + 1)) → ∃ r, Ev (fun k => impl_Chain_stocks.l1 k pl (stTab need pl s) (tkn need pl s) (csts (tkn need pl s) (rd_L1 pl (s : Int)) t) (cst (tkn need pl s) (rd_L1 pl (s : Int)) t) pl (pl.length : Int) (s : Int) (rd_L1 pl (s : Int)) ((rd_L1 pl (s : Int)).length : Int) (t : Int) need m h) r ∧ Good P T r := by
  have _uhN := hN
  have e1 := hr.2
  have e2 := htk.2
  induction d with
  | zero =>
    intro t ht hj
    have hw : wrap64 ((s : Int) + 1) = ((s + 1 : Nat) : Int) := by rw [wid (by omega) (by omega)]; omega
    have et : t = need.length := by omega
    by_cases c : cst (tkn need pl s) (rd_L1 pl (s : Int)) t = 0
    · obtain ⟨r, q1, q2⟩ := hc ⟨fun i hi => hj i (by omega), by rw [← et]; exact c⟩
      refine ⟨r, ev_succ ?_, q2⟩
      simp only [impl_Chain_stocks.l1, stTab_length]
      rw [stTab_succ, ← et] at q1
      rw [hw]
      exact ev_neg (by omega) (ev_pos c (ev_pos (by omega) q1))
    · refine ⟨([], false), ev_succ ?_, good_no (hn fun x => c (by rw [et]; exact x.2))⟩
      simp only [impl_Chain_stocks.l1, stTab_length]
      exact ev_neg (by omega) (ev_neg c (ev_some _))
  | succ d ih =>
    intro t ht hj
    have hw : wrap64 ((t : Int) + 1) = ((t + 1 : Nat) : Int) := by rw [wid (by omega) (by omega)]; omega
    have hst := (cst_step h6 htk hr t (by omega)).2
    by_cases c : cst (tkn need pl s) (rd_L1 pl (s : Int)) (t + 1) < 0
    · refine ⟨([], false), ev_succ ?_, good_no (hn fun x => ?_)⟩
      · simp only [impl_Chain_stocks.l1, csts_length]
        rw [hst]
        exact ev_pos (by omega) (ev_pos (by omega) (ev_pos (by omega) (ev_pos (by omega) (ev_pos c (ev_some _)))))
      · have := x.1 t (by omega)
        omega
    · obtain ⟨r, q1, q2⟩ := ih (t + 1) (by omega) fun j h' => by
        by_cases e : j = t
        · rw [e]; omega
        · exact hj j (by omega)
      refine ⟨r, ev_succ ?_, q2⟩
      simp only [impl_Chain_stocks.l1, csts_length]
      rw [hst, hw, ← csts_succ]
      exact ev_pos (by omega) (ev_pos (by omega) (ev_pos (by omega) (ev_pos (by omega) (ev_neg c (ev_pos (by omega) q1)))))
theorem implSt_l2 {P : Prop} [Decidable P] {T : List (List Int)} (s : Nat) (hs : s < pl.length) (hr : RowOk (need.length : Int) (rd_L1 pl (s : Int))) (htk : RowOk (need.length : Int) (tkn need pl s))
    (hc : StOk (tkn need pl s) (rd_L1 pl (s : Int)) need.length → ∃ r, Ev (fun k => impl_Chain_stocks.l0 k pl (stTab need pl (s + 1)) pl (pl.length : Int) ((s + 1 : Nat) : Int) need m h) r ∧ Good P T r) (hn : ¬ StOk (tkn need pl s) (rd_L1 pl (s : Int)) need.length → ¬ P) (d : Nat) :
    ∀ t : Nat, t + d = need.length → (∀ j : Nat, j < t → 0 ≤ cst (tkn need pl s) (rd_L1 pl (s : Int)) (j + 1)) → ∃ r, Ev (fun k => impl_Chain_stocks.l2 k pl (stTab need pl s) (tkn need pl s) (csts (tkn need pl s) (rd_L1 pl (s : Int)) t) (cst (tkn need pl s) (rd_L1 pl (s : Int)) t) pl (pl.length : Int) (s : Int) (rd_L1 pl (s : Int)) ((rd_L1 pl (s : Int)).length : Int) (t : Int) need m h) r ∧ Good P T r := by
  have _uhN := hN
  have e1 := hr.2
  have e2 := htk.2
  induction d with
  | zero =>
    intro t ht hj
    have hw : wrap64 ((s : Int) + 1) = ((s + 1 : Nat) : Int) := by rw [wid (by omega) (by omega)]; omega
    have et : t = need.length := by omega
    by_cases c : cst (tkn need pl s) (rd_L1 pl (s : Int)) t = 0
    · obtain ⟨r, q1, q2⟩ := hc ⟨fun i hi => hj i (by omega), by rw [← et]; exact c⟩
      refine ⟨r, ev_succ ?_, q2⟩
      simp only [impl_Chain_stocks.l2, stTab_length]
      rw [stTab_succ, ← et] at q1
      rw [hw]
      exact ev_neg (by omega) (ev_pos c (ev_pos (by omega) q1))
    · refine ⟨([], false), ev_succ ?_, good_no (hn fun x => c (by rw [et]; exact x.2))⟩
      simp only [impl_Chain_stocks.l2, stTab_length]
      exact ev_neg (by omega) (ev_neg c (ev_some _))
  | succ d ih =>
    intro t ht hj
    have hw : wrap64 ((t : Int) + 1) = ((t + 1 : Nat) : Int) := by rw [wid (by omega) (by omega)]; omega
    have hst := (cst_step h6 htk hr t (by omega)).2
    by_cases c : cst (tkn need pl s) (rd_L1 pl (s : Int)) (t + 1) < 0
    · refine ⟨([], false), ev_succ ?_, good_no (hn fun x => ?_)⟩
      · simp only [impl_Chain_stocks.l2, csts_length]
        rw [hst]
        exact ev_pos (by omega) (ev_pos (by omega) (ev_pos (by omega) (ev_pos (by omega) (ev_pos c (ev_some _)))))
      · have := x.1 t (by omega)
        omega
    · obtain ⟨r, q1, q2⟩ := ih (t + 1) (by omega) fun j h' => by
        by_cases e : j = t
        · rw [e]; omega
        · exact hj j (by omega)
      refine ⟨r, ev_succ ?_, q2⟩
      simp only [impl_Chain_stocks.l2, csts_length]
      rw [hst, hw, ← csts_succ]
      exact ev_pos (by omega) (ev_pos (by omega) (ev_pos (by omega) (ev_pos (by omega) (ev_neg c (ev_pos (by omega) q1)))))
theorem implSt_l0 (hle : (pl.length : Int) = (m.length : Int)) (hr : ∀ r ∈ pl, r.length ≤ 1048576) (d : Nat) : ∀ s : Nat, s + d = pl.length → (∀ j : Nat, j < s → RowOk (need.length : Int) (rd_L1 pl (j : Int)) ∧ StOk (tkn need pl j) (rd_L1 pl (j : Int)) need.length) →
    ∃ r, Ev (fun k => impl_Chain_stocks.l0 k pl (stTab need pl s) pl (pl.length : Int) (s : Int) need m h) r ∧ Good (CPlanOk need (m.length : Int) pl) (stTab need pl pl.length) r := by
  induction d with
  | zero =>
    intro s hs hj
    have es : s = pl.length := by omega
    have hok : CPlanOk need (m.length : Int) pl := ⟨hle, fun j h' => (hj j (by omega)).1, fun j h' => (hj j (by omega)).2⟩
    refine ⟨(stTab need pl s, true), ev_succ ?_, ?_, fun _ => by rw [es], fun hn => absurd hok hn⟩
    · simp only [impl_Chain_stocks.l0]
      exact ev_neg (by omega) (ev_some _)
    · exact (decide_eq_true hok).symm
  | succ d ih =>
    intro s hs hj
    have hw : wrap64 ((s : Int) + 1) = ((s + 1 : Nat) : Int) := by rw [wid (by omega) (by omega)]; omega
    have hrl := hr _ (rd_L1_mem pl s (by omega))
    have q0 : (s : Int) < (pl.length : Int) := by omega
    have q1 : 0 ≤ (s : Int) := by omega
    have hnr : ∀ j : Nat, j < pl.length → ¬ RowOk (need.length : Int) (rd_L1 pl (j : Int)) → ¬ CPlanOk need (m.length : Int) pl := fun j h' x p => x (p.2.1 j h')
    have hns : ¬ StOk (tkn need pl s) (rd_L1 pl (s : Int)) need.length → ¬ CPlanOk need (m.length : Int) pl := fun x p => x (p.2.2 s (by omega))
    have hcont : RowOk (need.length : Int) (rd_L1 pl (s : Int)) → StOk (tkn need pl s) (rd_L1 pl (s : Int)) need.length → ∃ r, Ev (fun k => impl_Chain_stocks.l0 k pl (stTab need pl (s + 1)) pl (pl.length : Int) ((s + 1 : Nat) : Int) need m h) r ∧ Good (CPlanOk need (m.length : Int) pl) (stTab need pl pl.length) r := fun x y => ih (s + 1) (by omega) fun j h' => by
      by_cases e : j = s
      · rw [e]; exact ⟨x, y⟩
      · exact hj j (by omega)
    by_cases last : s + 1 < pl.length
    · have et : tkn need pl s = rd_L1 pl ((s + 1 : Nat) : Int) := by unfold tkn; rw [if_pos last]
      have hrl2 := hr _ (rd_L1_mem pl (s + 1) last)
      by_cases c : RowOk (need.length : Int) (rd_L1 pl (s : Int)) ∧ RowOk (need.length : Int) (rd_L1 pl ((s + 1 : Nat) : Int))
      · obtain ⟨r, g1, g2⟩ := implSt_l1 need m h pl h6 h3 hN s (by omega) c.1 (by rw [et]; exact c.2) (hcont c.1) hns need.length 0 (by omega) (fun j h' => by omega)
        refine ⟨r, ev_succ ?_, g2⟩
        simp only [impl_Chain_stocks.l0]
        rw [hw]
        refine ev_pos q0 (ev_pos q1 (ev_pos q0 (ev_pos (by omega) (ev_pos (by omega) (ev_pos c.1.2 (ev_pos c.2.2 (ev_bind (allWithin_ev _ 0 120 (by omega)) (ev_pos (decide_eq_true c.1.1) (ev_bind (allWithin_ev _ 0 120 (by omega)) (ev_succ ?_))))))))))
        simp only [impl_Chain_stocks.j1]
        rw [et] at g1
        exact ev_neg (by rw [decide_eq_true c.2.1]; simp) g1
      · have hno : ¬ CPlanOk need (m.length : Int) pl := fun p => c ⟨p.2.1 s (by omega), p.2.1 (s + 1) last⟩
        refine ⟨([], false), ev_succ ?_, good_no hno⟩
        simp only [impl_Chain_stocks.l0]
        rw [hw]
        refine ev_pos q0 (ev_pos q1 (ev_pos q0 (ev_pos (by omega) (ev_pos (by omega) ?_))))
        by_cases a1 : ((rd_L1 pl (s : Int)).length : Int) = (need.length : Int)
        rotate_left
        · exact ev_neg a1 (ev_succ (by simp only [impl_Chain_stocks.j1, if_true]; exact ev_some _))
        refine ev_pos a1 ?_
        by_cases a2 : ((rd_L1 pl ((s + 1 : Nat) : Int)).length : Int) = (need.length : Int)
        rotate_left
        · exact ev_neg a2 (ev_succ (by simp only [impl_Chain_stocks.j1, if_true]; exact ev_some _))
        refine ev_pos a2 (ev_bind (allWithin_ev _ 0 120 (by omega)) ?_)
        by_cases a3 : ∀ x ∈ rd_L1 pl (s : Int), 0 ≤ x ∧ x ≤ 120
        rotate_left
        · exact ev_neg (by rw [decide_eq_true_eq]; exact a3) (ev_succ (by simp only [impl_Chain_stocks.j1, if_true]; exact ev_some _))
        refine ev_pos (decide_eq_true a3) (ev_bind (allWithin_ev _ 0 120 (by omega)) (ev_succ ?_))
        have a4 : ¬ ∀ x ∈ rd_L1 pl ((s + 1 : Nat) : Int), 0 ≤ x ∧ x ≤ 120 := fun a4 => c ⟨⟨a3, a1⟩, a4, a2⟩
        simp only [impl_Chain_stocks.j1]
        exact ev_pos (by rw [decide_eq_false a4]; rfl) (ev_some _)
    · have et : tkn need pl s = need := by unfold tkn; rw [if_neg last]
      have hNo : RowOk (need.length : Int) need := ⟨fun x hx => by have := hN x hx; omega, rfl⟩
      by_cases c : RowOk (need.length : Int) (rd_L1 pl (s : Int))
      · obtain ⟨r, g1, g2⟩ := implSt_l2 need m h pl h6 h3 hN s (by omega) c (by rw [et]; exact hNo) (hcont c) hns need.length 0 (by omega) (fun j h' => by omega)
        refine ⟨r, ev_succ ?_, g2⟩
        simp only [impl_Chain_stocks.l0]
        rw [hw]
        refine ev_pos q0 (ev_pos q1 (ev_pos q0 (ev_neg (by omega) (ev_pos c.2 (ev_pos trivial (ev_bind (allWithin_ev _ 0 120 (by omega)) (ev_pos (decide_eq_true c.1) (ev_bind (allWithin_ev _ 0 120 (by omega)) (ev_succ ?_)))))))))
        simp only [impl_Chain_stocks.j3]
        rw [et] at g1
        exact ev_neg (by rw [decide_eq_true hNo.1]; simp) g1
      · have hno : ¬ CPlanOk need (m.length : Int) pl := hnr s (by omega) c
        refine ⟨([], false), ev_succ ?_, good_no hno⟩
        simp only [impl_Chain_stocks.l0]
        rw [hw]
        refine ev_pos q0 (ev_pos q1 (ev_pos q0 (ev_neg (by omega) ?_)))
        by_cases a1 : ((rd_L1 pl (s : Int)).length : Int) = (need.length : Int)
        rotate_left
        · exact ev_neg a1 (ev_succ (by simp only [impl_Chain_stocks.j3, if_true]; exact ev_some _))
        refine ev_pos a1 (ev_pos trivial (ev_bind (allWithin_ev _ 0 120 (by omega)) ?_))
        have a3 : ¬ ∀ x ∈ rd_L1 pl (s : Int), 0 ≤ x ∧ x ≤ 120 := fun a3 => c ⟨a3, a1⟩
        exact ev_neg (by rw [decide_eq_true_eq]; exact a3) (ev_succ (by simp only [impl_Chain_stocks.j3, if_true]; exact ev_some _))
theorem implStocks7_ev (hr : ∀ r ∈ pl, r.length ≤ 1048576) : ∃ r, Ev (fun k => impl_Chain_stocks.f k need m h pl) r ∧ Good (CPlanOk need (m.length : Int) pl) (stTab need pl pl.length) r := by
  unfold impl_Chain_stocks.f
  by_cases c : (pl.length : Int) = (m.length : Int)
  · obtain ⟨r, q1, q2⟩ := implSt_l0 need m h pl h6 h3 hN c hr pl.length 0 (by omega) (fun j h' => by omega)
    exact ⟨r, ev_pos c q1, q2⟩
  · exact ⟨_, ev_neg c (ev_some _), good_no fun p => c p.1⟩
end
/-- The numbers from a on. -/
def asc (a : Int) (n : Nat) : List Int := (List.range n).map fun i => a + ((i : Nat) : Int)
theorem asc_length (a : Int) (n : Nat) : (asc a n).length = n := by simp [asc]
theorem asc_succ (a : Int) (n : Nat) : asc a (n + 1) = asc a n ++ [a + (n : Int)] := by simp [asc, List.range_succ]
theorem rd_asc (a : Int) (n i : Nat) (h : i < n) : rd (asc a n) (i : Int) = a + (i : Int) := by
  rw [rd_nat _ _ (by rw [asc_length]; exact h)]
  simp [asc]
theorem mark_l0 (n : Nat) (a : Int) (h0 : 0 ≤ a) (hn : n ≤ 35184372088832) (ha : a ≤ 35184372088832) (d : Nat) : ∀ (i : Nat) (ys : List Int), i + d = n → ys.length = n → ys.take i = asc a i →
    Ev (fun k => laws_markIntS.l0 k ys (a + (i : Int)) (i : Int)) (a + (n : Int), asc a n) := by
  induction d with
  | zero =>
    intro i ys hi hl ht
    refine ev_succ ?_
    simp only [laws_markIntS.l0]
    refine ev_neg (by omega) (ev_cast (ev_some _) ?_)
    rw [List.take_of_length_le (by omega)] at ht
    rw [ht, show i = n by omega]
  | succ d ih =>
    intro i ys hi hl ht
    refine ev_succ ?_
    simp only [laws_markIntS.l0]
    have hw : wrap64 ((i : Int) + 1) = ((i + 1 : Nat) : Int) := by rw [wid (by omega) (by omega)]; omega
    have hw2 : wrap64 (a + (i : Int) + 1) = a + ((i + 1 : Nat) : Int) := by rw [wid (by omega) (by omega)]; omega
    rw [hw, hw2]
    refine ev_pos (by omega) (ev_pos (by omega) (ih (i + 1) _ (by omega) (by simpa using hl) ?_))
    rw [Int.toNat_natCast, List.take_succ_eq_append_getElem (by simp; omega), List.getElem_set_self, List.take_set_of_le (by omega), ht, asc_succ]
theorem mark_ev (ys : List Int) (a : Int) (h0 : 0 ≤ a) (hn : ys.length ≤ 35184372088832) (ha : a ≤ 35184372088832) : Ev (fun k => laws_markIntS.f k ys a) (a + (ys.length : Int), asc a ys.length) := by
  unfold laws_markIntS.f
  have := mark_l0 ys.length a h0 hn ha ys.length 0 ys (by omega) rfl rfl
  simpa using this
theorem held_l0 (n : Nat) (a : Int) (h0 : 0 ≤ a) (hn : n ≤ 35184372088832) (ha : a ≤ 35184372088832) (d : Nat) : ∀ (i : Nat), i + d = n →
    Ev (fun k => laws_heldIntS.l0 k (asc a n) (a + (i : Int)) (i : Int)) (a + (n : Int)) := by
  induction d with
  | zero =>
    intro i hi
    refine ev_succ ?_
    simp only [laws_heldIntS.l0, asc_length]
    refine ev_neg (by omega) (ev_cast (ev_some _) ?_)
    rw [show i = n by omega]
  | succ d ih =>
    intro i hi
    refine ev_succ ?_
    simp only [laws_heldIntS.l0, asc_length]
    have hw : wrap64 ((i : Int) + 1) = ((i + 1 : Nat) : Int) := by rw [wid (by omega) (by omega)]; omega
    have hw2 : wrap64 (a + (i : Int) + 1) = a + ((i + 1 : Nat) : Int) := by rw [wid (by omega) (by omega)]; omega
    rw [hw, hw2, rd_asc a n i (by omega)]
    exact ev_pos (by omega) (ev_pos (by omega) (ev_pos rfl (ih (i + 1) (by omega))))
theorem held_ev (a : Int) (n : Nat) (h0 : 0 ≤ a) (hn : n ≤ 35184372088832) (ha : a ≤ 35184372088832) : Ev (fun k => laws_heldIntS.f k (asc a n) a) (a + (n : Int)) := by
  unfold laws_heldIntS.f
  have := held_l0 n a h0 hn ha n 0 (by omega)
  simpa using this
/-- Rows of marks. -/
def tot : List (List Int) → Int
  | [] => 0
  | r :: rs => (r.length : Int) + tot rs
def mkS : Int → List (List Int) → List (List Int)
  | _, [] => []
  | a, r :: rs => asc a r.length :: mkS (a + (r.length : Int)) rs
theorem tot_in (rs : List (List Int)) (h : ∀ r ∈ rs, r.length ≤ 1048576) : 0 ≤ tot rs ∧ tot rs ≤ rs.length * 1048576 := by
  induction rs with
  | nil => simp [tot]
  | cons r rs ih =>
    have h1 := h r (by simp)
    have h2 := ih fun x hx => h x (by simp [hx])
    simp only [tot, List.length_cons]
    omega
theorem rd_mid (pre post : List (List Int)) (r : List Int) : rd_L1 (pre ++ r :: post) (pre.length : Int) = r := by
  rw [rd_L1_nat _ _ (by simp)]
  simp
theorem markSS_l0 (post : List (List Int)) : ∀ (pre : List (List Int)) (a : Int), (pre ++ post).length ≤ 1048576 → (∀ r ∈ post, r.length ≤ 1048576) → 0 ≤ a → a + tot post ≤ 35184372088832 →
    Ev (fun k => laws_markIntSS.l0 k (pre ++ post) a (pre.length : Int)) (a + tot post, pre ++ mkS a post) := by
  induction post with
  | nil =>
    intro pre a hl hr h0 ha
    refine ev_succ ?_
    simp only [laws_markIntSS.l0, List.append_nil, tot, mkS, Int.add_zero]
    exact ev_neg (by omega) (ev_some _)
  | cons r rs ih =>
    intro pre a hl hr h0 ha
    have h1 := hr r (by simp)
    have h2 := tot_in rs fun x hx => hr x (by simp [hx])
    simp only [List.length_append, List.length_cons] at hl
    simp only [tot] at ha
    have hw : wrap64 ((pre.length : Int) + 1) = ((pre ++ [asc a r.length]).length : Int) := by rw [wid (by omega) (by omega)]; simp
    have hs : (pre ++ r :: rs).set (pre.length : Int).toNat (asc a r.length) = (pre ++ [asc a r.length]) ++ rs := by rw [Int.toNat_natCast]; simp
    have q := ih (pre ++ [asc a r.length]) (a + (r.length : Int)) (by simp; omega) (fun x hx => hr x (by simp [hx])) (by omega) (by omega)
    refine ev_succ ?_
    simp only [laws_markIntSS.l0]
    rw [rd_mid, hw]
    refine ev_pos (by simp; omega) (ev_pos (by omega) (ev_bind (mark_ev r a h0 (by omega) (by omega)) ?_))
    simp only [hs]
    refine ev_cast q ?_
    simp [tot, mkS, Int.add_assoc]
theorem markSS_ev (rs : List (List Int)) (a : Int) (hl : rs.length ≤ 1048576) (hr : ∀ r ∈ rs, r.length ≤ 1048576) (h0 : 0 ≤ a) (ha : a ≤ 17592186044416) : Ev (fun k => laws_markIntSS.f k rs a) (a + tot rs, mkS a rs) := by
  have h := tot_in rs hr
  unfold laws_markIntSS.f
  exact markSS_l0 rs [] a (by simpa using hl) hr h0 (by omega)
theorem heldSS_l0 (post : List (List Int)) : ∀ (pre : List (List Int)) (a : Int), (pre ++ post).length ≤ 1048576 → (∀ r ∈ post, r.length ≤ 1048576) → 0 ≤ a → a + tot post ≤ 35184372088832 →
    Ev (fun k => laws_heldIntSS.l0 k (pre ++ mkS a post) a (pre.length : Int)) (a + tot post) := by
  induction post with
  | nil =>
    intro pre a hl hr h0 ha
    refine ev_succ ?_
    simp only [laws_heldIntSS.l0, List.append_nil, tot, mkS, Int.add_zero]
    exact ev_neg (by omega) (ev_some _)
  | cons r rs ih =>
    intro pre a hl hr h0 ha
    have h1 := hr r (by simp)
    have h2 := tot_in rs fun x hx => hr x (by simp [hx])
    simp only [List.length_append, List.length_cons] at hl
    simp only [tot] at ha
    have hw : wrap64 ((pre.length : Int) + 1) = ((pre ++ [asc a r.length]).length : Int) := by rw [wid (by omega) (by omega)]; simp
    have q := ih (pre ++ [asc a r.length]) (a + (r.length : Int)) (by simp; omega) (fun x hx => hr x (by simp [hx])) (by omega) (by omega)
    refine ev_succ ?_
    simp only [laws_heldIntSS.l0, mkS]
    rw [rd_mid, hw]
    refine ev_pos (by simp; omega) (ev_pos (by omega) (ev_bind (held_ev a r.length h0 (by omega) (by omega)) (ev_neg (by omega) ?_)))
    rw [show pre ++ asc a r.length :: mkS (a + (r.length : Int)) rs = (pre ++ [asc a r.length]) ++ mkS (a + (r.length : Int)) rs by simp]
    refine ev_cast q ?_
    simp [tot, Int.add_assoc]
theorem heldSS_ev (rs : List (List Int)) (hl : rs.length ≤ 1048576) (hr : ∀ r ∈ rs, r.length ≤ 1048576) : Ev (fun k => laws_heldIntSS.f k (mkS 1 rs) 1) (1 + tot rs) := by
  have h := tot_in rs hr
  unfold laws_heldIntSS.f
  exact heldSS_l0 rs [] 1 (by simpa using hl) hr (by omega) (by omega)
theorem specTwo_ev (l m h : List Int) (pl : List (List Int)) (hl : l.length ≤ 35184372088832) (hm : m.length ≤ 35184372088832) (hh : h.length ≤ 35184372088832) (hr : ∀ r ∈ pl, r.length ≤ 1048576) : Ev (fun k => spec_l7Two.f k l m h pl) (decide (ChainOk l m h ∧ CPlanOk l (m.length : Int) pl)) := by
  unfold spec_l7Two.f
  refine ev_bind (specChain_ev l m h hl hm hh) ?_
  by_cases c : ChainOk l m h
  · have hm3 := c.2.2.1.2
    refine ev_pos (decide_eq_true c) (ev_bind (a := decide (CPlanOk l (m.length : Int) pl)) ?_ (ev_cast (ev_some _) ?_))
    · by_cases c2 : (pl.length : Int) = (m.length : Int)
      · exact specPlan7_ev l m h pl (by have := c.1; omega) (by omega) c.2.1 hr
      · unfold spec_l7Plan.f
        exact ev_neg c2 (ev_false fun p => c2 p.1)
    · rw [decide_eq_decide]
      exact ⟨fun x => ⟨c, x⟩, fun x => x.2⟩
  · exact ev_neg (by rw [decide_eq_true_eq]; exact c) (ev_false fun x => c x.1)
theorem linked_ev (l m h : List Int) (pl : List (List Int)) (hl : l.length ≤ 35184372088832) (hm : m.length ≤ 35184372088832) (hh : h.length ≤ 35184372088832) (hr : ∀ r ∈ pl, r.length ≤ 1048576) : Ev (fun k => impl_linked.f k l m h pl) (if ChainOk l m h ∧ CPlanOk l (m.length : Int) pl then (stTab l pl pl.length, true) else ([], false)) := by
  unfold impl_linked.f
  refine ev_bind (implChain_ev l m h hl hm hh) ?_
  by_cases c : ChainOk l m h
  · have h6 := c.1
    have hm3 := c.2.2.1.2
    refine ev_pos (decide_eq_true c) ?_
    by_cases c2 : (pl.length : Int) = (m.length : Int)
    · obtain ⟨r, q1, q2, q3, q4⟩ := implStocks7_ev l m h pl (by omega) (by omega) c.2.1 hr
      refine ev_bind q1 (ev_cast (ev_some _) ?_)
      by_cases p : CPlanOk l (m.length : Int) pl
      · rw [if_pos ⟨c, p⟩, q2, q3 p, decide_eq_true p]
      · rw [if_neg fun x => p x.2, q2, q4 p, decide_eq_false p]
    · have p : ¬ CPlanOk l (m.length : Int) pl := fun p => c2 p.1
      rw [if_neg fun x => p x.2]
      refine ev_bind (a := ([], false)) ?_ (ev_some _)
      unfold impl_Chain_stocks.f
      exact ev_neg c2 (ev_some _)
  · rw [if_neg fun x => c x.1]
    exact ev_neg (by rw [decide_eq_true_eq]; exact c) (ev_some _)

/-- One row with another one added, from a place on. -/
def addR (q : List Int) : Nat → Nat → List Int → List Int
  | 0, _, r => r
  | d + 1, t, r => addR q d (t + 1) (r.set t (wrap64 (rd r (t : Int) + rd q (t : Int))))
theorem addR_length (q : List Int) (d : Nat) : ∀ (t : Nat) (r : List Int), (addR q d t r).length = r.length := by
  induction d with
  | zero => intro t r; rfl
  | succ d ih => intro t r; simp only [addR, ih, List.length_set]
/-- The rows added up, from the last one on. -/
def echT (n : Nat) : Nat → List (List Int) → List (List Int)
  | 0, T => T
  | s + 1, T => echT n s (T.set s (addR (rd_L1 T ((s + 1 : Nat) : Int)) n 0 (rd_L1 T (s : Int))))
def RowsN (m n : Nat) (T : List (List Int)) : Prop := T.length = m ∧ ∀ r ∈ T, r.length = n
theorem rowsN_at {m n : Nat} {T : List (List Int)} (h : RowsN m n T) (s : Nat) (hs : s < m) : (rd_L1 T (s : Int)).length = n := h.2 _ (rd_L1_mem T s (by have := h.1; omega))
theorem rowsN_set {m n : Nat} {T : List (List Int)} (h : RowsN m n T) (s : Nat) (r : List Int) (hr : r.length = n) : RowsN m n (T.set s r) := by
  refine ⟨by rw [List.length_set]; exact h.1, fun x hx => ?_⟩
  rcases List.mem_or_eq_of_mem_set hx with hx | hx
  · exact h.2 x hx
  · rw [hx]; exact hr
theorem echT_rows {m n : Nat} (s : Nat) : ∀ T, s < m → RowsN m n T → RowsN m n (echT n s T) := by
  induction s with
  | zero => intro T _ h; exact h
  | succ s ih =>
    intro T hs h
    simp only [echT]
    exact ih _ (by omega) (rowsN_set h s _ (by rw [addR_length]; exact rowsN_at h s (by omega)))
theorem rd_set_same (T : List (List Int)) (s : Nat) (r : List Int) (hs : s < T.length) : rd_L1 (T.set s r) (s : Int) = r := by
  rw [rd_L1_nat _ s (by rw [List.length_set]; exact hs)]
  simp
theorem rd_set_next (T : List (List Int)) (s : Nat) (r : List Int) (hs : s + 1 < T.length) : rd_L1 (T.set s r) ((s + 1 : Nat) : Int) = rd_L1 T ((s + 1 : Nat) : Int) := by
  rw [rd_L1_nat _ (s + 1) (by rw [List.length_set]; exact hs), rd_L1_nat T (s + 1) hs, List.getElem_set_ne (by omega)]
theorem set_self (T : List (List Int)) (s : Nat) (hs : s < T.length) : T.set s (rd_L1 T (s : Int)) = T := by
  rw [rd_L1_nat T s hs]
  simp
theorem wnext (t : Nat) (h : t < 1000000) : wrap64 ((t : Int) + 1) = ((t + 1 : Nat) : Int) := by rw [wid (by omega) (by omega)]; omega
section
variable {need m h : List Int} {M : Nat} (h6 : need.length ≤ 6) (h3 : M ≤ 3)
include h6 h3
theorem specE_l1 {T : List (List Int)} (hT : RowsN M need.length T) (s : Nat) (hs : s + 1 < M) {R : List (List Int) × Bool} (d : Nat) : ∀ (t : Nat) (r : List Int), t + d = need.length → r.length = need.length →
    Ev (fun k => spec_EchelonStocks.l0 k (T.set s (addR (rd_L1 T ((s + 1 : Nat) : Int)) d t r)) ((s : Int) - 1) need m h) R → Ev (fun k => spec_EchelonStocks.l1 k (T.set s r) (s : Int) (t : Int) need m h) R := by
  have hl := hT.1
  have hq := rowsN_at hT (s + 1) hs
  have hw1 : wrap64 ((s : Int) + 1) = ((s + 1 : Nat) : Int) := by rw [wid (by omega) (by omega)]; omega
  have hw2 : wrap64 ((s : Int) - 1) = (s : Int) - 1 := wid (by omega) (by omega)
  induction d with
  | zero =>
    intro t r ht hr hR
    simp only [addR] at hR
    refine ev_succ ?_
    simp only [spec_EchelonStocks.l1]
    rw [hw2]
    exact ev_neg (by omega) hR
  | succ d ih =>
    intro t r ht hr hR
    have n1 : t < need.length := by rw [← ht]; exact Nat.lt_add_of_pos_right (Nat.succ_pos d)
    have hw : wrap64 ((t : Int) + 1) = ((t + 1 : Nat) : Int) := wnext t (Nat.lt_of_lt_of_le n1 (Nat.le_trans h6 (by decide)))
    have b1 : (t : Int) < (need.length : Int) := Int.ofNat_lt.mpr n1
    have b2 : 0 ≤ (s : Int) := Int.natCast_nonneg s
    have b3 : 0 ≤ (t : Int) := Int.natCast_nonneg t
    have b4 : (t : Int) < (r.length : Int) := Int.ofNat_lt.mpr (by rw [hr]; exact n1)
    have b5 : 0 ≤ ((s + 1 : Nat) : Int) := Int.natCast_nonneg (s + 1)
    have b6 : (t : Int) < ((rd_L1 T ((s + 1 : Nat) : Int)).length : Int) := Int.ofNat_lt.mpr (by rw [hq]; exact n1)
    have b7 : t + 1 + d = need.length := by rw [Nat.add_assoc, Nat.add_comm 1 d]; exact ht
    have c1 : s < T.length := by rw [hl]; exact Nat.lt_of_succ_lt hs
    have c2 : s + 1 < T.length := by rw [hl]; exact hs
    have p1 : ((s : Nat) : Int) < ((T.set s r).length : Int) := Int.ofNat_lt.mpr (by rw [List.length_set]; exact c1)
    have p2 : ((s + 1 : Nat) : Int) < ((T.set s r).length : Int) := Int.ofNat_lt.mpr (by rw [List.length_set]; exact c2)
    simp only [addR] at hR
    refine ev_succ ?_
    simp only [spec_EchelonStocks.l1]
    rw [hw, hw1, rd_set_same T s r c1, rd_set_next T s r c2, Int.toNat_natCast, Int.toNat_natCast, List.set_set]
    exact ev_pos b1 (ev_pos b2 (ev_pos p1 (ev_pos b3 (ev_pos b4 (ev_pos b5 (ev_pos p2 (ev_pos b6 (ih (t + 1) _ b7 (by rw [List.length_set]; exact hr) hR))))))))
theorem specE_l0 (s : Nat) : ∀ T, s < M → RowsN M need.length T → Ev (fun k => spec_EchelonStocks.l0 k T ((s : Int) - 1) need m h) (echT need.length s T, true) := by
  induction s with
  | zero =>
    intro T hs hT
    refine ev_succ ?_
    simp only [spec_EchelonStocks.l0, echT]
    exact ev_neg (by omega) (ev_some _)
  | succ s ih =>
    intro T hs hT
    have hl := hT.1
    have e : ((s + 1 : Nat) : Int) - 1 = (s : Int) := by omega
    have hr := rowsN_at hT s (by omega)
    have q := specE_l1 (m := m) (h := h) h6 h3 hT s hs (R := (echT need.length (s + 1) T, true)) need.length 0 (rd_L1 T (s : Int)) (by omega) hr (ih _ (by omega) (rowsN_set hT s _ (by rw [addR_length]; exact hr)))
    rw [set_self T s (by omega)] at q
    refine ev_succ ?_
    simp only [spec_EchelonStocks.l0]
    rw [e]
    exact ev_pos (by omega) q
theorem implE_l1 {T : List (List Int)} (hT : RowsN M need.length T) (s : Nat) (hs : s + 1 < M) {R : List (List Int) × Bool} {q : List Int} (hq : q.length = need.length) (d : Nat) : ∀ (t : Nat) (r : List Int), t + d = need.length → r.length = need.length →
    Ev (fun k => impl_EchelonStocks.l0 k (T.set s (addR q d t r)) ((s : Int) - 1)) R → Ev (fun k => impl_EchelonStocks.l1 k (T.set s r) (s : Int) q (q.length : Int) (t : Int)) R := by
  have hl := hT.1
  have hw2 : wrap64 ((s : Int) - 1) = (s : Int) - 1 := wid (by omega) (by omega)
  induction d with
  | zero =>
    intro t r ht hr hR
    simp only [addR] at hR
    refine ev_succ ?_
    simp only [impl_EchelonStocks.l1]
    rw [hw2]
    exact ev_neg (by omega) hR
  | succ d ih =>
    intro t r ht hr hR
    have n1 : t < need.length := by rw [← ht]; exact Nat.lt_add_of_pos_right (Nat.succ_pos d)
    have hw : wrap64 ((t : Int) + 1) = ((t + 1 : Nat) : Int) := wnext t (Nat.lt_of_lt_of_le n1 (Nat.le_trans h6 (by decide)))
    have b2 : 0 ≤ (s : Int) := Int.natCast_nonneg s
    have b3 : 0 ≤ (t : Int) := Int.natCast_nonneg t
    have b4 : (t : Int) < (r.length : Int) := Int.ofNat_lt.mpr (by rw [hr]; exact n1)
    have b6 : (t : Int) < ((q).length : Int) := Int.ofNat_lt.mpr (by rw [hq]; exact n1)
    have b7 : t + 1 + d = need.length := by rw [Nat.add_assoc, Nat.add_comm 1 d]; exact ht
    have c1 : s < T.length := by rw [hl]; exact Nat.lt_of_succ_lt hs
    have p1 : ((s : Nat) : Int) < ((T.set s r).length : Int) := Int.ofNat_lt.mpr (by rw [List.length_set]; exact c1)
    simp only [addR] at hR
    refine ev_succ ?_
    simp only [impl_EchelonStocks.l1]
    rw [hw, rd_set_same T s r c1, Int.toNat_natCast, Int.toNat_natCast, List.set_set]
    exact ev_pos b6 (ev_pos b3 (ev_pos b6 (ev_pos b2 (ev_pos p1 (ev_pos b4 (ih (t + 1) _ b7 (by rw [List.length_set]; exact hr) hR))))))
theorem implE_l0 (s : Nat) : ∀ T, s < M → RowsN M need.length T → Ev (fun k => impl_EchelonStocks.l0 k T ((s : Int) - 1)) (echT need.length s T, true) := by
  induction s with
  | zero =>
    intro T hs hT
    refine ev_succ ?_
    simp only [impl_EchelonStocks.l0, echT]
    exact ev_neg (by omega) (ev_some _)
  | succ s ih =>
    intro T hs hT
    have hl := hT.1
    have e : ((s + 1 : Nat) : Int) - 1 = (s : Int) := by omega
    have hw1 : wrap64 ((s : Int) + 1) = ((s + 1 : Nat) : Int) := by rw [wid (by omega) (by omega)]; omega
    have hr := rowsN_at hT s (by omega)
    have hn := rowsN_at hT (s + 1) hs
    have q := implE_l1 h6 h3 hT s hs (R := (echT need.length (s + 1) T, true)) hn need.length 0 (rd_L1 T (s : Int)) (by omega) hr (ih _ (by omega) (rowsN_set hT s _ (by rw [addR_length]; exact hr)))
    rw [set_self T s (by omega)] at q
    refine ev_succ ?_
    simp only [impl_EchelonStocks.l0]
    rw [e, hw1]
    exact ev_pos (by omega) (ev_pos (by omega) (ev_pos (by omega) q))
end
theorem stTab_rows (l : List Int) (pl : List (List Int)) : RowsN pl.length l.length (stTab l pl pl.length) := by
  refine ⟨stTab_length l pl pl.length, fun r hr => ?_⟩
  simp only [stTab, List.mem_map] at hr
  obtain ⟨i, _, rfl⟩ := hr
  rw [csts_length]
def ans (l m h : List Int) (pl : List (List Int)) : List (List Int) × Bool := if ChainOk l m h ∧ CPlanOk l (m.length : Int) pl then (echT l.length (pl.length - 1) (stTab l pl pl.length), true) else ([], false)
theorem ans_in (l m h : List Int) (pl : List (List Int)) (hpl : pl.length ≤ 1048576) : (ans l m h pl).1.length ≤ 1048576 ∧ ∀ r ∈ (ans l m h pl).1, r.length ≤ 1048576 := by
  unfold ans
  by_cases c : ChainOk l m h ∧ CPlanOk l (m.length : Int) pl
  · rw [if_pos c]
    have h6 := c.1.1
    have hp1 := c.2.1
    have hm3 := c.1.2.2.1
    obtain ⟨e1, e2⟩ := echT_rows (pl.length - 1) _ (by omega) (stTab_rows l pl)
    refine ⟨by show (echT l.length (pl.length - 1) (stTab l pl pl.length)).length ≤ 1048576; omega, fun r hr => ?_⟩
    have := e2 r hr
    omega
  · rw [if_neg c]
    simp
theorem spec_ans (l m h : List Int) (pl : List (List Int)) (hl : l.length ≤ 35184372088832) (hm : m.length ≤ 35184372088832) (hh : h.length ≤ 35184372088832) (hr : ∀ r ∈ pl, r.length ≤ 1048576) : Ev (fun k => spec_EchelonStocks.f k l m h pl) (ans l m h pl) := by
  unfold spec_EchelonStocks.f ans
  refine ev_bind (specTwo_ev l m h pl hl hm hh hr) ?_
  by_cases c : ChainOk l m h ∧ CPlanOk l (m.length : Int) pl
  · rw [if_pos c]
    have h6 := c.1.1
    have hm3 := c.1.2.2.1
    have hp1 := c.2.1
    refine ev_pos (decide_eq_true c) (ev_bind (specStocks7_ev l m h pl (by omega) (by omega) c.1.2.1 c.2.2.1) ?_)
    rw [stTab_length, wid (by omega) (by omega), show ((pl.length : Nat) : Int) - 2 = ((pl.length - 1 : Nat) : Int) - 1 by omega]
    exact specE_l0 (by omega) (by omega) (pl.length - 1) _ (by omega) (stTab_rows l pl)
  · rw [if_neg c]
    exact ev_neg (by rw [decide_eq_true_eq]; exact c) (ev_some _)
theorem impl_ans (l m h : List Int) (pl : List (List Int)) (hl : l.length ≤ 35184372088832) (hm : m.length ≤ 35184372088832) (hh : h.length ≤ 35184372088832) (hr : ∀ r ∈ pl, r.length ≤ 1048576) : Ev (fun k => impl_EchelonStocks.f k l m h pl) (ans l m h pl) := by
  unfold impl_EchelonStocks.f ans
  refine ev_bind (linked_ev l m h pl hl hm hh hr) ?_
  by_cases c : ChainOk l m h ∧ CPlanOk l (m.length : Int) pl
  · rw [if_pos c, if_pos c]
    have h6 := c.1.1
    have hm3 := c.1.2.2.1
    have hp1 := c.2.1
    refine ev_pos rfl ?_
    show Ev (fun k => impl_EchelonStocks.l0 k (stTab l pl pl.length) (wrap64 (((stTab l pl pl.length).length : Int) - 2))) _
    rw [stTab_length, wid (by omega) (by omega), show ((pl.length : Nat) : Int) - 2 = ((pl.length - 1 : Nat) : Int) - 1 by omega]
    exact implE_l0 (by omega) (by omega) (pl.length - 1) _ (by omega) (stTab_rows l pl)
  · rw [if_neg c, if_neg c]
    exact ev_neg (by simp) (ev_some _)
theorem FnExactEchelonStocks (l0_0 : List Int) (l0_1 : List Int) (l0_2 : List Int) (l1 : List (List Int)) (hl0_0 : l0_0.length ≤ maxLen) (hw0_0 : ∀ x ∈ l0_0, (Lit.int .i64 x).wf = true) (hl0_1 : l0_1.length ≤ maxLen) (hw0_1 : ∀ x ∈ l0_1, (Lit.int .i64 x).wf = true) (hl0_2 : l0_2.length ≤ maxLen) (hw0_2 : ∀ x ∈ l0_2, (Lit.int .i64 x).wf = true) (hl1 : l1.length ≤ maxLen) (hw1 : ∀ r ∈ l1, r.length ≤ maxLen ∧ ∀ x ∈ r, (Lit.int .i64 x).wf = true) :
    ∃ k, laws_FnExactEchelonStocks.f k l0_0 l0_1 l0_2 l1 = some true := by
  refine Ev.rounds ?_
  unfold laws_FnExactEchelonStocks.f
  obtain ⟨r, hr, hz⟩ := szChain_eq l0_0 l0_1 l0_2 1048576 (by omega) (by omega) hl0_0 hl0_1 hl0_2
  simp only [hr, Option.bind_some]
  by_cases c : r < 0
  · exact ev_pos c (ev_some _)
  have hz := hz (by omega)
  refine ev_neg c ?_
  obtain ⟨r2, hr2, hz2⟩ := szIntSS_ev l1 r (by omega) (by omega) hl1 (fun x hx => (hw1 x hx).1)
  refine ev_bind hr2 ?_
  by_cases c2 : r2 < 0
  · exact ev_pos c2 (ev_some _)
  have hz2 := hz2 (by omega)
  have h0 : l0_0.length ≤ 35184372088832 := by omega
  have h1 : l0_1.length ≤ 35184372088832 := by omega
  have h2 : l0_2.length ≤ 35184372088832 := by omega
  have hto := toChain_ev l0_0 l0_1 l0_2 h0 h1 h2
  have htp := toIntSS_ev l1 hz2.1 hz2.2
  have hS := spec_ans l0_0 l0_1 l0_2 l1 h0 h1 h2 hz2.2
  have hI := impl_ans l0_0 l0_1 l0_2 l1 h0 h1 h2 hz2.2
  have hL := ans_in l0_0 l0_1 l0_2 l1 hz2.1
  generalize ans l0_0 l0_1 l0_2 l1 = A at hS hI hL
  obtain ⟨g, o⟩ := A
  simp only at hL
  have hE := eqIntSS_ev g hL.1 hL.2
  have hm : Ev (fun k => laws_markChain.f k l0_0 l0_1 l0_2 1) (1 + (l0_0.length : Int) + (l0_1.length : Int) + (l0_2.length : Int), asc 1 l0_0.length, asc (1 + (l0_0.length : Int)) l0_1.length, asc (1 + (l0_0.length : Int) + (l0_1.length : Int)) l0_2.length) := by
    unfold laws_markChain.f
    exact ev_bind (mark_ev l0_0 1 (by omega) h0 (by omega)) (ev_bind (mark_ev l0_1 _ (by omega) h1 (by omega)) (ev_bind (mark_ev l0_2 _ (by omega) h2 (by omega)) (ev_some _)))
  have hm1 := markSS_ev l1 (1 + (l0_0.length : Int) + (l0_1.length : Int) + (l0_2.length : Int)) hz2.1 hz2.2 (by omega) (by omega)
  have hm2 := markSS_ev g 1 hL.1 hL.2 (by omega) (by omega)
  have hh := heldSS_ev g hL.1 hL.2
  have t1 := tot_in l1 hz2.2
  have t2 := tot_in g hL.2
  have g1 : ¬ (1 + (l0_0.length : Int) + (l0_1.length : Int) + (l0_2.length : Int) + tot l1 < 0) := by omega
  have g2 : ¬ (1 + tot g < 0) := by omega
  refine ev_neg c2 (ev_bind hto (ev_bind htp (ev_bind hS (ev_bind hto (ev_bind htp (ev_bind hI (ev_bind hE (ev_pos rfl (ev_neg (by simp) ?_)))))))))
  refine ev_bind hto (ev_bind (eqChain_ev l0_0 l0_1 l0_2 h0 h1 h2) (ev_pos rfl (ev_bind htp (ev_bind (eqIntSS_ev l1 hz2.1 hz2.2) (ev_pos rfl ?_)))))
  refine ev_bind hm (ev_bind hm1 (ev_neg g1 (ev_bind hE (ev_pos rfl (ev_bind hm2 (ev_bind hh (ev_neg g2 (ev_pos rfl ?_))))))))
  exact ev_bind hto (ev_bind htp (ev_bind hI (ev_bind hE (ev_pos rfl (ev_neg (by simp) (ev_bind hh (ev_neg g2 (ev_pos rfl (ev_some _)))))))))

end Go.Proofs.Ytgmoljiehdeelaa.Pure
