/- The program's StageCase and the reference's give the same case of a stage. No conditions. -/
import Derived.Test.YtgmoljiehdeelaaKit
import Derived.Test.YtgmoljiehdeelaaXFnExactStageCasex7
namespace Go.Proofs.Ytgmoljiehdeelaa.Pure
set_option linter.unusedVariables false
open Go.RowKit Go.Proofs.Ytgmoljiehdeelaa.PFnExactStageCase Go.Proofs.YtgmoljiehdeelaaW.PrintWords Go.Proofs.YtgmoljiehdeelaaW.PrintLast Go.Proofs.Ytgmoljiehdeelaa.Kit

theorem in_eq (a b c : Int) : spec_l1In.f a b c = some (decide (b ≤ a ∧ a ≤ c)) := by
  unfold spec_l1In.f
  by_cases h : b ≤ a <;> simp [h]
theorem within_eq (a b c : Int) : impl_within.f a b c = some (decide (b ≤ a ∧ a ≤ c)) := by
  unfold impl_within.f
  by_cases h : b ≤ a <;> simp [h]
theorem toIntS_l0 (xs : List Int) (hn : xs.length ≤ 35184372088832) (d : Nat) : ∀ (i : Nat) (ys : List Int), i + d = xs.length → ys.length = xs.length → ys.take i = xs.take i →
    Ev (fun k => laws_toIntS.l0 k xs ys (i : Int)) xs := by
  induction d with
  | zero =>
    intro i ys hi hl ht
    refine ev_succ ?_
    simp only [laws_toIntS.l0]
    refine ev_neg (by omega) ?_
    rw [List.take_of_length_le (by omega), List.take_of_length_le (by omega)] at ht
    rw [ht]
    exact ev_some _
  | succ d ih =>
    intro i ys hi hl ht
    refine ev_succ ?_
    simp only [laws_toIntS.l0]
    refine ev_pos (by omega) (ev_pos (by omega) (ev_pos (by omega) ?_))
    have hw : wrap64 ((i : Int) + 1) = ((i + 1 : Nat) : Int) := by rw [wid (by omega) (by omega)]; omega
    rw [hw]
    refine ih (i + 1) _ (by omega) (by simpa using hl) ?_
    rw [rd_nat xs i (by omega), Int.toNat_natCast, List.take_succ_eq_append_getElem (by simp; omega), List.take_succ_eq_append_getElem (by omega), List.getElem_set_self, List.take_set_of_le (by omega), ht]
theorem toIntS_ev (xs : List Int) (hn : xs.length ≤ 35184372088832) : Ev (fun k => laws_toIntS.f k xs) xs := by
  unfold laws_toIntS.f
  refine ev_pos (by omega) (ev_pos (by omega) ?_)
  exact toIntS_l0 xs hn xs.length 0 _ (by omega) (by simp) rfl
theorem eqIntS_l0 (xs ys : List Int) (hn : xs.length ≤ 35184372088832) (hl : ys.length = xs.length) (d : Nat) : ∀ (i : Nat), i + d = xs.length →
    Ev (fun k => laws_eqIntS.l0 k xs ys (i : Int)) (decide (xs.drop i = ys.drop i)) := by
  induction d with
  | zero =>
    intro i hi
    refine ev_succ ?_
    simp only [laws_eqIntS.l0]
    refine ev_neg (by omega) ?_
    rw [List.drop_of_length_le (by omega), List.drop_of_length_le (by omega)]
    exact ev_some _
  | succ d ih =>
    intro i hi
    refine ev_succ ?_
    simp only [laws_eqIntS.l0]
    refine ev_pos (by omega) (ev_pos (by omega) (ev_pos (by omega) ?_))
    have hw : wrap64 ((i : Int) + 1) = ((i + 1 : Nat) : Int) := by rw [wid (by omega) (by omega)]; omega
    rw [hw, drop_rd xs i (by omega), drop_rd ys i (by omega)]
    by_cases h : rd xs i = rd ys i
    · refine ev_pos h (ev_cast (ih (i + 1) (by omega)) ?_)
      simp [h]
    · refine ev_neg h (ev_cast (ev_some false) ?_)
      simp [h]
theorem eqIntS_ev (xs ys : List Int) (hn : xs.length ≤ 35184372088832) : Ev (fun k => laws_eqIntS.f k xs ys) (decide (xs = ys)) := by
  unfold laws_eqIntS.f
  by_cases h : xs.length = ys.length
  · refine ev_pos (by omega) (ev_cast (eqIntS_l0 xs ys hn h.symm xs.length 0 (by omega)) (by simp))
  · refine ev_neg (by omega) (ev_cast (ev_some false) ?_)
    have : xs ≠ ys := fun e => h (by rw [e])
    simp [this]
theorem allWithin_l0 (lo up : Int) (xs : List Int) (hn : xs.length ≤ 35184372088832) (d : Nat) : ∀ (i : Nat), i + d = xs.length →
    Ev (fun k => impl_allWithin.l0 k lo up xs (xs.length : Int) (i : Int)) (decide (∀ x ∈ xs.drop i, lo ≤ x ∧ x ≤ up)) := by
  induction d with
  | zero =>
    intro i hi
    refine ev_succ ?_
    simp only [impl_allWithin.l0]
    refine ev_neg (by omega) ?_
    rw [List.drop_of_length_le (by omega)]
    exact ev_cast (ev_some true) (by simp)
  | succ d ih =>
    intro i hi
    refine ev_succ ?_
    simp only [impl_allWithin.l0, within_eq, Option.bind_some]
    refine ev_pos (by omega) (ev_pos (by omega) (ev_pos (by omega) ?_))
    have hw : wrap64 ((i : Int) + 1) = ((i + 1 : Nat) : Int) := by rw [wid (by omega) (by omega)]; omega
    rw [hw, drop_rd xs i (by omega)]
    by_cases h : lo ≤ rd xs i ∧ rd xs i ≤ up
    · refine ev_pos (by simpa using h) (ev_cast (ih (i + 1) (by omega)) ?_)
      simp [h]
    · refine ev_neg (by simpa using h) (ev_cast (ev_some false) ?_)
      symm
      simp only [decide_eq_false_iff_not, List.mem_cons]
      exact fun hh => h (hh _ (Or.inl rfl))
theorem allWithin_ev (xs : List Int) (lo hi : Int) (hn : xs.length ≤ 35184372088832) : Ev (fun k => impl_allWithin.f k xs lo hi) (decide (∀ x ∈ xs, lo ≤ x ∧ x ≤ hi)) := by
  unfold impl_allWithin.f
  exact allWithin_l0 lo hi xs hn xs.length 0 (by omega)
theorem l2Row_l0 (n up : Int) (xs : List Int) (hn : xs.length ≤ 35184372088832) (d : Nat) : ∀ (i : Nat), i + d = xs.length →
    Ev (fun k => spec_l2Row.l0 k xs n up (i : Int)) (decide ((∀ x ∈ xs.drop i, 0 ≤ x ∧ x ≤ up) ∧ (xs.length : Int) = n)) := by
  induction d with
  | zero =>
    intro i hi
    refine ev_succ ?_
    simp only [spec_l2Row.l0]
    refine ev_neg (by omega) ?_
    rw [List.drop_of_length_le (by omega)]
    refine ev_cast (ev_some _) ?_
    rw [Bool.eq_iff_iff]
    simp
  | succ d ih =>
    intro i hi
    refine ev_succ ?_
    simp only [spec_l2Row.l0, in_eq, Option.bind_some]
    refine ev_pos (by omega) (ev_pos (by omega) ?_)
    have hw : wrap64 ((i : Int) + 1) = ((i + 1 : Nat) : Int) := by rw [wid (by omega) (by omega)]; omega
    rw [hw, drop_rd xs i (by omega)]
    by_cases h : 0 ≤ rd xs i ∧ rd xs i ≤ up
    · refine ev_pos (by simpa using h) (ev_cast (ih (i + 1) (by omega)) ?_)
      simp [h]
    · refine ev_neg (by simpa using h) (ev_cast (ev_some false) ?_)
      symm
      simp only [decide_eq_false_iff_not, List.mem_cons]
      exact fun hh => h (hh.1 _ (Or.inl rfl))
theorem l2Row_ev (xs : List Int) (n up : Int) (hn : xs.length ≤ 35184372088832) : Ev (fun k => spec_l2Row.f k xs n up) (decide ((∀ x ∈ xs, 0 ≤ x ∧ x ≤ up) ∧ (xs.length : Int) = n)) := by
  unfold spec_l2Row.f
  exact l2Row_l0 n up xs hn xs.length 0 (by omega)
theorem szIntS_eq (xs : List Int) (a : Int) (h0 : 0 ≤ a) (h1 : a ≤ 1048576) (hl : xs.length ≤ maxLen) : laws_szIntS.f xs a = some (if a - (xs.length : Int) < 0 then -1 else a - (xs.length : Int)) := by
  unfold maxLen at hl
  unfold laws_szIntS.f
  rw [wid (by omega) (by omega)]
  split <;> rfl
theorem less_eq (a b : Int) : cmp_Less_int.f a b = some (decide (a < b)) := by
  unfold cmp_Less_int.f cmp_isNaN_int.f
  simp
/-- No number is less than the one before it. -/
def Ups (xs : List Int) : Prop := ∀ i : Nat, i + 1 < xs.length → ¬ rd xs ((i + 1 : Nat) : Int) < rd xs (i : Int)
theorem ups_iff (xs : List Int) : Ups xs ↔ ∀ i : Nat, i < xs.length → i + 1 < xs.length → ¬ rd xs ((i + 1 : Nat) : Int) < rd xs (i : Int) := ⟨fun h i _ h2 => h i h2, fun h i h2 => h i (by omega) h2⟩
instance (xs : List Int) : Decidable (Ups xs) := decidable_of_iff _ (ups_iff xs).symm
theorem isSorted_l0 (xs : List Int) (hn : xs.length ≤ 35184372088832) : ∀ (i : Nat), (i : Int) ≤ (xs.length : Int) - 1 → (∀ j : Nat, i ≤ j → j + 1 < xs.length → ¬ rd xs ((j + 1 : Nat) : Int) < rd xs (j : Int)) →
    Ev (fun k => slices_IsSorted_int_int.l0 k xs (i : Int)) (decide (Ups xs)) := by
  intro i
  induction i with
  | zero =>
    intro hi h
    refine ev_succ ?_
    simp only [slices_IsSorted_int_int.l0]
    exact ev_neg (by omega) (ev_true fun j hj => h j (by omega) hj)
  | succ i ih =>
    intro hi h
    refine ev_succ ?_
    simp only [slices_IsSorted_int_int.l0, less_eq, Option.bind_some]
    have hw : wrap64 (((i + 1 : Nat) : Int) - 1) = (i : Int) := by rw [wid (by omega) (by omega)]; omega
    rw [hw]
    refine ev_pos (by omega) (ev_pos (by omega) (ev_pos (by omega) (ev_pos (by omega) (ev_pos (by omega) ?_))))
    by_cases hb : rd xs ((i + 1 : Nat) : Int) < rd xs (i : Int)
    · exact ev_pos (by simpa using hb) (ev_false fun u => u i (by omega) hb)
    · refine ev_neg (by simpa using hb) (ih (by omega) fun j h1 h2 => ?_)
      by_cases e : j = i
      · rw [e]; exact hb
      · exact h j (by omega) h2
theorem isSorted_ev (xs : List Int) (hn : xs.length ≤ 35184372088832) : Ev (fun k => slices_IsSorted_int_int.f k xs) (decide (Ups xs)) := by
  unfold slices_IsSorted_int_int.f
  rw [wid (by omega) (by omega)]
  by_cases h : xs.length = 0
  · refine ev_succ ?_
    simp only [slices_IsSorted_int_int.l0]
    exact ev_neg (by omega) (ev_true fun j hj => by omega)
  · have e : (xs.length : Int) - 1 = ((xs.length - 1 : Nat) : Int) := by omega
    rw [e]
    exact isSorted_l0 xs hn (xs.length - 1) (by omega) (fun j h1 h2 => by omega)
theorem szChain_eq (l m h : List Int) (n : Int) (h0 : 0 ≤ n) (h1 : n ≤ 1048576) (hl : l.length ≤ maxLen) (hm : m.length ≤ maxLen) (hh : h.length ≤ maxLen) :
    ∃ r, laws_szChain.f l m h n = some r ∧ (0 ≤ r → r = n - l.length - m.length - h.length) := by
  unfold laws_szChain.f
  rw [szIntS_eq l n h0 h1 hl]
  simp only [Option.bind_some]
  by_cases c1 : n - (l.length : Int) < 0
  · rw [if_pos c1, if_pos (by omega)]
    exact ⟨_, rfl, by omega⟩
  · rw [if_neg c1, if_neg c1, szIntS_eq m _ (by omega) (by omega) hm]
    simp only [Option.bind_some]
    by_cases c2 : n - (l.length : Int) - (m.length : Int) < 0
    · rw [if_pos c2, if_pos (by omega)]
      exact ⟨_, rfl, by omega⟩
    · rw [if_neg c2, if_neg c2, szIntS_eq h _ (by omega) (by omega) hh]
      simp only [Option.bind_some]
      by_cases c3 : n - (l.length : Int) - (m.length : Int) - (h.length : Int) < 0
      · rw [if_pos c3, if_pos (by omega)]
        exact ⟨_, rfl, by omega⟩
      · rw [if_neg c3, if_neg c3]
        exact ⟨_, rfl, fun _ => rfl⟩
theorem toChain_ev (l m h : List Int) (hl : l.length ≤ 35184372088832) (hm : m.length ≤ 35184372088832) (hh : h.length ≤ 35184372088832) : Ev (fun k => laws_toChain.f k l m h) (l, m, h) := by
  unfold laws_toChain.f
  exact ev_bind (toIntS_ev l hl) (ev_bind (toIntS_ev m hm) (ev_bind (toIntS_ev h hh) (ev_some _)))
theorem eqChain_ev (l m h : List Int) (hl : l.length ≤ 35184372088832) (hm : m.length ≤ 35184372088832) (hh : h.length ≤ 35184372088832) : Ev (fun k => laws_eqChain.f k l m h l m h) true := by
  unfold laws_eqChain.f
  exact ev_bind (eqIntS_ev l l hl) (ev_pos (by simp) (ev_bind (eqIntS_ev m m hm) (ev_pos (by simp) (ev_bind (eqIntS_ev h h hh) (ev_pos (by simp) (ev_some _))))))

/-- What a valid chain is. -/
def ChainOk (l m h : List Int) : Prop :=
  (l.length : Int) ≤ 6 ∧ (∀ x ∈ l, 0 ≤ x ∧ x ≤ 20) ∧ (1 ≤ (m.length : Int) ∧ (m.length : Int) ≤ 3) ∧ (h.length : Int) = (m.length : Int) ∧ (∀ x ∈ m, 0 ≤ x ∧ x ≤ 99) ∧ (∀ x ∈ h, 0 ≤ x ∧ x ≤ 9) ∧ Ups h
instance (l m h : List Int) : Decidable (ChainOk l m h) := by unfold ChainOk; infer_instance
theorem implChain_ev (l m h : List Int) (hl : l.length ≤ 35184372088832) (hm : m.length ≤ 35184372088832) (hh : h.length ≤ 35184372088832) : Ev (fun k => impl_IsChain.f k l m h) (decide (ChainOk l m h)) := by
  unfold impl_IsChain.f ChainOk
  simp only [within_eq, Option.bind_some]
  exact ev_andp fun _ => ev_bind (allWithin_ev l 0 20 hl) (ev_and rfl fun _ => ev_and rfl fun _ => ev_andp fun _ => ev_bind (allWithin_ev m 0 99 hm) (ev_and rfl fun _ => ev_bind (allWithin_ev h 0 9 hh) (ev_and rfl fun _ => ev_bind (isSorted_ev h hh) (ev_some _))))
theorem l7Good_l0 (l m h : List Int) (hh : h.length ≤ 35184372088832) (d : Nat) : ∀ (i : Nat), i + 1 + d = h.length → (∀ j : Nat, j < i → ¬ rd h ((j + 1 : Nat) : Int) < rd h (j : Int)) →
    Ev (fun k => spec_l7Good.l0 k ((i + 1 : Nat) : Int) l m h) (decide (Ups h)) := by
  induction d with
  | zero =>
    intro i hi hj
    refine ev_succ ?_
    simp only [spec_l7Good.l0]
    exact ev_neg (by omega) (ev_true fun j h1 => hj j (by omega))
  | succ d ih =>
    intro i hi hj
    refine ev_succ ?_
    simp only [spec_l7Good.l0]
    have hw : wrap64 (((i + 1 : Nat) : Int) - 1) = (i : Int) := by rw [wid (by omega) (by omega)]; omega
    have hw2 : wrap64 (((i + 1 : Nat) : Int) + 1) = ((i + 1 + 1 : Nat) : Int) := by rw [wid (by omega) (by omega)]; omega
    rw [hw, hw2]
    refine ev_pos (by omega) (ev_pos (by omega) (ev_pos (by omega) (ev_pos (by omega) ?_)))
    by_cases hb : rd h ((i + 1 : Nat) : Int) < rd h (i : Int)
    · exact ev_pos hb (ev_false fun u => u i (by omega) hb)
    · refine ev_neg hb (ih (i + 1) (by omega) fun j h1 => ?_)
      by_cases e : j = i
      · rw [e]; exact hb
      · exact hj j (by omega)
theorem specChain_ev (l m h : List Int) (hl : l.length ≤ 35184372088832) (hm : m.length ≤ 35184372088832) (hh : h.length ≤ 35184372088832) : Ev (fun k => spec_l7Good.f k l m h) (decide (ChainOk l m h)) := by
  unfold spec_l7Good.f
  simp only [in_eq, Option.bind_some]
  have no : ∀ {P : Prop}, ¬ P → (ChainOk l m h → P) → Ev (fun k => spec_l7Good.j0 k true l m h) (decide (ChainOk l m h)) := by
    intro P hp hc
    refine ev_succ ?_
    simp only [spec_l7Good.j0, if_true]
    exact ev_false fun h => hp (hc h)
  have no1 : ∀ {P : Prop}, ¬ P → (ChainOk l m h → P) → Ev (fun k => spec_l7Good.j1 k true l m h) (decide (ChainOk l m h)) := by
    intro P hp hc
    refine ev_succ ?_
    simp only [spec_l7Good.j1, if_true]
    exact ev_false fun h => hp (hc h)
  by_cases h1 : (l.length : Int) > 6
  · exact ev_pos h1 (no (P := (l.length : Int) ≤ 6) (by omega) fun c => c.1)
  refine ev_neg h1 (ev_bind (l2Row_ev l _ 20 hl) ?_)
  by_cases h2 : ∀ x ∈ l, 0 ≤ x ∧ x ≤ 20
  rotate_left
  · exact ev_neg (by simpa using h2) (no h2 fun c => c.2.1)
  refine ev_pos (by simpa using h2) ?_
  by_cases h3 : 1 ≤ (m.length : Int) ∧ (m.length : Int) ≤ 3
  rotate_left
  · rw [decide_eq_false h3]
    exact no h3 fun c => c.2.2.1
  rw [decide_eq_true h3]
  refine ev_succ ?_
  simp only [spec_l7Good.j0]
  refine ev_neg (by simp) (ev_bind (l2Row_ev m _ 99 hm) ?_)
  by_cases h4 : ∀ x ∈ m, 0 ≤ x ∧ x ≤ 99
  rotate_left
  · exact ev_neg (by simpa using h4) (no1 h4 fun c => c.2.2.2.2.1)
  refine ev_pos (by simpa using h4) (ev_bind (l2Row_ev h _ 9 hh) ?_)
  by_cases h5 : (∀ x ∈ h, 0 ≤ x ∧ x ≤ 9) ∧ (h.length : Int) = (m.length : Int)
  rotate_left
  · rw [decide_eq_false h5]
    exact no1 h5 fun c => ⟨c.2.2.2.2.2.1, c.2.2.2.1⟩
  rw [decide_eq_true h5]
  refine ev_succ ?_
  simp only [spec_l7Good.j1]
  refine ev_neg (by simp) (ev_dec (P := Ups h) ?_ ⟨fun u => ⟨by omega, h2, h3, h5.2, h4, h5.1, u⟩, fun c => c.2.2.2.2.2.2⟩)
  exact l7Good_l0 l m h hh (h.length - 1) 0 (by omega) (fun j hj => by omega)
theorem rd_in {xs : List Int} {lo up : Int} (h : ∀ x ∈ xs, lo ≤ x ∧ x ≤ up) (i : Nat) (hi : i < xs.length) : lo ≤ rd xs (i : Int) ∧ rd xs (i : Int) ≤ up := by
  rw [rd_nat xs i hi]
  exact h _ (List.getElem_mem _)
/-- The echelon hold of a stage. -/
def ech (h : List Int) (i : Nat) : Int := if i = 0 then rd h 0 else rd h (i : Int) - rd h ((i - 1 : Nat) : Int)
def echs (h : List Int) (n : Nat) : List Int := (List.range n).map (ech h)
theorem echs_length (h : List Int) (n : Nat) : (echs h n).length = n := by simp [echs]
theorem echs_succ (h : List Int) (n : Nat) : echs h (n + 1) = echs h n ++ [ech h n] := by simp [echs, List.range_succ]
theorem echelons_l0 (h : List Int) (hh : ∀ x ∈ h, 0 ≤ x ∧ x ≤ 9) (hl : h.length ≤ 3) (d : Nat) : ∀ (i : Nat) (b : Int), i + d = h.length → b = (if i = 0 then 0 else rd h ((i - 1 : Nat) : Int)) →
    Ev (fun k => impl_Chain_echelons.l0 k (echs h i) b h (h.length : Int) (i : Int)) (echs h h.length) := by
  induction d with
  | zero =>
    intro i b hi hb
    refine ev_succ ?_
    simp only [impl_Chain_echelons.l0]
    refine ev_neg (by omega) (ev_cast (ev_some _) ?_)
    rw [show i = h.length by omega]
  | succ d ih =>
    intro i b hi hb
    have g := rd_in hh i (by omega)
    have e : wrap64 (rd h (i : Int) - b) = ech h i := by
      unfold ech
      by_cases h0 : i = 0
      · subst h0
        simp only [if_true] at hb ⊢
        rw [hb, wid (by omega) (by omega)]
        simp
      · rw [if_neg h0] at hb ⊢
        have g2 := rd_in hh (i - 1) (by omega)
        rw [hb, wid (by omega) (by omega)]
    have hw : wrap64 ((i : Int) + 1) = ((i + 1 : Nat) : Int) := by rw [wid (by omega) (by omega)]; omega
    refine ev_succ ?_
    simp only [impl_Chain_echelons.l0, echs_length]
    rw [e, hw, ← echs_succ]
    exact ev_pos (by omega) (ev_pos (by omega) (ev_pos (by omega) (ev_pos (by omega) (ih (i + 1) _ (by omega) (by simp)))))
theorem echelons_ev (l m h : List Int) (hc : ChainOk l m h) : Ev (fun k => impl_Chain_echelons.f k l m h) (echs h h.length) := by
  have h1 := hc.2.2.1
  have h2 := hc.2.2.2.1
  unfold impl_Chain_echelons.f
  exact echelons_l0 h hc.2.2.2.2.2.1 (by omega) h.length 0 0 (by omega) (by simp)
theorem echelon_eq (l m h : List Int) (hh : ∀ x ∈ h, 0 ≤ x ∧ x ≤ 9) (i : Nat) (hi : i < h.length) (hl : h.length ≤ 3) : spec_l7Echelon.f l m h (i : Int) = some (ech h i) := by
  unfold spec_l7Echelon.f ech
  by_cases h0 : i = 0
  · subst h0
    simp only [Int.natCast_zero, if_true]
    rw [if_pos (by omega)]
  · have g := rd_in hh i hi
    have g2 := rd_in hh (i - 1) (by omega)
    have e : wrap64 ((i : Int) - 1) = ((i - 1 : Nat) : Int) := by rw [wid (by omega) (by omega)]; omega
    rw [if_neg (by omega), if_pos (by omega), if_pos (by omega), e, if_pos (by omega), if_pos (by omega), if_neg h0, wid (by omega) (by omega)]
/-- The numbers from a on. -/
def asc (a : Int) (n : Nat) : List Int := (List.range n).map fun i => a + ((i : Nat) : Int)
theorem asc_length (a : Int) (n : Nat) : (asc a n).length = n := by simp [asc]
theorem asc_succ (a : Int) (n : Nat) : asc a (n + 1) = asc a n ++ [a + (n : Int)] := by simp [asc, List.range_succ]
theorem rd_asc (a : Int) (n i : Nat) (h : i < n) : rd (asc a n) (i : Int) = a + (i : Int) := by
  rw [rd_nat _ _ (by rw [asc_length]; exact h)]
  simp [asc]
theorem mark_l0 (n : Nat) (a : Int) (h0 : 0 ≤ a) (hn : n ≤ 35184372088832) (ha : a ≤ 35184372088832) (d : Nat) : ∀ (i : Nat) (ys : List Int), i + d = n → ys.length = n → ys.take i = asc a i →
    Ev (fun k => laws_markIntS.l0 k ys (a + (i : Int)) (i : Int)) (a + (n : Int), asc a n) := by
  induction d with
  | zero =>
    intro i ys hi hl ht
    refine ev_succ ?_
    simp only [laws_markIntS.l0]
    refine ev_neg (by omega) (ev_cast (ev_some _) ?_)
    rw [List.take_of_length_le (by omega)] at ht
    rw [ht, show i = n by omega]
  | succ d ih =>
    intro i ys hi hl ht
    refine ev_succ ?_
    simp only [laws_markIntS.l0]
    have hw : wrap64 ((i : Int) + 1) = ((i + 1 : Nat) : Int) := by rw [wid (by omega) (by omega)]; omega
    have hw2 : wrap64 (a + (i : Int) + 1) = a + ((i + 1 : Nat) : Int) := by rw [wid (by omega) (by omega)]; omega
    rw [hw, hw2]
    refine ev_pos (by omega) (ev_pos (by omega) (ih (i + 1) _ (by omega) (by simpa using hl) ?_))
    rw [Int.toNat_natCast, List.take_succ_eq_append_getElem (by simp; omega), List.getElem_set_self, List.take_set_of_le (by omega), ht, asc_succ]
theorem mark_ev (ys : List Int) (a : Int) (h0 : 0 ≤ a) (hn : ys.length ≤ 35184372088832) (ha : a ≤ 35184372088832) : Ev (fun k => laws_markIntS.f k ys a) (a + (ys.length : Int), asc a ys.length) := by
  unfold laws_markIntS.f
  have := mark_l0 ys.length a h0 hn ha ys.length 0 ys (by omega) rfl rfl
  simpa using this
theorem held_l0 (n : Nat) (a : Int) (h0 : 0 ≤ a) (hn : n ≤ 35184372088832) (ha : a ≤ 35184372088832) (d : Nat) : ∀ (i : Nat), i + d = n →
    Ev (fun k => laws_heldIntS.l0 k (asc a n) (a + (i : Int)) (i : Int)) (a + (n : Int)) := by
  induction d with
  | zero =>
    intro i hi
    refine ev_succ ?_
    simp only [laws_heldIntS.l0, asc_length]
    refine ev_neg (by omega) (ev_cast (ev_some _) ?_)
    rw [show i = n by omega]
  | succ d ih =>
    intro i hi
    refine ev_succ ?_
    simp only [laws_heldIntS.l0, asc_length]
    have hw : wrap64 ((i : Int) + 1) = ((i + 1 : Nat) : Int) := by rw [wid (by omega) (by omega)]; omega
    have hw2 : wrap64 (a + (i : Int) + 1) = a + ((i + 1 : Nat) : Int) := by rw [wid (by omega) (by omega)]; omega
    rw [hw, hw2, rd_asc a n i (by omega)]
    exact ev_pos (by omega) (ev_pos (by omega) (ev_pos rfl (ih (i + 1) (by omega))))
theorem held_ev (a : Int) (n : Nat) (h0 : 0 ≤ a) (hn : n ≤ 35184372088832) (ha : a ≤ 35184372088832) : Ev (fun k => laws_heldIntS.f k (asc a n) a) (a + (n : Int)) := by
  unfold laws_heldIntS.f
  have := held_l0 n a h0 hn ha n 0 (by omega)
  simpa using this
theorem markCase_ev (a b c e : List Int) (ha : a.length ≤ 1048576) (hb : b.length ≤ 1048576) (hc : c.length ≤ 1048576) (he : e.length ≤ 1048576) :
    Ev (fun k => laws_markCase.f k a b c e 1) (1 + (a.length : Int) + b.length + c.length + e.length, asc 1 a.length, asc (1 + (a.length : Int)) b.length, asc (1 + (a.length : Int) + b.length) c.length, asc (1 + (a.length : Int) + b.length + c.length) e.length) := by
  unfold laws_markCase.f
  refine ev_bind (mark_ev a 1 (by omega) (by omega) (by omega)) ?_
  refine ev_bind (mark_ev b (1 + (a.length : Int)) (by omega) (by omega) (by omega)) ?_
  refine ev_bind (mark_ev c (1 + (a.length : Int) + b.length) (by omega) (by omega) (by omega)) ?_
  exact ev_bind (mark_ev e (1 + (a.length : Int) + b.length + c.length) (by omega) (by omega) (by omega)) (ev_some _)

theorem eqCase_ev (a b c e : List Int) (ha : a.length ≤ 35184372088832) (hb : b.length ≤ 35184372088832) (hc : c.length ≤ 35184372088832) (he : e.length ≤ 35184372088832) : Ev (fun k => laws_eqCase.f k a b c e a b c e) true := by
  unfold laws_eqCase.f
  exact ev_bind (eqIntS_ev a a ha) (ev_pos (by simp) (ev_bind (eqIntS_ev b b hb) (ev_pos (by simp) (ev_bind (eqIntS_ev c c hc) (ev_pos (by simp) (ev_bind (eqIntS_ev e e he) (ev_pos (by simp) (ev_some _))))))))
theorem heldCase_ev (na nb nc ne : Nat) (ha : na ≤ 1048576) (hb : nb ≤ 1048576) (hc : nc ≤ 1048576) (he : ne ≤ 1048576) : Ev (fun k => laws_heldCase.f k (asc 1 na) (asc (1 + (na : Int)) nb) (asc (1 + (na : Int) + nb) nc) (asc (1 + (na : Int) + nb + nc) ne) 1) (1 + (na : Int) + nb + nc + ne) := by
  unfold laws_heldCase.f
  exact ev_bind (held_ev 1 na (by omega) (by omega) (by omega)) (ev_neg (by omega) (ev_bind (held_ev (1 + (na : Int)) nb (by omega) (by omega) (by omega)) (ev_neg (by omega) (ev_bind (held_ev (1 + (na : Int) + nb) nc (by omega) (by omega) (by omega)) (ev_neg (by omega) (ev_bind (held_ev (1 + (na : Int) + nb + nc) ne (by omega) (by omega) (by omega)) (ev_neg (by omega) (ev_some _))))))))
/-- The case of a stage. -/
def stage (need : List Int) (a b : Int) : List Int × List Int × List Int × List Int := (need, List.replicate need.length a, List.replicate need.length 0, List.replicate need.length b)
theorem specCase_l0 (need : List Int) (a b : Int) (h6 : need.length ≤ 6) (d : Nat) : ∀ i : Nat, i + d = need.length → Ev (fun k => spec_l7Case.l0 k need a b (i : Int) (need.take i) (List.replicate i a) (List.replicate i 0) (List.replicate i b)) (stage need a b) := by
  induction d with
  | zero =>
    intro i hi
    refine ev_succ ?_
    simp only [spec_l7Case.l0, stage]
    refine ev_neg (by omega) (ev_cast (ev_some _) ?_)
    rw [show i = need.length by omega, List.take_length]
  | succ d ih =>
    intro i hi
    have hw : wrap64 ((i : Int) + 1) = ((i + 1 : Nat) : Int) := by rw [wid (by omega) (by omega)]; omega
    have q := ih (i + 1) (by omega)
    rw [List.take_succ_eq_append_getElem (by omega), ← rd_nat need i (by omega), List.replicate_succ', List.replicate_succ', List.replicate_succ'] at q
    have l1 : (need.take i).length < 17592186044416 := by rw [List.length_take]; omega
    have l2 : (List.replicate i a).length < 17592186044416 := by rw [List.length_replicate]; omega
    have l3 : (List.replicate i (0 : Int)).length < 17592186044416 := by rw [List.length_replicate]; omega
    have l4 : (List.replicate i b).length < 17592186044416 := by rw [List.length_replicate]; omega
    refine ev_succ ?_
    simp only [spec_l7Case.l0]
    rw [hw]
    exact ev_pos (by omega) (ev_pos (by omega) (ev_pos l1 (ev_pos l2 (ev_pos l3 (ev_pos l4 q)))))
theorem specCase_ev7 (need : List Int) (a b : Int) (h6 : need.length ≤ 6) : Ev (fun k => spec_l7Case.f k need a b) (stage need a b) := by
  unfold spec_l7Case.f
  have := specCase_l0 need a b h6 need.length 0 (by omega)
  simpa using this
theorem even_l0 (need Z : List Int) (a b : Int) (n : Nat) (h6 : n ≤ 6) (d : Nat) : ∀ i : Nat, i + d = n → Ev (fun k => impl_evenCase.l0 k a b (n : Int) (i : Int) need (List.replicate i a) Z (List.replicate i b)) (need, List.replicate n a, Z, List.replicate n b) := by
  induction d with
  | zero =>
    intro i hi
    refine ev_succ ?_
    simp only [impl_evenCase.l0]
    refine ev_neg (by omega) (ev_cast (ev_some _) ?_)
    rw [show i = n by omega]
  | succ d ih =>
    intro i hi
    have hw : wrap64 ((i : Int) + 1) = ((i + 1 : Nat) : Int) := by rw [wid (by omega) (by omega)]; omega
    have q := ih (i + 1) (by omega)
    rw [List.replicate_succ', List.replicate_succ'] at q
    have l2 : (List.replicate i a).length + [a].length < 17592186044416 := by simp only [List.length_replicate, List.length_cons, List.length_nil]; omega
    have l4 : (List.replicate i b).length + [b].length < 17592186044416 := by simp only [List.length_replicate, List.length_cons, List.length_nil]; omega
    refine ev_succ ?_
    simp only [impl_evenCase.l0, Option.bind_some]
    rw [hw]
    exact ev_pos (by omega) (ev_pos l2 (ev_pos l4 q))
theorem even_ev (need : List Int) (a b : Int) (h6 : need.length ≤ 6) : Ev (fun k => impl_evenCase.f k need a b) (stage need a b) := by
  unfold impl_evenCase.f
  have hc : impl_copied.f need = some need := by
    unfold impl_copied.f
    simp only [Option.bind_some, List.nil_append, List.length_nil]
    rw [if_pos (by omega)]
  rw [hc]
  simp only [Option.bind_some, Int.toNat_natCast]
  refine ev_pos (by omega) (ev_pos (by omega) ?_)
  exact even_l0 need (List.replicate need.length 0) a b need.length h6 need.length 0 (by omega)
theorem rd_echs (h : List Int) (n i : Nat) (hi : i < n) : rd (echs h n) (i : Int) = ech h i := by
  rw [rd_nat _ i (by rw [echs_length]; exact hi)]
  simp [echs]
def ans (l m h : List Int) (s : Int) : List Int × List Int × List Int × List Int × Bool := if ChainOk l m h ∧ 0 ≤ s ∧ s ≤ (m.length : Int) - 1 then ((stage l (rd m s) (ech h s.toNat)).1, (stage l (rd m s) (ech h s.toNat)).2.1, (stage l (rd m s) (ech h s.toNat)).2.2.1, (stage l (rd m s) (ech h s.toNat)).2.2.2, true) else ([], [], [], [], false)
theorem ans_len (l m h : List Int) (s : Int) : (ans l m h s).1.length ≤ 6 ∧ (ans l m h s).2.1.length ≤ 6 ∧ (ans l m h s).2.2.1.length ≤ 6 ∧ (ans l m h s).2.2.2.1.length ≤ 6 := by
  unfold ans
  by_cases c : ChainOk l m h ∧ 0 ≤ s ∧ s ≤ (m.length : Int) - 1
  · rw [if_pos c]
    have h6 := c.1.1
    simp only [stage, List.length_replicate]
    omega
  · rw [if_neg c]
    simp
theorem spec_ans (l m h : List Int) (s : Int) (hl : l.length ≤ 35184372088832) (hm : m.length ≤ 35184372088832) (hh : h.length ≤ 35184372088832) : Ev (fun k => spec_StageCase.f k l m h s) (ans l m h s) := by
  unfold spec_StageCase.f ans
  simp only [in_eq, Option.bind_some]
  refine ev_bind (specChain_ev l m h hl hm hh) ?_
  by_cases c : ChainOk l m h
  rotate_left
  · refine ev_neg (by rw [decide_eq_true_eq]; exact c) (ev_succ ?_)
    simp only [spec_StageCase.j0]
    exact ev_cast (ev_pos trivial (ev_some _)) (if_neg fun x => c x.1).symm
  obtain ⟨h6, hN, hm3, hle, hS, hH, hO⟩ := id c
  refine ev_pos (decide_eq_true c) (ev_succ ?_)
  simp only [spec_StageCase.j0]
  rw [wid (by omega) (by omega)]
  by_cases c2 : 0 ≤ s ∧ s ≤ (m.length : Int) - 1
  rotate_left
  · exact ev_cast (ev_pos (by rw [decide_eq_false c2]; rfl) (ev_some _)) (if_neg fun x => c2 x.2).symm
  have e := echelon_eq l m h hH s.toNat (by omega) (by omega)
  rw [Int.toNat_of_nonneg c2.1] at e
  rw [e]
  simp only [Option.bind_some]
  exact ev_cast (ev_neg (by rw [decide_eq_true c2]; simp) (ev_pos c2.1 (ev_pos (by omega) (ev_bind (specCase_ev7 l (rd m s) (ech h s.toNat) (by omega)) (ev_some _))))) (if_pos ⟨c, c2⟩).symm
theorem impl_ans (l m h : List Int) (s : Int) (hl : l.length ≤ 35184372088832) (hm : m.length ≤ 35184372088832) (hh : h.length ≤ 35184372088832) : Ev (fun k => impl_StageCase.f k l m h s) (ans l m h s) := by
  unfold impl_StageCase.f ans
  simp only [within_eq, Option.bind_some]
  refine ev_bind (implChain_ev l m h hl hm hh) ?_
  by_cases c : ChainOk l m h
  rotate_left
  · refine ev_neg (by rw [decide_eq_true_eq]; exact c) (ev_succ ?_)
    simp only [impl_StageCase.j0]
    exact ev_cast (ev_pos trivial (ev_some _)) (if_neg fun x => c x.1).symm
  obtain ⟨h6, hN, hm3, hle, hS, hH, hO⟩ := id c
  refine ev_pos (decide_eq_true c) (ev_succ ?_)
  simp only [impl_StageCase.j0]
  rw [wid (by omega) (by omega)]
  by_cases c2 : 0 ≤ s ∧ s ≤ (m.length : Int) - 1
  rotate_left
  · exact ev_cast (ev_pos (by rw [decide_eq_false c2]; rfl) (ev_some _)) (if_neg fun x => c2 x.2).symm
  have e := rd_echs h h.length s.toNat (by omega)
  rw [Int.toNat_of_nonneg c2.1] at e
  refine ev_cast (ev_neg (by rw [decide_eq_true c2]; simp) (ev_pos c2.1 (ev_pos (by omega) (ev_bind (echelons_ev l m h c) (ev_pos (by rw [echs_length]; omega) ?_))))) (if_pos ⟨c, c2⟩).symm
  rw [e]
  exact ev_bind (even_ev l (rd m s) (ech h s.toNat) (by omega)) (ev_some _)
theorem FnExactStageCase (l0_0 : List Int) (l0_1 : List Int) (l0_2 : List Int) (a1 : Int) (hl0_0 : l0_0.length ≤ maxLen) (hw0_0 : ∀ x ∈ l0_0, (Lit.int .i64 x).wf = true) (hl0_1 : l0_1.length ≤ maxLen) (hw0_1 : ∀ x ∈ l0_1, (Lit.int .i64 x).wf = true) (hl0_2 : l0_2.length ≤ maxLen) (hw0_2 : ∀ x ∈ l0_2, (Lit.int .i64 x).wf = true) (hw1 : (Lit.int .i64 a1).wf = true) :
    ∃ k, laws_FnExactStageCase.f k l0_0 l0_1 l0_2 a1 = some true := by
  refine Ev.rounds ?_
  unfold laws_FnExactStageCase.f
  obtain ⟨r, hr, hz⟩ := szChain_eq l0_0 l0_1 l0_2 1048576 (by omega) (by omega) hl0_0 hl0_1 hl0_2
  simp only [hr, Option.bind_some]
  by_cases c : r < 0
  · exact ev_pos c (ev_some _)
  have hz := hz (by omega)
  have h0 : l0_0.length ≤ 35184372088832 := by omega
  have h1 : l0_1.length ≤ 35184372088832 := by omega
  have h2 : l0_2.length ≤ 35184372088832 := by omega
  have hto := toChain_ev l0_0 l0_1 l0_2 h0 h1 h2
  have hS := spec_ans l0_0 l0_1 l0_2 a1 h0 h1 h2
  have hI := impl_ans l0_0 l0_1 l0_2 a1 h0 h1 h2
  have hL := ans_len l0_0 l0_1 l0_2 a1
  generalize ans l0_0 l0_1 l0_2 a1 = A at hS hI hL
  obtain ⟨x, y, z, u, o⟩ := A
  simp only at hL
  obtain ⟨n1, n2, n3, n4⟩ := hL
  have hE := eqCase_ev x y z u (by omega) (by omega) (by omega) (by omega)
  have hm : Ev (fun k => laws_markChain.f k l0_0 l0_1 l0_2 1) (1 + (l0_0.length : Int) + (l0_1.length : Int) + (l0_2.length : Int), asc 1 l0_0.length, asc (1 + (l0_0.length : Int)) l0_1.length, asc (1 + (l0_0.length : Int) + (l0_1.length : Int)) l0_2.length) := by
    unfold laws_markChain.f
    exact ev_bind (mark_ev l0_0 1 (by omega) h0 (by omega)) (ev_bind (mark_ev l0_1 _ (by omega) h1 (by omega)) (ev_bind (mark_ev l0_2 _ (by omega) h2 (by omega)) (ev_some _)))
  have hm2 := markCase_ev x y z u (by omega) (by omega) (by omega) (by omega)
  have hh := heldCase_ev x.length y.length z.length u.length (by omega) (by omega) (by omega) (by omega)
  have g1 : ¬ (1 + (l0_0.length : Int) + (l0_1.length : Int) + (l0_2.length : Int) < 0) := by omega
  have g2 : ¬ (1 + (x.length : Int) + y.length + z.length + u.length < 0) := by omega
  refine ev_neg c (ev_bind hto (ev_bind hS (ev_bind hto (ev_bind hI (ev_bind hE (ev_pos rfl (ev_neg (by simp) ?_)))))))
  refine ev_bind hto (ev_bind (eqChain_ev l0_0 l0_1 l0_2 h0 h1 h2) (ev_pos rfl (ev_bind hm (ev_neg g1 (ev_bind hE (ev_pos rfl (ev_bind hm2 (ev_bind hh (ev_neg g2 (ev_pos rfl ?_))))))))))
  exact ev_bind hto (ev_bind hI (ev_bind hE (ev_pos rfl (ev_neg (by simp) (ev_bind hh (ev_neg g2 (ev_pos rfl (ev_some _))))))))

end Go.Proofs.Ytgmoljiehdeelaa.Pure
