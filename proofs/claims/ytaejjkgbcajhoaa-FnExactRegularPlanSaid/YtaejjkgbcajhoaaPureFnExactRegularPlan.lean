/- The program's RegularPlan takes, period by period, the first amount that has the least cost among those that keep the plan regular, with a memory of answers; the reference traces its table of pairs. Both take the same amounts. No conditions. -/
import Derived.Test.YtaejjkgbcajhoaaKit
import Derived.Test.YtaejjkgbcajhoaaXFnExactRegularPlanx8
namespace Go.Proofs.Ytaejjkgbcajhoaa.Pure
set_option linter.unusedVariables false
open Go.RowKit Go.Proofs.Ytaejjkgbcajhoaa.PFnExactRegularPlan Go.Proofs.YtaejjkgbcajhoaaW.PrintWords Go.Proofs.YtaejjkgbcajhoaaW.PrintLast Go.Proofs.YtaejjkgbcajhoaaW.PrintMore Go.Proofs.Ytaejjkgbcajhoaa.Kit

theorem in_eq (a b c : Int) : spec_l1In.f a b c = some (decide (b ≤ a ∧ a ≤ c)) := by
  unfold spec_l1In.f
  by_cases h : b ≤ a <;> simp [h]
theorem within_eq (a b c : Int) : impl_within.f a b c = some (decide (b ≤ a ∧ a ≤ c)) := by
  unfold impl_within.f
  by_cases h : b ≤ a <;> simp [h]
theorem toIntS_l0 (xs : List Int) (hn : xs.length ≤ 35184372088832) (d : Nat) : ∀ (i : Nat) (ys : List Int), i + d = xs.length → ys.length = xs.length → ys.take i = xs.take i →
    Ev (fun k => laws_toIntS.l0 k xs ys (i : Int)) xs := by
  induction d with
  | zero =>
    intro i ys hi hl ht
    refine ev_succ ?_
    simp only [laws_toIntS.l0]
    refine ev_neg (by omega) ?_
    rw [List.take_of_length_le (by omega), List.take_of_length_le (by omega)] at ht
    rw [ht]
    exact ev_some _
  | succ d ih =>
    intro i ys hi hl ht
    refine ev_succ ?_
    simp only [laws_toIntS.l0]
    refine ev_pos (by omega) (ev_pos (by omega) (ev_pos (by omega) ?_))
    have hw : wrap64 ((i : Int) + 1) = ((i + 1 : Nat) : Int) := by rw [wid (by omega) (by omega)]; omega
    rw [hw]
    refine ih (i + 1) _ (by omega) (by simpa using hl) ?_
    rw [rd_nat xs i (by omega), Int.toNat_natCast, List.take_succ_eq_append_getElem (by simp; omega), List.take_succ_eq_append_getElem (by omega), List.getElem_set_self, List.take_set_of_le (by omega), ht]
theorem toIntS_ev (xs : List Int) (hn : xs.length ≤ 35184372088832) : Ev (fun k => laws_toIntS.f k xs) xs := by
  unfold laws_toIntS.f
  refine ev_pos (by omega) (ev_pos (by omega) ?_)
  exact toIntS_l0 xs hn xs.length 0 _ (by omega) (by simp) rfl
theorem eqIntS_l0 (xs ys : List Int) (hn : xs.length ≤ 35184372088832) (hl : ys.length = xs.length) (d : Nat) : ∀ (i : Nat), i + d = xs.length →
    Ev (fun k => laws_eqIntS.l0 k xs ys (i : Int)) (decide (xs.drop i = ys.drop i)) := by
  induction d with
  | zero =>
    intro i hi
    refine ev_succ ?_
    simp only [laws_eqIntS.l0]
    refine ev_neg (by omega) ?_
    rw [List.drop_of_length_le (by omega), List.drop_of_length_le (by omega)]
    exact ev_some _
  | succ d ih =>
    intro i hi
    refine ev_succ ?_
    simp only [laws_eqIntS.l0]
    refine ev_pos (by omega) (ev_pos (by omega) (ev_pos (by omega) ?_))
    have hw : wrap64 ((i : Int) + 1) = ((i + 1 : Nat) : Int) := by rw [wid (by omega) (by omega)]; omega
    rw [hw, drop_rd xs i (by omega), drop_rd ys i (by omega)]
    by_cases h : rd xs i = rd ys i
    · refine ev_pos h (ev_cast (ih (i + 1) (by omega)) ?_)
      simp [h]
    · refine ev_neg h (ev_cast (ev_some false) ?_)
      simp [h]
theorem eqIntS_ev (xs ys : List Int) (hn : xs.length ≤ 35184372088832) : Ev (fun k => laws_eqIntS.f k xs ys) (decide (xs = ys)) := by
  unfold laws_eqIntS.f
  by_cases h : xs.length = ys.length
  · refine ev_pos (by omega) (ev_cast (eqIntS_l0 xs ys hn h.symm xs.length 0 (by omega)) (by simp))
  · refine ev_neg (by omega) (ev_cast (ev_some false) ?_)
    have : xs ≠ ys := fun e => h (by rw [e])
    simp [this]
theorem allWithin_l0 (lo up : Int) (xs : List Int) (hn : xs.length ≤ 35184372088832) (d : Nat) : ∀ (i : Nat), i + d = xs.length →
    Ev (fun k => impl_allWithin.l0 k lo up xs (xs.length : Int) (i : Int)) (decide (∀ x ∈ xs.drop i, lo ≤ x ∧ x ≤ up)) := by
  induction d with
  | zero =>
    intro i hi
    refine ev_succ ?_
    simp only [impl_allWithin.l0]
    refine ev_neg (by omega) ?_
    rw [List.drop_of_length_le (by omega)]
    exact ev_cast (ev_some true) (by simp)
  | succ d ih =>
    intro i hi
    refine ev_succ ?_
    simp only [impl_allWithin.l0, within_eq, Option.bind_some]
    refine ev_pos (by omega) (ev_pos (by omega) (ev_pos (by omega) ?_))
    have hw : wrap64 ((i : Int) + 1) = ((i + 1 : Nat) : Int) := by rw [wid (by omega) (by omega)]; omega
    rw [hw, drop_rd xs i (by omega)]
    by_cases h : lo ≤ rd xs i ∧ rd xs i ≤ up
    · refine ev_pos (by simpa using h) (ev_cast (ih (i + 1) (by omega)) ?_)
      simp [h]
    · refine ev_neg (by simpa using h) (ev_cast (ev_some false) ?_)
      symm
      simp only [decide_eq_false_iff_not, List.mem_cons]
      exact fun hh => h (hh _ (Or.inl rfl))
theorem allWithin_ev (xs : List Int) (lo hi : Int) (hn : xs.length ≤ 35184372088832) : Ev (fun k => impl_allWithin.f k xs lo hi) (decide (∀ x ∈ xs, lo ≤ x ∧ x ≤ hi)) := by
  unfold impl_allWithin.f
  exact allWithin_l0 lo hi xs hn xs.length 0 (by omega)
theorem l2Row_l0 (n up : Int) (xs : List Int) (hn : xs.length ≤ 35184372088832) (d : Nat) : ∀ (i : Nat), i + d = xs.length →
    Ev (fun k => spec_l2Row.l0 k xs n up (i : Int)) (decide ((∀ x ∈ xs.drop i, 0 ≤ x ∧ x ≤ up) ∧ (xs.length : Int) = n)) := by
  induction d with
  | zero =>
    intro i hi
    refine ev_succ ?_
    simp only [spec_l2Row.l0]
    refine ev_neg (by omega) ?_
    rw [List.drop_of_length_le (by omega)]
    refine ev_cast (ev_some _) ?_
    rw [Bool.eq_iff_iff]
    simp
  | succ d ih =>
    intro i hi
    refine ev_succ ?_
    simp only [spec_l2Row.l0, in_eq, Option.bind_some]
    refine ev_pos (by omega) (ev_pos (by omega) ?_)
    have hw : wrap64 ((i : Int) + 1) = ((i + 1 : Nat) : Int) := by rw [wid (by omega) (by omega)]; omega
    rw [hw, drop_rd xs i (by omega)]
    by_cases h : 0 ≤ rd xs i ∧ rd xs i ≤ up
    · refine ev_pos (by simpa using h) (ev_cast (ih (i + 1) (by omega)) ?_)
      simp [h]
    · refine ev_neg (by simpa using h) (ev_cast (ev_some false) ?_)
      symm
      simp only [decide_eq_false_iff_not, List.mem_cons]
      exact fun hh => h (hh.1 _ (Or.inl rfl))
theorem l2Row_ev (xs : List Int) (n up : Int) (hn : xs.length ≤ 35184372088832) : Ev (fun k => spec_l2Row.f k xs n up) (decide ((∀ x ∈ xs, 0 ≤ x ∧ x ≤ up) ∧ (xs.length : Int) = n)) := by
  unfold spec_l2Row.f
  exact l2Row_l0 n up xs hn xs.length 0 (by omega)
theorem szIntS_eq (xs : List Int) (a : Int) (h0 : 0 ≤ a) (h1 : a ≤ 1048576) (hl : xs.length ≤ maxLen) : laws_szIntS.f xs a = some (if a - (xs.length : Int) < 0 then -1 else a - (xs.length : Int)) := by
  unfold maxLen at hl
  unfold laws_szIntS.f
  rw [wid (by omega) (by omega)]
  split <;> rfl
theorem rd_in {xs : List Int} {lo up : Int} (h : ∀ x ∈ xs, lo ≤ x ∧ x ≤ up) (i : Nat) (hi : i < xs.length) : lo ≤ rd xs (i : Int) ∧ rd xs (i : Int) ≤ up := by
  rw [rd_nat xs i hi]
  exact h _ (List.getElem_mem _)
theorem szCase_eq (a b c e : List Int) (n : Int) (h0 : 0 ≤ n) (h1 : n ≤ 1048576) (ha : a.length ≤ maxLen) (hb : b.length ≤ maxLen) (hc : c.length ≤ maxLen) (he : e.length ≤ maxLen) :
    ∃ r, laws_szCase.f a b c e n = some r ∧ (0 ≤ r → r = n - a.length - b.length - c.length - e.length) := by
  unfold laws_szCase.f
  rw [szIntS_eq a n h0 h1 ha]
  simp only [Option.bind_some]
  by_cases c1 : n - (a.length : Int) < 0
  · rw [if_pos c1, if_pos (by omega)]
    exact ⟨_, rfl, by omega⟩
  rw [if_neg c1, if_neg c1, szIntS_eq b _ (by omega) (by omega) hb]
  simp only [Option.bind_some]
  by_cases c2 : n - (a.length : Int) - (b.length : Int) < 0
  · rw [if_pos c2, if_pos (by omega)]
    exact ⟨_, rfl, by omega⟩
  rw [if_neg c2, if_neg c2, szIntS_eq c _ (by omega) (by omega) hc]
  simp only [Option.bind_some]
  by_cases c3 : n - (a.length : Int) - (b.length : Int) - (c.length : Int) < 0
  · rw [if_pos c3, if_pos (by omega)]
    exact ⟨_, rfl, by omega⟩
  rw [if_neg c3, if_neg c3, szIntS_eq e _ (by omega) (by omega) he]
  simp only [Option.bind_some]
  by_cases c4 : n - (a.length : Int) - (b.length : Int) - (c.length : Int) - (e.length : Int) < 0
  · rw [if_pos c4, if_pos (by omega)]
    exact ⟨_, rfl, by omega⟩
  rw [if_neg c4, if_neg c4]
  exact ⟨_, rfl, fun _ => rfl⟩
theorem toCase_ev (a b c e : List Int) (ha : a.length ≤ 35184372088832) (hb : b.length ≤ 35184372088832) (hc : c.length ≤ 35184372088832) (he : e.length ≤ 35184372088832) : Ev (fun k => laws_toCase.f k a b c e) (a, b, c, e) := by
  unfold laws_toCase.f
  exact ev_bind (toIntS_ev a ha) (ev_bind (toIntS_ev b hb) (ev_bind (toIntS_ev c hc) (ev_bind (toIntS_ev e he) (ev_some _))))
theorem eqCase_ev (a b c e : List Int) (ha : a.length ≤ 35184372088832) (hb : b.length ≤ 35184372088832) (hc : c.length ≤ 35184372088832) (he : e.length ≤ 35184372088832) : Ev (fun k => laws_eqCase.f k a b c e a b c e) true := by
  unfold laws_eqCase.f
  exact ev_bind (eqIntS_ev a a ha) (ev_pos (by simp) (ev_bind (eqIntS_ev b b hb) (ev_pos (by simp) (ev_bind (eqIntS_ev c c hc) (ev_pos (by simp) (ev_bind (eqIntS_ev e e he) (ev_pos (by simp) (ev_some _))))))))

/-- What a valid case is. -/
def CaseOk (a b c e : List Int) : Prop :=
  (a.length : Int) ≤ 8 ∧ (b.length : Int) = (a.length : Int) ∧ (c.length : Int) = (a.length : Int) ∧ (e.length : Int) = (a.length : Int) ∧ (∀ x ∈ a, 0 ≤ x ∧ x ≤ 20) ∧ (∀ x ∈ b, 0 ≤ x ∧ x ≤ 99) ∧ (∀ x ∈ c, 0 ≤ x ∧ x ≤ 9) ∧ (∀ x ∈ e, 0 ≤ x ∧ x ≤ 9)
instance (a b c e : List Int) : Decidable (CaseOk a b c e) := by unfold CaseOk; infer_instance
theorem implCase_ev (a b c e : List Int) (ha : a.length ≤ 35184372088832) (hb : b.length ≤ 35184372088832) (hc : c.length ≤ 35184372088832) (he : e.length ≤ 35184372088832) : Ev (fun k => impl_IsCase.f k a b c e) (decide (CaseOk a b c e)) := by
  unfold impl_IsCase.f CaseOk
  exact ev_andp fun _ => ev_andp fun _ => ev_andp fun _ => ev_andp fun _ => ev_bind (allWithin_ev a 0 20 ha) (ev_and rfl fun _ => ev_bind (allWithin_ev b 0 99 hb) (ev_and rfl fun _ => ev_bind (allWithin_ev c 0 9 hc) (ev_and rfl fun _ => ev_bind (allWithin_ev e 0 9 he) (ev_some _))))
theorem specCase_ev (a b c e : List Int) (ha : a.length ≤ 35184372088832) (hb : b.length ≤ 35184372088832) (hc : c.length ≤ 35184372088832) (he : e.length ≤ 35184372088832) : Ev (fun k => spec_l2Good.f k a b c e) (decide (CaseOk a b c e)) := by
  unfold spec_l2Good.f
  refine ev_dec (P := (a.length : Int) ≤ 8 ∧ ((∀ x ∈ a, 0 ≤ x ∧ x ≤ 20) ∧ (a.length : Int) = a.length) ∧ ((∀ x ∈ b, 0 ≤ x ∧ x ≤ 99) ∧ (b.length : Int) = a.length) ∧ ((∀ x ∈ c, 0 ≤ x ∧ x ≤ 9) ∧ (c.length : Int) = a.length) ∧ ((∀ x ∈ e, 0 ≤ x ∧ x ≤ 9) ∧ (e.length : Int) = a.length)) ?_ ?_
  · exact ev_andp fun _ => ev_bind (l2Row_ev a _ 20 ha) (ev_and rfl fun _ => ev_bind (l2Row_ev b _ 99 hb) (ev_and rfl fun _ => ev_bind (l2Row_ev c _ 9 hc) (ev_and rfl fun _ => ev_bind (l2Row_ev e _ 9 he) (ev_some _))))
  · unfold CaseOk
    constructor
    · rintro ⟨h, ⟨p1, _⟩, ⟨p2, q2⟩, ⟨p3, q3⟩, p4, q4⟩
      exact ⟨h, q2, q3, q4, p1, p2, p3, p4⟩
    · rintro ⟨h, q2, q3, q4, p1, p2, p3, p4⟩
      exact ⟨h, ⟨p1, rfl⟩, ⟨p2, q2⟩, ⟨p3, q3⟩, p4, q4⟩
def LimOk (a lim : List Int) : Prop := (lim.length : Int) = (a.length : Int) ∧ ∀ x ∈ lim, 0 ≤ x ∧ x ≤ 160
instance (a lim : List Int) : Decidable (LimOk a lim) := by unfold LimOk; infer_instance
theorem areLimits_ev (a b c e lim : List Int) (ha : a.length ≤ 35184372088832) (hb : b.length ≤ 35184372088832) (hc : c.length ≤ 35184372088832) (he : e.length ≤ 35184372088832) (hl : lim.length ≤ 35184372088832) :
    Ev (fun k => impl_areLimits.f k a b c e lim) (decide (CaseOk a b c e ∧ LimOk a lim)) := by
  unfold impl_areLimits.f LimOk
  exact ev_bind (implCase_ev a b c e ha hb hc he) (ev_and rfl fun h => ev_andp fun _ => ev_bind (allWithin_ev lim 0 160 hl) (ev_some _))
theorem l4Limits_ev (a b c e lim : List Int) (ha : a.length ≤ 35184372088832) (hb : b.length ≤ 35184372088832) (hc : c.length ≤ 35184372088832) (he : e.length ≤ 35184372088832) (hl : lim.length ≤ 35184372088832) :
    Ev (fun k => spec_l4Limits.f k a b c e lim) (decide (CaseOk a b c e ∧ LimOk a lim)) := by
  unfold spec_l4Limits.f
  refine ev_bind (specCase_ev a b c e ha hb hc he) (ev_and rfl fun h => ev_dec (ev_bind (l2Row_ev lim _ 160 hl) (ev_some _)) ?_)
  unfold LimOk
  exact and_comm
theorem total_l0 (xs : List Int) (hn : xs.length ≤ 35184372088832) (hs : ∀ i, -9223372036854775808 ≤ (xs.take i).sum ∧ (xs.take i).sum ≤ 9223372036854775807) (d : Nat) : ∀ (i : Nat), i + d = xs.length →
    Ev (fun k => impl_total.l0 k (xs.take i).sum xs (xs.length : Int) (i : Int)) xs.sum := by
  induction d with
  | zero =>
    intro i hi
    refine ev_succ ?_
    simp only [impl_total.l0]
    refine ev_neg (by omega) ?_
    rw [List.take_of_length_le (by omega)]
    exact ev_some _
  | succ d ih =>
    intro i hi
    refine ev_succ ?_
    simp only [impl_total.l0]
    refine ev_pos (by omega) (ev_pos (by omega) (ev_pos (by omega) ?_))
    have hw : wrap64 ((i : Int) + 1) = ((i + 1 : Nat) : Int) := by rw [wid (by omega) (by omega)]; omega
    have ht := take_sum_succ xs i (by omega)
    rw [hw, ht, wid (hs _).1 (hs _).2]
    exact ih (i + 1) (by omega)
theorem total_ev (xs : List Int) (hn : xs.length ≤ 35184372088832) (hs : ∀ i, -9223372036854775808 ≤ (xs.take i).sum ∧ (xs.take i).sum ≤ 9223372036854775807) : Ev (fun k => impl_total.f k xs) xs.sum := by
  unfold impl_total.f
  exact total_l0 xs hn hs xs.length 0 (by omega)
theorem l2Sum_l0 (xs : List Int) (hn : xs.length ≤ 35184372088832) (hs : ∀ i, -9223372036854775808 ≤ (xs.take i).sum ∧ (xs.take i).sum ≤ 9223372036854775807) (d : Nat) : ∀ (i : Nat), i + d = xs.length →
    Ev (fun k => spec_l2Sum.l0 k xs (xs.take i).sum (i : Int)) xs.sum := by
  induction d with
  | zero =>
    intro i hi
    refine ev_succ ?_
    simp only [spec_l2Sum.l0]
    refine ev_neg (by omega) ?_
    rw [List.take_of_length_le (by omega)]
    exact ev_some _
  | succ d ih =>
    intro i hi
    refine ev_succ ?_
    simp only [spec_l2Sum.l0]
    refine ev_pos (by omega) (ev_pos (by omega) ?_)
    have hw : wrap64 ((i : Int) + 1) = ((i + 1 : Nat) : Int) := by rw [wid (by omega) (by omega)]; omega
    have ht := take_sum_succ xs i (by omega)
    rw [hw, ht, wid (hs _).1 (hs _).2]
    exact ih (i + 1) (by omega)
theorem l2Sum_ev (xs : List Int) (hn : xs.length ≤ 35184372088832) (hs : ∀ i, -9223372036854775808 ≤ (xs.take i).sum ∧ (xs.take i).sum ≤ 9223372036854775807) : Ev (fun k => spec_l2Sum.f k xs) xs.sum := by
  unfold spec_l2Sum.f
  exact l2Sum_l0 xs hn hs xs.length 0 (by omega)
/-- The limits are enough up to each period. -/
def PC (a lim : List Int) : Prop := ∀ i : Nat, i < a.length → (a.take (i + 1)).sum ≤ (lim.take (i + 1)).sum
instance (a lim : List Int) : Decidable (PC a lim) := by unfold PC; infer_instance
theorem case_sum {a b c e : List Int} (hc : CaseOk a b c e) (i : Nat) : 0 ≤ (a.take i).sum ∧ (a.take i).sum ≤ 160 := by
  have h := take_sum (b := 20) (by decide) hc.2.2.2.2.1 i
  have := hc.1
  omega
theorem lim_sum {a b c e lim : List Int} (hc : CaseOk a b c e) (hl : LimOk a lim) (i : Nat) : 0 ≤ (lim.take i).sum ∧ (lim.take i).sum ≤ 1280 := by
  have h := take_sum (b := 160) (by decide) hl.2 i
  have := hc.1
  have := hl.1
  omega
theorem drop_in {a : List Int} {lo up : Int} (h : ∀ x ∈ a, lo ≤ x ∧ x ≤ up) (i : Nat) : ∀ x ∈ a.drop i, lo ≤ x ∧ x ≤ up := fun x hx => h x (List.mem_of_mem_drop hx)
theorem total_take {xs : List Int} {u : Int} (h0 : 0 ≤ u) (h1 : u ≤ 160) (h : ∀ x ∈ xs, 0 ≤ x ∧ x ≤ u) (hl : (xs.length : Int) ≤ 8) : Ev (fun k => impl_total.f k xs) xs.sum :=
  total_ev xs (by omega) (take_sum64 h0 (by omega) h (by omega))
theorem take_in {a : List Int} {lo up : Int} (h : ∀ x ∈ a, lo ≤ x ∧ x ≤ up) (i : Nat) : ∀ x ∈ a.take i, lo ≤ x ∧ x ≤ up := fun x hx => h x (List.mem_of_mem_take hx)
theorem specShort_l0 {a b c e lim : List Int} (hc : CaseOk a b c e) (hl : LimOk a lim) (d : Nat) : ∀ i : Nat, i + d = a.length → (∀ j : Nat, j < i → (a.take (j + 1)).sum ≤ (lim.take (j + 1)).sum) →
    ∃ p : Int × Int, Ev (fun k => spec_l4Short.l0 k lim ((lim.take i).sum - (a.take i).sum) (i : Int) a b c e) p ∧ (p.1 < 0 ↔ PC a lim) := by
  have h8 := hc.1
  have hll := hl.1
  induction d with
  | zero =>
    intro i hi hp
    refine ⟨(-1, 0), ev_succ ?_, by simp; exact fun j hj => hp j (by omega)⟩
    simp only [spec_l4Short.l0]
    exact ev_neg (by omega) (ev_some _)
  | succ d ih =>
    intro i hi hp
    have hw : wrap64 ((i : Int) + 1) = ((i + 1 : Nat) : Int) := by rw [wid (by omega) (by omega)]; omega
    have s1 := case_sum hc i
    have s2 := lim_sum hc hl i
    have s3 := case_sum hc (i + 1)
    have s4 := lim_sum hc hl (i + 1)
    have t1 := take_sum_succ a i (by omega)
    have t2 := take_sum_succ lim i (by omega)
    have r1 := rd_in hc.2.2.2.2.1 i (by omega)
    have r2 := rd_in hl.2 i (by omega)
    have hs : wrap64 (wrap64 ((lim.take i).sum - (a.take i).sum + rd lim (i : Int)) - rd a (i : Int)) = (lim.take (i + 1)).sum - (a.take (i + 1)).sum := by
      rw [wid (x := (lim.take i).sum - (a.take i).sum + rd lim (i : Int)) (by omega) (by omega), wid (by omega) (by omega)]
      omega
    by_cases h : (lim.take (i + 1)).sum - (a.take (i + 1)).sum < 0
    · refine ⟨((i : Int), wrap64 (-((lim.take (i + 1)).sum - (a.take (i + 1)).sum))), ev_succ ?_, ?_⟩
      · simp only [spec_l4Short.l0]
        rw [hs]
        exact ev_pos (by omega) (ev_pos (by omega) (ev_pos (by omega) (ev_pos h (ev_some _))))
      · refine ⟨fun hh => by simp only at hh; omega, fun hh => ?_⟩
        have := hh i (by omega)
        omega
    · obtain ⟨p, hp1, hp2⟩ := ih (i + 1) (by omega) fun j hj => by
        by_cases e : j = i
        · rw [e]; omega
        · exact hp j (by omega)
      refine ⟨p, ev_succ ?_, hp2⟩
      simp only [spec_l4Short.l0]
      rw [hs, hw]
      exact ev_pos (by omega) (ev_pos (by omega) (ev_pos (by omega) (ev_neg h hp1)))
theorem implShort_l0 {a b c e lim : List Int} (hc : CaseOk a b c e) (hl : LimOk a lim) (d : Nat) : ∀ (i : Nat) (s : Int), i + d = a.length → (∀ j : Nat, j < i → (a.take (j + 1)).sum ≤ (lim.take (j + 1)).sum) →
    ∃ p : Int × Int, Ev (fun k => impl_Case_firstShort.l0 k lim s a (a.length : Int) (i : Int) a b c e) p ∧ (p.1 < 0 ↔ PC a lim) := by
  have h8 := hc.1
  have hll := hl.1
  induction d with
  | zero =>
    intro i s hi hp
    refine ⟨(-1, 0), ev_succ ?_, by simp; exact fun j hj => hp j (by omega)⟩
    simp only [impl_Case_firstShort.l0]
    exact ev_neg (by omega) (ev_some _)
  | succ d ih =>
    intro i s hi hp
    have hw : wrap64 ((i : Int) + 1) = ((i + 1 : Nat) : Int) := by rw [wid (by omega) (by omega)]; omega
    have e1 := total_take (by decide) (by decide) (take_in hc.2.2.2.2.1 (i + 1)) (by rw [List.length_take]; omega)
    have e2 := total_take (by decide) (by decide) (take_in hl.2 (i + 1)) (by rw [List.length_take]; omega)
    by_cases h : (a.take (i + 1)).sum > (lim.take (i + 1)).sum
    · refine ⟨((i : Int), wrap64 (s + wrap64 (rd a (i : Int) - rd lim (i : Int)))), ev_succ ?_, ?_⟩
      · simp only [impl_Case_firstShort.l0]
        rw [hw, Int.toNat_natCast]
        exact ev_pos (by omega) (ev_pos (by omega) (ev_pos (by omega) (ev_pos (by omega) (ev_pos (by omega) (ev_pos (by omega) (ev_bind e1 (ev_pos (by omega) (ev_bind e2 (ev_pos h (ev_some _))))))))))
      · refine ⟨fun hh => by simp only at hh; omega, fun hh => ?_⟩
        have := hh i (by omega)
        omega
    · obtain ⟨p, hp1, hp2⟩ := ih (i + 1) (wrap64 (s + wrap64 (rd a (i : Int) - rd lim (i : Int)))) (by omega) fun j hj => by
        by_cases e : j = i
        · rw [e]; omega
        · exact hp j (by omega)
      refine ⟨p, ev_succ ?_, hp2⟩
      simp only [impl_Case_firstShort.l0]
      rw [hw, Int.toNat_natCast]
      exact ev_pos (by omega) (ev_pos (by omega) (ev_pos (by omega) (ev_pos (by omega) (ev_pos (by omega) (ev_pos (by omega) (ev_bind e1 (ev_pos (by omega) (ev_bind e2 (ev_neg h hp1)))))))))
def canA (a b c e lim : List Int) : Bool × Bool := if CaseOk a b c e ∧ LimOk a lim then (decide (PC a lim), true) else (false, false)
section
variable (a b c e lim : List Int) (h0 : a.length ≤ 35184372088832) (h1 : b.length ≤ 35184372088832) (h2 : c.length ≤ 35184372088832) (h3 : e.length ≤ 35184372088832) (hp : lim.length ≤ 35184372088832)
include h0 h1 h2 h3 hp
theorem specCan_ev : Ev (fun k => spec_CanMeet.f k a b c e lim) (canA a b c e lim) := by
  unfold spec_CanMeet.f canA
  refine ev_bind (l4Limits_ev a b c e lim h0 h1 h2 h3 hp) ?_
  by_cases hc : CaseOk a b c e ∧ LimOk a lim
  · obtain ⟨p, hp1, hp2⟩ := specShort_l0 hc.1 hc.2 a.length 0 (by omega) (fun j hj => by omega)
    rw [if_pos hc]
    unfold spec_l4Short.f
    refine ev_pos (by simpa using hc) (ev_bind (by simpa using hp1) (ev_cast (ev_some _) ?_))
    rw [show decide (p.1 < 0) = decide (PC a lim) from by rw [Bool.eq_iff_iff]; simpa using hp2]
  · rw [if_neg hc]
    exact ev_neg (by simpa using hc) (ev_some _)
theorem implCan_ev : Ev (fun k => impl_CanMeet.f k a b c e lim) (canA a b c e lim) := by
  unfold impl_CanMeet.f canA
  refine ev_bind (areLimits_ev a b c e lim h0 h1 h2 h3 hp) ?_
  by_cases hc : CaseOk a b c e ∧ LimOk a lim
  · obtain ⟨p, hp1, hp2⟩ := implShort_l0 hc.1 hc.2 a.length 0 0 (by omega) (fun j hj => by omega)
    rw [if_pos hc]
    unfold impl_Case_firstShort.f
    refine ev_pos (by simpa using hc) (ev_bind hp1 (ev_cast (ev_some _) ?_))
    rw [show decide (p.1 < 0) = decide (PC a lim) from by rw [Bool.eq_iff_iff]; simpa using hp2]
  · rw [if_neg hc]
    exact ev_neg (by simpa using hc) (ev_some _)
/-- All is valid, and the case can be met. -/
def MeetOk (a b c e lim : List Int) : Prop := CaseOk a b c e ∧ LimOk a lim ∧ PC a lim
omit h0 h1 h2 h3 hp in
theorem can_true (h : MeetOk a b c e lim) : canA a b c e lim = (true, true) := by
  unfold canA
  rw [if_pos ⟨h.1, h.2.1⟩, decide_eq_true h.2.2]
omit h0 h1 h2 h3 hp in
theorem can_false (h : ¬ MeetOk a b c e lim) : (canA a b c e lim).1 = false := by
  unfold canA
  by_cases hc : CaseOk a b c e ∧ LimOk a lim
  · rw [if_pos hc]
    exact decide_eq_false fun hh => h ⟨hc.1, hc.2, hh⟩
  · rw [if_neg hc]
end
/-- The cost of an amount x in period t that leaves a stock. -/
def stepC (b c e : List Int) (t : Nat) (x left : Int) : Int := rd c (t : Int) * x + rd e (t : Int) * left + (if x > 0 then rd b (t : Int) else 0)
def partX (lim : List Int) (t : Nat) (x : Int) : Prop := x > 0 ∧ x < rd lim (t : Int)
instance (lim : List Int) (t : Nat) (x : Int) : Decidable (partX lim t x) := by unfold partX; infer_instance
def nextP (lim : List Int) (t : Nat) (x p s : Int) : Int := if s = 0 then 0 else if partX lim t x then 1 else p
/-- The least of acc and what g gives at m numbers from x on. -/
def minTo (g : Int → Int) : Nat → Int → Int → Int
  | 0, _, acc => acc
  | m + 1, x, acc => minTo g m (x + 1) (mn acc (g x))
theorem minTo_all (g : Int → Int) (Q : Int → Prop) (hm : ∀ u v, Q u → Q v → Q (mn u v)) : ∀ (m : Nat) (x acc : Int), Q acc → (∀ y, x ≤ y → y < x + (m : Int) → Q (g y)) → Q (minTo g m x acc)
  | 0, _, acc, h, _ => h
  | m + 1, x, acc, h, hg => minTo_all g Q hm m (x + 1) _ (hm _ _ h (hg x (by omega) (by omega))) fun y h1 h2 => hg y (by omega) (by omega)
theorem minTo_congr (g f : Int → Int) : ∀ (m : Nat) (x acc : Int), (∀ y, x ≤ y → y < x + (m : Int) → g y = f y) → minTo g m x acc = minTo f m x acc
  | 0, _, _, _ => rfl
  | m + 1, x, acc, h => by
    unfold minTo
    rw [h x (by omega) (by omega)]
    exact minTo_congr g f m (x + 1) _ fun y h1 h2 => h y (by omega) (by omega)
theorem minTo_acc (g : Int → Int) : ∀ (m : Nat) (x acc : Int), minTo g m x acc ≤ acc
  | 0, _, _ => Int.le_refl _
  | m + 1, x, acc => Int.le_trans (minTo_acc g m (x + 1) _) (by unfold mn; split <;> omega)
theorem minTo_le (g : Int → Int) : ∀ (m : Nat) (x acc y : Int), x ≤ y → y < x + (m : Int) → minTo g m x acc ≤ g y
  | 0, _, _, _, h1, h2 => by omega
  | m + 1, x, acc, y, h1, h2 => by
    by_cases e : y = x
    · rw [e]
      exact Int.le_trans (minTo_acc g m (x + 1) _) (by unfold mn; split <;> omega)
    · exact minTo_le g m (x + 1) _ y (by omega) (by omega)
section
variable (a b c e lim : List Int) (reg : Bool)
/-- The least cost from a period on with a stock (2 to the 40th: none), and what an amount gives. -/
def V : Nat → Nat → Int → Int → Int
  | 0, _, s, _ => if s = 0 then 0 else 1099511627776
  | d + 1, i, s, p => minTo (fun x => if reg = true ∧ partX lim i x ∧ p = 1 then 1099511627776 else if s + x - rd a (i : Int) < 0 then 1099511627776 else mn 1099511627776 (stepC b c e i x (s + x - rd a (i : Int)) + V d (i + 1) (s + x - rd a (i : Int)) (nextP lim i x p (s + x - rd a (i : Int))))) (rd lim (i : Int) + 1).toNat 0 1099511627776
def Wx (d i : Nat) (s p x : Int) : Int := if reg = true ∧ partX lim i x ∧ p = 1 then 1099511627776 else if s + x - rd a (i : Int) < 0 then 1099511627776 else mn 1099511627776 (stepC b c e i x (s + x - rd a (i : Int)) + V a b c e lim reg d (i + 1) (s + x - rd a (i : Int)) (nextP lim i x p (s + x - rd a (i : Int))))
theorem V_succ (d i : Nat) (s p : Int) : V a b c e lim reg (d + 1) i s p = minTo (Wx a b c e lim reg d i s p) (rd lim (i : Int) + 1).toNat 0 1099511627776 := rfl
end
section
variable {a b c e lim : List Int} {reg : Bool} (hc : CaseOk a b c e) (hl : LimOk a lim)
include hc hl
theorem case_at (i : Nat) (hi : i < a.length) : (0 ≤ rd a (i : Int) ∧ rd a (i : Int) ≤ 20) ∧ (0 ≤ rd b (i : Int) ∧ rd b (i : Int) ≤ 99) ∧ (0 ≤ rd c (i : Int) ∧ rd c (i : Int) ≤ 9) ∧ (0 ≤ rd e (i : Int) ∧ rd e (i : Int) ≤ 9) ∧ 0 ≤ rd lim (i : Int) ∧ rd lim (i : Int) ≤ 160 := by
  obtain ⟨_, q2, q3, q4, p1, p2, p3, p4⟩ := hc
  have hl1 := hl.1
  exact ⟨rd_in p1 i hi, rd_in p2 i (by omega), rd_in p3 i (by omega), rd_in p4 i (by omega), rd_in hl.2 i (by omega)⟩
theorem step_in (i : Nat) (hi : i < a.length) {x left : Int} (h0 : 0 ≤ x) (h1 : x ≤ 160) (g0 : 0 ≤ left) (g1 : left ≤ 2000) : 0 ≤ rd c (i : Int) * x ∧ rd c (i : Int) * x ≤ 1440 ∧ 0 ≤ rd e (i : Int) * left ∧ rd e (i : Int) * left ≤ 18000 ∧ 0 ≤ stepC b c e i x left ∧ stepC b c e i x left ≤ 1440 + rd e (i : Int) * left + 99 := by
  obtain ⟨_, hb, hcc, he, _⟩ := case_at hc hl i hi
  have m1 := mulb (a := rd c (i : Int)) (b := x) (A := 9) (B := 160) hcc.1 hcc.2 h0 h1
  have m2 := mulb (a := rd e (i : Int)) (b := left) (A := 9) (B := 2000) he.1 he.2 g0 g1
  refine ⟨m1.1, by omega, m2.1, by omega, ?_⟩
  unfold stepC
  generalize rd c (i : Int) * x = u at m1 ⊢
  generalize rd e (i : Int) * left = v at m2 ⊢
  split <;> omega
omit hl in
theorem rest_in (i : Nat) : 0 ≤ (a.drop i).sum ∧ (a.drop i).sum ≤ 160 := by
  have h := sum_nonneg (drop_in hc.2.2.2.2.1 i)
  have h8 := hc.1
  have : (a.drop i).length ≤ a.length := by rw [List.length_drop]; omega
  omega
omit hc hl in
theorem rest_succ (i : Nat) (hi : i < a.length) : (a.drop i).sum = rd a (i : Int) + (a.drop (i + 1)).sum := by
  rw [drop_rd a i hi, List.sum_cons]
/-- With more stock than is needed there is none. -/
theorem V_big (d : Nat) : ∀ (i : Nat) (s p : Int), i + d = a.length → (a.drop i).sum < s → V a b c e lim reg d i s p = 1099511627776 := by
  induction d with
  | zero =>
    intro i s p hi hs
    rw [List.drop_of_length_le (by omega)] at hs
    simp only [List.sum_nil] at hs
    unfold V
    rw [if_neg (by omega)]
  | succ d ih =>
    intro i s p hi hs
    rw [rest_succ i (by omega)] at hs
    have hr := rest_in hc (i + 1)
    have ha := case_at hc hl i (by omega)
    rw [V_succ]
    refine minTo_all _ (fun u => u = 1099511627776) (fun u v hu hv => by rw [hu, hv]; rfl) _ _ _ rfl fun x h0 h1 => ?_
    unfold Wx
    split
    · rfl
    split
    · rfl
    rename_i hneg
    rw [ih (i + 1) _ _ (by omega) (by omega)]
    have h3 : 0 ≤ stepC b c e i x (s + x - rd a (i : Int)) := by
      have m1 := Int.mul_nonneg ha.2.2.1.1 h0
      have m2 := Int.mul_nonneg ha.2.2.2.1.1 (show 0 ≤ s + x - rd a (i : Int) by omega)
      unfold stepC
      split <;> omega
    unfold mn
    rw [if_neg (by omega)]
/-- Costs are small, or there is none. -/
theorem V_in (d : Nat) : ∀ (i : Nat) (s p : Int), i + d = a.length → 0 ≤ s → V a b c e lim reg d i s p = 1099511627776 ∨ (0 ≤ V a b c e lim reg d i s p ∧ V a b c e lim reg d i s p ≤ 5000 * (d : Int)) := by
  induction d with
  | zero =>
    intro i s p hi hs
    unfold V
    split
    · exact .inr ⟨Int.le_refl 0, by omega⟩
    · exact .inl rfl
  | succ d ih =>
    intro i s p hi hs
    have ha := case_at hc hl i (by omega)
    have hd : (d : Int) ≤ 8 := by have := hc.1; omega
    rw [V_succ]
    refine minTo_all _ (fun u => u = 1099511627776 ∨ (0 ≤ u ∧ u ≤ 5000 * ((d + 1 : Nat) : Int))) (fun u v hu hv => by unfold mn; split <;> assumption) _ _ _ (.inl rfl) fun x h0 h1 => ?_
    unfold Wx
    split
    · exact .inl rfl
    split
    · exact .inl rfl
    rename_i hneg
    by_cases hb : (a.drop (i + 1)).sum < s + x - rd a (i : Int)
    · rw [V_big hc hl d (i + 1) _ _ (by omega) hb]
      left
      have m1 := Int.mul_nonneg ha.2.2.1.1 h0
      have m2 := Int.mul_nonneg ha.2.2.2.1.1 (show 0 ≤ s + x - rd a (i : Int) by omega)
      unfold mn stepC
      split <;> split <;> omega
    · have hr := rest_in hc (i + 1)
      have hs2 := step_in hc hl i (by omega) h0 (by omega) (show 0 ≤ s + x - rd a (i : Int) by omega) (by omega)
      have hm := mulb (a := rd e (i : Int)) (b := s + x - rd a (i : Int)) (A := 9) (B := 160) ha.2.2.2.1.1 ha.2.2.2.1.2 (by omega) (by omega)
      rcases ih (i + 1) (s + x - rd a (i : Int)) (nextP lim i x p (s + x - rd a (i : Int))) (by omega) (by omega) with h | h
      · rw [h]
        left
        unfold mn
        rw [if_neg (by omega)]
      · right
        unfold mn
        rw [if_pos (by omega)]
        omega
omit hc hl in
/-- What was partial is of no matter to plans that need not be regular. -/
theorem V_p (d : Nat) : ∀ (i : Nat) (s p q : Int), V a b c e lim false d i s p = V a b c e lim false d i s q := by
  induction d with
  | zero => intro i s p q; rfl
  | succ d ih =>
    intro i s p q
    rw [V_succ, V_succ]
    refine minTo_congr _ _ _ _ _ fun x _ _ => ?_
    unfold Wx
    rw [if_neg (show ¬(false = true ∧ partX lim i x ∧ p = 1) from by simp), if_neg (show ¬(false = true ∧ partX lim i x ∧ q = 1) from by simp), ih (i + 1) _ (nextP lim i x p (s + x - rd a (i : Int))) (nextP lim i x q (s + x - rd a (i : Int)))]
/-- A way that goes on with a cost of its own. -/
theorem V_way (d i : Nat) (hi : i + (d + 1) = a.length) (s p x : Int) (hs : 0 ≤ s) (h0 : 0 ≤ x) (h1 : x ≤ rd lim (i : Int)) (hr : ¬ (reg = true ∧ partX lim i x ∧ p = 1)) (h2 : 0 ≤ s + x - rd a (i : Int)) (h3 : V a b c e lim reg d (i + 1) (s + x - rd a (i : Int)) (nextP lim i x p (s + x - rd a (i : Int))) ≠ 1099511627776) : V a b c e lim reg (d + 1) i s p ≠ 1099511627776 := by
  have ha := case_at hc hl i (by omega)
  have hd : (d : Int) ≤ 8 := by have := hc.1; omega
  have hb : ¬ (a.drop (i + 1)).sum < s + x - rd a (i : Int) := fun hb => h3 (V_big hc hl d (i + 1) _ _ (by omega) hb)
  have hr2 := rest_in hc (i + 1)
  have hs2 := step_in hc hl i (by omega) h0 (by omega) h2 (by omega)
  have hle := minTo_le (Wx a b c e lim reg d i s p) (rd lim (i : Int) + 1).toNat 0 1099511627776 x h0 (by omega)
  have hv := (V_in hc hl d (i + 1) (s + x - rd a (i : Int)) (nextP lim i x p (s + x - rd a (i : Int))) (by omega) h2).resolve_left h3
  rw [V_succ]
  have hm := mulb (a := rd e (i : Int)) (b := s + x - rd a (i : Int)) (A := 9) (B := 160) ha.2.2.2.1.1 ha.2.2.2.1.2 (by omega) (by omega)
  have hw : Wx a b c e lim reg d i s p x < 1099511627776 := by
    unfold Wx
    rw [if_neg hr, if_neg (by omega)]
    unfold mn
    rw [if_pos (by omega)]
    omega
  omega
/-- With just the stock that is needed, no more is ordered. -/
theorem V_last (d : Nat) : ∀ (i : Nat) (p : Int), i + d = a.length → V a b c e lim reg d i (a.drop i).sum p ≠ 1099511627776 := by
  induction d with
  | zero =>
    intro i p hi
    rw [List.drop_of_length_le (by omega)]
    unfold V
    simp
  | succ d ih =>
    intro i p hi
    have hs := rest_succ i (show i < a.length by omega)
    have hr := rest_in hc (i + 1)
    have ha := case_at hc hl i (by omega)
    have e1 : (a.drop i).sum + 0 - rd a (i : Int) = (a.drop (i + 1)).sum := by omega
    refine V_way hc hl d i hi _ p 0 (rest_in hc i).1 (Int.le_refl 0) ha.2.2.2.2.1 (fun h => by have := h.2.1.1; omega) (by omega) ?_
    rw [e1]
    exact ih (i + 1) _ (by omega)
/-- Limits that are enough have a plan, a regular one too. -/
theorem V_met (d : Nat) : ∀ (i : Nat) (s : Int), i + d = a.length → 0 ≤ s → s ≤ (a.drop i).sum → (∀ j : Nat, i ≤ j → j < a.length → (a.take (j + 1)).sum - (a.take i).sum ≤ s + ((lim.take (j + 1)).sum - (lim.take i).sum)) → V a b c e lim reg d i s 0 ≠ 1099511627776 := by
  have hll := hl.1
  induction d with
  | zero =>
    intro i s hi h0 h1 _
    rw [List.drop_of_length_le (by omega)] at h1
    simp only [List.sum_nil] at h1
    unfold V
    rw [if_pos (by omega)]
    decide
  | succ d ih =>
    intro i s hi h0 h1 hp
    have hs := rest_succ i (show i < a.length by omega)
    have hr := rest_in hc (i + 1)
    have ha := case_at hc hl i (by omega)
    have t1 := take_sum_succ a i (by omega)
    have t2 := take_sum_succ lim i (by omega)
    have hp0 := hp i (Nat.le_refl i) (by omega)
    by_cases hx : rd lim (i : Int) ≤ (a.drop i).sum - s
    · refine V_way hc hl d i hi s 0 (rd lim (i : Int)) h0 ha.2.2.2.2.1 (Int.le_refl _) (fun h => by have := h.2.1.2; omega) (by omega) ?_
      have e1 : nextP lim i (rd lim (i : Int)) 0 (s + rd lim (i : Int) - rd a (i : Int)) = 0 := by
        unfold nextP
        split
        · rfl
        · rw [if_neg fun h => by have := h.2; omega]
      rw [e1]
      refine ih (i + 1) _ (by omega) (by omega) (by omega) fun j h2 h3 => ?_
      have := hp j (by omega) h3
      omega
    · refine V_way hc hl d i hi s 0 ((a.drop i).sum - s) h0 (by omega) (by omega) (fun h => by have := h.2.2; omega) (by omega) ?_
      have e1 : s + ((a.drop i).sum - s) - rd a (i : Int) = (a.drop (i + 1)).sum := by omega
      rw [e1]
      exact V_last hc hl d (i + 1) _ (by omega)
end
theorem V_can {a b c e lim : List Int} {reg : Bool} (h : MeetOk a b c e lim) : V a b c e lim reg a.length 0 0 0 ≠ 1099511627776 := by
  refine V_met h.1 h.2.1 a.length 0 0 (by omega) (Int.le_refl 0) (rest_in h.1 0).1 fun j _ h3 => ?_
  have := h.2.2 j h3
  simp only [List.take_zero, List.sum_nil]
  omega
section
variable {a b c e lim : List Int} {reg : Bool} (hc : CaseOk a b c e) (hl : LimOk a lim)
include hc hl
/-- What an amount leads to. -/
def afterV (a b c e lim : List Int) (reg : Bool) (i : Nat) (s p x : Int) : Int × Int × Int :=
  if reg = true ∧ partX lim i x ∧ p = 1 then (0, 0, 1099511627776) else if s + x - rd a (i : Int) < 0 then (0, 0, 1099511627776) else (s + x - rd a (i : Int), nextP lim i x p (s + x - rd a (i : Int)), stepC b c e i x (s + x - rd a (i : Int)))
theorem after_j1 (i : Nat) (hi : i < a.length) (s p x : Int) (hs : 0 ≤ s) (hs2 : s ≤ 1000) (h0 : 0 ≤ x) (h1 : x ≤ 160) : Ev (fun k => impl_limitedAfter.j1 k (i : Int) s p x a b c e) (if s + x - rd a (i : Int) < 0 then (0, 0, 1099511627776) else (s + x - rd a (i : Int), (if s + x - rd a (i : Int) = 0 then 0 else p), stepC b c e i x (s + x - rd a (i : Int)))) := by
  have h8 := hc.1
  have hlen := hc.2
  have ha := case_at hc hl i hi
  have w1 : wrap64 (s + wrap64 (x - rd a (i : Int))) = s + x - rd a (i : Int) := by rw [wid (x := x - rd a (i : Int)) (by omega) (by omega), wid (by omega) (by omega)]; omega
  refine ev_succ ?_
  simp only [impl_limitedAfter.j1]
  rw [w1]
  refine ev_pos (by omega) (ev_pos (by omega) ?_)
  by_cases hn : s + x - rd a (i : Int) < 0
  · exact ev_pos hn (ev_cast (ev_some _) (if_pos hn).symm)
  · refine ev_cast ?_ (if_neg hn).symm
    obtain ⟨u0, u1, v0, v1, _, _⟩ := step_in hc hl i hi h0 h1 (show 0 ≤ s + x - rd a (i : Int) by omega) (by omega)
    have w2 : wrap64 (wrap64 (rd c (i : Int) * x) + wrap64 (rd e (i : Int) * (s + x - rd a (i : Int)))) = rd c (i : Int) * x + rd e (i : Int) * (s + x - rd a (i : Int)) := by rw [wid (x := rd c (i : Int) * x) (by omega) (by omega), wid (x := rd e (i : Int) * (s + x - rd a (i : Int))) (by omega) (by omega), wid (by omega) (by omega)]
    rw [w2]
    have w3 : wrap64 (rd c (i : Int) * x + rd e (i : Int) * (s + x - rd a (i : Int)) + rd b (i : Int)) = rd c (i : Int) * x + rd e (i : Int) * (s + x - rd a (i : Int)) + rd b (i : Int) := wid (by omega) (by omega)
    rw [w3]
    refine ev_neg hn (ev_pos (by omega) (ev_pos (by omega) ?_))
    unfold stepC
    by_cases hx : x > 0
    · refine ev_pos hx (ev_pos (by omega) ?_)
      by_cases h3 : s + x - rd a (i : Int) = 0
      · exact ev_pos h3 (ev_cast (ev_some _) (by simp only [if_pos h3, if_pos hx]))
      · exact ev_neg h3 (ev_cast (ev_some _) (by simp only [if_neg h3, if_pos hx]))
    · refine ev_neg hx ?_
      by_cases h3 : s + x - rd a (i : Int) = 0
      · exact ev_pos h3 (ev_cast (ev_some _) (by simp only [if_pos h3, if_neg hx, Int.add_zero]))
      · exact ev_neg h3 (ev_cast (ev_some _) (by simp only [if_neg h3, if_neg hx, Int.add_zero]))
theorem after_ev (i : Nat) (hi : i < a.length) (s p x : Int) (hs : 0 ≤ s) (hs2 : s ≤ 1000) (h0 : 0 ≤ x) (h1 : x ≤ 160) : Ev (fun k => impl_limitedAfter.f k a b c e (i : Int) s p x lim reg) (afterV a b c e lim reg i s p x) := by
  have h8 := hc.1
  have hll := hl.1
  have hj : ∀ (q : Bool), q = decide (partX lim i x) → Ev (fun k => impl_limitedAfter.j0 k (i : Int) s p x reg q a b c e) (afterV a b c e lim reg i s p x) := by
    intro q hq
    refine ev_succ ?_
    simp only [impl_limitedAfter.j0]
    unfold afterV
    by_cases hp : partX lim i x
    · refine ev_pos (by rw [hq]; exact decide_eq_true hp) ?_
      by_cases hr : reg = true
      · refine ev_pos hr ?_
        by_cases h1p : p = 1
        · exact ev_pos h1p (ev_cast (ev_some _) (if_pos ⟨hr, hp, h1p⟩).symm)
        · refine ev_neg h1p (ev_cast (after_j1 hc hl i hi s 1 x hs hs2 h0 h1) ?_)
          rw [if_neg (show ¬(reg = true ∧ partX lim i x ∧ p = 1) from fun h => h1p h.2.2)]
          unfold nextP
          simp only [if_pos hp]
      · refine ev_neg hr (ev_cast (after_j1 hc hl i hi s 1 x hs hs2 h0 h1) ?_)
        rw [if_neg (show ¬(reg = true ∧ partX lim i x ∧ p = 1) from fun h => hr h.1)]
        unfold nextP
        simp only [if_pos hp]
    · refine ev_cast ?_ (if_neg (show ¬(reg = true ∧ partX lim i x ∧ p = 1) from fun h => hp h.2.1)).symm
      refine ev_neg (by rw [hq]; simpa using hp) (ev_cast (after_j1 hc hl i hi s p x hs hs2 h0 h1) ?_)
      unfold nextP
      simp only [if_neg hp]
  unfold impl_limitedAfter.f
  by_cases hx : x > 0
  · refine ev_pos hx (ev_pos (by omega) (ev_pos (by omega) (hj _ ?_)))
    unfold partX
    simp [hx]
  · refine ev_neg hx (hj _ ?_)
    unfold partX
    simp [hx]
theorem with_ev (d i : Nat) (hi : i + (d + 1) = a.length) (s p x : Int) (hs : 0 ≤ s) (hs2 : s ≤ 160) (hp : p = 0 ∨ p = 1) (h0 : 0 ≤ x) (h1 : x ≤ 160)
    (ih : ∀ s' p' : Int, 0 ≤ s' → s' ≤ 1000 → (p' = 0 ∨ p' = 1) → Ev (fun k => impl_limitedLeast.f k a b c e ((i + 1 : Nat) : Int) s' p' lim reg) (V a b c e lim reg d (i + 1) s' p')) : Ev (fun k => impl_limitedWith.f k a b c e (i : Int) s p x lim reg) (Wx a b c e lim reg d i s p x) := by
  have h8 := hc.1
  have ha := case_at hc hl i (by omega)
  have hA := after_ev (reg := reg) hc hl i (by omega) s p x hs (by omega) h0 h1
  refine ev_succ ?_
  simp only [impl_limitedWith.f]
  refine ev_bind hA ?_
  unfold afterV Wx
  by_cases c1 : reg = true ∧ partX lim i x ∧ p = 1
  · simp only [if_pos c1]
    exact ev_pos trivial (ev_some _)
  simp only [if_neg c1]
  by_cases c2 : s + x - rd a (i : Int) < 0
  · simp only [if_pos c2]
    exact ev_pos trivial (ev_some _)
  simp only [if_neg c2]
  have hst := step_in hc hl i (by omega) h0 h1 (show 0 ≤ s + x - rd a (i : Int) by omega) (by omega)
  have hnp : nextP lim i x p (s + x - rd a (i : Int)) = 0 ∨ nextP lim i x p (s + x - rd a (i : Int)) = 1 := by
    unfold nextP
    split
    · exact .inl rfl
    · split
      · exact .inr rfl
      · exact hp
  have hv := V_in (reg := reg) hc hl d (i + 1) (s + x - rd a (i : Int)) (nextP lim i x p (s + x - rd a (i : Int))) (by omega) (by omega)
  rw [show wrap64 ((i : Int) + 1) = ((i + 1 : Nat) : Int) by rw [wid (by omega) (by omega)]; omega]
  refine ev_neg (by omega) (ev_bind (ih _ _ (by omega) (by omega) hnp) (ev_cast (ev_some _) ?_))
  rw [wid (by omega) (by omega)]
theorem least_l0 (i : Nat) (hi : i < a.length) (s p : Int) (g : Int → Int) (hg : ∀ x : Int, 0 ≤ x → x ≤ rd lim (i : Int) → Ev (fun k => impl_limitedWith.f k a b c e (i : Int) s p x lim reg) (g x)) (m : Nat) : ∀ (x acc : Int), 0 ≤ x → x + (m : Int) = rd lim (i : Int) + 1 →
    Ev (fun k => impl_limitedLeast.l0 k (i : Int) s p lim reg acc (rd lim (i : Int) + 1) x a b c e) (minTo g m x acc) := by
  have ha := case_at hc hl i hi
  induction m with
  | zero =>
    intro x acc h0 hx
    refine ev_succ ?_
    simp only [impl_limitedLeast.l0]
    exact ev_neg (by omega) (ev_some _)
  | succ m ihm =>
    intro x acc h0 hx
    refine ev_succ ?_
    simp only [impl_limitedLeast.l0]
    rw [show wrap64 (x + 1) = x + 1 from wid (by omega) (by omega)]
    exact ev_pos (by omega) (ev_bind (hg x h0 (by omega)) (ihm (x + 1) _ (by omega) (by omega)))
theorem least_ev (d : Nat) : ∀ (i : Nat) (s p : Int), i + d = a.length → 0 ≤ s → s ≤ 1000 → (p = 0 ∨ p = 1) → Ev (fun k => impl_limitedLeast.f k a b c e (i : Int) s p lim reg) (V a b c e lim reg d i s p) := by
  have h8 := hc.1
  have hll := hl.1
  induction d with
  | zero =>
    intro i s p hi hs hs2 hp
    have ht := total_take (xs := a.drop (i : Int).toNat) (by decide) (by decide) (drop_in hc.2.2.2.2.1 _) (by rw [List.length_drop]; omega)
    have hsum : (a.drop (i : Int).toNat).sum = 0 := by rw [Int.toNat_natCast, List.drop_of_length_le (by omega)]; rfl
    rw [hsum] at ht
    refine ev_succ ?_
    simp only [impl_limitedLeast.f]
    refine ev_pos (by omega) (ev_pos (by omega) (ev_bind ht ?_))
    unfold V
    by_cases h : s > 0
    · exact ev_pos h (ev_cast (ev_some _) (if_neg (by omega)).symm)
    · exact ev_neg h (ev_pos (by omega) (ev_cast (ev_some _) (if_pos (by omega)).symm))
  | succ d ih =>
    intro i s p hi hs hs2 hp
    have ha := case_at hc hl i (by omega)
    have hr := rest_in hc i
    have ht := total_take (xs := a.drop (i : Int).toNat) (by decide) (by decide) (drop_in hc.2.2.2.2.1 _) (by rw [List.length_drop]; omega)
    rw [Int.toNat_natCast] at ht
    refine ev_succ ?_
    simp only [impl_limitedLeast.f, Int.toNat_natCast]
    refine ev_pos (by omega) (ev_pos (by omega) (ev_bind ht ?_))
    by_cases h : s > (a.drop i).sum
    · exact ev_pos h (ev_cast (ev_some _) (V_big hc hl (d + 1) i s p hi h).symm)
    · rw [wid (x := rd lim (i : Int) + 1) (by omega) (by omega), V_succ]
      refine ev_neg h (ev_neg (by omega) (ev_pos (by omega) ?_))
      exact least_l0 hc hl i (by omega) s p _ (fun x h0 h1 => with_ev hc hl d i hi s p x hs (by omega) hp h0 (by omega) fun s' p' q1 q2 q3 => ih (i + 1) s' p' (by omega) q1 q2 q3) _ 0 1099511627776 (Int.le_refl 0) (by omega)
end
/-- The reference's way to tell that there is none. -/
def toS (v : Int) : Int := if v = 1099511627776 then -1 else v
theorem toS_none {v : Int} (h : v = 1099511627776) : toS v = -1 := if_pos h
theorem toS_some {v : Int} (h : v ≠ 1099511627776) : toS v = v := if_neg h
def SmallV (v : Int) : Prop := v = 1099511627776 ∨ (0 ≤ v ∧ v ≤ 900000)
theorem small_mn {u v : Int} (hu : SmallV u) (hv : SmallV v) : SmallV (mn u v) := by
  unfold mn
  split <;> assumption
theorem l4Least_toS {u v : Int} (hu : SmallV u) (hv : 0 ≤ v ∧ v ≤ 900000) : spec_l4Least.f (toS u) v = some (toS (mn u v)) := by
  unfold spec_l4Least.f mn
  rcases hu with h | h
  · rw [toS_none h, if_pos (by omega), if_pos (by omega), toS_some (by omega)]
  · rw [toS_some (by omega), if_neg (by omega), if_pos (by omega)]
    by_cases q : v < u
    · rw [if_pos q, if_pos q, toS_some (by omega)]
    · rw [if_neg q, if_neg q, toS_some (by omega)]
section
variable {a b c e lim : List Int} {reg : Bool} (hc : CaseOk a b c e) (hl : LimOk a lim)
include hc hl
theorem stepC_nonneg (i : Nat) (hi : i < a.length) {x left : Int} (h0 : 0 ≤ x) (g0 : 0 ≤ left) : 0 ≤ stepC b c e i x left := by
  have ha := case_at hc hl i hi
  have m1 := Int.mul_nonneg ha.2.2.1.1 h0
  have m2 := Int.mul_nonneg ha.2.2.2.1.1 g0
  unfold stepC
  generalize rd c (i : Int) * x = u at m1 ⊢
  generalize rd e (i : Int) * left = v at m2 ⊢
  split <;> omega
theorem Wx_none (d i : Nat) (s p x : Int) (hi : i < a.length) (h0 : 0 ≤ x) (h : (reg = true ∧ partX lim i x ∧ p = 1) ∨ s + x - rd a (i : Int) < 0 ∨ V a b c e lim reg d (i + 1) (s + x - rd a (i : Int)) (nextP lim i x p (s + x - rd a (i : Int))) = 1099511627776) : Wx a b c e lim reg d i s p x = 1099511627776 := by
  unfold Wx
  by_cases c1 : reg = true ∧ partX lim i x ∧ p = 1
  · exact if_pos c1
  rw [if_neg c1]
  by_cases c2 : s + x - rd a (i : Int) < 0
  · exact if_pos c2
  rw [if_neg c2]
  have h3 := (h.resolve_left c1).resolve_left c2
  have h4 := stepC_nonneg hc hl i hi h0 (show 0 ≤ s + x - rd a (i : Int) by omega)
  rw [h3]
  unfold mn
  rw [if_neg (by omega)]
theorem Wx_val (d i : Nat) (s p x : Int) (hi : i + (d + 1) = a.length) (h0 : 0 ≤ x) (h1 : x ≤ 160) (c1 : ¬ (reg = true ∧ partX lim i x ∧ p = 1)) (c2 : 0 ≤ s + x - rd a (i : Int)) (c3 : V a b c e lim reg d (i + 1) (s + x - rd a (i : Int)) (nextP lim i x p (s + x - rd a (i : Int))) ≠ 1099511627776) :
    s + x - rd a (i : Int) ≤ (a.drop (i + 1)).sum ∧ Wx a b c e lim reg d i s p x = stepC b c e i x (s + x - rd a (i : Int)) + V a b c e lim reg d (i + 1) (s + x - rd a (i : Int)) (nextP lim i x p (s + x - rd a (i : Int))) ∧ 0 ≤ Wx a b c e lim reg d i s p x ∧ Wx a b c e lim reg d i s p x ≤ 60000 := by
  have h8 := hc.1
  have hr := rest_in hc (i + 1)
  have hb : s + x - rd a (i : Int) ≤ (a.drop (i + 1)).sum := Int.not_lt.mp fun h => c3 (V_big hc hl d (i + 1) _ _ (by omega) h)
  have hst := step_in hc hl i (by omega) h0 h1 c2 (by omega)
  have hv := (V_in (reg := reg) hc hl d (i + 1) _ (nextP lim i x p (s + x - rd a (i : Int))) (by omega) c2).resolve_left c3
  have hW : Wx a b c e lim reg d i s p x = stepC b c e i x (s + x - rd a (i : Int)) + V a b c e lim reg d (i + 1) (s + x - rd a (i : Int)) (nextP lim i x p (s + x - rd a (i : Int))) := by
    unfold Wx
    rw [if_neg c1, if_neg (by omega)]
    unfold mn
    rw [if_pos (by omega)]
  refine ⟨hb, hW, ?_, ?_⟩ <;> rw [hW] <;> omega
theorem Wx_small (d i : Nat) (s p x : Int) (hi : i + (d + 1) = a.length) (h0 : 0 ≤ x) (h1 : x ≤ 160) : SmallV (Wx a b c e lim reg d i s p x) := by
  by_cases h : (reg = true ∧ partX lim i x ∧ p = 1) ∨ s + x - rd a (i : Int) < 0 ∨ V a b c e lim reg d (i + 1) (s + x - rd a (i : Int)) (nextP lim i x p (s + x - rd a (i : Int))) = 1099511627776
  · exact .inl (Wx_none hc hl d i s p x (by omega) h0 h)
  · have := Wx_val hc hl d i s p x hi h0 h1 (fun q => h (.inl q)) (Int.not_lt.mp fun q => h (.inr (.inl q))) fun q => h (.inr (.inr q))
    exact .inr ⟨this.2.2.1, by omega⟩
theorem l4Step_eq (i : Nat) (hi : i < a.length) {x left : Int} (h0 : 0 ≤ x) (h1 : x ≤ 160) (g0 : 0 ≤ left) (g1 : left ≤ 2000) : spec_l4Step.f a b c e (i : Int) x left = some (stepC b c e i x left) := by
  have hlen := hc.2
  obtain ⟨_, hb, hcc, he, _⟩ := case_at hc hl i hi
  obtain ⟨u0, u1, v0, v1, _⟩ := step_in hc hl i hi h0 h1 g0 g1
  unfold spec_l4Step.f stepC
  rw [if_pos (by omega), if_pos (by omega), if_pos (by omega), wid (x := rd c (i : Int) * x) (by omega) (by omega), wid (x := rd e (i : Int) * left) (by omega) (by omega)]
  generalize rd c (i : Int) * x = u at u0 u1 ⊢
  generalize rd e (i : Int) * left = v at v0 v1 ⊢
  rw [wid (x := u + v) (by omega) (by omega)]
  by_cases q : x > 0
  · rw [if_pos q, if_pos q, if_pos (by omega), wid (by omega) (by omega)]
  · rw [if_neg q, if_neg q, Int.add_zero]
end
/-- The first of m numbers from x on that g takes to v. -/
def firstEq (g : Int → Int) (v : Int) : Nat → Int → Int
  | 0, x => x
  | m + 1, x => if g x = v then x else firstEq g v m (x + 1)
theorem minTo_hit (g : Int → Int) : ∀ (m : Nat) (x acc : Int), minTo g m x acc ≠ acc → ∃ y, x ≤ y ∧ y < x + (m : Int) ∧ g y = minTo g m x acc
  | 0, _, _, h => absurd rfl h
  | m + 1, x, acc, h => by
    unfold minTo at h ⊢
    by_cases q : minTo g m (x + 1) (mn acc (g x)) = mn acc (g x)
    · refine ⟨x, Int.le_refl x, by omega, ?_⟩
      rw [q] at h ⊢
      unfold mn at h ⊢
      split
      · rfl
      · rename_i q2
        rw [if_neg q2] at h
        exact absurd rfl h
    · obtain ⟨y, h1, h2, h3⟩ := minTo_hit g m (x + 1) _ q
      exact ⟨y, by omega, by omega, h3⟩
theorem firstEq_in (g : Int → Int) (v : Int) : ∀ (m : Nat) (x : Int), (∃ y, x ≤ y ∧ y < x + (m : Int) ∧ g y = v) → x ≤ firstEq g v m x ∧ firstEq g v m x < x + (m : Int) ∧ g (firstEq g v m x) = v
  | 0, x, ⟨y, h1, h2, _⟩ => by omega
  | m + 1, x, ⟨y, h1, h2, h3⟩ => by
    unfold firstEq
    by_cases q : g x = v
    · rw [if_pos q]
      exact ⟨Int.le_refl x, by omega, q⟩
    · rw [if_neg q]
      have hy : y ≠ x := fun q2 => q (by rw [← q2]; exact h3)
      obtain ⟨r1, r2, r3⟩ := firstEq_in g v m (x + 1) ⟨y, by omega, by omega, h3⟩
      exact ⟨by omega, by omega, r3⟩
/-- The amount that the least cost is found at. -/
def bestX (a b c e lim : List Int) (reg : Bool) (d i : Nat) (s p : Int) : Int := firstEq (Wx a b c e lim reg d i s p) (V a b c e lim reg (d + 1) i s p) (rd lim (i : Int) + 1).toNat 0
/-- A plan of least cost from a period on. -/
def planL (a b c e lim : List Int) (reg : Bool) : Nat → Nat → Int → Int → List Int
  | 0, _, _, _ => []
  | d + 1, i, s, p => bestX a b c e lim reg d i s p :: planL a b c e lim reg d (i + 1) (s + bestX a b c e lim reg d i s p - rd a (i : Int)) (nextP lim i (bestX a b c e lim reg d i s p) p (s + bestX a b c e lim reg d i s p - rd a (i : Int)))
theorem nextP_in (lim : List Int) (i : Nat) (x p s : Int) (hp : p = 0 ∨ p = 1) : nextP lim i x p s = 0 ∨ nextP lim i x p s = 1 := by
  unfold nextP
  split
  · exact .inl rfl
  · split
    · exact .inr rfl
    · exact hp
section
variable {a b c e lim : List Int} {reg : Bool} (hc : CaseOk a b c e) (hl : LimOk a lim)
include hc hl
omit hc hl in
theorem best_hit (d i : Nat) (hi : i + (d + 1) = a.length) (s p : Int) (hV : V a b c e lim reg (d + 1) i s p ≠ 1099511627776) : ∃ y, 0 ≤ y ∧ y < 0 + ((rd lim (i : Int) + 1).toNat : Int) ∧ Wx a b c e lim reg d i s p y = V a b c e lim reg (d + 1) i s p := by
  rw [V_succ] at hV ⊢
  exact minTo_hit _ _ _ _ hV
/-- An amount that is as good as the best leads to a state that has a plan. -/
theorem hit_go (d i : Nat) (hi : i + (d + 1) = a.length) (s p y : Int) (h0 : 0 ≤ y) (h1 : y ≤ rd lim (i : Int)) (hV : V a b c e lim reg (d + 1) i s p ≠ 1099511627776) (hW : Wx a b c e lim reg d i s p y = V a b c e lim reg (d + 1) i s p) :
    ¬ (reg = true ∧ partX lim i y ∧ p = 1) ∧ 0 ≤ s + y - rd a (i : Int) ∧ s + y - rd a (i : Int) ≤ (a.drop (i + 1)).sum ∧ V a b c e lim reg d (i + 1) (s + y - rd a (i : Int)) (nextP lim i y p (s + y - rd a (i : Int))) ≠ 1099511627776 := by
  have ha := case_at hc hl i (by omega)
  have c1 : ¬ (reg = true ∧ partX lim i y ∧ p = 1) := fun q => hV (hW ▸ Wx_none hc hl d i s p y (by omega) h0 (.inl q))
  have c2 : 0 ≤ s + y - rd a (i : Int) := Int.not_lt.mp fun q => hV (hW ▸ Wx_none hc hl d i s p y (by omega) h0 (.inr (.inl q)))
  have c3 : V a b c e lim reg d (i + 1) (s + y - rd a (i : Int)) (nextP lim i y p (s + y - rd a (i : Int))) ≠ 1099511627776 := fun q => hV (hW ▸ Wx_none hc hl d i s p y (by omega) h0 (.inr (.inr q)))
  exact ⟨c1, c2, (Wx_val hc hl d i s p y hi h0 (by omega) c1 c2 c3).1, c3⟩
theorem planOf_l1 (d i : Nat) (hi : i + (d + 1) = a.length) (s p : Int) (hs : 0 ≤ s) (hs2 : s ≤ 160) (hp : p = 0 ∨ p = 1) (hV : V a b c e lim reg (d + 1) i s p ≠ 1099511627776) (acc : List Int) (hacc : acc.length ≤ 20) (r : List Int × Int) (m : Nat) : ∀ x : Int, 0 ≤ x → x + (m : Int) = rd lim (i : Int) + 1 → (∃ y, x ≤ y ∧ y < x + (m : Int) ∧ Wx a b c e lim reg d i s p y = V a b c e lim reg (d + 1) i s p) →
    (∀ X, X = firstEq (Wx a b c e lim reg d i s p) (V a b c e lim reg (d + 1) i s p) m x → Ev (fun k => impl_limitedPlanOf.l0 k lim reg (acc ++ [X]) (s + X - rd a (i : Int)) (nextP lim i X p (s + X - rd a (i : Int))) (a.length : Int) ((i + 1 : Nat) : Int) a b c e) r) →
    Ev (fun k => impl_limitedPlanOf.l1 k lim reg acc s p (i : Int) x (V a b c e lim reg (d + 1) i s p) (a.length : Int) (i : Int) a b c e) r := by
  have h8 := hc.1
  have ha := case_at hc hl i (by omega)
  induction m with
  | zero =>
    intro x h0 hx hy _
    obtain ⟨y, h1, h2, _⟩ := hy
    omega
  | succ m ih =>
    intro x h0 hx hy h
    have hw := with_ev (reg := reg) hc hl d i hi s p x hs hs2 hp h0 (by omega) fun s' p' q1 q2 q3 => least_ev hc hl d (i + 1) s' p' (by omega) q1 q2 q3
    refine ev_succ ?_
    simp only [impl_limitedPlanOf.l1]
    refine ev_bind hw ?_
    by_cases q : Wx a b c e lim reg d i s p x = V a b c e lim reg (d + 1) i s p
    · obtain ⟨c1, c2, c3, c4⟩ := hit_go hc hl d i hi s p x h0 (by omega) hV q
      have hA := after_ev (reg := reg) hc hl i (by omega) s p x hs (by omega) h0 (by omega)
      have hX := h x (by unfold firstEq; rw [if_pos q])
      rw [show wrap64 ((i : Int) + 1) = ((i + 1 : Nat) : Int) by rw [wid (by omega) (by omega)]; omega]
      refine ev_pos q (ev_pos (by omega) (ev_bind (a := (s + x - rd a (i : Int), nextP lim i x p (s + x - rd a (i : Int)), stepC b c e i x (s + x - rd a (i : Int)))) (ev_cast hA ?_) hX))
      unfold afterV
      rw [if_neg c1, if_neg (by omega)]
    · obtain ⟨y, h1, h2, h3⟩ := hy
      have hyx : y ≠ x := fun q2 => q (by rw [← q2]; exact h3)
      rw [show wrap64 (x + 1) = x + 1 from wid (by omega) (by omega)]
      refine ev_neg q (ih (x + 1) (by omega) (by omega) ⟨y, by omega, by omega, h3⟩ fun X hX => h X ?_)
      rw [hX]
      conv => rhs; unfold firstEq
      rw [if_neg q]
theorem planOf_l0 (d : Nat) : ∀ (i : Nat) (s p : Int) (acc : List Int), i + d = a.length → 0 ≤ s → s ≤ 160 → (p = 0 ∨ p = 1) → acc.length = i → V a b c e lim reg d i s p ≠ 1099511627776 →
    Ev (fun k => impl_limitedPlanOf.l0 k lim reg acc s p (a.length : Int) (i : Int) a b c e) (acc ++ planL a b c e lim reg d i s p, V a b c e lim reg a.length 0 0 0) := by
  have h8 := hc.1
  have hl0 := least_ev (reg := reg) hc hl a.length 0 0 0 (by omega) (Int.le_refl 0) (by omega) (.inl rfl)
  induction d with
  | zero =>
    intro i s p acc hi hs hs2 hp hacc hV
    refine ev_succ ?_
    simp only [impl_limitedPlanOf.l0, planL, List.append_nil]
    exact ev_neg (by omega) (ev_bind hl0 (ev_some _))
  | succ d ih =>
    intro i s p acc hi hs hs2 hp hacc hV
    have hrest := rest_in hc (i + 1)
    have ha := case_at hc hl i (by omega)
    have hb := best_hit d i hi s p hV
    have hf := firstEq_in _ _ _ _ hb
    refine ev_succ ?_
    simp only [impl_limitedPlanOf.l0]
    refine ev_pos (by omega) (ev_bind (least_ev (reg := reg) hc hl (d + 1) i s p hi hs (by omega) hp) ?_)
    refine planOf_l1 hc hl d i hi s p hs hs2 hp hV acc (by omega) _ (rd lim (i : Int) + 1).toNat 0 (Int.le_refl 0) (by omega) hb fun X hX => ?_
    subst hX
    obtain ⟨c1, c2, c3, c4⟩ := hit_go hc hl d i hi s p _ hf.1 (by omega) hV hf.2.2
    refine ev_cast (ih (i + 1) _ _ _ (by omega) c2 (by omega) (nextP_in lim i _ p _ hp) (by rw [List.length_append, List.length_cons, List.length_nil, hacc]) c4) ?_
    conv => rhs; unfold planL bestX
    rw [List.append_assoc, List.singleton_append]
end
theorem planOf_ev {a b c e lim : List Int} {reg : Bool} (h : MeetOk a b c e lim) : Ev (fun k => impl_limitedPlanOf.f k a b c e lim reg) (planL a b c e lim reg a.length 0 0 0, V a b c e lim reg a.length 0 0 0) := by
  unfold impl_limitedPlanOf.f
  have := planOf_l0 (reg := reg) h.1 h.2.1 a.length 0 0 0 [] (by omega) (Int.le_refl 0) (by omega) (.inl rfl) rfl (V_can h)
  exact this
instance (a b c e lim : List Int) : Decidable (MeetOk a b c e lim) := by unfold MeetOk; infer_instance
def ansP (a b c e lim : List Int) (reg : Bool) : List Int × Int × Bool := if MeetOk a b c e lim then (planL a b c e lim reg a.length 0 0 0, V a b c e lim reg a.length 0 0 0, true) else ([], 0, false)
section
variable (a b c e lim : List Int) (h0 : a.length ≤ 35184372088832) (h1 : b.length ≤ 35184372088832) (h2 : c.length ≤ 35184372088832) (h3 : e.length ≤ 35184372088832) (hp : lim.length ≤ 35184372088832)
include h0 h1 h2 h3 hp
theorem limitedPlan_ev (reg : Bool) : Ev (fun k => impl_limitedPlan.f k a b c e lim reg) (ansP a b c e lim reg) := by
  unfold impl_limitedPlan.f ansP
  refine ev_bind (implCan_ev a b c e lim h0 h1 h2 h3 hp) ?_
  by_cases h : MeetOk a b c e lim
  · rw [if_pos h, can_true a b c e lim h]
    exact ev_pos rfl (ev_pos rfl (ev_bind (planOf_ev h) (ev_some _)))
  · rw [if_neg h]
    by_cases h2 : (canA a b c e lim).2 = true
    · exact ev_pos h2 (ev_neg (by rw [can_false a b c e lim h]; decide) (ev_some _))
    · exact ev_neg h2 (ev_some _)
theorem l4Can_ev : Ev (fun k => spec_l4Can.f k a b c e lim) (decide (MeetOk a b c e lim)) := by
  unfold spec_l4Can.f
  refine ev_bind (specCan_ev a b c e lim h0 h1 h2 h3 hp) ?_
  unfold canA MeetOk
  by_cases h : CaseOk a b c e ∧ LimOk a lim
  · rw [if_pos h]
    by_cases q : PC a lim
    · exact ev_pos (decide_eq_true q) (ev_true ⟨h.1, h.2, q⟩)
    · exact ev_neg (by simpa using q) (ev_false fun w => q w.2.2)
  · rw [if_neg h]
    exact ev_neg (by simp) (ev_false fun q => h ⟨q.1, q.2.1⟩)
end
theorem planL_len (a b c e lim : List Int) (reg : Bool) (d : Nat) : ∀ (i : Nat) (s p : Int), (planL a b c e lim reg d i s p).length = d := by
  induction d with
  | zero => intro i s p; rfl
  | succ d ih =>
    intro i s p
    unfold planL
    rw [List.length_cons, ih]
theorem firstEq_skip (g : Int → Int) (v : Int) : ∀ (k m : Nat) (x : Int), (∀ y, x ≤ y → y < x + (k : Int) → g y ≠ v) → firstEq g v (k + m) x = firstEq g v m (x + (k : Int))
  | 0, m, x, _ => by rw [Nat.zero_add, show x + ((0 : Nat) : Int) = x by omega]
  | k + 1, m, x, h => by
    rw [show k + 1 + m = (k + m) + 1 by omega]
    conv => lhs; unfold firstEq
    rw [if_neg (h x (Int.le_refl x) (by omega)), firstEq_skip g v k m (x + 1) fun y h1 h2 => h y (by omega) (by omega)]
    congr 1
    omega
section
variable {a b c e lim : List Int} (hc : CaseOk a b c e) (hl : LimOk a lim) (T : Nat) (hT : (T : Int) = a.sum)
include hc hl hT
omit hl in
theorem rest_T (i : Nat) : (a.drop i).sum ≤ (T : Int) := by
  have h1 : (a.take i).sum + (a.drop i).sum = a.sum := by rw [← List.sum_append, List.take_append_drop]
  have := case_sum hc i
  omega
end
def P1 (u : Bool) : Int := if u = true then 1 else 0
theorem P1_in (u : Bool) : P1 u = 0 ∨ P1 u = 1 := by cases u <;> simp [P1]
theorem P1_one (u : Bool) : P1 u = 1 ↔ u = true := by cases u <;> simp [P1]
def rowP (a b c e lim : List Int) (T d i : Nat) : List S45 := (List.range (T + 1)).map fun s : Nat => ⟨toS (V a b c e lim true d i (s : Int) 0), toS (V a b c e lim true d i (s : Int) 1)⟩
def tabP (a b c e lim : List Int) (T : Nat) : Nat → Nat → List (List S45)
  | 0, i => [rowP a b c e lim T 0 i]
  | d + 1, i => rowP a b c e lim T (d + 1) i :: tabP a b c e lim T d (i + 1)
theorem rowP_len (a b c e lim : List Int) (T d i : Nat) : (rowP a b c e lim T d i).length = T + 1 := by simp [rowP]
theorem rowP_rd (a b c e lim : List Int) (T d i : Nat) (s : Int) (h0 : 0 ≤ s) (h1 : s ≤ (T : Int)) : rd_T45 (rowP a b c e lim T d i) s = ⟨toS (V a b c e lim true d i s 0), toS (V a b c e lim true d i s 1)⟩ := by
  obtain ⟨m, rfl⟩ : ∃ m : Nat, s = (m : Int) := ⟨s.toNat, by omega⟩
  have hm : m < T + 1 := by omega
  unfold rd_T45 rowP
  simp [List.getD_eq_getElem?_getD, hm]
theorem tabP_cons (a b c e lim : List Int) (T d i : Nat) : ∃ tl, tabP a b c e lim T d i = rowP a b c e lim T d i :: tl ∧ tl.length = d := by
  induction d generalizing i with
  | zero => exact ⟨[], rfl, rfl⟩
  | succ d ih =>
    obtain ⟨tl, h1, h2⟩ := ih (i + 1)
    refine ⟨tabP a b c e lim T d (i + 1), rfl, ?_⟩
    rw [h1, List.length_cons, h2]
theorem tabP_len (a b c e lim : List Int) (T d i : Nat) : (tabP a b c e lim T d i).length = d + 1 := by
  obtain ⟨tl, h1, h2⟩ := tabP_cons a b c e lim T d i
  rw [h1, List.length_cons, h2]
theorem tabP_rd (a b c e lim : List Int) (T : Nat) : ∀ (j d i : Nat), rd_L2 (tabP a b c e lim T (j + d) i) (j : Int) = rowP a b c e lim T d (i + j)
  | 0, d, i => by
    obtain ⟨tl, h1, h2⟩ := tabP_cons a b c e lim T (0 + d) i
    rw [h1]
    simp [rd_L2]
  | j + 1, d, i => by
    rw [show j + 1 + d = (j + d) + 1 by omega]
    have := tabP_rd a b c e lim T j d (i + 1)
    unfold tabP
    unfold rd_L2 at this ⊢
    rw [show ((j + 1 : Nat) : Int).toNat = j + 1 by omega]
    rw [show ((j : Nat) : Int).toNat = j by omega] at this
    rw [List.getD_cons_succ, this, show i + 1 + j = i + (j + 1) by omega]
theorem cost_eq (a b c e lim : List Int) (T d i : Nat) (s : Int) (h0 : 0 ≤ s) (h1 : s ≤ (T : Int)) (u : Bool) : spec_l4Cost.f (rd_T45 (rowP a b c e lim T d i) s).f0 (rd_T45 (rowP a b c e lim T d i) s).f1 u = some (toS (V a b c e lim true d i s (P1 u))) := by
  rw [rowP_rd a b c e lim T d i s h0 h1]
  unfold spec_l4Cost.f P1
  cases u
  · rfl
  · rfl
theorem nextP_eq (lim : List Int) (i : Nat) (x left : Int) (u : Bool) (h0 : 0 ≤ left) : nextP lim i x (P1 u) left = P1 (decide (left > 0) && (u || (decide (x > 0) && decide (x < rd lim (i : Int))))) := by
  unfold nextP partX P1
  by_cases hl : left > 0
  · rw [if_neg (by omega)]
    by_cases hx : x > 0 <;> by_cases hq : x < rd lim (i : Int) <;> cases u <;> simp [hl, hx, hq]
  · rw [if_pos (by omega)]
    simp [hl]
theorem now_eq (a b c e lim : List Int) (T d i : Nat) (hi : i < lim.length) (x left : Int) (h0 : 0 ≤ left) (h1 : left ≤ (T : Int)) (u : Bool) : spec_l4Now.f lim (rowP a b c e lim T d (i + 1)) (i : Int) x left u = some (if partX lim i x ∧ u = true then -1 else toS (V a b c e lim true d (i + 1) left (nextP lim i x (P1 u) left))) := by
  have hc := cost_eq a b c e lim T d (i + 1) left h0 h1
  have e1 : (0 : Int) ≤ (i : Int) := Int.natCast_nonneg _
  have e2 : (i : Int) < (lim.length : Int) := by omega
  have e4 : left < ((rowP a b c e lim T d (i + 1)).length : Int) := by rw [rowP_len]; omega
  rw [nextP_eq lim i x left u h0]
  unfold spec_l4Now.f partX
  simp only [hc, Option.bind_some]
  rw [if_pos e1, if_pos e2]
  simp only [if_pos h0, if_pos e4]
  by_cases hx : x > 0 <;> by_cases hq : x < rd lim (i : Int) <;> by_cases hl : left > 0 <;> cases u <;> simp [hx, hq, hl]
section
variable {a b c e lim : List Int} (hc : CaseOk a b c e) (hl : LimOk a lim) (T : Nat) (hT : (T : Int) = a.sum)
include hc hl hT
omit hT in
/-- What an amount gives, as the reference's l4Now tells it. -/
theorem now_cases (d i : Nat) (hi : i + (d + 1) = a.length) (s x : Int) (u : Bool) (h0 : 0 ≤ x) (h1 : x ≤ 160) (g0 : 0 ≤ s + x - rd a (i : Int)) (g1 : s + x - rd a (i : Int) ≤ (T : Int)) :
    (spec_l4Now.f lim (rowP a b c e lim T d (i + 1)) (i : Int) x (s + x - rd a (i : Int)) u = some (-1) ∧ Wx a b c e lim true d i s (P1 u) x = 1099511627776) ∨
    (∃ v, spec_l4Now.f lim (rowP a b c e lim T d (i + 1)) (i : Int) x (s + x - rd a (i : Int)) u = some v ∧ 0 ≤ v ∧ Wx a b c e lim true d i s (P1 u) x = stepC b c e i x (s + x - rd a (i : Int)) + v ∧ 0 ≤ Wx a b c e lim true d i s (P1 u) x ∧ Wx a b c e lim true d i s (P1 u) x ≤ 60000) := by
  have hll := hl.1
  have i1_ : i < a.length := by omega
  have i2_ : i + 1 + d = a.length := by omega
  have hn := now_eq a b c e lim T d i (by omega) x (s + x - rd a (i : Int)) g0 g1 u
  by_cases hN : partX lim i x ∧ u = true
  · left
    rw [if_pos hN] at hn
    exact ⟨hn, Wx_none hc hl d i s (P1 u) x i1_ h0 (.inl ⟨rfl, hN.1, (P1_one u).mpr hN.2⟩)⟩
  rw [if_neg hN] at hn
  by_cases hv : V a b c e lim true d (i + 1) (s + x - rd a (i : Int)) (nextP lim i x (P1 u) (s + x - rd a (i : Int))) = 1099511627776
  · left
    rw [toS_none hv] at hn
    exact ⟨hn, Wx_none hc hl d i s (P1 u) x i1_ h0 (.inr (.inr hv))⟩
  · right
    have hW := Wx_val (reg := true) hc hl d i s (P1 u) x hi h0 h1 (fun q => hN ⟨q.2.1, (P1_one u).mp q.2.2⟩) g0 hv
    have hvi := (V_in (reg := true) hc hl d (i + 1) (s + x - rd a (i : Int)) (nextP lim i x (P1 u) (s + x - rd a (i : Int))) i2_ g0).resolve_left hv
    rw [toS_some hv] at hn
    exact ⟨_, hn, hvi.1, hW.2.1, hW.2.2.1, hW.2.2.2⟩
theorem rest_l0 (d i : Nat) (hi : i + (d + 1) = a.length) (s : Int) (hs : 0 ≤ s) (hs2 : s ≤ (T : Int)) (u : Bool) (m : Nat) : ∀ (x acc : Int), 0 ≤ x → x + (m : Int) = rd lim (i : Int) + 1 → SmallV acc → minTo (Wx a b c e lim true d i s (P1 u)) m x acc = V a b c e lim true (d + 1) i s (P1 u) →
    Ev (fun k => spec_l4Rest.l0 k lim (rowP a b c e lim T d (i + 1)) (i : Int) s u (toS acc) x a b c e) (toS (V a b c e lim true (d + 1) i s (P1 u))) := by
  have hll := hl.1
  have h8 := hc.1
  have ha := case_at hc hl i (by omega)
  have hsum := rest_in hc 0
  rw [List.drop_zero] at hsum
  have q1 : (0 : Int) ≤ (i : Int) := Int.natCast_nonneg _
  have q2 : (i : Int) < (lim.length : Int) := by omega
  have q3 : (i : Int) < (a.length : Int) := by omega
  have i1_ : i < a.length := by omega
  have i2_ : i + 1 + d = a.length := by omega
  have hlr : wrap64 (((rowP a b c e lim T d (i + 1)).length : Int) - 1) = (T : Int) := by rw [rowP_len, wid (by omega) (by omega)]; omega
  induction m with
  | zero =>
    intro x acc h0 hx hs1 hm
    refine ev_succ ?_
    simp only [spec_l4Rest.l0]
    unfold minTo at hm
    rw [hm]
    exact ev_pos q1 (ev_pos q2 (ev_neg (by omega) (ev_some _)))
  | succ m ih =>
    intro x acc h0 hx hs1 hm
    have x1_ : x ≤ rd lim (i : Int) := by omega
    have x2_ : x ≤ 160 := by omega
    have x3_ : 0 ≤ x + 1 := by omega
    have x4_ : x + 1 + (m : Int) = rd lim (i : Int) + 1 := by omega
    have l2_ : s + x - rd a (i : Int) ≤ 2000 := by omega
    have hwx : wrap64 (x + 1) = x + 1 := wid (by omega) (by omega)
    have hleft : wrap64 (wrap64 (s + x) - rd a (i : Int)) = s + x - rd a (i : Int) := by rw [wid (x := s + x) (by omega) (by omega), wid (by omega) (by omega)]
    have hnext : ∀ acc', SmallV acc' → acc' = mn acc (Wx a b c e lim true d i s (P1 u) x) → Ev (fun k => spec_l4Rest.l0 k lim (rowP a b c e lim T d (i + 1)) (i : Int) s u (toS acc') (x + 1) a b c e) (toS (V a b c e lim true (d + 1) i s (P1 u))) := by
      intro acc' q1 q2
      refine ih (x + 1) acc' x3_ x4_ q1 ?_
      rw [q2]
      exact hm
    have hnone : Wx a b c e lim true d i s (P1 u) x = 1099511627776 → mn acc (Wx a b c e lim true d i s (P1 u) x) = acc := by
      intro q
      rw [q]
      unfold mn
      rcases hs1 with q1 | q1
      · rw [if_neg (by omega)]
      · rw [if_neg (by omega)]
    refine ev_succ ?_
    simp only [spec_l4Rest.l0, hleft, hlr, hwx, in_eq, Option.bind_some]
    refine ev_pos q1 (ev_pos q2 (ev_pos x1_ (ev_pos q3 ?_)))
    by_cases hin : 0 ≤ s + x - rd a (i : Int) ∧ s + x - rd a (i : Int) ≤ (T : Int)
    · refine ev_pos (decide_eq_true hin) ?_
      rcases now_cases hc hl T d i hi s x u h0 x2_ hin.1 hin.2 with ⟨e1, e2⟩ | ⟨v, e1, v0, e2, w1, w2⟩
      · rw [e1]
        simp only [Option.bind_some]
        exact ev_neg (by decide) (hnext acc hs1 (hnone e2).symm)
      · rw [e1, l4Step_eq hc hl i i1_ h0 x2_ hin.1 l2_]
        simp only [Option.bind_some]
        rw [← e2, wid (Int.le_trans (by decide) w1) (Int.le_trans w2 (by decide)), l4Least_toS hs1 ⟨w1, Int.le_trans w2 (by decide)⟩]
        simp only [Option.bind_some]
        exact ev_pos v0 (hnext _ (small_mn hs1 (.inr ⟨w1, Int.le_trans w2 (by decide)⟩)) rfl)
    · have hW : Wx a b c e lim true d i s (P1 u) x = 1099511627776 := by
        refine Wx_none (reg := true) hc hl d i s (P1 u) x i1_ h0 (.inr ?_)
        by_cases hn : s + x - rd a (i : Int) < 0
        · exact .inl hn
        · right
          have hrT := rest_T hc T hT (i + 1)
          have hb : (a.drop (i + 1)).sum < s + x - rd a (i : Int) := by omega
          exact V_big hc hl d (i + 1) _ _ i2_ hb
      exact ev_neg (by simpa using hin) (hnext acc hs1 (hnone hW).symm)
theorem rest_ev (d i : Nat) (hi : i + (d + 1) = a.length) (s : Int) (hs : 0 ≤ s) (hs2 : s ≤ (T : Int)) (u : Bool) : Ev (fun k => spec_l4Rest.f k a b c e lim (rowP a b c e lim T d (i + 1)) (i : Int) s u) (toS (V a b c e lim true (d + 1) i s (P1 u))) := by
  have ha := case_at hc hl i (by omega)
  unfold spec_l4Rest.f
  exact rest_l0 hc hl T hT d i hi s hs hs2 u (rd lim (i : Int) + 1).toNat 0 1099511627776 (Int.le_refl 0) (by omega) (.inl rfl) rfl
theorem pairs_l2 (d i : Nat) (hi : i + (d + 1) = a.length) (tl : List (List S45)) (htl : tl.length ≤ 20) (r : List (List S45)) (h : Ev (fun k => spec_l4Pairs.l1 k lim (T : Int) (rowP a b c e lim T (d + 1) i :: rowP a b c e lim T d (i + 1) :: tl) ((i : Int) - 1) a b c e) r) (m : Nat) : ∀ s : Nat, s + m = T + 1 →
    Ev (fun k => spec_l4Pairs.l2 k lim (T : Int) (rowP a b c e lim T d (i + 1) :: tl) (i : Int) ((List.range s).map fun s : Nat => (⟨toS (V a b c e lim true (d + 1) i (s : Int) 0), toS (V a b c e lim true (d + 1) i (s : Int) 1)⟩ : S45)) (s : Int) a b c e) r := by
  have h8 := hc.1
  have hsum := rest_in hc 0
  rw [List.drop_zero] at hsum
  have hlen : ∀ (xs : List S45) (ys : List (List S45)), rd_L2 (xs :: ys) 0 = xs := fun _ _ => rfl
  induction m with
  | zero =>
    intro s hs
    refine ev_succ ?_
    simp only [spec_l4Pairs.l2, Option.bind_some]
    rw [show wrap64 ((i : Int) - 1) = (i : Int) - 1 from wid (by omega) (by omega), show s = T + 1 by omega]
    exact ev_neg (by omega) (ev_pos (by simp only [List.length_cons, List.length_nil]; omega) h)
  | succ m ih =>
    intro s hs
    have g0 : (0 : Int) ≤ (s : Int) := Int.natCast_nonneg _
    have g1 : (s : Int) ≤ (T : Int) := by omega
    have g2 : wrap64 ((s : Int) + 1) = ((s + 1 : Nat) : Int) := by rw [wid (by omega) (by omega)]; omega
    have g3 : ((List.range s).map fun s : Nat => (⟨toS (V a b c e lim true (d + 1) i (s : Int) 0), toS (V a b c e lim true (d + 1) i (s : Int) 1)⟩ : S45)).length < 8796093022208 := by
      rw [List.length_map, List.length_range]
      omega
    have g4 : 0 < ((rowP a b c e lim T d (i + 1) :: tl).length : Int) := by rw [List.length_cons]; omega
    refine ev_succ ?_
    simp only [spec_l4Pairs.l2, hlen, g2]
    refine ev_pos g1 (ev_pos g4 (ev_bind (rest_ev hc hl T hT d i hi (s : Int) g0 g1 false) (ev_bind (rest_ev hc hl T hT d i hi (s : Int) g0 g1 true) (ev_pos g3 ?_))))
    have := ih (s + 1) (by omega)
    rw [List.range_succ, List.map_append, List.map_cons, List.map_nil] at this
    exact this
theorem pairs_l1 : ∀ i d : Nat, i + d = a.length → Ev (fun k => spec_l4Pairs.l1 k lim (T : Int) (tabP a b c e lim T d i) ((i : Int) - 1) a b c e) (tabP a b c e lim T a.length 0) := by
  intro i
  induction i with
  | zero =>
    intro d hd
    refine ev_succ ?_
    simp only [spec_l4Pairs.l1]
    rw [show d = a.length by omega]
    exact ev_neg (by omega) (ev_some _)
  | succ i ih =>
    intro d hd
    obtain ⟨tl, h1, h2⟩ := tabP_cons a b c e lim T d (i + 1)
    have h8 := hc.1
    refine ev_succ ?_
    simp only [spec_l4Pairs.l1]
    rw [h1, show ((i + 1 : Nat) : Int) - 1 = (i : Int) by omega]
    refine ev_pos (by omega) ?_
    have := ih (d + 1) (by omega)
    rw [show tabP a b c e lim T (d + 1) i = rowP a b c e lim T (d + 1) i :: tabP a b c e lim T d (i + 1) from rfl, h1] at this
    exact pairs_l2 hc hl T hT d i (by omega) tl (by omega) _ this (T + 1) 0 (by omega)
theorem pairs_l0 (m : Nat) : ∀ j : Nat, 1 ≤ j → j + m = T + 1 →
    Ev (fun k => spec_l4Pairs.l0 k lim (T : Int) ((List.range j).map fun s : Nat => (⟨toS (V a b c e lim true 0 a.length (s : Int) 0), toS (V a b c e lim true 0 a.length (s : Int) 1)⟩ : S45)) (j : Int) a b c e) (tabP a b c e lim T a.length 0) := by
  have hsum := rest_in hc 0
  rw [List.drop_zero] at hsum
  have h8 := hc.1
  induction m with
  | zero =>
    intro j hj0 hj
    refine ev_succ ?_
    simp only [spec_l4Pairs.l0]
    have := pairs_l1 hc hl T hT a.length 0 (by omega)
    rw [show wrap64 ((a.length : Int) - 1) = (a.length : Int) - 1 from wid (by omega) (by omega), show j = T + 1 by omega]
    exact ev_neg (by omega) this
  | succ m ih =>
    intro j hj0 hj
    refine ev_succ ?_
    simp only [spec_l4Pairs.l0]
    have h1 := ih (j + 1) (by omega) (by omega)
    rw [show wrap64 ((j : Int) + 1) = ((j + 1 : Nat) : Int) by rw [wid (by omega) (by omega)]; omega]
    refine ev_pos (by omega) (ev_pos (by rw [List.length_map, List.length_range]; omega) ?_)
    have e1 : ∀ p : Int, toS (V a b c e lim true 0 a.length (j : Int) p) = -1 := by
      intro p
      rw [toS_none]
      unfold V
      rw [if_neg (by omega)]
    rw [List.range_succ, List.map_append, List.map_cons, List.map_nil, e1, e1] at h1
    exact h1
end
theorem pairs_ev {a b c e lim : List Int} (hc : CaseOk a b c e) (hl : LimOk a lim) : Ev (fun k => spec_l4Pairs.f k a b c e lim) (tabP a b c e lim a.sum.toNat a.length 0) := by
  have hsum := rest_in hc 0
  rw [List.drop_zero] at hsum
  have h8 := hc.1
  have hT : ((a.sum.toNat : Nat) : Int) = a.sum := by omega
  unfold spec_l4Pairs.f
  refine ev_bind (l2Sum_ev a (by omega) (take_sum64 (b := 20) (by decide) (by decide) hc.2.2.2.2.1 (by omega))) ?_
  have h := pairs_l0 hc hl _ hT a.sum.toNat 1 (by omega) (by omega)
  have e1 : ((List.range 1).map fun s : Nat => (⟨toS (V a b c e lim true 0 a.length (s : Int) 0), toS (V a b c e lim true 0 a.length (s : Int) 1)⟩ : S45)) = [⟨0, 0⟩] := by
    have : ∀ p : Int, toS (V a b c e lim true 0 a.length ((0 : Nat) : Int) p) = 0 := by
      intro p
      unfold V
      rw [if_pos (by omega)]
      rfl
    rw [show List.range 1 = [0] from rfl, List.map_cons, List.map_nil, this, this]
  rw [e1, hT] at h
  exact h
section
variable {a b c e lim : List Int} (hc : CaseOk a b c e) (hl : LimOk a lim) (T : Nat) (hT : (T : Int) = a.sum)
include hc hl hT
theorem reg_l1 (d i : Nat) (hi : i + (d + 1) = a.length) (s : Int) (u : Bool) (hs : 0 ≤ s) (hs2 : s ≤ (T : Int)) (hV : V a b c e lim true (d + 1) i s (P1 u) ≠ 1099511627776) (acc : List Int) (hacc : acc.length ≤ 20) (r : List Int × Bool) (m : Nat) : ∀ x : Int, 0 ≤ x → 0 ≤ s + x - rd a (i : Int) → x + (m : Int) = rd lim (i : Int) + 1 → (∃ y, x ≤ y ∧ y < x + (m : Int) ∧ Wx a b c e lim true d i s (P1 u) y = V a b c e lim true (d + 1) i s (P1 u)) →
    (∀ X u', X = firstEq (Wx a b c e lim true d i s (P1 u)) (V a b c e lim true (d + 1) i s (P1 u)) m x → P1 u' = nextP lim i X (P1 u) (s + X - rd a (i : Int)) → Ev (fun k => spec_RegularPlan.l0 k lim (acc ++ [X]) (s + X - rd a (i : Int)) u' (tabP a b c e lim T a.length 0) ((i + 1 : Nat) : Int) a b c e) r) →
    Ev (fun k => spec_RegularPlan.l1 k lim acc s u (tabP a b c e lim T a.length 0) (i : Int) x a b c e) r := by
  have h8 := hc.1
  have hll := hl.1
  have ha := case_at hc hl i (by omega)
  have hsum := rest_in hc 0
  rw [List.drop_zero] at hsum
  have ht1 := tabP_rd a b c e lim T (i + 1) d 0
  rw [show i + 1 + d = a.length by omega, show 0 + (i + 1) = i + 1 by omega] at ht1
  have ht0 := tabP_rd a b c e lim T i (d + 1) 0
  rw [hi, show 0 + i = i by omega] at ht0
  have htl := tabP_len a b c e lim T a.length 0
  have hlr := rowP_len a b c e lim T
  have q0 : (i : Int) < ((tabP a b c e lim T a.length 0).length : Int) := by omega
  have q1 : ((i + 1 : Nat) : Int) < ((tabP a b c e lim T a.length 0).length : Int) := by omega
  have q2 : (i : Int) < (a.length : Int) := by omega
  have q3 : (0 : Int) ≤ (i : Int) := by omega
  have q4 : s < ((rowP a b c e lim T (d + 1) i).length : Int) := by rw [hlr]; omega
  have q5 : acc.length < 17592186044416 := by omega
  have q7 : (i : Int) < (lim.length : Int) := by omega
  have hcost := cost_eq a b c e lim T (d + 1) i s hs hs2
  induction m with
  | zero =>
    intro x h0 hx0 hx hy _
    obtain ⟨y, h1, h2, _⟩ := hy
    omega
  | succ m ih =>
    intro x h0 hx0 hx hy h
    obtain ⟨y, h1, h2, h3⟩ := hy
    have y0 : 0 ≤ y := by omega
    have y1 : y ≤ rd lim (i : Int) := by omega
    have x1_ : x ≤ 160 := by omega
    have i1_ : i < a.length := by omega
    have hwx : wrap64 (x + 1) = x + 1 := wid (by omega) (by omega)
    have hwi : wrap64 ((i : Int) + 1) = ((i + 1 : Nat) : Int) := by rw [wid (by omega) (by omega)]; omega
    have hleft : wrap64 (wrap64 (s + x) - rd a (i : Int)) = s + x - rd a (i : Int) := by rw [wid (x := s + x) (by omega) (by omega), wid (by omega) (by omega)]
    have hgo := hit_go (reg := true) hc hl d i hi s (P1 u) y y0 y1 hV h3
    have hrT := rest_T hc T hT (i + 1)
    have hlT : s + x - rd a (i : Int) ≤ (T : Int) := by have := hgo.2.2.1; omega
    have l2_ : s + x - rd a (i : Int) ≤ 2000 := by omega
    have n0_ : 0 ≤ x + 1 := by omega
    have n1_ : 0 ≤ s + (x + 1) - rd a (i : Int) := by omega
    have n2_ : x + 1 + (m : Int) = rd lim (i : Int) + 1 := by omega
    have hnext : Wx a b c e lim true d i s (P1 u) x ≠ V a b c e lim true (d + 1) i s (P1 u) → Ev (fun k => spec_RegularPlan.l1 k lim acc s u (tabP a b c e lim T a.length 0) (i : Int) (x + 1) a b c e) r := by
      intro q
      have hyx : y ≠ x := fun q2 => q (by rw [← q2]; exact h3)
      refine ih (x + 1) n0_ n1_ n2_ ⟨y, by omega, by omega, h3⟩ fun X u' hX hu => h X u' ?_ hu
      rw [hX]
      conv => rhs; unfold firstEq
      rw [if_neg q]
    refine ev_succ ?_
    simp only [spec_RegularPlan.l1, hleft, hwi, hwx, ht1, ht0, hcost]
    clear ht1 ht0 htl hcost
    refine ev_pos q3 (ev_pos q2 (ev_pos (Int.natCast_nonneg _) (ev_pos q1 ?_)))
    rcases now_cases hc hl T d i hi s x u h0 x1_ hx0 hlT with ⟨e1, e2⟩ | ⟨v, e1, v0, e2, w1, w2⟩
    · rw [e1]
      simp only [Option.bind_some]
      exact ev_neg (by decide) (hnext (by rw [e2]; exact fun q => hV q.symm))
    · rw [e1, l4Step_eq hc hl i i1_ h0 x1_ hx0 l2_, toS_some hV]
      simp only [Option.bind_some]
      rw [← e2, wid (Int.le_trans (by decide) w1) (Int.le_trans w2 (by decide))]
      refine ev_pos v0 (ev_pos q0 (ev_pos hs (ev_pos q4 ?_)))
      by_cases q : Wx a b c e lim true d i s (P1 u) x = V a b c e lim true (d + 1) i s (P1 u)
      · have hX := h x
        have hne := nextP_eq lim i x (s + x - rd a (i : Int)) u hx0
        have hf : x = firstEq (Wx a b c e lim true d i s (P1 u)) (V a b c e lim true (d + 1) i s (P1 u)) (m + 1) x := by unfold firstEq; rw [if_pos q]
        refine ev_pos q ?_
        by_cases hl0 : s + x - rd a (i : Int) > 0
        · refine ev_pos hl0 ?_
          rw [decide_eq_true hl0, Bool.true_and] at hne
          cases u with
          | true => exact ev_pos rfl (ev_pos q5 (hX true hf (by rw [hne]; rfl)))
          | false =>
            refine ev_neg (by simp) ?_
            rw [Bool.false_or] at hne
            by_cases hx1 : x > 0
            · rw [decide_eq_true hx1, Bool.true_and] at hne
              exact ev_pos hx1 (ev_pos q7 (ev_pos q5 (hX _ hf hne.symm)))
            · rw [decide_eq_false hx1, Bool.false_and] at hne
              exact ev_neg hx1 (ev_pos q5 (hX _ hf hne.symm))
        · rw [decide_eq_false hl0, Bool.false_and] at hne
          exact ev_neg hl0 (ev_pos q5 (hX _ hf hne.symm))
      · exact ev_neg q (hnext q)
theorem reg_l0 (d : Nat) : ∀ (i : Nat) (s : Int) (u : Bool) (acc : List Int), i + d = a.length → 0 ≤ s → s ≤ (T : Int) → acc.length = i → V a b c e lim true d i s (P1 u) ≠ 1099511627776 →
    Ev (fun k => spec_RegularPlan.l0 k lim acc s u (tabP a b c e lim T a.length 0) (i : Int) a b c e) (acc ++ planL a b c e lim true d i s (P1 u), true) := by
  have h8 := hc.1
  have hsum := rest_in hc 0
  rw [List.drop_zero] at hsum
  induction d with
  | zero =>
    intro i s u acc hi hs hs2 hacc hV
    refine ev_succ ?_
    simp only [spec_RegularPlan.l0, planL, List.append_nil]
    exact ev_neg (by omega) (ev_some _)
  | succ d ih =>
    intro i s u acc hi hs hs2 hacc hV
    have ha := case_at hc hl i (by omega)
    have hb := best_hit d i hi s (P1 u) hV
    have hf := firstEq_in _ _ _ _ hb
    have hlow : ∀ y : Int, 0 ≤ y → s + y - rd a (i : Int) < 0 → Wx a b c e lim true d i s (P1 u) y ≠ V a b c e lim true (d + 1) i s (P1 u) := fun y y0 y1 q => hV (q ▸ Wx_none (reg := true) hc hl d i s (P1 u) y (by omega) y0 (.inr (.inl y1)))
    have hm : spec_l1Most.f (wrap64 (rd a (i : Int) - s)) 0 = some (((rd a (i : Int) - s).toNat : Nat) : Int) := by
      unfold spec_l1Most.f
      rw [wid (by omega) (by omega)]
      split
      · congr 1; omega
      · congr 1; omega
    refine ev_succ ?_
    simp only [spec_RegularPlan.l0, hm, Option.bind_some]
    obtain ⟨y, hy1, hy2, hy3⟩ := hb
    have hyl : 0 ≤ s + y - rd a (i : Int) := Int.not_lt.mp fun q => hlow y hy1 q hy3
    refine ev_pos (by omega) (ev_pos (by omega) ?_)
    have hsk := firstEq_skip (Wx a b c e lim true d i s (P1 u)) (V a b c e lim true (d + 1) i s (P1 u)) (rd a (i : Int) - s).toNat ((rd lim (i : Int) + 1).toNat - (rd a (i : Int) - s).toNat) 0 fun z z0 z1 => hlow z z0 (by omega)
    rw [show (rd a (i : Int) - s).toNat + ((rd lim (i : Int) + 1).toNat - (rd a (i : Int) - s).toNat) = (rd lim (i : Int) + 1).toNat by omega, show (0 : Int) + (((rd a (i : Int) - s).toNat : Nat) : Int) = (((rd a (i : Int) - s).toNat : Nat) : Int) by omega] at hsk
    refine reg_l1 hc hl T hT d i hi s u hs hs2 hV acc (by omega) _ ((rd lim (i : Int) + 1).toNat - (rd a (i : Int) - s).toNat) _ (by omega) (by omega) (by omega) ⟨y, by omega, by omega, hy3⟩ fun X u' hX hu => ?_
    rw [← hsk] at hX
    subst hX
    obtain ⟨c1, c2, c3, c4⟩ := hit_go hc hl d i hi s (P1 u) _ hf.1 (by omega) hV hf.2.2
    have hrT := rest_T hc T hT (i + 1)
    rw [← hu] at c4
    refine ev_cast (ih (i + 1) _ u' _ (by omega) c2 (by omega) (by rw [List.length_append, List.length_cons, List.length_nil, hacc]) c4) ?_
    rw [hu]
    conv => rhs; unfold planL bestX
    rw [List.append_assoc, List.singleton_append]
end
/-- The numbers from a on. -/
def asc (a : Int) (n : Nat) : List Int := (List.range n).map fun i => a + ((i : Nat) : Int)
theorem asc_length (a : Int) (n : Nat) : (asc a n).length = n := by simp [asc]
theorem asc_succ (a : Int) (n : Nat) : asc a (n + 1) = asc a n ++ [a + (n : Int)] := by simp [asc, List.range_succ]
theorem rd_asc (a : Int) (n i : Nat) (h : i < n) : rd (asc a n) (i : Int) = a + (i : Int) := by
  rw [rd_nat _ _ (by rw [asc_length]; exact h)]
  simp [asc]
theorem mark_l0 (n : Nat) (a : Int) (h0 : 0 ≤ a) (hn : n ≤ 35184372088832) (ha : a ≤ 35184372088832) (d : Nat) : ∀ (i : Nat) (ys : List Int), i + d = n → ys.length = n → ys.take i = asc a i →
    Ev (fun k => laws_markIntS.l0 k ys (a + (i : Int)) (i : Int)) (a + (n : Int), asc a n) := by
  induction d with
  | zero =>
    intro i ys hi hl ht
    refine ev_succ ?_
    simp only [laws_markIntS.l0]
    refine ev_neg (by omega) (ev_cast (ev_some _) ?_)
    rw [List.take_of_length_le (by omega)] at ht
    rw [ht, show i = n by omega]
  | succ d ih =>
    intro i ys hi hl ht
    refine ev_succ ?_
    simp only [laws_markIntS.l0]
    have hw : wrap64 ((i : Int) + 1) = ((i + 1 : Nat) : Int) := by rw [wid (by omega) (by omega)]; omega
    have hw2 : wrap64 (a + (i : Int) + 1) = a + ((i + 1 : Nat) : Int) := by rw [wid (by omega) (by omega)]; omega
    rw [hw, hw2]
    refine ev_pos (by omega) (ev_pos (by omega) (ih (i + 1) _ (by omega) (by simpa using hl) ?_))
    rw [Int.toNat_natCast, List.take_succ_eq_append_getElem (by simp; omega), List.getElem_set_self, List.take_set_of_le (by omega), ht, asc_succ]
theorem mark_ev (ys : List Int) (a : Int) (h0 : 0 ≤ a) (hn : ys.length ≤ 35184372088832) (ha : a ≤ 35184372088832) : Ev (fun k => laws_markIntS.f k ys a) (a + (ys.length : Int), asc a ys.length) := by
  unfold laws_markIntS.f
  have := mark_l0 ys.length a h0 hn ha ys.length 0 ys (by omega) rfl rfl
  simpa using this
theorem held_l0 (n : Nat) (a : Int) (h0 : 0 ≤ a) (hn : n ≤ 35184372088832) (ha : a ≤ 35184372088832) (d : Nat) : ∀ (i : Nat), i + d = n →
    Ev (fun k => laws_heldIntS.l0 k (asc a n) (a + (i : Int)) (i : Int)) (a + (n : Int)) := by
  induction d with
  | zero =>
    intro i hi
    refine ev_succ ?_
    simp only [laws_heldIntS.l0, asc_length]
    refine ev_neg (by omega) (ev_cast (ev_some _) ?_)
    rw [show i = n by omega]
  | succ d ih =>
    intro i hi
    refine ev_succ ?_
    simp only [laws_heldIntS.l0, asc_length]
    have hw : wrap64 ((i : Int) + 1) = ((i + 1 : Nat) : Int) := by rw [wid (by omega) (by omega)]; omega
    have hw2 : wrap64 (a + (i : Int) + 1) = a + ((i + 1 : Nat) : Int) := by rw [wid (by omega) (by omega)]; omega
    rw [hw, hw2, rd_asc a n i (by omega)]
    exact ev_pos (by omega) (ev_pos (by omega) (ev_pos rfl (ih (i + 1) (by omega))))
theorem held_ev (a : Int) (n : Nat) (h0 : 0 ≤ a) (hn : n ≤ 35184372088832) (ha : a ≤ 35184372088832) : Ev (fun k => laws_heldIntS.f k (asc a n) a) (a + (n : Int)) := by
  unfold laws_heldIntS.f
  have := held_l0 n a h0 hn ha n 0 (by omega)
  simpa using this
theorem markCase_ev (a b c e : List Int) (ha : a.length ≤ 1048576) (hb : b.length ≤ 1048576) (hc : c.length ≤ 1048576) (he : e.length ≤ 1048576) :
    Ev (fun k => laws_markCase.f k a b c e 1) (1 + (a.length : Int) + b.length + c.length + e.length, asc 1 a.length, asc (1 + (a.length : Int)) b.length, asc (1 + (a.length : Int) + b.length) c.length, asc (1 + (a.length : Int) + b.length + c.length) e.length) := by
  unfold laws_markCase.f
  refine ev_bind (mark_ev a 1 (by omega) (by omega) (by omega)) ?_
  refine ev_bind (mark_ev b (1 + (a.length : Int)) (by omega) (by omega) (by omega)) ?_
  refine ev_bind (mark_ev c (1 + (a.length : Int) + b.length) (by omega) (by omega) (by omega)) ?_
  exact ev_bind (mark_ev e (1 + (a.length : Int) + b.length + c.length) (by omega) (by omega) (by omega)) (ev_some _)

def ans (a b c e lim : List Int) : List Int × Bool := if MeetOk a b c e lim then (planL a b c e lim true a.length 0 0 0, true) else ([], false)
section
variable (a b c e lim : List Int) (h0 : a.length ≤ 35184372088832) (h1 : b.length ≤ 35184372088832) (h2 : c.length ≤ 35184372088832) (h3 : e.length ≤ 35184372088832) (hp : lim.length ≤ 35184372088832)
include h0 h1 h2 h3 hp
theorem spec_ans : Ev (fun k => spec_RegularPlan.f k a b c e lim) (ans a b c e lim) := by
  unfold spec_RegularPlan.f ans
  simp only [Option.bind_some]
  refine ev_bind (l4Can_ev a b c e lim h0 h1 h2 h3 hp) ?_
  by_cases h : MeetOk a b c e lim
  · have hsum := rest_in h.1 0
    rw [List.drop_zero] at hsum
    rw [if_pos h]
    refine ev_pos (decide_eq_true h) (ev_bind (pairs_ev h.1 h.2.1) ?_)
    exact reg_l0 h.1 h.2.1 a.sum.toNat (by omega) a.length 0 0 false [] (by omega) (Int.le_refl 0) (by omega) rfl (V_can h)
  · rw [if_neg h]
    exact ev_neg (by simpa using h) (ev_some _)
theorem impl_ans : Ev (fun k => impl_RegularPlan.f k a b c e lim) (ans a b c e lim) := by
  unfold impl_RegularPlan.f ans
  refine ev_bind (limitedPlan_ev a b c e lim h0 h1 h2 h3 hp true) (ev_cast (ev_some _) ?_)
  unfold ansP
  by_cases h : MeetOk a b c e lim
  · rw [if_pos h, if_pos h]
  · rw [if_neg h, if_neg h]
omit h0 h1 h2 h3 hp in
theorem ans_len : (ans a b c e lim).1.length ≤ a.length := by
  unfold ans
  split
  · rw [planL_len]; exact Nat.le_refl _
  · exact Nat.zero_le _
end
theorem FnExactRegularPlan (l0_0 : List Int) (l0_1 : List Int) (l0_2 : List Int) (l0_3 : List Int) (l1 : List Int) (hl0_0 : l0_0.length ≤ maxLen) (hw0_0 : ∀ x ∈ l0_0, (Lit.int .i64 x).wf = true) (hl0_1 : l0_1.length ≤ maxLen) (hw0_1 : ∀ x ∈ l0_1, (Lit.int .i64 x).wf = true) (hl0_2 : l0_2.length ≤ maxLen) (hw0_2 : ∀ x ∈ l0_2, (Lit.int .i64 x).wf = true) (hl0_3 : l0_3.length ≤ maxLen) (hw0_3 : ∀ x ∈ l0_3, (Lit.int .i64 x).wf = true) (hl1 : l1.length ≤ maxLen) (hw1 : ∀ x ∈ l1, (Lit.int .i64 x).wf = true) :
    ∃ k, laws_FnExactRegularPlan.f k l0_0 l0_1 l0_2 l0_3 l1 = some true := by
  refine Ev.rounds ?_
  unfold laws_FnExactRegularPlan.f
  by_cases c0 : (l1.length : Int) > 1048576
  · exact ev_pos c0 (ev_some _)
  refine ev_neg c0 ?_
  obtain ⟨r, hr, hz⟩ := szCase_eq l0_0 l0_1 l0_2 l0_3 1048576 (by omega) (by omega) hl0_0 hl0_1 hl0_2 hl0_3
  simp only [hr, Option.bind_some]
  by_cases c : r < 0
  · exact ev_pos c (ev_some _)
  have hz := hz (by omega)
  have s0 : l0_0.length ≤ 1048576 := by omega
  have s1 : l0_1.length ≤ 1048576 := by omega
  have s2 : l0_2.length ≤ 1048576 := by omega
  have s3 : l0_3.length ≤ 1048576 := by omega
  have s4 : l1.length ≤ 1048576 := by omega
  have h0 : l0_0.length ≤ 35184372088832 := by omega
  have h1 : l0_1.length ≤ 35184372088832 := by omega
  have h2 : l0_2.length ≤ 35184372088832 := by omega
  have h3 : l0_3.length ≤ 35184372088832 := by omega
  have hp : l1.length ≤ 35184372088832 := by omega
  have hto := toCase_ev l0_0 l0_1 l0_2 l0_3 h0 h1 h2 h3
  have hpl := toIntS_ev l1 hp
  have hS := spec_ans l0_0 l0_1 l0_2 l0_3 l1 h0 h1 h2 h3 hp
  have hI := impl_ans l0_0 l0_1 l0_2 l0_3 l1 h0 h1 h2 h3 hp
  have hL := ans_len l0_0 l0_1 l0_2 l0_3 l1
  generalize ans l0_0 l0_1 l0_2 l0_3 l1 = A at hS hI hL
  obtain ⟨l, o⟩ := A
  simp only at hL
  have h5 : l.length ≤ 35184372088832 := by omega
  have hE := eqIntS_ev l l h5
  have hm := markCase_ev l0_0 l0_1 l0_2 l0_3 s0 s1 s2 s3
  have hm1 := mark_ev l1 (1 + (l0_0.length : Int) + l0_1.length + l0_2.length + l0_3.length) (by omega) hp (by omega)
  have hm3 := mark_ev l 1 (by omega) h5 (by omega)
  have hh := held_ev 1 l.length (by omega) h5 (by omega)
  have g1 : ¬ (1 + (l0_0.length : Int) + l0_1.length + l0_2.length + l0_3.length + l1.length < 0) := by omega
  have g2 : ¬ (1 + (l.length : Int) < 0) := by omega
  refine ev_neg c (ev_bind hto (ev_bind hpl (ev_bind hS (ev_bind hto (ev_bind hpl (ev_bind hI (ev_bind hE (ev_pos (by simp) (ev_neg (by simp) ?_)))))))))
  refine ev_bind hto (ev_bind (eqCase_ev l0_0 l0_1 l0_2 l0_3 h0 h1 h2 h3) (ev_pos rfl (ev_bind hpl (ev_bind (eqIntS_ev l1 l1 hp) (ev_pos (by simp) ?_)))))
  refine ev_bind hm (ev_bind hm1 (ev_neg g1 (ev_bind hE (ev_pos (by simp) (ev_bind hm3 (ev_bind hh (ev_neg g2 (ev_pos rfl ?_))))))))
  exact ev_bind hto (ev_bind hpl (ev_bind hI (ev_bind hE (ev_pos (by simp) (ev_neg (by simp) (ev_bind hh (ev_neg g2 (ev_pos rfl (ev_some _)))))))))

end Go.Proofs.Ytaejjkgbcajhoaa.Pure
