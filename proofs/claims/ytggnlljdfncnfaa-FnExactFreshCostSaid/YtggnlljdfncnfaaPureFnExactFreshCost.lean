/- The program's FreshCost and the reference's find the same least rates and add the same costs. No conditions. -/
import Derived.Test.YtggnlljdfncnfaaKit
import Derived.Test.YtggnlljdfncnfaaXFnExactFreshCostx5
namespace Go.Proofs.Ytggnlljdfncnfaa.Pure
set_option linter.unusedVariables false
open Go.RowKit Go.Proofs.Ytggnlljdfncnfaa.PFnExactFreshCost Go.Proofs.YtggnlljdfncnfaaW.PrintWords Go.Proofs.YtggnlljdfncnfaaW.PrintLast Go.Proofs.YtggnlljdfncnfaaW.PrintMore Go.Proofs.Ytggnlljdfncnfaa.Kit

theorem in_eq (a b c : Int) : spec_l1In.f a b c = some (decide (b ≤ a ∧ a ≤ c)) := by
  unfold spec_l1In.f
  by_cases h : b ≤ a <;> simp [h]
theorem within_eq (a b c : Int) : impl_within.f a b c = some (decide (b ≤ a ∧ a ≤ c)) := by
  unfold impl_within.f
  by_cases h : b ≤ a <;> simp [h]
theorem toIntS_l0 (xs : List Int) (hn : xs.length ≤ 35184372088832) (d : Nat) : ∀ (i : Nat) (ys : List Int), i + d = xs.length → ys.length = xs.length → ys.take i = xs.take i →
    Ev (fun k => laws_toIntS.l0 k xs ys (i : Int)) xs := by
  induction d with
  | zero =>
    intro i ys hi hl ht
    refine ev_succ ?_
    simp only [laws_toIntS.l0]
    refine ev_neg (by omega) ?_
    rw [List.take_of_length_le (by omega), List.take_of_length_le (by omega)] at ht
    rw [ht]
    exact ev_some _
  | succ d ih =>
    intro i ys hi hl ht
    refine ev_succ ?_
    simp only [laws_toIntS.l0]
    refine ev_pos (by omega) (ev_pos (by omega) (ev_pos (by omega) ?_))
    have hw : wrap64 ((i : Int) + 1) = ((i + 1 : Nat) : Int) := by rw [wid (by omega) (by omega)]; omega
    rw [hw]
    refine ih (i + 1) _ (by omega) (by simpa using hl) ?_
    rw [rd_nat xs i (by omega), Int.toNat_natCast, List.take_succ_eq_append_getElem (by simp; omega), List.take_succ_eq_append_getElem (by omega), List.getElem_set_self, List.take_set_of_le (by omega), ht]
theorem toIntS_ev (xs : List Int) (hn : xs.length ≤ 35184372088832) : Ev (fun k => laws_toIntS.f k xs) xs := by
  unfold laws_toIntS.f
  refine ev_pos (by omega) (ev_pos (by omega) ?_)
  exact toIntS_l0 xs hn xs.length 0 _ (by omega) (by simp) rfl
theorem eqIntS_l0 (xs ys : List Int) (hn : xs.length ≤ 35184372088832) (hl : ys.length = xs.length) (d : Nat) : ∀ (i : Nat), i + d = xs.length →
    Ev (fun k => laws_eqIntS.l0 k xs ys (i : Int)) (decide (xs.drop i = ys.drop i)) := by
  induction d with
  | zero =>
    intro i hi
    refine ev_succ ?_
    simp only [laws_eqIntS.l0]
    refine ev_neg (by omega) ?_
    rw [List.drop_of_length_le (by omega), List.drop_of_length_le (by omega)]
    exact ev_some _
  | succ d ih =>
    intro i hi
    refine ev_succ ?_
    simp only [laws_eqIntS.l0]
    refine ev_pos (by omega) (ev_pos (by omega) (ev_pos (by omega) ?_))
    have hw : wrap64 ((i : Int) + 1) = ((i + 1 : Nat) : Int) := by rw [wid (by omega) (by omega)]; omega
    rw [hw, drop_rd xs i (by omega), drop_rd ys i (by omega)]
    by_cases h : rd xs i = rd ys i
    · refine ev_pos h (ev_cast (ih (i + 1) (by omega)) ?_)
      simp [h]
    · refine ev_neg h (ev_cast (ev_some false) ?_)
      simp [h]
theorem eqIntS_ev (xs ys : List Int) (hn : xs.length ≤ 35184372088832) : Ev (fun k => laws_eqIntS.f k xs ys) (decide (xs = ys)) := by
  unfold laws_eqIntS.f
  by_cases h : xs.length = ys.length
  · refine ev_pos (by omega) (ev_cast (eqIntS_l0 xs ys hn h.symm xs.length 0 (by omega)) (by simp))
  · refine ev_neg (by omega) (ev_cast (ev_some false) ?_)
    have : xs ≠ ys := fun e => h (by rw [e])
    simp [this]
theorem allWithin_l0 (lo up : Int) (xs : List Int) (hn : xs.length ≤ 35184372088832) (d : Nat) : ∀ (i : Nat), i + d = xs.length →
    Ev (fun k => impl_allWithin.l0 k lo up xs (xs.length : Int) (i : Int)) (decide (∀ x ∈ xs.drop i, lo ≤ x ∧ x ≤ up)) := by
  induction d with
  | zero =>
    intro i hi
    refine ev_succ ?_
    simp only [impl_allWithin.l0]
    refine ev_neg (by omega) ?_
    rw [List.drop_of_length_le (by omega)]
    exact ev_cast (ev_some true) (by simp)
  | succ d ih =>
    intro i hi
    refine ev_succ ?_
    simp only [impl_allWithin.l0, within_eq, Option.bind_some]
    refine ev_pos (by omega) (ev_pos (by omega) (ev_pos (by omega) ?_))
    have hw : wrap64 ((i : Int) + 1) = ((i + 1 : Nat) : Int) := by rw [wid (by omega) (by omega)]; omega
    rw [hw, drop_rd xs i (by omega)]
    by_cases h : lo ≤ rd xs i ∧ rd xs i ≤ up
    · refine ev_pos (by simpa using h) (ev_cast (ih (i + 1) (by omega)) ?_)
      simp [h]
    · refine ev_neg (by simpa using h) (ev_cast (ev_some false) ?_)
      symm
      simp only [decide_eq_false_iff_not, List.mem_cons]
      exact fun hh => h (hh _ (Or.inl rfl))
theorem allWithin_ev (xs : List Int) (lo hi : Int) (hn : xs.length ≤ 35184372088832) : Ev (fun k => impl_allWithin.f k xs lo hi) (decide (∀ x ∈ xs, lo ≤ x ∧ x ≤ hi)) := by
  unfold impl_allWithin.f
  exact allWithin_l0 lo hi xs hn xs.length 0 (by omega)
theorem l2Row_l0 (n up : Int) (xs : List Int) (hn : xs.length ≤ 35184372088832) (d : Nat) : ∀ (i : Nat), i + d = xs.length →
    Ev (fun k => spec_l2Row.l0 k xs n up (i : Int)) (decide ((∀ x ∈ xs.drop i, 0 ≤ x ∧ x ≤ up) ∧ (xs.length : Int) = n)) := by
  induction d with
  | zero =>
    intro i hi
    refine ev_succ ?_
    simp only [spec_l2Row.l0]
    refine ev_neg (by omega) ?_
    rw [List.drop_of_length_le (by omega)]
    refine ev_cast (ev_some _) ?_
    rw [Bool.eq_iff_iff]
    simp
  | succ d ih =>
    intro i hi
    refine ev_succ ?_
    simp only [spec_l2Row.l0, in_eq, Option.bind_some]
    refine ev_pos (by omega) (ev_pos (by omega) ?_)
    have hw : wrap64 ((i : Int) + 1) = ((i + 1 : Nat) : Int) := by rw [wid (by omega) (by omega)]; omega
    rw [hw, drop_rd xs i (by omega)]
    by_cases h : 0 ≤ rd xs i ∧ rd xs i ≤ up
    · refine ev_pos (by simpa using h) (ev_cast (ih (i + 1) (by omega)) ?_)
      simp [h]
    · refine ev_neg (by simpa using h) (ev_cast (ev_some false) ?_)
      symm
      simp only [decide_eq_false_iff_not, List.mem_cons]
      exact fun hh => h (hh.1 _ (Or.inl rfl))
theorem l2Row_ev (xs : List Int) (n up : Int) (hn : xs.length ≤ 35184372088832) : Ev (fun k => spec_l2Row.f k xs n up) (decide ((∀ x ∈ xs, 0 ≤ x ∧ x ≤ up) ∧ (xs.length : Int) = n)) := by
  unfold spec_l2Row.f
  exact l2Row_l0 n up xs hn xs.length 0 (by omega)
theorem szIntS_eq (xs : List Int) (a : Int) (h0 : 0 ≤ a) (h1 : a ≤ 1048576) (hl : xs.length ≤ maxLen) : laws_szIntS.f xs a = some (if a - (xs.length : Int) < 0 then -1 else a - (xs.length : Int)) := by
  unfold maxLen at hl
  unfold laws_szIntS.f
  rw [wid (by omega) (by omega)]
  split <;> rfl
theorem rd_in {xs : List Int} {lo up : Int} (h : ∀ x ∈ xs, lo ≤ x ∧ x ≤ up) (i : Nat) (hi : i < xs.length) : lo ≤ rd xs (i : Int) ∧ rd xs (i : Int) ≤ up := by
  rw [rd_nat xs i hi]
  exact h _ (List.getElem_mem _)
theorem szCase_eq (a b c e : List Int) (n : Int) (h0 : 0 ≤ n) (h1 : n ≤ 1048576) (ha : a.length ≤ maxLen) (hb : b.length ≤ maxLen) (hc : c.length ≤ maxLen) (he : e.length ≤ maxLen) :
    ∃ r, laws_szCase.f a b c e n = some r ∧ (0 ≤ r → r = n - a.length - b.length - c.length - e.length) := by
  unfold laws_szCase.f
  rw [szIntS_eq a n h0 h1 ha]
  simp only [Option.bind_some]
  by_cases c1 : n - (a.length : Int) < 0
  · rw [if_pos c1, if_pos (by omega)]
    exact ⟨_, rfl, by omega⟩
  rw [if_neg c1, if_neg c1, szIntS_eq b _ (by omega) (by omega) hb]
  simp only [Option.bind_some]
  by_cases c2 : n - (a.length : Int) - (b.length : Int) < 0
  · rw [if_pos c2, if_pos (by omega)]
    exact ⟨_, rfl, by omega⟩
  rw [if_neg c2, if_neg c2, szIntS_eq c _ (by omega) (by omega) hc]
  simp only [Option.bind_some]
  by_cases c3 : n - (a.length : Int) - (b.length : Int) - (c.length : Int) < 0
  · rw [if_pos c3, if_pos (by omega)]
    exact ⟨_, rfl, by omega⟩
  rw [if_neg c3, if_neg c3, szIntS_eq e _ (by omega) (by omega) he]
  simp only [Option.bind_some]
  by_cases c4 : n - (a.length : Int) - (b.length : Int) - (c.length : Int) - (e.length : Int) < 0
  · rw [if_pos c4, if_pos (by omega)]
    exact ⟨_, rfl, by omega⟩
  rw [if_neg c4, if_neg c4]
  exact ⟨_, rfl, fun _ => rfl⟩
theorem toCase_ev (a b c e : List Int) (ha : a.length ≤ 35184372088832) (hb : b.length ≤ 35184372088832) (hc : c.length ≤ 35184372088832) (he : e.length ≤ 35184372088832) : Ev (fun k => laws_toCase.f k a b c e) (a, b, c, e) := by
  unfold laws_toCase.f
  exact ev_bind (toIntS_ev a ha) (ev_bind (toIntS_ev b hb) (ev_bind (toIntS_ev c hc) (ev_bind (toIntS_ev e he) (ev_some _))))
theorem eqCase_ev (a b c e : List Int) (ha : a.length ≤ 35184372088832) (hb : b.length ≤ 35184372088832) (hc : c.length ≤ 35184372088832) (he : e.length ≤ 35184372088832) : Ev (fun k => laws_eqCase.f k a b c e a b c e) true := by
  unfold laws_eqCase.f
  exact ev_bind (eqIntS_ev a a ha) (ev_pos (by simp) (ev_bind (eqIntS_ev b b hb) (ev_pos (by simp) (ev_bind (eqIntS_ev c c hc) (ev_pos (by simp) (ev_bind (eqIntS_ev e e he) (ev_pos (by simp) (ev_some _))))))))

/-- What a valid case is. -/
def CaseOk (a b c e : List Int) : Prop :=
  (a.length : Int) ≤ 8 ∧ (b.length : Int) = (a.length : Int) ∧ (c.length : Int) = (a.length : Int) ∧ (e.length : Int) = (a.length : Int) ∧ (∀ x ∈ a, 0 ≤ x ∧ x ≤ 20) ∧ (∀ x ∈ b, 0 ≤ x ∧ x ≤ 99) ∧ (∀ x ∈ c, 0 ≤ x ∧ x ≤ 9) ∧ (∀ x ∈ e, 0 ≤ x ∧ x ≤ 9)
instance (a b c e : List Int) : Decidable (CaseOk a b c e) := by unfold CaseOk; infer_instance
theorem implCase_ev (a b c e : List Int) (ha : a.length ≤ 35184372088832) (hb : b.length ≤ 35184372088832) (hc : c.length ≤ 35184372088832) (he : e.length ≤ 35184372088832) : Ev (fun k => impl_IsCase.f k a b c e) (decide (CaseOk a b c e)) := by
  unfold impl_IsCase.f CaseOk
  exact ev_andp fun _ => ev_andp fun _ => ev_andp fun _ => ev_andp fun _ => ev_bind (allWithin_ev a 0 20 ha) (ev_and rfl fun _ => ev_bind (allWithin_ev b 0 99 hb) (ev_and rfl fun _ => ev_bind (allWithin_ev c 0 9 hc) (ev_and rfl fun _ => ev_bind (allWithin_ev e 0 9 he) (ev_some _))))
theorem specCase_ev (a b c e : List Int) (ha : a.length ≤ 35184372088832) (hb : b.length ≤ 35184372088832) (hc : c.length ≤ 35184372088832) (he : e.length ≤ 35184372088832) : Ev (fun k => spec_l2Good.f k a b c e) (decide (CaseOk a b c e)) := by
  unfold spec_l2Good.f
  refine ev_dec (P := (a.length : Int) ≤ 8 ∧ ((∀ x ∈ a, 0 ≤ x ∧ x ≤ 20) ∧ (a.length : Int) = a.length) ∧ ((∀ x ∈ b, 0 ≤ x ∧ x ≤ 99) ∧ (b.length : Int) = a.length) ∧ ((∀ x ∈ c, 0 ≤ x ∧ x ≤ 9) ∧ (c.length : Int) = a.length) ∧ ((∀ x ∈ e, 0 ≤ x ∧ x ≤ 9) ∧ (e.length : Int) = a.length)) ?_ ?_
  · exact ev_andp fun _ => ev_bind (l2Row_ev a _ 20 ha) (ev_and rfl fun _ => ev_bind (l2Row_ev b _ 99 hb) (ev_and rfl fun _ => ev_bind (l2Row_ev c _ 9 hc) (ev_and rfl fun _ => ev_bind (l2Row_ev e _ 9 he) (ev_some _))))
  · unfold CaseOk
    constructor
    · rintro ⟨h, ⟨p1, _⟩, ⟨p2, q2⟩, ⟨p3, q3⟩, p4, q4⟩
      exact ⟨h, q2, q3, q4, p1, p2, p3, p4⟩
    · rintro ⟨h, q2, q3, q4, p1, p2, p3, p4⟩
      exact ⟨h, ⟨p1, rfl⟩, ⟨p2, q2⟩, ⟨p3, q3⟩, p4, q4⟩
theorem total_l0 (xs : List Int) (hn : xs.length ≤ 35184372088832) (hs : ∀ i, -9223372036854775808 ≤ (xs.take i).sum ∧ (xs.take i).sum ≤ 9223372036854775807) (d : Nat) : ∀ (i : Nat), i + d = xs.length →
    Ev (fun k => impl_total.l0 k (xs.take i).sum xs (xs.length : Int) (i : Int)) xs.sum := by
  induction d with
  | zero =>
    intro i hi
    refine ev_succ ?_
    simp only [impl_total.l0]
    refine ev_neg (by omega) ?_
    rw [List.take_of_length_le (by omega)]
    exact ev_some _
  | succ d ih =>
    intro i hi
    refine ev_succ ?_
    simp only [impl_total.l0]
    refine ev_pos (by omega) (ev_pos (by omega) (ev_pos (by omega) ?_))
    have hw : wrap64 ((i : Int) + 1) = ((i + 1 : Nat) : Int) := by rw [wid (by omega) (by omega)]; omega
    have ht := take_sum_succ xs i (by omega)
    rw [hw, ht, wid (hs _).1 (hs _).2]
    exact ih (i + 1) (by omega)
theorem total_ev (xs : List Int) (hn : xs.length ≤ 35184372088832) (hs : ∀ i, -9223372036854775808 ≤ (xs.take i).sum ∧ (xs.take i).sum ≤ 9223372036854775807) : Ev (fun k => impl_total.f k xs) xs.sum := by
  unfold impl_total.f
  exact total_l0 xs hn hs xs.length 0 (by omega)
/-- A strictly rising list of numbers from 0 to hi, from its place i on. -/
def risB (xs : List Int) (hi : Int) : Nat → Nat → Bool
  | 0, _ => true
  | d + 1, i => if 0 ≤ rd xs (i : Int) ∧ rd xs (i : Int) ≤ hi then (if 0 < i then (if rd xs ((i - 1 : Nat) : Int) ≥ rd xs (i : Int) then false else risB xs hi d (i + 1)) else risB xs hi d (i + 1)) else false
theorem risB_in {xs : List Int} {top : Int} (d : Nat) : ∀ i : Nat, i + d = xs.length → risB xs top d i = true → ∀ j : Nat, i ≤ j → j < xs.length → 0 ≤ rd xs (j : Int) ∧ rd xs (j : Int) ≤ top := by
  induction d with
  | zero => intro i hi h j h1 h2; omega
  | succ d ih =>
    intro i hi h j h1 h2
    simp only [risB] at h
    by_cases c : 0 ≤ rd xs (i : Int) ∧ rd xs (i : Int) ≤ top
    · rw [if_pos c] at h
      by_cases e : j = i
      · subst e
        exact c
      · have q : risB xs top d (i + 1) = true := by
          split at h
          · split at h
            · exact absurd h (by simp)
            · exact h
          · exact h
        exact ih (i + 1) (by omega) q j (by omega) h2
    · rw [if_neg c] at h
      exact absurd h (by simp)
theorem specRising_l0 (xs : List Int) (top : Int) (hn : xs.length ≤ 35184372088832) (d : Nat) : ∀ i : Nat, i + d = xs.length → Ev (fun k => spec_l1Rising.l0 k xs 0 top (i : Int)) (risB xs top d i) := by
  induction d with
  | zero =>
    intro i hi
    refine ev_succ ?_
    simp only [spec_l1Rising.l0, risB]
    exact ev_neg (by omega) (ev_some _)
  | succ d ih =>
    intro i hi
    have hw : wrap64 ((i : Int) + 1) = ((i + 1 : Nat) : Int) := by rw [wid (by omega) (by omega)]; omega
    refine ev_succ ?_
    simp only [spec_l1Rising.l0, in_eq, Option.bind_some, risB]
    rw [hw]
    refine ev_pos (by omega) (ev_pos (by omega) ?_)
    by_cases c : 0 ≤ rd xs (i : Int) ∧ rd xs (i : Int) ≤ top
    · rw [if_pos c]
      refine ev_pos (decide_eq_true c) ?_
      by_cases c2 : 0 < i
      · have hw2 : wrap64 ((i : Int) - 1) = ((i - 1 : Nat) : Int) := by rw [wid (by omega) (by omega)]; omega
        rw [if_pos c2, hw2]
        refine ev_pos (by omega) (ev_pos (by omega) (ev_pos (by omega) ?_))
        by_cases c3 : rd xs ((i - 1 : Nat) : Int) ≥ rd xs (i : Int)
        · rw [if_pos c3]
          exact ev_pos c3 (ev_some _)
        · rw [if_neg c3]
          exact ev_neg c3 (ih (i + 1) (by omega))
      · rw [if_neg c2]
        exact ev_neg (by omega) (ih (i + 1) (by omega))
    · rw [if_neg c]
      exact ev_neg (by rw [decide_eq_true_eq]; exact c) (ev_some _)
theorem specRising_ev (xs : List Int) (top : Int) (hn : xs.length ≤ 35184372088832) : Ev (fun k => spec_l1Rising.f k xs 0 top) (risB xs top xs.length 0) := by
  unfold spec_l1Rising.f
  exact specRising_l0 xs top hn xs.length 0 (by omega)

theorem implPeriods_l0 (a b c e xs : List Int) (h8 : a.length ≤ 1000000) (hn : xs.length ≤ 35184372088832) (d : Nat) : ∀ i : Nat, i + d = xs.length → Ev (fun k => impl_Case_arePeriods.l0 k xs xs (xs.length : Int) (i : Int) a b c e) (risB xs ((a.length : Int) - 1) d i) := by
  have hwn : wrap64 ((a.length : Int) - 1) = (a.length : Int) - 1 := wid (by omega) (by omega)
  induction d with
  | zero =>
    intro i hi
    refine ev_succ ?_
    simp only [impl_Case_arePeriods.l0, risB]
    exact ev_neg (by omega) (ev_some _)
  | succ d ih =>
    intro i hi
    have hw : wrap64 ((i : Int) + 1) = ((i + 1 : Nat) : Int) := by rw [wid (by omega) (by omega)]; omega
    refine ev_succ ?_
    simp only [impl_Case_arePeriods.l0, within_eq, Option.bind_some, risB]
    rw [hw, hwn]
    refine ev_pos (by omega) (ev_pos (by omega) (ev_pos (by omega) ?_))
    by_cases c1 : 0 ≤ rd xs (i : Int) ∧ rd xs (i : Int) ≤ (a.length : Int) - 1
    · rw [if_pos c1]
      refine ev_pos (decide_eq_true c1) ?_
      by_cases c2 : 0 < i
      · have hw2 : wrap64 ((i : Int) - 1) = ((i - 1 : Nat) : Int) := by rw [wid (by omega) (by omega)]; omega
        rw [if_pos c2, hw2]
        refine ev_pos (by omega) (ev_pos (by omega) (ev_pos (by omega) ?_))
        by_cases c3 : rd xs ((i - 1 : Nat) : Int) ≥ rd xs (i : Int)
        · rw [if_pos c3]
          exact ev_pos c3 (ev_some _)
        · rw [if_neg c3]
          exact ev_neg c3 (ih (i + 1) (by omega))
      · rw [if_neg c2]
        exact ev_neg (by omega) (ih (i + 1) (by omega))
    · rw [if_neg c1]
      exact ev_neg (by rw [decide_eq_true_eq]; exact c1) (ev_some _)
/-- The rate from a period to another one. -/
def cutL (e : List Int) (p t : Nat) : List Int := (e.take t).drop p
def rateV (c e : List Int) (p t : Nat) : Int := rd c (p : Int) + (cutL e p t).sum
theorem cutL_in {e : List Int} (he : ∀ x ∈ e, 0 ≤ x ∧ x ≤ 9) (p t : Nat) : ∀ x ∈ cutL e p t, 0 ≤ x ∧ x ≤ 9 := fun x hx => he x (List.mem_of_mem_take (List.mem_of_mem_drop hx))
theorem cutL_len (e : List Int) (p t : Nat) : (cutL e p t).length ≤ e.length := by simp only [cutL, List.length_drop, List.length_take]; omega
theorem rateV_in {c e : List Int} (hc : ∀ x ∈ c, 0 ≤ x ∧ x ≤ 9) (he : ∀ x ∈ e, 0 ≤ x ∧ x ≤ 9) (h8 : e.length ≤ 8) (p t : Nat) (hp : p < c.length) : 0 ≤ rateV c e p t ∧ rateV c e p t ≤ 81 := by
  have h1 := rd_in hc p hp
  have h2 := sum_nonneg (cutL_in he p t)
  have h3 := cutL_len e p t
  unfold rateV
  omega
theorem specRate_l0 {e : List Int} (a b c : List Int) (he : ∀ x ∈ e, 0 ≤ x ∧ x ≤ 9) (h8 : e.length ≤ 8) (T : Nat) (hT : T ≤ e.length) (d : Nat) : ∀ (j : Nat) (s : Int), j + d = T → 0 ≤ s → s ≤ 9 + 9 * (j : Int) → Ev (fun k => spec_l3Rate.l0 k (T : Int) s (j : Int) a b c e) (s + (cutL e j T).sum) := by
  induction d with
  | zero =>
    intro j s hj h0 h1
    refine ev_succ ?_
    simp only [spec_l3Rate.l0]
    refine ev_neg (by omega) (ev_cast (ev_some _) ?_)
    have : cutL e j T = [] := by rw [cutL, List.drop_eq_nil_iff, List.length_take]; omega
    rw [this]
    simp
  | succ d ih =>
    intro j s hj h0 h1
    have hw : wrap64 ((j : Int) + 1) = ((j + 1 : Nat) : Int) := by rw [wid (by omega) (by omega)]; omega
    have hr := rd_in he j (by omega)
    have hlt : j < (e.take T).length := by rw [List.length_take]; omega
    have e1 : cutL e j T = rd e (j : Int) :: cutL e (j + 1) T := by
      unfold cutL
      rw [drop_rd (e.take T) j hlt, rd_nat _ _ hlt, rd_nat e j (by omega), List.getElem_take]
    refine ev_succ ?_
    simp only [spec_l3Rate.l0]
    rw [hw, wid (x := s + rd e (j : Int)) (by omega) (by omega)]
    refine ev_pos (by omega) (ev_pos (by omega) (ev_pos (by omega) (ev_cast (ih (j + 1) _ (by omega) (by omega) (by omega)) ?_)))
    rw [e1, List.sum_cons, Int.add_assoc]
section
variable {a b c e ps : List Int} {life : Int} (hk : CaseOk a b c e) (hl1 : 1 ≤ life) (hl8 : life ≤ 8) (hx : ps.length ≤ 1048576) (hin : ∀ j : Nat, j < ps.length → 0 ≤ rd ps (j : Int) ∧ rd ps (j : Int) ≤ (a.length : Int) - 1)
include hk
theorem specRate_ev (p t : Nat) (hp : p ≤ t) (ht : t < a.length) : Ev (fun k => spec_l3Rate.f k a b c e (p : Int) (t : Int)) (rateV c e p t) := by
  obtain ⟨k1, k2, k3, k4, k5, k6, k7, k8⟩ := hk
  have h1 := rd_in k7 p (by omega)
  unfold spec_l3Rate.f
  exact ev_pos (by omega) (ev_pos (by omega) (specRate_l0 a b c k8 (by omega) t (by omega) (t - p) p _ (by omega) h1.1 (by omega)))
theorem implRate_ev (p t : Nat) (hp : p ≤ t) (ht : t < a.length) : Ev (fun k => impl_Case_rate.f k a b c e (p : Int) (t : Int)) (rateV c e p t) := by
  obtain ⟨k1, k2, k3, k4, k5, k6, k7, k8⟩ := hk
  have h1 := rateV_in k7 k8 (by omega) p t (by omega)
  have h2 := cutL_len e p t
  unfold impl_Case_rate.f
  refine ev_pos (by omega) (ev_pos (by omega) (ev_pos (by omega) (ev_pos (by omega) ?_)))
  rw [Int.toNat_natCast, Int.toNat_natCast]
  refine ev_bind (total_ev (cutL e p t) (by omega) fun i => take_sum64 (by omega) (by omega) (cutL_in k8 p t) (by omega) i) (ev_cast (ev_some _) ?_)
  unfold rateV at h1 ⊢
  exact wid (by omega) (by omega)
def bestR (c e ps : List Int) (life t : Int) : Nat → Nat → Int → Int
  | 0, _, v => v
  | d + 1, i, v => bestR c e ps life t d (i + 1) (if rd ps (i : Int) ≤ t ∧ t < rd ps (i : Int) + life then (if v < 0 ∨ rateV c e (rd ps (i : Int)).toNat t.toNat < v then rateV c e (rd ps (i : Int)).toNat t.toNat else v) else v)
def up (v : Int) : Int := if v < 0 then 1099511627776 else v
include hl1 hl8 hx hin
theorem bestR_in (t : Nat) (ht : t < a.length) (d : Nat) : ∀ (i : Nat) (v : Int), i + d = ps.length → -1 ≤ v → v ≤ 81 → -1 ≤ bestR c e ps life (t : Int) d i v ∧ bestR c e ps life (t : Int) d i v ≤ 81 := by
  have _ := hl1
  have _ := hl8
  have _ := hx
  induction d with
  | zero => intro i v hi h0 h1; exact ⟨h0, h1⟩
  | succ d ih =>
    intro i v hi h0 h1
    simp only [bestR]
    have q := hin i (by omega)
    have hr := rateV_in hk.2.2.2.2.2.2.1 hk.2.2.2.2.2.2.2 (by have := hk.1; have := hk.2.2.2.1; omega) (rd ps (i : Int)).toNat (t : Int).toNat (by have := hk.2.2.1; omega)
    refine ih (i + 1) _ (by omega) ?_ ?_
    · split
      · split <;> omega
      · exact h0
    · split
      · split <;> omega
      · exact h1
theorem specBest_l0 (t : Nat) (ht : t < a.length) (d : Nat) : ∀ (i : Nat) (v : Int), i + d = ps.length → -1 ≤ v → v ≤ 81 → Ev (fun k => spec_l9Rate.l0 k life ps (t : Int) v (i : Int) a b c e) (bestR c e ps life (t : Int) d i v) := by
  have k1 := hk.1
  have k3 := hk.2.2.1
  have k4 := hk.2.2.2.1
  induction d with
  | zero =>
    intro i v hi h0 h1
    refine ev_succ ?_
    simp only [spec_l9Rate.l0, bestR]
    exact ev_neg (by omega) (ev_some _)
  | succ d ih =>
    intro i v hi h0 h1
    have hw : wrap64 ((i : Int) + 1) = ((i + 1 : Nat) : Int) := by rw [wid (by omega) (by omega)]; omega
    have q := hin i (by omega)
    have hr := rateV_in hk.2.2.2.2.2.2.1 hk.2.2.2.2.2.2.2 (by omega) (rd ps (i : Int)).toNat (t : Int).toNat (by omega)
    have hwl : wrap64 (rd ps (i : Int) + life) = rd ps (i : Int) + life := wid (by omega) (by omega)
    refine ev_succ ?_
    simp only [spec_l9Rate.l0, bestR]
    rw [hwl]
    refine ev_pos (by omega) (ev_pos (by omega) ?_)
    by_cases c1 : rd ps (i : Int) ≤ (t : Int) ∧ (t : Int) < rd ps (i : Int) + life
    · refine ev_pos c1.1 (ev_succ ?_)
      simp only [spec_l9Rate.j1]
      rw [hw]
      have e1 := specRate_ev hk (rd ps (i : Int)).toNat (t : Int).toNat (by omega) (by omega)
      rw [Int.toNat_of_nonneg q.1, Int.toNat_natCast] at e1
      rw [Int.toNat_natCast] at hr
      rw [if_pos c1, Int.toNat_natCast]
      refine ev_pos (decide_eq_true c1.2) (ev_bind e1 ?_)
      by_cases c2 : v < 0
      · rw [if_pos (.inl c2)]
        exact ev_pos c2 (ih (i + 1) _ (by omega) (by omega) (by omega))
      · refine ev_neg c2 ?_
        by_cases c3 : rateV c e (rd ps (i : Int)).toNat t < v
        · rw [if_pos (.inr c3)]
          exact ev_pos c3 (ih (i + 1) _ (by omega) (by omega) (by omega))
        · rw [if_neg fun h => h.elim c2 c3]
          exact ev_neg c3 (ih (i + 1) _ (by omega) h0 h1)
    · rw [if_neg c1]
      have hj : Ev (fun k => spec_l9Rate.j1 k life ps (t : Int) v (i : Int) (rd ps (i : Int)) false a b c e) (bestR c e ps life (t : Int) d (i + 1) v) := by
        refine ev_succ ?_
        simp only [spec_l9Rate.j1]
        rw [hw]
        exact ev_neg (by simp) (ih (i + 1) _ (by omega) h0 h1)
      by_cases c2 : rd ps (i : Int) ≤ (t : Int)
      · rw [decide_eq_false fun h => c1 ⟨c2, h⟩]
        exact ev_pos c2 hj
      · exact ev_neg c2 hj
theorem implBest_l2 (t : Nat) (ht : t < a.length) {s need : Int} {R : Int × Bool} (hc : ∀ x, x = bestR c e ps life (t : Int) ps.length 0 (-1) → Ev (fun k => (if need > 0 then (if up x = 1099511627776 then (some (0, false)) else (impl_Case_fresh.l1 k life ps (wrap64 (s + (wrap64 (need * up x)))) a (a.length : Int) (wrap64 ((t : Int) + 1)) a b c e)) else (impl_Case_fresh.l1 k life ps s a (a.length : Int) (wrap64 ((t : Int) + 1)) a b c e))) R) (d : Nat) :
    ∀ (i : Nat) (v : Int), i + d = ps.length → -1 ≤ v → v ≤ 81 → bestR c e ps life (t : Int) d i v = bestR c e ps life (t : Int) ps.length 0 (-1) → Ev (fun k => impl_Case_fresh.l2 k life ps s (t : Int) need (up v) a (a.length : Int) (t : Int) ps (ps.length : Int) (i : Int) a b c e) R := by
  have k1 := hk.1
  have k3 := hk.2.2.1
  have k4 := hk.2.2.2.1
  induction d with
  | zero =>
    intro i v hi h0 h1 hb
    simp only [bestR] at hb
    refine ev_succ ?_
    simp only [impl_Case_fresh.l2]
    exact ev_neg (by omega) (hc v hb)
  | succ d ih =>
    intro i v hi h0 h1 hb
    have hw : wrap64 ((i : Int) + 1) = ((i + 1 : Nat) : Int) := by rw [wid (by omega) (by omega)]; omega
    have q := hin i (by omega)
    have hr := rateV_in hk.2.2.2.2.2.2.1 hk.2.2.2.2.2.2.2 (by omega) (rd ps (i : Int)).toNat t (by omega)
    have hwl : wrap64 (wrap64 ((t : Int) - life) + 1) = (t : Int) - life + 1 := by rw [wid (x := (t : Int) - life) (by omega) (by omega), wid (by omega) (by omega)]
    simp only [bestR, Int.toNat_natCast] at hb
    refine ev_succ ?_
    simp only [impl_Case_fresh.l2, within_eq, Option.bind_some]
    rw [hwl]
    refine ev_pos (by omega) (ev_pos (by omega) (ev_pos (by omega) ?_))
    rw [hw]
    by_cases c1 : rd ps (i : Int) ≤ (t : Int) ∧ (t : Int) < rd ps (i : Int) + life
    · have e1 := implRate_ev hk (rd ps (i : Int)).toNat t (by omega) ht
      rw [Int.toNat_of_nonneg q.1] at e1
      rw [if_pos c1] at hb
      refine ev_pos (decide_eq_true ⟨by omega, c1.1⟩) (ev_bind e1 ?_)
      by_cases c2 : v < 0 ∨ rateV c e (rd ps (i : Int)).toNat t < v
      · rw [if_pos c2] at hb
        have em : mn (up v) (rateV c e (rd ps (i : Int)).toNat t) = up (rateV c e (rd ps (i : Int)).toNat t) := by
          unfold mn up
          rw [if_neg (show ¬ rateV c e (rd ps (i : Int)).toNat t < 0 by omega)]
          split <;> split <;> omega
        rw [em]
        exact ih (i + 1) _ (by omega) (by omega) (by omega) hb
      · rw [if_neg c2] at hb
        have em : mn (up v) (rateV c e (rd ps (i : Int)).toNat t) = up v := by
          unfold mn up
          split <;> split <;> omega
        rw [em]
        exact ih (i + 1) _ (by omega) h0 h1 hb
    · rw [if_neg c1] at hb
      exact ev_neg (by rw [decide_eq_true_eq]; omega) (ih (i + 1) _ (by omega) h0 h1 hb)
/-- The sum from a period on; none if a need can't be met. -/
def freshV (a c e ps : List Int) (life : Int) : Nat → Nat → Int → Option Int
  | 0, _, s => some s
  | d + 1, t, s => if rd a (t : Int) > 0 then (if bestR c e ps life (t : Int) ps.length 0 (-1) < 0 then none else freshV a c e ps life d (t + 1) (s + rd a (t : Int) * bestR c e ps life (t : Int) ps.length 0 (-1))) else freshV a c e ps life d (t + 1) s
omit hk hl1 hl8 hx hin in
theorem prod_in {x y : Int} (h0 : 0 ≤ x) (h1 : x ≤ 20) (h2 : 0 ≤ y) (h3 : y ≤ 81) : 0 ≤ x * y ∧ x * y ≤ 1620 := mulb h0 h1 h2 h3
theorem freshV_in (d : Nat) : ∀ (t : Nat) (s : Int), t + d = a.length → 0 ≤ s → ∀ r, freshV a c e ps life d t s = some r → 0 ≤ r := by
  induction d with
  | zero => intro t s ht h0 r hr; simp only [freshV, Option.some.injEq] at hr; omega
  | succ d ih =>
    intro t s ht h0 r hr
    simp only [freshV] at hr
    have ha := rd_in hk.2.2.2.2.1 t (by omega)
    have hb := bestR_in hk hl1 hl8 hx hin t (by omega) ps.length 0 (-1) (by omega) (by omega) (by omega)
    split at hr
    · split at hr
      · cases hr
      · have := prod_in ha.1 ha.2 (by omega) hb.2
        exact ih (t + 1) _ (by omega) (by omega) r hr
    · exact ih (t + 1) _ (by omega) h0 r hr
theorem spec_l1 (d : Nat) : ∀ (t : Nat) (s : Int), t + d = a.length → 0 ≤ s → s ≤ 104000000 + 1620 * (t : Int) → Ev (fun k => spec_l9Fresh.l1 k life ps s (t : Int) a b c e) ((freshV a c e ps life d t s).getD (-1)) := by
  have k1 := hk.1
  induction d with
  | zero =>
    intro t s ht h0 h1
    refine ev_succ ?_
    simp only [spec_l9Fresh.l1, freshV, Option.getD_some]
    exact ev_neg (by omega) (ev_some _)
  | succ d ih =>
    intro t s ht h0 h1
    have hw : wrap64 ((t : Int) + 1) = ((t + 1 : Nat) : Int) := by rw [wid (by omega) (by omega)]; omega
    have ha := rd_in hk.2.2.2.2.1 t (by omega)
    have hb := bestR_in hk hl1 hl8 hx hin t (by omega) ps.length 0 (-1) (by omega) (by omega) (by omega)
    have e1 : Ev (fun k => spec_l9Rate.f k a b c e life ps (t : Int)) (bestR c e ps life (t : Int) ps.length 0 (-1)) := by
      unfold spec_l9Rate.f
      exact specBest_l0 hk hl1 hl8 hx hin t (by omega) ps.length 0 (-1) (by omega) (by omega) (by omega)
    refine ev_succ ?_
    simp only [spec_l9Fresh.l1, freshV]
    refine ev_pos (by omega) (ev_bind e1 (ev_pos (by omega) ?_))
    by_cases c1 : rd a (t : Int) > 0
    · rw [if_pos c1]
      refine ev_pos c1 (ev_succ ?_)
      simp only [spec_l9Fresh.j2]
      by_cases c2 : bestR c e ps life (t : Int) ps.length 0 (-1) < 0
      · rw [if_pos c2]
        exact ev_pos (decide_eq_true c2) (ev_some _)
      · have hp := prod_in ha.1 ha.2 (by omega) hb.2
        rw [if_neg c2, hw, wid (x := rd a (t : Int) * bestR c e ps life (t : Int) ps.length 0 (-1)) (by omega) (by omega), wid (x := s + rd a (t : Int) * bestR c e ps life (t : Int) ps.length 0 (-1)) (by omega) (by omega)]
        exact ev_neg (by rw [decide_eq_true_eq]; exact c2) (ev_pos (by omega) (ev_pos (by omega) (ev_pos c1 (ih (t + 1) _ (by omega) (by omega) (by omega)))))
    · rw [if_neg c1]
      refine ev_neg c1 (ev_succ ?_)
      simp only [spec_l9Fresh.j2]
      rw [hw]
      exact ev_neg (by simp) (ev_pos (by omega) (ev_pos (by omega) (ev_neg c1 (ih (t + 1) _ (by omega) h0 (by omega)))))
def implR : Option Int → Int × Bool
  | none => (0, false)
  | some s => (s, true)
theorem impl_l1 (d : Nat) : ∀ (t : Nat) (s : Int), t + d = a.length → 0 ≤ s → s ≤ 104000000 + 1620 * (t : Int) → Ev (fun k => impl_Case_fresh.l1 k life ps s a (a.length : Int) (t : Int) a b c e) (implR (freshV a c e ps life d t s)) := by
  have k1 := hk.1
  induction d with
  | zero =>
    intro t s ht h0 h1
    refine ev_succ ?_
    simp only [impl_Case_fresh.l1, freshV, implR]
    exact ev_neg (by omega) (ev_some _)
  | succ d ih =>
    intro t s ht h0 h1
    have hw : wrap64 ((t : Int) + 1) = ((t + 1 : Nat) : Int) := by rw [wid (by omega) (by omega)]; omega
    have ha := rd_in hk.2.2.2.2.1 t (by omega)
    have hb := bestR_in hk hl1 hl8 hx hin t (by omega) ps.length 0 (-1) (by omega) (by omega) (by omega)
    refine ev_succ ?_
    simp only [impl_Case_fresh.l1]
    refine ev_pos (by omega) (ev_pos (by omega) (ev_pos (by omega) ?_))
    refine implBest_l2 hk hl1 hl8 hx hin t (by omega) (R := implR (freshV a c e ps life (d + 1) t s)) ?_ ps.length 0 (-1) (by omega) (by omega) (by omega) rfl
    intro x hxv
    rw [← hxv] at hb
    simp only [freshV]
    rw [← hxv]
    by_cases c1 : rd a (t : Int) > 0
    · rw [if_pos c1]
      refine ev_pos c1 ?_
      by_cases c2 : x < 0
      · rw [if_pos c2]
        exact ev_pos (by unfold up; rw [if_pos c2]) (ev_some _)
      · have hp := prod_in ha.1 ha.2 (by omega) hb.2
        have eu : up x = x := by unfold up; rw [if_neg c2]
        rw [if_neg c2, eu, hw, wid (x := rd a (t : Int) * x) (by omega) (by omega), wid (x := s + rd a (t : Int) * x) (by omega) (by omega)]
        exact ev_neg (by omega) (ih (t + 1) _ (by omega) (by omega) (by omega))
    · rw [if_neg c1, hw]
      exact ev_neg c1 (ih (t + 1) _ (by omega) h0 (by omega))
/-- The orders' costs. -/
def sumB (b xs : List Int) : Nat → Nat → Int → Int
  | 0, _, s => s
  | d + 1, i, s => sumB b xs d (i + 1) (s + rd b (rd xs (i : Int)))
theorem setup_in (i : Nat) (hi : i < ps.length) : 0 ≤ rd b (rd ps (i : Int)) ∧ rd b (rd ps (i : Int)) ≤ 99 := by
  have _ := hl1
  have _ := hl8
  have _ := hx
  have q := hin i hi
  have k2 := hk.2.1
  have h := rd_in hk.2.2.2.2.2.1 (rd ps (i : Int)).toNat (by omega)
  rwa [Int.toNat_of_nonneg q.1] at h
theorem sumB_in (d : Nat) : ∀ (i : Nat) (s : Int), i + d = ps.length → 0 ≤ s → s ≤ 99 * (i : Int) → 0 ≤ sumB b ps d i s ∧ sumB b ps d i s ≤ 99 * (ps.length : Int) := by
  induction d with
  | zero => intro i s hi h0 h1; simp only [sumB]; omega
  | succ d ih =>
    intro i s hi h0 h1
    have q := setup_in hk hl1 hl8 hx hin i (by omega)
    simp only [sumB]
    exact ih (i + 1) _ (by omega) (by omega) (by omega)
theorem spec_l0 (d : Nat) : ∀ (i : Nat) (s : Int), i + d = ps.length → 0 ≤ s → s ≤ 99 * (i : Int) → Ev (fun k => spec_l9Fresh.l0 k life ps s (i : Int) a b c e) ((freshV a c e ps life a.length 0 (sumB b ps d i s)).getD (-1)) := by
  induction d with
  | zero =>
    intro i s hi h0 h1
    refine ev_succ ?_
    simp only [spec_l9Fresh.l0, sumB]
    exact ev_neg (by omega) (spec_l1 hk hl1 hl8 hx hin a.length 0 s (by omega) h0 (by omega))
  | succ d ih =>
    intro i s hi h0 h1
    have hw : wrap64 ((i : Int) + 1) = ((i + 1 : Nat) : Int) := by rw [wid (by omega) (by omega)]; omega
    have q := hin i (by omega)
    have k2 := hk.2.1
    have g := setup_in hk hl1 hl8 hx hin i (by omega)
    refine ev_succ ?_
    simp only [spec_l9Fresh.l0, sumB]
    rw [hw, wid (x := s + rd b (rd ps (i : Int))) (by omega) (by omega)]
    exact ev_pos (by omega) (ev_pos (by omega) (ev_pos q.1 (ev_pos (by omega) (ih (i + 1) _ (by omega) (by omega) (by omega)))))
theorem impl_l0 (d : Nat) : ∀ (i : Nat) (s : Int), i + d = ps.length → 0 ≤ s → s ≤ 99 * (i : Int) → Ev (fun k => impl_Case_fresh.l0 k life ps s ps (ps.length : Int) (i : Int) a b c e) (implR (freshV a c e ps life a.length 0 (sumB b ps d i s))) := by
  induction d with
  | zero =>
    intro i s hi h0 h1
    refine ev_succ ?_
    simp only [impl_Case_fresh.l0, sumB]
    exact ev_neg (by omega) (impl_l1 hk hl1 hl8 hx hin a.length 0 s (by omega) h0 (by omega))
  | succ d ih =>
    intro i s hi h0 h1
    have hw : wrap64 ((i : Int) + 1) = ((i + 1 : Nat) : Int) := by rw [wid (by omega) (by omega)]; omega
    have q := hin i (by omega)
    have k2 := hk.2.1
    have g := setup_in hk hl1 hl8 hx hin i (by omega)
    refine ev_succ ?_
    simp only [impl_Case_fresh.l0, sumB]
    rw [hw, wid (x := s + rd b (rd ps (i : Int))) (by omega) (by omega)]
    exact ev_pos (by omega) (ev_pos (by omega) (ev_pos (by omega) (ev_pos q.1 (ev_pos (by omega) (ih (i + 1) _ (by omega) (by omega) (by omega))))))
end
def ans (a b c e : List Int) (life : Int) (ps : List Int) : Int × Bool := if CaseOk a b c e ∧ (1 ≤ life ∧ life ≤ 8) ∧ risB ps ((a.length : Int) - 1) ps.length 0 = true then implR (freshV a c e ps life a.length 0 (sumB b ps ps.length 0 0)) else (0, false)
theorem spec_ans (a b c e : List Int) (life : Int) (ps : List Int) (h0 : a.length ≤ 35184372088832) (h1 : b.length ≤ 35184372088832) (h2 : c.length ≤ 35184372088832) (h3 : e.length ≤ 35184372088832) (hp : ps.length ≤ 1048576) : Ev (fun k => spec_FreshCost.f k a b c e life ps) (ans a b c e life ps) := by
  unfold spec_FreshCost.f spec_l9Life.f spec_l2Periods.f ans
  by_cases hk : CaseOk a b c e
  rotate_left
  · refine ev_bind (a := false) (ev_bind (specCase_ev a b c e h0 h1 h2 h3) (ev_neg (by rw [decide_eq_true_eq]; exact hk) (ev_some _))) (ev_neg (by simp) (ev_succ ?_))
    simp only [spec_FreshCost.j0]
    exact ev_cast (ev_pos trivial (ev_some _)) (if_neg fun h => hk h.1).symm
  have k1 := hk.1
  refine ev_bind (a := decide (1 ≤ life ∧ life ≤ 8)) (ev_bind (specCase_ev a b c e h0 h1 h2 h3) (ev_pos (decide_eq_true hk) ?_)) ?_
  · simp only [in_eq, Option.bind_some]
    exact ev_some _
  by_cases hl : 1 ≤ life ∧ life ≤ 8
  rotate_left
  · refine ev_neg (by rw [decide_eq_true_eq]; exact hl) (ev_succ ?_)
    simp only [spec_FreshCost.j0]
    exact ev_cast (ev_pos trivial (ev_some _)) (if_neg fun h => hl h.2.1).symm
  refine ev_pos (decide_eq_true hl) (ev_bind (a := risB ps ((a.length : Int) - 1) ps.length 0) (ev_bind ?_ (ev_some _)) (ev_succ ?_))
  · rw [wid (by omega) (by omega)]
    exact specRising_ev ps _ (by omega)
  simp only [spec_FreshCost.j0]
  by_cases hr : risB ps ((a.length : Int) - 1) ps.length 0 = true
  rotate_left
  · exact ev_cast (ev_pos (by rw [Bool.eq_false_iff.mpr hr]; rfl) (ev_some _)) (if_neg fun h => hr h.2.2).symm
  have hin := fun j hj => risB_in ps.length 0 (by omega) hr j (by omega) hj
  have hs := sumB_in hk hl.1 hl.2 hp hin ps.length 0 0 (by omega) (by omega) (by omega)
  have hf := freshV_in hk hl.1 hl.2 hp hin a.length 0 (sumB b ps ps.length 0 0) (by omega) hs.1
  refine ev_cast (ev_neg (by rw [hr]; simp) (ev_bind (g := fun k => spec_l9Fresh.f k a b c e life ps) (a := (freshV a c e ps life a.length 0 (sumB b ps ps.length 0 0)).getD (-1)) ?_ (r := implR (freshV a c e ps life a.length 0 (sumB b ps ps.length 0 0))) ?_)) (if_pos ⟨hk, hl, hr⟩).symm
  · unfold spec_l9Fresh.f
    exact spec_l0 hk hl.1 hl.2 hp hin ps.length 0 0 (by omega) (by omega) (by omega)
  · generalize freshV a c e ps life a.length 0 (sumB b ps ps.length 0 0) = o at hf
    cases o with
    | none => exact ev_pos (by simp) (ev_some _)
    | some v =>
      have := hf v rfl
      exact ev_neg (by simp only [Option.getD_some]; omega) (ev_some _)
theorem impl_ans (a b c e : List Int) (life : Int) (ps : List Int) (h0 : a.length ≤ 35184372088832) (h1 : b.length ≤ 35184372088832) (h2 : c.length ≤ 35184372088832) (h3 : e.length ≤ 35184372088832) (hp : ps.length ≤ 1048576) : Ev (fun k => impl_FreshCost.f k a b c e life ps) (ans a b c e life ps) := by
  unfold impl_FreshCost.f ans
  simp only [impl_isLife.f, within_eq, Option.bind_some]
  refine ev_bind (implCase_ev a b c e h0 h1 h2 h3) ?_
  by_cases hk : CaseOk a b c e
  rotate_left
  · exact ev_cast (ev_neg (by rw [decide_eq_true_eq]; exact hk) (ev_some _)) (if_neg fun h => hk h.1).symm
  have k1 := hk.1
  refine ev_pos (decide_eq_true hk) ?_
  by_cases hl : 1 ≤ life ∧ life ≤ 8
  rotate_left
  · exact ev_cast (ev_neg (by rw [decide_eq_true_eq]; exact hl) (ev_some _)) (if_neg fun h => hl h.2.1).symm
  refine ev_pos (decide_eq_true hl) (ev_bind (g := fun k => impl_Case_arePeriods.f k a b c e ps) (a := risB ps ((a.length : Int) - 1) ps.length 0) ?_ ?_)
  · unfold impl_Case_arePeriods.f
    exact implPeriods_l0 a b c e ps (by omega) (by omega) ps.length 0 (by omega)
  by_cases hr : risB ps ((a.length : Int) - 1) ps.length 0 = true
  rotate_left
  · exact ev_cast (ev_neg hr (ev_some _)) (if_neg fun h => hr h.2.2).symm
  have hin := fun j hj => risB_in ps.length 0 (by omega) hr j (by omega) hj
  refine ev_cast (ev_pos hr (ev_bind (g := fun k => impl_Case_fresh.f k a b c e life ps) ?_ (ev_some _))) (if_pos ⟨hk, hl, hr⟩).symm
  unfold impl_Case_fresh.f
  exact impl_l0 hk hl.1 hl.2 hp hin ps.length 0 0 (by omega) (by omega) (by omega)
theorem FnExactFreshCost (l0_0 : List Int) (l0_1 : List Int) (l0_2 : List Int) (l0_3 : List Int) (a1 : Int) (l2 : List Int) (hl0_0 : l0_0.length ≤ maxLen) (hw0_0 : ∀ x ∈ l0_0, (Lit.int .i64 x).wf = true) (hl0_1 : l0_1.length ≤ maxLen) (hw0_1 : ∀ x ∈ l0_1, (Lit.int .i64 x).wf = true) (hl0_2 : l0_2.length ≤ maxLen) (hw0_2 : ∀ x ∈ l0_2, (Lit.int .i64 x).wf = true) (hl0_3 : l0_3.length ≤ maxLen) (hw0_3 : ∀ x ∈ l0_3, (Lit.int .i64 x).wf = true) (hw1 : (Lit.int .i64 a1).wf = true) (hl2 : l2.length ≤ maxLen) (hw2 : ∀ x ∈ l2, (Lit.int .i64 x).wf = true) :
    ∃ k, laws_FnExactFreshCost.f k l0_0 l0_1 l0_2 l0_3 a1 l2 = some true := by
  refine Ev.rounds ?_
  unfold laws_FnExactFreshCost.f
  by_cases c1 : (l2.length : Int) > 1048576
  · exact ev_pos c1 (ev_some _)
  refine ev_neg c1 ?_
  obtain ⟨r, hr, hz⟩ := szCase_eq l0_0 l0_1 l0_2 l0_3 1048576 (by omega) (by omega) hl0_0 hl0_1 hl0_2 hl0_3
  simp only [hr, Option.bind_some]
  by_cases c : r < 0
  · exact ev_pos c (ev_some _)
  have hz := hz (by omega)
  have h0 : l0_0.length ≤ 35184372088832 := by omega
  have h1 : l0_1.length ≤ 35184372088832 := by omega
  have h2 : l0_2.length ≤ 35184372088832 := by omega
  have h3 : l0_3.length ≤ 35184372088832 := by omega
  have hp : l2.length ≤ 35184372088832 := by omega
  have hto := toCase_ev l0_0 l0_1 l0_2 l0_3 h0 h1 h2 h3
  have hpl := toIntS_ev l2 hp
  have hS := spec_ans l0_0 l0_1 l0_2 l0_3 a1 l2 h0 h1 h2 h3 (by omega)
  have hI := impl_ans l0_0 l0_1 l0_2 l0_3 a1 l2 h0 h1 h2 h3 (by omega)
  refine ev_neg c (ev_bind hto (ev_bind hpl (ev_bind hS (ev_bind hto (ev_bind hpl (ev_bind hI (ev_pos rfl (ev_neg (by simp) ?_))))))))
  exact ev_bind hto (ev_bind (eqCase_ev l0_0 l0_1 l0_2 l0_3 h0 h1 h2 h3) (ev_pos rfl (ev_bind hpl (ev_bind (eqIntS_ev l2 l2 hp) (ev_pos (by simp) (ev_some _))))))

end Go.Proofs.Ytggnlljdfncnfaa.Pure
