/- The program's IsRegular and the reference's look for an empty stock between two partial amounts, in the same way. No conditions. -/
import Derived.Test.YtggnlljdfncnfaaKit
import Derived.Test.YtggnlljdfncnfaaXFnExactIsRegularx6
namespace Go.Proofs.Ytggnlljdfncnfaa.Pure
set_option linter.unusedVariables false
open Go.RowKit Go.Proofs.Ytggnlljdfncnfaa.PFnExactIsRegular Go.Proofs.YtggnlljdfncnfaaW.PrintWords Go.Proofs.YtggnlljdfncnfaaW.PrintLast Go.Proofs.Ytggnlljdfncnfaa.Kit

theorem in_eq (a b c : Int) : spec_l1In.f a b c = some (decide (b ≤ a ∧ a ≤ c)) := by
  unfold spec_l1In.f
  by_cases h : b ≤ a <;> simp [h]
theorem within_eq (a b c : Int) : impl_within.f a b c = some (decide (b ≤ a ∧ a ≤ c)) := by
  unfold impl_within.f
  by_cases h : b ≤ a <;> simp [h]
theorem toIntS_l0 (xs : List Int) (hn : xs.length ≤ 35184372088832) (d : Nat) : ∀ (i : Nat) (ys : List Int), i + d = xs.length → ys.length = xs.length → ys.take i = xs.take i →
    Ev (fun k => laws_toIntS.l0 k xs ys (i : Int)) xs := by
  induction d with
  | zero =>
    intro i ys hi hl ht
    refine ev_succ ?_
    simp only [laws_toIntS.l0]
    refine ev_neg (by omega) ?_
    rw [List.take_of_length_le (by omega), List.take_of_length_le (by omega)] at ht
    rw [ht]
    exact ev_some _
  | succ d ih =>
    intro i ys hi hl ht
    refine ev_succ ?_
    simp only [laws_toIntS.l0]
    refine ev_pos (by omega) (ev_pos (by omega) (ev_pos (by omega) ?_))
    have hw : wrap64 ((i : Int) + 1) = ((i + 1 : Nat) : Int) := by rw [wid (by omega) (by omega)]; omega
    rw [hw]
    refine ih (i + 1) _ (by omega) (by simpa using hl) ?_
    rw [rd_nat xs i (by omega), Int.toNat_natCast, List.take_succ_eq_append_getElem (by simp; omega), List.take_succ_eq_append_getElem (by omega), List.getElem_set_self, List.take_set_of_le (by omega), ht]
theorem toIntS_ev (xs : List Int) (hn : xs.length ≤ 35184372088832) : Ev (fun k => laws_toIntS.f k xs) xs := by
  unfold laws_toIntS.f
  refine ev_pos (by omega) (ev_pos (by omega) ?_)
  exact toIntS_l0 xs hn xs.length 0 _ (by omega) (by simp) rfl
theorem eqIntS_l0 (xs ys : List Int) (hn : xs.length ≤ 35184372088832) (hl : ys.length = xs.length) (d : Nat) : ∀ (i : Nat), i + d = xs.length →
    Ev (fun k => laws_eqIntS.l0 k xs ys (i : Int)) (decide (xs.drop i = ys.drop i)) := by
  induction d with
  | zero =>
    intro i hi
    refine ev_succ ?_
    simp only [laws_eqIntS.l0]
    refine ev_neg (by omega) ?_
    rw [List.drop_of_length_le (by omega), List.drop_of_length_le (by omega)]
    exact ev_some _
  | succ d ih =>
    intro i hi
    refine ev_succ ?_
    simp only [laws_eqIntS.l0]
    refine ev_pos (by omega) (ev_pos (by omega) (ev_pos (by omega) ?_))
    have hw : wrap64 ((i : Int) + 1) = ((i + 1 : Nat) : Int) := by rw [wid (by omega) (by omega)]; omega
    rw [hw, drop_rd xs i (by omega), drop_rd ys i (by omega)]
    by_cases h : rd xs i = rd ys i
    · refine ev_pos h (ev_cast (ih (i + 1) (by omega)) ?_)
      simp [h]
    · refine ev_neg h (ev_cast (ev_some false) ?_)
      simp [h]
theorem eqIntS_ev (xs ys : List Int) (hn : xs.length ≤ 35184372088832) : Ev (fun k => laws_eqIntS.f k xs ys) (decide (xs = ys)) := by
  unfold laws_eqIntS.f
  by_cases h : xs.length = ys.length
  · refine ev_pos (by omega) (ev_cast (eqIntS_l0 xs ys hn h.symm xs.length 0 (by omega)) (by simp))
  · refine ev_neg (by omega) (ev_cast (ev_some false) ?_)
    have : xs ≠ ys := fun e => h (by rw [e])
    simp [this]
theorem allWithin_l0 (lo up : Int) (xs : List Int) (hn : xs.length ≤ 35184372088832) (d : Nat) : ∀ (i : Nat), i + d = xs.length →
    Ev (fun k => impl_allWithin.l0 k lo up xs (xs.length : Int) (i : Int)) (decide (∀ x ∈ xs.drop i, lo ≤ x ∧ x ≤ up)) := by
  induction d with
  | zero =>
    intro i hi
    refine ev_succ ?_
    simp only [impl_allWithin.l0]
    refine ev_neg (by omega) ?_
    rw [List.drop_of_length_le (by omega)]
    exact ev_cast (ev_some true) (by simp)
  | succ d ih =>
    intro i hi
    refine ev_succ ?_
    simp only [impl_allWithin.l0, within_eq, Option.bind_some]
    refine ev_pos (by omega) (ev_pos (by omega) (ev_pos (by omega) ?_))
    have hw : wrap64 ((i : Int) + 1) = ((i + 1 : Nat) : Int) := by rw [wid (by omega) (by omega)]; omega
    rw [hw, drop_rd xs i (by omega)]
    by_cases h : lo ≤ rd xs i ∧ rd xs i ≤ up
    · refine ev_pos (by simpa using h) (ev_cast (ih (i + 1) (by omega)) ?_)
      simp [h]
    · refine ev_neg (by simpa using h) (ev_cast (ev_some false) ?_)
      symm
      simp only [decide_eq_false_iff_not, List.mem_cons]
      exact fun hh => h (hh _ (Or.inl rfl))
theorem allWithin_ev (xs : List Int) (lo hi : Int) (hn : xs.length ≤ 35184372088832) : Ev (fun k => impl_allWithin.f k xs lo hi) (decide (∀ x ∈ xs, lo ≤ x ∧ x ≤ hi)) := by
  unfold impl_allWithin.f
  exact allWithin_l0 lo hi xs hn xs.length 0 (by omega)
theorem l2Row_l0 (n up : Int) (xs : List Int) (hn : xs.length ≤ 35184372088832) (d : Nat) : ∀ (i : Nat), i + d = xs.length →
    Ev (fun k => spec_l2Row.l0 k xs n up (i : Int)) (decide ((∀ x ∈ xs.drop i, 0 ≤ x ∧ x ≤ up) ∧ (xs.length : Int) = n)) := by
  induction d with
  | zero =>
    intro i hi
    refine ev_succ ?_
    simp only [spec_l2Row.l0]
    refine ev_neg (by omega) ?_
    rw [List.drop_of_length_le (by omega)]
    refine ev_cast (ev_some _) ?_
    rw [Bool.eq_iff_iff]
    simp
  | succ d ih =>
    intro i hi
    refine ev_succ ?_
    simp only [spec_l2Row.l0, in_eq, Option.bind_some]
    refine ev_pos (by omega) (ev_pos (by omega) ?_)
    have hw : wrap64 ((i : Int) + 1) = ((i + 1 : Nat) : Int) := by rw [wid (by omega) (by omega)]; omega
    rw [hw, drop_rd xs i (by omega)]
    by_cases h : 0 ≤ rd xs i ∧ rd xs i ≤ up
    · refine ev_pos (by simpa using h) (ev_cast (ih (i + 1) (by omega)) ?_)
      simp [h]
    · refine ev_neg (by simpa using h) (ev_cast (ev_some false) ?_)
      symm
      simp only [decide_eq_false_iff_not, List.mem_cons]
      exact fun hh => h (hh.1 _ (Or.inl rfl))
theorem l2Row_ev (xs : List Int) (n up : Int) (hn : xs.length ≤ 35184372088832) : Ev (fun k => spec_l2Row.f k xs n up) (decide ((∀ x ∈ xs, 0 ≤ x ∧ x ≤ up) ∧ (xs.length : Int) = n)) := by
  unfold spec_l2Row.f
  exact l2Row_l0 n up xs hn xs.length 0 (by omega)
theorem szIntS_eq (xs : List Int) (a : Int) (h0 : 0 ≤ a) (h1 : a ≤ 1048576) (hl : xs.length ≤ maxLen) : laws_szIntS.f xs a = some (if a - (xs.length : Int) < 0 then -1 else a - (xs.length : Int)) := by
  unfold maxLen at hl
  unfold laws_szIntS.f
  rw [wid (by omega) (by omega)]
  split <;> rfl
theorem rd_in {xs : List Int} {lo up : Int} (h : ∀ x ∈ xs, lo ≤ x ∧ x ≤ up) (i : Nat) (hi : i < xs.length) : lo ≤ rd xs (i : Int) ∧ rd xs (i : Int) ≤ up := by
  rw [rd_nat xs i hi]
  exact h _ (List.getElem_mem _)
theorem szCase_eq (a b c e : List Int) (n : Int) (h0 : 0 ≤ n) (h1 : n ≤ 1048576) (ha : a.length ≤ maxLen) (hb : b.length ≤ maxLen) (hc : c.length ≤ maxLen) (he : e.length ≤ maxLen) :
    ∃ r, laws_szCase.f a b c e n = some r ∧ (0 ≤ r → r = n - a.length - b.length - c.length - e.length) := by
  unfold laws_szCase.f
  rw [szIntS_eq a n h0 h1 ha]
  simp only [Option.bind_some]
  by_cases c1 : n - (a.length : Int) < 0
  · rw [if_pos c1, if_pos (by omega)]
    exact ⟨_, rfl, by omega⟩
  rw [if_neg c1, if_neg c1, szIntS_eq b _ (by omega) (by omega) hb]
  simp only [Option.bind_some]
  by_cases c2 : n - (a.length : Int) - (b.length : Int) < 0
  · rw [if_pos c2, if_pos (by omega)]
    exact ⟨_, rfl, by omega⟩
  rw [if_neg c2, if_neg c2, szIntS_eq c _ (by omega) (by omega) hc]
  simp only [Option.bind_some]
  by_cases c3 : n - (a.length : Int) - (b.length : Int) - (c.length : Int) < 0
  · rw [if_pos c3, if_pos (by omega)]
    exact ⟨_, rfl, by omega⟩
  rw [if_neg c3, if_neg c3, szIntS_eq e _ (by omega) (by omega) he]
  simp only [Option.bind_some]
  by_cases c4 : n - (a.length : Int) - (b.length : Int) - (c.length : Int) - (e.length : Int) < 0
  · rw [if_pos c4, if_pos (by omega)]
    exact ⟨_, rfl, by omega⟩
  rw [if_neg c4, if_neg c4]
  exact ⟨_, rfl, fun _ => rfl⟩
theorem toCase_ev (a b c e : List Int) (ha : a.length ≤ 35184372088832) (hb : b.length ≤ 35184372088832) (hc : c.length ≤ 35184372088832) (he : e.length ≤ 35184372088832) : Ev (fun k => laws_toCase.f k a b c e) (a, b, c, e) := by
  unfold laws_toCase.f
  exact ev_bind (toIntS_ev a ha) (ev_bind (toIntS_ev b hb) (ev_bind (toIntS_ev c hc) (ev_bind (toIntS_ev e he) (ev_some _))))
theorem eqCase_ev (a b c e : List Int) (ha : a.length ≤ 35184372088832) (hb : b.length ≤ 35184372088832) (hc : c.length ≤ 35184372088832) (he : e.length ≤ 35184372088832) : Ev (fun k => laws_eqCase.f k a b c e a b c e) true := by
  unfold laws_eqCase.f
  exact ev_bind (eqIntS_ev a a ha) (ev_pos (by simp) (ev_bind (eqIntS_ev b b hb) (ev_pos (by simp) (ev_bind (eqIntS_ev c c hc) (ev_pos (by simp) (ev_bind (eqIntS_ev e e he) (ev_pos (by simp) (ev_some _))))))))

/-- What a valid case is. -/
def CaseOk (a b c e : List Int) : Prop :=
  (a.length : Int) ≤ 8 ∧ (b.length : Int) = (a.length : Int) ∧ (c.length : Int) = (a.length : Int) ∧ (e.length : Int) = (a.length : Int) ∧ (∀ x ∈ a, 0 ≤ x ∧ x ≤ 20) ∧ (∀ x ∈ b, 0 ≤ x ∧ x ≤ 99) ∧ (∀ x ∈ c, 0 ≤ x ∧ x ≤ 9) ∧ (∀ x ∈ e, 0 ≤ x ∧ x ≤ 9)
instance (a b c e : List Int) : Decidable (CaseOk a b c e) := by unfold CaseOk; infer_instance
theorem implCase_ev (a b c e : List Int) (ha : a.length ≤ 35184372088832) (hb : b.length ≤ 35184372088832) (hc : c.length ≤ 35184372088832) (he : e.length ≤ 35184372088832) : Ev (fun k => impl_IsCase.f k a b c e) (decide (CaseOk a b c e)) := by
  unfold impl_IsCase.f CaseOk
  exact ev_andp fun _ => ev_andp fun _ => ev_andp fun _ => ev_andp fun _ => ev_bind (allWithin_ev a 0 20 ha) (ev_and rfl fun _ => ev_bind (allWithin_ev b 0 99 hb) (ev_and rfl fun _ => ev_bind (allWithin_ev c 0 9 hc) (ev_and rfl fun _ => ev_bind (allWithin_ev e 0 9 he) (ev_some _))))
theorem specCase_ev (a b c e : List Int) (ha : a.length ≤ 35184372088832) (hb : b.length ≤ 35184372088832) (hc : c.length ≤ 35184372088832) (he : e.length ≤ 35184372088832) : Ev (fun k => spec_l2Good.f k a b c e) (decide (CaseOk a b c e)) := by
  unfold spec_l2Good.f
  refine ev_dec (P := (a.length : Int) ≤ 8 ∧ ((∀ x ∈ a, 0 ≤ x ∧ x ≤ 20) ∧ (a.length : Int) = a.length) ∧ ((∀ x ∈ b, 0 ≤ x ∧ x ≤ 99) ∧ (b.length : Int) = a.length) ∧ ((∀ x ∈ c, 0 ≤ x ∧ x ≤ 9) ∧ (c.length : Int) = a.length) ∧ ((∀ x ∈ e, 0 ≤ x ∧ x ≤ 9) ∧ (e.length : Int) = a.length)) ?_ ?_
  · exact ev_andp fun _ => ev_bind (l2Row_ev a _ 20 ha) (ev_and rfl fun _ => ev_bind (l2Row_ev b _ 99 hb) (ev_and rfl fun _ => ev_bind (l2Row_ev c _ 9 hc) (ev_and rfl fun _ => ev_bind (l2Row_ev e _ 9 he) (ev_some _))))
  · unfold CaseOk
    constructor
    · rintro ⟨h, ⟨p1, _⟩, ⟨p2, q2⟩, ⟨p3, q3⟩, p4, q4⟩
      exact ⟨h, q2, q3, q4, p1, p2, p3, p4⟩
    · rintro ⟨h, q2, q3, q4, p1, p2, p3, p4⟩
      exact ⟨h, ⟨p1, rfl⟩, ⟨p2, q2⟩, ⟨p3, q3⟩, p4, q4⟩
/-- The stock before period n. -/
def stk (need pl : List Int) : Nat → Int
  | 0 => 0
  | n + 1 => stk need pl n + (rd pl (n : Int) - rd need (n : Int))
/-- The stocks behind the first n periods. -/
def stks (need pl : List Int) (n : Nat) : List Int := (List.range n).map fun i => stk need pl (i + 1)
theorem stks_length (need pl : List Int) (n : Nat) : (stks need pl n).length = n := by simp [stks]
theorem stks_succ (need pl : List Int) (n : Nat) : stks need pl (n + 1) = stks need pl n ++ [stk need pl (n + 1)] := by simp [stks, List.range_succ]
theorem rd_stks (need pl : List Int) (n i : Nat) (h : i < n) : rd (stks need pl n) (i : Int) = stk need pl (i + 1) := by
  rw [rd_nat _ _ (by rw [stks_length]; exact h)]
  simp [stks]
theorem stk_in {need pl : List Int} (hn : ∀ x ∈ need, 0 ≤ x ∧ x ≤ 20) (hp : ∀ x ∈ pl, 0 ≤ x ∧ x ≤ 160) (he : pl.length = need.length) : ∀ i : Nat, i ≤ need.length → -(20 * (i : Int)) ≤ stk need pl i ∧ stk need pl i ≤ 160 * (i : Int) := by
  intro i
  induction i with
  | zero => intro _; simp [stk]
  | succ i ih =>
    intro hi
    have h1 := ih (by omega)
    have h2 := rd_in hn i (by omega)
    have h3 := rd_in hp i (by omega)
    show _ ≤ stk need pl i + (rd pl (i : Int) - rd need (i : Int)) ∧ stk need pl i + (rd pl (i : Int) - rd need (i : Int)) ≤ _
    omega
/-- What a plan is. -/
def PlanOk (need pl : List Int) : Prop := pl.length = need.length ∧ (∀ x ∈ pl, 0 ≤ x ∧ x ≤ 160) ∧ (∀ i : Nat, i < need.length → 0 ≤ stk need pl (i + 1)) ∧ stk need pl need.length = 0
instance (need pl : List Int) : Decidable (PlanOk need pl) := by unfold PlanOk; infer_instance

section
variable (a b c e pl : List Int) (hc : CaseOk a b c e) (hl : pl.length ≤ 35184372088832)
include hc

theorem specStocks_l0 (he : pl.length = a.length) (hp : ∀ x ∈ pl, 0 ≤ x ∧ x ≤ 160) (d : Nat) : ∀ i : Nat, i + d = a.length →
    Ev (fun k => spec_l2Stocks.l0 k pl (stks a pl i) (stk a pl i) (i : Int) a b c e) (stks a pl a.length) := by
  have h8 := hc.1
  induction d with
  | zero =>
    intro i hi
    refine ev_succ ?_
    simp only [spec_l2Stocks.l0]
    refine ev_neg (by omega) (ev_cast (ev_some _) ?_)
    rw [show i = a.length by omega]
  | succ d ih =>
    intro i hi
    have h1 := stk_in hc.2.2.2.2.1 hp he i (by omega)
    have h2 := rd_in hc.2.2.2.2.1 i (by omega)
    have h3 := rd_in hp i (by omega)
    refine ev_succ ?_
    simp only [spec_l2Stocks.l0, stks_length]
    have hw : wrap64 ((i : Int) + 1) = ((i + 1 : Nat) : Int) := by rw [wid (by omega) (by omega)]; omega
    have hs : wrap64 (wrap64 (stk a pl i + rd pl (i : Int)) - rd a (i : Int)) = stk a pl (i + 1) := by
      rw [wid (x := stk a pl i + rd pl (i : Int)) (by omega) (by omega), wid (by omega) (by omega)]
      show _ = stk a pl i + (rd pl (i : Int) - rd a (i : Int))
      omega
    rw [hw, hs, ← stks_succ]
    exact ev_pos (by omega) (ev_pos (by omega) (ev_pos (by omega) (ev_pos (by omega) (ih (i + 1) (by omega)))))
theorem specStocks_ev (he : pl.length = a.length) (hp : ∀ x ∈ pl, 0 ≤ x ∧ x ≤ 160) : Ev (fun k => spec_l2Stocks.f k a b c e pl) (stks a pl a.length) := by
  unfold spec_l2Stocks.f
  exact specStocks_l0 a b c e pl hc he hp a.length 0 (by omega)
theorem specPlan_l0 (he : pl.length = a.length) (hp : ∀ x ∈ pl, 0 ≤ x ∧ x ≤ 160) (d : Nat) : ∀ i : Nat, i + d = a.length → (∀ j : Nat, j < i → 0 ≤ stk a pl (j + 1)) →
    Ev (fun k => spec_l2Plan.l0 k (stks a pl a.length) (i : Int)) (decide (PlanOk a pl)) := by
  have h8 := hc.1
  induction d with
  | zero =>
    intro i hi hj
    refine ev_succ ?_
    simp only [spec_l2Plan.l0]
    have hs := stks_length a pl a.length
    refine ev_neg (by omega) ?_
    by_cases h0 : a.length = 0
    · exact ev_pos (by omega) (ev_true ⟨he, hp, fun j h => by omega, by rw [h0]; rfl⟩)
    · have e1 : wrap64 (((stks a pl a.length).length : Int) - 1) = ((a.length - 1 : Nat) : Int) := by rw [wid (by omega) (by omega)]; omega
      rw [e1, rd_stks a pl a.length (a.length - 1) (by omega), show a.length - 1 + 1 = a.length by omega]
      refine ev_neg (by omega) (ev_pos (by omega) (ev_pos (by omega) (ev_cast (ev_some _) ?_)))
      rw [Bool.eq_iff_iff]
      simp only [beq_iff_eq, decide_eq_true_eq]
      exact ⟨fun h => ⟨he, hp, fun j h => hj j (by omega), h⟩, fun h => h.2.2.2⟩
  | succ d ih =>
    intro i hi hj
    refine ev_succ ?_
    simp only [spec_l2Plan.l0]
    have hs := stks_length a pl a.length
    have hw : wrap64 ((i : Int) + 1) = ((i + 1 : Nat) : Int) := by rw [wid (by omega) (by omega)]; omega
    rw [hw, rd_stks a pl a.length i (by omega)]
    refine ev_pos (by omega) (ev_pos (by omega) ?_)
    by_cases h : stk a pl (i + 1) < 0
    · refine ev_pos h (ev_false fun p => ?_)
      have := p.2.2.1 i (by omega)
      omega
    · refine ev_neg h (ih (i + 1) (by omega) fun j h' => ?_)
      by_cases e : j = i
      · rw [e]; omega
      · exact hj j (by omega)
include hl
theorem specPlan_ev : Ev (fun k => spec_l2Plan.f k a b c e pl) (decide (PlanOk a pl)) := by
  unfold spec_l2Plan.f
  refine ev_bind (l2Row_ev pl _ 160 hl) ?_
  by_cases h : (∀ x ∈ pl, 0 ≤ x ∧ x ≤ 160) ∧ (pl.length : Int) = a.length
  · exact ev_pos (by simpa using h) (ev_bind (specStocks_ev a b c e pl hc (by omega) h.1) (specPlan_l0 a b c e pl hc (by omega) h.1 a.length 0 (by omega) (fun j h => by omega)))
  · exact ev_neg (by simpa using h) (ev_false fun p => h ⟨p.2.1, by have := p.1; omega⟩)
omit hl in
theorem implStocks_l0 (he : pl.length = a.length) (hp : ∀ x ∈ pl, 0 ≤ x ∧ x ≤ 160) (d : Nat) : ∀ i : Nat, i + d = a.length → (∀ j : Nat, j < i → 0 ≤ stk a pl (j + 1)) →
    ∃ r : List Int × Bool, Ev (fun k => impl_Case_stocks.l0 k (stks a pl i) (stk a pl i) pl (pl.length : Int) (i : Int) a b c e) r ∧ r.2 = decide (PlanOk a pl) ∧ (PlanOk a pl → r.1 = stks a pl a.length) := by
  have h8 := hc.1
  induction d with
  | zero =>
    intro i hi hj
    have e1 : i = a.length := by omega
    refine ⟨(stks a pl i, stk a pl i == 0), ev_succ ?_, ?_, fun _ => by rw [e1]⟩
    · simp only [impl_Case_stocks.l0]
      exact ev_neg (by omega) (ev_some _)
    · rw [Bool.eq_iff_iff]
      simp only [beq_iff_eq, decide_eq_true_eq]
      rw [e1]
      exact ⟨fun h => ⟨he, hp, fun j h => hj j (by omega), h⟩, fun h => h.2.2.2⟩
  | succ d ih =>
    intro i hi hj
    have h1 := stk_in hc.2.2.2.2.1 hp he i (by omega)
    have h2 := rd_in hc.2.2.2.2.1 i (by omega)
    have h3 := rd_in hp i (by omega)
    have hw : wrap64 ((i : Int) + 1) = ((i + 1 : Nat) : Int) := by rw [wid (by omega) (by omega)]; omega
    have hs : wrap64 (stk a pl i + wrap64 (rd pl (i : Int) - rd a (i : Int))) = stk a pl (i + 1) := by
      rw [wid (x := rd pl (i : Int) - rd a (i : Int)) (by omega) (by omega), wid (by omega) (by omega)]
      rfl
    by_cases h : stk a pl (i + 1) < 0
    · refine ⟨([], false), ev_succ ?_, ?_, fun p => ?_⟩
      · simp only [impl_Case_stocks.l0, stks_length]
        rw [hs]
        exact ev_pos (by omega) (ev_pos (by omega) (ev_pos (by omega) (ev_pos (by omega) (ev_pos h (ev_some _)))))
      · symm
        refine decide_eq_false fun p => ?_
        have := p.2.2.1 i (by omega)
        omega
      · have := p.2.2.1 i (by omega)
        omega
    · obtain ⟨r, hr, hr2⟩ := ih (i + 1) (by omega) (fun j h' => by
        by_cases e : j = i
        · rw [e]; omega
        · exact hj j (by omega))
      refine ⟨r, ev_succ ?_, hr2⟩
      simp only [impl_Case_stocks.l0, stks_length]
      rw [hs, hw, ← stks_succ]
      exact ev_pos (by omega) (ev_pos (by omega) (ev_pos (by omega) (ev_pos (by omega) (ev_neg h (ev_pos (by omega) hr)))))
theorem implStocks_ev : ∃ r : List Int × Bool, Ev (fun k => impl_Case_stocks.f k a b c e pl) r ∧ r.2 = decide (PlanOk a pl) ∧ (PlanOk a pl → r.1 = stks a pl a.length) := by
  unfold impl_Case_stocks.f
  by_cases h1 : (pl.length : Int) = (a.length : Int)
  · by_cases h2 : ∀ x ∈ pl, 0 ≤ x ∧ x ≤ 160
    · obtain ⟨r, hr, hr2⟩ := implStocks_l0 a b c e pl hc (by omega) h2 a.length 0 (by omega) (fun j h => by omega)
      refine ⟨r, ev_pos h1 (ev_bind (allWithin_ev pl 0 160 hl) (ev_succ ?_)), hr2⟩
      simp only [impl_Case_stocks.j0]
      exact ev_neg (by rw [decide_eq_true h2]; simp) hr
    · refine ⟨([], false), ev_pos h1 (ev_bind (allWithin_ev pl 0 160 hl) (ev_succ ?_)), (decide_eq_false fun p => h2 p.2.1).symm, fun p => absurd p.2.1 h2⟩
      simp only [impl_Case_stocks.j0]
      exact ev_pos (by rw [decide_eq_false h2]; rfl) (ev_some _)
  · refine ⟨([], false), ev_neg h1 (ev_succ ?_), (decide_eq_false fun p => h1 (by have := p.1; omega)).symm, fun p => absurd p.1 (by omega)⟩
    simp only [impl_Case_stocks.j0, if_true]
    exact ev_some _
end
theorem planned_ev (a b c e pl : List Int) (ha : a.length ≤ 35184372088832) (hb : b.length ≤ 35184372088832) (hc : c.length ≤ 35184372088832) (he : e.length ≤ 35184372088832) (hl : pl.length ≤ 35184372088832) :
    Ev (fun k => impl_planned.f k a b c e pl) (if CaseOk a b c e ∧ PlanOk a pl then (stks a pl a.length, true) else ([], false)) := by
  unfold impl_planned.f
  refine ev_bind (implCase_ev a b c e ha hb hc he) ?_
  by_cases h : CaseOk a b c e
  · obtain ⟨r, hr, hr2, hr1⟩ := implStocks_ev a b c e pl h hl
    refine ev_pos (by simpa using h) (ev_bind hr ?_)
    rw [hr2]
    by_cases p : PlanOk a pl
    · rw [hr1 p]
      exact ev_cast (ev_pos (by simpa using p) (ev_some _)) (if_pos ⟨h, p⟩).symm
    · exact ev_cast (ev_neg (by simpa using p) (ev_some _)) (if_neg fun x => p x.2).symm
  · exact ev_cast (ev_neg (by simpa using h) (ev_some _)) (if_neg fun x => h x.1).symm
def LimOk (a lim : List Int) : Prop := (lim.length : Int) = (a.length : Int) ∧ ∀ x ∈ lim, 0 ≤ x ∧ x ≤ 160
instance (a lim : List Int) : Decidable (LimOk a lim) := by unfold LimOk; infer_instance
theorem areLimits_ev (a b c e lim : List Int) (ha : a.length ≤ 35184372088832) (hb : b.length ≤ 35184372088832) (hc : c.length ≤ 35184372088832) (he : e.length ≤ 35184372088832) (hl : lim.length ≤ 35184372088832) :
    Ev (fun k => impl_areLimits.f k a b c e lim) (decide (CaseOk a b c e ∧ LimOk a lim)) := by
  unfold impl_areLimits.f LimOk
  exact ev_bind (implCase_ev a b c e ha hb hc he) (ev_and rfl fun h => ev_andp fun _ => ev_bind (allWithin_ev lim 0 160 hl) (ev_some _))
theorem l4Limits_ev (a b c e lim : List Int) (ha : a.length ≤ 35184372088832) (hb : b.length ≤ 35184372088832) (hc : c.length ≤ 35184372088832) (he : e.length ≤ 35184372088832) (hl : lim.length ≤ 35184372088832) :
    Ev (fun k => spec_l4Limits.f k a b c e lim) (decide (CaseOk a b c e ∧ LimOk a lim)) := by
  unfold spec_l4Limits.f
  refine ev_bind (specCase_ev a b c e ha hb hc he) (ev_and rfl fun h => ev_dec (ev_bind (l2Row_ev lim _ 160 hl) (ev_some _)) ?_)
  unfold LimOk
  exact and_comm
def Keeps (lim pl : List Int) : Prop := ∀ i : Nat, i < pl.length → ¬ rd pl (i : Int) > rd lim (i : Int)
instance (lim pl : List Int) : Decidable (Keeps lim pl) := by unfold Keeps; infer_instance
theorem l4Keeps_ev (lim pl : List Int) (he : pl.length = lim.length) (hl : pl.length ≤ 35184372088832) : Ev (fun k => spec_l4Keeps.f k lim pl) (decide (Keeps lim pl)) := by
  have key : ∀ (d i : Nat), i + d = pl.length → (∀ j : Nat, j < i → ¬ rd pl (j : Int) > rd lim (j : Int)) → Ev (fun k => spec_l4Keeps.l0 k lim pl (i : Int)) (decide (Keeps lim pl)) := by
    intro d
    induction d with
    | zero =>
      intro i hi hj
      refine ev_succ ?_
      simp only [spec_l4Keeps.l0]
      exact ev_neg (by omega) (ev_true fun j h => hj j (by omega))
    | succ d ih =>
      intro i hi hj
      refine ev_succ ?_
      simp only [spec_l4Keeps.l0]
      have hw : wrap64 ((i : Int) + 1) = ((i + 1 : Nat) : Int) := by rw [wid (by omega) (by omega)]; omega
      rw [hw]
      refine ev_pos (by omega) (ev_pos (by omega) (ev_pos (by omega) ?_))
      by_cases h : rd pl (i : Int) > rd lim (i : Int)
      · exact ev_pos h (ev_false fun p => p i (by omega) h)
      · refine ev_neg h (ih (i + 1) (by omega) fun j h' => ?_)
        by_cases e : j = i
        · rw [e]; exact h
        · exact hj j (by omega)
  unfold spec_l4Keeps.f
  exact key pl.length 0 (by omega) (fun j h => by omega)
theorem keeps_ev (lim pl : List Int) (he : pl.length = lim.length) (hl : pl.length ≤ 35184372088832) : Ev (fun k => impl_keeps.f k pl lim) (decide (Keeps lim pl)) := by
  have key : ∀ (d i : Nat), i + d = pl.length → (∀ j : Nat, j < i → ¬ rd pl (j : Int) > rd lim (j : Int)) → Ev (fun k => impl_keeps.l0 k lim pl (pl.length : Int) (i : Int)) (decide (Keeps lim pl)) := by
    intro d
    induction d with
    | zero =>
      intro i hi hj
      refine ev_succ ?_
      simp only [impl_keeps.l0]
      exact ev_neg (by omega) (ev_true fun j h => hj j (by omega))
    | succ d ih =>
      intro i hi hj
      refine ev_succ ?_
      simp only [impl_keeps.l0]
      have hw : wrap64 ((i : Int) + 1) = ((i + 1 : Nat) : Int) := by rw [wid (by omega) (by omega)]; omega
      rw [hw]
      refine ev_pos (by omega) (ev_pos (by omega) (ev_pos (by omega) (ev_pos (by omega) ?_)))
      by_cases h : rd pl (i : Int) > rd lim (i : Int)
      · exact ev_pos h (ev_false fun p => p i (by omega) h)
      · refine ev_neg h (ih (i + 1) (by omega) fun j h' => ?_)
        by_cases e : j = i
        · rw [e]; exact h
        · exact hj j (by omega)
  unfold impl_keeps.f
  exact key pl.length 0 (by omega) (fun j h => by omega)
def partL (lim pl : List Int) : Nat → Nat → List Int → List Int
  | 0, _, s => s
  | d + 1, i, s => partL lim pl d (i + 1) (if rd pl (i : Int) > 0 ∧ rd pl (i : Int) < rd lim (i : Int) then s ++ [(i : Int)] else s)
theorem partL_len (lim pl : List Int) (d : Nat) : ∀ (i : Nat) (s : List Int), (partL lim pl d i s).length ≤ s.length + d := by
  induction d with
  | zero => intro i s; simp [partL]
  | succ d ih =>
    intro i s
    have h := ih (i + 1) (if rd pl (i : Int) > 0 ∧ rd pl (i : Int) < rd lim (i : Int) then s ++ [(i : Int)] else s)
    simp only [partL]
    split at h
    · rename_i c; rw [if_pos c]; simp only [List.length_append, List.length_cons, List.length_nil] at h; omega
    · rename_i c; rw [if_neg c]; omega
theorem spec_l0p (lim pl : List Int) (he : pl.length = lim.length) (hl : pl.length ≤ 1000000) (d : Nat) : ∀ (i : Nat) (s : List Int), i + d = pl.length → s.length ≤ i → Ev (fun k => spec_l4Partial.l0 k lim pl s (i : Int)) (partL lim pl d i s) := by
  induction d with
  | zero =>
    intro i s hi hs
    refine ev_succ ?_
    simp only [spec_l4Partial.l0, partL]
    exact ev_neg (by omega) (ev_some _)
  | succ d ih =>
    intro i s hi hs
    have hw : wrap64 ((i : Int) + 1) = ((i + 1 : Nat) : Int) := by rw [wid (by omega) (by omega)]; omega
    refine ev_succ ?_
    simp only [spec_l4Partial.l0, partL]
    rw [hw]
    refine ev_pos (by omega) (ev_pos (by omega) ?_)
    by_cases c1 : rd pl (i : Int) > 0
    · refine ev_pos c1 (ev_pos (by omega) ?_)
      by_cases c2 : rd pl (i : Int) < rd lim (i : Int)
      · rw [if_pos ⟨c1, c2⟩]
        exact ev_pos c2 (ev_pos (by omega) (ih (i + 1) _ (by omega) (by simp; omega)))
      · rw [if_neg fun h => c2 h.2]
        exact ev_neg c2 (ih (i + 1) _ (by omega) (by omega))
    · rw [if_neg fun h => c1 h.1]
      exact ev_neg c1 (ih (i + 1) _ (by omega) (by omega))
theorem impl_l0p (lim pl : List Int) (he : pl.length = lim.length) (hl : pl.length ≤ 1000000) (d : Nat) : ∀ (i : Nat) (s : List Int), i + d = pl.length → s.length ≤ i → Ev (fun k => impl_partials.l0 k lim s pl (pl.length : Int) (i : Int)) (partL lim pl d i s) := by
  induction d with
  | zero =>
    intro i s hi hs
    refine ev_succ ?_
    simp only [impl_partials.l0, partL]
    exact ev_neg (by omega) (ev_some _)
  | succ d ih =>
    intro i s hi hs
    have hw : wrap64 ((i : Int) + 1) = ((i + 1 : Nat) : Int) := by rw [wid (by omega) (by omega)]; omega
    refine ev_succ ?_
    simp only [impl_partials.l0, partL]
    rw [hw]
    refine ev_pos (by omega) (ev_pos (by omega) (ev_pos (by omega) ?_))
    by_cases c1 : rd pl (i : Int) > 0
    · refine ev_pos c1 (ev_pos (by omega) ?_)
      by_cases c2 : rd pl (i : Int) < rd lim (i : Int)
      · rw [if_pos ⟨c1, c2⟩]
        exact ev_pos c2 (ev_pos (by omega) (ih (i + 1) _ (by omega) (by simp; omega)))
      · rw [if_neg fun h => c2 h.2]
        exact ev_neg c2 (ih (i + 1) _ (by omega) (by omega))
    · rw [if_neg fun h => c1 h.1]
      exact ev_neg c1 (ih (i + 1) _ (by omega) (by omega))
def KOk (a b c e lim pl : List Int) : Prop := CaseOk a b c e ∧ LimOk a lim ∧ PlanOk a pl ∧ Keeps lim pl
instance (a b c e lim pl : List Int) : Decidable (KOk a b c e lim pl) := by unfold KOk; infer_instance
section
variable (a b c e lim pl : List Int) (h0 : a.length ≤ 35184372088832) (h1 : b.length ≤ 35184372088832) (h2 : c.length ≤ 35184372088832) (h3 : e.length ≤ 35184372088832) (hp : lim.length ≤ 35184372088832) (hq : pl.length ≤ 35184372088832)
include h0 h1 h2 h3 hp hq
theorem spec_keeps : Ev (fun k => spec_KeepsLimits.f k a b c e lim pl) (if CaseOk a b c e ∧ LimOk a lim ∧ PlanOk a pl then (decide (Keeps lim pl), true) else (false, false)) := by
  unfold spec_KeepsLimits.f
  refine ev_bind (l4Limits_ev a b c e lim h0 h1 h2 h3 hp) ?_
  by_cases hc : CaseOk a b c e ∧ LimOk a lim
  · refine ev_pos (by simpa using hc) (ev_bind (specPlan_ev a b c e pl hc.1 hq) ?_)
    by_cases p : PlanOk a pl
    · rw [if_pos ⟨hc.1, hc.2, p⟩]
      exact ev_pos (by simpa using p) (ev_bind (l4Keeps_ev lim pl (by have := p.1; have := hc.2.1; omega) hq) (ev_some _))
    · rw [if_neg fun x => p x.2.2]
      exact ev_neg (by simpa using p) (ev_some _)
  · rw [if_neg fun x => hc ⟨x.1, x.2.1⟩]
    exact ev_neg (by simpa using hc) (ev_some _)
theorem spec_kept : Ev (fun k => spec_l4Kept.f k a b c e lim pl) (decide (KOk a b c e lim pl)) := by
  unfold spec_l4Kept.f
  refine ev_bind (spec_keeps a b c e lim pl h0 h1 h2 h3 hp hq) ?_
  by_cases hc : CaseOk a b c e ∧ LimOk a lim ∧ PlanOk a pl
  · rw [if_pos hc]
    by_cases hk : Keeps lim pl
    · exact ev_cast (ev_pos (decide_eq_true hk) (ev_some _)) (decide_eq_true ⟨hc.1, hc.2.1, hc.2.2, hk⟩).symm
    · exact ev_neg (by rw [decide_eq_true_eq]; exact hk) (ev_false fun x => hk x.2.2.2)
  · rw [if_neg hc]
    exact ev_neg (by simp) (ev_false fun x => hc ⟨x.1, x.2.1, x.2.2.1⟩)
theorem impl_kept_ev : Ev (fun k => impl_kept.f k a b c e lim pl) (if KOk a b c e lim pl then (stks a pl a.length, true) else ([], false)) := by
  unfold impl_kept.f
  refine ev_bind (planned_ev a b c e pl h0 h1 h2 h3 hq) ?_
  by_cases hc : CaseOk a b c e ∧ PlanOk a pl
  · rw [if_pos hc]
    refine ev_pos rfl (ev_bind (areLimits_ev a b c e lim h0 h1 h2 h3 hp) ?_)
    by_cases p : LimOk a lim
    · refine ev_pos (by simpa using And.intro hc.1 p) (ev_bind (keeps_ev lim pl (by have := p.1; have := hc.2.1; omega) hq) ?_)
      by_cases hk : Keeps lim pl
      · rw [if_pos (show KOk a b c e lim pl from ⟨hc.1, p, hc.2, hk⟩)]
        exact ev_pos (decide_eq_true hk) (ev_some _)
      · rw [if_neg (fun x : KOk a b c e lim pl => hk x.2.2.2)]
        exact ev_neg (by rw [decide_eq_true_eq]; exact hk) (ev_some _)
    · rw [if_neg (fun x : KOk a b c e lim pl => p x.2.1)]
      exact ev_neg (by simpa using fun _ => p) (ev_some _)
  · rw [if_neg hc, if_neg (fun x : KOk a b c e lim pl => hc ⟨x.1, x.2.2.1⟩)]
    exact ev_neg (by simp) (ev_some _)
end

/-- A list of places, in order. -/
def Ord (n : Nat) (s : List Int) : Prop := s.Pairwise (· ≤ ·) ∧ ∀ x ∈ s, 0 ≤ x ∧ x < (n : Int)
theorem partL_ord (lim pl : List Int) (d : Nat) : ∀ (i : Nat) (s : List Int), Ord i s → Ord (i + d) (partL lim pl d i s) := by
  induction d with
  | zero => intro i s h; exact h
  | succ d ih =>
    intro i s h
    simp only [partL]
    rw [show i + (d + 1) = (i + 1) + d by omega]
    refine ih (i + 1) _ ?_
    split
    · refine ⟨List.pairwise_append.mpr ⟨h.1, List.pairwise_singleton _ _, fun x hx y hy => ?_⟩, fun x hx => ?_⟩
      · rw [List.mem_singleton.mp hy]
        have := h.2 x hx
        omega
      · rcases List.mem_append.mp hx with hx | hx
        · have := h.2 x hx
          omega
        · rw [List.mem_singleton.mp hx]
          omega
    · refine ⟨h.1, fun x hx => ?_⟩
      have := h.2 x hx
      omega
theorem ord_at {n : Nat} {L : List Int} (h : Ord n L) (i : Nat) (h0 : 0 < i) (hi : i < L.length) : 0 ≤ rd L ((i - 1 : Nat) : Int) ∧ rd L ((i - 1 : Nat) : Int) ≤ rd L (i : Int) ∧ rd L (i : Int) ≤ (n : Int) := by
  have h1 := h.2 _ (List.getElem_mem (l := L) (n := i - 1) (by omega))
  have h2 := h.2 _ (List.getElem_mem (l := L) (n := i) hi)
  have h3 := List.pairwise_iff_getElem.mp h.1 (i - 1) i (by omega) hi (by omega)
  rw [rd_nat L (i - 1) (by omega), rd_nat L i hi]
  omega
/-- An empty stock is found from a place on. -/
def emp (S : List Int) : Nat → Nat → Bool → Bool
  | 0, _, u => u
  | d + 1, j, u => emp S d (j + 1) (if u = true then true else (rd S (j : Int) == 0))
def lo (L : List Int) (i : Nat) : Nat := (rd L ((i - 1 : Nat) : Int)).toNat
def hiT (L : List Int) (i : Nat) : Nat := (rd L (i : Int)).toNat
def regB (S L : List Int) : Nat → Nat → Bool
  | 0, _ => true
  | d + 1, i => if emp S (hiT L i - lo L i) (lo L i) false = true then regB S L d (i + 1) else false
section
variable {S L : List Int} (hL : Ord S.length L) (h8 : S.length ≤ 1000000) (hl : L.length ≤ 1048576)
include hL h8 hl
theorem spec_l1 (i : Nat) (h0 : 0 < i) (hi : i < L.length) {R : Bool} (hc : Ev (fun k => if emp S (hiT L i - lo L i) (lo L i) false = true then spec_l4Regular.l0 k L S ((i + 1 : Nat) : Int) else some false) R) (d : Nat) : ∀ (j : Nat) (u : Bool), j + d = hiT L i → emp S d j u = emp S (hiT L i - lo L i) (lo L i) false → Ev (fun k => spec_l4Regular.l1 k L S (i : Int) u (j : Int)) R := by
  have o := ord_at hL i h0 hi
  have eh : ((hiT L i : Nat) : Int) = rd L (i : Int) := by unfold hiT; omega
  have hwi : wrap64 ((i : Int) + 1) = ((i + 1 : Nat) : Int) := by rw [wid (by omega) (by omega)]; omega
  induction d with
  | zero =>
    intro j u hj hu
    simp only [emp] at hu
    rw [← hu] at hc
    refine ev_succ ?_
    simp only [spec_l4Regular.l1]
    rw [hwi]
    exact ev_pos (by omega) (ev_pos (by omega) (ev_neg (by omega) hc))
  | succ d ih =>
    intro j u hj hu
    have hw : wrap64 ((j : Int) + 1) = ((j + 1 : Nat) : Int) := by rw [wid (by omega) (by omega)]; omega
    simp only [emp] at hu
    refine ev_succ ?_
    simp only [spec_l4Regular.l1]
    rw [hw]
    refine ev_pos (by omega) (ev_pos (by omega) (ev_pos (by omega) ?_))
    by_cases c : u = true
    · rw [if_pos c] at hu
      exact ev_pos c (ih (j + 1) true (by omega) hu)
    · rw [if_neg c] at hu
      exact ev_neg c (ev_pos (by omega) (ev_pos (by omega) (ih (j + 1) _ (by omega) hu)))
theorem spec_l0 (d : Nat) : ∀ i : Nat, 0 < i → i + d = L.length → Ev (fun k => spec_l4Regular.l0 k L S (i : Int)) (regB S L d i) := by
  induction d with
  | zero =>
    intro i h0 hi
    refine ev_succ ?_
    simp only [spec_l4Regular.l0, regB]
    exact ev_neg (by omega) (ev_some _)
  | succ d ih =>
    intro i h0 hi
    have o := ord_at hL i h0 (by omega)
    have hw : wrap64 ((i : Int) - 1) = ((i - 1 : Nat) : Int) := by rw [wid (by omega) (by omega)]; omega
    have el : rd L ((i - 1 : Nat) : Int) = ((lo L i : Nat) : Int) := by unfold lo; omega
    refine ev_succ ?_
    simp only [spec_l4Regular.l0]
    rw [hw, el]
    refine ev_pos (by omega) (ev_pos (by omega) (ev_pos (by omega) (spec_l1 hL h8 hl i h0 (by omega) ?_ (hiT L i - lo L i) (lo L i) false (by unfold lo hiT; omega) rfl)))
    simp only [regB]
    by_cases c : emp S (hiT L i - lo L i) (lo L i) false = true
    · rw [if_pos c]
      exact ev_pos c (ih (i + 1) (by omega) (by omega))
    · rw [if_neg c]
      exact ev_neg c (ev_some _)
omit hL h8 hl in
theorem impl_l1 (i : Nat) (A n : Nat) (hB : A + n ≤ S.length) (hS : S.length ≤ 1000000) (hwi : wrap64 ((i : Int) + 1) = ((i + 1 : Nat) : Int)) {R : Bool × Bool} (hc : Ev (fun k => if emp S n A false = true then impl_IsRegular.l0 k S L ((i + 1 : Nat) : Int) else some (false, true)) R) (Y : List Int) (hY : Y.length = n) (hr : ∀ q : Nat, q < n → rd Y (q : Int) = rd S ((A + q : Nat) : Int)) (d : Nat) : ∀ (q : Nat) (u : Bool), q + d = n → emp S d (A + q) u = emp S n A false → Ev (fun k => impl_IsRegular.l1 k S L (i : Int) u Y (Y.length : Int) (q : Int)) R := by
  induction d with
  | zero =>
    intro q u hj hu
    simp only [emp] at hu
    rw [← hu] at hc
    refine ev_succ ?_
    simp only [impl_IsRegular.l1]
    rw [hwi]
    exact ev_neg (by omega) hc
  | succ d ih =>
    intro q u hj hu
    have hw : wrap64 ((q : Int) + 1) = ((q + 1 : Nat) : Int) := by rw [wid (by omega) (by omega)]; omega
    have er := hr q (by omega)
    have f1 : (q : Int) < (Y.length : Int) := by omega
    have f2 : 0 ≤ (q : Int) := by omega
    have f3 : q + 1 + d = n := by omega
    simp only [emp] at hu
    refine ev_succ ?_
    simp only [impl_IsRegular.l1]
    rw [hw, er]
    refine ev_pos f1 (ev_pos f2 (ev_pos f1 ?_))
    by_cases c : u = true
    · rw [if_pos c] at hu
      exact ev_pos c (ih (q + 1) true f3 hu)
    · rw [if_neg c] at hu
      exact ev_neg c (ih (q + 1) _ f3 hu)
theorem impl_l0 (d : Nat) : ∀ i : Nat, 0 < i → i + d = L.length → Ev (fun k => impl_IsRegular.l0 k S L (i : Int)) (regB S L d i, true) := by
  induction d with
  | zero =>
    intro i h0 hi
    refine ev_succ ?_
    simp only [impl_IsRegular.l0, regB]
    exact ev_neg (by omega) (ev_some _)
  | succ d ih =>
    intro i h0 hi
    have o := ord_at hL i h0 (by omega)
    have hw : wrap64 ((i : Int) - 1) = ((i - 1 : Nat) : Int) := by rw [wid (by omega) (by omega)]; omega
    refine ev_succ ?_
    simp only [impl_IsRegular.l0, Option.bind_some]
    rw [hw]
    refine ev_pos (by omega) (ev_pos (by omega) (ev_pos (by omega) (ev_pos (by omega) (ev_pos o.1 (ev_pos o.2.1 (ev_pos o.2.2 ?_))))))
    have hAn : lo L i + (hiT L i - lo L i) = hiT L i := by unfold lo hiT; omega
    have hB : hiT L i ≤ S.length := by unfold hiT; omega
    have hY : ((S.take (hiT L i)).drop (lo L i)).length = hiT L i - lo L i := by rw [List.length_drop, List.length_take, Nat.min_eq_left hB]
    have hwi : wrap64 ((i : Int) + 1) = ((i + 1 : Nat) : Int) := by rw [wid (by omega) (by omega)]; omega
    have hr : ∀ q : Nat, q < hiT L i - lo L i → rd ((S.take (hiT L i)).drop (lo L i)) (q : Int) = rd S ((lo L i + q : Nat) : Int) := fun q hq => by
      rw [rd_nat _ q (by rw [hY]; exact hq), rd_nat S (lo L i + q) (by omega), List.getElem_drop, List.getElem_take]
    clear o hw
    refine impl_l1 i (lo L i) (hiT L i - lo L i) (by rw [hAn]; exact hB) h8 hwi ?_ _ hY hr (hiT L i - lo L i) 0 false (Nat.zero_add _) (by rw [Nat.add_zero])
    simp only [regB]
    by_cases c : emp S (hiT L i - lo L i) (lo L i) false = true
    · rw [if_pos c]
      exact ev_pos c (ih (i + 1) (by omega) (by omega))
    · rw [if_neg c]
      exact ev_neg c (ev_some _)
end
def ans (a b c e lim pl : List Int) : Bool × Bool := if KOk a b c e lim pl then (regB (stks a pl a.length) (partL lim pl pl.length 0 []) ((partL lim pl pl.length 0 []).length - 1) 1, true) else (false, false)
theorem reg0 {L : List Int} (h : L.length = 0) (S : List Int) : Ev (fun k => spec_l4Regular.l0 k L S 1) true ∧ Ev (fun k => impl_IsRegular.l0 k S L 1) (true, true) := by
  refine ⟨ev_succ ?_, ev_succ ?_⟩
  · simp only [spec_l4Regular.l0]
    exact ev_neg (by omega) (ev_some _)
  · simp only [impl_IsRegular.l0]
    exact ev_neg (by omega) (ev_some _)
section
variable (a b c e lim pl : List Int) (h0 : a.length ≤ 35184372088832) (h1 : b.length ≤ 35184372088832) (h2 : c.length ≤ 35184372088832) (h3 : e.length ≤ 35184372088832) (hp : lim.length ≤ 35184372088832) (hq : pl.length ≤ 35184372088832)
include h0 h1 h2 h3 hp hq
theorem spec_ans : Ev (fun k => spec_IsRegular.f k a b c e lim pl) (ans a b c e lim pl) := by
  unfold spec_IsRegular.f ans
  refine ev_bind (spec_kept a b c e lim pl h0 h1 h2 h3 hp hq) ?_
  by_cases hk : KOk a b c e lim pl
  · rw [if_pos hk]
    have g1 := hk.1.1
    have g2 := hk.2.1.1
    have g3 := hk.2.2.1.1
    have hL : Ord (stks a pl a.length).length (partL lim pl pl.length 0 []) := by
      rw [stks_length, ← g3]
      have h := partL_ord lim pl pl.length 0 [] ⟨List.Pairwise.nil, by simp⟩
      rwa [Nat.zero_add] at h
    have hle := partL_len lim pl pl.length 0 []
    refine ev_pos (decide_eq_true hk) (ev_bind (a := regB (stks a pl a.length) (partL lim pl pl.length 0 []) ((partL lim pl pl.length 0 []).length - 1) 1) ?_ (ev_some _))
    unfold spec_l4Regular.f
    refine ev_bind (g := fun k => spec_l4Partial.f k lim pl) (a := partL lim pl pl.length 0 []) ?_ (ev_bind (specStocks_ev a b c e pl hk.1 g3 hk.2.2.1.2.1) ?_)
    · unfold spec_l4Partial.f
      exact spec_l0p lim pl (by omega) (by omega) pl.length 0 [] (by omega) (by simp)
    · generalize partL lim pl pl.length 0 [] = L at hL hle
      by_cases hz : L.length = 0
      · have r := (reg0 hz (stks a pl a.length)).1
        rw [hz]
        exact r
      · exact spec_l0 hL (by rw [stks_length]; omega) (by simp at hle; omega) (L.length - 1) 1 (by omega) (by omega)
  · rw [if_neg hk]
    exact ev_neg (by rw [decide_eq_true_eq]; exact hk) (ev_some _)
theorem impl_ans : Ev (fun k => impl_IsRegular.f k a b c e lim pl) (ans a b c e lim pl) := by
  unfold impl_IsRegular.f ans
  refine ev_bind (impl_kept_ev a b c e lim pl h0 h1 h2 h3 hp hq) ?_
  by_cases hk : KOk a b c e lim pl
  · rw [if_pos hk, if_pos hk]
    have g1 := hk.1.1
    have g2 := hk.2.1.1
    have g3 := hk.2.2.1.1
    have hL : Ord (stks a pl a.length).length (partL lim pl pl.length 0 []) := by
      rw [stks_length, ← g3]
      have h := partL_ord lim pl pl.length 0 [] ⟨List.Pairwise.nil, by simp⟩
      rwa [Nat.zero_add] at h
    have hle := partL_len lim pl pl.length 0 []
    refine ev_pos rfl (ev_bind (g := fun k => impl_partials.f k lim pl) (a := partL lim pl pl.length 0 []) ?_ ?_)
    · unfold impl_partials.f
      exact impl_l0p lim pl (by omega) (by omega) pl.length 0 [] (by omega) (by simp)
    · generalize partL lim pl pl.length 0 [] = L at hL hle
      by_cases hz : L.length = 0
      · have r := (reg0 hz (stks a pl a.length)).2
        rw [hz]
        exact r
      · exact impl_l0 hL (by rw [stks_length]; omega) (by simp at hle; omega) (L.length - 1) 1 (by omega) (by omega)
  · rw [if_neg hk, if_neg hk]
    exact ev_neg (by simp) (ev_some _)
end
theorem FnExactIsRegular (l0_0 : List Int) (l0_1 : List Int) (l0_2 : List Int) (l0_3 : List Int) (l1 : List Int) (l2 : List Int) (hl0_0 : l0_0.length ≤ maxLen) (hw0_0 : ∀ x ∈ l0_0, (Lit.int .i64 x).wf = true) (hl0_1 : l0_1.length ≤ maxLen) (hw0_1 : ∀ x ∈ l0_1, (Lit.int .i64 x).wf = true) (hl0_2 : l0_2.length ≤ maxLen) (hw0_2 : ∀ x ∈ l0_2, (Lit.int .i64 x).wf = true) (hl0_3 : l0_3.length ≤ maxLen) (hw0_3 : ∀ x ∈ l0_3, (Lit.int .i64 x).wf = true) (hl1 : l1.length ≤ maxLen) (hw1 : ∀ x ∈ l1, (Lit.int .i64 x).wf = true) (hl2 : l2.length ≤ maxLen) (hw2 : ∀ x ∈ l2, (Lit.int .i64 x).wf = true) :
    ∃ k, laws_FnExactIsRegular.f k l0_0 l0_1 l0_2 l0_3 l1 l2 = some true := by
  refine Ev.rounds ?_
  unfold laws_FnExactIsRegular.f
  by_cases c0 : (l1.length : Int) > 1048576
  · exact ev_pos c0 (ev_some _)
  refine ev_neg c0 ?_
  by_cases c1 : (l2.length : Int) > 1048576
  · exact ev_pos c1 (ev_some _)
  refine ev_neg c1 ?_
  obtain ⟨r, hr, hz⟩ := szCase_eq l0_0 l0_1 l0_2 l0_3 1048576 (by omega) (by omega) hl0_0 hl0_1 hl0_2 hl0_3
  simp only [hr, Option.bind_some]
  by_cases c : r < 0
  · exact ev_pos c (ev_some _)
  have hz := hz (by omega)
  have h0 : l0_0.length ≤ 35184372088832 := by omega
  have h1 : l0_1.length ≤ 35184372088832 := by omega
  have h2 : l0_2.length ≤ 35184372088832 := by omega
  have h3 : l0_3.length ≤ 35184372088832 := by omega
  have hp : l1.length ≤ 35184372088832 := by omega
  have hq : l2.length ≤ 35184372088832 := by omega
  have hto := toCase_ev l0_0 l0_1 l0_2 l0_3 h0 h1 h2 h3
  have hpl := toIntS_ev l1 hp
  have hql := toIntS_ev l2 hq
  have hS := spec_ans l0_0 l0_1 l0_2 l0_3 l1 l2 h0 h1 h2 h3 hp hq
  have hI := impl_ans l0_0 l0_1 l0_2 l0_3 l1 l2 h0 h1 h2 h3 hp hq
  refine ev_neg c (ev_bind hto (ev_bind hpl (ev_bind hql (ev_bind hS (ev_bind hto (ev_bind hpl (ev_bind hql (ev_bind hI (ev_neg (by simp) (ev_neg (by simp) ?_))))))))))
  exact ev_bind hto (ev_bind (eqCase_ev l0_0 l0_1 l0_2 l0_3 h0 h1 h2 h3) (ev_pos rfl (ev_bind hpl (ev_bind (eqIntS_ev l1 l1 hp) (ev_pos (by simp) (ev_bind hql (ev_bind (eqIntS_ev l2 l2 hq) (ev_pos (by simp) (ev_some _)))))))))

end Go.Proofs.Ytggnlljdfncnfaa.Pure
