/- The program's CostParts and the reference's decide the same conditions on a case and a plan, and add the same three sums. No conditions. -/
import Derived.Test.YtbmhgjfjociehaaKit
import Derived.Test.YtbmhgjfjociehaaXFnExactCostPartsx6
namespace Go.Proofs.Ytbmhgjfjociehaa.Pure
set_option linter.unusedVariables false
open Go.RowKit Go.Proofs.Ytbmhgjfjociehaa.PFnExactCostParts Go.Proofs.YtbmhgjfjociehaaW.PrintWords Go.Proofs.YtbmhgjfjociehaaW.PrintLast Go.Proofs.Ytbmhgjfjociehaa.Kit

theorem in_eq (a b c : Int) : spec_l1In.f a b c = some (decide (b ≤ a ∧ a ≤ c)) := by
  unfold spec_l1In.f
  by_cases h : b ≤ a <;> simp [h]
theorem within_eq (a b c : Int) : impl_within.f a b c = some (decide (b ≤ a ∧ a ≤ c)) := by
  unfold impl_within.f
  by_cases h : b ≤ a <;> simp [h]
theorem toIntS_l0 (xs : List Int) (hn : xs.length ≤ 35184372088832) (d : Nat) : ∀ (i : Nat) (ys : List Int), i + d = xs.length → ys.length = xs.length → ys.take i = xs.take i →
    Ev (fun k => laws_toIntS.l0 k xs ys (i : Int)) xs := by
  induction d with
  | zero =>
    intro i ys hi hl ht
    refine ev_succ ?_
    simp only [laws_toIntS.l0]
    refine ev_neg (by omega) ?_
    rw [List.take_of_length_le (by omega), List.take_of_length_le (by omega)] at ht
    rw [ht]
    exact ev_some _
  | succ d ih =>
    intro i ys hi hl ht
    refine ev_succ ?_
    simp only [laws_toIntS.l0]
    refine ev_pos (by omega) (ev_pos (by omega) (ev_pos (by omega) ?_))
    have hw : wrap64 ((i : Int) + 1) = ((i + 1 : Nat) : Int) := by rw [wid (by omega) (by omega)]; omega
    rw [hw]
    refine ih (i + 1) _ (by omega) (by simpa using hl) ?_
    rw [rd_nat xs i (by omega), Int.toNat_natCast, List.take_succ_eq_append_getElem (by simp; omega), List.take_succ_eq_append_getElem (by omega), List.getElem_set_self, List.take_set_of_le (by omega), ht]
theorem toIntS_ev (xs : List Int) (hn : xs.length ≤ 35184372088832) : Ev (fun k => laws_toIntS.f k xs) xs := by
  unfold laws_toIntS.f
  refine ev_pos (by omega) (ev_pos (by omega) ?_)
  exact toIntS_l0 xs hn xs.length 0 _ (by omega) (by simp) rfl
theorem eqIntS_l0 (xs ys : List Int) (hn : xs.length ≤ 35184372088832) (hl : ys.length = xs.length) (d : Nat) : ∀ (i : Nat), i + d = xs.length →
    Ev (fun k => laws_eqIntS.l0 k xs ys (i : Int)) (decide (xs.drop i = ys.drop i)) := by
  induction d with
  | zero =>
    intro i hi
    refine ev_succ ?_
    simp only [laws_eqIntS.l0]
    refine ev_neg (by omega) ?_
    rw [List.drop_of_length_le (by omega), List.drop_of_length_le (by omega)]
    exact ev_some _
  | succ d ih =>
    intro i hi
    refine ev_succ ?_
    simp only [laws_eqIntS.l0]
    refine ev_pos (by omega) (ev_pos (by omega) (ev_pos (by omega) ?_))
    have hw : wrap64 ((i : Int) + 1) = ((i + 1 : Nat) : Int) := by rw [wid (by omega) (by omega)]; omega
    rw [hw, drop_rd xs i (by omega), drop_rd ys i (by omega)]
    by_cases h : rd xs i = rd ys i
    · refine ev_pos h (ev_cast (ih (i + 1) (by omega)) ?_)
      simp [h]
    · refine ev_neg h (ev_cast (ev_some false) ?_)
      simp [h]
theorem eqIntS_ev (xs ys : List Int) (hn : xs.length ≤ 35184372088832) : Ev (fun k => laws_eqIntS.f k xs ys) (decide (xs = ys)) := by
  unfold laws_eqIntS.f
  by_cases h : xs.length = ys.length
  · refine ev_pos (by omega) (ev_cast (eqIntS_l0 xs ys hn h.symm xs.length 0 (by omega)) (by simp))
  · refine ev_neg (by omega) (ev_cast (ev_some false) ?_)
    have : xs ≠ ys := fun e => h (by rw [e])
    simp [this]
theorem allWithin_l0 (lo up : Int) (xs : List Int) (hn : xs.length ≤ 35184372088832) (d : Nat) : ∀ (i : Nat), i + d = xs.length →
    Ev (fun k => impl_allWithin.l0 k lo up xs (xs.length : Int) (i : Int)) (decide (∀ x ∈ xs.drop i, lo ≤ x ∧ x ≤ up)) := by
  induction d with
  | zero =>
    intro i hi
    refine ev_succ ?_
    simp only [impl_allWithin.l0]
    refine ev_neg (by omega) ?_
    rw [List.drop_of_length_le (by omega)]
    exact ev_cast (ev_some true) (by simp)
  | succ d ih =>
    intro i hi
    refine ev_succ ?_
    simp only [impl_allWithin.l0, within_eq, Option.bind_some]
    refine ev_pos (by omega) (ev_pos (by omega) (ev_pos (by omega) ?_))
    have hw : wrap64 ((i : Int) + 1) = ((i + 1 : Nat) : Int) := by rw [wid (by omega) (by omega)]; omega
    rw [hw, drop_rd xs i (by omega)]
    by_cases h : lo ≤ rd xs i ∧ rd xs i ≤ up
    · refine ev_pos (by simpa using h) (ev_cast (ih (i + 1) (by omega)) ?_)
      simp [h]
    · refine ev_neg (by simpa using h) (ev_cast (ev_some false) ?_)
      symm
      simp only [decide_eq_false_iff_not, List.mem_cons]
      exact fun hh => h (hh _ (Or.inl rfl))
theorem allWithin_ev (xs : List Int) (lo hi : Int) (hn : xs.length ≤ 35184372088832) : Ev (fun k => impl_allWithin.f k xs lo hi) (decide (∀ x ∈ xs, lo ≤ x ∧ x ≤ hi)) := by
  unfold impl_allWithin.f
  exact allWithin_l0 lo hi xs hn xs.length 0 (by omega)
theorem l2Row_l0 (n up : Int) (xs : List Int) (hn : xs.length ≤ 35184372088832) (d : Nat) : ∀ (i : Nat), i + d = xs.length →
    Ev (fun k => spec_l2Row.l0 k xs n up (i : Int)) (decide ((∀ x ∈ xs.drop i, 0 ≤ x ∧ x ≤ up) ∧ (xs.length : Int) = n)) := by
  induction d with
  | zero =>
    intro i hi
    refine ev_succ ?_
    simp only [spec_l2Row.l0]
    refine ev_neg (by omega) ?_
    rw [List.drop_of_length_le (by omega)]
    refine ev_cast (ev_some _) ?_
    rw [Bool.eq_iff_iff]
    simp
  | succ d ih =>
    intro i hi
    refine ev_succ ?_
    simp only [spec_l2Row.l0, in_eq, Option.bind_some]
    refine ev_pos (by omega) (ev_pos (by omega) ?_)
    have hw : wrap64 ((i : Int) + 1) = ((i + 1 : Nat) : Int) := by rw [wid (by omega) (by omega)]; omega
    rw [hw, drop_rd xs i (by omega)]
    by_cases h : 0 ≤ rd xs i ∧ rd xs i ≤ up
    · refine ev_pos (by simpa using h) (ev_cast (ih (i + 1) (by omega)) ?_)
      simp [h]
    · refine ev_neg (by simpa using h) (ev_cast (ev_some false) ?_)
      symm
      simp only [decide_eq_false_iff_not, List.mem_cons]
      exact fun hh => h (hh.1 _ (Or.inl rfl))
theorem l2Row_ev (xs : List Int) (n up : Int) (hn : xs.length ≤ 35184372088832) : Ev (fun k => spec_l2Row.f k xs n up) (decide ((∀ x ∈ xs, 0 ≤ x ∧ x ≤ up) ∧ (xs.length : Int) = n)) := by
  unfold spec_l2Row.f
  exact l2Row_l0 n up xs hn xs.length 0 (by omega)
theorem szIntS_eq (xs : List Int) (a : Int) (h0 : 0 ≤ a) (h1 : a ≤ 1048576) (hl : xs.length ≤ maxLen) : laws_szIntS.f xs a = some (if a - (xs.length : Int) < 0 then -1 else a - (xs.length : Int)) := by
  unfold maxLen at hl
  unfold laws_szIntS.f
  rw [wid (by omega) (by omega)]
  split <;> rfl
theorem rd_in {xs : List Int} {lo up : Int} (h : ∀ x ∈ xs, lo ≤ x ∧ x ≤ up) (i : Nat) (hi : i < xs.length) : lo ≤ rd xs (i : Int) ∧ rd xs (i : Int) ≤ up := by
  rw [rd_nat xs i hi]
  exact h _ (List.getElem_mem _)
theorem szCase_eq (a b c e : List Int) (n : Int) (h0 : 0 ≤ n) (h1 : n ≤ 1048576) (ha : a.length ≤ maxLen) (hb : b.length ≤ maxLen) (hc : c.length ≤ maxLen) (he : e.length ≤ maxLen) :
    ∃ r, laws_szCase.f a b c e n = some r ∧ (0 ≤ r → r = n - a.length - b.length - c.length - e.length) := by
  unfold laws_szCase.f
  rw [szIntS_eq a n h0 h1 ha]
  simp only [Option.bind_some]
  by_cases c1 : n - (a.length : Int) < 0
  · rw [if_pos c1, if_pos (by omega)]
    exact ⟨_, rfl, by omega⟩
  rw [if_neg c1, if_neg c1, szIntS_eq b _ (by omega) (by omega) hb]
  simp only [Option.bind_some]
  by_cases c2 : n - (a.length : Int) - (b.length : Int) < 0
  · rw [if_pos c2, if_pos (by omega)]
    exact ⟨_, rfl, by omega⟩
  rw [if_neg c2, if_neg c2, szIntS_eq c _ (by omega) (by omega) hc]
  simp only [Option.bind_some]
  by_cases c3 : n - (a.length : Int) - (b.length : Int) - (c.length : Int) < 0
  · rw [if_pos c3, if_pos (by omega)]
    exact ⟨_, rfl, by omega⟩
  rw [if_neg c3, if_neg c3, szIntS_eq e _ (by omega) (by omega) he]
  simp only [Option.bind_some]
  by_cases c4 : n - (a.length : Int) - (b.length : Int) - (c.length : Int) - (e.length : Int) < 0
  · rw [if_pos c4, if_pos (by omega)]
    exact ⟨_, rfl, by omega⟩
  rw [if_neg c4, if_neg c4]
  exact ⟨_, rfl, fun _ => rfl⟩
theorem toCase_ev (a b c e : List Int) (ha : a.length ≤ 35184372088832) (hb : b.length ≤ 35184372088832) (hc : c.length ≤ 35184372088832) (he : e.length ≤ 35184372088832) : Ev (fun k => laws_toCase.f k a b c e) (a, b, c, e) := by
  unfold laws_toCase.f
  exact ev_bind (toIntS_ev a ha) (ev_bind (toIntS_ev b hb) (ev_bind (toIntS_ev c hc) (ev_bind (toIntS_ev e he) (ev_some _))))
theorem eqCase_ev (a b c e : List Int) (ha : a.length ≤ 35184372088832) (hb : b.length ≤ 35184372088832) (hc : c.length ≤ 35184372088832) (he : e.length ≤ 35184372088832) : Ev (fun k => laws_eqCase.f k a b c e a b c e) true := by
  unfold laws_eqCase.f
  exact ev_bind (eqIntS_ev a a ha) (ev_pos (by simp) (ev_bind (eqIntS_ev b b hb) (ev_pos (by simp) (ev_bind (eqIntS_ev c c hc) (ev_pos (by simp) (ev_bind (eqIntS_ev e e he) (ev_pos (by simp) (ev_some _))))))))

/-- What a valid case is. -/
def CaseOk (a b c e : List Int) : Prop :=
  (a.length : Int) ≤ 8 ∧ (b.length : Int) = (a.length : Int) ∧ (c.length : Int) = (a.length : Int) ∧ (e.length : Int) = (a.length : Int) ∧ (∀ x ∈ a, 0 ≤ x ∧ x ≤ 20) ∧ (∀ x ∈ b, 0 ≤ x ∧ x ≤ 99) ∧ (∀ x ∈ c, 0 ≤ x ∧ x ≤ 9) ∧ (∀ x ∈ e, 0 ≤ x ∧ x ≤ 9)
instance (a b c e : List Int) : Decidable (CaseOk a b c e) := by unfold CaseOk; infer_instance
theorem implCase_ev (a b c e : List Int) (ha : a.length ≤ 35184372088832) (hb : b.length ≤ 35184372088832) (hc : c.length ≤ 35184372088832) (he : e.length ≤ 35184372088832) : Ev (fun k => impl_IsCase.f k a b c e) (decide (CaseOk a b c e)) := by
  unfold impl_IsCase.f CaseOk
  exact ev_andp fun _ => ev_andp fun _ => ev_andp fun _ => ev_andp fun _ => ev_bind (allWithin_ev a 0 20 ha) (ev_and rfl fun _ => ev_bind (allWithin_ev b 0 99 hb) (ev_and rfl fun _ => ev_bind (allWithin_ev c 0 9 hc) (ev_and rfl fun _ => ev_bind (allWithin_ev e 0 9 he) (ev_some _))))
theorem specCase_ev (a b c e : List Int) (ha : a.length ≤ 35184372088832) (hb : b.length ≤ 35184372088832) (hc : c.length ≤ 35184372088832) (he : e.length ≤ 35184372088832) : Ev (fun k => spec_l2Good.f k a b c e) (decide (CaseOk a b c e)) := by
  unfold spec_l2Good.f
  refine ev_dec (P := (a.length : Int) ≤ 8 ∧ ((∀ x ∈ a, 0 ≤ x ∧ x ≤ 20) ∧ (a.length : Int) = a.length) ∧ ((∀ x ∈ b, 0 ≤ x ∧ x ≤ 99) ∧ (b.length : Int) = a.length) ∧ ((∀ x ∈ c, 0 ≤ x ∧ x ≤ 9) ∧ (c.length : Int) = a.length) ∧ ((∀ x ∈ e, 0 ≤ x ∧ x ≤ 9) ∧ (e.length : Int) = a.length)) ?_ ?_
  · exact ev_andp fun _ => ev_bind (l2Row_ev a _ 20 ha) (ev_and rfl fun _ => ev_bind (l2Row_ev b _ 99 hb) (ev_and rfl fun _ => ev_bind (l2Row_ev c _ 9 hc) (ev_and rfl fun _ => ev_bind (l2Row_ev e _ 9 he) (ev_some _))))
  · unfold CaseOk
    constructor
    · rintro ⟨h, ⟨p1, _⟩, ⟨p2, q2⟩, ⟨p3, q3⟩, p4, q4⟩
      exact ⟨h, q2, q3, q4, p1, p2, p3, p4⟩
    · rintro ⟨h, q2, q3, q4, p1, p2, p3, p4⟩
      exact ⟨h, ⟨p1, rfl⟩, ⟨p2, q2⟩, ⟨p3, q3⟩, p4, q4⟩
/-- The stock before period n. -/
def stk (need pl : List Int) : Nat → Int
  | 0 => 0
  | n + 1 => stk need pl n + (rd pl (n : Int) - rd need (n : Int))
/-- The stocks behind the first n periods. -/
def stks (need pl : List Int) (n : Nat) : List Int := (List.range n).map fun i => stk need pl (i + 1)
theorem stks_length (need pl : List Int) (n : Nat) : (stks need pl n).length = n := by simp [stks]
theorem stks_succ (need pl : List Int) (n : Nat) : stks need pl (n + 1) = stks need pl n ++ [stk need pl (n + 1)] := by simp [stks, List.range_succ]
theorem rd_stks (need pl : List Int) (n i : Nat) (h : i < n) : rd (stks need pl n) (i : Int) = stk need pl (i + 1) := by
  rw [rd_nat _ _ (by rw [stks_length]; exact h)]
  simp [stks]
theorem stk_in {need pl : List Int} (hn : ∀ x ∈ need, 0 ≤ x ∧ x ≤ 20) (hp : ∀ x ∈ pl, 0 ≤ x ∧ x ≤ 160) (he : pl.length = need.length) : ∀ i : Nat, i ≤ need.length → -(20 * (i : Int)) ≤ stk need pl i ∧ stk need pl i ≤ 160 * (i : Int) := by
  intro i
  induction i with
  | zero => intro _; simp [stk]
  | succ i ih =>
    intro hi
    have h1 := ih (by omega)
    have h2 := rd_in hn i (by omega)
    have h3 := rd_in hp i (by omega)
    show _ ≤ stk need pl i + (rd pl (i : Int) - rd need (i : Int)) ∧ stk need pl i + (rd pl (i : Int) - rd need (i : Int)) ≤ _
    omega
/-- What a plan is. -/
def PlanOk (need pl : List Int) : Prop := pl.length = need.length ∧ (∀ x ∈ pl, 0 ≤ x ∧ x ≤ 160) ∧ (∀ i : Nat, i < need.length → 0 ≤ stk need pl (i + 1)) ∧ stk need pl need.length = 0
instance (need pl : List Int) : Decidable (PlanOk need pl) := by unfold PlanOk; infer_instance

section
variable (a b c e pl : List Int) (hc : CaseOk a b c e) (hl : pl.length ≤ 35184372088832)
include hc

theorem specStocks_l0 (he : pl.length = a.length) (hp : ∀ x ∈ pl, 0 ≤ x ∧ x ≤ 160) (d : Nat) : ∀ i : Nat, i + d = a.length →
    Ev (fun k => spec_l2Stocks.l0 k pl (stks a pl i) (stk a pl i) (i : Int) a b c e) (stks a pl a.length) := by
  have h8 := hc.1
  induction d with
  | zero =>
    intro i hi
    refine ev_succ ?_
    simp only [spec_l2Stocks.l0]
    refine ev_neg (by omega) (ev_cast (ev_some _) ?_)
    rw [show i = a.length by omega]
  | succ d ih =>
    intro i hi
    have h1 := stk_in hc.2.2.2.2.1 hp he i (by omega)
    have h2 := rd_in hc.2.2.2.2.1 i (by omega)
    have h3 := rd_in hp i (by omega)
    refine ev_succ ?_
    simp only [spec_l2Stocks.l0, stks_length]
    have hw : wrap64 ((i : Int) + 1) = ((i + 1 : Nat) : Int) := by rw [wid (by omega) (by omega)]; omega
    have hs : wrap64 (wrap64 (stk a pl i + rd pl (i : Int)) - rd a (i : Int)) = stk a pl (i + 1) := by
      rw [wid (x := stk a pl i + rd pl (i : Int)) (by omega) (by omega), wid (by omega) (by omega)]
      show _ = stk a pl i + (rd pl (i : Int) - rd a (i : Int))
      omega
    rw [hw, hs, ← stks_succ]
    exact ev_pos (by omega) (ev_pos (by omega) (ev_pos (by omega) (ev_pos (by omega) (ih (i + 1) (by omega)))))
theorem specStocks_ev (he : pl.length = a.length) (hp : ∀ x ∈ pl, 0 ≤ x ∧ x ≤ 160) : Ev (fun k => spec_l2Stocks.f k a b c e pl) (stks a pl a.length) := by
  unfold spec_l2Stocks.f
  exact specStocks_l0 a b c e pl hc he hp a.length 0 (by omega)
theorem specPlan_l0 (he : pl.length = a.length) (hp : ∀ x ∈ pl, 0 ≤ x ∧ x ≤ 160) (d : Nat) : ∀ i : Nat, i + d = a.length → (∀ j : Nat, j < i → 0 ≤ stk a pl (j + 1)) →
    Ev (fun k => spec_l2Plan.l0 k (stks a pl a.length) (i : Int)) (decide (PlanOk a pl)) := by
  have h8 := hc.1
  induction d with
  | zero =>
    intro i hi hj
    refine ev_succ ?_
    simp only [spec_l2Plan.l0]
    have hs := stks_length a pl a.length
    refine ev_neg (by omega) ?_
    by_cases h0 : a.length = 0
    · exact ev_pos (by omega) (ev_true ⟨he, hp, fun j h => by omega, by rw [h0]; rfl⟩)
    · have e1 : wrap64 (((stks a pl a.length).length : Int) - 1) = ((a.length - 1 : Nat) : Int) := by rw [wid (by omega) (by omega)]; omega
      rw [e1, rd_stks a pl a.length (a.length - 1) (by omega), show a.length - 1 + 1 = a.length by omega]
      refine ev_neg (by omega) (ev_pos (by omega) (ev_pos (by omega) (ev_cast (ev_some _) ?_)))
      rw [Bool.eq_iff_iff]
      simp only [beq_iff_eq, decide_eq_true_eq]
      exact ⟨fun h => ⟨he, hp, fun j h => hj j (by omega), h⟩, fun h => h.2.2.2⟩
  | succ d ih =>
    intro i hi hj
    refine ev_succ ?_
    simp only [spec_l2Plan.l0]
    have hs := stks_length a pl a.length
    have hw : wrap64 ((i : Int) + 1) = ((i + 1 : Nat) : Int) := by rw [wid (by omega) (by omega)]; omega
    rw [hw, rd_stks a pl a.length i (by omega)]
    refine ev_pos (by omega) (ev_pos (by omega) ?_)
    by_cases h : stk a pl (i + 1) < 0
    · refine ev_pos h (ev_false fun p => ?_)
      have := p.2.2.1 i (by omega)
      omega
    · refine ev_neg h (ih (i + 1) (by omega) fun j h' => ?_)
      by_cases e : j = i
      · rw [e]; omega
      · exact hj j (by omega)
include hl
theorem specPlan_ev : Ev (fun k => spec_l2Plan.f k a b c e pl) (decide (PlanOk a pl)) := by
  unfold spec_l2Plan.f
  refine ev_bind (l2Row_ev pl _ 160 hl) ?_
  by_cases h : (∀ x ∈ pl, 0 ≤ x ∧ x ≤ 160) ∧ (pl.length : Int) = a.length
  · exact ev_pos (by simpa using h) (ev_bind (specStocks_ev a b c e pl hc (by omega) h.1) (specPlan_l0 a b c e pl hc (by omega) h.1 a.length 0 (by omega) (fun j h => by omega)))
  · exact ev_neg (by simpa using h) (ev_false fun p => h ⟨p.2.1, by have := p.1; omega⟩)
omit hl in
theorem implStocks_l0 (he : pl.length = a.length) (hp : ∀ x ∈ pl, 0 ≤ x ∧ x ≤ 160) (d : Nat) : ∀ i : Nat, i + d = a.length → (∀ j : Nat, j < i → 0 ≤ stk a pl (j + 1)) →
    ∃ r : List Int × Bool, Ev (fun k => impl_Case_stocks.l0 k (stks a pl i) (stk a pl i) pl (pl.length : Int) (i : Int) a b c e) r ∧ r.2 = decide (PlanOk a pl) ∧ (PlanOk a pl → r.1 = stks a pl a.length) := by
  have h8 := hc.1
  induction d with
  | zero =>
    intro i hi hj
    have e1 : i = a.length := by omega
    refine ⟨(stks a pl i, stk a pl i == 0), ev_succ ?_, ?_, fun _ => by rw [e1]⟩
    · simp only [impl_Case_stocks.l0]
      exact ev_neg (by omega) (ev_some _)
    · rw [Bool.eq_iff_iff]
      simp only [beq_iff_eq, decide_eq_true_eq]
      rw [e1]
      exact ⟨fun h => ⟨he, hp, fun j h => hj j (by omega), h⟩, fun h => h.2.2.2⟩
  | succ d ih =>
    intro i hi hj
    have h1 := stk_in hc.2.2.2.2.1 hp he i (by omega)
    have h2 := rd_in hc.2.2.2.2.1 i (by omega)
    have h3 := rd_in hp i (by omega)
    have hw : wrap64 ((i : Int) + 1) = ((i + 1 : Nat) : Int) := by rw [wid (by omega) (by omega)]; omega
    have hs : wrap64 (stk a pl i + wrap64 (rd pl (i : Int) - rd a (i : Int))) = stk a pl (i + 1) := by
      rw [wid (x := rd pl (i : Int) - rd a (i : Int)) (by omega) (by omega), wid (by omega) (by omega)]
      rfl
    by_cases h : stk a pl (i + 1) < 0
    · refine ⟨([], false), ev_succ ?_, ?_, fun p => ?_⟩
      · simp only [impl_Case_stocks.l0, stks_length]
        rw [hs]
        exact ev_pos (by omega) (ev_pos (by omega) (ev_pos (by omega) (ev_pos (by omega) (ev_pos h (ev_some _)))))
      · symm
        refine decide_eq_false fun p => ?_
        have := p.2.2.1 i (by omega)
        omega
      · have := p.2.2.1 i (by omega)
        omega
    · obtain ⟨r, hr, hr2⟩ := ih (i + 1) (by omega) (fun j h' => by
        by_cases e : j = i
        · rw [e]; omega
        · exact hj j (by omega))
      refine ⟨r, ev_succ ?_, hr2⟩
      simp only [impl_Case_stocks.l0, stks_length]
      rw [hs, hw, ← stks_succ]
      exact ev_pos (by omega) (ev_pos (by omega) (ev_pos (by omega) (ev_pos (by omega) (ev_neg h (ev_pos (by omega) hr)))))
theorem implStocks_ev : ∃ r : List Int × Bool, Ev (fun k => impl_Case_stocks.f k a b c e pl) r ∧ r.2 = decide (PlanOk a pl) ∧ (PlanOk a pl → r.1 = stks a pl a.length) := by
  unfold impl_Case_stocks.f
  by_cases h1 : (pl.length : Int) = (a.length : Int)
  · by_cases h2 : ∀ x ∈ pl, 0 ≤ x ∧ x ≤ 160
    · obtain ⟨r, hr, hr2⟩ := implStocks_l0 a b c e pl hc (by omega) h2 a.length 0 (by omega) (fun j h => by omega)
      refine ⟨r, ev_pos h1 (ev_bind (allWithin_ev pl 0 160 hl) (ev_succ ?_)), hr2⟩
      simp only [impl_Case_stocks.j0]
      exact ev_neg (by rw [decide_eq_true h2]; simp) hr
    · refine ⟨([], false), ev_pos h1 (ev_bind (allWithin_ev pl 0 160 hl) (ev_succ ?_)), (decide_eq_false fun p => h2 p.2.1).symm, fun p => absurd p.2.1 h2⟩
      simp only [impl_Case_stocks.j0]
      exact ev_pos (by rw [decide_eq_false h2]; rfl) (ev_some _)
  · refine ⟨([], false), ev_neg h1 (ev_succ ?_), (decide_eq_false fun p => h1 (by have := p.1; omega)).symm, fun p => absurd p.1 (by omega)⟩
    simp only [impl_Case_stocks.j0, if_true]
    exact ev_some _
end
theorem l2Two_ev (a b c e pl : List Int) (ha : a.length ≤ 35184372088832) (hb : b.length ≤ 35184372088832) (hc : c.length ≤ 35184372088832) (he : e.length ≤ 35184372088832) (hl : pl.length ≤ 35184372088832) :
    Ev (fun k => spec_l2Two.f k a b c e pl) (decide (CaseOk a b c e ∧ PlanOk a pl)) := by
  unfold spec_l2Two.f
  exact ev_bind (specCase_ev a b c e ha hb hc he) (ev_and rfl fun h => ev_bind (specPlan_ev a b c e pl h hl) (ev_some _))
theorem planned_ev (a b c e pl : List Int) (ha : a.length ≤ 35184372088832) (hb : b.length ≤ 35184372088832) (hc : c.length ≤ 35184372088832) (he : e.length ≤ 35184372088832) (hl : pl.length ≤ 35184372088832) :
    Ev (fun k => impl_planned.f k a b c e pl) (if CaseOk a b c e ∧ PlanOk a pl then (stks a pl a.length, true) else ([], false)) := by
  unfold impl_planned.f
  refine ev_bind (implCase_ev a b c e ha hb hc he) ?_
  by_cases h : CaseOk a b c e
  · obtain ⟨r, hr, hr2, hr1⟩ := implStocks_ev a b c e pl h hl
    refine ev_pos (by simpa using h) (ev_bind hr ?_)
    rw [hr2]
    by_cases p : PlanOk a pl
    · rw [hr1 p]
      exact ev_cast (ev_pos (by simpa using p) (ev_some _)) (if_pos ⟨h, p⟩).symm
    · exact ev_cast (ev_neg (by simpa using p) (ev_some _)) (if_neg fun x => p x.2).symm
  · exact ev_cast (ev_neg (by simpa using h) (ev_some _)) (if_neg fun x => h x.1).symm
/-- The three parts of the cost of a plan, of the first periods. -/
def par (a b c e pl : List Int) : Nat → Int × Int × Int
  | 0 => (0, 0, 0)
  | n + 1 => (if rd pl (n : Int) > 0 then (par a b c e pl n).1 + rd b (n : Int) else (par a b c e pl n).1, (par a b c e pl n).2.1 + rd c (n : Int) * rd pl (n : Int), (par a b c e pl n).2.2 + rd e (n : Int) * stk a pl (n + 1))
/-- A small number. -/
def Sm (x : Int) : Prop := 0 ≤ x ∧ x ≤ 1000000
theorem sm_add {x y : Int} (hx : Sm x) (hy : Sm y) : wrap64 (x + y) = x + y := by
  unfold Sm at hx hy
  exact wid (by omega) (by omega)
theorem sm_wid {x : Int} (hx : Sm x) : wrap64 x = x := by
  unfold Sm at hx
  exact wid (by omega) (by omega)
theorem add_in {x y A B : Int} (h0 : 0 ≤ x) (h1 : x ≤ A) (h2 : 0 ≤ y) (h3 : y ≤ B) : 0 ≤ x + y ∧ x + y ≤ A + B := by omega
theorem mul_next (A : Int) (i : Nat) : A * (i : Int) + A = A * ((i + 1 : Nat) : Int) := by
  rw [Int.natCast_add, Int.mul_add]
  simp
theorem sm_of {x A : Int} {i : Nat} (h0 : 0 ≤ x) (h1 : x ≤ A * (i : Int)) (hi : i ≤ 8) (hA : 0 ≤ A) (hA2 : A ≤ 11520) : Sm x := by
  have h2 : A * (i : Int) ≤ A * 8 := Int.mul_le_mul_of_nonneg_left (by omega) hA
  unfold Sm
  omega
theorem par_step {a b c e pl : List Int} (hc : CaseOk a b c e) (hp : PlanOk a pl) (i : Nat) (hi : i < a.length) :
    (0 ≤ rd b (i : Int) ∧ rd b (i : Int) ≤ 99) ∧ (0 ≤ rd c (i : Int) * rd pl (i : Int) ∧ rd c (i : Int) * rd pl (i : Int) ≤ 1440) ∧ (0 ≤ rd e (i : Int) * stk a pl (i + 1) ∧ rd e (i : Int) * stk a pl (i + 1) ≤ 11520) := by
  obtain ⟨h8, hb, hcl, hel, ia, ib, ic, ie⟩ := hc
  have q0 := hp.1
  have q1 : i < b.length := by omega
  have q2 : i < c.length := by omega
  have q3 : i < e.length := by omega
  have q4 : i < pl.length := by omega
  have q5 : i + 1 ≤ a.length := by omega
  have e1 := rd_in ib i q1
  have e2 := rd_in ic i q2
  have e3 := rd_in ie i q3
  have e4 := rd_in hp.2.1 i q4
  have e6 := hp.2.2.1 i hi
  have q6 : 160 * ((i + 1 : Nat) : Int) ≤ 1280 := by clear e1 e2 e3 e4 e6; omega
  have e5 := stk_in ia hp.2.1 hp.1 (i + 1) q5
  exact ⟨e1, mulb e2.1 e2.2 e4.1 e4.2, mulb e3.1 e3.2 e6 (Int.le_trans e5.2 q6)⟩
theorem par_in {a b c e pl : List Int} (hc : CaseOk a b c e) (hp : PlanOk a pl) : ∀ i : Nat, i ≤ a.length → (0 ≤ (par a b c e pl i).1 ∧ (par a b c e pl i).1 ≤ 99 * (i : Int)) ∧ (0 ≤ (par a b c e pl i).2.1 ∧ (par a b c e pl i).2.1 ≤ 1440 * (i : Int)) ∧ (0 ≤ (par a b c e pl i).2.2 ∧ (par a b c e pl i).2.2 ≤ 11520 * (i : Int)) := by
  intro i
  induction i with
  | zero => intro _; simp [par]
  | succ i ih =>
    intro hi
    obtain ⟨h1, h2, h3⟩ := ih (Nat.le_of_succ_le hi)
    obtain ⟨g1, g2, g3⟩ := par_step hc hp i hi
    have k1 := add_in h1.1 h1.2 g1.1 g1.2
    have k2 := add_in h2.1 h2.2 g2.1 g2.2
    have k3 := add_in h3.1 h3.2 g3.1 g3.2
    rw [mul_next] at k1 k2 k3
    refine ⟨?_, k2, k3⟩
    simp only [par]
    split
    · exact k1
    · exact ⟨h1.1, Int.le_trans h1.2 (by rw [← mul_next]; omega)⟩
theorem par_sm {a b c e pl : List Int} (hc : CaseOk a b c e) (hp : PlanOk a pl) (i : Nat) (hi : i < a.length) : Sm (par a b c e pl i).1 ∧ Sm (par a b c e pl i).2.1 ∧ Sm (par a b c e pl i).2.2 ∧ Sm (rd b (i : Int)) ∧ Sm (rd c (i : Int) * rd pl (i : Int)) ∧ Sm (rd e (i : Int) * stk a pl (i + 1)) := by
  obtain ⟨h1, h2, h3⟩ := par_in hc hp i (Nat.le_of_lt hi)
  obtain ⟨g1, g2, g3⟩ := par_step hc hp i hi
  have h8 := hc.1
  have hi8 : i ≤ 8 := by clear h1 h2 h3 g1 g2 g3; omega
  exact ⟨sm_of h1.1 h1.2 hi8 (by decide) (by decide), sm_of h2.1 h2.2 hi8 (by decide) (by decide), sm_of h3.1 h3.2 hi8 (by decide) (by decide), ⟨g1.1, Int.le_trans g1.2 (by decide)⟩, ⟨g2.1, Int.le_trans g2.2 (by decide)⟩, ⟨g3.1, Int.le_trans g3.2 (by decide)⟩⟩
theorem specParts_l0 {a b c e pl : List Int} (hc : CaseOk a b c e) (hp : PlanOk a pl) (d : Nat) : ∀ i : Nat, i + d = a.length →
    Ev (fun k => spec_l2Parts.l0 k pl (stks a pl a.length) (i : Int) a b c e (par a b c e pl i).1 (par a b c e pl i).2.1 (par a b c e pl i).2.2) (par a b c e pl a.length) := by
  have h8 := hc.1
  have hb := hc.2.1
  have hcl := hc.2.2.1
  have hel := hc.2.2.2.1
  have he := hp.1
  have hs := stks_length a pl a.length
  induction d with
  | zero =>
    intro i hi
    refine ev_succ ?_
    simp only [spec_l2Parts.l0]
    refine ev_neg (by omega) (ev_cast (ev_some _) ?_)
    rw [show i = a.length by omega]
  | succ d ih =>
    intro i hi
    obtain ⟨h1, h2, h3, g1, g2, g3⟩ := par_sm hc hp i (by omega)
    have q := ih (i + 1) (by omega)
    have q0 : (i : Int) < (pl.length : Int) := by omega
    have q1 : 0 ≤ (i : Int) := by omega
    have q2 : (i : Int) < (b.length : Int) := by omega
    have q3 : (i : Int) < (c.length : Int) := by omega
    have q4 : (i : Int) < (e.length : Int) := by omega
    have q5 : (i : Int) < ((stks a pl a.length).length : Int) := by omega
    have hw : wrap64 ((i : Int) + 1) = ((i + 1 : Nat) : Int) := by rw [wid (by omega) (by omega)]; omega
    have w1 : wrap64 ((par a b c e pl i).1 + rd b (i : Int)) = (par a b c e pl i).1 + rd b (i : Int) := sm_add h1 g1
    have w2 : wrap64 (rd c (i : Int) * rd pl (i : Int)) = rd c (i : Int) * rd pl (i : Int) := sm_wid g2
    have w3 : wrap64 ((par a b c e pl i).2.1 + rd c (i : Int) * rd pl (i : Int)) = (par a b c e pl i).2.1 + rd c (i : Int) * rd pl (i : Int) := sm_add h2 g2
    have w4 : wrap64 (rd e (i : Int) * stk a pl (i + 1)) = rd e (i : Int) * stk a pl (i + 1) := sm_wid g3
    have w5 : wrap64 ((par a b c e pl i).2.2 + rd e (i : Int) * stk a pl (i + 1)) = (par a b c e pl i).2.2 + rd e (i : Int) * stk a pl (i + 1) := sm_add h3 g3
    refine ev_succ ?_
    simp only [spec_l2Parts.l0]
    rw [hw, rd_stks a pl a.length i (by omega), w1, w2, w3, w4, w5]
    refine ev_pos q0 (ev_pos q1 ?_)
    by_cases h : rd pl (i : Int) > 0
    · simp only [par, if_pos h] at q
      exact ev_pos h (ev_pos q2 (ev_pos q3 (ev_pos q4 (ev_pos q5 q))))
    · simp only [par, if_neg h] at q
      exact ev_neg h (ev_pos q3 (ev_pos q4 (ev_pos q5 q)))
theorem specParts_ev {a b c e pl : List Int} (hc : CaseOk a b c e) (hp : PlanOk a pl) : Ev (fun k => spec_l2Parts.f k a b c e pl) (par a b c e pl a.length) := by
  unfold spec_l2Parts.f
  exact ev_bind (specStocks_ev a b c e pl hc hp.1 hp.2.1) (specParts_l0 hc hp a.length 0 (by omega))
theorem stk_next {a b c e pl : List Int} (hc : CaseOk a b c e) (hp : PlanOk a pl) (i : Nat) (hi : i < a.length) : wrap64 (stk a pl i + wrap64 (rd pl (i : Int) - rd a (i : Int))) = stk a pl (i + 1) := by
  have h8 := hc.1
  have he := hp.1
  have s1 := stk_in hc.2.2.2.2.1 hp.2.1 hp.1 i (by omega)
  have s2 := rd_in hc.2.2.2.2.1 i (by omega)
  have s3 := rd_in hp.2.1 i (by omega)
  rw [wid (x := rd pl (i : Int) - rd a (i : Int)) (by omega) (by omega), wid (by omega) (by omega)]
  rfl
theorem implParts_l0 {a b c e pl : List Int} (hc : CaseOk a b c e) (hp : PlanOk a pl) (d : Nat) : ∀ i : Nat, i + d = a.length →
    Ev (fun k => impl_Case_parts.l0 k (par a b c e pl i).1 (par a b c e pl i).2.1 (par a b c e pl i).2.2 (stk a pl i) pl (pl.length : Int) (i : Int) a b c e) (par a b c e pl a.length) := by
  have h8 := hc.1
  have hb := hc.2.1
  have hcl := hc.2.2.1
  have hel := hc.2.2.2.1
  have he := hp.1
  induction d with
  | zero =>
    intro i hi
    refine ev_succ ?_
    simp only [impl_Case_parts.l0]
    refine ev_neg (by omega) (ev_cast (ev_some _) ?_)
    rw [show i = a.length by omega]
  | succ d ih =>
    intro i hi
    obtain ⟨h1, h2, h3, g1, g2, g3⟩ := par_sm hc hp i (by omega)
    have hst := stk_next hc hp i (by omega)
    have q := ih (i + 1) (by omega)
    have q0 : (i : Int) < (pl.length : Int) := by omega
    have q1 : 0 ≤ (i : Int) := by omega
    have q2 : (i : Int) < (b.length : Int) := by omega
    have q3 : (i : Int) < (c.length : Int) := by omega
    have q4 : (i : Int) < (e.length : Int) := by omega
    have q5 : (i : Int) < (a.length : Int) := by omega
    have hw : wrap64 ((i : Int) + 1) = ((i + 1 : Nat) : Int) := by rw [wid (by omega) (by omega)]; omega
    have w1 : wrap64 ((par a b c e pl i).1 + rd b (i : Int)) = (par a b c e pl i).1 + rd b (i : Int) := sm_add h1 g1
    have w2 : wrap64 (rd c (i : Int) * rd pl (i : Int)) = rd c (i : Int) * rd pl (i : Int) := sm_wid g2
    have w3 : wrap64 ((par a b c e pl i).2.1 + rd c (i : Int) * rd pl (i : Int)) = (par a b c e pl i).2.1 + rd c (i : Int) * rd pl (i : Int) := sm_add h2 g2
    have w4 : wrap64 (rd e (i : Int) * stk a pl (i + 1)) = rd e (i : Int) * stk a pl (i + 1) := sm_wid g3
    have w5 : wrap64 ((par a b c e pl i).2.2 + rd e (i : Int) * stk a pl (i + 1)) = (par a b c e pl i).2.2 + rd e (i : Int) * stk a pl (i + 1) := sm_add h3 g3
    refine ev_succ ?_
    simp only [impl_Case_parts.l0]
    rw [hw, hst, w1, w2, w3, w4, w5]
    refine ev_pos q0 (ev_pos q1 (ev_pos q0 (ev_pos q5 ?_)))
    by_cases h : rd pl (i : Int) > 0
    · simp only [par, if_pos h] at q
      exact ev_pos h (ev_pos q2 (ev_pos q3 (ev_pos q4 q)))
    · simp only [par, if_neg h] at q
      exact ev_neg h (ev_pos q3 (ev_pos q4 q))
theorem implParts_ev {a b c e pl : List Int} (hc : CaseOk a b c e) (hp : PlanOk a pl) : Ev (fun k => impl_Case_parts.f k a b c e pl) (par a b c e pl a.length) := by
  unfold impl_Case_parts.f
  exact implParts_l0 hc hp a.length 0 (by omega)

def ans (a b c e pl : List Int) : Int × Int × Int × Bool := if CaseOk a b c e ∧ PlanOk a pl then ((par a b c e pl a.length).1, (par a b c e pl a.length).2.1, (par a b c e pl a.length).2.2, true) else (0, 0, 0, false)
theorem FnExactCostParts (l0_0 : List Int) (l0_1 : List Int) (l0_2 : List Int) (l0_3 : List Int) (l1 : List Int) (hl0_0 : l0_0.length ≤ maxLen) (hw0_0 : ∀ x ∈ l0_0, (Lit.int .i64 x).wf = true) (hl0_1 : l0_1.length ≤ maxLen) (hw0_1 : ∀ x ∈ l0_1, (Lit.int .i64 x).wf = true) (hl0_2 : l0_2.length ≤ maxLen) (hw0_2 : ∀ x ∈ l0_2, (Lit.int .i64 x).wf = true) (hl0_3 : l0_3.length ≤ maxLen) (hw0_3 : ∀ x ∈ l0_3, (Lit.int .i64 x).wf = true) (hl1 : l1.length ≤ maxLen) (hw1 : ∀ x ∈ l1, (Lit.int .i64 x).wf = true) :
    ∃ k, laws_FnExactCostParts.f k l0_0 l0_1 l0_2 l0_3 l1 = some true := by
  refine Ev.rounds ?_
  unfold laws_FnExactCostParts.f
  by_cases c0 : (l1.length : Int) > 1048576
  · exact ev_pos c0 (ev_some _)
  refine ev_neg c0 ?_
  obtain ⟨r, hr, hz⟩ := szCase_eq l0_0 l0_1 l0_2 l0_3 1048576 (by omega) (by omega) hl0_0 hl0_1 hl0_2 hl0_3
  simp only [hr, Option.bind_some]
  by_cases c : r < 0
  · exact ev_pos c (ev_some _)
  have hz := hz (by omega)
  have h0 : l0_0.length ≤ 35184372088832 := by omega
  have h1 : l0_1.length ≤ 35184372088832 := by omega
  have h2 : l0_2.length ≤ 35184372088832 := by omega
  have h3 : l0_3.length ≤ 35184372088832 := by omega
  have hp : l1.length ≤ 35184372088832 := by omega
  have hto := toCase_ev l0_0 l0_1 l0_2 l0_3 h0 h1 h2 h3
  have hpl := toIntS_ev l1 hp
  refine ev_neg c (ev_bind hto (ev_bind hpl ?_))
  refine ev_bind (g := fun k => spec_CostParts.f k l0_0 l0_1 l0_2 l0_3 l1) (a := ans l0_0 l0_1 l0_2 l0_3 l1) ?_ (ev_bind hto (ev_bind hpl (ev_bind (g := fun k => impl_CostParts.f k l0_0 l0_1 l0_2 l0_3 l1) (a := ans l0_0 l0_1 l0_2 l0_3 l1) ?_ ?_)))
  · unfold spec_CostParts.f ans
    refine ev_bind (l2Two_ev l0_0 l0_1 l0_2 l0_3 l1 h0 h1 h2 h3 hp) ?_
    by_cases hc : CaseOk l0_0 l0_1 l0_2 l0_3 ∧ PlanOk l0_0 l1
    · rw [if_pos hc]
      exact ev_pos (decide_eq_true hc) (ev_bind (specParts_ev hc.1 hc.2) (ev_some _))
    · rw [if_neg hc]
      exact ev_neg (by rw [decide_eq_true_eq]; exact hc) (ev_some _)
  · unfold impl_CostParts.f ans
    refine ev_bind (planned_ev l0_0 l0_1 l0_2 l0_3 l1 h0 h1 h2 h3 hp) ?_
    by_cases hc : CaseOk l0_0 l0_1 l0_2 l0_3 ∧ PlanOk l0_0 l1
    · rw [if_pos hc, if_pos hc]
      exact ev_pos rfl (ev_bind (implParts_ev hc.1 hc.2) (ev_some _))
    · rw [if_neg hc, if_neg hc]
      exact ev_neg (by simp) (ev_some _)
  · refine ev_pos rfl (ev_pos rfl (ev_pos rfl (ev_succ ?_)))
    simp only [laws_FnExactCostParts.j0]
    exact ev_neg (by simp) (ev_bind hto (ev_bind (eqCase_ev l0_0 l0_1 l0_2 l0_3 h0 h1 h2 h3) (ev_pos rfl (ev_bind hpl (ev_bind (eqIntS_ev l1 l1 hp) (ev_pos (by simp) (ev_some _)))))))

end Go.Proofs.Ytbmhgjfjociehaa.Pure
