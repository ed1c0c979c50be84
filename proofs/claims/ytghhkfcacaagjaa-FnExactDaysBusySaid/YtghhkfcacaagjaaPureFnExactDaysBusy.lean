/- The program's DaysBusy and the reference's decide the same conditions and count the same days. No conditions. -/
import Derived.Test.YtghhkfcacaagjaaKit
import Derived.Test.YtghhkfcacaagjaaPFnExactDaysBusyx3
namespace Go.Proofs.Ytghhkfcacaagjaa.Pure
set_option linter.unusedVariables false
open Go.RowKit Go.Proofs.Ytghhkfcacaagjaa.PFnExactDaysBusy Go.Proofs.YtghhkfcacaagjaaW.PrintWords Go.Proofs.YtghhkfcacaagjaaW.PrintLast Go.Proofs.Ytghhkfcacaagjaa.Kit

theorem in_eq (a b c : Int) : spec_l1In.f a b c = some (decide (b ≤ a ∧ a ≤ c)) := by
  unfold spec_l1In.f
  by_cases h : b ≤ a <;> simp [h]
theorem within_eq (a b c : Int) : impl_within.f a b c = some (decide (b ≤ a ∧ a ≤ c)) := by
  unfold impl_within.f
  by_cases h : b ≤ a <;> simp [h]
theorem toIntS_l0 (xs : List Int) (hn : xs.length ≤ 35184372088832) (d : Nat) : ∀ (i : Nat) (ys : List Int), i + d = xs.length → ys.length = xs.length → ys.take i = xs.take i →
    Ev (fun k => laws_toIntS.l0 k xs ys (i : Int)) xs := by
  induction d with
  | zero =>
    intro i ys hi hl ht
    refine ev_succ ?_
    simp only [laws_toIntS.l0]
    refine ev_neg (by omega) ?_
    rw [List.take_of_length_le (by omega), List.take_of_length_le (by omega)] at ht
    rw [ht]
    exact ev_some _
  | succ d ih =>
    intro i ys hi hl ht
    refine ev_succ ?_
    simp only [laws_toIntS.l0]
    refine ev_pos (by omega) (ev_pos (by omega) (ev_pos (by omega) ?_))
    have hw : wrap64 ((i : Int) + 1) = ((i + 1 : Nat) : Int) := by rw [wid (by omega) (by omega)]; omega
    rw [hw]
    refine ih (i + 1) _ (by omega) (by simpa using hl) ?_
    rw [rd_nat xs i (by omega), Int.toNat_natCast, List.take_succ_eq_append_getElem (by simp; omega), List.take_succ_eq_append_getElem (by omega), List.getElem_set_self, List.take_set_of_le (by omega), ht]
theorem toIntS_ev (xs : List Int) (hn : xs.length ≤ 35184372088832) : Ev (fun k => laws_toIntS.f k xs) xs := by
  unfold laws_toIntS.f
  refine ev_pos (by omega) (ev_pos (by omega) ?_)
  exact toIntS_l0 xs hn xs.length 0 _ (by omega) (by simp) rfl
theorem eqIntS_l0 (xs ys : List Int) (hn : xs.length ≤ 35184372088832) (hl : ys.length = xs.length) (d : Nat) : ∀ (i : Nat), i + d = xs.length →
    Ev (fun k => laws_eqIntS.l0 k xs ys (i : Int)) (decide (xs.drop i = ys.drop i)) := by
  induction d with
  | zero =>
    intro i hi
    refine ev_succ ?_
    simp only [laws_eqIntS.l0]
    refine ev_neg (by omega) ?_
    rw [List.drop_of_length_le (by omega), List.drop_of_length_le (by omega)]
    exact ev_some _
  | succ d ih =>
    intro i hi
    refine ev_succ ?_
    simp only [laws_eqIntS.l0]
    refine ev_pos (by omega) (ev_pos (by omega) (ev_pos (by omega) ?_))
    have hw : wrap64 ((i : Int) + 1) = ((i + 1 : Nat) : Int) := by rw [wid (by omega) (by omega)]; omega
    rw [hw, drop_rd xs i (by omega), drop_rd ys i (by omega)]
    by_cases h : rd xs i = rd ys i
    · refine ev_pos h (ev_cast (ih (i + 1) (by omega)) ?_)
      simp [h]
    · refine ev_neg h (ev_cast (ev_some false) ?_)
      simp [h]
theorem eqIntS_ev (xs ys : List Int) (hn : xs.length ≤ 35184372088832) : Ev (fun k => laws_eqIntS.f k xs ys) (decide (xs = ys)) := by
  unfold laws_eqIntS.f
  by_cases h : xs.length = ys.length
  · refine ev_pos (by omega) (ev_cast (eqIntS_l0 xs ys hn h.symm xs.length 0 (by omega)) (by simp))
  · refine ev_neg (by omega) (ev_cast (ev_some false) ?_)
    have : xs ≠ ys := fun e => h (by rw [e])
    simp [this]
theorem allWithin_l0 (lo up : Int) (xs : List Int) (hn : xs.length ≤ 35184372088832) (d : Nat) : ∀ (i : Nat), i + d = xs.length →
    Ev (fun k => impl_allWithin.l0 k lo up xs (xs.length : Int) (i : Int)) (decide (∀ x ∈ xs.drop i, lo ≤ x ∧ x ≤ up)) := by
  induction d with
  | zero =>
    intro i hi
    refine ev_succ ?_
    simp only [impl_allWithin.l0]
    refine ev_neg (by omega) ?_
    rw [List.drop_of_length_le (by omega)]
    exact ev_cast (ev_some true) (by simp)
  | succ d ih =>
    intro i hi
    refine ev_succ ?_
    simp only [impl_allWithin.l0, within_eq, Option.bind_some]
    refine ev_pos (by omega) (ev_pos (by omega) (ev_pos (by omega) ?_))
    have hw : wrap64 ((i : Int) + 1) = ((i + 1 : Nat) : Int) := by rw [wid (by omega) (by omega)]; omega
    rw [hw, drop_rd xs i (by omega)]
    by_cases h : lo ≤ rd xs i ∧ rd xs i ≤ up
    · refine ev_pos (by simpa using h) (ev_cast (ih (i + 1) (by omega)) ?_)
      simp [h]
    · refine ev_neg (by simpa using h) (ev_cast (ev_some false) ?_)
      symm
      simp only [decide_eq_false_iff_not, List.mem_cons]
      exact fun hh => h (hh _ (Or.inl rfl))
theorem allWithin_ev (xs : List Int) (lo hi : Int) (hn : xs.length ≤ 35184372088832) : Ev (fun k => impl_allWithin.f k xs lo hi) (decide (∀ x ∈ xs, lo ≤ x ∧ x ≤ hi)) := by
  unfold impl_allWithin.f
  exact allWithin_l0 lo hi xs hn xs.length 0 (by omega)
/-- What a timetable is. -/
def CycOk (cy : List Int) : Prop := (cy.length : Int) ≤ 5 ∧ ∀ x ∈ cy, 1 ≤ x ∧ x ≤ 64
instance (cy : List Int) : Decidable (CycOk cy) := by unfold CycOk; infer_instance
def TabOk (cy off : List Int) : Prop := CycOk cy ∧ off.length = cy.length ∧ ∀ i : Nat, i < off.length → 0 ≤ rd off (i : Int) ∧ rd off (i : Int) ≤ wrap64 (rd cy (i : Int) - 1)
instance (cy off : List Int) : Decidable (TabOk cy off) := by unfold TabOk; infer_instance
theorem areCycles_ev (cy : List Int) (hl : cy.length ≤ 35184372088832) : Ev (fun k => impl_areCycles.f k cy) (decide (CycOk cy)) := by
  unfold impl_areCycles.f CycOk
  exact ev_andp fun _ => ev_bind (allWithin_ev cy 1 64 hl) (ev_some _)
theorem l8Cycles_l0 (xs : List Int) (hn : xs.length ≤ 35184372088832) (d : Nat) : ∀ (i : Nat), i + d = xs.length →
    Ev (fun k => spec_l8Cycles.l0 k xs (i : Int)) (decide ((xs.length : Int) ≤ 5 ∧ ∀ x ∈ xs.drop i, 1 ≤ x ∧ x ≤ 64)) := by
  induction d with
  | zero =>
    intro i hi
    refine ev_succ ?_
    simp only [spec_l8Cycles.l0]
    refine ev_neg (by omega) (ev_dec (ev_some _) ?_)
    rw [List.drop_of_length_le (by omega)]
    simp
  | succ d ih =>
    intro i hi
    refine ev_succ ?_
    simp only [spec_l8Cycles.l0, in_eq, Option.bind_some]
    refine ev_pos (by omega) (ev_pos (by omega) ?_)
    have hw : wrap64 ((i : Int) + 1) = ((i + 1 : Nat) : Int) := by rw [wid (by omega) (by omega)]; omega
    rw [hw, drop_rd xs i (by omega)]
    by_cases h : 1 ≤ rd xs i ∧ rd xs i ≤ 64
    · refine ev_pos (by simpa using h) (ev_cast (ih (i + 1) (by omega)) ?_)
      simp [h]
    · exact ev_neg (by simpa using h) (ev_false fun hh => h (hh.2 _ (by simp)))
theorem l8Cycles_ev (cy : List Int) (hl : cy.length ≤ 35184372088832) : Ev (fun k => spec_l8Cycles.f k cy) (decide (CycOk cy)) := by
  unfold spec_l8Cycles.f CycOk
  exact l8Cycles_l0 cy hl cy.length 0 (by omega)
theorem l8Table_l0 (cy off : List Int) (hc : cy.length ≤ 35184372088832) (ho : off.length ≤ 35184372088832) (d : Nat) : ∀ (i : Nat), i + d = off.length → i ≤ cy.length → (∀ j : Nat, j < i → 0 ≤ rd off (j : Int) ∧ rd off (j : Int) ≤ wrap64 (rd cy (j : Int) - 1)) →
    Ev (fun k => spec_l8Table.l0 k cy off (i : Int)) (decide (TabOk cy off)) := by
  have stop : ∀ (i : Nat), (¬ (i < off.length ∧ i < cy.length)) → i ≤ cy.length → i ≤ off.length → (∀ j : Nat, j < i → 0 ≤ rd off (j : Int) ∧ rd off (j : Int) ≤ wrap64 (rd cy (j : Int) - 1)) →
      Ev (fun k => spec_l8Table.j1 k cy off (i : Int) false) (decide (TabOk cy off)) := by
    intro i hi h1 h2 hj
    refine ev_succ ?_
    simp only [spec_l8Table.j1]
    refine ev_neg (by simp) (ev_bind (l8Cycles_ev cy hc) ?_)
    by_cases h : CycOk cy
    · refine ev_pos (by simpa using h) (ev_cast (ev_some _) ?_)
      rw [Bool.eq_iff_iff]
      simp only [beq_iff_eq, decide_eq_true_eq]
      constructor
      · intro e
        exact ⟨h, by omega, fun j hlt => hj j (by omega)⟩
      · intro t
        have := t.2.1
        omega
    · exact ev_neg (by simpa using h) (ev_false fun t => h t.1)
  induction d with
  | zero =>
    intro i hi hic hj
    refine ev_succ ?_
    simp only [spec_l8Table.l0]
    exact ev_neg (by omega) (stop i (by omega) hic (by omega) hj)
  | succ d ih =>
    intro i hi hic hj
    refine ev_succ ?_
    simp only [spec_l8Table.l0]
    refine ev_pos (by omega) ?_
    by_cases h : (i : Int) < (cy.length : Int)
    · rw [decide_eq_true h]
      refine ev_succ ?_
      simp only [spec_l8Table.j1, in_eq, Option.bind_some]
      have hw : wrap64 ((i : Int) + 1) = ((i + 1 : Nat) : Int) := by rw [wid (by omega) (by omega)]; omega
      rw [hw]
      refine ev_pos trivial (ev_pos (by omega) (ev_pos (by omega) (ev_pos h ?_)))
      by_cases hb : 0 ≤ rd off (i : Int) ∧ rd off (i : Int) ≤ wrap64 (rd cy (i : Int) - 1)
      · refine ev_pos (by simpa using hb) (ih (i + 1) (by omega) (by omega) fun j hlt => ?_)
        by_cases e : j = i
        · rw [e]; exact hb
        · exact hj j (by omega)
      · exact ev_neg (by simpa using hb) (ev_false fun t => hb (t.2.2 i (by omega)))
    · rw [decide_eq_false h]
      exact stop i (by omega) hic (by omega) hj
theorem l8Table_ev (cy off : List Int) (hc : cy.length ≤ 35184372088832) (ho : off.length ≤ 35184372088832) : Ev (fun k => spec_l8Table.f k cy off) (decide (TabOk cy off)) := by
  unfold spec_l8Table.f
  exact l8Table_l0 cy off hc ho off.length 0 (by omega) (by omega) (fun j h => by omega)
theorem isTimetable_l0 (cy off : List Int) (h : CycOk cy) (he : off.length = cy.length) (ho : off.length ≤ 35184372088832) (d : Nat) : ∀ (i : Nat), i + d = off.length → (∀ j : Nat, j < i → 0 ≤ rd off (j : Int) ∧ rd off (j : Int) ≤ wrap64 (rd cy (j : Int) - 1)) →
    Ev (fun k => impl_isTimetable.l0 k cy off (off.length : Int) (i : Int)) (decide (TabOk cy off)) := by
  induction d with
  | zero =>
    intro i hi hj
    refine ev_succ ?_
    simp only [impl_isTimetable.l0]
    exact ev_neg (by omega) (ev_true ⟨h, he, fun j hlt => hj j (by omega)⟩)
  | succ d ih =>
    intro i hi hj
    refine ev_succ ?_
    simp only [impl_isTimetable.l0, within_eq, Option.bind_some]
    have hw : wrap64 ((i : Int) + 1) = ((i + 1 : Nat) : Int) := by rw [wid (by omega) (by omega)]; omega
    rw [hw]
    refine ev_pos (by omega) (ev_pos (by omega) (ev_pos (by omega) (ev_pos (by omega) ?_)))
    by_cases hb : 0 ≤ rd off (i : Int) ∧ rd off (i : Int) ≤ wrap64 (rd cy (i : Int) - 1)
    · refine ev_pos (by simpa using hb) (ih (i + 1) (by omega) fun j hlt => ?_)
      by_cases e : j = i
      · rw [e]; exact hb
      · exact hj j (by omega)
    · exact ev_neg (by simpa using hb) (ev_false fun t => hb (t.2.2 i (by omega)))
theorem isTimetable_ev (cy off : List Int) (hc : cy.length ≤ 35184372088832) (ho : off.length ≤ 35184372088832) : Ev (fun k => impl_isTimetable.f k cy off) (decide (TabOk cy off)) := by
  unfold impl_isTimetable.f
  refine ev_bind (areCycles_ev cy hc) ?_
  by_cases h : CycOk cy
  · refine ev_pos (by simpa using h) (ev_succ ?_)
    simp only [impl_isTimetable.j0]
    by_cases he : off.length = cy.length
    · exact ev_neg (by simp [he]) (isTimetable_l0 cy off h he ho off.length 0 (by omega) fun j hj => by omega)
    · exact ev_pos (by simp; omega) (ev_false fun t => he t.2.1)
  · refine ev_neg (by simpa using h) (ev_succ ?_)
    simp only [impl_isTimetable.j0, if_true]
    exact ev_false fun t => h t.1
/-- A timetable's numbers at a place. -/
theorem tab_at {cy off : List Int} (t : TabOk cy off) (i : Nat) (h : i < cy.length) : 1 ≤ rd cy (i : Int) ∧ rd cy (i : Int) ≤ 64 ∧ 0 ≤ rd off (i : Int) ∧ rd off (i : Int) < rd cy (i : Int) := by
  have h1 : 1 ≤ rd cy (i : Int) ∧ rd cy (i : Int) ≤ 64 := by
    rw [rd_nat cy i h]
    exact t.1.2 _ (List.getElem_mem _)
  have h2 := t.2.2 i (by have := t.2.1; omega)
  rw [wid (by omega) (by omega)] at h2
  omega
/-- The places with a visit, from place i on. -/
def vis (cy off : List Int) (day : Int) : Nat → Nat → List Int → List Int
  | 0, _, acc => acc
  | d + 1, i, acc => if Int.tmod day (rd cy (i : Int)) = rd off (i : Int) then vis cy off day d (i + 1) (acc ++ [(i : Int)]) else vis cy off day d (i + 1) acc
theorem vis_length (cy off : List Int) (day : Int) (d : Nat) : ∀ (i : Nat) (acc : List Int), (vis cy off day d i acc).length ≤ acc.length + d := by
  induction d with
  | zero => intro i acc; exact Nat.le_refl _
  | succ d ih =>
    intro i acc
    unfold vis
    split
    · have := ih (i + 1) (acc ++ [(i : Int)])
      simp only [List.length_append, List.length_cons, List.length_nil] at this
      omega
    · have := ih (i + 1) acc
      omega
theorem specVisits_l0 (cy off : List Int) (t : TabOk cy off) (day : Int) (d : Nat) : ∀ (i : Nat) (acc : List Int), i + d = cy.length → acc.length ≤ i → Ev (fun k => spec_l8Visits.l0 k cy off day acc (i : Int)) (vis cy off day d i acc) := by
  have h5 := t.1.1
  have he := t.2.1
  induction d with
  | zero =>
    intro i acc hi ha
    refine ev_succ ?_
    simp only [spec_l8Visits.l0]
    exact ev_neg (by omega) (ev_some _)
  | succ d ih =>
    intro i acc hi ha
    have hat := tab_at t i (by omega)
    refine ev_succ ?_
    simp only [spec_l8Visits.l0]
    have hw : wrap64 ((i : Int) + 1) = ((i + 1 : Nat) : Int) := by rw [wid (by omega) (by omega)]; omega
    rw [hw]
    refine ev_pos (by omega) (ev_pos (by omega) (ev_neg (by omega) (ev_pos (by omega) ?_)))
    unfold vis
    by_cases h : Int.tmod day (rd cy (i : Int)) = rd off (i : Int)
    · rw [if_pos h]
      exact ev_pos h (ev_pos (by omega) (ih (i + 1) _ (by omega) (by simp; omega)))
    · rw [if_neg h]
      exact ev_neg h (ih (i + 1) _ (by omega) (by omega))
theorem specVisits_ev (cy off : List Int) (t : TabOk cy off) (day : Int) : Ev (fun k => spec_l8Visits.f k cy off day) (vis cy off day cy.length 0 []) := by
  unfold spec_l8Visits.f
  exact specVisits_l0 cy off t day cy.length 0 [] (by omega) (by simp)
theorem implVisits_l0 (cy off : List Int) (t : TabOk cy off) (day : Int) (d : Nat) : ∀ (i : Nat) (acc : List Int), i + d = cy.length → acc.length ≤ i → Ev (fun k => impl_visits.l0 k off day acc cy (cy.length : Int) (i : Int)) (vis cy off day d i acc) := by
  have h5 := t.1.1
  have he := t.2.1
  induction d with
  | zero =>
    intro i acc hi ha
    refine ev_succ ?_
    simp only [impl_visits.l0]
    exact ev_neg (by omega) (ev_some _)
  | succ d ih =>
    intro i acc hi ha
    have hat := tab_at t i (by omega)
    refine ev_succ ?_
    simp only [impl_visits.l0]
    have hw : wrap64 ((i : Int) + 1) = ((i + 1 : Nat) : Int) := by rw [wid (by omega) (by omega)]; omega
    rw [hw]
    refine ev_pos (by omega) (ev_pos (by omega) (ev_pos (by omega) (ev_neg (by omega) (ev_pos (by omega) ?_))))
    unfold vis
    by_cases h : Int.tmod day (rd cy (i : Int)) = rd off (i : Int)
    · rw [if_pos h]
      exact ev_pos h (ev_pos (by omega) (ih (i + 1) _ (by omega) (by simp; omega)))
    · rw [if_neg h]
      exact ev_neg h (ih (i + 1) _ (by omega) (by omega))
theorem implVisits_ev (cy off : List Int) (t : TabOk cy off) (day : Int) : Ev (fun k => impl_visits.f k cy off day) (vis cy off day cy.length 0 []) := by
  unfold impl_visits.f
  exact implVisits_l0 cy off t day cy.length 0 [] (by omega) (by simp)

/-- How many of d days from day i on have a visit. -/
def busy (cy off : List Int) : Nat → Nat → Int → Int
  | 0, _, c => c
  | d + 1, i, c => if ((vis cy off (i : Int) cy.length 0 []).length : Int) > 0 then busy cy off d (i + 1) (c + 1) else busy cy off d (i + 1) c
def ans (cy off : List Int) (days : Int) : Int × Bool := if TabOk cy off ∧ 0 ≤ days ∧ days ≤ 1000 then (busy cy off days.toNat 0 0, true) else (0, false)
theorem spec_l0 (cy off : List Int) (t : TabOk cy off) (n : Nat) (hn : n ≤ 1000) (d : Nat) : ∀ (i : Nat) (c : Int), i + d = n → 0 ≤ c → c ≤ i → Ev (fun k => spec_DaysBusy.l0 k cy off (n : Int) c (i : Int)) (busy cy off d i c, true) := by
  induction d with
  | zero =>
    intro i c hi h0 h1
    refine ev_succ ?_
    simp only [spec_DaysBusy.l0]
    exact ev_neg (by omega) (ev_some _)
  | succ d ih =>
    intro i c hi h0 h1
    refine ev_succ ?_
    simp only [spec_DaysBusy.l0]
    have hw : wrap64 ((i : Int) + 1) = ((i + 1 : Nat) : Int) := by rw [wid (by omega) (by omega)]; omega
    rw [hw, show wrap64 (c + 1) = c + 1 from wid (by omega) (by omega)]
    refine ev_pos (by omega) (ev_bind (specVisits_ev cy off t i) ?_)
    unfold busy
    by_cases h : ((vis cy off (i : Int) cy.length 0 []).length : Int) > 0
    · rw [if_pos h]
      exact ev_pos h (ih (i + 1) (c + 1) (by omega) (by omega) (by omega))
    · rw [if_neg h]
      exact ev_neg h (ih (i + 1) c (by omega) (by omega) (by omega))
theorem impl_l0 (cy off : List Int) (t : TabOk cy off) (n : Nat) (hn : n ≤ 1000) (d : Nat) : ∀ (i : Nat) (c : Int), i + d = n → 0 ≤ c → c ≤ i → Ev (fun k => impl_DaysBusy.l0 k cy off c (n : Int) (i : Int)) (busy cy off d i c, true) := by
  induction d with
  | zero =>
    intro i c hi h0 h1
    refine ev_succ ?_
    simp only [impl_DaysBusy.l0]
    exact ev_neg (by omega) (ev_some _)
  | succ d ih =>
    intro i c hi h0 h1
    refine ev_succ ?_
    simp only [impl_DaysBusy.l0]
    have hw : wrap64 ((i : Int) + 1) = ((i + 1 : Nat) : Int) := by rw [wid (by omega) (by omega)]; omega
    rw [hw, show wrap64 (c + 1) = c + 1 from wid (by omega) (by omega)]
    refine ev_pos (by omega) (ev_bind (implVisits_ev cy off t i) ?_)
    unfold busy
    by_cases h : ((vis cy off (i : Int) cy.length 0 []).length : Int) > 0
    · rw [if_pos h]
      exact ev_pos h (ih (i + 1) (c + 1) (by omega) (by omega) (by omega))
    · rw [if_neg h]
      exact ev_neg h (ih (i + 1) c (by omega) (by omega) (by omega))
theorem spec_ev (cy off : List Int) (days : Int) (hc : cy.length ≤ 35184372088832) (ho : off.length ≤ 35184372088832) : Ev (fun k => spec_DaysBusy.f k cy off days) (ans cy off days) := by
  unfold spec_DaysBusy.f ans
  simp only [in_eq, Option.bind_some]
  refine ev_bind (l8Table_ev cy off hc ho) ?_
  by_cases t : TabOk cy off
  · refine ev_pos (by simpa using t) (ev_succ ?_)
    simp only [spec_DaysBusy.j0]
    by_cases h : 0 ≤ days ∧ days ≤ 1000
    · rw [if_pos ⟨t, h⟩]
      have := spec_l0 cy off t days.toNat (by omega) days.toNat 0 0 (by omega) (by omega) (by omega)
      rw [Int.toNat_of_nonneg h.1] at this
      exact ev_neg (by simp [h]) this
    · rw [if_neg fun c => h c.2]
      exact ev_pos (by rw [decide_eq_false h]; rfl) (ev_some _)
  · rw [if_neg fun c => t c.1]
    refine ev_neg (by simpa using t) (ev_succ ?_)
    simp only [spec_DaysBusy.j0, if_true]
    exact ev_some _
theorem impl_ev (cy off : List Int) (days : Int) (hc : cy.length ≤ 35184372088832) (ho : off.length ≤ 35184372088832) : Ev (fun k => impl_DaysBusy.f k cy off days) (ans cy off days) := by
  unfold impl_DaysBusy.f ans
  simp only [within_eq, Option.bind_some]
  refine ev_bind (isTimetable_ev cy off hc ho) ?_
  by_cases t : TabOk cy off
  · refine ev_pos (by simpa using t) (ev_succ ?_)
    simp only [impl_DaysBusy.j0]
    by_cases h : 0 ≤ days ∧ days ≤ 1000
    · rw [if_pos ⟨t, h⟩]
      have := impl_l0 cy off t days.toNat (by omega) days.toNat 0 0 (by omega) (by omega) (by omega)
      rw [Int.toNat_of_nonneg h.1] at this
      exact ev_neg (by simp [h]) this
    · rw [if_neg fun c => h c.2]
      exact ev_pos (by rw [decide_eq_false h]; rfl) (ev_some _)
  · rw [if_neg fun c => t c.1]
    refine ev_neg (by simpa using t) (ev_succ ?_)
    simp only [impl_DaysBusy.j0, if_true]
    exact ev_some _

theorem FnExactDaysBusy (l0 : List Int) (l1 : List Int) (a2 : Int) (hl0 : l0.length ≤ maxLen) (hw0 : ∀ x ∈ l0, (Lit.int .i64 x).wf = true) (hl1 : l1.length ≤ maxLen) (hw1 : ∀ x ∈ l1, (Lit.int .i64 x).wf = true) (hw2 : (Lit.int .i64 a2).wf = true) :
    ∃ k, laws_FnExactDaysBusy.f k l0 l1 a2 = some true := by
  refine Ev.rounds ?_
  unfold laws_FnExactDaysBusy.f
  by_cases c0 : (l0.length : Int) > 1048576
  · exact ev_pos c0 (ev_some _)
  refine ev_neg c0 ?_
  by_cases c1 : (l1.length : Int) > 1048576
  · exact ev_pos c1 (ev_some _)
  refine ev_neg c1 ?_
  have h0 : l0.length ≤ 35184372088832 := by omega
  have h1 : l1.length ≤ 35184372088832 := by omega
  have t0 := toIntS_ev l0 h0
  have t1 := toIntS_ev l1 h1
  refine ev_bind t0 (ev_bind t1 (ev_bind (spec_ev l0 l1 a2 h0 h1) (ev_bind t0 (ev_bind t1 (ev_bind (impl_ev l0 l1 a2 h0 h1) (ev_pos rfl (ev_succ ?_)))))))
  simp only [laws_FnExactDaysBusy.j0]
  exact ev_neg (by simp) (ev_bind t0 (ev_bind (eqIntS_ev l0 l0 h0) (ev_pos (by simp) (ev_bind t1 (ev_bind (eqIntS_ev l1 l1 h1) (ev_pos (by simp) (ev_some _)))))))

end Go.Proofs.Ytghhkfcacaagjaa.Pure
