/- The program's IsFree and the reference's decide the same conditions on a timetable, and whether two visits meet on a day; the greatest common divisors are the same. No conditions. -/
import Derived.Test.YtghhkfcacaagjaaKit
import Derived.Test.YtghhkfcacaagjaaQFnExactIsFreex3
namespace Go.Proofs.Ytghhkfcacaagjaa.Pure
set_option linter.unusedVariables false
open Go.RowKit Go.Proofs.Ytghhkfcacaagjaa.PFnExactIsFree Go.Proofs.YtghhkfcacaagjaaW.PrintWords Go.Proofs.YtghhkfcacaagjaaW.PrintLast Go.Proofs.Ytghhkfcacaagjaa.Kit

theorem in_eq (a b c : Int) : spec_l1In.f a b c = some (decide (b ≤ a ∧ a ≤ c)) := by
  unfold spec_l1In.f
  by_cases h : b ≤ a <;> simp [h]
theorem within_eq (a b c : Int) : impl_within.f a b c = some (decide (b ≤ a ∧ a ≤ c)) := by
  unfold impl_within.f
  by_cases h : b ≤ a <;> simp [h]
theorem toIntS_l0 (xs : List Int) (hn : xs.length ≤ 35184372088832) (d : Nat) : ∀ (i : Nat) (ys : List Int), i + d = xs.length → ys.length = xs.length → ys.take i = xs.take i →
    Ev (fun k => laws_toIntS.l0 k xs ys (i : Int)) xs := by
  induction d with
  | zero =>
    intro i ys hi hl ht
    refine ev_succ ?_
    simp only [laws_toIntS.l0]
    refine ev_neg (by omega) ?_
    rw [List.take_of_length_le (by omega), List.take_of_length_le (by omega)] at ht
    rw [ht]
    exact ev_some _
  | succ d ih =>
    intro i ys hi hl ht
    refine ev_succ ?_
    simp only [laws_toIntS.l0]
    refine ev_pos (by omega) (ev_pos (by omega) (ev_pos (by omega) ?_))
    have hw : wrap64 ((i : Int) + 1) = ((i + 1 : Nat) : Int) := by rw [wid (by omega) (by omega)]; omega
    rw [hw]
    refine ih (i + 1) _ (by omega) (by simpa using hl) ?_
    rw [rd_nat xs i (by omega), Int.toNat_natCast, List.take_succ_eq_append_getElem (by simp; omega), List.take_succ_eq_append_getElem (by omega), List.getElem_set_self, List.take_set_of_le (by omega), ht]
theorem toIntS_ev (xs : List Int) (hn : xs.length ≤ 35184372088832) : Ev (fun k => laws_toIntS.f k xs) xs := by
  unfold laws_toIntS.f
  refine ev_pos (by omega) (ev_pos (by omega) ?_)
  exact toIntS_l0 xs hn xs.length 0 _ (by omega) (by simp) rfl
theorem eqIntS_l0 (xs ys : List Int) (hn : xs.length ≤ 35184372088832) (hl : ys.length = xs.length) (d : Nat) : ∀ (i : Nat), i + d = xs.length →
    Ev (fun k => laws_eqIntS.l0 k xs ys (i : Int)) (decide (xs.drop i = ys.drop i)) := by
  induction d with
  | zero =>
    intro i hi
    refine ev_succ ?_
    simp only [laws_eqIntS.l0]
    refine ev_neg (by omega) ?_
    rw [List.drop_of_length_le (by omega), List.drop_of_length_le (by omega)]
    exact ev_some _
  | succ d ih =>
    intro i hi
    refine ev_succ ?_
    simp only [laws_eqIntS.l0]
    refine ev_pos (by omega) (ev_pos (by omega) (ev_pos (by omega) ?_))
    have hw : wrap64 ((i : Int) + 1) = ((i + 1 : Nat) : Int) := by rw [wid (by omega) (by omega)]; omega
    rw [hw, drop_rd xs i (by omega), drop_rd ys i (by omega)]
    by_cases h : rd xs i = rd ys i
    · refine ev_pos h (ev_cast (ih (i + 1) (by omega)) ?_)
      simp [h]
    · refine ev_neg h (ev_cast (ev_some false) ?_)
      simp [h]
theorem eqIntS_ev (xs ys : List Int) (hn : xs.length ≤ 35184372088832) : Ev (fun k => laws_eqIntS.f k xs ys) (decide (xs = ys)) := by
  unfold laws_eqIntS.f
  by_cases h : xs.length = ys.length
  · refine ev_pos (by omega) (ev_cast (eqIntS_l0 xs ys hn h.symm xs.length 0 (by omega)) (by simp))
  · refine ev_neg (by omega) (ev_cast (ev_some false) ?_)
    have : xs ≠ ys := fun e => h (by rw [e])
    simp [this]
theorem allWithin_l0 (lo up : Int) (xs : List Int) (hn : xs.length ≤ 35184372088832) (d : Nat) : ∀ (i : Nat), i + d = xs.length →
    Ev (fun k => impl_allWithin.l0 k lo up xs (xs.length : Int) (i : Int)) (decide (∀ x ∈ xs.drop i, lo ≤ x ∧ x ≤ up)) := by
  induction d with
  | zero =>
    intro i hi
    refine ev_succ ?_
    simp only [impl_allWithin.l0]
    refine ev_neg (by omega) ?_
    rw [List.drop_of_length_le (by omega)]
    exact ev_cast (ev_some true) (by simp)
  | succ d ih =>
    intro i hi
    refine ev_succ ?_
    simp only [impl_allWithin.l0, within_eq, Option.bind_some]
    refine ev_pos (by omega) (ev_pos (by omega) (ev_pos (by omega) ?_))
    have hw : wrap64 ((i : Int) + 1) = ((i + 1 : Nat) : Int) := by rw [wid (by omega) (by omega)]; omega
    rw [hw, drop_rd xs i (by omega)]
    by_cases h : lo ≤ rd xs i ∧ rd xs i ≤ up
    · refine ev_pos (by simpa using h) (ev_cast (ih (i + 1) (by omega)) ?_)
      simp [h]
    · refine ev_neg (by simpa using h) (ev_cast (ev_some false) ?_)
      symm
      simp only [decide_eq_false_iff_not, List.mem_cons]
      exact fun hh => h (hh _ (Or.inl rfl))
theorem allWithin_ev (xs : List Int) (lo hi : Int) (hn : xs.length ≤ 35184372088832) : Ev (fun k => impl_allWithin.f k xs lo hi) (decide (∀ x ∈ xs, lo ≤ x ∧ x ≤ hi)) := by
  unfold impl_allWithin.f
  exact allWithin_l0 lo hi xs hn xs.length 0 (by omega)
/-- What a timetable is. -/
def CycOk (cy : List Int) : Prop := (cy.length : Int) ≤ 5 ∧ ∀ x ∈ cy, 1 ≤ x ∧ x ≤ 64
instance (cy : List Int) : Decidable (CycOk cy) := by unfold CycOk; infer_instance
def TabOk (cy off : List Int) : Prop := CycOk cy ∧ off.length = cy.length ∧ ∀ i : Nat, i < off.length → 0 ≤ rd off (i : Int) ∧ rd off (i : Int) ≤ wrap64 (rd cy (i : Int) - 1)
instance (cy off : List Int) : Decidable (TabOk cy off) := by unfold TabOk; infer_instance
theorem areCycles_ev (cy : List Int) (hl : cy.length ≤ 35184372088832) : Ev (fun k => impl_areCycles.f k cy) (decide (CycOk cy)) := by
  unfold impl_areCycles.f CycOk
  exact ev_andp fun _ => ev_bind (allWithin_ev cy 1 64 hl) (ev_some _)
theorem l8Cycles_l0 (xs : List Int) (hn : xs.length ≤ 35184372088832) (d : Nat) : ∀ (i : Nat), i + d = xs.length →
    Ev (fun k => spec_l8Cycles.l0 k xs (i : Int)) (decide ((xs.length : Int) ≤ 5 ∧ ∀ x ∈ xs.drop i, 1 ≤ x ∧ x ≤ 64)) := by
  induction d with
  | zero =>
    intro i hi
    refine ev_succ ?_
    simp only [spec_l8Cycles.l0]
    refine ev_neg (by omega) (ev_dec (ev_some _) ?_)
    rw [List.drop_of_length_le (by omega)]
    simp
  | succ d ih =>
    intro i hi
    refine ev_succ ?_
    simp only [spec_l8Cycles.l0, in_eq, Option.bind_some]
    refine ev_pos (by omega) (ev_pos (by omega) ?_)
    have hw : wrap64 ((i : Int) + 1) = ((i + 1 : Nat) : Int) := by rw [wid (by omega) (by omega)]; omega
    rw [hw, drop_rd xs i (by omega)]
    by_cases h : 1 ≤ rd xs i ∧ rd xs i ≤ 64
    · refine ev_pos (by simpa using h) (ev_cast (ih (i + 1) (by omega)) ?_)
      simp [h]
    · exact ev_neg (by simpa using h) (ev_false fun hh => h (hh.2 _ (by simp)))
theorem l8Cycles_ev (cy : List Int) (hl : cy.length ≤ 35184372088832) : Ev (fun k => spec_l8Cycles.f k cy) (decide (CycOk cy)) := by
  unfold spec_l8Cycles.f CycOk
  exact l8Cycles_l0 cy hl cy.length 0 (by omega)
theorem l8Table_l0 (cy off : List Int) (hc : cy.length ≤ 35184372088832) (ho : off.length ≤ 35184372088832) (d : Nat) : ∀ (i : Nat), i + d = off.length → i ≤ cy.length → (∀ j : Nat, j < i → 0 ≤ rd off (j : Int) ∧ rd off (j : Int) ≤ wrap64 (rd cy (j : Int) - 1)) →
    Ev (fun k => spec_l8Table.l0 k cy off (i : Int)) (decide (TabOk cy off)) := by
  have stop : ∀ (i : Nat), (¬ (i < off.length ∧ i < cy.length)) → i ≤ cy.length → i ≤ off.length → (∀ j : Nat, j < i → 0 ≤ rd off (j : Int) ∧ rd off (j : Int) ≤ wrap64 (rd cy (j : Int) - 1)) →
      Ev (fun k => spec_l8Table.j1 k cy off (i : Int) false) (decide (TabOk cy off)) := by
    intro i hi h1 h2 hj
    refine ev_succ ?_
    simp only [spec_l8Table.j1]
    refine ev_neg (by simp) (ev_bind (l8Cycles_ev cy hc) ?_)
    by_cases h : CycOk cy
    · refine ev_pos (by simpa using h) (ev_cast (ev_some _) ?_)
      rw [Bool.eq_iff_iff]
      simp only [beq_iff_eq, decide_eq_true_eq]
      constructor
      · intro e
        exact ⟨h, by omega, fun j hlt => hj j (by omega)⟩
      · intro t
        have := t.2.1
        omega
    · exact ev_neg (by simpa using h) (ev_false fun t => h t.1)
  induction d with
  | zero =>
    intro i hi hic hj
    refine ev_succ ?_
    simp only [spec_l8Table.l0]
    exact ev_neg (by omega) (stop i (by omega) hic (by omega) hj)
  | succ d ih =>
    intro i hi hic hj
    refine ev_succ ?_
    simp only [spec_l8Table.l0]
    refine ev_pos (by omega) ?_
    by_cases h : (i : Int) < (cy.length : Int)
    · rw [decide_eq_true h]
      refine ev_succ ?_
      simp only [spec_l8Table.j1, in_eq, Option.bind_some]
      have hw : wrap64 ((i : Int) + 1) = ((i + 1 : Nat) : Int) := by rw [wid (by omega) (by omega)]; omega
      rw [hw]
      refine ev_pos trivial (ev_pos (by omega) (ev_pos (by omega) (ev_pos h ?_)))
      by_cases hb : 0 ≤ rd off (i : Int) ∧ rd off (i : Int) ≤ wrap64 (rd cy (i : Int) - 1)
      · refine ev_pos (by simpa using hb) (ih (i + 1) (by omega) (by omega) fun j hlt => ?_)
        by_cases e : j = i
        · rw [e]; exact hb
        · exact hj j (by omega)
      · exact ev_neg (by simpa using hb) (ev_false fun t => hb (t.2.2 i (by omega)))
    · rw [decide_eq_false h]
      exact stop i (by omega) hic (by omega) hj
theorem l8Table_ev (cy off : List Int) (hc : cy.length ≤ 35184372088832) (ho : off.length ≤ 35184372088832) : Ev (fun k => spec_l8Table.f k cy off) (decide (TabOk cy off)) := by
  unfold spec_l8Table.f
  exact l8Table_l0 cy off hc ho off.length 0 (by omega) (by omega) (fun j h => by omega)
theorem isTimetable_l0 (cy off : List Int) (h : CycOk cy) (he : off.length = cy.length) (ho : off.length ≤ 35184372088832) (d : Nat) : ∀ (i : Nat), i + d = off.length → (∀ j : Nat, j < i → 0 ≤ rd off (j : Int) ∧ rd off (j : Int) ≤ wrap64 (rd cy (j : Int) - 1)) →
    Ev (fun k => impl_isTimetable.l0 k cy off (off.length : Int) (i : Int)) (decide (TabOk cy off)) := by
  induction d with
  | zero =>
    intro i hi hj
    refine ev_succ ?_
    simp only [impl_isTimetable.l0]
    exact ev_neg (by omega) (ev_true ⟨h, he, fun j hlt => hj j (by omega)⟩)
  | succ d ih =>
    intro i hi hj
    refine ev_succ ?_
    simp only [impl_isTimetable.l0, within_eq, Option.bind_some]
    have hw : wrap64 ((i : Int) + 1) = ((i + 1 : Nat) : Int) := by rw [wid (by omega) (by omega)]; omega
    rw [hw]
    refine ev_pos (by omega) (ev_pos (by omega) (ev_pos (by omega) (ev_pos (by omega) ?_)))
    by_cases hb : 0 ≤ rd off (i : Int) ∧ rd off (i : Int) ≤ wrap64 (rd cy (i : Int) - 1)
    · refine ev_pos (by simpa using hb) (ih (i + 1) (by omega) fun j hlt => ?_)
      by_cases e : j = i
      · rw [e]; exact hb
      · exact hj j (by omega)
    · exact ev_neg (by simpa using hb) (ev_false fun t => hb (t.2.2 i (by omega)))
theorem isTimetable_ev (cy off : List Int) (hc : cy.length ≤ 35184372088832) (ho : off.length ≤ 35184372088832) : Ev (fun k => impl_isTimetable.f k cy off) (decide (TabOk cy off)) := by
  unfold impl_isTimetable.f
  refine ev_bind (areCycles_ev cy hc) ?_
  by_cases h : CycOk cy
  · refine ev_pos (by simpa using h) (ev_succ ?_)
    simp only [impl_isTimetable.j0]
    by_cases he : off.length = cy.length
    · exact ev_neg (by simp [he]) (isTimetable_l0 cy off h he ho off.length 0 (by omega) fun j hj => by omega)
    · exact ev_pos (by simp; omega) (ev_false fun t => he t.2.1)
  · refine ev_neg (by simpa using h) (ev_succ ?_)
    simp only [impl_isTimetable.j0, if_true]
    exact ev_false fun t => h t.1
/-- A timetable's numbers at a place. -/
theorem tab_at {cy off : List Int} (t : TabOk cy off) (i : Nat) (h : i < cy.length) : 1 ≤ rd cy (i : Int) ∧ rd cy (i : Int) ≤ 64 ∧ 0 ≤ rd off (i : Int) ∧ rd off (i : Int) < rd cy (i : Int) := by
  have h1 : 1 ≤ rd cy (i : Int) ∧ rd cy (i : Int) ≤ 64 := by
    rw [rd_nat cy i h]
    exact t.1.2 _ (List.getElem_mem _)
  have h2 := t.2.2 i (by have := t.2.1; omega)
  rw [wid (by omega) (by omega)] at h2
  omega
theorem gcd_l0 (b : Nat) : ∀ a : Nat, Ev (fun k => spec_l8Gcd.l0 k (a : Int) (b : Int)) ((Nat.gcd a b : Nat) : Int) := by
  induction b using Nat.strongRecOn with
  | _ b ih =>
    intro a
    refine ev_succ ?_
    simp only [spec_l8Gcd.l0]
    by_cases h : b = 0
    · subst h
      exact ev_neg (by omega) (ev_cast (ev_some _) (by simp))
    · refine ev_pos (by omega) (ev_neg (by omega) ?_)
      have e : Int.tmod (a : Int) (b : Int) = ((a % b : Nat) : Int) := rfl
      rw [e]
      refine ev_cast (ih (a % b) (Nat.mod_lt _ (by omega)) b) ?_
      rw [Nat.gcd_comm b, ← Nat.gcd_rec, Nat.gcd_comm]
theorem gcd_ev (a b : Int) (ha : 0 ≤ a) (hb : 0 ≤ b) : Ev (fun k => spec_l8Gcd.f k a b) ((Nat.gcd a.toNat b.toNat : Nat) : Int) := by
  unfold spec_l8Gcd.f
  have := gcd_l0 b.toNat a.toNat
  rwa [Int.toNat_of_nonneg ha, Int.toNat_of_nonneg hb] at this
theorem divisor_l0 (b : Nat) : ∀ a : Nat, Ev (fun k => impl_divisor.l0 k (a : Int) (b : Int)) ((Nat.gcd a b : Nat) : Int) := by
  induction b using Nat.strongRecOn with
  | _ b ih =>
    intro a
    refine ev_succ ?_
    simp only [impl_divisor.l0]
    by_cases h : b = 0
    · subst h
      exact ev_pos (by omega) (ev_cast (ev_some _) (by simp))
    · refine ev_neg (by omega) ?_
      have e : Int.tmod (a : Int) (b : Int) = ((a % b : Nat) : Int) := rfl
      rw [e]
      refine ev_cast (ih (a % b) (Nat.mod_lt _ (by omega)) b) ?_
      rw [Nat.gcd_comm b, ← Nat.gcd_rec, Nat.gcd_comm]
theorem divisor_ev (a b : Int) (ha : 0 ≤ a) (hb : 0 ≤ b) : Ev (fun k => impl_divisor.f k a b) ((Nat.gcd a.toNat b.toNat : Nat) : Int) := by
  unfold impl_divisor.f
  have := divisor_l0 b.toNat a.toNat
  rwa [Int.toNat_of_nonneg ha, Int.toNat_of_nonneg hb] at this
/-- Two visits on a day. -/
def Meet (cy off : List Int) (i j : Nat) : Prop := Int.tmod (rd off (i : Int) - rd off (j : Int)) ((Nat.gcd (rd cy (i : Int)).toNat (rd cy (j : Int)).toNat : Nat) : Int) = 0
instance (cy off : List Int) (i j : Nat) : Decidable (Meet cy off i j) := by unfold Meet; infer_instance
theorem meet_comm (cy off : List Int) (i j : Nat) : Meet cy off i j ↔ Meet cy off j i := by
  unfold Meet
  rw [Nat.gcd_comm, show rd off (i : Int) - rd off (j : Int) = -(rd off (j : Int) - rd off (i : Int)) by omega, Int.neg_tmod]
  omega
/-- No two visits on a day. -/
def Free (cy off : List Int) : Prop := ∀ i : Nat, i < cy.length → ∀ j : Nat, j < i → ¬ Meet cy off i j
instance (cy off : List Int) : Decidable (Free cy off) := by unfold Free; infer_instance
theorem gcd_pos {cy off : List Int} (t : TabOk cy off) (i j : Nat) (hi : i < cy.length) : ((Nat.gcd (rd cy (i : Int)).toNat (rd cy (j : Int)).toNat : Nat) : Int) ≠ 0 := by
  have := tab_at t i hi
  have h := Nat.gcd_pos_of_pos_left (rd cy (j : Int)).toNat (show 0 < (rd cy (i : Int)).toNat by omega)
  omega
theorem specMeet_ev (cy off : List Int) (t : TabOk cy off) (i j : Nat) (hi : i < cy.length) (hj : j < cy.length) :
    Ev (fun k => spec_l8Meet.f k (rd cy (i : Int)) (rd off (i : Int)) (rd cy (j : Int)) (rd off (j : Int))) (decide (Meet cy off i j)) := by
  have h1 := tab_at t i hi
  have h2 := tab_at t j hj
  unfold spec_l8Meet.f
  refine ev_bind (gcd_ev _ _ (by omega) (by omega)) (ev_neg (gcd_pos t i j hi) (ev_cast (ev_some _) ?_))
  rw [wid (by omega) (by omega)]
  rfl
theorem specFree_l1 (cy off : List Int) (t : TabOk cy off) (i : Nat) (hi : i < cy.length) (R : Bool × Bool) (hb : ¬ Free cy off → R = (false, true)) (hc : (∀ j : Nat, j < i → ¬ Meet cy off i j) → Ev (fun k => spec_IsFree.l0 k cy off ((i + 1 : Nat) : Int)) R) (d : Nat) :
    ∀ j : Nat, j + d = i → (∀ j' : Nat, j' < j → ¬ Meet cy off i j') → Ev (fun k => spec_IsFree.l1 k cy off (i : Int) (j : Int)) R := by
  have he := t.2.1
  have h5 := t.1.1
  induction d with
  | zero =>
    intro j hj hp
    refine ev_succ ?_
    simp only [spec_IsFree.l1]
    have hw : wrap64 ((i : Int) + 1) = ((i + 1 : Nat) : Int) := by rw [wid (by omega) (by omega)]; omega
    rw [hw]
    exact ev_neg (by omega) (hc fun j' h => hp j' (by omega))
  | succ d ih =>
    intro j hj hp
    refine ev_succ ?_
    simp only [spec_IsFree.l1]
    have hw : wrap64 ((j : Int) + 1) = ((j + 1 : Nat) : Int) := by rw [wid (by omega) (by omega)]; omega
    rw [hw]
    refine ev_pos (by omega) (ev_pos (by omega) (ev_pos (by omega) (ev_pos (by omega) (ev_pos (by omega) (ev_pos (by omega) (ev_pos (by omega) (ev_bind (specMeet_ev cy off t i j hi (by omega)) ?_)))))))
    by_cases h : Meet cy off i j
    · exact ev_pos (by simpa using h) (ev_cast (ev_some _) (hb fun f => f i hi j (by omega) h).symm)
    · refine ev_neg (by simpa using h) (ih (j + 1) (by omega) fun j' h' => ?_)
      by_cases e : j' = j
      · rw [e]; exact h
      · exact hp j' (by omega)
theorem specFree_l0 (cy off : List Int) (t : TabOk cy off) (R : Bool × Bool) (hb : ¬ Free cy off → R = (false, true)) (hg : Free cy off → R = (true, true)) (d : Nat) :
    ∀ i : Nat, i + d = cy.length → (∀ i' : Nat, i' < i → ∀ j : Nat, j < i' → ¬ Meet cy off i' j) → Ev (fun k => spec_IsFree.l0 k cy off (i : Int)) R := by
  induction d with
  | zero =>
    intro i hi hp
    refine ev_succ ?_
    simp only [spec_IsFree.l0]
    exact ev_neg (by omega) (ev_cast (ev_some _) (hg fun i' h => hp i' (by omega)).symm)
  | succ d ih =>
    intro i hi hp
    refine ev_succ ?_
    simp only [spec_IsFree.l0]
    refine ev_pos (by omega) ?_
    have := specFree_l1 cy off t i (by omega) R hb (fun hall => ih (i + 1) (by omega) fun i' h j hj => ?_) i 0 (by omega) (fun j' h => by omega)
    · exact this
    · by_cases e : i' = i
      · rw [e] at hj ⊢; exact hall j hj
      · exact hp i' (by omega) j hj
theorem rd_take (xs : List Int) (n i : Nat) (h : i < n) (hn : n ≤ xs.length) : rd (xs.take n) (i : Int) = rd xs (i : Int) := by
  rw [rd_nat _ i (by simp; omega), rd_nat _ i (by omega)]
  simp
theorem meets_l0 (cy off : List Int) (t : TabOk cy off) (i : Nat) (hi : i < cy.length) (d : Nat) : ∀ j : Nat, j + d = i → (∀ j' : Nat, j' < j → ¬ Meet cy off i j') →
    Ev (fun k => impl_meets.l0 k cy (off.take (i + 1)) (i : Int) (i : Int) (j : Int)) (decide (∃ j, j < i ∧ Meet cy off i j)) := by
  have he := t.2.1
  have h5 := t.1.1
  have hl : (off.take (i + 1)).length = i + 1 := by rw [List.length_take]; omega
  induction d with
  | zero =>
    intro j hj hp
    refine ev_succ ?_
    simp only [impl_meets.l0]
    refine ev_neg (by omega) (ev_false ?_)
    rintro ⟨j', h1, h2⟩
    exact hp j' (by omega) h2
  | succ d ih =>
    intro j hj hp
    have a1 : j < i := by omega
    have a2 : j < cy.length := by omega
    have a3 : i + 1 ≤ off.length := by omega
    have a4 : (j : Int) < (i : Int) := by omega
    have a5 : (0 : Int) ≤ (j : Int) := by omega
    have a6 : (j : Int) < ((off.take (i + 1)).length : Int) := by rw [hl]; omega
    have a7 : (0 : Int) ≤ (i : Int) := by omega
    have a8 : (i : Int) < ((off.take (i + 1)).length : Int) := by rw [hl]; omega
    have a9 : (j : Int) < (cy.length : Int) := by omega
    have a10 : (i : Int) < (cy.length : Int) := by omega
    have g3 : rd (off.take (i + 1)) (j : Int) = rd off (j : Int) := rd_take off (i + 1) j (by omega) a3
    have g4 : rd (off.take (i + 1)) (i : Int) = rd off (i : Int) := rd_take off (i + 1) i (by omega) a3
    have hw : wrap64 ((j : Int) + 1) = ((j + 1 : Nat) : Int) := by rw [wid (by omega) (by omega)]; omega
    have hd : wrap64 (rd off (j : Int) - rd off (i : Int)) = rd off (j : Int) - rd off (i : Int) := by
      have h1 := tab_at t i hi
      have h2 := tab_at t j a2
      exact wid (by omega) (by omega)
    have hq : Ev (fun k => impl_divisor.f k (rd cy (j : Int)) (rd cy (i : Int))) ((Nat.gcd (rd cy (j : Int)).toNat (rd cy (i : Int)).toNat : Nat) : Int) := by
      have h1 := tab_at t i hi
      have h2 := tab_at t j a2
      exact divisor_ev _ _ (by omega) (by omega)
    refine ev_succ ?_
    simp only [impl_meets.l0]
    rw [hw, g3, g4, hd]
    refine ev_pos a4 (ev_pos a5 (ev_pos a6 (ev_pos a7 (ev_pos a8 (ev_pos a9 (ev_pos a10 (ev_bind hq (ev_neg (gcd_pos t j i a2) ?_))))))))
    by_cases h : Meet cy off j i
    · exact ev_pos h (ev_true ⟨j, a1, (meet_comm cy off i j).2 h⟩)
    · refine ev_neg h (ih (j + 1) (by omega) fun j' h' => ?_)
      by_cases e : j' = j
      · rw [e]; exact fun hh => h ((meet_comm cy off i j).1 hh)
      · exact hp j' (by omega)
theorem meets_ev (cy off : List Int) (t : TabOk cy off) (i : Nat) (hi : i < cy.length) : Ev (fun k => impl_meets.f k cy (off.take (i + 1))) (decide (∃ j, j < i ∧ Meet cy off i j)) := by
  have he := t.2.1
  have h5 := t.1.1
  have hl : (off.take (i + 1)).length = i + 1 := by rw [List.length_take]; omega
  unfold impl_meets.f
  rw [hl, show wrap64 (((i + 1 : Nat) : Int) - 1) = (i : Int) by rw [wid (by omega) (by omega)]; omega]
  exact meets_l0 cy off t i hi i 0 (by omega) (fun j h => by omega)
theorem implFree_l0 (cy off : List Int) (t : TabOk cy off) (R : Bool × Bool) (hb : ¬ Free cy off → R = (false, true)) (hg : Free cy off → R = (true, true)) (d : Nat) :
    ∀ i : Nat, i + d = cy.length → (∀ i' : Nat, i' < i → ∀ j : Nat, j < i' → ¬ Meet cy off i' j) → Ev (fun k => impl_IsFree.l0 k cy off (off.length : Int) (i : Int)) R := by
  have he := t.2.1
  have h5 := t.1.1
  induction d with
  | zero =>
    intro i hi hp
    refine ev_succ ?_
    simp only [impl_IsFree.l0]
    exact ev_neg (by omega) (ev_cast (ev_some _) (hg fun i' h => hp i' (by omega)).symm)
  | succ d ih =>
    intro i hi hp
    refine ev_succ ?_
    simp only [impl_IsFree.l0]
    have hw : wrap64 ((i : Int) + 1) = ((i + 1 : Nat) : Int) := by rw [wid (by omega) (by omega)]; omega
    rw [hw, Int.toNat_natCast]
    refine ev_pos (by omega) (ev_pos (by omega) (ev_pos (by omega) (ev_bind (meets_ev cy off t i (by omega)) ?_)))
    by_cases h : ∃ j, j < i ∧ Meet cy off i j
    · refine ev_pos (by simpa using h) (ev_cast (ev_some _) (hb fun f => ?_).symm)
      obtain ⟨j, h1, h2⟩ := h
      exact f i (by omega) j h1 h2
    · refine ev_neg (by simpa using h) (ih (i + 1) (by omega) fun i' h' j hj => ?_)
      by_cases e : i' = i
      · rw [e] at hj ⊢; exact fun hh => h ⟨j, hj, hh⟩
      · exact hp i' (by omega) j hj
/-- What both return. -/
def ans (cy off : List Int) : Bool × Bool := if TabOk cy off then (decide (Free cy off), true) else (false, false)
theorem specFree_ev (cy off : List Int) (hc : cy.length ≤ 35184372088832) (ho : off.length ≤ 35184372088832) : Ev (fun k => spec_IsFree.f k cy off) (ans cy off) := by
  unfold spec_IsFree.f ans
  refine ev_bind (l8Table_ev cy off hc ho) ?_
  by_cases t : TabOk cy off
  · rw [if_pos t]
    exact ev_pos (by simpa using t) (specFree_l0 cy off t _ (fun h => by simp [h]) (fun h => by simp [h]) cy.length 0 (by omega) (fun i h => by omega))
  · rw [if_neg t]
    exact ev_neg (by simpa using t) (ev_some _)
theorem implFree_ev (cy off : List Int) (hc : cy.length ≤ 35184372088832) (ho : off.length ≤ 35184372088832) : Ev (fun k => impl_IsFree.f k cy off) (ans cy off) := by
  unfold impl_IsFree.f ans
  refine ev_bind (isTimetable_ev cy off hc ho) ?_
  by_cases t : TabOk cy off
  · rw [if_pos t]
    exact ev_pos (by simpa using t) (implFree_l0 cy off t _ (fun h => by simp [h]) (fun h => by simp [h]) cy.length 0 (by omega) (fun i h => by omega))
  · rw [if_neg t]
    exact ev_neg (by simpa using t) (ev_some _)

theorem FnExactIsFree (l0 : List Int) (l1 : List Int) (hl0 : l0.length ≤ maxLen) (hw0 : ∀ x ∈ l0, (Lit.int .i64 x).wf = true) (hl1 : l1.length ≤ maxLen) (hw1 : ∀ x ∈ l1, (Lit.int .i64 x).wf = true) :
    ∃ k, laws_FnExactIsFree.f k l0 l1 = some true := by
  refine Ev.rounds ?_
  unfold laws_FnExactIsFree.f
  by_cases c0 : (l0.length : Int) > 1048576
  · exact ev_pos c0 (ev_some _)
  refine ev_neg c0 ?_
  by_cases c1 : (l1.length : Int) > 1048576
  · exact ev_pos c1 (ev_some _)
  refine ev_neg c1 ?_
  have h0 : l0.length ≤ 35184372088832 := by omega
  have h1 : l1.length ≤ 35184372088832 := by omega
  have t0 := toIntS_ev l0 h0
  have t1 := toIntS_ev l1 h1
  refine ev_bind t0 (ev_bind t1 (ev_bind (specFree_ev l0 l1 h0 h1) (ev_bind t0 (ev_bind t1 (ev_bind (implFree_ev l0 l1 h0 h1) (ev_neg (by simp) (ev_succ ?_)))))))
  simp only [laws_FnExactIsFree.j0]
  exact ev_neg (by simp) (ev_bind t0 (ev_bind (eqIntS_ev l0 l0 h0) (ev_pos (by simp) (ev_bind t1 (ev_bind (eqIntS_ev l1 l1 h1) (ev_pos (by simp) (ev_some _)))))))

end Go.Proofs.Ytghhkfcacaagjaa.Pure
