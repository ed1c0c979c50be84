/- The program's timetables answer as the reference's; what is found is free and has a share of at most 1; powers of 2 with such a share have a free timetable (each in its turn, the least first, finds a day that is not taken); the days with a visit are counted one by one. No conditions. -/
import Derived.Test.YtikmlhpllgikpaaKit
import Derived.Test.YtikmlhpllgikpaaXFnTimetablesx10
namespace Go.Proofs.Ytikmlhpllgikpaa.Pure
set_option linter.unusedVariables false
open Go.RowKit Go.Proofs.Ytikmlhpllgikpaa.PFnTimetables Go.Proofs.YtikmlhpllgikpaaW.PrintWords Go.Proofs.YtikmlhpllgikpaaW.PrintLast Go.Proofs.Ytikmlhpllgikpaa.Kit

theorem in_eq (a b c : Int) : spec_l1In.f a b c = some (decide (b ≤ a ∧ a ≤ c)) := by
  unfold spec_l1In.f
  by_cases h : b ≤ a <;> simp [h]
theorem within_eq (a b c : Int) : impl_within.f a b c = some (decide (b ≤ a ∧ a ≤ c)) := by
  unfold impl_within.f
  by_cases h : b ≤ a <;> simp [h]
theorem allWithin_l0 (lo up : Int) (xs : List Int) (hn : xs.length ≤ 35184372088832) (d : Nat) : ∀ (i : Nat), i + d = xs.length →
    Ev (fun k => impl_allWithin.l0 k lo up xs (xs.length : Int) (i : Int)) (decide (∀ x ∈ xs.drop i, lo ≤ x ∧ x ≤ up)) := by
  induction d with
  | zero =>
    intro i hi
    refine ev_succ ?_
    simp only [impl_allWithin.l0]
    refine ev_neg (by omega) ?_
    rw [List.drop_of_length_le (by omega)]
    exact ev_cast (ev_some true) (by simp)
  | succ d ih =>
    intro i hi
    refine ev_succ ?_
    simp only [impl_allWithin.l0, within_eq, Option.bind_some]
    refine ev_pos (by omega) (ev_pos (by omega) (ev_pos (by omega) ?_))
    have hw : wrap64 ((i : Int) + 1) = ((i + 1 : Nat) : Int) := by rw [wid (by omega) (by omega)]; omega
    rw [hw, drop_rd xs i (by omega)]
    by_cases h : lo ≤ rd xs i ∧ rd xs i ≤ up
    · refine ev_pos (by simpa using h) (ev_cast (ih (i + 1) (by omega)) ?_)
      simp [h]
    · refine ev_neg (by simpa using h) (ev_cast (ev_some false) ?_)
      symm
      simp only [decide_eq_false_iff_not, List.mem_cons]
      exact fun hh => h (hh _ (Or.inl rfl))
theorem allWithin_ev (xs : List Int) (lo hi : Int) (hn : xs.length ≤ 35184372088832) : Ev (fun k => impl_allWithin.f k xs lo hi) (decide (∀ x ∈ xs, lo ≤ x ∧ x ≤ hi)) := by
  unfold impl_allWithin.f
  exact allWithin_l0 lo hi xs hn xs.length 0 (by omega)
/-- What cycles of a timetable are. -/
def CycOk (cy : List Int) : Prop := (cy.length : Int) ≤ 5 ∧ ∀ x ∈ cy, 1 ≤ x ∧ x ≤ 64
instance (cy : List Int) : Decidable (CycOk cy) := by unfold CycOk; infer_instance
theorem areCycles_ev (cy : List Int) (hl : cy.length ≤ 35184372088832) : Ev (fun k => impl_areCycles.f k cy) (decide (CycOk cy)) := by
  unfold impl_areCycles.f CycOk
  exact ev_andp fun _ => ev_bind (allWithin_ev cy 1 64 hl) (ev_some _)
theorem l8Cycles_l0 (xs : List Int) (hn : xs.length ≤ 35184372088832) (d : Nat) : ∀ (i : Nat), i + d = xs.length →
    Ev (fun k => spec_l8Cycles.l0 k xs (i : Int)) (decide ((xs.length : Int) ≤ 5 ∧ ∀ x ∈ xs.drop i, 1 ≤ x ∧ x ≤ 64)) := by
  induction d with
  | zero =>
    intro i hi
    refine ev_succ ?_
    simp only [spec_l8Cycles.l0]
    refine ev_neg (by omega) (ev_dec (ev_some _) ?_)
    rw [List.drop_of_length_le (by omega)]
    simp
  | succ d ih =>
    intro i hi
    refine ev_succ ?_
    simp only [spec_l8Cycles.l0, in_eq, Option.bind_some]
    refine ev_pos (by omega) (ev_pos (by omega) ?_)
    have hw : wrap64 ((i : Int) + 1) = ((i + 1 : Nat) : Int) := by rw [wid (by omega) (by omega)]; omega
    rw [hw, drop_rd xs i (by omega)]
    by_cases h : 1 ≤ rd xs i ∧ rd xs i ≤ 64
    · refine ev_pos (by simpa using h) (ev_cast (ih (i + 1) (by omega)) ?_)
      simp [h]
    · exact ev_neg (by simpa using h) (ev_false fun hh => h (hh.2 _ (by simp)))
theorem l8Cycles_ev (cy : List Int) (hl : cy.length ≤ 35184372088832) : Ev (fun k => spec_l8Cycles.f k cy) (decide (CycOk cy)) := by
  unfold spec_l8Cycles.f CycOk
  exact l8Cycles_l0 cy hl cy.length 0 (by omega)
/-- What a timetable is. -/
def TabOk (cy off : List Int) : Prop := CycOk cy ∧ off.length = cy.length ∧ ∀ i : Nat, i < off.length → 0 ≤ rd off (i : Int) ∧ rd off (i : Int) ≤ wrap64 (rd cy (i : Int) - 1)
instance (cy off : List Int) : Decidable (TabOk cy off) := by unfold TabOk; infer_instance
theorem l8Table_l0 (cy off : List Int) (hc : cy.length ≤ 35184372088832) (ho : off.length ≤ 35184372088832) (d : Nat) : ∀ (i : Nat), i + d = off.length → i ≤ cy.length → (∀ j : Nat, j < i → 0 ≤ rd off (j : Int) ∧ rd off (j : Int) ≤ wrap64 (rd cy (j : Int) - 1)) →
    Ev (fun k => spec_l8Table.l0 k cy off (i : Int)) (decide (TabOk cy off)) := by
  have stop : ∀ (i : Nat), (¬ (i < off.length ∧ i < cy.length)) → i ≤ cy.length → i ≤ off.length → (∀ j : Nat, j < i → 0 ≤ rd off (j : Int) ∧ rd off (j : Int) ≤ wrap64 (rd cy (j : Int) - 1)) →
      Ev (fun k => spec_l8Table.j1 k cy off (i : Int) false) (decide (TabOk cy off)) := by
    intro i hi h1 h2 hj
    refine ev_succ ?_
    simp only [spec_l8Table.j1]
    refine ev_neg (by simp) (ev_bind (l8Cycles_ev cy hc) ?_)
    by_cases h : CycOk cy
    · refine ev_pos (by simpa using h) (ev_cast (ev_some _) ?_)
      rw [Bool.eq_iff_iff]
      simp only [beq_iff_eq, decide_eq_true_eq]
      constructor
      · intro e
        exact ⟨h, by omega, fun j hlt => hj j (by omega)⟩
      · intro t
        have := t.2.1
        omega
    · exact ev_neg (by simpa using h) (ev_false fun t => h t.1)
  induction d with
  | zero =>
    intro i hi hic hj
    refine ev_succ ?_
    simp only [spec_l8Table.l0]
    exact ev_neg (by omega) (stop i (by omega) hic (by omega) hj)
  | succ d ih =>
    intro i hi hic hj
    refine ev_succ ?_
    simp only [spec_l8Table.l0]
    refine ev_pos (by omega) ?_
    by_cases h : (i : Int) < (cy.length : Int)
    · rw [decide_eq_true h]
      refine ev_succ ?_
      simp only [spec_l8Table.j1, in_eq, Option.bind_some]
      have hw : wrap64 ((i : Int) + 1) = ((i + 1 : Nat) : Int) := by rw [wid (by omega) (by omega)]; omega
      rw [hw]
      refine ev_pos trivial (ev_pos (by omega) (ev_pos (by omega) (ev_pos h ?_)))
      by_cases hb : 0 ≤ rd off (i : Int) ∧ rd off (i : Int) ≤ wrap64 (rd cy (i : Int) - 1)
      · refine ev_pos (by simpa using hb) (ih (i + 1) (by omega) (by omega) fun j hlt => ?_)
        by_cases e : j = i
        · rw [e]; exact hb
        · exact hj j (by omega)
      · exact ev_neg (by simpa using hb) (ev_false fun t => hb (t.2.2 i (by omega)))
    · rw [decide_eq_false h]
      exact stop i (by omega) hic (by omega) hj
theorem l8Table_ev (cy off : List Int) (hc : cy.length ≤ 35184372088832) (ho : off.length ≤ 35184372088832) : Ev (fun k => spec_l8Table.f k cy off) (decide (TabOk cy off)) := by
  unfold spec_l8Table.f
  exact l8Table_l0 cy off hc ho off.length 0 (by omega) (by omega) (fun j h => by omega)
theorem isTimetable_l0 (cy off : List Int) (h : CycOk cy) (he : off.length = cy.length) (ho : off.length ≤ 35184372088832) (d : Nat) : ∀ (i : Nat), i + d = off.length → (∀ j : Nat, j < i → 0 ≤ rd off (j : Int) ∧ rd off (j : Int) ≤ wrap64 (rd cy (j : Int) - 1)) →
    Ev (fun k => impl_isTimetable.l0 k cy off (off.length : Int) (i : Int)) (decide (TabOk cy off)) := by
  induction d with
  | zero =>
    intro i hi hj
    refine ev_succ ?_
    simp only [impl_isTimetable.l0]
    exact ev_neg (by omega) (ev_true ⟨h, he, fun j hlt => hj j (by omega)⟩)
  | succ d ih =>
    intro i hi hj
    refine ev_succ ?_
    simp only [impl_isTimetable.l0, within_eq, Option.bind_some]
    have hw : wrap64 ((i : Int) + 1) = ((i + 1 : Nat) : Int) := by rw [wid (by omega) (by omega)]; omega
    rw [hw]
    refine ev_pos (by omega) (ev_pos (by omega) (ev_pos (by omega) (ev_pos (by omega) ?_)))
    by_cases hb : 0 ≤ rd off (i : Int) ∧ rd off (i : Int) ≤ wrap64 (rd cy (i : Int) - 1)
    · refine ev_pos (by simpa using hb) (ih (i + 1) (by omega) fun j hlt => ?_)
      by_cases e : j = i
      · rw [e]; exact hb
      · exact hj j (by omega)
    · exact ev_neg (by simpa using hb) (ev_false fun t => hb (t.2.2 i (by omega)))
theorem isTimetable_ev (cy off : List Int) (hc : cy.length ≤ 35184372088832) (ho : off.length ≤ 35184372088832) : Ev (fun k => impl_isTimetable.f k cy off) (decide (TabOk cy off)) := by
  unfold impl_isTimetable.f
  refine ev_bind (areCycles_ev cy hc) ?_
  by_cases h : CycOk cy
  · refine ev_pos (by simpa using h) (ev_succ ?_)
    simp only [impl_isTimetable.j0]
    by_cases he : off.length = cy.length
    · exact ev_neg (by simp [he]) (isTimetable_l0 cy off h he ho off.length 0 (by omega) fun j hj => by omega)
    · exact ev_pos (by simp; omega) (ev_false fun t => he t.2.1)
  · refine ev_neg (by simpa using h) (ev_succ ?_)
    simp only [impl_isTimetable.j0, if_true]
    exact ev_false fun t => h t.1
/-- A timetable's numbers at a place. -/
theorem tab_at {cy off : List Int} (t : TabOk cy off) (i : Nat) (h : i < cy.length) : 1 ≤ rd cy (i : Int) ∧ rd cy (i : Int) ≤ 64 ∧ 0 ≤ rd off (i : Int) ∧ rd off (i : Int) < rd cy (i : Int) := by
  have h1 : 1 ≤ rd cy (i : Int) ∧ rd cy (i : Int) ≤ 64 := by
    rw [rd_nat cy i h]
    exact t.1.2 _ (List.getElem_mem _)
  have h2 := t.2.2 i (by have := t.2.1; omega)
  rw [wid (by omega) (by omega)] at h2
  omega
theorem gcd_l0 (b : Nat) : ∀ a : Nat, Ev (fun k => spec_l8Gcd.l0 k (a : Int) (b : Int)) ((Nat.gcd a b : Nat) : Int) := by
  induction b using Nat.strongRecOn with
  | _ b ih =>
    intro a
    refine ev_succ ?_
    simp only [spec_l8Gcd.l0]
    by_cases h : b = 0
    · subst h
      exact ev_neg (by omega) (ev_cast (ev_some _) (by simp))
    · refine ev_pos (by omega) (ev_neg (by omega) ?_)
      have e : Int.tmod (a : Int) (b : Int) = ((a % b : Nat) : Int) := rfl
      rw [e]
      refine ev_cast (ih (a % b) (Nat.mod_lt _ (by omega)) b) ?_
      rw [Nat.gcd_comm b, ← Nat.gcd_rec, Nat.gcd_comm]
theorem gcd_ev (a b : Int) (ha : 0 ≤ a) (hb : 0 ≤ b) : Ev (fun k => spec_l8Gcd.f k a b) ((Nat.gcd a.toNat b.toNat : Nat) : Int) := by
  unfold spec_l8Gcd.f
  have := gcd_l0 b.toNat a.toNat
  rwa [Int.toNat_of_nonneg ha, Int.toNat_of_nonneg hb] at this
theorem divisor_l0 (b : Nat) : ∀ a : Nat, Ev (fun k => impl_divisor.l0 k (a : Int) (b : Int)) ((Nat.gcd a b : Nat) : Int) := by
  induction b using Nat.strongRecOn with
  | _ b ih =>
    intro a
    refine ev_succ ?_
    simp only [impl_divisor.l0]
    by_cases h : b = 0
    · subst h
      exact ev_pos (by omega) (ev_cast (ev_some _) (by simp))
    · refine ev_neg (by omega) ?_
      have e : Int.tmod (a : Int) (b : Int) = ((a % b : Nat) : Int) := rfl
      rw [e]
      refine ev_cast (ih (a % b) (Nat.mod_lt _ (by omega)) b) ?_
      rw [Nat.gcd_comm b, ← Nat.gcd_rec, Nat.gcd_comm]
theorem divisor_ev (a b : Int) (ha : 0 ≤ a) (hb : 0 ≤ b) : Ev (fun k => impl_divisor.f k a b) ((Nat.gcd a.toNat b.toNat : Nat) : Int) := by
  unfold impl_divisor.f
  have := divisor_l0 b.toNat a.toNat
  rwa [Int.toNat_of_nonneg ha, Int.toNat_of_nonneg hb] at this
/-- A quotient in lowest terms. -/
def fr (n d : Int) : Int × Int := (n / ((Nat.gcd n.toNat d.toNat : Nat) : Int), d / ((Nat.gcd n.toNat d.toNat : Nat) : Int))
theorem gcd_fr_pos {n d : Int} (hd : 0 < d) : 0 < ((Nat.gcd n.toNat d.toNat : Nat) : Int) := by
  have := Nat.gcd_pos_of_pos_right n.toNat (show 0 < d.toNat by omega)
  omega
theorem fr_in {n d : Int} (hn : 0 ≤ n) (hd : 0 < d) : 0 ≤ (fr n d).1 ∧ (fr n d).1 ≤ n ∧ 0 < (fr n d).2 ∧ (fr n d).2 ≤ d := by
  have hg := gcd_fr_pos (n := n) hd
  have hdv : ((Nat.gcd n.toNat d.toNat : Nat) : Int) ∣ d := by
    have h := Nat.gcd_dvd_right n.toNat d.toNat
    have h2 := Int.natCast_dvd_natCast.2 h
    rwa [Int.toNat_of_nonneg (by omega)] at h2
  refine ⟨Int.ediv_nonneg hn (by omega), Int.ediv_le_self _ hn, ?_, Int.ediv_le_self _ (by omega)⟩
  exact Int.ediv_pos_of_pos_of_dvd hd (by omega) hdv
theorem cut_ev (n d : Int) (hn : 0 ≤ n) (hn2 : n ≤ 9223372036854775807) (hd : 0 < d) (hd2 : d ≤ 9223372036854775807) : Ev (fun k => spec_l8Cut.f k n d) (fr n d) := by
  have hg := gcd_fr_pos (n := n) hd
  have h1 := fr_in hn hd
  unfold spec_l8Cut.f
  refine ev_bind (gcd_ev n d hn (by omega)) (ev_neg (by omega) (ev_cast (ev_some _) ?_))
  unfold fr at h1 ⊢
  simp only at h1
  rw [Int.tdiv_eq_ediv_of_nonneg hn, Int.tdiv_eq_ediv_of_nonneg (by omega), wid (by omega) (by omega), wid (by omega) (by omega)]
theorem fraction_ev (n d : Int) (hn : 0 ≤ n) (hn2 : n ≤ 9223372036854775807) (hd : 0 < d) (hd2 : d ≤ 9223372036854775807) : Ev (fun k => impl_fraction.f k n d) (fr n d) := by
  have hg := gcd_fr_pos (n := n) hd
  have h1 := fr_in hn hd
  unfold impl_fraction.f
  refine ev_bind (divisor_ev n d hn (by omega)) (ev_neg (by omega) (ev_cast (ev_some _) ?_))
  unfold fr at h1 ⊢
  simp only at h1
  rw [Int.tdiv_eq_ediv_of_nonneg hn, Int.tdiv_eq_ediv_of_nonneg (by omega), wid (by omega) (by omega), wid (by omega) (by omega)]
/-- The sum of two quotients. -/
def addf (x y : Int × Int) : Int × Int := fr (x.1 * y.2 + y.1 * x.2) (x.2 * y.2)
/-- A quotient of at most B, its lower part at most D. -/
def Fr (B D : Int) (x : Int × Int) : Prop := 0 ≤ x.1 ∧ x.1 ≤ B * x.2 ∧ 0 < x.2 ∧ x.2 ≤ D
theorem fr_fr {n d B D : Int} (hn : 0 ≤ n) (hb : n ≤ B * d) (hd : 0 < d) (hD : d ≤ D) : Fr B D (fr n d) := by
  have h := fr_in hn hd
  have hg := gcd_fr_pos (n := n) hd
  refine ⟨h.1, ?_, h.2.2.1, by omega⟩
  have h1 : ((Nat.gcd n.toNat d.toNat : Nat) : Int) ∣ d := by
    have h := Nat.gcd_dvd_right n.toNat d.toNat
    have h2 := Int.natCast_dvd_natCast.2 h
    rwa [Int.toNat_of_nonneg (by omega)] at h2
  unfold fr
  simp only
  refine Int.ediv_le_of_le_mul hg ?_
  rw [Int.mul_assoc, Int.ediv_mul_cancel h1]
  exact hb
theorem fr_scale (n d m : Int) (hn : 0 ≤ n) (hd : 0 < d) (hm : 0 < m) : fr (n * m) (d * m) = fr n d := by
  obtain ⟨N, rfl⟩ := Int.eq_ofNat_of_zero_le hn
  obtain ⟨M, rfl⟩ := Int.eq_ofNat_of_zero_le (show 0 ≤ m by omega)
  obtain ⟨D, rfl⟩ := Int.eq_ofNat_of_zero_le (show 0 ≤ d by omega)
  have e1 : ((N : Int) * (M : Int)) = ((N * M : Nat) : Int) := by simp
  have e2 : ((D : Int) * (M : Int)) = ((D * M : Nat) : Int) := by simp
  unfold fr
  rw [e1, e2]
  simp only [Int.toNat_natCast]
  rw [Nat.gcd_mul_right, Prod.mk.injEq]
  refine ⟨?_, ?_⟩
  · rw [Int.natCast_mul, Int.natCast_mul, Int.mul_ediv_mul_of_pos_left _ _ hm]
  · rw [Int.natCast_mul, Int.natCast_mul, Int.mul_ediv_mul_of_pos_left _ _ hm]
/-- What is needed of the parts of a sum. -/
theorem addf_parts {B B' D D' : Int} {x y : Int × Int} (hx : Fr B D x) (hy : Fr B' D' y) (hB : 0 ≤ B) (hB' : 0 ≤ B') :
    0 ≤ x.1 * y.2 ∧ 0 ≤ y.1 * x.2 ∧ x.1 * y.2 + y.1 * x.2 ≤ (B + B') * (x.2 * y.2) ∧ 0 < x.2 * y.2 ∧ x.2 * y.2 ≤ D * D' ∧ (B + B') * (x.2 * y.2) ≤ (B + B') * (D * D') := by
  obtain ⟨a1, a2, a3, a4⟩ := hx
  obtain ⟨b1, b2, b3, b4⟩ := hy
  have q0 : 0 < x.2 * y.2 := Int.mul_pos a3 b3
  have q1 : x.2 * y.2 ≤ D * D' := Int.mul_le_mul a4 b4 (by omega) (by omega)
  have n1 : x.1 * y.2 ≤ B * x.2 * y.2 := Int.mul_le_mul_of_nonneg_right a2 (by omega)
  have n2 : y.1 * x.2 ≤ B' * y.2 * x.2 := Int.mul_le_mul_of_nonneg_right b2 (by omega)
  refine ⟨Int.mul_nonneg a1 (by omega), Int.mul_nonneg b1 (by omega), ?_, q0, q1, Int.mul_le_mul_of_nonneg_left q1 (by omega)⟩
  rw [Int.add_mul]
  rw [Int.mul_assoc] at n1 n2
  rw [Int.mul_comm y.2 x.2] at n2
  omega
theorem addf_fr {B B' D D' : Int} {x y : Int × Int} (hx : Fr B D x) (hy : Fr B' D' y) (hB : 0 ≤ B) (hB' : 0 ≤ B') : Fr (B + B') (D * D') (addf x y) := by
  obtain ⟨h1, h2, h3, h4, h5, h6⟩ := addf_parts hx hy hB hB'
  exact fr_fr (by omega) h3 h4 h5
theorem add_ev {B B' D D' : Int} {x y : Int × Int} (hx : Fr B D x) (hy : Fr B' D' y) (hB : 0 ≤ B) (hB' : 0 ≤ B') (hs : (B + B') * (D * D') ≤ 9223372036854775807) (hd : D * D' ≤ 9223372036854775807) :
    Ev (fun k => spec_l8Add.f k x.1 x.2 y.1 y.2) (addf x y) := by
  obtain ⟨h1, h2, h3, h4, h5, h6⟩ := addf_parts hx hy hB hB'
  obtain ⟨p, q⟩ := x
  obtain ⟨u, v⟩ := y
  obtain ⟨a1, a2, a3, a4⟩ := hx
  obtain ⟨b1, b2, b3, b4⟩ := hy
  simp only at *
  have hg : 0 < ((Nat.gcd q.toNat v.toNat : Nat) : Int) := gcd_fr_pos (n := q) b3
  have dq : ((Nat.gcd q.toNat v.toNat : Nat) : Int) ∣ q := by
    have h2 := Int.natCast_dvd_natCast.2 (Nat.gcd_dvd_left q.toNat v.toNat)
    rwa [Int.toNat_of_nonneg (by omega)] at h2
  have dv : ((Nat.gcd q.toNat v.toNat : Nat) : Int) ∣ v := by
    have h2 := Int.natCast_dvd_natCast.2 (Nat.gcd_dvd_right q.toNat v.toNat)
    rwa [Int.toNat_of_nonneg (by omega)] at h2
  unfold spec_l8Add.f addf
  refine ev_bind (gcd_ev q v (by omega) (by omega)) (ev_neg (by omega) ?_)
  generalize ((Nat.gcd q.toNat v.toNat : Nat) : Int) = g at hg dq dv
  obtain ⟨q', rfl⟩ := dq
  obtain ⟨v', rfl⟩ := dv
  have q'0 : 0 < q' := by
    rcases Int.lt_trichotomy q' 0 with h | h | h
    · have := Int.mul_neg_of_pos_of_neg hg h; omega
    · rw [h, Int.mul_zero] at a3; omega
    · exact h
  have v'0 : 0 < v' := by
    rcases Int.lt_trichotomy v' 0 with h | h | h
    · have := Int.mul_neg_of_pos_of_neg hg h; omega
    · rw [h, Int.mul_zero] at b3; omega
    · exact h
  have e1 : Int.tdiv (g * v') g = v' := by rw [Int.tdiv_eq_ediv_of_nonneg (by omega), Int.mul_ediv_cancel_left _ (by omega)]
  have e2 : Int.tdiv (g * q') g = q' := by rw [Int.tdiv_eq_ediv_of_nonneg (by omega), Int.mul_ediv_cancel_left _ (by omega)]
  have k1 : v' ≤ g * v' := by have := Int.mul_le_mul_of_nonneg_right (show 1 ≤ g by omega) (show 0 ≤ v' by omega); omega
  have k2 : q' ≤ g * q' := by have := Int.mul_le_mul_of_nonneg_right (show 1 ≤ g by omega) (show 0 ≤ q' by omega); omega
  have hq : g * q' ≤ 9223372036854775807 := by
    have := Int.mul_le_mul_of_nonneg_left (show 1 ≤ g * v' by omega) (show 0 ≤ g * q' by omega)
    omega
  have hv : g * v' ≤ 9223372036854775807 := by
    have := Int.mul_le_mul_of_nonneg_right (show 1 ≤ g * q' by omega) (show 0 ≤ g * v' by omega)
    omega
  have m1 : 0 ≤ p * v' := Int.mul_nonneg a1 (by omega)
  have m2 : 0 ≤ u * q' := Int.mul_nonneg b1 (by omega)
  have m3 : p * v' ≤ p * (g * v') := Int.mul_le_mul_of_nonneg_left k1 a1
  have m4 : u * q' ≤ u * (g * q') := Int.mul_le_mul_of_nonneg_left k2 b1
  have m5 : q' * (g * v') ≤ g * q' * (g * v') := Int.mul_le_mul_of_nonneg_right k2 (by omega)
  have m6 : 0 < q' * (g * v') := Int.mul_pos q'0 b3
  rw [e1, e2, wid (x := v') (by omega) (by omega), wid (x := q') (by omega) (by omega), wid (x := p * v') (by omega) (by omega), wid (x := u * q') (by omega) (by omega), wid (x := q' * (g * v')) (by omega) (by omega), wid (by omega) (by omega)]
  refine ev_bind (cut_ev _ _ (by omega) (by omega) m6 (by omega)) (ev_cast (ev_some _) ?_)
  show fr (p * v' + u * q') (q' * (g * v')) = fr (p * (g * v') + u * (g * q')) (g * q' * (g * v'))
  rw [← fr_scale (p * v' + u * q') (q' * (g * v')) g (by omega) m6 hg]
  congr 1
  · rw [Int.add_mul, Int.mul_assoc, Int.mul_assoc, Int.mul_comm v' g, Int.mul_comm q' g]
  · rw [Int.mul_comm (q' * (g * v')) g, ← Int.mul_assoc]
theorem plus_ev {B B' D D' : Int} {x y : Int × Int} (hx : Fr B D x) (hy : Fr B' D' y) (hB : 0 ≤ B) (hB' : 0 ≤ B') (hs : (B + B') * (D * D') ≤ 9223372036854775807) (hd : D * D' ≤ 9223372036854775807) :
    Ev (fun k => impl_plus.f k x.1 x.2 y.1 y.2) (addf x y) := by
  obtain ⟨h1, h2, h3, h4, h5, h6⟩ := addf_parts hx hy hB hB'
  unfold impl_plus.f addf
  rw [wid (x := x.1 * y.2) (by omega) (by omega), wid (x := y.1 * x.2) (by omega) (by omega), wid (x := x.2 * y.2) (by omega) (by omega), wid (by omega) (by omega)]
  exact ev_bind (fraction_ev _ _ (by omega) (by omega) h4 (by omega)) (ev_some _)
/-- The sum of 1 by each of d cycles from place i on, and what was before. -/
def shr (cy : List Int) : Nat → Nat → Int × Int → Int × Int
  | 0, _, s => s
  | d + 1, i, s => shr cy d (i + 1) (addf s (1, rd cy (i : Int)))
def shareOf (cy : List Int) : Int × Int := shr cy cy.length 0 (0, 1)
theorem pow64 (i : Nat) (h : i ≤ 4) : (64 : Int) ^ i * 64 = 64 ^ (i + 1) ∧ (64 : Int) ^ (i + 1) ≤ 1073741824 := by
  refine ⟨(Int.pow_succ 64 i).symm, ?_⟩
  match i, h with
  | 0, _ => decide
  | 1, _ => decide
  | 2, _ => decide
  | 3, _ => decide
  | 4, _ => decide
theorem share_step {cy : List Int} (hc : CycOk cy) (i : Nat) (hi : i < cy.length) {s : Int × Int} (hs : Fr (i : Int) (64 ^ i) s) :
    Fr 1 64 (1, rd cy (i : Int)) ∧ Fr ((i + 1 : Nat) : Int) (64 ^ (i + 1)) (addf s (1, rd cy (i : Int))) ∧ ((i : Int) + 1) * (64 ^ i * 64) ≤ 9223372036854775807 ∧ (64 : Int) ^ i * 64 ≤ 9223372036854775807 := by
  have h5 := hc.1
  have hr : 1 ≤ rd cy (i : Int) ∧ rd cy (i : Int) ≤ 64 := by
    rw [rd_nat cy i hi]
    exact hc.2 _ (List.getElem_mem _)
  have hf : Fr 1 64 (1, rd cy (i : Int)) := ⟨by simp, by simp; omega, by simp; omega, by simp; omega⟩
  have hp := pow64 i (by omega)
  have ha := addf_fr hs hf (by omega) (by omega)
  rw [hp.1] at ha ⊢
  refine ⟨hf, by rw [Int.natCast_add]; exact ha, ?_, by omega⟩
  have := Int.mul_le_mul (show (i : Int) + 1 ≤ 5 by omega) hp.2 (Int.le_of_lt (Int.pow_pos (by omega))) (by omega)
  omega
theorem specShare_l0 (cy : List Int) (hc : CycOk cy) (d : Nat) : ∀ (i : Nat) (s : Int × Int), i + d = cy.length → Fr (i : Int) (64 ^ i) s → Ev (fun k => spec_l8Share.l0 k cy (i : Int) s.1 s.2) (shr cy d i s) := by
  have h5 := hc.1
  induction d with
  | zero =>
    intro i s hi hs
    refine ev_succ ?_
    simp only [spec_l8Share.l0]
    exact ev_neg (by omega) (ev_some _)
  | succ d ih =>
    intro i s hi hs
    obtain ⟨f1, f2, f3, f4⟩ := share_step hc i (by omega) hs
    have hw : wrap64 ((i : Int) + 1) = ((i + 1 : Nat) : Int) := by rw [wid (by omega) (by omega)]; omega
    refine ev_succ ?_
    simp only [spec_l8Share.l0]
    rw [hw]
    exact ev_pos (by omega) (ev_pos (by omega) (ev_bind (add_ev hs f1 (by omega) (by omega) f3 f4) (ih (i + 1) _ (by omega) f2)))
theorem specShare_ev (cy : List Int) (hc : CycOk cy) : Ev (fun k => spec_l8Share.f k cy) (shareOf cy) := by
  unfold spec_l8Share.f
  exact specShare_l0 cy hc cy.length 0 (0, 1) (by omega) ⟨by simp, by simp, by simp, by simp⟩
theorem implShare_l0 (cy : List Int) (hc : CycOk cy) (d : Nat) : ∀ (i : Nat) (s : Int × Int), i + d = cy.length → Fr (i : Int) (64 ^ i) s → Ev (fun k => impl_ShareOf.l0 k cy (cy.length : Int) (i : Int) s.1 s.2) ((shr cy d i s).1, (shr cy d i s).2, true) := by
  have h5 := hc.1
  induction d with
  | zero =>
    intro i s hi hs
    refine ev_succ ?_
    simp only [impl_ShareOf.l0]
    exact ev_neg (by omega) (ev_some _)
  | succ d ih =>
    intro i s hi hs
    obtain ⟨f1, f2, f3, f4⟩ := share_step hc i (by omega) hs
    have hw : wrap64 ((i : Int) + 1) = ((i + 1 : Nat) : Int) := by rw [wid (by omega) (by omega)]; omega
    refine ev_succ ?_
    simp only [impl_ShareOf.l0]
    rw [hw]
    exact ev_pos (by omega) (ev_pos (by omega) (ev_pos (by omega) (ev_bind (plus_ev hs f1 (by omega) (by omega) f3 f4) (ih (i + 1) _ (by omega) f2))))
def shareA (cy : List Int) : Int × Int × Bool := if CycOk cy then ((shareOf cy).1, (shareOf cy).2, true) else (0, 0, false)
theorem specShareOf_ev (cy : List Int) (hl : cy.length ≤ 35184372088832) : Ev (fun k => spec_ShareOf.f k cy) (shareA cy) := by
  unfold spec_ShareOf.f shareA
  refine ev_bind (l8Cycles_ev cy hl) ?_
  by_cases h : CycOk cy
  · exact ev_cast (ev_pos (by simpa using h) (ev_bind (specShare_ev cy h) (ev_some _))) (if_pos h).symm
  · exact ev_cast (ev_neg (by simpa using h) (ev_some _)) (if_neg h).symm
theorem implShareOf_ev (cy : List Int) (hl : cy.length ≤ 35184372088832) : Ev (fun k => impl_ShareOf.f k cy) (shareA cy) := by
  unfold impl_ShareOf.f shareA
  refine ev_bind (areCycles_ev cy hl) ?_
  by_cases h : CycOk cy
  · exact ev_cast (ev_pos (by simpa using h) (implShare_l0 cy h cy.length 0 (0, 1) (by omega) ⟨by simp, by simp, by simp, by simp⟩)) (if_pos h).symm
  · exact ev_cast (ev_neg (by simpa using h) (ev_some _)) (if_neg h).symm
/-- Two visits on a day. -/
def Meet (cy off : List Int) (i j : Nat) : Prop := Int.tmod (rd off (i : Int) - rd off (j : Int)) ((Nat.gcd (rd cy (i : Int)).toNat (rd cy (j : Int)).toNat : Nat) : Int) = 0
instance (cy off : List Int) (i j : Nat) : Decidable (Meet cy off i j) := by unfold Meet; infer_instance
theorem meet_comm (cy off : List Int) (i j : Nat) : Meet cy off i j ↔ Meet cy off j i := by
  unfold Meet
  rw [Nat.gcd_comm, show rd off (i : Int) - rd off (j : Int) = -(rd off (j : Int) - rd off (i : Int)) by omega, Int.neg_tmod]
  omega
/-- No two visits on a day. -/
def Free (cy off : List Int) : Prop := ∀ i : Nat, i < cy.length → ∀ j : Nat, j < i → ¬ Meet cy off i j
instance (cy off : List Int) : Decidable (Free cy off) := by unfold Free; infer_instance
theorem gcd_pos {cy off : List Int} (t : TabOk cy off) (i j : Nat) (hi : i < cy.length) : ((Nat.gcd (rd cy (i : Int)).toNat (rd cy (j : Int)).toNat : Nat) : Int) ≠ 0 := by
  have := tab_at t i hi
  have h := Nat.gcd_pos_of_pos_left (rd cy (j : Int)).toNat (show 0 < (rd cy (i : Int)).toNat by omega)
  omega
theorem specMeet_ev (cy off : List Int) (t : TabOk cy off) (i j : Nat) (hi : i < cy.length) (hj : j < cy.length) :
    Ev (fun k => spec_l8Meet.f k (rd cy (i : Int)) (rd off (i : Int)) (rd cy (j : Int)) (rd off (j : Int))) (decide (Meet cy off i j)) := by
  have h1 := tab_at t i hi
  have h2 := tab_at t j hj
  unfold spec_l8Meet.f
  refine ev_bind (gcd_ev _ _ (by omega) (by omega)) (ev_neg (gcd_pos t i j hi) (ev_cast (ev_some _) ?_))
  rw [wid (by omega) (by omega)]
  rfl
theorem specFree_l1 (cy off : List Int) (t : TabOk cy off) (i : Nat) (hi : i < cy.length) (R : Bool × Bool) (hb : ¬ Free cy off → R = (false, true)) (hc : (∀ j : Nat, j < i → ¬ Meet cy off i j) → Ev (fun k => spec_IsFree.l0 k cy off ((i + 1 : Nat) : Int)) R) (d : Nat) :
    ∀ j : Nat, j + d = i → (∀ j' : Nat, j' < j → ¬ Meet cy off i j') → Ev (fun k => spec_IsFree.l1 k cy off (i : Int) (j : Int)) R := by
  have he := t.2.1
  have h5 := t.1.1
  induction d with
  | zero =>
    intro j hj hp
    refine ev_succ ?_
    simp only [spec_IsFree.l1]
    have hw : wrap64 ((i : Int) + 1) = ((i + 1 : Nat) : Int) := by rw [wid (by omega) (by omega)]; omega
    rw [hw]
    exact ev_neg (by omega) (hc fun j' h => hp j' (by omega))
  | succ d ih =>
    intro j hj hp
    refine ev_succ ?_
    simp only [spec_IsFree.l1]
    have hw : wrap64 ((j : Int) + 1) = ((j + 1 : Nat) : Int) := by rw [wid (by omega) (by omega)]; omega
    rw [hw]
    refine ev_pos (by omega) (ev_pos (by omega) (ev_pos (by omega) (ev_pos (by omega) (ev_pos (by omega) (ev_pos (by omega) (ev_pos (by omega) (ev_bind (specMeet_ev cy off t i j hi (by omega)) ?_)))))))
    by_cases h : Meet cy off i j
    · exact ev_pos (by simpa using h) (ev_cast (ev_some _) (hb fun f => f i hi j (by omega) h).symm)
    · refine ev_neg (by simpa using h) (ih (j + 1) (by omega) fun j' h' => ?_)
      by_cases e : j' = j
      · rw [e]; exact h
      · exact hp j' (by omega)
theorem specFree_l0 (cy off : List Int) (t : TabOk cy off) (R : Bool × Bool) (hb : ¬ Free cy off → R = (false, true)) (hg : Free cy off → R = (true, true)) (d : Nat) :
    ∀ i : Nat, i + d = cy.length → (∀ i' : Nat, i' < i → ∀ j : Nat, j < i' → ¬ Meet cy off i' j) → Ev (fun k => spec_IsFree.l0 k cy off (i : Int)) R := by
  induction d with
  | zero =>
    intro i hi hp
    refine ev_succ ?_
    simp only [spec_IsFree.l0]
    exact ev_neg (by omega) (ev_cast (ev_some _) (hg fun i' h => hp i' (by omega)).symm)
  | succ d ih =>
    intro i hi hp
    refine ev_succ ?_
    simp only [spec_IsFree.l0]
    refine ev_pos (by omega) ?_
    have := specFree_l1 cy off t i (by omega) R hb (fun hall => ih (i + 1) (by omega) fun i' h j hj => ?_) i 0 (by omega) (fun j' h => by omega)
    · exact this
    · by_cases e : i' = i
      · rw [e] at hj ⊢; exact hall j hj
      · exact hp i' (by omega) j hj
theorem rd_take (xs : List Int) (n i : Nat) (h : i < n) (hn : n ≤ xs.length) : rd (xs.take n) (i : Int) = rd xs (i : Int) := by
  rw [rd_nat _ i (by simp; omega), rd_nat _ i (by omega)]
  simp
theorem meets_l0 (cy off : List Int) (t : TabOk cy off) (i : Nat) (hi : i < cy.length) (d : Nat) : ∀ j : Nat, j + d = i → (∀ j' : Nat, j' < j → ¬ Meet cy off i j') →
    Ev (fun k => impl_meets.l0 k cy (off.take (i + 1)) (i : Int) (i : Int) (j : Int)) (decide (∃ j, j < i ∧ Meet cy off i j)) := by
  have he := t.2.1
  have h5 := t.1.1
  have hl : (off.take (i + 1)).length = i + 1 := by rw [List.length_take]; omega
  induction d with
  | zero =>
    intro j hj hp
    refine ev_succ ?_
    simp only [impl_meets.l0]
    refine ev_neg (by omega) (ev_false ?_)
    rintro ⟨j', h1, h2⟩
    exact hp j' (by omega) h2
  | succ d ih =>
    intro j hj hp
    have a1 : j < i := by omega
    have a2 : j < cy.length := by omega
    have a3 : i + 1 ≤ off.length := by omega
    have a4 : (j : Int) < (i : Int) := by omega
    have a5 : (0 : Int) ≤ (j : Int) := by omega
    have a6 : (j : Int) < ((off.take (i + 1)).length : Int) := by rw [hl]; omega
    have a7 : (0 : Int) ≤ (i : Int) := by omega
    have a8 : (i : Int) < ((off.take (i + 1)).length : Int) := by rw [hl]; omega
    have a9 : (j : Int) < (cy.length : Int) := by omega
    have a10 : (i : Int) < (cy.length : Int) := by omega
    have g3 : rd (off.take (i + 1)) (j : Int) = rd off (j : Int) := rd_take off (i + 1) j (by omega) a3
    have g4 : rd (off.take (i + 1)) (i : Int) = rd off (i : Int) := rd_take off (i + 1) i (by omega) a3
    have hw : wrap64 ((j : Int) + 1) = ((j + 1 : Nat) : Int) := by rw [wid (by omega) (by omega)]; omega
    have hd : wrap64 (rd off (j : Int) - rd off (i : Int)) = rd off (j : Int) - rd off (i : Int) := by
      have h1 := tab_at t i hi
      have h2 := tab_at t j a2
      exact wid (by omega) (by omega)
    have hq : Ev (fun k => impl_divisor.f k (rd cy (j : Int)) (rd cy (i : Int))) ((Nat.gcd (rd cy (j : Int)).toNat (rd cy (i : Int)).toNat : Nat) : Int) := by
      have h1 := tab_at t i hi
      have h2 := tab_at t j a2
      exact divisor_ev _ _ (by omega) (by omega)
    refine ev_succ ?_
    simp only [impl_meets.l0]
    rw [hw, g3, g4, hd]
    refine ev_pos a4 (ev_pos a5 (ev_pos a6 (ev_pos a7 (ev_pos a8 (ev_pos a9 (ev_pos a10 (ev_bind hq (ev_neg (gcd_pos t j i a2) ?_))))))))
    by_cases h : Meet cy off j i
    · exact ev_pos h (ev_true ⟨j, a1, (meet_comm cy off i j).2 h⟩)
    · refine ev_neg h (ih (j + 1) (by omega) fun j' h' => ?_)
      by_cases e : j' = j
      · rw [e]; exact fun hh => h ((meet_comm cy off i j).1 hh)
      · exact hp j' (by omega)
theorem meets_ev (cy off : List Int) (t : TabOk cy off) (i : Nat) (hi : i < cy.length) : Ev (fun k => impl_meets.f k cy (off.take (i + 1))) (decide (∃ j, j < i ∧ Meet cy off i j)) := by
  have he := t.2.1
  have h5 := t.1.1
  have hl : (off.take (i + 1)).length = i + 1 := by rw [List.length_take]; omega
  unfold impl_meets.f
  rw [hl, show wrap64 (((i + 1 : Nat) : Int) - 1) = (i : Int) by rw [wid (by omega) (by omega)]; omega]
  exact meets_l0 cy off t i hi i 0 (by omega) (fun j h => by omega)
theorem implFree_l0 (cy off : List Int) (t : TabOk cy off) (R : Bool × Bool) (hb : ¬ Free cy off → R = (false, true)) (hg : Free cy off → R = (true, true)) (d : Nat) :
    ∀ i : Nat, i + d = cy.length → (∀ i' : Nat, i' < i → ∀ j : Nat, j < i' → ¬ Meet cy off i' j) → Ev (fun k => impl_IsFree.l0 k cy off (off.length : Int) (i : Int)) R := by
  have he := t.2.1
  have h5 := t.1.1
  induction d with
  | zero =>
    intro i hi hp
    refine ev_succ ?_
    simp only [impl_IsFree.l0]
    exact ev_neg (by omega) (ev_cast (ev_some _) (hg fun i' h => hp i' (by omega)).symm)
  | succ d ih =>
    intro i hi hp
    refine ev_succ ?_
    simp only [impl_IsFree.l0]
    have hw : wrap64 ((i : Int) + 1) = ((i + 1 : Nat) : Int) := by rw [wid (by omega) (by omega)]; omega
    rw [hw, Int.toNat_natCast]
    refine ev_pos (by omega) (ev_pos (by omega) (ev_pos (by omega) (ev_bind (meets_ev cy off t i (by omega)) ?_)))
    by_cases h : ∃ j, j < i ∧ Meet cy off i j
    · refine ev_pos (by simpa using h) (ev_cast (ev_some _) (hb fun f => ?_).symm)
      obtain ⟨j, h1, h2⟩ := h
      exact f i (by omega) j h1 h2
    · refine ev_neg (by simpa using h) (ih (i + 1) (by omega) fun i' h' j hj => ?_)
      by_cases e : i' = i
      · rw [e] at hj ⊢; exact fun hh => h ⟨j, hj, hh⟩
      · exact hp i' (by omega) j hj
/-- What both return. -/
def ans (cy off : List Int) : Bool × Bool := if TabOk cy off then (decide (Free cy off), true) else (false, false)
theorem specFree_ev (cy off : List Int) (hc : cy.length ≤ 35184372088832) (ho : off.length ≤ 35184372088832) : Ev (fun k => spec_IsFree.f k cy off) (ans cy off) := by
  unfold spec_IsFree.f ans
  refine ev_bind (l8Table_ev cy off hc ho) ?_
  by_cases t : TabOk cy off
  · rw [if_pos t]
    exact ev_pos (by simpa using t) (specFree_l0 cy off t _ (fun h => by simp [h]) (fun h => by simp [h]) cy.length 0 (by omega) (fun i h => by omega))
  · rw [if_neg t]
    exact ev_neg (by simpa using t) (ev_some _)
theorem implFree_ev (cy off : List Int) (hc : cy.length ≤ 35184372088832) (ho : off.length ≤ 35184372088832) : Ev (fun k => impl_IsFree.f k cy off) (ans cy off) := by
  unfold impl_IsFree.f ans
  refine ev_bind (isTimetable_ev cy off hc ho) ?_
  by_cases t : TabOk cy off
  · rw [if_pos t]
    exact ev_pos (by simpa using t) (implFree_l0 cy off t _ (fun h => by simp [h]) (fun h => by simp [h]) cy.length 0 (by omega) (fun i h => by omega))
  · rw [if_neg t]
    exact ev_neg (by simpa using t) (ev_some _)
/-- The places with a visit, from place i on. -/
def vis (cy off : List Int) (day : Int) : Nat → Nat → List Int → List Int
  | 0, _, acc => acc
  | d + 1, i, acc => if Int.tmod day (rd cy (i : Int)) = rd off (i : Int) then vis cy off day d (i + 1) (acc ++ [(i : Int)]) else vis cy off day d (i + 1) acc
theorem vis_length (cy off : List Int) (day : Int) (d : Nat) : ∀ (i : Nat) (acc : List Int), (vis cy off day d i acc).length ≤ acc.length + d := by
  induction d with
  | zero => intro i acc; exact Nat.le_refl _
  | succ d ih =>
    intro i acc
    unfold vis
    split
    · have := ih (i + 1) (acc ++ [(i : Int)])
      simp only [List.length_append, List.length_cons, List.length_nil] at this
      omega
    · have := ih (i + 1) acc
      omega
theorem specVisits_l0 (cy off : List Int) (t : TabOk cy off) (day : Int) (d : Nat) : ∀ (i : Nat) (acc : List Int), i + d = cy.length → acc.length ≤ i → Ev (fun k => spec_l8Visits.l0 k cy off day acc (i : Int)) (vis cy off day d i acc) := by
  have h5 := t.1.1
  have he := t.2.1
  induction d with
  | zero =>
    intro i acc hi ha
    refine ev_succ ?_
    simp only [spec_l8Visits.l0]
    exact ev_neg (by omega) (ev_some _)
  | succ d ih =>
    intro i acc hi ha
    have hat := tab_at t i (by omega)
    refine ev_succ ?_
    simp only [spec_l8Visits.l0]
    have hw : wrap64 ((i : Int) + 1) = ((i + 1 : Nat) : Int) := by rw [wid (by omega) (by omega)]; omega
    rw [hw]
    refine ev_pos (by omega) (ev_pos (by omega) (ev_neg (by omega) (ev_pos (by omega) ?_)))
    unfold vis
    by_cases h : Int.tmod day (rd cy (i : Int)) = rd off (i : Int)
    · rw [if_pos h]
      exact ev_pos h (ev_pos (by omega) (ih (i + 1) _ (by omega) (by simp; omega)))
    · rw [if_neg h]
      exact ev_neg h (ih (i + 1) _ (by omega) (by omega))
theorem specVisits_ev (cy off : List Int) (t : TabOk cy off) (day : Int) : Ev (fun k => spec_l8Visits.f k cy off day) (vis cy off day cy.length 0 []) := by
  unfold spec_l8Visits.f
  exact specVisits_l0 cy off t day cy.length 0 [] (by omega) (by simp)
theorem implVisits_l0 (cy off : List Int) (t : TabOk cy off) (day : Int) (d : Nat) : ∀ (i : Nat) (acc : List Int), i + d = cy.length → acc.length ≤ i → Ev (fun k => impl_visits.l0 k off day acc cy (cy.length : Int) (i : Int)) (vis cy off day d i acc) := by
  have h5 := t.1.1
  have he := t.2.1
  induction d with
  | zero =>
    intro i acc hi ha
    refine ev_succ ?_
    simp only [impl_visits.l0]
    exact ev_neg (by omega) (ev_some _)
  | succ d ih =>
    intro i acc hi ha
    have hat := tab_at t i (by omega)
    refine ev_succ ?_
    simp only [impl_visits.l0]
    have hw : wrap64 ((i : Int) + 1) = ((i + 1 : Nat) : Int) := by rw [wid (by omega) (by omega)]; omega
    rw [hw]
    refine ev_pos (by omega) (ev_pos (by omega) (ev_pos (by omega) (ev_neg (by omega) (ev_pos (by omega) ?_))))
    unfold vis
    by_cases h : Int.tmod day (rd cy (i : Int)) = rd off (i : Int)
    · rw [if_pos h]
      exact ev_pos h (ev_pos (by omega) (ih (i + 1) _ (by omega) (by simp; omega)))
    · rw [if_neg h]
      exact ev_neg h (ih (i + 1) _ (by omega) (by omega))
theorem implVisits_ev (cy off : List Int) (t : TabOk cy off) (day : Int) : Ev (fun k => impl_visits.f k cy off day) (vis cy off day cy.length 0 []) := by
  unfold impl_visits.f
  exact implVisits_l0 cy off t day cy.length 0 [] (by omega) (by simp)
def ansVO (cy off : List Int) (day : Int) : List Int × Bool := if TabOk cy off ∧ 0 ≤ day ∧ day ≤ 1000000 then (vis cy off day cy.length 0 [], true) else ([], false)
theorem ansVO_length (cy off : List Int) (day : Int) : (ansVO cy off day).1.length ≤ 5 := by
  unfold ansVO
  split
  · rename_i h
    have h1 := vis_length cy off day cy.length 0 []
    have h2 := h.1.1.1
    simp only [List.length_nil] at h1
    show (vis cy off day cy.length 0 []).length ≤ 5
    omega
  · simp
theorem specVO_ev (cy off : List Int) (day : Int) (hc : cy.length ≤ 35184372088832) (ho : off.length ≤ 35184372088832) : Ev (fun k => spec_VisitsOn.f k cy off day) (ansVO cy off day) := by
  unfold spec_VisitsOn.f ansVO
  simp only [in_eq, Option.bind_some]
  refine ev_bind (l8Table_ev cy off hc ho) ?_
  by_cases t : TabOk cy off
  · refine ev_pos (by simpa using t) ?_
    by_cases h : 0 ≤ day ∧ day ≤ 1000000
    · rw [if_pos ⟨t, h⟩]
      exact ev_pos (by simpa using h) (ev_bind (specVisits_ev cy off t day) (ev_some _))
    · rw [if_neg fun c => h c.2]
      exact ev_neg (by simpa using h) (ev_some _)
  · rw [if_neg fun c => t c.1]
    exact ev_neg (by simpa using t) (ev_some _)
theorem implVO_ev (cy off : List Int) (day : Int) (hc : cy.length ≤ 35184372088832) (ho : off.length ≤ 35184372088832) : Ev (fun k => impl_VisitsOn.f k cy off day) (ansVO cy off day) := by
  unfold impl_VisitsOn.f ansVO
  simp only [within_eq, Option.bind_some]
  refine ev_bind (isTimetable_ev cy off hc ho) ?_
  by_cases t : TabOk cy off
  · refine ev_pos (by simpa using t) ?_
    by_cases h : 0 ≤ day ∧ day ≤ 1000000
    · rw [if_pos ⟨t, h⟩]
      exact ev_pos (by simpa using h) (ev_bind (implVisits_ev cy off t day) (ev_some _))
    · rw [if_neg fun c => h c.2]
      exact ev_neg (by simpa using h) (ev_some _)
  · rw [if_neg fun c => t c.1]
    exact ev_neg (by simpa using t) (ev_some _)
/-- How many of d days from day i on have a visit. -/
def busy (cy off : List Int) : Nat → Nat → Int → Int
  | 0, _, c => c
  | d + 1, i, c => if ((vis cy off (i : Int) cy.length 0 []).length : Int) > 0 then busy cy off d (i + 1) (c + 1) else busy cy off d (i + 1) c
def ansDB (cy off : List Int) (days : Int) : Int × Bool := if TabOk cy off ∧ 0 ≤ days ∧ days ≤ 1000 then (busy cy off days.toNat 0 0, true) else (0, false)
theorem specDB_l0 (cy off : List Int) (t : TabOk cy off) (n : Nat) (hn : n ≤ 1000) (d : Nat) : ∀ (i : Nat) (c : Int), i + d = n → 0 ≤ c → c ≤ i → Ev (fun k => spec_DaysBusy.l0 k cy off (n : Int) c (i : Int)) (busy cy off d i c, true) := by
  induction d with
  | zero =>
    intro i c hi h0 h1
    refine ev_succ ?_
    simp only [spec_DaysBusy.l0]
    exact ev_neg (by omega) (ev_some _)
  | succ d ih =>
    intro i c hi h0 h1
    refine ev_succ ?_
    simp only [spec_DaysBusy.l0]
    have hw : wrap64 ((i : Int) + 1) = ((i + 1 : Nat) : Int) := by rw [wid (by omega) (by omega)]; omega
    rw [hw, show wrap64 (c + 1) = c + 1 from wid (by omega) (by omega)]
    refine ev_pos (by omega) (ev_bind (specVisits_ev cy off t i) ?_)
    unfold busy
    by_cases h : ((vis cy off (i : Int) cy.length 0 []).length : Int) > 0
    · rw [if_pos h]
      exact ev_pos h (ih (i + 1) (c + 1) (by omega) (by omega) (by omega))
    · rw [if_neg h]
      exact ev_neg h (ih (i + 1) c (by omega) (by omega) (by omega))
theorem implDB_l0 (cy off : List Int) (t : TabOk cy off) (n : Nat) (hn : n ≤ 1000) (d : Nat) : ∀ (i : Nat) (c : Int), i + d = n → 0 ≤ c → c ≤ i → Ev (fun k => impl_DaysBusy.l0 k cy off c (n : Int) (i : Int)) (busy cy off d i c, true) := by
  induction d with
  | zero =>
    intro i c hi h0 h1
    refine ev_succ ?_
    simp only [impl_DaysBusy.l0]
    exact ev_neg (by omega) (ev_some _)
  | succ d ih =>
    intro i c hi h0 h1
    refine ev_succ ?_
    simp only [impl_DaysBusy.l0]
    have hw : wrap64 ((i : Int) + 1) = ((i + 1 : Nat) : Int) := by rw [wid (by omega) (by omega)]; omega
    rw [hw, show wrap64 (c + 1) = c + 1 from wid (by omega) (by omega)]
    refine ev_pos (by omega) (ev_bind (implVisits_ev cy off t i) ?_)
    unfold busy
    by_cases h : ((vis cy off (i : Int) cy.length 0 []).length : Int) > 0
    · rw [if_pos h]
      exact ev_pos h (ih (i + 1) (c + 1) (by omega) (by omega) (by omega))
    · rw [if_neg h]
      exact ev_neg h (ih (i + 1) c (by omega) (by omega) (by omega))
theorem specDB_ev (cy off : List Int) (days : Int) (hc : cy.length ≤ 35184372088832) (ho : off.length ≤ 35184372088832) : Ev (fun k => spec_DaysBusy.f k cy off days) (ansDB cy off days) := by
  unfold spec_DaysBusy.f ansDB
  simp only [in_eq, Option.bind_some]
  refine ev_bind (l8Table_ev cy off hc ho) ?_
  by_cases t : TabOk cy off
  · refine ev_pos (by simpa using t) (ev_succ ?_)
    simp only [spec_DaysBusy.j0]
    by_cases h : 0 ≤ days ∧ days ≤ 1000
    · rw [if_pos ⟨t, h⟩]
      have := specDB_l0 cy off t days.toNat (by omega) days.toNat 0 0 (by omega) (by omega) (by omega)
      rw [Int.toNat_of_nonneg h.1] at this
      exact ev_neg (by simp [h]) this
    · rw [if_neg fun c => h c.2]
      exact ev_pos (by rw [decide_eq_false h]; rfl) (ev_some _)
  · rw [if_neg fun c => t c.1]
    refine ev_neg (by simpa using t) (ev_succ ?_)
    simp only [spec_DaysBusy.j0, if_true]
    exact ev_some _
theorem implDB_ev (cy off : List Int) (days : Int) (hc : cy.length ≤ 35184372088832) (ho : off.length ≤ 35184372088832) : Ev (fun k => impl_DaysBusy.f k cy off days) (ansDB cy off days) := by
  unfold impl_DaysBusy.f ansDB
  simp only [within_eq, Option.bind_some]
  refine ev_bind (isTimetable_ev cy off hc ho) ?_
  by_cases t : TabOk cy off
  · refine ev_pos (by simpa using t) (ev_succ ?_)
    simp only [impl_DaysBusy.j0]
    by_cases h : 0 ≤ days ∧ days ≤ 1000
    · rw [if_pos ⟨t, h⟩]
      have := implDB_l0 cy off t days.toNat (by omega) days.toNat 0 0 (by omega) (by omega) (by omega)
      rw [Int.toNat_of_nonneg h.1] at this
      exact ev_neg (by simp [h]) this
    · rw [if_neg fun c => h c.2]
      exact ev_pos (by rw [decide_eq_false h]; rfl) (ev_some _)
  · rw [if_neg fun c => t c.1]
    refine ev_neg (by simpa using t) (ev_succ ?_)
    simp only [impl_DaysBusy.j0, if_true]
    exact ev_some _
/-- The visit at place i meets none at a place ahead. -/
def Last (cy off : List Int) (i : Nat) : Prop := ∀ j : Nat, j < i → ¬ Meet cy off i j
instance (cy off : List Int) (i : Nat) : Decidable (Last cy off i) := by unfold Last; infer_instance
/-- The first of m numbers from x on at which g has an answer. -/
def firstOf (g : Int → Option (List Int)) : Nat → Int → Option (List Int)
  | 0, _ => none
  | m + 1, x => match g x with
    | some r => some r
    | none => firstOf g m (x + 1)
theorem firstOf_some (g : Int → Option (List Int)) (r : List Int) : ∀ (m : Nat) (x : Int), firstOf g m x = some r → ∃ y, x ≤ y ∧ y < x + (m : Int) ∧ g y = some r
  | 0, x, h => by simp [firstOf] at h
  | m + 1, x, h => by
    unfold firstOf at h
    cases e : g x with
    | some r' =>
      rw [e] at h
      exact ⟨x, by omega, by omega, by rw [e]; exact h⟩
    | none =>
      rw [e] at h
      obtain ⟨y, h1, h2, h3⟩ := firstOf_some g r m (x + 1) h
      exact ⟨y, by omega, by omega, h3⟩
theorem firstOf_none (g : Int → Option (List Int)) : ∀ (m : Nat) (x : Int), firstOf g m x = none → ∀ y, x ≤ y → y < x + (m : Int) → g y = none
  | 0, x, _, y, h1, h2 => by omega
  | m + 1, x, h, y, h1, h2 => by
    unfold firstOf at h
    cases e : g x with
    | some r' => rw [e] at h; cases h
    | none =>
      rw [e] at h
      by_cases h3 : y = x
      · rw [h3]; exact e
      · exact firstOf_none g m (x + 1) h y (by omega) (by omega)
/-- The first offsets that begin with some, with which no two visits meet; d are wanting. -/
def seek (cy : List Int) : Nat → List Int → Option (List Int)
  | 0, off => some off
  | d + 1, off => firstOf (fun x => if Last cy (off ++ [x]) off.length then seek cy d (off ++ [x]) else none) (rd cy (off.length : Int)).toNat 0
/-- Whole offsets that begin with some, with which no visit behind those meets one ahead. -/
def Ext (cy off r : List Int) : Prop := r.length = cy.length ∧ r.take off.length = off ∧ ∀ i : Nat, off.length ≤ i → i < cy.length → 0 ≤ rd r (i : Int) ∧ rd r (i : Int) < rd cy (i : Int) ∧ Last cy r i
theorem rd_pre {r off : List Int} (h : r.take off.length = off) (hl : off.length ≤ r.length) (j : Nat) (hj : j < off.length) : rd r (j : Int) = rd off (j : Int) := by
  rw [rd_nat r j (by omega), rd_nat off j hj]
  have e : (r.take off.length)[j]? = off[j]? := by rw [h]
  rw [List.getElem?_take_of_lt hj, List.getElem?_eq_getElem (by omega), List.getElem?_eq_getElem hj] at e
  exact Option.some.inj e
theorem rd_snoc (off : List Int) (x : Int) : rd (off ++ [x]) (off.length : Int) = x := by
  rw [rd_nat _ _ (by simp)]
  simp
theorem rd_snoc_lt (off : List Int) (x : Int) (j : Nat) (hj : j < off.length) : rd (off ++ [x]) (j : Int) = rd off (j : Int) := by
  rw [rd_nat _ _ (by simp; omega), rd_nat _ _ hj]
  simp [List.getElem_append_left, hj]
theorem last_congr {cy a b : List Int} {i : Nat} (h : ∀ j : Nat, j ≤ i → rd a (j : Int) = rd b (j : Int)) (ha : Last cy a i) : Last cy b i := by
  intro j hj hm
  refine ha j hj ?_
  unfold Meet at hm ⊢
  rw [h i (Nat.le_refl i), h j (by omega)]
  exact hm
theorem take_snoc {r off : List Int} (h : r.take off.length = off) (hl : off.length < r.length) : r.take (off ++ [rd r (off.length : Int)]).length = off ++ [rd r (off.length : Int)] := by
  rw [List.length_append, List.length_singleton, List.take_succ_eq_append_getElem hl, h, rd_nat r _ hl]
theorem seek_some (cy : List Int) (r : List Int) : ∀ (d : Nat) (off : List Int), off.length + d = cy.length → seek cy d off = some r → Ext cy off r
  | 0, off, hd, h => by
    simp only [seek, Option.some.injEq] at h
    subst h
    exact ⟨by omega, List.take_of_length_le (by omega), fun i h1 h2 => by omega⟩
  | d + 1, off, hd, h => by
    unfold seek at h
    obtain ⟨y, h1, h2, h3⟩ := firstOf_some _ r _ _ h
    by_cases hL : Last cy (off ++ [y]) off.length
    · rw [if_pos hL] at h3
      obtain ⟨e1, e2, e3⟩ := seek_some cy r d (off ++ [y]) (by simp; omega) h3
      have hlen : (off ++ [y]).length = off.length + 1 := by simp
      have hp : ∀ j : Nat, j < off.length + 1 → rd r (j : Int) = rd (off ++ [y]) (j : Int) := fun j hj => rd_pre e2 (by rw [hlen]; omega) j (by rw [hlen]; omega)
      refine ⟨e1, ?_, fun i hi1 hi2 => ?_⟩
      · have e4 := congrArg (List.take off.length) e2
        rw [List.take_take, hlen, Nat.min_eq_left (Nat.le_succ _), List.take_left] at e4
        exact e4
      · by_cases e : i = off.length
        · have e5 : rd r (i : Int) = y := by rw [hp i (by omega), e, rd_snoc]
          rw [e5]
          refine ⟨h1, ?_, last_congr (fun j hj => (hp j (by omega)).symm) (e ▸ hL)⟩
          rw [e]
          omega
        · exact e3 i (by rw [hlen]; omega) hi2
    · rw [if_neg hL] at h3
      cases h3
theorem seek_none (cy : List Int) : ∀ (d : Nat) (off : List Int), off.length + d = cy.length → seek cy d off = none → ∀ r, ¬ Ext cy off r
  | 0, off, hd, h, r => by simp [seek] at h
  | d + 1, off, hd, h, r => by
    rintro ⟨e1, e2, e3⟩
    unfold seek at h
    obtain ⟨a1, a2, a3⟩ := e3 off.length (Nat.le_refl _) (by omega)
    have h3 := firstOf_none _ _ _ h (rd r (off.length : Int)) a1 (by omega)
    have hlen : (off ++ [rd r (off.length : Int)]).length = off.length + 1 := by simp
    have e4 := take_snoc e2 (by omega)
    have hp : ∀ j : Nat, j < off.length + 1 → rd r (j : Int) = rd (off ++ [rd r (off.length : Int)]) (j : Int) := fun j hj => rd_pre e4 (by rw [hlen]; omega) j (by rw [hlen]; omega)
    rw [if_pos (last_congr (fun j hj => hp j (by omega)) a3)] at h3
    exact seek_none cy d _ (by rw [hlen]; omega) h3 r ⟨e1, e4, fun i h4 h5 => e3 i (by rw [hlen] at h4; omega) h5⟩
theorem meet_iff (cy off : List Int) (i j : Nat) : Meet cy off i j ↔ ((Nat.gcd (rd cy (i : Int)).toNat (rd cy (j : Int)).toNat : Nat) : Int) ∣ rd off (i : Int) - rd off (j : Int) := by
  unfold Meet
  exact ⟨Int.dvd_of_tmod_eq_zero, Int.tmod_eq_zero_of_dvd⟩
/-- All visits may be told from the first one on. -/
theorem shift {cy r : List Int} (hc : CycOk cy) (h : Ext cy [] r) (hn : 0 < cy.length) : ∃ r', Ext cy [0] r' := by
  obtain ⟨e1, _, e3⟩ := h
  have hg : ∀ i : Nat, i < cy.length → rd ((List.range cy.length).map fun i : Nat => (rd r (i : Int) - rd r 0) % rd cy (i : Int)) (i : Int) = (rd r (i : Int) - rd r 0) % rd cy (i : Int) := by
    intro i hi
    rw [rd_nat _ _ (by simpa using hi)]
    simp
  have hpos : ∀ i : Nat, i < cy.length → 0 < rd cy (i : Int) := by
    intro i hi
    have := hc.2 _ (List.getElem_mem hi)
    rw [rd_nat cy i hi]
    omega
  refine ⟨(List.range cy.length).map fun i : Nat => (rd r (i : Int) - rd r 0) % rd cy (i : Int), by simp, ?_, ?_⟩
  · rw [show ([0] : List Int).length = 0 + 1 from rfl, List.take_succ_eq_append_getElem (by simpa using hn)]
    simp
  · intro i hi1 hi2
    have hp := hpos i hi2
    rw [hg i hi2]
    refine ⟨Int.emod_nonneg _ (by omega), Int.emod_lt_of_pos _ hp, fun j hj hm => ?_⟩
    obtain ⟨_, _, a3⟩ := e3 i (Nat.zero_le i) hi2
    refine a3 j hj ((meet_iff cy r i j).2 ?_)
    have hm := (meet_iff _ _ i j).1 hm
    rw [hg i hi2, hg j (by omega)] at hm
    have hpj := hpos j (by omega)
    have d1 : ((Nat.gcd (rd cy (i : Int)).toNat (rd cy (j : Int)).toNat : Nat) : Int) ∣ rd cy (i : Int) := by
      have h := Int.natCast_dvd_natCast.2 (Nat.gcd_dvd_left (rd cy (i : Int)).toNat (rd cy (j : Int)).toNat)
      rwa [Int.toNat_of_nonneg (by omega)] at h
    have d2 : ((Nat.gcd (rd cy (i : Int)).toNat (rd cy (j : Int)).toNat : Nat) : Int) ∣ rd cy (j : Int) := by
      have h := Int.natCast_dvd_natCast.2 (Nat.gcd_dvd_right (rd cy (i : Int)).toNat (rd cy (j : Int)).toNat)
      rwa [Int.toNat_of_nonneg (show 0 ≤ rd cy (j : Int) by omega)] at h
    generalize ((Nat.gcd (rd cy (i : Int)).toNat (rd cy (j : Int)).toNat : Nat) : Int) = g at hm d1 d2 ⊢
    have q1 := Int.mul_ediv_add_emod (rd r (i : Int) - rd r 0) (rd cy (i : Int))
    have q2 := Int.mul_ediv_add_emod (rd r (j : Int) - rd r 0) (rd cy (j : Int))
    have k1 := Int.dvd_mul_of_dvd_left (c := (rd r (i : Int) - rd r 0) / rd cy (i : Int)) d1
    have k2 := Int.dvd_mul_of_dvd_left (c := (rd r (j : Int) - rd r 0) / rd cy (j : Int)) d2
    have k3 := Int.dvd_sub (Int.dvd_add hm k1) k2
    have e : rd r (i : Int) - rd r (j : Int) = (rd r (i : Int) - rd r 0) % rd cy (i : Int) - (rd r (j : Int) - rd r 0) % rd cy (j : Int) + rd cy (i : Int) * ((rd r (i : Int) - rd r 0) / rd cy (i : Int)) - rd cy (j : Int) * ((rd r (j : Int) - rd r 0) / rd cy (j : Int)) := by omega
    rw [e]
    exact k3
theorem seek_zero {cy : List Int} (hc : CycOk cy) (d : Nat) (hd : d + 1 = cy.length) : seek cy (d + 1) [] = seek cy d [0] := by
  have hL : Last cy ([] ++ [0]) ([] : List Int).length := fun j hj => by simp at hj
  cases e : seek cy d [0] with
  | some r =>
    unfold seek
    have hp : 1 ≤ rd cy ((([] : List Int).length : Nat) : Int) := by
      rw [rd_nat cy _ (by simp; omega)]
      exact (hc.2 _ (List.getElem_mem _)).1
    obtain ⟨m, hm⟩ : ∃ m, (rd cy ((([] : List Int).length : Nat) : Int)).toNat = m + 1 := ⟨(rd cy ((([] : List Int).length : Nat) : Int)).toNat - 1, by omega⟩
    rw [hm]
    unfold firstOf
    simp only [if_pos hL]
    rw [show ([] ++ [0] : List Int) = [0] from rfl, e]
  | none =>
    cases e2 : seek cy (d + 1) [] with
    | none => rfl
    | some r =>
      obtain ⟨r', h'⟩ := shift hc (seek_some cy r (d + 1) [] (by simp; omega) e2) (by omega)
      exact absurd h' (seek_none cy d [0] (by simp; omega) e r')
def resF : Option (List Int) → List Int × Bool
  | some r => (r, true)
  | none => ([], false)
/-- Offsets as far as they are begun. -/
def Beg (cy off : List Int) : Prop := off.length ≤ cy.length ∧ ∀ j : Nat, j < off.length → 0 ≤ rd off (j : Int) ∧ rd off (j : Int) ≤ 64
theorem beg_nil (cy : List Int) : Beg cy [] := ⟨by simp, fun j hj => by simp at hj⟩
theorem beg_snoc {cy off : List Int} (hc : CycOk cy) (h : Beg cy off) {x : Int} (hl : off.length < cy.length) (h0 : 0 ≤ x) (h1 : x < rd cy (off.length : Int)) : Beg cy (off ++ [x]) := by
  refine ⟨by simp; omega, fun j hj => ?_⟩
  by_cases e : j = off.length
  · rw [e, rd_snoc]
    have := (hc.2 _ (List.getElem_mem hl)).2
    rw [rd_nat cy _ hl] at h1
    omega
  · have hj' : j < off.length := by simp at hj; omega
    rw [rd_snoc_lt off x j hj']
    exact h.2 j hj'
theorem cyc_at {cy : List Int} (hc : CycOk cy) (i : Nat) (h : i < cy.length) : 1 ≤ rd cy (i : Int) ∧ rd cy (i : Int) ≤ 64 := by
  rw [rd_nat cy i h]
  exact hc.2 _ (List.getElem_mem h)
theorem gcdc_ne {cy : List Int} (hc : CycOk cy) (i j : Nat) (hi : i < cy.length) : ((Nat.gcd (rd cy (i : Int)).toNat (rd cy (j : Int)).toNat : Nat) : Int) ≠ 0 := by
  have := cyc_at hc i hi
  have h := Nat.gcd_pos_of_pos_left (rd cy (j : Int)).toNat (show 0 < (rd cy (i : Int)).toNat by omega)
  omega
def May (cy off : List Int) (i : Nat) (x : Int) : Prop := ∀ k : Nat, k < off.length → ¬ (Int.tmod (x - rd off (k : Int)) ((Nat.gcd (rd cy (i : Int)).toNat (rd cy (k : Int)).toNat : Nat) : Int) = 0)
instance (cy off : List Int) (i : Nat) (x : Int) : Decidable (May cy off i x) := by unfold May; infer_instance
theorem may_last (cy off : List Int) (x : Int) : May cy off off.length x ↔ Last cy (off ++ [x]) off.length := by
  unfold May Last Meet
  constructor
  · intro h j hj
    rw [rd_snoc, rd_snoc_lt off x j hj]
    exact h j hj
  · intro h j hj
    have := h j hj
    rw [rd_snoc, rd_snoc_lt off x j hj] at this
    exact this
theorem may_l0 {cy off : List Int} (hc : CycOk cy) (hb : Beg cy off) (i : Nat) (hi : i < cy.length) (x : Int) (h0 : 0 ≤ x) (h1 : x ≤ 64) (d : Nat) : ∀ k : Nat, k + d = off.length → (∀ k' : Nat, k' < k → ¬ (Int.tmod (x - rd off (k' : Int)) ((Nat.gcd (rd cy (i : Int)).toNat (rd cy (k' : Int)).toNat : Nat) : Int) = 0)) →
    Ev (fun n => spec_l8May.l0 n cy off (i : Int) x (k : Int)) (decide (May cy off i x)) := by
  have h5 := hc.1
  have hl := hb.1
  induction d with
  | zero =>
    intro k hk hp
    refine ev_succ ?_
    simp only [spec_l8May.l0]
    exact ev_neg (by omega) (ev_true fun k' h => hp k' (by omega))
  | succ d ih =>
    intro k hk hp
    have hw : wrap64 ((k : Int) + 1) = ((k + 1 : Nat) : Int) := by rw [wid (by omega) (by omega)]; omega
    have ck := cyc_at hc k (by omega)
    have ci := cyc_at hc i hi
    have bk := hb.2 k (by omega)
    have hm : Ev (fun n => spec_l8Meet.f n (rd cy (i : Int)) x (rd cy (k : Int)) (rd off (k : Int))) (decide (Int.tmod (x - rd off (k : Int)) ((Nat.gcd (rd cy (i : Int)).toNat (rd cy (k : Int)).toNat : Nat) : Int) = 0)) := by
      unfold spec_l8Meet.f
      refine ev_bind (gcd_ev _ _ (by omega) (by omega)) (ev_neg (gcdc_ne hc i k hi) (ev_cast (ev_some _) ?_))
      rw [wid (by omega) (by omega)]
      rfl
    refine ev_succ ?_
    simp only [spec_l8May.l0]
    rw [hw]
    refine ev_pos (by omega) (ev_pos (by omega) (ev_pos (by omega) (ev_pos (by omega) (ev_pos (by omega) (ev_bind hm ?_)))))
    by_cases h : Int.tmod (x - rd off (k : Int)) ((Nat.gcd (rd cy (i : Int)).toNat (rd cy (k : Int)).toNat : Nat) : Int) = 0
    · exact ev_pos (decide_eq_true h) (ev_false fun hh => hh k (by omega) h)
    · refine ev_neg (by rw [decide_eq_false h]; decide) (ih (k + 1) (by omega) fun k' h' => ?_)
      by_cases e : k' = k
      · rw [e]; exact h
      · exact hp k' (by omega)
theorem may_ev {cy off : List Int} (hc : CycOk cy) (hb : Beg cy off) (i : Nat) (hi : i < cy.length) (x : Int) (h0 : 0 ≤ x) (h1 : x ≤ 64) : Ev (fun n => spec_l8May.f n cy off (i : Int) x) (decide (May cy off i x)) := by
  unfold spec_l8May.f
  exact may_l0 hc hb i hi x h0 h1 off.length 0 (by omega) (fun k h => by omega)
/-- Each cycle that is not begun has an offset by itself. -/
def RoomAt (cy off : List Int) (i : Nat) : Prop := ∃ x : Int, 0 ≤ x ∧ x < rd cy (i : Int) ∧ May cy off i x
def Room (cy off : List Int) : Prop := ∀ i : Nat, off.length ≤ i → i < cy.length → RoomAt cy off i
theorem ext_room {cy off r : List Int} (hl : off.length ≤ cy.length) (h : Ext cy off r) : Room cy off := by
  obtain ⟨e1, e2, e3⟩ := h
  intro i h1 h2
  obtain ⟨a1, a2, a3⟩ := e3 i h1 h2
  refine ⟨rd r (i : Int), a1, a2, fun k hk hm => a3 k (by omega) ?_⟩
  unfold Meet
  rw [rd_pre e2 (by omega) k hk]
  exact hm
theorem room_l1 {cy off : List Int} (hc : CycOk cy) (hb : Beg cy off) (i : Nat) (hi : i < cy.length) (R : Bool) (hno : ¬ RoomAt cy off i → R = false) (hyes : RoomAt cy off i → Ev (fun n => spec_l8Room.l0 n cy off ((i + 1 : Nat) : Int)) R) (d : Nat) :
    ∀ x : Nat, (x : Int) + d = rd cy (i : Int) → (∀ x' : Nat, x' < x → ¬ May cy off i (x' : Int)) → Ev (fun n => spec_l8Room.l1 n cy off (i : Int) (x : Int)) R := by
  have h5 := hc.1
  have ci := cyc_at hc i hi
  have hw2 : wrap64 ((i : Int) + 1) = ((i + 1 : Nat) : Int) := by rw [wid (by omega) (by omega)]; omega
  induction d with
  | zero =>
    intro x hx hp
    refine ev_succ ?_
    simp only [spec_l8Room.l1]
    refine ev_pos (by omega) (ev_pos (by omega) (ev_neg (by omega) (ev_pos (by omega) (ev_cast (ev_some _) (hno ?_).symm))))
    rintro ⟨y, y0, y1, y2⟩
    refine hp y.toNat (by omega) ?_
    rw [Int.toNat_of_nonneg y0]
    exact y2
  | succ d ih =>
    intro x hx hp
    have hw : wrap64 ((x : Int) + 1) = ((x + 1 : Nat) : Int) := by rw [wid (by omega) (by omega)]; omega
    refine ev_succ ?_
    simp only [spec_l8Room.l1]
    rw [hw, hw2]
    refine ev_pos (by omega) (ev_pos (by omega) (ev_pos (by omega) (ev_bind (may_ev hc hb i hi (x : Int) (by omega) (by omega)) ?_)))
    by_cases h : May cy off i (x : Int)
    · exact ev_pos (decide_eq_true h) (ev_neg (by omega) (hyes ⟨(x : Int), by omega, by omega, h⟩))
    · refine ev_neg (by rw [decide_eq_false h]; decide) (ih (x + 1) (by omega) fun x' h' => ?_)
      by_cases e : x' = x
      · rw [e]; exact h
      · exact hp x' (by omega)
theorem room_l0 {cy off : List Int} (hc : CycOk cy) (hb : Beg cy off) (R : Bool) (hno : ¬ Room cy off → R = false) (hyes : Room cy off → R = true) (d : Nat) :
    ∀ i : Nat, i + d = cy.length → off.length ≤ i → (∀ i' : Nat, off.length ≤ i' → i' < i → RoomAt cy off i') → Ev (fun n => spec_l8Room.l0 n cy off (i : Int)) R := by
  induction d with
  | zero =>
    intro i hi h1 hp
    refine ev_succ ?_
    simp only [spec_l8Room.l0]
    exact ev_neg (by omega) (ev_cast (ev_some _) (hyes fun i' h2 h3 => hp i' h2 (by omega)).symm)
  | succ d ih =>
    intro i hi h1 hp
    refine ev_succ ?_
    simp only [spec_l8Room.l0]
    refine ev_pos (by omega) ?_
    have ci := cyc_at hc i (by omega)
    refine room_l1 hc hb i (by omega) R (fun h => hno fun hh => h (hh i h1 (by omega))) (fun h => ih (i + 1) (by omega) (by omega) fun i' h2 h3 => ?_) (rd cy (i : Int)).toNat 0 (by omega) (fun x h => by omega)
    by_cases e : i' = i
    · rw [e]; exact h
    · exact hp i' h2 (by omega)
theorem room_ev {cy off : List Int} (hc : CycOk cy) (hb : Beg cy off) : ∃ R : Bool, (R = true ↔ Room cy off) ∧ Ev (fun n => spec_l8Room.f n cy off) R := by
  have hl := hb.1
  unfold spec_l8Room.f
  by_cases h : Room cy off
  · exact ⟨true, by simp [h], room_l0 hc hb true (fun hn => absurd h hn) (fun _ => rfl) (cy.length - off.length) off.length (by omega) (Nat.le_refl _) (fun i' h1 h2 => by omega)⟩
  · exact ⟨false, by simp [h], room_l0 hc hb false (fun _ => rfl) (fun hn => absurd hn h) (cy.length - off.length) off.length (by omega) (Nat.le_refl _) (fun i' h1 h2 => by omega)⟩
theorem own_eq (xs : List Int) (h : xs.length < 17592186044416) : spec_l1Own.f xs = some xs := by
  unfold spec_l1Own.f
  simp [h]
theorem place_l0 {cy off : List Int} (hc : CycOk cy) (hb : Beg cy off) (hl : off.length < cy.length) (g : Int → Option (List Int)) (hg : ∀ x : Int, 0 ≤ x → x < rd cy (off.length : Int) → ∀ R, (∀ (_ : May cy off off.length x), ∀ r, g x = some r → R = (r, true)) → (g x = none → Ev (fun n => spec_l8Place.l0 n cy off (off.length : Int) true (x + 1)) R) → Ev (fun n => spec_l8Place.j1 n cy off (off.length : Int) true x true) R) (m : Nat) :
    ∀ x : Int, 0 ≤ x → x + (m : Int) = rd cy (off.length : Int) → (∀ y r, g y = some r → May cy off off.length y) → Ev (fun n => spec_l8Place.l0 n cy off (off.length : Int) true x) (resF (firstOf g m x)) := by
  induction m with
  | zero =>
    intro x h0 hx hm
    refine ev_succ ?_
    simp only [spec_l8Place.l0]
    refine ev_pos (by omega) (ev_pos (by omega) (ev_neg (by omega) (ev_succ ?_)))
    simp only [spec_l8Place.j1]
    exact ev_neg (by decide) (ev_some _)
  | succ m ih =>
    intro x h0 hx hm
    refine ev_succ ?_
    simp only [spec_l8Place.l0]
    refine ev_pos (by omega) (ev_pos (by omega) (ev_pos (by omega) (hg x h0 (by omega) _ (fun h r e => ?_) fun e => ?_)))
    · unfold firstOf
      rw [e]
      rfl
    · have := ih (x + 1) (by omega) (by omega) hm
      unfold firstOf
      rw [e]
      exact this
theorem place_ev {cy : List Int} (hc : CycOk cy) : ∀ (d : Nat) (off : List Int), off.length + d = cy.length → Beg cy off → Ev (fun n => spec_l8Place.f n cy off) (resF (seek cy d off))
  | 0, off, hd, hb => by
    refine ev_succ ?_
    simp only [spec_l8Place.f]
    exact ev_pos (by omega) (ev_some _)
  | d + 1, off, hd, hb => by
    have h5 := hc.1
    have hl : off.length < cy.length := by omega
    have ci := cyc_at hc off.length hl
    obtain ⟨R, hR, hRe⟩ := room_ev hc hb
    refine ev_succ ?_
    simp only [spec_l8Place.f]
    refine ev_neg (by omega) (ev_bind hRe ?_)
    cases R with
    | false =>
      have hno : seek cy (d + 1) off = none := by
        cases e : seek cy (d + 1) off with
        | none => rfl
        | some r => exact absurd (hR.2 (ext_room hb.1 (seek_some cy r _ off hd e))) (by decide)
      rw [hno]
      refine ev_succ ?_
      simp only [spec_l8Place.l0]
      refine ev_pos (by omega) (ev_pos (by omega) (ev_pos (by omega) (ev_succ ?_)))
      simp only [spec_l8Place.j1]
      exact ev_neg (by decide) (ev_some _)
    | true =>
      unfold seek
      refine place_l0 hc hb hl _ (fun x h0 h1 R h2 h3 => ?_) _ 0 (Int.le_refl 0) (by omega) (fun y r h => ?_)
      · have hw : wrap64 (x + 1) = x + 1 := wid (by omega) (by omega)
        have hb2 := beg_snoc hc hb hl h0 h1
        have ih := place_ev hc d (off ++ [x]) (by simp; omega) hb2
        refine ev_succ ?_
        simp only [spec_l8Place.j1, own_eq off (by omega), Option.bind_some]
        rw [hw]
        refine ev_pos trivial (ev_bind (may_ev hc hb off.length hl x h0 (by omega)) ?_)
        by_cases hM : May cy off off.length x
        · have hL := (may_last cy off x).1 hM
          rw [if_pos hL] at h2 h3
          refine ev_pos (decide_eq_true hM) (ev_pos (by omega) (ev_bind ih ?_))
          cases e : seek cy d (off ++ [x]) with
          | some r => exact ev_pos rfl (ev_cast (ev_some _) (h2 hM r e).symm)
          | none => exact ev_neg (by simp [resF]) (h3 e)
        · have hL : ¬ Last cy (off ++ [x]) off.length := fun h => hM ((may_last cy off x).2 h)
          rw [if_neg hL] at h3
          exact ev_neg (by rw [decide_eq_false hM]; decide) (h3 rfl)
      · by_cases hL : Last cy (off ++ [y]) off.length
        · exact (may_last cy off y).2 hL
        · rw [if_neg hL] at h
          cases h
theorem meetsP_l0 {cy off : List Int} (hc : CycOk cy) (hb : Beg cy off) (i : Nat) (hi : off.length = i + 1) (d : Nat) : ∀ j : Nat, j + d = i → (∀ j' : Nat, j' < j → ¬ Meet cy off i j') →
    Ev (fun k => impl_meets.l0 k cy off (i : Int) (i : Int) (j : Int)) (decide (¬ Last cy off i)) := by
  have h5 := hc.1
  have hl := hb.1
  induction d with
  | zero =>
    intro j hj hp
    refine ev_succ ?_
    simp only [impl_meets.l0]
    exact ev_neg (by omega) (ev_false fun h => h fun j' h' => hp j' (by omega))
  | succ d ih =>
    intro j hj hp
    have ci := cyc_at hc i (by omega)
    have cj := cyc_at hc j (by omega)
    have bi := hb.2 i (by omega)
    have bj := hb.2 j (by omega)
    have hw : wrap64 ((j : Int) + 1) = ((j + 1 : Nat) : Int) := by rw [wid (by omega) (by omega)]; omega
    have hd : wrap64 (rd off (j : Int) - rd off (i : Int)) = rd off (j : Int) - rd off (i : Int) := wid (by omega) (by omega)
    refine ev_succ ?_
    simp only [impl_meets.l0]
    rw [hw, hd]
    refine ev_pos (by omega) (ev_pos (by omega) (ev_pos (by omega) (ev_pos (by omega) (ev_pos (by omega) (ev_pos (by omega) (ev_pos (by omega) (ev_bind (divisor_ev _ _ (by omega) (by omega)) (ev_neg (gcdc_ne hc j i (by omega)) ?_))))))))
    by_cases h : Meet cy off j i
    · exact ev_pos h (ev_true fun hh => hh j (by omega) ((meet_comm cy off i j).2 h))
    · refine ev_neg h (ih (j + 1) (by omega) fun j' h' => ?_)
      by_cases e : j' = j
      · rw [e]; exact fun hh => h ((meet_comm cy off i j).1 hh)
      · exact hp j' (by omega)
theorem meetsP_ev {cy off : List Int} (hc : CycOk cy) (hb : Beg cy off) (i : Nat) (hi : off.length = i + 1) : Ev (fun k => impl_meets.f k cy off) (decide (¬ Last cy off i)) := by
  have h5 := hc.1
  have hl := hb.1
  unfold impl_meets.f
  rw [hi, show wrap64 (((i + 1 : Nat) : Int) - 1) = (i : Int) by rw [wid (by omega) (by omega)]; omega]
  exact meetsP_l0 hc hb i hi i 0 (by omega) (fun j h => by omega)
/-- A try of an offset. -/
theorem try_ev {cy off : List Int} (hc : CycOk cy) (hb : Beg cy off) (hl : off.length < cy.length) (d : Nat) (hd : off.length + (d + 1) = cy.length) (x c : Int) (h0 : 0 ≤ x) (h1 : x < rd cy (off.length : Int)) (ih : Ev (fun n => impl_FindOffsetsLit.f n (off ++ [x]) cy) (resF (seek cy d (off ++ [x])))) (R : List Int × Bool)
    (h2 : ∀ r, (if Last cy (off ++ [x]) off.length then seek cy d (off ++ [x]) else none) = some r → R = (r, true)) (h3 : (if Last cy (off ++ [x]) off.length then seek cy d (off ++ [x]) else none) = none → Ev (fun n => impl_FindOffsetsLit.l0 n off cy (off.length : Int) c (x + 1)) R) :
    Ev (fun n => impl_FindOffsetsLit.j1 n off cy (off.length : Int) x c x false) R := by
  have h5 := hc.1
  have ci := cyc_at hc off.length hl
  have hw : wrap64 (x + 1) = x + 1 := wid (by omega) (by omega)
  refine ev_succ ?_
  simp only [impl_FindOffsetsLit.j1]
  rw [hw]
  refine ev_neg (by decide) (ev_pos (by omega) (ev_bind (meetsP_ev hc (beg_snoc hc hb hl h0 h1) off.length (by simp)) ?_))
  by_cases hL : Last cy (off ++ [x]) off.length
  · rw [if_pos hL] at h2 h3
    refine ev_neg (by rw [decide_eq_false (by simpa using hL)]; decide) (ev_bind ih ?_)
    cases e : seek cy d (off ++ [x]) with
    | some r => exact ev_pos rfl (ev_cast (ev_some _) (h2 r e).symm)
    | none => exact ev_neg (by simp [resF]) (h3 e)
  · rw [if_neg hL] at h3
    exact ev_pos (decide_eq_true hL) (h3 rfl)
theorem find_l0 {cy off : List Int} (hc : CycOk cy) (hb : Beg cy off) (hp : 0 < off.length) (hl : off.length < cy.length) (d : Nat) (hd : off.length + (d + 1) = cy.length) (ih : ∀ x : Int, 0 ≤ x → x < rd cy (off.length : Int) → Ev (fun n => impl_FindOffsetsLit.f n (off ++ [x]) cy) (resF (seek cy d (off ++ [x])))) (m : Nat) :
    ∀ x : Int, 0 ≤ x → x + (m : Int) = rd cy (off.length : Int) → Ev (fun n => impl_FindOffsetsLit.l0 n off cy (off.length : Int) (rd cy (off.length : Int)) x) (resF (firstOf (fun x => if Last cy (off ++ [x]) off.length then seek cy d (off ++ [x]) else none) m x)) := by
  induction m with
  | zero =>
    intro x h0 hx
    refine ev_succ ?_
    simp only [impl_FindOffsetsLit.l0]
    exact ev_neg (by omega) (ev_some _)
  | succ m ihm =>
    intro x h0 hx
    refine ev_succ ?_
    simp only [impl_FindOffsetsLit.l0]
    refine ev_pos (by omega) (ev_neg (by omega) (try_ev hc hb hl d hd x _ h0 (by omega) (ih x h0 (by omega)) _ (fun r e => ?_) fun e => ?_))
    · unfold firstOf
      simp only [e]
      rfl
    · have := ihm (x + 1) (by omega) (by omega)
      unfold firstOf
      simp only [e]
      exact this
theorem find_ev {cy : List Int} (hc : CycOk cy) : ∀ (d : Nat) (off : List Int), off.length + d = cy.length → 0 < off.length → Beg cy off → Ev (fun n => impl_FindOffsetsLit.f n off cy) (resF (seek cy d off))
  | 0, off, hd, hp, hb => by
    refine ev_succ ?_
    simp only [impl_FindOffsetsLit.f]
    exact ev_pos (by omega) (ev_some _)
  | d + 1, off, hd, hp, hb => by
    have hl : off.length < cy.length := by omega
    have ci := cyc_at hc off.length hl
    refine ev_succ ?_
    simp only [impl_FindOffsetsLit.f]
    refine ev_neg (by omega) (ev_pos (by omega) (ev_pos (by omega) ?_))
    unfold seek
    exact find_l0 hc hb hp hl d hd (fun x h0 h1 => find_ev hc d (off ++ [x]) (by simp; omega) (by simp) (beg_snoc hc hb hl h0 h1)) _ 0 (Int.le_refl 0) (by omega)
theorem findTop_ev {cy : List Int} (hc : CycOk cy) : Ev (fun n => impl_FindOffsetsLit.f n [] cy) (resF (seek cy cy.length [])) := by
  have hb := beg_nil cy
  obtain ⟨d, hd⟩ : ∃ d, d = cy.length := ⟨_, rfl⟩
  rw [← hd]
  cases d with
  | zero =>
    refine ev_succ ?_
    simp only [impl_FindOffsetsLit.f]
    exact ev_pos (by simp; omega) (ev_some _)
  | succ d =>
    have hl : ([] : List Int).length < cy.length := by simp; omega
    have ci : 1 ≤ rd cy 0 ∧ rd cy 0 ≤ 64 := cyc_at hc 0 (by omega)
    rw [seek_zero hc d hd]
    refine ev_succ ?_
    simp only [impl_FindOffsetsLit.f]
    refine ev_neg (by simp; omega) (ev_pos (by simp) (ev_pos (by simp; omega) (ev_succ ?_)))
    simp only [impl_FindOffsetsLit.l0]
    refine ev_pos (by simp; omega) (ev_pos (by simp) ?_)
    rw [show decide ((0 : Int) > 0) = false by decide]
    have hL : Last cy ([] ++ [0]) ([] : List Int).length := fun j hj => by simp at hj
    refine try_ev hc hb hl d (by simp; omega) 0 _ (Int.le_refl 0) (by simp; omega) (find_ev hc d ([] ++ [0]) (by simp; omega) (by simp) (beg_snoc hc hb hl (Int.le_refl 0) (by simp; omega))) _ (fun r e => ?_) fun e => ?_
    · rw [if_pos hL] at e
      rw [show ([0] : List Int) = [] ++ [0] from rfl, e]
      rfl
    · rw [if_pos hL] at e
      rw [show ([0] : List Int) = [] ++ [0] from rfl, e]
      refine ev_succ ?_
      simp only [impl_FindOffsetsLit.l0]
      by_cases h1 : (0 : Int) + 1 < rd cy ((([] : List Int).length : Nat) : Int)
      · refine ev_pos h1 (ev_pos (by simp) ?_)
        rw [show decide ((0 : Int) + 1 > 0) = true by decide]
        refine ev_succ ?_
        simp only [impl_FindOffsetsLit.j1]
        exact ev_pos trivial (ev_some _)
      · exact ev_neg h1 (ev_some _)
/-- The product of the first cycles, and the sum of its quotients by each. -/
def prodN (cy : List Int) : Nat → Nat
  | 0 => 1
  | i + 1 => prodN cy i * (rd cy (i : Int)).toNat
def quoN (cy : List Int) : Nat → Nat
  | 0 => 0
  | i + 1 => quoN cy i * (rd cy (i : Int)).toNat + prodN cy i
theorem prodN_pos {cy : List Int} (hc : CycOk cy) : ∀ i : Nat, i ≤ cy.length → 0 < prodN cy i
  | 0, _ => Nat.one_pos
  | i + 1, h => by
    have := cyc_at hc i (by omega)
    exact Nat.mul_pos (prodN_pos hc i (by omega)) (by omega)
theorem fr_same {n d : Int} (hn : 0 ≤ n) (hd : 0 < d) : (fr n d).1 * d = (fr n d).2 * n := by
  have hg := gcd_fr_pos (n := n) hd
  have d1 : ((Nat.gcd n.toNat d.toNat : Nat) : Int) ∣ n := by
    have h := Int.natCast_dvd_natCast.2 (Nat.gcd_dvd_left n.toNat d.toNat)
    rwa [Int.toNat_of_nonneg hn] at h
  have d2 : ((Nat.gcd n.toNat d.toNat : Nat) : Int) ∣ d := by
    have h := Int.natCast_dvd_natCast.2 (Nat.gcd_dvd_right n.toNat d.toNat)
    rwa [Int.toNat_of_nonneg (show 0 ≤ d by omega)] at h
  unfold fr
  simp only
  generalize ((Nat.gcd n.toNat d.toNat : Nat) : Int) = g at hg d1 d2
  obtain ⟨a, rfl⟩ := d1
  obtain ⟨b, rfl⟩ := d2
  rw [Int.mul_ediv_cancel_left a (by omega), Int.mul_ediv_cancel_left b (by omega), ← Int.mul_assoc, ← Int.mul_assoc, Int.mul_comm a g, Int.mul_assoc, Int.mul_comm a b, ← Int.mul_assoc, Int.mul_comm g b]
theorem share_cross {cy : List Int} (hc : CycOk cy) (d : Nat) : ∀ (i : Nat) (s : Int × Int), i + d = cy.length → Fr (i : Int) (64 ^ i) s → s.1 * (prodN cy i : Int) = s.2 * (quoN cy i : Int) →
    (shr cy d i s).1 * (prodN cy cy.length : Int) = (shr cy d i s).2 * (quoN cy cy.length : Int) ∧ 0 < (shr cy d i s).2 := by
  induction d with
  | zero =>
    intro i s hi hs h
    have e : i = cy.length := by omega
    subst e
    exact ⟨h, hs.2.2.1⟩
  | succ d ih =>
    intro i s hi hs h
    obtain ⟨f1, f2, _, _⟩ := share_step hc i (by omega) hs
    have ci := cyc_at hc i (by omega)
    refine ih (i + 1) _ (by omega) f2 ?_
    have s2 := hs.2.2.1
    have hf := fr_same (n := s.1 * rd cy (i : Int) + 1 * s.2) (d := s.2 * rd cy (i : Int)) (by have := Int.mul_nonneg hs.1 (show 0 ≤ rd cy (i : Int) by omega); omega) (Int.mul_pos s2 (by omega))
    show (fr (s.1 * rd cy (i : Int) + 1 * s.2) (s.2 * rd cy (i : Int))).1 * ((prodN cy i * (rd cy (i : Int)).toNat : Nat) : Int) = (fr (s.1 * rd cy (i : Int) + 1 * s.2) (s.2 * rd cy (i : Int))).2 * ((quoN cy i * (rd cy (i : Int)).toNat + prodN cy i : Nat) : Int)
    rw [Int.natCast_add, Int.natCast_mul, Int.natCast_mul, Int.toNat_of_nonneg (by omega)]
    generalize (fr (s.1 * rd cy (i : Int) + 1 * s.2) (s.2 * rd cy (i : Int))) = q at hf
    obtain ⟨a, b⟩ := q
    simp only at hf ⊢
    obtain ⟨p, t⟩ := s
    simp only at hf h s2
    generalize ((prodN cy i : Nat) : Int) = P at h ⊢
    generalize ((quoN cy i : Nat) : Int) = S at h ⊢
    generalize rd cy (i : Int) = c at hf ⊢
    refine Int.eq_of_mul_eq_mul_left (show t ≠ 0 by omega) ?_
    have e1 : t * (a * (P * c)) = P * (a * (t * c)) := by
      rw [Int.mul_left_comm t a, Int.mul_left_comm P a, Int.mul_left_comm t P]
    have e4 : P * (p * c) = c * (p * P) := by rw [Int.mul_left_comm, Int.mul_comm P c, Int.mul_left_comm]
    have e2 : P * (b * (p * c + 1 * t)) = b * (c * (p * P) + P * t) := by
      rw [Int.one_mul, Int.mul_left_comm P b, Int.mul_add P, e4]
    have e3 : t * (b * (S * c + P)) = b * (c * (t * S) + P * t) := by
      rw [Int.mul_left_comm t b, Int.mul_add t, Int.mul_comm P t, Int.mul_left_comm c t S, Int.mul_comm c S]
    rw [e1, hf, e2, h, e3]
/-- How many of the first n days. -/
def days (p : Nat → Bool) (n : Nat) : Nat := (List.range n).countP p
theorem days_le (p : Nat → Bool) (n : Nat) : days p n ≤ n := by
  have := List.countP_le_length (p := p) (l := List.range n)
  simpa [days] using this
theorem days_succ (p : Nat → Bool) (n : Nat) : days p (n + 1) = days p n + (if p n then 1 else 0) := by
  unfold days
  rw [List.range_succ, List.countP_append, List.countP_singleton]
theorem days_or (p q : Nat → Bool) (h : ∀ d, ¬ (p d = true ∧ q d = true)) (n : Nat) : days (fun d => p d || q d) n = days p n + days q n := by
  induction n with
  | zero => rfl
  | succ n ih =>
    rw [days_succ, days_succ, days_succ, ih]
    have := h n
    cases hp : p n <;> cases hq : q n <;> simp [hp, hq] at this ⊢ <;> omega
theorem days_mod_add (c o m k : Nat) : days (fun d => decide (d % c = o)) (c * m + k) = days (fun d => decide (d % c = o)) (c * m) + days (fun d => decide (d % c = o)) k := by
  induction k with
  | zero => simp [days]
  | succ k ih =>
    rw [← Nat.add_assoc, days_succ, days_succ, ih, Nat.mul_add_mod]
    omega
theorem days_one (c o : Nat) (ho : o < c) (k : Nat) (hk : k ≤ c) : days (fun d => decide (d % c = o)) k = if o < k then 1 else 0 := by
  induction k with
  | zero => simp [days]
  | succ k ih =>
    rw [days_succ, ih (by omega), Nat.mod_eq_of_lt (by omega)]
    by_cases h1 : o < k
    · simp [h1, show ¬ k = o by omega, show o < k + 1 by omega]
    · by_cases h2 : k = o
      · simp [h2]
      · simp [h1, h2, show ¬ o < k + 1 by omega]
theorem days_mod (c o : Nat) (ho : o < c) (m : Nat) : days (fun d => decide (d % c = o)) (c * m) = m := by
  induction m with
  | zero => simp [days]
  | succ m ih =>
    rw [Nat.mul_succ, days_mod_add, ih, days_one c o ho c (Nat.le_refl c), if_pos ho]
/-- A day with one of the first visits. -/
def busyN (cy r : List Int) : Nat → Nat → Bool
  | 0, _ => false
  | i + 1, d => busyN cy r i d || decide (d % (rd cy (i : Int)).toNat = (rd r (i : Int)).toNat)
theorem busyN_at (cy r : List Int) (d : Nat) : ∀ n : Nat, busyN cy r n d = true → ∃ i, i < n ∧ d % (rd cy (i : Int)).toNat = (rd r (i : Int)).toNat
  | 0, h => by simp [busyN] at h
  | n + 1, h => by
    simp only [busyN, Bool.or_eq_true, decide_eq_true_eq] at h
    rcases h with h | h
    · obtain ⟨i, h1, h2⟩ := busyN_at cy r d n h
      exact ⟨i, by omega, h2⟩
    · exact ⟨n, by omega, h⟩
/-- Two visits on one day meet. -/
theorem same_day {cy r : List Int} (i j d : Nat) (h0 : 0 ≤ rd r (i : Int)) (h1 : 0 ≤ rd r (j : Int)) (hi : d % (rd cy (i : Int)).toNat = (rd r (i : Int)).toNat) (hj : d % (rd cy (j : Int)).toNat = (rd r (j : Int)).toNat) : Meet cy r i j := by
  refine (meet_iff cy r i j).2 ?_
  have g1 := Nat.gcd_dvd_left (rd cy (i : Int)).toNat (rd cy (j : Int)).toNat
  have g2 := Nat.gcd_dvd_right (rd cy (i : Int)).toNat (rd cy (j : Int)).toNat
  have a1 := Nat.mod_add_div d (rd cy (i : Int)).toNat
  have a2 := Nat.mod_add_div d (rd cy (j : Int)).toNat
  rw [hi] at a1
  rw [hj] at a2
  have e : rd r (i : Int) - rd r (j : Int) = (((rd cy (j : Int)).toNat * (d / (rd cy (j : Int)).toNat) : Nat) : Int) - (((rd cy (i : Int)).toNat * (d / (rd cy (i : Int)).toNat) : Nat) : Int) := by omega
  rw [e]
  exact Int.dvd_sub (Int.natCast_dvd_natCast.2 (Nat.dvd_mul_right_of_dvd g2 _)) (Int.natCast_dvd_natCast.2 (Nat.dvd_mul_right_of_dvd g1 _))
theorem busy_count {cy r : List Int} (hc : CycOk cy) (hr : ∀ i : Nat, i < cy.length → 0 ≤ rd r (i : Int) ∧ rd r (i : Int) < rd cy (i : Int) ∧ Last cy r i) : ∀ i : Nat, i ≤ cy.length → ∀ m : Nat, days (busyN cy r i) (prodN cy i * m) = quoN cy i * m
  | 0, _, m => by
    have : ∀ n, days (busyN cy r 0) n = 0 := by
      intro n
      induction n with
      | zero => rfl
      | succ n ih => rw [days_succ, ih]; simp [busyN]
    rw [this]
    simp [quoN]
  | i + 1, hi, m => by
    obtain ⟨h0, h1, h2⟩ := hr i (by omega)
    have ih := busy_count hc hr i (by omega) ((rd cy (i : Int)).toNat * m)
    have hd := days_or (busyN cy r i) (fun d => decide (d % (rd cy (i : Int)).toNat = (rd r (i : Int)).toNat)) (fun d hh => by
      obtain ⟨j, hj1, hj2⟩ := busyN_at cy r d i hh.1
      exact h2 j hj1 (same_day i j d h0 (hr j (by omega)).1 (of_decide_eq_true hh.2) hj2)) (prodN cy i * (rd cy (i : Int)).toNat * m)
    have hm := days_mod (rd cy (i : Int)).toNat (rd r (i : Int)).toNat (by omega) (prodN cy i * m)
    show days (fun d => busyN cy r i d || decide (d % (rd cy (i : Int)).toNat = (rd r (i : Int)).toNat)) (prodN cy i * (rd cy (i : Int)).toNat * m) = (quoN cy i * (rd cy (i : Int)).toNat + prodN cy i) * m
    rw [hd]
    rw [show prodN cy i * (rd cy (i : Int)).toNat * m = prodN cy i * ((rd cy (i : Int)).toNat * m) from Nat.mul_assoc _ _ _, ih]
    rw [show prodN cy i * ((rd cy (i : Int)).toNat * m) = (rd cy (i : Int)).toNat * (prodN cy i * m) from Nat.mul_left_comm _ _ _, hm, Nat.add_mul, Nat.mul_assoc]
/-- Visits that never meet take a share of at most all days. -/
theorem share_le {cy r : List Int} (hc : CycOk cy) (h : Ext cy [] r) : (shareOf cy).1 ≤ (shareOf cy).2 := by
  have h1 := busy_count hc (fun i hi => h.2.2 i (Nat.zero_le i) hi) cy.length (Nat.le_refl _) 1
  have h2 := days_le (busyN cy r cy.length) (prodN cy cy.length * 1)
  rw [h1, Nat.mul_one, Nat.mul_one] at h2
  obtain ⟨h3, h4⟩ := share_cross hc cy.length 0 (0, 1) (by omega) ⟨by simp, by simp, by simp, by simp⟩ (by simp [prodN, quoN])
  have hp := prodN_pos hc cy.length (Nat.le_refl _)
  show (shr cy cy.length 0 (0, 1)).1 ≤ (shr cy cy.length 0 (0, 1)).2
  generalize shr cy cy.length 0 (0, 1) = s at h3 h4
  generalize quoN cy cy.length = S at h2 h3
  generalize prodN cy cy.length = P at h2 h3 hp
  have h5 : s.1 * (P : Int) ≤ s.2 * (P : Int) := by
    rw [h3]
    exact Int.mul_le_mul_of_nonneg_left (by omega) (by omega)
  exact Int.le_of_mul_le_mul_right h5 (by omega)
/-- A power of 2 of at most 64. -/
def Pow2 (c : Nat) : Prop := c ∈ [1, 2, 4, 8, 16, 32, 64]
theorem pow2_dvd {a b : Nat} (ha : Pow2 a) (hb : Pow2 b) (h : a ≤ b) : a ∣ b := by
  have key : ∀ a ∈ [1, 2, 4, 8, 16, 32, 64], ∀ b ∈ [1, 2, 4, 8, 16, 32, 64], a ≤ b → a ∣ b := by decide
  exact key a ha b hb h
theorem pow2_64 {a : Nat} (ha : Pow2 a) : a ∣ 64 := by
  have key : ∀ a ∈ [1, 2, 4, 8, 16, 32, 64], a ∣ 64 := by decide
  exact key a ha
theorem pow2_pos {a : Nat} (ha : Pow2 a) : 0 < a := Nat.pos_of_dvd_of_pos (pow2_64 ha) (by decide)
def sum64 (c : Nat → Nat) (L : List Nat) : Nat := (L.map fun j => 64 / c j).sum
theorem days_or_le (p q : Nat → Bool) (n : Nat) : days (fun d => p d || q d) n ≤ days p n + days q n := by
  induction n with
  | zero => simp [days]
  | succ n ih =>
    rw [days_succ, days_succ, days_succ]
    cases p n <;> cases q n <;> simp <;> omega
theorem days_free (p : Nat → Bool) (n : Nat) (h : days p n < n) : ∃ d, d < n ∧ p d = false := by
  induction n with
  | zero => omega
  | succ n ih =>
    rw [days_succ] at h
    cases hp : p n with
    | false => exact ⟨n, by omega, hp⟩
    | true =>
      rw [hp] at h
      obtain ⟨d, h1, h2⟩ := ih (by simp at h; omega)
      exact ⟨d, by omega, h2⟩
/-- A day with a visit of some. -/
def busyL (c o : Nat → Nat) : List Nat → Nat → Bool
  | [], _ => false
  | j :: L, d => busyL c o L d || decide (d % c j = o j)
theorem busyL_at {c o : Nat → Nat} {d : Nat} : ∀ {L : List Nat}, busyL c o L d = false → ∀ j ∈ L, d % c j ≠ o j
  | [], _, j, hj => by simp at hj
  | i :: L, h, j, hj => by
    simp only [busyL, Bool.or_eq_false_iff, decide_eq_false_iff_not] at h
    rcases List.mem_cons.1 hj with rfl | hj
    · exact h.2
    · exact busyL_at h.1 j hj
theorem busyL_count {c o : Nat → Nat} (hc : ∀ j, Pow2 (c j)) (m : Nat) (hm : Pow2 m) : ∀ {L : List Nat}, (∀ j ∈ L, c j ≤ m ∧ o j < c j) → days (busyL c o L) m * (64 / m) ≤ sum64 c L
  | [], _ => by
    have : ∀ n, days (busyL c o []) n = 0 := by
      intro n
      induction n with
      | zero => rfl
      | succ n ih => rw [days_succ, ih]; simp [busyL]
    rw [this]
    simp
  | j :: L, h => by
    obtain ⟨h1, h2⟩ := h j (by simp)
    have ih := busyL_count (L := L) hc m hm fun i hi => h i (by simp [hi])
    have hd := days_or_le (busyL c o L) (fun d => decide (d % c j = o j)) m
    obtain ⟨q, hq⟩ := pow2_dvd (hc j) hm h1
    have h3 := days_mod (c j) (o j) h2 q
    rw [← hq] at h3
    obtain ⟨t, ht⟩ := pow2_64 hm
    have hcp := pow2_pos (hc j)
    have hmp := pow2_pos hm
    have e1 : 64 / m = t := by rw [ht]; exact Nat.mul_div_cancel_left t hmp
    have e2 : 64 / c j = q * t := by rw [ht, hq, Nat.mul_assoc]; exact Nat.mul_div_cancel_left _ hcp
    show days (fun d => busyL c o L d || decide (d % c j = o j)) m * (64 / m) ≤ (64 / c j) + sum64 c L
    rw [e1] at ih ⊢
    rw [e2]
    rw [h3] at hd
    have h4 := Nat.mul_le_mul_right t hd
    rw [Nat.add_mul] at h4
    omega
/-- Offsets of some with which no two visits meet. -/
def Fine (c o : Nat → Nat) (L : List Nat) : Prop := (∀ j ∈ L, o j < c j) ∧ ∀ i ∈ L, ∀ j ∈ L, i ≠ j → ¬ (((Nat.gcd (c i) (c j) : Nat) : Int) ∣ (o i : Int) - (o j : Int))
theorem fill {c : Nat → Nat} (hc : ∀ j, Pow2 (c j)) : ∀ (todo done : List Nat) (o : Nat → Nat), Fine c o done → todo.Pairwise (fun i j => c i ≤ c j) → (∀ i ∈ done, ∀ j ∈ todo, c i ≤ c j) → (∀ i ∈ done, i ∉ todo) → todo.Nodup → sum64 c done + sum64 c todo ≤ 64 → ∃ o', ∀ L, (∀ i ∈ L, i ∈ done ∨ i ∈ todo) → Fine c o' L
  | [], done, o, hf, _, _, _, _, _ => ⟨o, fun L hL => ⟨fun j hj => hf.1 j ((hL j hj).elim id (fun h => by simp at h)), fun i hi j hj hij => hf.2 i ((hL i hi).elim id (fun h => by simp at h)) j ((hL j hj).elim id (fun h => by simp at h)) hij⟩⟩
  | x :: todo, done, o, hf, hs, hd, hn, hu, hq => by
    have hbc := busyL_count (o := o) hc (c x) (hc x) (L := done) fun j hj => ⟨hd j hj x (by simp), hf.1 j hj⟩
    have hxp := pow2_pos (hc x)
    obtain ⟨t, ht⟩ := pow2_64 (hc x)
    have e1 : 64 / c x = t := by rw [ht]; exact Nat.mul_div_cancel_left t hxp
    have hq' : sum64 c done + (64 / c x + sum64 c todo) ≤ 64 := hq
    have hlt : days (busyL c o done) (c x) < c x := by
      rw [e1] at hbc hq'
      refine Nat.lt_of_not_le fun h => ?_
      have h1 := Nat.mul_le_mul_right t h
      have h2 : 0 < t := by
        rcases Nat.eq_zero_or_pos t with h | h
        · rw [h] at ht; omega
        · exact h
      omega
    obtain ⟨d, hd1, hd2⟩ := days_free _ _ hlt
    have hb := busyL_at hd2
    have hxd : x ∉ done := fun h => hn x h (by simp)
    have hxt : x ∉ todo := (List.nodup_cons.1 hu).1
    have hoth : ∀ j ∈ done, ¬ (((Nat.gcd (c x) (c j) : Nat) : Int) ∣ (d : Int) - (o j : Int)) := by
      intro j hj hdv
      have hg : Nat.gcd (c x) (c j) = c j := Nat.gcd_eq_right (pow2_dvd (hc j) (hc x) (hd j hj x (by simp)))
      rw [hg] at hdv
      refine hb j hj ?_
      have h2 : ((d : Int) % (c j : Int)) = (o j : Int) % (c j : Int) := Int.emod_eq_emod_iff_emod_sub_eq_zero.2 (Int.emod_eq_zero_of_dvd hdv)
      have h3 : (o j : Int) % (c j : Int) = (o j : Int) := Int.emod_eq_of_lt (by omega) (by have := hf.1 j hj; omega)
      rw [h3] at h2
      omega
    obtain ⟨o', ho'⟩ := fill hc todo (x :: done) (fun i => if i = x then d else o i) ⟨fun j hj => by
        by_cases e : j = x
        · simp [e]; exact hd1
        · simp only [e, if_false]; exact hf.1 j ((List.mem_cons.1 hj).resolve_left e), fun i hi j hj hij => by
        by_cases ei : i = x
        · have ej : j ≠ x := fun h => hij (ei.trans h.symm)
          simp only [ei, ej, if_true, if_false]
          exact hoth j ((List.mem_cons.1 hj).resolve_left ej)
        · by_cases ej : j = x
          · simp only [ei, ej, if_true, if_false]
            intro h
            rw [Nat.gcd_comm] at h
            refine hoth i ((List.mem_cons.1 hi).resolve_left ei) ?_
            have := Int.dvd_neg.2 h
            rwa [Int.neg_sub] at this
          · simp only [ei, ej, if_false]
            exact hf.2 i ((List.mem_cons.1 hi).resolve_left ei) j ((List.mem_cons.1 hj).resolve_left ej) hij⟩
      (List.pairwise_cons.1 hs).2 (fun i hi j hj => by
        rcases List.mem_cons.1 hi with rfl | hi
        · exact (List.pairwise_cons.1 hs).1 j hj
        · exact hd i hi j (by simp [hj])) (fun i hi => by
        rcases List.mem_cons.1 hi with rfl | hi
        · exact hxt
        · exact fun h => hn i hi (by simp [h])) (List.nodup_cons.1 hu).2 (by
        show (64 / c x + sum64 c done) + sum64 c todo ≤ 64
        omega)
    refine ⟨o', fun L hL => ho' L fun i hi => ?_⟩
    rcases hL i hi with h | h
    · exact .inl (by simp [h])
    · rcases List.mem_cons.1 h with h | h
      · exact .inl (by simp [h])
      · exact .inr h
theorem quo_sum {cy : List Int} (hp : ∀ i : Nat, i < cy.length → Pow2 (rd cy (i : Int)).toNat) : ∀ i : Nat, i ≤ cy.length → 64 * quoN cy i = prodN cy i * sum64 (fun j : Nat => (rd cy (j : Int)).toNat) (List.range i)
  | 0, _ => by simp [quoN, sum64]
  | i + 1, h => by
    have ih := quo_sum hp i (by omega)
    obtain ⟨t, ht⟩ := pow2_64 (hp i (by omega))
    have hpos := pow2_pos (hp i (by omega))
    have e : sum64 (fun j : Nat => (rd cy (j : Int)).toNat) (List.range (i + 1)) = sum64 (fun j : Nat => (rd cy (j : Int)).toNat) (List.range i) + 64 / (rd cy (i : Int)).toNat := by
      simp [sum64, List.range_succ]
    have e2 : 64 / (rd cy (i : Int)).toNat = t := by rw [ht]; exact Nat.mul_div_cancel_left t hpos
    rw [e, e2]
    show 64 * (quoN cy i * (rd cy (i : Int)).toNat + prodN cy i) = prodN cy i * (rd cy (i : Int)).toNat * (sum64 (fun j : Nat => (rd cy (j : Int)).toNat) (List.range i) + t)
    generalize sum64 (fun j : Nat => (rd cy (j : Int)).toNat) (List.range i) = S at ih ⊢
    generalize (rd cy (i : Int)).toNat = c at ht ⊢
    have h1 : 64 * (quoN cy i * c) = prodN cy i * S * c := by rw [← Nat.mul_assoc, ih]
    rw [Nat.mul_add, h1, Nat.mul_add, Nat.mul_assoc (prodN cy i) c t, ← ht, Nat.mul_comm 64, Nat.mul_right_comm]
/-- Powers of 2 whose share is at most 1 have a free timetable. -/
theorem powers_ext {cy : List Int} (hc : CycOk cy) (hp : ∀ i : Nat, i < cy.length → Pow2 (rd cy (i : Int)).toNat) (h : (shareOf cy).1 ≤ (shareOf cy).2) : ∃ r, Ext cy [] r := by
  obtain ⟨h3, h4⟩ := share_cross hc cy.length 0 (0, 1) (by omega) ⟨by simp, by simp, by simp, by simp⟩ (by simp [prodN, quoN])
  have hpos := prodN_pos hc cy.length (Nat.le_refl _)
  have hq := quo_sum hp cy.length (Nat.le_refl _)
  have hle : quoN cy cy.length ≤ prodN cy cy.length := by
    have h' : (shr cy cy.length 0 (0, 1)).1 ≤ (shr cy cy.length 0 (0, 1)).2 := h
    generalize shr cy cy.length 0 (0, 1) = s at h' h3 h4
    have h5 : s.2 * (quoN cy cy.length : Int) ≤ s.2 * (prodN cy cy.length : Int) := by
      rw [← h3]
      exact Int.mul_le_mul_of_nonneg_right h' (by omega)
    have h6 := Int.le_of_mul_le_mul_left h5 h4
    omega
  -- a reading that is a power of 2 everywhere
  have hc2 : ∀ j : Nat, Pow2 (if j < cy.length then (rd cy (j : Int)).toNat else 1) := by
    intro j
    by_cases hj : j < cy.length
    · rw [if_pos hj]; exact hp j hj
    · rw [if_neg hj]; simp [Pow2]
  have hs64 : sum64 (fun j : Nat => if j < cy.length then (rd cy (j : Int)).toNat else 1) (List.range cy.length) ≤ 64 := by
    have e : sum64 (fun j : Nat => if j < cy.length then (rd cy (j : Int)).toNat else 1) (List.range cy.length) = sum64 (fun j : Nat => (rd cy (j : Int)).toNat) (List.range cy.length) := by
      unfold sum64
      congr 1
      refine List.map_congr_left fun j hj => ?_
      simp only [if_pos (List.mem_range.1 hj)]
    rw [e]
    have h7 : prodN cy cy.length * sum64 (fun j : Nat => (rd cy (j : Int)).toNat) (List.range cy.length) ≤ prodN cy cy.length * 64 := by rw [← hq]; omega
    exact Nat.le_of_mul_le_mul_left h7 hpos
  generalize hcd : (fun j : Nat => if j < cy.length then (rd cy (j : Int)).toNat else 1) = c at hc2 hs64
  have hcat : ∀ j : Nat, j < cy.length → c j = (rd cy (j : Int)).toNat := by
    intro j hj
    rw [← hcd]
    simp [hj]
  have hc2' : ∀ j, Pow2 (c j) := by
    intro j
    rw [← hcd]
    exact hc2 j
  have hperm := List.mergeSort_perm (List.range cy.length) (fun i j => decide (c i ≤ c j))
  have hsort := List.pairwise_mergeSort (le := fun i j => decide (c i ≤ c j)) (by intro a b d h1 h2; simp at h1 h2 ⊢; omega) (by intro a b; simp; omega) (List.range cy.length)
  obtain ⟨o, ho⟩ := fill hc2' ((List.range cy.length).mergeSort fun i j => decide (c i ≤ c j)) [] (fun _ => 0) ⟨by simp, by simp⟩ (hsort.imp fun h => by simpa using h) (by simp) (by simp) (hperm.nodup_iff.2 List.nodup_range) (by
    have e : sum64 c ((List.range cy.length).mergeSort fun i j => decide (c i ≤ c j)) = sum64 c (List.range cy.length) := (hperm.map _).sum_nat
    rw [e]
    simp only [sum64, List.map_nil, List.sum_nil, Nat.zero_add]
    exact hs64)
  obtain ⟨f1, f2⟩ := ho (List.range cy.length) fun i hi => .inr (hperm.mem_iff.2 hi)
  have hg : ∀ i : Nat, i < cy.length → rd ((List.range cy.length).map fun i : Nat => (o i : Int)) (i : Int) = (o i : Int) := by
    intro i hi
    rw [rd_nat _ _ (by simpa using hi)]
    simp
  refine ⟨(List.range cy.length).map fun i : Nat => (o i : Int), by simp, by simp, fun i _ hi => ?_⟩
  have a1 := f1 i (List.mem_range.2 hi)
  have ci := cyc_at hc i hi
  rw [hcat i hi] at a1
  rw [hg i hi]
  refine ⟨by omega, by omega, fun j hj hm => ?_⟩
  have hm := (meet_iff _ _ i j).1 hm
  rw [hg i hi, hg j (by omega)] at hm
  have a2 := f2 i (List.mem_range.2 hi) j (List.mem_range.2 (by omega)) (by omega)
  rw [hcat i hi, hcat j (by omega)] at a2
  exact a2 hm
def ansFO (cy : List Int) : List Int × Bool := if CycOk cy then resF (seek cy cy.length []) else ([], false)
theorem ansFO_length (cy : List Int) : (ansFO cy).1.length ≤ 5 := by
  unfold ansFO
  split
  · rename_i h
    cases e : seek cy cy.length [] with
    | none => simp [resF]
    | some r =>
      have h1 := (seek_some cy r _ _ (by simp) e).1
      have h2 := h.1
      simp only [resF]
      omega
  · simp
theorem specFO_ev (cy : List Int) (hl : cy.length ≤ 35184372088832) : Ev (fun k => spec_FindOffsets.f k cy) (ansFO cy) := by
  unfold spec_FindOffsets.f ansFO
  refine ev_bind (l8Cycles_ev cy hl) ?_
  by_cases h : CycOk cy
  · rw [if_pos h]
    refine ev_pos (by simpa using h) (ev_bind (specShare_ev cy h) ?_)
    by_cases hs : (shareOf cy).1 > (shareOf cy).2
    · refine ev_pos hs (ev_cast (ev_some _) ?_)
      cases e : seek cy cy.length [] with
      | none => rfl
      | some r => exact absurd (share_le h (seek_some cy r _ _ (by simp) e)) (by omega)
    · exact ev_neg hs (ev_bind (place_ev h cy.length [] (by simp) (beg_nil cy)) (ev_some _))
  · rw [if_neg h]
    exact ev_neg (by simpa using h) (ev_some _)
theorem implFO_ev (cy : List Int) (hl : cy.length ≤ 35184372088832) : Ev (fun k => impl_FindOffsets.f k cy) (ansFO cy) := by
  unfold impl_FindOffsets.f ansFO
  refine ev_bind (areCycles_ev cy hl) ?_
  by_cases h : CycOk cy
  · rw [if_pos h]
    exact ev_pos (by simpa using h) (ev_bind (findTop_ev h) (ev_some _))
  · rw [if_neg h]
    exact ev_neg (by simpa using h) (ev_some _)
/-- A reader of draws: its bytes; each draw moves it on by two places at most. -/
def CodeOk (code : List Int) : Prop := ∀ x ∈ code, 0 ≤ x ∧ x ≤ 255
theorem codeOk_of {code : List Int} (h : ∀ x ∈ code, (Lit.int .u8 x).wf = true) : CodeOk code := fun x hx => by
  have := h x hx
  simp only [Lit.wf, Bool.and_eq_true, decide_eq_true_eq] at this
  exact this
theorem seed_low (x : Int) (h0 : 0 ≤ x) (h1 : x < 18446744073709551616) : Go.bits .and .u64 (x / 1099511627776) 255 = (x / 1099511627776) % 256 :=
  bits_mask .u64 24 (by decide) (fun n h0 h1 => by simp only [IntKind.wrap, IntKind.bits, IntKind.signed]; simp; omega) 8 (by decide) (x / 1099511627776) (by omega) (by omega)
theorem u64_in (x : Int) : 0 ≤ IntKind.u64.wrap x ∧ IntKind.u64.wrap x < 18446744073709551616 := by
  simp only [IntKind.wrap, IntKind.bits, IntKind.signed]
  simp
  omega
theorem next_ok {code : List Int} (hc : CodeOk code) (t s : Int) (h0 : 0 ≤ t) (h1 : t ≤ 1000000000000000) :
    ∃ b s', spec_l1Cur_next.f code t s = some (b, t + 1, s') ∧ 0 ≤ b ∧ b ≤ 255 := by
  unfold spec_l1Cur_next.f
  rw [wid (x := t + 1) (by omega) (by omega)]
  by_cases c : t < (code.length : Int)
  · have hb : 0 ≤ rd code t ∧ rd code t ≤ 255 := by
      obtain ⟨i, rfl⟩ := Int.eq_ofNat_of_zero_le h0
      rw [rd_nat code i (by omega)]
      exact hc _ (List.getElem_mem _)
    rw [if_pos c, if_pos h0, wid (x := rd code t) (by omega) (by omega)]
    by_cases c2 : t + 1 ≤ (code.length : Int)
    · rw [if_pos c2]
      exact ⟨_, _, rfl, hb.1, hb.2⟩
    · omega
  · rw [if_neg c]
    by_cases c2 : t + 1 ≤ (code.length : Int)
    · omega
    · rw [if_neg c2]
      have u := u64_in (IntKind.u64.wrap (IntKind.u64.wrap (s * 6364136223846793005) + 0) + 462197)
      generalize IntKind.u64.wrap (IntKind.u64.wrap (IntKind.u64.wrap (s * 6364136223846793005) + 0) + 462197) = v at u ⊢
      rw [seed_low v u.1 u.2, wid (by omega) (by omega)]
      exact ⟨_, _, rfl, by omega, by omega⟩
theorem pick_ok {code : List Int} (hc : CodeOk code) (t s n : Int) (h0 : 0 ≤ t) (h1 : t ≤ 900000000000000) (hn : n ≤ 65536) :
    ∃ r t' s', spec_l1Cur_pick.f code t s n = some (r, t', s') ∧ 0 ≤ r ∧ (1 ≤ n → r < n) ∧ t ≤ t' ∧ t' ≤ t + 2 := by
  unfold spec_l1Cur_pick.f
  by_cases c : n ≤ 1
  · rw [if_pos c]
    exact ⟨0, t, s, rfl, by omega, fun _ => by omega, by omega, by omega⟩
  · rw [if_neg c]
    obtain ⟨b, s1, e1, b0, b1⟩ := next_ok hc t s h0 (by omega)
    rw [e1]
    simp only [Option.bind_some]
    by_cases c2 : n > 200
    · obtain ⟨b2, s2, e2, q0, q1⟩ := next_ok hc (t + 1) s1 (by omega) (by omega)
      rw [if_pos c2, e2]
      simp only [Option.bind_some]
      rw [if_neg (by omega), wid (x := b * 256) (by omega) (by omega), wid (by omega) (by omega), Int.tmod_eq_emod_of_nonneg (by omega)]
      exact ⟨_, _, _, rfl, Int.emod_nonneg _ (by omega), fun _ => Int.emod_lt_of_pos _ (by omega), by omega, by omega⟩
    · rw [if_neg c2, if_neg (by omega), Int.tmod_eq_emod_of_nonneg (by omega)]
      exact ⟨_, _, _, rfl, Int.emod_nonneg _ (by omega), fun _ => Int.emod_lt_of_pos _ (by omega), by omega, by omega⟩
theorem among_ok {code : List Int} (hc : CodeOk code) (t s : Int) (l : List Int) (h0 : 0 ≤ t) (h1 : t ≤ 900000000000000) (hl : 0 < l.length) (hl2 : l.length ≤ 65536) :
    ∃ r t' s', spec_l1Cur_among.f code t s l = some (r, t', s') ∧ r ∈ l ∧ t ≤ t' ∧ t' ≤ t + 2 := by
  unfold spec_l1Cur_among.f
  obtain ⟨r, t', s', e, a, b, c, d⟩ := pick_ok hc t s (l.length : Int) h0 h1 (by omega)
  have b := b (by omega)
  rw [e]
  simp only [Option.bind_some]
  rw [if_pos a, if_pos b]
  obtain ⟨i, rfl⟩ := Int.eq_ofNat_of_zero_le a
  refine ⟨_, _, _, rfl, ?_, c, d⟩
  rw [rd_nat l i (by omega)]
  exact List.getElem_mem _
theorem one_ok {code : List Int} (hc : CodeOk code) (t s n : Int) (h0 : 0 ≤ t) (h1 : t ≤ 900000000000000) (hn : n ≤ 65536) :
    ∃ b t' s', spec_l1Cur_one.f code t s n = some (b, t', s') ∧ t ≤ t' ∧ t' ≤ t + 2 := by
  unfold spec_l1Cur_one.f
  obtain ⟨r, t', s', e, _, _, c, d⟩ := pick_ok hc t s n h0 h1 hn
  simp only [e, Option.bind_some]
  exact ⟨_, _, _, rfl, c, d⟩
theorem rInts_l0 (l : List Int) (hl : l.length ≤ 1000000) (d : Nat) : ∀ i : Nat, i + d = l.length → Ev (fun k => laws_rInts.l0 k l l (i : Int)) true := by
  induction d with
  | zero =>
    intro i hi
    refine ev_succ ?_
    simp only [laws_rInts.l0]
    exact ev_neg (by omega) (ev_some _)
  | succ d ih =>
    intro i hi
    have z := ih (i + 1) (by omega)
    refine ev_succ ?_
    simp only [laws_rInts.l0]
    rw [show wrap64 ((i : Int) + 1) = ((i + 1 : Nat) : Int) by rw [wid (by omega) (by omega)]; omega]
    exact ev_pos (by omega) (ev_pos (by omega) (ev_pos (by omega) (ev_pos trivial z)))
theorem rInts_ev (l : List Int) (hl : l.length ≤ 1000000) : Ev (fun k => laws_rInts.f k l l) true := by
  unfold laws_rInts.f
  exact ev_pos rfl (rInts_l0 l hl l.length 0 (by omega))

/-! The draws. -/
theorem cycle_ok {code : List Int} (hc : CodeOk code) (t s : Int) (h0 : 0 ≤ t) (h1 : t ≤ 800000000000000) :
    ∃ x t' s', spec_l1Cur_cycle.f code t s = some (x, t', s') ∧ t ≤ t' ∧ t' ≤ t + 4 := by
  unfold spec_l1Cur_cycle.f
  obtain ⟨o, t1, s1, e1, a1, b1⟩ := one_ok hc t s 24 (by omega) (by omega) (by omega)
  obtain ⟨x, t2, s2, e2, _, a2, b2⟩ := among_ok hc t1 s1 [0, 64, 65, -1] (by omega) (by omega) (by decide) (by decide)
  obtain ⟨y, t3, s3, e3, _, a3, b3⟩ := among_ok hc t1 s1 [1, 2, 3, 4, 5, 6, 8, 12, 16, 30] (by omega) (by omega) (by decide) (by decide)
  simp only [e1, Option.bind_some]
  by_cases ho : o = true
  · rw [if_pos ho, e2]
    exact ⟨x, t2, s2, rfl, by omega, by omega⟩
  · rw [if_neg ho, e3]
    exact ⟨y, t3, s3, rfl, by omega, by omega⟩
theorem cycles_l0 {code : List Int} (hc : CodeOk code) (p : Bool) (n : Nat) : ∀ (xs : List Int) (t s : Int), xs.length + n ≤ 6 → 0 ≤ t → t + 40 * n ≤ 700000000000000 →
    ∃ r t' s', Ev (fun k => spec_l1Cur_cycles.l0 k xs p (n : Int) code t s) (r, t', s') ∧ r.length ≤ 6 ∧ t ≤ t' ∧ t' ≤ t + 40 * n := by
  induction n with
  | zero =>
    intro xs t s h1 h2 h3
    refine ⟨xs, t, s, ev_succ ?_, by omega, by omega, by omega⟩
    simp only [spec_l1Cur_cycles.l0]
    exact ev_neg (by omega) (ev_some _)
  | succ n ih =>
    intro xs t s h1 h2 h3
    obtain ⟨x, t1, s1, e1, a1, b1⟩ := cycle_ok hc t s (by omega) (by omega)
    obtain ⟨y, t2, s2, e2, _, a2, b2⟩ := among_ok hc t1 s1 [2, 4, 4, 8, 8, 16, 64, 1] (by omega) (by omega) (by decide) (by decide)
    have hw : wrap64 (((n + 1 : Nat) : Int) - 1) = (n : Int) := by rw [wid (by omega) (by omega)]; omega
    obtain ⟨r1, u1, v1, w1, l1, g1, k1⟩ := ih (xs ++ [y]) t2 s2 (by simp; omega) (by omega) (by omega)
    obtain ⟨r2, u2, v2, w2, l2, g2, k2⟩ := ih (xs ++ [x]) t1 s1 (by simp; omega) (by omega) (by omega)
    by_cases hp : p = true
    · refine ⟨r1, u1, v1, ev_succ ?_, l1, by omega, by omega⟩
      simp only [spec_l1Cur_cycles.l0]
      rw [hw]
      exact ev_pos (by omega) (ev_bind (ev_of_eq fun _ => e1) (ev_pos hp (ev_bind (ev_of_eq fun _ => e2) (ev_pos (by omega) w1))))
    · refine ⟨r2, u2, v2, ev_succ ?_, l2, by omega, by omega⟩
      simp only [spec_l1Cur_cycles.l0]
      rw [hw]
      exact ev_pos (by omega) (ev_bind (ev_of_eq fun _ => e1) (ev_neg hp (ev_pos (by omega) w2)))
theorem cycles_ok {code : List Int} (hc : CodeOk code) (t s : Int) (h0 : 0 ≤ t) (h1 : t ≤ 600000000000000) :
    ∃ r t' s', Ev (fun k => spec_l1Cur_cycles.f k code t s) (r, t', s') ∧ r.length ≤ 6 ∧ t ≤ t' ∧ t' ≤ t + 300 := by
  obtain ⟨o, t0, s0, e0, a0, b0⟩ := one_ok hc t s 2 (by omega) (by omega) (by omega)
  obtain ⟨n, t1, s1, e1, m1, a1, b1⟩ := among_ok hc t0 s0 [3, 2, 4, 5, 3, 1, 0, 6] (by omega) (by omega) (by decide) (by decide)
  have hn : 0 ≤ n ∧ n ≤ 6 := by simp at m1; omega
  obtain ⟨r, t2, s2, e2, l2, a2, b2⟩ := cycles_l0 hc o n.toNat [] t1 s1 (by simp; omega) (by omega) (by omega)
  rw [Int.toNat_of_nonneg hn.1] at e2
  refine ⟨r, t2, s2, ?_, l2, by omega, by omega⟩
  unfold spec_l1Cur_cycles.f
  exact ev_bind (ev_of_eq fun _ => e0) (ev_bind (ev_of_eq fun _ => e1) e2)
theorem table_j2 {code : List Int} (hc : CodeOk code) (xs ys : List Int) (hx : xs.length ≤ 6) (hl : ys.length = xs.length) (t s : Int) (h0 : 0 ≤ t) (h1 : t ≤ 700000000000000) :
    ∃ zs t' s', Ev (fun k => spec_l1Cur_table.j2 k xs ys code t s) (xs, zs, t', s') ∧ zs.length ≤ 7 ∧ t ≤ t' ∧ t' ≤ t + 4 := by
  obtain ⟨p, t1, s1, e1, _, _, a1, b1⟩ := pick_ok hc t s 24 (by omega) (by omega) (by omega)
  obtain ⟨q, t2, s2, e2, _, a2, b2⟩ := among_ok hc t1 s1 [-1, rd xs 0, 0] (by omega) (by omega) (by simp) (by simp)
  by_cases c0 : p = 0
  · refine ⟨ys ++ [0], t1, s1, ev_succ ?_, by simp; omega, by omega, by omega⟩
    simp only [spec_l1Cur_table.j2]
    exact ev_bind (ev_of_eq fun _ => e1) (ev_pos c0 (ev_pos (by omega) (ev_some _)))
  by_cases c1 : p = 1
  · by_cases c2 : (ys.length : Int) > 0
    · refine ⟨ys.set (0 : Int).toNat q, t2, s2, ev_succ ?_, by simp; omega, by omega, by omega⟩
      simp only [spec_l1Cur_table.j2]
      exact ev_bind (ev_of_eq fun _ => e1) (ev_neg c0 (ev_pos c1 (ev_pos c2 (ev_pos (by omega) (ev_bind (ev_of_eq fun _ => e2) (ev_pos c2 (ev_some _)))))))
    · refine ⟨ys, t1, s1, ev_succ ?_, by omega, by omega, by omega⟩
      simp only [spec_l1Cur_table.j2]
      exact ev_bind (ev_of_eq fun _ => e1) (ev_neg c0 (ev_pos c1 (ev_neg c2 (ev_some _))))
  · refine ⟨ys, t1, s1, ev_succ ?_, by omega, by omega, by omega⟩
    simp only [spec_l1Cur_table.j2]
    exact ev_bind (ev_of_eq fun _ => e1) (ev_neg c0 (ev_neg c1 (ev_some _)))
theorem table_l0 {code : List Int} (hc : CodeOk code) (xs : List Int) (hx : xs.length ≤ 6) (d : Nat) : ∀ (i : Nat) (ys : List Int) (t s : Int), i + d = xs.length → ys.length = i → 0 ≤ t → t + 2 * d ≤ 700000000000000 →
    ∃ zs t' s', Ev (fun k => spec_l1Cur_table.l0 k xs ys (i : Int) code t s) (xs, zs, t', s') ∧ zs.length ≤ 7 ∧ t ≤ t' ∧ t' ≤ t + 2 * d + 4 := by
  induction d with
  | zero =>
    intro i ys t s hi hl h0 h1
    obtain ⟨zs, t', s', e, l, a, b⟩ := table_j2 hc xs ys hx (by omega) t s h0 (by omega)
    refine ⟨zs, t', s', ev_succ ?_, l, a, by omega⟩
    simp only [spec_l1Cur_table.l0]
    exact ev_neg (by omega) e
  | succ d ih =>
    intro i ys t s hi hl h0 h1
    obtain ⟨m, em⟩ : ∃ m, spec_l1Least.f (rd xs (i : Int)) 64 = some m ∧ m ≤ 64 := by
      unfold spec_l1Least.f
      by_cases h : rd xs (i : Int) < 64
      · rw [if_pos h]; exact ⟨_, rfl, by omega⟩
      · rw [if_neg h]; exact ⟨_, rfl, by omega⟩
    obtain ⟨n, en⟩ : ∃ n, spec_l1Most.f m 1 = some n ∧ n ≤ 64 := by
      unfold spec_l1Most.f
      by_cases h : m > 1
      · rw [if_pos h]; exact ⟨_, rfl, by omega⟩
      · rw [if_neg h]; exact ⟨_, rfl, by omega⟩
    obtain ⟨p, t1, s1, e1, _, _, a1, b1⟩ := pick_ok hc t s n (by omega) (by omega) (by omega)
    obtain ⟨zs, t', s', e, l, a, b⟩ := ih (i + 1) (ys ++ [p]) t1 s1 (by omega) (by simp; omega) (by omega) (by omega)
    refine ⟨zs, t', s', ev_succ ?_, l, by omega, by omega⟩
    simp only [spec_l1Cur_table.l0]
    rw [show wrap64 ((i : Int) + 1) = ((i + 1 : Nat) : Int) by rw [wid (by omega) (by omega)]; omega]
    exact ev_pos (by omega) (ev_pos (by omega) (ev_bind (ev_of_eq fun _ => em.1) (ev_bind (ev_of_eq fun _ => en.1) (ev_bind (ev_of_eq fun _ => e1) (ev_pos (by omega) e)))))
theorem found_length {cy : List Int} (h : (ansFO cy).2 = true) : (ansFO cy).1.length = cy.length := by
  unfold ansFO at h ⊢
  by_cases c : CycOk cy
  · rw [if_pos c] at h ⊢
    cases e : seek cy cy.length [] with
    | none => rw [e] at h; cases h
    | some r => exact (seek_some cy r _ _ (by simp) e).1
  · rw [if_neg c] at h
    cases h
theorem table_ok {code : List Int} (hc : CodeOk code) (t s : Int) (h0 : 0 ≤ t) (h1 : t ≤ 500000000000000) :
    ∃ xs zs t' s', Ev (fun k => spec_l1Cur_table.f k code t s) (xs, zs, t', s') ∧ xs.length ≤ 6 ∧ zs.length ≤ 7 ∧ t ≤ t' ∧ t' ≤ t + 400 := by
  obtain ⟨xs, t1, s1, e1, l1, a1, b1⟩ := cycles_ok hc t s h0 (by omega)
  have hf := specFO_ev xs (by omega)
  have hfl := found_length (cy := xs)
  generalize ansFO xs = r at hf hfl
  obtain ⟨f, ok⟩ := r
  simp only at hfl
  obtain ⟨o, t2, s2, e2, a2, b2⟩ := one_ok hc t1 s1 2 (by omega) (by omega) (by omega)
  obtain ⟨z1, t3, s3, e3, l3, a3, b3⟩ := table_l0 hc xs l1 xs.length 0 [] t1 s1 (by omega) rfl (by omega) (by omega)
  obtain ⟨z2, t4, s4, e4, l4, a4, b4⟩ := table_l0 hc xs l1 xs.length 0 [] t2 s2 (by omega) rfl (by omega) (by omega)
  by_cases hok : ok = true
  · obtain ⟨z3, t5, s5, e5, l5, a5, b5⟩ := table_j2 hc xs f l1 (hfl hok) t2 s2 (by omega) (by omega)
    by_cases ho : o = true
    · refine ⟨xs, z3, t5, s5, ?_, l1, l5, by omega, by omega⟩
      unfold spec_l1Cur_table.f
      refine ev_bind e1 (ev_bind (ev_some _) (ev_bind hf (ev_pos hok (ev_bind (ev_of_eq fun _ => e2) (ev_succ ?_)))))
      simp only [spec_l1Cur_table.j0]
      exact ev_pos ho e5
    · refine ⟨xs, z2, t4, s4, ?_, l1, l4, by omega, by omega⟩
      unfold spec_l1Cur_table.f
      refine ev_bind e1 (ev_bind (ev_some _) (ev_bind hf (ev_pos hok (ev_bind (ev_of_eq fun _ => e2) (ev_succ ?_)))))
      simp only [spec_l1Cur_table.j0]
      exact ev_neg ho e4
  · refine ⟨xs, z1, t3, s3, ?_, l1, l3, by omega, by omega⟩
    unfold spec_l1Cur_table.f
    refine ev_bind e1 (ev_bind (ev_some _) (ev_bind hf (ev_neg hok (ev_succ ?_))))
    simp only [spec_l1Cur_table.j0]
    exact ev_neg (by simp) e3
theorem drawIF_ok {code : List Int} (hc : CodeOk code) : ∃ xs ys, Ev (fun k => spec_DrawIsFree.f k code) (xs, ys) ∧ xs.length ≤ 6 ∧ ys.length ≤ 7 := by
  obtain ⟨xs, ys, t1, s1, e1, l1, l2, _, _⟩ := table_ok hc 0 0 (by omega) (by omega)
  refine ⟨xs, ys, ?_, l1, l2⟩
  unfold spec_DrawIsFree.f spec_newCur.f
  exact ev_bind (ev_some _) (ev_bind e1 (ev_some _))
theorem drawFO_ok {code : List Int} (hc : CodeOk code) : ∃ xs, Ev (fun k => spec_DrawFindOffsets.f k code) xs ∧ xs.length ≤ 6 := by
  obtain ⟨xs, t1, s1, e1, l1, _, _⟩ := cycles_ok hc 0 0 (by omega) (by omega)
  refine ⟨xs, ?_, l1⟩
  unfold spec_DrawFindOffsets.f spec_DrawShareOf.f spec_newCur.f
  exact ev_bind (ev_bind (ev_some _) (ev_bind e1 (ev_some _))) (ev_some _)
theorem drawVO_ok {code : List Int} (hc : CodeOk code) : ∃ xs ys d, Ev (fun k => spec_DrawVisitsOn.f k code) (xs, ys, d) ∧ xs.length ≤ 6 ∧ ys.length ≤ 7 := by
  obtain ⟨xs, ys, t1, s1, e1, l1, l2, a1, b1⟩ := table_ok hc 0 0 (by omega) (by omega)
  obtain ⟨d, t2, s2, e2, _, _, _⟩ := among_ok hc t1 s1 [0, 1, 2, 3, 7, 12, 100, 1000000, 1000001, -1] (by omega) (by omega) (by decide) (by decide)
  refine ⟨xs, ys, d, ?_, l1, l2⟩
  unfold spec_DrawVisitsOn.f spec_newCur.f
  exact ev_bind (ev_some _) (ev_bind e1 (ev_bind (ev_of_eq fun _ => e2) (ev_some _)))
theorem drawDB_ok {code : List Int} (hc : CodeOk code) : ∃ xs ys d, Ev (fun k => spec_DrawDaysBusy.f k code) (xs, ys, d) ∧ xs.length ≤ 6 ∧ ys.length ≤ 7 := by
  obtain ⟨xs, ys, t1, s1, e1, l1, l2, a1, b1⟩ := table_ok hc 0 0 (by omega) (by omega)
  obtain ⟨d, t2, s2, e2, _, _, _⟩ := among_ok hc t1 s1 [0, 1, 10, 64, 100, 1000, 1001, -1] (by omega) (by omega) (by decide) (by decide)
  refine ⟨xs, ys, d, ?_, l1, l2⟩
  unfold spec_DrawDaysBusy.f spec_newCur.f
  exact ev_bind (ev_some _) (ev_bind e1 (ev_bind (ev_of_eq fun _ => e2) (ev_some _)))

/-! A free timetable has no day with two visits. -/
theorem vis_none (cy off : List Int) (day : Int) (d : Nat) : ∀ (i : Nat) (acc : List Int), (∀ j : Nat, i ≤ j → j < i + d → Int.tmod day (rd cy (j : Int)) ≠ rd off (j : Int)) → vis cy off day d i acc = acc := by
  induction d with
  | zero => intro i acc _; rfl
  | succ d ih =>
    intro i acc h
    unfold vis
    rw [if_neg (h i (Nat.le_refl i) (by omega))]
    exact ih (i + 1) acc fun j h1 h2 => h j (by omega) (by omega)
theorem vis_one (cy off : List Int) (day : Int) (d : Nat) : ∀ (i : Nat) (acc : List Int), (∀ j j' : Nat, i ≤ j → j < j' → j' < i + d → ¬ (Int.tmod day (rd cy (j : Int)) = rd off (j : Int) ∧ Int.tmod day (rd cy (j' : Int)) = rd off (j' : Int))) → (vis cy off day d i acc).length ≤ acc.length + 1 := by
  induction d with
  | zero => intro i acc _; exact Nat.le_succ _
  | succ d ih =>
    intro i acc h
    unfold vis
    by_cases c : Int.tmod day (rd cy (i : Int)) = rd off (i : Int)
    · rw [if_pos c, vis_none cy off day d (i + 1) _ fun j h1 h2 e => h i j (Nat.le_refl i) (by omega) (by omega) ⟨c, e⟩]
      simp
    · rw [if_neg c]
      exact ih (i + 1) acc fun j j' h1 h2 h3 => h j j' (by omega) h2 (by omega)
theorem free_one {cy off : List Int} (t : TabOk cy off) (f : Free cy off) (day : Nat) : (vis cy off (day : Int) cy.length 0 []).length ≤ 1 := by
  refine vis_one cy off (day : Int) cy.length 0 [] fun j j' _ h2 h3 hh => ?_
  have a := tab_at t j (by omega)
  have b := tab_at t j' (by omega)
  have e1 : day % (rd cy (j : Int)).toNat = (rd off (j : Int)).toNat := by
    have h := hh.1
    rw [Int.tmod_eq_emod_of_nonneg (by omega)] at h
    have h4 : ((day % (rd cy (j : Int)).toNat : Nat) : Int) = (day : Int) % rd cy (j : Int) := by rw [Int.natCast_emod, Int.toNat_of_nonneg (by omega)]
    omega
  have e2 : day % (rd cy (j' : Int)).toNat = (rd off (j' : Int)).toNat := by
    have h := hh.2
    rw [Int.tmod_eq_emod_of_nonneg (by omega)] at h
    have h4 : ((day % (rd cy (j' : Int)).toNat : Nat) : Int) = (day : Int) % rd cy (j' : Int) := by rw [Int.natCast_emod, Int.toNat_of_nonneg (by omega)]
    omega
  exact f j' (by omega) j h2 (same_day j' j day (by omega) (by omega) e2 e1)
theorem law_l1 {cy off : List Int} (t : TabOk cy off) (d : Nat) : ∀ (i : Nat) (c : Int), i + d = 200 → 0 ≤ c → c ≤ i → busy cy off d i c = busy cy off 200 0 0 → Ev (fun k => laws_FnTimetables.l1 k cy off (decide (Free cy off)) c (i : Int)) true := by
  have h5 := t.1.1
  have he := t.2.1
  induction d with
  | zero =>
    intro i c hi h0 h1 hb
    have e : ansDB cy off 200 = (busy cy off 200 0 0, true) := if_pos ⟨t, by decide, by decide⟩
    have hd := implDB_ev cy off 200 (by omega) (by omega)
    rw [e] at hd
    refine ev_succ ?_
    simp only [laws_FnTimetables.l1]
    refine ev_neg (by omega) (ev_bind hd (ev_pos rfl (ev_cast (ev_some _) ?_)))
    rw [← hb]
    simp [busy]
  | succ d ih =>
    intro i c hi h0 h1 hb
    have e : ansVO cy off (i : Int) = (vis cy off (i : Int) cy.length 0 [], true) := if_pos ⟨t, by omega, by omega⟩
    have hv := implVO_ev cy off (i : Int) (by omega) (by omega)
    rw [e] at hv
    have hw : wrap64 ((i : Int) + 1) = ((i + 1 : Nat) : Int) := by rw [wid (by omega) (by omega)]; omega
    have hw2 : wrap64 (c + 1) = c + 1 := wid (by omega) (by omega)
    have j4 : Ev (fun k => laws_FnTimetables.j4 k cy off (decide (Free cy off)) c (i : Int) (vis cy off (i : Int) cy.length 0 []) false) true := by
      unfold busy at hb
      refine ev_succ ?_
      simp only [laws_FnTimetables.j4]
      rw [hw, hw2]
      refine ev_neg (by decide) ?_
      by_cases h : ((vis cy off (i : Int) cy.length 0 []).length : Int) > 0
      · rw [if_pos h] at hb
        exact ev_pos h (ih (i + 1) (c + 1) (by omega) (by omega) (by omega) hb)
      · rw [if_neg h] at hb
        exact ev_neg h (ih (i + 1) c (by omega) (by omega) (by omega) hb)
    refine ev_succ ?_
    simp only [laws_FnTimetables.l1]
    refine ev_pos (by omega) (ev_bind hv (ev_pos rfl ?_))
    by_cases f : Free cy off
    · refine ev_pos (by simpa using f) ?_
      have h := free_one t f i
      rw [show decide (((vis cy off (i : Int) cy.length 0 []).length : Int) > 1) = false from decide_eq_false (by omega)]
      exact j4
    · exact ev_neg (by simpa using f) j4
theorem law_j2 {code : List Int} (hc : CodeOk code) (cy off : List Int) (h0 : cy.length ≤ 6) (h1 : off.length ≤ 7) : Ev (fun k => laws_FnTimetables.j2 k code cy off (ans cy off).1 (ans cy off).2 false) true := by
  obtain ⟨x1, y1, d1, e1, l1, m1⟩ := drawVO_ok hc
  obtain ⟨x2, y2, d2, e2, l2, m2⟩ := drawDB_ok hc
  have hr := rInts_ev (ansVO x1 y1 d1).1 (by have := ansVO_length x1 y1 d1; omega)
  refine ev_succ ?_
  simp only [laws_FnTimetables.j2]
  refine ev_neg (by decide) (ev_bind e1 (ev_bind (implVO_ev x1 y1 d1 (by omega) (by omega)) (ev_bind (specVO_ev x1 y1 d1 (by omega) (by omega)) (ev_neg (by simp) (ev_bind hr (ev_pos rfl (ev_bind e2 (ev_bind (implDB_ev x2 y2 d2 (by omega) (by omega)) (ev_bind (specDB_ev x2 y2 d2 (by omega) (by omega)) (ev_pos rfl (ev_neg (by simp) ?_)))))))))))
  by_cases t : TabOk cy off
  · have e : ans cy off = (decide (Free cy off), true) := if_pos t
    rw [e]
    exact ev_pos rfl (law_l1 t 200 0 0 (by omega) (by omega) (by omega) rfl)
  · have e : ans cy off = (false, false) := if_neg t
    rw [e]
    exact ev_neg (by simp) (ev_some _)
theorem pow2_bits {c : Int} (h0 : 1 ≤ c) (h1 : c ≤ 64) (h : (Go.bits .and .i64 c (c - 1) == 0) = true) : Pow2 c.toNat := by
  have key : ∀ n : Fin 64, (Go.bits .and .i64 ((n.val : Int) + 1) (n.val : Int) == 0) = true → (n.val + 1) ∈ [1, 2, 4, 8, 16, 32, 64] := by decide
  have h2 := key ⟨(c - 1).toNat, by omega⟩ (by
    show (Go.bits .and .i64 (((c - 1).toNat : Int) + 1) ((c - 1).toNat : Int) == 0) = true
    rw [Int.toNat_of_nonneg (by omega), Int.sub_add_cancel]
    exact h)
  have e : c.toNat = (c - 1).toNat + 1 := by omega
  rw [e]
  exact h2
theorem law_l0 {code : List Int} (hc : CodeOk code) (cy off : List Int) (h0 : cy.length ≤ 6) (h1 : off.length ≤ 7) (list : List Int) (hl : list.length ≤ 6) (one : Bool) (a b : Int) (hK : CycOk list → (∀ j : Nat, j < list.length → Pow2 (rd list (j : Int)).toNat) → one = decide (a ≤ b)) (d : Nat) :
    ∀ (i : Nat) (p : Bool), i + d = list.length → (p = true → CycOk list ∧ ∀ j : Nat, j < i → Pow2 (rd list (j : Int)).toNat) → Ev (fun k => laws_FnTimetables.l0 k code cy off (ans cy off).1 (ans cy off).2 list one p (i : Int) a b) true := by
  induction d with
  | zero =>
    intro i p hi hp
    refine ev_succ ?_
    simp only [laws_FnTimetables.l0]
    refine ev_neg (by omega) ?_
    by_cases h : p = true
    · obtain ⟨q1, q2⟩ := hp h
      rw [hK q1 fun j hj => q2 j (by omega)]
      refine ev_pos h ?_
      rw [show (decide (a ≤ b) != decide (a ≤ b)) = false by simp]
      exact law_j2 hc cy off h0 h1
    · exact ev_neg h (law_j2 hc cy off h0 h1)
  | succ d ih =>
    intro i p hi hp
    have hw : wrap64 ((i : Int) + 1) = ((i + 1 : Nat) : Int) := by rw [wid (by omega) (by omega)]; omega
    refine ev_succ ?_
    simp only [laws_FnTimetables.l0]
    rw [hw]
    refine ev_pos (by omega) ?_
    by_cases h : p = true
    · obtain ⟨q1, q2⟩ := hp h
      have ci := cyc_at q1 i (by omega)
      refine ev_pos h (ev_pos (by omega) (ih (i + 1) _ (by omega) fun hb => ⟨q1, fun j hj => ?_⟩))
      rw [wid (x := rd list (i : Int) - 1) (by omega) (by omega)] at hb
      by_cases e : j = i
      · rw [e]; exact pow2_bits ci.1 ci.2 hb
      · exact q2 j (by omega)
    · exact ev_neg h (ih (i + 1) false (by omega) fun hb => by cases hb)
theorem FnTimetables (l0 : List Int) (hl0 : l0.length ≤ maxLen) (hw0 : ∀ x ∈ l0, (Lit.int .u8 x).wf = true) : ∃ k, laws_FnTimetables.f k l0 = some true := by
  refine Ev.rounds ?_
  unfold laws_FnTimetables.f
  obtain ⟨v, hv⟩ : ∃ v, laws_rBig.f l0 = some v := by unfold laws_rBig.f; exact ⟨_, rfl⟩
  simp only [hv, Option.bind_some]
  by_cases big : v = true
  · exact ev_pos big (ev_some _)
  refine ev_neg big ?_
  have hc := codeOk_of hw0
  obtain ⟨cy, off, d1, a1, b1⟩ := drawIF_ok hc
  obtain ⟨list, d2, a2⟩ := drawFO_ok hc
  have hr := rInts_ev (ansFO list).1 (by have := ansFO_length list; omega)
  refine ev_bind d1 (ev_bind (implFree_ev cy off (by omega) (by omega)) (ev_bind (specFree_ev cy off (by omega) (by omega)) (ev_neg (by simp) (ev_neg (by simp) (ev_bind d2 (ev_bind (implFO_ev list (by omega)) (ev_bind (specFO_ev list (by omega)) (ev_neg (by simp) (ev_bind hr (ev_pos rfl (ev_bind (implShareOf_ev list (by omega)) (ev_bind (specShareOf_ev list (by omega)) (ev_neg (by simp) (ev_neg (by simp) ?_))))))))))))))
  have hK : CycOk list → (∀ j : Nat, j < list.length → Pow2 (rd list (j : Int)).toNat) → (ansFO list).2 = decide ((shareA list).1 ≤ (shareA list).2.1) := by
    intro hC hP
    have e1 : ansFO list = resF (seek list list.length []) := if_pos hC
    have e2 : shareA list = ((shareOf list).1, (shareOf list).2, true) := if_pos hC
    rw [e1, e2]
    simp only
    cases e : seek list list.length [] with
    | some r =>
      have := share_le hC (seek_some list r _ _ (by simp) e)
      simp [resF, this]
    | none =>
      have hno := seek_none list _ _ (by simp) e
      have : ¬ (shareOf list).1 ≤ (shareOf list).2 := fun h => by
        obtain ⟨r, hr⟩ := powers_ext hC hP h
        exact hno r hr
      simp [resF, this]
  have hj0 : Ev (fun k => laws_FnTimetables.j0 k l0 cy off (ans cy off).1 (ans cy off).2 list (ansFO list).2 (shareA list).2.2 (shareA list).1 (shareA list).2.1) true := by
    refine ev_succ ?_
    simp only [laws_FnTimetables.j0]
    refine law_l0 hc cy off a1 b1 list a2 _ _ _ hK list.length 0 _ (by omega) fun h => ?_
    by_cases hC : CycOk list
    · exact ⟨hC, fun j hj => by omega⟩
    · have e2 : shareA list = (0, 0, false) := if_neg hC
      rw [e2] at h
      cases h
  by_cases ok : (ansFO list).2 = true
  · refine ev_pos ok ?_
    have hC : CycOk list := by
      by_cases hC : CycOk list
      · exact hC
      · have e1 : ansFO list = ([], false) := if_neg hC
        rw [e1] at ok
        cases ok
    have e1 : ansFO list = resF (seek list list.length []) := if_pos hC
    have e2 : shareA list = ((shareOf list).1, (shareOf list).2, true) := if_pos hC
    cases e : seek list list.length [] with
    | none => rw [e1, e] at ok; cases ok
    | some r =>
      have hx := seek_some list r _ _ (by simp) e
      have hT : TabOk list r := ⟨hC, hx.1, fun i hi => by
        have h1 := hx.2.2 i (Nat.zero_le i) (by have := hx.1; omega)
        have h2 := cyc_at hC i (by have := hx.1; omega)
        rw [wid (by omega) (by omega)]
        omega⟩
      have hF : Free list r := fun i hi j hj => (hx.2.2 i (Nat.zero_le i) hi).2.2 j hj
      have hf := implFree_ev list r (by omega) (by have := hx.1; omega)
      rw [show ans list r = (decide (Free list r), true) from if_pos hT, decide_eq_true hF] at hf
      have e3 : (ansFO list).1 = r := by rw [e1, e]; rfl
      rw [e3]
      refine ev_bind hf (ev_pos rfl (ev_pos rfl (ev_neg ?_ hj0)))
      have := share_le hC hx
      rw [e2]
      simp only
      omega
  · exact ev_neg ok hj0

end Go.Proofs.Ytikmlhpllgikpaa.Pure
