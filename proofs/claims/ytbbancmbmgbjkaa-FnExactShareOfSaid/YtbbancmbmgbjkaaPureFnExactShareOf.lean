/- The program's ShareOf and the reference's add the same quotients; the reference divides by the common divisor of the lower parts first, which changes nothing in lowest terms. No conditions. -/
import Derived.Test.YtbbancmbmgbjkaaKit
import Derived.Test.YtbbancmbmgbjkaaXFnExactShareOfx3
namespace Go.Proofs.Ytbbancmbmgbjkaa.Pure
set_option linter.unusedVariables false
open Go.RowKit Go.Proofs.Ytbbancmbmgbjkaa.PFnExactShareOf Go.Proofs.YtbbancmbmgbjkaaW.PrintWords Go.Proofs.YtbbancmbmgbjkaaW.PrintLast Go.Proofs.Ytbbancmbmgbjkaa.Kit

theorem in_eq (a b c : Int) : spec_l1In.f a b c = some (decide (b ≤ a ∧ a ≤ c)) := by
  unfold spec_l1In.f
  by_cases h : b ≤ a <;> simp [h]
theorem within_eq (a b c : Int) : impl_within.f a b c = some (decide (b ≤ a ∧ a ≤ c)) := by
  unfold impl_within.f
  by_cases h : b ≤ a <;> simp [h]
theorem toIntS_l0 (xs : List Int) (hn : xs.length ≤ 35184372088832) (d : Nat) : ∀ (i : Nat) (ys : List Int), i + d = xs.length → ys.length = xs.length → ys.take i = xs.take i →
    Ev (fun k => laws_toIntS.l0 k xs ys (i : Int)) xs := by
  induction d with
  | zero =>
    intro i ys hi hl ht
    refine ev_succ ?_
    simp only [laws_toIntS.l0]
    refine ev_neg (by omega) ?_
    rw [List.take_of_length_le (by omega), List.take_of_length_le (by omega)] at ht
    rw [ht]
    exact ev_some _
  | succ d ih =>
    intro i ys hi hl ht
    refine ev_succ ?_
    simp only [laws_toIntS.l0]
    refine ev_pos (by omega) (ev_pos (by omega) (ev_pos (by omega) ?_))
    have hw : wrap64 ((i : Int) + 1) = ((i + 1 : Nat) : Int) := by rw [wid (by omega) (by omega)]; omega
    rw [hw]
    refine ih (i + 1) _ (by omega) (by simpa using hl) ?_
    rw [rd_nat xs i (by omega), Int.toNat_natCast, List.take_succ_eq_append_getElem (by simp; omega), List.take_succ_eq_append_getElem (by omega), List.getElem_set_self, List.take_set_of_le (by omega), ht]
theorem toIntS_ev (xs : List Int) (hn : xs.length ≤ 35184372088832) : Ev (fun k => laws_toIntS.f k xs) xs := by
  unfold laws_toIntS.f
  refine ev_pos (by omega) (ev_pos (by omega) ?_)
  exact toIntS_l0 xs hn xs.length 0 _ (by omega) (by simp) rfl
theorem eqIntS_l0 (xs ys : List Int) (hn : xs.length ≤ 35184372088832) (hl : ys.length = xs.length) (d : Nat) : ∀ (i : Nat), i + d = xs.length →
    Ev (fun k => laws_eqIntS.l0 k xs ys (i : Int)) (decide (xs.drop i = ys.drop i)) := by
  induction d with
  | zero =>
    intro i hi
    refine ev_succ ?_
    simp only [laws_eqIntS.l0]
    refine ev_neg (by omega) ?_
    rw [List.drop_of_length_le (by omega), List.drop_of_length_le (by omega)]
    exact ev_some _
  | succ d ih =>
    intro i hi
    refine ev_succ ?_
    simp only [laws_eqIntS.l0]
    refine ev_pos (by omega) (ev_pos (by omega) (ev_pos (by omega) ?_))
    have hw : wrap64 ((i : Int) + 1) = ((i + 1 : Nat) : Int) := by rw [wid (by omega) (by omega)]; omega
    rw [hw, drop_rd xs i (by omega), drop_rd ys i (by omega)]
    by_cases h : rd xs i = rd ys i
    · refine ev_pos h (ev_cast (ih (i + 1) (by omega)) ?_)
      simp [h]
    · refine ev_neg h (ev_cast (ev_some false) ?_)
      simp [h]
theorem eqIntS_ev (xs ys : List Int) (hn : xs.length ≤ 35184372088832) : Ev (fun k => laws_eqIntS.f k xs ys) (decide (xs = ys)) := by
  unfold laws_eqIntS.f
  by_cases h : xs.length = ys.length
  · refine ev_pos (by omega) (ev_cast (eqIntS_l0 xs ys hn h.symm xs.length 0 (by omega)) (by simp))
  · refine ev_neg (by omega) (ev_cast (ev_some false) ?_)
    have : xs ≠ ys := fun e => h (by rw [e])
    simp [this]
theorem allWithin_l0 (lo up : Int) (xs : List Int) (hn : xs.length ≤ 35184372088832) (d : Nat) : ∀ (i : Nat), i + d = xs.length →
    Ev (fun k => impl_allWithin.l0 k lo up xs (xs.length : Int) (i : Int)) (decide (∀ x ∈ xs.drop i, lo ≤ x ∧ x ≤ up)) := by
  induction d with
  | zero =>
    intro i hi
    refine ev_succ ?_
    simp only [impl_allWithin.l0]
    refine ev_neg (by omega) ?_
    rw [List.drop_of_length_le (by omega)]
    exact ev_cast (ev_some true) (by simp)
  | succ d ih =>
    intro i hi
    refine ev_succ ?_
    simp only [impl_allWithin.l0, within_eq, Option.bind_some]
    refine ev_pos (by omega) (ev_pos (by omega) (ev_pos (by omega) ?_))
    have hw : wrap64 ((i : Int) + 1) = ((i + 1 : Nat) : Int) := by rw [wid (by omega) (by omega)]; omega
    rw [hw, drop_rd xs i (by omega)]
    by_cases h : lo ≤ rd xs i ∧ rd xs i ≤ up
    · refine ev_pos (by simpa using h) (ev_cast (ih (i + 1) (by omega)) ?_)
      simp [h]
    · refine ev_neg (by simpa using h) (ev_cast (ev_some false) ?_)
      symm
      simp only [decide_eq_false_iff_not, List.mem_cons]
      exact fun hh => h (hh _ (Or.inl rfl))
theorem allWithin_ev (xs : List Int) (lo hi : Int) (hn : xs.length ≤ 35184372088832) : Ev (fun k => impl_allWithin.f k xs lo hi) (decide (∀ x ∈ xs, lo ≤ x ∧ x ≤ hi)) := by
  unfold impl_allWithin.f
  exact allWithin_l0 lo hi xs hn xs.length 0 (by omega)
/-- What cycles of a timetable are. -/
def CycOk (cy : List Int) : Prop := (cy.length : Int) ≤ 5 ∧ ∀ x ∈ cy, 1 ≤ x ∧ x ≤ 64
instance (cy : List Int) : Decidable (CycOk cy) := by unfold CycOk; infer_instance
theorem areCycles_ev (cy : List Int) (hl : cy.length ≤ 35184372088832) : Ev (fun k => impl_areCycles.f k cy) (decide (CycOk cy)) := by
  unfold impl_areCycles.f CycOk
  exact ev_andp fun _ => ev_bind (allWithin_ev cy 1 64 hl) (ev_some _)
theorem l8Cycles_l0 (xs : List Int) (hn : xs.length ≤ 35184372088832) (d : Nat) : ∀ (i : Nat), i + d = xs.length →
    Ev (fun k => spec_l8Cycles.l0 k xs (i : Int)) (decide ((xs.length : Int) ≤ 5 ∧ ∀ x ∈ xs.drop i, 1 ≤ x ∧ x ≤ 64)) := by
  induction d with
  | zero =>
    intro i hi
    refine ev_succ ?_
    simp only [spec_l8Cycles.l0]
    refine ev_neg (by omega) (ev_dec (ev_some _) ?_)
    rw [List.drop_of_length_le (by omega)]
    simp
  | succ d ih =>
    intro i hi
    refine ev_succ ?_
    simp only [spec_l8Cycles.l0, in_eq, Option.bind_some]
    refine ev_pos (by omega) (ev_pos (by omega) ?_)
    have hw : wrap64 ((i : Int) + 1) = ((i + 1 : Nat) : Int) := by rw [wid (by omega) (by omega)]; omega
    rw [hw, drop_rd xs i (by omega)]
    by_cases h : 1 ≤ rd xs i ∧ rd xs i ≤ 64
    · refine ev_pos (by simpa using h) (ev_cast (ih (i + 1) (by omega)) ?_)
      simp [h]
    · exact ev_neg (by simpa using h) (ev_false fun hh => h (hh.2 _ (by simp)))
theorem l8Cycles_ev (cy : List Int) (hl : cy.length ≤ 35184372088832) : Ev (fun k => spec_l8Cycles.f k cy) (decide (CycOk cy)) := by
  unfold spec_l8Cycles.f CycOk
  exact l8Cycles_l0 cy hl cy.length 0 (by omega)
theorem gcd_l0 (b : Nat) : ∀ a : Nat, Ev (fun k => spec_l8Gcd.l0 k (a : Int) (b : Int)) ((Nat.gcd a b : Nat) : Int) := by
  induction b using Nat.strongRecOn with
  | _ b ih =>
    intro a
    refine ev_succ ?_
    simp only [spec_l8Gcd.l0]
    by_cases h : b = 0
    · subst h
      exact ev_neg (by omega) (ev_cast (ev_some _) (by simp))
    · refine ev_pos (by omega) (ev_neg (by omega) ?_)
      have e : Int.tmod (a : Int) (b : Int) = ((a % b : Nat) : Int) := rfl
      rw [e]
      refine ev_cast (ih (a % b) (Nat.mod_lt _ (by omega)) b) ?_
      rw [Nat.gcd_comm b, ← Nat.gcd_rec, Nat.gcd_comm]
theorem gcd_ev (a b : Int) (ha : 0 ≤ a) (hb : 0 ≤ b) : Ev (fun k => spec_l8Gcd.f k a b) ((Nat.gcd a.toNat b.toNat : Nat) : Int) := by
  unfold spec_l8Gcd.f
  have := gcd_l0 b.toNat a.toNat
  rwa [Int.toNat_of_nonneg ha, Int.toNat_of_nonneg hb] at this
theorem divisor_l0 (b : Nat) : ∀ a : Nat, Ev (fun k => impl_divisor.l0 k (a : Int) (b : Int)) ((Nat.gcd a b : Nat) : Int) := by
  induction b using Nat.strongRecOn with
  | _ b ih =>
    intro a
    refine ev_succ ?_
    simp only [impl_divisor.l0]
    by_cases h : b = 0
    · subst h
      exact ev_pos (by omega) (ev_cast (ev_some _) (by simp))
    · refine ev_neg (by omega) ?_
      have e : Int.tmod (a : Int) (b : Int) = ((a % b : Nat) : Int) := rfl
      rw [e]
      refine ev_cast (ih (a % b) (Nat.mod_lt _ (by omega)) b) ?_
      rw [Nat.gcd_comm b, ← Nat.gcd_rec, Nat.gcd_comm]
theorem divisor_ev (a b : Int) (ha : 0 ≤ a) (hb : 0 ≤ b) : Ev (fun k => impl_divisor.f k a b) ((Nat.gcd a.toNat b.toNat : Nat) : Int) := by
  unfold impl_divisor.f
  have := divisor_l0 b.toNat a.toNat
  rwa [Int.toNat_of_nonneg ha, Int.toNat_of_nonneg hb] at this
/-- A quotient in lowest terms. -/
def fr (n d : Int) : Int × Int := (n / ((Nat.gcd n.toNat d.toNat : Nat) : Int), d / ((Nat.gcd n.toNat d.toNat : Nat) : Int))
theorem gcd_fr_pos {n d : Int} (hd : 0 < d) : 0 < ((Nat.gcd n.toNat d.toNat : Nat) : Int) := by
  have := Nat.gcd_pos_of_pos_right n.toNat (show 0 < d.toNat by omega)
  omega
theorem fr_in {n d : Int} (hn : 0 ≤ n) (hd : 0 < d) : 0 ≤ (fr n d).1 ∧ (fr n d).1 ≤ n ∧ 0 < (fr n d).2 ∧ (fr n d).2 ≤ d := by
  have hg := gcd_fr_pos (n := n) hd
  have hdv : ((Nat.gcd n.toNat d.toNat : Nat) : Int) ∣ d := by
    have h := Nat.gcd_dvd_right n.toNat d.toNat
    have h2 := Int.natCast_dvd_natCast.2 h
    rwa [Int.toNat_of_nonneg (by omega)] at h2
  refine ⟨Int.ediv_nonneg hn (by omega), Int.ediv_le_self _ hn, ?_, Int.ediv_le_self _ (by omega)⟩
  exact Int.ediv_pos_of_pos_of_dvd hd (by omega) hdv
theorem cut_ev (n d : Int) (hn : 0 ≤ n) (hn2 : n ≤ 9223372036854775807) (hd : 0 < d) (hd2 : d ≤ 9223372036854775807) : Ev (fun k => spec_l8Cut.f k n d) (fr n d) := by
  have hg := gcd_fr_pos (n := n) hd
  have h1 := fr_in hn hd
  unfold spec_l8Cut.f
  refine ev_bind (gcd_ev n d hn (by omega)) (ev_neg (by omega) (ev_cast (ev_some _) ?_))
  unfold fr at h1 ⊢
  simp only at h1
  rw [Int.tdiv_eq_ediv_of_nonneg hn, Int.tdiv_eq_ediv_of_nonneg (by omega), wid (by omega) (by omega), wid (by omega) (by omega)]
theorem fraction_ev (n d : Int) (hn : 0 ≤ n) (hn2 : n ≤ 9223372036854775807) (hd : 0 < d) (hd2 : d ≤ 9223372036854775807) : Ev (fun k => impl_fraction.f k n d) (fr n d) := by
  have hg := gcd_fr_pos (n := n) hd
  have h1 := fr_in hn hd
  unfold impl_fraction.f
  refine ev_bind (divisor_ev n d hn (by omega)) (ev_neg (by omega) (ev_cast (ev_some _) ?_))
  unfold fr at h1 ⊢
  simp only at h1
  rw [Int.tdiv_eq_ediv_of_nonneg hn, Int.tdiv_eq_ediv_of_nonneg (by omega), wid (by omega) (by omega), wid (by omega) (by omega)]
/-- The sum of two quotients. -/
def addf (x y : Int × Int) : Int × Int := fr (x.1 * y.2 + y.1 * x.2) (x.2 * y.2)
/-- A quotient of at most B, its lower part at most D. -/
def Fr (B D : Int) (x : Int × Int) : Prop := 0 ≤ x.1 ∧ x.1 ≤ B * x.2 ∧ 0 < x.2 ∧ x.2 ≤ D
theorem fr_fr {n d B D : Int} (hn : 0 ≤ n) (hb : n ≤ B * d) (hd : 0 < d) (hD : d ≤ D) : Fr B D (fr n d) := by
  have h := fr_in hn hd
  have hg := gcd_fr_pos (n := n) hd
  refine ⟨h.1, ?_, h.2.2.1, by omega⟩
  have h1 : ((Nat.gcd n.toNat d.toNat : Nat) : Int) ∣ d := by
    have h := Nat.gcd_dvd_right n.toNat d.toNat
    have h2 := Int.natCast_dvd_natCast.2 h
    rwa [Int.toNat_of_nonneg (by omega)] at h2
  unfold fr
  simp only
  refine Int.ediv_le_of_le_mul hg ?_
  rw [Int.mul_assoc, Int.ediv_mul_cancel h1]
  exact hb
theorem fr_scale (n d m : Int) (hn : 0 ≤ n) (hd : 0 < d) (hm : 0 < m) : fr (n * m) (d * m) = fr n d := by
  obtain ⟨N, rfl⟩ := Int.eq_ofNat_of_zero_le hn
  obtain ⟨M, rfl⟩ := Int.eq_ofNat_of_zero_le (show 0 ≤ m by omega)
  obtain ⟨D, rfl⟩ := Int.eq_ofNat_of_zero_le (show 0 ≤ d by omega)
  have e1 : ((N : Int) * (M : Int)) = ((N * M : Nat) : Int) := by simp
  have e2 : ((D : Int) * (M : Int)) = ((D * M : Nat) : Int) := by simp
  unfold fr
  rw [e1, e2]
  simp only [Int.toNat_natCast]
  rw [Nat.gcd_mul_right, Prod.mk.injEq]
  refine ⟨?_, ?_⟩
  · rw [Int.natCast_mul, Int.natCast_mul, Int.mul_ediv_mul_of_pos_left _ _ hm]
  · rw [Int.natCast_mul, Int.natCast_mul, Int.mul_ediv_mul_of_pos_left _ _ hm]
/-- What is needed of the parts of a sum. -/
theorem addf_parts {B B' D D' : Int} {x y : Int × Int} (hx : Fr B D x) (hy : Fr B' D' y) (hB : 0 ≤ B) (hB' : 0 ≤ B') :
    0 ≤ x.1 * y.2 ∧ 0 ≤ y.1 * x.2 ∧ x.1 * y.2 + y.1 * x.2 ≤ (B + B') * (x.2 * y.2) ∧ 0 < x.2 * y.2 ∧ x.2 * y.2 ≤ D * D' ∧ (B + B') * (x.2 * y.2) ≤ (B + B') * (D * D') := by
  obtain ⟨a1, a2, a3, a4⟩ := hx
  obtain ⟨b1, b2, b3, b4⟩ := hy
  have q0 : 0 < x.2 * y.2 := Int.mul_pos a3 b3
  have q1 : x.2 * y.2 ≤ D * D' := Int.mul_le_mul a4 b4 (by omega) (by omega)
  have n1 : x.1 * y.2 ≤ B * x.2 * y.2 := Int.mul_le_mul_of_nonneg_right a2 (by omega)
  have n2 : y.1 * x.2 ≤ B' * y.2 * x.2 := Int.mul_le_mul_of_nonneg_right b2 (by omega)
  refine ⟨Int.mul_nonneg a1 (by omega), Int.mul_nonneg b1 (by omega), ?_, q0, q1, Int.mul_le_mul_of_nonneg_left q1 (by omega)⟩
  rw [Int.add_mul]
  rw [Int.mul_assoc] at n1 n2
  rw [Int.mul_comm y.2 x.2] at n2
  omega
theorem addf_fr {B B' D D' : Int} {x y : Int × Int} (hx : Fr B D x) (hy : Fr B' D' y) (hB : 0 ≤ B) (hB' : 0 ≤ B') : Fr (B + B') (D * D') (addf x y) := by
  obtain ⟨h1, h2, h3, h4, h5, h6⟩ := addf_parts hx hy hB hB'
  exact fr_fr (by omega) h3 h4 h5
theorem add_ev {B B' D D' : Int} {x y : Int × Int} (hx : Fr B D x) (hy : Fr B' D' y) (hB : 0 ≤ B) (hB' : 0 ≤ B') (hs : (B + B') * (D * D') ≤ 9223372036854775807) (hd : D * D' ≤ 9223372036854775807) :
    Ev (fun k => spec_l8Add.f k x.1 x.2 y.1 y.2) (addf x y) := by
  obtain ⟨h1, h2, h3, h4, h5, h6⟩ := addf_parts hx hy hB hB'
  obtain ⟨p, q⟩ := x
  obtain ⟨u, v⟩ := y
  obtain ⟨a1, a2, a3, a4⟩ := hx
  obtain ⟨b1, b2, b3, b4⟩ := hy
  simp only at *
  have hg : 0 < ((Nat.gcd q.toNat v.toNat : Nat) : Int) := gcd_fr_pos (n := q) b3
  have dq : ((Nat.gcd q.toNat v.toNat : Nat) : Int) ∣ q := by
    have h2 := Int.natCast_dvd_natCast.2 (Nat.gcd_dvd_left q.toNat v.toNat)
    rwa [Int.toNat_of_nonneg (by omega)] at h2
  have dv : ((Nat.gcd q.toNat v.toNat : Nat) : Int) ∣ v := by
    have h2 := Int.natCast_dvd_natCast.2 (Nat.gcd_dvd_right q.toNat v.toNat)
    rwa [Int.toNat_of_nonneg (by omega)] at h2
  unfold spec_l8Add.f addf
  refine ev_bind (gcd_ev q v (by omega) (by omega)) (ev_neg (by omega) ?_)
  generalize ((Nat.gcd q.toNat v.toNat : Nat) : Int) = g at hg dq dv
  obtain ⟨q', rfl⟩ := dq
  obtain ⟨v', rfl⟩ := dv
  have q'0 : 0 < q' := by
    rcases Int.lt_trichotomy q' 0 with h | h | h
    · have := Int.mul_neg_of_pos_of_neg hg h; omega
    · rw [h, Int.mul_zero] at a3; omega
    · exact h
  have v'0 : 0 < v' := by
    rcases Int.lt_trichotomy v' 0 with h | h | h
    · have := Int.mul_neg_of_pos_of_neg hg h; omega
    · rw [h, Int.mul_zero] at b3; omega
    · exact h
  have e1 : Int.tdiv (g * v') g = v' := by rw [Int.tdiv_eq_ediv_of_nonneg (by omega), Int.mul_ediv_cancel_left _ (by omega)]
  have e2 : Int.tdiv (g * q') g = q' := by rw [Int.tdiv_eq_ediv_of_nonneg (by omega), Int.mul_ediv_cancel_left _ (by omega)]
  have k1 : v' ≤ g * v' := by have := Int.mul_le_mul_of_nonneg_right (show 1 ≤ g by omega) (show 0 ≤ v' by omega); omega
  have k2 : q' ≤ g * q' := by have := Int.mul_le_mul_of_nonneg_right (show 1 ≤ g by omega) (show 0 ≤ q' by omega); omega
  have hq : g * q' ≤ 9223372036854775807 := by
    have := Int.mul_le_mul_of_nonneg_left (show 1 ≤ g * v' by omega) (show 0 ≤ g * q' by omega)
    omega
  have hv : g * v' ≤ 9223372036854775807 := by
    have := Int.mul_le_mul_of_nonneg_right (show 1 ≤ g * q' by omega) (show 0 ≤ g * v' by omega)
    omega
  have m1 : 0 ≤ p * v' := Int.mul_nonneg a1 (by omega)
  have m2 : 0 ≤ u * q' := Int.mul_nonneg b1 (by omega)
  have m3 : p * v' ≤ p * (g * v') := Int.mul_le_mul_of_nonneg_left k1 a1
  have m4 : u * q' ≤ u * (g * q') := Int.mul_le_mul_of_nonneg_left k2 b1
  have m5 : q' * (g * v') ≤ g * q' * (g * v') := Int.mul_le_mul_of_nonneg_right k2 (by omega)
  have m6 : 0 < q' * (g * v') := Int.mul_pos q'0 b3
  rw [e1, e2, wid (x := v') (by omega) (by omega), wid (x := q') (by omega) (by omega), wid (x := p * v') (by omega) (by omega), wid (x := u * q') (by omega) (by omega), wid (x := q' * (g * v')) (by omega) (by omega), wid (by omega) (by omega)]
  refine ev_bind (cut_ev _ _ (by omega) (by omega) m6 (by omega)) (ev_cast (ev_some _) ?_)
  show fr (p * v' + u * q') (q' * (g * v')) = fr (p * (g * v') + u * (g * q')) (g * q' * (g * v'))
  rw [← fr_scale (p * v' + u * q') (q' * (g * v')) g (by omega) m6 hg]
  congr 1
  · rw [Int.add_mul, Int.mul_assoc, Int.mul_assoc, Int.mul_comm v' g, Int.mul_comm q' g]
  · rw [Int.mul_comm (q' * (g * v')) g, ← Int.mul_assoc]
theorem plus_ev {B B' D D' : Int} {x y : Int × Int} (hx : Fr B D x) (hy : Fr B' D' y) (hB : 0 ≤ B) (hB' : 0 ≤ B') (hs : (B + B') * (D * D') ≤ 9223372036854775807) (hd : D * D' ≤ 9223372036854775807) :
    Ev (fun k => impl_plus.f k x.1 x.2 y.1 y.2) (addf x y) := by
  obtain ⟨h1, h2, h3, h4, h5, h6⟩ := addf_parts hx hy hB hB'
  unfold impl_plus.f addf
  rw [wid (x := x.1 * y.2) (by omega) (by omega), wid (x := y.1 * x.2) (by omega) (by omega), wid (x := x.2 * y.2) (by omega) (by omega), wid (by omega) (by omega)]
  exact ev_bind (fraction_ev _ _ (by omega) (by omega) h4 (by omega)) (ev_some _)
/-- The sum of 1 by each of d cycles from place i on, and what was before. -/
def shr (cy : List Int) : Nat → Nat → Int × Int → Int × Int
  | 0, _, s => s
  | d + 1, i, s => shr cy d (i + 1) (addf s (1, rd cy (i : Int)))
def shareOf (cy : List Int) : Int × Int := shr cy cy.length 0 (0, 1)
theorem pow64 (i : Nat) (h : i ≤ 4) : (64 : Int) ^ i * 64 = 64 ^ (i + 1) ∧ (64 : Int) ^ (i + 1) ≤ 1073741824 := by
  refine ⟨(Int.pow_succ 64 i).symm, ?_⟩
  match i, h with
  | 0, _ => decide
  | 1, _ => decide
  | 2, _ => decide
  | 3, _ => decide
  | 4, _ => decide
theorem share_step {cy : List Int} (hc : CycOk cy) (i : Nat) (hi : i < cy.length) {s : Int × Int} (hs : Fr (i : Int) (64 ^ i) s) :
    Fr 1 64 (1, rd cy (i : Int)) ∧ Fr ((i + 1 : Nat) : Int) (64 ^ (i + 1)) (addf s (1, rd cy (i : Int))) ∧ ((i : Int) + 1) * (64 ^ i * 64) ≤ 9223372036854775807 ∧ (64 : Int) ^ i * 64 ≤ 9223372036854775807 := by
  have h5 := hc.1
  have hr : 1 ≤ rd cy (i : Int) ∧ rd cy (i : Int) ≤ 64 := by
    rw [rd_nat cy i hi]
    exact hc.2 _ (List.getElem_mem _)
  have hf : Fr 1 64 (1, rd cy (i : Int)) := ⟨by simp, by simp; omega, by simp; omega, by simp; omega⟩
  have hp := pow64 i (by omega)
  have ha := addf_fr hs hf (by omega) (by omega)
  rw [hp.1] at ha ⊢
  refine ⟨hf, by rw [Int.natCast_add]; exact ha, ?_, by omega⟩
  have := Int.mul_le_mul (show (i : Int) + 1 ≤ 5 by omega) hp.2 (Int.le_of_lt (Int.pow_pos (by omega))) (by omega)
  omega
theorem specShare_l0 (cy : List Int) (hc : CycOk cy) (d : Nat) : ∀ (i : Nat) (s : Int × Int), i + d = cy.length → Fr (i : Int) (64 ^ i) s → Ev (fun k => spec_l8Share.l0 k cy (i : Int) s.1 s.2) (shr cy d i s) := by
  have h5 := hc.1
  induction d with
  | zero =>
    intro i s hi hs
    refine ev_succ ?_
    simp only [spec_l8Share.l0]
    exact ev_neg (by omega) (ev_some _)
  | succ d ih =>
    intro i s hi hs
    obtain ⟨f1, f2, f3, f4⟩ := share_step hc i (by omega) hs
    have hw : wrap64 ((i : Int) + 1) = ((i + 1 : Nat) : Int) := by rw [wid (by omega) (by omega)]; omega
    refine ev_succ ?_
    simp only [spec_l8Share.l0]
    rw [hw]
    exact ev_pos (by omega) (ev_pos (by omega) (ev_bind (add_ev hs f1 (by omega) (by omega) f3 f4) (ih (i + 1) _ (by omega) f2)))
theorem specShare_ev (cy : List Int) (hc : CycOk cy) : Ev (fun k => spec_l8Share.f k cy) (shareOf cy) := by
  unfold spec_l8Share.f
  exact specShare_l0 cy hc cy.length 0 (0, 1) (by omega) ⟨by simp, by simp, by simp, by simp⟩
theorem implShare_l0 (cy : List Int) (hc : CycOk cy) (d : Nat) : ∀ (i : Nat) (s : Int × Int), i + d = cy.length → Fr (i : Int) (64 ^ i) s → Ev (fun k => impl_ShareOf.l0 k cy (cy.length : Int) (i : Int) s.1 s.2) ((shr cy d i s).1, (shr cy d i s).2, true) := by
  have h5 := hc.1
  induction d with
  | zero =>
    intro i s hi hs
    refine ev_succ ?_
    simp only [impl_ShareOf.l0]
    exact ev_neg (by omega) (ev_some _)
  | succ d ih =>
    intro i s hi hs
    obtain ⟨f1, f2, f3, f4⟩ := share_step hc i (by omega) hs
    have hw : wrap64 ((i : Int) + 1) = ((i + 1 : Nat) : Int) := by rw [wid (by omega) (by omega)]; omega
    refine ev_succ ?_
    simp only [impl_ShareOf.l0]
    rw [hw]
    exact ev_pos (by omega) (ev_pos (by omega) (ev_pos (by omega) (ev_bind (plus_ev hs f1 (by omega) (by omega) f3 f4) (ih (i + 1) _ (by omega) f2))))
def shareA (cy : List Int) : Int × Int × Bool := if CycOk cy then ((shareOf cy).1, (shareOf cy).2, true) else (0, 0, false)
theorem specShareOf_ev (cy : List Int) (hl : cy.length ≤ 35184372088832) : Ev (fun k => spec_ShareOf.f k cy) (shareA cy) := by
  unfold spec_ShareOf.f shareA
  refine ev_bind (l8Cycles_ev cy hl) ?_
  by_cases h : CycOk cy
  · exact ev_cast (ev_pos (by simpa using h) (ev_bind (specShare_ev cy h) (ev_some _))) (if_pos h).symm
  · exact ev_cast (ev_neg (by simpa using h) (ev_some _)) (if_neg h).symm
theorem implShareOf_ev (cy : List Int) (hl : cy.length ≤ 35184372088832) : Ev (fun k => impl_ShareOf.f k cy) (shareA cy) := by
  unfold impl_ShareOf.f shareA
  refine ev_bind (areCycles_ev cy hl) ?_
  by_cases h : CycOk cy
  · exact ev_cast (ev_pos (by simpa using h) (implShare_l0 cy h cy.length 0 (0, 1) (by omega) ⟨by simp, by simp, by simp, by simp⟩)) (if_pos h).symm
  · exact ev_cast (ev_neg (by simpa using h) (ev_some _)) (if_neg h).symm

theorem FnExactShareOf (l0 : List Int) (hl0 : l0.length ≤ maxLen) (hw0 : ∀ x ∈ l0, (Lit.int .i64 x).wf = true) :
    ∃ k, laws_FnExactShareOf.f k l0 = some true := by
  refine Ev.rounds ?_
  unfold laws_FnExactShareOf.f
  by_cases c0 : (l0.length : Int) > 1048576
  · exact ev_pos c0 (ev_some _)
  refine ev_neg c0 ?_
  have h0 : l0.length ≤ 35184372088832 := by omega
  have t0 := toIntS_ev l0 h0
  refine ev_bind t0 (ev_bind (specShareOf_ev l0 h0) (ev_bind t0 (ev_bind (implShareOf_ev l0 h0) ?_)))
  simp only [laws_eqIntA2.f, if_true, Option.bind_some, beq_self_eq_true]
  refine ev_succ ?_
  simp only [laws_FnExactShareOf.j0]
  exact ev_neg (by simp) (ev_bind t0 (ev_bind (eqIntS_ev l0 l0 h0) (ev_pos (by simp) (ev_some _))))

end Go.Proofs.Ytbbancmbmgbjkaa.Pure
