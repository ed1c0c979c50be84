/- The program's FindOffsets and the reference's both return the first offsets with which no two visits meet: the program looks from the offset 0 of the first cycle alone (all visits may be told from it), the reference asks first whether the share is at most 1 (visits that never meet have no greater one) and whether each cycle has an offset by itself. No conditions. -/
import Derived.Test.YtjkhomkdfbebgaaKit
import Derived.Test.YtjkhomkdfbebgaaXFnExactFindOffsetsx5
namespace Go.Proofs.Ytjkhomkdfbebgaa.Pure
set_option linter.unusedVariables false
open Go.RowKit Go.Proofs.Ytjkhomkdfbebgaa.PFnExactFindOffsets Go.Proofs.YtjkhomkdfbebgaaW.PrintWords Go.Proofs.YtjkhomkdfbebgaaW.PrintLast Go.Proofs.Ytjkhomkdfbebgaa.Kit

theorem in_eq (a b c : Int) : spec_l1In.f a b c = some (decide (b ≤ a ∧ a ≤ c)) := by
  unfold spec_l1In.f
  by_cases h : b ≤ a <;> simp [h]
theorem within_eq (a b c : Int) : impl_within.f a b c = some (decide (b ≤ a ∧ a ≤ c)) := by
  unfold impl_within.f
  by_cases h : b ≤ a <;> simp [h]
theorem toIntS_l0 (xs : List Int) (hn : xs.length ≤ 35184372088832) (d : Nat) : ∀ (i : Nat) (ys : List Int), i + d = xs.length → ys.length = xs.length → ys.take i = xs.take i →
    Ev (fun k => laws_toIntS.l0 k xs ys (i : Int)) xs := by
  induction d with
  | zero =>
    intro i ys hi hl ht
    refine ev_succ ?_
    simp only [laws_toIntS.l0]
    refine ev_neg (by omega) ?_
    rw [List.take_of_length_le (by omega), List.take_of_length_le (by omega)] at ht
    rw [ht]
    exact ev_some _
  | succ d ih =>
    intro i ys hi hl ht
    refine ev_succ ?_
    simp only [laws_toIntS.l0]
    refine ev_pos (by omega) (ev_pos (by omega) (ev_pos (by omega) ?_))
    have hw : wrap64 ((i : Int) + 1) = ((i + 1 : Nat) : Int) := by rw [wid (by omega) (by omega)]; omega
    rw [hw]
    refine ih (i + 1) _ (by omega) (by simpa using hl) ?_
    rw [rd_nat xs i (by omega), Int.toNat_natCast, List.take_succ_eq_append_getElem (by simp; omega), List.take_succ_eq_append_getElem (by omega), List.getElem_set_self, List.take_set_of_le (by omega), ht]
theorem toIntS_ev (xs : List Int) (hn : xs.length ≤ 35184372088832) : Ev (fun k => laws_toIntS.f k xs) xs := by
  unfold laws_toIntS.f
  refine ev_pos (by omega) (ev_pos (by omega) ?_)
  exact toIntS_l0 xs hn xs.length 0 _ (by omega) (by simp) rfl
theorem eqIntS_l0 (xs ys : List Int) (hn : xs.length ≤ 35184372088832) (hl : ys.length = xs.length) (d : Nat) : ∀ (i : Nat), i + d = xs.length →
    Ev (fun k => laws_eqIntS.l0 k xs ys (i : Int)) (decide (xs.drop i = ys.drop i)) := by
  induction d with
  | zero =>
    intro i hi
    refine ev_succ ?_
    simp only [laws_eqIntS.l0]
    refine ev_neg (by omega) ?_
    rw [List.drop_of_length_le (by omega), List.drop_of_length_le (by omega)]
    exact ev_some _
  | succ d ih =>
    intro i hi
    refine ev_succ ?_
    simp only [laws_eqIntS.l0]
    refine ev_pos (by omega) (ev_pos (by omega) (ev_pos (by omega) ?_))
    have hw : wrap64 ((i : Int) + 1) = ((i + 1 : Nat) : Int) := by rw [wid (by omega) (by omega)]; omega
    rw [hw, drop_rd xs i (by omega), drop_rd ys i (by omega)]
    by_cases h : rd xs i = rd ys i
    · refine ev_pos h (ev_cast (ih (i + 1) (by omega)) ?_)
      simp [h]
    · refine ev_neg h (ev_cast (ev_some false) ?_)
      simp [h]
theorem eqIntS_ev (xs ys : List Int) (hn : xs.length ≤ 35184372088832) : Ev (fun k => laws_eqIntS.f k xs ys) (decide (xs = ys)) := by
  unfold laws_eqIntS.f
  by_cases h : xs.length = ys.length
  · refine ev_pos (by omega) (ev_cast (eqIntS_l0 xs ys hn h.symm xs.length 0 (by omega)) (by simp))
  · refine ev_neg (by omega) (ev_cast (ev_some false) ?_)
    have : xs ≠ ys := fun e => h (by rw [e])
    simp [this]
theorem allWithin_l0 (lo up : Int) (xs : List Int) (hn : xs.length ≤ 35184372088832) (d : Nat) : ∀ (i : Nat), i + d = xs.length →
    Ev (fun k => impl_allWithin.l0 k lo up xs (xs.length : Int) (i : Int)) (decide (∀ x ∈ xs.drop i, lo ≤ x ∧ x ≤ up)) := by
  induction d with
  | zero =>
    intro i hi
    refine ev_succ ?_
    simp only [impl_allWithin.l0]
    refine ev_neg (by omega) ?_
    rw [List.drop_of_length_le (by omega)]
    exact ev_cast (ev_some true) (by simp)
  | succ d ih =>
    intro i hi
    refine ev_succ ?_
    simp only [impl_allWithin.l0, within_eq, Option.bind_some]
    refine ev_pos (by omega) (ev_pos (by omega) (ev_pos (by omega) ?_))
    have hw : wrap64 ((i : Int) + 1) = ((i + 1 : Nat) : Int) := by rw [wid (by omega) (by omega)]; omega
    rw [hw, drop_rd xs i (by omega)]
    by_cases h : lo ≤ rd xs i ∧ rd xs i ≤ up
    · refine ev_pos (by simpa using h) (ev_cast (ih (i + 1) (by omega)) ?_)
      simp [h]
    · refine ev_neg (by simpa using h) (ev_cast (ev_some false) ?_)
      symm
      simp only [decide_eq_false_iff_not, List.mem_cons]
      exact fun hh => h (hh _ (Or.inl rfl))
theorem allWithin_ev (xs : List Int) (lo hi : Int) (hn : xs.length ≤ 35184372088832) : Ev (fun k => impl_allWithin.f k xs lo hi) (decide (∀ x ∈ xs, lo ≤ x ∧ x ≤ hi)) := by
  unfold impl_allWithin.f
  exact allWithin_l0 lo hi xs hn xs.length 0 (by omega)
/-- What cycles of a timetable are. -/
def CycOk (cy : List Int) : Prop := (cy.length : Int) ≤ 5 ∧ ∀ x ∈ cy, 1 ≤ x ∧ x ≤ 64
instance (cy : List Int) : Decidable (CycOk cy) := by unfold CycOk; infer_instance
theorem areCycles_ev (cy : List Int) (hl : cy.length ≤ 35184372088832) : Ev (fun k => impl_areCycles.f k cy) (decide (CycOk cy)) := by
  unfold impl_areCycles.f CycOk
  exact ev_andp fun _ => ev_bind (allWithin_ev cy 1 64 hl) (ev_some _)
theorem l8Cycles_l0 (xs : List Int) (hn : xs.length ≤ 35184372088832) (d : Nat) : ∀ (i : Nat), i + d = xs.length →
    Ev (fun k => spec_l8Cycles.l0 k xs (i : Int)) (decide ((xs.length : Int) ≤ 5 ∧ ∀ x ∈ xs.drop i, 1 ≤ x ∧ x ≤ 64)) := by
  induction d with
  | zero =>
    intro i hi
    refine ev_succ ?_
    simp only [spec_l8Cycles.l0]
    refine ev_neg (by omega) (ev_dec (ev_some _) ?_)
    rw [List.drop_of_length_le (by omega)]
    simp
  | succ d ih =>
    intro i hi
    refine ev_succ ?_
    simp only [spec_l8Cycles.l0, in_eq, Option.bind_some]
    refine ev_pos (by omega) (ev_pos (by omega) ?_)
    have hw : wrap64 ((i : Int) + 1) = ((i + 1 : Nat) : Int) := by rw [wid (by omega) (by omega)]; omega
    rw [hw, drop_rd xs i (by omega)]
    by_cases h : 1 ≤ rd xs i ∧ rd xs i ≤ 64
    · refine ev_pos (by simpa using h) (ev_cast (ih (i + 1) (by omega)) ?_)
      simp [h]
    · exact ev_neg (by simpa using h) (ev_false fun hh => h (hh.2 _ (by simp)))
theorem l8Cycles_ev (cy : List Int) (hl : cy.length ≤ 35184372088832) : Ev (fun k => spec_l8Cycles.f k cy) (decide (CycOk cy)) := by
  unfold spec_l8Cycles.f CycOk
  exact l8Cycles_l0 cy hl cy.length 0 (by omega)
theorem gcd_l0 (b : Nat) : ∀ a : Nat, Ev (fun k => spec_l8Gcd.l0 k (a : Int) (b : Int)) ((Nat.gcd a b : Nat) : Int) := by
  induction b using Nat.strongRecOn with
  | _ b ih =>
    intro a
    refine ev_succ ?_
    simp only [spec_l8Gcd.l0]
    by_cases h : b = 0
    · subst h
      exact ev_neg (by omega) (ev_cast (ev_some _) (by simp))
    · refine ev_pos (by omega) (ev_neg (by omega) ?_)
      have e : Int.tmod (a : Int) (b : Int) = ((a % b : Nat) : Int) := rfl
      rw [e]
      refine ev_cast (ih (a % b) (Nat.mod_lt _ (by omega)) b) ?_
      rw [Nat.gcd_comm b, ← Nat.gcd_rec, Nat.gcd_comm]
theorem gcd_ev (a b : Int) (ha : 0 ≤ a) (hb : 0 ≤ b) : Ev (fun k => spec_l8Gcd.f k a b) ((Nat.gcd a.toNat b.toNat : Nat) : Int) := by
  unfold spec_l8Gcd.f
  have := gcd_l0 b.toNat a.toNat
  rwa [Int.toNat_of_nonneg ha, Int.toNat_of_nonneg hb] at this
theorem divisor_l0 (b : Nat) : ∀ a : Nat, Ev (fun k => impl_divisor.l0 k (a : Int) (b : Int)) ((Nat.gcd a b : Nat) : Int) := by
  induction b using Nat.strongRecOn with
  | _ b ih =>
    intro a
    refine ev_succ ?_
    simp only [impl_divisor.l0]
    by_cases h : b = 0
    · subst h
      exact ev_pos (by omega) (ev_cast (ev_some _) (by simp))
    · refine ev_neg (by omega) ?_
      have e : Int.tmod (a : Int) (b : Int) = ((a % b : Nat) : Int) := rfl
      rw [e]
      refine ev_cast (ih (a % b) (Nat.mod_lt _ (by omega)) b) ?_
      rw [Nat.gcd_comm b, ← Nat.gcd_rec, Nat.gcd_comm]
theorem divisor_ev (a b : Int) (ha : 0 ≤ a) (hb : 0 ≤ b) : Ev (fun k => impl_divisor.f k a b) ((Nat.gcd a.toNat b.toNat : Nat) : Int) := by
  unfold impl_divisor.f
  have := divisor_l0 b.toNat a.toNat
  rwa [Int.toNat_of_nonneg ha, Int.toNat_of_nonneg hb] at this
/-- A quotient in lowest terms. -/
def fr (n d : Int) : Int × Int := (n / ((Nat.gcd n.toNat d.toNat : Nat) : Int), d / ((Nat.gcd n.toNat d.toNat : Nat) : Int))
theorem gcd_fr_pos {n d : Int} (hd : 0 < d) : 0 < ((Nat.gcd n.toNat d.toNat : Nat) : Int) := by
  have := Nat.gcd_pos_of_pos_right n.toNat (show 0 < d.toNat by omega)
  omega
theorem fr_in {n d : Int} (hn : 0 ≤ n) (hd : 0 < d) : 0 ≤ (fr n d).1 ∧ (fr n d).1 ≤ n ∧ 0 < (fr n d).2 ∧ (fr n d).2 ≤ d := by
  have hg := gcd_fr_pos (n := n) hd
  have hdv : ((Nat.gcd n.toNat d.toNat : Nat) : Int) ∣ d := by
    have h := Nat.gcd_dvd_right n.toNat d.toNat
    have h2 := Int.natCast_dvd_natCast.2 h
    rwa [Int.toNat_of_nonneg (by omega)] at h2
  refine ⟨Int.ediv_nonneg hn (by omega), Int.ediv_le_self _ hn, ?_, Int.ediv_le_self _ (by omega)⟩
  exact Int.ediv_pos_of_pos_of_dvd hd (by omega) hdv
theorem cut_ev (n d : Int) (hn : 0 ≤ n) (hn2 : n ≤ 9223372036854775807) (hd : 0 < d) (hd2 : d ≤ 9223372036854775807) : Ev (fun k => spec_l8Cut.f k n d) (fr n d) := by
  have hg := gcd_fr_pos (n := n) hd
  have h1 := fr_in hn hd
  unfold spec_l8Cut.f
  refine ev_bind (gcd_ev n d hn (by omega)) (ev_neg (by omega) (ev_cast (ev_some _) ?_))
  unfold fr at h1 ⊢
  simp only at h1
  rw [Int.tdiv_eq_ediv_of_nonneg hn, Int.tdiv_eq_ediv_of_nonneg (by omega), wid (by omega) (by omega), wid (by omega) (by omega)]
/-- The sum of two quotients. -/
def addf (x y : Int × Int) : Int × Int := fr (x.1 * y.2 + y.1 * x.2) (x.2 * y.2)
/-- A quotient of at most B, its lower part at most D. -/
def Fr (B D : Int) (x : Int × Int) : Prop := 0 ≤ x.1 ∧ x.1 ≤ B * x.2 ∧ 0 < x.2 ∧ x.2 ≤ D
theorem fr_fr {n d B D : Int} (hn : 0 ≤ n) (hb : n ≤ B * d) (hd : 0 < d) (hD : d ≤ D) : Fr B D (fr n d) := by
  have h := fr_in hn hd
  have hg := gcd_fr_pos (n := n) hd
  refine ⟨h.1, ?_, h.2.2.1, by omega⟩
  have h1 : ((Nat.gcd n.toNat d.toNat : Nat) : Int) ∣ d := by
    have h := Nat.gcd_dvd_right n.toNat d.toNat
    have h2 := Int.natCast_dvd_natCast.2 h
    rwa [Int.toNat_of_nonneg (by omega)] at h2
  unfold fr
  simp only
  refine Int.ediv_le_of_le_mul hg ?_
  rw [Int.mul_assoc, Int.ediv_mul_cancel h1]
  exact hb
theorem fr_scale (n d m : Int) (hn : 0 ≤ n) (hd : 0 < d) (hm : 0 < m) : fr (n * m) (d * m) = fr n d := by
  obtain ⟨N, rfl⟩ := Int.eq_ofNat_of_zero_le hn
  obtain ⟨M, rfl⟩ := Int.eq_ofNat_of_zero_le (show 0 ≤ m by omega)
  obtain ⟨D, rfl⟩ := Int.eq_ofNat_of_zero_le (show 0 ≤ d by omega)
  have e1 : ((N : Int) * (M : Int)) = ((N * M : Nat) : Int) := by simp
  have e2 : ((D : Int) * (M : Int)) = ((D * M : Nat) : Int) := by simp
  unfold fr
  rw [e1, e2]
  simp only [Int.toNat_natCast]
  rw [Nat.gcd_mul_right, Prod.mk.injEq]
  refine ⟨?_, ?_⟩
  · rw [Int.natCast_mul, Int.natCast_mul, Int.mul_ediv_mul_of_pos_left _ _ hm]
  · rw [Int.natCast_mul, Int.natCast_mul, Int.mul_ediv_mul_of_pos_left _ _ hm]
/-- What is needed of the parts of a sum. -/
theorem addf_parts {B B' D D' : Int} {x y : Int × Int} (hx : Fr B D x) (hy : Fr B' D' y) (hB : 0 ≤ B) (hB' : 0 ≤ B') :
    0 ≤ x.1 * y.2 ∧ 0 ≤ y.1 * x.2 ∧ x.1 * y.2 + y.1 * x.2 ≤ (B + B') * (x.2 * y.2) ∧ 0 < x.2 * y.2 ∧ x.2 * y.2 ≤ D * D' ∧ (B + B') * (x.2 * y.2) ≤ (B + B') * (D * D') := by
  obtain ⟨a1, a2, a3, a4⟩ := hx
  obtain ⟨b1, b2, b3, b4⟩ := hy
  have q0 : 0 < x.2 * y.2 := Int.mul_pos a3 b3
  have q1 : x.2 * y.2 ≤ D * D' := Int.mul_le_mul a4 b4 (by omega) (by omega)
  have n1 : x.1 * y.2 ≤ B * x.2 * y.2 := Int.mul_le_mul_of_nonneg_right a2 (by omega)
  have n2 : y.1 * x.2 ≤ B' * y.2 * x.2 := Int.mul_le_mul_of_nonneg_right b2 (by omega)
  refine ⟨Int.mul_nonneg a1 (by omega), Int.mul_nonneg b1 (by omega), ?_, q0, q1, Int.mul_le_mul_of_nonneg_left q1 (by omega)⟩
  rw [Int.add_mul]
  rw [Int.mul_assoc] at n1 n2
  rw [Int.mul_comm y.2 x.2] at n2
  omega
theorem addf_fr {B B' D D' : Int} {x y : Int × Int} (hx : Fr B D x) (hy : Fr B' D' y) (hB : 0 ≤ B) (hB' : 0 ≤ B') : Fr (B + B') (D * D') (addf x y) := by
  obtain ⟨h1, h2, h3, h4, h5, h6⟩ := addf_parts hx hy hB hB'
  exact fr_fr (by omega) h3 h4 h5
theorem add_ev {B B' D D' : Int} {x y : Int × Int} (hx : Fr B D x) (hy : Fr B' D' y) (hB : 0 ≤ B) (hB' : 0 ≤ B') (hs : (B + B') * (D * D') ≤ 9223372036854775807) (hd : D * D' ≤ 9223372036854775807) :
    Ev (fun k => spec_l8Add.f k x.1 x.2 y.1 y.2) (addf x y) := by
  obtain ⟨h1, h2, h3, h4, h5, h6⟩ := addf_parts hx hy hB hB'
  obtain ⟨p, q⟩ := x
  obtain ⟨u, v⟩ := y
  obtain ⟨a1, a2, a3, a4⟩ := hx
  obtain ⟨b1, b2, b3, b4⟩ := hy
  simp only at *
  have hg : 0 < ((Nat.gcd q.toNat v.toNat : Nat) : Int) := gcd_fr_pos (n := q) b3
  have dq : ((Nat.gcd q.toNat v.toNat : Nat) : Int) ∣ q := by
    have h2 := Int.natCast_dvd_natCast.2 (Nat.gcd_dvd_left q.toNat v.toNat)
    rwa [Int.toNat_of_nonneg (by omega)] at h2
  have dv : ((Nat.gcd q.toNat v.toNat : Nat) : Int) ∣ v := by
    have h2 := Int.natCast_dvd_natCast.2 (Nat.gcd_dvd_right q.toNat v.toNat)
    rwa [Int.toNat_of_nonneg (by omega)] at h2
  unfold spec_l8Add.f addf
  refine ev_bind (gcd_ev q v (by omega) (by omega)) (ev_neg (by omega) ?_)
  generalize ((Nat.gcd q.toNat v.toNat : Nat) : Int) = g at hg dq dv
  obtain ⟨q', rfl⟩ := dq
  obtain ⟨v', rfl⟩ := dv
  have q'0 : 0 < q' := by
    rcases Int.lt_trichotomy q' 0 with h | h | h
    · have := Int.mul_neg_of_pos_of_neg hg h; omega
    · rw [h, Int.mul_zero] at a3; omega
    · exact h
  have v'0 : 0 < v' := by
    rcases Int.lt_trichotomy v' 0 with h | h | h
    · have := Int.mul_neg_of_pos_of_neg hg h; omega
    · rw [h, Int.mul_zero] at b3; omega
    · exact h
  have e1 : Int.tdiv (g * v') g = v' := by rw [Int.tdiv_eq_ediv_of_nonneg (by omega), Int.mul_ediv_cancel_left _ (by omega)]
  have e2 : Int.tdiv (g * q') g = q' := by rw [Int.tdiv_eq_ediv_of_nonneg (by omega), Int.mul_ediv_cancel_left _ (by omega)]
  have k1 : v' ≤ g * v' := by have := Int.mul_le_mul_of_nonneg_right (show 1 ≤ g by omega) (show 0 ≤ v' by omega); omega
  have k2 : q' ≤ g * q' := by have := Int.mul_le_mul_of_nonneg_right (show 1 ≤ g by omega) (show 0 ≤ q' by omega); omega
  have hq : g * q' ≤ 9223372036854775807 := by
    have := Int.mul_le_mul_of_nonneg_left (show 1 ≤ g * v' by omega) (show 0 ≤ g * q' by omega)
    omega
  have hv : g * v' ≤ 9223372036854775807 := by
    have := Int.mul_le_mul_of_nonneg_right (show 1 ≤ g * q' by omega) (show 0 ≤ g * v' by omega)
    omega
  have m1 : 0 ≤ p * v' := Int.mul_nonneg a1 (by omega)
  have m2 : 0 ≤ u * q' := Int.mul_nonneg b1 (by omega)
  have m3 : p * v' ≤ p * (g * v') := Int.mul_le_mul_of_nonneg_left k1 a1
  have m4 : u * q' ≤ u * (g * q') := Int.mul_le_mul_of_nonneg_left k2 b1
  have m5 : q' * (g * v') ≤ g * q' * (g * v') := Int.mul_le_mul_of_nonneg_right k2 (by omega)
  have m6 : 0 < q' * (g * v') := Int.mul_pos q'0 b3
  rw [e1, e2, wid (x := v') (by omega) (by omega), wid (x := q') (by omega) (by omega), wid (x := p * v') (by omega) (by omega), wid (x := u * q') (by omega) (by omega), wid (x := q' * (g * v')) (by omega) (by omega), wid (by omega) (by omega)]
  refine ev_bind (cut_ev _ _ (by omega) (by omega) m6 (by omega)) (ev_cast (ev_some _) ?_)
  show fr (p * v' + u * q') (q' * (g * v')) = fr (p * (g * v') + u * (g * q')) (g * q' * (g * v'))
  rw [← fr_scale (p * v' + u * q') (q' * (g * v')) g (by omega) m6 hg]
  congr 1
  · rw [Int.add_mul, Int.mul_assoc, Int.mul_assoc, Int.mul_comm v' g, Int.mul_comm q' g]
  · rw [Int.mul_comm (q' * (g * v')) g, ← Int.mul_assoc]
/-- The sum of 1 by each of d cycles from place i on, and what was before. -/
def shr (cy : List Int) : Nat → Nat → Int × Int → Int × Int
  | 0, _, s => s
  | d + 1, i, s => shr cy d (i + 1) (addf s (1, rd cy (i : Int)))
def shareOf (cy : List Int) : Int × Int := shr cy cy.length 0 (0, 1)
theorem pow64 (i : Nat) (h : i ≤ 4) : (64 : Int) ^ i * 64 = 64 ^ (i + 1) ∧ (64 : Int) ^ (i + 1) ≤ 1073741824 := by
  refine ⟨(Int.pow_succ 64 i).symm, ?_⟩
  match i, h with
  | 0, _ => decide
  | 1, _ => decide
  | 2, _ => decide
  | 3, _ => decide
  | 4, _ => decide
theorem share_step {cy : List Int} (hc : CycOk cy) (i : Nat) (hi : i < cy.length) {s : Int × Int} (hs : Fr (i : Int) (64 ^ i) s) :
    Fr 1 64 (1, rd cy (i : Int)) ∧ Fr ((i + 1 : Nat) : Int) (64 ^ (i + 1)) (addf s (1, rd cy (i : Int))) ∧ ((i : Int) + 1) * (64 ^ i * 64) ≤ 9223372036854775807 ∧ (64 : Int) ^ i * 64 ≤ 9223372036854775807 := by
  have h5 := hc.1
  have hr : 1 ≤ rd cy (i : Int) ∧ rd cy (i : Int) ≤ 64 := by
    rw [rd_nat cy i hi]
    exact hc.2 _ (List.getElem_mem _)
  have hf : Fr 1 64 (1, rd cy (i : Int)) := ⟨by simp, by simp; omega, by simp; omega, by simp; omega⟩
  have hp := pow64 i (by omega)
  have ha := addf_fr hs hf (by omega) (by omega)
  rw [hp.1] at ha ⊢
  refine ⟨hf, by rw [Int.natCast_add]; exact ha, ?_, by omega⟩
  have := Int.mul_le_mul (show (i : Int) + 1 ≤ 5 by omega) hp.2 (Int.le_of_lt (Int.pow_pos (by omega))) (by omega)
  omega
theorem specShare_l0 (cy : List Int) (hc : CycOk cy) (d : Nat) : ∀ (i : Nat) (s : Int × Int), i + d = cy.length → Fr (i : Int) (64 ^ i) s → Ev (fun k => spec_l8Share.l0 k cy (i : Int) s.1 s.2) (shr cy d i s) := by
  have h5 := hc.1
  induction d with
  | zero =>
    intro i s hi hs
    refine ev_succ ?_
    simp only [spec_l8Share.l0]
    exact ev_neg (by omega) (ev_some _)
  | succ d ih =>
    intro i s hi hs
    obtain ⟨f1, f2, f3, f4⟩ := share_step hc i (by omega) hs
    have hw : wrap64 ((i : Int) + 1) = ((i + 1 : Nat) : Int) := by rw [wid (by omega) (by omega)]; omega
    refine ev_succ ?_
    simp only [spec_l8Share.l0]
    rw [hw]
    exact ev_pos (by omega) (ev_pos (by omega) (ev_bind (add_ev hs f1 (by omega) (by omega) f3 f4) (ih (i + 1) _ (by omega) f2)))
theorem specShare_ev (cy : List Int) (hc : CycOk cy) : Ev (fun k => spec_l8Share.f k cy) (shareOf cy) := by
  unfold spec_l8Share.f
  exact specShare_l0 cy hc cy.length 0 (0, 1) (by omega) ⟨by simp, by simp, by simp, by simp⟩
/-- The numbers from a on. -/
def asc (a : Int) (n : Nat) : List Int := (List.range n).map fun i => a + ((i : Nat) : Int)
theorem asc_length (a : Int) (n : Nat) : (asc a n).length = n := by simp [asc]
theorem asc_succ (a : Int) (n : Nat) : asc a (n + 1) = asc a n ++ [a + (n : Int)] := by simp [asc, List.range_succ]
theorem rd_asc (a : Int) (n i : Nat) (h : i < n) : rd (asc a n) (i : Int) = a + (i : Int) := by
  rw [rd_nat _ _ (by rw [asc_length]; exact h)]
  simp [asc]
theorem mark_l0 (n : Nat) (a : Int) (h0 : 0 ≤ a) (hn : n ≤ 35184372088832) (ha : a ≤ 35184372088832) (d : Nat) : ∀ (i : Nat) (ys : List Int), i + d = n → ys.length = n → ys.take i = asc a i →
    Ev (fun k => laws_markIntS.l0 k ys (a + (i : Int)) (i : Int)) (a + (n : Int), asc a n) := by
  induction d with
  | zero =>
    intro i ys hi hl ht
    refine ev_succ ?_
    simp only [laws_markIntS.l0]
    refine ev_neg (by omega) (ev_cast (ev_some _) ?_)
    rw [List.take_of_length_le (by omega)] at ht
    rw [ht, show i = n by omega]
  | succ d ih =>
    intro i ys hi hl ht
    refine ev_succ ?_
    simp only [laws_markIntS.l0]
    have hw : wrap64 ((i : Int) + 1) = ((i + 1 : Nat) : Int) := by rw [wid (by omega) (by omega)]; omega
    have hw2 : wrap64 (a + (i : Int) + 1) = a + ((i + 1 : Nat) : Int) := by rw [wid (by omega) (by omega)]; omega
    rw [hw, hw2]
    refine ev_pos (by omega) (ev_pos (by omega) (ih (i + 1) _ (by omega) (by simpa using hl) ?_))
    rw [Int.toNat_natCast, List.take_succ_eq_append_getElem (by simp; omega), List.getElem_set_self, List.take_set_of_le (by omega), ht, asc_succ]
theorem mark_ev (ys : List Int) (a : Int) (h0 : 0 ≤ a) (hn : ys.length ≤ 35184372088832) (ha : a ≤ 35184372088832) : Ev (fun k => laws_markIntS.f k ys a) (a + (ys.length : Int), asc a ys.length) := by
  unfold laws_markIntS.f
  have := mark_l0 ys.length a h0 hn ha ys.length 0 ys (by omega) rfl rfl
  simpa using this
theorem held_l0 (n : Nat) (a : Int) (h0 : 0 ≤ a) (hn : n ≤ 35184372088832) (ha : a ≤ 35184372088832) (d : Nat) : ∀ (i : Nat), i + d = n →
    Ev (fun k => laws_heldIntS.l0 k (asc a n) (a + (i : Int)) (i : Int)) (a + (n : Int)) := by
  induction d with
  | zero =>
    intro i hi
    refine ev_succ ?_
    simp only [laws_heldIntS.l0, asc_length]
    refine ev_neg (by omega) (ev_cast (ev_some _) ?_)
    rw [show i = n by omega]
  | succ d ih =>
    intro i hi
    refine ev_succ ?_
    simp only [laws_heldIntS.l0, asc_length]
    have hw : wrap64 ((i : Int) + 1) = ((i + 1 : Nat) : Int) := by rw [wid (by omega) (by omega)]; omega
    have hw2 : wrap64 (a + (i : Int) + 1) = a + ((i + 1 : Nat) : Int) := by rw [wid (by omega) (by omega)]; omega
    rw [hw, hw2, rd_asc a n i (by omega)]
    exact ev_pos (by omega) (ev_pos (by omega) (ev_pos rfl (ih (i + 1) (by omega))))
theorem held_ev (a : Int) (n : Nat) (h0 : 0 ≤ a) (hn : n ≤ 35184372088832) (ha : a ≤ 35184372088832) : Ev (fun k => laws_heldIntS.f k (asc a n) a) (a + (n : Int)) := by
  unfold laws_heldIntS.f
  have := held_l0 n a h0 hn ha n 0 (by omega)
  simpa using this
/-- Two visits on a day. -/
def Meet (cy off : List Int) (i j : Nat) : Prop := Int.tmod (rd off (i : Int) - rd off (j : Int)) ((Nat.gcd (rd cy (i : Int)).toNat (rd cy (j : Int)).toNat : Nat) : Int) = 0
instance (cy off : List Int) (i j : Nat) : Decidable (Meet cy off i j) := by unfold Meet; infer_instance
theorem meet_comm (cy off : List Int) (i j : Nat) : Meet cy off i j ↔ Meet cy off j i := by
  unfold Meet
  rw [Nat.gcd_comm, show rd off (i : Int) - rd off (j : Int) = -(rd off (j : Int) - rd off (i : Int)) by omega, Int.neg_tmod]
  omega
/-- The visit at place i meets none at a place ahead. -/
def Last (cy off : List Int) (i : Nat) : Prop := ∀ j : Nat, j < i → ¬ Meet cy off i j
instance (cy off : List Int) (i : Nat) : Decidable (Last cy off i) := by unfold Last; infer_instance
/-- The first of m numbers from x on at which g has an answer. -/
def firstOf (g : Int → Option (List Int)) : Nat → Int → Option (List Int)
  | 0, _ => none
  | m + 1, x => match g x with
    | some r => some r
    | none => firstOf g m (x + 1)
theorem firstOf_some (g : Int → Option (List Int)) (r : List Int) : ∀ (m : Nat) (x : Int), firstOf g m x = some r → ∃ y, x ≤ y ∧ y < x + (m : Int) ∧ g y = some r
  | 0, x, h => by simp [firstOf] at h
  | m + 1, x, h => by
    unfold firstOf at h
    cases e : g x with
    | some r' =>
      rw [e] at h
      exact ⟨x, by omega, by omega, by rw [e]; exact h⟩
    | none =>
      rw [e] at h
      obtain ⟨y, h1, h2, h3⟩ := firstOf_some g r m (x + 1) h
      exact ⟨y, by omega, by omega, h3⟩
theorem firstOf_none (g : Int → Option (List Int)) : ∀ (m : Nat) (x : Int), firstOf g m x = none → ∀ y, x ≤ y → y < x + (m : Int) → g y = none
  | 0, x, _, y, h1, h2 => by omega
  | m + 1, x, h, y, h1, h2 => by
    unfold firstOf at h
    cases e : g x with
    | some r' => rw [e] at h; cases h
    | none =>
      rw [e] at h
      by_cases h3 : y = x
      · rw [h3]; exact e
      · exact firstOf_none g m (x + 1) h y (by omega) (by omega)
/-- The first offsets that begin with some, with which no two visits meet; d are wanting. -/
def seek (cy : List Int) : Nat → List Int → Option (List Int)
  | 0, off => some off
  | d + 1, off => firstOf (fun x => if Last cy (off ++ [x]) off.length then seek cy d (off ++ [x]) else none) (rd cy (off.length : Int)).toNat 0
/-- Whole offsets that begin with some, with which no visit behind those meets one ahead. -/
def Ext (cy off r : List Int) : Prop := r.length = cy.length ∧ r.take off.length = off ∧ ∀ i : Nat, off.length ≤ i → i < cy.length → 0 ≤ rd r (i : Int) ∧ rd r (i : Int) < rd cy (i : Int) ∧ Last cy r i
theorem rd_pre {r off : List Int} (h : r.take off.length = off) (hl : off.length ≤ r.length) (j : Nat) (hj : j < off.length) : rd r (j : Int) = rd off (j : Int) := by
  rw [rd_nat r j (by omega), rd_nat off j hj]
  have e : (r.take off.length)[j]? = off[j]? := by rw [h]
  rw [List.getElem?_take_of_lt hj, List.getElem?_eq_getElem (by omega), List.getElem?_eq_getElem hj] at e
  exact Option.some.inj e
theorem rd_snoc (off : List Int) (x : Int) : rd (off ++ [x]) (off.length : Int) = x := by
  rw [rd_nat _ _ (by simp)]
  simp
theorem rd_snoc_lt (off : List Int) (x : Int) (j : Nat) (hj : j < off.length) : rd (off ++ [x]) (j : Int) = rd off (j : Int) := by
  rw [rd_nat _ _ (by simp; omega), rd_nat _ _ hj]
  simp [List.getElem_append_left, hj]
theorem last_congr {cy a b : List Int} {i : Nat} (h : ∀ j : Nat, j ≤ i → rd a (j : Int) = rd b (j : Int)) (ha : Last cy a i) : Last cy b i := by
  intro j hj hm
  refine ha j hj ?_
  unfold Meet at hm ⊢
  rw [h i (Nat.le_refl i), h j (by omega)]
  exact hm
theorem take_snoc {r off : List Int} (h : r.take off.length = off) (hl : off.length < r.length) : r.take (off ++ [rd r (off.length : Int)]).length = off ++ [rd r (off.length : Int)] := by
  rw [List.length_append, List.length_singleton, List.take_succ_eq_append_getElem hl, h, rd_nat r _ hl]
theorem seek_some (cy : List Int) (r : List Int) : ∀ (d : Nat) (off : List Int), off.length + d = cy.length → seek cy d off = some r → Ext cy off r
  | 0, off, hd, h => by
    simp only [seek, Option.some.injEq] at h
    subst h
    exact ⟨by omega, List.take_of_length_le (by omega), fun i h1 h2 => by omega⟩
  | d + 1, off, hd, h => by
    unfold seek at h
    obtain ⟨y, h1, h2, h3⟩ := firstOf_some _ r _ _ h
    by_cases hL : Last cy (off ++ [y]) off.length
    · rw [if_pos hL] at h3
      obtain ⟨e1, e2, e3⟩ := seek_some cy r d (off ++ [y]) (by simp; omega) h3
      have hlen : (off ++ [y]).length = off.length + 1 := by simp
      have hp : ∀ j : Nat, j < off.length + 1 → rd r (j : Int) = rd (off ++ [y]) (j : Int) := fun j hj => rd_pre e2 (by rw [hlen]; omega) j (by rw [hlen]; omega)
      refine ⟨e1, ?_, fun i hi1 hi2 => ?_⟩
      · have e4 := congrArg (List.take off.length) e2
        rw [List.take_take, hlen, Nat.min_eq_left (Nat.le_succ _), List.take_left] at e4
        exact e4
      · by_cases e : i = off.length
        · have e5 : rd r (i : Int) = y := by rw [hp i (by omega), e, rd_snoc]
          rw [e5]
          refine ⟨h1, ?_, last_congr (fun j hj => (hp j (by omega)).symm) (e ▸ hL)⟩
          rw [e]
          omega
        · exact e3 i (by rw [hlen]; omega) hi2
    · rw [if_neg hL] at h3
      cases h3
theorem seek_none (cy : List Int) : ∀ (d : Nat) (off : List Int), off.length + d = cy.length → seek cy d off = none → ∀ r, ¬ Ext cy off r
  | 0, off, hd, h, r => by simp [seek] at h
  | d + 1, off, hd, h, r => by
    rintro ⟨e1, e2, e3⟩
    unfold seek at h
    obtain ⟨a1, a2, a3⟩ := e3 off.length (Nat.le_refl _) (by omega)
    have h3 := firstOf_none _ _ _ h (rd r (off.length : Int)) a1 (by omega)
    have hlen : (off ++ [rd r (off.length : Int)]).length = off.length + 1 := by simp
    have e4 := take_snoc e2 (by omega)
    have hp : ∀ j : Nat, j < off.length + 1 → rd r (j : Int) = rd (off ++ [rd r (off.length : Int)]) (j : Int) := fun j hj => rd_pre e4 (by rw [hlen]; omega) j (by rw [hlen]; omega)
    rw [if_pos (last_congr (fun j hj => hp j (by omega)) a3)] at h3
    exact seek_none cy d _ (by rw [hlen]; omega) h3 r ⟨e1, e4, fun i h4 h5 => e3 i (by rw [hlen] at h4; omega) h5⟩
theorem meet_iff (cy off : List Int) (i j : Nat) : Meet cy off i j ↔ ((Nat.gcd (rd cy (i : Int)).toNat (rd cy (j : Int)).toNat : Nat) : Int) ∣ rd off (i : Int) - rd off (j : Int) := by
  unfold Meet
  exact ⟨Int.dvd_of_tmod_eq_zero, Int.tmod_eq_zero_of_dvd⟩
/-- All visits may be told from the first one on. -/
theorem shift {cy r : List Int} (hc : CycOk cy) (h : Ext cy [] r) (hn : 0 < cy.length) : ∃ r', Ext cy [0] r' := by
  obtain ⟨e1, _, e3⟩ := h
  have hg : ∀ i : Nat, i < cy.length → rd ((List.range cy.length).map fun i : Nat => (rd r (i : Int) - rd r 0) % rd cy (i : Int)) (i : Int) = (rd r (i : Int) - rd r 0) % rd cy (i : Int) := by
    intro i hi
    rw [rd_nat _ _ (by simpa using hi)]
    simp
  have hpos : ∀ i : Nat, i < cy.length → 0 < rd cy (i : Int) := by
    intro i hi
    have := hc.2 _ (List.getElem_mem hi)
    rw [rd_nat cy i hi]
    omega
  refine ⟨(List.range cy.length).map fun i : Nat => (rd r (i : Int) - rd r 0) % rd cy (i : Int), by simp, ?_, ?_⟩
  · rw [show ([0] : List Int).length = 0 + 1 from rfl, List.take_succ_eq_append_getElem (by simpa using hn)]
    simp
  · intro i hi1 hi2
    have hp := hpos i hi2
    rw [hg i hi2]
    refine ⟨Int.emod_nonneg _ (by omega), Int.emod_lt_of_pos _ hp, fun j hj hm => ?_⟩
    obtain ⟨_, _, a3⟩ := e3 i (Nat.zero_le i) hi2
    refine a3 j hj ((meet_iff cy r i j).2 ?_)
    have hm := (meet_iff _ _ i j).1 hm
    rw [hg i hi2, hg j (by omega)] at hm
    have hpj := hpos j (by omega)
    have d1 : ((Nat.gcd (rd cy (i : Int)).toNat (rd cy (j : Int)).toNat : Nat) : Int) ∣ rd cy (i : Int) := by
      have h := Int.natCast_dvd_natCast.2 (Nat.gcd_dvd_left (rd cy (i : Int)).toNat (rd cy (j : Int)).toNat)
      rwa [Int.toNat_of_nonneg (by omega)] at h
    have d2 : ((Nat.gcd (rd cy (i : Int)).toNat (rd cy (j : Int)).toNat : Nat) : Int) ∣ rd cy (j : Int) := by
      have h := Int.natCast_dvd_natCast.2 (Nat.gcd_dvd_right (rd cy (i : Int)).toNat (rd cy (j : Int)).toNat)
      rwa [Int.toNat_of_nonneg (show 0 ≤ rd cy (j : Int) by omega)] at h
    generalize ((Nat.gcd (rd cy (i : Int)).toNat (rd cy (j : Int)).toNat : Nat) : Int) = g at hm d1 d2 ⊢
    have q1 := Int.mul_ediv_add_emod (rd r (i : Int) - rd r 0) (rd cy (i : Int))
    have q2 := Int.mul_ediv_add_emod (rd r (j : Int) - rd r 0) (rd cy (j : Int))
    have k1 := Int.dvd_mul_of_dvd_left (c := (rd r (i : Int) - rd r 0) / rd cy (i : Int)) d1
    have k2 := Int.dvd_mul_of_dvd_left (c := (rd r (j : Int) - rd r 0) / rd cy (j : Int)) d2
    have k3 := Int.dvd_sub (Int.dvd_add hm k1) k2
    have e : rd r (i : Int) - rd r (j : Int) = (rd r (i : Int) - rd r 0) % rd cy (i : Int) - (rd r (j : Int) - rd r 0) % rd cy (j : Int) + rd cy (i : Int) * ((rd r (i : Int) - rd r 0) / rd cy (i : Int)) - rd cy (j : Int) * ((rd r (j : Int) - rd r 0) / rd cy (j : Int)) := by omega
    rw [e]
    exact k3
theorem seek_zero {cy : List Int} (hc : CycOk cy) (d : Nat) (hd : d + 1 = cy.length) : seek cy (d + 1) [] = seek cy d [0] := by
  have hL : Last cy ([] ++ [0]) ([] : List Int).length := fun j hj => by simp at hj
  cases e : seek cy d [0] with
  | some r =>
    unfold seek
    have hp : 1 ≤ rd cy ((([] : List Int).length : Nat) : Int) := by
      rw [rd_nat cy _ (by simp; omega)]
      exact (hc.2 _ (List.getElem_mem _)).1
    obtain ⟨m, hm⟩ : ∃ m, (rd cy ((([] : List Int).length : Nat) : Int)).toNat = m + 1 := ⟨(rd cy ((([] : List Int).length : Nat) : Int)).toNat - 1, by omega⟩
    rw [hm]
    unfold firstOf
    simp only [if_pos hL]
    rw [show ([] ++ [0] : List Int) = [0] from rfl, e]
  | none =>
    cases e2 : seek cy (d + 1) [] with
    | none => rfl
    | some r =>
      obtain ⟨r', h'⟩ := shift hc (seek_some cy r (d + 1) [] (by simp; omega) e2) (by omega)
      exact absurd h' (seek_none cy d [0] (by simp; omega) e r')
def resF : Option (List Int) → List Int × Bool
  | some r => (r, true)
  | none => ([], false)
/-- Offsets as far as they are begun. -/
def Beg (cy off : List Int) : Prop := off.length ≤ cy.length ∧ ∀ j : Nat, j < off.length → 0 ≤ rd off (j : Int) ∧ rd off (j : Int) ≤ 64
theorem beg_nil (cy : List Int) : Beg cy [] := ⟨by simp, fun j hj => by simp at hj⟩
theorem beg_snoc {cy off : List Int} (hc : CycOk cy) (h : Beg cy off) {x : Int} (hl : off.length < cy.length) (h0 : 0 ≤ x) (h1 : x < rd cy (off.length : Int)) : Beg cy (off ++ [x]) := by
  refine ⟨by simp; omega, fun j hj => ?_⟩
  by_cases e : j = off.length
  · rw [e, rd_snoc]
    have := (hc.2 _ (List.getElem_mem hl)).2
    rw [rd_nat cy _ hl] at h1
    omega
  · have hj' : j < off.length := by simp at hj; omega
    rw [rd_snoc_lt off x j hj']
    exact h.2 j hj'
theorem cyc_at {cy : List Int} (hc : CycOk cy) (i : Nat) (h : i < cy.length) : 1 ≤ rd cy (i : Int) ∧ rd cy (i : Int) ≤ 64 := by
  rw [rd_nat cy i h]
  exact hc.2 _ (List.getElem_mem h)
theorem gcdc_ne {cy : List Int} (hc : CycOk cy) (i j : Nat) (hi : i < cy.length) : ((Nat.gcd (rd cy (i : Int)).toNat (rd cy (j : Int)).toNat : Nat) : Int) ≠ 0 := by
  have := cyc_at hc i hi
  have h := Nat.gcd_pos_of_pos_left (rd cy (j : Int)).toNat (show 0 < (rd cy (i : Int)).toNat by omega)
  omega
def May (cy off : List Int) (i : Nat) (x : Int) : Prop := ∀ k : Nat, k < off.length → ¬ (Int.tmod (x - rd off (k : Int)) ((Nat.gcd (rd cy (i : Int)).toNat (rd cy (k : Int)).toNat : Nat) : Int) = 0)
instance (cy off : List Int) (i : Nat) (x : Int) : Decidable (May cy off i x) := by unfold May; infer_instance
theorem may_last (cy off : List Int) (x : Int) : May cy off off.length x ↔ Last cy (off ++ [x]) off.length := by
  unfold May Last Meet
  constructor
  · intro h j hj
    rw [rd_snoc, rd_snoc_lt off x j hj]
    exact h j hj
  · intro h j hj
    have := h j hj
    rw [rd_snoc, rd_snoc_lt off x j hj] at this
    exact this
theorem may_l0 {cy off : List Int} (hc : CycOk cy) (hb : Beg cy off) (i : Nat) (hi : i < cy.length) (x : Int) (h0 : 0 ≤ x) (h1 : x ≤ 64) (d : Nat) : ∀ k : Nat, k + d = off.length → (∀ k' : Nat, k' < k → ¬ (Int.tmod (x - rd off (k' : Int)) ((Nat.gcd (rd cy (i : Int)).toNat (rd cy (k' : Int)).toNat : Nat) : Int) = 0)) →
    Ev (fun n => spec_l8May.l0 n cy off (i : Int) x (k : Int)) (decide (May cy off i x)) := by
  have h5 := hc.1
  have hl := hb.1
  induction d with
  | zero =>
    intro k hk hp
    refine ev_succ ?_
    simp only [spec_l8May.l0]
    exact ev_neg (by omega) (ev_true fun k' h => hp k' (by omega))
  | succ d ih =>
    intro k hk hp
    have hw : wrap64 ((k : Int) + 1) = ((k + 1 : Nat) : Int) := by rw [wid (by omega) (by omega)]; omega
    have ck := cyc_at hc k (by omega)
    have ci := cyc_at hc i hi
    have bk := hb.2 k (by omega)
    have hm : Ev (fun n => spec_l8Meet.f n (rd cy (i : Int)) x (rd cy (k : Int)) (rd off (k : Int))) (decide (Int.tmod (x - rd off (k : Int)) ((Nat.gcd (rd cy (i : Int)).toNat (rd cy (k : Int)).toNat : Nat) : Int) = 0)) := by
      unfold spec_l8Meet.f
      refine ev_bind (gcd_ev _ _ (by omega) (by omega)) (ev_neg (gcdc_ne hc i k hi) (ev_cast (ev_some _) ?_))
      rw [wid (by omega) (by omega)]
      rfl
    refine ev_succ ?_
    simp only [spec_l8May.l0]
    rw [hw]
    refine ev_pos (by omega) (ev_pos (by omega) (ev_pos (by omega) (ev_pos (by omega) (ev_pos (by omega) (ev_bind hm ?_)))))
    by_cases h : Int.tmod (x - rd off (k : Int)) ((Nat.gcd (rd cy (i : Int)).toNat (rd cy (k : Int)).toNat : Nat) : Int) = 0
    · exact ev_pos (decide_eq_true h) (ev_false fun hh => hh k (by omega) h)
    · refine ev_neg (by rw [decide_eq_false h]; decide) (ih (k + 1) (by omega) fun k' h' => ?_)
      by_cases e : k' = k
      · rw [e]; exact h
      · exact hp k' (by omega)
theorem may_ev {cy off : List Int} (hc : CycOk cy) (hb : Beg cy off) (i : Nat) (hi : i < cy.length) (x : Int) (h0 : 0 ≤ x) (h1 : x ≤ 64) : Ev (fun n => spec_l8May.f n cy off (i : Int) x) (decide (May cy off i x)) := by
  unfold spec_l8May.f
  exact may_l0 hc hb i hi x h0 h1 off.length 0 (by omega) (fun k h => by omega)
/-- Each cycle that is not begun has an offset by itself. -/
def RoomAt (cy off : List Int) (i : Nat) : Prop := ∃ x : Int, 0 ≤ x ∧ x < rd cy (i : Int) ∧ May cy off i x
def Room (cy off : List Int) : Prop := ∀ i : Nat, off.length ≤ i → i < cy.length → RoomAt cy off i
theorem ext_room {cy off r : List Int} (hl : off.length ≤ cy.length) (h : Ext cy off r) : Room cy off := by
  obtain ⟨e1, e2, e3⟩ := h
  intro i h1 h2
  obtain ⟨a1, a2, a3⟩ := e3 i h1 h2
  refine ⟨rd r (i : Int), a1, a2, fun k hk hm => a3 k (by omega) ?_⟩
  unfold Meet
  rw [rd_pre e2 (by omega) k hk]
  exact hm
theorem room_l1 {cy off : List Int} (hc : CycOk cy) (hb : Beg cy off) (i : Nat) (hi : i < cy.length) (R : Bool) (hno : ¬ RoomAt cy off i → R = false) (hyes : RoomAt cy off i → Ev (fun n => spec_l8Room.l0 n cy off ((i + 1 : Nat) : Int)) R) (d : Nat) :
    ∀ x : Nat, (x : Int) + d = rd cy (i : Int) → (∀ x' : Nat, x' < x → ¬ May cy off i (x' : Int)) → Ev (fun n => spec_l8Room.l1 n cy off (i : Int) (x : Int)) R := by
  have h5 := hc.1
  have ci := cyc_at hc i hi
  have hw2 : wrap64 ((i : Int) + 1) = ((i + 1 : Nat) : Int) := by rw [wid (by omega) (by omega)]; omega
  induction d with
  | zero =>
    intro x hx hp
    refine ev_succ ?_
    simp only [spec_l8Room.l1]
    refine ev_pos (by omega) (ev_pos (by omega) (ev_neg (by omega) (ev_pos (by omega) (ev_cast (ev_some _) (hno ?_).symm))))
    rintro ⟨y, y0, y1, y2⟩
    refine hp y.toNat (by omega) ?_
    rw [Int.toNat_of_nonneg y0]
    exact y2
  | succ d ih =>
    intro x hx hp
    have hw : wrap64 ((x : Int) + 1) = ((x + 1 : Nat) : Int) := by rw [wid (by omega) (by omega)]; omega
    refine ev_succ ?_
    simp only [spec_l8Room.l1]
    rw [hw, hw2]
    refine ev_pos (by omega) (ev_pos (by omega) (ev_pos (by omega) (ev_bind (may_ev hc hb i hi (x : Int) (by omega) (by omega)) ?_)))
    by_cases h : May cy off i (x : Int)
    · exact ev_pos (decide_eq_true h) (ev_neg (by omega) (hyes ⟨(x : Int), by omega, by omega, h⟩))
    · refine ev_neg (by rw [decide_eq_false h]; decide) (ih (x + 1) (by omega) fun x' h' => ?_)
      by_cases e : x' = x
      · rw [e]; exact h
      · exact hp x' (by omega)
theorem room_l0 {cy off : List Int} (hc : CycOk cy) (hb : Beg cy off) (R : Bool) (hno : ¬ Room cy off → R = false) (hyes : Room cy off → R = true) (d : Nat) :
    ∀ i : Nat, i + d = cy.length → off.length ≤ i → (∀ i' : Nat, off.length ≤ i' → i' < i → RoomAt cy off i') → Ev (fun n => spec_l8Room.l0 n cy off (i : Int)) R := by
  induction d with
  | zero =>
    intro i hi h1 hp
    refine ev_succ ?_
    simp only [spec_l8Room.l0]
    exact ev_neg (by omega) (ev_cast (ev_some _) (hyes fun i' h2 h3 => hp i' h2 (by omega)).symm)
  | succ d ih =>
    intro i hi h1 hp
    refine ev_succ ?_
    simp only [spec_l8Room.l0]
    refine ev_pos (by omega) ?_
    have ci := cyc_at hc i (by omega)
    refine room_l1 hc hb i (by omega) R (fun h => hno fun hh => h (hh i h1 (by omega))) (fun h => ih (i + 1) (by omega) (by omega) fun i' h2 h3 => ?_) (rd cy (i : Int)).toNat 0 (by omega) (fun x h => by omega)
    by_cases e : i' = i
    · rw [e]; exact h
    · exact hp i' h2 (by omega)
theorem room_ev {cy off : List Int} (hc : CycOk cy) (hb : Beg cy off) : ∃ R : Bool, (R = true ↔ Room cy off) ∧ Ev (fun n => spec_l8Room.f n cy off) R := by
  have hl := hb.1
  unfold spec_l8Room.f
  by_cases h : Room cy off
  · exact ⟨true, by simp [h], room_l0 hc hb true (fun hn => absurd h hn) (fun _ => rfl) (cy.length - off.length) off.length (by omega) (Nat.le_refl _) (fun i' h1 h2 => by omega)⟩
  · exact ⟨false, by simp [h], room_l0 hc hb false (fun _ => rfl) (fun hn => absurd hn h) (cy.length - off.length) off.length (by omega) (Nat.le_refl _) (fun i' h1 h2 => by omega)⟩
theorem own_eq (xs : List Int) (h : xs.length < 17592186044416) : spec_l1Own.f xs = some xs := by
  unfold spec_l1Own.f
  simp [h]
theorem place_l0 {cy off : List Int} (hc : CycOk cy) (hb : Beg cy off) (hl : off.length < cy.length) (g : Int → Option (List Int)) (hg : ∀ x : Int, 0 ≤ x → x < rd cy (off.length : Int) → ∀ R, (∀ (_ : May cy off off.length x), ∀ r, g x = some r → R = (r, true)) → (g x = none → Ev (fun n => spec_l8Place.l0 n cy off (off.length : Int) true (x + 1)) R) → Ev (fun n => spec_l8Place.j1 n cy off (off.length : Int) true x true) R) (m : Nat) :
    ∀ x : Int, 0 ≤ x → x + (m : Int) = rd cy (off.length : Int) → (∀ y r, g y = some r → May cy off off.length y) → Ev (fun n => spec_l8Place.l0 n cy off (off.length : Int) true x) (resF (firstOf g m x)) := by
  induction m with
  | zero =>
    intro x h0 hx hm
    refine ev_succ ?_
    simp only [spec_l8Place.l0]
    refine ev_pos (by omega) (ev_pos (by omega) (ev_neg (by omega) (ev_succ ?_)))
    simp only [spec_l8Place.j1]
    exact ev_neg (by decide) (ev_some _)
  | succ m ih =>
    intro x h0 hx hm
    refine ev_succ ?_
    simp only [spec_l8Place.l0]
    refine ev_pos (by omega) (ev_pos (by omega) (ev_pos (by omega) (hg x h0 (by omega) _ (fun h r e => ?_) fun e => ?_)))
    · unfold firstOf
      rw [e]
      rfl
    · have := ih (x + 1) (by omega) (by omega) hm
      unfold firstOf
      rw [e]
      exact this
theorem place_ev {cy : List Int} (hc : CycOk cy) : ∀ (d : Nat) (off : List Int), off.length + d = cy.length → Beg cy off → Ev (fun n => spec_l8Place.f n cy off) (resF (seek cy d off))
  | 0, off, hd, hb => by
    refine ev_succ ?_
    simp only [spec_l8Place.f]
    exact ev_pos (by omega) (ev_some _)
  | d + 1, off, hd, hb => by
    have h5 := hc.1
    have hl : off.length < cy.length := by omega
    have ci := cyc_at hc off.length hl
    obtain ⟨R, hR, hRe⟩ := room_ev hc hb
    refine ev_succ ?_
    simp only [spec_l8Place.f]
    refine ev_neg (by omega) (ev_bind hRe ?_)
    cases R with
    | false =>
      have hno : seek cy (d + 1) off = none := by
        cases e : seek cy (d + 1) off with
        | none => rfl
        | some r => exact absurd (hR.2 (ext_room hb.1 (seek_some cy r _ off hd e))) (by decide)
      rw [hno]
      refine ev_succ ?_
      simp only [spec_l8Place.l0]
      refine ev_pos (by omega) (ev_pos (by omega) (ev_pos (by omega) (ev_succ ?_)))
      simp only [spec_l8Place.j1]
      exact ev_neg (by decide) (ev_some _)
    | true =>
      unfold seek
      refine place_l0 hc hb hl _ (fun x h0 h1 R h2 h3 => ?_) _ 0 (Int.le_refl 0) (by omega) (fun y r h => ?_)
      · have hw : wrap64 (x + 1) = x + 1 := wid (by omega) (by omega)
        have hb2 := beg_snoc hc hb hl h0 h1
        have ih := place_ev hc d (off ++ [x]) (by simp; omega) hb2
        refine ev_succ ?_
        simp only [spec_l8Place.j1, own_eq off (by omega), Option.bind_some]
        rw [hw]
        refine ev_pos trivial (ev_bind (may_ev hc hb off.length hl x h0 (by omega)) ?_)
        by_cases hM : May cy off off.length x
        · have hL := (may_last cy off x).1 hM
          rw [if_pos hL] at h2 h3
          refine ev_pos (decide_eq_true hM) (ev_pos (by omega) (ev_bind ih ?_))
          cases e : seek cy d (off ++ [x]) with
          | some r => exact ev_pos rfl (ev_cast (ev_some _) (h2 hM r e).symm)
          | none => exact ev_neg (by simp [resF]) (h3 e)
        · have hL : ¬ Last cy (off ++ [x]) off.length := fun h => hM ((may_last cy off x).2 h)
          rw [if_neg hL] at h3
          exact ev_neg (by rw [decide_eq_false hM]; decide) (h3 rfl)
      · by_cases hL : Last cy (off ++ [y]) off.length
        · exact (may_last cy off y).2 hL
        · rw [if_neg hL] at h
          cases h
theorem meetsP_l0 {cy off : List Int} (hc : CycOk cy) (hb : Beg cy off) (i : Nat) (hi : off.length = i + 1) (d : Nat) : ∀ j : Nat, j + d = i → (∀ j' : Nat, j' < j → ¬ Meet cy off i j') →
    Ev (fun k => impl_meets.l0 k cy off (i : Int) (i : Int) (j : Int)) (decide (¬ Last cy off i)) := by
  have h5 := hc.1
  have hl := hb.1
  induction d with
  | zero =>
    intro j hj hp
    refine ev_succ ?_
    simp only [impl_meets.l0]
    exact ev_neg (by omega) (ev_false fun h => h fun j' h' => hp j' (by omega))
  | succ d ih =>
    intro j hj hp
    have ci := cyc_at hc i (by omega)
    have cj := cyc_at hc j (by omega)
    have bi := hb.2 i (by omega)
    have bj := hb.2 j (by omega)
    have hw : wrap64 ((j : Int) + 1) = ((j + 1 : Nat) : Int) := by rw [wid (by omega) (by omega)]; omega
    have hd : wrap64 (rd off (j : Int) - rd off (i : Int)) = rd off (j : Int) - rd off (i : Int) := wid (by omega) (by omega)
    refine ev_succ ?_
    simp only [impl_meets.l0]
    rw [hw, hd]
    refine ev_pos (by omega) (ev_pos (by omega) (ev_pos (by omega) (ev_pos (by omega) (ev_pos (by omega) (ev_pos (by omega) (ev_pos (by omega) (ev_bind (divisor_ev _ _ (by omega) (by omega)) (ev_neg (gcdc_ne hc j i (by omega)) ?_))))))))
    by_cases h : Meet cy off j i
    · exact ev_pos h (ev_true fun hh => hh j (by omega) ((meet_comm cy off i j).2 h))
    · refine ev_neg h (ih (j + 1) (by omega) fun j' h' => ?_)
      by_cases e : j' = j
      · rw [e]; exact fun hh => h ((meet_comm cy off i j).1 hh)
      · exact hp j' (by omega)
theorem meetsP_ev {cy off : List Int} (hc : CycOk cy) (hb : Beg cy off) (i : Nat) (hi : off.length = i + 1) : Ev (fun k => impl_meets.f k cy off) (decide (¬ Last cy off i)) := by
  have h5 := hc.1
  have hl := hb.1
  unfold impl_meets.f
  rw [hi, show wrap64 (((i + 1 : Nat) : Int) - 1) = (i : Int) by rw [wid (by omega) (by omega)]; omega]
  exact meetsP_l0 hc hb i hi i 0 (by omega) (fun j h => by omega)
/-- A try of an offset. -/
theorem try_ev {cy off : List Int} (hc : CycOk cy) (hb : Beg cy off) (hl : off.length < cy.length) (d : Nat) (hd : off.length + (d + 1) = cy.length) (x c : Int) (h0 : 0 ≤ x) (h1 : x < rd cy (off.length : Int)) (ih : Ev (fun n => impl_FindOffsetsLit.f n (off ++ [x]) cy) (resF (seek cy d (off ++ [x])))) (R : List Int × Bool)
    (h2 : ∀ r, (if Last cy (off ++ [x]) off.length then seek cy d (off ++ [x]) else none) = some r → R = (r, true)) (h3 : (if Last cy (off ++ [x]) off.length then seek cy d (off ++ [x]) else none) = none → Ev (fun n => impl_FindOffsetsLit.l0 n off cy (off.length : Int) c (x + 1)) R) :
    Ev (fun n => impl_FindOffsetsLit.j1 n off cy (off.length : Int) x c x false) R := by
  have h5 := hc.1
  have ci := cyc_at hc off.length hl
  have hw : wrap64 (x + 1) = x + 1 := wid (by omega) (by omega)
  refine ev_succ ?_
  simp only [impl_FindOffsetsLit.j1]
  rw [hw]
  refine ev_neg (by decide) (ev_pos (by omega) (ev_bind (meetsP_ev hc (beg_snoc hc hb hl h0 h1) off.length (by simp)) ?_))
  by_cases hL : Last cy (off ++ [x]) off.length
  · rw [if_pos hL] at h2 h3
    refine ev_neg (by rw [decide_eq_false (by simpa using hL)]; decide) (ev_bind ih ?_)
    cases e : seek cy d (off ++ [x]) with
    | some r => exact ev_pos rfl (ev_cast (ev_some _) (h2 r e).symm)
    | none => exact ev_neg (by simp [resF]) (h3 e)
  · rw [if_neg hL] at h3
    exact ev_pos (decide_eq_true hL) (h3 rfl)
theorem find_l0 {cy off : List Int} (hc : CycOk cy) (hb : Beg cy off) (hp : 0 < off.length) (hl : off.length < cy.length) (d : Nat) (hd : off.length + (d + 1) = cy.length) (ih : ∀ x : Int, 0 ≤ x → x < rd cy (off.length : Int) → Ev (fun n => impl_FindOffsetsLit.f n (off ++ [x]) cy) (resF (seek cy d (off ++ [x])))) (m : Nat) :
    ∀ x : Int, 0 ≤ x → x + (m : Int) = rd cy (off.length : Int) → Ev (fun n => impl_FindOffsetsLit.l0 n off cy (off.length : Int) (rd cy (off.length : Int)) x) (resF (firstOf (fun x => if Last cy (off ++ [x]) off.length then seek cy d (off ++ [x]) else none) m x)) := by
  induction m with
  | zero =>
    intro x h0 hx
    refine ev_succ ?_
    simp only [impl_FindOffsetsLit.l0]
    exact ev_neg (by omega) (ev_some _)
  | succ m ihm =>
    intro x h0 hx
    refine ev_succ ?_
    simp only [impl_FindOffsetsLit.l0]
    refine ev_pos (by omega) (ev_neg (by omega) (try_ev hc hb hl d hd x _ h0 (by omega) (ih x h0 (by omega)) _ (fun r e => ?_) fun e => ?_))
    · unfold firstOf
      simp only [e]
      rfl
    · have := ihm (x + 1) (by omega) (by omega)
      unfold firstOf
      simp only [e]
      exact this
theorem find_ev {cy : List Int} (hc : CycOk cy) : ∀ (d : Nat) (off : List Int), off.length + d = cy.length → 0 < off.length → Beg cy off → Ev (fun n => impl_FindOffsetsLit.f n off cy) (resF (seek cy d off))
  | 0, off, hd, hp, hb => by
    refine ev_succ ?_
    simp only [impl_FindOffsetsLit.f]
    exact ev_pos (by omega) (ev_some _)
  | d + 1, off, hd, hp, hb => by
    have hl : off.length < cy.length := by omega
    have ci := cyc_at hc off.length hl
    refine ev_succ ?_
    simp only [impl_FindOffsetsLit.f]
    refine ev_neg (by omega) (ev_pos (by omega) (ev_pos (by omega) ?_))
    unfold seek
    exact find_l0 hc hb hp hl d hd (fun x h0 h1 => find_ev hc d (off ++ [x]) (by simp; omega) (by simp) (beg_snoc hc hb hl h0 h1)) _ 0 (Int.le_refl 0) (by omega)
theorem findTop_ev {cy : List Int} (hc : CycOk cy) : Ev (fun n => impl_FindOffsetsLit.f n [] cy) (resF (seek cy cy.length [])) := by
  have hb := beg_nil cy
  obtain ⟨d, hd⟩ : ∃ d, d = cy.length := ⟨_, rfl⟩
  rw [← hd]
  cases d with
  | zero =>
    refine ev_succ ?_
    simp only [impl_FindOffsetsLit.f]
    exact ev_pos (by simp; omega) (ev_some _)
  | succ d =>
    have hl : ([] : List Int).length < cy.length := by simp; omega
    have ci : 1 ≤ rd cy 0 ∧ rd cy 0 ≤ 64 := cyc_at hc 0 (by omega)
    rw [seek_zero hc d hd]
    refine ev_succ ?_
    simp only [impl_FindOffsetsLit.f]
    refine ev_neg (by simp; omega) (ev_pos (by simp) (ev_pos (by simp; omega) (ev_succ ?_)))
    simp only [impl_FindOffsetsLit.l0]
    refine ev_pos (by simp; omega) (ev_pos (by simp) ?_)
    rw [show decide ((0 : Int) > 0) = false by decide]
    have hL : Last cy ([] ++ [0]) ([] : List Int).length := fun j hj => by simp at hj
    refine try_ev hc hb hl d (by simp; omega) 0 _ (Int.le_refl 0) (by simp; omega) (find_ev hc d ([] ++ [0]) (by simp; omega) (by simp) (beg_snoc hc hb hl (Int.le_refl 0) (by simp; omega))) _ (fun r e => ?_) fun e => ?_
    · rw [if_pos hL] at e
      rw [show ([0] : List Int) = [] ++ [0] from rfl, e]
      rfl
    · rw [if_pos hL] at e
      rw [show ([0] : List Int) = [] ++ [0] from rfl, e]
      refine ev_succ ?_
      simp only [impl_FindOffsetsLit.l0]
      by_cases h1 : (0 : Int) + 1 < rd cy ((([] : List Int).length : Nat) : Int)
      · refine ev_pos h1 (ev_pos (by simp) ?_)
        rw [show decide ((0 : Int) + 1 > 0) = true by decide]
        refine ev_succ ?_
        simp only [impl_FindOffsetsLit.j1]
        exact ev_pos trivial (ev_some _)
      · exact ev_neg h1 (ev_some _)
/-- The product of the first cycles, and the sum of its quotients by each. -/
def prodN (cy : List Int) : Nat → Nat
  | 0 => 1
  | i + 1 => prodN cy i * (rd cy (i : Int)).toNat
def quoN (cy : List Int) : Nat → Nat
  | 0 => 0
  | i + 1 => quoN cy i * (rd cy (i : Int)).toNat + prodN cy i
theorem prodN_pos {cy : List Int} (hc : CycOk cy) : ∀ i : Nat, i ≤ cy.length → 0 < prodN cy i
  | 0, _ => Nat.one_pos
  | i + 1, h => by
    have := cyc_at hc i (by omega)
    exact Nat.mul_pos (prodN_pos hc i (by omega)) (by omega)
theorem fr_same {n d : Int} (hn : 0 ≤ n) (hd : 0 < d) : (fr n d).1 * d = (fr n d).2 * n := by
  have hg := gcd_fr_pos (n := n) hd
  have d1 : ((Nat.gcd n.toNat d.toNat : Nat) : Int) ∣ n := by
    have h := Int.natCast_dvd_natCast.2 (Nat.gcd_dvd_left n.toNat d.toNat)
    rwa [Int.toNat_of_nonneg hn] at h
  have d2 : ((Nat.gcd n.toNat d.toNat : Nat) : Int) ∣ d := by
    have h := Int.natCast_dvd_natCast.2 (Nat.gcd_dvd_right n.toNat d.toNat)
    rwa [Int.toNat_of_nonneg (show 0 ≤ d by omega)] at h
  unfold fr
  simp only
  generalize ((Nat.gcd n.toNat d.toNat : Nat) : Int) = g at hg d1 d2
  obtain ⟨a, rfl⟩ := d1
  obtain ⟨b, rfl⟩ := d2
  rw [Int.mul_ediv_cancel_left a (by omega), Int.mul_ediv_cancel_left b (by omega), ← Int.mul_assoc, ← Int.mul_assoc, Int.mul_comm a g, Int.mul_assoc, Int.mul_comm a b, ← Int.mul_assoc, Int.mul_comm g b]
theorem share_cross {cy : List Int} (hc : CycOk cy) (d : Nat) : ∀ (i : Nat) (s : Int × Int), i + d = cy.length → Fr (i : Int) (64 ^ i) s → s.1 * (prodN cy i : Int) = s.2 * (quoN cy i : Int) →
    (shr cy d i s).1 * (prodN cy cy.length : Int) = (shr cy d i s).2 * (quoN cy cy.length : Int) ∧ 0 < (shr cy d i s).2 := by
  induction d with
  | zero =>
    intro i s hi hs h
    have e : i = cy.length := by omega
    subst e
    exact ⟨h, hs.2.2.1⟩
  | succ d ih =>
    intro i s hi hs h
    obtain ⟨f1, f2, _, _⟩ := share_step hc i (by omega) hs
    have ci := cyc_at hc i (by omega)
    refine ih (i + 1) _ (by omega) f2 ?_
    have s2 := hs.2.2.1
    have hf := fr_same (n := s.1 * rd cy (i : Int) + 1 * s.2) (d := s.2 * rd cy (i : Int)) (by have := Int.mul_nonneg hs.1 (show 0 ≤ rd cy (i : Int) by omega); omega) (Int.mul_pos s2 (by omega))
    show (fr (s.1 * rd cy (i : Int) + 1 * s.2) (s.2 * rd cy (i : Int))).1 * ((prodN cy i * (rd cy (i : Int)).toNat : Nat) : Int) = (fr (s.1 * rd cy (i : Int) + 1 * s.2) (s.2 * rd cy (i : Int))).2 * ((quoN cy i * (rd cy (i : Int)).toNat + prodN cy i : Nat) : Int)
    rw [Int.natCast_add, Int.natCast_mul, Int.natCast_mul, Int.toNat_of_nonneg (by omega)]
    generalize (fr (s.1 * rd cy (i : Int) + 1 * s.2) (s.2 * rd cy (i : Int))) = q at hf
    obtain ⟨a, b⟩ := q
    simp only at hf ⊢
    obtain ⟨p, t⟩ := s
    simp only at hf h s2
    generalize ((prodN cy i : Nat) : Int) = P at h ⊢
    generalize ((quoN cy i : Nat) : Int) = S at h ⊢
    generalize rd cy (i : Int) = c at hf ⊢
    refine Int.eq_of_mul_eq_mul_left (show t ≠ 0 by omega) ?_
    have e1 : t * (a * (P * c)) = P * (a * (t * c)) := by
      rw [Int.mul_left_comm t a, Int.mul_left_comm P a, Int.mul_left_comm t P]
    have e4 : P * (p * c) = c * (p * P) := by rw [Int.mul_left_comm, Int.mul_comm P c, Int.mul_left_comm]
    have e2 : P * (b * (p * c + 1 * t)) = b * (c * (p * P) + P * t) := by
      rw [Int.one_mul, Int.mul_left_comm P b, Int.mul_add P, e4]
    have e3 : t * (b * (S * c + P)) = b * (c * (t * S) + P * t) := by
      rw [Int.mul_left_comm t b, Int.mul_add t, Int.mul_comm P t, Int.mul_left_comm c t S, Int.mul_comm c S]
    rw [e1, hf, e2, h, e3]
/-- How many of the first n days. -/
def days (p : Nat → Bool) (n : Nat) : Nat := (List.range n).countP p
theorem days_le (p : Nat → Bool) (n : Nat) : days p n ≤ n := by
  have := List.countP_le_length (p := p) (l := List.range n)
  simpa [days] using this
theorem days_succ (p : Nat → Bool) (n : Nat) : days p (n + 1) = days p n + (if p n then 1 else 0) := by
  unfold days
  rw [List.range_succ, List.countP_append, List.countP_singleton]
theorem days_or (p q : Nat → Bool) (h : ∀ d, ¬ (p d = true ∧ q d = true)) (n : Nat) : days (fun d => p d || q d) n = days p n + days q n := by
  induction n with
  | zero => rfl
  | succ n ih =>
    rw [days_succ, days_succ, days_succ, ih]
    have := h n
    cases hp : p n <;> cases hq : q n <;> simp [hp, hq] at this ⊢ <;> omega
theorem days_mod_add (c o m k : Nat) : days (fun d => decide (d % c = o)) (c * m + k) = days (fun d => decide (d % c = o)) (c * m) + days (fun d => decide (d % c = o)) k := by
  induction k with
  | zero => simp [days]
  | succ k ih =>
    rw [← Nat.add_assoc, days_succ, days_succ, ih, Nat.mul_add_mod]
    omega
theorem days_one (c o : Nat) (ho : o < c) (k : Nat) (hk : k ≤ c) : days (fun d => decide (d % c = o)) k = if o < k then 1 else 0 := by
  induction k with
  | zero => simp [days]
  | succ k ih =>
    rw [days_succ, ih (by omega), Nat.mod_eq_of_lt (by omega)]
    by_cases h1 : o < k
    · simp [h1, show ¬ k = o by omega, show o < k + 1 by omega]
    · by_cases h2 : k = o
      · simp [h2]
      · simp [h1, h2, show ¬ o < k + 1 by omega]
theorem days_mod (c o : Nat) (ho : o < c) (m : Nat) : days (fun d => decide (d % c = o)) (c * m) = m := by
  induction m with
  | zero => simp [days]
  | succ m ih =>
    rw [Nat.mul_succ, days_mod_add, ih, days_one c o ho c (Nat.le_refl c), if_pos ho]
/-- A day with one of the first visits. -/
def busyN (cy r : List Int) : Nat → Nat → Bool
  | 0, _ => false
  | i + 1, d => busyN cy r i d || decide (d % (rd cy (i : Int)).toNat = (rd r (i : Int)).toNat)
theorem busyN_at (cy r : List Int) (d : Nat) : ∀ n : Nat, busyN cy r n d = true → ∃ i, i < n ∧ d % (rd cy (i : Int)).toNat = (rd r (i : Int)).toNat
  | 0, h => by simp [busyN] at h
  | n + 1, h => by
    simp only [busyN, Bool.or_eq_true, decide_eq_true_eq] at h
    rcases h with h | h
    · obtain ⟨i, h1, h2⟩ := busyN_at cy r d n h
      exact ⟨i, by omega, h2⟩
    · exact ⟨n, by omega, h⟩
/-- Two visits on one day meet. -/
theorem same_day {cy r : List Int} (i j d : Nat) (h0 : 0 ≤ rd r (i : Int)) (h1 : 0 ≤ rd r (j : Int)) (hi : d % (rd cy (i : Int)).toNat = (rd r (i : Int)).toNat) (hj : d % (rd cy (j : Int)).toNat = (rd r (j : Int)).toNat) : Meet cy r i j := by
  refine (meet_iff cy r i j).2 ?_
  have g1 := Nat.gcd_dvd_left (rd cy (i : Int)).toNat (rd cy (j : Int)).toNat
  have g2 := Nat.gcd_dvd_right (rd cy (i : Int)).toNat (rd cy (j : Int)).toNat
  have a1 := Nat.mod_add_div d (rd cy (i : Int)).toNat
  have a2 := Nat.mod_add_div d (rd cy (j : Int)).toNat
  rw [hi] at a1
  rw [hj] at a2
  have e : rd r (i : Int) - rd r (j : Int) = (((rd cy (j : Int)).toNat * (d / (rd cy (j : Int)).toNat) : Nat) : Int) - (((rd cy (i : Int)).toNat * (d / (rd cy (i : Int)).toNat) : Nat) : Int) := by omega
  rw [e]
  exact Int.dvd_sub (Int.natCast_dvd_natCast.2 (Nat.dvd_mul_right_of_dvd g2 _)) (Int.natCast_dvd_natCast.2 (Nat.dvd_mul_right_of_dvd g1 _))
theorem busy_count {cy r : List Int} (hc : CycOk cy) (hr : ∀ i : Nat, i < cy.length → 0 ≤ rd r (i : Int) ∧ rd r (i : Int) < rd cy (i : Int) ∧ Last cy r i) : ∀ i : Nat, i ≤ cy.length → ∀ m : Nat, days (busyN cy r i) (prodN cy i * m) = quoN cy i * m
  | 0, _, m => by
    have : ∀ n, days (busyN cy r 0) n = 0 := by
      intro n
      induction n with
      | zero => rfl
      | succ n ih => rw [days_succ, ih]; simp [busyN]
    rw [this]
    simp [quoN]
  | i + 1, hi, m => by
    obtain ⟨h0, h1, h2⟩ := hr i (by omega)
    have ih := busy_count hc hr i (by omega) ((rd cy (i : Int)).toNat * m)
    have hd := days_or (busyN cy r i) (fun d => decide (d % (rd cy (i : Int)).toNat = (rd r (i : Int)).toNat)) (fun d hh => by
      obtain ⟨j, hj1, hj2⟩ := busyN_at cy r d i hh.1
      exact h2 j hj1 (same_day i j d h0 (hr j (by omega)).1 (of_decide_eq_true hh.2) hj2)) (prodN cy i * (rd cy (i : Int)).toNat * m)
    have hm := days_mod (rd cy (i : Int)).toNat (rd r (i : Int)).toNat (by omega) (prodN cy i * m)
    show days (fun d => busyN cy r i d || decide (d % (rd cy (i : Int)).toNat = (rd r (i : Int)).toNat)) (prodN cy i * (rd cy (i : Int)).toNat * m) = (quoN cy i * (rd cy (i : Int)).toNat + prodN cy i) * m
    rw [hd]
    rw [show prodN cy i * (rd cy (i : Int)).toNat * m = prodN cy i * ((rd cy (i : Int)).toNat * m) from Nat.mul_assoc _ _ _, ih]
    rw [show prodN cy i * ((rd cy (i : Int)).toNat * m) = (rd cy (i : Int)).toNat * (prodN cy i * m) from Nat.mul_left_comm _ _ _, hm, Nat.add_mul, Nat.mul_assoc]
/-- Visits that never meet take a share of at most all days. -/
theorem share_le {cy r : List Int} (hc : CycOk cy) (h : Ext cy [] r) : (shareOf cy).1 ≤ (shareOf cy).2 := by
  have h1 := busy_count hc (fun i hi => h.2.2 i (Nat.zero_le i) hi) cy.length (Nat.le_refl _) 1
  have h2 := days_le (busyN cy r cy.length) (prodN cy cy.length * 1)
  rw [h1, Nat.mul_one, Nat.mul_one] at h2
  obtain ⟨h3, h4⟩ := share_cross hc cy.length 0 (0, 1) (by omega) ⟨by simp, by simp, by simp, by simp⟩ (by simp [prodN, quoN])
  have hp := prodN_pos hc cy.length (Nat.le_refl _)
  show (shr cy cy.length 0 (0, 1)).1 ≤ (shr cy cy.length 0 (0, 1)).2
  generalize shr cy cy.length 0 (0, 1) = s at h3 h4
  generalize quoN cy cy.length = S at h2 h3
  generalize prodN cy cy.length = P at h2 h3 hp
  have h5 : s.1 * (P : Int) ≤ s.2 * (P : Int) := by
    rw [h3]
    exact Int.mul_le_mul_of_nonneg_left (by omega) (by omega)
  exact Int.le_of_mul_le_mul_right h5 (by omega)

def ans (cy : List Int) : List Int × Bool := if CycOk cy then resF (seek cy cy.length []) else ([], false)
theorem ans_length (cy : List Int) : (ans cy).1.length ≤ 5 := by
  unfold ans
  split
  · rename_i h
    cases e : seek cy cy.length [] with
    | none => simp [resF]
    | some r =>
      have h1 := (seek_some cy r _ _ (by simp) e).1
      have h2 := h.1
      simp only [resF]
      omega
  · simp
theorem spec_ev (cy : List Int) (hl : cy.length ≤ 35184372088832) : Ev (fun k => spec_FindOffsets.f k cy) (ans cy) := by
  unfold spec_FindOffsets.f ans
  refine ev_bind (l8Cycles_ev cy hl) ?_
  by_cases h : CycOk cy
  · rw [if_pos h]
    refine ev_pos (by simpa using h) (ev_bind (specShare_ev cy h) ?_)
    by_cases hs : (shareOf cy).1 > (shareOf cy).2
    · refine ev_pos hs (ev_cast (ev_some _) ?_)
      cases e : seek cy cy.length [] with
      | none => rfl
      | some r => exact absurd (share_le h (seek_some cy r _ _ (by simp) e)) (by omega)
    · exact ev_neg hs (ev_bind (place_ev h cy.length [] (by simp) (beg_nil cy)) (ev_some _))
  · rw [if_neg h]
    exact ev_neg (by simpa using h) (ev_some _)
theorem impl_ev (cy : List Int) (hl : cy.length ≤ 35184372088832) : Ev (fun k => impl_FindOffsets.f k cy) (ans cy) := by
  unfold impl_FindOffsets.f ans
  refine ev_bind (areCycles_ev cy hl) ?_
  by_cases h : CycOk cy
  · rw [if_pos h]
    exact ev_pos (by simpa using h) (ev_bind (findTop_ev h) (ev_some _))
  · rw [if_neg h]
    exact ev_neg (by simpa using h) (ev_some _)
theorem FnExactFindOffsets (l0 : List Int) (hl0 : l0.length ≤ maxLen) (hw0 : ∀ x ∈ l0, (Lit.int .i64 x).wf = true) :
    ∃ k, laws_FnExactFindOffsets.f k l0 = some true := by
  refine Ev.rounds ?_
  unfold laws_FnExactFindOffsets.f
  by_cases c0 : (l0.length : Int) > 1048576
  · exact ev_pos c0 (ev_some _)
  refine ev_neg c0 ?_
  have h0 : l0.length ≤ 35184372088832 := by omega
  have t0 := toIntS_ev l0 h0
  have hs := spec_ev l0 h0
  have hi := impl_ev l0 h0
  have ha := ans_length l0
  generalize ans l0 = r at hs hi ha
  obtain ⟨v, b⟩ := r
  simp only at ha
  refine ev_bind t0 (ev_bind hs (ev_bind t0 (ev_bind hi (ev_bind (eqIntS_ev v v (by omega)) (ev_pos (by simp) (ev_neg (by simp) ?_))))))
  refine ev_bind t0 (ev_bind (eqIntS_ev l0 l0 h0) (ev_pos (by simp) (ev_bind (mark_ev l0 1 (by omega) h0 (by omega)) (ev_neg (by simp only; omega) ?_))))
  refine ev_bind (eqIntS_ev v v (by omega)) (ev_pos (by simp) (ev_bind (mark_ev v 1 (by omega) (by omega) (by omega)) (ev_bind (held_ev 1 v.length (by omega) (by omega) (by omega)) (ev_neg (by omega) (ev_pos rfl ?_)))))
  refine ev_bind t0 (ev_bind hi (ev_bind (eqIntS_ev v v (by omega)) (ev_pos (by simp) (ev_neg (by simp) ?_))))
  exact ev_bind (held_ev 1 v.length (by omega) (by omega) (by omega)) (ev_neg (by omega) (ev_pos rfl (ev_some _)))

end Go.Proofs.Ytjkhomkdfbebgaa.Pure
