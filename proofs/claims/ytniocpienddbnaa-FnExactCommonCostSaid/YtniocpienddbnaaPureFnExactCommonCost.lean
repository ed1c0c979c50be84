/- The program's CommonCost and the reference's add the same quotients, in lowest terms; the lower parts divide the cycle times the doubled rates. No conditions. -/
import Derived.Test.YtniocpienddbnaaKit
import Derived.Test.YtniocpienddbnaaXFnExactCommonCostx5
namespace Go.Proofs.Ytniocpienddbnaa.Pure
set_option linter.unusedVariables false
open Go.RowKit Go.Proofs.Ytniocpienddbnaa.PFnExactCommonCost Go.Proofs.YtniocpienddbnaaW.PrintWords Go.Proofs.YtniocpienddbnaaW.PrintLast Go.Proofs.Ytniocpienddbnaa.Kit

theorem in_eq (a b c : Int) : spec_l1In.f a b c = some (decide (b ≤ a ∧ a ≤ c)) := by
  unfold spec_l1In.f
  by_cases h : b ≤ a <;> simp [h]
theorem within_eq (a b c : Int) : impl_within.f a b c = some (decide (b ≤ a ∧ a ≤ c)) := by
  unfold impl_within.f
  by_cases h : b ≤ a <;> simp [h]
theorem gcd_l0 (b : Nat) : ∀ a : Nat, Ev (fun k => spec_l8Gcd.l0 k (a : Int) (b : Int)) ((Nat.gcd a b : Nat) : Int) := by
  induction b using Nat.strongRecOn with
  | _ b ih =>
    intro a
    refine ev_succ ?_
    simp only [spec_l8Gcd.l0]
    by_cases h : b = 0
    · subst h
      exact ev_neg (by omega) (ev_cast (ev_some _) (by simp))
    · refine ev_pos (by omega) (ev_neg (by omega) ?_)
      have e : Int.tmod (a : Int) (b : Int) = ((a % b : Nat) : Int) := rfl
      rw [e]
      refine ev_cast (ih (a % b) (Nat.mod_lt _ (by omega)) b) ?_
      rw [Nat.gcd_comm b, ← Nat.gcd_rec, Nat.gcd_comm]
theorem gcd_ev (a b : Int) (ha : 0 ≤ a) (hb : 0 ≤ b) : Ev (fun k => spec_l8Gcd.f k a b) ((Nat.gcd a.toNat b.toNat : Nat) : Int) := by
  unfold spec_l8Gcd.f
  have := gcd_l0 b.toNat a.toNat
  rwa [Int.toNat_of_nonneg ha, Int.toNat_of_nonneg hb] at this
theorem divisor_l0 (b : Nat) : ∀ a : Nat, Ev (fun k => impl_divisor.l0 k (a : Int) (b : Int)) ((Nat.gcd a b : Nat) : Int) := by
  induction b using Nat.strongRecOn with
  | _ b ih =>
    intro a
    refine ev_succ ?_
    simp only [impl_divisor.l0]
    by_cases h : b = 0
    · subst h
      exact ev_pos (by omega) (ev_cast (ev_some _) (by simp))
    · refine ev_neg (by omega) ?_
      have e : Int.tmod (a : Int) (b : Int) = ((a % b : Nat) : Int) := rfl
      rw [e]
      refine ev_cast (ih (a % b) (Nat.mod_lt _ (by omega)) b) ?_
      rw [Nat.gcd_comm b, ← Nat.gcd_rec, Nat.gcd_comm]
theorem divisor_ev (a b : Int) (ha : 0 ≤ a) (hb : 0 ≤ b) : Ev (fun k => impl_divisor.f k a b) ((Nat.gcd a.toNat b.toNat : Nat) : Int) := by
  unfold impl_divisor.f
  have := divisor_l0 b.toNat a.toNat
  rwa [Int.toNat_of_nonneg ha, Int.toNat_of_nonneg hb] at this
/-- A quotient in lowest terms. -/
def fr (n d : Int) : Int × Int := (n / ((Nat.gcd n.toNat d.toNat : Nat) : Int), d / ((Nat.gcd n.toNat d.toNat : Nat) : Int))
theorem gcd_fr_pos {n d : Int} (hd : 0 < d) : 0 < ((Nat.gcd n.toNat d.toNat : Nat) : Int) := by
  have := Nat.gcd_pos_of_pos_right n.toNat (show 0 < d.toNat by omega)
  omega
theorem fr_in {n d : Int} (hn : 0 ≤ n) (hd : 0 < d) : 0 ≤ (fr n d).1 ∧ (fr n d).1 ≤ n ∧ 0 < (fr n d).2 ∧ (fr n d).2 ≤ d := by
  have hg := gcd_fr_pos (n := n) hd
  have hdv : ((Nat.gcd n.toNat d.toNat : Nat) : Int) ∣ d := by
    have h := Nat.gcd_dvd_right n.toNat d.toNat
    have h2 := Int.natCast_dvd_natCast.2 h
    rwa [Int.toNat_of_nonneg (by omega)] at h2
  refine ⟨Int.ediv_nonneg hn (by omega), Int.ediv_le_self _ hn, ?_, Int.ediv_le_self _ (by omega)⟩
  exact Int.ediv_pos_of_pos_of_dvd hd (by omega) hdv
theorem cut_ev (n d : Int) (hn : 0 ≤ n) (hn2 : n ≤ 9223372036854775807) (hd : 0 < d) (hd2 : d ≤ 9223372036854775807) : Ev (fun k => spec_l8Cut.f k n d) (fr n d) := by
  have hg := gcd_fr_pos (n := n) hd
  have h1 := fr_in hn hd
  unfold spec_l8Cut.f
  refine ev_bind (gcd_ev n d hn (by omega)) (ev_neg (by omega) (ev_cast (ev_some _) ?_))
  unfold fr at h1 ⊢
  simp only at h1
  rw [Int.tdiv_eq_ediv_of_nonneg hn, Int.tdiv_eq_ediv_of_nonneg (by omega), wid (by omega) (by omega), wid (by omega) (by omega)]
theorem fraction_ev (n d : Int) (hn : 0 ≤ n) (hn2 : n ≤ 9223372036854775807) (hd : 0 < d) (hd2 : d ≤ 9223372036854775807) : Ev (fun k => impl_fraction.f k n d) (fr n d) := by
  have hg := gcd_fr_pos (n := n) hd
  have h1 := fr_in hn hd
  unfold impl_fraction.f
  refine ev_bind (divisor_ev n d hn (by omega)) (ev_neg (by omega) (ev_cast (ev_some _) ?_))
  unfold fr at h1 ⊢
  simp only at h1
  rw [Int.tdiv_eq_ediv_of_nonneg hn, Int.tdiv_eq_ediv_of_nonneg (by omega), wid (by omega) (by omega), wid (by omega) (by omega)]
/-- The sum of two quotients. -/
def addf (x y : Int × Int) : Int × Int := fr (x.1 * y.2 + y.1 * x.2) (x.2 * y.2)
/-- A quotient of at most B, its lower part at most D. -/
def Fr (B D : Int) (x : Int × Int) : Prop := 0 ≤ x.1 ∧ x.1 ≤ B * x.2 ∧ 0 < x.2 ∧ x.2 ≤ D
theorem fr_fr {n d B D : Int} (hn : 0 ≤ n) (hb : n ≤ B * d) (hd : 0 < d) (hD : d ≤ D) : Fr B D (fr n d) := by
  have h := fr_in hn hd
  have hg := gcd_fr_pos (n := n) hd
  refine ⟨h.1, ?_, h.2.2.1, by omega⟩
  have h1 : ((Nat.gcd n.toNat d.toNat : Nat) : Int) ∣ d := by
    have h := Nat.gcd_dvd_right n.toNat d.toNat
    have h2 := Int.natCast_dvd_natCast.2 h
    rwa [Int.toNat_of_nonneg (by omega)] at h2
  unfold fr
  simp only
  refine Int.ediv_le_of_le_mul hg ?_
  rw [Int.mul_assoc, Int.ediv_mul_cancel h1]
  exact hb
theorem fr_scale (n d m : Int) (hn : 0 ≤ n) (hd : 0 < d) (hm : 0 < m) : fr (n * m) (d * m) = fr n d := by
  obtain ⟨N, rfl⟩ := Int.eq_ofNat_of_zero_le hn
  obtain ⟨M, rfl⟩ := Int.eq_ofNat_of_zero_le (show 0 ≤ m by omega)
  obtain ⟨D, rfl⟩ := Int.eq_ofNat_of_zero_le (show 0 ≤ d by omega)
  have e1 : ((N : Int) * (M : Int)) = ((N * M : Nat) : Int) := by simp
  have e2 : ((D : Int) * (M : Int)) = ((D * M : Nat) : Int) := by simp
  unfold fr
  rw [e1, e2]
  simp only [Int.toNat_natCast]
  rw [Nat.gcd_mul_right, Prod.mk.injEq]
  refine ⟨?_, ?_⟩
  · rw [Int.natCast_mul, Int.natCast_mul, Int.mul_ediv_mul_of_pos_left _ _ hm]
  · rw [Int.natCast_mul, Int.natCast_mul, Int.mul_ediv_mul_of_pos_left _ _ hm]
/-- What is needed of the parts of a sum. -/
theorem addf_parts {B B' D D' : Int} {x y : Int × Int} (hx : Fr B D x) (hy : Fr B' D' y) (hB : 0 ≤ B) (hB' : 0 ≤ B') :
    0 ≤ x.1 * y.2 ∧ 0 ≤ y.1 * x.2 ∧ x.1 * y.2 + y.1 * x.2 ≤ (B + B') * (x.2 * y.2) ∧ 0 < x.2 * y.2 ∧ x.2 * y.2 ≤ D * D' ∧ (B + B') * (x.2 * y.2) ≤ (B + B') * (D * D') := by
  obtain ⟨a1, a2, a3, a4⟩ := hx
  obtain ⟨b1, b2, b3, b4⟩ := hy
  have q0 : 0 < x.2 * y.2 := Int.mul_pos a3 b3
  have q1 : x.2 * y.2 ≤ D * D' := Int.mul_le_mul a4 b4 (by omega) (by omega)
  have n1 : x.1 * y.2 ≤ B * x.2 * y.2 := Int.mul_le_mul_of_nonneg_right a2 (by omega)
  have n2 : y.1 * x.2 ≤ B' * y.2 * x.2 := Int.mul_le_mul_of_nonneg_right b2 (by omega)
  refine ⟨Int.mul_nonneg a1 (by omega), Int.mul_nonneg b1 (by omega), ?_, q0, q1, Int.mul_le_mul_of_nonneg_left q1 (by omega)⟩
  rw [Int.add_mul]
  rw [Int.mul_assoc] at n1 n2
  rw [Int.mul_comm y.2 x.2] at n2
  omega
theorem addf_fr {B B' D D' : Int} {x y : Int × Int} (hx : Fr B D x) (hy : Fr B' D' y) (hB : 0 ≤ B) (hB' : 0 ≤ B') : Fr (B + B') (D * D') (addf x y) := by
  obtain ⟨h1, h2, h3, h4, h5, h6⟩ := addf_parts hx hy hB hB'
  exact fr_fr (by omega) h3 h4 h5
theorem add_ev {B B' D D' : Int} {x y : Int × Int} (hx : Fr B D x) (hy : Fr B' D' y) (hB : 0 ≤ B) (hB' : 0 ≤ B') (hs : (B + B') * (D * D') ≤ 9223372036854775807) (hd : D * D' ≤ 9223372036854775807) :
    Ev (fun k => spec_l8Add.f k x.1 x.2 y.1 y.2) (addf x y) := by
  obtain ⟨h1, h2, h3, h4, h5, h6⟩ := addf_parts hx hy hB hB'
  obtain ⟨p, q⟩ := x
  obtain ⟨u, v⟩ := y
  obtain ⟨a1, a2, a3, a4⟩ := hx
  obtain ⟨b1, b2, b3, b4⟩ := hy
  simp only at *
  have hg : 0 < ((Nat.gcd q.toNat v.toNat : Nat) : Int) := gcd_fr_pos (n := q) b3
  have dq : ((Nat.gcd q.toNat v.toNat : Nat) : Int) ∣ q := by
    have h2 := Int.natCast_dvd_natCast.2 (Nat.gcd_dvd_left q.toNat v.toNat)
    rwa [Int.toNat_of_nonneg (by omega)] at h2
  have dv : ((Nat.gcd q.toNat v.toNat : Nat) : Int) ∣ v := by
    have h2 := Int.natCast_dvd_natCast.2 (Nat.gcd_dvd_right q.toNat v.toNat)
    rwa [Int.toNat_of_nonneg (by omega)] at h2
  unfold spec_l8Add.f addf
  refine ev_bind (gcd_ev q v (by omega) (by omega)) (ev_neg (by omega) ?_)
  generalize ((Nat.gcd q.toNat v.toNat : Nat) : Int) = g at hg dq dv
  obtain ⟨q', rfl⟩ := dq
  obtain ⟨v', rfl⟩ := dv
  have q'0 : 0 < q' := by
    rcases Int.lt_trichotomy q' 0 with h | h | h
    · have := Int.mul_neg_of_pos_of_neg hg h; omega
    · rw [h, Int.mul_zero] at a3; omega
    · exact h
  have v'0 : 0 < v' := by
    rcases Int.lt_trichotomy v' 0 with h | h | h
    · have := Int.mul_neg_of_pos_of_neg hg h; omega
    · rw [h, Int.mul_zero] at b3; omega
    · exact h
  have e1 : Int.tdiv (g * v') g = v' := by rw [Int.tdiv_eq_ediv_of_nonneg (by omega), Int.mul_ediv_cancel_left _ (by omega)]
  have e2 : Int.tdiv (g * q') g = q' := by rw [Int.tdiv_eq_ediv_of_nonneg (by omega), Int.mul_ediv_cancel_left _ (by omega)]
  have k1 : v' ≤ g * v' := by have := Int.mul_le_mul_of_nonneg_right (show 1 ≤ g by omega) (show 0 ≤ v' by omega); omega
  have k2 : q' ≤ g * q' := by have := Int.mul_le_mul_of_nonneg_right (show 1 ≤ g by omega) (show 0 ≤ q' by omega); omega
  have hq : g * q' ≤ 9223372036854775807 := by
    have := Int.mul_le_mul_of_nonneg_left (show 1 ≤ g * v' by omega) (show 0 ≤ g * q' by omega)
    omega
  have hv : g * v' ≤ 9223372036854775807 := by
    have := Int.mul_le_mul_of_nonneg_right (show 1 ≤ g * q' by omega) (show 0 ≤ g * v' by omega)
    omega
  have m1 : 0 ≤ p * v' := Int.mul_nonneg a1 (by omega)
  have m2 : 0 ≤ u * q' := Int.mul_nonneg b1 (by omega)
  have m3 : p * v' ≤ p * (g * v') := Int.mul_le_mul_of_nonneg_left k1 a1
  have m4 : u * q' ≤ u * (g * q') := Int.mul_le_mul_of_nonneg_left k2 b1
  have m5 : q' * (g * v') ≤ g * q' * (g * v') := Int.mul_le_mul_of_nonneg_right k2 (by omega)
  have m6 : 0 < q' * (g * v') := Int.mul_pos q'0 b3
  rw [e1, e2, wid (x := v') (by omega) (by omega), wid (x := q') (by omega) (by omega), wid (x := p * v') (by omega) (by omega), wid (x := u * q') (by omega) (by omega), wid (x := q' * (g * v')) (by omega) (by omega), wid (by omega) (by omega)]
  refine ev_bind (cut_ev _ _ (by omega) (by omega) m6 (by omega)) (ev_cast (ev_some _) ?_)
  show fr (p * v' + u * q') (q' * (g * v')) = fr (p * (g * v') + u * (g * q')) (g * q' * (g * v'))
  rw [← fr_scale (p * v' + u * q') (q' * (g * v')) g (by omega) m6 hg]
  congr 1
  · rw [Int.add_mul, Int.mul_assoc, Int.mul_assoc, Int.mul_comm v' g, Int.mul_comm q' g]
  · rw [Int.mul_comm (q' * (g * v')) g, ← Int.mul_assoc]
theorem plus_ev {B B' D D' : Int} {x y : Int × Int} (hx : Fr B D x) (hy : Fr B' D' y) (hB : 0 ≤ B) (hB' : 0 ≤ B') (hs : (B + B') * (D * D') ≤ 9223372036854775807) (hd : D * D' ≤ 9223372036854775807) :
    Ev (fun k => impl_plus.f k x.1 x.2 y.1 y.2) (addf x y) := by
  obtain ⟨h1, h2, h3, h4, h5, h6⟩ := addf_parts hx hy hB hB'
  unfold impl_plus.f addf
  rw [wid (x := x.1 * y.2) (by omega) (by omega), wid (x := y.1 * x.2) (by omega) (by omega), wid (x := x.2 * y.2) (by omega) (by omega), wid (by omega) (by omega)]
  exact ev_bind (fraction_ev _ _ (by omega) (by omega) h4 (by omega)) (ev_some _)
/-- What a valid item is. -/
def ItemOk (a b c d e : Int) : Prop := (1 ≤ a ∧ a ≤ 20) ∧ (1 ≤ b ∧ b ≤ 99) ∧ (1 ≤ c ∧ c ≤ 9) ∧ (a + 1 ≤ d ∧ d ≤ 40) ∧ (0 ≤ e ∧ e ≤ 9)
instance (a b c d e : Int) : Decidable (ItemOk a b c d e) := by unfold ItemOk; infer_instance
theorem specItem_eq (a b c d e : Int) : spec_l8Item.f a b c d e = some (decide (ItemOk a b c d e)) := by
  unfold spec_l8Item.f ItemOk
  simp only [in_eq, Option.bind_some]
  by_cases h1 : 1 ≤ a ∧ a ≤ 20
  · rw [show wrap64 (a + 1) = a + 1 from wid (by omega) (by omega)]
    by_cases h2 : 1 ≤ b ∧ b ≤ 99 <;> by_cases h3 : 1 ≤ c ∧ c ≤ 9 <;> by_cases h4 : a + 1 ≤ d ∧ d ≤ 40 <;> simp [h1, h2, h3, h4]
  · simp [h1]
theorem implItem_eq (a b c d e : Int) : impl_IsItem.f a b c d e = some (decide (ItemOk a b c d e)) := by
  unfold impl_IsItem.f ItemOk
  simp only [within_eq, Option.bind_some]
  by_cases h1 : 1 ≤ a ∧ a ≤ 20
  · rw [show wrap64 (a + 1) = a + 1 from wid (by omega) (by omega)]
    by_cases h2 : 1 ≤ b ∧ b ≤ 99 <;> by_cases h3 : 1 ≤ c ∧ c ≤ 9 <;> by_cases h4 : a + 1 ≤ d ∧ d ≤ 40 <;> simp [h1, h2, h3, h4]
  · simp [h1]
/-- What a family is. -/
def ItOk (x : S39) : Prop := ItemOk x.f0 x.f1 x.f2 x.f3 x.f4
instance (x : S39) : Decidable (ItOk x) := by unfold ItOk; infer_instance
def FamOk (l : List S39) : Prop := (∀ x ∈ l, ItOk x) ∧ 1 ≤ (l.length : Int) ∧ (l.length : Int) ≤ 4
instance (l : List S39) : Decidable (FamOk l) := by unfold FamOk; infer_instance
theorem rd2_nat (xs : List S39) (i : Nat) (h : i < xs.length) : rd_T39 xs (i : Int) = xs[i] := by
  unfold rd_T39
  simp [List.getD_eq_getElem?_getD, h]
theorem rd1_nat (xs : List S41) (i : Nat) (h : i < xs.length) : rd_T41 xs (i : Int) = xs[i] := by
  unfold rd_T41
  simp [List.getD_eq_getElem?_getD, h]
theorem drop_rd2 (xs : List S39) (i : Nat) (h : i < xs.length) : xs.drop i = rd_T39 xs (i : Int) :: xs.drop (i + 1) := by
  rw [rd2_nat xs i h]
  exact List.drop_eq_getElem_cons h
theorem specFamily_l0 (xs : List S39) (hn : xs.length ≤ 35184372088832) (d : Nat) : ∀ (i : Nat), i + d = xs.length →
    Ev (fun k => spec_l8Family.l0 k xs (i : Int)) (decide ((∀ x ∈ xs.drop i, ItOk x) ∧ 1 ≤ (xs.length : Int) ∧ (xs.length : Int) ≤ 4)) := by
  induction d with
  | zero =>
    intro i hi
    refine ev_succ ?_
    simp only [spec_l8Family.l0, in_eq, Option.bind_some]
    refine ev_neg (by omega) (ev_dec (ev_some _) ?_)
    rw [List.drop_of_length_le (by omega)]
    simp
  | succ d ih =>
    intro i hi
    refine ev_succ ?_
    simp only [spec_l8Family.l0, specItem_eq, Option.bind_some]
    refine ev_pos (by omega) (ev_pos (by omega) ?_)
    have hw : wrap64 ((i : Int) + 1) = ((i + 1 : Nat) : Int) := by rw [wid (by omega) (by omega)]; omega
    rw [hw, drop_rd2 xs i (by omega)]
    by_cases h : ItOk (rd_T39 xs (i : Int))
    · refine ev_pos (decide_eq_true h) (ev_cast (ih (i + 1) (by omega)) ?_)
      simp [h]
    · exact ev_neg (by rw [decide_eq_true_eq]; exact h) (ev_false fun hh => h (hh.1 _ (by simp)))
theorem specFamily_ev (xs : List S39) (hn : xs.length ≤ 35184372088832) : Ev (fun k => spec_l8Family.f k xs) (decide (FamOk xs)) := by
  unfold spec_l8Family.f FamOk
  exact specFamily_l0 xs hn xs.length 0 (by omega)
theorem implFamily_l0 (xs : List S39) (hn : xs.length ≤ 35184372088832) (d : Nat) : ∀ (i : Nat), i + d = xs.length →
    Ev (fun k => impl_isFamily.l0 k xs xs (xs.length : Int) (i : Int)) (decide ((∀ x ∈ xs.drop i, ItOk x) ∧ 1 ≤ (xs.length : Int) ∧ (xs.length : Int) ≤ 4)) := by
  induction d with
  | zero =>
    intro i hi
    refine ev_succ ?_
    simp only [impl_isFamily.l0, within_eq, Option.bind_some]
    refine ev_neg (by omega) (ev_dec (ev_some _) ?_)
    rw [List.drop_of_length_le (by omega)]
    simp
  | succ d ih =>
    intro i hi
    refine ev_succ ?_
    simp only [impl_isFamily.l0, implItem_eq, Option.bind_some]
    refine ev_pos (by omega) (ev_pos (by omega) (ev_pos (by omega) ?_))
    have hw : wrap64 ((i : Int) + 1) = ((i + 1 : Nat) : Int) := by rw [wid (by omega) (by omega)]; omega
    rw [hw, drop_rd2 xs i (by omega)]
    by_cases h : ItOk (rd_T39 xs (i : Int))
    · refine ev_pos (decide_eq_true h) (ev_cast (ih (i + 1) (by omega)) ?_)
      simp [h]
    · exact ev_neg (by rw [decide_eq_true_eq]; exact h) (ev_false fun hh => h (hh.1 _ (by simp)))
theorem implFamily_ev (xs : List S39) (hn : xs.length ≤ 35184372088832) : Ev (fun k => impl_isFamily.f k xs) (decide (FamOk xs)) := by
  unfold impl_isFamily.f FamOk
  exact implFamily_l0 xs hn xs.length 0 (by omega)
theorem fam_at {xs : List S39} (h : FamOk xs) (i : Nat) (hi : i < xs.length) : ItOk (rd_T39 xs (i : Int)) := by
  rw [rd2_nat xs i hi]
  exact h.1 _ (List.getElem_mem _)
def toI (x : S41) : S39 := ⟨x.f0, x.f1, x.f2, x.f3, x.f4⟩
theorem toItemS_l0 (xs : List S41) (hn : xs.length ≤ 1048576) (d : Nat) : ∀ (i : Nat) (ys : List S39), i + d = xs.length → ys.length = xs.length → ys.take i = (xs.map toI).take i →
    Ev (fun k => laws_toItemS.l0 k xs ys (i : Int)) (xs.map toI) := by
  induction d with
  | zero =>
    intro i ys hi hl ht
    refine ev_succ ?_
    simp only [laws_toItemS.l0]
    refine ev_neg (by omega) ?_
    rw [List.take_of_length_le (by omega), List.take_of_length_le (by simp; omega)] at ht
    rw [ht]
    exact ev_some _
  | succ d ih =>
    intro i ys hi hl ht
    refine ev_succ ?_
    simp only [laws_toItemS.l0, laws_toItem.f, Option.bind_some]
    refine ev_pos (by omega) (ev_pos (by omega) (ev_pos (by omega) ?_))
    have hw : wrap64 ((i : Int) + 1) = ((i + 1 : Nat) : Int) := by rw [wid (by omega) (by omega)]; omega
    rw [hw]
    refine ih (i + 1) _ (by omega) (by simpa using hl) ?_
    rw [rd1_nat xs i (by omega), Int.toNat_natCast, List.take_succ_eq_append_getElem (by simp; omega), List.take_succ_eq_append_getElem (by simp; omega), List.getElem_set_self, List.take_set_of_le (by omega), ht, List.getElem_map]
    rfl
theorem toItemS_ev (xs : List S41) (hn : xs.length ≤ 1048576) : Ev (fun k => laws_toItemS.f k xs) (xs.map toI) := by
  unfold laws_toItemS.f
  refine ev_pos (by omega) (ev_pos (by omega) ?_)
  exact toItemS_l0 xs hn xs.length 0 _ (by omega) (by simp) rfl
theorem eqItemS_l0 (xs : List S39) (hn : xs.length ≤ 1048576) (d : Nat) : ∀ (i : Nat), i + d = xs.length → Ev (fun k => laws_eqItemS.l0 k xs xs (i : Int)) true := by
  induction d with
  | zero =>
    intro i hi
    refine ev_succ ?_
    simp only [laws_eqItemS.l0]
    exact ev_neg (by omega) (ev_some _)
  | succ d ih =>
    intro i hi
    refine ev_succ ?_
    simp only [laws_eqItemS.l0, laws_eqItem.f, if_true, Option.bind_some]
    have hw : wrap64 ((i : Int) + 1) = ((i + 1 : Nat) : Int) := by rw [wid (by omega) (by omega)]; omega
    rw [hw]
    exact ev_pos (by omega) (ev_pos (by omega) (ev_pos (by omega) (ih (i + 1) (by omega))))
theorem eqItemS_ev (xs : List S39) (hn : xs.length ≤ 1048576) : Ev (fun k => laws_eqItemS.f k xs xs) true := by
  unfold laws_eqItemS.f
  exact ev_pos rfl (eqItemS_l0 xs hn xs.length 0 (by omega))
theorem szItemS_eq (xs : List S41) (hl : xs.length ≤ maxLen) : laws_szItemS.f xs 1048576 = some (if (1048576 : Int) - (xs.length : Int) < 0 then -1 else 1048576 - (xs.length : Int)) := by
  unfold maxLen at hl
  unfold laws_szItemS.f
  rw [wid (by omega) (by omega)]
  split <;> rfl
theorem specCommon_ev (xs : List S39) (c : Int) (hn : xs.length ≤ 35184372088832) : Ev (fun k => spec_l8Common.f k xs c) (decide (FamOk xs ∧ 1 ≤ c ∧ c ≤ 400)) := by
  unfold spec_l8Common.f
  refine ev_bind (specFamily_ev xs hn) (ev_and rfl fun _ => ?_)
  rw [in_eq]
  exact ev_some _
theorem implCommon_ev (xs : List S39) (c : Int) (hn : xs.length ≤ 35184372088832) : Ev (fun k => impl_isCommon.f k xs c) (decide (FamOk xs ∧ 1 ≤ c ∧ c ≤ 400)) := by
  unfold impl_isCommon.f
  refine ev_bind (implFamily_ev xs hn) (ev_and rfl fun _ => ?_)
  rw [within_eq]
  exact ev_some _
theorem fr_dvd (n : Int) {d : Int} (hd : 0 < d) : (fr n d).2 ∣ d := by
  have h1 : ((Nat.gcd n.toNat d.toNat : Nat) : Int) ∣ d := by
    have h := Nat.gcd_dvd_right n.toNat d.toNat
    have h2 := Int.natCast_dvd_natCast.2 h
    rwa [Int.toNat_of_nonneg (by omega)] at h2
  exact ⟨((Nat.gcd n.toNat d.toNat : Nat) : Int), (Int.ediv_mul_cancel h1).symm⟩
/-- The lower part of a sum divides each common multiple of the lower parts. -/
theorem addf_dvd {x y : Int × Int} {m : Int} (hm : 0 < m) (x0 : 0 ≤ x.1) (y0 : 0 ≤ y.1) (x1 : 0 < x.2) (y1 : 0 < y.2) (hx : x.2 ∣ m) (hy : y.2 ∣ m) : (addf x y).2 ∣ m := by
  obtain ⟨p, q⟩ := x
  obtain ⟨u, v⟩ := y
  obtain ⟨a, ha⟩ := hx
  obtain ⟨b, hb⟩ := hy
  simp only at *
  have hD : 0 < q * v := Int.mul_pos x1 y1
  have a0 : 0 ≤ a := by
    rcases Int.lt_or_le a 0 with h | h
    · have := Int.mul_neg_of_pos_of_neg x1 h; omega
    · exact h
  have b0 : 0 ≤ b := by
    rcases Int.lt_or_le b 0 with h | h
    · have := Int.mul_neg_of_pos_of_neg y1 h; omega
    · exact h
  have n0 : 0 ≤ p * v + u * q := Int.add_nonneg (Int.mul_nonneg x0 (Int.le_of_lt y1)) (Int.mul_nonneg y0 (Int.le_of_lt x1))
  have n1 : 0 ≤ p * a + u * b := Int.add_nonneg (Int.mul_nonneg x0 a0) (Int.mul_nonneg y0 b0)
  have e : addf (p, q) (u, v) = fr (p * a + u * b) m := by
    show fr (p * v + u * q) (q * v) = _
    rw [← fr_scale (p * v + u * q) (q * v) m n0 hD hm, ← fr_scale (p * a + u * b) m (q * v) n1 hm hD]
    congr 1
    · rw [Int.add_mul, Int.add_mul]
      congr 1
      · rw [ha, Int.mul_assoc, Int.mul_assoc]
        congr 1
        rw [← Int.mul_assoc, Int.mul_comm v q, Int.mul_comm (q * v) a]
      · rw [hb, Int.mul_assoc, Int.mul_assoc]
        congr 1
        rw [← Int.mul_assoc, Int.mul_comm (q * v) b]
    · rw [Int.mul_comm]
  rw [e]
  exact fr_dvd _ hm
def setupF (x : S39) (c : Int) : Int × Int := fr x.f1 c
def holdF (x : S39) (c : Int) : Int × Int := fr (x.f2 * x.f0 * (x.f3 - x.f0) * c) (2 * x.f3)
def stepF (x : S39) (c : Int) (s : Int × Int) : Int × Int := addf (addf s (setupF x c)) (holdF x c)
def sharedF (xs : List S39) (c : Int) : Nat → Nat → Int × Int → Int × Int
  | 0, _, s => s
  | d + 1, i, s => sharedF xs c d (i + 1) (stepF (rd_T39 xs (i : Int)) c s)
theorem hold_in {x : S39} (h : ItOk x) {c : Int} (h1 : 1 ≤ c) (h2 : c ≤ 400) :
    wrap64 (wrap64 (wrap64 (x.f2 * x.f0) * wrap64 (x.f3 - x.f0)) * c) = x.f2 * x.f0 * (x.f3 - x.f0) * c ∧ wrap64 (2 * x.f3) = 2 * x.f3 ∧ 0 ≤ x.f2 * x.f0 * (x.f3 - x.f0) * c ∧ x.f2 * x.f0 * (x.f3 - x.f0) * c ≤ 36000 * (2 * x.f3) ∧ 0 < 2 * x.f3 ∧ 2 * x.f3 ≤ 80 ∧ 0 ≤ x.f1 ∧ x.f1 ≤ 99 := by
  obtain ⟨ha, hb, hc, hd, he⟩ := h
  have m1 := mulb (a := x.f2) (b := x.f0) (A := 9) (B := 20) (by omega) (by omega) (by omega) (by omega)
  have q0 : 0 ≤ x.f3 - x.f0 := by omega
  have q1 : x.f3 - x.f0 ≤ x.f3 := by omega
  have q2 : x.f2 * x.f0 ≤ 180 := by omega
  have m2 := mulb (a := x.f2 * x.f0) (b := x.f3 - x.f0) (A := 180) (B := x.f3) m1.1 q2 q0 q1
  have m3 := mulb (a := x.f2 * x.f0 * (x.f3 - x.f0)) (b := c) (A := 180 * x.f3) (B := 400) m2.1 m2.2 (by omega) h2
  have w1 : wrap64 (x.f2 * x.f0) = x.f2 * x.f0 := wid (by omega) (by omega)
  have w2 : wrap64 (x.f3 - x.f0) = x.f3 - x.f0 := wid (by omega) (by omega)
  have w3 : wrap64 (x.f2 * x.f0 * (x.f3 - x.f0)) = x.f2 * x.f0 * (x.f3 - x.f0) := wid (by omega) (by omega)
  have w4 : wrap64 (x.f2 * x.f0 * (x.f3 - x.f0) * c) = x.f2 * x.f0 * (x.f3 - x.f0) * c := wid (by omega) (by omega)
  refine ⟨by rw [w1, w2, w3, w4], wid (by omega) (by omega), m3.1, by omega, by omega, by omega, by omega, by omega⟩
theorem com_step {x : S39} (h : ItOk x) {c : Int} (h1 : 1 ≤ c) (h2 : c ≤ 400) {B P L : Int} {s : Int × Int} (hB0 : 0 ≤ B) (hB : B ≤ 108300) (hP0 : 1 ≤ P) (hP : P ≤ 512000) (hL0 : 0 < L) (hL : L ≤ P) (hd : s.2 ∣ c * L) (hs : Fr B (400 * P) s) :
    Fr 99 400 (setupF x c) ∧ ((B + 99) * (400 * P * 400) ≤ 9223372036854775807 ∧ 400 * P * 400 ≤ 9223372036854775807) ∧ Fr (B + 99) (400 * P) (addf s (setupF x c)) ∧ Fr 36000 80 (holdF x c) ∧ ((B + 99 + 36000) * (400 * P * 80) ≤ 9223372036854775807 ∧ 400 * P * 80 ≤ 9223372036854775807) ∧
      Fr (B + 36100) (400 * (P * 80)) (stepF x c s) ∧ ∃ L', 0 < L' ∧ L' ≤ P * 80 ∧ (stepF x c s).2 ∣ c * L' := by
  obtain ⟨_, _, n1, n2, n3, n4, n5, n6⟩ := hold_in h h1 h2
  have y1 : Fr 99 400 (setupF x c) := fr_fr n5 (by omega) (by omega) h2
  have e1 : 400 * P * 400 ≤ 81920000000 := by omega
  have e2 : 400 * P * 80 ≤ 81920000000 := by omega
  have e3 : 0 ≤ 400 * P * 400 := by omega
  have e4 : 0 ≤ 400 * P * 80 := by omega
  have b1 := Int.mul_le_mul (show B + 99 ≤ 200000 by omega) e1 e3 (by decide)
  have b2 := Int.mul_le_mul (show B + 99 + 36000 ≤ 200000 by omega) e2 e4 (by decide)
  have hc0 : 0 < c := by omega
  have cl : 0 < c * L := Int.mul_pos hc0 hL0
  have cle : c * L ≤ 400 * P := Int.mul_le_mul h2 hL (Int.le_of_lt hL0) (by decide)
  have f1 := addf_fr hs y1 hB0 (by decide)
  have v1 : (addf s (setupF x c)).2 ∣ c * L := addf_dvd cl hs.1 y1.1 hs.2.2.1 y1.2.2.1 hd (Int.dvd_trans (fr_dvd _ hc0) ⟨L, rfl⟩)
  have s1 : (addf s (setupF x c)).2 ≤ 400 * P := Int.le_trans (Int.le_of_dvd cl v1) cle
  have f2 : Fr (B + 99) (400 * P) (addf s (setupF x c)) := ⟨f1.1, f1.2.1, f1.2.2.1, s1⟩
  have z1 : Fr 36000 80 (holdF x c) := fr_fr n1 n2 n3 n4
  have hB1 : 0 ≤ B + 99 := by omega
  have f3 := addf_fr f2 z1 hB1 (by decide)
  have l0 : 0 < L * (2 * x.f3) := Int.mul_pos hL0 n3
  have l1 : L * (2 * x.f3) ≤ P * 80 := Int.mul_le_mul hL n4 (Int.le_of_lt n3) (by omega)
  have v2 : (stepF x c s).2 ∣ c * (L * (2 * x.f3)) := by
    refine addf_dvd (Int.mul_pos hc0 l0) f2.1 z1.1 f2.2.2.1 z1.2.2.1 (Int.dvd_trans v1 ⟨2 * x.f3, by rw [Int.mul_assoc]⟩) (Int.dvd_trans (fr_dvd _ n3) ⟨c * L, ?_⟩)
    rw [← Int.mul_assoc, Int.mul_comm]
  refine ⟨y1, ⟨Int.le_trans b1 (by decide), Int.le_trans e1 (by decide)⟩, f2, z1, ⟨Int.le_trans b2 (by decide), Int.le_trans e2 (by decide)⟩, ⟨f3.1, ?_, f3.2.2.1, ?_⟩, _, l0, l1, v2⟩
  · refine Int.le_trans f3.2.1 (Int.mul_le_mul_of_nonneg_right (by omega) (Int.le_of_lt f3.2.2.1))
  · refine Int.le_trans f3.2.2.2 (by omega)
def CInv (c : Int) (i : Nat) (s : Int × Int) : Prop := Fr (36100 * (i : Int)) (400 * 80 ^ i) s ∧ ∃ L, 0 < L ∧ L ≤ 80 ^ i ∧ s.2 ∣ c * L
theorem pow80 (i : Nat) (h : i ≤ 3) : (1 : Int) ≤ 80 ^ i ∧ (80 : Int) ^ i ≤ 512000 ∧ (80 : Int) ^ i * 80 = 80 ^ (i + 1) := by
  refine ⟨?_, ?_, (Int.pow_succ 80 i).symm⟩
  · match i, h with
    | 0, _ => decide
    | 1, _ => decide
    | 2, _ => decide
    | 3, _ => decide
  · match i, h with
    | 0, _ => decide
    | 1, _ => decide
    | 2, _ => decide
    | 3, _ => decide
theorem cinv0 (c : Int) : CInv c 0 (0, 1) := ⟨⟨by decide, by decide, by decide, by decide⟩, 1, by decide, by decide, ⟨c, by simp⟩⟩
theorem cinv_step {x : S39} (h : ItOk x) {c : Int} (h1 : 1 ≤ c) (h2 : c ≤ 400) {i : Nat} (hi : i ≤ 3) {s : Int × Int} (hs : CInv c i s) :
    ∃ B D : Int, 0 ≤ B ∧ Fr B D s ∧ Fr 99 400 (setupF x c) ∧ ((B + 99) * (D * 400) ≤ 9223372036854775807 ∧ D * 400 ≤ 9223372036854775807) ∧ 0 ≤ B + 99 ∧ Fr (B + 99) D (addf s (setupF x c)) ∧ Fr 36000 80 (holdF x c) ∧ ((B + 99 + 36000) * (D * 80) ≤ 9223372036854775807 ∧ D * 80 ≤ 9223372036854775807) ∧ CInv c (i + 1) (stepF x c s) := by
  obtain ⟨hf, L, l0, l1, l2⟩ := hs
  obtain ⟨p1, p2, p3⟩ := pow80 i hi
  have q0 : 0 ≤ 36100 * (i : Int) := by omega
  have q1 : 36100 * (i : Int) ≤ 108300 := by omega
  have q2 : 0 ≤ 36100 * (i : Int) + 99 := by omega
  have q3 : 36100 * (i : Int) + 36100 = 36100 * ((i + 1 : Nat) : Int) := by omega
  obtain ⟨a1, a2, a3, a4, a5, a6, L', a7, a8, a9⟩ := com_step h h1 h2 q0 q1 p1 p2 l0 l1 l2 hf
  refine ⟨36100 * (i : Int), 400 * 80 ^ i, q0, hf, a1, a2, q2, a3, a4, a5, ?_, L', a7, ?_, a9⟩
  · rw [p3, q3] at a6; exact a6
  · rw [p3] at a8; exact a8
theorem specShared_l0 {xs : List S39} (hf : FamOk xs) {c : Int} (h1 : 1 ≤ c) (h2 : c ≤ 400) (d : Nat) : ∀ (i : Nat) (s : Int × Int), i + d = xs.length → CInv c i s →
    Ev (fun k => spec_l8Shared.l0 k xs c (i : Int) s.1 s.2) (sharedF xs c d i s) := by
  have h4 := hf.2.2
  induction d with
  | zero =>
    intro i s hi hs
    refine ev_succ ?_
    simp only [spec_l8Shared.l0, sharedF]
    exact ev_neg (by omega) (ev_some _)
  | succ d ih =>
    intro i s hi hs
    have q1 : (i : Int) < (xs.length : Int) := by omega
    have q2 : 0 ≤ (i : Int) := by omega
    have q3 : i ≤ 3 := by omega
    have q4 : i < xs.length := by omega
    have q5 : i + 1 + d = xs.length := by omega
    have c0 : 0 < c := by omega
    have c1 : c ≤ 9223372036854775807 := by omega
    have hw : wrap64 ((i : Int) + 1) = ((i + 1 : Nat) : Int) := by rw [wid (by omega) (by omega)]; omega
    have hx := fam_at hf i q4
    obtain ⟨w1, w2, n1, n2, n3, n4, n5, n6⟩ := hold_in hx h1 h2
    have n7 := Int.le_trans n2 (Int.mul_le_mul_of_nonneg_left n4 (by decide))
    obtain ⟨B, D, b0, g1, g2, g3, g4, g5, g6, g7, g8⟩ := cinv_step hx h1 h2 q3 hs
    refine ev_succ ?_
    simp only [spec_l8Shared.l0]
    rw [hw, w1, w2]
    have e1 := cut_ev (rd_T39 xs (i : Int)).f1 c n5 (Int.le_trans n6 (by decide)) c0 c1
    have e2 := add_ev g1 g2 b0 (by decide) g3.1 g3.2
    have e3 := cut_ev ((rd_T39 xs (i : Int)).f2 * (rd_T39 xs (i : Int)).f0 * ((rd_T39 xs (i : Int)).f3 - (rd_T39 xs (i : Int)).f0) * c) (2 * (rd_T39 xs (i : Int)).f3) n1 (Int.le_trans n7 (by decide)) n3 (Int.le_trans n4 (by decide))
    have e4 := add_ev g5 g6 g4 (by decide) g7.1 g7.2
    have e5 := ih (i + 1) _ q5 g8
    exact ev_pos q1 (ev_pos q2 (ev_bind e1 (ev_bind e2 (ev_bind e3 (ev_bind e4 e5)))))
theorem implShared_l0 {xs : List S39} (hf : FamOk xs) {c : Int} (h1 : 1 ≤ c) (h2 : c ≤ 400) (d : Nat) : ∀ (i : Nat) (s : Int × Int), i + d = xs.length → CInv c i s →
    Ev (fun k => impl_commonCost.l0 k c xs (xs.length : Int) (i : Int) s.1 s.2) (sharedF xs c d i s) := by
  have h4 := hf.2.2
  induction d with
  | zero =>
    intro i s hi hs
    refine ev_succ ?_
    simp only [impl_commonCost.l0, sharedF]
    exact ev_neg (by omega) (ev_some _)
  | succ d ih =>
    intro i s hi hs
    have q1 : (i : Int) < (xs.length : Int) := by omega
    have q2 : 0 ≤ (i : Int) := by omega
    have q3 : i ≤ 3 := by omega
    have q4 : i < xs.length := by omega
    have q5 : i + 1 + d = xs.length := by omega
    have c0 : 0 < c := by omega
    have c1 : c ≤ 9223372036854775807 := by omega
    have hw : wrap64 ((i : Int) + 1) = ((i + 1 : Nat) : Int) := by rw [wid (by omega) (by omega)]; omega
    have hx := fam_at hf i q4
    obtain ⟨w1, w2, n1, n2, n3, n4, n5, n6⟩ := hold_in hx h1 h2
    have n7 := Int.le_trans n2 (Int.mul_le_mul_of_nonneg_left n4 (by decide))
    obtain ⟨B, D, b0, g1, g2, g3, g4, g5, g6, g7, g8⟩ := cinv_step hx h1 h2 q3 hs
    refine ev_succ ?_
    simp only [impl_commonCost.l0]
    rw [hw, w1, w2]
    have e1 := fraction_ev (rd_T39 xs (i : Int)).f1 c n5 (Int.le_trans n6 (by decide)) c0 c1
    have e2 := plus_ev g1 g2 b0 (by decide) g3.1 g3.2
    have e3 := fraction_ev ((rd_T39 xs (i : Int)).f2 * (rd_T39 xs (i : Int)).f0 * ((rd_T39 xs (i : Int)).f3 - (rd_T39 xs (i : Int)).f0) * c) (2 * (rd_T39 xs (i : Int)).f3) n1 (Int.le_trans n7 (by decide)) n3 (Int.le_trans n4 (by decide))
    have e4 := plus_ev g5 g6 g4 (by decide) g7.1 g7.2
    have e5 := ih (i + 1) _ q5 g8
    exact ev_pos q1 (ev_pos q2 (ev_pos q1 (ev_bind e1 (ev_bind e2 (ev_bind e3 (ev_bind e4 e5))))))

def ans (xs : List S39) (c : Int) : Int × Int × Bool := if FamOk xs ∧ 1 ≤ c ∧ c ≤ 400 then ((sharedF xs c xs.length 0 (0, 1)).1, (sharedF xs c xs.length 0 (0, 1)).2, true) else (0, 0, false)
theorem spec_ans (xs : List S39) (c : Int) (hn : xs.length ≤ 35184372088832) : Ev (fun k => spec_CommonCost.f k xs c) (ans xs c) := by
  unfold spec_CommonCost.f ans
  refine ev_bind (specCommon_ev xs c hn) ?_
  by_cases h : FamOk xs ∧ 1 ≤ c ∧ c ≤ 400
  · refine ev_cast (ev_pos (decide_eq_true h) (ev_bind ?_ (ev_some _))) (if_pos h).symm
    unfold spec_l8Shared.f
    exact specShared_l0 h.1 h.2.1 h.2.2 xs.length 0 (0, 1) (Nat.zero_add _) (cinv0 c)
  · exact ev_cast (ev_neg (by rw [decide_eq_true_eq]; exact h) (ev_some _)) (if_neg h).symm
theorem impl_ans (xs : List S39) (c : Int) (hn : xs.length ≤ 35184372088832) : Ev (fun k => impl_CommonCost.f k xs c) (ans xs c) := by
  unfold impl_CommonCost.f ans
  refine ev_bind (implCommon_ev xs c hn) ?_
  by_cases h : FamOk xs ∧ 1 ≤ c ∧ c ≤ 400
  · refine ev_cast (ev_pos (decide_eq_true h) (ev_bind ?_ (ev_some _))) (if_pos h).symm
    unfold impl_commonCost.f
    exact implShared_l0 h.1 h.2.1 h.2.2 xs.length 0 (0, 1) (Nat.zero_add _) (cinv0 c)
  · exact ev_cast (ev_neg (by rw [decide_eq_true_eq]; exact h) (ev_some _)) (if_neg h).symm
theorem FnExactCommonCost (l0 : List (S41)) (a1 : Int) (hl0 : l0.length ≤ maxLen) (hw0 : ∀ x ∈ l0, (Lit.int .i64 x.f0).wf = true ∧ (Lit.int .i64 x.f1).wf = true ∧ (Lit.int .i64 x.f2).wf = true ∧ (Lit.int .i64 x.f3).wf = true ∧ (Lit.int .i64 x.f4).wf = true) (hw1 : (Lit.int .i64 a1).wf = true) :
    ∃ k, laws_FnExactCommonCost.f k l0 a1 = some true := by
  refine Ev.rounds ?_
  unfold laws_FnExactCommonCost.f
  simp only [szItemS_eq l0 hl0, Option.bind_some]
  by_cases c0 : (1048576 : Int) - (l0.length : Int) < 0
  · rw [if_pos c0]
    exact ev_pos (by omega) (ev_some _)
  rw [if_neg c0]
  refine ev_neg (by omega) ?_
  have h0 : l0.length ≤ 1048576 := by omega
  have t0 := toItemS_ev l0 h0
  have hm : (l0.map toI).length ≤ 1048576 := by simpa using h0
  refine ev_bind t0 (ev_bind (spec_ans _ a1 (by omega)) (ev_bind t0 (ev_bind (impl_ans _ a1 (by omega)) ?_)))
  simp only [laws_eqIntA2.f, if_true, Option.bind_some, beq_self_eq_true]
  refine ev_succ ?_
  simp only [laws_FnExactCommonCost.j0]
  exact ev_neg (by simp) (ev_bind t0 (ev_bind (eqItemS_ev _ hm) (ev_pos rfl (ev_some _))))

end Go.Proofs.Ytniocpienddbnaa.Pure
