/- The program's LeastCommon and the reference's look for the first cycle that fits. No conditions. -/
import Derived.Test.YtniocpienddbnaaKit
import Derived.Test.YtniocpienddbnaaXFnExactLeastCommonx5
namespace Go.Proofs.Ytniocpienddbnaa.Pure
set_option linter.unusedVariables false
open Go.RowKit Go.Proofs.Ytniocpienddbnaa.PFnExactLeastCommon Go.Proofs.YtniocpienddbnaaW.PrintWords Go.Proofs.YtniocpienddbnaaW.PrintLast Go.Proofs.Ytniocpienddbnaa.Kit

theorem in_eq (a b c : Int) : spec_l1In.f a b c = some (decide (b ≤ a ∧ a ≤ c)) := by
  unfold spec_l1In.f
  by_cases h : b ≤ a <;> simp [h]
theorem within_eq (a b c : Int) : impl_within.f a b c = some (decide (b ≤ a ∧ a ≤ c)) := by
  unfold impl_within.f
  by_cases h : b ≤ a <;> simp [h]
theorem gcd_l0 (b : Nat) : ∀ a : Nat, Ev (fun k => spec_l8Gcd.l0 k (a : Int) (b : Int)) ((Nat.gcd a b : Nat) : Int) := by
  induction b using Nat.strongRecOn with
  | _ b ih =>
    intro a
    refine ev_succ ?_
    simp only [spec_l8Gcd.l0]
    by_cases h : b = 0
    · subst h
      exact ev_neg (by omega) (ev_cast (ev_some _) (by simp))
    · refine ev_pos (by omega) (ev_neg (by omega) ?_)
      have e : Int.tmod (a : Int) (b : Int) = ((a % b : Nat) : Int) := rfl
      rw [e]
      refine ev_cast (ih (a % b) (Nat.mod_lt _ (by omega)) b) ?_
      rw [Nat.gcd_comm b, ← Nat.gcd_rec, Nat.gcd_comm]
theorem gcd_ev (a b : Int) (ha : 0 ≤ a) (hb : 0 ≤ b) : Ev (fun k => spec_l8Gcd.f k a b) ((Nat.gcd a.toNat b.toNat : Nat) : Int) := by
  unfold spec_l8Gcd.f
  have := gcd_l0 b.toNat a.toNat
  rwa [Int.toNat_of_nonneg ha, Int.toNat_of_nonneg hb] at this
theorem divisor_l0 (b : Nat) : ∀ a : Nat, Ev (fun k => impl_divisor.l0 k (a : Int) (b : Int)) ((Nat.gcd a b : Nat) : Int) := by
  induction b using Nat.strongRecOn with
  | _ b ih =>
    intro a
    refine ev_succ ?_
    simp only [impl_divisor.l0]
    by_cases h : b = 0
    · subst h
      exact ev_pos (by omega) (ev_cast (ev_some _) (by simp))
    · refine ev_neg (by omega) ?_
      have e : Int.tmod (a : Int) (b : Int) = ((a % b : Nat) : Int) := rfl
      rw [e]
      refine ev_cast (ih (a % b) (Nat.mod_lt _ (by omega)) b) ?_
      rw [Nat.gcd_comm b, ← Nat.gcd_rec, Nat.gcd_comm]
theorem divisor_ev (a b : Int) (ha : 0 ≤ a) (hb : 0 ≤ b) : Ev (fun k => impl_divisor.f k a b) ((Nat.gcd a.toNat b.toNat : Nat) : Int) := by
  unfold impl_divisor.f
  have := divisor_l0 b.toNat a.toNat
  rwa [Int.toNat_of_nonneg ha, Int.toNat_of_nonneg hb] at this
/-- A quotient in lowest terms. -/
def fr (n d : Int) : Int × Int := (n / ((Nat.gcd n.toNat d.toNat : Nat) : Int), d / ((Nat.gcd n.toNat d.toNat : Nat) : Int))
theorem gcd_fr_pos {n d : Int} (hd : 0 < d) : 0 < ((Nat.gcd n.toNat d.toNat : Nat) : Int) := by
  have := Nat.gcd_pos_of_pos_right n.toNat (show 0 < d.toNat by omega)
  omega
theorem fr_in {n d : Int} (hn : 0 ≤ n) (hd : 0 < d) : 0 ≤ (fr n d).1 ∧ (fr n d).1 ≤ n ∧ 0 < (fr n d).2 ∧ (fr n d).2 ≤ d := by
  have hg := gcd_fr_pos (n := n) hd
  have hdv : ((Nat.gcd n.toNat d.toNat : Nat) : Int) ∣ d := by
    have h := Nat.gcd_dvd_right n.toNat d.toNat
    have h2 := Int.natCast_dvd_natCast.2 h
    rwa [Int.toNat_of_nonneg (by omega)] at h2
  refine ⟨Int.ediv_nonneg hn (by omega), Int.ediv_le_self _ hn, ?_, Int.ediv_le_self _ (by omega)⟩
  exact Int.ediv_pos_of_pos_of_dvd hd (by omega) hdv
theorem cut_ev (n d : Int) (hn : 0 ≤ n) (hn2 : n ≤ 9223372036854775807) (hd : 0 < d) (hd2 : d ≤ 9223372036854775807) : Ev (fun k => spec_l8Cut.f k n d) (fr n d) := by
  have hg := gcd_fr_pos (n := n) hd
  have h1 := fr_in hn hd
  unfold spec_l8Cut.f
  refine ev_bind (gcd_ev n d hn (by omega)) (ev_neg (by omega) (ev_cast (ev_some _) ?_))
  unfold fr at h1 ⊢
  simp only at h1
  rw [Int.tdiv_eq_ediv_of_nonneg hn, Int.tdiv_eq_ediv_of_nonneg (by omega), wid (by omega) (by omega), wid (by omega) (by omega)]
theorem fraction_ev (n d : Int) (hn : 0 ≤ n) (hn2 : n ≤ 9223372036854775807) (hd : 0 < d) (hd2 : d ≤ 9223372036854775807) : Ev (fun k => impl_fraction.f k n d) (fr n d) := by
  have hg := gcd_fr_pos (n := n) hd
  have h1 := fr_in hn hd
  unfold impl_fraction.f
  refine ev_bind (divisor_ev n d hn (by omega)) (ev_neg (by omega) (ev_cast (ev_some _) ?_))
  unfold fr at h1 ⊢
  simp only at h1
  rw [Int.tdiv_eq_ediv_of_nonneg hn, Int.tdiv_eq_ediv_of_nonneg (by omega), wid (by omega) (by omega), wid (by omega) (by omega)]
/-- The sum of two quotients. -/
def addf (x y : Int × Int) : Int × Int := fr (x.1 * y.2 + y.1 * x.2) (x.2 * y.2)
/-- A quotient of at most B, its lower part at most D. -/
def Fr (B D : Int) (x : Int × Int) : Prop := 0 ≤ x.1 ∧ x.1 ≤ B * x.2 ∧ 0 < x.2 ∧ x.2 ≤ D
theorem fr_fr {n d B D : Int} (hn : 0 ≤ n) (hb : n ≤ B * d) (hd : 0 < d) (hD : d ≤ D) : Fr B D (fr n d) := by
  have h := fr_in hn hd
  have hg := gcd_fr_pos (n := n) hd
  refine ⟨h.1, ?_, h.2.2.1, by omega⟩
  have h1 : ((Nat.gcd n.toNat d.toNat : Nat) : Int) ∣ d := by
    have h := Nat.gcd_dvd_right n.toNat d.toNat
    have h2 := Int.natCast_dvd_natCast.2 h
    rwa [Int.toNat_of_nonneg (by omega)] at h2
  unfold fr
  simp only
  refine Int.ediv_le_of_le_mul hg ?_
  rw [Int.mul_assoc, Int.ediv_mul_cancel h1]
  exact hb
theorem fr_scale (n d m : Int) (hn : 0 ≤ n) (hd : 0 < d) (hm : 0 < m) : fr (n * m) (d * m) = fr n d := by
  obtain ⟨N, rfl⟩ := Int.eq_ofNat_of_zero_le hn
  obtain ⟨M, rfl⟩ := Int.eq_ofNat_of_zero_le (show 0 ≤ m by omega)
  obtain ⟨D, rfl⟩ := Int.eq_ofNat_of_zero_le (show 0 ≤ d by omega)
  have e1 : ((N : Int) * (M : Int)) = ((N * M : Nat) : Int) := by simp
  have e2 : ((D : Int) * (M : Int)) = ((D * M : Nat) : Int) := by simp
  unfold fr
  rw [e1, e2]
  simp only [Int.toNat_natCast]
  rw [Nat.gcd_mul_right, Prod.mk.injEq]
  refine ⟨?_, ?_⟩
  · rw [Int.natCast_mul, Int.natCast_mul, Int.mul_ediv_mul_of_pos_left _ _ hm]
  · rw [Int.natCast_mul, Int.natCast_mul, Int.mul_ediv_mul_of_pos_left _ _ hm]
/-- What is needed of the parts of a sum. -/
theorem addf_parts {B B' D D' : Int} {x y : Int × Int} (hx : Fr B D x) (hy : Fr B' D' y) (hB : 0 ≤ B) (hB' : 0 ≤ B') :
    0 ≤ x.1 * y.2 ∧ 0 ≤ y.1 * x.2 ∧ x.1 * y.2 + y.1 * x.2 ≤ (B + B') * (x.2 * y.2) ∧ 0 < x.2 * y.2 ∧ x.2 * y.2 ≤ D * D' ∧ (B + B') * (x.2 * y.2) ≤ (B + B') * (D * D') := by
  obtain ⟨a1, a2, a3, a4⟩ := hx
  obtain ⟨b1, b2, b3, b4⟩ := hy
  have q0 : 0 < x.2 * y.2 := Int.mul_pos a3 b3
  have q1 : x.2 * y.2 ≤ D * D' := Int.mul_le_mul a4 b4 (by omega) (by omega)
  have n1 : x.1 * y.2 ≤ B * x.2 * y.2 := Int.mul_le_mul_of_nonneg_right a2 (by omega)
  have n2 : y.1 * x.2 ≤ B' * y.2 * x.2 := Int.mul_le_mul_of_nonneg_right b2 (by omega)
  refine ⟨Int.mul_nonneg a1 (by omega), Int.mul_nonneg b1 (by omega), ?_, q0, q1, Int.mul_le_mul_of_nonneg_left q1 (by omega)⟩
  rw [Int.add_mul]
  rw [Int.mul_assoc] at n1 n2
  rw [Int.mul_comm y.2 x.2] at n2
  omega
theorem addf_fr {B B' D D' : Int} {x y : Int × Int} (hx : Fr B D x) (hy : Fr B' D' y) (hB : 0 ≤ B) (hB' : 0 ≤ B') : Fr (B + B') (D * D') (addf x y) := by
  obtain ⟨h1, h2, h3, h4, h5, h6⟩ := addf_parts hx hy hB hB'
  exact fr_fr (by omega) h3 h4 h5
theorem add_ev {B B' D D' : Int} {x y : Int × Int} (hx : Fr B D x) (hy : Fr B' D' y) (hB : 0 ≤ B) (hB' : 0 ≤ B') (hs : (B + B') * (D * D') ≤ 9223372036854775807) (hd : D * D' ≤ 9223372036854775807) :
    Ev (fun k => spec_l8Add.f k x.1 x.2 y.1 y.2) (addf x y) := by
  obtain ⟨h1, h2, h3, h4, h5, h6⟩ := addf_parts hx hy hB hB'
  obtain ⟨p, q⟩ := x
  obtain ⟨u, v⟩ := y
  obtain ⟨a1, a2, a3, a4⟩ := hx
  obtain ⟨b1, b2, b3, b4⟩ := hy
  simp only at *
  have hg : 0 < ((Nat.gcd q.toNat v.toNat : Nat) : Int) := gcd_fr_pos (n := q) b3
  have dq : ((Nat.gcd q.toNat v.toNat : Nat) : Int) ∣ q := by
    have h2 := Int.natCast_dvd_natCast.2 (Nat.gcd_dvd_left q.toNat v.toNat)
    rwa [Int.toNat_of_nonneg (by omega)] at h2
  have dv : ((Nat.gcd q.toNat v.toNat : Nat) : Int) ∣ v := by
    have h2 := Int.natCast_dvd_natCast.2 (Nat.gcd_dvd_right q.toNat v.toNat)
    rwa [Int.toNat_of_nonneg (by omega)] at h2
  unfold spec_l8Add.f addf
  refine ev_bind (gcd_ev q v (by omega) (by omega)) (ev_neg (by omega) ?_)
  generalize ((Nat.gcd q.toNat v.toNat : Nat) : Int) = g at hg dq dv
  obtain ⟨q', rfl⟩ := dq
  obtain ⟨v', rfl⟩ := dv
  have q'0 : 0 < q' := by
    rcases Int.lt_trichotomy q' 0 with h | h | h
    · have := Int.mul_neg_of_pos_of_neg hg h; omega
    · rw [h, Int.mul_zero] at a3; omega
    · exact h
  have v'0 : 0 < v' := by
    rcases Int.lt_trichotomy v' 0 with h | h | h
    · have := Int.mul_neg_of_pos_of_neg hg h; omega
    · rw [h, Int.mul_zero] at b3; omega
    · exact h
  have e1 : Int.tdiv (g * v') g = v' := by rw [Int.tdiv_eq_ediv_of_nonneg (by omega), Int.mul_ediv_cancel_left _ (by omega)]
  have e2 : Int.tdiv (g * q') g = q' := by rw [Int.tdiv_eq_ediv_of_nonneg (by omega), Int.mul_ediv_cancel_left _ (by omega)]
  have k1 : v' ≤ g * v' := by have := Int.mul_le_mul_of_nonneg_right (show 1 ≤ g by omega) (show 0 ≤ v' by omega); omega
  have k2 : q' ≤ g * q' := by have := Int.mul_le_mul_of_nonneg_right (show 1 ≤ g by omega) (show 0 ≤ q' by omega); omega
  have hq : g * q' ≤ 9223372036854775807 := by
    have := Int.mul_le_mul_of_nonneg_left (show 1 ≤ g * v' by omega) (show 0 ≤ g * q' by omega)
    omega
  have hv : g * v' ≤ 9223372036854775807 := by
    have := Int.mul_le_mul_of_nonneg_right (show 1 ≤ g * q' by omega) (show 0 ≤ g * v' by omega)
    omega
  have m1 : 0 ≤ p * v' := Int.mul_nonneg a1 (by omega)
  have m2 : 0 ≤ u * q' := Int.mul_nonneg b1 (by omega)
  have m3 : p * v' ≤ p * (g * v') := Int.mul_le_mul_of_nonneg_left k1 a1
  have m4 : u * q' ≤ u * (g * q') := Int.mul_le_mul_of_nonneg_left k2 b1
  have m5 : q' * (g * v') ≤ g * q' * (g * v') := Int.mul_le_mul_of_nonneg_right k2 (by omega)
  have m6 : 0 < q' * (g * v') := Int.mul_pos q'0 b3
  rw [e1, e2, wid (x := v') (by omega) (by omega), wid (x := q') (by omega) (by omega), wid (x := p * v') (by omega) (by omega), wid (x := u * q') (by omega) (by omega), wid (x := q' * (g * v')) (by omega) (by omega), wid (by omega) (by omega)]
  refine ev_bind (cut_ev _ _ (by omega) (by omega) m6 (by omega)) (ev_cast (ev_some _) ?_)
  show fr (p * v' + u * q') (q' * (g * v')) = fr (p * (g * v') + u * (g * q')) (g * q' * (g * v'))
  rw [← fr_scale (p * v' + u * q') (q' * (g * v')) g (by omega) m6 hg]
  congr 1
  · rw [Int.add_mul, Int.mul_assoc, Int.mul_assoc, Int.mul_comm v' g, Int.mul_comm q' g]
  · rw [Int.mul_comm (q' * (g * v')) g, ← Int.mul_assoc]
theorem plus_ev {B B' D D' : Int} {x y : Int × Int} (hx : Fr B D x) (hy : Fr B' D' y) (hB : 0 ≤ B) (hB' : 0 ≤ B') (hs : (B + B') * (D * D') ≤ 9223372036854775807) (hd : D * D' ≤ 9223372036854775807) :
    Ev (fun k => impl_plus.f k x.1 x.2 y.1 y.2) (addf x y) := by
  obtain ⟨h1, h2, h3, h4, h5, h6⟩ := addf_parts hx hy hB hB'
  unfold impl_plus.f addf
  rw [wid (x := x.1 * y.2) (by omega) (by omega), wid (x := y.1 * x.2) (by omega) (by omega), wid (x := x.2 * y.2) (by omega) (by omega), wid (by omega) (by omega)]
  exact ev_bind (fraction_ev _ _ (by omega) (by omega) h4 (by omega)) (ev_some _)
/-- What a valid item is. -/
def ItemOk (a b c d e : Int) : Prop := (1 ≤ a ∧ a ≤ 20) ∧ (1 ≤ b ∧ b ≤ 99) ∧ (1 ≤ c ∧ c ≤ 9) ∧ (a + 1 ≤ d ∧ d ≤ 40) ∧ (0 ≤ e ∧ e ≤ 9)
instance (a b c d e : Int) : Decidable (ItemOk a b c d e) := by unfold ItemOk; infer_instance
theorem specItem_eq (a b c d e : Int) : spec_l8Item.f a b c d e = some (decide (ItemOk a b c d e)) := by
  unfold spec_l8Item.f ItemOk
  simp only [in_eq, Option.bind_some]
  by_cases h1 : 1 ≤ a ∧ a ≤ 20
  · rw [show wrap64 (a + 1) = a + 1 from wid (by omega) (by omega)]
    by_cases h2 : 1 ≤ b ∧ b ≤ 99 <;> by_cases h3 : 1 ≤ c ∧ c ≤ 9 <;> by_cases h4 : a + 1 ≤ d ∧ d ≤ 40 <;> simp [h1, h2, h3, h4]
  · simp [h1]
theorem implItem_eq (a b c d e : Int) : impl_IsItem.f a b c d e = some (decide (ItemOk a b c d e)) := by
  unfold impl_IsItem.f ItemOk
  simp only [within_eq, Option.bind_some]
  by_cases h1 : 1 ≤ a ∧ a ≤ 20
  · rw [show wrap64 (a + 1) = a + 1 from wid (by omega) (by omega)]
    by_cases h2 : 1 ≤ b ∧ b ≤ 99 <;> by_cases h3 : 1 ≤ c ∧ c ≤ 9 <;> by_cases h4 : a + 1 ≤ d ∧ d ≤ 40 <;> simp [h1, h2, h3, h4]
  · simp [h1]
/-- What a family is. -/
def ItOk (x : S39) : Prop := ItemOk x.f0 x.f1 x.f2 x.f3 x.f4
instance (x : S39) : Decidable (ItOk x) := by unfold ItOk; infer_instance
def FamOk (l : List S39) : Prop := (∀ x ∈ l, ItOk x) ∧ 1 ≤ (l.length : Int) ∧ (l.length : Int) ≤ 4
instance (l : List S39) : Decidable (FamOk l) := by unfold FamOk; infer_instance
theorem rd2_nat (xs : List S39) (i : Nat) (h : i < xs.length) : rd_T39 xs (i : Int) = xs[i] := by
  unfold rd_T39
  simp [List.getD_eq_getElem?_getD, h]
theorem rd1_nat (xs : List S41) (i : Nat) (h : i < xs.length) : rd_T41 xs (i : Int) = xs[i] := by
  unfold rd_T41
  simp [List.getD_eq_getElem?_getD, h]
theorem drop_rd2 (xs : List S39) (i : Nat) (h : i < xs.length) : xs.drop i = rd_T39 xs (i : Int) :: xs.drop (i + 1) := by
  rw [rd2_nat xs i h]
  exact List.drop_eq_getElem_cons h
theorem specFamily_l0 (xs : List S39) (hn : xs.length ≤ 35184372088832) (d : Nat) : ∀ (i : Nat), i + d = xs.length →
    Ev (fun k => spec_l8Family.l0 k xs (i : Int)) (decide ((∀ x ∈ xs.drop i, ItOk x) ∧ 1 ≤ (xs.length : Int) ∧ (xs.length : Int) ≤ 4)) := by
  induction d with
  | zero =>
    intro i hi
    refine ev_succ ?_
    simp only [spec_l8Family.l0, in_eq, Option.bind_some]
    refine ev_neg (by omega) (ev_dec (ev_some _) ?_)
    rw [List.drop_of_length_le (by omega)]
    simp
  | succ d ih =>
    intro i hi
    refine ev_succ ?_
    simp only [spec_l8Family.l0, specItem_eq, Option.bind_some]
    refine ev_pos (by omega) (ev_pos (by omega) ?_)
    have hw : wrap64 ((i : Int) + 1) = ((i + 1 : Nat) : Int) := by rw [wid (by omega) (by omega)]; omega
    rw [hw, drop_rd2 xs i (by omega)]
    by_cases h : ItOk (rd_T39 xs (i : Int))
    · refine ev_pos (decide_eq_true h) (ev_cast (ih (i + 1) (by omega)) ?_)
      simp [h]
    · exact ev_neg (by rw [decide_eq_true_eq]; exact h) (ev_false fun hh => h (hh.1 _ (by simp)))
theorem specFamily_ev (xs : List S39) (hn : xs.length ≤ 35184372088832) : Ev (fun k => spec_l8Family.f k xs) (decide (FamOk xs)) := by
  unfold spec_l8Family.f FamOk
  exact specFamily_l0 xs hn xs.length 0 (by omega)
theorem implFamily_l0 (xs : List S39) (hn : xs.length ≤ 35184372088832) (d : Nat) : ∀ (i : Nat), i + d = xs.length →
    Ev (fun k => impl_isFamily.l0 k xs xs (xs.length : Int) (i : Int)) (decide ((∀ x ∈ xs.drop i, ItOk x) ∧ 1 ≤ (xs.length : Int) ∧ (xs.length : Int) ≤ 4)) := by
  induction d with
  | zero =>
    intro i hi
    refine ev_succ ?_
    simp only [impl_isFamily.l0, within_eq, Option.bind_some]
    refine ev_neg (by omega) (ev_dec (ev_some _) ?_)
    rw [List.drop_of_length_le (by omega)]
    simp
  | succ d ih =>
    intro i hi
    refine ev_succ ?_
    simp only [impl_isFamily.l0, implItem_eq, Option.bind_some]
    refine ev_pos (by omega) (ev_pos (by omega) (ev_pos (by omega) ?_))
    have hw : wrap64 ((i : Int) + 1) = ((i + 1 : Nat) : Int) := by rw [wid (by omega) (by omega)]; omega
    rw [hw, drop_rd2 xs i (by omega)]
    by_cases h : ItOk (rd_T39 xs (i : Int))
    · refine ev_pos (decide_eq_true h) (ev_cast (ih (i + 1) (by omega)) ?_)
      simp [h]
    · exact ev_neg (by rw [decide_eq_true_eq]; exact h) (ev_false fun hh => h (hh.1 _ (by simp)))
theorem implFamily_ev (xs : List S39) (hn : xs.length ≤ 35184372088832) : Ev (fun k => impl_isFamily.f k xs) (decide (FamOk xs)) := by
  unfold impl_isFamily.f FamOk
  exact implFamily_l0 xs hn xs.length 0 (by omega)
theorem fam_at {xs : List S39} (h : FamOk xs) (i : Nat) (hi : i < xs.length) : ItOk (rd_T39 xs (i : Int)) := by
  rw [rd2_nat xs i hi]
  exact h.1 _ (List.getElem_mem _)
def toI (x : S41) : S39 := ⟨x.f0, x.f1, x.f2, x.f3, x.f4⟩
theorem toItemS_l0 (xs : List S41) (hn : xs.length ≤ 1048576) (d : Nat) : ∀ (i : Nat) (ys : List S39), i + d = xs.length → ys.length = xs.length → ys.take i = (xs.map toI).take i →
    Ev (fun k => laws_toItemS.l0 k xs ys (i : Int)) (xs.map toI) := by
  induction d with
  | zero =>
    intro i ys hi hl ht
    refine ev_succ ?_
    simp only [laws_toItemS.l0]
    refine ev_neg (by omega) ?_
    rw [List.take_of_length_le (by omega), List.take_of_length_le (by simp; omega)] at ht
    rw [ht]
    exact ev_some _
  | succ d ih =>
    intro i ys hi hl ht
    refine ev_succ ?_
    simp only [laws_toItemS.l0, laws_toItem.f, Option.bind_some]
    refine ev_pos (by omega) (ev_pos (by omega) (ev_pos (by omega) ?_))
    have hw : wrap64 ((i : Int) + 1) = ((i + 1 : Nat) : Int) := by rw [wid (by omega) (by omega)]; omega
    rw [hw]
    refine ih (i + 1) _ (by omega) (by simpa using hl) ?_
    rw [rd1_nat xs i (by omega), Int.toNat_natCast, List.take_succ_eq_append_getElem (by simp; omega), List.take_succ_eq_append_getElem (by simp; omega), List.getElem_set_self, List.take_set_of_le (by omega), ht, List.getElem_map]
    rfl
theorem toItemS_ev (xs : List S41) (hn : xs.length ≤ 1048576) : Ev (fun k => laws_toItemS.f k xs) (xs.map toI) := by
  unfold laws_toItemS.f
  refine ev_pos (by omega) (ev_pos (by omega) ?_)
  exact toItemS_l0 xs hn xs.length 0 _ (by omega) (by simp) rfl
theorem eqItemS_l0 (xs : List S39) (hn : xs.length ≤ 1048576) (d : Nat) : ∀ (i : Nat), i + d = xs.length → Ev (fun k => laws_eqItemS.l0 k xs xs (i : Int)) true := by
  induction d with
  | zero =>
    intro i hi
    refine ev_succ ?_
    simp only [laws_eqItemS.l0]
    exact ev_neg (by omega) (ev_some _)
  | succ d ih =>
    intro i hi
    refine ev_succ ?_
    simp only [laws_eqItemS.l0, laws_eqItem.f, if_true, Option.bind_some]
    have hw : wrap64 ((i : Int) + 1) = ((i + 1 : Nat) : Int) := by rw [wid (by omega) (by omega)]; omega
    rw [hw]
    exact ev_pos (by omega) (ev_pos (by omega) (ev_pos (by omega) (ih (i + 1) (by omega))))
theorem eqItemS_ev (xs : List S39) (hn : xs.length ≤ 1048576) : Ev (fun k => laws_eqItemS.f k xs xs) true := by
  unfold laws_eqItemS.f
  exact ev_pos rfl (eqItemS_l0 xs hn xs.length 0 (by omega))
theorem szItemS_eq (xs : List S41) (hl : xs.length ≤ maxLen) : laws_szItemS.f xs 1048576 = some (if (1048576 : Int) - (xs.length : Int) < 0 then -1 else 1048576 - (xs.length : Int)) := by
  unfold maxLen at hl
  unfold laws_szItemS.f
  rw [wid (by omega) (by omega)]
  split <;> rfl
/-- The share of the time of an item. -/
def need (x : S39) (c : Int) : Int × Int := fr (x.f4 * x.f3 + x.f0 * c) x.f3
def needs (xs : List S39) (c : Int) : Nat → Nat → Int × Int → Int × Int
  | 0, _, s => s
  | d + 1, i, s => needs xs c d (i + 1) (addf s (need (rd_T39 xs (i : Int)) c))
def fitsB (xs : List S39) (c : Int) : Bool := decide ((needs xs c xs.length 0 (0, 1)).1 ≤ c * (needs xs c xs.length 0 (0, 1)).2)
theorem need_in {x : S39} {c : Int} (h : ItOk x) (h1 : 1 ≤ c) (h2 : c ≤ 400) :
    wrap64 (wrap64 (x.f4 * x.f3) + wrap64 (x.f0 * c)) = x.f4 * x.f3 + x.f0 * c ∧ 0 ≤ x.f4 * x.f3 + x.f0 * c ∧ x.f4 * x.f3 + x.f0 * c ≤ 8360 ∧ Fr 8400 40 (need x c) ∧ 0 < x.f3 ∧ x.f3 ≤ 9223372036854775807 := by
  obtain ⟨ha, hb, hc, hd, he⟩ := h
  have m1 := mulb (a := x.f4) (b := x.f3) (A := 9) (B := 40) (by omega) (by omega) (by omega) (by omega)
  have m2 := mulb (a := x.f0) (b := c) (A := 20) (B := 400) (by omega) (by omega) (by omega) (by omega)
  refine ⟨by rw [wid (x := x.f4 * x.f3) (by omega) (by omega), wid (x := x.f0 * c) (by omega) (by omega), wid (by omega) (by omega)], by omega, by omega, ?_⟩
  exact ⟨fr_fr (by omega) (by omega) (by omega) (by omega), by omega, by omega⟩
theorem pow40 (i : Nat) (h : i ≤ 3) : (40 : Int) ^ i * 40 = 40 ^ (i + 1) ∧ (40 : Int) ^ (i + 1) ≤ 2560000 := by
  refine ⟨(Int.pow_succ 40 i).symm, ?_⟩
  match i, h with
  | 0, _ => decide
  | 1, _ => decide
  | 2, _ => decide
  | 3, _ => decide
theorem need_step {xs : List S39} (hf : FamOk xs) {c : Int} (h1 : 1 ≤ c) (h2 : c ≤ 400) (i : Nat) (hi : i < xs.length) {s : Int × Int} (hs : Fr (8400 * (i : Int)) (40 ^ i) s) :
    Fr (8400 * ((i + 1 : Nat) : Int)) (40 ^ (i + 1)) (addf s (need (rd_T39 xs (i : Int)) c)) ∧ (8400 * (i : Int) + 8400) * (40 ^ i * 40) ≤ 9223372036854775807 ∧ (40 : Int) ^ i * 40 ≤ 9223372036854775807 := by
  have h4 := hf.2.2
  have hn := (need_in (fam_at hf i hi) h1 h2).2.2.2.1
  have hp := pow40 i (by omega)
  have ha := addf_fr hs hn (by omega) (by omega)
  rw [hp.1] at ha ⊢
  refine ⟨?_, ?_, by omega⟩
  · rw [show 8400 * ((i + 1 : Nat) : Int) = 8400 * (i : Int) + 8400 by omega]; exact ha
  · have := Int.mul_le_mul (show 8400 * (i : Int) + 8400 ≤ 33600 by omega) hp.2 (Int.le_of_lt (Int.pow_pos (by omega))) (by omega)
    omega
theorem needs_fr {xs : List S39} (hf : FamOk xs) {c : Int} (h1 : 1 ≤ c) (h2 : c ≤ 400) (d : Nat) : ∀ (i : Nat) (s : Int × Int), i + d = xs.length → Fr (8400 * (i : Int)) (40 ^ i) s → Fr (8400 * (xs.length : Int)) (40 ^ xs.length) (needs xs c d i s) := by
  induction d with
  | zero => intro i s hi hs; simp only [needs]; rw [show xs.length = i by omega]; exact hs
  | succ d ih =>
    intro i s hi hs
    simp only [needs]
    exact ih (i + 1) _ (by omega) (need_step hf h1 h2 i (by omega) hs).1
theorem cyc_mul {xs : List S39} (hf : FamOk xs) {c : Int} (h1 : 1 ≤ c) (h2 : c ≤ 400) {s : Int × Int} (hs : Fr (8400 * (xs.length : Int)) (40 ^ xs.length) s) : wrap64 (c * s.2) = c * s.2 := by
  have h4 := hf.2
  have hp : (40 : Int) ^ xs.length ≤ 2560000 := by
    have := pow40 (xs.length - 1) (by omega)
    rw [show xs.length - 1 + 1 = xs.length by omega] at this
    exact this.2
  obtain ⟨_, _, s3, s4⟩ := hs
  have := mulb (a := c) (b := s.2) (A := 400) (B := 2560000) (by omega) (by omega) (by omega) (by omega)
  exact wid (by omega) (by omega)
theorem fr0 (B D : Int) (hD : 1 ≤ D) (hB : 0 ≤ B) : Fr B D (0, 1) := ⟨by simp, by simp; omega, by simp, by simp; omega⟩
theorem specFits_l0 {xs : List S39} (hf : FamOk xs) {c : Int} (h1 : 1 ≤ c) (h2 : c ≤ 400) (d : Nat) : ∀ (i : Nat) (s : Int × Int), i + d = xs.length → Fr (8400 * (i : Int)) (40 ^ i) s →
    Ev (fun k => spec_l8Fits.l0 k xs c (i : Int) s.1 s.2) (decide ((needs xs c d i s).1 ≤ c * (needs xs c d i s).2)) := by
  have h4 := hf.2.2
  induction d with
  | zero =>
    intro i s hi hs
    refine ev_succ ?_
    simp only [spec_l8Fits.l0, needs]
    rw [cyc_mul hf h1 h2 (s := s) (by rw [show xs.length = i by omega]; exact hs)]
    exact ev_neg (by omega) (ev_some _)
  | succ d ih =>
    intro i s hi hs
    have q1 : (i : Int) < (xs.length : Int) := by omega
    have q2 : 0 ≤ (i : Int) := by omega
    have q3 : 0 ≤ 8400 * (i : Int) := by omega
    have q4 : i < xs.length := by omega
    have q5 : i + 1 + d = xs.length := by omega
    have hw : wrap64 ((i : Int) + 1) = ((i + 1 : Nat) : Int) := by rw [wid (by omega) (by omega)]; omega
    obtain ⟨f2, f3, f4⟩ := need_step hf h1 h2 i q4 hs
    obtain ⟨n1, n2, n3, n4, n5, n6⟩ := need_in (fam_at hf i q4) h1 h2
    refine ev_succ ?_
    simp only [spec_l8Fits.l0]
    rw [hw, n1]
    have e1 := cut_ev ((rd_T39 xs (i : Int)).f4 * (rd_T39 xs (i : Int)).f3 + (rd_T39 xs (i : Int)).f0 * c) ((rd_T39 xs (i : Int)).f3) n2 (Int.le_trans n3 (by decide)) n5 n6
    have e2 := add_ev hs n4 q3 (by decide) f3 f4
    have e3 := ih (i + 1) _ q5 f2
    exact ev_pos q1 (ev_pos q2 (ev_bind e1 (ev_bind e2 e3)))
theorem specFits_ev {xs : List S39} (hf : FamOk xs) {c : Int} (h1 : 1 ≤ c) (h2 : c ≤ 400) : Ev (fun k => spec_l8Fits.f k xs c) (fitsB xs c) := by
  unfold spec_l8Fits.f fitsB
  exact specFits_l0 hf h1 h2 xs.length 0 (0, 1) (by omega) (fr0 _ _ (by simp) (by simp))
theorem implFits_l0 {xs : List S39} (hf : FamOk xs) {c : Int} (h1 : 1 ≤ c) (h2 : c ≤ 400) (d : Nat) : ∀ (i : Nat) (s : Int × Int), i + d = xs.length → Fr (8400 * (i : Int)) (40 ^ i) s →
    Ev (fun k => impl_fits.l0 k c xs (xs.length : Int) (i : Int) s.1 s.2) (decide ((needs xs c d i s).1 ≤ c * (needs xs c d i s).2)) := by
  have h4 := hf.2.2
  induction d with
  | zero =>
    intro i s hi hs
    refine ev_succ ?_
    simp only [impl_fits.l0, needs]
    rw [cyc_mul hf h1 h2 (s := s) (by rw [show xs.length = i by omega]; exact hs)]
    exact ev_neg (by omega) (ev_some _)
  | succ d ih =>
    intro i s hi hs
    have q1 : (i : Int) < (xs.length : Int) := by omega
    have q2 : 0 ≤ (i : Int) := by omega
    have q3 : 0 ≤ 8400 * (i : Int) := by omega
    have q4 : i < xs.length := by omega
    have q5 : i + 1 + d = xs.length := by omega
    have hw : wrap64 ((i : Int) + 1) = ((i + 1 : Nat) : Int) := by rw [wid (by omega) (by omega)]; omega
    obtain ⟨f2, f3, f4⟩ := need_step hf h1 h2 i q4 hs
    obtain ⟨n1, n2, n3, n4, n5, n6⟩ := need_in (fam_at hf i q4) h1 h2
    refine ev_succ ?_
    simp only [impl_fits.l0]
    rw [hw, n1]
    have e1 := fraction_ev ((rd_T39 xs (i : Int)).f4 * (rd_T39 xs (i : Int)).f3 + (rd_T39 xs (i : Int)).f0 * c) ((rd_T39 xs (i : Int)).f3) n2 (Int.le_trans n3 (by decide)) n5 n6
    have e2 := plus_ev hs n4 q3 (by decide) f3 f4
    have e3 := ih (i + 1) _ q5 f2
    exact ev_pos q1 (ev_pos q2 (ev_pos q1 (ev_bind e1 (ev_bind e2 e3))))
theorem implFits_ev {xs : List S39} (hf : FamOk xs) {c : Int} (h1 : 1 ≤ c) (h2 : c ≤ 400) : Ev (fun k => impl_fits.f k xs c) (fitsB xs c) := by
  unfold impl_fits.f fitsB
  exact implFits_l0 hf h1 h2 xs.length 0 (0, 1) (by omega) (fr0 _ _ (by simp) (by simp))
/-- The first of d cycles from c on that fits, or 0. -/
def leastF (xs : List S39) : Nat → Int → Int
  | 0, _ => 0
  | d + 1, c => if fitsB xs c = true then c else leastF xs d (c + 1)
def allF (xs : List S39) : Nat → Int → List Int
  | 0, _ => []
  | d + 1, c => if fitsB xs c = true then c :: allF xs d (c + 1) else allF xs d (c + 1)
theorem least_all (xs : List S39) (d : Nat) : ∀ c, 1 ≤ c → (allF xs d c = [] ∧ leastF xs d c = 0) ∨ (∃ y ys, allF xs d c = y :: ys ∧ leastF xs d c = y ∧ 1 ≤ y) := by
  induction d with
  | zero => intro c hc; exact Or.inl ⟨rfl, rfl⟩
  | succ d ih =>
    intro c hc
    simp only [allF, leastF]
    by_cases h : fitsB xs c = true
    · rw [if_pos h, if_pos h]
      exact Or.inr ⟨c, _, rfl, rfl, hc⟩
    · rw [if_neg h, if_neg h]
      exact ih (c + 1) (by omega)
theorem specLeast_l0 {xs : List S39} (hf : FamOk xs) (d : Nat) : ∀ (c : Int), 1 ≤ c → c + d = 401 → Ev (fun k => spec_l8Least.l0 k xs c) (leastF xs d c) := by
  induction d with
  | zero =>
    intro c h1 hc
    refine ev_succ ?_
    simp only [spec_l8Least.l0, leastF]
    exact ev_neg (by omega) (ev_some _)
  | succ d ih =>
    intro c h1 hc
    have q1 : c ≤ 400 := by omega
    have q2 : c + 1 + d = 401 := by omega
    have q3 : 1 ≤ c + 1 := by omega
    have hw : wrap64 (c + 1) = c + 1 := wid (by omega) (by omega)
    refine ev_succ ?_
    simp only [spec_l8Least.l0, leastF]
    rw [hw]
    refine ev_pos q1 (ev_bind (specFits_ev hf h1 q1) ?_)
    by_cases h : fitsB xs c = true
    · rw [if_pos h]
      exact ev_pos h (ev_some _)
    · rw [if_neg h]
      exact ev_neg h (ih _ q3 q2)
theorem specLeast_ev {xs : List S39} (hf : FamOk xs) : Ev (fun k => spec_l8Least.f k xs) (leastF xs 400 1) := by
  unfold spec_l8Least.f
  exact specLeast_l0 hf 400 1 (by decide) (by decide)
theorem fitting_l0 {xs : List S39} (hf : FamOk xs) (d : Nat) : ∀ (c : Int) (ys : List Int), 1 ≤ c → c + d = 401 → (ys.length : Int) < c → Ev (fun k => impl_fitting.l0 k xs ys c) (ys ++ allF xs d c) := by
  induction d with
  | zero =>
    intro c ys h1 hc hy
    refine ev_succ ?_
    simp only [impl_fitting.l0, allF, List.append_nil]
    exact ev_neg (by omega) (ev_some _)
  | succ d ih =>
    intro c ys h1 hc hy
    have q1 : c ≤ 400 := by omega
    have q2 : c + 1 + d = 401 := by omega
    have q3 : 1 ≤ c + 1 := by omega
    have q4 : ys.length < 17592186044416 := by omega
    have q5 : (ys.length : Int) < c + 1 := by omega
    have q6 : ((ys ++ [c]).length : Int) < c + 1 := by simp; omega
    have hw : wrap64 (c + 1) = c + 1 := wid (by omega) (by omega)
    refine ev_succ ?_
    simp only [impl_fitting.l0, allF]
    rw [hw]
    refine ev_pos q1 (ev_bind (implFits_ev hf h1 q1) ?_)
    by_cases h : fitsB xs c = true
    · rw [if_pos h]
      refine ev_pos h (ev_pos q4 (ev_cast (ih _ _ q3 q2 q6) ?_))
      rw [List.append_assoc]
      rfl
    · rw [if_neg h]
      exact ev_neg h (ih _ _ q3 q2 q5)
theorem fitting_ev {xs : List S39} (hf : FamOk xs) : Ev (fun k => impl_fitting.f k xs) (allF xs 400 1) := by
  unfold impl_fitting.f
  exact ev_cast (fitting_l0 hf 400 1 [] (by decide) (by decide) (by decide)) (List.nil_append _)

def ans (xs : List S39) : Int × Bool := if FamOk xs then (if leastF xs 400 1 = 0 then (0, false) else (leastF xs 400 1, true)) else (0, false)
theorem spec_ans (xs : List S39) (hn : xs.length ≤ 35184372088832) : Ev (fun k => spec_LeastCommon.f k xs) (ans xs) := by
  unfold spec_LeastCommon.f ans
  refine ev_bind (specFamily_ev xs hn) ?_
  by_cases h : FamOk xs
  · rw [if_pos h]
    refine ev_pos (decide_eq_true h) (ev_bind (specLeast_ev h) ?_)
    by_cases h0 : leastF xs 400 1 = 0
    · rw [if_pos h0]
      exact ev_pos h0 (ev_some _)
    · rw [if_neg h0]
      exact ev_neg h0 (ev_bind (specLeast_ev h) (ev_some _))
  · exact ev_cast (ev_neg (by rw [decide_eq_true_eq]; exact h) (ev_some _)) (if_neg h).symm
theorem impl_ans (xs : List S39) (hn : xs.length ≤ 35184372088832) : Ev (fun k => impl_LeastCommon.f k xs) (ans xs) := by
  unfold impl_LeastCommon.f ans
  refine ev_bind (implFamily_ev xs hn) ?_
  by_cases h : FamOk xs
  · rw [if_pos h]
    refine ev_pos (decide_eq_true h) (ev_bind (fitting_ev h) ?_)
    rcases least_all xs 400 1 (by decide) with ⟨h1, h2⟩ | ⟨y, ys, h1, h2, h3⟩
    · rw [h1, h2]
      exact ev_pos (by simp) (ev_some _)
    · rw [h1, h2]
      have q : 0 < ((y :: ys).length : Int) := by simp only [List.length_cons]; omega
      refine ev_neg (by omega) (ev_pos q (ev_cast (ev_some _) ?_))
      rw [if_neg (by omega)]
      rfl
  · exact ev_cast (ev_neg (by rw [decide_eq_true_eq]; exact h) (ev_some _)) (if_neg h).symm
theorem FnExactLeastCommon (l0 : List (S41)) (hl0 : l0.length ≤ maxLen) (hw0 : ∀ x ∈ l0, (Lit.int .i64 x.f0).wf = true ∧ (Lit.int .i64 x.f1).wf = true ∧ (Lit.int .i64 x.f2).wf = true ∧ (Lit.int .i64 x.f3).wf = true ∧ (Lit.int .i64 x.f4).wf = true) :
    ∃ k, laws_FnExactLeastCommon.f k l0 = some true := by
  refine Ev.rounds ?_
  unfold laws_FnExactLeastCommon.f
  simp only [szItemS_eq l0 hl0, Option.bind_some]
  by_cases c0 : (1048576 : Int) - (l0.length : Int) < 0
  · rw [if_pos c0]
    exact ev_pos (by omega) (ev_some _)
  rw [if_neg c0]
  refine ev_neg (by omega) ?_
  have h0 : l0.length ≤ 1048576 := by omega
  have t0 := toItemS_ev l0 h0
  have hm : (l0.map toI).length ≤ 1048576 := by simpa using h0
  refine ev_bind t0 (ev_bind (spec_ans _ (by omega)) (ev_bind t0 (ev_bind (impl_ans _ (by omega)) ?_)))
  refine ev_pos rfl (ev_succ ?_)
  simp only [laws_FnExactLeastCommon.j0]
  exact ev_neg (by simp) (ev_bind t0 (ev_bind (eqItemS_ev _ hm) (ev_pos rfl (ev_some _))))

end Go.Proofs.Ytniocpienddbnaa.Pure
