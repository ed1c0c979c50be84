/- The program's FamilyCost and the reference's add the same daily costs, in lowest terms. No conditions. -/
import Derived.Test.YtkdendaoebgoeaaKit
import Derived.Test.YtkdendaoebgoeaaXFnExactFamilyCostx5
namespace Go.Proofs.Ytkdendaoebgoeaa.Pure
set_option linter.unusedVariables false
open Go.RowKit Go.Proofs.Ytkdendaoebgoeaa.PFnExactFamilyCost Go.Proofs.YtkdendaoebgoeaaW.PrintWords Go.Proofs.YtkdendaoebgoeaaW.PrintLast Go.Proofs.Ytkdendaoebgoeaa.Kit

theorem in_eq (a b c : Int) : spec_l1In.f a b c = some (decide (b ≤ a ∧ a ≤ c)) := by
  unfold spec_l1In.f
  by_cases h : b ≤ a <;> simp [h]
theorem within_eq (a b c : Int) : impl_within.f a b c = some (decide (b ≤ a ∧ a ≤ c)) := by
  unfold impl_within.f
  by_cases h : b ≤ a <;> simp [h]
theorem toIntS_l0 (xs : List Int) (hn : xs.length ≤ 35184372088832) (d : Nat) : ∀ (i : Nat) (ys : List Int), i + d = xs.length → ys.length = xs.length → ys.take i = xs.take i →
    Ev (fun k => laws_toIntS.l0 k xs ys (i : Int)) xs := by
  induction d with
  | zero =>
    intro i ys hi hl ht
    refine ev_succ ?_
    simp only [laws_toIntS.l0]
    refine ev_neg (by omega) ?_
    rw [List.take_of_length_le (by omega), List.take_of_length_le (by omega)] at ht
    rw [ht]
    exact ev_some _
  | succ d ih =>
    intro i ys hi hl ht
    refine ev_succ ?_
    simp only [laws_toIntS.l0]
    refine ev_pos (by omega) (ev_pos (by omega) (ev_pos (by omega) ?_))
    have hw : wrap64 ((i : Int) + 1) = ((i + 1 : Nat) : Int) := by rw [wid (by omega) (by omega)]; omega
    rw [hw]
    refine ih (i + 1) _ (by omega) (by simpa using hl) ?_
    rw [rd_nat xs i (by omega), Int.toNat_natCast, List.take_succ_eq_append_getElem (by simp; omega), List.take_succ_eq_append_getElem (by omega), List.getElem_set_self, List.take_set_of_le (by omega), ht]
theorem toIntS_ev (xs : List Int) (hn : xs.length ≤ 35184372088832) : Ev (fun k => laws_toIntS.f k xs) xs := by
  unfold laws_toIntS.f
  refine ev_pos (by omega) (ev_pos (by omega) ?_)
  exact toIntS_l0 xs hn xs.length 0 _ (by omega) (by simp) rfl
theorem eqIntS_l0 (xs ys : List Int) (hn : xs.length ≤ 35184372088832) (hl : ys.length = xs.length) (d : Nat) : ∀ (i : Nat), i + d = xs.length →
    Ev (fun k => laws_eqIntS.l0 k xs ys (i : Int)) (decide (xs.drop i = ys.drop i)) := by
  induction d with
  | zero =>
    intro i hi
    refine ev_succ ?_
    simp only [laws_eqIntS.l0]
    refine ev_neg (by omega) ?_
    rw [List.drop_of_length_le (by omega), List.drop_of_length_le (by omega)]
    exact ev_some _
  | succ d ih =>
    intro i hi
    refine ev_succ ?_
    simp only [laws_eqIntS.l0]
    refine ev_pos (by omega) (ev_pos (by omega) (ev_pos (by omega) ?_))
    have hw : wrap64 ((i : Int) + 1) = ((i + 1 : Nat) : Int) := by rw [wid (by omega) (by omega)]; omega
    rw [hw, drop_rd xs i (by omega), drop_rd ys i (by omega)]
    by_cases h : rd xs i = rd ys i
    · refine ev_pos h (ev_cast (ih (i + 1) (by omega)) ?_)
      simp [h]
    · refine ev_neg h (ev_cast (ev_some false) ?_)
      simp [h]
theorem eqIntS_ev (xs ys : List Int) (hn : xs.length ≤ 35184372088832) : Ev (fun k => laws_eqIntS.f k xs ys) (decide (xs = ys)) := by
  unfold laws_eqIntS.f
  by_cases h : xs.length = ys.length
  · refine ev_pos (by omega) (ev_cast (eqIntS_l0 xs ys hn h.symm xs.length 0 (by omega)) (by simp))
  · refine ev_neg (by omega) (ev_cast (ev_some false) ?_)
    have : xs ≠ ys := fun e => h (by rw [e])
    simp [this]
theorem allWithin_l0 (lo up : Int) (xs : List Int) (hn : xs.length ≤ 35184372088832) (d : Nat) : ∀ (i : Nat), i + d = xs.length →
    Ev (fun k => impl_allWithin.l0 k lo up xs (xs.length : Int) (i : Int)) (decide (∀ x ∈ xs.drop i, lo ≤ x ∧ x ≤ up)) := by
  induction d with
  | zero =>
    intro i hi
    refine ev_succ ?_
    simp only [impl_allWithin.l0]
    refine ev_neg (by omega) ?_
    rw [List.drop_of_length_le (by omega)]
    exact ev_cast (ev_some true) (by simp)
  | succ d ih =>
    intro i hi
    refine ev_succ ?_
    simp only [impl_allWithin.l0, within_eq, Option.bind_some]
    refine ev_pos (by omega) (ev_pos (by omega) (ev_pos (by omega) ?_))
    have hw : wrap64 ((i : Int) + 1) = ((i + 1 : Nat) : Int) := by rw [wid (by omega) (by omega)]; omega
    rw [hw, drop_rd xs i (by omega)]
    by_cases h : lo ≤ rd xs i ∧ rd xs i ≤ up
    · refine ev_pos (by simpa using h) (ev_cast (ih (i + 1) (by omega)) ?_)
      simp [h]
    · refine ev_neg (by simpa using h) (ev_cast (ev_some false) ?_)
      symm
      simp only [decide_eq_false_iff_not, List.mem_cons]
      exact fun hh => h (hh _ (Or.inl rfl))
theorem allWithin_ev (xs : List Int) (lo hi : Int) (hn : xs.length ≤ 35184372088832) : Ev (fun k => impl_allWithin.f k xs lo hi) (decide (∀ x ∈ xs, lo ≤ x ∧ x ≤ hi)) := by
  unfold impl_allWithin.f
  exact allWithin_l0 lo hi xs hn xs.length 0 (by omega)
theorem gcd_l0 (b : Nat) : ∀ a : Nat, Ev (fun k => spec_l8Gcd.l0 k (a : Int) (b : Int)) ((Nat.gcd a b : Nat) : Int) := by
  induction b using Nat.strongRecOn with
  | _ b ih =>
    intro a
    refine ev_succ ?_
    simp only [spec_l8Gcd.l0]
    by_cases h : b = 0
    · subst h
      exact ev_neg (by omega) (ev_cast (ev_some _) (by simp))
    · refine ev_pos (by omega) (ev_neg (by omega) ?_)
      have e : Int.tmod (a : Int) (b : Int) = ((a % b : Nat) : Int) := rfl
      rw [e]
      refine ev_cast (ih (a % b) (Nat.mod_lt _ (by omega)) b) ?_
      rw [Nat.gcd_comm b, ← Nat.gcd_rec, Nat.gcd_comm]
theorem gcd_ev (a b : Int) (ha : 0 ≤ a) (hb : 0 ≤ b) : Ev (fun k => spec_l8Gcd.f k a b) ((Nat.gcd a.toNat b.toNat : Nat) : Int) := by
  unfold spec_l8Gcd.f
  have := gcd_l0 b.toNat a.toNat
  rwa [Int.toNat_of_nonneg ha, Int.toNat_of_nonneg hb] at this
theorem divisor_l0 (b : Nat) : ∀ a : Nat, Ev (fun k => impl_divisor.l0 k (a : Int) (b : Int)) ((Nat.gcd a b : Nat) : Int) := by
  induction b using Nat.strongRecOn with
  | _ b ih =>
    intro a
    refine ev_succ ?_
    simp only [impl_divisor.l0]
    by_cases h : b = 0
    · subst h
      exact ev_pos (by omega) (ev_cast (ev_some _) (by simp))
    · refine ev_neg (by omega) ?_
      have e : Int.tmod (a : Int) (b : Int) = ((a % b : Nat) : Int) := rfl
      rw [e]
      refine ev_cast (ih (a % b) (Nat.mod_lt _ (by omega)) b) ?_
      rw [Nat.gcd_comm b, ← Nat.gcd_rec, Nat.gcd_comm]
theorem divisor_ev (a b : Int) (ha : 0 ≤ a) (hb : 0 ≤ b) : Ev (fun k => impl_divisor.f k a b) ((Nat.gcd a.toNat b.toNat : Nat) : Int) := by
  unfold impl_divisor.f
  have := divisor_l0 b.toNat a.toNat
  rwa [Int.toNat_of_nonneg ha, Int.toNat_of_nonneg hb] at this
/-- A quotient in lowest terms. -/
def fr (n d : Int) : Int × Int := (n / ((Nat.gcd n.toNat d.toNat : Nat) : Int), d / ((Nat.gcd n.toNat d.toNat : Nat) : Int))
theorem gcd_fr_pos {n d : Int} (hd : 0 < d) : 0 < ((Nat.gcd n.toNat d.toNat : Nat) : Int) := by
  have := Nat.gcd_pos_of_pos_right n.toNat (show 0 < d.toNat by omega)
  omega
theorem fr_in {n d : Int} (hn : 0 ≤ n) (hd : 0 < d) : 0 ≤ (fr n d).1 ∧ (fr n d).1 ≤ n ∧ 0 < (fr n d).2 ∧ (fr n d).2 ≤ d := by
  have hg := gcd_fr_pos (n := n) hd
  have hdv : ((Nat.gcd n.toNat d.toNat : Nat) : Int) ∣ d := by
    have h := Nat.gcd_dvd_right n.toNat d.toNat
    have h2 := Int.natCast_dvd_natCast.2 h
    rwa [Int.toNat_of_nonneg (by omega)] at h2
  refine ⟨Int.ediv_nonneg hn (by omega), Int.ediv_le_self _ hn, ?_, Int.ediv_le_self _ (by omega)⟩
  exact Int.ediv_pos_of_pos_of_dvd hd (by omega) hdv
theorem cut_ev (n d : Int) (hn : 0 ≤ n) (hn2 : n ≤ 9223372036854775807) (hd : 0 < d) (hd2 : d ≤ 9223372036854775807) : Ev (fun k => spec_l8Cut.f k n d) (fr n d) := by
  have hg := gcd_fr_pos (n := n) hd
  have h1 := fr_in hn hd
  unfold spec_l8Cut.f
  refine ev_bind (gcd_ev n d hn (by omega)) (ev_neg (by omega) (ev_cast (ev_some _) ?_))
  unfold fr at h1 ⊢
  simp only at h1
  rw [Int.tdiv_eq_ediv_of_nonneg hn, Int.tdiv_eq_ediv_of_nonneg (by omega), wid (by omega) (by omega), wid (by omega) (by omega)]
theorem fraction_ev (n d : Int) (hn : 0 ≤ n) (hn2 : n ≤ 9223372036854775807) (hd : 0 < d) (hd2 : d ≤ 9223372036854775807) : Ev (fun k => impl_fraction.f k n d) (fr n d) := by
  have hg := gcd_fr_pos (n := n) hd
  have h1 := fr_in hn hd
  unfold impl_fraction.f
  refine ev_bind (divisor_ev n d hn (by omega)) (ev_neg (by omega) (ev_cast (ev_some _) ?_))
  unfold fr at h1 ⊢
  simp only at h1
  rw [Int.tdiv_eq_ediv_of_nonneg hn, Int.tdiv_eq_ediv_of_nonneg (by omega), wid (by omega) (by omega), wid (by omega) (by omega)]
/-- The sum of two quotients. -/
def addf (x y : Int × Int) : Int × Int := fr (x.1 * y.2 + y.1 * x.2) (x.2 * y.2)
/-- A quotient of at most B, its lower part at most D. -/
def Fr (B D : Int) (x : Int × Int) : Prop := 0 ≤ x.1 ∧ x.1 ≤ B * x.2 ∧ 0 < x.2 ∧ x.2 ≤ D
theorem fr_fr {n d B D : Int} (hn : 0 ≤ n) (hb : n ≤ B * d) (hd : 0 < d) (hD : d ≤ D) : Fr B D (fr n d) := by
  have h := fr_in hn hd
  have hg := gcd_fr_pos (n := n) hd
  refine ⟨h.1, ?_, h.2.2.1, by omega⟩
  have h1 : ((Nat.gcd n.toNat d.toNat : Nat) : Int) ∣ d := by
    have h := Nat.gcd_dvd_right n.toNat d.toNat
    have h2 := Int.natCast_dvd_natCast.2 h
    rwa [Int.toNat_of_nonneg (by omega)] at h2
  unfold fr
  simp only
  refine Int.ediv_le_of_le_mul hg ?_
  rw [Int.mul_assoc, Int.ediv_mul_cancel h1]
  exact hb
theorem fr_scale (n d m : Int) (hn : 0 ≤ n) (hd : 0 < d) (hm : 0 < m) : fr (n * m) (d * m) = fr n d := by
  obtain ⟨N, rfl⟩ := Int.eq_ofNat_of_zero_le hn
  obtain ⟨M, rfl⟩ := Int.eq_ofNat_of_zero_le (show 0 ≤ m by omega)
  obtain ⟨D, rfl⟩ := Int.eq_ofNat_of_zero_le (show 0 ≤ d by omega)
  have e1 : ((N : Int) * (M : Int)) = ((N * M : Nat) : Int) := by simp
  have e2 : ((D : Int) * (M : Int)) = ((D * M : Nat) : Int) := by simp
  unfold fr
  rw [e1, e2]
  simp only [Int.toNat_natCast]
  rw [Nat.gcd_mul_right, Prod.mk.injEq]
  refine ⟨?_, ?_⟩
  · rw [Int.natCast_mul, Int.natCast_mul, Int.mul_ediv_mul_of_pos_left _ _ hm]
  · rw [Int.natCast_mul, Int.natCast_mul, Int.mul_ediv_mul_of_pos_left _ _ hm]
/-- What is needed of the parts of a sum. -/
theorem addf_parts {B B' D D' : Int} {x y : Int × Int} (hx : Fr B D x) (hy : Fr B' D' y) (hB : 0 ≤ B) (hB' : 0 ≤ B') :
    0 ≤ x.1 * y.2 ∧ 0 ≤ y.1 * x.2 ∧ x.1 * y.2 + y.1 * x.2 ≤ (B + B') * (x.2 * y.2) ∧ 0 < x.2 * y.2 ∧ x.2 * y.2 ≤ D * D' ∧ (B + B') * (x.2 * y.2) ≤ (B + B') * (D * D') := by
  obtain ⟨a1, a2, a3, a4⟩ := hx
  obtain ⟨b1, b2, b3, b4⟩ := hy
  have q0 : 0 < x.2 * y.2 := Int.mul_pos a3 b3
  have q1 : x.2 * y.2 ≤ D * D' := Int.mul_le_mul a4 b4 (by omega) (by omega)
  have n1 : x.1 * y.2 ≤ B * x.2 * y.2 := Int.mul_le_mul_of_nonneg_right a2 (by omega)
  have n2 : y.1 * x.2 ≤ B' * y.2 * x.2 := Int.mul_le_mul_of_nonneg_right b2 (by omega)
  refine ⟨Int.mul_nonneg a1 (by omega), Int.mul_nonneg b1 (by omega), ?_, q0, q1, Int.mul_le_mul_of_nonneg_left q1 (by omega)⟩
  rw [Int.add_mul]
  rw [Int.mul_assoc] at n1 n2
  rw [Int.mul_comm y.2 x.2] at n2
  omega
theorem addf_fr {B B' D D' : Int} {x y : Int × Int} (hx : Fr B D x) (hy : Fr B' D' y) (hB : 0 ≤ B) (hB' : 0 ≤ B') : Fr (B + B') (D * D') (addf x y) := by
  obtain ⟨h1, h2, h3, h4, h5, h6⟩ := addf_parts hx hy hB hB'
  exact fr_fr (by omega) h3 h4 h5
theorem add_ev {B B' D D' : Int} {x y : Int × Int} (hx : Fr B D x) (hy : Fr B' D' y) (hB : 0 ≤ B) (hB' : 0 ≤ B') (hs : (B + B') * (D * D') ≤ 9223372036854775807) (hd : D * D' ≤ 9223372036854775807) :
    Ev (fun k => spec_l8Add.f k x.1 x.2 y.1 y.2) (addf x y) := by
  obtain ⟨h1, h2, h3, h4, h5, h6⟩ := addf_parts hx hy hB hB'
  obtain ⟨p, q⟩ := x
  obtain ⟨u, v⟩ := y
  obtain ⟨a1, a2, a3, a4⟩ := hx
  obtain ⟨b1, b2, b3, b4⟩ := hy
  simp only at *
  have hg : 0 < ((Nat.gcd q.toNat v.toNat : Nat) : Int) := gcd_fr_pos (n := q) b3
  have dq : ((Nat.gcd q.toNat v.toNat : Nat) : Int) ∣ q := by
    have h2 := Int.natCast_dvd_natCast.2 (Nat.gcd_dvd_left q.toNat v.toNat)
    rwa [Int.toNat_of_nonneg (by omega)] at h2
  have dv : ((Nat.gcd q.toNat v.toNat : Nat) : Int) ∣ v := by
    have h2 := Int.natCast_dvd_natCast.2 (Nat.gcd_dvd_right q.toNat v.toNat)
    rwa [Int.toNat_of_nonneg (by omega)] at h2
  unfold spec_l8Add.f addf
  refine ev_bind (gcd_ev q v (by omega) (by omega)) (ev_neg (by omega) ?_)
  generalize ((Nat.gcd q.toNat v.toNat : Nat) : Int) = g at hg dq dv
  obtain ⟨q', rfl⟩ := dq
  obtain ⟨v', rfl⟩ := dv
  have q'0 : 0 < q' := by
    rcases Int.lt_trichotomy q' 0 with h | h | h
    · have := Int.mul_neg_of_pos_of_neg hg h; omega
    · rw [h, Int.mul_zero] at a3; omega
    · exact h
  have v'0 : 0 < v' := by
    rcases Int.lt_trichotomy v' 0 with h | h | h
    · have := Int.mul_neg_of_pos_of_neg hg h; omega
    · rw [h, Int.mul_zero] at b3; omega
    · exact h
  have e1 : Int.tdiv (g * v') g = v' := by rw [Int.tdiv_eq_ediv_of_nonneg (by omega), Int.mul_ediv_cancel_left _ (by omega)]
  have e2 : Int.tdiv (g * q') g = q' := by rw [Int.tdiv_eq_ediv_of_nonneg (by omega), Int.mul_ediv_cancel_left _ (by omega)]
  have k1 : v' ≤ g * v' := by have := Int.mul_le_mul_of_nonneg_right (show 1 ≤ g by omega) (show 0 ≤ v' by omega); omega
  have k2 : q' ≤ g * q' := by have := Int.mul_le_mul_of_nonneg_right (show 1 ≤ g by omega) (show 0 ≤ q' by omega); omega
  have hq : g * q' ≤ 9223372036854775807 := by
    have := Int.mul_le_mul_of_nonneg_left (show 1 ≤ g * v' by omega) (show 0 ≤ g * q' by omega)
    omega
  have hv : g * v' ≤ 9223372036854775807 := by
    have := Int.mul_le_mul_of_nonneg_right (show 1 ≤ g * q' by omega) (show 0 ≤ g * v' by omega)
    omega
  have m1 : 0 ≤ p * v' := Int.mul_nonneg a1 (by omega)
  have m2 : 0 ≤ u * q' := Int.mul_nonneg b1 (by omega)
  have m3 : p * v' ≤ p * (g * v') := Int.mul_le_mul_of_nonneg_left k1 a1
  have m4 : u * q' ≤ u * (g * q') := Int.mul_le_mul_of_nonneg_left k2 b1
  have m5 : q' * (g * v') ≤ g * q' * (g * v') := Int.mul_le_mul_of_nonneg_right k2 (by omega)
  have m6 : 0 < q' * (g * v') := Int.mul_pos q'0 b3
  rw [e1, e2, wid (x := v') (by omega) (by omega), wid (x := q') (by omega) (by omega), wid (x := p * v') (by omega) (by omega), wid (x := u * q') (by omega) (by omega), wid (x := q' * (g * v')) (by omega) (by omega), wid (by omega) (by omega)]
  refine ev_bind (cut_ev _ _ (by omega) (by omega) m6 (by omega)) (ev_cast (ev_some _) ?_)
  show fr (p * v' + u * q') (q' * (g * v')) = fr (p * (g * v') + u * (g * q')) (g * q' * (g * v'))
  rw [← fr_scale (p * v' + u * q') (q' * (g * v')) g (by omega) m6 hg]
  congr 1
  · rw [Int.add_mul, Int.mul_assoc, Int.mul_assoc, Int.mul_comm v' g, Int.mul_comm q' g]
  · rw [Int.mul_comm (q' * (g * v')) g, ← Int.mul_assoc]
theorem plus_ev {B B' D D' : Int} {x y : Int × Int} (hx : Fr B D x) (hy : Fr B' D' y) (hB : 0 ≤ B) (hB' : 0 ≤ B') (hs : (B + B') * (D * D') ≤ 9223372036854775807) (hd : D * D' ≤ 9223372036854775807) :
    Ev (fun k => impl_plus.f k x.1 x.2 y.1 y.2) (addf x y) := by
  obtain ⟨h1, h2, h3, h4, h5, h6⟩ := addf_parts hx hy hB hB'
  unfold impl_plus.f addf
  rw [wid (x := x.1 * y.2) (by omega) (by omega), wid (x := y.1 * x.2) (by omega) (by omega), wid (x := x.2 * y.2) (by omega) (by omega), wid (by omega) (by omega)]
  exact ev_bind (fraction_ev _ _ (by omega) (by omega) h4 (by omega)) (ev_some _)
/-- What a valid item is. -/
def ItemOk (a b c d e : Int) : Prop := (1 ≤ a ∧ a ≤ 20) ∧ (1 ≤ b ∧ b ≤ 99) ∧ (1 ≤ c ∧ c ≤ 9) ∧ (a + 1 ≤ d ∧ d ≤ 40) ∧ (0 ≤ e ∧ e ≤ 9)
instance (a b c d e : Int) : Decidable (ItemOk a b c d e) := by unfold ItemOk; infer_instance
theorem specItem_eq (a b c d e : Int) : spec_l8Item.f a b c d e = some (decide (ItemOk a b c d e)) := by
  unfold spec_l8Item.f ItemOk
  simp only [in_eq, Option.bind_some]
  by_cases h1 : 1 ≤ a ∧ a ≤ 20
  · rw [show wrap64 (a + 1) = a + 1 from wid (by omega) (by omega)]
    by_cases h2 : 1 ≤ b ∧ b ≤ 99 <;> by_cases h3 : 1 ≤ c ∧ c ≤ 9 <;> by_cases h4 : a + 1 ≤ d ∧ d ≤ 40 <;> simp [h1, h2, h3, h4]
  · simp [h1]
theorem implItem_eq (a b c d e : Int) : impl_IsItem.f a b c d e = some (decide (ItemOk a b c d e)) := by
  unfold impl_IsItem.f ItemOk
  simp only [within_eq, Option.bind_some]
  by_cases h1 : 1 ≤ a ∧ a ≤ 20
  · rw [show wrap64 (a + 1) = a + 1 from wid (by omega) (by omega)]
    by_cases h2 : 1 ≤ b ∧ b ≤ 99 <;> by_cases h3 : 1 ≤ c ∧ c ≤ 9 <;> by_cases h4 : a + 1 ≤ d ∧ d ≤ 40 <;> simp [h1, h2, h3, h4]
  · simp [h1]
/-- The daily cost of an item. -/
def dcost (a b c cycle : Int) : Int × Int := fr (2 * b + c * a * cycle * cycle) (2 * cycle)
theorem daily_in {a b c d e cycle : Int} (h : ItemOk a b c d e) (h1 : 1 ≤ cycle) (h2 : cycle ≤ 256) :
    wrap64 ((wrap64 (2 * b)) + (wrap64 ((wrap64 ((wrap64 (c * a)) * cycle)) * cycle))) = 2 * b + c * a * cycle * cycle ∧ wrap64 (2 * cycle) = 2 * cycle ∧ 0 ≤ 2 * b + c * a * cycle * cycle ∧ 2 * b + c * a * cycle * cycle ≤ 12000000 := by
  obtain ⟨ha, hb, hc, _, _⟩ := h
  have m1 := mulb (a := c) (b := a) (A := 9) (B := 20) (by omega) (by omega) (by omega) (by omega)
  have m2 := mulb (a := c * a) (b := cycle) (A := 180) (B := 256) (by omega) (by omega) (by omega) (by omega)
  have m3 := mulb (a := c * a * cycle) (b := cycle) (A := 46080) (B := 256) (by omega) (by omega) (by omega) (by omega)
  rw [wid (x := c * a) (by omega) (by omega), wid (x := c * a * cycle) (by omega) (by omega), wid (x := c * a * cycle * cycle) (by omega) (by omega), wid (x := 2 * b) (by omega) (by omega), wid (by omega) (by omega), wid (by omega) (by omega)]
  exact ⟨rfl, rfl, by omega, by omega⟩
theorem specDaily_ev (a b c d e cycle : Int) (h : ItemOk a b c d e) (h1 : 1 ≤ cycle) (h2 : cycle ≤ 256) : Ev (fun k => spec_l8Daily.f k a b c d e cycle) (dcost a b c cycle) := by
  obtain ⟨e1, e2, e3, e4⟩ := daily_in h h1 h2
  unfold spec_l8Daily.f dcost
  rw [e1, e2]
  exact ev_bind (cut_ev _ _ e3 (by omega) (by omega) (by omega)) (ev_some _)
theorem implDaily_ev (a b c d e cycle : Int) (h : ItemOk a b c d e) (h1 : 1 ≤ cycle) (h2 : cycle ≤ 256) : Ev (fun k => impl_Item_daily.f k a b c d e cycle) (dcost a b c cycle) := by
  obtain ⟨e1, e2, e3, e4⟩ := daily_in h h1 h2
  unfold impl_Item_daily.f dcost
  rw [e1, e2]
  exact ev_bind (fraction_ev _ _ e3 (by omega) (by omega) (by omega)) (ev_some _)
/-- What a family is. -/
def ItOk (x : S47) : Prop := ItemOk x.f0 x.f1 x.f2 x.f3 x.f4
instance (x : S47) : Decidable (ItOk x) := by unfold ItOk; infer_instance
def FamOk (l : List S47) : Prop := (∀ x ∈ l, ItOk x) ∧ 1 ≤ (l.length : Int) ∧ (l.length : Int) ≤ 4
instance (l : List S47) : Decidable (FamOk l) := by unfold FamOk; infer_instance
theorem rd2_nat (xs : List S47) (i : Nat) (h : i < xs.length) : rd_T47 xs (i : Int) = xs[i] := by
  unfold rd_T47
  simp [List.getD_eq_getElem?_getD, h]
theorem rd1_nat (xs : List S49) (i : Nat) (h : i < xs.length) : rd_T49 xs (i : Int) = xs[i] := by
  unfold rd_T49
  simp [List.getD_eq_getElem?_getD, h]
theorem drop_rd2 (xs : List S47) (i : Nat) (h : i < xs.length) : xs.drop i = rd_T47 xs (i : Int) :: xs.drop (i + 1) := by
  rw [rd2_nat xs i h]
  exact List.drop_eq_getElem_cons h
theorem specFamily_l0 (xs : List S47) (hn : xs.length ≤ 35184372088832) (d : Nat) : ∀ (i : Nat), i + d = xs.length →
    Ev (fun k => spec_l8Family.l0 k xs (i : Int)) (decide ((∀ x ∈ xs.drop i, ItOk x) ∧ 1 ≤ (xs.length : Int) ∧ (xs.length : Int) ≤ 4)) := by
  induction d with
  | zero =>
    intro i hi
    refine ev_succ ?_
    simp only [spec_l8Family.l0, in_eq, Option.bind_some]
    refine ev_neg (by omega) (ev_dec (ev_some _) ?_)
    rw [List.drop_of_length_le (by omega)]
    simp
  | succ d ih =>
    intro i hi
    refine ev_succ ?_
    simp only [spec_l8Family.l0, specItem_eq, Option.bind_some]
    refine ev_pos (by omega) (ev_pos (by omega) ?_)
    have hw : wrap64 ((i : Int) + 1) = ((i + 1 : Nat) : Int) := by rw [wid (by omega) (by omega)]; omega
    rw [hw, drop_rd2 xs i (by omega)]
    by_cases h : ItOk (rd_T47 xs (i : Int))
    · refine ev_pos (decide_eq_true h) (ev_cast (ih (i + 1) (by omega)) ?_)
      simp [h]
    · exact ev_neg (by rw [decide_eq_true_eq]; exact h) (ev_false fun hh => h (hh.1 _ (by simp)))
theorem specFamily_ev (xs : List S47) (hn : xs.length ≤ 35184372088832) : Ev (fun k => spec_l8Family.f k xs) (decide (FamOk xs)) := by
  unfold spec_l8Family.f FamOk
  exact specFamily_l0 xs hn xs.length 0 (by omega)
theorem implFamily_l0 (xs : List S47) (hn : xs.length ≤ 35184372088832) (d : Nat) : ∀ (i : Nat), i + d = xs.length →
    Ev (fun k => impl_isFamily.l0 k xs xs (xs.length : Int) (i : Int)) (decide ((∀ x ∈ xs.drop i, ItOk x) ∧ 1 ≤ (xs.length : Int) ∧ (xs.length : Int) ≤ 4)) := by
  induction d with
  | zero =>
    intro i hi
    refine ev_succ ?_
    simp only [impl_isFamily.l0, within_eq, Option.bind_some]
    refine ev_neg (by omega) (ev_dec (ev_some _) ?_)
    rw [List.drop_of_length_le (by omega)]
    simp
  | succ d ih =>
    intro i hi
    refine ev_succ ?_
    simp only [impl_isFamily.l0, implItem_eq, Option.bind_some]
    refine ev_pos (by omega) (ev_pos (by omega) (ev_pos (by omega) ?_))
    have hw : wrap64 ((i : Int) + 1) = ((i + 1 : Nat) : Int) := by rw [wid (by omega) (by omega)]; omega
    rw [hw, drop_rd2 xs i (by omega)]
    by_cases h : ItOk (rd_T47 xs (i : Int))
    · refine ev_pos (decide_eq_true h) (ev_cast (ih (i + 1) (by omega)) ?_)
      simp [h]
    · exact ev_neg (by rw [decide_eq_true_eq]; exact h) (ev_false fun hh => h (hh.1 _ (by simp)))
theorem implFamily_ev (xs : List S47) (hn : xs.length ≤ 35184372088832) : Ev (fun k => impl_isFamily.f k xs) (decide (FamOk xs)) := by
  unfold impl_isFamily.f FamOk
  exact implFamily_l0 xs hn xs.length 0 (by omega)
theorem fam_at {xs : List S47} (h : FamOk xs) (i : Nat) (hi : i < xs.length) : ItOk (rd_T47 xs (i : Int)) := by
  rw [rd2_nat xs i hi]
  exact h.1 _ (List.getElem_mem _)
def toI (x : S49) : S47 := ⟨x.f0, x.f1, x.f2, x.f3, x.f4⟩
theorem toItemS_l0 (xs : List S49) (hn : xs.length ≤ 1048576) (d : Nat) : ∀ (i : Nat) (ys : List S47), i + d = xs.length → ys.length = xs.length → ys.take i = (xs.map toI).take i →
    Ev (fun k => laws_toItemS.l0 k xs ys (i : Int)) (xs.map toI) := by
  induction d with
  | zero =>
    intro i ys hi hl ht
    refine ev_succ ?_
    simp only [laws_toItemS.l0]
    refine ev_neg (by omega) ?_
    rw [List.take_of_length_le (by omega), List.take_of_length_le (by simp; omega)] at ht
    rw [ht]
    exact ev_some _
  | succ d ih =>
    intro i ys hi hl ht
    refine ev_succ ?_
    simp only [laws_toItemS.l0, laws_toItem.f, Option.bind_some]
    refine ev_pos (by omega) (ev_pos (by omega) (ev_pos (by omega) ?_))
    have hw : wrap64 ((i : Int) + 1) = ((i + 1 : Nat) : Int) := by rw [wid (by omega) (by omega)]; omega
    rw [hw]
    refine ih (i + 1) _ (by omega) (by simpa using hl) ?_
    rw [rd1_nat xs i (by omega), Int.toNat_natCast, List.take_succ_eq_append_getElem (by simp; omega), List.take_succ_eq_append_getElem (by simp; omega), List.getElem_set_self, List.take_set_of_le (by omega), ht, List.getElem_map]
    rfl
theorem toItemS_ev (xs : List S49) (hn : xs.length ≤ 1048576) : Ev (fun k => laws_toItemS.f k xs) (xs.map toI) := by
  unfold laws_toItemS.f
  refine ev_pos (by omega) (ev_pos (by omega) ?_)
  exact toItemS_l0 xs hn xs.length 0 _ (by omega) (by simp) rfl
theorem eqItemS_l0 (xs : List S47) (hn : xs.length ≤ 1048576) (d : Nat) : ∀ (i : Nat), i + d = xs.length → Ev (fun k => laws_eqItemS.l0 k xs xs (i : Int)) true := by
  induction d with
  | zero =>
    intro i hi
    refine ev_succ ?_
    simp only [laws_eqItemS.l0]
    exact ev_neg (by omega) (ev_some _)
  | succ d ih =>
    intro i hi
    refine ev_succ ?_
    simp only [laws_eqItemS.l0, laws_eqItem.f, if_true, Option.bind_some]
    have hw : wrap64 ((i : Int) + 1) = ((i + 1 : Nat) : Int) := by rw [wid (by omega) (by omega)]; omega
    rw [hw]
    exact ev_pos (by omega) (ev_pos (by omega) (ev_pos (by omega) (ih (i + 1) (by omega))))
theorem eqItemS_ev (xs : List S47) (hn : xs.length ≤ 1048576) : Ev (fun k => laws_eqItemS.f k xs xs) true := by
  unfold laws_eqItemS.f
  exact ev_pos rfl (eqItemS_l0 xs hn xs.length 0 (by omega))
theorem szItemS_eq (xs : List S49) (hl : xs.length ≤ maxLen) : laws_szItemS.f xs 1048576 = some (if (1048576 : Int) - (xs.length : Int) < 0 then -1 else 1048576 - (xs.length : Int)) := by
  unfold maxLen at hl
  unfold laws_szItemS.f
  rw [wid (by omega) (by omega)]
  split <;> rfl
/-- The factors of a family. -/
def FacOk (xs : List S47) (fs : List Int) : Prop := (fs.length : Int) = (xs.length : Int) ∧ ∀ x ∈ fs, 1 ≤ x ∧ x ≤ 8
instance (xs : List S47) (fs : List Int) : Decidable (FacOk xs fs) := by unfold FacOk; infer_instance
theorem specFactors_l0 (xs : List S47) (fs : List Int) (hn : fs.length ≤ 35184372088832) (d : Nat) : ∀ (i : Nat), i + d = fs.length →
    Ev (fun k => spec_l8Factors.l0 k xs fs (i : Int)) (decide ((fs.length : Int) = (xs.length : Int) ∧ ∀ x ∈ fs.drop i, 1 ≤ x ∧ x ≤ 8)) := by
  induction d with
  | zero =>
    intro i hi
    refine ev_succ ?_
    simp only [spec_l8Factors.l0]
    refine ev_neg (by omega) (ev_cast (ev_some _) ?_)
    rw [List.drop_of_length_le (by omega), show ((fs.length : Int) == (xs.length : Int)) = decide ((fs.length : Int) = (xs.length : Int)) from by rw [Bool.eq_iff_iff]; simp]
    simp
  | succ d ih =>
    intro i hi
    refine ev_succ ?_
    simp only [spec_l8Factors.l0, in_eq, Option.bind_some]
    refine ev_pos (by omega) (ev_pos (by omega) ?_)
    have hw : wrap64 ((i : Int) + 1) = ((i + 1 : Nat) : Int) := by rw [wid (by omega) (by omega)]; omega
    rw [hw, drop_rd fs i (by omega)]
    by_cases h : 1 ≤ rd fs i ∧ rd fs i ≤ 8
    · refine ev_pos (by simpa using h) (ev_cast (ih (i + 1) (by omega)) ?_)
      simp [h]
    · exact ev_neg (by simpa using h) (ev_false fun hh => h (hh.2 _ (by simp)))
theorem specFactors_ev (xs : List S47) (fs : List Int) (hn : fs.length ≤ 35184372088832) : Ev (fun k => spec_l8Factors.f k xs fs) (decide (FacOk xs fs)) := by
  unfold spec_l8Factors.f FacOk
  exact specFactors_l0 xs fs hn fs.length 0 (by omega)
def jointF (xs : List S47) (base : Int) (fs : List Int) : Nat → Nat → Int × Int → Int × Int
  | 0, _, s => s
  | d + 1, i, s => jointF xs base fs d (i + 1) (addf s (dcost (rd_T47 xs (i : Int)).f0 (rd_T47 xs (i : Int)).f1 (rd_T47 xs (i : Int)).f2 (base * rd fs (i : Int))))
theorem dcost_fr {a b c d e C : Int} (h : ItemOk a b c d e) (h1 : 1 ≤ C) (h2 : C ≤ 256) : Fr 24000 512 (dcost a b c C) := by
  obtain ⟨_, _, e3, e4⟩ := daily_in h h1 h2
  obtain ⟨ha, hb, hc, _, _⟩ := h
  have m1 := mulb (a := c) (b := a) (A := 9) (B := 20) (by omega) (by omega) (by omega) (by omega)
  have m2 := mulb (a := c * a) (b := C) (A := 180) (B := 256) m1.1 m1.2 (by omega) h2
  have m3 : c * a * C * C ≤ 180 * 256 * C := Int.mul_le_mul_of_nonneg_right m2.2 (by omega)
  exact fr_fr e3 (by omega) (by omega) (by omega)
theorem pow512 (i : Nat) (h : i ≤ 3) : (0 : Int) ≤ 32 * 512 ^ i * 512 ∧ (32 : Int) * 512 ^ i * 512 ≤ 2199023255552 ∧ (32 : Int) * 512 ^ i * 512 = 32 * 512 ^ (i + 1) := by
  refine ⟨?_, ?_, by rw [Int.mul_assoc, ← Int.pow_succ]⟩
  · match i, h with
    | 0, _ => decide
    | 1, _ => decide
    | 2, _ => decide
    | 3, _ => decide
  · match i, h with
    | 0, _ => decide
    | 1, _ => decide
    | 2, _ => decide
    | 3, _ => decide
theorem joint_step {xs : List S47} (hf : FamOk xs) {base : Int} (h1 : 1 ≤ base) (h2 : base ≤ 32) {fs : List Int} (hc : FacOk xs fs) (i : Nat) (hi : i < xs.length) {s : Int × Int} (hs : Fr (99 + 24000 * (i : Int)) (32 * 512 ^ i) s) :
    (wrap64 (base * rd fs (i : Int)) = base * rd fs (i : Int) ∧ 1 ≤ base * rd fs (i : Int) ∧ base * rd fs (i : Int) ≤ 256) ∧
    Fr 24000 512 (dcost (rd_T47 xs (i : Int)).f0 (rd_T47 xs (i : Int)).f1 (rd_T47 xs (i : Int)).f2 (base * rd fs (i : Int))) ∧
    Fr (99 + 24000 * ((i + 1 : Nat) : Int)) (32 * 512 ^ (i + 1)) (addf s (dcost (rd_T47 xs (i : Int)).f0 (rd_T47 xs (i : Int)).f1 (rd_T47 xs (i : Int)).f2 (base * rd fs (i : Int)))) ∧
    (99 + 24000 * (i : Int) + 24000) * (32 * 512 ^ i * 512) ≤ 9223372036854775807 ∧ (32 : Int) * 512 ^ i * 512 ≤ 9223372036854775807 := by
  have h4 := hf.2.2
  have hl := hc.1
  have hi2 : i < fs.length := by omega
  have hr : 1 ≤ rd fs (i : Int) ∧ rd fs (i : Int) ≤ 8 := by
    rw [rd_nat fs i hi2]
    exact hc.2 _ (List.getElem_mem _)
  have m1 := mulb (a := base) (b := rd fs (i : Int)) (A := 32) (B := 8) (by omega) h2 (by omega) hr.2
  have m2 : 1 ≤ base * rd fs (i : Int) := by
    have := Int.mul_pos (show 0 < base by omega) (show 0 < rd fs (i : Int) by omega)
    omega
  have m3 : base * rd fs (i : Int) ≤ 256 := by omega
  have q0 : 0 ≤ 99 + 24000 * (i : Int) := by omega
  have q1 : 99 + 24000 * (i : Int) + 24000 ≤ 96099 := by omega
  have q2 : 99 + 24000 * (i : Int) + 24000 = 99 + 24000 * ((i + 1 : Nat) : Int) := by omega
  have hn := dcost_fr (fam_at hf i hi) m2 m3
  obtain ⟨p0, p1, p2⟩ := pow512 i (by omega)
  have ha := addf_fr hs hn q0 (by decide)
  refine ⟨⟨wid (by omega) (by omega), m2, m3⟩, hn, ?_, Int.le_trans (Int.mul_le_mul q1 p1 p0 (by decide)) (by decide), Int.le_trans p1 (by decide)⟩
  rw [p2, q2] at ha
  exact ha
theorem specJoint_l0 {xs : List S47} (hf : FamOk xs) {base : Int} (h1 : 1 ≤ base) (h2 : base ≤ 32) {fs : List Int} (hc : FacOk xs fs) (d : Nat) : ∀ (i : Nat) (s : Int × Int), i + d = xs.length → Fr (99 + 24000 * (i : Int)) (32 * 512 ^ i) s →
    Ev (fun k => spec_l8Joint.l0 k xs base fs (i : Int) s.1 s.2) (jointF xs base fs d i s) := by
  have h4 := hf.2.2
  have hl := hc.1
  induction d with
  | zero =>
    intro i s hi hs
    refine ev_succ ?_
    simp only [spec_l8Joint.l0, jointF]
    exact ev_neg (by omega) (ev_some _)
  | succ d ih =>
    intro i s hi hs
    have q1 : (i : Int) < (xs.length : Int) := by omega
    have q2 : 0 ≤ (i : Int) := by omega
    have q3 : (i : Int) < (fs.length : Int) := by omega
    have q4 : i < xs.length := by omega
    have q5 : i + 1 + d = xs.length := by omega
    have q6 : 0 ≤ 99 + 24000 * (i : Int) := by omega
    have hw : wrap64 ((i : Int) + 1) = ((i + 1 : Nat) : Int) := by rw [wid (by omega) (by omega)]; omega
    obtain ⟨⟨w1, w2, w3⟩, g1, g2, g3, g4⟩ := joint_step hf h1 h2 hc i q4 hs
    refine ev_succ ?_
    simp only [spec_l8Joint.l0]
    rw [hw, w1]
    have e1 := specDaily_ev _ _ _ _ _ _ (fam_at hf i q4) w2 w3
    have e2 := add_ev hs g1 q6 (by decide) g3 g4
    have e3 := ih (i + 1) _ q5 g2
    exact ev_pos q1 (ev_pos q2 (ev_pos q3 (ev_bind e1 (ev_bind e2 e3))))
theorem implJoint_l0 {xs : List S47} (hf : FamOk xs) {base : Int} (h1 : 1 ≤ base) (h2 : base ≤ 32) {fs : List Int} (hc : FacOk xs fs) (d : Nat) : ∀ (i : Nat) (s : Int × Int), i + d = xs.length → Fr (99 + 24000 * (i : Int)) (32 * 512 ^ i) s →
    Ev (fun k => impl_familyCost.l0 k base fs xs (xs.length : Int) (i : Int) s.1 s.2) (jointF xs base fs d i s) := by
  have h4 := hf.2.2
  have hl := hc.1
  induction d with
  | zero =>
    intro i s hi hs
    refine ev_succ ?_
    simp only [impl_familyCost.l0, jointF]
    exact ev_neg (by omega) (ev_some _)
  | succ d ih =>
    intro i s hi hs
    have q1 : (i : Int) < (xs.length : Int) := by omega
    have q2 : 0 ≤ (i : Int) := by omega
    have q3 : (i : Int) < (fs.length : Int) := by omega
    have q4 : i < xs.length := by omega
    have q5 : i + 1 + d = xs.length := by omega
    have q6 : 0 ≤ 99 + 24000 * (i : Int) := by omega
    have hw : wrap64 ((i : Int) + 1) = ((i + 1 : Nat) : Int) := by rw [wid (by omega) (by omega)]; omega
    obtain ⟨⟨w1, w2, w3⟩, g1, g2, g3, g4⟩ := joint_step hf h1 h2 hc i q4 hs
    refine ev_succ ?_
    simp only [impl_familyCost.l0]
    rw [hw, w1]
    have e1 := implDaily_ev _ _ _ _ _ _ (fam_at hf i q4) w2 w3
    have e2 := plus_ev hs g1 q6 (by decide) g3 g4
    have e3 := ih (i + 1) _ q5 g2
    exact ev_pos q1 (ev_pos q2 (ev_pos q1 (ev_pos q3 (ev_bind e1 (ev_bind e2 e3)))))
def jointAll (xs : List S47) (joint base : Int) (fs : List Int) : Int × Int := jointF xs base fs xs.length 0 (fr joint base)
theorem joint0 {joint base : Int} (h0 : 0 ≤ joint) (h1 : joint ≤ 99) (h2 : 1 ≤ base) (h3 : base ≤ 32) : Fr (99 + 24000 * ((0 : Nat) : Int)) (32 * 512 ^ 0) (fr joint base) := fr_fr h0 (by omega) (by omega) (by omega)
theorem specJoint_ev {xs : List S47} (hf : FamOk xs) {joint base : Int} (h0 : 0 ≤ joint) (h9 : joint ≤ 99) (h1 : 1 ≤ base) (h2 : base ≤ 32) {fs : List Int} (hc : FacOk xs fs) : Ev (fun k => spec_l8Joint.f k xs joint base fs) (jointAll xs joint base fs) := by
  unfold spec_l8Joint.f jointAll
  exact ev_bind (cut_ev joint base h0 (by omega) (by omega) (by omega)) (specJoint_l0 hf h1 h2 hc xs.length 0 _ (Nat.zero_add _) (joint0 h0 h9 h1 h2))
theorem implJoint_ev {xs : List S47} (hf : FamOk xs) {joint base : Int} (h0 : 0 ≤ joint) (h9 : joint ≤ 99) (h1 : 1 ≤ base) (h2 : base ≤ 32) {fs : List Int} (hc : FacOk xs fs) : Ev (fun k => impl_familyCost.f k xs joint base fs) (jointAll xs joint base fs) := by
  unfold impl_familyCost.f jointAll
  exact ev_bind (fraction_ev joint base h0 (by omega) (by omega) (by omega)) (implJoint_l0 hf h1 h2 hc xs.length 0 _ (Nat.zero_add _) (joint0 h0 h9 h1 h2))

def Cond (xs : List S47) (j b : Int) (fs : List Int) : Prop := FamOk xs ∧ (0 ≤ j ∧ j ≤ 99) ∧ (1 ≤ b ∧ b ≤ 32) ∧ FacOk xs fs
instance (xs : List S47) (j b : Int) (fs : List Int) : Decidable (Cond xs j b fs) := by unfold Cond; infer_instance
def ans (xs : List S47) (j b : Int) (fs : List Int) : Int × Int × Bool := if Cond xs j b fs then ((jointAll xs j b fs).1, (jointAll xs j b fs).2, true) else (0, 0, false)
theorem spec_ans (xs : List S47) (j b : Int) (fs : List Int) (hn : xs.length ≤ 35184372088832) (hm : fs.length ≤ 35184372088832) : Ev (fun k => spec_FamilyCost.f k xs j b fs) (ans xs j b fs) := by
  unfold spec_FamilyCost.f ans
  simp only [in_eq, Option.bind_some]
  refine ev_bind (specFamily_ev xs hn) ?_
  by_cases a1 : FamOk xs
  rotate_left
  · exact ev_cast (ev_neg (by rw [decide_eq_true_eq]; exact a1) (ev_some _)) (if_neg fun h => a1 h.1).symm
  refine ev_pos (decide_eq_true a1) ?_
  by_cases a2 : 0 ≤ j ∧ j ≤ 99
  rotate_left
  · exact ev_cast (ev_neg (by rw [decide_eq_true_eq]; exact a2) (ev_some _)) (if_neg fun h => a2 h.2.1).symm
  refine ev_pos (decide_eq_true a2) ?_
  by_cases a3 : 1 ≤ b ∧ b ≤ 32
  rotate_left
  · exact ev_cast (ev_neg (by rw [decide_eq_true_eq]; exact a3) (ev_some _)) (if_neg fun h => a3 h.2.2.1).symm
  refine ev_pos (decide_eq_true a3) (ev_bind (specFactors_ev xs fs hm) ?_)
  by_cases a4 : FacOk xs fs
  rotate_left
  · exact ev_cast (ev_neg (by rw [decide_eq_true_eq]; exact a4) (ev_some _)) (if_neg fun h => a4 h.2.2.2).symm
  exact ev_cast (ev_pos (decide_eq_true a4) (ev_bind (specJoint_ev a1 a2.1 a2.2 a3.1 a3.2 a4) (ev_some _))) (if_pos ⟨a1, a2, a3, a4⟩).symm
theorem impl_ans (xs : List S47) (j b : Int) (fs : List Int) (hn : xs.length ≤ 35184372088832) (hm : fs.length ≤ 35184372088832) : Ev (fun k => impl_FamilyCost.f k xs j b fs) (ans xs j b fs) := by
  unfold impl_FamilyCost.f ans
  simp only [within_eq, Option.bind_some]
  refine ev_bind (implFamily_ev xs hn) ?_
  by_cases a1 : FamOk xs
  rotate_left
  · exact ev_cast (ev_neg (by rw [decide_eq_true_eq]; exact a1) (ev_some _)) (if_neg fun h => a1 h.1).symm
  refine ev_pos (decide_eq_true a1) ?_
  by_cases a2 : 0 ≤ j ∧ j ≤ 99
  rotate_left
  · exact ev_cast (ev_neg (by rw [decide_eq_true_eq]; exact a2) (ev_some _)) (if_neg fun h => a2 h.2.1).symm
  refine ev_pos (decide_eq_true a2) ?_
  by_cases a3 : 1 ≤ b ∧ b ≤ 32
  rotate_left
  · exact ev_cast (ev_neg (by rw [decide_eq_true_eq]; exact a3) (ev_some _)) (if_neg fun h => a3 h.2.2.1).symm
  refine ev_pos (decide_eq_true a3) ?_
  by_cases a5 : (fs.length : Int) = (xs.length : Int)
  rotate_left
  · exact ev_cast (ev_neg a5 (ev_some _)) (if_neg fun h => a5 h.2.2.2.1).symm
  refine ev_pos a5 (ev_bind (allWithin_ev fs 1 8 hm) ?_)
  by_cases a6 : ∀ x ∈ fs, 1 ≤ x ∧ x ≤ 8
  rotate_left
  · exact ev_cast (ev_neg (by rw [decide_eq_true_eq]; exact a6) (ev_some _)) (if_neg fun h => a6 h.2.2.2.2).symm
  exact ev_cast (ev_pos (decide_eq_true a6) (ev_bind (implJoint_ev a1 a2.1 a2.2 a3.1 a3.2 ⟨a5, a6⟩) (ev_some _))) (if_pos ⟨a1, a2, a3, a5, a6⟩).symm
theorem FnExactFamilyCost (l0 : List (S49)) (a1 : Int) (a2 : Int) (l3 : List Int) (hl0 : l0.length ≤ maxLen) (hw0 : ∀ x ∈ l0, (Lit.int .i64 x.f0).wf = true ∧ (Lit.int .i64 x.f1).wf = true ∧ (Lit.int .i64 x.f2).wf = true ∧ (Lit.int .i64 x.f3).wf = true ∧ (Lit.int .i64 x.f4).wf = true) (hw1 : (Lit.int .i64 a1).wf = true) (hw2 : (Lit.int .i64 a2).wf = true) (hl3 : l3.length ≤ maxLen) (hw3 : ∀ x ∈ l3, (Lit.int .i64 x).wf = true) :
    ∃ k, laws_FnExactFamilyCost.f k l0 a1 a2 l3 = some true := by
  refine Ev.rounds ?_
  unfold laws_FnExactFamilyCost.f
  by_cases b0 : (l3.length : Int) > 1048576
  · exact ev_pos b0 (ev_some _)
  refine ev_neg b0 ?_
  simp only [szItemS_eq l0 hl0, Option.bind_some]
  by_cases c0 : (1048576 : Int) - (l0.length : Int) < 0
  · rw [if_pos c0]
    exact ev_pos (by omega) (ev_some _)
  rw [if_neg c0]
  refine ev_neg (by omega) ?_
  have h0 : l0.length ≤ 1048576 := by omega
  have h3 : l3.length ≤ 35184372088832 := by omega
  have t0 := toItemS_ev l0 h0
  have t3 := toIntS_ev l3 h3
  have hm : (l0.map toI).length ≤ 1048576 := by simpa using h0
  have hm2 : (l0.map toI).length ≤ 35184372088832 := by omega
  refine ev_bind t0 (ev_bind t3 (ev_bind (spec_ans _ a1 a2 l3 hm2 h3) (ev_bind t0 (ev_bind t3 (ev_bind (impl_ans _ a1 a2 l3 hm2 h3) ?_)))))
  simp only [laws_eqIntA2.f, if_true, Option.bind_some, beq_self_eq_true]
  refine ev_succ ?_
  simp only [laws_FnExactFamilyCost.j0]
  exact ev_neg (by simp) (ev_bind t0 (ev_bind (eqItemS_ev _ hm) (ev_pos rfl (ev_bind t3 (ev_bind (eqIntS_ev l3 l3 h3) (ev_pos (by simp) (ev_some _)))))))

end Go.Proofs.Ytkdendaoebgoeaa.Pure
