/- The program's BestBase and the reference's look for the first base cycle with the least joint cost under its best factors. No conditions. -/
import Derived.Test.YtkdendaoebgoeaaKit
import Derived.Test.YtkdendaoebgoeaaXFnExactBestBasex7
namespace Go.Proofs.Ytkdendaoebgoeaa.Pure
set_option linter.unusedVariables false
open Go.RowKit Go.Proofs.Ytkdendaoebgoeaa.PFnExactBestBase Go.Proofs.YtkdendaoebgoeaaW.PrintWords Go.Proofs.YtkdendaoebgoeaaW.PrintLast Go.Proofs.Ytkdendaoebgoeaa.Kit

theorem in_eq (a b c : Int) : spec_l1In.f a b c = some (decide (b ≤ a ∧ a ≤ c)) := by
  unfold spec_l1In.f
  by_cases h : b ≤ a <;> simp [h]
theorem within_eq (a b c : Int) : impl_within.f a b c = some (decide (b ≤ a ∧ a ≤ c)) := by
  unfold impl_within.f
  by_cases h : b ≤ a <;> simp [h]
theorem eqIntS_l0 (xs ys : List Int) (hn : xs.length ≤ 35184372088832) (hl : ys.length = xs.length) (d : Nat) : ∀ (i : Nat), i + d = xs.length →
    Ev (fun k => laws_eqIntS.l0 k xs ys (i : Int)) (decide (xs.drop i = ys.drop i)) := by
  induction d with
  | zero =>
    intro i hi
    refine ev_succ ?_
    simp only [laws_eqIntS.l0]
    refine ev_neg (by omega) ?_
    rw [List.drop_of_length_le (by omega), List.drop_of_length_le (by omega)]
    exact ev_some _
  | succ d ih =>
    intro i hi
    refine ev_succ ?_
    simp only [laws_eqIntS.l0]
    refine ev_pos (by omega) (ev_pos (by omega) (ev_pos (by omega) ?_))
    have hw : wrap64 ((i : Int) + 1) = ((i + 1 : Nat) : Int) := by rw [wid (by omega) (by omega)]; omega
    rw [hw, drop_rd xs i (by omega), drop_rd ys i (by omega)]
    by_cases h : rd xs i = rd ys i
    · refine ev_pos h (ev_cast (ih (i + 1) (by omega)) ?_)
      simp [h]
    · refine ev_neg h (ev_cast (ev_some false) ?_)
      simp [h]
theorem eqIntS_ev (xs ys : List Int) (hn : xs.length ≤ 35184372088832) : Ev (fun k => laws_eqIntS.f k xs ys) (decide (xs = ys)) := by
  unfold laws_eqIntS.f
  by_cases h : xs.length = ys.length
  · refine ev_pos (by omega) (ev_cast (eqIntS_l0 xs ys hn h.symm xs.length 0 (by omega)) (by simp))
  · refine ev_neg (by omega) (ev_cast (ev_some false) ?_)
    have : xs ≠ ys := fun e => h (by rw [e])
    simp [this]
theorem gcd_l0 (b : Nat) : ∀ a : Nat, Ev (fun k => spec_l8Gcd.l0 k (a : Int) (b : Int)) ((Nat.gcd a b : Nat) : Int) := by
  induction b using Nat.strongRecOn with
  | _ b ih =>
    intro a
    refine ev_succ ?_
    simp only [spec_l8Gcd.l0]
    by_cases h : b = 0
    · subst h
      exact ev_neg (by omega) (ev_cast (ev_some _) (by simp))
    · refine ev_pos (by omega) (ev_neg (by omega) ?_)
      have e : Int.tmod (a : Int) (b : Int) = ((a % b : Nat) : Int) := rfl
      rw [e]
      refine ev_cast (ih (a % b) (Nat.mod_lt _ (by omega)) b) ?_
      rw [Nat.gcd_comm b, ← Nat.gcd_rec, Nat.gcd_comm]
theorem gcd_ev (a b : Int) (ha : 0 ≤ a) (hb : 0 ≤ b) : Ev (fun k => spec_l8Gcd.f k a b) ((Nat.gcd a.toNat b.toNat : Nat) : Int) := by
  unfold spec_l8Gcd.f
  have := gcd_l0 b.toNat a.toNat
  rwa [Int.toNat_of_nonneg ha, Int.toNat_of_nonneg hb] at this
theorem divisor_l0 (b : Nat) : ∀ a : Nat, Ev (fun k => impl_divisor.l0 k (a : Int) (b : Int)) ((Nat.gcd a b : Nat) : Int) := by
  induction b using Nat.strongRecOn with
  | _ b ih =>
    intro a
    refine ev_succ ?_
    simp only [impl_divisor.l0]
    by_cases h : b = 0
    · subst h
      exact ev_pos (by omega) (ev_cast (ev_some _) (by simp))
    · refine ev_neg (by omega) ?_
      have e : Int.tmod (a : Int) (b : Int) = ((a % b : Nat) : Int) := rfl
      rw [e]
      refine ev_cast (ih (a % b) (Nat.mod_lt _ (by omega)) b) ?_
      rw [Nat.gcd_comm b, ← Nat.gcd_rec, Nat.gcd_comm]
theorem divisor_ev (a b : Int) (ha : 0 ≤ a) (hb : 0 ≤ b) : Ev (fun k => impl_divisor.f k a b) ((Nat.gcd a.toNat b.toNat : Nat) : Int) := by
  unfold impl_divisor.f
  have := divisor_l0 b.toNat a.toNat
  rwa [Int.toNat_of_nonneg ha, Int.toNat_of_nonneg hb] at this
/-- A quotient in lowest terms. -/
def fr (n d : Int) : Int × Int := (n / ((Nat.gcd n.toNat d.toNat : Nat) : Int), d / ((Nat.gcd n.toNat d.toNat : Nat) : Int))
theorem gcd_fr_pos {n d : Int} (hd : 0 < d) : 0 < ((Nat.gcd n.toNat d.toNat : Nat) : Int) := by
  have := Nat.gcd_pos_of_pos_right n.toNat (show 0 < d.toNat by omega)
  omega
theorem fr_in {n d : Int} (hn : 0 ≤ n) (hd : 0 < d) : 0 ≤ (fr n d).1 ∧ (fr n d).1 ≤ n ∧ 0 < (fr n d).2 ∧ (fr n d).2 ≤ d := by
  have hg := gcd_fr_pos (n := n) hd
  have hdv : ((Nat.gcd n.toNat d.toNat : Nat) : Int) ∣ d := by
    have h := Nat.gcd_dvd_right n.toNat d.toNat
    have h2 := Int.natCast_dvd_natCast.2 h
    rwa [Int.toNat_of_nonneg (by omega)] at h2
  refine ⟨Int.ediv_nonneg hn (by omega), Int.ediv_le_self _ hn, ?_, Int.ediv_le_self _ (by omega)⟩
  exact Int.ediv_pos_of_pos_of_dvd hd (by omega) hdv
theorem cut_ev (n d : Int) (hn : 0 ≤ n) (hn2 : n ≤ 9223372036854775807) (hd : 0 < d) (hd2 : d ≤ 9223372036854775807) : Ev (fun k => spec_l8Cut.f k n d) (fr n d) := by
  have hg := gcd_fr_pos (n := n) hd
  have h1 := fr_in hn hd
  unfold spec_l8Cut.f
  refine ev_bind (gcd_ev n d hn (by omega)) (ev_neg (by omega) (ev_cast (ev_some _) ?_))
  unfold fr at h1 ⊢
  simp only at h1
  rw [Int.tdiv_eq_ediv_of_nonneg hn, Int.tdiv_eq_ediv_of_nonneg (by omega), wid (by omega) (by omega), wid (by omega) (by omega)]
theorem fraction_ev (n d : Int) (hn : 0 ≤ n) (hn2 : n ≤ 9223372036854775807) (hd : 0 < d) (hd2 : d ≤ 9223372036854775807) : Ev (fun k => impl_fraction.f k n d) (fr n d) := by
  have hg := gcd_fr_pos (n := n) hd
  have h1 := fr_in hn hd
  unfold impl_fraction.f
  refine ev_bind (divisor_ev n d hn (by omega)) (ev_neg (by omega) (ev_cast (ev_some _) ?_))
  unfold fr at h1 ⊢
  simp only at h1
  rw [Int.tdiv_eq_ediv_of_nonneg hn, Int.tdiv_eq_ediv_of_nonneg (by omega), wid (by omega) (by omega), wid (by omega) (by omega)]
/-- The sum of two quotients. -/
def addf (x y : Int × Int) : Int × Int := fr (x.1 * y.2 + y.1 * x.2) (x.2 * y.2)
/-- A quotient of at most B, its lower part at most D. -/
def Fr (B D : Int) (x : Int × Int) : Prop := 0 ≤ x.1 ∧ x.1 ≤ B * x.2 ∧ 0 < x.2 ∧ x.2 ≤ D
theorem fr_fr {n d B D : Int} (hn : 0 ≤ n) (hb : n ≤ B * d) (hd : 0 < d) (hD : d ≤ D) : Fr B D (fr n d) := by
  have h := fr_in hn hd
  have hg := gcd_fr_pos (n := n) hd
  refine ⟨h.1, ?_, h.2.2.1, by omega⟩
  have h1 : ((Nat.gcd n.toNat d.toNat : Nat) : Int) ∣ d := by
    have h := Nat.gcd_dvd_right n.toNat d.toNat
    have h2 := Int.natCast_dvd_natCast.2 h
    rwa [Int.toNat_of_nonneg (by omega)] at h2
  unfold fr
  simp only
  refine Int.ediv_le_of_le_mul hg ?_
  rw [Int.mul_assoc, Int.ediv_mul_cancel h1]
  exact hb
theorem fr_scale (n d m : Int) (hn : 0 ≤ n) (hd : 0 < d) (hm : 0 < m) : fr (n * m) (d * m) = fr n d := by
  obtain ⟨N, rfl⟩ := Int.eq_ofNat_of_zero_le hn
  obtain ⟨M, rfl⟩ := Int.eq_ofNat_of_zero_le (show 0 ≤ m by omega)
  obtain ⟨D, rfl⟩ := Int.eq_ofNat_of_zero_le (show 0 ≤ d by omega)
  have e1 : ((N : Int) * (M : Int)) = ((N * M : Nat) : Int) := by simp
  have e2 : ((D : Int) * (M : Int)) = ((D * M : Nat) : Int) := by simp
  unfold fr
  rw [e1, e2]
  simp only [Int.toNat_natCast]
  rw [Nat.gcd_mul_right, Prod.mk.injEq]
  refine ⟨?_, ?_⟩
  · rw [Int.natCast_mul, Int.natCast_mul, Int.mul_ediv_mul_of_pos_left _ _ hm]
  · rw [Int.natCast_mul, Int.natCast_mul, Int.mul_ediv_mul_of_pos_left _ _ hm]
/-- What is needed of the parts of a sum. -/
theorem addf_parts {B B' D D' : Int} {x y : Int × Int} (hx : Fr B D x) (hy : Fr B' D' y) (hB : 0 ≤ B) (hB' : 0 ≤ B') :
    0 ≤ x.1 * y.2 ∧ 0 ≤ y.1 * x.2 ∧ x.1 * y.2 + y.1 * x.2 ≤ (B + B') * (x.2 * y.2) ∧ 0 < x.2 * y.2 ∧ x.2 * y.2 ≤ D * D' ∧ (B + B') * (x.2 * y.2) ≤ (B + B') * (D * D') := by
  obtain ⟨a1, a2, a3, a4⟩ := hx
  obtain ⟨b1, b2, b3, b4⟩ := hy
  have q0 : 0 < x.2 * y.2 := Int.mul_pos a3 b3
  have q1 : x.2 * y.2 ≤ D * D' := Int.mul_le_mul a4 b4 (by omega) (by omega)
  have n1 : x.1 * y.2 ≤ B * x.2 * y.2 := Int.mul_le_mul_of_nonneg_right a2 (by omega)
  have n2 : y.1 * x.2 ≤ B' * y.2 * x.2 := Int.mul_le_mul_of_nonneg_right b2 (by omega)
  refine ⟨Int.mul_nonneg a1 (by omega), Int.mul_nonneg b1 (by omega), ?_, q0, q1, Int.mul_le_mul_of_nonneg_left q1 (by omega)⟩
  rw [Int.add_mul]
  rw [Int.mul_assoc] at n1 n2
  rw [Int.mul_comm y.2 x.2] at n2
  omega
theorem addf_fr {B B' D D' : Int} {x y : Int × Int} (hx : Fr B D x) (hy : Fr B' D' y) (hB : 0 ≤ B) (hB' : 0 ≤ B') : Fr (B + B') (D * D') (addf x y) := by
  obtain ⟨h1, h2, h3, h4, h5, h6⟩ := addf_parts hx hy hB hB'
  exact fr_fr (by omega) h3 h4 h5
theorem add_ev {B B' D D' : Int} {x y : Int × Int} (hx : Fr B D x) (hy : Fr B' D' y) (hB : 0 ≤ B) (hB' : 0 ≤ B') (hs : (B + B') * (D * D') ≤ 9223372036854775807) (hd : D * D' ≤ 9223372036854775807) :
    Ev (fun k => spec_l8Add.f k x.1 x.2 y.1 y.2) (addf x y) := by
  obtain ⟨h1, h2, h3, h4, h5, h6⟩ := addf_parts hx hy hB hB'
  obtain ⟨p, q⟩ := x
  obtain ⟨u, v⟩ := y
  obtain ⟨a1, a2, a3, a4⟩ := hx
  obtain ⟨b1, b2, b3, b4⟩ := hy
  simp only at *
  have hg : 0 < ((Nat.gcd q.toNat v.toNat : Nat) : Int) := gcd_fr_pos (n := q) b3
  have dq : ((Nat.gcd q.toNat v.toNat : Nat) : Int) ∣ q := by
    have h2 := Int.natCast_dvd_natCast.2 (Nat.gcd_dvd_left q.toNat v.toNat)
    rwa [Int.toNat_of_nonneg (by omega)] at h2
  have dv : ((Nat.gcd q.toNat v.toNat : Nat) : Int) ∣ v := by
    have h2 := Int.natCast_dvd_natCast.2 (Nat.gcd_dvd_right q.toNat v.toNat)
    rwa [Int.toNat_of_nonneg (by omega)] at h2
  unfold spec_l8Add.f addf
  refine ev_bind (gcd_ev q v (by omega) (by omega)) (ev_neg (by omega) ?_)
  generalize ((Nat.gcd q.toNat v.toNat : Nat) : Int) = g at hg dq dv
  obtain ⟨q', rfl⟩ := dq
  obtain ⟨v', rfl⟩ := dv
  have q'0 : 0 < q' := by
    rcases Int.lt_trichotomy q' 0 with h | h | h
    · have := Int.mul_neg_of_pos_of_neg hg h; omega
    · rw [h, Int.mul_zero] at a3; omega
    · exact h
  have v'0 : 0 < v' := by
    rcases Int.lt_trichotomy v' 0 with h | h | h
    · have := Int.mul_neg_of_pos_of_neg hg h; omega
    · rw [h, Int.mul_zero] at b3; omega
    · exact h
  have e1 : Int.tdiv (g * v') g = v' := by rw [Int.tdiv_eq_ediv_of_nonneg (by omega), Int.mul_ediv_cancel_left _ (by omega)]
  have e2 : Int.tdiv (g * q') g = q' := by rw [Int.tdiv_eq_ediv_of_nonneg (by omega), Int.mul_ediv_cancel_left _ (by omega)]
  have k1 : v' ≤ g * v' := by have := Int.mul_le_mul_of_nonneg_right (show 1 ≤ g by omega) (show 0 ≤ v' by omega); omega
  have k2 : q' ≤ g * q' := by have := Int.mul_le_mul_of_nonneg_right (show 1 ≤ g by omega) (show 0 ≤ q' by omega); omega
  have hq : g * q' ≤ 9223372036854775807 := by
    have := Int.mul_le_mul_of_nonneg_left (show 1 ≤ g * v' by omega) (show 0 ≤ g * q' by omega)
    omega
  have hv : g * v' ≤ 9223372036854775807 := by
    have := Int.mul_le_mul_of_nonneg_right (show 1 ≤ g * q' by omega) (show 0 ≤ g * v' by omega)
    omega
  have m1 : 0 ≤ p * v' := Int.mul_nonneg a1 (by omega)
  have m2 : 0 ≤ u * q' := Int.mul_nonneg b1 (by omega)
  have m3 : p * v' ≤ p * (g * v') := Int.mul_le_mul_of_nonneg_left k1 a1
  have m4 : u * q' ≤ u * (g * q') := Int.mul_le_mul_of_nonneg_left k2 b1
  have m5 : q' * (g * v') ≤ g * q' * (g * v') := Int.mul_le_mul_of_nonneg_right k2 (by omega)
  have m6 : 0 < q' * (g * v') := Int.mul_pos q'0 b3
  rw [e1, e2, wid (x := v') (by omega) (by omega), wid (x := q') (by omega) (by omega), wid (x := p * v') (by omega) (by omega), wid (x := u * q') (by omega) (by omega), wid (x := q' * (g * v')) (by omega) (by omega), wid (by omega) (by omega)]
  refine ev_bind (cut_ev _ _ (by omega) (by omega) m6 (by omega)) (ev_cast (ev_some _) ?_)
  show fr (p * v' + u * q') (q' * (g * v')) = fr (p * (g * v') + u * (g * q')) (g * q' * (g * v'))
  rw [← fr_scale (p * v' + u * q') (q' * (g * v')) g (by omega) m6 hg]
  congr 1
  · rw [Int.add_mul, Int.mul_assoc, Int.mul_assoc, Int.mul_comm v' g, Int.mul_comm q' g]
  · rw [Int.mul_comm (q' * (g * v')) g, ← Int.mul_assoc]
theorem plus_ev {B B' D D' : Int} {x y : Int × Int} (hx : Fr B D x) (hy : Fr B' D' y) (hB : 0 ≤ B) (hB' : 0 ≤ B') (hs : (B + B') * (D * D') ≤ 9223372036854775807) (hd : D * D' ≤ 9223372036854775807) :
    Ev (fun k => impl_plus.f k x.1 x.2 y.1 y.2) (addf x y) := by
  obtain ⟨h1, h2, h3, h4, h5, h6⟩ := addf_parts hx hy hB hB'
  unfold impl_plus.f addf
  rw [wid (x := x.1 * y.2) (by omega) (by omega), wid (x := y.1 * x.2) (by omega) (by omega), wid (x := x.2 * y.2) (by omega) (by omega), wid (by omega) (by omega)]
  exact ev_bind (fraction_ev _ _ (by omega) (by omega) h4 (by omega)) (ev_some _)
/-- What a valid item is. -/
def ItemOk (a b c d e : Int) : Prop := (1 ≤ a ∧ a ≤ 20) ∧ (1 ≤ b ∧ b ≤ 99) ∧ (1 ≤ c ∧ c ≤ 9) ∧ (a + 1 ≤ d ∧ d ≤ 40) ∧ (0 ≤ e ∧ e ≤ 9)
instance (a b c d e : Int) : Decidable (ItemOk a b c d e) := by unfold ItemOk; infer_instance
theorem specItem_eq (a b c d e : Int) : spec_l8Item.f a b c d e = some (decide (ItemOk a b c d e)) := by
  unfold spec_l8Item.f ItemOk
  simp only [in_eq, Option.bind_some]
  by_cases h1 : 1 ≤ a ∧ a ≤ 20
  · rw [show wrap64 (a + 1) = a + 1 from wid (by omega) (by omega)]
    by_cases h2 : 1 ≤ b ∧ b ≤ 99 <;> by_cases h3 : 1 ≤ c ∧ c ≤ 9 <;> by_cases h4 : a + 1 ≤ d ∧ d ≤ 40 <;> simp [h1, h2, h3, h4]
  · simp [h1]
theorem implItem_eq (a b c d e : Int) : impl_IsItem.f a b c d e = some (decide (ItemOk a b c d e)) := by
  unfold impl_IsItem.f ItemOk
  simp only [within_eq, Option.bind_some]
  by_cases h1 : 1 ≤ a ∧ a ≤ 20
  · rw [show wrap64 (a + 1) = a + 1 from wid (by omega) (by omega)]
    by_cases h2 : 1 ≤ b ∧ b ≤ 99 <;> by_cases h3 : 1 ≤ c ∧ c ≤ 9 <;> by_cases h4 : a + 1 ≤ d ∧ d ≤ 40 <;> simp [h1, h2, h3, h4]
  · simp [h1]
/-- The daily cost of an item. -/
def dcost (a b c cycle : Int) : Int × Int := fr (2 * b + c * a * cycle * cycle) (2 * cycle)
theorem daily_in {a b c d e cycle : Int} (h : ItemOk a b c d e) (h1 : 1 ≤ cycle) (h2 : cycle ≤ 256) :
    wrap64 ((wrap64 (2 * b)) + (wrap64 ((wrap64 ((wrap64 (c * a)) * cycle)) * cycle))) = 2 * b + c * a * cycle * cycle ∧ wrap64 (2 * cycle) = 2 * cycle ∧ 0 ≤ 2 * b + c * a * cycle * cycle ∧ 2 * b + c * a * cycle * cycle ≤ 12000000 := by
  obtain ⟨ha, hb, hc, _, _⟩ := h
  have m1 := mulb (a := c) (b := a) (A := 9) (B := 20) (by omega) (by omega) (by omega) (by omega)
  have m2 := mulb (a := c * a) (b := cycle) (A := 180) (B := 256) (by omega) (by omega) (by omega) (by omega)
  have m3 := mulb (a := c * a * cycle) (b := cycle) (A := 46080) (B := 256) (by omega) (by omega) (by omega) (by omega)
  rw [wid (x := c * a) (by omega) (by omega), wid (x := c * a * cycle) (by omega) (by omega), wid (x := c * a * cycle * cycle) (by omega) (by omega), wid (x := 2 * b) (by omega) (by omega), wid (by omega) (by omega), wid (by omega) (by omega)]
  exact ⟨rfl, rfl, by omega, by omega⟩
theorem specDaily_ev (a b c d e cycle : Int) (h : ItemOk a b c d e) (h1 : 1 ≤ cycle) (h2 : cycle ≤ 256) : Ev (fun k => spec_l8Daily.f k a b c d e cycle) (dcost a b c cycle) := by
  obtain ⟨e1, e2, e3, e4⟩ := daily_in h h1 h2
  unfold spec_l8Daily.f dcost
  rw [e1, e2]
  exact ev_bind (cut_ev _ _ e3 (by omega) (by omega) (by omega)) (ev_some _)
theorem implDaily_ev (a b c d e cycle : Int) (h : ItemOk a b c d e) (h1 : 1 ≤ cycle) (h2 : cycle ≤ 256) : Ev (fun k => impl_Item_daily.f k a b c d e cycle) (dcost a b c cycle) := by
  obtain ⟨e1, e2, e3, e4⟩ := daily_in h h1 h2
  unfold impl_Item_daily.f dcost
  rw [e1, e2]
  exact ev_bind (fraction_ev _ _ e3 (by omega) (by omega) (by omega)) (ev_some _)
/-- A cost of moderate size; the order of costs; the first number with the least cost. -/
def Mod (x : Int × Int) : Prop := 0 ≤ x.1 ∧ x.1 ≤ 30000000000 ∧ 0 < x.2 ∧ x.2 ≤ 300000
def ltF (x y : Int × Int) : Bool := decide (x.1 * y.2 < y.1 * x.2)
def bestF (D : Int → Int × Int) : Int → List Int → Int
  | b, [] => b
  | b, n :: ns => bestF D (if ltF (D n) (D b) = true then n else b) ns
theorem mod_mul {x y : Int × Int} (hx : Mod x) (hy : Mod y) : wrap64 (x.1 * y.2) = x.1 * y.2 := by
  obtain ⟨a1, a2, a3, a4⟩ := hx
  obtain ⟨b1, b2, b3, b4⟩ := hy
  have := mulb a1 a2 (show 0 ≤ y.2 by omega) b4
  exact wid (by omega) (by omega)
theorem implLess_eq {x y : Int × Int} (hx : Mod x) (hy : Mod y) : impl_less.f x.1 x.2 y.1 y.2 = some (ltF x y) := by
  unfold impl_less.f ltF
  rw [mod_mul hx hy, mod_mul hy hx]
theorem specLess_eq {x y : Int × Int} (hx : Mod x) (hy : Mod y) : spec_l8Less.f x.1 x.2 y.1 y.2 = some (ltF x y) := by
  unfold spec_l8Less.f ltF
  rw [mod_mul hx hy, mod_mul hy hx]
theorem ev_shift {α : Type} {g : Nat → Option α} {r : α} (h : Ev g r) : Ev (fun k => g (k + 1)) r := by
  obtain ⟨n, h⟩ := h
  exact ⟨n, fun k hk => h (k + 1) (by omega)⟩
theorem cheapest_l0 {S : Int → Prop} {D : Int → Int × Int} (hD : ∀ n, S n → Mod (D n)) (xs : List Int) (hS : ∀ x ∈ xs, S x) (hl : xs.length ≤ 1000000) (d : Nat) : ∀ (G : Nat → Int → Option (Int × Int)), (∀ n, S n → Ev (fun k => G k n) (D n)) → ∀ (i : Nat) (b : Int), S b → i + d = xs.length →
    Ev (fun k => impl_cheapest.l0 (G k) k b xs (xs.length : Int) (i : Int)) (bestF D b (xs.drop i)) := by
  induction d with
  | zero =>
    intro G hG i b hb hi
    refine ev_succ ?_
    simp only [impl_cheapest.l0]
    refine ev_neg (by omega) ?_
    rw [List.drop_of_length_le (by omega)]
    exact ev_some _
  | succ d ih =>
    intro G hG i b hb hi
    have hx : S (rd xs (i : Int)) := by rw [rd_nat xs i (by omega)]; exact hS _ (List.getElem_mem _)
    have hw : wrap64 ((i : Int) + 1) = ((i + 1 : Nat) : Int) := by rw [wid (by omega) (by omega)]; omega
    refine ev_succ ?_
    simp only [impl_cheapest.l0]
    rw [hw, drop_rd xs i (by omega)]
    refine ev_pos (by omega) (ev_pos (by omega) (ev_pos (by omega) ?_))
    refine ev_bind (ev_shift (hG _ hx)) (ev_bind (ev_shift (hG _ hb)) ?_)
    rw [implLess_eq (hD _ hx) (hD _ hb)]
    simp only [Option.bind_some, bestF]
    by_cases h : ltF (D (rd xs (i : Int))) (D b) = true
    · rw [if_pos h]
      exact ev_pos h (ih (fun k => G (k + 1)) (fun n hn => ev_shift (hG n hn)) (i + 1) _ hx (by omega))
    · rw [if_neg h]
      exact ev_neg h (ih (fun k => G (k + 1)) (fun n hn => ev_shift (hG n hn)) (i + 1) _ hb (by omega))
theorem cheapest_ev {S : Int → Prop} {D : Int → Int × Int} (hD : ∀ n, S n → Mod (D n)) (x : Int) (xs : List Int) (hS : ∀ y ∈ x :: xs, S y) (hl : xs.length ≤ 1000000) (G : Nat → Int → Option (Int × Int)) (hG : ∀ n, S n → Ev (fun k => G k n) (D n)) :
    Ev (fun k => impl_cheapest.f k (x :: xs) (G k)) (bestF D x xs) := by
  unfold impl_cheapest.f
  refine ev_pos (by simp only [List.length_cons]; omega) (ev_pos (by simp only [List.length_cons]; omega) ?_)
  exact cheapest_l0 hD xs (fun y hy => hS y (List.mem_cons_of_mem _ hy)) hl xs.length G hG 0 x (hS x (by simp)) (by omega)
theorem dcost_mod {a b c d e cycle : Int} (h : ItemOk a b c d e) (h1 : 1 ≤ cycle) (h2 : cycle ≤ 256) : Mod (dcost a b c cycle) := by
  obtain ⟨_, _, e3, e4⟩ := daily_in h h1 h2
  have := fr_in e3 (show 0 < 2 * cycle by omega)
  unfold dcost Mod
  omega
/-- d numbers from c on. -/
def upSeq : Nat → Int → List Int
  | 0, _ => []
  | d + 1, c => c :: upSeq d (c + 1)
theorem upSeq_in (d : Nat) : ∀ c x, x ∈ upSeq d c → c ≤ x ∧ x < c + d := by
  induction d with
  | zero => intro c x h; simp [upSeq] at h
  | succ d ih =>
    intro c x h
    simp only [upSeq, List.mem_cons] at h
    rcases h with h | h
    · omega
    · have := ih _ _ h; omega
theorem upSeq_len (d : Nat) : ∀ c, (upSeq d c).length = d := by
  induction d with
  | zero => intro c; rfl
  | succ d ih => intro c; simp [upSeq, ih]
theorem upFrom_l0 (n : Int) (hn : n ≤ 1000000) (d : Nat) : ∀ (i : Int) (xs : List Int), 0 ≤ i → i + d = n → (xs.length : Int) = i → Ev (fun k => impl_upFrom.l0 k xs n i) (xs ++ upSeq d (i + 1)) := by
  induction d with
  | zero =>
    intro i xs h0 hi hx
    refine ev_succ ?_
    simp only [impl_upFrom.l0, upSeq, List.append_nil]
    exact ev_neg (by omega) (ev_some _)
  | succ d ih =>
    intro i xs h0 hi hx
    have hw : wrap64 (i + 1) = i + 1 := wid (by omega) (by omega)
    refine ev_succ ?_
    simp only [impl_upFrom.l0]
    rw [hw]
    refine ev_pos (by omega) (ev_pos (by omega) (ev_cast (ih (i + 1) _ (by omega) (by omega) (by simp; omega)) ?_))
    simp [upSeq]
theorem upFrom_ev (d : Nat) (hd : d ≤ 1000000) : Ev (fun k => impl_upFrom.f k (d : Int)) (upSeq d 1) := by
  unfold impl_upFrom.f
  exact ev_cast (upFrom_l0 (d : Int) (by omega) d 0 [] (by omega) (by omega) (by simp)) (by simp)
/-- What a family is. -/
def ItOk (x : S47) : Prop := ItemOk x.f0 x.f1 x.f2 x.f3 x.f4
instance (x : S47) : Decidable (ItOk x) := by unfold ItOk; infer_instance
def FamOk (l : List S47) : Prop := (∀ x ∈ l, ItOk x) ∧ 1 ≤ (l.length : Int) ∧ (l.length : Int) ≤ 4
instance (l : List S47) : Decidable (FamOk l) := by unfold FamOk; infer_instance
theorem rd2_nat (xs : List S47) (i : Nat) (h : i < xs.length) : rd_T47 xs (i : Int) = xs[i] := by
  unfold rd_T47
  simp [List.getD_eq_getElem?_getD, h]
theorem rd1_nat (xs : List S49) (i : Nat) (h : i < xs.length) : rd_T49 xs (i : Int) = xs[i] := by
  unfold rd_T49
  simp [List.getD_eq_getElem?_getD, h]
theorem drop_rd2 (xs : List S47) (i : Nat) (h : i < xs.length) : xs.drop i = rd_T47 xs (i : Int) :: xs.drop (i + 1) := by
  rw [rd2_nat xs i h]
  exact List.drop_eq_getElem_cons h
theorem specFamily_l0 (xs : List S47) (hn : xs.length ≤ 35184372088832) (d : Nat) : ∀ (i : Nat), i + d = xs.length →
    Ev (fun k => spec_l8Family.l0 k xs (i : Int)) (decide ((∀ x ∈ xs.drop i, ItOk x) ∧ 1 ≤ (xs.length : Int) ∧ (xs.length : Int) ≤ 4)) := by
  induction d with
  | zero =>
    intro i hi
    refine ev_succ ?_
    simp only [spec_l8Family.l0, in_eq, Option.bind_some]
    refine ev_neg (by omega) (ev_dec (ev_some _) ?_)
    rw [List.drop_of_length_le (by omega)]
    simp
  | succ d ih =>
    intro i hi
    refine ev_succ ?_
    simp only [spec_l8Family.l0, specItem_eq, Option.bind_some]
    refine ev_pos (by omega) (ev_pos (by omega) ?_)
    have hw : wrap64 ((i : Int) + 1) = ((i + 1 : Nat) : Int) := by rw [wid (by omega) (by omega)]; omega
    rw [hw, drop_rd2 xs i (by omega)]
    by_cases h : ItOk (rd_T47 xs (i : Int))
    · refine ev_pos (decide_eq_true h) (ev_cast (ih (i + 1) (by omega)) ?_)
      simp [h]
    · exact ev_neg (by rw [decide_eq_true_eq]; exact h) (ev_false fun hh => h (hh.1 _ (by simp)))
theorem specFamily_ev (xs : List S47) (hn : xs.length ≤ 35184372088832) : Ev (fun k => spec_l8Family.f k xs) (decide (FamOk xs)) := by
  unfold spec_l8Family.f FamOk
  exact specFamily_l0 xs hn xs.length 0 (by omega)
theorem implFamily_l0 (xs : List S47) (hn : xs.length ≤ 35184372088832) (d : Nat) : ∀ (i : Nat), i + d = xs.length →
    Ev (fun k => impl_isFamily.l0 k xs xs (xs.length : Int) (i : Int)) (decide ((∀ x ∈ xs.drop i, ItOk x) ∧ 1 ≤ (xs.length : Int) ∧ (xs.length : Int) ≤ 4)) := by
  induction d with
  | zero =>
    intro i hi
    refine ev_succ ?_
    simp only [impl_isFamily.l0, within_eq, Option.bind_some]
    refine ev_neg (by omega) (ev_dec (ev_some _) ?_)
    rw [List.drop_of_length_le (by omega)]
    simp
  | succ d ih =>
    intro i hi
    refine ev_succ ?_
    simp only [impl_isFamily.l0, implItem_eq, Option.bind_some]
    refine ev_pos (by omega) (ev_pos (by omega) (ev_pos (by omega) ?_))
    have hw : wrap64 ((i : Int) + 1) = ((i + 1 : Nat) : Int) := by rw [wid (by omega) (by omega)]; omega
    rw [hw, drop_rd2 xs i (by omega)]
    by_cases h : ItOk (rd_T47 xs (i : Int))
    · refine ev_pos (decide_eq_true h) (ev_cast (ih (i + 1) (by omega)) ?_)
      simp [h]
    · exact ev_neg (by rw [decide_eq_true_eq]; exact h) (ev_false fun hh => h (hh.1 _ (by simp)))
theorem implFamily_ev (xs : List S47) (hn : xs.length ≤ 35184372088832) : Ev (fun k => impl_isFamily.f k xs) (decide (FamOk xs)) := by
  unfold impl_isFamily.f FamOk
  exact implFamily_l0 xs hn xs.length 0 (by omega)
theorem fam_at {xs : List S47} (h : FamOk xs) (i : Nat) (hi : i < xs.length) : ItOk (rd_T47 xs (i : Int)) := by
  rw [rd2_nat xs i hi]
  exact h.1 _ (List.getElem_mem _)
def toI (x : S49) : S47 := ⟨x.f0, x.f1, x.f2, x.f3, x.f4⟩
theorem toItemS_l0 (xs : List S49) (hn : xs.length ≤ 1048576) (d : Nat) : ∀ (i : Nat) (ys : List S47), i + d = xs.length → ys.length = xs.length → ys.take i = (xs.map toI).take i →
    Ev (fun k => laws_toItemS.l0 k xs ys (i : Int)) (xs.map toI) := by
  induction d with
  | zero =>
    intro i ys hi hl ht
    refine ev_succ ?_
    simp only [laws_toItemS.l0]
    refine ev_neg (by omega) ?_
    rw [List.take_of_length_le (by omega), List.take_of_length_le (by simp; omega)] at ht
    rw [ht]
    exact ev_some _
  | succ d ih =>
    intro i ys hi hl ht
    refine ev_succ ?_
    simp only [laws_toItemS.l0, laws_toItem.f, Option.bind_some]
    refine ev_pos (by omega) (ev_pos (by omega) (ev_pos (by omega) ?_))
    have hw : wrap64 ((i : Int) + 1) = ((i + 1 : Nat) : Int) := by rw [wid (by omega) (by omega)]; omega
    rw [hw]
    refine ih (i + 1) _ (by omega) (by simpa using hl) ?_
    rw [rd1_nat xs i (by omega), Int.toNat_natCast, List.take_succ_eq_append_getElem (by simp; omega), List.take_succ_eq_append_getElem (by simp; omega), List.getElem_set_self, List.take_set_of_le (by omega), ht, List.getElem_map]
    rfl
theorem toItemS_ev (xs : List S49) (hn : xs.length ≤ 1048576) : Ev (fun k => laws_toItemS.f k xs) (xs.map toI) := by
  unfold laws_toItemS.f
  refine ev_pos (by omega) (ev_pos (by omega) ?_)
  exact toItemS_l0 xs hn xs.length 0 _ (by omega) (by simp) rfl
theorem eqItemS_l0 (xs : List S47) (hn : xs.length ≤ 1048576) (d : Nat) : ∀ (i : Nat), i + d = xs.length → Ev (fun k => laws_eqItemS.l0 k xs xs (i : Int)) true := by
  induction d with
  | zero =>
    intro i hi
    refine ev_succ ?_
    simp only [laws_eqItemS.l0]
    exact ev_neg (by omega) (ev_some _)
  | succ d ih =>
    intro i hi
    refine ev_succ ?_
    simp only [laws_eqItemS.l0, laws_eqItem.f, if_true, Option.bind_some]
    have hw : wrap64 ((i : Int) + 1) = ((i + 1 : Nat) : Int) := by rw [wid (by omega) (by omega)]; omega
    rw [hw]
    exact ev_pos (by omega) (ev_pos (by omega) (ev_pos (by omega) (ih (i + 1) (by omega))))
theorem eqItemS_ev (xs : List S47) (hn : xs.length ≤ 1048576) : Ev (fun k => laws_eqItemS.f k xs xs) true := by
  unfold laws_eqItemS.f
  exact ev_pos rfl (eqItemS_l0 xs hn xs.length 0 (by omega))
theorem szItemS_eq (xs : List S49) (hl : xs.length ≤ maxLen) : laws_szItemS.f xs 1048576 = some (if (1048576 : Int) - (xs.length : Int) < 0 then -1 else 1048576 - (xs.length : Int)) := by
  unfold maxLen at hl
  unfold laws_szItemS.f
  rw [wid (by omega) (by omega)]
  split <;> rfl
/-- The numbers from a on. -/
def asc (a : Int) (n : Nat) : List Int := (List.range n).map fun i => a + ((i : Nat) : Int)
theorem asc_length (a : Int) (n : Nat) : (asc a n).length = n := by simp [asc]
theorem asc_succ (a : Int) (n : Nat) : asc a (n + 1) = asc a n ++ [a + (n : Int)] := by simp [asc, List.range_succ]
theorem rd_asc (a : Int) (n i : Nat) (h : i < n) : rd (asc a n) (i : Int) = a + (i : Int) := by
  rw [rd_nat _ _ (by rw [asc_length]; exact h)]
  simp [asc]
theorem mark_l0 (n : Nat) (a : Int) (h0 : 0 ≤ a) (hn : n ≤ 35184372088832) (ha : a ≤ 35184372088832) (d : Nat) : ∀ (i : Nat) (ys : List Int), i + d = n → ys.length = n → ys.take i = asc a i →
    Ev (fun k => laws_markIntS.l0 k ys (a + (i : Int)) (i : Int)) (a + (n : Int), asc a n) := by
  induction d with
  | zero =>
    intro i ys hi hl ht
    refine ev_succ ?_
    simp only [laws_markIntS.l0]
    refine ev_neg (by omega) (ev_cast (ev_some _) ?_)
    rw [List.take_of_length_le (by omega)] at ht
    rw [ht, show i = n by omega]
  | succ d ih =>
    intro i ys hi hl ht
    refine ev_succ ?_
    simp only [laws_markIntS.l0]
    have hw : wrap64 ((i : Int) + 1) = ((i + 1 : Nat) : Int) := by rw [wid (by omega) (by omega)]; omega
    have hw2 : wrap64 (a + (i : Int) + 1) = a + ((i + 1 : Nat) : Int) := by rw [wid (by omega) (by omega)]; omega
    rw [hw, hw2]
    refine ev_pos (by omega) (ev_pos (by omega) (ih (i + 1) _ (by omega) (by simpa using hl) ?_))
    rw [Int.toNat_natCast, List.take_succ_eq_append_getElem (by simp; omega), List.getElem_set_self, List.take_set_of_le (by omega), ht, asc_succ]
theorem mark_ev (ys : List Int) (a : Int) (h0 : 0 ≤ a) (hn : ys.length ≤ 35184372088832) (ha : a ≤ 35184372088832) : Ev (fun k => laws_markIntS.f k ys a) (a + (ys.length : Int), asc a ys.length) := by
  unfold laws_markIntS.f
  have := mark_l0 ys.length a h0 hn ha ys.length 0 ys (by omega) rfl rfl
  simpa using this
theorem held_l0 (n : Nat) (a : Int) (h0 : 0 ≤ a) (hn : n ≤ 35184372088832) (ha : a ≤ 35184372088832) (d : Nat) : ∀ (i : Nat), i + d = n →
    Ev (fun k => laws_heldIntS.l0 k (asc a n) (a + (i : Int)) (i : Int)) (a + (n : Int)) := by
  induction d with
  | zero =>
    intro i hi
    refine ev_succ ?_
    simp only [laws_heldIntS.l0, asc_length]
    refine ev_neg (by omega) (ev_cast (ev_some _) ?_)
    rw [show i = n by omega]
  | succ d ih =>
    intro i hi
    refine ev_succ ?_
    simp only [laws_heldIntS.l0, asc_length]
    have hw : wrap64 ((i : Int) + 1) = ((i + 1 : Nat) : Int) := by rw [wid (by omega) (by omega)]; omega
    have hw2 : wrap64 (a + (i : Int) + 1) = a + ((i + 1 : Nat) : Int) := by rw [wid (by omega) (by omega)]; omega
    rw [hw, hw2, rd_asc a n i (by omega)]
    exact ev_pos (by omega) (ev_pos (by omega) (ev_pos rfl (ih (i + 1) (by omega))))
theorem held_ev (a : Int) (n : Nat) (h0 : 0 ≤ a) (hn : n ≤ 35184372088832) (ha : a ≤ 35184372088832) : Ev (fun k => laws_heldIntS.f k (asc a n) a) (a + (n : Int)) := by
  unfold laws_heldIntS.f
  have := held_l0 n a h0 hn ha n 0 (by omega)
  simpa using this
theorem ex_succ {α : Type} {g : Nat → Option α} {P : α → Prop} (h : ∃ r, Ev (fun k => g (k + 1)) r ∧ P r) : ∃ r, Ev g r ∧ P r := by
  obtain ⟨r, h1, h2⟩ := h
  exact ⟨r, ev_succ h1, h2⟩
theorem markItemS_l0 (d : Nat) : ∀ (i : Nat) (xs : List S47) (a : Int), i + d = xs.length → xs.length ≤ 1048576 → 0 ≤ a → a + 5 * (d : Int) ≤ 1000000000 → ∃ r, Ev (fun k => laws_markItemS.l0 k xs a (i : Int)) r ∧ 0 ≤ r.1 := by
  induction d with
  | zero =>
    intro i xs a hi hn h0 h1
    refine ⟨(a, xs), ev_succ ?_, h0⟩
    simp only [laws_markItemS.l0]
    exact ev_neg (by omega) (ev_some _)
  | succ d ih =>
    intro i xs a hi hn h0 h1
    have hw : wrap64 ((i : Int) + 1) = ((i + 1 : Nat) : Int) := by rw [wid (by omega) (by omega)]; omega
    have w1 : wrap64 (a + 1) = a + 1 := wid (by omega) (by omega)
    have w2 : wrap64 (a + 1 + 1) = a + 1 + 1 := wid (by omega) (by omega)
    have w3 : wrap64 (a + 1 + 1 + 1) = a + 1 + 1 + 1 := wid (by omega) (by omega)
    have w4 : wrap64 (a + 1 + 1 + 1 + 1) = a + 1 + 1 + 1 + 1 := wid (by omega) (by omega)
    have w5 : wrap64 (a + 1 + 1 + 1 + 1 + 1) = a + 1 + 1 + 1 + 1 + 1 := wid (by omega) (by omega)
    have q1 : (i : Int) < (xs.length : Int) := by omega
    have q2 : 0 ≤ (i : Int) := by omega
    have h2 : a + 1 + 1 + 1 + 1 + 1 + 5 * (d : Int) ≤ 1000000000 := by omega
    have h3 : 0 ≤ a + 1 + 1 + 1 + 1 + 1 := by omega
    have step : ∀ zs : List S47, zs.length = xs.length → ∃ r, Ev (fun k => laws_markItemS.l0 k zs (a + 1 + 1 + 1 + 1 + 1) ((i + 1 : Nat) : Int)) r ∧ 0 ≤ r.1 := fun zs hz => ih (i + 1) zs _ (by omega) (by omega) h3 h2
    refine ex_succ (P := fun r : Int × List S47 => 0 ≤ r.1) ?_
    simp only [laws_markItemS.l0, Option.bind_some, if_pos q1, if_pos q2, w1, w2, w3, w4, w5, hw]
    exact step _ (by simp only [List.length_set])
theorem markItemS_ev (xs : List S47) (hn : xs.length ≤ 1048576) : ∃ r, Ev (fun k => laws_markItemS.f k xs 1) r ∧ 0 ≤ r.1 := by
  unfold laws_markItemS.f
  exact markItemS_l0 xs.length 0 xs 1 (by omega) hn (by omega) (by omega)
/-- The factors of a family. -/
def FacOk (xs : List S47) (fs : List Int) : Prop := (fs.length : Int) = (xs.length : Int) ∧ ∀ x ∈ fs, 1 ≤ x ∧ x ≤ 8
instance (xs : List S47) (fs : List Int) : Decidable (FacOk xs fs) := by unfold FacOk; infer_instance
def jointF (xs : List S47) (base : Int) (fs : List Int) : Nat → Nat → Int × Int → Int × Int
  | 0, _, s => s
  | d + 1, i, s => jointF xs base fs d (i + 1) (addf s (dcost (rd_T47 xs (i : Int)).f0 (rd_T47 xs (i : Int)).f1 (rd_T47 xs (i : Int)).f2 (base * rd fs (i : Int))))
theorem dcost_fr {a b c d e C : Int} (h : ItemOk a b c d e) (h1 : 1 ≤ C) (h2 : C ≤ 256) : Fr 24000 512 (dcost a b c C) := by
  obtain ⟨_, _, e3, e4⟩ := daily_in h h1 h2
  obtain ⟨ha, hb, hc, _, _⟩ := h
  have m1 := mulb (a := c) (b := a) (A := 9) (B := 20) (by omega) (by omega) (by omega) (by omega)
  have m2 := mulb (a := c * a) (b := C) (A := 180) (B := 256) m1.1 m1.2 (by omega) h2
  have m3 : c * a * C * C ≤ 180 * 256 * C := Int.mul_le_mul_of_nonneg_right m2.2 (by omega)
  exact fr_fr e3 (by omega) (by omega) (by omega)
theorem pow512 (i : Nat) (h : i ≤ 3) : (0 : Int) ≤ 32 * 512 ^ i * 512 ∧ (32 : Int) * 512 ^ i * 512 ≤ 2199023255552 ∧ (32 : Int) * 512 ^ i * 512 = 32 * 512 ^ (i + 1) := by
  refine ⟨?_, ?_, by rw [Int.mul_assoc, ← Int.pow_succ]⟩
  · match i, h with
    | 0, _ => decide
    | 1, _ => decide
    | 2, _ => decide
    | 3, _ => decide
  · match i, h with
    | 0, _ => decide
    | 1, _ => decide
    | 2, _ => decide
    | 3, _ => decide
theorem joint_step {xs : List S47} (hf : FamOk xs) {base : Int} (h1 : 1 ≤ base) (h2 : base ≤ 32) {fs : List Int} (hc : FacOk xs fs) (i : Nat) (hi : i < xs.length) {s : Int × Int} (hs : Fr (99 + 24000 * (i : Int)) (32 * 512 ^ i) s) :
    (wrap64 (base * rd fs (i : Int)) = base * rd fs (i : Int) ∧ 1 ≤ base * rd fs (i : Int) ∧ base * rd fs (i : Int) ≤ 256) ∧
    Fr 24000 512 (dcost (rd_T47 xs (i : Int)).f0 (rd_T47 xs (i : Int)).f1 (rd_T47 xs (i : Int)).f2 (base * rd fs (i : Int))) ∧
    Fr (99 + 24000 * ((i + 1 : Nat) : Int)) (32 * 512 ^ (i + 1)) (addf s (dcost (rd_T47 xs (i : Int)).f0 (rd_T47 xs (i : Int)).f1 (rd_T47 xs (i : Int)).f2 (base * rd fs (i : Int)))) ∧
    (99 + 24000 * (i : Int) + 24000) * (32 * 512 ^ i * 512) ≤ 9223372036854775807 ∧ (32 : Int) * 512 ^ i * 512 ≤ 9223372036854775807 := by
  have h4 := hf.2.2
  have hl := hc.1
  have hi2 : i < fs.length := by omega
  have hr : 1 ≤ rd fs (i : Int) ∧ rd fs (i : Int) ≤ 8 := by
    rw [rd_nat fs i hi2]
    exact hc.2 _ (List.getElem_mem _)
  have m1 := mulb (a := base) (b := rd fs (i : Int)) (A := 32) (B := 8) (by omega) h2 (by omega) hr.2
  have m2 : 1 ≤ base * rd fs (i : Int) := by
    have := Int.mul_pos (show 0 < base by omega) (show 0 < rd fs (i : Int) by omega)
    omega
  have m3 : base * rd fs (i : Int) ≤ 256 := by omega
  have q0 : 0 ≤ 99 + 24000 * (i : Int) := by omega
  have q1 : 99 + 24000 * (i : Int) + 24000 ≤ 96099 := by omega
  have q2 : 99 + 24000 * (i : Int) + 24000 = 99 + 24000 * ((i + 1 : Nat) : Int) := by omega
  have hn := dcost_fr (fam_at hf i hi) m2 m3
  obtain ⟨p0, p1, p2⟩ := pow512 i (by omega)
  have ha := addf_fr hs hn q0 (by decide)
  refine ⟨⟨wid (by omega) (by omega), m2, m3⟩, hn, ?_, Int.le_trans (Int.mul_le_mul q1 p1 p0 (by decide)) (by decide), Int.le_trans p1 (by decide)⟩
  rw [p2, q2] at ha
  exact ha
theorem specJoint_l0 {xs : List S47} (hf : FamOk xs) {base : Int} (h1 : 1 ≤ base) (h2 : base ≤ 32) {fs : List Int} (hc : FacOk xs fs) (d : Nat) : ∀ (i : Nat) (s : Int × Int), i + d = xs.length → Fr (99 + 24000 * (i : Int)) (32 * 512 ^ i) s →
    Ev (fun k => spec_l8Joint.l0 k xs base fs (i : Int) s.1 s.2) (jointF xs base fs d i s) := by
  have h4 := hf.2.2
  have hl := hc.1
  induction d with
  | zero =>
    intro i s hi hs
    refine ev_succ ?_
    simp only [spec_l8Joint.l0, jointF]
    exact ev_neg (by omega) (ev_some _)
  | succ d ih =>
    intro i s hi hs
    have q1 : (i : Int) < (xs.length : Int) := by omega
    have q2 : 0 ≤ (i : Int) := by omega
    have q3 : (i : Int) < (fs.length : Int) := by omega
    have q4 : i < xs.length := by omega
    have q5 : i + 1 + d = xs.length := by omega
    have q6 : 0 ≤ 99 + 24000 * (i : Int) := by omega
    have hw : wrap64 ((i : Int) + 1) = ((i + 1 : Nat) : Int) := by rw [wid (by omega) (by omega)]; omega
    obtain ⟨⟨w1, w2, w3⟩, g1, g2, g3, g4⟩ := joint_step hf h1 h2 hc i q4 hs
    refine ev_succ ?_
    simp only [spec_l8Joint.l0]
    rw [hw, w1]
    have e1 := specDaily_ev _ _ _ _ _ _ (fam_at hf i q4) w2 w3
    have e2 := add_ev hs g1 q6 (by decide) g3 g4
    have e3 := ih (i + 1) _ q5 g2
    exact ev_pos q1 (ev_pos q2 (ev_pos q3 (ev_bind e1 (ev_bind e2 e3))))
theorem implJoint_l0 {xs : List S47} (hf : FamOk xs) {base : Int} (h1 : 1 ≤ base) (h2 : base ≤ 32) {fs : List Int} (hc : FacOk xs fs) (d : Nat) : ∀ (i : Nat) (s : Int × Int), i + d = xs.length → Fr (99 + 24000 * (i : Int)) (32 * 512 ^ i) s →
    Ev (fun k => impl_familyCost.l0 k base fs xs (xs.length : Int) (i : Int) s.1 s.2) (jointF xs base fs d i s) := by
  have h4 := hf.2.2
  have hl := hc.1
  induction d with
  | zero =>
    intro i s hi hs
    refine ev_succ ?_
    simp only [impl_familyCost.l0, jointF]
    exact ev_neg (by omega) (ev_some _)
  | succ d ih =>
    intro i s hi hs
    have q1 : (i : Int) < (xs.length : Int) := by omega
    have q2 : 0 ≤ (i : Int) := by omega
    have q3 : (i : Int) < (fs.length : Int) := by omega
    have q4 : i < xs.length := by omega
    have q5 : i + 1 + d = xs.length := by omega
    have q6 : 0 ≤ 99 + 24000 * (i : Int) := by omega
    have hw : wrap64 ((i : Int) + 1) = ((i + 1 : Nat) : Int) := by rw [wid (by omega) (by omega)]; omega
    obtain ⟨⟨w1, w2, w3⟩, g1, g2, g3, g4⟩ := joint_step hf h1 h2 hc i q4 hs
    refine ev_succ ?_
    simp only [impl_familyCost.l0]
    rw [hw, w1]
    have e1 := implDaily_ev _ _ _ _ _ _ (fam_at hf i q4) w2 w3
    have e2 := plus_ev hs g1 q6 (by decide) g3 g4
    have e3 := ih (i + 1) _ q5 g2
    exact ev_pos q1 (ev_pos q2 (ev_pos q1 (ev_pos q3 (ev_bind e1 (ev_bind e2 e3)))))
def jointAll (xs : List S47) (joint base : Int) (fs : List Int) : Int × Int := jointF xs base fs xs.length 0 (fr joint base)
theorem joint0 {joint base : Int} (h0 : 0 ≤ joint) (h1 : joint ≤ 99) (h2 : 1 ≤ base) (h3 : base ≤ 32) : Fr (99 + 24000 * ((0 : Nat) : Int)) (32 * 512 ^ 0) (fr joint base) := fr_fr h0 (by omega) (by omega) (by omega)
theorem specJoint_ev {xs : List S47} (hf : FamOk xs) {joint base : Int} (h0 : 0 ≤ joint) (h9 : joint ≤ 99) (h1 : 1 ≤ base) (h2 : base ≤ 32) {fs : List Int} (hc : FacOk xs fs) : Ev (fun k => spec_l8Joint.f k xs joint base fs) (jointAll xs joint base fs) := by
  unfold spec_l8Joint.f jointAll
  exact ev_bind (cut_ev joint base h0 (by omega) (by omega) (by omega)) (specJoint_l0 hf h1 h2 hc xs.length 0 _ (Nat.zero_add _) (joint0 h0 h9 h1 h2))
theorem implJoint_ev {xs : List S47} (hf : FamOk xs) {joint base : Int} (h0 : 0 ≤ joint) (h9 : joint ≤ 99) (h1 : 1 ≤ base) (h2 : base ≤ 32) {fs : List Int} (hc : FacOk xs fs) : Ev (fun k => impl_familyCost.f k xs joint base fs) (jointAll xs joint base fs) := by
  unfold impl_familyCost.f jointAll
  exact ev_bind (fraction_ev joint base h0 (by omega) (by omega) (by omega)) (implJoint_l0 hf h1 h2 hc xs.length 0 _ (Nat.zero_add _) (joint0 h0 h9 h1 h2))
theorem prod_in {b f : Int} (h1 : 1 ≤ b) (h2 : b ≤ 32) (h3 : 1 ≤ f) (h4 : f ≤ 8) : wrap64 (b * f) = b * f ∧ 1 ≤ b * f ∧ b * f ≤ 256 := by
  have m1 := mulb (a := b) (b := f) (A := 32) (B := 8) (by omega) h2 (by omega) h4
  have m2 := Int.mul_pos (show 0 < b by omega) (show 0 < f by omega)
  exact ⟨wid (by omega) (by omega), by omega, by omega⟩
/-- The cost of an item for a factor; its best factor; the best factors of the first items. -/
def facD (x : S47) (b f : Int) : Int × Int := dcost x.f0 x.f1 x.f2 (b * f)
def bestM (x : S47) (b : Int) : Int := bestF (facD x b) 1 (upSeq 7 2)
def chosen (xs : List S47) (b : Int) (n : Nat) : List Int := (List.range n).map fun i : Nat => bestM (rd_T47 xs (i : Int)) b
theorem chosen_length (xs : List S47) (b : Int) (n : Nat) : (chosen xs b n).length = n := by simp [chosen]
theorem chosen_succ (xs : List S47) (b : Int) (n : Nat) : chosen xs b (n + 1) = chosen xs b n ++ [bestM (rd_T47 xs (n : Int)) b] := by simp [chosen, List.range_succ]
theorem facD_mod {x : S47} (h : ItOk x) {b f : Int} (h1 : 1 ≤ b) (h2 : b ≤ 32) (h3 : 1 ≤ f) (h4 : f ≤ 8) : Mod (facD x b f) := by
  obtain ⟨_, p1, p2⟩ := prod_in h1 h2 h3 h4
  exact dcost_mod h p1 p2
theorem specChosen_l1 {xs : List S47} (hf : FamOk xs) {b : Int} (h1 : 1 ≤ b) (h2 : b ≤ 32) (i : Nat) (hi : i < xs.length) {R : List Int} (m : Nat) : ∀ (x n : Int), 1 ≤ x ∧ x ≤ 8 → 1 ≤ n → n + m = 9 → Ev (fun k => spec_l8Chosen.l0 k xs b (chosen xs b i ++ [bestF (facD (rd_T47 xs (i : Int)) b) x (upSeq m n)]) ((i + 1 : Nat) : Int)) R →
    Ev (fun k => spec_l8Chosen.l1 k xs b (chosen xs b i) (i : Int) x n) R := by
  have h4 := hf.2.2
  have hw : wrap64 ((i : Int) + 1) = ((i + 1 : Nat) : Int) := by rw [wid (by omega) (by omega)]; omega
  have g1 : (i : Int) < (xs.length : Int) := by omega
  have g2 : 0 ≤ (i : Int) := by omega
  have g3 : i < 17592186044416 := by omega
  have hx := fam_at hf i hi
  induction m with
  | zero =>
    intro x n hb hn he hR
    refine ev_succ ?_
    simp only [spec_l8Chosen.l1, chosen_length]
    rw [hw]
    exact ev_neg (by omega) (ev_pos g3 hR)
  | succ m ih =>
    intro x n hb hn he hR
    have q1 : n ≤ 8 := by omega
    have q2 : 1 ≤ n + 1 := by omega
    have q3 : n + 1 + m = 9 := by omega
    obtain ⟨a1, a2, a3⟩ := prod_in h1 h2 hn q1
    obtain ⟨b1, b2, b3⟩ := prod_in h1 h2 hb.1 hb.2
    have m1 := facD_mod hx h1 h2 hn q1
    have m2 := facD_mod hx h1 h2 hb.1 hb.2
    have hw2 : wrap64 (n + 1) = n + 1 := wid (by omega) (by omega)
    refine ev_succ ?_
    simp only [spec_l8Chosen.l1]
    rw [hw2, a1, b1]
    refine ev_pos q1 (ev_pos g2 (ev_pos g1 (ev_bind (specDaily_ev _ _ _ _ _ _ hx a2 a3) (ev_bind (specDaily_ev _ _ _ _ _ _ hx b2 b3) ?_))))
    have e := specLess_eq m1 m2
    unfold facD at e
    rw [e]
    simp only [Option.bind_some]
    simp only [upSeq, bestF] at hR
    by_cases c : ltF (facD (rd_T47 xs (i : Int)) b n) (facD (rd_T47 xs (i : Int)) b x) = true
    · rw [if_pos c] at hR
      exact ev_pos c (ih n (n + 1) ⟨hn, q1⟩ q2 q3 hR)
    · rw [if_neg c] at hR
      exact ev_neg c (ih x (n + 1) hb q2 q3 hR)
theorem specChosen_l0 {xs : List S47} (hf : FamOk xs) {b : Int} (h1 : 1 ≤ b) (h2 : b ≤ 32) (d : Nat) : ∀ i : Nat, i + d = xs.length → Ev (fun k => spec_l8Chosen.l0 k xs b (chosen xs b i) (i : Int)) (chosen xs b xs.length) := by
  induction d with
  | zero =>
    intro i hi
    refine ev_succ ?_
    simp only [spec_l8Chosen.l0]
    refine ev_neg (by omega) (ev_cast (ev_some _) ?_)
    rw [show i = xs.length by omega]
  | succ d ih =>
    intro i hi
    have q := ih (i + 1) (by omega)
    rw [chosen_succ] at q
    refine ev_succ ?_
    simp only [spec_l8Chosen.l0]
    exact ev_pos (by omega) (specChosen_l1 hf h1 h2 i (by omega) 7 1 2 (by decide) (by decide) (by decide) q)
theorem specChosen_ev {xs : List S47} (hf : FamOk xs) {b : Int} (h1 : 1 ≤ b) (h2 : b ≤ 32) : Ev (fun k => spec_l8Chosen.f k xs b) (chosen xs b xs.length) := by
  unfold spec_l8Chosen.f
  exact specChosen_l0 hf h1 h2 xs.length 0 (Nat.zero_add _)
theorem implChosen_l0 {xs : List S47} (hf : FamOk xs) {b : Int} (h1 : 1 ≤ b) (h2 : b ≤ 32) (d : Nat) : ∀ i : Nat, i + d = xs.length → Ev (fun k => impl_bestFactors.l0 k (chosen xs b i) xs (xs.length : Int) (i : Int) b) (chosen xs b xs.length) := by
  have h4 := hf.2.2
  induction d with
  | zero =>
    intro i hi
    refine ev_succ ?_
    simp only [impl_bestFactors.l0]
    refine ev_neg (by omega) (ev_cast (ev_some _) ?_)
    rw [show i = xs.length by omega]
  | succ d ih =>
    intro i hi
    have hw : wrap64 ((i : Int) + 1) = ((i + 1 : Nat) : Int) := by rw [wid (by omega) (by omega)]; omega
    have q := ih (i + 1) (by omega)
    rw [chosen_succ] at q
    have g1 : (i : Int) < (xs.length : Int) := by omega
    have g2 : 0 ≤ (i : Int) := by omega
    have g3 : i < 17592186044416 := by omega
    have hx := fam_at hf i (by omega)
    have hS : ∀ y ∈ (1 : Int) :: upSeq 7 2, 1 ≤ y ∧ y ≤ 8 := by
      intro y hy
      have := upSeq_in 8 1 y hy
      omega
    have hL : (upSeq 7 2).length ≤ 1000000 := by rw [upSeq_len]; decide
    have hG : ∀ n, 1 ≤ n ∧ n ≤ 8 → Ev (fun k => impl_Item_daily.f k (rd_T47 xs (i : Int)).f0 (rd_T47 xs (i : Int)).f1 (rd_T47 xs (i : Int)).f2 (rd_T47 xs (i : Int)).f3 (rd_T47 xs (i : Int)).f4 (wrap64 (b * n))) (facD (rd_T47 xs (i : Int)) b n) := by
      intro n hn
      obtain ⟨a1, a2, a3⟩ := prod_in h1 h2 hn.1 hn.2
      rw [a1]
      exact implDaily_ev _ _ _ _ _ _ hx a2 a3
    refine ev_succ ?_
    simp only [impl_bestFactors.l0, chosen_length]
    rw [hw]
    refine ev_pos g1 (ev_pos g2 (ev_pos g1 (ev_bind (upFrom_ev 8 (by decide)) ?_)))
    exact ev_bind (cheapest_ev (S := fun n => 1 ≤ n ∧ n ≤ 8) (fun n hn => facD_mod hx h1 h2 hn.1 hn.2) 1 (upSeq 7 2) hS hL (fun k n => impl_Item_daily.f k (rd_T47 xs (i : Int)).f0 (rd_T47 xs (i : Int)).f1 (rd_T47 xs (i : Int)).f2 (rd_T47 xs (i : Int)).f3 (rd_T47 xs (i : Int)).f4 (wrap64 (b * n))) hG) (ev_pos g3 q)
theorem implChosen_ev {xs : List S47} (hf : FamOk xs) {b : Int} (h1 : 1 ≤ b) (h2 : b ≤ 32) : Ev (fun k => impl_bestFactors.f k xs b) (chosen xs b xs.length) := by
  unfold impl_bestFactors.f
  exact implChosen_l0 hf h1 h2 xs.length 0 (Nat.zero_add _)
theorem fr_dvd (n : Int) {d : Int} (hd : 0 < d) : (fr n d).2 ∣ d := by
  have h1 : ((Nat.gcd n.toNat d.toNat : Nat) : Int) ∣ d := by
    have h := Nat.gcd_dvd_right n.toNat d.toNat
    have h2 := Int.natCast_dvd_natCast.2 h
    rwa [Int.toNat_of_nonneg (by omega)] at h2
  exact ⟨((Nat.gcd n.toNat d.toNat : Nat) : Int), (Int.ediv_mul_cancel h1).symm⟩
/-- The lower part of a sum divides each common multiple of the lower parts. -/
theorem addf_dvd {x y : Int × Int} {m : Int} (hm : 0 < m) (x0 : 0 ≤ x.1) (y0 : 0 ≤ y.1) (x1 : 0 < x.2) (y1 : 0 < y.2) (hx : x.2 ∣ m) (hy : y.2 ∣ m) : (addf x y).2 ∣ m := by
  obtain ⟨p, q⟩ := x
  obtain ⟨u, v⟩ := y
  obtain ⟨a, ha⟩ := hx
  obtain ⟨b, hb⟩ := hy
  simp only at *
  have hD : 0 < q * v := Int.mul_pos x1 y1
  have a0 : 0 ≤ a := by
    rcases Int.lt_or_le a 0 with h | h
    · have := Int.mul_neg_of_pos_of_neg x1 h; omega
    · exact h
  have b0 : 0 ≤ b := by
    rcases Int.lt_or_le b 0 with h | h
    · have := Int.mul_neg_of_pos_of_neg y1 h; omega
    · exact h
  have n0 : 0 ≤ p * v + u * q := Int.add_nonneg (Int.mul_nonneg x0 (Int.le_of_lt y1)) (Int.mul_nonneg y0 (Int.le_of_lt x1))
  have n1 : 0 ≤ p * a + u * b := Int.add_nonneg (Int.mul_nonneg x0 a0) (Int.mul_nonneg y0 b0)
  have e : addf (p, q) (u, v) = fr (p * a + u * b) m := by
    show fr (p * v + u * q) (q * v) = _
    rw [← fr_scale (p * v + u * q) (q * v) m n0 hD hm, ← fr_scale (p * a + u * b) m (q * v) n1 hm hD]
    congr 1
    · rw [Int.add_mul, Int.add_mul]
      congr 1
      · rw [ha, Int.mul_assoc, Int.mul_assoc]
        congr 1
        rw [← Int.mul_assoc, Int.mul_comm v q, Int.mul_comm (q * v) a]
      · rw [hb, Int.mul_assoc, Int.mul_assoc]
        congr 1
        rw [← Int.mul_assoc, Int.mul_comm (q * v) b]
    · rw [Int.mul_comm]
  rw [e]
  exact fr_dvd _ hm
/-- The lower part of a joint cost divides twice the base times the factors so far. -/
def JInv (base : Int) (i : Nat) (s : Int × Int) : Prop := Fr (99 + 24000 * (i : Int)) (32 * 512 ^ i) s ∧ ∃ L, 0 < L ∧ L ≤ 8 ^ i ∧ s.2 ∣ 2 * base * L
theorem bestF_in {S : Int → Prop} {D : Int → Int × Int} (xs : List Int) : ∀ b, S b → (∀ x ∈ xs, S x) → S (bestF D b xs) := by
  induction xs with
  | nil => intro b hb _; exact hb
  | cons x xs ih =>
    intro b hb hx
    simp only [bestF]
    refine ih _ ?_ fun y hy => hx y (List.mem_cons_of_mem _ hy)
    split
    · exact hx x List.mem_cons_self
    · exact hb
theorem jinv_step {xs : List S47} (hf : FamOk xs) {base : Int} (h1 : 1 ≤ base) (h2 : base ≤ 32) {fs : List Int} (hc : FacOk xs fs) (i : Nat) (hi : i < xs.length) {s : Int × Int} (hs : JInv base i s) :
    JInv base (i + 1) (addf s (dcost (rd_T47 xs (i : Int)).f0 (rd_T47 xs (i : Int)).f1 (rd_T47 xs (i : Int)).f2 (base * rd fs (i : Int)))) := by
  obtain ⟨hF, L, l0, l1, l2⟩ := hs
  obtain ⟨⟨_, w2, w3⟩, g1, g2, _, _⟩ := joint_step hf h1 h2 hc i hi hF
  have hl := hc.1
  have hi2 : i < fs.length := by omega
  have hr : 1 ≤ rd fs (i : Int) ∧ rd fs (i : Int) ≤ 8 := by
    rw [rd_nat fs i hi2]
    exact hc.2 _ (List.getElem_mem _)
  have b0 : 0 < 2 * base := by omega
  have r0 : 0 < rd fs (i : Int) := by omega
  have c0 : 0 < 2 * (base * rd fs (i : Int)) := by omega
  have m0 : 0 < L * rd fs (i : Int) := Int.mul_pos l0 r0
  refine ⟨g2, L * rd fs (i : Int), m0, ?_, ?_⟩
  · rw [Int.pow_succ]
    exact Int.mul_le_mul l1 hr.2 (Int.le_of_lt r0) (Int.le_of_lt (Int.pow_pos (by decide)))
  · refine addf_dvd (Int.mul_pos b0 m0) hF.1 g1.1 hF.2.2.1 g1.2.2.1 (Int.dvd_trans l2 ⟨rd fs (i : Int), by rw [Int.mul_assoc (2 * base)]⟩) (Int.dvd_trans (fr_dvd _ c0) ⟨L, ?_⟩)
    rw [Int.mul_comm L, ← Int.mul_assoc, Int.mul_assoc 2 base]
theorem jinv_all {xs : List S47} (hf : FamOk xs) {base : Int} (h1 : 1 ≤ base) (h2 : base ≤ 32) {fs : List Int} (hc : FacOk xs fs) (d : Nat) : ∀ (i : Nat) (s : Int × Int), i + d = xs.length → JInv base i s → JInv base xs.length (jointF xs base fs d i s) := by
  induction d with
  | zero => intro i s hi hs; simp only [jointF]; rw [show xs.length = i by omega]; exact hs
  | succ d ih =>
    intro i s hi hs
    simp only [jointF]
    exact ih (i + 1) _ (by omega) (jinv_step hf h1 h2 hc i (by omega) hs)
theorem pow8 (n : Nat) (h : n ≤ 4) : (8 : Int) ^ n ≤ 4096 := by
  match n, h with
  | 0, _ => decide
  | 1, _ => decide
  | 2, _ => decide
  | 3, _ => decide
  | 4, _ => decide
theorem joint_mod {xs : List S47} (hf : FamOk xs) {joint base : Int} (j0 : 0 ≤ joint) (j9 : joint ≤ 99) (h1 : 1 ≤ base) (h2 : base ≤ 32) {fs : List Int} (hc : FacOk xs fs) : Mod (jointAll xs joint base fs) := by
  have h4 := hf.2.2
  have b0 : 0 < base := by omega
  have start : JInv base 0 (fr joint base) := by
    refine ⟨joint0 j0 j9 h1 h2, 1, by decide, by decide, Int.dvd_trans (fr_dvd _ b0) ⟨2, ?_⟩⟩
    omega
  obtain ⟨⟨f1, f2, f3, _⟩, L, l0, l1, l2⟩ := jinv_all hf h1 h2 hc xs.length 0 _ (Nat.zero_add _) start
  have p8 := pow8 xs.length (by omega)
  have c0 : 0 < 2 * base * L := Int.mul_pos (by omega) l0
  have c1 : 2 * base * L ≤ 64 * 4096 := Int.mul_le_mul (by omega) (Int.le_trans l1 p8) (Int.le_of_lt l0) (by decide)
  have d1 := Int.le_trans (Int.le_of_dvd c0 l2) c1
  have n1 : (99 + 24000 * (xs.length : Int)) * (jointF xs base fs xs.length 0 (fr joint base)).2 ≤ 96099 * (64 * 4096) := Int.mul_le_mul (by omega) d1 (Int.le_of_lt f3) (by decide)
  refine ⟨f1, Int.le_trans f2 (Int.le_trans n1 (by decide)), f3, Int.le_trans d1 (by decide)⟩
theorem chosen_fac {xs : List S47} (b : Int) : FacOk xs (chosen xs b xs.length) := by
  refine ⟨by rw [chosen_length], fun x hx => ?_⟩
  simp only [chosen, List.mem_map] at hx
  obtain ⟨i, _, rfl⟩ := hx
  unfold bestM
  exact bestF_in (S := fun x => 1 ≤ x ∧ x ≤ 8) (upSeq 7 2) 1 (by decide) fun y hy => by
    have := upSeq_in 7 2 y hy
    omega

def baseD (xs : List S47) (joint b : Int) : Int × Int := jointAll xs joint b (chosen xs b xs.length)
def bestB (xs : List S47) (joint : Int) : Int := bestF (baseD xs joint) 1 (upSeq 31 2)
theorem baseD_mod {xs : List S47} (hf : FamOk xs) {joint b : Int} (j0 : 0 ≤ joint) (j9 : joint ≤ 99) (h : 1 ≤ b ∧ b ≤ 32) : Mod (baseD xs joint b) := joint_mod hf j0 j9 h.1 h.2 (chosen_fac b)
theorem bestB_in (xs : List S47) (joint : Int) : 1 ≤ bestB xs joint ∧ bestB xs joint ≤ 32 := by
  unfold bestB
  exact bestF_in (S := fun x => 1 ≤ x ∧ x ≤ 32) (upSeq 31 2) 1 (by decide) fun y hy => by
    have := upSeq_in 31 2 y hy
    omega
def ans (xs : List S47) (joint : Int) : Int × List Int × Bool := if FamOk xs ∧ 0 ≤ joint ∧ joint ≤ 99 then (bestB xs joint, chosen xs (bestB xs joint) xs.length, true) else (0, [], false)
theorem ans_len (xs : List S47) (b : Int) : (ans xs b).2.1.length ≤ 4 := by
  unfold ans
  by_cases h : FamOk xs ∧ 0 ≤ b ∧ b ≤ 99
  · rw [if_pos h]
    have h4 := h.1.2.2
    show (chosen xs _ xs.length).length ≤ 4
    rw [chosen_length]
    omega
  · rw [if_neg h]
    simp
theorem spec_l0 {xs : List S47} (hf : FamOk xs) {joint : Int} (j0 : 0 ≤ joint) (j9 : joint ≤ 99) (m : Nat) : ∀ (x n : Int), 1 ≤ x ∧ x ≤ 32 → 1 ≤ n → n + m = 33 →
    Ev (fun k => spec_BestBase.l0 k xs joint x n) (bestF (baseD xs joint) x (upSeq m n), chosen xs (bestF (baseD xs joint) x (upSeq m n)) xs.length, true) := by
  induction m with
  | zero =>
    intro x n hb hn he
    refine ev_succ ?_
    simp only [spec_BestBase.l0]
    exact ev_neg (by omega) (ev_bind (specChosen_ev hf hb.1 hb.2) (ev_some _))
  | succ m ih =>
    intro x n hb hn he
    have q1 : n ≤ 32 := by omega
    have q2 : 1 ≤ n + 1 := by omega
    have q3 : n + 1 + m = 33 := by omega
    have hw2 : wrap64 (n + 1) = n + 1 := wid (by omega) (by omega)
    refine ev_succ ?_
    simp only [spec_BestBase.l0]
    rw [hw2]
    refine ev_pos q1 (ev_bind (specChosen_ev hf hn q1) (ev_bind (specJoint_ev hf j0 j9 hn q1 (chosen_fac n)) (ev_bind (specChosen_ev hf hb.1 hb.2) (ev_bind (specJoint_ev hf j0 j9 hb.1 hb.2 (chosen_fac x)) ?_))))
    have e := specLess_eq (baseD_mod hf j0 j9 ⟨hn, q1⟩) (baseD_mod hf j0 j9 hb)
    unfold baseD at e
    rw [e]
    simp only [Option.bind_some, upSeq, bestF]
    by_cases c : ltF (baseD xs joint n) (baseD xs joint x) = true
    · rw [if_pos c]
      exact ev_pos c (ih n (n + 1) ⟨hn, q1⟩ q2 q3)
    · rw [if_neg c]
      exact ev_neg c (ih x (n + 1) hb q2 q3)
theorem spec_ans (xs : List S47) (b : Int) (hn : xs.length ≤ 35184372088832) : Ev (fun k => spec_BestBase.f k xs b) (ans xs b) := by
  unfold spec_BestBase.f ans
  simp only [in_eq, Option.bind_some]
  refine ev_bind (specFamily_ev xs hn) ?_
  by_cases a1 : FamOk xs
  rotate_left
  · refine ev_neg (by rw [decide_eq_true_eq]; exact a1) (ev_succ ?_)
    simp only [spec_BestBase.j0]
    exact ev_cast (ev_pos trivial (ev_some _)) (if_neg fun h => a1 h.1).symm
  refine ev_pos (decide_eq_true a1) (ev_succ ?_)
  simp only [spec_BestBase.j0]
  by_cases a2 : 0 ≤ b ∧ b ≤ 99
  rotate_left
  · exact ev_cast (ev_pos (by rw [decide_eq_false a2]; rfl) (ev_some _)) (if_neg fun h => a2 h.2).symm
  exact ev_cast (ev_neg (by rw [decide_eq_true a2]; simp) (spec_l0 a1 a2.1 a2.2 31 1 2 (by decide) (by decide) (by decide))) (if_pos ⟨a1, a2⟩).symm
theorem lit_ev {xs : List S47} (hf : FamOk xs) {joint b : Int} (j0 : 0 ≤ joint) (j9 : joint ≤ 99) (h : 1 ≤ b ∧ b ≤ 32) : Ev (fun k => impl_BestBaseLit.f k b xs joint) (baseD xs joint b) := by
  unfold impl_BestBaseLit.f
  exact ev_bind (implChosen_ev hf h.1 h.2) (ev_bind (implJoint_ev hf j0 j9 h.1 h.2 (chosen_fac b)) (ev_some _))
theorem impl_ans (xs : List S47) (b : Int) (hn : xs.length ≤ 35184372088832) : Ev (fun k => impl_BestBase.f k xs b) (ans xs b) := by
  unfold impl_BestBase.f ans
  simp only [within_eq, Option.bind_some]
  refine ev_bind (implFamily_ev xs hn) ?_
  by_cases a1 : FamOk xs
  rotate_left
  · refine ev_neg (by rw [decide_eq_true_eq]; exact a1) (ev_succ ?_)
    simp only [impl_BestBase.j0]
    exact ev_cast (ev_pos trivial (ev_some _)) (if_neg fun h => a1 h.1).symm
  refine ev_pos (decide_eq_true a1) (ev_succ ?_)
  simp only [impl_BestBase.j0]
  by_cases a2 : 0 ≤ b ∧ b ≤ 99
  rotate_left
  · exact ev_cast (ev_pos (by rw [decide_eq_false a2]; rfl) (ev_some _)) (if_neg fun h => a2 h.2).symm
  have hS : ∀ y ∈ (1 : Int) :: upSeq 31 2, 1 ≤ y ∧ y ≤ 32 := by
    intro y hy
    have := upSeq_in 32 1 y hy
    omega
  have hL : (upSeq 31 2).length ≤ 1000000 := by rw [upSeq_len]; decide
  have hB := bestB_in xs b
  refine ev_cast (ev_neg (by rw [decide_eq_true a2]; simp) (ev_bind (upFrom_ev 32 (by decide)) (ev_bind (cheapest_ev (S := fun n => 1 ≤ n ∧ n ≤ 32) (fun n hn => baseD_mod a1 a2.1 a2.2 hn) 1 (upSeq 31 2) hS hL (fun k n => impl_BestBaseLit.f k n xs b) (fun n hn => lit_ev a1 a2.1 a2.2 hn)) ?_))) (if_pos ⟨a1, a2⟩).symm
  exact ev_bind (implChosen_ev a1 hB.1 hB.2) (ev_some _)
theorem law_end (l0 : List S49) (b : Int) (h0 : l0.length ≤ 1048576) (r : Int × List Int × Bool) (hI : Ev (fun k => impl_BestBase.f k (l0.map toI) b) r) (hr : r.2.1.length ≤ 4) :
    Ev (fun k => laws_FnExactBestBase.j0 k l0 b r.1 r.2.1 r.2.2 (l0.map toI) r.1 r.2.1 r.2.2 (r.2.2 != r.2.2)) true := by
  obtain ⟨c, l, o⟩ := r
  simp only at hr ⊢
  have h5 : l.length ≤ 35184372088832 := by omega
  have t0 := toItemS_ev l0 h0
  have hm : (l0.map toI).length ≤ 1048576 := by simpa using h0
  obtain ⟨mk, k1, k2⟩ := markItemS_ev (l0.map toI) hm
  have hq := eqIntS_ev l l h5
  have hm3 := mark_ev l 1 (by omega) h5 (by omega)
  have hh := held_ev 1 l.length (by omega) h5 (by omega)
  have g1 : ¬ mk.1 < 0 := by omega
  have g2 : ¬ (1 + (l.length : Int) < 0) := by omega
  refine ev_succ ?_
  simp only [laws_FnExactBestBase.j0]
  refine ev_neg (by simp) (ev_bind t0 (ev_bind (eqItemS_ev _ hm) (ev_pos rfl (ev_bind k1 (ev_neg g1 (ev_pos trivial (ev_bind hq (ev_pos (by simp) (ev_succ ?_)))))))))
  simp only [laws_FnExactBestBase.j1]
  refine ev_neg (by simp) (ev_bind hm3 (ev_bind hh (ev_neg g2 (ev_pos rfl (ev_bind t0 (ev_bind hI (ev_pos rfl (ev_bind hq (ev_pos (by simp) (ev_succ ?_))))))))))
  simp only [laws_FnExactBestBase.j2]
  exact ev_neg (by simp) (ev_bind hh (ev_neg g2 (ev_pos rfl (ev_some _))))
theorem FnExactBestBase (l0 : List (S49)) (a1 : Int) (hl0 : l0.length ≤ maxLen) (hw0 : ∀ x ∈ l0, (Lit.int .i64 x.f0).wf = true ∧ (Lit.int .i64 x.f1).wf = true ∧ (Lit.int .i64 x.f2).wf = true ∧ (Lit.int .i64 x.f3).wf = true ∧ (Lit.int .i64 x.f4).wf = true) (hw1 : (Lit.int .i64 a1).wf = true) :
    ∃ k, laws_FnExactBestBase.f k l0 a1 = some true := by
  refine Ev.rounds ?_
  unfold laws_FnExactBestBase.f
  simp only [szItemS_eq l0 hl0, Option.bind_some]
  by_cases c0 : (1048576 : Int) - (l0.length : Int) < 0
  · rw [if_pos c0]
    exact ev_pos (by omega) (ev_some _)
  rw [if_neg c0]
  refine ev_neg (by omega) ?_
  have h0 : l0.length ≤ 1048576 := by omega
  have t0 := toItemS_ev l0 h0
  have hm : (l0.map toI).length ≤ 35184372088832 := by simp; omega
  have hS := spec_ans (l0.map toI) a1 hm
  have hI := impl_ans (l0.map toI) a1 hm
  have hL := ans_len (l0.map toI) a1
  refine ev_bind t0 (ev_bind hS (ev_bind t0 (ev_bind hI (ev_pos rfl (ev_bind (eqIntS_ev _ _ (by omega)) (ev_pos (by simp) ?_))))))
  exact law_end l0 a1 h0 _ hI hL

end Go.Proofs.Ytkdendaoebgoeaa.Pure
