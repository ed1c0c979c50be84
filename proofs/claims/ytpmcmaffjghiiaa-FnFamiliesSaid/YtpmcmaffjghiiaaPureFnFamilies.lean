/- What FnFamilies asks holds for every code: the program's family costs, factors and base are the reference's, the best base costs no more than a power of two, and no family costs less than its items alone. No conditions. LAWFAM -/
import Derived.Test.YtpmcmaffjghiiaaKit
import Derived.Test.YtpmcmaffjghiiaaXFnFamiliesx11
namespace Go.Proofs.Ytpmcmaffjghiiaa.Pure
set_option linter.unusedVariables false
open Go.RowKit Go.Proofs.Ytpmcmaffjghiiaa.PFnFamilies Go.Proofs.YtpmcmaffjghiiaaW.PrintWords Go.Proofs.YtpmcmaffjghiiaaW.PrintLast Go.Proofs.Ytpmcmaffjghiiaa.Kit

theorem in_eq (a b c : Int) : spec_l1In.f a b c = some (decide (b ≤ a ∧ a ≤ c)) := by
  unfold spec_l1In.f
  by_cases h : b ≤ a <;> simp [h]
theorem within_eq (a b c : Int) : impl_within.f a b c = some (decide (b ≤ a ∧ a ≤ c)) := by
  unfold impl_within.f
  by_cases h : b ≤ a <;> simp [h]
theorem allWithin_l0 (lo up : Int) (xs : List Int) (hn : xs.length ≤ 35184372088832) (d : Nat) : ∀ (i : Nat), i + d = xs.length →
    Ev (fun k => impl_allWithin.l0 k lo up xs (xs.length : Int) (i : Int)) (decide (∀ x ∈ xs.drop i, lo ≤ x ∧ x ≤ up)) := by
  induction d with
  | zero =>
    intro i hi
    refine ev_succ ?_
    simp only [impl_allWithin.l0]
    refine ev_neg (by omega) ?_
    rw [List.drop_of_length_le (by omega)]
    exact ev_cast (ev_some true) (by simp)
  | succ d ih =>
    intro i hi
    refine ev_succ ?_
    simp only [impl_allWithin.l0, within_eq, Option.bind_some]
    refine ev_pos (by omega) (ev_pos (by omega) (ev_pos (by omega) ?_))
    have hw : wrap64 ((i : Int) + 1) = ((i + 1 : Nat) : Int) := by rw [wid (by omega) (by omega)]; omega
    rw [hw, drop_rd xs i (by omega)]
    by_cases h : lo ≤ rd xs i ∧ rd xs i ≤ up
    · refine ev_pos (by simpa using h) (ev_cast (ih (i + 1) (by omega)) ?_)
      simp [h]
    · refine ev_neg (by simpa using h) (ev_cast (ev_some false) ?_)
      symm
      simp only [decide_eq_false_iff_not, List.mem_cons]
      exact fun hh => h (hh _ (Or.inl rfl))
theorem allWithin_ev (xs : List Int) (lo hi : Int) (hn : xs.length ≤ 35184372088832) : Ev (fun k => impl_allWithin.f k xs lo hi) (decide (∀ x ∈ xs, lo ≤ x ∧ x ≤ hi)) := by
  unfold impl_allWithin.f
  exact allWithin_l0 lo hi xs hn xs.length 0 (by omega)
theorem gcd_l0 (b : Nat) : ∀ a : Nat, Ev (fun k => spec_l8Gcd.l0 k (a : Int) (b : Int)) ((Nat.gcd a b : Nat) : Int) := by
  induction b using Nat.strongRecOn with
  | _ b ih =>
    intro a
    refine ev_succ ?_
    simp only [spec_l8Gcd.l0]
    by_cases h : b = 0
    · subst h
      exact ev_neg (by omega) (ev_cast (ev_some _) (by simp))
    · refine ev_pos (by omega) (ev_neg (by omega) ?_)
      have e : Int.tmod (a : Int) (b : Int) = ((a % b : Nat) : Int) := rfl
      rw [e]
      refine ev_cast (ih (a % b) (Nat.mod_lt _ (by omega)) b) ?_
      rw [Nat.gcd_comm b, ← Nat.gcd_rec, Nat.gcd_comm]
theorem gcd_ev (a b : Int) (ha : 0 ≤ a) (hb : 0 ≤ b) : Ev (fun k => spec_l8Gcd.f k a b) ((Nat.gcd a.toNat b.toNat : Nat) : Int) := by
  unfold spec_l8Gcd.f
  have := gcd_l0 b.toNat a.toNat
  rwa [Int.toNat_of_nonneg ha, Int.toNat_of_nonneg hb] at this
theorem divisor_l0 (b : Nat) : ∀ a : Nat, Ev (fun k => impl_divisor.l0 k (a : Int) (b : Int)) ((Nat.gcd a b : Nat) : Int) := by
  induction b using Nat.strongRecOn with
  | _ b ih =>
    intro a
    refine ev_succ ?_
    simp only [impl_divisor.l0]
    by_cases h : b = 0
    · subst h
      exact ev_pos (by omega) (ev_cast (ev_some _) (by simp))
    · refine ev_neg (by omega) ?_
      have e : Int.tmod (a : Int) (b : Int) = ((a % b : Nat) : Int) := rfl
      rw [e]
      refine ev_cast (ih (a % b) (Nat.mod_lt _ (by omega)) b) ?_
      rw [Nat.gcd_comm b, ← Nat.gcd_rec, Nat.gcd_comm]
theorem divisor_ev (a b : Int) (ha : 0 ≤ a) (hb : 0 ≤ b) : Ev (fun k => impl_divisor.f k a b) ((Nat.gcd a.toNat b.toNat : Nat) : Int) := by
  unfold impl_divisor.f
  have := divisor_l0 b.toNat a.toNat
  rwa [Int.toNat_of_nonneg ha, Int.toNat_of_nonneg hb] at this
/-- A quotient in lowest terms. -/
def fr (n d : Int) : Int × Int := (n / ((Nat.gcd n.toNat d.toNat : Nat) : Int), d / ((Nat.gcd n.toNat d.toNat : Nat) : Int))
theorem gcd_fr_pos {n d : Int} (hd : 0 < d) : 0 < ((Nat.gcd n.toNat d.toNat : Nat) : Int) := by
  have := Nat.gcd_pos_of_pos_right n.toNat (show 0 < d.toNat by omega)
  omega
theorem fr_in {n d : Int} (hn : 0 ≤ n) (hd : 0 < d) : 0 ≤ (fr n d).1 ∧ (fr n d).1 ≤ n ∧ 0 < (fr n d).2 ∧ (fr n d).2 ≤ d := by
  have hg := gcd_fr_pos (n := n) hd
  have hdv : ((Nat.gcd n.toNat d.toNat : Nat) : Int) ∣ d := by
    have h := Nat.gcd_dvd_right n.toNat d.toNat
    have h2 := Int.natCast_dvd_natCast.2 h
    rwa [Int.toNat_of_nonneg (by omega)] at h2
  refine ⟨Int.ediv_nonneg hn (by omega), Int.ediv_le_self _ hn, ?_, Int.ediv_le_self _ (by omega)⟩
  exact Int.ediv_pos_of_pos_of_dvd hd (by omega) hdv
theorem cut_ev (n d : Int) (hn : 0 ≤ n) (hn2 : n ≤ 9223372036854775807) (hd : 0 < d) (hd2 : d ≤ 9223372036854775807) : Ev (fun k => spec_l8Cut.f k n d) (fr n d) := by
  have hg := gcd_fr_pos (n := n) hd
  have h1 := fr_in hn hd
  unfold spec_l8Cut.f
  refine ev_bind (gcd_ev n d hn (by omega)) (ev_neg (by omega) (ev_cast (ev_some _) ?_))
  unfold fr at h1 ⊢
  simp only at h1
  rw [Int.tdiv_eq_ediv_of_nonneg hn, Int.tdiv_eq_ediv_of_nonneg (by omega), wid (by omega) (by omega), wid (by omega) (by omega)]
theorem fraction_ev (n d : Int) (hn : 0 ≤ n) (hn2 : n ≤ 9223372036854775807) (hd : 0 < d) (hd2 : d ≤ 9223372036854775807) : Ev (fun k => impl_fraction.f k n d) (fr n d) := by
  have hg := gcd_fr_pos (n := n) hd
  have h1 := fr_in hn hd
  unfold impl_fraction.f
  refine ev_bind (divisor_ev n d hn (by omega)) (ev_neg (by omega) (ev_cast (ev_some _) ?_))
  unfold fr at h1 ⊢
  simp only at h1
  rw [Int.tdiv_eq_ediv_of_nonneg hn, Int.tdiv_eq_ediv_of_nonneg (by omega), wid (by omega) (by omega), wid (by omega) (by omega)]
/-- The sum of two quotients. -/
def addf (x y : Int × Int) : Int × Int := fr (x.1 * y.2 + y.1 * x.2) (x.2 * y.2)
/-- A quotient of at most B, its lower part at most D. -/
def Fr (B D : Int) (x : Int × Int) : Prop := 0 ≤ x.1 ∧ x.1 ≤ B * x.2 ∧ 0 < x.2 ∧ x.2 ≤ D
theorem fr_fr {n d B D : Int} (hn : 0 ≤ n) (hb : n ≤ B * d) (hd : 0 < d) (hD : d ≤ D) : Fr B D (fr n d) := by
  have h := fr_in hn hd
  have hg := gcd_fr_pos (n := n) hd
  refine ⟨h.1, ?_, h.2.2.1, by omega⟩
  have h1 : ((Nat.gcd n.toNat d.toNat : Nat) : Int) ∣ d := by
    have h := Nat.gcd_dvd_right n.toNat d.toNat
    have h2 := Int.natCast_dvd_natCast.2 h
    rwa [Int.toNat_of_nonneg (by omega)] at h2
  unfold fr
  simp only
  refine Int.ediv_le_of_le_mul hg ?_
  rw [Int.mul_assoc, Int.ediv_mul_cancel h1]
  exact hb
theorem fr_scale (n d m : Int) (hn : 0 ≤ n) (hd : 0 < d) (hm : 0 < m) : fr (n * m) (d * m) = fr n d := by
  obtain ⟨N, rfl⟩ := Int.eq_ofNat_of_zero_le hn
  obtain ⟨M, rfl⟩ := Int.eq_ofNat_of_zero_le (show 0 ≤ m by omega)
  obtain ⟨D, rfl⟩ := Int.eq_ofNat_of_zero_le (show 0 ≤ d by omega)
  have e1 : ((N : Int) * (M : Int)) = ((N * M : Nat) : Int) := by simp
  have e2 : ((D : Int) * (M : Int)) = ((D * M : Nat) : Int) := by simp
  unfold fr
  rw [e1, e2]
  simp only [Int.toNat_natCast]
  rw [Nat.gcd_mul_right, Prod.mk.injEq]
  refine ⟨?_, ?_⟩
  · rw [Int.natCast_mul, Int.natCast_mul, Int.mul_ediv_mul_of_pos_left _ _ hm]
  · rw [Int.natCast_mul, Int.natCast_mul, Int.mul_ediv_mul_of_pos_left _ _ hm]
/-- What is needed of the parts of a sum. -/
theorem addf_parts {B B' D D' : Int} {x y : Int × Int} (hx : Fr B D x) (hy : Fr B' D' y) (hB : 0 ≤ B) (hB' : 0 ≤ B') :
    0 ≤ x.1 * y.2 ∧ 0 ≤ y.1 * x.2 ∧ x.1 * y.2 + y.1 * x.2 ≤ (B + B') * (x.2 * y.2) ∧ 0 < x.2 * y.2 ∧ x.2 * y.2 ≤ D * D' ∧ (B + B') * (x.2 * y.2) ≤ (B + B') * (D * D') := by
  obtain ⟨a1, a2, a3, a4⟩ := hx
  obtain ⟨b1, b2, b3, b4⟩ := hy
  have q0 : 0 < x.2 * y.2 := Int.mul_pos a3 b3
  have q1 : x.2 * y.2 ≤ D * D' := Int.mul_le_mul a4 b4 (by omega) (by omega)
  have n1 : x.1 * y.2 ≤ B * x.2 * y.2 := Int.mul_le_mul_of_nonneg_right a2 (by omega)
  have n2 : y.1 * x.2 ≤ B' * y.2 * x.2 := Int.mul_le_mul_of_nonneg_right b2 (by omega)
  refine ⟨Int.mul_nonneg a1 (by omega), Int.mul_nonneg b1 (by omega), ?_, q0, q1, Int.mul_le_mul_of_nonneg_left q1 (by omega)⟩
  rw [Int.add_mul]
  rw [Int.mul_assoc] at n1 n2
  rw [Int.mul_comm y.2 x.2] at n2
  omega
theorem addf_fr {B B' D D' : Int} {x y : Int × Int} (hx : Fr B D x) (hy : Fr B' D' y) (hB : 0 ≤ B) (hB' : 0 ≤ B') : Fr (B + B') (D * D') (addf x y) := by
  obtain ⟨h1, h2, h3, h4, h5, h6⟩ := addf_parts hx hy hB hB'
  exact fr_fr (by omega) h3 h4 h5
theorem add_ev {B B' D D' : Int} {x y : Int × Int} (hx : Fr B D x) (hy : Fr B' D' y) (hB : 0 ≤ B) (hB' : 0 ≤ B') (hs : (B + B') * (D * D') ≤ 9223372036854775807) (hd : D * D' ≤ 9223372036854775807) :
    Ev (fun k => spec_l8Add.f k x.1 x.2 y.1 y.2) (addf x y) := by
  obtain ⟨h1, h2, h3, h4, h5, h6⟩ := addf_parts hx hy hB hB'
  obtain ⟨p, q⟩ := x
  obtain ⟨u, v⟩ := y
  obtain ⟨a1, a2, a3, a4⟩ := hx
  obtain ⟨b1, b2, b3, b4⟩ := hy
  simp only at *
  have hg : 0 < ((Nat.gcd q.toNat v.toNat : Nat) : Int) := gcd_fr_pos (n := q) b3
  have dq : ((Nat.gcd q.toNat v.toNat : Nat) : Int) ∣ q := by
    have h2 := Int.natCast_dvd_natCast.2 (Nat.gcd_dvd_left q.toNat v.toNat)
    rwa [Int.toNat_of_nonneg (by omega)] at h2
  have dv : ((Nat.gcd q.toNat v.toNat : Nat) : Int) ∣ v := by
    have h2 := Int.natCast_dvd_natCast.2 (Nat.gcd_dvd_right q.toNat v.toNat)
    rwa [Int.toNat_of_nonneg (by omega)] at h2
  unfold spec_l8Add.f addf
  refine ev_bind (gcd_ev q v (by omega) (by omega)) (ev_neg (by omega) ?_)
  generalize ((Nat.gcd q.toNat v.toNat : Nat) : Int) = g at hg dq dv
  obtain ⟨q', rfl⟩ := dq
  obtain ⟨v', rfl⟩ := dv
  have q'0 : 0 < q' := by
    rcases Int.lt_trichotomy q' 0 with h | h | h
    · have := Int.mul_neg_of_pos_of_neg hg h; omega
    · rw [h, Int.mul_zero] at a3; omega
    · exact h
  have v'0 : 0 < v' := by
    rcases Int.lt_trichotomy v' 0 with h | h | h
    · have := Int.mul_neg_of_pos_of_neg hg h; omega
    · rw [h, Int.mul_zero] at b3; omega
    · exact h
  have e1 : Int.tdiv (g * v') g = v' := by rw [Int.tdiv_eq_ediv_of_nonneg (by omega), Int.mul_ediv_cancel_left _ (by omega)]
  have e2 : Int.tdiv (g * q') g = q' := by rw [Int.tdiv_eq_ediv_of_nonneg (by omega), Int.mul_ediv_cancel_left _ (by omega)]
  have k1 : v' ≤ g * v' := by have := Int.mul_le_mul_of_nonneg_right (show 1 ≤ g by omega) (show 0 ≤ v' by omega); omega
  have k2 : q' ≤ g * q' := by have := Int.mul_le_mul_of_nonneg_right (show 1 ≤ g by omega) (show 0 ≤ q' by omega); omega
  have hq : g * q' ≤ 9223372036854775807 := by
    have := Int.mul_le_mul_of_nonneg_left (show 1 ≤ g * v' by omega) (show 0 ≤ g * q' by omega)
    omega
  have hv : g * v' ≤ 9223372036854775807 := by
    have := Int.mul_le_mul_of_nonneg_right (show 1 ≤ g * q' by omega) (show 0 ≤ g * v' by omega)
    omega
  have m1 : 0 ≤ p * v' := Int.mul_nonneg a1 (by omega)
  have m2 : 0 ≤ u * q' := Int.mul_nonneg b1 (by omega)
  have m3 : p * v' ≤ p * (g * v') := Int.mul_le_mul_of_nonneg_left k1 a1
  have m4 : u * q' ≤ u * (g * q') := Int.mul_le_mul_of_nonneg_left k2 b1
  have m5 : q' * (g * v') ≤ g * q' * (g * v') := Int.mul_le_mul_of_nonneg_right k2 (by omega)
  have m6 : 0 < q' * (g * v') := Int.mul_pos q'0 b3
  rw [e1, e2, wid (x := v') (by omega) (by omega), wid (x := q') (by omega) (by omega), wid (x := p * v') (by omega) (by omega), wid (x := u * q') (by omega) (by omega), wid (x := q' * (g * v')) (by omega) (by omega), wid (by omega) (by omega)]
  refine ev_bind (cut_ev _ _ (by omega) (by omega) m6 (by omega)) (ev_cast (ev_some _) ?_)
  show fr (p * v' + u * q') (q' * (g * v')) = fr (p * (g * v') + u * (g * q')) (g * q' * (g * v'))
  rw [← fr_scale (p * v' + u * q') (q' * (g * v')) g (by omega) m6 hg]
  congr 1
  · rw [Int.add_mul, Int.mul_assoc, Int.mul_assoc, Int.mul_comm v' g, Int.mul_comm q' g]
  · rw [Int.mul_comm (q' * (g * v')) g, ← Int.mul_assoc]
theorem plus_ev {B B' D D' : Int} {x y : Int × Int} (hx : Fr B D x) (hy : Fr B' D' y) (hB : 0 ≤ B) (hB' : 0 ≤ B') (hs : (B + B') * (D * D') ≤ 9223372036854775807) (hd : D * D' ≤ 9223372036854775807) :
    Ev (fun k => impl_plus.f k x.1 x.2 y.1 y.2) (addf x y) := by
  obtain ⟨h1, h2, h3, h4, h5, h6⟩ := addf_parts hx hy hB hB'
  unfold impl_plus.f addf
  rw [wid (x := x.1 * y.2) (by omega) (by omega), wid (x := y.1 * x.2) (by omega) (by omega), wid (x := x.2 * y.2) (by omega) (by omega), wid (by omega) (by omega)]
  exact ev_bind (fraction_ev _ _ (by omega) (by omega) h4 (by omega)) (ev_some _)
/-- What a valid item is. -/
def ItemOk (a b c d e : Int) : Prop := (1 ≤ a ∧ a ≤ 20) ∧ (1 ≤ b ∧ b ≤ 99) ∧ (1 ≤ c ∧ c ≤ 9) ∧ (a + 1 ≤ d ∧ d ≤ 40) ∧ (0 ≤ e ∧ e ≤ 9)
instance (a b c d e : Int) : Decidable (ItemOk a b c d e) := by unfold ItemOk; infer_instance
theorem specItem_eq (a b c d e : Int) : spec_l8Item.f a b c d e = some (decide (ItemOk a b c d e)) := by
  unfold spec_l8Item.f ItemOk
  simp only [in_eq, Option.bind_some]
  by_cases h1 : 1 ≤ a ∧ a ≤ 20
  · rw [show wrap64 (a + 1) = a + 1 from wid (by omega) (by omega)]
    by_cases h2 : 1 ≤ b ∧ b ≤ 99 <;> by_cases h3 : 1 ≤ c ∧ c ≤ 9 <;> by_cases h4 : a + 1 ≤ d ∧ d ≤ 40 <;> simp [h1, h2, h3, h4]
  · simp [h1]
theorem implItem_eq (a b c d e : Int) : impl_IsItem.f a b c d e = some (decide (ItemOk a b c d e)) := by
  unfold impl_IsItem.f ItemOk
  simp only [within_eq, Option.bind_some]
  by_cases h1 : 1 ≤ a ∧ a ≤ 20
  · rw [show wrap64 (a + 1) = a + 1 from wid (by omega) (by omega)]
    by_cases h2 : 1 ≤ b ∧ b ≤ 99 <;> by_cases h3 : 1 ≤ c ∧ c ≤ 9 <;> by_cases h4 : a + 1 ≤ d ∧ d ≤ 40 <;> simp [h1, h2, h3, h4]
  · simp [h1]
/-- The daily cost of an item. -/
def dcost (a b c cycle : Int) : Int × Int := fr (2 * b + c * a * cycle * cycle) (2 * cycle)
theorem daily_in {a b c d e cycle : Int} (h : ItemOk a b c d e) (h1 : 1 ≤ cycle) (h2 : cycle ≤ 256) :
    wrap64 ((wrap64 (2 * b)) + (wrap64 ((wrap64 ((wrap64 (c * a)) * cycle)) * cycle))) = 2 * b + c * a * cycle * cycle ∧ wrap64 (2 * cycle) = 2 * cycle ∧ 0 ≤ 2 * b + c * a * cycle * cycle ∧ 2 * b + c * a * cycle * cycle ≤ 12000000 := by
  obtain ⟨ha, hb, hc, _, _⟩ := h
  have m1 := mulb (a := c) (b := a) (A := 9) (B := 20) (by omega) (by omega) (by omega) (by omega)
  have m2 := mulb (a := c * a) (b := cycle) (A := 180) (B := 256) (by omega) (by omega) (by omega) (by omega)
  have m3 := mulb (a := c * a * cycle) (b := cycle) (A := 46080) (B := 256) (by omega) (by omega) (by omega) (by omega)
  rw [wid (x := c * a) (by omega) (by omega), wid (x := c * a * cycle) (by omega) (by omega), wid (x := c * a * cycle * cycle) (by omega) (by omega), wid (x := 2 * b) (by omega) (by omega), wid (by omega) (by omega), wid (by omega) (by omega)]
  exact ⟨rfl, rfl, by omega, by omega⟩
theorem specDaily_ev (a b c d e cycle : Int) (h : ItemOk a b c d e) (h1 : 1 ≤ cycle) (h2 : cycle ≤ 256) : Ev (fun k => spec_l8Daily.f k a b c d e cycle) (dcost a b c cycle) := by
  obtain ⟨e1, e2, e3, e4⟩ := daily_in h h1 h2
  unfold spec_l8Daily.f dcost
  rw [e1, e2]
  exact ev_bind (cut_ev _ _ e3 (by omega) (by omega) (by omega)) (ev_some _)
theorem implDaily_ev (a b c d e cycle : Int) (h : ItemOk a b c d e) (h1 : 1 ≤ cycle) (h2 : cycle ≤ 256) : Ev (fun k => impl_Item_daily.f k a b c d e cycle) (dcost a b c cycle) := by
  obtain ⟨e1, e2, e3, e4⟩ := daily_in h h1 h2
  unfold impl_Item_daily.f dcost
  rw [e1, e2]
  exact ev_bind (fraction_ev _ _ e3 (by omega) (by omega) (by omega)) (ev_some _)
/-- A cost of moderate size; the order of costs; the first number with the least cost. -/
def Mod (x : Int × Int) : Prop := 0 ≤ x.1 ∧ x.1 ≤ 30000000000 ∧ 0 < x.2 ∧ x.2 ≤ 300000
def ltF (x y : Int × Int) : Bool := decide (x.1 * y.2 < y.1 * x.2)
def bestF (D : Int → Int × Int) : Int → List Int → Int
  | b, [] => b
  | b, n :: ns => bestF D (if ltF (D n) (D b) = true then n else b) ns
theorem mod_mul {x y : Int × Int} (hx : Mod x) (hy : Mod y) : wrap64 (x.1 * y.2) = x.1 * y.2 := by
  obtain ⟨a1, a2, a3, a4⟩ := hx
  obtain ⟨b1, b2, b3, b4⟩ := hy
  have := mulb a1 a2 (show 0 ≤ y.2 by omega) b4
  exact wid (by omega) (by omega)
theorem implLess_eq {x y : Int × Int} (hx : Mod x) (hy : Mod y) : impl_less.f x.1 x.2 y.1 y.2 = some (ltF x y) := by
  unfold impl_less.f ltF
  rw [mod_mul hx hy, mod_mul hy hx]
theorem specLess_eq {x y : Int × Int} (hx : Mod x) (hy : Mod y) : spec_l8Less.f x.1 x.2 y.1 y.2 = some (ltF x y) := by
  unfold spec_l8Less.f ltF
  rw [mod_mul hx hy, mod_mul hy hx]
theorem ev_shift {α : Type} {g : Nat → Option α} {r : α} (h : Ev g r) : Ev (fun k => g (k + 1)) r := by
  obtain ⟨n, h⟩ := h
  exact ⟨n, fun k hk => h (k + 1) (by omega)⟩
theorem cheapest_l0 {S : Int → Prop} {D : Int → Int × Int} (hD : ∀ n, S n → Mod (D n)) (xs : List Int) (hS : ∀ x ∈ xs, S x) (hl : xs.length ≤ 1000000) (d : Nat) : ∀ (G : Nat → Int → Option (Int × Int)), (∀ n, S n → Ev (fun k => G k n) (D n)) → ∀ (i : Nat) (b : Int), S b → i + d = xs.length →
    Ev (fun k => impl_cheapest.l0 (G k) k b xs (xs.length : Int) (i : Int)) (bestF D b (xs.drop i)) := by
  induction d with
  | zero =>
    intro G hG i b hb hi
    refine ev_succ ?_
    simp only [impl_cheapest.l0]
    refine ev_neg (by omega) ?_
    rw [List.drop_of_length_le (by omega)]
    exact ev_some _
  | succ d ih =>
    intro G hG i b hb hi
    have hx : S (rd xs (i : Int)) := by rw [rd_nat xs i (by omega)]; exact hS _ (List.getElem_mem _)
    have hw : wrap64 ((i : Int) + 1) = ((i + 1 : Nat) : Int) := by rw [wid (by omega) (by omega)]; omega
    refine ev_succ ?_
    simp only [impl_cheapest.l0]
    rw [hw, drop_rd xs i (by omega)]
    refine ev_pos (by omega) (ev_pos (by omega) (ev_pos (by omega) ?_))
    refine ev_bind (ev_shift (hG _ hx)) (ev_bind (ev_shift (hG _ hb)) ?_)
    rw [implLess_eq (hD _ hx) (hD _ hb)]
    simp only [Option.bind_some, bestF]
    by_cases h : ltF (D (rd xs (i : Int))) (D b) = true
    · rw [if_pos h]
      exact ev_pos h (ih (fun k => G (k + 1)) (fun n hn => ev_shift (hG n hn)) (i + 1) _ hx (by omega))
    · rw [if_neg h]
      exact ev_neg h (ih (fun k => G (k + 1)) (fun n hn => ev_shift (hG n hn)) (i + 1) _ hb (by omega))
theorem cheapest_ev {S : Int → Prop} {D : Int → Int × Int} (hD : ∀ n, S n → Mod (D n)) (x : Int) (xs : List Int) (hS : ∀ y ∈ x :: xs, S y) (hl : xs.length ≤ 1000000) (G : Nat → Int → Option (Int × Int)) (hG : ∀ n, S n → Ev (fun k => G k n) (D n)) :
    Ev (fun k => impl_cheapest.f k (x :: xs) (G k)) (bestF D x xs) := by
  unfold impl_cheapest.f
  refine ev_pos (by simp only [List.length_cons]; omega) (ev_pos (by simp only [List.length_cons]; omega) ?_)
  exact cheapest_l0 hD xs (fun y hy => hS y (List.mem_cons_of_mem _ hy)) hl xs.length G hG 0 x (hS x (by simp)) (by omega)
theorem dcost_mod {a b c d e cycle : Int} (h : ItemOk a b c d e) (h1 : 1 ≤ cycle) (h2 : cycle ≤ 256) : Mod (dcost a b c cycle) := by
  obtain ⟨_, _, e3, e4⟩ := daily_in h h1 h2
  have := fr_in e3 (show 0 < 2 * cycle by omega)
  unfold dcost Mod
  omega
/-- d numbers from c on. -/
def upSeq : Nat → Int → List Int
  | 0, _ => []
  | d + 1, c => c :: upSeq d (c + 1)
theorem upSeq_in (d : Nat) : ∀ c x, x ∈ upSeq d c → c ≤ x ∧ x < c + d := by
  induction d with
  | zero => intro c x h; simp [upSeq] at h
  | succ d ih =>
    intro c x h
    simp only [upSeq, List.mem_cons] at h
    rcases h with h | h
    · omega
    · have := ih _ _ h; omega
theorem upSeq_len (d : Nat) : ∀ c, (upSeq d c).length = d := by
  induction d with
  | zero => intro c; rfl
  | succ d ih => intro c; simp [upSeq, ih]
theorem upFrom_l0 (n : Int) (hn : n ≤ 1000000) (d : Nat) : ∀ (i : Int) (xs : List Int), 0 ≤ i → i + d = n → (xs.length : Int) = i → Ev (fun k => impl_upFrom.l0 k xs n i) (xs ++ upSeq d (i + 1)) := by
  induction d with
  | zero =>
    intro i xs h0 hi hx
    refine ev_succ ?_
    simp only [impl_upFrom.l0, upSeq, List.append_nil]
    exact ev_neg (by omega) (ev_some _)
  | succ d ih =>
    intro i xs h0 hi hx
    have hw : wrap64 (i + 1) = i + 1 := wid (by omega) (by omega)
    refine ev_succ ?_
    simp only [impl_upFrom.l0]
    rw [hw]
    refine ev_pos (by omega) (ev_pos (by omega) (ev_cast (ih (i + 1) _ (by omega) (by omega) (by simp; omega)) ?_))
    simp [upSeq]
theorem upFrom_ev (d : Nat) (hd : d ≤ 1000000) : Ev (fun k => impl_upFrom.f k (d : Int)) (upSeq d 1) := by
  unfold impl_upFrom.f
  exact ev_cast (upFrom_l0 (d : Int) (by omega) d 0 [] (by omega) (by omega) (by simp)) (by simp)
/-- What a family is. -/
def ItOk (x : S42) : Prop := ItemOk x.f0 x.f1 x.f2 x.f3 x.f4
instance (x : S42) : Decidable (ItOk x) := by unfold ItOk; infer_instance
def FamOk (l : List S42) : Prop := (∀ x ∈ l, ItOk x) ∧ 1 ≤ (l.length : Int) ∧ (l.length : Int) ≤ 4
instance (l : List S42) : Decidable (FamOk l) := by unfold FamOk; infer_instance
theorem rd2_nat (xs : List S42) (i : Nat) (h : i < xs.length) : rd_T42 xs (i : Int) = xs[i] := by
  unfold rd_T42
  simp [List.getD_eq_getElem?_getD, h]
theorem rd1_nat (xs : List S42) (i : Nat) (h : i < xs.length) : rd_T42 xs (i : Int) = xs[i] := by
  unfold rd_T42
  simp [List.getD_eq_getElem?_getD, h]
theorem drop_rd2 (xs : List S42) (i : Nat) (h : i < xs.length) : xs.drop i = rd_T42 xs (i : Int) :: xs.drop (i + 1) := by
  rw [rd2_nat xs i h]
  exact List.drop_eq_getElem_cons h
theorem specFamily_l0 (xs : List S42) (hn : xs.length ≤ 35184372088832) (d : Nat) : ∀ (i : Nat), i + d = xs.length →
    Ev (fun k => spec_l8Family.l0 k xs (i : Int)) (decide ((∀ x ∈ xs.drop i, ItOk x) ∧ 1 ≤ (xs.length : Int) ∧ (xs.length : Int) ≤ 4)) := by
  induction d with
  | zero =>
    intro i hi
    refine ev_succ ?_
    simp only [spec_l8Family.l0, in_eq, Option.bind_some]
    refine ev_neg (by omega) (ev_dec (ev_some _) ?_)
    rw [List.drop_of_length_le (by omega)]
    simp
  | succ d ih =>
    intro i hi
    refine ev_succ ?_
    simp only [spec_l8Family.l0, specItem_eq, Option.bind_some]
    refine ev_pos (by omega) (ev_pos (by omega) ?_)
    have hw : wrap64 ((i : Int) + 1) = ((i + 1 : Nat) : Int) := by rw [wid (by omega) (by omega)]; omega
    rw [hw, drop_rd2 xs i (by omega)]
    by_cases h : ItOk (rd_T42 xs (i : Int))
    · refine ev_pos (decide_eq_true h) (ev_cast (ih (i + 1) (by omega)) ?_)
      simp [h]
    · exact ev_neg (by rw [decide_eq_true_eq]; exact h) (ev_false fun hh => h (hh.1 _ (by simp)))
theorem specFamily_ev (xs : List S42) (hn : xs.length ≤ 35184372088832) : Ev (fun k => spec_l8Family.f k xs) (decide (FamOk xs)) := by
  unfold spec_l8Family.f FamOk
  exact specFamily_l0 xs hn xs.length 0 (by omega)
theorem implFamily_l0 (xs : List S42) (hn : xs.length ≤ 35184372088832) (d : Nat) : ∀ (i : Nat), i + d = xs.length →
    Ev (fun k => impl_isFamily.l0 k xs xs (xs.length : Int) (i : Int)) (decide ((∀ x ∈ xs.drop i, ItOk x) ∧ 1 ≤ (xs.length : Int) ∧ (xs.length : Int) ≤ 4)) := by
  induction d with
  | zero =>
    intro i hi
    refine ev_succ ?_
    simp only [impl_isFamily.l0, within_eq, Option.bind_some]
    refine ev_neg (by omega) (ev_dec (ev_some _) ?_)
    rw [List.drop_of_length_le (by omega)]
    simp
  | succ d ih =>
    intro i hi
    refine ev_succ ?_
    simp only [impl_isFamily.l0, implItem_eq, Option.bind_some]
    refine ev_pos (by omega) (ev_pos (by omega) (ev_pos (by omega) ?_))
    have hw : wrap64 ((i : Int) + 1) = ((i + 1 : Nat) : Int) := by rw [wid (by omega) (by omega)]; omega
    rw [hw, drop_rd2 xs i (by omega)]
    by_cases h : ItOk (rd_T42 xs (i : Int))
    · refine ev_pos (decide_eq_true h) (ev_cast (ih (i + 1) (by omega)) ?_)
      simp [h]
    · exact ev_neg (by rw [decide_eq_true_eq]; exact h) (ev_false fun hh => h (hh.1 _ (by simp)))
theorem implFamily_ev (xs : List S42) (hn : xs.length ≤ 35184372088832) : Ev (fun k => impl_isFamily.f k xs) (decide (FamOk xs)) := by
  unfold impl_isFamily.f FamOk
  exact implFamily_l0 xs hn xs.length 0 (by omega)
theorem fam_at {xs : List S42} (h : FamOk xs) (i : Nat) (hi : i < xs.length) : ItOk (rd_T42 xs (i : Int)) := by
  rw [rd2_nat xs i hi]
  exact h.1 _ (List.getElem_mem _)
/-- The factors of a family. -/
def FacOk (xs : List S42) (fs : List Int) : Prop := (fs.length : Int) = (xs.length : Int) ∧ ∀ x ∈ fs, 1 ≤ x ∧ x ≤ 8
instance (xs : List S42) (fs : List Int) : Decidable (FacOk xs fs) := by unfold FacOk; infer_instance
def jointF (xs : List S42) (base : Int) (fs : List Int) : Nat → Nat → Int × Int → Int × Int
  | 0, _, s => s
  | d + 1, i, s => jointF xs base fs d (i + 1) (addf s (dcost (rd_T42 xs (i : Int)).f0 (rd_T42 xs (i : Int)).f1 (rd_T42 xs (i : Int)).f2 (base * rd fs (i : Int))))
theorem dcost_fr {a b c d e C : Int} (h : ItemOk a b c d e) (h1 : 1 ≤ C) (h2 : C ≤ 256) : Fr 24000 512 (dcost a b c C) := by
  obtain ⟨_, _, e3, e4⟩ := daily_in h h1 h2
  obtain ⟨ha, hb, hc, _, _⟩ := h
  have m1 := mulb (a := c) (b := a) (A := 9) (B := 20) (by omega) (by omega) (by omega) (by omega)
  have m2 := mulb (a := c * a) (b := C) (A := 180) (B := 256) m1.1 m1.2 (by omega) h2
  have m3 : c * a * C * C ≤ 180 * 256 * C := Int.mul_le_mul_of_nonneg_right m2.2 (by omega)
  exact fr_fr e3 (by omega) (by omega) (by omega)
theorem pow512 (i : Nat) (h : i ≤ 3) : (0 : Int) ≤ 32 * 512 ^ i * 512 ∧ (32 : Int) * 512 ^ i * 512 ≤ 2199023255552 ∧ (32 : Int) * 512 ^ i * 512 = 32 * 512 ^ (i + 1) := by
  refine ⟨?_, ?_, by rw [Int.mul_assoc, ← Int.pow_succ]⟩
  · match i, h with
    | 0, _ => decide
    | 1, _ => decide
    | 2, _ => decide
    | 3, _ => decide
  · match i, h with
    | 0, _ => decide
    | 1, _ => decide
    | 2, _ => decide
    | 3, _ => decide
theorem joint_step {xs : List S42} (hf : FamOk xs) {base : Int} (h1 : 1 ≤ base) (h2 : base ≤ 32) {fs : List Int} (hc : FacOk xs fs) (i : Nat) (hi : i < xs.length) {s : Int × Int} (hs : Fr (99 + 24000 * (i : Int)) (32 * 512 ^ i) s) :
    (wrap64 (base * rd fs (i : Int)) = base * rd fs (i : Int) ∧ 1 ≤ base * rd fs (i : Int) ∧ base * rd fs (i : Int) ≤ 256) ∧
    Fr 24000 512 (dcost (rd_T42 xs (i : Int)).f0 (rd_T42 xs (i : Int)).f1 (rd_T42 xs (i : Int)).f2 (base * rd fs (i : Int))) ∧
    Fr (99 + 24000 * ((i + 1 : Nat) : Int)) (32 * 512 ^ (i + 1)) (addf s (dcost (rd_T42 xs (i : Int)).f0 (rd_T42 xs (i : Int)).f1 (rd_T42 xs (i : Int)).f2 (base * rd fs (i : Int)))) ∧
    (99 + 24000 * (i : Int) + 24000) * (32 * 512 ^ i * 512) ≤ 9223372036854775807 ∧ (32 : Int) * 512 ^ i * 512 ≤ 9223372036854775807 := by
  have h4 := hf.2.2
  have hl := hc.1
  have hi2 : i < fs.length := by omega
  have hr : 1 ≤ rd fs (i : Int) ∧ rd fs (i : Int) ≤ 8 := by
    rw [rd_nat fs i hi2]
    exact hc.2 _ (List.getElem_mem _)
  have m1 := mulb (a := base) (b := rd fs (i : Int)) (A := 32) (B := 8) (by omega) h2 (by omega) hr.2
  have m2 : 1 ≤ base * rd fs (i : Int) := by
    have := Int.mul_pos (show 0 < base by omega) (show 0 < rd fs (i : Int) by omega)
    omega
  have m3 : base * rd fs (i : Int) ≤ 256 := by omega
  have q0 : 0 ≤ 99 + 24000 * (i : Int) := by omega
  have q1 : 99 + 24000 * (i : Int) + 24000 ≤ 96099 := by omega
  have q2 : 99 + 24000 * (i : Int) + 24000 = 99 + 24000 * ((i + 1 : Nat) : Int) := by omega
  have hn := dcost_fr (fam_at hf i hi) m2 m3
  obtain ⟨p0, p1, p2⟩ := pow512 i (by omega)
  have ha := addf_fr hs hn q0 (by decide)
  refine ⟨⟨wid (by omega) (by omega), m2, m3⟩, hn, ?_, Int.le_trans (Int.mul_le_mul q1 p1 p0 (by decide)) (by decide), Int.le_trans p1 (by decide)⟩
  rw [p2, q2] at ha
  exact ha
theorem specJoint_l0 {xs : List S42} (hf : FamOk xs) {base : Int} (h1 : 1 ≤ base) (h2 : base ≤ 32) {fs : List Int} (hc : FacOk xs fs) (d : Nat) : ∀ (i : Nat) (s : Int × Int), i + d = xs.length → Fr (99 + 24000 * (i : Int)) (32 * 512 ^ i) s →
    Ev (fun k => spec_l8Joint.l0 k xs base fs (i : Int) s.1 s.2) (jointF xs base fs d i s) := by
  have h4 := hf.2.2
  have hl := hc.1
  induction d with
  | zero =>
    intro i s hi hs
    refine ev_succ ?_
    simp only [spec_l8Joint.l0, jointF]
    exact ev_neg (by omega) (ev_some _)
  | succ d ih =>
    intro i s hi hs
    have q1 : (i : Int) < (xs.length : Int) := by omega
    have q2 : 0 ≤ (i : Int) := by omega
    have q3 : (i : Int) < (fs.length : Int) := by omega
    have q4 : i < xs.length := by omega
    have q5 : i + 1 + d = xs.length := by omega
    have q6 : 0 ≤ 99 + 24000 * (i : Int) := by omega
    have hw : wrap64 ((i : Int) + 1) = ((i + 1 : Nat) : Int) := by rw [wid (by omega) (by omega)]; omega
    obtain ⟨⟨w1, w2, w3⟩, g1, g2, g3, g4⟩ := joint_step hf h1 h2 hc i q4 hs
    refine ev_succ ?_
    simp only [spec_l8Joint.l0]
    rw [hw, w1]
    have e1 := specDaily_ev _ _ _ _ _ _ (fam_at hf i q4) w2 w3
    have e2 := add_ev hs g1 q6 (by decide) g3 g4
    have e3 := ih (i + 1) _ q5 g2
    exact ev_pos q1 (ev_pos q2 (ev_pos q3 (ev_bind e1 (ev_bind e2 e3))))
theorem implJoint_l0 {xs : List S42} (hf : FamOk xs) {base : Int} (h1 : 1 ≤ base) (h2 : base ≤ 32) {fs : List Int} (hc : FacOk xs fs) (d : Nat) : ∀ (i : Nat) (s : Int × Int), i + d = xs.length → Fr (99 + 24000 * (i : Int)) (32 * 512 ^ i) s →
    Ev (fun k => impl_familyCost.l0 k base fs xs (xs.length : Int) (i : Int) s.1 s.2) (jointF xs base fs d i s) := by
  have h4 := hf.2.2
  have hl := hc.1
  induction d with
  | zero =>
    intro i s hi hs
    refine ev_succ ?_
    simp only [impl_familyCost.l0, jointF]
    exact ev_neg (by omega) (ev_some _)
  | succ d ih =>
    intro i s hi hs
    have q1 : (i : Int) < (xs.length : Int) := by omega
    have q2 : 0 ≤ (i : Int) := by omega
    have q3 : (i : Int) < (fs.length : Int) := by omega
    have q4 : i < xs.length := by omega
    have q5 : i + 1 + d = xs.length := by omega
    have q6 : 0 ≤ 99 + 24000 * (i : Int) := by omega
    have hw : wrap64 ((i : Int) + 1) = ((i + 1 : Nat) : Int) := by rw [wid (by omega) (by omega)]; omega
    obtain ⟨⟨w1, w2, w3⟩, g1, g2, g3, g4⟩ := joint_step hf h1 h2 hc i q4 hs
    refine ev_succ ?_
    simp only [impl_familyCost.l0]
    rw [hw, w1]
    have e1 := implDaily_ev _ _ _ _ _ _ (fam_at hf i q4) w2 w3
    have e2 := plus_ev hs g1 q6 (by decide) g3 g4
    have e3 := ih (i + 1) _ q5 g2
    exact ev_pos q1 (ev_pos q2 (ev_pos q1 (ev_pos q3 (ev_bind e1 (ev_bind e2 e3)))))
def jointAll (xs : List S42) (joint base : Int) (fs : List Int) : Int × Int := jointF xs base fs xs.length 0 (fr joint base)
theorem joint0 {joint base : Int} (h0 : 0 ≤ joint) (h1 : joint ≤ 99) (h2 : 1 ≤ base) (h3 : base ≤ 32) : Fr (99 + 24000 * ((0 : Nat) : Int)) (32 * 512 ^ 0) (fr joint base) := fr_fr h0 (by omega) (by omega) (by omega)
theorem specJoint_ev {xs : List S42} (hf : FamOk xs) {joint base : Int} (h0 : 0 ≤ joint) (h9 : joint ≤ 99) (h1 : 1 ≤ base) (h2 : base ≤ 32) {fs : List Int} (hc : FacOk xs fs) : Ev (fun k => spec_l8Joint.f k xs joint base fs) (jointAll xs joint base fs) := by
  unfold spec_l8Joint.f jointAll
  exact ev_bind (cut_ev joint base h0 (by omega) (by omega) (by omega)) (specJoint_l0 hf h1 h2 hc xs.length 0 _ (Nat.zero_add _) (joint0 h0 h9 h1 h2))
theorem implJoint_ev {xs : List S42} (hf : FamOk xs) {joint base : Int} (h0 : 0 ≤ joint) (h9 : joint ≤ 99) (h1 : 1 ≤ base) (h2 : base ≤ 32) {fs : List Int} (hc : FacOk xs fs) : Ev (fun k => impl_familyCost.f k xs joint base fs) (jointAll xs joint base fs) := by
  unfold impl_familyCost.f jointAll
  exact ev_bind (fraction_ev joint base h0 (by omega) (by omega) (by omega)) (implJoint_l0 hf h1 h2 hc xs.length 0 _ (Nat.zero_add _) (joint0 h0 h9 h1 h2))
theorem specFactors_l0 (xs : List S42) (fs : List Int) (hn : fs.length ≤ 35184372088832) (d : Nat) : ∀ (i : Nat), i + d = fs.length →
    Ev (fun k => spec_l8Factors.l0 k xs fs (i : Int)) (decide ((fs.length : Int) = (xs.length : Int) ∧ ∀ x ∈ fs.drop i, 1 ≤ x ∧ x ≤ 8)) := by
  induction d with
  | zero =>
    intro i hi
    refine ev_succ ?_
    simp only [spec_l8Factors.l0]
    refine ev_neg (by omega) (ev_cast (ev_some _) ?_)
    rw [List.drop_of_length_le (by omega), show ((fs.length : Int) == (xs.length : Int)) = decide ((fs.length : Int) = (xs.length : Int)) from by rw [Bool.eq_iff_iff]; simp]
    simp
  | succ d ih =>
    intro i hi
    refine ev_succ ?_
    simp only [spec_l8Factors.l0, in_eq, Option.bind_some]
    refine ev_pos (by omega) (ev_pos (by omega) ?_)
    have hw : wrap64 ((i : Int) + 1) = ((i + 1 : Nat) : Int) := by rw [wid (by omega) (by omega)]; omega
    rw [hw, drop_rd fs i (by omega)]
    by_cases h : 1 ≤ rd fs i ∧ rd fs i ≤ 8
    · refine ev_pos (by simpa using h) (ev_cast (ih (i + 1) (by omega)) ?_)
      simp [h]
    · exact ev_neg (by simpa using h) (ev_false fun hh => h (hh.2 _ (by simp)))
theorem specFactors_ev (xs : List S42) (fs : List Int) (hn : fs.length ≤ 35184372088832) : Ev (fun k => spec_l8Factors.f k xs fs) (decide (FacOk xs fs)) := by
  unfold spec_l8Factors.f FacOk
  exact specFactors_l0 xs fs hn fs.length 0 (by omega)
theorem prod_in {b f : Int} (h1 : 1 ≤ b) (h2 : b ≤ 32) (h3 : 1 ≤ f) (h4 : f ≤ 8) : wrap64 (b * f) = b * f ∧ 1 ≤ b * f ∧ b * f ≤ 256 := by
  have m1 := mulb (a := b) (b := f) (A := 32) (B := 8) (by omega) h2 (by omega) h4
  have m2 := Int.mul_pos (show 0 < b by omega) (show 0 < f by omega)
  exact ⟨wid (by omega) (by omega), by omega, by omega⟩
/-- The cost of an item for a factor; its best factor; the best factors of the first items. -/
def facD (x : S42) (b f : Int) : Int × Int := dcost x.f0 x.f1 x.f2 (b * f)
def bestM (x : S42) (b : Int) : Int := bestF (facD x b) 1 (upSeq 7 2)
def chosen (xs : List S42) (b : Int) (n : Nat) : List Int := (List.range n).map fun i : Nat => bestM (rd_T42 xs (i : Int)) b
theorem chosen_length (xs : List S42) (b : Int) (n : Nat) : (chosen xs b n).length = n := by simp [chosen]
theorem chosen_succ (xs : List S42) (b : Int) (n : Nat) : chosen xs b (n + 1) = chosen xs b n ++ [bestM (rd_T42 xs (n : Int)) b] := by simp [chosen, List.range_succ]
theorem facD_mod {x : S42} (h : ItOk x) {b f : Int} (h1 : 1 ≤ b) (h2 : b ≤ 32) (h3 : 1 ≤ f) (h4 : f ≤ 8) : Mod (facD x b f) := by
  obtain ⟨_, p1, p2⟩ := prod_in h1 h2 h3 h4
  exact dcost_mod h p1 p2
theorem specChosen_l1 {xs : List S42} (hf : FamOk xs) {b : Int} (h1 : 1 ≤ b) (h2 : b ≤ 32) (i : Nat) (hi : i < xs.length) {R : List Int} (m : Nat) : ∀ (x n : Int), 1 ≤ x ∧ x ≤ 8 → 1 ≤ n → n + m = 9 → Ev (fun k => spec_l8Chosen.l0 k xs b (chosen xs b i ++ [bestF (facD (rd_T42 xs (i : Int)) b) x (upSeq m n)]) ((i + 1 : Nat) : Int)) R →
    Ev (fun k => spec_l8Chosen.l1 k xs b (chosen xs b i) (i : Int) x n) R := by
  have h4 := hf.2.2
  have hw : wrap64 ((i : Int) + 1) = ((i + 1 : Nat) : Int) := by rw [wid (by omega) (by omega)]; omega
  have g1 : (i : Int) < (xs.length : Int) := by omega
  have g2 : 0 ≤ (i : Int) := by omega
  have g3 : i < 17592186044416 := by omega
  have hx := fam_at hf i hi
  induction m with
  | zero =>
    intro x n hb hn he hR
    refine ev_succ ?_
    simp only [spec_l8Chosen.l1, chosen_length]
    rw [hw]
    exact ev_neg (by omega) (ev_pos g3 hR)
  | succ m ih =>
    intro x n hb hn he hR
    have q1 : n ≤ 8 := by omega
    have q2 : 1 ≤ n + 1 := by omega
    have q3 : n + 1 + m = 9 := by omega
    obtain ⟨a1, a2, a3⟩ := prod_in h1 h2 hn q1
    obtain ⟨b1, b2, b3⟩ := prod_in h1 h2 hb.1 hb.2
    have m1 := facD_mod hx h1 h2 hn q1
    have m2 := facD_mod hx h1 h2 hb.1 hb.2
    have hw2 : wrap64 (n + 1) = n + 1 := wid (by omega) (by omega)
    refine ev_succ ?_
    simp only [spec_l8Chosen.l1]
    rw [hw2, a1, b1]
    refine ev_pos q1 (ev_pos g2 (ev_pos g1 (ev_bind (specDaily_ev _ _ _ _ _ _ hx a2 a3) (ev_bind (specDaily_ev _ _ _ _ _ _ hx b2 b3) ?_))))
    have e := specLess_eq m1 m2
    unfold facD at e
    rw [e]
    simp only [Option.bind_some]
    simp only [upSeq, bestF] at hR
    by_cases c : ltF (facD (rd_T42 xs (i : Int)) b n) (facD (rd_T42 xs (i : Int)) b x) = true
    · rw [if_pos c] at hR
      exact ev_pos c (ih n (n + 1) ⟨hn, q1⟩ q2 q3 hR)
    · rw [if_neg c] at hR
      exact ev_neg c (ih x (n + 1) hb q2 q3 hR)
theorem specChosen_l0 {xs : List S42} (hf : FamOk xs) {b : Int} (h1 : 1 ≤ b) (h2 : b ≤ 32) (d : Nat) : ∀ i : Nat, i + d = xs.length → Ev (fun k => spec_l8Chosen.l0 k xs b (chosen xs b i) (i : Int)) (chosen xs b xs.length) := by
  induction d with
  | zero =>
    intro i hi
    refine ev_succ ?_
    simp only [spec_l8Chosen.l0]
    refine ev_neg (by omega) (ev_cast (ev_some _) ?_)
    rw [show i = xs.length by omega]
  | succ d ih =>
    intro i hi
    have q := ih (i + 1) (by omega)
    rw [chosen_succ] at q
    refine ev_succ ?_
    simp only [spec_l8Chosen.l0]
    exact ev_pos (by omega) (specChosen_l1 hf h1 h2 i (by omega) 7 1 2 (by decide) (by decide) (by decide) q)
theorem specChosen_ev {xs : List S42} (hf : FamOk xs) {b : Int} (h1 : 1 ≤ b) (h2 : b ≤ 32) : Ev (fun k => spec_l8Chosen.f k xs b) (chosen xs b xs.length) := by
  unfold spec_l8Chosen.f
  exact specChosen_l0 hf h1 h2 xs.length 0 (Nat.zero_add _)
theorem implChosen_l0 {xs : List S42} (hf : FamOk xs) {b : Int} (h1 : 1 ≤ b) (h2 : b ≤ 32) (d : Nat) : ∀ i : Nat, i + d = xs.length → Ev (fun k => impl_bestFactors.l0 k (chosen xs b i) xs (xs.length : Int) (i : Int) b) (chosen xs b xs.length) := by
  have h4 := hf.2.2
  induction d with
  | zero =>
    intro i hi
    refine ev_succ ?_
    simp only [impl_bestFactors.l0]
    refine ev_neg (by omega) (ev_cast (ev_some _) ?_)
    rw [show i = xs.length by omega]
  | succ d ih =>
    intro i hi
    have hw : wrap64 ((i : Int) + 1) = ((i + 1 : Nat) : Int) := by rw [wid (by omega) (by omega)]; omega
    have q := ih (i + 1) (by omega)
    rw [chosen_succ] at q
    have g1 : (i : Int) < (xs.length : Int) := by omega
    have g2 : 0 ≤ (i : Int) := by omega
    have g3 : i < 17592186044416 := by omega
    have hx := fam_at hf i (by omega)
    have hS : ∀ y ∈ (1 : Int) :: upSeq 7 2, 1 ≤ y ∧ y ≤ 8 := by
      intro y hy
      have := upSeq_in 8 1 y hy
      omega
    have hL : (upSeq 7 2).length ≤ 1000000 := by rw [upSeq_len]; decide
    have hG : ∀ n, 1 ≤ n ∧ n ≤ 8 → Ev (fun k => impl_Item_daily.f k (rd_T42 xs (i : Int)).f0 (rd_T42 xs (i : Int)).f1 (rd_T42 xs (i : Int)).f2 (rd_T42 xs (i : Int)).f3 (rd_T42 xs (i : Int)).f4 (wrap64 (b * n))) (facD (rd_T42 xs (i : Int)) b n) := by
      intro n hn
      obtain ⟨a1, a2, a3⟩ := prod_in h1 h2 hn.1 hn.2
      rw [a1]
      exact implDaily_ev _ _ _ _ _ _ hx a2 a3
    refine ev_succ ?_
    simp only [impl_bestFactors.l0, chosen_length]
    rw [hw]
    refine ev_pos g1 (ev_pos g2 (ev_pos g1 (ev_bind (upFrom_ev 8 (by decide)) ?_)))
    exact ev_bind (cheapest_ev (S := fun n => 1 ≤ n ∧ n ≤ 8) (fun n hn => facD_mod hx h1 h2 hn.1 hn.2) 1 (upSeq 7 2) hS hL (fun k n => impl_Item_daily.f k (rd_T42 xs (i : Int)).f0 (rd_T42 xs (i : Int)).f1 (rd_T42 xs (i : Int)).f2 (rd_T42 xs (i : Int)).f3 (rd_T42 xs (i : Int)).f4 (wrap64 (b * n))) hG) (ev_pos g3 q)
theorem implChosen_ev {xs : List S42} (hf : FamOk xs) {b : Int} (h1 : 1 ≤ b) (h2 : b ≤ 32) : Ev (fun k => impl_bestFactors.f k xs b) (chosen xs b xs.length) := by
  unfold impl_bestFactors.f
  exact implChosen_l0 hf h1 h2 xs.length 0 (Nat.zero_add _)
theorem fr_dvd (n : Int) {d : Int} (hd : 0 < d) : (fr n d).2 ∣ d := by
  have h1 : ((Nat.gcd n.toNat d.toNat : Nat) : Int) ∣ d := by
    have h := Nat.gcd_dvd_right n.toNat d.toNat
    have h2 := Int.natCast_dvd_natCast.2 h
    rwa [Int.toNat_of_nonneg (by omega)] at h2
  exact ⟨((Nat.gcd n.toNat d.toNat : Nat) : Int), (Int.ediv_mul_cancel h1).symm⟩
/-- The lower part of a sum divides each common multiple of the lower parts. -/
theorem addf_dvd {x y : Int × Int} {m : Int} (hm : 0 < m) (x0 : 0 ≤ x.1) (y0 : 0 ≤ y.1) (x1 : 0 < x.2) (y1 : 0 < y.2) (hx : x.2 ∣ m) (hy : y.2 ∣ m) : (addf x y).2 ∣ m := by
  obtain ⟨p, q⟩ := x
  obtain ⟨u, v⟩ := y
  obtain ⟨a, ha⟩ := hx
  obtain ⟨b, hb⟩ := hy
  simp only at *
  have hD : 0 < q * v := Int.mul_pos x1 y1
  have a0 : 0 ≤ a := by
    rcases Int.lt_or_le a 0 with h | h
    · have := Int.mul_neg_of_pos_of_neg x1 h; omega
    · exact h
  have b0 : 0 ≤ b := by
    rcases Int.lt_or_le b 0 with h | h
    · have := Int.mul_neg_of_pos_of_neg y1 h; omega
    · exact h
  have n0 : 0 ≤ p * v + u * q := Int.add_nonneg (Int.mul_nonneg x0 (Int.le_of_lt y1)) (Int.mul_nonneg y0 (Int.le_of_lt x1))
  have n1 : 0 ≤ p * a + u * b := Int.add_nonneg (Int.mul_nonneg x0 a0) (Int.mul_nonneg y0 b0)
  have e : addf (p, q) (u, v) = fr (p * a + u * b) m := by
    show fr (p * v + u * q) (q * v) = _
    rw [← fr_scale (p * v + u * q) (q * v) m n0 hD hm, ← fr_scale (p * a + u * b) m (q * v) n1 hm hD]
    congr 1
    · rw [Int.add_mul, Int.add_mul]
      congr 1
      · rw [ha, Int.mul_assoc, Int.mul_assoc]
        congr 1
        rw [← Int.mul_assoc, Int.mul_comm v q, Int.mul_comm (q * v) a]
      · rw [hb, Int.mul_assoc, Int.mul_assoc]
        congr 1
        rw [← Int.mul_assoc, Int.mul_comm (q * v) b]
    · rw [Int.mul_comm]
  rw [e]
  exact fr_dvd _ hm
/-- The lower part of a joint cost divides twice the base times the factors so far. -/
def JInv (base : Int) (i : Nat) (s : Int × Int) : Prop := Fr (99 + 24000 * (i : Int)) (32 * 512 ^ i) s ∧ ∃ L, 0 < L ∧ L ≤ 8 ^ i ∧ s.2 ∣ 2 * base * L
theorem bestF_in {S : Int → Prop} {D : Int → Int × Int} (xs : List Int) : ∀ b, S b → (∀ x ∈ xs, S x) → S (bestF D b xs) := by
  induction xs with
  | nil => intro b hb _; exact hb
  | cons x xs ih =>
    intro b hb hx
    simp only [bestF]
    refine ih _ ?_ fun y hy => hx y (List.mem_cons_of_mem _ hy)
    split
    · exact hx x List.mem_cons_self
    · exact hb
theorem jinv_step {xs : List S42} (hf : FamOk xs) {base : Int} (h1 : 1 ≤ base) (h2 : base ≤ 32) {fs : List Int} (hc : FacOk xs fs) (i : Nat) (hi : i < xs.length) {s : Int × Int} (hs : JInv base i s) :
    JInv base (i + 1) (addf s (dcost (rd_T42 xs (i : Int)).f0 (rd_T42 xs (i : Int)).f1 (rd_T42 xs (i : Int)).f2 (base * rd fs (i : Int)))) := by
  obtain ⟨hF, L, l0, l1, l2⟩ := hs
  obtain ⟨⟨_, w2, w3⟩, g1, g2, _, _⟩ := joint_step hf h1 h2 hc i hi hF
  have hl := hc.1
  have hi2 : i < fs.length := by omega
  have hr : 1 ≤ rd fs (i : Int) ∧ rd fs (i : Int) ≤ 8 := by
    rw [rd_nat fs i hi2]
    exact hc.2 _ (List.getElem_mem _)
  have b0 : 0 < 2 * base := by omega
  have r0 : 0 < rd fs (i : Int) := by omega
  have c0 : 0 < 2 * (base * rd fs (i : Int)) := by omega
  have m0 : 0 < L * rd fs (i : Int) := Int.mul_pos l0 r0
  refine ⟨g2, L * rd fs (i : Int), m0, ?_, ?_⟩
  · rw [Int.pow_succ]
    exact Int.mul_le_mul l1 hr.2 (Int.le_of_lt r0) (Int.le_of_lt (Int.pow_pos (by decide)))
  · refine addf_dvd (Int.mul_pos b0 m0) hF.1 g1.1 hF.2.2.1 g1.2.2.1 (Int.dvd_trans l2 ⟨rd fs (i : Int), by rw [Int.mul_assoc (2 * base)]⟩) (Int.dvd_trans (fr_dvd _ c0) ⟨L, ?_⟩)
    rw [Int.mul_comm L, ← Int.mul_assoc, Int.mul_assoc 2 base]
theorem jinv_all {xs : List S42} (hf : FamOk xs) {base : Int} (h1 : 1 ≤ base) (h2 : base ≤ 32) {fs : List Int} (hc : FacOk xs fs) (d : Nat) : ∀ (i : Nat) (s : Int × Int), i + d = xs.length → JInv base i s → JInv base xs.length (jointF xs base fs d i s) := by
  induction d with
  | zero => intro i s hi hs; simp only [jointF]; rw [show xs.length = i by omega]; exact hs
  | succ d ih =>
    intro i s hi hs
    simp only [jointF]
    exact ih (i + 1) _ (by omega) (jinv_step hf h1 h2 hc i (by omega) hs)
theorem pow8 (n : Nat) (h : n ≤ 4) : (8 : Int) ^ n ≤ 4096 := by
  match n, h with
  | 0, _ => decide
  | 1, _ => decide
  | 2, _ => decide
  | 3, _ => decide
  | 4, _ => decide
theorem joint_mod {xs : List S42} (hf : FamOk xs) {joint base : Int} (j0 : 0 ≤ joint) (j9 : joint ≤ 99) (h1 : 1 ≤ base) (h2 : base ≤ 32) {fs : List Int} (hc : FacOk xs fs) : Mod (jointAll xs joint base fs) := by
  have h4 := hf.2.2
  have b0 : 0 < base := by omega
  have start : JInv base 0 (fr joint base) := by
    refine ⟨joint0 j0 j9 h1 h2, 1, by decide, by decide, Int.dvd_trans (fr_dvd _ b0) ⟨2, ?_⟩⟩
    omega
  obtain ⟨⟨f1, f2, f3, _⟩, L, l0, l1, l2⟩ := jinv_all hf h1 h2 hc xs.length 0 _ (Nat.zero_add _) start
  have p8 := pow8 xs.length (by omega)
  have c0 : 0 < 2 * base * L := Int.mul_pos (by omega) l0
  have c1 : 2 * base * L ≤ 64 * 4096 := Int.mul_le_mul (by omega) (Int.le_trans l1 p8) (Int.le_of_lt l0) (by decide)
  have d1 := Int.le_trans (Int.le_of_dvd c0 l2) c1
  have n1 : (99 + 24000 * (xs.length : Int)) * (jointF xs base fs xs.length 0 (fr joint base)).2 ≤ 96099 * (64 * 4096) := Int.mul_le_mul (by omega) d1 (Int.le_of_lt f3) (by decide)
  refine ⟨f1, Int.le_trans f2 (Int.le_trans n1 (by decide)), f3, Int.le_trans d1 (by decide)⟩
theorem chosen_fac {xs : List S42} (b : Int) : FacOk xs (chosen xs b xs.length) := by
  refine ⟨by rw [chosen_length], fun x hx => ?_⟩
  simp only [chosen, List.mem_map] at hx
  obtain ⟨i, _, rfl⟩ := hx
  unfold bestM
  exact bestF_in (S := fun x => 1 ≤ x ∧ x ≤ 8) (upSeq 7 2) 1 (by decide) fun y hy => by
    have := upSeq_in 7 2 y hy
    omega
def CondFC (xs : List S42) (j b : Int) (fs : List Int) : Prop := FamOk xs ∧ (0 ≤ j ∧ j ≤ 99) ∧ (1 ≤ b ∧ b ≤ 32) ∧ FacOk xs fs
instance (xs : List S42) (j b : Int) (fs : List Int) : Decidable (CondFC xs j b fs) := by unfold CondFC; infer_instance
def ansFC (xs : List S42) (j b : Int) (fs : List Int) : Int × Int × Bool := if CondFC xs j b fs then ((jointAll xs j b fs).1, (jointAll xs j b fs).2, true) else (0, 0, false)
theorem specFC_ev (xs : List S42) (j b : Int) (fs : List Int) (hn : xs.length ≤ 35184372088832) (hm : fs.length ≤ 35184372088832) : Ev (fun k => spec_FamilyCost.f k xs j b fs) (ansFC xs j b fs) := by
  unfold spec_FamilyCost.f ansFC
  simp only [in_eq, Option.bind_some]
  refine ev_bind (specFamily_ev xs hn) ?_
  by_cases a1 : FamOk xs
  rotate_left
  · exact ev_cast (ev_neg (by rw [decide_eq_true_eq]; exact a1) (ev_some _)) (if_neg fun h => a1 h.1).symm
  refine ev_pos (decide_eq_true a1) ?_
  by_cases a2 : 0 ≤ j ∧ j ≤ 99
  rotate_left
  · exact ev_cast (ev_neg (by rw [decide_eq_true_eq]; exact a2) (ev_some _)) (if_neg fun h => a2 h.2.1).symm
  refine ev_pos (decide_eq_true a2) ?_
  by_cases a3 : 1 ≤ b ∧ b ≤ 32
  rotate_left
  · exact ev_cast (ev_neg (by rw [decide_eq_true_eq]; exact a3) (ev_some _)) (if_neg fun h => a3 h.2.2.1).symm
  refine ev_pos (decide_eq_true a3) (ev_bind (specFactors_ev xs fs hm) ?_)
  by_cases a4 : FacOk xs fs
  rotate_left
  · exact ev_cast (ev_neg (by rw [decide_eq_true_eq]; exact a4) (ev_some _)) (if_neg fun h => a4 h.2.2.2).symm
  exact ev_cast (ev_pos (decide_eq_true a4) (ev_bind (specJoint_ev a1 a2.1 a2.2 a3.1 a3.2 a4) (ev_some _))) (if_pos ⟨a1, a2, a3, a4⟩).symm
theorem implFC_ev (xs : List S42) (j b : Int) (fs : List Int) (hn : xs.length ≤ 35184372088832) (hm : fs.length ≤ 35184372088832) : Ev (fun k => impl_FamilyCost.f k xs j b fs) (ansFC xs j b fs) := by
  unfold impl_FamilyCost.f ansFC
  simp only [within_eq, Option.bind_some]
  refine ev_bind (implFamily_ev xs hn) ?_
  by_cases a1 : FamOk xs
  rotate_left
  · exact ev_cast (ev_neg (by rw [decide_eq_true_eq]; exact a1) (ev_some _)) (if_neg fun h => a1 h.1).symm
  refine ev_pos (decide_eq_true a1) ?_
  by_cases a2 : 0 ≤ j ∧ j ≤ 99
  rotate_left
  · exact ev_cast (ev_neg (by rw [decide_eq_true_eq]; exact a2) (ev_some _)) (if_neg fun h => a2 h.2.1).symm
  refine ev_pos (decide_eq_true a2) ?_
  by_cases a3 : 1 ≤ b ∧ b ≤ 32
  rotate_left
  · exact ev_cast (ev_neg (by rw [decide_eq_true_eq]; exact a3) (ev_some _)) (if_neg fun h => a3 h.2.2.1).symm
  refine ev_pos (decide_eq_true a3) ?_
  by_cases a5 : (fs.length : Int) = (xs.length : Int)
  rotate_left
  · exact ev_cast (ev_neg a5 (ev_some _)) (if_neg fun h => a5 h.2.2.2.1).symm
  refine ev_pos a5 (ev_bind (allWithin_ev fs 1 8 hm) ?_)
  by_cases a6 : ∀ x ∈ fs, 1 ≤ x ∧ x ≤ 8
  rotate_left
  · exact ev_cast (ev_neg (by rw [decide_eq_true_eq]; exact a6) (ev_some _)) (if_neg fun h => a6 h.2.2.2.2).symm
  exact ev_cast (ev_pos (decide_eq_true a6) (ev_bind (implJoint_ev a1 a2.1 a2.2 a3.1 a3.2 ⟨a5, a6⟩) (ev_some _))) (if_pos ⟨a1, a2, a3, a5, a6⟩).symm
def ansBF (xs : List S42) (b : Int) : List Int × Bool := if FamOk xs ∧ 1 ≤ b ∧ b ≤ 32 then (chosen xs b xs.length, true) else ([], false)
theorem ansBF_len (xs : List S42) (b : Int) : (ansBF xs b).1.length ≤ 4 := by
  unfold ansBF
  by_cases h : FamOk xs ∧ 1 ≤ b ∧ b ≤ 32
  · rw [if_pos h]
    have h4 := h.1.2.2
    show (chosen xs b xs.length).length ≤ 4
    rw [chosen_length]
    omega
  · rw [if_neg h]
    simp
theorem specBF_ev (xs : List S42) (b : Int) (hn : xs.length ≤ 35184372088832) : Ev (fun k => spec_BestFactors.f k xs b) (ansBF xs b) := by
  unfold spec_BestFactors.f ansBF
  simp only [in_eq, Option.bind_some]
  refine ev_bind (specFamily_ev xs hn) ?_
  by_cases a1 : FamOk xs
  rotate_left
  · exact ev_cast (ev_neg (by rw [decide_eq_true_eq]; exact a1) (ev_some _)) (if_neg fun h => a1 h.1).symm
  refine ev_pos (decide_eq_true a1) ?_
  by_cases a2 : 1 ≤ b ∧ b ≤ 32
  rotate_left
  · exact ev_cast (ev_neg (by rw [decide_eq_true_eq]; exact a2) (ev_some _)) (if_neg fun h => a2 h.2).symm
  exact ev_cast (ev_pos (decide_eq_true a2) (ev_bind (specChosen_ev a1 a2.1 a2.2) (ev_some _))) (if_pos ⟨a1, a2⟩).symm
theorem implBF_ev (xs : List S42) (b : Int) (hn : xs.length ≤ 35184372088832) : Ev (fun k => impl_BestFactors.f k xs b) (ansBF xs b) := by
  unfold impl_BestFactors.f ansBF
  simp only [within_eq, Option.bind_some]
  refine ev_bind (implFamily_ev xs hn) ?_
  by_cases a1 : FamOk xs
  rotate_left
  · exact ev_cast (ev_neg (by rw [decide_eq_true_eq]; exact a1) (ev_some _)) (if_neg fun h => a1 h.1).symm
  refine ev_pos (decide_eq_true a1) ?_
  by_cases a2 : 1 ≤ b ∧ b ≤ 32
  rotate_left
  · exact ev_cast (ev_neg (by rw [decide_eq_true_eq]; exact a2) (ev_some _)) (if_neg fun h => a2 h.2).symm
  exact ev_cast (ev_pos (decide_eq_true a2) (ev_bind (implChosen_ev a1 a2.1 a2.2) (ev_some _))) (if_pos ⟨a1, a2⟩).symm
def baseD (xs : List S42) (joint b : Int) : Int × Int := jointAll xs joint b (chosen xs b xs.length)
def bestB (xs : List S42) (joint : Int) : Int := bestF (baseD xs joint) 1 (upSeq 31 2)
theorem baseD_mod {xs : List S42} (hf : FamOk xs) {joint b : Int} (j0 : 0 ≤ joint) (j9 : joint ≤ 99) (h : 1 ≤ b ∧ b ≤ 32) : Mod (baseD xs joint b) := joint_mod hf j0 j9 h.1 h.2 (chosen_fac b)
theorem bestB_in (xs : List S42) (joint : Int) : 1 ≤ bestB xs joint ∧ bestB xs joint ≤ 32 := by
  unfold bestB
  exact bestF_in (S := fun x => 1 ≤ x ∧ x ≤ 32) (upSeq 31 2) 1 (by decide) fun y hy => by
    have := upSeq_in 31 2 y hy
    omega
def ansBB (xs : List S42) (joint : Int) : Int × List Int × Bool := if FamOk xs ∧ 0 ≤ joint ∧ joint ≤ 99 then (bestB xs joint, chosen xs (bestB xs joint) xs.length, true) else (0, [], false)
theorem ansBB_len (xs : List S42) (b : Int) : (ansBB xs b).2.1.length ≤ 4 := by
  unfold ansBB
  by_cases h : FamOk xs ∧ 0 ≤ b ∧ b ≤ 99
  · rw [if_pos h]
    have h4 := h.1.2.2
    show (chosen xs _ xs.length).length ≤ 4
    rw [chosen_length]
    omega
  · rw [if_neg h]
    simp
theorem specBB_l0 {xs : List S42} (hf : FamOk xs) {joint : Int} (j0 : 0 ≤ joint) (j9 : joint ≤ 99) (m : Nat) : ∀ (x n : Int), 1 ≤ x ∧ x ≤ 32 → 1 ≤ n → n + m = 33 →
    Ev (fun k => spec_BestBase.l0 k xs joint x n) (bestF (baseD xs joint) x (upSeq m n), chosen xs (bestF (baseD xs joint) x (upSeq m n)) xs.length, true) := by
  induction m with
  | zero =>
    intro x n hb hn he
    refine ev_succ ?_
    simp only [spec_BestBase.l0]
    exact ev_neg (by omega) (ev_bind (specChosen_ev hf hb.1 hb.2) (ev_some _))
  | succ m ih =>
    intro x n hb hn he
    have q1 : n ≤ 32 := by omega
    have q2 : 1 ≤ n + 1 := by omega
    have q3 : n + 1 + m = 33 := by omega
    have hw2 : wrap64 (n + 1) = n + 1 := wid (by omega) (by omega)
    refine ev_succ ?_
    simp only [spec_BestBase.l0]
    rw [hw2]
    refine ev_pos q1 (ev_bind (specChosen_ev hf hn q1) (ev_bind (specJoint_ev hf j0 j9 hn q1 (chosen_fac n)) (ev_bind (specChosen_ev hf hb.1 hb.2) (ev_bind (specJoint_ev hf j0 j9 hb.1 hb.2 (chosen_fac x)) ?_))))
    have e := specLess_eq (baseD_mod hf j0 j9 ⟨hn, q1⟩) (baseD_mod hf j0 j9 hb)
    unfold baseD at e
    rw [e]
    simp only [Option.bind_some, upSeq, bestF]
    by_cases c : ltF (baseD xs joint n) (baseD xs joint x) = true
    · rw [if_pos c]
      exact ev_pos c (ih n (n + 1) ⟨hn, q1⟩ q2 q3)
    · rw [if_neg c]
      exact ev_neg c (ih x (n + 1) hb q2 q3)
theorem specBB_ev (xs : List S42) (b : Int) (hn : xs.length ≤ 35184372088832) : Ev (fun k => spec_BestBase.f k xs b) (ansBB xs b) := by
  unfold spec_BestBase.f ansBB
  simp only [in_eq, Option.bind_some]
  refine ev_bind (specFamily_ev xs hn) ?_
  by_cases a1 : FamOk xs
  rotate_left
  · refine ev_neg (by rw [decide_eq_true_eq]; exact a1) (ev_succ ?_)
    simp only [spec_BestBase.j0]
    exact ev_cast (ev_pos trivial (ev_some _)) (if_neg fun h => a1 h.1).symm
  refine ev_pos (decide_eq_true a1) (ev_succ ?_)
  simp only [spec_BestBase.j0]
  by_cases a2 : 0 ≤ b ∧ b ≤ 99
  rotate_left
  · exact ev_cast (ev_pos (by rw [decide_eq_false a2]; rfl) (ev_some _)) (if_neg fun h => a2 h.2).symm
  exact ev_cast (ev_neg (by rw [decide_eq_true a2]; simp) (specBB_l0 a1 a2.1 a2.2 31 1 2 (by decide) (by decide) (by decide))) (if_pos ⟨a1, a2⟩).symm
theorem lit_ev {xs : List S42} (hf : FamOk xs) {joint b : Int} (j0 : 0 ≤ joint) (j9 : joint ≤ 99) (h : 1 ≤ b ∧ b ≤ 32) : Ev (fun k => impl_BestBaseLit.f k b xs joint) (baseD xs joint b) := by
  unfold impl_BestBaseLit.f
  exact ev_bind (implChosen_ev hf h.1 h.2) (ev_bind (implJoint_ev hf j0 j9 h.1 h.2 (chosen_fac b)) (ev_some _))
theorem implBB_ev (xs : List S42) (b : Int) (hn : xs.length ≤ 35184372088832) : Ev (fun k => impl_BestBase.f k xs b) (ansBB xs b) := by
  unfold impl_BestBase.f ansBB
  simp only [within_eq, Option.bind_some]
  refine ev_bind (implFamily_ev xs hn) ?_
  by_cases a1 : FamOk xs
  rotate_left
  · refine ev_neg (by rw [decide_eq_true_eq]; exact a1) (ev_succ ?_)
    simp only [impl_BestBase.j0]
    exact ev_cast (ev_pos trivial (ev_some _)) (if_neg fun h => a1 h.1).symm
  refine ev_pos (decide_eq_true a1) (ev_succ ?_)
  simp only [impl_BestBase.j0]
  by_cases a2 : 0 ≤ b ∧ b ≤ 99
  rotate_left
  · exact ev_cast (ev_pos (by rw [decide_eq_false a2]; rfl) (ev_some _)) (if_neg fun h => a2 h.2).symm
  have hS : ∀ y ∈ (1 : Int) :: upSeq 31 2, 1 ≤ y ∧ y ≤ 32 := by
    intro y hy
    have := upSeq_in 32 1 y hy
    omega
  have hL : (upSeq 31 2).length ≤ 1000000 := by rw [upSeq_len]; decide
  have hB := bestB_in xs b
  refine ev_cast (ev_neg (by rw [decide_eq_true a2]; simp) (ev_bind (upFrom_ev 32 (by decide)) (ev_bind (cheapest_ev (S := fun n => 1 ≤ n ∧ n ≤ 32) (fun n hn => baseD_mod a1 a2.1 a2.2 hn) 1 (upSeq 31 2) hS hL (fun k n => impl_BestBaseLit.f k n xs b) (fun n hn => lit_ev a1 a2.1 a2.2 hn)) ?_))) (if_pos ⟨a1, a2⟩).symm
  exact ev_bind (implChosen_ev a1 hB.1 hB.2) (ev_some _)
/-- What CycleCost returns. -/
def cycAns (a b c d e cycle : Int) : Int × Int × Bool := if ItemOk a b c d e ∧ 1 ≤ cycle ∧ cycle ≤ 64 then ((dcost a b c cycle).1, (dcost a b c cycle).2, true) else (0, 0, false)
theorem specCycleCost_ev (a0_0 a0_1 a0_2 a0_3 a0_4 a1 : Int) : Ev (fun k => spec_CycleCost.f k a0_0 a0_1 a0_2 a0_3 a0_4 a1) (cycAns a0_0 a0_1 a0_2 a0_3 a0_4 a1) := by
  unfold spec_CycleCost.f cycAns
  simp only [specItem_eq, in_eq, Option.bind_some]
  by_cases h : ItemOk a0_0 a0_1 a0_2 a0_3 a0_4
  · refine ev_pos (by simpa using h) ?_
    by_cases h2 : 1 ≤ a1 ∧ a1 ≤ 64
    · exact ev_cast (ev_pos (by simpa using h2) (ev_bind (specDaily_ev a0_0 a0_1 a0_2 a0_3 a0_4 a1 h h2.1 (by omega)) (ev_some _))) (if_pos ⟨h, h2⟩).symm
    · exact ev_cast (ev_neg (by simpa using h2) (ev_some _)) (if_neg fun x => h2 x.2).symm
  · exact ev_cast (ev_neg (by simpa using h) (ev_some _)) (if_neg fun x => h x.1).symm
theorem implCycleCost_ev (a0_0 a0_1 a0_2 a0_3 a0_4 a1 : Int) : Ev (fun k => impl_CycleCost.f k a0_0 a0_1 a0_2 a0_3 a0_4 a1) (cycAns a0_0 a0_1 a0_2 a0_3 a0_4 a1) := by
  unfold impl_CycleCost.f cycAns
  simp only [implItem_eq, impl_isCycle.f, within_eq, Option.bind_some]
  by_cases h : ItemOk a0_0 a0_1 a0_2 a0_3 a0_4
  · refine ev_pos (by simpa using h) ?_
    by_cases h2 : 1 ≤ a1 ∧ a1 ≤ 64
    · exact ev_cast (ev_pos (by simpa using h2) (ev_bind (implDaily_ev a0_0 a0_1 a0_2 a0_3 a0_4 a1 h h2.1 (by omega)) (ev_some _))) (if_pos ⟨h, h2⟩).symm
    · exact ev_cast (ev_neg (by simpa using h2) (ev_some _)) (if_neg fun x => h2 x.2).symm
  · exact ev_cast (ev_neg (by simpa using h) (ev_some _)) (if_neg fun x => h x.1).symm
def bestAns (a b c d e : Int) : Int × Bool := if ItemOk a b c d e then (bestF (dcost a b c) 1 (upSeq 63 2), true) else (0, false)
theorem implBestCycle_ev (a0_0 a0_1 a0_2 a0_3 a0_4 : Int) : Ev (fun k => impl_BestCycle.f k a0_0 a0_1 a0_2 a0_3 a0_4) (bestAns a0_0 a0_1 a0_2 a0_3 a0_4) := by
  unfold impl_BestCycle.f bestAns
  simp only [implItem_eq, Option.bind_some]
  by_cases h : ItemOk a0_0 a0_1 a0_2 a0_3 a0_4
  · refine ev_cast (ev_pos (decide_eq_true h) ?_) (if_pos h).symm
    refine ev_bind (upFrom_ev 64 (by decide)) ?_
    have hS : ∀ y ∈ (1 : Int) :: upSeq 63 2, 1 ≤ y ∧ y ≤ 64 := by
      intro y hy
      have := upSeq_in 64 1 y hy
      omega
    have hL : (upSeq 63 2).length ≤ 1000000 := by rw [upSeq_len]; decide
    exact ev_bind (cheapest_ev (S := fun n => 1 ≤ n ∧ n ≤ 64) (fun n hn => dcost_mod h hn.1 (by omega)) 1 (upSeq 63 2) hS hL (fun k n => impl_Item_daily.f k a0_0 a0_1 a0_2 a0_3 a0_4 n) (fun n hn => implDaily_ev a0_0 a0_1 a0_2 a0_3 a0_4 n h hn.1 (by omega))) (ev_some _)
  · exact ev_cast (ev_neg (by rw [decide_eq_true_eq]; exact h) (ev_some _)) (if_neg h).symm
/-- The order of quotients by cross products. -/
def leF (x y : Int × Int) : Prop := x.1 * y.2 ≤ y.1 * x.2
instance (x y : Int × Int) : Decidable (leF x y) := by unfold leF; infer_instance
theorem ltF_iff (x y : Int × Int) : ltF x y = true ↔ ¬ leF y x := by
  unfold ltF leF
  rw [decide_eq_true_eq]
  omega
theorem ltF_false {x y : Int × Int} (h : leF y x) : ltF x y = false := by
  cases e : ltF x y with
  | false => rfl
  | true => exact absurd h ((ltF_iff x y).1 e)
theorem leF_refl (x : Int × Int) : leF x x := Int.le_refl _
theorem leF_total (x y : Int × Int) : leF x y ∨ leF y x := by unfold leF; omega
/-- c times x is at most d times y. -/
def leS (c d : Int) (x y : Int × Int) : Prop := c * (x.1 * y.2) ≤ d * (y.1 * x.2)
theorem leS_one {x y : Int × Int} (h : leF x y) (c : Int) (hc : 0 ≤ c) : leS c c x y := Int.mul_le_mul_of_nonneg_left h hc
theorem leS_trans {a b c : Int} {x y z : Int × Int} (hx : 0 < x.2) (hy : 0 < y.2) (hz : 0 < z.2) (h1 : leS a b x y) (h2 : leS b c y z) : leS a c x z := by
  unfold leS at *
  have m1 := Int.mul_le_mul_of_nonneg_right h1 (Int.le_of_lt hz)
  have m2 := Int.mul_le_mul_of_nonneg_right h2 (Int.le_of_lt hx)
  have e1 : a * (x.1 * y.2) * z.2 = a * (x.1 * z.2) * y.2 := by grind
  have e2 : b * (y.1 * x.2) * z.2 = b * (y.1 * z.2) * x.2 := by grind
  have e3 : c * (z.1 * y.2) * x.2 = c * (z.1 * x.2) * y.2 := by grind
  exact Int.le_of_mul_le_mul_right (by omega) hy
theorem leF_trans {x y z : Int × Int} (hx : 0 < x.2) (hy : 0 < y.2) (hz : 0 < z.2) (h1 : leF x y) (h2 : leF y z) : leF x z := by
  have h := leS_trans (a := 1) (b := 1) (c := 1) hx hy hz (leS_one h1 1 (by decide)) (leS_one h2 1 (by decide))
  unfold leS at h
  unfold leF
  omega
/-- A quotient in lowest terms is the quotient. -/
theorem fr_mul {n d : Int} (hn : 0 ≤ n) (hd : 0 < d) : ∃ g : Int, 0 < g ∧ n = (fr n d).1 * g ∧ d = (fr n d).2 * g := by
  have hg := gcd_fr_pos (n := n) hd
  have h1 : ((Nat.gcd n.toNat d.toNat : Nat) : Int) ∣ d := by
    have h := Int.natCast_dvd_natCast.2 (Nat.gcd_dvd_right n.toNat d.toNat)
    rwa [Int.toNat_of_nonneg (by omega)] at h
  have h2 : ((Nat.gcd n.toNat d.toNat : Nat) : Int) ∣ n := by
    have h := Int.natCast_dvd_natCast.2 (Nat.gcd_dvd_left n.toNat d.toNat)
    rwa [Int.toNat_of_nonneg hn] at h
  exact ⟨_, hg, (Int.ediv_mul_cancel h2).symm, (Int.ediv_mul_cancel h1).symm⟩
theorem leS_fr {c k n1 d1 n2 d2 : Int} (h1 : 0 < d1) (h2 : 0 < d2) (hn1 : 0 ≤ n1) (hn2 : 0 ≤ n2) : leS c k (fr n1 d1) (fr n2 d2) ↔ c * (n1 * d2) ≤ k * (n2 * d1) := by
  obtain ⟨g1, p1, a1, b1⟩ := fr_mul hn1 h1
  obtain ⟨g2, p2, a2, b2⟩ := fr_mul hn2 h2
  have hp := Int.mul_pos p1 p2
  unfold leS
  generalize fr n1 d1 = x at a1 b1 ⊢
  generalize fr n2 d2 = y at a2 b2 ⊢
  have e1 : c * (n1 * d2) = c * (x.1 * y.2) * (g1 * g2) := by rw [a1, b2]; grind
  have e2 : k * (n2 * d1) = k * (y.1 * x.2) * (g1 * g2) := by rw [a2, b1]; grind
  rw [e1, e2]
  exact ⟨fun h => Int.mul_le_mul_of_nonneg_right h (by omega), fun h => Int.le_of_mul_le_mul_right h hp⟩
theorem leF_fr {n1 d1 n2 d2 : Int} (h1 : 0 < d1) (h2 : 0 < d2) (hn1 : 0 ≤ n1) (hn2 : 0 ≤ n2) : leF (fr n1 d1) (fr n2 d2) ↔ n1 * d2 ≤ n2 * d1 := by
  have h := leS_fr (c := 1) (k := 1) h1 h2 hn1 hn2
  unfold leS at h
  unfold leF
  rw [Int.one_mul, Int.one_mul, Int.one_mul, Int.one_mul] at h
  exact h
theorem mem_skip {x b m : Int} {ns : List Int} (h : x ∈ b :: ns) : x ∈ b :: m :: ns := by
  rcases List.mem_cons.1 h with e | e
  · rw [e]; exact List.mem_cons_self
  · exact List.mem_cons_of_mem _ (List.mem_cons_of_mem _ e)
/-- The first number with the least cost costs no more than each other one. -/
theorem bestF_mem (D : Int → Int × Int) (ns : List Int) : ∀ b, bestF D b ns ∈ b :: ns := by
  induction ns with
  | nil => intro b; simp [bestF]
  | cons n ns ih =>
    intro b
    have h := ih (if ltF (D n) (D b) = true then n else b)
    simp only [bestF]
    rw [List.mem_cons] at h ⊢
    rw [List.mem_cons]
    rcases h with h | h
    · rw [h]
      split
      · exact Or.inr (Or.inl rfl)
      · exact Or.inl rfl
    · exact Or.inr (Or.inr h)
theorem bestF_le {D : Int → Int × Int} {S : Int → Prop} (hD : ∀ n, S n → 0 < (D n).2) (ns : List Int) : ∀ b, (∀ n ∈ b :: ns, S n) → ∀ n ∈ b :: ns, leF (D (bestF D b ns)) (D n) := by
  induction ns with
  | nil =>
    intro b hS n hn
    rw [List.mem_singleton] at hn
    rw [hn]
    exact leF_refl _
  | cons m ns ih =>
    intro b hS n hn
    have pb := hD b (hS b (by simp))
    have pm := hD m (hS m (by simp))
    have pn := hD n (hS n hn)
    simp only [bestF]
    by_cases c : ltF (D m) (D b) = true
    · rw [if_pos c]
      have h := ih m (fun x hx => hS x (List.mem_cons_of_mem _ hx))
      have mr := bestF_mem D ns m
      have pr := hD _ (hS _ (List.mem_cons_of_mem _ mr))
      rcases List.mem_cons.1 hn with e | e
      · rw [e]
        refine leF_trans pr pm pb (h m (by simp)) ?_
        rcases leF_total (D m) (D b) with q | q
        · exact q
        · exact absurd q ((ltF_iff _ _).1 c)
      · exact h n e
    · rw [if_neg c]
      have h := ih b (fun x hx => hS x (mem_skip hx))
      have mr := bestF_mem D ns b
      have pr := hD _ (hS _ (mem_skip mr))
      rcases List.mem_cons.1 hn with e | e
      · rw [e]; exact h b (by simp)
      · rcases List.mem_cons.1 e with e | e
        · rw [e]
          refine leF_trans pr pb pm (h b (by simp)) ?_
          rcases leF_total (D b) (D m) with q | q
          · exact q
          · rw [Bool.not_eq_true] at c
            exact Decidable.byContradiction fun z => absurd ((ltF_iff (D m) (D b)).2 z) (by simp [c])
        · exact h n (by simp [e])
/-- .. and strictly less than each one ahead of it. -/
theorem bestF_first {D : Int → Int × Int} {S : Int → Prop} (hD : ∀ n, S n → 0 < (D n).2) (d : Nat) : ∀ (b c : Int), b < c → (∀ n ∈ b :: upSeq d c, S n) → ∀ n, n ∈ b :: upSeq d c → n < bestF D b (upSeq d c) → ltF (D (bestF D b (upSeq d c))) (D n) = true := by
  induction d with
  | zero =>
    intro b c hbc hS n hn hlt
    simp only [upSeq, List.mem_singleton] at hn
    simp only [upSeq, bestF] at hlt
    omega
  | succ d ih =>
    intro b c hbc hS n hn hlt
    have pb := hD b (hS b (by simp))
    have pc := hD c (hS c (by simp [upSeq]))
    have pn := hD n (hS n hn)
    simp only [upSeq, bestF] at hlt hn ⊢
    have hS1 : ∀ x ∈ c :: upSeq d (c + 1), S x := fun x hx => hS x (by simp only [upSeq]; exact List.mem_cons_of_mem _ hx)
    have hS2 : ∀ x ∈ b :: upSeq d (c + 1), S x := fun x hx => hS x (mem_skip hx)
    by_cases q : ltF (D c) (D b) = true
    · rw [if_pos q] at hlt ⊢
      have pr := hD _ (hS1 _ (bestF_mem D (upSeq d (c + 1)) c))
      rcases List.mem_cons.1 hn with e | e
      · rw [e, ltF_iff]
        intro z
        have h1 := bestF_le hD (upSeq d (c + 1)) c hS1 c (by simp)
        exact (ltF_iff _ _).1 q (leF_trans pb pr pc z h1)
      · exact ih c (c + 1) (by omega) hS1 n e hlt
    · rw [if_neg q] at hlt ⊢
      have mr := bestF_mem D (upSeq d (c + 1)) b
      have pr := hD _ (hS2 _ mr)
      rcases List.mem_cons.1 hn with e | e
      · exact ih b (c + 1) (by omega) hS2 n (by simp [e]) (by rw [e] at hlt ⊢; exact hlt)
      · rcases List.mem_cons.1 e with e | e
        · have hb := ih b (c + 1) (by omega) hS2 b (by simp) (by omega)
          rw [ltF_iff] at hb ⊢
          intro z
          refine hb (leF_trans pb pn pr ?_ z)
          rw [e]
          exact Decidable.byContradiction fun y => q ((ltF_iff _ _).2 y)
        · exact ih b (c + 1) (by omega) hS2 n (by simp [e]) hlt
/-- A reader of draws: its bytes; each draw moves it on by two places at most. -/
def CodeOk (code : List Int) : Prop := ∀ x ∈ code, 0 ≤ x ∧ x ≤ 255
theorem codeOk_of {code : List Int} (h : ∀ x ∈ code, (Lit.int .u8 x).wf = true) : CodeOk code := fun x hx => by
  have := h x hx
  simp only [Lit.wf, Bool.and_eq_true, decide_eq_true_eq] at this
  exact this
theorem seed_low (x : Int) (h0 : 0 ≤ x) (h1 : x < 18446744073709551616) : Go.bits .and .u64 (x / 1099511627776) 255 = (x / 1099511627776) % 256 :=
  bits_mask .u64 24 (by decide) (fun n h0 h1 => by simp only [IntKind.wrap, IntKind.bits, IntKind.signed]; simp; omega) 8 (by decide) (x / 1099511627776) (by omega) (by omega)
theorem u64_in (x : Int) : 0 ≤ IntKind.u64.wrap x ∧ IntKind.u64.wrap x < 18446744073709551616 := by
  simp only [IntKind.wrap, IntKind.bits, IntKind.signed]
  simp
  omega
theorem next_ok {code : List Int} (hc : CodeOk code) (t s : Int) (h0 : 0 ≤ t) (h1 : t ≤ 1000000000000000) :
    ∃ b s', spec_l1Cur_next.f code t s = some (b, t + 1, s') ∧ 0 ≤ b ∧ b ≤ 255 := by
  unfold spec_l1Cur_next.f
  rw [wid (x := t + 1) (by omega) (by omega)]
  by_cases c : t < (code.length : Int)
  · have hb : 0 ≤ rd code t ∧ rd code t ≤ 255 := by
      obtain ⟨i, rfl⟩ := Int.eq_ofNat_of_zero_le h0
      rw [rd_nat code i (by omega)]
      exact hc _ (List.getElem_mem _)
    rw [if_pos c, if_pos h0, wid (x := rd code t) (by omega) (by omega)]
    by_cases c2 : t + 1 ≤ (code.length : Int)
    · rw [if_pos c2]
      exact ⟨_, _, rfl, hb.1, hb.2⟩
    · omega
  · rw [if_neg c]
    by_cases c2 : t + 1 ≤ (code.length : Int)
    · omega
    · rw [if_neg c2]
      have u := u64_in (IntKind.u64.wrap (IntKind.u64.wrap (s * 6364136223846793005) + 0) + 462197)
      generalize IntKind.u64.wrap (IntKind.u64.wrap (IntKind.u64.wrap (s * 6364136223846793005) + 0) + 462197) = v at u ⊢
      rw [seed_low v u.1 u.2, wid (by omega) (by omega)]
      exact ⟨_, _, rfl, by omega, by omega⟩
theorem pick_ok {code : List Int} (hc : CodeOk code) (t s n : Int) (h0 : 0 ≤ t) (h1 : t ≤ 900000000000000) (hn : n ≤ 65536) :
    ∃ r t' s', spec_l1Cur_pick.f code t s n = some (r, t', s') ∧ 0 ≤ r ∧ (1 ≤ n → r < n) ∧ t ≤ t' ∧ t' ≤ t + 2 := by
  unfold spec_l1Cur_pick.f
  by_cases c : n ≤ 1
  · rw [if_pos c]
    exact ⟨0, t, s, rfl, by omega, fun _ => by omega, by omega, by omega⟩
  · rw [if_neg c]
    obtain ⟨b, s1, e1, b0, b1⟩ := next_ok hc t s h0 (by omega)
    rw [e1]
    simp only [Option.bind_some]
    by_cases c2 : n > 200
    · obtain ⟨b2, s2, e2, q0, q1⟩ := next_ok hc (t + 1) s1 (by omega) (by omega)
      rw [if_pos c2, e2]
      simp only [Option.bind_some]
      rw [if_neg (by omega), wid (x := b * 256) (by omega) (by omega), wid (by omega) (by omega), Int.tmod_eq_emod_of_nonneg (by omega)]
      exact ⟨_, _, _, rfl, Int.emod_nonneg _ (by omega), fun _ => Int.emod_lt_of_pos _ (by omega), by omega, by omega⟩
    · rw [if_neg c2, if_neg (by omega), Int.tmod_eq_emod_of_nonneg (by omega)]
      exact ⟨_, _, _, rfl, Int.emod_nonneg _ (by omega), fun _ => Int.emod_lt_of_pos _ (by omega), by omega, by omega⟩
theorem among_ok {code : List Int} (hc : CodeOk code) (t s : Int) (l : List Int) (h0 : 0 ≤ t) (h1 : t ≤ 900000000000000) (hl : 0 < l.length) (hl2 : l.length ≤ 65536) :
    ∃ r t' s', spec_l1Cur_among.f code t s l = some (r, t', s') ∧ r ∈ l ∧ t ≤ t' ∧ t' ≤ t + 2 := by
  unfold spec_l1Cur_among.f
  obtain ⟨r, t', s', e, a, b, c, d⟩ := pick_ok hc t s (l.length : Int) h0 h1 (by omega)
  have b := b (by omega)
  rw [e]
  simp only [Option.bind_some]
  rw [if_pos a, if_pos b]
  obtain ⟨i, rfl⟩ := Int.eq_ofNat_of_zero_le a
  refine ⟨_, _, _, rfl, ?_, c, d⟩
  rw [rd_nat l i (by omega)]
  exact List.getElem_mem _
theorem one_ok {code : List Int} (hc : CodeOk code) (t s n : Int) (h0 : 0 ≤ t) (h1 : t ≤ 900000000000000) (hn : n ≤ 65536) :
    ∃ b t' s', spec_l1Cur_one.f code t s n = some (b, t', s') ∧ t ≤ t' ∧ t' ≤ t + 2 := by
  unfold spec_l1Cur_one.f
  obtain ⟨r, t', s', e, _, _, c, d⟩ := pick_ok hc t s n h0 h1 hn
  simp only [e, Option.bind_some]
  exact ⟨_, _, _, rfl, c, d⟩
theorem item_ok {code : List Int} (hc : CodeOk code) (t s : Int) (h0 : 0 ≤ t) (h1 : t ≤ 800000000000000) :
    ∃ a b c d e t' s', spec_l1Cur_item.f code t s = some (a, b, c, d, e, t', s') ∧ t ≤ t' ∧ t' ≤ t + 14 := by
  unfold spec_l1Cur_item.f
  obtain ⟨x1, t1, s1, e1, _, p1, q1⟩ := among_ok hc t s [1, 2, 3, 5, 8, 20] (by omega) (by omega) (by decide) (by decide)
  simp only [e1, Option.bind_some]
  obtain ⟨x2, t2, s2, e2, _, p2, q2⟩ := among_ok hc t1 s1 [1, 5, 10, 20, 50, 99] (by omega) (by omega) (by decide) (by decide)
  simp only [e2, Option.bind_some]
  obtain ⟨x3, t3, s3, e3, _, p3, q3⟩ := among_ok hc t2 s2 [1, 1, 2, 3, 9] (by omega) (by omega) (by decide) (by decide)
  simp only [e3, Option.bind_some]
  obtain ⟨x4, t4, s4, e4, _, p4, q4⟩ := among_ok hc t3 s3 [1, 2, 5, 10, 20] (by omega) (by omega) (by decide) (by decide)
  simp only [e4, Option.bind_some]
  obtain ⟨m, em⟩ : ∃ m, spec_l1Least.f (wrap64 (x1 + x4)) 40 = some m := by unfold spec_l1Least.f; split <;> exact ⟨_, rfl⟩
  simp only [em, Option.bind_some]
  obtain ⟨x5, t5, s5, e5, _, p5, q5⟩ := among_ok hc t4 s4 [0, 0, 1, 2, 9] (by omega) (by omega) (by decide) (by decide)
  simp only [e5, Option.bind_some]
  obtain ⟨x6, t6, s6, e6, _, _, p6, q6⟩ := pick_ok hc t5 s5 60 (by omega) (by omega) (by omega)
  simp only [e6, Option.bind_some]
  by_cases c0 : x6 = 0
  · obtain ⟨x7, t7, s7, e7, _, p7, q7⟩ := among_ok hc t6 s6 [0, 20, 21, -1] (by omega) (by omega) (by decide) (by decide)
    rw [if_pos c0, e7]
    simp only [Option.bind_some]
    exact ⟨_, _, _, _, _, _, _, rfl, by omega, by omega⟩
  rw [if_neg c0]
  by_cases c1 : x6 = 1
  · obtain ⟨x7, t7, s7, e7, _, p7, q7⟩ := among_ok hc t6 s6 [0, 99, 100] (by omega) (by omega) (by decide) (by decide)
    rw [if_pos c1, e7]
    simp only [Option.bind_some]
    exact ⟨_, _, _, _, _, _, _, rfl, by omega, by omega⟩
  rw [if_neg c1]
  by_cases c2 : x6 = 2
  · obtain ⟨x7, t7, s7, e7, _, p7, q7⟩ := among_ok hc t6 s6 [0, 9, 10] (by omega) (by omega) (by decide) (by decide)
    rw [if_pos c2, e7]
    simp only [Option.bind_some]
    exact ⟨_, _, _, _, _, _, _, rfl, by omega, by omega⟩
  rw [if_neg c2]
  by_cases c3 : x6 = 3
  · obtain ⟨x7, t7, s7, e7, _, p7, q7⟩ := among_ok hc t6 s6 [x1, 40, 41, 4611686018427387904] (by omega) (by omega) (by simp) (by simp)
    rw [if_pos c3, e7]
    simp only [Option.bind_some]
    exact ⟨_, _, _, _, _, _, _, rfl, by omega, by omega⟩
  rw [if_neg c3]
  by_cases c4 : x6 = 4
  · obtain ⟨x7, t7, s7, e7, _, p7, q7⟩ := among_ok hc t6 s6 [-1, 9, 10] (by omega) (by omega) (by decide) (by decide)
    rw [if_pos c4, e7]
    simp only [Option.bind_some]
    exact ⟨_, _, _, _, _, _, _, rfl, by omega, by omega⟩
  rw [if_neg c4]
  exact ⟨_, _, _, _, _, _, _, rfl, by omega, by omega⟩

/-! Costs compared. -/
theorem rLess_eq {x y : Int × Int} (hx : Mod x) (hy : Mod y) : laws_rLess.f x.1 x.2 y.1 y.2 = some (ltF x y) := by
  unfold laws_rLess.f ltF
  rw [mod_mul hx hy, mod_mul hy hx]
theorem upSeq_all (d : Nat) : ∀ c x : Int, c ≤ x → x < c + d → x ∈ upSeq d c := by
  induction d with
  | zero => intro c x h1 h2; omega
  | succ d ih =>
    intro c x h1 h2
    simp only [upSeq, List.mem_cons]
    by_cases e : x = c
    · exact Or.inl e
    · exact Or.inr (ih (c + 1) x (by omega) (by omega))
def bestN (a b c : Int) : Int := bestF (dcost a b c) 1 (upSeq 63 2)
theorem bestN_in (a b c : Int) : 1 ≤ bestN a b c ∧ bestN a b c ≤ 64 := by
  unfold bestN
  exact bestF_in (S := fun x => 1 ≤ x ∧ x ≤ 64) (upSeq 63 2) 1 (by decide) fun y hy => by
    have := upSeq_in 63 2 y hy
    omega
/-- Beyond 64 days an item's cost grows. -/
theorem late_cost {a b c d e C : Int} (h : ItemOk a b c d e) (h1 : 64 ≤ C) (h2 : C ≤ 256) : leF (dcost a b c 64) (dcost a b c C) := by
  obtain ⟨ha, hb, hc, _, _⟩ := h
  have m0 : 0 < c * a := Int.mul_pos (by omega) (by omega)
  have m1 : 0 ≤ c * a * 64 * 64 := Int.mul_nonneg (Int.mul_nonneg (Int.le_of_lt m0) (by decide)) (by decide)
  have m2 : 0 ≤ c * a * C * C := Int.mul_nonneg (Int.mul_nonneg (Int.le_of_lt m0) (by omega)) (by omega)
  unfold dcost
  rw [leF_fr (by decide) (by omega) (by omega) (by omega)]
  generalize c * a = h at m0 m1 m2
  have m3 : 64 ≤ h * C := by
    have := Int.mul_le_mul (show 1 ≤ h by omega) h1 (by decide) (by omega)
    omega
  have m4 := Int.mul_nonneg (show 0 ≤ C - 64 by omega) (show 0 ≤ 64 * (h * C) - 2 * b by omega)
  have e1 : (C - 64) * (64 * (h * C) - 2 * b) * 2 = (2 * b + h * C * C) * (2 * 64) - (2 * b + h * 64 * 64) * (2 * C) := by grind
  omega
theorem best_cost {a b c d e C : Int} (h : ItemOk a b c d e) (h1 : 1 ≤ C) (h2 : C ≤ 256) : leF (dcost a b c (bestN a b c)) (dcost a b c C) := by
  have pos : ∀ n : Int, 1 ≤ n ∧ n ≤ 64 → 0 < (dcost a b c n).2 := fun n hn => (dcost_mod h hn.1 (by omega)).2.2.1
  have hS : ∀ n ∈ (1 : Int) :: upSeq 63 2, 1 ≤ n ∧ n ≤ 64 := fun n hn => by
    have := upSeq_in 64 1 n hn
    omega
  have hb := bestN_in a b c
  have small : ∀ n : Int, 1 ≤ n → n ≤ 64 → leF (dcost a b c (bestN a b c)) (dcost a b c n) := fun n p q =>
    bestF_le (S := fun n => 1 ≤ n ∧ n ≤ 64) pos (upSeq 63 2) 1 hS n (upSeq_all 64 1 n p (by omega))
  by_cases c1 : C ≤ 64
  · exact small C h1 c1
  · exact leF_trans (pos _ hb) (pos 64 (by decide)) (dcost_mod h h1 h2).2.2.1 (small 64 (by decide) (by decide)) (late_cost h (by omega) h2)
/-- The sum of two costs, not in lowest terms. -/
def sumU (x p : Int × Int) : Int × Int := (x.1 * p.2 + p.1 * x.2, x.2 * p.2)
theorem leF_sum {x y p q : Int × Int} (hx : 0 < x.2) (hy : 0 < y.2) (hp : 0 < p.2) (hq : 0 < q.2) (h1 : leF x y) (h2 : leF p q) : leF (sumU x p) (sumU y q) := by
  unfold leF sumU at *
  have a1 := Int.mul_le_mul_of_nonneg_right h1 (Int.le_of_lt (Int.mul_pos hp hq))
  have a2 := Int.mul_le_mul_of_nonneg_right h2 (Int.le_of_lt (Int.mul_pos hx hy))
  show (x.1 * p.2 + p.1 * x.2) * (y.2 * q.2) ≤ (y.1 * q.2 + q.1 * y.2) * (x.2 * p.2)
  have e1 : (x.1 * p.2 + p.1 * x.2) * (y.2 * q.2) = x.1 * y.2 * (p.2 * q.2) + p.1 * q.2 * (x.2 * y.2) := by grind
  have e2 : (y.1 * q.2 + q.1 * y.2) * (x.2 * p.2) = y.1 * x.2 * (p.2 * q.2) + q.1 * p.2 * (x.2 * y.2) := by grind
  rw [e1, e2]
  omega
theorem leF_low {x : Int × Int} {n d : Int} (hn : 0 ≤ n) (hd : 0 < d) (h : x.1 * d ≤ n * x.2) : leF x (fr n d) := by
  obtain ⟨g, p, a, b⟩ := fr_mul hn hd
  unfold leF
  generalize fr n d = y at a b ⊢
  rw [a, b] at h
  refine Int.le_of_mul_le_mul_right (a := g) ?_ p
  have e1 : x.1 * (y.2 * g) = x.1 * y.2 * g := (Int.mul_assoc _ _ _).symm
  have e2 : y.1 * g * x.2 = y.1 * x.2 * g := by grind
  rw [← e1, ← e2]
  exact h
/-- The sum of the items' least costs, from item i on. -/
def aloneF (xs : List S42) : Nat → Nat → Int × Int → Int × Int
  | 0, _, s => s
  | d + 1, i, s => aloneF xs d (i + 1) (sumU s (dcost (rd_T42 xs (i : Int)).f0 (rd_T42 xs (i : Int)).f1 (rd_T42 xs (i : Int)).f2 (bestN (rd_T42 xs (i : Int)).f0 (rd_T42 xs (i : Int)).f1 (rd_T42 xs (i : Int)).f2)))
/-- Bounds of such a sum. -/
def Al (i : Nat) (s : Int × Int) : Prop := 0 ≤ s.1 ∧ s.1 ≤ 24000 * (i : Int) * s.2 ∧ 0 < s.2 ∧ s.2 ≤ 128 ^ i
theorem pow128 (n : Nat) (h : n ≤ 4) : (128 : Int) ^ n ≤ 268435456 := by
  match n, h with
  | 0, _ => decide
  | 1, _ => decide
  | 2, _ => decide
  | 3, _ => decide
  | 4, _ => decide
theorem al_step {i : Nat} {s p : Int × Int} (h : Al i s) (hp : Fr 24000 128 p) : Al (i + 1) (sumU s p) := by
  obtain ⟨a1, a2, a3, a4⟩ := h
  obtain ⟨b1, b2, b3, b4⟩ := hp
  have pp : (0 : Int) ≤ 128 ^ i := Int.le_of_lt (Int.pow_pos (by decide))
  unfold Al sumU
  refine ⟨Int.add_nonneg (Int.mul_nonneg a1 (Int.le_of_lt b3)) (Int.mul_nonneg b1 (Int.le_of_lt a3)), ?_, Int.mul_pos a3 b3, ?_⟩
  · show s.1 * p.2 + p.1 * s.2 ≤ 24000 * ((i + 1 : Nat) : Int) * (s.2 * p.2)
    have c1 := Int.mul_le_mul_of_nonneg_right a2 (Int.le_of_lt b3)
    have c2 := Int.mul_le_mul_of_nonneg_right b2 (Int.le_of_lt a3)
    have e : 24000 * ((i + 1 : Nat) : Int) * (s.2 * p.2) = 24000 * (i : Int) * s.2 * p.2 + 24000 * p.2 * s.2 := by
      rw [Int.natCast_add]; grind
    rw [e]
    omega
  · show s.2 * p.2 ≤ 128 ^ (i + 1)
    rw [Int.pow_succ]
    exact Int.mul_le_mul a4 b4 (Int.le_of_lt b3) pp
theorem al_wrap {i : Nat} {x D : Int × Int} (i3 : (i : Int) ≤ 3) (ha : Al i x) (fb : Fr 24000 128 D) (aS : Al (i + 1) (sumU x D)) : wrap64 (wrap64 (x.1 * D.2) + wrap64 (D.1 * x.2)) = (sumU x D).1 ∧ wrap64 (x.2 * D.2) = (sumU x D).2 := by
  obtain ⟨a1, a2, a3, a4⟩ := ha
  obtain ⟨b1, b2, b3, b4⟩ := fb
  obtain ⟨c1, c2, c3, c4⟩ := aS
  have p := pow128 (i + 1) (by omega)
  have y2 : (sumU x D).2 ≤ 268435456 := Int.le_trans c4 p
  have y1 : (sumU x D).1 ≤ 96000 * 268435456 := Int.le_trans c2 (Int.mul_le_mul (by omega) y2 (Int.le_of_lt c3) (by decide))
  have e1 : (sumU x D).1 = x.1 * D.2 + D.1 * x.2 := rfl
  have e2 : (sumU x D).2 = x.2 * D.2 := rfl
  have u1 := Int.mul_nonneg a1 (Int.le_of_lt b3)
  have u2 := Int.mul_nonneg b1 (Int.le_of_lt a3)
  rw [e1] at y1 c1
  rw [e2] at y2 c3
  rw [e1, e2]
  generalize x.1 * D.2 = u at *
  generalize D.1 * x.2 = v at *
  generalize x.2 * D.2 = w at *
  clear a1 a2 a3 a4 b1 b2 b3 b4 c2 c4 p e1 e2
  rw [wid (x := u) (by omega) (by omega), wid (x := v) (by omega) (by omega), wid (x := u + v) (by omega) (by omega), wid (x := w) (by omega) (by omega)]
  exact ⟨rfl, rfl⟩
theorem best_fr {a b c d e : Int} (h : ItemOk a b c d e) : Fr 24000 128 (dcost a b c (bestN a b c)) := by
  have hb := bestN_in a b c
  obtain ⟨f1, f2, f3, _⟩ := dcost_fr h hb.1 (show bestN a b c ≤ 256 by omega)
  obtain ⟨_, _, e3, e4⟩ := daily_in h hb.1 (show bestN a b c ≤ 256 by omega)
  have g := (fr_in (n := 2 * b + c * a * bestN a b c * bestN a b c) (d := 2 * bestN a b c) e3 (by omega)).2.2.2
  refine ⟨f1, f2, f3, ?_⟩
  unfold dcost
  omega
theorem alone_le {xs : List S42} (hf : FamOk xs) {base : Int} (h1 : 1 ≤ base) (h2 : base ≤ 32) {fs : List Int} (hc : FacOk xs fs) (d : Nat) : ∀ (i : Nat) (s x : Int × Int), i + d = xs.length → Fr (99 + 24000 * (i : Int)) (32 * 512 ^ i) s → 0 < x.2 → leF x s →
    leF (aloneF xs d i x) (jointF xs base fs d i s) := by
  induction d with
  | zero => intro i s x hi hs hx h; exact h
  | succ d ih =>
    intro i s x hi hs hx h
    have q4 : i < xs.length := by omega
    have q5 : i + 1 + d = xs.length := by omega
    obtain ⟨⟨_, w2, w3⟩, g1, g2, _, _⟩ := joint_step hf h1 h2 hc i q4 hs
    have it := fam_at hf i q4
    have fb := best_fr it
    have bc := best_cost it w2 w3
    simp only [aloneF, jointF]
    refine ih (i + 1) _ _ q5 g2 (Int.mul_pos hx fb.2.2.1) ?_
    have l := leF_sum hx hs.2.2.1 fb.2.2.1 g1.2.2.1 h bc
    exact leF_low (Int.add_nonneg (Int.mul_nonneg hs.1 (Int.le_of_lt g1.2.2.1)) (Int.mul_nonneg g1.1 (Int.le_of_lt hs.2.2.1))) (Int.mul_pos hs.2.2.1 g1.2.2.1) l
/-! The law's loops. -/
theorem law_l1 {xs : List S42} (hf : FamOk xs) {J : Int × Int} (hJ : Mod J) (d : Nat) : ∀ (i : Nat) (x : Int × Int), i + d = xs.length → Al i x → leF (aloneF xs d i x) J → Ev (fun k => laws_FnFamilies.l1 k xs (i : Int) J.1 J.2 x.1 x.2) true := by
  have h4 := hf.2.2
  induction d with
  | zero =>
    intro i x hi ha h
    simp only [aloneF] at h
    obtain ⟨a1, a2, a3, a4⟩ := ha
    obtain ⟨j1, j2, j3, j4⟩ := hJ
    have p := pow128 i (by omega)
    have i4 : (i : Int) ≤ 4 := by omega
    have x2 : x.2 ≤ 268435456 := Int.le_trans a4 p
    have x1 : x.1 ≤ 96000 * 268435456 := Int.le_trans a2 (Int.mul_le_mul (by omega) x2 (Int.le_of_lt a3) (by decide))
    have m1 := mulb j1 j2 (Int.le_of_lt a3) x2
    have m2 := mulb a1 x1 (Int.le_of_lt j3) j4
    unfold leF at h
    refine ev_succ ?_
    simp only [laws_FnFamilies.l1]
    refine ev_neg (by omega) ?_
    unfold laws_rLess.f
    simp only [Option.bind_some]
    rw [wid (x := J.1 * x.2) (by omega) (by omega), wid (x := x.1 * J.2) (by omega) (by omega)]
    refine ev_cast (ev_some _) ?_
    rw [decide_eq_false (show ¬ J.1 * x.2 < x.1 * J.2 by omega)]
    rfl
  | succ d ih =>
    intro i x hi ha h
    simp only [aloneF] at h
    have q4 : i < xs.length := by omega
    have q1 : (i : Int) < (xs.length : Int) := by omega
    have q2 : (0 : Int) ≤ (i : Int) := by omega
    have q5 : i + 1 + d = xs.length := by omega
    have i3 : (i : Int) ≤ 3 := by omega
    have hw : wrap64 ((i : Int) + 1) = ((i + 1 : Nat) : Int) := by rw [wid (by omega) (by omega)]; omega
    have it := fam_at hf i q4
    have fb := best_fr it
    have hb := bestN_in (rd_T42 xs (i : Int)).f0 (rd_T42 xs (i : Int)).f1 (rd_T42 xs (i : Int)).f2
    have aS := al_step ha fb
    have z := ih (i + 1) _ q5 aS h
    have c1 : Ev (fun k => impl_BestCycle.f k (rd_T42 xs (i : Int)).f0 (rd_T42 xs (i : Int)).f1 (rd_T42 xs (i : Int)).f2 (rd_T42 xs (i : Int)).f3 (rd_T42 xs (i : Int)).f4) (bestN (rd_T42 xs (i : Int)).f0 (rd_T42 xs (i : Int)).f1 (rd_T42 xs (i : Int)).f2, true) := ev_cast (implBestCycle_ev _ _ _ _ _) (if_pos it)
    have c2 := ev_cast (implCycleCost_ev (rd_T42 xs (i : Int)).f0 (rd_T42 xs (i : Int)).f1 (rd_T42 xs (i : Int)).f2 (rd_T42 xs (i : Int)).f3 (rd_T42 xs (i : Int)).f4 (bestN (rd_T42 xs (i : Int)).f0 (rd_T42 xs (i : Int)).f1 (rd_T42 xs (i : Int)).f2)) (if_pos ⟨it, hb.1, hb.2⟩)
    have c3 := ev_cast (specCycleCost_ev (rd_T42 xs (i : Int)).f0 (rd_T42 xs (i : Int)).f1 (rd_T42 xs (i : Int)).f2 (rd_T42 xs (i : Int)).f3 (rd_T42 xs (i : Int)).f4 (bestN (rd_T42 xs (i : Int)).f0 (rd_T42 xs (i : Int)).f1 (rd_T42 xs (i : Int)).f2)) (if_pos ⟨it, hb.1, hb.2⟩)
    generalize hD : dcost (rd_T42 xs (i : Int)).f0 (rd_T42 xs (i : Int)).f1 (rd_T42 xs (i : Int)).f2 (bestN (rd_T42 xs (i : Int)).f0 (rd_T42 xs (i : Int)).f1 (rd_T42 xs (i : Int)).f2) = D at *
    refine ev_succ ?_
    simp only [laws_FnFamilies.l1]
    rw [hw]
    refine ev_pos q1 (ev_pos q2 (ev_bind c1 (ev_bind c2 (ev_bind c3 (ev_pos rfl (ev_pos rfl (ev_pos rfl (ev_neg (by simp) ?_))))))))
    have b1 : wrap64 (wrap64 (x.1 * D.2) + wrap64 (D.1 * x.2)) = (sumU x D).1 ∧ wrap64 (x.2 * D.2) = (sumU x D).2 := al_wrap i3 ha fb aS
    simp only [b1.1, b1.2]
    exact z
theorem start_al : Al 0 (0, 1) := by
  refine ⟨Int.le_refl _, ?_, ?_, ?_⟩ <;> decide
theorem law_j1 {xs : List S42} {j b : Int} {fs : List Int} : Ev (fun k => laws_FnFamilies.j1 k xs (ansFC xs j b fs).2.2 (ansFC xs j b fs).1 (ansFC xs j b fs).2.1) true := by
  refine ev_succ ?_
  simp only [laws_FnFamilies.j1]
  by_cases c : CondFC xs j b fs
  · have e : ansFC xs j b fs = ((jointAll xs j b fs).1, (jointAll xs j b fs).2, true) := if_pos c
    rw [e]
    obtain ⟨hf, hj, hb, hc⟩ := c
    have hM := joint_mod hf hj.1 hj.2 hb.1 hb.2 hc
    refine ev_pos rfl (law_l1 hf hM xs.length 0 (0, 1) (Nat.zero_add _) start_al ?_)
    refine alone_le hf hb.1 hb.2 hc xs.length 0 _ _ (Nat.zero_add _) (joint0 hj.1 hj.2 hb.1 hb.2) (by decide) ?_
    refine leF_low hj.1 (by omega) ?_
    show 0 * b ≤ j * 1
    omega
  · have e : ansFC xs j b fs = (0, 0, false) := if_neg c
    rw [e]
    exact ev_neg (by simp) (ev_some _)
theorem pow2_in (n : Nat) (h : n ≤ 5) : 1 ≤ (2 : Int) ^ n ∧ (2 : Int) ^ n ≤ 32 ∧ wrap64 (2 * 2 ^ n) = 2 ^ (n + 1) := by
  have a : 1 ≤ (2 : Int) ^ n ∧ (2 : Int) ^ n ≤ 32 := by
    match n, h with
    | 0, _ => decide
    | 1, _ => decide
    | 2, _ => decide
    | 3, _ => decide
    | 4, _ => decide
    | 5, _ => decide
  refine ⟨a.1, a.2, ?_⟩
  rw [Int.pow_succ, Int.mul_comm]
  exact wid (by omega) (by omega)
theorem law_l0 {xs ys : List S42} {j b : Int} {fs : List Int} {J : Int} (hf : FamOk ys) (hJ : 0 ≤ J ∧ J ≤ 99) (d : Nat) : ∀ n : Nat, n + d = 6 →
    Ev (fun k => laws_FnFamilies.l0 k xs (ansFC xs j b fs).2.2 ys J (2 ^ n) (ansFC xs j b fs).1 (ansFC xs j b fs).2.1 (baseD ys J (bestB ys J)).1 (baseD ys J (bestB ys J)).2) true := by
  have hl := hf.2.2
  induction d with
  | zero =>
    intro n hn
    refine ev_succ ?_
    simp only [laws_FnFamilies.l0]
    rw [show n = 6 by omega]
    exact ev_neg (by decide) law_j1
  | succ d ih =>
    intro n hn
    have z := ih (n + 1) (by omega)
    have pn := pow2_in n (by omega)
    obtain ⟨p1, p2, p3⟩ := pn
    generalize (2 : Int) ^ n = p at *
    have c1 : Ev (fun k => impl_BestFactors.f k ys p) (chosen ys p ys.length, true) := ev_cast (implBF_ev ys p (by omega)) (if_pos ⟨hf, p1, p2⟩)
    have c2 : Ev (fun k => impl_FamilyCost.f k ys J p (chosen ys p ys.length)) ((baseD ys J p).1, (baseD ys J p).2, true) := ev_cast (implFC_ev ys J p _ (by omega) (by rw [chosen_length]; omega)) (if_pos ⟨hf, hJ, ⟨p1, p2⟩, chosen_fac p⟩)
    have bb := bestB_in ys J
    have m1 := baseD_mod hf hJ.1 hJ.2 ⟨p1, p2⟩
    have m2 := baseD_mod hf hJ.1 hJ.2 bb
    have le : leF (baseD ys J (bestB ys J)) (baseD ys J p) := bestF_le (S := fun n => 1 ≤ n ∧ n ≤ 32) (fun n hn => (baseD_mod hf hJ.1 hJ.2 hn).2.2.1) (upSeq 31 2) 1 (fun n hn => by
      have := upSeq_in 32 1 n hn
      omega) p (upSeq_all 32 1 p p1 (by omega))
    refine ev_succ ?_
    simp only [laws_FnFamilies.l0]
    rw [p3]
    refine ev_pos p2 (ev_bind c1 (ev_bind c2 (ev_pos rfl (ev_pos rfl ?_))))
    rw [rLess_eq m1 m2, ltF_false le]
    simp only [Option.bind_some]
    exact ev_neg (by simp) z
/-! The draws. -/
theorem family_l0 {code : List Int} (hc : CodeOk code) (n : Nat) : ∀ (xs : List S42) (t s : Int), xs.length + n ≤ 5 → 0 ≤ t → t + 40 * n ≤ 700000000000000 →
    ∃ r t' s', Ev (fun k => spec_l1Cur_family.l0 k xs (n : Int) code t s) (r, t', s') ∧ r.length ≤ 5 ∧ t ≤ t' ∧ t' ≤ t + 40 * n := by
  induction n with
  | zero =>
    intro xs t s h1 h2 h3
    refine ⟨xs, t, s, ev_succ ?_, by omega, by omega, by omega⟩
    simp only [spec_l1Cur_family.l0]
    exact ev_neg (by omega) (ev_some _)
  | succ n ih =>
    intro xs t s h1 h2 h3
    obtain ⟨a, b, c, d, e, t1, s1, e1, a1, b1⟩ := item_ok hc t s h2 (by omega)
    obtain ⟨o, t2, s2, e2, a2, b2⟩ := one_ok hc t1 s1 2 (by omega) (by omega) (by omega)
    obtain ⟨p, t3, s3, e3, c3, d3, a3, b3⟩ := pick_ok hc t2 s2 3 (by omega) (by omega) (by omega)
    obtain ⟨q, t4, s4, e4, c4, d4, a4, b4⟩ := pick_ok hc t3 s3 20 (by omega) (by omega) (by omega)
    have hw : wrap64 (((n + 1 : Nat) : Int) - 1) = (n : Int) := by rw [wid (by omega) (by omega)]; omega
    obtain ⟨r1, u1, v1, w1, l1, g1, k1⟩ := ih (xs ++ [(⟨wrap64 (1 + p), b, c, wrap64 (10 + q), e⟩ : S42)]) t4 s4 (by rw [List.length_append]; simp only [List.length_cons, List.length_nil]; omega) (by omega) (by omega)
    obtain ⟨r2, u2, v2, w2, l2, g2, k2⟩ := ih (xs ++ [(⟨a, b, c, d, e⟩ : S42)]) t2 s2 (by rw [List.length_append]; simp only [List.length_cons, List.length_nil]; omega) (by omega) (by omega)
    have j1 : Ev (fun k => spec_l1Cur_family.j1 k xs ((n + 1 : Nat) : Int) true code t2 s2 a b c d e) (r1, u1, v1) := by
      refine ev_succ ?_
      simp only [spec_l1Cur_family.j1]
      rw [hw]
      exact ev_pos trivial (ev_bind (ev_of_eq fun _ => e3) (ev_bind (ev_of_eq fun _ => e4) (ev_pos (by omega) w1)))
    have j2 : Ev (fun k => spec_l1Cur_family.j1 k xs ((n + 1 : Nat) : Int) false code t2 s2 a b c d e) (r2, u2, v2) := by
      refine ev_succ ?_
      simp only [spec_l1Cur_family.j1]
      rw [hw]
      exact ev_neg (by simp) (ev_pos (by omega) w2)
    have head : ∀ R : List S42 × Int × Int, (Ev (fun k => if o = true then (spec_l8Item.f a b c d e).bind fun v => spec_l1Cur_family.j1 k xs ((n + 1 : Nat) : Int) v code t2 s2 a b c d e else spec_l1Cur_family.j1 k xs ((n + 1 : Nat) : Int) false code t2 s2 a b c d e) R) → Ev (fun k => spec_l1Cur_family.l0 k xs ((n + 1 : Nat) : Int) code t s) R := fun R hR => by
      refine ev_succ ?_
      simp only [spec_l1Cur_family.l0]
      exact ev_pos (by omega) (ev_bind (ev_of_eq fun _ => e1) (ev_bind (ev_of_eq fun _ => e2) hR))
    by_cases ho : o = true
    · by_cases hi : ItemOk a b c d e
      · refine ⟨r1, u1, v1, head _ (ev_pos ho ?_), l1, by omega, by omega⟩
        rw [specItem_eq, decide_eq_true hi]
        exact j1
      · refine ⟨r2, u2, v2, head _ (ev_pos ho ?_), l2, by omega, by omega⟩
        rw [specItem_eq, decide_eq_false hi]
        exact j2
    · exact ⟨r2, u2, v2, head _ (ev_neg ho j2), l2, by omega, by omega⟩
theorem family_ok {code : List Int} (hc : CodeOk code) (t s : Int) (h0 : 0 ≤ t) (h1 : t ≤ 600000000000000) :
    ∃ r t' s', Ev (fun k => spec_l1Cur_family.f k code t s) (r, t', s') ∧ r.length ≤ 5 ∧ t ≤ t' ∧ t' ≤ t + 300 := by
  obtain ⟨n, t1, s1, e1, m1, a1, b1⟩ := among_ok hc t s [2, 3, 1, 4, 2, 3, 0, 5] h0 (by omega) (by decide) (by decide)
  have hn : 0 ≤ n ∧ n ≤ 5 := by simp at m1; omega
  obtain ⟨r, t2, s2, e2, l2, a2, b2⟩ := family_l0 hc n.toNat [] t1 s1 (by simp; omega) (by omega) (by omega)
  rw [Int.toNat_of_nonneg hn.1] at e2
  refine ⟨r, t2, s2, ?_, l2, by omega, by omega⟩
  unfold spec_l1Cur_family.f
  exact ev_bind (ev_of_eq fun _ => e1) e2
theorem drawBF_ok {code : List Int} (hc : CodeOk code) : ∃ xs b, Ev (fun k => spec_DrawBestFactors.f k code) (xs, b) ∧ xs.length ≤ 5 := by
  obtain ⟨xs, t1, s1, e1, l1, a1, b1⟩ := family_ok hc 0 0 (by omega) (by omega)
  obtain ⟨b, t2, s2, e2, m2, a2, b2⟩ := among_ok hc t1 s1 [1, 2, 3, 5, 8, 32, 33, 0, 1] (by omega) (by omega) (by decide) (by decide)
  refine ⟨xs, b, ?_, l1⟩
  unfold spec_DrawBestFactors.f spec_newCur.f
  exact ev_bind (ev_some _) (ev_bind e1 (ev_bind (ev_of_eq fun _ => e2) (ev_some _)))
theorem drawBB_ok {code : List Int} (hc : CodeOk code) : ∃ xs b, Ev (fun k => spec_DrawBestBase.f k code) (xs, b) ∧ xs.length ≤ 5 := by
  obtain ⟨xs, t1, s1, e1, l1, a1, b1⟩ := family_ok hc 0 0 (by omega) (by omega)
  obtain ⟨b, t2, s2, e2, m2, a2, b2⟩ := among_ok hc t1 s1 [0, 5, 20, 99, 100, -1, 10, 1] (by omega) (by omega) (by decide) (by decide)
  refine ⟨xs, b, ?_, l1⟩
  unfold spec_DrawBestBase.f spec_newCur.f
  exact ev_bind (ev_some _) (ev_bind e1 (ev_bind (ev_of_eq fun _ => e2) (ev_some _)))
theorem drawFC_j2 {code : List Int} (hc : CodeOk code) (xs : List S42) (fs : List Int) (hf : fs.length ≤ 5) (t s : Int) (h0 : 0 ≤ t) (h1 : t ≤ 600000000000000) :
    ∃ j b gs, Ev (fun k => spec_DrawFamilyCost.j2 k xs fs code t s) (xs, j, b, gs) ∧ gs.length ≤ 6 := by
  obtain ⟨o, t1, s1, e1, a1, b1⟩ := one_ok hc t s 30 (by omega) (by omega) (by omega)
  obtain ⟨j, t2, s2, e2, m2, a2, b2⟩ := among_ok hc t1 s1 [0, 5, 20, 99, 100, -1, 10, 1] (by omega) (by omega) (by decide) (by decide)
  obtain ⟨b, t3, s3, e3, m3, a3, b3⟩ := among_ok hc t2 s2 [1, 2, 3, 5, 8, 32, 33, 0] (by omega) (by omega) (by decide) (by decide)
  have hl : fs.length < 17592186044416 := by omega
  have hg : (fs ++ [1]).length ≤ 6 := by rw [List.length_append]; simp only [List.length_cons, List.length_nil]; omega
  by_cases ho : o = true
  · refine ⟨j, b, fs ++ [1], ev_succ ?_, hg⟩
    simp only [spec_DrawFamilyCost.j2]
    exact ev_bind (ev_of_eq fun _ => e1) (ev_pos ho (ev_pos hl (ev_bind (ev_of_eq fun _ => e2) (ev_bind (ev_of_eq fun _ => e3) (ev_some _)))))
  · refine ⟨j, b, fs, ev_succ ?_, by omega⟩
    simp only [spec_DrawFamilyCost.j2]
    exact ev_bind (ev_of_eq fun _ => e1) (ev_neg ho (ev_bind (ev_of_eq fun _ => e2) (ev_bind (ev_of_eq fun _ => e3) (ev_some _))))
theorem drawFC_j1 {code : List Int} (hc : CodeOk code) (xs : List S42) (fs : List Int) (hf : fs.length ≤ 5) (v : Bool) (hv : v = true → 0 < fs.length) (t s : Int) (h0 : 0 ≤ t) (h1 : t ≤ 500000000000000) :
    ∃ j b gs, Ev (fun k => spec_DrawFamilyCost.j1 k xs fs v code t s) (xs, j, b, gs) ∧ gs.length ≤ 6 := by
  cases v with
  | false =>
    obtain ⟨j, b, gs, e, l⟩ := drawFC_j2 hc xs fs hf t s h0 (by omega)
    refine ⟨j, b, gs, ev_succ ?_, l⟩
    simp only [spec_DrawFamilyCost.j1]
    exact ev_neg (by simp) e
  | true =>
    have hv := hv rfl
    obtain ⟨f, t1, s1, e1, m1, a1, b1⟩ := among_ok hc t s [0, 9, -1] (by omega) (by omega) (by decide) (by decide)
    obtain ⟨j, b, gs, e, l⟩ := drawFC_j2 hc xs (fs.set (0 : Int).toNat f) (by rw [List.length_set]; exact hf) t1 s1 (by omega) (by omega)
    refine ⟨j, b, gs, ev_succ ?_, l⟩
    simp only [spec_DrawFamilyCost.j1]
    exact ev_pos trivial (ev_bind (ev_of_eq fun _ => e1) (ev_pos (by omega) e))
theorem drawFC_l0 {code : List Int} (hc : CodeOk code) (xs : List S42) (hx : xs.length ≤ 5) (d : Nat) : ∀ (i : Nat) (fs : List Int) (t s : Int), i + d = xs.length → fs.length = i → 0 ≤ t → t + 2 * d ≤ 400000000000000 →
    ∃ j b gs, Ev (fun k => spec_DrawFamilyCost.l0 k xs fs (i : Int) code t s) (xs, j, b, gs) ∧ gs.length ≤ 6 := by
  induction d with
  | zero =>
    intro i fs t s hi hl h0 h1
    obtain ⟨o, t1, s1, e1, a1, b1⟩ := one_ok hc t s 20 (by omega) (by omega) (by omega)
    by_cases c : (fs.length : Int) > 0
    · obtain ⟨j, b, gs, e, l⟩ := drawFC_j1 hc xs fs (by omega) o (fun _ => by omega) t1 s1 (by omega) (by omega)
      refine ⟨j, b, gs, ev_succ ?_, l⟩
      simp only [spec_DrawFamilyCost.l0]
      exact ev_neg (by omega) (ev_pos c (ev_bind (ev_of_eq fun _ => e1) e))
    · obtain ⟨j, b, gs, e, l⟩ := drawFC_j1 hc xs fs (by omega) false (fun h => by simp at h) t s (by omega) (by omega)
      refine ⟨j, b, gs, ev_succ ?_, l⟩
      simp only [spec_DrawFamilyCost.l0]
      exact ev_neg (by omega) (ev_neg c e)
  | succ d ih =>
    intro i fs t s hi hl h0 h1
    obtain ⟨f, t1, s1, e1, m1, a1, b1⟩ := among_ok hc t s [1, 1, 2, 3, 5, 8] (by omega) (by omega) (by decide) (by decide)
    obtain ⟨j, b, gs, e, l⟩ := ih (i + 1) (fs ++ [f]) t1 s1 (by omega) (by rw [List.length_append]; simp only [List.length_cons, List.length_nil]; omega) (by omega) (by omega)
    have hw : wrap64 ((i : Int) + 1) = ((i + 1 : Nat) : Int) := by rw [wid (by omega) (by omega)]; omega
    refine ⟨j, b, gs, ev_succ ?_, l⟩
    simp only [spec_DrawFamilyCost.l0]
    rw [hw]
    exact ev_pos (by omega) (ev_bind (ev_of_eq fun _ => e1) (ev_pos (by omega) e))
theorem drawFC_ok {code : List Int} (hc : CodeOk code) : ∃ xs j b fs, Ev (fun k => spec_DrawFamilyCost.f k code) (xs, j, b, fs) ∧ xs.length ≤ 5 ∧ fs.length ≤ 6 := by
  obtain ⟨xs, t1, s1, e1, l1, a1, b1⟩ := family_ok hc 0 0 (by omega) (by omega)
  obtain ⟨j, b, gs, e, l⟩ := drawFC_l0 hc xs l1 xs.length 0 [] t1 s1 (Nat.zero_add _) rfl (by omega) (by omega)
  refine ⟨xs, j, b, gs, ?_, l1, l⟩
  unfold spec_DrawFamilyCost.f spec_newCur.f
  exact ev_bind (ev_some _) (ev_bind e1 e)
theorem rInts_l0 (l : List Int) (hl : l.length ≤ 1000000) (d : Nat) : ∀ i : Nat, i + d = l.length → Ev (fun k => laws_rInts.l0 k l l (i : Int)) true := by
  induction d with
  | zero =>
    intro i hi
    refine ev_succ ?_
    simp only [laws_rInts.l0]
    exact ev_neg (by omega) (ev_some _)
  | succ d ih =>
    intro i hi
    have z := ih (i + 1) (by omega)
    refine ev_succ ?_
    simp only [laws_rInts.l0]
    rw [show wrap64 ((i : Int) + 1) = ((i + 1 : Nat) : Int) by rw [wid (by omega) (by omega)]; omega]
    exact ev_pos (by omega) (ev_pos (by omega) (ev_pos (by omega) (ev_pos trivial z)))
theorem rInts_ev (l : List Int) (hl : l.length ≤ 1000000) : Ev (fun k => laws_rInts.f k l l) true := by
  unfold laws_rInts.f
  exact ev_pos rfl (rInts_l0 l hl l.length 0 (by omega))
theorem FnFamilies (l0 : List Int) (hl0 : l0.length ≤ maxLen) (hw0 : ∀ x ∈ l0, (Lit.int .u8 x).wf = true) : ∃ k, laws_FnFamilies.f k l0 = some true := by
  refine Ev.rounds ?_
  unfold laws_FnFamilies.f
  obtain ⟨v, hv⟩ : ∃ v, laws_rBig.f l0 = some v := by unfold laws_rBig.f; exact ⟨_, rfl⟩
  simp only [hv, Option.bind_some]
  by_cases big : v = true
  · exact ev_pos big (ev_some _)
  refine ev_neg big ?_
  have hc := codeOk_of hw0
  obtain ⟨xs, j, b, fs, d1, a1, b1⟩ := drawFC_ok hc
  obtain ⟨ys, p, d2, a2⟩ := drawBF_ok hc
  obtain ⟨zs, q, d3, a3⟩ := drawBB_ok hc
  have h1 := implFC_ev xs j b fs (by omega) (by omega)
  have h2 := specFC_ev xs j b fs (by omega) (by omega)
  have h3 := implBF_ev ys p (by omega)
  have h4 := specBF_ev ys p (by omega)
  have h5 := implBB_ev zs q (by omega)
  have h6 := specBB_ev zs q (by omega)
  have r1 := rInts_ev (ansBF ys p).1 (by have := ansBF_len ys p; omega)
  have r2 := rInts_ev (ansBB zs q).2.1 (by have := ansBB_len zs q; omega)
  refine ev_bind d1 (ev_bind h1 (ev_bind h2 (ev_neg (by simp) (ev_neg (by simp) (ev_bind d2 (ev_bind h3 (ev_bind h4 (ev_neg (by simp) (ev_bind r1 (ev_pos rfl (ev_bind d3 (ev_bind h5 (ev_bind h6 (ev_neg (by simp) (ev_pos rfl (ev_bind r2 (ev_pos rfl ?_)))))))))))))))))
  by_cases ok : FamOk zs ∧ 0 ≤ q ∧ q ≤ 99
  · have e : ansBB zs q = (bestB zs q, chosen zs (bestB zs q) zs.length, true) := if_pos ok
    have bb := bestB_in zs q
    have c2 : Ev (fun k => impl_FamilyCost.f k zs q (bestB zs q) (chosen zs (bestB zs q) zs.length)) ((baseD zs q (bestB zs q)).1, (baseD zs q (bestB zs q)).2, true) := ev_cast (implFC_ev zs q _ _ (by omega) (by rw [chosen_length]; omega)) (if_pos ⟨ok.1, ok.2, bb, chosen_fac _⟩)
    rw [e]
    refine ev_pos rfl (ev_bind c2 (ev_pos rfl ?_))
    have := law_l0 (xs := xs) (j := j) (b := b) (fs := fs) ok.1 ok.2 6 0 (by decide)
    exact this
  · have e : ansBB zs q = (0, [], false) := if_neg ok
    rw [e]
    exact ev_neg (by simp) law_j1

end Go.Proofs.Ytpmcmaffjghiiaa.Pure
