/- The program's CycleCost and the reference's decide the same conditions and cut the same quotient by the same greatest common divisor. No conditions. -/
import Derived.Test.YtbbancmbmgbjkaaKit
import Derived.Test.YtbbancmbmgbjkaaXFnExactCycleCostx2
namespace Go.Proofs.Ytbbancmbmgbjkaa.Pure
set_option linter.unusedVariables false
open Go.RowKit Go.Proofs.Ytbbancmbmgbjkaa.PFnExactCycleCost Go.Proofs.YtbbancmbmgbjkaaW.PrintWords Go.Proofs.YtbbancmbmgbjkaaW.PrintLast Go.Proofs.Ytbbancmbmgbjkaa.Kit

theorem in_eq (a b c : Int) : spec_l1In.f a b c = some (decide (b ≤ a ∧ a ≤ c)) := by
  unfold spec_l1In.f
  by_cases h : b ≤ a <;> simp [h]
theorem within_eq (a b c : Int) : impl_within.f a b c = some (decide (b ≤ a ∧ a ≤ c)) := by
  unfold impl_within.f
  by_cases h : b ≤ a <;> simp [h]
theorem gcd_l0 (b : Nat) : ∀ a : Nat, Ev (fun k => spec_l8Gcd.l0 k (a : Int) (b : Int)) ((Nat.gcd a b : Nat) : Int) := by
  induction b using Nat.strongRecOn with
  | _ b ih =>
    intro a
    refine ev_succ ?_
    simp only [spec_l8Gcd.l0]
    by_cases h : b = 0
    · subst h
      exact ev_neg (by omega) (ev_cast (ev_some _) (by simp))
    · refine ev_pos (by omega) (ev_neg (by omega) ?_)
      have e : Int.tmod (a : Int) (b : Int) = ((a % b : Nat) : Int) := rfl
      rw [e]
      refine ev_cast (ih (a % b) (Nat.mod_lt _ (by omega)) b) ?_
      rw [Nat.gcd_comm b, ← Nat.gcd_rec, Nat.gcd_comm]
theorem gcd_ev (a b : Int) (ha : 0 ≤ a) (hb : 0 ≤ b) : Ev (fun k => spec_l8Gcd.f k a b) ((Nat.gcd a.toNat b.toNat : Nat) : Int) := by
  unfold spec_l8Gcd.f
  have := gcd_l0 b.toNat a.toNat
  rwa [Int.toNat_of_nonneg ha, Int.toNat_of_nonneg hb] at this
theorem divisor_l0 (b : Nat) : ∀ a : Nat, Ev (fun k => impl_divisor.l0 k (a : Int) (b : Int)) ((Nat.gcd a b : Nat) : Int) := by
  induction b using Nat.strongRecOn with
  | _ b ih =>
    intro a
    refine ev_succ ?_
    simp only [impl_divisor.l0]
    by_cases h : b = 0
    · subst h
      exact ev_pos (by omega) (ev_cast (ev_some _) (by simp))
    · refine ev_neg (by omega) ?_
      have e : Int.tmod (a : Int) (b : Int) = ((a % b : Nat) : Int) := rfl
      rw [e]
      refine ev_cast (ih (a % b) (Nat.mod_lt _ (by omega)) b) ?_
      rw [Nat.gcd_comm b, ← Nat.gcd_rec, Nat.gcd_comm]
theorem divisor_ev (a b : Int) (ha : 0 ≤ a) (hb : 0 ≤ b) : Ev (fun k => impl_divisor.f k a b) ((Nat.gcd a.toNat b.toNat : Nat) : Int) := by
  unfold impl_divisor.f
  have := divisor_l0 b.toNat a.toNat
  rwa [Int.toNat_of_nonneg ha, Int.toNat_of_nonneg hb] at this
/-- A quotient in lowest terms. -/
def fr (n d : Int) : Int × Int := (n / ((Nat.gcd n.toNat d.toNat : Nat) : Int), d / ((Nat.gcd n.toNat d.toNat : Nat) : Int))
theorem gcd_fr_pos {n d : Int} (hd : 0 < d) : 0 < ((Nat.gcd n.toNat d.toNat : Nat) : Int) := by
  have := Nat.gcd_pos_of_pos_right n.toNat (show 0 < d.toNat by omega)
  omega
theorem fr_in {n d : Int} (hn : 0 ≤ n) (hd : 0 < d) : 0 ≤ (fr n d).1 ∧ (fr n d).1 ≤ n ∧ 0 < (fr n d).2 ∧ (fr n d).2 ≤ d := by
  have hg := gcd_fr_pos (n := n) hd
  have hdv : ((Nat.gcd n.toNat d.toNat : Nat) : Int) ∣ d := by
    have h := Nat.gcd_dvd_right n.toNat d.toNat
    have h2 := Int.natCast_dvd_natCast.2 h
    rwa [Int.toNat_of_nonneg (by omega)] at h2
  refine ⟨Int.ediv_nonneg hn (by omega), Int.ediv_le_self _ hn, ?_, Int.ediv_le_self _ (by omega)⟩
  exact Int.ediv_pos_of_pos_of_dvd hd (by omega) hdv
theorem cut_ev (n d : Int) (hn : 0 ≤ n) (hn2 : n ≤ 9223372036854775807) (hd : 0 < d) (hd2 : d ≤ 9223372036854775807) : Ev (fun k => spec_l8Cut.f k n d) (fr n d) := by
  have hg := gcd_fr_pos (n := n) hd
  have h1 := fr_in hn hd
  unfold spec_l8Cut.f
  refine ev_bind (gcd_ev n d hn (by omega)) (ev_neg (by omega) (ev_cast (ev_some _) ?_))
  unfold fr at h1 ⊢
  simp only at h1
  rw [Int.tdiv_eq_ediv_of_nonneg hn, Int.tdiv_eq_ediv_of_nonneg (by omega), wid (by omega) (by omega), wid (by omega) (by omega)]
theorem fraction_ev (n d : Int) (hn : 0 ≤ n) (hn2 : n ≤ 9223372036854775807) (hd : 0 < d) (hd2 : d ≤ 9223372036854775807) : Ev (fun k => impl_fraction.f k n d) (fr n d) := by
  have hg := gcd_fr_pos (n := n) hd
  have h1 := fr_in hn hd
  unfold impl_fraction.f
  refine ev_bind (divisor_ev n d hn (by omega)) (ev_neg (by omega) (ev_cast (ev_some _) ?_))
  unfold fr at h1 ⊢
  simp only at h1
  rw [Int.tdiv_eq_ediv_of_nonneg hn, Int.tdiv_eq_ediv_of_nonneg (by omega), wid (by omega) (by omega), wid (by omega) (by omega)]
/-- What a valid item is. -/
def ItemOk (a b c d e : Int) : Prop := (1 ≤ a ∧ a ≤ 20) ∧ (1 ≤ b ∧ b ≤ 99) ∧ (1 ≤ c ∧ c ≤ 9) ∧ (a + 1 ≤ d ∧ d ≤ 40) ∧ (0 ≤ e ∧ e ≤ 9)
instance (a b c d e : Int) : Decidable (ItemOk a b c d e) := by unfold ItemOk; infer_instance
theorem specItem_eq (a b c d e : Int) : spec_l8Item.f a b c d e = some (decide (ItemOk a b c d e)) := by
  unfold spec_l8Item.f ItemOk
  simp only [in_eq, Option.bind_some]
  by_cases h1 : 1 ≤ a ∧ a ≤ 20
  · rw [show wrap64 (a + 1) = a + 1 from wid (by omega) (by omega)]
    by_cases h2 : 1 ≤ b ∧ b ≤ 99 <;> by_cases h3 : 1 ≤ c ∧ c ≤ 9 <;> by_cases h4 : a + 1 ≤ d ∧ d ≤ 40 <;> simp [h1, h2, h3, h4]
  · simp [h1]
theorem implItem_eq (a b c d e : Int) : impl_IsItem.f a b c d e = some (decide (ItemOk a b c d e)) := by
  unfold impl_IsItem.f ItemOk
  simp only [within_eq, Option.bind_some]
  by_cases h1 : 1 ≤ a ∧ a ≤ 20
  · rw [show wrap64 (a + 1) = a + 1 from wid (by omega) (by omega)]
    by_cases h2 : 1 ≤ b ∧ b ≤ 99 <;> by_cases h3 : 1 ≤ c ∧ c ≤ 9 <;> by_cases h4 : a + 1 ≤ d ∧ d ≤ 40 <;> simp [h1, h2, h3, h4]
  · simp [h1]
/-- The daily cost of an item. -/
def dcost (a b c cycle : Int) : Int × Int := fr (2 * b + c * a * cycle * cycle) (2 * cycle)
theorem daily_in {a b c d e cycle : Int} (h : ItemOk a b c d e) (h1 : 1 ≤ cycle) (h2 : cycle ≤ 256) :
    wrap64 ((wrap64 (2 * b)) + (wrap64 ((wrap64 ((wrap64 (c * a)) * cycle)) * cycle))) = 2 * b + c * a * cycle * cycle ∧ wrap64 (2 * cycle) = 2 * cycle ∧ 0 ≤ 2 * b + c * a * cycle * cycle ∧ 2 * b + c * a * cycle * cycle ≤ 12000000 := by
  obtain ⟨ha, hb, hc, _, _⟩ := h
  have m1 := mulb (a := c) (b := a) (A := 9) (B := 20) (by omega) (by omega) (by omega) (by omega)
  have m2 := mulb (a := c * a) (b := cycle) (A := 180) (B := 256) (by omega) (by omega) (by omega) (by omega)
  have m3 := mulb (a := c * a * cycle) (b := cycle) (A := 46080) (B := 256) (by omega) (by omega) (by omega) (by omega)
  rw [wid (x := c * a) (by omega) (by omega), wid (x := c * a * cycle) (by omega) (by omega), wid (x := c * a * cycle * cycle) (by omega) (by omega), wid (x := 2 * b) (by omega) (by omega), wid (by omega) (by omega), wid (by omega) (by omega)]
  exact ⟨rfl, rfl, by omega, by omega⟩
theorem specDaily_ev (a b c d e cycle : Int) (h : ItemOk a b c d e) (h1 : 1 ≤ cycle) (h2 : cycle ≤ 256) : Ev (fun k => spec_l8Daily.f k a b c d e cycle) (dcost a b c cycle) := by
  obtain ⟨e1, e2, e3, e4⟩ := daily_in h h1 h2
  unfold spec_l8Daily.f dcost
  rw [e1, e2]
  exact ev_bind (cut_ev _ _ e3 (by omega) (by omega) (by omega)) (ev_some _)
theorem implDaily_ev (a b c d e cycle : Int) (h : ItemOk a b c d e) (h1 : 1 ≤ cycle) (h2 : cycle ≤ 256) : Ev (fun k => impl_Item_daily.f k a b c d e cycle) (dcost a b c cycle) := by
  obtain ⟨e1, e2, e3, e4⟩ := daily_in h h1 h2
  unfold impl_Item_daily.f dcost
  rw [e1, e2]
  exact ev_bind (fraction_ev _ _ e3 (by omega) (by omega) (by omega)) (ev_some _)

def ans (a b c d e cycle : Int) : Int × Int × Bool := if ItemOk a b c d e ∧ 1 ≤ cycle ∧ cycle ≤ 64 then ((dcost a b c cycle).1, (dcost a b c cycle).2, true) else (0, 0, false)
theorem FnExactCycleCost (a0_0 : Int) (a0_1 : Int) (a0_2 : Int) (a0_3 : Int) (a0_4 : Int) (a1 : Int) (hw0_0 : (Lit.int .i64 a0_0).wf = true) (hw0_1 : (Lit.int .i64 a0_1).wf = true) (hw0_2 : (Lit.int .i64 a0_2).wf = true) (hw0_3 : (Lit.int .i64 a0_3).wf = true) (hw0_4 : (Lit.int .i64 a0_4).wf = true) (hw1 : (Lit.int .i64 a1).wf = true) :
    ∃ k, laws_FnExactCycleCost.f k a0_0 a0_1 a0_2 a0_3 a0_4 a1 = some true := by
  refine Ev.rounds ?_
  unfold laws_FnExactCycleCost.f laws_toItem.f
  simp only [Option.bind_some]
  have hs : Ev (fun k => spec_CycleCost.f k a0_0 a0_1 a0_2 a0_3 a0_4 a1) (ans a0_0 a0_1 a0_2 a0_3 a0_4 a1) := by
    unfold spec_CycleCost.f ans
    simp only [specItem_eq, in_eq, Option.bind_some]
    by_cases h : ItemOk a0_0 a0_1 a0_2 a0_3 a0_4
    · refine ev_pos (by simpa using h) ?_
      by_cases h2 : 1 ≤ a1 ∧ a1 ≤ 64
      · exact ev_cast (ev_pos (by simpa using h2) (ev_bind (specDaily_ev a0_0 a0_1 a0_2 a0_3 a0_4 a1 h h2.1 (by omega)) (ev_some _))) (if_pos ⟨h, h2⟩).symm
      · exact ev_cast (ev_neg (by simpa using h2) (ev_some _)) (if_neg fun x => h2 x.2).symm
    · exact ev_cast (ev_neg (by simpa using h) (ev_some _)) (if_neg fun x => h x.1).symm
  have hi : Ev (fun k => impl_CycleCost.f k a0_0 a0_1 a0_2 a0_3 a0_4 a1) (ans a0_0 a0_1 a0_2 a0_3 a0_4 a1) := by
    unfold impl_CycleCost.f ans
    simp only [implItem_eq, impl_isCycle.f, within_eq, Option.bind_some]
    by_cases h : ItemOk a0_0 a0_1 a0_2 a0_3 a0_4
    · refine ev_pos (by simpa using h) ?_
      by_cases h2 : 1 ≤ a1 ∧ a1 ≤ 64
      · exact ev_cast (ev_pos (by simpa using h2) (ev_bind (implDaily_ev a0_0 a0_1 a0_2 a0_3 a0_4 a1 h h2.1 (by omega)) (ev_some _))) (if_pos ⟨h, h2⟩).symm
      · exact ev_cast (ev_neg (by simpa using h2) (ev_some _)) (if_neg fun x => h2 x.2).symm
    · exact ev_cast (ev_neg (by simpa using h) (ev_some _)) (if_neg fun x => h x.1).symm
  refine ev_bind hs (ev_bind hi ?_)
  simp only [laws_eqIntA2.f, if_true, Option.bind_some, beq_self_eq_true]
  exact ev_neg (by simp) (ev_some _)

end Go.Proofs.Ytbbancmbmgbjkaa.Pure
