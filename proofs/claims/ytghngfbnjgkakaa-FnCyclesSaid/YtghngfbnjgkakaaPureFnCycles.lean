/- What FnCycles asks of cycles holds for every code: the best cycle is the first one with the least daily cost and lies between the products that bound it, the best power of 2 costs at most 10607 of 10000 parts of it. No conditions. -/
import Derived.Test.YtghngfbnjgkakaaKit
import Derived.Test.YtghngfbnjgkakaaXFnCyclesx6
namespace Go.Proofs.Ytghngfbnjgkakaa.Pure
set_option linter.unusedVariables false
open Go.RowKit Go.Proofs.Ytghngfbnjgkakaa.PFnCycles Go.Proofs.YtghngfbnjgkakaaW.PrintWords Go.Proofs.YtghngfbnjgkakaaW.PrintLast Go.Proofs.Ytghngfbnjgkakaa.Kit

theorem in_eq (a b c : Int) : spec_l1In.f a b c = some (decide (b ≤ a ∧ a ≤ c)) := by
  unfold spec_l1In.f
  by_cases h : b ≤ a <;> simp [h]
theorem within_eq (a b c : Int) : impl_within.f a b c = some (decide (b ≤ a ∧ a ≤ c)) := by
  unfold impl_within.f
  by_cases h : b ≤ a <;> simp [h]
theorem gcd_l0 (b : Nat) : ∀ a : Nat, Ev (fun k => spec_l8Gcd.l0 k (a : Int) (b : Int)) ((Nat.gcd a b : Nat) : Int) := by
  induction b using Nat.strongRecOn with
  | _ b ih =>
    intro a
    refine ev_succ ?_
    simp only [spec_l8Gcd.l0]
    by_cases h : b = 0
    · subst h
      exact ev_neg (by omega) (ev_cast (ev_some _) (by simp))
    · refine ev_pos (by omega) (ev_neg (by omega) ?_)
      have e : Int.tmod (a : Int) (b : Int) = ((a % b : Nat) : Int) := rfl
      rw [e]
      refine ev_cast (ih (a % b) (Nat.mod_lt _ (by omega)) b) ?_
      rw [Nat.gcd_comm b, ← Nat.gcd_rec, Nat.gcd_comm]
theorem gcd_ev (a b : Int) (ha : 0 ≤ a) (hb : 0 ≤ b) : Ev (fun k => spec_l8Gcd.f k a b) ((Nat.gcd a.toNat b.toNat : Nat) : Int) := by
  unfold spec_l8Gcd.f
  have := gcd_l0 b.toNat a.toNat
  rwa [Int.toNat_of_nonneg ha, Int.toNat_of_nonneg hb] at this
theorem divisor_l0 (b : Nat) : ∀ a : Nat, Ev (fun k => impl_divisor.l0 k (a : Int) (b : Int)) ((Nat.gcd a b : Nat) : Int) := by
  induction b using Nat.strongRecOn with
  | _ b ih =>
    intro a
    refine ev_succ ?_
    simp only [impl_divisor.l0]
    by_cases h : b = 0
    · subst h
      exact ev_pos (by omega) (ev_cast (ev_some _) (by simp))
    · refine ev_neg (by omega) ?_
      have e : Int.tmod (a : Int) (b : Int) = ((a % b : Nat) : Int) := rfl
      rw [e]
      refine ev_cast (ih (a % b) (Nat.mod_lt _ (by omega)) b) ?_
      rw [Nat.gcd_comm b, ← Nat.gcd_rec, Nat.gcd_comm]
theorem divisor_ev (a b : Int) (ha : 0 ≤ a) (hb : 0 ≤ b) : Ev (fun k => impl_divisor.f k a b) ((Nat.gcd a.toNat b.toNat : Nat) : Int) := by
  unfold impl_divisor.f
  have := divisor_l0 b.toNat a.toNat
  rwa [Int.toNat_of_nonneg ha, Int.toNat_of_nonneg hb] at this
/-- A quotient in lowest terms. -/
def fr (n d : Int) : Int × Int := (n / ((Nat.gcd n.toNat d.toNat : Nat) : Int), d / ((Nat.gcd n.toNat d.toNat : Nat) : Int))
theorem gcd_fr_pos {n d : Int} (hd : 0 < d) : 0 < ((Nat.gcd n.toNat d.toNat : Nat) : Int) := by
  have := Nat.gcd_pos_of_pos_right n.toNat (show 0 < d.toNat by omega)
  omega
theorem fr_in {n d : Int} (hn : 0 ≤ n) (hd : 0 < d) : 0 ≤ (fr n d).1 ∧ (fr n d).1 ≤ n ∧ 0 < (fr n d).2 ∧ (fr n d).2 ≤ d := by
  have hg := gcd_fr_pos (n := n) hd
  have hdv : ((Nat.gcd n.toNat d.toNat : Nat) : Int) ∣ d := by
    have h := Nat.gcd_dvd_right n.toNat d.toNat
    have h2 := Int.natCast_dvd_natCast.2 h
    rwa [Int.toNat_of_nonneg (by omega)] at h2
  refine ⟨Int.ediv_nonneg hn (by omega), Int.ediv_le_self _ hn, ?_, Int.ediv_le_self _ (by omega)⟩
  exact Int.ediv_pos_of_pos_of_dvd hd (by omega) hdv
theorem cut_ev (n d : Int) (hn : 0 ≤ n) (hn2 : n ≤ 9223372036854775807) (hd : 0 < d) (hd2 : d ≤ 9223372036854775807) : Ev (fun k => spec_l8Cut.f k n d) (fr n d) := by
  have hg := gcd_fr_pos (n := n) hd
  have h1 := fr_in hn hd
  unfold spec_l8Cut.f
  refine ev_bind (gcd_ev n d hn (by omega)) (ev_neg (by omega) (ev_cast (ev_some _) ?_))
  unfold fr at h1 ⊢
  simp only at h1
  rw [Int.tdiv_eq_ediv_of_nonneg hn, Int.tdiv_eq_ediv_of_nonneg (by omega), wid (by omega) (by omega), wid (by omega) (by omega)]
theorem fraction_ev (n d : Int) (hn : 0 ≤ n) (hn2 : n ≤ 9223372036854775807) (hd : 0 < d) (hd2 : d ≤ 9223372036854775807) : Ev (fun k => impl_fraction.f k n d) (fr n d) := by
  have hg := gcd_fr_pos (n := n) hd
  have h1 := fr_in hn hd
  unfold impl_fraction.f
  refine ev_bind (divisor_ev n d hn (by omega)) (ev_neg (by omega) (ev_cast (ev_some _) ?_))
  unfold fr at h1 ⊢
  simp only at h1
  rw [Int.tdiv_eq_ediv_of_nonneg hn, Int.tdiv_eq_ediv_of_nonneg (by omega), wid (by omega) (by omega), wid (by omega) (by omega)]
/-- What a valid item is. -/
def ItemOk (a b c d e : Int) : Prop := (1 ≤ a ∧ a ≤ 20) ∧ (1 ≤ b ∧ b ≤ 99) ∧ (1 ≤ c ∧ c ≤ 9) ∧ (a + 1 ≤ d ∧ d ≤ 40) ∧ (0 ≤ e ∧ e ≤ 9)
instance (a b c d e : Int) : Decidable (ItemOk a b c d e) := by unfold ItemOk; infer_instance
theorem specItem_eq (a b c d e : Int) : spec_l8Item.f a b c d e = some (decide (ItemOk a b c d e)) := by
  unfold spec_l8Item.f ItemOk
  simp only [in_eq, Option.bind_some]
  by_cases h1 : 1 ≤ a ∧ a ≤ 20
  · rw [show wrap64 (a + 1) = a + 1 from wid (by omega) (by omega)]
    by_cases h2 : 1 ≤ b ∧ b ≤ 99 <;> by_cases h3 : 1 ≤ c ∧ c ≤ 9 <;> by_cases h4 : a + 1 ≤ d ∧ d ≤ 40 <;> simp [h1, h2, h3, h4]
  · simp [h1]
theorem implItem_eq (a b c d e : Int) : impl_IsItem.f a b c d e = some (decide (ItemOk a b c d e)) := by
  unfold impl_IsItem.f ItemOk
  simp only [within_eq, Option.bind_some]
  by_cases h1 : 1 ≤ a ∧ a ≤ 20
  · rw [show wrap64 (a + 1) = a + 1 from wid (by omega) (by omega)]
    by_cases h2 : 1 ≤ b ∧ b ≤ 99 <;> by_cases h3 : 1 ≤ c ∧ c ≤ 9 <;> by_cases h4 : a + 1 ≤ d ∧ d ≤ 40 <;> simp [h1, h2, h3, h4]
  · simp [h1]
/-- The daily cost of an item. -/
def dcost (a b c cycle : Int) : Int × Int := fr (2 * b + c * a * cycle * cycle) (2 * cycle)
theorem daily_in {a b c d e cycle : Int} (h : ItemOk a b c d e) (h1 : 1 ≤ cycle) (h2 : cycle ≤ 256) :
    wrap64 ((wrap64 (2 * b)) + (wrap64 ((wrap64 ((wrap64 (c * a)) * cycle)) * cycle))) = 2 * b + c * a * cycle * cycle ∧ wrap64 (2 * cycle) = 2 * cycle ∧ 0 ≤ 2 * b + c * a * cycle * cycle ∧ 2 * b + c * a * cycle * cycle ≤ 12000000 := by
  obtain ⟨ha, hb, hc, _, _⟩ := h
  have m1 := mulb (a := c) (b := a) (A := 9) (B := 20) (by omega) (by omega) (by omega) (by omega)
  have m2 := mulb (a := c * a) (b := cycle) (A := 180) (B := 256) (by omega) (by omega) (by omega) (by omega)
  have m3 := mulb (a := c * a * cycle) (b := cycle) (A := 46080) (B := 256) (by omega) (by omega) (by omega) (by omega)
  rw [wid (x := c * a) (by omega) (by omega), wid (x := c * a * cycle) (by omega) (by omega), wid (x := c * a * cycle * cycle) (by omega) (by omega), wid (x := 2 * b) (by omega) (by omega), wid (by omega) (by omega), wid (by omega) (by omega)]
  exact ⟨rfl, rfl, by omega, by omega⟩
theorem specDaily_ev (a b c d e cycle : Int) (h : ItemOk a b c d e) (h1 : 1 ≤ cycle) (h2 : cycle ≤ 256) : Ev (fun k => spec_l8Daily.f k a b c d e cycle) (dcost a b c cycle) := by
  obtain ⟨e1, e2, e3, e4⟩ := daily_in h h1 h2
  unfold spec_l8Daily.f dcost
  rw [e1, e2]
  exact ev_bind (cut_ev _ _ e3 (by omega) (by omega) (by omega)) (ev_some _)
theorem implDaily_ev (a b c d e cycle : Int) (h : ItemOk a b c d e) (h1 : 1 ≤ cycle) (h2 : cycle ≤ 256) : Ev (fun k => impl_Item_daily.f k a b c d e cycle) (dcost a b c cycle) := by
  obtain ⟨e1, e2, e3, e4⟩ := daily_in h h1 h2
  unfold impl_Item_daily.f dcost
  rw [e1, e2]
  exact ev_bind (fraction_ev _ _ e3 (by omega) (by omega) (by omega)) (ev_some _)
/-- A cost of moderate size; the order of costs; the first number with the least cost. -/
def Mod (x : Int × Int) : Prop := 0 ≤ x.1 ∧ x.1 ≤ 30000000000 ∧ 0 < x.2 ∧ x.2 ≤ 300000
def ltF (x y : Int × Int) : Bool := decide (x.1 * y.2 < y.1 * x.2)
def bestF (D : Int → Int × Int) : Int → List Int → Int
  | b, [] => b
  | b, n :: ns => bestF D (if ltF (D n) (D b) = true then n else b) ns
theorem mod_mul {x y : Int × Int} (hx : Mod x) (hy : Mod y) : wrap64 (x.1 * y.2) = x.1 * y.2 := by
  obtain ⟨a1, a2, a3, a4⟩ := hx
  obtain ⟨b1, b2, b3, b4⟩ := hy
  have := mulb a1 a2 (show 0 ≤ y.2 by omega) b4
  exact wid (by omega) (by omega)
theorem implLess_eq {x y : Int × Int} (hx : Mod x) (hy : Mod y) : impl_less.f x.1 x.2 y.1 y.2 = some (ltF x y) := by
  unfold impl_less.f ltF
  rw [mod_mul hx hy, mod_mul hy hx]
theorem specLess_eq {x y : Int × Int} (hx : Mod x) (hy : Mod y) : spec_l8Less.f x.1 x.2 y.1 y.2 = some (ltF x y) := by
  unfold spec_l8Less.f ltF
  rw [mod_mul hx hy, mod_mul hy hx]
theorem ev_shift {α : Type} {g : Nat → Option α} {r : α} (h : Ev g r) : Ev (fun k => g (k + 1)) r := by
  obtain ⟨n, h⟩ := h
  exact ⟨n, fun k hk => h (k + 1) (by omega)⟩
theorem cheapest_l0 {S : Int → Prop} {D : Int → Int × Int} (hD : ∀ n, S n → Mod (D n)) (xs : List Int) (hS : ∀ x ∈ xs, S x) (hl : xs.length ≤ 1000000) (d : Nat) : ∀ (G : Nat → Int → Option (Int × Int)), (∀ n, S n → Ev (fun k => G k n) (D n)) → ∀ (i : Nat) (b : Int), S b → i + d = xs.length →
    Ev (fun k => impl_cheapest.l0 (G k) k b xs (xs.length : Int) (i : Int)) (bestF D b (xs.drop i)) := by
  induction d with
  | zero =>
    intro G hG i b hb hi
    refine ev_succ ?_
    simp only [impl_cheapest.l0]
    refine ev_neg (by omega) ?_
    rw [List.drop_of_length_le (by omega)]
    exact ev_some _
  | succ d ih =>
    intro G hG i b hb hi
    have hx : S (rd xs (i : Int)) := by rw [rd_nat xs i (by omega)]; exact hS _ (List.getElem_mem _)
    have hw : wrap64 ((i : Int) + 1) = ((i + 1 : Nat) : Int) := by rw [wid (by omega) (by omega)]; omega
    refine ev_succ ?_
    simp only [impl_cheapest.l0]
    rw [hw, drop_rd xs i (by omega)]
    refine ev_pos (by omega) (ev_pos (by omega) (ev_pos (by omega) ?_))
    refine ev_bind (ev_shift (hG _ hx)) (ev_bind (ev_shift (hG _ hb)) ?_)
    rw [implLess_eq (hD _ hx) (hD _ hb)]
    simp only [Option.bind_some, bestF]
    by_cases h : ltF (D (rd xs (i : Int))) (D b) = true
    · rw [if_pos h]
      exact ev_pos h (ih (fun k => G (k + 1)) (fun n hn => ev_shift (hG n hn)) (i + 1) _ hx (by omega))
    · rw [if_neg h]
      exact ev_neg h (ih (fun k => G (k + 1)) (fun n hn => ev_shift (hG n hn)) (i + 1) _ hb (by omega))
theorem cheapest_ev {S : Int → Prop} {D : Int → Int × Int} (hD : ∀ n, S n → Mod (D n)) (x : Int) (xs : List Int) (hS : ∀ y ∈ x :: xs, S y) (hl : xs.length ≤ 1000000) (G : Nat → Int → Option (Int × Int)) (hG : ∀ n, S n → Ev (fun k => G k n) (D n)) :
    Ev (fun k => impl_cheapest.f k (x :: xs) (G k)) (bestF D x xs) := by
  unfold impl_cheapest.f
  refine ev_pos (by simp only [List.length_cons]; omega) (ev_pos (by simp only [List.length_cons]; omega) ?_)
  exact cheapest_l0 hD xs (fun y hy => hS y (List.mem_cons_of_mem _ hy)) hl xs.length G hG 0 x (hS x (by simp)) (by omega)
theorem dcost_mod {a b c d e cycle : Int} (h : ItemOk a b c d e) (h1 : 1 ≤ cycle) (h2 : cycle ≤ 256) : Mod (dcost a b c cycle) := by
  obtain ⟨_, _, e3, e4⟩ := daily_in h h1 h2
  have := fr_in e3 (show 0 < 2 * cycle by omega)
  unfold dcost Mod
  omega
/-- d numbers from c on. -/
def upSeq : Nat → Int → List Int
  | 0, _ => []
  | d + 1, c => c :: upSeq d (c + 1)
theorem upSeq_in (d : Nat) : ∀ c x, x ∈ upSeq d c → c ≤ x ∧ x < c + d := by
  induction d with
  | zero => intro c x h; simp [upSeq] at h
  | succ d ih =>
    intro c x h
    simp only [upSeq, List.mem_cons] at h
    rcases h with h | h
    · omega
    · have := ih _ _ h; omega
theorem upSeq_len (d : Nat) : ∀ c, (upSeq d c).length = d := by
  induction d with
  | zero => intro c; rfl
  | succ d ih => intro c; simp [upSeq, ih]
theorem upFrom_l0 (n : Int) (hn : n ≤ 1000000) (d : Nat) : ∀ (i : Int) (xs : List Int), 0 ≤ i → i + d = n → (xs.length : Int) = i → Ev (fun k => impl_upFrom.l0 k xs n i) (xs ++ upSeq d (i + 1)) := by
  induction d with
  | zero =>
    intro i xs h0 hi hx
    refine ev_succ ?_
    simp only [impl_upFrom.l0, upSeq, List.append_nil]
    exact ev_neg (by omega) (ev_some _)
  | succ d ih =>
    intro i xs h0 hi hx
    have hw : wrap64 (i + 1) = i + 1 := wid (by omega) (by omega)
    refine ev_succ ?_
    simp only [impl_upFrom.l0]
    rw [hw]
    refine ev_pos (by omega) (ev_pos (by omega) (ev_cast (ih (i + 1) _ (by omega) (by omega) (by simp; omega)) ?_))
    simp [upSeq]
theorem upFrom_ev (d : Nat) (hd : d ≤ 1000000) : Ev (fun k => impl_upFrom.f k (d : Int)) (upSeq d 1) := by
  unfold impl_upFrom.f
  exact ev_cast (upFrom_l0 (d : Int) (by omega) d 0 [] (by omega) (by omega) (by simp)) (by simp)
/-- What CycleCost returns. -/
def cycAns (a b c d e cycle : Int) : Int × Int × Bool := if ItemOk a b c d e ∧ 1 ≤ cycle ∧ cycle ≤ 64 then ((dcost a b c cycle).1, (dcost a b c cycle).2, true) else (0, 0, false)
theorem specCycleCost_ev (a0_0 a0_1 a0_2 a0_3 a0_4 a1 : Int) : Ev (fun k => spec_CycleCost.f k a0_0 a0_1 a0_2 a0_3 a0_4 a1) (cycAns a0_0 a0_1 a0_2 a0_3 a0_4 a1) := by
  unfold spec_CycleCost.f cycAns
  simp only [specItem_eq, in_eq, Option.bind_some]
  by_cases h : ItemOk a0_0 a0_1 a0_2 a0_3 a0_4
  · refine ev_pos (by simpa using h) ?_
    by_cases h2 : 1 ≤ a1 ∧ a1 ≤ 64
    · exact ev_cast (ev_pos (by simpa using h2) (ev_bind (specDaily_ev a0_0 a0_1 a0_2 a0_3 a0_4 a1 h h2.1 (by omega)) (ev_some _))) (if_pos ⟨h, h2⟩).symm
    · exact ev_cast (ev_neg (by simpa using h2) (ev_some _)) (if_neg fun x => h2 x.2).symm
  · exact ev_cast (ev_neg (by simpa using h) (ev_some _)) (if_neg fun x => h x.1).symm
theorem implCycleCost_ev (a0_0 a0_1 a0_2 a0_3 a0_4 a1 : Int) : Ev (fun k => impl_CycleCost.f k a0_0 a0_1 a0_2 a0_3 a0_4 a1) (cycAns a0_0 a0_1 a0_2 a0_3 a0_4 a1) := by
  unfold impl_CycleCost.f cycAns
  simp only [implItem_eq, impl_isCycle.f, within_eq, Option.bind_some]
  by_cases h : ItemOk a0_0 a0_1 a0_2 a0_3 a0_4
  · refine ev_pos (by simpa using h) ?_
    by_cases h2 : 1 ≤ a1 ∧ a1 ≤ 64
    · exact ev_cast (ev_pos (by simpa using h2) (ev_bind (implDaily_ev a0_0 a0_1 a0_2 a0_3 a0_4 a1 h h2.1 (by omega)) (ev_some _))) (if_pos ⟨h, h2⟩).symm
    · exact ev_cast (ev_neg (by simpa using h2) (ev_some _)) (if_neg fun x => h2 x.2).symm
  · exact ev_cast (ev_neg (by simpa using h) (ev_some _)) (if_neg fun x => h x.1).symm
/-- What BestCycle returns. -/
def bestAns (a b c d e : Int) : Int × Bool := if ItemOk a b c d e then (bestF (dcost a b c) 1 (upSeq 63 2), true) else (0, false)
theorem specBestCycle_l0 {a b c d e : Int} (h : ItemOk a b c d e) (m : Nat) : ∀ (x n : Int), 1 ≤ x ∧ x ≤ 64 → 1 ≤ n → n + m = 65 → Ev (fun k => spec_l8Best.l0 k x n a b c d e) (bestF (dcost a b c) x (upSeq m n)) := by
  induction m with
  | zero =>
    intro x n hx h1 hn
    refine ev_succ ?_
    simp only [spec_l8Best.l0, upSeq, bestF]
    exact ev_neg (by omega) (ev_some _)
  | succ m ih =>
    intro x n hx h1 hn
    have q1 : n ≤ 64 := by omega
    have q2 : 1 ≤ n + 1 := by omega
    have q3 : n + 1 + m = 65 := by omega
    have m1 := dcost_mod h h1 (show n ≤ 256 by omega)
    have m2 := dcost_mod h hx.1 (show x ≤ 256 by omega)
    have hw : wrap64 (n + 1) = n + 1 := wid (by omega) (by omega)
    refine ev_succ ?_
    simp only [spec_l8Best.l0, upSeq, bestF]
    rw [hw]
    refine ev_pos q1 (ev_bind (specDaily_ev a b c d e n h h1 (by omega)) (ev_bind (specDaily_ev a b c d e x h hx.1 (by omega)) ?_))
    rw [specLess_eq m1 m2]
    simp only [Option.bind_some]
    by_cases hl : ltF (dcost a b c n) (dcost a b c x) = true
    · rw [if_pos hl]
      exact ev_pos hl (ih n (n + 1) ⟨h1, q1⟩ q2 q3)
    · rw [if_neg hl]
      exact ev_neg hl (ih x (n + 1) hx q2 q3)
theorem specBestCycle_ev (a0_0 a0_1 a0_2 a0_3 a0_4 : Int) : Ev (fun k => spec_BestCycle.f k a0_0 a0_1 a0_2 a0_3 a0_4) (bestAns a0_0 a0_1 a0_2 a0_3 a0_4) := by
  unfold spec_BestCycle.f bestAns spec_l8Best.f
  simp only [specItem_eq, Option.bind_some]
  by_cases h : ItemOk a0_0 a0_1 a0_2 a0_3 a0_4
  · refine ev_cast (ev_pos (decide_eq_true h) ?_) (if_pos h).symm
    exact ev_bind (specBestCycle_l0 h 63 1 2 (by decide) (by decide) (by decide)) (ev_some _)
  · exact ev_cast (ev_neg (by rw [decide_eq_true_eq]; exact h) (ev_some _)) (if_neg h).symm
theorem implBestCycle_ev (a0_0 a0_1 a0_2 a0_3 a0_4 : Int) : Ev (fun k => impl_BestCycle.f k a0_0 a0_1 a0_2 a0_3 a0_4) (bestAns a0_0 a0_1 a0_2 a0_3 a0_4) := by
  unfold impl_BestCycle.f bestAns
  simp only [implItem_eq, Option.bind_some]
  by_cases h : ItemOk a0_0 a0_1 a0_2 a0_3 a0_4
  · refine ev_cast (ev_pos (decide_eq_true h) ?_) (if_pos h).symm
    refine ev_bind (upFrom_ev 64 (by decide)) ?_
    have hS : ∀ y ∈ (1 : Int) :: upSeq 63 2, 1 ≤ y ∧ y ≤ 64 := by
      intro y hy
      have := upSeq_in 64 1 y hy
      omega
    have hL : (upSeq 63 2).length ≤ 1000000 := by rw [upSeq_len]; decide
    exact ev_bind (cheapest_ev (S := fun n => 1 ≤ n ∧ n ≤ 64) (fun n hn => dcost_mod h hn.1 (by omega)) 1 (upSeq 63 2) hS hL (fun k n => impl_Item_daily.f k a0_0 a0_1 a0_2 a0_3 a0_4 n) (fun n hn => implDaily_ev a0_0 a0_1 a0_2 a0_3 a0_4 n h hn.1 (by omega))) (ev_some _)
  · exact ev_cast (ev_neg (by rw [decide_eq_true_eq]; exact h) (ev_some _)) (if_neg h).symm
/-- What PowerCycle returns. -/
def powAns (a b c d e : Int) : Int × Bool := if ItemOk a b c d e then (bestF (dcost a b c) 1 [2, 4, 8, 16, 32, 64], true) else (0, false)
theorem pick_in {P : Prop} [Decidable P] {n b : Int} (hn : 1 ≤ n ∧ n ≤ 64) (hb : 1 ≤ b ∧ b ≤ 64) : 1 ≤ (if P then n else b) ∧ (if P then n else b) ≤ 64 := by
  split
  · exact hn
  · exact hb
theorem specPowerCycle_step {a b c d e : Int} (h : ItemOk a b c d e) (x n : Int) (hx : 1 ≤ x ∧ x ≤ 64) (hn : 1 ≤ n ∧ n ≤ 64) {r : Int × Bool}
    (k : Ev (fun k => spec_PowerCycle.l0 k (if ltF (dcost a b c n) (dcost a b c x) = true then n else x) (2 * n) a b c d e) r) :
    Ev (fun k => spec_PowerCycle.l0 k x n a b c d e) r := by
  have m1 := dcost_mod h hn.1 (show n ≤ 256 by omega)
  have m2 := dcost_mod h hx.1 (show x ≤ 256 by omega)
  have hw : wrap64 (2 * n) = 2 * n := wid (by omega) (by omega)
  refine ev_succ ?_
  simp only [spec_PowerCycle.l0]
  rw [hw]
  refine ev_pos hn.2 (ev_bind (specDaily_ev a b c d e n h hn.1 (by omega)) (ev_bind (specDaily_ev a b c d e x h hx.1 (by omega)) ?_))
  rw [specLess_eq m1 m2]
  simp only [Option.bind_some]
  by_cases hl : ltF (dcost a b c n) (dcost a b c x) = true
  · rw [if_pos hl] at k
    exact ev_pos hl k
  · rw [if_neg hl] at k
    exact ev_neg hl k
theorem specPowerCycle_ev (a0_0 a0_1 a0_2 a0_3 a0_4 : Int) : Ev (fun k => spec_PowerCycle.f k a0_0 a0_1 a0_2 a0_3 a0_4) (powAns a0_0 a0_1 a0_2 a0_3 a0_4) := by
  unfold spec_PowerCycle.f powAns
  simp only [specItem_eq, Option.bind_some]
  by_cases h : ItemOk a0_0 a0_1 a0_2 a0_3 a0_4
  · refine ev_cast (ev_pos (decide_eq_true h) ?_) (if_pos h).symm
    simp only [bestF]
    have one : (1 : Int) ≤ 1 ∧ (1 : Int) ≤ 64 := by decide
    refine specPowerCycle_step h _ 2 one (by decide) ?_
    have p2 := pick_in (P := ltF (dcost a0_0 a0_1 a0_2 2) (dcost a0_0 a0_1 a0_2 1) = true) (n := 2) (by decide) one
    generalize (if ltF (dcost a0_0 a0_1 a0_2 2) (dcost a0_0 a0_1 a0_2 1) = true then (2 : Int) else 1) = b2 at p2 ⊢
    refine specPowerCycle_step h b2 4 p2 (by decide) ?_
    have p4 := pick_in (P := ltF (dcost a0_0 a0_1 a0_2 4) (dcost a0_0 a0_1 a0_2 b2) = true) (n := 4) (by decide) p2
    generalize (if ltF (dcost a0_0 a0_1 a0_2 4) (dcost a0_0 a0_1 a0_2 b2) = true then (4 : Int) else b2) = b4 at p4 ⊢
    refine specPowerCycle_step h b4 8 p4 (by decide) ?_
    have p8 := pick_in (P := ltF (dcost a0_0 a0_1 a0_2 8) (dcost a0_0 a0_1 a0_2 b4) = true) (n := 8) (by decide) p4
    generalize (if ltF (dcost a0_0 a0_1 a0_2 8) (dcost a0_0 a0_1 a0_2 b4) = true then (8 : Int) else b4) = b8 at p8 ⊢
    refine specPowerCycle_step h b8 16 p8 (by decide) ?_
    have p16 := pick_in (P := ltF (dcost a0_0 a0_1 a0_2 16) (dcost a0_0 a0_1 a0_2 b8) = true) (n := 16) (by decide) p8
    generalize (if ltF (dcost a0_0 a0_1 a0_2 16) (dcost a0_0 a0_1 a0_2 b8) = true then (16 : Int) else b8) = b16 at p16 ⊢
    refine specPowerCycle_step h b16 32 p16 (by decide) ?_
    have p32 := pick_in (P := ltF (dcost a0_0 a0_1 a0_2 32) (dcost a0_0 a0_1 a0_2 b16) = true) (n := 32) (by decide) p16
    generalize (if ltF (dcost a0_0 a0_1 a0_2 32) (dcost a0_0 a0_1 a0_2 b16) = true then (32 : Int) else b16) = b32 at p32 ⊢
    refine specPowerCycle_step h b32 64 p32 (by decide) ?_
    refine ev_succ ?_
    simp only [spec_PowerCycle.l0]
    exact ev_neg (by decide) (ev_some _)
  · exact ev_cast (ev_neg (by rw [decide_eq_true_eq]; exact h) (ev_some _)) (if_neg h).symm
theorem implPowerCycle_ev (a0_0 a0_1 a0_2 a0_3 a0_4 : Int) : Ev (fun k => impl_PowerCycle.f k a0_0 a0_1 a0_2 a0_3 a0_4) (powAns a0_0 a0_1 a0_2 a0_3 a0_4) := by
  unfold impl_PowerCycle.f powAns
  simp only [implItem_eq, Option.bind_some]
  by_cases h : ItemOk a0_0 a0_1 a0_2 a0_3 a0_4
  · refine ev_cast (ev_pos (decide_eq_true h) ?_) (if_pos h).symm
    exact ev_bind (cheapest_ev (S := fun n => 1 ≤ n ∧ n ≤ 64) (fun n hn => dcost_mod h hn.1 (by omega)) 1 [2, 4, 8, 16, 32, 64] (by decide) (by decide) (fun k n => impl_Item_daily.f k a0_0 a0_1 a0_2 a0_3 a0_4 n) (fun n hn => implDaily_ev a0_0 a0_1 a0_2 a0_3 a0_4 n h hn.1 (by omega))) (ev_some _)
  · exact ev_cast (ev_neg (by rw [decide_eq_true_eq]; exact h) (ev_some _)) (if_neg h).symm
/-- The order of quotients by cross products. -/
def leF (x y : Int × Int) : Prop := x.1 * y.2 ≤ y.1 * x.2
instance (x y : Int × Int) : Decidable (leF x y) := by unfold leF; infer_instance
theorem ltF_iff (x y : Int × Int) : ltF x y = true ↔ ¬ leF y x := by
  unfold ltF leF
  rw [decide_eq_true_eq]
  omega
theorem ltF_false {x y : Int × Int} (h : leF y x) : ltF x y = false := by
  cases e : ltF x y with
  | false => rfl
  | true => exact absurd h ((ltF_iff x y).1 e)
theorem leF_refl (x : Int × Int) : leF x x := Int.le_refl _
theorem leF_total (x y : Int × Int) : leF x y ∨ leF y x := by unfold leF; omega
/-- c times x is at most d times y. -/
def leS (c d : Int) (x y : Int × Int) : Prop := c * (x.1 * y.2) ≤ d * (y.1 * x.2)
theorem leS_one {x y : Int × Int} (h : leF x y) (c : Int) (hc : 0 ≤ c) : leS c c x y := Int.mul_le_mul_of_nonneg_left h hc
theorem leS_trans {a b c : Int} {x y z : Int × Int} (hx : 0 < x.2) (hy : 0 < y.2) (hz : 0 < z.2) (h1 : leS a b x y) (h2 : leS b c y z) : leS a c x z := by
  unfold leS at *
  have m1 := Int.mul_le_mul_of_nonneg_right h1 (Int.le_of_lt hz)
  have m2 := Int.mul_le_mul_of_nonneg_right h2 (Int.le_of_lt hx)
  have e1 : a * (x.1 * y.2) * z.2 = a * (x.1 * z.2) * y.2 := by grind
  have e2 : b * (y.1 * x.2) * z.2 = b * (y.1 * z.2) * x.2 := by grind
  have e3 : c * (z.1 * y.2) * x.2 = c * (z.1 * x.2) * y.2 := by grind
  exact Int.le_of_mul_le_mul_right (by omega) hy
theorem leF_trans {x y z : Int × Int} (hx : 0 < x.2) (hy : 0 < y.2) (hz : 0 < z.2) (h1 : leF x y) (h2 : leF y z) : leF x z := by
  have h := leS_trans (a := 1) (b := 1) (c := 1) hx hy hz (leS_one h1 1 (by decide)) (leS_one h2 1 (by decide))
  unfold leS at h
  unfold leF
  omega
/-- A quotient in lowest terms is the quotient. -/
theorem fr_mul {n d : Int} (hn : 0 ≤ n) (hd : 0 < d) : ∃ g : Int, 0 < g ∧ n = (fr n d).1 * g ∧ d = (fr n d).2 * g := by
  have hg := gcd_fr_pos (n := n) hd
  have h1 : ((Nat.gcd n.toNat d.toNat : Nat) : Int) ∣ d := by
    have h := Int.natCast_dvd_natCast.2 (Nat.gcd_dvd_right n.toNat d.toNat)
    rwa [Int.toNat_of_nonneg (by omega)] at h
  have h2 : ((Nat.gcd n.toNat d.toNat : Nat) : Int) ∣ n := by
    have h := Int.natCast_dvd_natCast.2 (Nat.gcd_dvd_left n.toNat d.toNat)
    rwa [Int.toNat_of_nonneg hn] at h
  exact ⟨_, hg, (Int.ediv_mul_cancel h2).symm, (Int.ediv_mul_cancel h1).symm⟩
theorem leS_fr {c k n1 d1 n2 d2 : Int} (h1 : 0 < d1) (h2 : 0 < d2) (hn1 : 0 ≤ n1) (hn2 : 0 ≤ n2) : leS c k (fr n1 d1) (fr n2 d2) ↔ c * (n1 * d2) ≤ k * (n2 * d1) := by
  obtain ⟨g1, p1, a1, b1⟩ := fr_mul hn1 h1
  obtain ⟨g2, p2, a2, b2⟩ := fr_mul hn2 h2
  have hp := Int.mul_pos p1 p2
  unfold leS
  generalize fr n1 d1 = x at a1 b1 ⊢
  generalize fr n2 d2 = y at a2 b2 ⊢
  have e1 : c * (n1 * d2) = c * (x.1 * y.2) * (g1 * g2) := by rw [a1, b2]; grind
  have e2 : k * (n2 * d1) = k * (y.1 * x.2) * (g1 * g2) := by rw [a2, b1]; grind
  rw [e1, e2]
  exact ⟨fun h => Int.mul_le_mul_of_nonneg_right h (by omega), fun h => Int.le_of_mul_le_mul_right h hp⟩
theorem leF_fr {n1 d1 n2 d2 : Int} (h1 : 0 < d1) (h2 : 0 < d2) (hn1 : 0 ≤ n1) (hn2 : 0 ≤ n2) : leF (fr n1 d1) (fr n2 d2) ↔ n1 * d2 ≤ n2 * d1 := by
  have h := leS_fr (c := 1) (k := 1) h1 h2 hn1 hn2
  unfold leS at h
  unfold leF
  rw [Int.one_mul, Int.one_mul, Int.one_mul, Int.one_mul] at h
  exact h
theorem mem_skip {x b m : Int} {ns : List Int} (h : x ∈ b :: ns) : x ∈ b :: m :: ns := by
  rcases List.mem_cons.1 h with e | e
  · rw [e]; exact List.mem_cons_self
  · exact List.mem_cons_of_mem _ (List.mem_cons_of_mem _ e)
/-- The first number with the least cost costs no more than each other one. -/
theorem bestF_mem (D : Int → Int × Int) (ns : List Int) : ∀ b, bestF D b ns ∈ b :: ns := by
  induction ns with
  | nil => intro b; simp [bestF]
  | cons n ns ih =>
    intro b
    have h := ih (if ltF (D n) (D b) = true then n else b)
    simp only [bestF]
    rw [List.mem_cons] at h ⊢
    rw [List.mem_cons]
    rcases h with h | h
    · rw [h]
      split
      · exact Or.inr (Or.inl rfl)
      · exact Or.inl rfl
    · exact Or.inr (Or.inr h)
theorem bestF_le {D : Int → Int × Int} {S : Int → Prop} (hD : ∀ n, S n → 0 < (D n).2) (ns : List Int) : ∀ b, (∀ n ∈ b :: ns, S n) → ∀ n ∈ b :: ns, leF (D (bestF D b ns)) (D n) := by
  induction ns with
  | nil =>
    intro b hS n hn
    rw [List.mem_singleton] at hn
    rw [hn]
    exact leF_refl _
  | cons m ns ih =>
    intro b hS n hn
    have pb := hD b (hS b (by simp))
    have pm := hD m (hS m (by simp))
    have pn := hD n (hS n hn)
    simp only [bestF]
    by_cases c : ltF (D m) (D b) = true
    · rw [if_pos c]
      have h := ih m (fun x hx => hS x (List.mem_cons_of_mem _ hx))
      have mr := bestF_mem D ns m
      have pr := hD _ (hS _ (List.mem_cons_of_mem _ mr))
      rcases List.mem_cons.1 hn with e | e
      · rw [e]
        refine leF_trans pr pm pb (h m (by simp)) ?_
        rcases leF_total (D m) (D b) with q | q
        · exact q
        · exact absurd q ((ltF_iff _ _).1 c)
      · exact h n e
    · rw [if_neg c]
      have h := ih b (fun x hx => hS x (mem_skip hx))
      have mr := bestF_mem D ns b
      have pr := hD _ (hS _ (mem_skip mr))
      rcases List.mem_cons.1 hn with e | e
      · rw [e]; exact h b (by simp)
      · rcases List.mem_cons.1 e with e | e
        · rw [e]
          refine leF_trans pr pb pm (h b (by simp)) ?_
          rcases leF_total (D b) (D m) with q | q
          · exact q
          · rw [Bool.not_eq_true] at c
            exact Decidable.byContradiction fun z => absurd ((ltF_iff (D m) (D b)).2 z) (by simp [c])
        · exact h n (by simp [e])
/-- .. and strictly less than each one ahead of it. -/
theorem bestF_first {D : Int → Int × Int} {S : Int → Prop} (hD : ∀ n, S n → 0 < (D n).2) (d : Nat) : ∀ (b c : Int), b < c → (∀ n ∈ b :: upSeq d c, S n) → ∀ n, n ∈ b :: upSeq d c → n < bestF D b (upSeq d c) → ltF (D (bestF D b (upSeq d c))) (D n) = true := by
  induction d with
  | zero =>
    intro b c hbc hS n hn hlt
    simp only [upSeq, List.mem_singleton] at hn
    simp only [upSeq, bestF] at hlt
    omega
  | succ d ih =>
    intro b c hbc hS n hn hlt
    have pb := hD b (hS b (by simp))
    have pc := hD c (hS c (by simp [upSeq]))
    have pn := hD n (hS n hn)
    simp only [upSeq, bestF] at hlt hn ⊢
    have hS1 : ∀ x ∈ c :: upSeq d (c + 1), S x := fun x hx => hS x (by simp only [upSeq]; exact List.mem_cons_of_mem _ hx)
    have hS2 : ∀ x ∈ b :: upSeq d (c + 1), S x := fun x hx => hS x (mem_skip hx)
    by_cases q : ltF (D c) (D b) = true
    · rw [if_pos q] at hlt ⊢
      have pr := hD _ (hS1 _ (bestF_mem D (upSeq d (c + 1)) c))
      rcases List.mem_cons.1 hn with e | e
      · rw [e, ltF_iff]
        intro z
        have h1 := bestF_le hD (upSeq d (c + 1)) c hS1 c (by simp)
        exact (ltF_iff _ _).1 q (leF_trans pb pr pc z h1)
      · exact ih c (c + 1) (by omega) hS1 n e hlt
    · rw [if_neg q] at hlt ⊢
      have mr := bestF_mem D (upSeq d (c + 1)) b
      have pr := hD _ (hS2 _ mr)
      rcases List.mem_cons.1 hn with e | e
      · exact ih b (c + 1) (by omega) hS2 n (by simp [e]) (by rw [e] at hlt ⊢; exact hlt)
      · rcases List.mem_cons.1 e with e | e
        · have hb := ih b (c + 1) (by omega) hS2 b (by simp) (by omega)
          rw [ltF_iff] at hb ⊢
          intro z
          refine hb (leF_trans pb pn pr ?_ z)
          rw [e]
          exact Decidable.byContradiction fun y => q ((ltF_iff _ _).2 y)
        · exact ih b (c + 1) (by omega) hS2 n (by simp [e]) hlt
/-- A reader of draws: its bytes; each draw moves it on by two places at most. -/
def CodeOk (code : List Int) : Prop := ∀ x ∈ code, 0 ≤ x ∧ x ≤ 255
theorem codeOk_of {code : List Int} (h : ∀ x ∈ code, (Lit.int .u8 x).wf = true) : CodeOk code := fun x hx => by
  have := h x hx
  simp only [Lit.wf, Bool.and_eq_true, decide_eq_true_eq] at this
  exact this
theorem seed_low (x : Int) (h0 : 0 ≤ x) (h1 : x < 18446744073709551616) : Go.bits .and .u64 (x / 1099511627776) 255 = (x / 1099511627776) % 256 :=
  bits_mask .u64 24 (by decide) (fun n h0 h1 => by simp only [IntKind.wrap, IntKind.bits, IntKind.signed]; simp; omega) 8 (by decide) (x / 1099511627776) (by omega) (by omega)
theorem u64_in (x : Int) : 0 ≤ IntKind.u64.wrap x ∧ IntKind.u64.wrap x < 18446744073709551616 := by
  simp only [IntKind.wrap, IntKind.bits, IntKind.signed]
  simp
  omega
theorem next_ok {code : List Int} (hc : CodeOk code) (t s : Int) (h0 : 0 ≤ t) (h1 : t ≤ 1000000000000000) :
    ∃ b s', spec_l1Cur_next.f code t s = some (b, t + 1, s') ∧ 0 ≤ b ∧ b ≤ 255 := by
  unfold spec_l1Cur_next.f
  rw [wid (x := t + 1) (by omega) (by omega)]
  by_cases c : t < (code.length : Int)
  · have hb : 0 ≤ rd code t ∧ rd code t ≤ 255 := by
      obtain ⟨i, rfl⟩ := Int.eq_ofNat_of_zero_le h0
      rw [rd_nat code i (by omega)]
      exact hc _ (List.getElem_mem _)
    rw [if_pos c, if_pos h0, wid (x := rd code t) (by omega) (by omega)]
    by_cases c2 : t + 1 ≤ (code.length : Int)
    · rw [if_pos c2]
      exact ⟨_, _, rfl, hb.1, hb.2⟩
    · omega
  · rw [if_neg c]
    by_cases c2 : t + 1 ≤ (code.length : Int)
    · omega
    · rw [if_neg c2]
      have u := u64_in (IntKind.u64.wrap (IntKind.u64.wrap (s * 6364136223846793005) + 0) + 462197)
      generalize IntKind.u64.wrap (IntKind.u64.wrap (IntKind.u64.wrap (s * 6364136223846793005) + 0) + 462197) = v at u ⊢
      rw [seed_low v u.1 u.2, wid (by omega) (by omega)]
      exact ⟨_, _, rfl, by omega, by omega⟩
theorem pick_ok {code : List Int} (hc : CodeOk code) (t s n : Int) (h0 : 0 ≤ t) (h1 : t ≤ 900000000000000) (hn : n ≤ 65536) :
    ∃ r t' s', spec_l1Cur_pick.f code t s n = some (r, t', s') ∧ 0 ≤ r ∧ (1 ≤ n → r < n) ∧ t ≤ t' ∧ t' ≤ t + 2 := by
  unfold spec_l1Cur_pick.f
  by_cases c : n ≤ 1
  · rw [if_pos c]
    exact ⟨0, t, s, rfl, by omega, fun _ => by omega, by omega, by omega⟩
  · rw [if_neg c]
    obtain ⟨b, s1, e1, b0, b1⟩ := next_ok hc t s h0 (by omega)
    rw [e1]
    simp only [Option.bind_some]
    by_cases c2 : n > 200
    · obtain ⟨b2, s2, e2, q0, q1⟩ := next_ok hc (t + 1) s1 (by omega) (by omega)
      rw [if_pos c2, e2]
      simp only [Option.bind_some]
      rw [if_neg (by omega), wid (x := b * 256) (by omega) (by omega), wid (by omega) (by omega), Int.tmod_eq_emod_of_nonneg (by omega)]
      exact ⟨_, _, _, rfl, Int.emod_nonneg _ (by omega), fun _ => Int.emod_lt_of_pos _ (by omega), by omega, by omega⟩
    · rw [if_neg c2, if_neg (by omega), Int.tmod_eq_emod_of_nonneg (by omega)]
      exact ⟨_, _, _, rfl, Int.emod_nonneg _ (by omega), fun _ => Int.emod_lt_of_pos _ (by omega), by omega, by omega⟩
theorem among_ok {code : List Int} (hc : CodeOk code) (t s : Int) (l : List Int) (h0 : 0 ≤ t) (h1 : t ≤ 900000000000000) (hl : 0 < l.length) (hl2 : l.length ≤ 65536) :
    ∃ r t' s', spec_l1Cur_among.f code t s l = some (r, t', s') ∧ r ∈ l ∧ t ≤ t' ∧ t' ≤ t + 2 := by
  unfold spec_l1Cur_among.f
  obtain ⟨r, t', s', e, a, b, c, d⟩ := pick_ok hc t s (l.length : Int) h0 h1 (by omega)
  have b := b (by omega)
  rw [e]
  simp only [Option.bind_some]
  rw [if_pos a, if_pos b]
  obtain ⟨i, rfl⟩ := Int.eq_ofNat_of_zero_le a
  refine ⟨_, _, _, rfl, ?_, c, d⟩
  rw [rd_nat l i (by omega)]
  exact List.getElem_mem _
theorem one_ok {code : List Int} (hc : CodeOk code) (t s n : Int) (h0 : 0 ≤ t) (h1 : t ≤ 900000000000000) (hn : n ≤ 65536) :
    ∃ b t' s', spec_l1Cur_one.f code t s n = some (b, t', s') ∧ t ≤ t' ∧ t' ≤ t + 2 := by
  unfold spec_l1Cur_one.f
  obtain ⟨r, t', s', e, _, _, c, d⟩ := pick_ok hc t s n h0 h1 hn
  simp only [e, Option.bind_some]
  exact ⟨_, _, _, rfl, c, d⟩
theorem item_ok {code : List Int} (hc : CodeOk code) (t s : Int) (h0 : 0 ≤ t) (h1 : t ≤ 800000000000000) :
    ∃ a b c d e t' s', spec_l1Cur_item.f code t s = some (a, b, c, d, e, t', s') ∧ t ≤ t' ∧ t' ≤ t + 14 := by
  unfold spec_l1Cur_item.f
  obtain ⟨x1, t1, s1, e1, _, p1, q1⟩ := among_ok hc t s [1, 2, 3, 5, 8, 20] (by omega) (by omega) (by decide) (by decide)
  simp only [e1, Option.bind_some]
  obtain ⟨x2, t2, s2, e2, _, p2, q2⟩ := among_ok hc t1 s1 [1, 5, 10, 20, 50, 99] (by omega) (by omega) (by decide) (by decide)
  simp only [e2, Option.bind_some]
  obtain ⟨x3, t3, s3, e3, _, p3, q3⟩ := among_ok hc t2 s2 [1, 1, 2, 3, 9] (by omega) (by omega) (by decide) (by decide)
  simp only [e3, Option.bind_some]
  obtain ⟨x4, t4, s4, e4, _, p4, q4⟩ := among_ok hc t3 s3 [1, 2, 5, 10, 20] (by omega) (by omega) (by decide) (by decide)
  simp only [e4, Option.bind_some]
  obtain ⟨m, em⟩ : ∃ m, spec_l1Least.f (wrap64 (x1 + x4)) 40 = some m := by unfold spec_l1Least.f; split <;> exact ⟨_, rfl⟩
  simp only [em, Option.bind_some]
  obtain ⟨x5, t5, s5, e5, _, p5, q5⟩ := among_ok hc t4 s4 [0, 0, 1, 2, 9] (by omega) (by omega) (by decide) (by decide)
  simp only [e5, Option.bind_some]
  obtain ⟨x6, t6, s6, e6, _, _, p6, q6⟩ := pick_ok hc t5 s5 60 (by omega) (by omega) (by omega)
  simp only [e6, Option.bind_some]
  by_cases c0 : x6 = 0
  · obtain ⟨x7, t7, s7, e7, _, p7, q7⟩ := among_ok hc t6 s6 [0, 20, 21, -1] (by omega) (by omega) (by decide) (by decide)
    rw [if_pos c0, e7]
    simp only [Option.bind_some]
    exact ⟨_, _, _, _, _, _, _, rfl, by omega, by omega⟩
  rw [if_neg c0]
  by_cases c1 : x6 = 1
  · obtain ⟨x7, t7, s7, e7, _, p7, q7⟩ := among_ok hc t6 s6 [0, 99, 100] (by omega) (by omega) (by decide) (by decide)
    rw [if_pos c1, e7]
    simp only [Option.bind_some]
    exact ⟨_, _, _, _, _, _, _, rfl, by omega, by omega⟩
  rw [if_neg c1]
  by_cases c2 : x6 = 2
  · obtain ⟨x7, t7, s7, e7, _, p7, q7⟩ := among_ok hc t6 s6 [0, 9, 10] (by omega) (by omega) (by decide) (by decide)
    rw [if_pos c2, e7]
    simp only [Option.bind_some]
    exact ⟨_, _, _, _, _, _, _, rfl, by omega, by omega⟩
  rw [if_neg c2]
  by_cases c3 : x6 = 3
  · obtain ⟨x7, t7, s7, e7, _, p7, q7⟩ := among_ok hc t6 s6 [x1, 40, 41, 4611686018427387904] (by omega) (by omega) (by simp) (by simp)
    rw [if_pos c3, e7]
    simp only [Option.bind_some]
    exact ⟨_, _, _, _, _, _, _, rfl, by omega, by omega⟩
  rw [if_neg c3]
  by_cases c4 : x6 = 4
  · obtain ⟨x7, t7, s7, e7, _, p7, q7⟩ := among_ok hc t6 s6 [-1, 9, 10] (by omega) (by omega) (by decide) (by decide)
    rw [if_pos c4, e7]
    simp only [Option.bind_some]
    exact ⟨_, _, _, _, _, _, _, rfl, by omega, by omega⟩
  rw [if_neg c4]
  exact ⟨_, _, _, _, _, _, _, rfl, by omega, by omega⟩

theorem up_mem (d : Nat) : ∀ (c n : Int), c - 1 ≤ n → n < c + d → n ∈ (c - 1) :: upSeq d c := by
  induction d with
  | zero => intro c n h1 h2; simp [upSeq]; omega
  | succ d ih =>
    intro c n h1 h2
    by_cases e : n = c - 1
    · simp [e]
    · have := ih (c + 1) n (by omega) (by omega)
      rw [Int.add_sub_cancel] at this
      simp only [upSeq]
      exact List.mem_cons_of_mem _ this
/-- The square root's bound, squared: R q q lies between A/2 and 2 A. -/
theorem square_bound {A R q : Int} (h1 : R * (q * q) ≤ 2 * A) (h2 : A ≤ 2 * (R * (q * q))) : 2 * ((A + R * (q * q)) * (A + R * (q * q))) ≤ 9 * (A * (R * (q * q))) := by
  have h := Int.mul_nonneg (show 0 ≤ 2 * A - R * (q * q) by omega) (show 0 ≤ 2 * (R * (q * q)) - A by omega)
  generalize R * (q * q) = t at *
  have e : (2 * A - t) * (2 * t - A) = 9 * (A * t) - 2 * ((A + t) * (A + t)) := by grind
  omega
theorem mean_bound (A R r : Int) : 4 * (A * (R * (r * r))) ≤ (A + R * (r * r)) * (A + R * (r * r)) := by
  generalize R * (r * r) = t
  have h : 0 ≤ (A - t) * (A - t) := by
    rcases Int.le_total 0 (A - t) with c | c
    · exact Int.mul_nonneg c c
    · have := Int.mul_nonneg_of_nonpos_of_nonpos c c
      exact this
  have e : (A - t) * (A - t) = (A + t) * (A + t) - 4 * (A * t) := by grind
  omega
theorem parts_bound {A R q r : Int} (hA : 0 ≤ A) (hR : 0 ≤ R) (hq : 0 ≤ q) (hr : 0 ≤ r) (h1 : R * (q * q) ≤ 2 * A) (h2 : A ≤ 2 * (R * (q * q))) :
    10000 * ((A + R * (q * q)) * r) ≤ 10607 * ((A + R * (r * r)) * q) := by
  have b1 := Int.mul_le_mul_of_nonneg_right (square_bound h1 h2) (Int.mul_nonneg hr hr)
  have b2 := Int.mul_le_mul_of_nonneg_right (mean_bound A R r) (Int.mul_nonneg hq hq)
  have pX : 0 ≤ (A + R * (q * q)) * r := Int.mul_nonneg (by have := Int.mul_nonneg hR (Int.mul_nonneg hq hq); omega) hr
  have pY : 0 ≤ (A + R * (r * r)) * q := Int.mul_nonneg (by have := Int.mul_nonneg hR (Int.mul_nonneg hr hr); omega) hq
  have e3 : 9 * (A * (R * (q * q))) * (r * r) = 9 * (A * R * (q * q) * (r * r)) := by grind
  have e4 : 4 * (A * (R * (r * r))) * (q * q) = 4 * (A * R * (q * q) * (r * r)) := by grind
  have e1 : 2 * ((A + R * (q * q)) * (A + R * (q * q))) * (r * r) = 2 * (((A + R * (q * q)) * r) * ((A + R * (q * q)) * r)) := by grind
  have e2 : (A + R * (r * r)) * (A + R * (r * r)) * (q * q) = ((A + R * (r * r)) * q) * ((A + R * (r * r)) * q) := by grind
  rw [e1, e3] at b1
  rw [e2, e4] at b2
  generalize (A + R * (q * q)) * r = X at *
  generalize (A + R * (r * r)) * q = Y at *
  generalize A * R * (q * q) * (r * r) = Z at *
  refine Decidable.byContradiction fun c => ?_
  have m1 := Int.mul_le_mul_of_nonneg_right (show 10607 * Y ≤ 10000 * X by omega) (show 0 ≤ 10607 * Y by omega)
  have m2 := Int.mul_lt_mul_of_pos_left (show 10607 * Y < 10000 * X by omega) (show 0 < 10000 * X by omega)
  have m := Int.lt_of_le_of_lt m1 m2
  have e5 : 10607 * Y * (10607 * Y) = 112508449 * (Y * Y) := by grind
  have e6 : 10000 * X * (10000 * X) = 100000000 * (X * X) := by grind
  rw [e5, e6] at m
  have y2 := Int.mul_nonneg pY pY
  omega
section
variable {a b c d e : Int} (h : ItemOk a b c d e)
include h
/-- The cost of a cycle, and what it is to cost no more. -/
theorem dcost_le {k l n m : Int} (hn : 1 ≤ n) (hm : 1 ≤ m) : leS k l (dcost a b c n) (dcost a b c m) ↔ k * ((2 * b + c * a * (n * n)) * m) ≤ l * ((2 * b + c * a * (m * m)) * n) := by
  obtain ⟨ha, hb, hc, _, _⟩ := h
  have r0 : 0 ≤ c * a := Int.mul_nonneg (by omega) (by omega)
  have p1 : 0 ≤ 2 * b + c * a * n * n := by have := Int.mul_nonneg (Int.mul_nonneg r0 (show 0 ≤ n by omega)) (show 0 ≤ n by omega); omega
  have p2 : 0 ≤ 2 * b + c * a * m * m := by have := Int.mul_nonneg (Int.mul_nonneg r0 (show 0 ≤ m by omega)) (show 0 ≤ m by omega); omega
  unfold dcost
  rw [leS_fr (by omega) (by omega) p1 p2]
  have e1 : k * ((2 * b + c * a * n * n) * (2 * m)) = 2 * (k * ((2 * b + c * a * (n * n)) * m)) := by grind
  have e2 : l * ((2 * b + c * a * m * m) * (2 * n)) = 2 * (l * ((2 * b + c * a * (m * m)) * n)) := by grind
  rw [e1, e2]
  omega
theorem dcost_leF {n m : Int} (hn : 1 ≤ n) (hm : 1 ≤ m) : leF (dcost a b c n) (dcost a b c m) ↔ (2 * b + c * a * (n * n)) * m ≤ (2 * b + c * a * (m * m)) * n := by
  have q := dcost_le h (k := 1) (l := 1) hn hm
  unfold leS at q
  unfold leF
  rw [Int.one_mul, Int.one_mul, Int.one_mul, Int.one_mul] at q
  exact q
theorem dcost_pos {n : Int} (h1 : 1 ≤ n) (h2 : n ≤ 64) : 0 < (dcost a b c n).2 := (dcost_mod h h1 (by omega)).2.2.1
theorem dcost_in {n : Int} (h1 : 1 ≤ n) (h2 : n ≤ 64) : 0 ≤ (dcost a b c n).1 ∧ (dcost a b c n).1 ≤ 12000000 ∧ 0 < (dcost a b c n).2 ∧ (dcost a b c n).2 ≤ 128 := by
  obtain ⟨_, _, e3, e4⟩ := daily_in h h1 (show n ≤ 256 by omega)
  have := fr_in e3 (show 0 < 2 * n by omega)
  unfold dcost
  omega
theorem best_facts (r : Int) (hr : r = bestF (dcost a b c) 1 (upSeq 63 2)) : (1 ≤ r ∧ r ≤ 64) ∧ (∀ n, 1 ≤ n → n ≤ 64 → leF (dcost a b c r) (dcost a b c n)) ∧ c * a * r * (r - 1) < 2 * b ∧ (r < 64 → 2 * b ≤ c * a * r * (r + 1)) := by
  have hS : ∀ y ∈ (1 : Int) :: upSeq 63 2, 1 ≤ y ∧ y ≤ 64 := by
    intro y hy
    have := upSeq_in 64 1 y hy
    omega
  have hD : ∀ n : Int, (1 ≤ n ∧ n ≤ 64) → 0 < (dcost a b c n).2 := fun n hn => dcost_pos h hn.1 hn.2
  have hall : ∀ n : Int, 1 ≤ n → n ≤ 64 → n ∈ (1 : Int) :: upSeq 63 2 := fun n h1 h2 => up_mem 63 2 n (by omega) (by omega)
  have hin : 1 ≤ r ∧ r ≤ 64 := by rw [hr]; exact hS _ (bestF_mem _ _ _)
  have hle : ∀ n, 1 ≤ n → n ≤ 64 → leF (dcost a b c r) (dcost a b c n) := fun n h1 h2 => by rw [hr]; exact bestF_le hD _ _ hS n (hall n h1 h2)
  obtain ⟨ha, hb, hc, _, _⟩ := id h
  refine ⟨hin, hle, ?_, fun hr64 => ?_⟩
  · by_cases one : r = 1
    · rw [one]; omega
    · have q := bestF_first hD 63 1 2 (by omega) hS (r - 1) (hall _ (by omega) (by omega)) (by rw [← hr]; omega)
      rw [← hr, ltF_iff, dcost_leF h (by omega) (by omega)] at q
      have e : (2 * b + c * a * ((r - 1) * (r - 1))) * r - (2 * b + c * a * (r * r)) * (r - 1) = 2 * b - c * a * r * (r - 1) := by grind
      omega
  · have q := (dcost_leF h (by omega) (by omega)).1 (hle (r + 1) (by omega) (by omega))
    have e : (2 * b + c * a * ((r + 1) * (r + 1))) * r - (2 * b + c * a * (r * r)) * (r + 1) = c * a * r * (r + 1) - 2 * b := by grind
    omega
theorem power_facts (p r : Int) (hp : p = bestF (dcost a b c) 1 [2, 4, 8, 16, 32, 64]) (hr : r = bestF (dcost a b c) 1 (upSeq 63 2)) : (1 ≤ p ∧ p ≤ 64) ∧ leS 10000 10607 (dcost a b c p) (dcost a b c r) := by
  have hS : ∀ y ∈ (1 : Int) :: [2, 4, 8, 16, 32, 64], 1 ≤ y ∧ y ≤ 64 := by decide
  have hD : ∀ n : Int, (1 ≤ n ∧ n ≤ 64) → 0 < (dcost a b c n).2 := fun n hn => dcost_pos h hn.1 hn.2
  have hin : 1 ≤ p ∧ p ≤ 64 := by rw [hp]; exact hS _ (bestF_mem _ _ _)
  have hle : ∀ n ∈ (1 : Int) :: [2, 4, 8, 16, 32, 64], leF (dcost a b c p) (dcost a b c n) := fun n hn => by rw [hp]; exact bestF_le hD _ _ hS n hn
  obtain ⟨hrin, hrle, hr1, hr2⟩ := best_facts h r hr
  obtain ⟨ha, hb, hc, _, _⟩ := id h
  have R1 : 1 ≤ c * a := Int.mul_pos (by omega) (by omega)
  have pp := dcost_pos h hin.1 hin.2
  have pr := dcost_pos h hrin.1 hrin.2
  have np : 0 ≤ (dcost a b c r).1 := (dcost_in h hrin.1 hrin.2).1
  have weak : leF (dcost a b c p) (dcost a b c r) → leS 10000 10607 (dcost a b c p) (dcost a b c r) := fun z => by
    unfold leF at z
    unfold leS
    have := Int.mul_nonneg np (Int.le_of_lt pp)
    omega
  have mid : ∀ q ∈ (1 : Int) :: [2, 4, 8, 16, 32, 64], c * a * (q * q) ≤ 2 * (2 * b) → 2 * b ≤ 2 * (c * a * (q * q)) → leS 10000 10607 (dcost a b c p) (dcost a b c r) := fun q hq q1 q2 => by
    have qi := hS q hq
    refine leS_trans pp (dcost_pos h qi.1 qi.2) pr (leS_one (hle q hq) 10000 (by decide)) ((dcost_le h qi.1 hrin.1).2 ?_)
    exact parts_bound (by omega) (by omega) (by omega) (by omega) q1 q2
  refine ⟨hin, ?_⟩
  generalize c * a = R at *
  by_cases c1 : 4 * b < R
  · -- the cycle 1 is best
    have e1 : r = 1 := Decidable.byContradiction fun z => by
      have m1 : R * 2 ≤ R * r := Int.mul_le_mul_of_nonneg_left (by omega) (by omega)
      have m2 : R * r * 1 ≤ R * r * (r - 1) := Int.mul_le_mul_of_nonneg_left (by omega) (by omega)
      omega
    exact weak (by rw [e1]; exact hle 1 (by simp))
  by_cases c2 : b ≤ R
  · exact mid 1 (by simp) (by omega) (by omega)
  by_cases c3 : b ≤ 4 * R
  · exact mid 2 (by simp) (by omega) (by omega)
  by_cases c4 : b ≤ 16 * R
  · exact mid 4 (by simp) (by omega) (by omega)
  by_cases c5 : b ≤ 64 * R
  · exact mid 8 (by simp) (by omega) (by omega)
  by_cases c6 : b ≤ 256 * R
  · exact mid 16 (by simp) (by omega) (by omega)
  by_cases c7 : b ≤ 1024 * R
  · exact mid 32 (by simp) (by omega) (by omega)
  by_cases c8 : b ≤ 4096 * R
  · exact mid 64 (by simp) (by omega) (by omega)
  · -- the cycle 64 is best
    have e1 : r = 64 := Decidable.byContradiction fun z => by
      have q := hr2 (by omega)
      have m1 : R * r ≤ R * 63 := Int.mul_le_mul_of_nonneg_left (by omega) (by omega)
      have m2 : R * r * (r + 1) ≤ R * 63 * 64 := Int.mul_le_mul m1 (by omega) (by omega) (by omega)
      omega
    exact weak (by rw [e1]; exact hle 64 (by simp))
end
theorem rless_eq {x y : Int × Int} (hx : Mod x) (hy : Mod y) : laws_rLess.f x.1 x.2 y.1 y.2 = some (ltF x y) := by
  unfold laws_rLess.f ltF
  rw [mod_mul hx hy, mod_mul hy hx]

theorem drawCycle_ok {code : List Int} (hc : CodeOk code) (t s : Int) (h0 : 0 ≤ t) (h1 : t ≤ 800000000000000) : ∃ r t' s', spec_l1Cur_cycle.f code t s = some (r, t', s') := by
  unfold spec_l1Cur_cycle.f
  obtain ⟨b, t1, s1, e1, p1, q1⟩ := one_ok hc t s 24 h0 (by omega) (by omega)
  simp only [e1, Option.bind_some]
  cases b with
  | true =>
    obtain ⟨x, t2, s2, e2, _⟩ := among_ok hc t1 s1 [0, 64, 65, -1] (by omega) (by omega) (by decide) (by decide)
    rw [if_pos rfl, e2]
    exact ⟨_, _, _, rfl⟩
  | false =>
    obtain ⟨x, t2, s2, e2, _⟩ := among_ok hc t1 s1 [1, 2, 3, 4, 5, 6, 8, 12, 16, 30] (by omega) (by omega) (by decide) (by decide)
    rw [if_neg (by simp), e2]
    exact ⟨_, _, _, rfl⟩
theorem draw_ok {code : List Int} (hc : CodeOk code) : ∃ a b c d e n, spec_DrawCycleCost.f code = some (a, b, c, d, e, n) := by
  unfold spec_DrawCycleCost.f spec_newCur.f
  simp only [Option.bind_some]
  obtain ⟨a, b, c, d, e, t1, s1, e1, p1, q1⟩ := item_ok hc 0 0 (by omega) (by omega)
  simp only [e1, Option.bind_some]
  obtain ⟨n, t2, s2, e2⟩ := drawCycle_ok hc t1 s1 (by omega) (by omega)
  simp only [e2, Option.bind_some]
  exact ⟨_, _, _, _, _, _, rfl⟩
theorem FnCycles (l0 : List Int) (hl0 : l0.length ≤ maxLen) (hw0 : ∀ x ∈ l0, (Lit.int .u8 x).wf = true) : ∃ k, laws_FnCycles.f k l0 = some true := by
  refine Ev.rounds ?_
  unfold laws_FnCycles.f laws_rBig.f
  simp only [Option.bind_some]
  by_cases big : (l0.length : Int) > 65536
  · exact ev_pos (decide_eq_true big) (ev_some _)
  refine ev_neg (by rw [decide_eq_true_eq]; exact big) ?_
  obtain ⟨a, b, c, d, e, n, hd⟩ := draw_ok (codeOk_of hw0)
  simp only [hd, Option.bind_some]
  refine ev_bind (implCycleCost_ev a b c d e n) (ev_bind (specCycleCost_ev a b c d e n) (ev_neg (by simp) (ev_succ ?_)))
  simp only [laws_FnCycles.j0]
  refine ev_neg (by simp) (ev_bind (implBestCycle_ev a b c d e) (ev_bind (specBestCycle_ev a b c d e) (ev_pos rfl (ev_neg (by simp) ?_))))
  simp only [implItem_eq, Option.bind_some]
  have e1 : (bestAns a b c d e).2 = decide (ItemOk a b c d e) := by unfold bestAns; split <;> simp [*]
  rw [e1]
  refine ev_succ ?_
  simp only [laws_FnCycles.j1]
  refine ev_neg (by simp) (ev_bind (implPowerCycle_ev a b c d e) (ev_bind (specPowerCycle_ev a b c d e) (ev_pos rfl (ev_neg (by simp) ?_))))
  have e2 : (powAns a b c d e).2 = decide (ItemOk a b c d e) := by unfold powAns; split <;> simp [*]
  rw [e2]
  refine ev_succ ?_
  simp only [laws_FnCycles.j2]
  refine ev_neg (by simp) ?_
  by_cases hi : ItemOk a b c d e
  rotate_left
  · refine ev_neg (by rw [decide_eq_true_eq]; exact hi) (ev_cast (ev_some _) ?_)
    unfold cycAns
    rw [if_neg fun x => hi x.1]
    rfl
  refine ev_pos (decide_eq_true hi) ?_
  have eb : (bestAns a b c d e).1 = bestF (dcost a b c) 1 (upSeq 63 2) := by unfold bestAns; rw [if_pos hi]
  have ep : (powAns a b c d e).1 = bestF (dcost a b c) 1 [2, 4, 8, 16, 32, 64] := by unfold powAns; rw [if_pos hi]
  obtain ⟨hrin, hrle, hr1, hr2⟩ := best_facts hi _ eb
  obtain ⟨hpin, hps⟩ := power_facts hi _ _ ep eb
  generalize (bestAns a b c d e).1 = r at *
  generalize (powAns a b c d e).1 = p at *
  have cr : cycAns a b c d e r = ((dcost a b c r).1, (dcost a b c r).2, true) := if_pos ⟨hi, hrin⟩
  have cp : cycAns a b c d e p = ((dcost a b c p).1, (dcost a b c p).2, true) := if_pos ⟨hi, hpin⟩
  have mr := dcost_mod hi hrin.1 (show r ≤ 256 by omega)
  have mp := dcost_mod hi hpin.1 (show p ≤ 256 by omega)
  have ir := dcost_in hi hrin.1 hrin.2
  have ip := dcost_in hi hpin.1 hpin.2
  have hrp := hrle p hpin.1 hpin.2
  refine ev_bind (implCycleCost_ev a b c d e r) (ev_bind (implCycleCost_ev a b c d e p) ?_)
  rw [cr, cp]
  refine ev_pos rfl (ev_pos rfl ?_)
  simp only [rless_eq mp mr, Option.bind_some]
  rw [ltF_false hrp]
  refine ev_neg (by simp) ?_
  obtain ⟨ha, hb, hc, _, _⟩ := id hi
  have k1 := mulb (a := c) (b := a) (A := 9) (B := 20) (by omega) (by omega) (by omega) (by omega)
  have k2 := mulb (a := c * a) (b := r) (A := 180) (B := 64) (by omega) (by omega) (by omega) (by omega)
  have k3 := mulb (a := c * a * r) (b := r - 1) (A := 11520) (B := 64) (by omega) (by omega) (by omega) (by omega)
  have k4 := mulb (a := c * a * r) (b := r + 1) (A := 11520) (B := 65) (by omega) (by omega) (by omega) (by omega)
  have k5 := mulb (a := 10000 * (dcost a b c p).1) (b := (dcost a b c r).2) (A := 120000000000) (B := 128) (by omega) (by omega) (by omega) (by omega)
  have k6 := mulb (a := 10607 * (dcost a b c r).1) (b := (dcost a b c p).2) (A := 127284000000) (B := 128) (by omega) (by omega) (by omega) (by omega)
  have s5 : 10000 * (dcost a b c p).1 * (dcost a b c r).2 ≤ 10607 * (dcost a b c r).1 * (dcost a b c p).2 := by
    unfold leS at hps
    rw [Int.mul_assoc, Int.mul_assoc]
    exact hps
  rw [wid (x := 10000 * (dcost a b c p).1) (by omega) (by omega), wid (x := 10607 * (dcost a b c r).1) (by omega) (by omega), wid (x := 10000 * (dcost a b c p).1 * (dcost a b c r).2) (by omega) (by omega), wid (x := 10607 * (dcost a b c r).1 * (dcost a b c p).2) (by omega) (by omega)]
  refine ev_neg (by omega) ?_
  rw [wid (x := c * a) (by omega) (by omega), wid (x := c * a * r) (by omega) (by omega), wid (x := r - 1) (by omega) (by omega), wid (x := r + 1) (by omega) (by omega), wid (x := c * a * r * (r - 1)) (by omega) (by omega), wid (x := c * a * r * (r + 1)) (by omega) (by omega), wid (x := 2 * b) (by omega) (by omega)]
  refine ev_neg (by omega) ?_
  have last : Ev (fun k => if (cycAns a b c d e n).2.2 = true then (laws_rLess.f (cycAns a b c d e n).1 (cycAns a b c d e n).2.1 (dcost a b c r).1 (dcost a b c r).2).bind fun t => some (!t) else some true) true := by
    by_cases hn : 1 ≤ n ∧ n ≤ 64
    · have cn : cycAns a b c d e n = ((dcost a b c n).1, (dcost a b c n).2, true) := if_pos ⟨hi, hn⟩
      rw [cn]
      refine ev_pos rfl ?_
      simp only [rless_eq (dcost_mod hi hn.1 (show n ≤ 256 by omega)) mr, Option.bind_some]
      rw [ltF_false (hrle n hn.1 hn.2)]
      exact ev_some _
    · have cn : cycAns a b c d e n = (0, 0, false) := if_neg fun x => hn x.2
      rw [cn]
      exact ev_neg (by simp) (ev_some _)
  by_cases c64 : r < 64
  · have := hr2 c64
    exact ev_pos c64 (ev_neg (by omega) last)
  · exact ev_neg c64 last

end Go.Proofs.Ytghngfbnjgkakaa.Pure
