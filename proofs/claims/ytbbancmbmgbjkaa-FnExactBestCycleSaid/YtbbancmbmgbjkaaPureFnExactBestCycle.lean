/- The program's BestCycle and the reference's look for the first cycle with the least cost, in the same order. No conditions. -/
import Derived.Test.YtbbancmbmgbjkaaKit
import Derived.Test.YtbbancmbmgbjkaaXFnExactBestCyclex2
namespace Go.Proofs.Ytbbancmbmgbjkaa.Pure
set_option linter.unusedVariables false
open Go.RowKit Go.Proofs.Ytbbancmbmgbjkaa.PFnExactBestCycle Go.Proofs.YtbbancmbmgbjkaaW.PrintWords Go.Proofs.YtbbancmbmgbjkaaW.PrintLast Go.Proofs.Ytbbancmbmgbjkaa.Kit

theorem in_eq (a b c : Int) : spec_l1In.f a b c = some (decide (b ≤ a ∧ a ≤ c)) := by
  unfold spec_l1In.f
  by_cases h : b ≤ a <;> simp [h]
theorem within_eq (a b c : Int) : impl_within.f a b c = some (decide (b ≤ a ∧ a ≤ c)) := by
  unfold impl_within.f
  by_cases h : b ≤ a <;> simp [h]
theorem gcd_l0 (b : Nat) : ∀ a : Nat, Ev (fun k => spec_l8Gcd.l0 k (a : Int) (b : Int)) ((Nat.gcd a b : Nat) : Int) := by
  induction b using Nat.strongRecOn with
  | _ b ih =>
    intro a
    refine ev_succ ?_
    simp only [spec_l8Gcd.l0]
    by_cases h : b = 0
    · subst h
      exact ev_neg (by omega) (ev_cast (ev_some _) (by simp))
    · refine ev_pos (by omega) (ev_neg (by omega) ?_)
      have e : Int.tmod (a : Int) (b : Int) = ((a % b : Nat) : Int) := rfl
      rw [e]
      refine ev_cast (ih (a % b) (Nat.mod_lt _ (by omega)) b) ?_
      rw [Nat.gcd_comm b, ← Nat.gcd_rec, Nat.gcd_comm]
theorem gcd_ev (a b : Int) (ha : 0 ≤ a) (hb : 0 ≤ b) : Ev (fun k => spec_l8Gcd.f k a b) ((Nat.gcd a.toNat b.toNat : Nat) : Int) := by
  unfold spec_l8Gcd.f
  have := gcd_l0 b.toNat a.toNat
  rwa [Int.toNat_of_nonneg ha, Int.toNat_of_nonneg hb] at this
theorem divisor_l0 (b : Nat) : ∀ a : Nat, Ev (fun k => impl_divisor.l0 k (a : Int) (b : Int)) ((Nat.gcd a b : Nat) : Int) := by
  induction b using Nat.strongRecOn with
  | _ b ih =>
    intro a
    refine ev_succ ?_
    simp only [impl_divisor.l0]
    by_cases h : b = 0
    · subst h
      exact ev_pos (by omega) (ev_cast (ev_some _) (by simp))
    · refine ev_neg (by omega) ?_
      have e : Int.tmod (a : Int) (b : Int) = ((a % b : Nat) : Int) := rfl
      rw [e]
      refine ev_cast (ih (a % b) (Nat.mod_lt _ (by omega)) b) ?_
      rw [Nat.gcd_comm b, ← Nat.gcd_rec, Nat.gcd_comm]
theorem divisor_ev (a b : Int) (ha : 0 ≤ a) (hb : 0 ≤ b) : Ev (fun k => impl_divisor.f k a b) ((Nat.gcd a.toNat b.toNat : Nat) : Int) := by
  unfold impl_divisor.f
  have := divisor_l0 b.toNat a.toNat
  rwa [Int.toNat_of_nonneg ha, Int.toNat_of_nonneg hb] at this
/-- A quotient in lowest terms. -/
def fr (n d : Int) : Int × Int := (n / ((Nat.gcd n.toNat d.toNat : Nat) : Int), d / ((Nat.gcd n.toNat d.toNat : Nat) : Int))
theorem gcd_fr_pos {n d : Int} (hd : 0 < d) : 0 < ((Nat.gcd n.toNat d.toNat : Nat) : Int) := by
  have := Nat.gcd_pos_of_pos_right n.toNat (show 0 < d.toNat by omega)
  omega
theorem fr_in {n d : Int} (hn : 0 ≤ n) (hd : 0 < d) : 0 ≤ (fr n d).1 ∧ (fr n d).1 ≤ n ∧ 0 < (fr n d).2 ∧ (fr n d).2 ≤ d := by
  have hg := gcd_fr_pos (n := n) hd
  have hdv : ((Nat.gcd n.toNat d.toNat : Nat) : Int) ∣ d := by
    have h := Nat.gcd_dvd_right n.toNat d.toNat
    have h2 := Int.natCast_dvd_natCast.2 h
    rwa [Int.toNat_of_nonneg (by omega)] at h2
  refine ⟨Int.ediv_nonneg hn (by omega), Int.ediv_le_self _ hn, ?_, Int.ediv_le_self _ (by omega)⟩
  exact Int.ediv_pos_of_pos_of_dvd hd (by omega) hdv
theorem cut_ev (n d : Int) (hn : 0 ≤ n) (hn2 : n ≤ 9223372036854775807) (hd : 0 < d) (hd2 : d ≤ 9223372036854775807) : Ev (fun k => spec_l8Cut.f k n d) (fr n d) := by
  have hg := gcd_fr_pos (n := n) hd
  have h1 := fr_in hn hd
  unfold spec_l8Cut.f
  refine ev_bind (gcd_ev n d hn (by omega)) (ev_neg (by omega) (ev_cast (ev_some _) ?_))
  unfold fr at h1 ⊢
  simp only at h1
  rw [Int.tdiv_eq_ediv_of_nonneg hn, Int.tdiv_eq_ediv_of_nonneg (by omega), wid (by omega) (by omega), wid (by omega) (by omega)]
theorem fraction_ev (n d : Int) (hn : 0 ≤ n) (hn2 : n ≤ 9223372036854775807) (hd : 0 < d) (hd2 : d ≤ 9223372036854775807) : Ev (fun k => impl_fraction.f k n d) (fr n d) := by
  have hg := gcd_fr_pos (n := n) hd
  have h1 := fr_in hn hd
  unfold impl_fraction.f
  refine ev_bind (divisor_ev n d hn (by omega)) (ev_neg (by omega) (ev_cast (ev_some _) ?_))
  unfold fr at h1 ⊢
  simp only at h1
  rw [Int.tdiv_eq_ediv_of_nonneg hn, Int.tdiv_eq_ediv_of_nonneg (by omega), wid (by omega) (by omega), wid (by omega) (by omega)]
/-- What a valid item is. -/
def ItemOk (a b c d e : Int) : Prop := (1 ≤ a ∧ a ≤ 20) ∧ (1 ≤ b ∧ b ≤ 99) ∧ (1 ≤ c ∧ c ≤ 9) ∧ (a + 1 ≤ d ∧ d ≤ 40) ∧ (0 ≤ e ∧ e ≤ 9)
instance (a b c d e : Int) : Decidable (ItemOk a b c d e) := by unfold ItemOk; infer_instance
theorem specItem_eq (a b c d e : Int) : spec_l8Item.f a b c d e = some (decide (ItemOk a b c d e)) := by
  unfold spec_l8Item.f ItemOk
  simp only [in_eq, Option.bind_some]
  by_cases h1 : 1 ≤ a ∧ a ≤ 20
  · rw [show wrap64 (a + 1) = a + 1 from wid (by omega) (by omega)]
    by_cases h2 : 1 ≤ b ∧ b ≤ 99 <;> by_cases h3 : 1 ≤ c ∧ c ≤ 9 <;> by_cases h4 : a + 1 ≤ d ∧ d ≤ 40 <;> simp [h1, h2, h3, h4]
  · simp [h1]
theorem implItem_eq (a b c d e : Int) : impl_IsItem.f a b c d e = some (decide (ItemOk a b c d e)) := by
  unfold impl_IsItem.f ItemOk
  simp only [within_eq, Option.bind_some]
  by_cases h1 : 1 ≤ a ∧ a ≤ 20
  · rw [show wrap64 (a + 1) = a + 1 from wid (by omega) (by omega)]
    by_cases h2 : 1 ≤ b ∧ b ≤ 99 <;> by_cases h3 : 1 ≤ c ∧ c ≤ 9 <;> by_cases h4 : a + 1 ≤ d ∧ d ≤ 40 <;> simp [h1, h2, h3, h4]
  · simp [h1]
/-- The daily cost of an item. -/
def dcost (a b c cycle : Int) : Int × Int := fr (2 * b + c * a * cycle * cycle) (2 * cycle)
theorem daily_in {a b c d e cycle : Int} (h : ItemOk a b c d e) (h1 : 1 ≤ cycle) (h2 : cycle ≤ 256) :
    wrap64 ((wrap64 (2 * b)) + (wrap64 ((wrap64 ((wrap64 (c * a)) * cycle)) * cycle))) = 2 * b + c * a * cycle * cycle ∧ wrap64 (2 * cycle) = 2 * cycle ∧ 0 ≤ 2 * b + c * a * cycle * cycle ∧ 2 * b + c * a * cycle * cycle ≤ 12000000 := by
  obtain ⟨ha, hb, hc, _, _⟩ := h
  have m1 := mulb (a := c) (b := a) (A := 9) (B := 20) (by omega) (by omega) (by omega) (by omega)
  have m2 := mulb (a := c * a) (b := cycle) (A := 180) (B := 256) (by omega) (by omega) (by omega) (by omega)
  have m3 := mulb (a := c * a * cycle) (b := cycle) (A := 46080) (B := 256) (by omega) (by omega) (by omega) (by omega)
  rw [wid (x := c * a) (by omega) (by omega), wid (x := c * a * cycle) (by omega) (by omega), wid (x := c * a * cycle * cycle) (by omega) (by omega), wid (x := 2 * b) (by omega) (by omega), wid (by omega) (by omega), wid (by omega) (by omega)]
  exact ⟨rfl, rfl, by omega, by omega⟩
theorem specDaily_ev (a b c d e cycle : Int) (h : ItemOk a b c d e) (h1 : 1 ≤ cycle) (h2 : cycle ≤ 256) : Ev (fun k => spec_l8Daily.f k a b c d e cycle) (dcost a b c cycle) := by
  obtain ⟨e1, e2, e3, e4⟩ := daily_in h h1 h2
  unfold spec_l8Daily.f dcost
  rw [e1, e2]
  exact ev_bind (cut_ev _ _ e3 (by omega) (by omega) (by omega)) (ev_some _)
theorem implDaily_ev (a b c d e cycle : Int) (h : ItemOk a b c d e) (h1 : 1 ≤ cycle) (h2 : cycle ≤ 256) : Ev (fun k => impl_Item_daily.f k a b c d e cycle) (dcost a b c cycle) := by
  obtain ⟨e1, e2, e3, e4⟩ := daily_in h h1 h2
  unfold impl_Item_daily.f dcost
  rw [e1, e2]
  exact ev_bind (fraction_ev _ _ e3 (by omega) (by omega) (by omega)) (ev_some _)
/-- A cost of moderate size; the order of costs; the first number with the least cost. -/
def Mod (x : Int × Int) : Prop := 0 ≤ x.1 ∧ x.1 ≤ 1000000000 ∧ 0 < x.2 ∧ x.2 ≤ 1000000000
def ltF (x y : Int × Int) : Bool := decide (x.1 * y.2 < y.1 * x.2)
def bestF (D : Int → Int × Int) : Int → List Int → Int
  | b, [] => b
  | b, n :: ns => bestF D (if ltF (D n) (D b) = true then n else b) ns
theorem mod_mul {x y : Int × Int} (hx : Mod x) (hy : Mod y) : wrap64 (x.1 * y.2) = x.1 * y.2 := by
  obtain ⟨a1, a2, a3, a4⟩ := hx
  obtain ⟨b1, b2, b3, b4⟩ := hy
  have := mulb a1 a2 (show 0 ≤ y.2 by omega) b4
  exact wid (by omega) (by omega)
theorem implLess_eq {x y : Int × Int} (hx : Mod x) (hy : Mod y) : impl_less.f x.1 x.2 y.1 y.2 = some (ltF x y) := by
  unfold impl_less.f ltF
  rw [mod_mul hx hy, mod_mul hy hx]
theorem specLess_eq {x y : Int × Int} (hx : Mod x) (hy : Mod y) : spec_l8Less.f x.1 x.2 y.1 y.2 = some (ltF x y) := by
  unfold spec_l8Less.f ltF
  rw [mod_mul hx hy, mod_mul hy hx]
theorem ev_shift {α : Type} {g : Nat → Option α} {r : α} (h : Ev g r) : Ev (fun k => g (k + 1)) r := by
  obtain ⟨n, h⟩ := h
  exact ⟨n, fun k hk => h (k + 1) (by omega)⟩
theorem cheapest_l0 {S : Int → Prop} {D : Int → Int × Int} (hD : ∀ n, S n → Mod (D n)) (xs : List Int) (hS : ∀ x ∈ xs, S x) (hl : xs.length ≤ 1000000) (d : Nat) : ∀ (G : Nat → Int → Option (Int × Int)), (∀ n, S n → Ev (fun k => G k n) (D n)) → ∀ (i : Nat) (b : Int), S b → i + d = xs.length →
    Ev (fun k => impl_cheapest.l0 (G k) k b xs (xs.length : Int) (i : Int)) (bestF D b (xs.drop i)) := by
  induction d with
  | zero =>
    intro G hG i b hb hi
    refine ev_succ ?_
    simp only [impl_cheapest.l0]
    refine ev_neg (by omega) ?_
    rw [List.drop_of_length_le (by omega)]
    exact ev_some _
  | succ d ih =>
    intro G hG i b hb hi
    have hx : S (rd xs (i : Int)) := by rw [rd_nat xs i (by omega)]; exact hS _ (List.getElem_mem _)
    have hw : wrap64 ((i : Int) + 1) = ((i + 1 : Nat) : Int) := by rw [wid (by omega) (by omega)]; omega
    refine ev_succ ?_
    simp only [impl_cheapest.l0]
    rw [hw, drop_rd xs i (by omega)]
    refine ev_pos (by omega) (ev_pos (by omega) (ev_pos (by omega) ?_))
    refine ev_bind (ev_shift (hG _ hx)) (ev_bind (ev_shift (hG _ hb)) ?_)
    rw [implLess_eq (hD _ hx) (hD _ hb)]
    simp only [Option.bind_some, bestF]
    by_cases h : ltF (D (rd xs (i : Int))) (D b) = true
    · rw [if_pos h]
      exact ev_pos h (ih (fun k => G (k + 1)) (fun n hn => ev_shift (hG n hn)) (i + 1) _ hx (by omega))
    · rw [if_neg h]
      exact ev_neg h (ih (fun k => G (k + 1)) (fun n hn => ev_shift (hG n hn)) (i + 1) _ hb (by omega))
theorem cheapest_ev {S : Int → Prop} {D : Int → Int × Int} (hD : ∀ n, S n → Mod (D n)) (x : Int) (xs : List Int) (hS : ∀ y ∈ x :: xs, S y) (hl : xs.length ≤ 1000000) (G : Nat → Int → Option (Int × Int)) (hG : ∀ n, S n → Ev (fun k => G k n) (D n)) :
    Ev (fun k => impl_cheapest.f k (x :: xs) (G k)) (bestF D x xs) := by
  unfold impl_cheapest.f
  refine ev_pos (by simp only [List.length_cons]; omega) (ev_pos (by simp only [List.length_cons]; omega) ?_)
  exact cheapest_l0 hD xs (fun y hy => hS y (List.mem_cons_of_mem _ hy)) hl xs.length G hG 0 x (hS x (by simp)) (by omega)
theorem dcost_mod {a b c d e cycle : Int} (h : ItemOk a b c d e) (h1 : 1 ≤ cycle) (h2 : cycle ≤ 256) : Mod (dcost a b c cycle) := by
  obtain ⟨_, _, e3, e4⟩ := daily_in h h1 h2
  have := fr_in e3 (show 0 < 2 * cycle by omega)
  unfold dcost Mod
  omega
/-- d numbers from c on. -/
def upSeq : Nat → Int → List Int
  | 0, _ => []
  | d + 1, c => c :: upSeq d (c + 1)
theorem upSeq_in (d : Nat) : ∀ c x, x ∈ upSeq d c → c ≤ x ∧ x < c + d := by
  induction d with
  | zero => intro c x h; simp [upSeq] at h
  | succ d ih =>
    intro c x h
    simp only [upSeq, List.mem_cons] at h
    rcases h with h | h
    · omega
    · have := ih _ _ h; omega
theorem upSeq_len (d : Nat) : ∀ c, (upSeq d c).length = d := by
  induction d with
  | zero => intro c; rfl
  | succ d ih => intro c; simp [upSeq, ih]
theorem upFrom_l0 (n : Int) (hn : n ≤ 1000000) (d : Nat) : ∀ (i : Int) (xs : List Int), 0 ≤ i → i + d = n → (xs.length : Int) = i → Ev (fun k => impl_upFrom.l0 k xs n i) (xs ++ upSeq d (i + 1)) := by
  induction d with
  | zero =>
    intro i xs h0 hi hx
    refine ev_succ ?_
    simp only [impl_upFrom.l0, upSeq, List.append_nil]
    exact ev_neg (by omega) (ev_some _)
  | succ d ih =>
    intro i xs h0 hi hx
    have hw : wrap64 (i + 1) = i + 1 := wid (by omega) (by omega)
    refine ev_succ ?_
    simp only [impl_upFrom.l0]
    rw [hw]
    refine ev_pos (by omega) (ev_pos (by omega) (ev_cast (ih (i + 1) _ (by omega) (by omega) (by simp; omega)) ?_))
    simp [upSeq]
theorem upFrom_ev (d : Nat) (hd : d ≤ 1000000) : Ev (fun k => impl_upFrom.f k (d : Int)) (upSeq d 1) := by
  unfold impl_upFrom.f
  exact ev_cast (upFrom_l0 (d : Int) (by omega) d 0 [] (by omega) (by omega) (by simp)) (by simp)

def ans (a b c d e : Int) : Int × Bool := if ItemOk a b c d e then (bestF (dcost a b c) 1 (upSeq 63 2), true) else (0, false)
theorem spec_l0 {a b c d e : Int} (h : ItemOk a b c d e) (m : Nat) : ∀ (x n : Int), 1 ≤ x ∧ x ≤ 64 → 1 ≤ n → n + m = 65 → Ev (fun k => spec_l8Best.l0 k x n a b c d e) (bestF (dcost a b c) x (upSeq m n)) := by
  induction m with
  | zero =>
    intro x n hx h1 hn
    refine ev_succ ?_
    simp only [spec_l8Best.l0, upSeq, bestF]
    exact ev_neg (by omega) (ev_some _)
  | succ m ih =>
    intro x n hx h1 hn
    have q1 : n ≤ 64 := by omega
    have q2 : 1 ≤ n + 1 := by omega
    have q3 : n + 1 + m = 65 := by omega
    have m1 := dcost_mod h h1 (show n ≤ 256 by omega)
    have m2 := dcost_mod h hx.1 (show x ≤ 256 by omega)
    have hw : wrap64 (n + 1) = n + 1 := wid (by omega) (by omega)
    refine ev_succ ?_
    simp only [spec_l8Best.l0, upSeq, bestF]
    rw [hw]
    refine ev_pos q1 (ev_bind (specDaily_ev a b c d e n h h1 (by omega)) (ev_bind (specDaily_ev a b c d e x h hx.1 (by omega)) ?_))
    rw [specLess_eq m1 m2]
    simp only [Option.bind_some]
    by_cases hl : ltF (dcost a b c n) (dcost a b c x) = true
    · rw [if_pos hl]
      exact ev_pos hl (ih n (n + 1) ⟨h1, q1⟩ q2 q3)
    · rw [if_neg hl]
      exact ev_neg hl (ih x (n + 1) hx q2 q3)
theorem FnExactBestCycle (a0_0 : Int) (a0_1 : Int) (a0_2 : Int) (a0_3 : Int) (a0_4 : Int) (hw0_0 : (Lit.int .i64 a0_0).wf = true) (hw0_1 : (Lit.int .i64 a0_1).wf = true) (hw0_2 : (Lit.int .i64 a0_2).wf = true) (hw0_3 : (Lit.int .i64 a0_3).wf = true) (hw0_4 : (Lit.int .i64 a0_4).wf = true) :
    ∃ k, laws_FnExactBestCycle.f k a0_0 a0_1 a0_2 a0_3 a0_4 = some true := by
  refine Ev.rounds ?_
  unfold laws_FnExactBestCycle.f laws_toItem.f
  simp only [Option.bind_some]
  have hs : Ev (fun k => spec_BestCycle.f k a0_0 a0_1 a0_2 a0_3 a0_4) (ans a0_0 a0_1 a0_2 a0_3 a0_4) := by
    unfold spec_BestCycle.f ans spec_l8Best.f
    simp only [specItem_eq, Option.bind_some]
    by_cases h : ItemOk a0_0 a0_1 a0_2 a0_3 a0_4
    · refine ev_cast (ev_pos (decide_eq_true h) ?_) (if_pos h).symm
      exact ev_bind (spec_l0 h 63 1 2 (by decide) (by decide) (by decide)) (ev_some _)
    · exact ev_cast (ev_neg (by rw [decide_eq_true_eq]; exact h) (ev_some _)) (if_neg h).symm
  have hi : Ev (fun k => impl_BestCycle.f k a0_0 a0_1 a0_2 a0_3 a0_4) (ans a0_0 a0_1 a0_2 a0_3 a0_4) := by
    unfold impl_BestCycle.f ans
    simp only [implItem_eq, Option.bind_some]
    by_cases h : ItemOk a0_0 a0_1 a0_2 a0_3 a0_4
    · refine ev_cast (ev_pos (decide_eq_true h) ?_) (if_pos h).symm
      refine ev_bind (upFrom_ev 64 (by decide)) ?_
      have hS : ∀ y ∈ (1 : Int) :: upSeq 63 2, 1 ≤ y ∧ y ≤ 64 := by
        intro y hy
        have := upSeq_in 64 1 y hy
        omega
      have hL : (upSeq 63 2).length ≤ 1000000 := by rw [upSeq_len]; decide
      exact ev_bind (cheapest_ev (S := fun n => 1 ≤ n ∧ n ≤ 64) (fun n hn => dcost_mod h hn.1 (by omega)) 1 (upSeq 63 2) hS hL (fun k n => impl_Item_daily.f k a0_0 a0_1 a0_2 a0_3 a0_4 n) (fun n hn => implDaily_ev a0_0 a0_1 a0_2 a0_3 a0_4 n h hn.1 (by omega))) (ev_some _)
    · exact ev_cast (ev_neg (by rw [decide_eq_true_eq]; exact h) (ev_some _)) (if_neg h).symm
  refine ev_bind hs (ev_bind hi ?_)
  exact ev_pos rfl (ev_neg (by simp) (ev_some _))

end Go.Proofs.Ytbbancmbmgbjkaa.Pure
