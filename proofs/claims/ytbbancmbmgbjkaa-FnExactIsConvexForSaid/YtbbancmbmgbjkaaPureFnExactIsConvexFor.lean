/- The program's IsConvexFor and the reference's give the same answer for every list and every number: both find out whether all numbers lie in bounds, and whether there are three places that break the same (wrapped) inequality. No conditions. -/
import Derived.Test.YtbbancmbmgbjkaaKit
import Derived.Test.YtbbancmbmgbjkaaPFnExactIsConvexForx3
namespace Go.Proofs.Ytbbancmbmgbjkaa.Pure
set_option linter.unusedVariables false
open Go.RowKit Go.Proofs.Ytbbancmbmgbjkaa.PFnExactIsConvexFor Go.Proofs.YtbbancmbmgbjkaaW.PrintWords Go.Proofs.YtbbancmbmgbjkaaW.PrintLast Go.Proofs.Ytbbancmbmgbjkaa.Kit

theorem in_eq (a b c : Int) : spec_l1In.f a b c = some (decide (b ≤ a ∧ a ≤ c)) := by
  unfold spec_l1In.f
  by_cases h : b ≤ a <;> simp [h]
theorem within_eq (a b c : Int) : impl_within.f a b c = some (decide (b ≤ a ∧ a ≤ c)) := by
  unfold impl_within.f
  by_cases h : b ≤ a <;> simp [h]
theorem toIntS_l0 (xs : List Int) (hn : xs.length ≤ 35184372088832) (d : Nat) : ∀ (i : Nat) (ys : List Int), i + d = xs.length → ys.length = xs.length → ys.take i = xs.take i →
    Ev (fun k => laws_toIntS.l0 k xs ys (i : Int)) xs := by
  induction d with
  | zero =>
    intro i ys hi hl ht
    refine ev_succ ?_
    simp only [laws_toIntS.l0]
    refine ev_neg (by omega) ?_
    rw [List.take_of_length_le (by omega), List.take_of_length_le (by omega)] at ht
    rw [ht]
    exact ev_some _
  | succ d ih =>
    intro i ys hi hl ht
    refine ev_succ ?_
    simp only [laws_toIntS.l0]
    refine ev_pos (by omega) (ev_pos (by omega) (ev_pos (by omega) ?_))
    have hw : wrap64 ((i : Int) + 1) = ((i + 1 : Nat) : Int) := by rw [wid (by omega) (by omega)]; omega
    rw [hw]
    refine ih (i + 1) _ (by omega) (by simpa using hl) ?_
    rw [rd_nat xs i (by omega), Int.toNat_natCast, List.take_succ_eq_append_getElem (by simp; omega), List.take_succ_eq_append_getElem (by omega), List.getElem_set_self, List.take_set_of_le (by omega), ht]
theorem toIntS_ev (xs : List Int) (hn : xs.length ≤ 35184372088832) : Ev (fun k => laws_toIntS.f k xs) xs := by
  unfold laws_toIntS.f
  refine ev_pos (by omega) (ev_pos (by omega) ?_)
  exact toIntS_l0 xs hn xs.length 0 _ (by omega) (by simp) rfl
theorem eqIntS_l0 (xs ys : List Int) (hn : xs.length ≤ 35184372088832) (hl : ys.length = xs.length) (d : Nat) : ∀ (i : Nat), i + d = xs.length →
    Ev (fun k => laws_eqIntS.l0 k xs ys (i : Int)) (decide (xs.drop i = ys.drop i)) := by
  induction d with
  | zero =>
    intro i hi
    refine ev_succ ?_
    simp only [laws_eqIntS.l0]
    refine ev_neg (by omega) ?_
    rw [List.drop_of_length_le (by omega), List.drop_of_length_le (by omega)]
    exact ev_some _
  | succ d ih =>
    intro i hi
    refine ev_succ ?_
    simp only [laws_eqIntS.l0]
    refine ev_pos (by omega) (ev_pos (by omega) (ev_pos (by omega) ?_))
    have hw : wrap64 ((i : Int) + 1) = ((i + 1 : Nat) : Int) := by rw [wid (by omega) (by omega)]; omega
    rw [hw, drop_rd xs i (by omega), drop_rd ys i (by omega)]
    by_cases h : rd xs i = rd ys i
    · refine ev_pos h (ev_cast (ih (i + 1) (by omega)) ?_)
      simp [h]
    · refine ev_neg h (ev_cast (ev_some false) ?_)
      simp [h]
theorem eqIntS_ev (xs ys : List Int) (hn : xs.length ≤ 35184372088832) : Ev (fun k => laws_eqIntS.f k xs ys) (decide (xs = ys)) := by
  unfold laws_eqIntS.f
  by_cases h : xs.length = ys.length
  · refine ev_pos (by omega) (ev_cast (eqIntS_l0 xs ys hn h.symm xs.length 0 (by omega)) (by simp))
  · refine ev_neg (by omega) (ev_cast (ev_some false) ?_)
    have : xs ≠ ys := fun e => h (by rw [e])
    simp [this]
theorem allWithin_l0 (lo up : Int) (xs : List Int) (hn : xs.length ≤ 35184372088832) (d : Nat) : ∀ (i : Nat), i + d = xs.length →
    Ev (fun k => impl_allWithin.l0 k lo up xs (xs.length : Int) (i : Int)) (decide (∀ x ∈ xs.drop i, lo ≤ x ∧ x ≤ up)) := by
  induction d with
  | zero =>
    intro i hi
    refine ev_succ ?_
    simp only [impl_allWithin.l0]
    refine ev_neg (by omega) ?_
    rw [List.drop_of_length_le (by omega)]
    exact ev_cast (ev_some true) (by simp)
  | succ d ih =>
    intro i hi
    refine ev_succ ?_
    simp only [impl_allWithin.l0, within_eq, Option.bind_some]
    refine ev_pos (by omega) (ev_pos (by omega) (ev_pos (by omega) ?_))
    have hw : wrap64 ((i : Int) + 1) = ((i + 1 : Nat) : Int) := by rw [wid (by omega) (by omega)]; omega
    rw [hw, drop_rd xs i (by omega)]
    by_cases h : lo ≤ rd xs i ∧ rd xs i ≤ up
    · refine ev_pos (by simpa using h) (ev_cast (ih (i + 1) (by omega)) ?_)
      simp [h]
    · refine ev_neg (by simpa using h) (ev_cast (ev_some false) ?_)
      symm
      simp only [decide_eq_false_iff_not, List.mem_cons]
      exact fun hh => h (hh _ (Or.inl rfl))
theorem allWithin_ev (xs : List Int) (lo hi : Int) (hn : xs.length ≤ 35184372088832) : Ev (fun k => impl_allWithin.f k xs lo hi) (decide (∀ x ∈ xs, lo ≤ x ∧ x ≤ hi)) := by
  unfold impl_allWithin.f
  exact allWithin_l0 lo hi xs hn xs.length 0 (by omega)

/-! ### the three places -/
def Bad (xs : List Int) (c : Int) (i a j : Int) : Prop :=
  wrap64 ((a - i) * wrap64 (c + rd xs j)) < wrap64 (wrap64 ((a - i) * rd xs a) + wrap64 ((j - a) * wrap64 (rd xs a - rd xs i)))
def Good (xs : List Int) (c : Int) : Prop := ∀ i a j : Int, 0 ≤ i → i < a → a < j → j < xs.length → ¬ Bad xs c i a j

section
variable (xs : List Int) (c : Int) (hn : xs.length ≤ 41) (R : Bool × Bool) (hb : ¬ Good xs c → R = (false, true)) (hg : Good xs c → R = (true, true))
include hn hb

theorem impl_l2 (i a : Int) (h0 : 0 ≤ i) (h1 : i < a) (h2 : a < xs.length) (hc : Ev (fun k => impl_IsConvexFor.l1 k xs c i (wrap64 (a + 1)) (xs.length : Int) i) R ∨ ∃ j : Int, a < j ∧ j < xs.length ∧ Bad xs c i a j) (d : Nat) :
    ∀ j : Int, a < j → j ≤ xs.length → j + d = xs.length → (∀ j', a < j' → j' < j → ¬ Bad xs c i a j') → Ev (fun k => impl_IsConvexFor.l2 k xs c i a j (xs.length : Int) i) R := by
  induction d with
  | zero =>
    intro j h3 h4 h5 h6
    refine ev_succ ?_
    simp only [impl_IsConvexFor.l2]
    refine ev_neg (by omega) ?_
    rcases hc with hc | ⟨j', h7, h8, h9⟩
    · exact hc
    · exact absurd h9 (h6 j' h7 (by omega))
  | succ d ih =>
    intro j h3 h4 h5 h6
    refine ev_succ ?_
    simp only [impl_IsConvexFor.l2]
    refine ev_pos (by omega) (ev_pos (by omega) (ev_pos (by omega) (ev_pos (by omega) (ev_pos (by omega) (ev_pos (by omega) ?_)))))
    rw [show wrap64 (a - i) = a - i from wid (by omega) (by omega), show wrap64 (j - a) = j - a from wid (by omega) (by omega), show wrap64 (j + 1) = j + 1 from wid (by omega) (by omega)]
    by_cases h : Bad xs c i a j
    · refine ev_pos h (ev_cast (ev_some _) (hb fun g => g i a j h0 h1 h3 (by omega) h).symm)
    · refine ev_neg h (ih (j + 1) (by omega) (by omega) (by omega) fun j' h7 h8 => ?_)
      by_cases e : j' = j
      · rw [e]; exact h
      · exact h6 j' h7 (by omega)
theorem impl_l1 (i : Int) (h0 : 0 ≤ i) (h2 : i < xs.length) (hc : Ev (fun k => impl_IsConvexFor.l0 k xs c (xs.length : Int) (wrap64 (i + 1))) R ∨ ∃ a j : Int, i < a ∧ a < j ∧ j < xs.length ∧ Bad xs c i a j) (d : Nat) :
    ∀ a : Int, i < a → a ≤ xs.length → a + d = xs.length → (∀ a' j', i < a' → a' < a → a' < j' → j' < xs.length → ¬ Bad xs c i a' j') → Ev (fun k => impl_IsConvexFor.l1 k xs c i a (xs.length : Int) i) R := by
  induction d with
  | zero =>
    intro a h3 h4 h5 h6
    refine ev_succ ?_
    simp only [impl_IsConvexFor.l1]
    refine ev_neg (by omega) ?_
    rcases hc with hc | ⟨a', j', h7, h8, h9, h10⟩
    · exact hc
    · exact absurd h10 (h6 a' j' h7 (by omega) h8 h9)
  | succ d ih =>
    intro a h3 h4 h5 h6
    refine ev_succ ?_
    simp only [impl_IsConvexFor.l1]
    refine ev_pos (by omega) ?_
    rw [show wrap64 (a + 1) = a + 1 from wid (by omega) (by omega)]
    refine impl_l2 xs c hn R hb i a h0 h3 (by omega) ?_ (xs.length - (a + 1)).toNat (a + 1) (by omega) (by omega) (by omega) (fun j' h7 h8 => by omega)
    rw [show wrap64 (a + 1) = a + 1 from wid (by omega) (by omega)]
    by_cases h : ∃ j : Int, a < j ∧ j < xs.length ∧ Bad xs c i a j
    · exact .inr h
    · refine .inl (ih (a + 1) (by omega) (by omega) (by omega) fun a' j' h7 h8 h9 h10 hh => ?_)
      by_cases e : a' = a
      · rw [e] at hh h9; exact h ⟨j', h9, h10, hh⟩
      · exact h6 a' j' h7 (by omega) h9 h10 hh
include hg in
theorem impl_l0 (d : Nat) : ∀ i : Int, 0 ≤ i → i ≤ xs.length → i + d = xs.length → (∀ i' a' j' : Int, 0 ≤ i' → i' < i → i' < a' → a' < j' → j' < xs.length → ¬ Bad xs c i' a' j') → Ev (fun k => impl_IsConvexFor.l0 k xs c (xs.length : Int) i) R := by
  induction d with
  | zero =>
    intro i h3 h4 h5 h6
    refine ev_succ ?_
    simp only [impl_IsConvexFor.l0]
    refine ev_neg (by omega) (ev_cast (ev_some _) (hg fun i' a' j' h7 h8 h9 h10 => h6 i' a' j' h7 (by omega) h8 h9 h10).symm)
  | succ d ih =>
    intro i h3 h4 h5 h6
    refine ev_succ ?_
    simp only [impl_IsConvexFor.l0]
    refine ev_pos (by omega) ?_
    rw [show wrap64 (i + 1) = i + 1 from wid (by omega) (by omega)]
    refine impl_l1 xs c hn R hb i h3 (by omega) ?_ (xs.length - (i + 1)).toNat (i + 1) (by omega) (by omega) (by omega) (fun a' j' h7 h8 => by omega)
    rw [show wrap64 (i + 1) = i + 1 from wid (by omega) (by omega)]
    by_cases h : ∃ a j : Int, i < a ∧ a < j ∧ j < xs.length ∧ Bad xs c i a j
    · exact .inr h
    · refine .inl (ih (i + 1) (by omega) (by omega) (by omega) fun i' a' j' h7 h8 h9 h10 h11 hh => ?_)
      by_cases e : i' = i
      · rw [e] at hh h9; exact h ⟨a', j', h9, h10, h11, hh⟩
      · exact h6 i' a' j' h7 (by omega) h9 h10 h11 hh

theorem spec_l3 (a v : Int) (h0 : 1 ≤ v) (h1 : v ≤ a) (h2 : a < xs.length) (hc : Ev (fun k => spec_IsConvexFor.l2 k xs c a (wrap64 (v + 1))) R ∨ ∃ u : Int, 1 ≤ u ∧ a + u < xs.length ∧ Bad xs c (a - v) a (a + u)) (d : Nat) :
    ∀ u : Int, 1 ≤ u → a + u ≤ xs.length → a + u + d = xs.length → (∀ u', 1 ≤ u' → u' < u → ¬ Bad xs c (a - v) a (a + u')) → Ev (fun k => spec_IsConvexFor.l3 k xs c a v u) R := by
  induction d with
  | zero =>
    intro u h3 h4 h5 h6
    refine ev_succ ?_
    simp only [spec_IsConvexFor.l3]
    rw [show wrap64 (a + u) = a + u from wid (by omega) (by omega)]
    refine ev_neg (by omega) ?_
    rcases hc with hc | ⟨j', h7, h8, h9⟩
    · exact hc
    · exact absurd h9 (h6 j' h7 (by omega))
  | succ d ih =>
    intro u h3 h4 h5 h6
    refine ev_succ ?_
    simp only [spec_IsConvexFor.l3]
    rw [show wrap64 (a + u) = a + u from wid (by omega) (by omega), show wrap64 (a - v) = a - v from wid (by omega) (by omega), show wrap64 (u + 1) = u + 1 from wid (by omega) (by omega)]
    refine ev_pos (by omega) (ev_pos (by omega) (ev_pos (by omega) (ev_pos (by omega) (ev_pos (by omega) (ev_pos (by omega) ?_)))))
    have hB : Bad xs c (a - v) a (a + u) ↔ wrap64 (v * wrap64 (c + rd xs (a + u))) < wrap64 (wrap64 (v * rd xs a) + wrap64 (u * wrap64 (rd xs a - rd xs (a - v)))) := by
      unfold Bad
      rw [show a - (a - v) = v by omega, show a + u - a = u by omega]
    by_cases h : Bad xs c (a - v) a (a + u)
    · refine ev_pos (hB.1 h) (ev_cast (ev_some _) (hb fun g => g (a - v) a (a + u) (by omega) (by omega) (by omega) (by omega) h).symm)
    · refine ev_neg (fun hh => h (hB.2 hh)) (ih (u + 1) (by omega) (by omega) (by omega) fun j' h7 h8 => ?_)
      by_cases e : j' = u
      · rw [e]; exact h
      · exact h6 j' h7 (by omega)
theorem spec_l2 (a : Int) (h0 : 0 ≤ a) (h2 : a < xs.length) (hc : Ev (fun k => spec_IsConvexFor.l1 k xs c (wrap64 (a + 1))) R ∨ ∃ v u : Int, 1 ≤ v ∧ v ≤ a ∧ 1 ≤ u ∧ a + u < xs.length ∧ Bad xs c (a - v) a (a + u)) (d : Nat) :
    ∀ v : Int, 1 ≤ v → v ≤ a + 1 → v + d = a + 1 → (∀ v' u', 1 ≤ v' → v' < v → 1 ≤ u' → a + u' < xs.length → ¬ Bad xs c (a - v') a (a + u')) → Ev (fun k => spec_IsConvexFor.l2 k xs c a v) R := by
  induction d with
  | zero =>
    intro v h3 h4 h5 h6
    refine ev_succ ?_
    simp only [spec_IsConvexFor.l2]
    refine ev_neg (by omega) ?_
    rcases hc with hc | ⟨a', j', h7, h8, h9, h10, h11⟩
    · exact hc
    · exact absurd h11 (h6 a' j' h7 (by omega) h9 h10)
  | succ d ih =>
    intro v h3 h4 h5 h6
    refine ev_succ ?_
    simp only [spec_IsConvexFor.l2]
    refine ev_pos (by omega) ?_
    refine spec_l3 xs c hn R hb a v h3 (by omega) h2 ?_ (xs.length - (a + 1)).toNat 1 (by omega) (by omega) (by omega) (fun j' h7 h8 => by omega)
    rw [show wrap64 (v + 1) = v + 1 from wid (by omega) (by omega)]
    by_cases h : ∃ u : Int, 1 ≤ u ∧ a + u < xs.length ∧ Bad xs c (a - v) a (a + u)
    · exact .inr h
    · refine .inl (ih (v + 1) (by omega) (by omega) (by omega) fun a' j' h7 h8 h9 h10 hh => ?_)
      by_cases e : a' = v
      · rw [e] at hh; exact h ⟨j', h9, h10, hh⟩
      · exact h6 a' j' h7 (by omega) h9 h10 hh
include hg in
theorem spec_l1 (d : Nat) : ∀ a : Int, 0 ≤ a → a ≤ xs.length → a + d = xs.length → (∀ i' a' j' : Int, 0 ≤ i' → a' < a → i' < a' → a' < j' → j' < xs.length → ¬ Bad xs c i' a' j') → Ev (fun k => spec_IsConvexFor.l1 k xs c a) R := by
  induction d with
  | zero =>
    intro a h3 h4 h5 h6
    refine ev_succ ?_
    simp only [spec_IsConvexFor.l1]
    refine ev_neg (by omega) (ev_cast (ev_some _) (hg fun i' a' j' h7 h8 h9 h10 => h6 i' a' j' h7 (by omega) h8 h9 h10).symm)
  | succ d ih =>
    intro a h3 h4 h5 h6
    refine ev_succ ?_
    simp only [spec_IsConvexFor.l1]
    refine ev_pos (by omega) ?_
    refine spec_l2 xs c hn R hb a h3 (by omega) ?_ a.toNat 1 (by omega) (by omega) (by omega) (fun a' j' h7 h8 => by omega)
    rw [show wrap64 (a + 1) = a + 1 from wid (by omega) (by omega)]
    by_cases h : ∃ v u : Int, 1 ≤ v ∧ v ≤ a ∧ 1 ≤ u ∧ a + u < xs.length ∧ Bad xs c (a - v) a (a + u)
    · exact .inr h
    · refine .inl (ih (a + 1) (by omega) (by omega) (by omega) fun i' a' j' h7 h8 h9 h10 h11 hh => ?_)
      by_cases e : a' = a
      · refine h ⟨a - i', j' - a, by omega, by omega, by omega, by omega, ?_⟩
        rw [show a - (a - i') = i' by omega, show a + (j' - a) = j' by omega, ← e]
        exact hh
      · exact h6 i' a' j' h7 (by omega) h9 h10 h11 hh
end

/-- What both answer. -/
def Valid (xs : List Int) (c : Int) : Prop := xs.length ≤ 41 ∧ (∀ x ∈ xs, -1000000000000 ≤ x ∧ x ≤ 1000000000000) ∧ 0 ≤ c ∧ c ≤ 1000000000000
open Classical in
noncomputable def ans (xs : List Int) (c : Int) : Bool × Bool := if Valid xs c then (decide (Good xs c), true) else (false, false)
theorem ans_no {xs : List Int} {c : Int} (h : ¬ Valid xs c) : ans xs c = (false, false) := by unfold ans; rw [if_neg h]
theorem ans_bad {xs : List Int} {c : Int} (h : Valid xs c) (g : ¬ Good xs c) : ans xs c = (false, true) := by unfold ans; rw [if_pos h]; simp [g]
theorem ans_good {xs : List Int} {c : Int} (h : Valid xs c) (g : Good xs c) : ans xs c = (true, true) := by unfold ans; rw [if_pos h]; simp [g]

theorem impl_ev (xs : List Int) (c : Int) (hn : xs.length ≤ 35184372088832) : Ev (fun k => impl_IsConvexFor.f k xs c) (ans xs c) := by
  unfold impl_IsConvexFor.f
  by_cases h41 : (xs.length : Int) > 41
  · refine ev_pos h41 (ev_succ ?_)
    simp only [impl_IsConvexFor.j0, if_true]
    exact ev_cast (ev_some _) (ans_no fun v => by have := v.1; omega).symm
  · refine ev_neg h41 (ev_bind (allWithin_ev xs _ _ hn) ?_)
    simp only [within_eq, Option.bind_some]
    by_cases hw : ∀ x ∈ xs, -1000000000000 ≤ x ∧ x ≤ 1000000000000
    · refine ev_pos (by simpa using hw) (ev_succ ?_)
      simp only [impl_IsConvexFor.j0]
      by_cases hc : 0 ≤ c ∧ c ≤ 1000000000000
      · refine ev_neg (by simp [hc]) ?_
        have v : Valid xs c := ⟨by omega, hw, hc⟩
        exact impl_l0 xs c v.1 (ans xs c) (fun g => ans_bad v g) (fun g => ans_good v g) xs.length 0 (by omega) (by omega) (by omega) (fun i' a' j' h7 h8 => by omega)
      · refine ev_pos (by rw [decide_eq_false hc]; rfl) (ev_cast (ev_some _) (ans_no fun v => hc v.2.2).symm)
    · refine ev_neg (by simpa using hw) (ev_succ ?_)
      simp only [impl_IsConvexFor.j0, if_true]
      exact ev_cast (ev_some _) (ans_no fun v => hw v.2.1).symm

theorem spec_l0 (xs : List Int) (c : Int) (hn : xs.length ≤ 35184372088832) (d : Nat) : ∀ (i : Nat), i + d = xs.length → i ≤ 42 → (∀ x ∈ xs.take i, -1000000000000 ≤ x ∧ x ≤ 1000000000000) →
    Ev (fun k => spec_IsConvexFor.l0 k xs c (i : Int)) (ans xs c) := by
  have stop : ∀ (i : Nat), i ≤ 42 → i ≤ xs.length → (¬ (i < xs.length ∧ i ≤ 41)) → (∀ x ∈ xs.take i, -1000000000000 ≤ x ∧ x ≤ 1000000000000) → Ev (fun k => spec_IsConvexFor.j1 k xs c (i : Int) false) (ans xs c) := by
    intro i h42 hil hs hx
    refine ev_succ ?_
    simp only [spec_IsConvexFor.j1, in_eq, Option.bind_some]
    refine ev_neg (by simp) ?_
    by_cases h41 : (xs.length : Int) > 41
    · refine ev_pos h41 (ev_succ ?_)
      simp only [spec_IsConvexFor.j2, if_true]
      exact ev_cast (ev_some _) (ans_no fun v => by have := v.1; omega).symm
    · refine ev_neg h41 (ev_succ ?_)
      simp only [spec_IsConvexFor.j2]
      by_cases hc : 0 ≤ c ∧ c ≤ 1000000000000
      · refine ev_neg (by simp [hc]) ?_
        have v : Valid xs c := ⟨by omega, by rw [List.take_of_length_le (by omega)] at hx; exact hx, hc⟩
        exact spec_l1 xs c v.1 (ans xs c) (fun g => ans_bad v g) (fun g => ans_good v g) xs.length 0 (by omega) (by omega) (by omega) (fun i' a' j' h7 h8 => by omega)
      · refine ev_pos (by rw [decide_eq_false hc]; rfl) (ev_cast (ev_some _) (ans_no fun v => hc v.2.2).symm)
  induction d with
  | zero =>
    intro i hi h42 hx
    refine ev_succ ?_
    simp only [spec_IsConvexFor.l0]
    exact ev_neg (by omega) (stop i h42 (by omega) (by omega) hx)
  | succ d ih =>
    intro i hi h42 hx
    refine ev_succ ?_
    simp only [spec_IsConvexFor.l0]
    refine ev_pos (by omega) ?_
    by_cases h41 : (i : Int) ≤ 41
    · rw [decide_eq_true h41]
      refine ev_succ ?_
      simp only [spec_IsConvexFor.j1, in_eq, Option.bind_some]
      refine ev_pos trivial (ev_pos (by omega) (ev_pos (by omega) ?_))
      rw [show wrap64 ((i : Int) + 1) = ((i + 1 : Nat) : Int) by rw [wid (by omega) (by omega)]; omega]
      by_cases h : -1000000000000 ≤ rd xs i ∧ rd xs i ≤ 1000000000000
      · refine ev_pos (by simpa using h) (ih (i + 1) (by omega) (by omega) ?_)
        rw [List.take_succ_eq_append_getElem (by omega)]
        intro x hm
        rcases List.mem_append.1 hm with hm | hm
        · exact hx x hm
        · rw [rd_nat xs i (by omega)] at h
          rw [List.mem_singleton.1 hm]
          exact h
      · refine ev_neg (by simpa using h) (ev_cast (ev_some _) (ans_no fun v => h ?_).symm)
        rw [rd_nat xs i (by omega)]
        exact v.2.1 _ (List.getElem_mem _)
    · rw [decide_eq_false h41]
      exact stop i h42 (by omega) (by omega) hx
theorem spec_ev (xs : List Int) (c : Int) (hn : xs.length ≤ 35184372088832) : Ev (fun k => spec_IsConvexFor.f k xs c) (ans xs c) := by
  unfold spec_IsConvexFor.f
  exact spec_l0 xs c hn xs.length 0 (by omega) (by omega) (by simp)

theorem FnExactIsConvexFor (l : List Int) (c : Int) (hl0 : l.length ≤ maxLen) (hw0 : ∀ x ∈ l, (Lit.int .i64 x).wf = true) (hw1 : (Lit.int .i64 c).wf = true) :
    ∃ k, laws_FnExactIsConvexFor.f k l c = some true := by
  refine Ev.rounds ?_
  unfold laws_FnExactIsConvexFor.f
  by_cases h : (l.length : Int) > 1048576
  · exact ev_pos h (ev_some _)
  · refine ev_neg h ?_
    have hn : l.length ≤ 35184372088832 := by omega
    refine ev_bind (toIntS_ev l hn) (ev_bind (spec_ev l c hn) (ev_bind (toIntS_ev l hn) (ev_bind (impl_ev l c hn) ?_)))
    refine ev_neg (by simp) (ev_succ ?_)
    simp only [laws_FnExactIsConvexFor.j0]
    refine ev_neg (by simp) (ev_bind (toIntS_ev l hn) (ev_bind (eqIntS_ev l l hn) ?_))
    exact ev_pos (by simp) (ev_some _)

end Go.Proofs.Ytbbancmbmgbjkaa.Pure
