/- The program's IsIssue and the reference's decide the same conditions on a shelf and an issue of it; the program adds the columns row by row, the reference column by column. No conditions. -/
import Derived.Test.YtmofmcagclkchaaKit
import Derived.Test.YtmofmcagclkchaaQFnExactIsIssuex7
namespace Go.Proofs.Ytmofmcagclkchaa.Pure
set_option linter.unusedVariables false
open Go.RowKit Go.Proofs.Ytmofmcagclkchaa.PFnExactIsIssue Go.Proofs.YtmofmcagclkchaaW.PrintWords Go.Proofs.YtmofmcagclkchaaW.PrintLast Go.Proofs.Ytmofmcagclkchaa.Kit

theorem in_eq (a b c : Int) : spec_l1In.f a b c = some (decide (b ≤ a ∧ a ≤ c)) := by
  unfold spec_l1In.f
  by_cases h : b ≤ a <;> simp [h]
theorem within_eq (a b c : Int) : impl_within.f a b c = some (decide (b ≤ a ∧ a ≤ c)) := by
  unfold impl_within.f
  by_cases h : b ≤ a <;> simp [h]
theorem toIntS_l0 (xs : List Int) (hn : xs.length ≤ 35184372088832) (d : Nat) : ∀ (i : Nat) (ys : List Int), i + d = xs.length → ys.length = xs.length → ys.take i = xs.take i →
    Ev (fun k => laws_toIntS.l0 k xs ys (i : Int)) xs := by
  induction d with
  | zero =>
    intro i ys hi hl ht
    refine ev_succ ?_
    simp only [laws_toIntS.l0]
    refine ev_neg (by omega) ?_
    rw [List.take_of_length_le (by omega), List.take_of_length_le (by omega)] at ht
    rw [ht]
    exact ev_some _
  | succ d ih =>
    intro i ys hi hl ht
    refine ev_succ ?_
    simp only [laws_toIntS.l0]
    refine ev_pos (by omega) (ev_pos (by omega) (ev_pos (by omega) ?_))
    have hw : wrap64 ((i : Int) + 1) = ((i + 1 : Nat) : Int) := by rw [wid (by omega) (by omega)]; omega
    rw [hw]
    refine ih (i + 1) _ (by omega) (by simpa using hl) ?_
    rw [rd_nat xs i (by omega), Int.toNat_natCast, List.take_succ_eq_append_getElem (by simp; omega), List.take_succ_eq_append_getElem (by omega), List.getElem_set_self, List.take_set_of_le (by omega), ht]
theorem toIntS_ev (xs : List Int) (hn : xs.length ≤ 35184372088832) : Ev (fun k => laws_toIntS.f k xs) xs := by
  unfold laws_toIntS.f
  refine ev_pos (by omega) (ev_pos (by omega) ?_)
  exact toIntS_l0 xs hn xs.length 0 _ (by omega) (by simp) rfl
theorem eqIntS_l0 (xs ys : List Int) (hn : xs.length ≤ 35184372088832) (hl : ys.length = xs.length) (d : Nat) : ∀ (i : Nat), i + d = xs.length →
    Ev (fun k => laws_eqIntS.l0 k xs ys (i : Int)) (decide (xs.drop i = ys.drop i)) := by
  induction d with
  | zero =>
    intro i hi
    refine ev_succ ?_
    simp only [laws_eqIntS.l0]
    refine ev_neg (by omega) ?_
    rw [List.drop_of_length_le (by omega), List.drop_of_length_le (by omega)]
    exact ev_some _
  | succ d ih =>
    intro i hi
    refine ev_succ ?_
    simp only [laws_eqIntS.l0]
    refine ev_pos (by omega) (ev_pos (by omega) (ev_pos (by omega) ?_))
    have hw : wrap64 ((i : Int) + 1) = ((i + 1 : Nat) : Int) := by rw [wid (by omega) (by omega)]; omega
    rw [hw, drop_rd xs i (by omega), drop_rd ys i (by omega)]
    by_cases h : rd xs i = rd ys i
    · refine ev_pos h (ev_cast (ih (i + 1) (by omega)) ?_)
      simp [h]
    · refine ev_neg h (ev_cast (ev_some false) ?_)
      simp [h]
theorem eqIntS_ev (xs ys : List Int) (hn : xs.length ≤ 35184372088832) : Ev (fun k => laws_eqIntS.f k xs ys) (decide (xs = ys)) := by
  unfold laws_eqIntS.f
  by_cases h : xs.length = ys.length
  · refine ev_pos (by omega) (ev_cast (eqIntS_l0 xs ys hn h.symm xs.length 0 (by omega)) (by simp))
  · refine ev_neg (by omega) (ev_cast (ev_some false) ?_)
    have : xs ≠ ys := fun e => h (by rw [e])
    simp [this]
theorem allWithin_l0 (lo up : Int) (xs : List Int) (hn : xs.length ≤ 35184372088832) (d : Nat) : ∀ (i : Nat), i + d = xs.length →
    Ev (fun k => impl_allWithin.l0 k lo up xs (xs.length : Int) (i : Int)) (decide (∀ x ∈ xs.drop i, lo ≤ x ∧ x ≤ up)) := by
  induction d with
  | zero =>
    intro i hi
    refine ev_succ ?_
    simp only [impl_allWithin.l0]
    refine ev_neg (by omega) ?_
    rw [List.drop_of_length_le (by omega)]
    exact ev_cast (ev_some true) (by simp)
  | succ d ih =>
    intro i hi
    refine ev_succ ?_
    simp only [impl_allWithin.l0, within_eq, Option.bind_some]
    refine ev_pos (by omega) (ev_pos (by omega) (ev_pos (by omega) ?_))
    have hw : wrap64 ((i : Int) + 1) = ((i + 1 : Nat) : Int) := by rw [wid (by omega) (by omega)]; omega
    rw [hw, drop_rd xs i (by omega)]
    by_cases h : lo ≤ rd xs i ∧ rd xs i ≤ up
    · refine ev_pos (by simpa using h) (ev_cast (ih (i + 1) (by omega)) ?_)
      simp [h]
    · refine ev_neg (by simpa using h) (ev_cast (ev_some false) ?_)
      symm
      simp only [decide_eq_false_iff_not, List.mem_cons]
      exact fun hh => h (hh _ (Or.inl rfl))
theorem allWithin_ev (xs : List Int) (lo hi : Int) (hn : xs.length ≤ 35184372088832) : Ev (fun k => impl_allWithin.f k xs lo hi) (decide (∀ x ∈ xs, lo ≤ x ∧ x ≤ hi)) := by
  unfold impl_allWithin.f
  exact allWithin_l0 lo hi xs hn xs.length 0 (by omega)
theorem l2Row_l0 (n up : Int) (xs : List Int) (hn : xs.length ≤ 35184372088832) (d : Nat) : ∀ (i : Nat), i + d = xs.length →
    Ev (fun k => spec_l2Row.l0 k xs n up (i : Int)) (decide ((∀ x ∈ xs.drop i, 0 ≤ x ∧ x ≤ up) ∧ (xs.length : Int) = n)) := by
  induction d with
  | zero =>
    intro i hi
    refine ev_succ ?_
    simp only [spec_l2Row.l0]
    refine ev_neg (by omega) ?_
    rw [List.drop_of_length_le (by omega)]
    refine ev_cast (ev_some _) ?_
    rw [Bool.eq_iff_iff]
    simp
  | succ d ih =>
    intro i hi
    refine ev_succ ?_
    simp only [spec_l2Row.l0, in_eq, Option.bind_some]
    refine ev_pos (by omega) (ev_pos (by omega) ?_)
    have hw : wrap64 ((i : Int) + 1) = ((i + 1 : Nat) : Int) := by rw [wid (by omega) (by omega)]; omega
    rw [hw, drop_rd xs i (by omega)]
    by_cases h : 0 ≤ rd xs i ∧ rd xs i ≤ up
    · refine ev_pos (by simpa using h) (ev_cast (ih (i + 1) (by omega)) ?_)
      simp [h]
    · refine ev_neg (by simpa using h) (ev_cast (ev_some false) ?_)
      symm
      simp only [decide_eq_false_iff_not, List.mem_cons]
      exact fun hh => h (hh.1 _ (Or.inl rfl))
theorem l2Row_ev (xs : List Int) (n up : Int) (hn : xs.length ≤ 35184372088832) : Ev (fun k => spec_l2Row.f k xs n up) (decide ((∀ x ∈ xs, 0 ≤ x ∧ x ≤ up) ∧ (xs.length : Int) = n)) := by
  unfold spec_l2Row.f
  exact l2Row_l0 n up xs hn xs.length 0 (by omega)
theorem l2Sum_l0 (xs : List Int) (hn : xs.length ≤ 35184372088832) (hs : ∀ i, -9223372036854775808 ≤ (xs.take i).sum ∧ (xs.take i).sum ≤ 9223372036854775807) (d : Nat) : ∀ (i : Nat), i + d = xs.length →
    Ev (fun k => spec_l2Sum.l0 k xs (xs.take i).sum (i : Int)) xs.sum := by
  induction d with
  | zero =>
    intro i hi
    refine ev_succ ?_
    simp only [spec_l2Sum.l0]
    refine ev_neg (by omega) ?_
    rw [List.take_of_length_le (by omega)]
    exact ev_some _
  | succ d ih =>
    intro i hi
    refine ev_succ ?_
    simp only [spec_l2Sum.l0]
    refine ev_pos (by omega) (ev_pos (by omega) ?_)
    have hw : wrap64 ((i : Int) + 1) = ((i + 1 : Nat) : Int) := by rw [wid (by omega) (by omega)]; omega
    have ht := take_sum_succ xs i (by omega)
    rw [hw, ht, wid (hs _).1 (hs _).2]
    exact ih (i + 1) (by omega)
theorem l2Sum_ev (xs : List Int) (hn : xs.length ≤ 35184372088832) (hs : ∀ i, -9223372036854775808 ≤ (xs.take i).sum ∧ (xs.take i).sum ≤ 9223372036854775807) : Ev (fun k => spec_l2Sum.f k xs) xs.sum := by
  unfold spec_l2Sum.f
  exact l2Sum_l0 xs hn hs xs.length 0 (by omega)
theorem total_l0 (xs : List Int) (hn : xs.length ≤ 35184372088832) (hs : ∀ i, -9223372036854775808 ≤ (xs.take i).sum ∧ (xs.take i).sum ≤ 9223372036854775807) (d : Nat) : ∀ (i : Nat), i + d = xs.length →
    Ev (fun k => impl_total.l0 k (xs.take i).sum xs (xs.length : Int) (i : Int)) xs.sum := by
  induction d with
  | zero =>
    intro i hi
    refine ev_succ ?_
    simp only [impl_total.l0]
    refine ev_neg (by omega) ?_
    rw [List.take_of_length_le (by omega)]
    exact ev_some _
  | succ d ih =>
    intro i hi
    refine ev_succ ?_
    simp only [impl_total.l0]
    refine ev_pos (by omega) (ev_pos (by omega) (ev_pos (by omega) ?_))
    have hw : wrap64 ((i : Int) + 1) = ((i + 1 : Nat) : Int) := by rw [wid (by omega) (by omega)]; omega
    have ht := take_sum_succ xs i (by omega)
    rw [hw, ht, wid (hs _).1 (hs _).2]
    exact ih (i + 1) (by omega)
theorem total_ev (xs : List Int) (hn : xs.length ≤ 35184372088832) (hs : ∀ i, -9223372036854775808 ≤ (xs.take i).sum ∧ (xs.take i).sum ≤ 9223372036854775807) : Ev (fun k => impl_total.f k xs) xs.sum := by
  unfold impl_total.f
  exact total_l0 xs hn hs xs.length 0 (by omega)
theorem szIntS_eq (xs : List Int) (a : Int) (h0 : 0 ≤ a) (h1 : a ≤ 1048576) (hl : xs.length ≤ maxLen) : laws_szIntS.f xs a = some (if a - (xs.length : Int) < 0 then -1 else a - (xs.length : Int)) := by
  unfold maxLen at hl
  unfold laws_szIntS.f
  rw [wid (by omega) (by omega)]
  split <;> rfl
theorem rd_in {xs : List Int} {lo up : Int} (h : ∀ x ∈ xs, lo ≤ x ∧ x ≤ up) (i : Nat) (hi : i < xs.length) : lo ≤ rd xs (i : Int) ∧ rd xs (i : Int) ≤ up := by
  rw [rd_nat xs i hi]
  exact h _ (List.getElem_mem _)
theorem szShelf_eq (a : Int) (l m : List Int) (b c : Int) (n : Int) (h0 : 0 ≤ n) (h1 : n ≤ 1048576) (hl : l.length ≤ maxLen) (hm : m.length ≤ maxLen) :
    ∃ r, laws_szShelf.f a l m b c n = some r ∧ (0 ≤ r → r = n - l.length - m.length) := by
  unfold laws_szShelf.f
  rw [szIntS_eq l n h0 h1 hl]
  simp only [Option.bind_some]
  by_cases c1 : n - (l.length : Int) < 0
  · rw [if_pos c1, if_pos (by omega)]
    exact ⟨_, rfl, by omega⟩
  · rw [if_neg c1, if_neg c1, szIntS_eq m _ (by omega) (by omega) hm]
    simp only [Option.bind_some]
    by_cases c2 : n - (l.length : Int) - (m.length : Int) < 0
    · rw [if_pos c2, if_pos (by omega)]
      exact ⟨_, rfl, by omega⟩
    · rw [if_neg c2, if_neg c2]
      exact ⟨_, rfl, fun _ => rfl⟩
theorem toShelf_ev (a : Int) (l m : List Int) (b c : Int) (hl : l.length ≤ 35184372088832) (hm : m.length ≤ 35184372088832) : Ev (fun k => laws_toShelf.f k a l m b c) (a, l, m, b, c) := by
  unfold laws_toShelf.f
  exact ev_bind (toIntS_ev l hl) (ev_bind (toIntS_ev m hm) (ev_some _))
theorem eqShelf_ev (a : Int) (l m : List Int) (b c : Int) (hl : l.length ≤ 35184372088832) (hm : m.length ≤ 35184372088832) : Ev (fun k => laws_eqShelf.f k a l m b c a l m b c) true := by
  unfold laws_eqShelf.f
  refine ev_pos rfl (ev_bind (eqIntS_ev l l hl) (ev_pos (by simp) (ev_bind (eqIntS_ev m m hm) (ev_pos (by simp) (ev_pos rfl (ev_pos rfl (ev_some _)))))))

/-- What a valid shelf is. -/
def ShelfOk (a : Int) (l m : List Int) (b c : Int) : Prop :=
  (1 ≤ a ∧ a ≤ 8) ∧ (l.length : Int) ≤ 8 ∧ (m.length : Int) = (l.length : Int) ∧ (∀ x ∈ l, 0 ≤ x ∧ x ≤ 20) ∧ (∀ x ∈ m, 0 ≤ x ∧ x ≤ 20) ∧ (∀ x ∈ [b, c], 0 ≤ x ∧ x ≤ 20)
instance (a : Int) (l m : List Int) (b c : Int) : Decidable (ShelfOk a l m b c) := by unfold ShelfOk; infer_instance
theorem implShelf_ev (a : Int) (l m : List Int) (b c : Int) (hl : l.length ≤ 35184372088832) (hm : m.length ≤ 35184372088832) : Ev (fun k => impl_IsShelf.f k a l m b c) (decide (ShelfOk a l m b c)) := by
  unfold impl_IsShelf.f ShelfOk
  simp only [impl_isLife.f, within_eq, Option.bind_some]
  refine ev_and rfl fun _ => ev_andp fun _ => ev_andp fun _ => ev_bind (allWithin_ev l 0 20 hl) (ev_and rfl fun _ => ev_bind (allWithin_ev m 0 20 hm) (ev_and rfl fun _ => ?_))
  refine ev_bind (g := fun k => impl_areCharges.f k [b, c]) (a := decide (∀ x ∈ [b, c], 0 ≤ x ∧ x ≤ 20)) ?_ (ev_some _)
  unfold impl_areCharges.f
  exact ev_bind (allWithin_ev [b, c] 0 20 (by simp)) (ev_some _)
theorem specShelf_ev (a : Int) (l m : List Int) (b c : Int) (hl : l.length ≤ 35184372088832) (hm : m.length ≤ 35184372088832) : Ev (fun k => spec_l9Good.f k a l m b c) (decide (ShelfOk a l m b c)) := by
  unfold spec_l9Good.f
  simp only [in_eq, Option.bind_some]
  by_cases h1 : 1 ≤ a ∧ a ≤ 8
  · refine ev_pos (by simpa using h1) (ev_succ ?_)
    simp only [spec_l9Good.j0]
    by_cases h2 : (m.length : Int) > 8
    · refine ev_pos (by simpa using h2) (ev_false fun h => ?_)
      have := h.2.1
      have := h.2.2.1
      omega
    · refine ev_neg (by simpa using h2) ?_
      simp only [spec_l5Charges.f, in_eq, Option.bind_some]
      refine ev_dec (P := ((∀ x ∈ m, 0 ≤ x ∧ x ≤ 20) ∧ (m.length : Int) = m.length) ∧ ((∀ x ∈ l, 0 ≤ x ∧ x ≤ 20) ∧ (l.length : Int) = m.length) ∧ (0 ≤ b ∧ b ≤ 20) ∧ (0 ≤ c ∧ c ≤ 20)) ?_ ?_
      · refine ev_bind (l2Row_ev m _ 20 hm) (ev_and rfl fun _ => ev_bind (l2Row_ev l _ 20 hl) (ev_and rfl fun _ => ?_))
        refine ev_cast (r := decide ((0 ≤ b ∧ b ≤ 20) ∧ (0 ≤ c ∧ c ≤ 20))) ?_ rfl
        by_cases h3 : 0 ≤ b ∧ b ≤ 20
        · simp [h3]
          exact ev_some _
        · simp only [h3, decide_false, false_and, Bool.false_eq_true, if_false, Option.bind_some]
          exact ev_some _
      · unfold ShelfOk
        simp only [List.mem_cons, List.not_mem_nil, or_false, forall_eq_or_imp, forall_eq]
        constructor
        · rintro ⟨⟨p1, p2⟩, ⟨p3, p4⟩, p5, p6⟩
          exact ⟨h1, by omega, by omega, p3, p1, p5, p6⟩
        · rintro ⟨_, p1, p2, p3, p4, p5, p6⟩
          exact ⟨⟨p4, trivial⟩, ⟨p3, p2.symm⟩, p5, p6⟩
  · refine ev_neg (by simpa using h1) (ev_succ ?_)
    simp only [spec_l9Good.j0, if_true]
    exact ev_false fun h => h1 h.1
theorem rd_L1_nat (xs : List (List Int)) (i : Nat) (h : i < xs.length) : rd_L1 xs (i : Int) = xs[i] := by
  unfold rd_L1
  simp [List.getD_eq_getElem?_getD, h]
theorem drop_rd_L1 (xs : List (List Int)) (i : Nat) (h : i < xs.length) : xs.drop i = rd_L1 xs (i : Int) :: xs.drop (i + 1) := by
  rw [rd_L1_nat xs i h]
  exact List.drop_eq_getElem_cons h
theorem rd_L1_mem (xs : List (List Int)) (i : Nat) (h : i < xs.length) : rd_L1 xs (i : Int) ∈ xs := by
  rw [rd_L1_nat xs i h]
  exact List.getElem_mem _
theorem szIntSS_l0 (l : List (List Int)) (hl : l.length ≤ maxLen) (hw : ∀ r ∈ l, r.length ≤ maxLen) (d : Nat) : ∀ (i : Nat) (n : Int), i + d = l.length → 0 ≤ n → n ≤ 1048576 →
    ∃ r, Ev (fun k => laws_szIntSS.l0 k l n (i : Int)) r ∧ (0 ≤ r → ∀ j : Nat, i ≤ j → j < l.length → (rd_L1 l (j : Int)).length ≤ 1048576) := by
  have h47 : l.length ≤ 9223372036854775807 := by unfold maxLen at hl; omega
  induction d with
  | zero =>
    intro i n hi h0 h1
    refine ⟨n, ev_succ ?_, fun _ j h2 h3 => by omega⟩
    simp only [laws_szIntSS.l0]
    exact ev_neg (by omega) (ev_some _)
  | succ d ih =>
    intro i n hi h0 h1
    have hr := hw _ (rd_L1_mem l i (by omega))
    have hw1 : wrap64 ((i : Int) + 1) = ((i + 1 : Nat) : Int) := by rw [wid (by omega) (by omega)]; omega
    by_cases c : n - ((rd_L1 l (i : Int)).length : Int) < 0
    · refine ⟨-1, ev_succ ?_, fun h => by omega⟩
      simp only [laws_szIntSS.l0, szIntS_eq _ n h0 h1 hr, Option.bind_some]
      rw [if_pos c]
      exact ev_pos (by omega) (ev_pos (by omega) (ev_pos (by omega) (ev_some _)))
    · obtain ⟨r, hr1, hr2⟩ := ih (i + 1) (n - ((rd_L1 l (i : Int)).length : Int)) (by omega) (by omega) (by omega)
      refine ⟨r, ev_succ ?_, fun h j h2 h3 => ?_⟩
      · simp only [laws_szIntSS.l0, szIntS_eq _ n h0 h1 hr, Option.bind_some]
        rw [if_neg c, hw1]
        exact ev_pos (by omega) (ev_pos (by omega) (ev_neg (by omega) hr1))
      · by_cases e : j = i
        · rw [e]; omega
        · exact hr2 h j (by omega) h3
theorem szIntSS_ev (l : List (List Int)) (n : Int) (h0 : 0 ≤ n) (h1 : n ≤ 1048576) (hl : l.length ≤ maxLen) (hw : ∀ r ∈ l, r.length ≤ maxLen) :
    ∃ r, Ev (fun k => laws_szIntSS.f k l n) r ∧ (0 ≤ r → l.length ≤ 1048576 ∧ ∀ x ∈ l, x.length ≤ 1048576) := by
  have h47 : l.length ≤ 9223372036854775807 := by unfold maxLen at hl; omega
  unfold laws_szIntSS.f
  rw [wid (by omega) (by omega)]
  by_cases c : n - (l.length : Int) < 0
  · exact ⟨-1, ev_pos c (ev_some _), fun h => by omega⟩
  · obtain ⟨r, hr1, hr2⟩ := szIntSS_l0 l hl hw l.length 0 (n - (l.length : Int)) (by omega) (by omega) (by omega)
    refine ⟨r, ev_neg c hr1, fun h => ⟨by omega, fun x hx => ?_⟩⟩
    obtain ⟨j, hj, rfl⟩ := List.getElem_of_mem hx
    have := hr2 h j (by omega) hj
    rwa [rd_L1_nat l j hj] at this
theorem toIntSS_l0 (xs : List (List Int)) (hn : xs.length ≤ 1048576) (hw : ∀ r ∈ xs, r.length ≤ 1048576) (d : Nat) : ∀ (i : Nat) (ys : List (List Int)), i + d = xs.length → ys.length = xs.length → ys.take i = xs.take i →
    Ev (fun k => laws_toIntSS.l0 k xs ys (i : Int)) xs := by
  induction d with
  | zero =>
    intro i ys hi hl ht
    refine ev_succ ?_
    simp only [laws_toIntSS.l0]
    refine ev_neg (by omega) ?_
    rw [List.take_of_length_le (by omega), List.take_of_length_le (by omega)] at ht
    rw [ht]
    exact ev_some _
  | succ d ih =>
    intro i ys hi hl ht
    have hr := hw _ (rd_L1_mem xs i (by omega))
    refine ev_succ ?_
    simp only [laws_toIntSS.l0]
    have hw : wrap64 ((i : Int) + 1) = ((i + 1 : Nat) : Int) := by rw [wid (by omega) (by omega)]; omega
    rw [hw]
    refine ev_pos (by omega) (ev_pos (by omega) (ev_bind (toIntS_ev _ (by omega)) (ev_pos (by omega) ?_)))
    refine ih (i + 1) _ (by omega) (by simpa using hl) ?_
    rw [rd_L1_nat xs i (by omega), Int.toNat_natCast, List.take_succ_eq_append_getElem (by simp; omega), List.take_succ_eq_append_getElem (by omega), List.getElem_set_self, List.take_set_of_le (by omega), ht]
theorem toIntSS_ev (xs : List (List Int)) (hn : xs.length ≤ 1048576) (hw : ∀ r ∈ xs, r.length ≤ 1048576) : Ev (fun k => laws_toIntSS.f k xs) xs := by
  unfold laws_toIntSS.f
  exact ev_pos (by omega) (ev_pos (by omega) (toIntSS_l0 xs hn hw xs.length 0 _ (by omega) (by simp) rfl))
theorem eqIntSS_l0 (xs : List (List Int)) (hn : xs.length ≤ 1048576) (hw : ∀ r ∈ xs, r.length ≤ 1048576) (d : Nat) : ∀ (i : Nat), i + d = xs.length → Ev (fun k => laws_eqIntSS.l0 k xs xs (i : Int)) true := by
  induction d with
  | zero =>
    intro i hi
    refine ev_succ ?_
    simp only [laws_eqIntSS.l0]
    exact ev_neg (by omega) (ev_some _)
  | succ d ih =>
    intro i hi
    have hr := hw _ (rd_L1_mem xs i (by omega))
    refine ev_succ ?_
    simp only [laws_eqIntSS.l0]
    have hw : wrap64 ((i : Int) + 1) = ((i + 1 : Nat) : Int) := by rw [wid (by omega) (by omega)]; omega
    rw [hw]
    exact ev_pos (by omega) (ev_pos (by omega) (ev_pos (by omega) (ev_bind (eqIntS_ev _ _ (by omega)) (ev_pos (by simp) (ih (i + 1) (by omega))))))
theorem eqIntSS_ev (xs : List (List Int)) (hn : xs.length ≤ 1048576) (hw : ∀ r ∈ xs, r.length ≤ 1048576) : Ev (fun k => laws_eqIntSS.f k xs xs) true := by
  unfold laws_eqIntSS.f
  exact ev_pos rfl (eqIntSS_l0 xs hn hw xs.length 0 (by omega))
/-- What is used of the units of a period, in the first t rows. -/
def col (iss : List (List Int)) (i : Nat) : Nat → Int
  | 0 => 0
  | t + 1 => col iss i t + rd (rd_L1 iss (t : Int)) (i : Int)
def RowOk (life : Int) (need : List Int) (iss : List (List Int)) (t : Nat) : Prop :=
  (rd_L1 iss (t : Int)).length = need.length ∧ (∀ x ∈ rd_L1 iss (t : Int), 0 ≤ x ∧ x ≤ 20) ∧ (rd_L1 iss (t : Int)).sum ≤ rd need (t : Int) ∧ ∀ i : Nat, i < need.length → rd (rd_L1 iss (t : Int)) (i : Int) > 0 → (i : Int) ≤ (t : Int) ∧ (t : Int) < (i : Int) + life
def IssueOk (life : Int) (arr need : List Int) (iss : List (List Int)) : Prop :=
  iss.length = need.length ∧ (∀ t : Nat, t < need.length → RowOk life need iss t) ∧ ∀ i : Nat, i < need.length → col iss i need.length ≤ rd arr (i : Int)
section
variable (life : Int) (arr need : List Int) (w l : Int) (iss : List (List Int)) (hs : ShelfOk life arr need w l) (hn : iss.length ≤ 1048576) (hr : ∀ r ∈ iss, r.length ≤ 1048576)
variable (R : Bool) (hb : ¬ IssueOk life arr need iss → R = false) (hg : IssueOk life arr need iss → R = true)
include hs hn hr
omit hs hn hr in
theorem col_in (hrow : ∀ t : Nat, t < need.length → RowOk life need iss t) (i : Nat) (hi : i < need.length) : ∀ t : Nat, t ≤ need.length → 0 ≤ col iss i t ∧ col iss i t ≤ 20 * (t : Int) := by
  intro t
  induction t with
  | zero => intro _; simp [col]
  | succ t ih =>
    intro ht
    have h1 := ih (by omega)
    have h2 := hrow t (by omega)
    have h3 := rd_in h2.2.1 i (by rw [h2.1]; exact hi)
    show 0 ≤ col iss i t + rd (rd_L1 iss (t : Int)) (i : Int) ∧ col iss i t + rd (rd_L1 iss (t : Int)) (i : Int) ≤ _
    omega
omit hn hr in
theorem specColumn_ev (hrow : ∀ t : Nat, t < need.length → RowOk life need iss t) (he : iss.length = need.length) (i : Nat) (hi : i < need.length) : Ev (fun k => spec_l9Column.f k iss (i : Int)) (col iss i need.length) := by
  have key : ∀ (d t : Nat), t + d = need.length → Ev (fun k => spec_l9Column.l0 k iss (i : Int) (col iss i t) (t : Int)) (col iss i need.length) := by
    have h8 := hs.2.1
    have h9 := hs.2.2.1
    intro d
    induction d with
    | zero =>
      intro t ht
      refine ev_succ ?_
      simp only [spec_l9Column.l0]
      refine ev_neg (by omega) (ev_cast (ev_some _) ?_)
      rw [show t = need.length by omega]
    | succ d ih =>
      intro t ht
      have h2 := hrow t (by omega)
      have h3 := rd_in h2.2.1 i (by rw [h2.1]; exact hi)
      have h4 := col_in life need iss hrow i hi t (by omega)
      have hw : wrap64 ((t : Int) + 1) = ((t + 1 : Nat) : Int) := by rw [wid (by omega) (by omega)]; omega
      have e : wrap64 (col iss i t + rd (rd_L1 iss (t : Int)) (i : Int)) = col iss i (t + 1) := by rw [wid (by omega) (by omega)]; rfl
      refine ev_succ ?_
      simp only [spec_l9Column.l0]
      rw [hw, e]
      exact ev_pos (by omega) (ev_pos (by omega) (ev_pos (by omega) (ev_pos (by have := h2.1; omega) (ih (t + 1) (by omega)))))
  unfold spec_l9Column.f
  exact key need.length 0 (by omega)
include hb hg
omit hn hr in
theorem specIssue_l2 (hrow : ∀ t : Nat, t < need.length → RowOk life need iss t) (he : iss.length = need.length) (d : Nat) : ∀ i : Nat, i + d = need.length → (∀ j : Nat, j < i → col iss j need.length ≤ rd arr (j : Int)) →
    Ev (fun k => spec_l9Issue.l2 k iss (need.length : Int) (i : Int) life arr need w l) R := by
  have h8 := hs.2.1
  have h9 := hs.2.2.1
  induction d with
  | zero =>
    intro i hi hj
    refine ev_succ ?_
    simp only [spec_l9Issue.l2]
    exact ev_neg (by omega) (ev_cast (ev_some _) (hg ⟨he, hrow, fun j h => hj j (by omega)⟩).symm)
  | succ d ih =>
    intro i hi hj
    have hw : wrap64 ((i : Int) + 1) = ((i + 1 : Nat) : Int) := by rw [wid (by omega) (by omega)]; omega
    refine ev_succ ?_
    simp only [spec_l9Issue.l2]
    rw [hw]
    refine ev_pos (by omega) (ev_bind (specColumn_ev life arr need w l iss hs hrow he i (by omega)) (ev_pos (by omega) (ev_pos (by omega) ?_)))
    by_cases h : col iss i need.length > rd arr (i : Int)
    · refine ev_pos h (ev_cast (ev_some _) (hb fun p => ?_).symm)
      have := p.2.2 i (by omega)
      omega
    · refine ev_neg h (ih (i + 1) (by omega) fun j h' => ?_)
      by_cases e : j = i
      · rw [e]; omega
      · exact hj j (by omega)
omit hg hr in
theorem specIssue_l1 (t : Nat) (ht : t < need.length) (hti : t < iss.length) (h1 : (rd_L1 iss (t : Int)).length = need.length) (hc : (∀ i : Nat, i < need.length → rd (rd_L1 iss (t : Int)) (i : Int) > 0 → (i : Int) ≤ (t : Int) ∧ (t : Int) < (i : Int) + life) → Ev (fun k => spec_l9Issue.l0 k iss (need.length : Int) ((t + 1 : Nat) : Int) life arr need w l) R) (d : Nat) :
    ∀ i : Nat, i + d = need.length → (∀ j : Nat, j < i → rd (rd_L1 iss (t : Int)) (j : Int) > 0 → (j : Int) ≤ (t : Int) ∧ (t : Int) < (j : Int) + life) →
    Ev (fun k => spec_l9Issue.l1 k iss (need.length : Int) (t : Int) (i : Int) life arr need w l) R := by
  have h8 := hs.2.1
  have h9 := hs.2.2.1
  have hlife := hs.1
  induction d with
  | zero =>
    intro i hi hj
    have hw : wrap64 ((t : Int) + 1) = ((t + 1 : Nat) : Int) := by rw [wid (by omega) (by omega)]; omega
    refine ev_succ ?_
    simp only [spec_l9Issue.l1]
    rw [hw]
    exact ev_neg (by omega) (hc fun j h => hj j (by omega))
  | succ d ih =>
    intro i hi hj
    have hw : wrap64 ((i : Int) + 1) = ((i + 1 : Nat) : Int) := by rw [wid (by omega) (by omega)]; omega
    have hu : spec_l9Usable.f life arr need w l (i : Int) (t : Int) = some (decide ((i : Int) ≤ (t : Int) ∧ (t : Int) < (i : Int) + life)) := by
      unfold spec_l9Usable.f
      rw [wid (by omega) (by omega)]
      by_cases h : (i : Int) ≤ (t : Int)
      · rw [if_pos h]; simp [h]
      · rw [if_neg h]; simp [h]
    refine ev_succ ?_
    simp only [spec_l9Issue.l1, hu, Option.bind_some]
    rw [hw]
    refine ev_pos (by omega) (ev_pos (by omega) (ev_pos (by omega) (ev_pos (by omega) (ev_pos (by omega) ?_))))
    by_cases hp : rd (rd_L1 iss (t : Int)) (i : Int) > 0
    · refine ev_pos hp ?_
      by_cases h : (i : Int) ≤ (t : Int) ∧ (t : Int) < (i : Int) + life
      · refine ev_pos (by simpa using h) (ih (i + 1) (by omega) fun j h' => ?_)
        by_cases e : j = i
        · rw [e]; exact fun _ => h
        · exact hj j (by omega)
      · exact ev_neg (by simpa using h) (ev_cast (ev_some _) (hb fun p => h ((p.2.1 t ht).2.2.2 i (by omega) hp)).symm)
    · refine ev_neg hp (ih (i + 1) (by omega) fun j h' => ?_)
      by_cases e : j = i
      · rw [e]; exact fun x => absurd x hp
      · exact hj j (by omega)
theorem specIssue_l0 (d : Nat) : ∀ t : Nat, t + d = iss.length → t ≤ need.length → (∀ j : Nat, j < t → RowOk life need iss j) →
    Ev (fun k => spec_l9Issue.l0 k iss (need.length : Int) (t : Int) life arr need w l) R := by
  have h8 := hs.2.1
  have h9 := hs.2.2.1
  have stop : ∀ t : Nat, (¬ (t < iss.length ∧ t < need.length)) → t ≤ iss.length → t ≤ need.length → (∀ j : Nat, j < t → RowOk life need iss j) → Ev (fun k => spec_l9Issue.j1 k iss (need.length : Int) (t : Int) false life arr need w l) R := by
    intro t h1 h2 h3 hj
    refine ev_succ ?_
    simp only [spec_l9Issue.j1]
    refine ev_neg (by simp) ?_
    by_cases he : iss.length = need.length
    · exact ev_pos (by omega) (specIssue_l2 life arr need w l iss hs R hb hg (fun j h => hj j (by omega)) he need.length 0 (by omega) (fun j h => by omega))
    · exact ev_neg (by omega) (ev_cast (ev_some _) (hb fun p => he p.1).symm)
  induction d with
  | zero =>
    intro t ht htn hj
    refine ev_succ ?_
    simp only [spec_l9Issue.l0]
    exact ev_neg (by omega) (stop t (by omega) (by omega) htn hj)
  | succ d ih =>
    intro t ht htn hj
    refine ev_succ ?_
    simp only [spec_l9Issue.l0]
    refine ev_pos (by omega) ?_
    by_cases h : (t : Int) < (need.length : Int)
    · rw [decide_eq_true h]
      have hrl := hr _ (rd_L1_mem iss t (by omega))
      have bad : ¬ RowOk life need iss t → Ev (fun k => spec_l9Issue.j2 k iss (need.length : Int) (t : Int) true life arr need w l) R := by
        intro x
        refine ev_succ ?_
        simp only [spec_l9Issue.j2, if_true]
        exact ev_cast (ev_some _) (hb fun p => x (p.2.1 t (by omega))).symm
      refine ev_succ ?_
      simp only [spec_l9Issue.j1]
      refine ev_pos trivial (ev_pos (by omega) (ev_pos (by omega) (ev_bind (l2Row_ev _ _ 20 (by omega)) ?_)))
      by_cases h1 : (∀ x ∈ rd_L1 iss (t : Int), 0 ≤ x ∧ x ≤ 20) ∧ ((rd_L1 iss (t : Int)).length : Int) = need.length
      · refine ev_pos (by simpa using h1) (ev_bind (l2Sum_ev _ (by omega) (take_sum64 (by omega) (by omega) h1.1 (by omega))) (ev_pos (by omega) ?_))
        by_cases h2 : (rd_L1 iss (t : Int)).sum > rd need (t : Int)
        · rw [decide_eq_true h2]
          exact bad fun x => by have := x.2.2.1; omega
        · rw [decide_eq_false h2]
          refine ev_succ ?_
          simp only [spec_l9Issue.j2]
          refine ev_neg (by simp) (specIssue_l1 life arr need w l iss hs hn R hb t (by omega) (by omega) (by omega) (fun hall => ih (t + 1) (by omega) (by omega) fun j h' => ?_) need.length 0 (by omega) (fun j h => by omega))
          by_cases e : j = t
          · rw [e]; exact ⟨by omega, h1.1, by omega, hall⟩
          · exact hj j (by omega)
      · exact ev_neg (by simpa using h1) (bad fun x => h1 ⟨x.2.1, by have := x.1; omega⟩)
    · rw [decide_eq_false h]
      exact stop t (by omega) (by omega) htn hj

/-! ### the program's -/
omit hb hg hn hr in
theorem used_l1 (hrow : ∀ t : Nat, t < need.length → RowOk life need iss t) (he : iss.length = need.length) (t : Nat) (ht : t < need.length) (Q : List Int) (hc : ∀ out : List Int, out.length = need.length → (∀ j : Nat, j < need.length → rd out (j : Int) = col iss j (t + 1)) → Ev (fun k => impl_used.l0 k out iss (iss.length : Int) ((t + 1 : Nat) : Int)) Q) (d : Nat) :
    ∀ (i : Nat) (out : List Int), i + d = need.length → out.length = need.length → (∀ j : Nat, j < need.length → rd out (j : Int) = if j < i then col iss j (t + 1) else col iss j t) →
    Ev (fun k => impl_used.l1 k out iss (iss.length : Int) (t : Int) (rd_L1 iss (t : Int)) ((rd_L1 iss (t : Int)).length : Int) (i : Int)) Q := by
  have h8 := hs.2.1
  have h9 := hs.2.2.1
  have hrt := hrow t ht
  have hlen := hrt.1
  induction d with
  | zero =>
    intro i out hi hl hj
    have hw : wrap64 ((t : Int) + 1) = ((t + 1 : Nat) : Int) := by rw [wid (by omega) (by omega)]; omega
    refine ev_succ ?_
    simp only [impl_used.l1]
    rw [hw]
    exact ev_neg (by omega) (hc out hl fun j h => by rw [hj j h, if_pos (by omega)])
  | succ d ih =>
    intro i out hi hl hj
    have hw : wrap64 ((i : Int) + 1) = ((i + 1 : Nat) : Int) := by rw [wid (by omega) (by omega)]; omega
    have h3 := rd_in hrt.2.1 i (by omega)
    have h4 := col_in life need iss hrow i (by omega) t (by omega)
    have e1 : rd out (i : Int) = col iss i t := by rw [hj i (by omega), if_neg (by omega)]
    have e : wrap64 (rd out (i : Int) + rd (rd_L1 iss (t : Int)) (i : Int)) = col iss i (t + 1) := by rw [e1, wid (by omega) (by omega)]; rfl
    refine ev_succ ?_
    simp only [impl_used.l1]
    rw [hw, e]
    refine ev_pos (by omega) (ev_pos (by omega) (ev_pos (by omega) (ev_pos (by omega) (ih (i + 1) _ (by omega) (by simpa using hl) fun j h => ?_))))
    rw [Int.toNat_natCast, rd_nat _ j (by simp; omega), List.getElem_set]
    by_cases hji : i = j
    · subst hji
      rw [if_pos rfl, if_pos (by omega)]
    · rw [if_neg hji, ← rd_nat out j (by omega), hj j h]
      by_cases c : j < i
      · rw [if_pos c, if_pos (by omega)]
      · rw [if_neg c, if_neg (by omega)]
omit hb hg hn hr in
theorem used_ev (hrow : ∀ t : Nat, t < need.length → RowOk life need iss t) (he : iss.length = need.length) : ∃ out : List Int, Ev (fun k => impl_used.f k iss (iss.length : Int)) out ∧ out.length = need.length ∧ ∀ j : Nat, j < need.length → rd out (j : Int) = col iss j need.length := by
  have h8 := hs.2.1
  have h9 := hs.2.2.1
  let Q : List Int := (List.range need.length).map fun j => col iss j need.length
  have hQ : Q.length = need.length := by simp [Q]
  have hQr : ∀ j : Nat, j < need.length → rd Q (j : Int) = col iss j need.length := by
    intro j h
    rw [rd_nat _ j (by rw [hQ]; exact h)]
    simp [Q]
  have key : ∀ (d t : Nat) (out : List Int), t + d = need.length → out.length = need.length → (∀ j : Nat, j < need.length → rd out (j : Int) = col iss j t) → Ev (fun k => impl_used.l0 k out iss (iss.length : Int) (t : Int)) Q := by
    intro d
    induction d with
    | zero =>
      intro t out ht hl hj
      refine ev_succ ?_
      simp only [impl_used.l0]
      refine ev_neg (by omega) (ev_cast (ev_some _) ?_)
      refine List.ext_getElem (by rw [hl, hQ]) fun j h1 h2 => ?_
      have := hj j (by omega)
      rw [rd_nat _ j h1] at this
      rw [this, ← rd_nat Q j h2, hQr j (by omega), show t = need.length by omega]
    | succ d ih =>
      intro t out ht hl hj
      refine ev_succ ?_
      simp only [impl_used.l0]
      refine ev_pos (by omega) (ev_pos (by omega) (ev_pos (by omega) ?_))
      exact used_l1 life arr need w l iss hs hrow he t (by omega) Q (fun out' h1 h2 => ih (t + 1) out' (by omega) h1 h2) need.length 0 out (by omega) hl (fun j h => by rw [hj j h, if_neg (by omega)])
  refine ⟨Q, ?_, hQ, hQr⟩
  unfold impl_used.f
  simp only [Option.bind_some]
  refine ev_pos (by omega) (ev_pos (by omega) (ev_pos (by omega) (ev_pos (by omega) ?_)))
  rw [Int.toNat_natCast, List.take_length]
  refine key need.length 0 _ (by omega) (by simp [he]) fun j h => ?_
  rw [rd_nat _ j (by simp; omega)]
  simp [col]
omit hn hr in
theorem implIssue_l2 (hrow : ∀ t : Nat, t < need.length → RowOk life need iss t) (he : iss.length = need.length) (out : List Int) (hl : out.length = need.length) (ho : ∀ j : Nat, j < need.length → rd out (j : Int) = col iss j need.length) (d : Nat) : ∀ i : Nat, i + d = need.length → (∀ j : Nat, j < i → col iss j need.length ≤ rd arr (j : Int)) →
    Ev (fun k => impl_Shelf_isIssue.l2 k out (out.length : Int) (i : Int) life arr need w l) R := by
  have h8 := hs.2.1
  have h9 := hs.2.2.1
  induction d with
  | zero =>
    intro i hi hj
    refine ev_succ ?_
    simp only [impl_Shelf_isIssue.l2]
    exact ev_neg (by omega) (ev_cast (ev_some _) (hg ⟨he, hrow, fun j h => hj j (by omega)⟩).symm)
  | succ d ih =>
    intro i hi hj
    have hw : wrap64 ((i : Int) + 1) = ((i + 1 : Nat) : Int) := by rw [wid (by omega) (by omega)]; omega
    refine ev_succ ?_
    simp only [impl_Shelf_isIssue.l2]
    rw [hw, ho i (by omega)]
    refine ev_pos (by omega) (ev_pos (by omega) (ev_pos (by omega) (ev_pos (by omega) ?_)))
    by_cases h : col iss i need.length > rd arr (i : Int)
    · refine ev_pos h (ev_cast (ev_some _) (hb fun p => ?_).symm)
      have := p.2.2 i (by omega)
      omega
    · refine ev_neg h (ih (i + 1) (by omega) fun j h' => ?_)
      by_cases e : j = i
      · rw [e]; omega
      · exact hj j (by omega)
omit hg hn hr in
theorem implIssue_l1 (he : iss.length = need.length) (t : Nat) (ht : t < need.length) (h1 : (rd_L1 iss (t : Int)).length = need.length) (hc : (∀ i : Nat, i < need.length → rd (rd_L1 iss (t : Int)) (i : Int) > 0 → (i : Int) ≤ (t : Int) ∧ (t : Int) < (i : Int) + life) → Ev (fun k => impl_Shelf_isIssue.l0 k iss iss (iss.length : Int) ((t + 1 : Nat) : Int) life arr need w l) R) (d : Nat) :
    ∀ i : Nat, i + d = need.length → (∀ j : Nat, j < i → rd (rd_L1 iss (t : Int)) (j : Int) > 0 → (j : Int) ≤ (t : Int) ∧ (t : Int) < (j : Int) + life) →
    Ev (fun k => impl_Shelf_isIssue.l1 k iss (t : Int) iss (iss.length : Int) (t : Int) (rd_L1 iss (t : Int)) ((rd_L1 iss (t : Int)).length : Int) (i : Int) life arr need w l) R := by
  have h8 := hs.2.1
  have h9 := hs.2.2.1
  have hlife := hs.1
  induction d with
  | zero =>
    intro i hi hj
    have hw : wrap64 ((t : Int) + 1) = ((t + 1 : Nat) : Int) := by rw [wid (by omega) (by omega)]; omega
    refine ev_succ ?_
    simp only [impl_Shelf_isIssue.l1]
    rw [hw]
    exact ev_neg (by omega) (hc fun j h => hj j (by omega))
  | succ d ih =>
    intro i hi hj
    have hw : wrap64 ((i : Int) + 1) = ((i + 1 : Nat) : Int) := by rw [wid (by omega) (by omega)]; omega
    have hu : impl_Shelf_can.f life arr need w l (i : Int) (t : Int) = some (decide ((i : Int) ≤ (t : Int) ∧ (t : Int) < (i : Int) + life)) := by
      unfold impl_Shelf_can.f
      rw [wid (x := (i : Int) + life) (by omega) (by omega), wid (by omega) (by omega), within_eq]
      simp only [Option.bind_some, Option.some.injEq, decide_eq_decide]
      omega
    refine ev_succ ?_
    simp only [impl_Shelf_isIssue.l1, hu, Option.bind_some]
    rw [hw]
    refine ev_pos (by omega) (ev_pos (by omega) (ev_pos (by omega) ?_))
    by_cases hp : rd (rd_L1 iss (t : Int)) (i : Int) > 0
    · refine ev_pos hp ?_
      by_cases h : (i : Int) ≤ (t : Int) ∧ (t : Int) < (i : Int) + life
      · refine ev_pos (by simpa using h) (ih (i + 1) (by omega) fun j h' => ?_)
        by_cases e : j = i
        · rw [e]; exact fun _ => h
        · exact hj j (by omega)
      · exact ev_neg (by simpa using h) (ev_cast (ev_some _) (hb fun p => h ((p.2.1 t ht).2.2.2 i (by omega) hp)).symm)
    · refine ev_neg hp (ih (i + 1) (by omega) fun j h' => ?_)
      by_cases e : j = i
      · rw [e]; exact fun x => absurd x hp
      · exact hj j (by omega)
omit hn in
theorem implIssue_l0 (he : iss.length = need.length) (d : Nat) : ∀ t : Nat, t + d = need.length → (∀ j : Nat, j < t → RowOk life need iss j) →
    Ev (fun k => impl_Shelf_isIssue.l0 k iss iss (iss.length : Int) (t : Int) life arr need w l) R := by
  have h8 := hs.2.1
  have h9 := hs.2.2.1
  induction d with
  | zero =>
    intro t ht hj
    have hrow : ∀ j : Nat, j < need.length → RowOk life need iss j := fun j h => hj j (by omega)
    obtain ⟨out, h1, h2, h3⟩ := used_ev life arr need w l iss hs hrow he
    refine ev_succ ?_
    simp only [impl_Shelf_isIssue.l0]
    exact ev_neg (by omega) (ev_bind h1 (implIssue_l2 life arr need w l iss hs R hb hg hrow he out h2 h3 need.length 0 (by omega) (fun j h => by omega)))
  | succ d ih =>
    intro t ht hj
    have hrl := hr _ (rd_L1_mem iss t (by omega))
    have bad : ¬ RowOk life need iss t → Ev (fun k => impl_Shelf_isIssue.j1 k iss (t : Int) (rd_L1 iss (t : Int)) iss (iss.length : Int) (t : Int) true life arr need w l) R := by
      intro x
      refine ev_succ ?_
      simp only [impl_Shelf_isIssue.j1, if_true]
      exact ev_cast (ev_some _) (hb fun p => x (p.2.1 t (by omega))).symm
    refine ev_succ ?_
    simp only [impl_Shelf_isIssue.l0]
    refine ev_pos (by omega) (ev_pos (by omega) (ev_pos (by omega) ?_))
    by_cases h1 : ((rd_L1 iss (t : Int)).length : Int) = (need.length : Int)
    rotate_left
    · exact ev_neg h1 (bad fun x => h1 (by have := x.1; omega))
    refine ev_pos h1 (ev_bind (allWithin_ev _ 0 20 (by omega)) ?_)
    by_cases h2 : ∀ x ∈ rd_L1 iss (t : Int), 0 ≤ x ∧ x ≤ 20
    rotate_left
    · exact ev_neg (by simpa using h2) (bad fun x => h2 x.2.1)
    refine ev_pos (by simpa using h2) (ev_bind (total_ev _ (by omega) (take_sum64 (by omega) (by omega) h2 (by omega))) (ev_pos (by omega) ?_))
    by_cases h3 : (rd_L1 iss (t : Int)).sum > rd need (t : Int)
    · rw [decide_eq_true h3]
      exact bad fun x => by have := x.2.2.1; omega
    · rw [decide_eq_false h3]
      refine ev_succ ?_
      simp only [impl_Shelf_isIssue.j1]
      refine ev_neg (by simp) (implIssue_l1 life arr need w l iss hs R hb he t (by omega) (by omega) (fun hall => ih (t + 1) (by omega) fun j h' => ?_) need.length 0 (by omega) (fun j h => by omega))
      by_cases e : j = t
      · rw [e]; exact ⟨by omega, h2, by omega, hall⟩
      · exact hj j (by omega)
end
open Classical in
noncomputable def issueB (life : Int) (arr need : List Int) (iss : List (List Int)) : Bool := decide (IssueOk life arr need iss)
theorem specIssue_ev (life : Int) (arr need : List Int) (w l : Int) (iss : List (List Int)) (hs : ShelfOk life arr need w l) (hn : iss.length ≤ 1048576) (hr : ∀ r ∈ iss, r.length ≤ 1048576) :
    Ev (fun k => spec_l9Issue.f k life arr need w l iss) (issueB life arr need iss) := by
  unfold spec_l9Issue.f
  exact specIssue_l0 life arr need w l iss hs hn hr _ (fun h => by simp [issueB, h]) (fun h => by simp [issueB, h]) iss.length 0 (by omega) (by omega) (fun j h => by omega)
theorem implIssue_ev (life : Int) (arr need : List Int) (w l : Int) (iss : List (List Int)) (hs : ShelfOk life arr need w l) (hn : iss.length ≤ 1048576) (hr : ∀ r ∈ iss, r.length ≤ 1048576) :
    Ev (fun k => impl_Shelf_isIssue.f k life arr need w l iss) (issueB life arr need iss) := by
  unfold impl_Shelf_isIssue.f
  by_cases he : (iss.length : Int) = (need.length : Int)
  · exact ev_pos he (implIssue_l0 life arr need w l iss hs hr _ (fun h => by simp [issueB, h]) (fun h => by simp [issueB, h]) (by omega) need.length 0 (by omega) (fun j h => by omega))
  · refine ev_neg he (ev_cast (ev_some _) ?_)
    have : ¬ IssueOk life arr need iss := fun p => he (by have := p.1; omega)
    simp [issueB, this]

noncomputable def ans (life : Int) (arr need : List Int) (w l : Int) (iss : List (List Int)) : Bool × Bool := if ShelfOk life arr need w l then (issueB life arr need iss, true) else (false, false)
theorem FnExactIsIssue (a0_0 : Int) (l0_1 : List Int) (l0_2 : List Int) (a0_3 : Int) (a0_4 : Int) (l1 : List (List Int)) (hw0_0 : (Lit.int .i64 a0_0).wf = true) (hl0_1 : l0_1.length ≤ maxLen) (hw0_1 : ∀ x ∈ l0_1, (Lit.int .i64 x).wf = true) (hl0_2 : l0_2.length ≤ maxLen) (hw0_2 : ∀ x ∈ l0_2, (Lit.int .i64 x).wf = true) (hw0_3 : (Lit.int .i64 a0_3).wf = true) (hw0_4 : (Lit.int .i64 a0_4).wf = true) (hl1 : l1.length ≤ maxLen) (hw1 : ∀ r ∈ l1, r.length ≤ maxLen ∧ ∀ x ∈ r, (Lit.int .i64 x).wf = true) :
    ∃ k, laws_FnExactIsIssue.f k a0_0 l0_1 l0_2 a0_3 a0_4 l1 = some true := by
  refine Ev.rounds ?_
  unfold laws_FnExactIsIssue.f
  obtain ⟨r, hr, hz⟩ := szShelf_eq a0_0 l0_1 l0_2 a0_3 a0_4 1048576 (by omega) (by omega) hl0_1 hl0_2
  simp only [hr, Option.bind_some]
  by_cases c : r < 0
  · exact ev_pos c (ev_some _)
  have hz := hz (by omega)
  obtain ⟨q, hq, hq2⟩ := szIntSS_ev l1 r (by omega) (by omega) hl1 (fun x hx => (hw1 x hx).1)
  refine ev_neg c (ev_bind hq ?_)
  by_cases c2 : q < 0
  · exact ev_pos c2 (ev_some _)
  obtain ⟨hn, hrow⟩ := hq2 (by omega)
  have h1 : l0_1.length ≤ 35184372088832 := by omega
  have h2 : l0_2.length ≤ 35184372088832 := by omega
  have hto := toShelf_ev a0_0 l0_1 l0_2 a0_3 a0_4 h1 h2
  have hti := toIntSS_ev l1 hn hrow
  refine ev_neg c2 (ev_bind hto (ev_bind hti ?_))
  refine ev_bind (g := fun k => spec_IsIssue.f k a0_0 l0_1 l0_2 a0_3 a0_4 l1) (a := ans a0_0 l0_1 l0_2 a0_3 a0_4 l1) ?_ (ev_bind hto (ev_bind hti (ev_bind (g := fun k => impl_IsIssue.f k a0_0 l0_1 l0_2 a0_3 a0_4 l1) (a := ans a0_0 l0_1 l0_2 a0_3 a0_4 l1) ?_ ?_)))
  · unfold spec_IsIssue.f ans
    refine ev_bind (specShelf_ev a0_0 l0_1 l0_2 a0_3 a0_4 h1 h2) ?_
    by_cases hs : ShelfOk a0_0 l0_1 l0_2 a0_3 a0_4
    · exact ev_cast (ev_pos (by simpa using hs) (ev_bind (specIssue_ev a0_0 l0_1 l0_2 a0_3 a0_4 l1 hs hn hrow) (ev_some _))) (if_pos hs).symm
    · exact ev_cast (ev_neg (by simpa using hs) (ev_some _)) (if_neg hs).symm
  · unfold impl_IsIssue.f ans
    refine ev_bind (implShelf_ev a0_0 l0_1 l0_2 a0_3 a0_4 h1 h2) ?_
    by_cases hs : ShelfOk a0_0 l0_1 l0_2 a0_3 a0_4
    · exact ev_cast (ev_pos (by simpa using hs) (ev_bind (implIssue_ev a0_0 l0_1 l0_2 a0_3 a0_4 l1 hs hn hrow) (ev_some _))) (if_pos hs).symm
    · exact ev_cast (ev_neg (by simpa using hs) (ev_some _)) (if_neg hs).symm
  · refine ev_neg (by simp) (ev_succ ?_)
    simp only [laws_FnExactIsIssue.j0]
    exact ev_neg (by simp) (ev_bind hto (ev_bind (eqShelf_ev a0_0 l0_1 l0_2 a0_3 a0_4 h1 h2) (ev_pos rfl (ev_bind hti (ev_bind (eqIntSS_ev l1 hn hrow) (ev_pos rfl (ev_some _)))))))

end Go.Proofs.Ytmofmcagclkchaa.Pure
