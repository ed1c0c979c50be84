/- The program's IsShelf and the reference's both decide the same conditions on a shelf's numbers and lists. No conditions. -/
import Derived.Test.YtmofmcagclkchaaKit
import Derived.Test.YtmofmcagclkchaaPFnExactIsShelfx2
namespace Go.Proofs.Ytmofmcagclkchaa.Pure
set_option linter.unusedVariables false
open Go.RowKit Go.Proofs.Ytmofmcagclkchaa.PFnExactIsShelf Go.Proofs.YtmofmcagclkchaaW.PrintWords Go.Proofs.YtmofmcagclkchaaW.PrintLast Go.Proofs.Ytmofmcagclkchaa.Kit

theorem in_eq (a b c : Int) : spec_l1In.f a b c = some (decide (b ≤ a ∧ a ≤ c)) := by
  unfold spec_l1In.f
  by_cases h : b ≤ a <;> simp [h]
theorem within_eq (a b c : Int) : impl_within.f a b c = some (decide (b ≤ a ∧ a ≤ c)) := by
  unfold impl_within.f
  by_cases h : b ≤ a <;> simp [h]
theorem toIntS_l0 (xs : List Int) (hn : xs.length ≤ 35184372088832) (d : Nat) : ∀ (i : Nat) (ys : List Int), i + d = xs.length → ys.length = xs.length → ys.take i = xs.take i →
    Ev (fun k => laws_toIntS.l0 k xs ys (i : Int)) xs := by
  induction d with
  | zero =>
    intro i ys hi hl ht
    refine ev_succ ?_
    simp only [laws_toIntS.l0]
    refine ev_neg (by omega) ?_
    rw [List.take_of_length_le (by omega), List.take_of_length_le (by omega)] at ht
    rw [ht]
    exact ev_some _
  | succ d ih =>
    intro i ys hi hl ht
    refine ev_succ ?_
    simp only [laws_toIntS.l0]
    refine ev_pos (by omega) (ev_pos (by omega) (ev_pos (by omega) ?_))
    have hw : wrap64 ((i : Int) + 1) = ((i + 1 : Nat) : Int) := by rw [wid (by omega) (by omega)]; omega
    rw [hw]
    refine ih (i + 1) _ (by omega) (by simpa using hl) ?_
    rw [rd_nat xs i (by omega), Int.toNat_natCast, List.take_succ_eq_append_getElem (by simp; omega), List.take_succ_eq_append_getElem (by omega), List.getElem_set_self, List.take_set_of_le (by omega), ht]
theorem toIntS_ev (xs : List Int) (hn : xs.length ≤ 35184372088832) : Ev (fun k => laws_toIntS.f k xs) xs := by
  unfold laws_toIntS.f
  refine ev_pos (by omega) (ev_pos (by omega) ?_)
  exact toIntS_l0 xs hn xs.length 0 _ (by omega) (by simp) rfl
theorem eqIntS_l0 (xs ys : List Int) (hn : xs.length ≤ 35184372088832) (hl : ys.length = xs.length) (d : Nat) : ∀ (i : Nat), i + d = xs.length →
    Ev (fun k => laws_eqIntS.l0 k xs ys (i : Int)) (decide (xs.drop i = ys.drop i)) := by
  induction d with
  | zero =>
    intro i hi
    refine ev_succ ?_
    simp only [laws_eqIntS.l0]
    refine ev_neg (by omega) ?_
    rw [List.drop_of_length_le (by omega), List.drop_of_length_le (by omega)]
    exact ev_some _
  | succ d ih =>
    intro i hi
    refine ev_succ ?_
    simp only [laws_eqIntS.l0]
    refine ev_pos (by omega) (ev_pos (by omega) (ev_pos (by omega) ?_))
    have hw : wrap64 ((i : Int) + 1) = ((i + 1 : Nat) : Int) := by rw [wid (by omega) (by omega)]; omega
    rw [hw, drop_rd xs i (by omega), drop_rd ys i (by omega)]
    by_cases h : rd xs i = rd ys i
    · refine ev_pos h (ev_cast (ih (i + 1) (by omega)) ?_)
      simp [h]
    · refine ev_neg h (ev_cast (ev_some false) ?_)
      simp [h]
theorem eqIntS_ev (xs ys : List Int) (hn : xs.length ≤ 35184372088832) : Ev (fun k => laws_eqIntS.f k xs ys) (decide (xs = ys)) := by
  unfold laws_eqIntS.f
  by_cases h : xs.length = ys.length
  · refine ev_pos (by omega) (ev_cast (eqIntS_l0 xs ys hn h.symm xs.length 0 (by omega)) (by simp))
  · refine ev_neg (by omega) (ev_cast (ev_some false) ?_)
    have : xs ≠ ys := fun e => h (by rw [e])
    simp [this]
theorem allWithin_l0 (lo up : Int) (xs : List Int) (hn : xs.length ≤ 35184372088832) (d : Nat) : ∀ (i : Nat), i + d = xs.length →
    Ev (fun k => impl_allWithin.l0 k lo up xs (xs.length : Int) (i : Int)) (decide (∀ x ∈ xs.drop i, lo ≤ x ∧ x ≤ up)) := by
  induction d with
  | zero =>
    intro i hi
    refine ev_succ ?_
    simp only [impl_allWithin.l0]
    refine ev_neg (by omega) ?_
    rw [List.drop_of_length_le (by omega)]
    exact ev_cast (ev_some true) (by simp)
  | succ d ih =>
    intro i hi
    refine ev_succ ?_
    simp only [impl_allWithin.l0, within_eq, Option.bind_some]
    refine ev_pos (by omega) (ev_pos (by omega) (ev_pos (by omega) ?_))
    have hw : wrap64 ((i : Int) + 1) = ((i + 1 : Nat) : Int) := by rw [wid (by omega) (by omega)]; omega
    rw [hw, drop_rd xs i (by omega)]
    by_cases h : lo ≤ rd xs i ∧ rd xs i ≤ up
    · refine ev_pos (by simpa using h) (ev_cast (ih (i + 1) (by omega)) ?_)
      simp [h]
    · refine ev_neg (by simpa using h) (ev_cast (ev_some false) ?_)
      symm
      simp only [decide_eq_false_iff_not, List.mem_cons]
      exact fun hh => h (hh _ (Or.inl rfl))
theorem allWithin_ev (xs : List Int) (lo hi : Int) (hn : xs.length ≤ 35184372088832) : Ev (fun k => impl_allWithin.f k xs lo hi) (decide (∀ x ∈ xs, lo ≤ x ∧ x ≤ hi)) := by
  unfold impl_allWithin.f
  exact allWithin_l0 lo hi xs hn xs.length 0 (by omega)
theorem l2Row_l0 (n up : Int) (xs : List Int) (hn : xs.length ≤ 35184372088832) (d : Nat) : ∀ (i : Nat), i + d = xs.length →
    Ev (fun k => spec_l2Row.l0 k xs n up (i : Int)) (decide ((∀ x ∈ xs.drop i, 0 ≤ x ∧ x ≤ up) ∧ (xs.length : Int) = n)) := by
  induction d with
  | zero =>
    intro i hi
    refine ev_succ ?_
    simp only [spec_l2Row.l0]
    refine ev_neg (by omega) ?_
    rw [List.drop_of_length_le (by omega)]
    refine ev_cast (ev_some _) ?_
    rw [Bool.eq_iff_iff]
    simp
  | succ d ih =>
    intro i hi
    refine ev_succ ?_
    simp only [spec_l2Row.l0, in_eq, Option.bind_some]
    refine ev_pos (by omega) (ev_pos (by omega) ?_)
    have hw : wrap64 ((i : Int) + 1) = ((i + 1 : Nat) : Int) := by rw [wid (by omega) (by omega)]; omega
    rw [hw, drop_rd xs i (by omega)]
    by_cases h : 0 ≤ rd xs i ∧ rd xs i ≤ up
    · refine ev_pos (by simpa using h) (ev_cast (ih (i + 1) (by omega)) ?_)
      simp [h]
    · refine ev_neg (by simpa using h) (ev_cast (ev_some false) ?_)
      symm
      simp only [decide_eq_false_iff_not, List.mem_cons]
      exact fun hh => h (hh.1 _ (Or.inl rfl))
theorem l2Row_ev (xs : List Int) (n up : Int) (hn : xs.length ≤ 35184372088832) : Ev (fun k => spec_l2Row.f k xs n up) (decide ((∀ x ∈ xs, 0 ≤ x ∧ x ≤ up) ∧ (xs.length : Int) = n)) := by
  unfold spec_l2Row.f
  exact l2Row_l0 n up xs hn xs.length 0 (by omega)
theorem szIntS_eq (xs : List Int) (a : Int) (h0 : 0 ≤ a) (h1 : a ≤ 1048576) (hl : xs.length ≤ maxLen) : laws_szIntS.f xs a = some (if a - (xs.length : Int) < 0 then -1 else a - (xs.length : Int)) := by
  unfold maxLen at hl
  unfold laws_szIntS.f
  rw [wid (by omega) (by omega)]
  split <;> rfl
theorem szShelf_eq (a : Int) (l m : List Int) (b c : Int) (n : Int) (h0 : 0 ≤ n) (h1 : n ≤ 1048576) (hl : l.length ≤ maxLen) (hm : m.length ≤ maxLen) :
    ∃ r, laws_szShelf.f a l m b c n = some r ∧ (0 ≤ r → r = n - l.length - m.length) := by
  unfold laws_szShelf.f
  rw [szIntS_eq l n h0 h1 hl]
  simp only [Option.bind_some]
  by_cases c1 : n - (l.length : Int) < 0
  · rw [if_pos c1, if_pos (by omega)]
    exact ⟨_, rfl, by omega⟩
  · rw [if_neg c1, if_neg c1, szIntS_eq m _ (by omega) (by omega) hm]
    simp only [Option.bind_some]
    by_cases c2 : n - (l.length : Int) - (m.length : Int) < 0
    · rw [if_pos c2, if_pos (by omega)]
      exact ⟨_, rfl, by omega⟩
    · rw [if_neg c2, if_neg c2]
      exact ⟨_, rfl, fun _ => rfl⟩
theorem toShelf_ev (a : Int) (l m : List Int) (b c : Int) (hl : l.length ≤ 35184372088832) (hm : m.length ≤ 35184372088832) : Ev (fun k => laws_toShelf.f k a l m b c) (a, l, m, b, c) := by
  unfold laws_toShelf.f
  exact ev_bind (toIntS_ev l hl) (ev_bind (toIntS_ev m hm) (ev_some _))
theorem eqShelf_ev (a : Int) (l m : List Int) (b c : Int) (hl : l.length ≤ 35184372088832) (hm : m.length ≤ 35184372088832) : Ev (fun k => laws_eqShelf.f k a l m b c a l m b c) true := by
  unfold laws_eqShelf.f
  refine ev_pos rfl (ev_bind (eqIntS_ev l l hl) (ev_pos (by simp) (ev_bind (eqIntS_ev m m hm) (ev_pos (by simp) (ev_pos rfl (ev_pos rfl (ev_some _)))))))

/-- What a valid shelf is. -/
def ShelfOk (a : Int) (l m : List Int) (b c : Int) : Prop :=
  (1 ≤ a ∧ a ≤ 8) ∧ (l.length : Int) ≤ 8 ∧ (m.length : Int) = (l.length : Int) ∧ (∀ x ∈ l, 0 ≤ x ∧ x ≤ 20) ∧ (∀ x ∈ m, 0 ≤ x ∧ x ≤ 20) ∧ (∀ x ∈ [b, c], 0 ≤ x ∧ x ≤ 20)
instance (a : Int) (l m : List Int) (b c : Int) : Decidable (ShelfOk a l m b c) := by unfold ShelfOk; infer_instance
theorem implShelf_ev (a : Int) (l m : List Int) (b c : Int) (hl : l.length ≤ 35184372088832) (hm : m.length ≤ 35184372088832) : Ev (fun k => impl_IsShelf.f k a l m b c) (decide (ShelfOk a l m b c)) := by
  unfold impl_IsShelf.f ShelfOk
  simp only [impl_isLife.f, within_eq, Option.bind_some]
  refine ev_and rfl fun _ => ev_andp fun _ => ev_andp fun _ => ev_bind (allWithin_ev l 0 20 hl) (ev_and rfl fun _ => ev_bind (allWithin_ev m 0 20 hm) (ev_and rfl fun _ => ?_))
  refine ev_bind (g := fun k => impl_areCharges.f k [b, c]) (a := decide (∀ x ∈ [b, c], 0 ≤ x ∧ x ≤ 20)) ?_ (ev_some _)
  unfold impl_areCharges.f
  exact ev_bind (allWithin_ev [b, c] 0 20 (by simp)) (ev_some _)
theorem specShelf_ev (a : Int) (l m : List Int) (b c : Int) (hl : l.length ≤ 35184372088832) (hm : m.length ≤ 35184372088832) : Ev (fun k => spec_l9Good.f k a l m b c) (decide (ShelfOk a l m b c)) := by
  unfold spec_l9Good.f
  simp only [in_eq, Option.bind_some]
  by_cases h1 : 1 ≤ a ∧ a ≤ 8
  · refine ev_pos (by simpa using h1) (ev_succ ?_)
    simp only [spec_l9Good.j0]
    by_cases h2 : (m.length : Int) > 8
    · refine ev_pos (by simpa using h2) (ev_false fun h => ?_)
      have := h.2.1
      have := h.2.2.1
      omega
    · refine ev_neg (by simpa using h2) ?_
      simp only [spec_l5Charges.f, in_eq, Option.bind_some]
      refine ev_dec (P := ((∀ x ∈ m, 0 ≤ x ∧ x ≤ 20) ∧ (m.length : Int) = m.length) ∧ ((∀ x ∈ l, 0 ≤ x ∧ x ≤ 20) ∧ (l.length : Int) = m.length) ∧ (0 ≤ b ∧ b ≤ 20) ∧ (0 ≤ c ∧ c ≤ 20)) ?_ ?_
      · refine ev_bind (l2Row_ev m _ 20 hm) (ev_and rfl fun _ => ev_bind (l2Row_ev l _ 20 hl) (ev_and rfl fun _ => ?_))
        refine ev_cast (r := decide ((0 ≤ b ∧ b ≤ 20) ∧ (0 ≤ c ∧ c ≤ 20))) ?_ rfl
        by_cases h3 : 0 ≤ b ∧ b ≤ 20
        · simp [h3]
          exact ev_some _
        · simp only [h3, decide_false, false_and, Bool.false_eq_true, if_false, Option.bind_some]
          exact ev_some _
      · unfold ShelfOk
        simp only [List.mem_cons, List.not_mem_nil, or_false, forall_eq_or_imp, forall_eq]
        constructor
        · rintro ⟨⟨p1, p2⟩, ⟨p3, p4⟩, p5, p6⟩
          exact ⟨h1, by omega, by omega, p3, p1, p5, p6⟩
        · rintro ⟨_, p1, p2, p3, p4, p5, p6⟩
          exact ⟨⟨p4, trivial⟩, ⟨p3, p2.symm⟩, p5, p6⟩
  · refine ev_neg (by simpa using h1) (ev_succ ?_)
    simp only [spec_l9Good.j0, if_true]
    exact ev_false fun h => h1 h.1

theorem FnExactIsShelf (a0_0 : Int) (l0_1 : List Int) (l0_2 : List Int) (a0_3 : Int) (a0_4 : Int) (hw0_0 : (Lit.int .i64 a0_0).wf = true) (hl0_1 : l0_1.length ≤ maxLen) (hw0_1 : ∀ x ∈ l0_1, (Lit.int .i64 x).wf = true) (hl0_2 : l0_2.length ≤ maxLen) (hw0_2 : ∀ x ∈ l0_2, (Lit.int .i64 x).wf = true) (hw0_3 : (Lit.int .i64 a0_3).wf = true) (hw0_4 : (Lit.int .i64 a0_4).wf = true) :
    ∃ k, laws_FnExactIsShelf.f k a0_0 l0_1 l0_2 a0_3 a0_4 = some true := by
  refine Ev.rounds ?_
  unfold laws_FnExactIsShelf.f
  obtain ⟨r, hr, hz⟩ := szShelf_eq a0_0 l0_1 l0_2 a0_3 a0_4 1048576 (by omega) (by omega) hl0_1 hl0_2
  simp only [hr, Option.bind_some]
  by_cases c : r < 0
  · exact ev_pos c (ev_some _)
  · have hz := hz (by omega)
    have h1 : l0_1.length ≤ 35184372088832 := by omega
    have h2 : l0_2.length ≤ 35184372088832 := by omega
    have hto := toShelf_ev a0_0 l0_1 l0_2 a0_3 a0_4 h1 h2
    refine ev_neg c (ev_bind hto ?_)
    refine ev_bind (g := fun k => spec_IsShelf.f k a0_0 l0_1 l0_2 a0_3 a0_4) (a := decide (ShelfOk a0_0 l0_1 l0_2 a0_3 a0_4)) ?_ ?_
    · unfold spec_IsShelf.f
      exact ev_bind (specShelf_ev a0_0 l0_1 l0_2 a0_3 a0_4 h1 h2) (ev_some _)
    refine ev_bind hto (ev_bind (implShelf_ev a0_0 l0_1 l0_2 a0_3 a0_4 h1 h2) (ev_neg (by simp) (ev_bind hto (ev_bind (eqShelf_ev a0_0 l0_1 l0_2 a0_3 a0_4 h1 h2) (ev_pos rfl (ev_some _))))))

end Go.Proofs.Ytmofmcagclkchaa.Pure
