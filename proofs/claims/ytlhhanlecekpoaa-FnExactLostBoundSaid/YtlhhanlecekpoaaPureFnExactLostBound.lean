/- The program's LostBound and the reference's add the same needs and take off the same arrivals, in the same order. No conditions. -/
import Derived.Test.YtlhhanlecekpoaaKit
import Derived.Test.YtlhhanlecekpoaaXFnExactLostBoundx5
namespace Go.Proofs.Ytlhhanlecekpoaa.Pure
set_option linter.unusedVariables false
open Go.RowKit Go.Proofs.Ytlhhanlecekpoaa.PFnExactLostBound Go.Proofs.YtlhhanlecekpoaaW.PrintWords Go.Proofs.YtlhhanlecekpoaaW.PrintLast Go.Proofs.Ytlhhanlecekpoaa.Kit

theorem in_eq (a b c : Int) : spec_l1In.f a b c = some (decide (b ≤ a ∧ a ≤ c)) := by
  unfold spec_l1In.f
  by_cases h : b ≤ a <;> simp [h]
theorem within_eq (a b c : Int) : impl_within.f a b c = some (decide (b ≤ a ∧ a ≤ c)) := by
  unfold impl_within.f
  by_cases h : b ≤ a <;> simp [h]
theorem toIntS_l0 (xs : List Int) (hn : xs.length ≤ 35184372088832) (d : Nat) : ∀ (i : Nat) (ys : List Int), i + d = xs.length → ys.length = xs.length → ys.take i = xs.take i →
    Ev (fun k => laws_toIntS.l0 k xs ys (i : Int)) xs := by
  induction d with
  | zero =>
    intro i ys hi hl ht
    refine ev_succ ?_
    simp only [laws_toIntS.l0]
    refine ev_neg (by omega) ?_
    rw [List.take_of_length_le (by omega), List.take_of_length_le (by omega)] at ht
    rw [ht]
    exact ev_some _
  | succ d ih =>
    intro i ys hi hl ht
    refine ev_succ ?_
    simp only [laws_toIntS.l0]
    refine ev_pos (by omega) (ev_pos (by omega) (ev_pos (by omega) ?_))
    have hw : wrap64 ((i : Int) + 1) = ((i + 1 : Nat) : Int) := by rw [wid (by omega) (by omega)]; omega
    rw [hw]
    refine ih (i + 1) _ (by omega) (by simpa using hl) ?_
    rw [rd_nat xs i (by omega), Int.toNat_natCast, List.take_succ_eq_append_getElem (by simp; omega), List.take_succ_eq_append_getElem (by omega), List.getElem_set_self, List.take_set_of_le (by omega), ht]
theorem toIntS_ev (xs : List Int) (hn : xs.length ≤ 35184372088832) : Ev (fun k => laws_toIntS.f k xs) xs := by
  unfold laws_toIntS.f
  refine ev_pos (by omega) (ev_pos (by omega) ?_)
  exact toIntS_l0 xs hn xs.length 0 _ (by omega) (by simp) rfl
theorem eqIntS_l0 (xs ys : List Int) (hn : xs.length ≤ 35184372088832) (hl : ys.length = xs.length) (d : Nat) : ∀ (i : Nat), i + d = xs.length →
    Ev (fun k => laws_eqIntS.l0 k xs ys (i : Int)) (decide (xs.drop i = ys.drop i)) := by
  induction d with
  | zero =>
    intro i hi
    refine ev_succ ?_
    simp only [laws_eqIntS.l0]
    refine ev_neg (by omega) ?_
    rw [List.drop_of_length_le (by omega), List.drop_of_length_le (by omega)]
    exact ev_some _
  | succ d ih =>
    intro i hi
    refine ev_succ ?_
    simp only [laws_eqIntS.l0]
    refine ev_pos (by omega) (ev_pos (by omega) (ev_pos (by omega) ?_))
    have hw : wrap64 ((i : Int) + 1) = ((i + 1 : Nat) : Int) := by rw [wid (by omega) (by omega)]; omega
    rw [hw, drop_rd xs i (by omega), drop_rd ys i (by omega)]
    by_cases h : rd xs i = rd ys i
    · refine ev_pos h (ev_cast (ih (i + 1) (by omega)) ?_)
      simp [h]
    · refine ev_neg h (ev_cast (ev_some false) ?_)
      simp [h]
theorem eqIntS_ev (xs ys : List Int) (hn : xs.length ≤ 35184372088832) : Ev (fun k => laws_eqIntS.f k xs ys) (decide (xs = ys)) := by
  unfold laws_eqIntS.f
  by_cases h : xs.length = ys.length
  · refine ev_pos (by omega) (ev_cast (eqIntS_l0 xs ys hn h.symm xs.length 0 (by omega)) (by simp))
  · refine ev_neg (by omega) (ev_cast (ev_some false) ?_)
    have : xs ≠ ys := fun e => h (by rw [e])
    simp [this]
theorem allWithin_l0 (lo up : Int) (xs : List Int) (hn : xs.length ≤ 35184372088832) (d : Nat) : ∀ (i : Nat), i + d = xs.length →
    Ev (fun k => impl_allWithin.l0 k lo up xs (xs.length : Int) (i : Int)) (decide (∀ x ∈ xs.drop i, lo ≤ x ∧ x ≤ up)) := by
  induction d with
  | zero =>
    intro i hi
    refine ev_succ ?_
    simp only [impl_allWithin.l0]
    refine ev_neg (by omega) ?_
    rw [List.drop_of_length_le (by omega)]
    exact ev_cast (ev_some true) (by simp)
  | succ d ih =>
    intro i hi
    refine ev_succ ?_
    simp only [impl_allWithin.l0, within_eq, Option.bind_some]
    refine ev_pos (by omega) (ev_pos (by omega) (ev_pos (by omega) ?_))
    have hw : wrap64 ((i : Int) + 1) = ((i + 1 : Nat) : Int) := by rw [wid (by omega) (by omega)]; omega
    rw [hw, drop_rd xs i (by omega)]
    by_cases h : lo ≤ rd xs i ∧ rd xs i ≤ up
    · refine ev_pos (by simpa using h) (ev_cast (ih (i + 1) (by omega)) ?_)
      simp [h]
    · refine ev_neg (by simpa using h) (ev_cast (ev_some false) ?_)
      symm
      simp only [decide_eq_false_iff_not, List.mem_cons]
      exact fun hh => h (hh _ (Or.inl rfl))
theorem allWithin_ev (xs : List Int) (lo hi : Int) (hn : xs.length ≤ 35184372088832) : Ev (fun k => impl_allWithin.f k xs lo hi) (decide (∀ x ∈ xs, lo ≤ x ∧ x ≤ hi)) := by
  unfold impl_allWithin.f
  exact allWithin_l0 lo hi xs hn xs.length 0 (by omega)
theorem l2Row_l0 (n up : Int) (xs : List Int) (hn : xs.length ≤ 35184372088832) (d : Nat) : ∀ (i : Nat), i + d = xs.length →
    Ev (fun k => spec_l2Row.l0 k xs n up (i : Int)) (decide ((∀ x ∈ xs.drop i, 0 ≤ x ∧ x ≤ up) ∧ (xs.length : Int) = n)) := by
  induction d with
  | zero =>
    intro i hi
    refine ev_succ ?_
    simp only [spec_l2Row.l0]
    refine ev_neg (by omega) ?_
    rw [List.drop_of_length_le (by omega)]
    refine ev_cast (ev_some _) ?_
    rw [Bool.eq_iff_iff]
    simp
  | succ d ih =>
    intro i hi
    refine ev_succ ?_
    simp only [spec_l2Row.l0, in_eq, Option.bind_some]
    refine ev_pos (by omega) (ev_pos (by omega) ?_)
    have hw : wrap64 ((i : Int) + 1) = ((i + 1 : Nat) : Int) := by rw [wid (by omega) (by omega)]; omega
    rw [hw, drop_rd xs i (by omega)]
    by_cases h : 0 ≤ rd xs i ∧ rd xs i ≤ up
    · refine ev_pos (by simpa using h) (ev_cast (ih (i + 1) (by omega)) ?_)
      simp [h]
    · refine ev_neg (by simpa using h) (ev_cast (ev_some false) ?_)
      symm
      simp only [decide_eq_false_iff_not, List.mem_cons]
      exact fun hh => h (hh.1 _ (Or.inl rfl))
theorem l2Row_ev (xs : List Int) (n up : Int) (hn : xs.length ≤ 35184372088832) : Ev (fun k => spec_l2Row.f k xs n up) (decide ((∀ x ∈ xs, 0 ≤ x ∧ x ≤ up) ∧ (xs.length : Int) = n)) := by
  unfold spec_l2Row.f
  exact l2Row_l0 n up xs hn xs.length 0 (by omega)
theorem szIntS_eq (xs : List Int) (a : Int) (h0 : 0 ≤ a) (h1 : a ≤ 1048576) (hl : xs.length ≤ maxLen) : laws_szIntS.f xs a = some (if a - (xs.length : Int) < 0 then -1 else a - (xs.length : Int)) := by
  unfold maxLen at hl
  unfold laws_szIntS.f
  rw [wid (by omega) (by omega)]
  split <;> rfl
theorem szShelf_eq (a : Int) (l m : List Int) (b c : Int) (n : Int) (h0 : 0 ≤ n) (h1 : n ≤ 1048576) (hl : l.length ≤ maxLen) (hm : m.length ≤ maxLen) :
    ∃ r, laws_szShelf.f a l m b c n = some r ∧ (0 ≤ r → r = n - l.length - m.length) := by
  unfold laws_szShelf.f
  rw [szIntS_eq l n h0 h1 hl]
  simp only [Option.bind_some]
  by_cases c1 : n - (l.length : Int) < 0
  · rw [if_pos c1, if_pos (by omega)]
    exact ⟨_, rfl, by omega⟩
  · rw [if_neg c1, if_neg c1, szIntS_eq m _ (by omega) (by omega) hm]
    simp only [Option.bind_some]
    by_cases c2 : n - (l.length : Int) - (m.length : Int) < 0
    · rw [if_pos c2, if_pos (by omega)]
      exact ⟨_, rfl, by omega⟩
    · rw [if_neg c2, if_neg c2]
      exact ⟨_, rfl, fun _ => rfl⟩
theorem toShelf_ev (a : Int) (l m : List Int) (b c : Int) (hl : l.length ≤ 35184372088832) (hm : m.length ≤ 35184372088832) : Ev (fun k => laws_toShelf.f k a l m b c) (a, l, m, b, c) := by
  unfold laws_toShelf.f
  exact ev_bind (toIntS_ev l hl) (ev_bind (toIntS_ev m hm) (ev_some _))
theorem eqShelf_ev (a : Int) (l m : List Int) (b c : Int) (hl : l.length ≤ 35184372088832) (hm : m.length ≤ 35184372088832) : Ev (fun k => laws_eqShelf.f k a l m b c a l m b c) true := by
  unfold laws_eqShelf.f
  refine ev_pos rfl (ev_bind (eqIntS_ev l l hl) (ev_pos (by simp) (ev_bind (eqIntS_ev m m hm) (ev_pos (by simp) (ev_pos rfl (ev_pos rfl (ev_some _)))))))

/-- What a valid shelf is. -/
def ShelfOk (a : Int) (l m : List Int) (b c : Int) : Prop :=
  (1 ≤ a ∧ a ≤ 8) ∧ (l.length : Int) ≤ 8 ∧ (m.length : Int) = (l.length : Int) ∧ (∀ x ∈ l, 0 ≤ x ∧ x ≤ 20) ∧ (∀ x ∈ m, 0 ≤ x ∧ x ≤ 20) ∧ (∀ x ∈ [b, c], 0 ≤ x ∧ x ≤ 20)
instance (a : Int) (l m : List Int) (b c : Int) : Decidable (ShelfOk a l m b c) := by unfold ShelfOk; infer_instance
theorem implShelf_ev (a : Int) (l m : List Int) (b c : Int) (hl : l.length ≤ 35184372088832) (hm : m.length ≤ 35184372088832) : Ev (fun k => impl_IsShelf.f k a l m b c) (decide (ShelfOk a l m b c)) := by
  unfold impl_IsShelf.f ShelfOk
  simp only [impl_isLife.f, within_eq, Option.bind_some]
  refine ev_and rfl fun _ => ev_andp fun _ => ev_andp fun _ => ev_bind (allWithin_ev l 0 20 hl) (ev_and rfl fun _ => ev_bind (allWithin_ev m 0 20 hm) (ev_and rfl fun _ => ?_))
  refine ev_bind (g := fun k => impl_areCharges.f k [b, c]) (a := decide (∀ x ∈ [b, c], 0 ≤ x ∧ x ≤ 20)) ?_ (ev_some _)
  unfold impl_areCharges.f
  exact ev_bind (allWithin_ev [b, c] 0 20 (by simp)) (ev_some _)
theorem specShelf_ev (a : Int) (l m : List Int) (b c : Int) (hl : l.length ≤ 35184372088832) (hm : m.length ≤ 35184372088832) : Ev (fun k => spec_l9Good.f k a l m b c) (decide (ShelfOk a l m b c)) := by
  unfold spec_l9Good.f
  simp only [in_eq, Option.bind_some]
  by_cases h1 : 1 ≤ a ∧ a ≤ 8
  · refine ev_pos (by simpa using h1) (ev_succ ?_)
    simp only [spec_l9Good.j0]
    by_cases h2 : (m.length : Int) > 8
    · refine ev_pos (by simpa using h2) (ev_false fun h => ?_)
      have := h.2.1
      have := h.2.2.1
      omega
    · refine ev_neg (by simpa using h2) ?_
      simp only [spec_l5Charges.f, in_eq, Option.bind_some]
      refine ev_dec (P := ((∀ x ∈ m, 0 ≤ x ∧ x ≤ 20) ∧ (m.length : Int) = m.length) ∧ ((∀ x ∈ l, 0 ≤ x ∧ x ≤ 20) ∧ (l.length : Int) = m.length) ∧ (0 ≤ b ∧ b ≤ 20) ∧ (0 ≤ c ∧ c ≤ 20)) ?_ ?_
      · refine ev_bind (l2Row_ev m _ 20 hm) (ev_and rfl fun _ => ev_bind (l2Row_ev l _ 20 hl) (ev_and rfl fun _ => ?_))
        refine ev_cast (r := decide ((0 ≤ b ∧ b ≤ 20) ∧ (0 ≤ c ∧ c ≤ 20))) ?_ rfl
        by_cases h3 : 0 ≤ b ∧ b ≤ 20
        · simp [h3]
          exact ev_some _
        · simp only [h3, decide_false, false_and, Bool.false_eq_true, if_false, Option.bind_some]
          exact ev_some _
      · unfold ShelfOk
        simp only [List.mem_cons, List.not_mem_nil, or_false, forall_eq_or_imp, forall_eq]
        constructor
        · rintro ⟨⟨p1, p2⟩, ⟨p3, p4⟩, p5, p6⟩
          exact ⟨h1, by omega, by omega, p3, p1, p5, p6⟩
        · rintro ⟨_, p1, p2, p3, p4, p5, p6⟩
          exact ⟨⟨p4, trivial⟩, ⟨p3, p2.symm⟩, p5, p6⟩
  · refine ev_neg (by simpa using h1) (ev_succ ?_)
    simp only [spec_l9Good.j0, if_true]
    exact ev_false fun h => h1 h.1
/-- A strictly rising list of numbers from 0 to hi, from its place i on. -/
def risB (xs : List Int) (hi : Int) : Nat → Nat → Bool
  | 0, _ => true
  | d + 1, i => if 0 ≤ rd xs (i : Int) ∧ rd xs (i : Int) ≤ hi then (if 0 < i then (if rd xs ((i - 1 : Nat) : Int) ≥ rd xs (i : Int) then false else risB xs hi d (i + 1)) else risB xs hi d (i + 1)) else false
theorem risB_in {xs : List Int} {top : Int} (d : Nat) : ∀ i : Nat, i + d = xs.length → risB xs top d i = true → ∀ j : Nat, i ≤ j → j < xs.length → 0 ≤ rd xs (j : Int) ∧ rd xs (j : Int) ≤ top := by
  induction d with
  | zero => intro i hi h j h1 h2; omega
  | succ d ih =>
    intro i hi h j h1 h2
    simp only [risB] at h
    by_cases c : 0 ≤ rd xs (i : Int) ∧ rd xs (i : Int) ≤ top
    · rw [if_pos c] at h
      by_cases e : j = i
      · subst e
        exact c
      · have q : risB xs top d (i + 1) = true := by
          split at h
          · split at h
            · exact absurd h (by simp)
            · exact h
          · exact h
        exact ih (i + 1) (by omega) q j (by omega) h2
    · rw [if_neg c] at h
      exact absurd h (by simp)
theorem specRising_l0 (xs : List Int) (top : Int) (hn : xs.length ≤ 35184372088832) (d : Nat) : ∀ i : Nat, i + d = xs.length → Ev (fun k => spec_l1Rising.l0 k xs 0 top (i : Int)) (risB xs top d i) := by
  induction d with
  | zero =>
    intro i hi
    refine ev_succ ?_
    simp only [spec_l1Rising.l0, risB]
    exact ev_neg (by omega) (ev_some _)
  | succ d ih =>
    intro i hi
    have hw : wrap64 ((i : Int) + 1) = ((i + 1 : Nat) : Int) := by rw [wid (by omega) (by omega)]; omega
    refine ev_succ ?_
    simp only [spec_l1Rising.l0, in_eq, Option.bind_some, risB]
    rw [hw]
    refine ev_pos (by omega) (ev_pos (by omega) ?_)
    by_cases c : 0 ≤ rd xs (i : Int) ∧ rd xs (i : Int) ≤ top
    · rw [if_pos c]
      refine ev_pos (decide_eq_true c) ?_
      by_cases c2 : 0 < i
      · have hw2 : wrap64 ((i : Int) - 1) = ((i - 1 : Nat) : Int) := by rw [wid (by omega) (by omega)]; omega
        rw [if_pos c2, hw2]
        refine ev_pos (by omega) (ev_pos (by omega) (ev_pos (by omega) ?_))
        by_cases c3 : rd xs ((i - 1 : Nat) : Int) ≥ rd xs (i : Int)
        · rw [if_pos c3]
          exact ev_pos c3 (ev_some _)
        · rw [if_neg c3]
          exact ev_neg c3 (ih (i + 1) (by omega))
      · rw [if_neg c2]
        exact ev_neg (by omega) (ih (i + 1) (by omega))
    · rw [if_neg c]
      exact ev_neg (by rw [decide_eq_true_eq]; exact c) (ev_some _)
theorem specRising_ev (xs : List Int) (top : Int) (hn : xs.length ≤ 35184372088832) : Ev (fun k => spec_l1Rising.f k xs 0 top) (risB xs top xs.length 0) := by
  unfold spec_l1Rising.f
  exact specRising_l0 xs top hn xs.length 0 (by omega)
theorem implSet_l0 (xs : List Int) (n : Int) (h0 : 0 ≤ n) (h8 : n ≤ 1000000) (hn : xs.length ≤ 35184372088832) (d : Nat) : ∀ i : Nat, i + d = xs.length → Ev (fun k => impl_isSet.l0 k xs n xs (xs.length : Int) (i : Int)) (risB xs (n - 1) d i) := by
  have hwn : wrap64 (n - 1) = n - 1 := wid (by omega) (by omega)
  induction d with
  | zero =>
    intro i hi
    refine ev_succ ?_
    simp only [impl_isSet.l0, risB]
    exact ev_neg (by omega) (ev_some _)
  | succ d ih =>
    intro i hi
    have hw : wrap64 ((i : Int) + 1) = ((i + 1 : Nat) : Int) := by rw [wid (by omega) (by omega)]; omega
    refine ev_succ ?_
    simp only [impl_isSet.l0, within_eq, Option.bind_some, risB]
    rw [hw, hwn]
    refine ev_pos (by omega) (ev_pos (by omega) (ev_pos (by omega) ?_))
    by_cases c : 0 ≤ rd xs (i : Int) ∧ rd xs (i : Int) ≤ n - 1
    · rw [if_pos c]
      refine ev_pos (decide_eq_true c) ?_
      by_cases c2 : 0 < i
      · have hw2 : wrap64 ((i : Int) - 1) = ((i - 1 : Nat) : Int) := by rw [wid (by omega) (by omega)]; omega
        rw [if_pos c2, hw2]
        refine ev_pos (by omega) (ev_pos (by omega) (ev_pos (by omega) ?_))
        by_cases c3 : rd xs ((i - 1 : Nat) : Int) ≥ rd xs (i : Int)
        · rw [if_pos c3]
          exact ev_pos c3 (ev_some _)
        · rw [if_neg c3]
          exact ev_neg c3 (ih (i + 1) (by omega))
      · rw [if_neg c2]
        exact ev_neg (by omega) (ih (i + 1) (by omega))
    · rw [if_neg c]
      exact ev_neg (by rw [decide_eq_true_eq]; exact c) (ev_some _)
theorem implSet_ev (xs : List Int) (n : Int) (h0 : 0 ≤ n) (h8 : n ≤ 1000000) (hn : xs.length ≤ 35184372088832) : Ev (fun k => impl_isSet.f k xs n) (risB xs (n - 1) xs.length 0) := by
  unfold impl_isSet.f
  exact implSet_l0 xs n h0 h8 hn xs.length 0 (by omega)

/-- A unit that arrived in a period can be used in another one. -/
def canB (a fr t : Int) : Bool := decide (fr ≤ t ∧ t < fr + a)
def sumB (need xs : List Int) : Nat → Nat → Int → Int
  | 0, _, s => s
  | d + 1, i, s => sumB need xs d (i + 1) (wrap64 (s + rd need (rd xs (i : Int))))
def subB (a : Int) (arr xs : List Int) : Nat → Nat → Int → Int
  | 0, _, s => s
  | d + 1, i, s => subB a arr xs d (i + 1) (if xs.any (canB a (i : Int)) = true then wrap64 (s - rd arr (i : Int)) else s)
def boundB (a : Int) (l m xs : List Int) : Int := subB a l xs l.length 0 (sumB m xs xs.length 0 0)
theorem usable_eq {a fr t : Int} (l m : List Int) (b c : Int) (h1 : 1 ≤ a) (h2 : a ≤ 8) (h3 : 0 ≤ fr) (h4 : fr ≤ 8) : spec_l9Usable.f a l m b c fr t = some (canB a fr t) := by
  unfold spec_l9Usable.f canB
  rw [wid (by omega) (by omega)]
  by_cases h : fr ≤ t
  · simp [h]
  · simp [h]
theorem can_eq {a fr t : Int} (l m : List Int) (b c : Int) (h1 : 1 ≤ a) (h2 : a ≤ 8) (h3 : 0 ≤ fr) (h4 : fr ≤ 8) : impl_Shelf_can.f a l m b c fr t = some (canB a fr t) := by
  unfold impl_Shelf_can.f canB
  rw [wid (x := fr + a) (by omega) (by omega), wid (by omega) (by omega), within_eq, Option.bind_some]
  congr 1
  rw [decide_eq_decide]
  omega
section
variable {a : Int} {l m xs : List Int} {b c : Int} (ha : 1 ≤ a ∧ a ≤ 8) (hl : l.length ≤ 8) (hx : xs.length ≤ 35184372088832) (hin : ∀ j : Nat, j < xs.length → 0 ≤ rd xs (j : Int) ∧ rd xs (j : Int) ≤ (m.length : Int) - 1)
include ha hl hx hin
omit hin in
theorem spec_l2 (i : Nat) (hi : i < l.length) {s R : Int} (d : Nat) : ∀ (j : Nat) (u : Bool), j + d = xs.length →
    Ev (fun k => spec_l9Bound.l1 k xs (if (u || (xs.drop j).any (canB a (i : Int))) = true then wrap64 (s - rd l (i : Int)) else s) ((i + 1 : Nat) : Int) a l m b c) R →
    Ev (fun k => spec_l9Bound.l2 k xs s (i : Int) u (j : Int) a l m b c) R := by
  have hwi : wrap64 ((i : Int) + 1) = ((i + 1 : Nat) : Int) := by rw [wid (by omega) (by omega)]; omega
  induction d with
  | zero =>
    intro j u hj hR
    rw [List.drop_of_length_le (by omega), List.any_nil, Bool.or_false] at hR
    refine ev_succ ?_
    simp only [spec_l9Bound.l2]
    rw [hwi]
    refine ev_neg (by omega) ?_
    by_cases cu : u = true
    · rw [if_pos cu] at hR
      exact ev_pos cu (ev_pos (by omega) (ev_pos (by omega) hR))
    · rw [if_neg cu] at hR
      exact ev_neg cu hR
  | succ d ih =>
    intro j u hj hR
    have hw : wrap64 ((j : Int) + 1) = ((j + 1 : Nat) : Int) := by rw [wid (by omega) (by omega)]; omega
    rw [drop_rd xs j (by omega), List.any_cons] at hR
    refine ev_succ ?_
    simp only [spec_l9Bound.l2]
    rw [hw]
    refine ev_pos (by omega) ?_
    by_cases cu : u = true
    · subst cu
      exact ev_pos rfl (ih (j + 1) true (by omega) (by simpa using hR))
    · refine ev_neg cu (ev_pos (by omega) ?_)
      rw [usable_eq l m b c ha.1 ha.2 (by omega) (by omega)]
      simp only [Option.bind_some]
      refine ih (j + 1) _ (by omega) ?_
      rw [Bool.eq_false_iff.mpr cu, Bool.false_or] at hR
      exact hR
omit hin in
theorem spec_l1 (d : Nat) : ∀ (i : Nat) (s : Int), i + d = l.length → Ev (fun k => spec_l9Bound.l1 k xs s (i : Int) a l m b c) (subB a l xs d i s) := by
  induction d with
  | zero =>
    intro i s hi
    refine ev_succ ?_
    simp only [spec_l9Bound.l1, subB]
    exact ev_neg (by omega) (ev_some _)
  | succ d ih =>
    intro i s hi
    refine ev_succ ?_
    simp only [spec_l9Bound.l1, subB]
    refine ev_pos (by omega) ?_
    refine spec_l2 ha hl hx i (by omega) xs.length 0 false (by omega) ?_
    rw [List.drop_zero, Bool.false_or]
    exact ih (i + 1) _ (by omega)
theorem spec_l0 (d : Nat) : ∀ (i : Nat) (s : Int), i + d = xs.length → Ev (fun k => spec_l9Bound.l0 k xs s (i : Int) a l m b c) (subB a l xs l.length 0 (sumB m xs d i s)) := by
  induction d with
  | zero =>
    intro i s hi
    refine ev_succ ?_
    simp only [spec_l9Bound.l0, sumB]
    exact ev_neg (by omega) (spec_l1 ha hl hx l.length 0 s (by omega))
  | succ d ih =>
    intro i s hi
    have hw : wrap64 ((i : Int) + 1) = ((i + 1 : Nat) : Int) := by rw [wid (by omega) (by omega)]; omega
    have q := hin i (by omega)
    refine ev_succ ?_
    simp only [spec_l9Bound.l0, sumB]
    rw [hw]
    exact ev_pos (by omega) (ev_pos (by omega) (ev_pos q.1 (ev_pos (by omega) (ih (i + 1) _ (by omega)))))
omit hin in
theorem index_l0 (i : Nat) (hi : i < l.length) (d : Nat) : ∀ (j : Nat), j + d = xs.length → ∃ r, Ev (fun k => slices_IndexFunc_int_int.l0 k xs (fun t_ => impl_Shelf_can.f a l m b c (i : Int) t_) (xs.length : Int) (j : Int)) r ∧ decide (r ≥ 0) = (xs.drop j).any (canB a (i : Int)) := by
  induction d with
  | zero =>
    intro j hj
    refine ⟨-1, ev_succ ?_, by rw [List.drop_of_length_le (by omega)]; rfl⟩
    simp only [slices_IndexFunc_int_int.l0]
    exact ev_neg (by omega) (ev_some _)
  | succ d ih =>
    intro j hj
    have hw : wrap64 ((j : Int) + 1) = ((j + 1 : Nat) : Int) := by rw [wid (by omega) (by omega)]; omega
    rw [drop_rd xs j (by omega), List.any_cons]
    by_cases h : canB a (i : Int) (rd xs (j : Int)) = true
    · refine ⟨(j : Int), ev_succ ?_, by rw [h, Bool.true_or, decide_eq_true_eq]; omega⟩
      simp only [slices_IndexFunc_int_int.l0]
      rw [can_eq l m b c ha.1 ha.2 (by omega) (by omega)]
      simp only [Option.bind_some]
      exact ev_pos (by omega) (ev_pos (by omega) (ev_pos (by omega) (ev_pos h (ev_some _))))
    · obtain ⟨r, h1, h2⟩ := ih (j + 1) (by omega)
      refine ⟨r, ev_succ ?_, by rw [Bool.eq_false_iff.mpr h, Bool.false_or]; exact h2⟩
      simp only [slices_IndexFunc_int_int.l0]
      rw [hw, can_eq l m b c ha.1 ha.2 (by omega) (by omega)]
      simp only [Option.bind_some]
      exact ev_pos (by omega) (ev_pos (by omega) (ev_pos (by omega) (ev_neg h h1)))
omit hin in
theorem contains_ev (i : Nat) (hi : i < l.length) : Ev (fun k => slices_ContainsFunc_int_int.f k xs (fun t_ => impl_Shelf_can.f a l m b c (i : Int) t_)) (xs.any (canB a (i : Int))) := by
  unfold slices_ContainsFunc_int_int.f slices_IndexFunc_int_int.f
  obtain ⟨r, h1, h2⟩ := index_l0 (b := b) (c := c) ha hl hx i hi xs.length 0 (by omega)
  rw [List.drop_zero] at h2
  exact ev_bind h1 (ev_cast (ev_some _) h2)
omit hin in
theorem impl_l1 (d : Nat) : ∀ (i : Nat) (s : Int), i + d = l.length → Ev (fun k => impl_Shelf_bound.l1 k xs s l (l.length : Int) (i : Int) a l m b c) (subB a l xs d i s) := by
  induction d with
  | zero =>
    intro i s hi
    refine ev_succ ?_
    simp only [impl_Shelf_bound.l1, subB]
    exact ev_neg (by omega) (ev_some _)
  | succ d ih =>
    intro i s hi
    have hw : wrap64 ((i : Int) + 1) = ((i + 1 : Nat) : Int) := by rw [wid (by omega) (by omega)]; omega
    refine ev_succ ?_
    simp only [impl_Shelf_bound.l1, subB]
    rw [hw]
    refine ev_pos (by omega) (ev_pos (by omega) (ev_pos (by omega) (ev_bind (contains_ev ha hl hx i (by omega)) ?_)))
    by_cases h : xs.any (canB a (i : Int)) = true
    · rw [if_pos h]
      exact ev_pos h (ih (i + 1) _ (by omega))
    · rw [if_neg h]
      exact ev_neg h (ih (i + 1) _ (by omega))
theorem impl_l0 (d : Nat) : ∀ (i : Nat) (s : Int), i + d = xs.length → Ev (fun k => impl_Shelf_bound.l0 k xs s xs (xs.length : Int) (i : Int) a l m b c) (subB a l xs l.length 0 (sumB m xs d i s)) := by
  induction d with
  | zero =>
    intro i s hi
    refine ev_succ ?_
    simp only [impl_Shelf_bound.l0, sumB]
    exact ev_neg (by omega) (impl_l1 ha hl hx l.length 0 s (by omega))
  | succ d ih =>
    intro i s hi
    have hw : wrap64 ((i : Int) + 1) = ((i + 1 : Nat) : Int) := by rw [wid (by omega) (by omega)]; omega
    have q := hin i (by omega)
    refine ev_succ ?_
    simp only [impl_Shelf_bound.l0, sumB]
    rw [hw]
    exact ev_pos (by omega) (ev_pos (by omega) (ev_pos (by omega) (ev_pos q.1 (ev_pos (by omega) (ih (i + 1) _ (by omega))))))
end
def ans (a : Int) (l m : List Int) (b c : Int) (xs : List Int) : Int × Bool := if ShelfOk a l m b c then (if risB xs ((m.length : Int) - 1) xs.length 0 = true then (boundB a l m xs, true) else (0, false)) else (0, false)
theorem spec_ans (a : Int) (l m : List Int) (b c : Int) (xs : List Int) (hl : l.length ≤ 35184372088832) (hm : m.length ≤ 35184372088832) (hx : xs.length ≤ 35184372088832) : Ev (fun k => spec_LostBound.f k a l m b c xs) (ans a l m b c xs) := by
  unfold spec_LostBound.f ans
  refine ev_bind (specShelf_ev a l m b c hl hm) ?_
  by_cases h : ShelfOk a l m b c
  · have h8 := h.2.1
    have h9 := h.2.2.1
    rw [if_pos h, wid (by omega) (by omega)]
    refine ev_pos (decide_eq_true h) (ev_bind (specRising_ev xs _ hx) ?_)
    by_cases r : risB xs ((m.length : Int) - 1) xs.length 0 = true
    · rw [if_pos r]
      have hin := fun j hj => risB_in xs.length 0 (by omega) r j (by omega) hj
      refine ev_pos r (ev_bind (a := boundB a l m xs) ?_ (ev_some _))
      unfold spec_l9Bound.f
      exact spec_l0 h.1 (by omega) hx hin xs.length 0 0 (by omega)
    · rw [if_neg r]
      exact ev_neg r (ev_some _)
  · rw [if_neg h]
    exact ev_neg (by rw [decide_eq_true_eq]; exact h) (ev_some _)
theorem impl_ans (a : Int) (l m : List Int) (b c : Int) (xs : List Int) (hl : l.length ≤ 35184372088832) (hm : m.length ≤ 35184372088832) (hx : xs.length ≤ 35184372088832) : Ev (fun k => impl_LostBound.f k a l m b c xs) (ans a l m b c xs) := by
  unfold impl_LostBound.f ans
  refine ev_bind (implShelf_ev a l m b c hl hm) ?_
  by_cases h : ShelfOk a l m b c
  · have h8 := h.2.1
    have h9 := h.2.2.1
    rw [if_pos h]
    refine ev_pos (decide_eq_true h) (ev_bind (implSet_ev xs _ (by omega) (by omega) hx) ?_)
    by_cases r : risB xs ((m.length : Int) - 1) xs.length 0 = true
    · rw [if_pos r]
      have hin := fun j hj => risB_in xs.length 0 (by omega) r j (by omega) hj
      refine ev_pos r (ev_bind (a := boundB a l m xs) ?_ (ev_some _))
      unfold impl_Shelf_bound.f
      exact impl_l0 h.1 (by omega) hx hin xs.length 0 0 (by omega)
    · rw [if_neg r]
      exact ev_neg r (ev_some _)
  · rw [if_neg h]
    exact ev_neg (by rw [decide_eq_true_eq]; exact h) (ev_some _)
theorem FnExactLostBound (a0_0 : Int) (l0_1 : List Int) (l0_2 : List Int) (a0_3 : Int) (a0_4 : Int) (l1 : List Int) (hw0_0 : (Lit.int .i64 a0_0).wf = true) (hl0_1 : l0_1.length ≤ maxLen) (hw0_1 : ∀ x ∈ l0_1, (Lit.int .i64 x).wf = true) (hl0_2 : l0_2.length ≤ maxLen) (hw0_2 : ∀ x ∈ l0_2, (Lit.int .i64 x).wf = true) (hw0_3 : (Lit.int .i64 a0_3).wf = true) (hw0_4 : (Lit.int .i64 a0_4).wf = true) (hl1 : l1.length ≤ maxLen) (hw1 : ∀ x ∈ l1, (Lit.int .i64 x).wf = true) :
    ∃ k, laws_FnExactLostBound.f k a0_0 l0_1 l0_2 a0_3 a0_4 l1 = some true := by
  refine Ev.rounds ?_
  unfold laws_FnExactLostBound.f
  by_cases c0 : (l1.length : Int) > 1048576
  · exact ev_pos c0 (ev_some _)
  refine ev_neg c0 ?_
  obtain ⟨r, hr, hz⟩ := szShelf_eq a0_0 l0_1 l0_2 a0_3 a0_4 1048576 (by omega) (by omega) hl0_1 hl0_2
  simp only [hr, Option.bind_some]
  by_cases c : r < 0
  · exact ev_pos c (ev_some _)
  have hz := hz (by omega)
  have h1 : l0_1.length ≤ 35184372088832 := by omega
  have h2 : l0_2.length ≤ 35184372088832 := by omega
  have h3 : l1.length ≤ 35184372088832 := by omega
  have hto := toShelf_ev a0_0 l0_1 l0_2 a0_3 a0_4 h1 h2
  have hti := toIntS_ev l1 h3
  refine ev_neg c (ev_bind hto (ev_bind hti (ev_bind (spec_ans a0_0 l0_1 l0_2 a0_3 a0_4 l1 h1 h2 h3) (ev_bind hto (ev_bind hti (ev_bind (impl_ans a0_0 l0_1 l0_2 a0_3 a0_4 l1 h1 h2 h3) (ev_pos rfl (ev_succ ?_))))))))
  simp only [laws_FnExactLostBound.j0]
  exact ev_neg (by simp) (ev_bind hto (ev_bind (eqShelf_ev a0_0 l0_1 l0_2 a0_3 a0_4 h1 h2) (ev_pos rfl (ev_bind hti (ev_bind (eqIntS_ev _ _ h3) (ev_pos (by simp) (ev_some _)))))))

end Go.Proofs.Ytlhhanlecekpoaa.Pure
