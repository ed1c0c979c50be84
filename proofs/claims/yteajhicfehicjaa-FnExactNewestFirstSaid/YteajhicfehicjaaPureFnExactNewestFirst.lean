/- The program's NewestFirst and the reference's take the same units, period by period. No conditions. -/
import Derived.Test.YteajhicfehicjaaKit
import Derived.Test.YteajhicfehicjaaXFnExactNewestFirstx6
namespace Go.Proofs.Yteajhicfehicjaa.Pure
set_option linter.unusedVariables false
open Go.RowKit Go.Proofs.Yteajhicfehicjaa.PFnExactNewestFirst Go.Proofs.YteajhicfehicjaaW.PrintWords Go.Proofs.YteajhicfehicjaaW.PrintLast Go.Proofs.YteajhicfehicjaaW.PrintMore Go.Proofs.Yteajhicfehicjaa.Kit

theorem in_eq (a b c : Int) : spec_l1In.f a b c = some (decide (b ≤ a ∧ a ≤ c)) := by
  unfold spec_l1In.f
  by_cases h : b ≤ a <;> simp [h]
theorem within_eq (a b c : Int) : impl_within.f a b c = some (decide (b ≤ a ∧ a ≤ c)) := by
  unfold impl_within.f
  by_cases h : b ≤ a <;> simp [h]
theorem toIntS_l0 (xs : List Int) (hn : xs.length ≤ 35184372088832) (d : Nat) : ∀ (i : Nat) (ys : List Int), i + d = xs.length → ys.length = xs.length → ys.take i = xs.take i →
    Ev (fun k => laws_toIntS.l0 k xs ys (i : Int)) xs := by
  induction d with
  | zero =>
    intro i ys hi hl ht
    refine ev_succ ?_
    simp only [laws_toIntS.l0]
    refine ev_neg (by omega) ?_
    rw [List.take_of_length_le (by omega), List.take_of_length_le (by omega)] at ht
    rw [ht]
    exact ev_some _
  | succ d ih =>
    intro i ys hi hl ht
    refine ev_succ ?_
    simp only [laws_toIntS.l0]
    refine ev_pos (by omega) (ev_pos (by omega) (ev_pos (by omega) ?_))
    have hw : wrap64 ((i : Int) + 1) = ((i + 1 : Nat) : Int) := by rw [wid (by omega) (by omega)]; omega
    rw [hw]
    refine ih (i + 1) _ (by omega) (by simpa using hl) ?_
    rw [rd_nat xs i (by omega), Int.toNat_natCast, List.take_succ_eq_append_getElem (by simp; omega), List.take_succ_eq_append_getElem (by omega), List.getElem_set_self, List.take_set_of_le (by omega), ht]
theorem toIntS_ev (xs : List Int) (hn : xs.length ≤ 35184372088832) : Ev (fun k => laws_toIntS.f k xs) xs := by
  unfold laws_toIntS.f
  refine ev_pos (by omega) (ev_pos (by omega) ?_)
  exact toIntS_l0 xs hn xs.length 0 _ (by omega) (by simp) rfl
theorem eqIntS_l0 (xs ys : List Int) (hn : xs.length ≤ 35184372088832) (hl : ys.length = xs.length) (d : Nat) : ∀ (i : Nat), i + d = xs.length →
    Ev (fun k => laws_eqIntS.l0 k xs ys (i : Int)) (decide (xs.drop i = ys.drop i)) := by
  induction d with
  | zero =>
    intro i hi
    refine ev_succ ?_
    simp only [laws_eqIntS.l0]
    refine ev_neg (by omega) ?_
    rw [List.drop_of_length_le (by omega), List.drop_of_length_le (by omega)]
    exact ev_some _
  | succ d ih =>
    intro i hi
    refine ev_succ ?_
    simp only [laws_eqIntS.l0]
    refine ev_pos (by omega) (ev_pos (by omega) (ev_pos (by omega) ?_))
    have hw : wrap64 ((i : Int) + 1) = ((i + 1 : Nat) : Int) := by rw [wid (by omega) (by omega)]; omega
    rw [hw, drop_rd xs i (by omega), drop_rd ys i (by omega)]
    by_cases h : rd xs i = rd ys i
    · refine ev_pos h (ev_cast (ih (i + 1) (by omega)) ?_)
      simp [h]
    · refine ev_neg h (ev_cast (ev_some false) ?_)
      simp [h]
theorem eqIntS_ev (xs ys : List Int) (hn : xs.length ≤ 35184372088832) : Ev (fun k => laws_eqIntS.f k xs ys) (decide (xs = ys)) := by
  unfold laws_eqIntS.f
  by_cases h : xs.length = ys.length
  · refine ev_pos (by omega) (ev_cast (eqIntS_l0 xs ys hn h.symm xs.length 0 (by omega)) (by simp))
  · refine ev_neg (by omega) (ev_cast (ev_some false) ?_)
    have : xs ≠ ys := fun e => h (by rw [e])
    simp [this]
theorem allWithin_l0 (lo up : Int) (xs : List Int) (hn : xs.length ≤ 35184372088832) (d : Nat) : ∀ (i : Nat), i + d = xs.length →
    Ev (fun k => impl_allWithin.l0 k lo up xs (xs.length : Int) (i : Int)) (decide (∀ x ∈ xs.drop i, lo ≤ x ∧ x ≤ up)) := by
  induction d with
  | zero =>
    intro i hi
    refine ev_succ ?_
    simp only [impl_allWithin.l0]
    refine ev_neg (by omega) ?_
    rw [List.drop_of_length_le (by omega)]
    exact ev_cast (ev_some true) (by simp)
  | succ d ih =>
    intro i hi
    refine ev_succ ?_
    simp only [impl_allWithin.l0, within_eq, Option.bind_some]
    refine ev_pos (by omega) (ev_pos (by omega) (ev_pos (by omega) ?_))
    have hw : wrap64 ((i : Int) + 1) = ((i + 1 : Nat) : Int) := by rw [wid (by omega) (by omega)]; omega
    rw [hw, drop_rd xs i (by omega)]
    by_cases h : lo ≤ rd xs i ∧ rd xs i ≤ up
    · refine ev_pos (by simpa using h) (ev_cast (ih (i + 1) (by omega)) ?_)
      simp [h]
    · refine ev_neg (by simpa using h) (ev_cast (ev_some false) ?_)
      symm
      simp only [decide_eq_false_iff_not, List.mem_cons]
      exact fun hh => h (hh _ (Or.inl rfl))
theorem allWithin_ev (xs : List Int) (lo hi : Int) (hn : xs.length ≤ 35184372088832) : Ev (fun k => impl_allWithin.f k xs lo hi) (decide (∀ x ∈ xs, lo ≤ x ∧ x ≤ hi)) := by
  unfold impl_allWithin.f
  exact allWithin_l0 lo hi xs hn xs.length 0 (by omega)
theorem l2Row_l0 (n up : Int) (xs : List Int) (hn : xs.length ≤ 35184372088832) (d : Nat) : ∀ (i : Nat), i + d = xs.length →
    Ev (fun k => spec_l2Row.l0 k xs n up (i : Int)) (decide ((∀ x ∈ xs.drop i, 0 ≤ x ∧ x ≤ up) ∧ (xs.length : Int) = n)) := by
  induction d with
  | zero =>
    intro i hi
    refine ev_succ ?_
    simp only [spec_l2Row.l0]
    refine ev_neg (by omega) ?_
    rw [List.drop_of_length_le (by omega)]
    refine ev_cast (ev_some _) ?_
    rw [Bool.eq_iff_iff]
    simp
  | succ d ih =>
    intro i hi
    refine ev_succ ?_
    simp only [spec_l2Row.l0, in_eq, Option.bind_some]
    refine ev_pos (by omega) (ev_pos (by omega) ?_)
    have hw : wrap64 ((i : Int) + 1) = ((i + 1 : Nat) : Int) := by rw [wid (by omega) (by omega)]; omega
    rw [hw, drop_rd xs i (by omega)]
    by_cases h : 0 ≤ rd xs i ∧ rd xs i ≤ up
    · refine ev_pos (by simpa using h) (ev_cast (ih (i + 1) (by omega)) ?_)
      simp [h]
    · refine ev_neg (by simpa using h) (ev_cast (ev_some false) ?_)
      symm
      simp only [decide_eq_false_iff_not, List.mem_cons]
      exact fun hh => h (hh.1 _ (Or.inl rfl))
theorem l2Row_ev (xs : List Int) (n up : Int) (hn : xs.length ≤ 35184372088832) : Ev (fun k => spec_l2Row.f k xs n up) (decide ((∀ x ∈ xs, 0 ≤ x ∧ x ≤ up) ∧ (xs.length : Int) = n)) := by
  unfold spec_l2Row.f
  exact l2Row_l0 n up xs hn xs.length 0 (by omega)
theorem szIntS_eq (xs : List Int) (a : Int) (h0 : 0 ≤ a) (h1 : a ≤ 1048576) (hl : xs.length ≤ maxLen) : laws_szIntS.f xs a = some (if a - (xs.length : Int) < 0 then -1 else a - (xs.length : Int)) := by
  unfold maxLen at hl
  unfold laws_szIntS.f
  rw [wid (by omega) (by omega)]
  split <;> rfl
theorem szShelf_eq (a : Int) (l m : List Int) (b c : Int) (n : Int) (h0 : 0 ≤ n) (h1 : n ≤ 1048576) (hl : l.length ≤ maxLen) (hm : m.length ≤ maxLen) :
    ∃ r, laws_szShelf.f a l m b c n = some r ∧ (0 ≤ r → r = n - l.length - m.length) := by
  unfold laws_szShelf.f
  rw [szIntS_eq l n h0 h1 hl]
  simp only [Option.bind_some]
  by_cases c1 : n - (l.length : Int) < 0
  · rw [if_pos c1, if_pos (by omega)]
    exact ⟨_, rfl, by omega⟩
  · rw [if_neg c1, if_neg c1, szIntS_eq m _ (by omega) (by omega) hm]
    simp only [Option.bind_some]
    by_cases c2 : n - (l.length : Int) - (m.length : Int) < 0
    · rw [if_pos c2, if_pos (by omega)]
      exact ⟨_, rfl, by omega⟩
    · rw [if_neg c2, if_neg c2]
      exact ⟨_, rfl, fun _ => rfl⟩
theorem toShelf_ev (a : Int) (l m : List Int) (b c : Int) (hl : l.length ≤ 35184372088832) (hm : m.length ≤ 35184372088832) : Ev (fun k => laws_toShelf.f k a l m b c) (a, l, m, b, c) := by
  unfold laws_toShelf.f
  exact ev_bind (toIntS_ev l hl) (ev_bind (toIntS_ev m hm) (ev_some _))
theorem eqShelf_ev (a : Int) (l m : List Int) (b c : Int) (hl : l.length ≤ 35184372088832) (hm : m.length ≤ 35184372088832) : Ev (fun k => laws_eqShelf.f k a l m b c a l m b c) true := by
  unfold laws_eqShelf.f
  refine ev_pos rfl (ev_bind (eqIntS_ev l l hl) (ev_pos (by simp) (ev_bind (eqIntS_ev m m hm) (ev_pos (by simp) (ev_pos rfl (ev_pos rfl (ev_some _)))))))

/-- What a valid shelf is. -/
def ShelfOk (a : Int) (l m : List Int) (b c : Int) : Prop :=
  (1 ≤ a ∧ a ≤ 8) ∧ (l.length : Int) ≤ 8 ∧ (m.length : Int) = (l.length : Int) ∧ (∀ x ∈ l, 0 ≤ x ∧ x ≤ 20) ∧ (∀ x ∈ m, 0 ≤ x ∧ x ≤ 20) ∧ (∀ x ∈ [b, c], 0 ≤ x ∧ x ≤ 20)
instance (a : Int) (l m : List Int) (b c : Int) : Decidable (ShelfOk a l m b c) := by unfold ShelfOk; infer_instance
theorem implShelf_ev (a : Int) (l m : List Int) (b c : Int) (hl : l.length ≤ 35184372088832) (hm : m.length ≤ 35184372088832) : Ev (fun k => impl_IsShelf.f k a l m b c) (decide (ShelfOk a l m b c)) := by
  unfold impl_IsShelf.f ShelfOk
  simp only [impl_isLife.f, within_eq, Option.bind_some]
  refine ev_and rfl fun _ => ev_andp fun _ => ev_andp fun _ => ev_bind (allWithin_ev l 0 20 hl) (ev_and rfl fun _ => ev_bind (allWithin_ev m 0 20 hm) (ev_and rfl fun _ => ?_))
  refine ev_bind (g := fun k => impl_areCharges.f k [b, c]) (a := decide (∀ x ∈ [b, c], 0 ≤ x ∧ x ≤ 20)) ?_ (ev_some _)
  unfold impl_areCharges.f
  exact ev_bind (allWithin_ev [b, c] 0 20 (by simp)) (ev_some _)
theorem specShelf_ev (a : Int) (l m : List Int) (b c : Int) (hl : l.length ≤ 35184372088832) (hm : m.length ≤ 35184372088832) : Ev (fun k => spec_l9Good.f k a l m b c) (decide (ShelfOk a l m b c)) := by
  unfold spec_l9Good.f
  simp only [in_eq, Option.bind_some]
  by_cases h1 : 1 ≤ a ∧ a ≤ 8
  · refine ev_pos (by simpa using h1) (ev_succ ?_)
    simp only [spec_l9Good.j0]
    by_cases h2 : (m.length : Int) > 8
    · refine ev_pos (by simpa using h2) (ev_false fun h => ?_)
      have := h.2.1
      have := h.2.2.1
      omega
    · refine ev_neg (by simpa using h2) ?_
      simp only [spec_l5Charges.f, in_eq, Option.bind_some]
      refine ev_dec (P := ((∀ x ∈ m, 0 ≤ x ∧ x ≤ 20) ∧ (m.length : Int) = m.length) ∧ ((∀ x ∈ l, 0 ≤ x ∧ x ≤ 20) ∧ (l.length : Int) = m.length) ∧ (0 ≤ b ∧ b ≤ 20) ∧ (0 ≤ c ∧ c ≤ 20)) ?_ ?_
      · refine ev_bind (l2Row_ev m _ 20 hm) (ev_and rfl fun _ => ev_bind (l2Row_ev l _ 20 hl) (ev_and rfl fun _ => ?_))
        refine ev_cast (r := decide ((0 ≤ b ∧ b ≤ 20) ∧ (0 ≤ c ∧ c ≤ 20))) ?_ rfl
        by_cases h3 : 0 ≤ b ∧ b ≤ 20
        · simp [h3]
          exact ev_some _
        · simp only [h3, decide_false, false_and, Bool.false_eq_true, if_false, Option.bind_some]
          exact ev_some _
      · unfold ShelfOk
        simp only [List.mem_cons, List.not_mem_nil, or_false, forall_eq_or_imp, forall_eq]
        constructor
        · rintro ⟨⟨p1, p2⟩, ⟨p3, p4⟩, p5, p6⟩
          exact ⟨h1, by omega, by omega, p3, p1, p5, p6⟩
        · rintro ⟨_, p1, p2, p3, p4, p5, p6⟩
          exact ⟨⟨p4, trivial⟩, ⟨p3, p2.symm⟩, p5, p6⟩
  · refine ev_neg (by simpa using h1) (ev_succ ?_)
    simp only [spec_l9Good.j0, if_true]
    exact ev_false fun h => h1 h.1
theorem rd_L1_nat (xs : List (List Int)) (i : Nat) (h : i < xs.length) : rd_L1 xs (i : Int) = xs[i] := by
  unfold rd_L1
  simp [List.getD_eq_getElem?_getD, h]
theorem drop_rd_L1 (xs : List (List Int)) (i : Nat) (h : i < xs.length) : xs.drop i = rd_L1 xs (i : Int) :: xs.drop (i + 1) := by
  rw [rd_L1_nat xs i h]
  exact List.drop_eq_getElem_cons h
theorem rd_L1_mem (xs : List (List Int)) (i : Nat) (h : i < xs.length) : rd_L1 xs (i : Int) ∈ xs := by
  rw [rd_L1_nat xs i h]
  exact List.getElem_mem _
theorem eqIntSS_l0 (xs : List (List Int)) (hn : xs.length ≤ 1048576) (hw : ∀ r ∈ xs, r.length ≤ 1048576) (d : Nat) : ∀ (i : Nat), i + d = xs.length → Ev (fun k => laws_eqIntSS.l0 k xs xs (i : Int)) true := by
  induction d with
  | zero =>
    intro i hi
    refine ev_succ ?_
    simp only [laws_eqIntSS.l0]
    exact ev_neg (by omega) (ev_some _)
  | succ d ih =>
    intro i hi
    have hr := hw _ (rd_L1_mem xs i (by omega))
    refine ev_succ ?_
    simp only [laws_eqIntSS.l0]
    have hw : wrap64 ((i : Int) + 1) = ((i + 1 : Nat) : Int) := by rw [wid (by omega) (by omega)]; omega
    rw [hw]
    exact ev_pos (by omega) (ev_pos (by omega) (ev_pos (by omega) (ev_bind (eqIntS_ev _ _ (by omega)) (ev_pos (by simp) (ih (i + 1) (by omega))))))
theorem eqIntSS_ev (xs : List (List Int)) (hn : xs.length ≤ 1048576) (hw : ∀ r ∈ xs, r.length ≤ 1048576) : Ev (fun k => laws_eqIntSS.f k xs xs) true := by
  unfold laws_eqIntSS.f
  exact ev_pos rfl (eqIntSS_l0 xs hn hw xs.length 0 (by omega))
/-- The numbers from a on. -/
def asc (a : Int) (n : Nat) : List Int := (List.range n).map fun i => a + ((i : Nat) : Int)
theorem asc_length (a : Int) (n : Nat) : (asc a n).length = n := by simp [asc]
theorem asc_succ (a : Int) (n : Nat) : asc a (n + 1) = asc a n ++ [a + (n : Int)] := by simp [asc, List.range_succ]
theorem rd_asc (a : Int) (n i : Nat) (h : i < n) : rd (asc a n) (i : Int) = a + (i : Int) := by
  rw [rd_nat _ _ (by rw [asc_length]; exact h)]
  simp [asc]
theorem mark_l0 (n : Nat) (a : Int) (h0 : 0 ≤ a) (hn : n ≤ 35184372088832) (ha : a ≤ 35184372088832) (d : Nat) : ∀ (i : Nat) (ys : List Int), i + d = n → ys.length = n → ys.take i = asc a i →
    Ev (fun k => laws_markIntS.l0 k ys (a + (i : Int)) (i : Int)) (a + (n : Int), asc a n) := by
  induction d with
  | zero =>
    intro i ys hi hl ht
    refine ev_succ ?_
    simp only [laws_markIntS.l0]
    refine ev_neg (by omega) (ev_cast (ev_some _) ?_)
    rw [List.take_of_length_le (by omega)] at ht
    rw [ht, show i = n by omega]
  | succ d ih =>
    intro i ys hi hl ht
    refine ev_succ ?_
    simp only [laws_markIntS.l0]
    have hw : wrap64 ((i : Int) + 1) = ((i + 1 : Nat) : Int) := by rw [wid (by omega) (by omega)]; omega
    have hw2 : wrap64 (a + (i : Int) + 1) = a + ((i + 1 : Nat) : Int) := by rw [wid (by omega) (by omega)]; omega
    rw [hw, hw2]
    refine ev_pos (by omega) (ev_pos (by omega) (ih (i + 1) _ (by omega) (by simpa using hl) ?_))
    rw [Int.toNat_natCast, List.take_succ_eq_append_getElem (by simp; omega), List.getElem_set_self, List.take_set_of_le (by omega), ht, asc_succ]
theorem mark_ev (ys : List Int) (a : Int) (h0 : 0 ≤ a) (hn : ys.length ≤ 35184372088832) (ha : a ≤ 35184372088832) : Ev (fun k => laws_markIntS.f k ys a) (a + (ys.length : Int), asc a ys.length) := by
  unfold laws_markIntS.f
  have := mark_l0 ys.length a h0 hn ha ys.length 0 ys (by omega) rfl rfl
  simpa using this
theorem held_l0 (n : Nat) (a : Int) (h0 : 0 ≤ a) (hn : n ≤ 35184372088832) (ha : a ≤ 35184372088832) (d : Nat) : ∀ (i : Nat), i + d = n →
    Ev (fun k => laws_heldIntS.l0 k (asc a n) (a + (i : Int)) (i : Int)) (a + (n : Int)) := by
  induction d with
  | zero =>
    intro i hi
    refine ev_succ ?_
    simp only [laws_heldIntS.l0, asc_length]
    refine ev_neg (by omega) (ev_cast (ev_some _) ?_)
    rw [show i = n by omega]
  | succ d ih =>
    intro i hi
    refine ev_succ ?_
    simp only [laws_heldIntS.l0, asc_length]
    have hw : wrap64 ((i : Int) + 1) = ((i + 1 : Nat) : Int) := by rw [wid (by omega) (by omega)]; omega
    have hw2 : wrap64 (a + (i : Int) + 1) = a + ((i + 1 : Nat) : Int) := by rw [wid (by omega) (by omega)]; omega
    rw [hw, hw2, rd_asc a n i (by omega)]
    exact ev_pos (by omega) (ev_pos (by omega) (ev_pos rfl (ih (i + 1) (by omega))))
theorem held_ev (a : Int) (n : Nat) (h0 : 0 ≤ a) (hn : n ≤ 35184372088832) (ha : a ≤ 35184372088832) : Ev (fun k => laws_heldIntS.f k (asc a n) a) (a + (n : Int)) := by
  unfold laws_heldIntS.f
  have := held_l0 n a h0 hn ha n 0 (by omega)
  simpa using this
/-- Rows of marks. -/
def tot : List (List Int) → Int
  | [] => 0
  | r :: rs => (r.length : Int) + tot rs
def mkS : Int → List (List Int) → List (List Int)
  | _, [] => []
  | a, r :: rs => asc a r.length :: mkS (a + (r.length : Int)) rs
theorem tot_in (rs : List (List Int)) (h : ∀ r ∈ rs, r.length ≤ 1048576) : 0 ≤ tot rs ∧ tot rs ≤ rs.length * 1048576 := by
  induction rs with
  | nil => simp [tot]
  | cons r rs ih =>
    have h1 := h r (by simp)
    have h2 := ih fun x hx => h x (by simp [hx])
    simp only [tot, List.length_cons]
    omega
theorem rd_mid (pre post : List (List Int)) (r : List Int) : rd_L1 (pre ++ r :: post) (pre.length : Int) = r := by
  rw [rd_L1_nat _ _ (by simp)]
  simp
theorem markSS_l0 (post : List (List Int)) : ∀ (pre : List (List Int)) (a : Int), (pre ++ post).length ≤ 1048576 → (∀ r ∈ post, r.length ≤ 1048576) → 0 ≤ a → a + tot post ≤ 35184372088832 →
    Ev (fun k => laws_markIntSS.l0 k (pre ++ post) a (pre.length : Int)) (a + tot post, pre ++ mkS a post) := by
  induction post with
  | nil =>
    intro pre a hl hr h0 ha
    refine ev_succ ?_
    simp only [laws_markIntSS.l0, List.append_nil, tot, mkS, Int.add_zero]
    exact ev_neg (by omega) (ev_some _)
  | cons r rs ih =>
    intro pre a hl hr h0 ha
    have h1 := hr r (by simp)
    have h2 := tot_in rs fun x hx => hr x (by simp [hx])
    simp only [List.length_append, List.length_cons] at hl
    simp only [tot] at ha
    have hw : wrap64 ((pre.length : Int) + 1) = ((pre ++ [asc a r.length]).length : Int) := by rw [wid (by omega) (by omega)]; simp
    have hs : (pre ++ r :: rs).set (pre.length : Int).toNat (asc a r.length) = (pre ++ [asc a r.length]) ++ rs := by rw [Int.toNat_natCast]; simp
    have q := ih (pre ++ [asc a r.length]) (a + (r.length : Int)) (by simp; omega) (fun x hx => hr x (by simp [hx])) (by omega) (by omega)
    refine ev_succ ?_
    simp only [laws_markIntSS.l0]
    rw [rd_mid, hw]
    refine ev_pos (by simp; omega) (ev_pos (by omega) (ev_bind (mark_ev r a h0 (by omega) (by omega)) ?_))
    simp only [hs]
    refine ev_cast q ?_
    simp [tot, mkS, Int.add_assoc]
theorem markSS_ev (rs : List (List Int)) (a : Int) (hl : rs.length ≤ 1048576) (hr : ∀ r ∈ rs, r.length ≤ 1048576) (h0 : 0 ≤ a) (ha : a ≤ 17592186044416) : Ev (fun k => laws_markIntSS.f k rs a) (a + tot rs, mkS a rs) := by
  have h := tot_in rs hr
  unfold laws_markIntSS.f
  exact markSS_l0 rs [] a (by simpa using hl) hr h0 (by omega)
theorem heldSS_l0 (post : List (List Int)) : ∀ (pre : List (List Int)) (a : Int), (pre ++ post).length ≤ 1048576 → (∀ r ∈ post, r.length ≤ 1048576) → 0 ≤ a → a + tot post ≤ 35184372088832 →
    Ev (fun k => laws_heldIntSS.l0 k (pre ++ mkS a post) a (pre.length : Int)) (a + tot post) := by
  induction post with
  | nil =>
    intro pre a hl hr h0 ha
    refine ev_succ ?_
    simp only [laws_heldIntSS.l0, List.append_nil, tot, mkS, Int.add_zero]
    exact ev_neg (by omega) (ev_some _)
  | cons r rs ih =>
    intro pre a hl hr h0 ha
    have h1 := hr r (by simp)
    have h2 := tot_in rs fun x hx => hr x (by simp [hx])
    simp only [List.length_append, List.length_cons] at hl
    simp only [tot] at ha
    have hw : wrap64 ((pre.length : Int) + 1) = ((pre ++ [asc a r.length]).length : Int) := by rw [wid (by omega) (by omega)]; simp
    have q := ih (pre ++ [asc a r.length]) (a + (r.length : Int)) (by simp; omega) (fun x hx => hr x (by simp [hx])) (by omega) (by omega)
    refine ev_succ ?_
    simp only [laws_heldIntSS.l0, mkS]
    rw [rd_mid, hw]
    refine ev_pos (by simp; omega) (ev_pos (by omega) (ev_bind (held_ev a r.length h0 (by omega) (by omega)) (ev_neg (by omega) ?_)))
    rw [show pre ++ asc a r.length :: mkS (a + (r.length : Int)) rs = (pre ++ [asc a r.length]) ++ mkS (a + (r.length : Int)) rs by simp]
    refine ev_cast q ?_
    simp [tot, Int.add_assoc]
theorem heldSS_ev (rs : List (List Int)) (hl : rs.length ≤ 1048576) (hr : ∀ r ∈ rs, r.length ≤ 1048576) : Ev (fun k => laws_heldIntSS.f k (mkS 1 rs) 1) (1 + tot rs) := by
  have h := tot_in rs hr
  unfold laws_heldIntSS.f
  exact heldSS_l0 rs [] 1 (by simpa using hl) hr (by omega) (by omega)
/-- A unit that arrived in a period can be used in another one. -/
def canB (a fr t : Int) : Bool := decide (fr ≤ t ∧ t < fr + a)
theorem usable_eq {a fr t : Int} (l m : List Int) (b c : Int) (h1 : 1 ≤ a) (h2 : a ≤ 8) (h3 : 0 ≤ fr) (h4 : fr ≤ 8) : spec_l9Usable.f a l m b c fr t = some (canB a fr t) := by
  unfold spec_l9Usable.f canB
  rw [wid (by omega) (by omega)]
  by_cases h : fr ≤ t
  · simp [h]
  · simp [h]
theorem can_eq {a fr t : Int} (l m : List Int) (b c : Int) (h1 : 1 ≤ a) (h2 : a ≤ 8) (h3 : 0 ≤ fr) (h4 : fr ≤ 8) : impl_Shelf_can.f a l m b c fr t = some (canB a fr t) := by
  unfold impl_Shelf_can.f canB
  rw [wid (x := fr + a) (by omega) (by omega), wid (by omega) (by omega), within_eq, Option.bind_some]
  congr 1
  rw [decide_eq_decide]
  omega
/-- What is left, the row and the need, a step on. -/
def stp (i : Nat) (s : List Int × List Int × Int) : List Int × List Int × Int :=
  (s.1.set i (wrap64 (rd s.1 (i : Int) - rd (s.2.1.set i (if s.2.2 < rd s.1 (i : Int) then s.2.2 else rd s.1 (i : Int))) (i : Int))), s.2.1.set i (if s.2.2 < rd s.1 (i : Int) then s.2.2 else rd s.1 (i : Int)), wrap64 (s.2.2 - rd (s.2.1.set i (if s.2.2 < rd s.1 (i : Int) then s.2.2 else rd s.1 (i : Int))) (i : Int)))
def stq (a : Int) (t : Nat) (i : Nat) (s : List Int × List Int × Int) : List Int × List Int × Int := if canB a (i : Int) (t : Int) = true then stp i s else s
def run (a : Int) (t : Nat) (f : Nat → Nat) : Nat → Nat → List Int × List Int × Int → List Int × List Int × Int
  | 0, _, s => s
  | m + 1, k, s => run a t f m (k + 1) (stq a t (f k) s)
theorem run_skip (a : Int) (t : Nat) (f : Nat → Nat) (m : Nat) : ∀ k s, (∀ j, k ≤ j → j < k + m → t < f j) → run a t f m k s = s := by
  induction m with
  | zero => intro k s h; rfl
  | succ m ih =>
    intro k s h
    have h1 := h k (by omega) (by omega)
    have h2 : stq a t (f k) s = s := by
      unfold stq canB
      rw [if_neg]
      simp only [decide_eq_true_eq]
      omega
    simp only [run, h2]
    exact ih (k + 1) s fun j h3 h4 => h j (by omega) (by omega)
theorem run_split (a : Int) (t : Nat) (f : Nat → Nat) (p q : Nat) : ∀ k s, run a t f (p + q) k s = run a t f q (k + p) (run a t f p k s) := by
  induction p with
  | zero => intro k s; simp [run]
  | succ p ih =>
    intro k s
    rw [show p + 1 + q = (p + q) + 1 by omega]
    simp only [run]
    rw [ih, show k + 1 + p = k + (p + 1) by omega]
theorem run_shift (a : Int) (t : Nat) (f g : Nat → Nat) (m : Nat) : ∀ k k' s, (∀ j, j < m → f (k + j) = g (k' + j)) → run a t f m k s = run a t g m k' s := by
  induction m with
  | zero => intro k k' s h; rfl
  | succ m ih =>
    intro k k' s h
    have h0 := h 0 (by omega)
    rw [Nat.add_zero, Nat.add_zero] at h0
    simp only [run, h0]
    refine ih (k + 1) (k' + 1) _ fun j hj => ?_
    have := h (j + 1) (by omega)
    rwa [show k + (j + 1) = k + 1 + j by omega, show k' + (j + 1) = k' + 1 + j by omega] at this
def fI (nw : Bool) (n k : Nat) : Nat := if nw = true then n - 1 - k else k
def fS (nw : Bool) (t k : Nat) : Nat := if nw = true then t - k else k
theorem fI_lt {nw : Bool} {n k : Nat} (h : k < n) : fI nw n k < n := by
  unfold fI
  split <;> omega
theorem fS_lt {nw : Bool} {n t k : Nat} (h : k ≤ t) (ht : t < n) : fS nw t k < n := by
  unfold fS
  split <;> omega
theorem run_eq (a : Int) (nw : Bool) (n t : Nat) (ht : t < n) (s : List Int × List Int × Int) : run a t (fI nw n) n 0 s = run a t (fS nw t) (t + 1) 0 s := by
  cases nw with
  | false =>
    have e : n = (t + 1) + (n - (t + 1)) := by omega
    rw [show run a t (fI false n) n 0 s = run a t (fI false n) ((t + 1) + (n - (t + 1))) 0 s by rw [← e], run_split, run_skip _ _ _ _ _ _ (fun j h1 h2 => by unfold fI; simp; omega)]
    exact run_shift a t _ _ (t + 1) 0 0 s fun j hj => by unfold fI fS; simp
  | true =>
    have e : n = (n - 1 - t) + (t + 1) := by omega
    rw [show run a t (fI true n) n 0 s = run a t (fI true n) ((n - 1 - t) + (t + 1)) 0 s by rw [← e], run_split, run_skip a t (fI true n) (n - 1 - t) 0 s (fun j h1 h2 => by unfold fI; simp; omega)]
    exact run_shift a t _ _ (t + 1) (0 + (n - 1 - t)) 0 s fun j hj => by unfold fI fS; simp; omega
theorem wsucc {k n : Nat} (h : k ≤ n) (hn : n ≤ 8) : wrap64 ((k : Int) + 1) = ((k + 1 : Nat) : Int) := by
  rw [wid (by omega) (by omega)]
  omega
theorem wrev {N : Int} {n k : Nat} (hN : N = (n : Int)) (h : k < n) (hn : n ≤ 8) : wrap64 (wrap64 (N - 1) - (k : Int)) = ((n - 1 - k : Nat) : Int) := by
  rw [hN, wid (x := (n : Int) - 1) (by omega) (by omega), wid (by omega) (by omega)]
  omega
theorem wdiff {t k : Nat} (h : k ≤ t) (hn : t ≤ 8) : wrap64 ((t : Int) - (k : Int)) = ((t - k : Nat) : Int) := by
  rw [wid (by omega) (by omega)]
  omega
def LenOk (n : Nat) (s : List Int × List Int × Int) : Prop := s.1.length = n ∧ s.2.1.length = n
theorem stq_len {a : Int} {t i n : Nat} {s : List Int × List Int × Int} (h : LenOk n s) : LenOk n (stq a t i s) := by
  unfold stq
  split
  · exact ⟨by simp only [stp, List.length_set]; exact h.1, by simp only [stp, List.length_set]; exact h.2⟩
  · exact h
theorem run_len {a : Int} {t n : Nat} (f : Nat → Nat) (m : Nat) : ∀ k s, LenOk n s → LenOk n (run a t f m k s) := by
  induction m with
  | zero => intro k s h; exact h
  | succ m ih => intro k s h; simp only [run]; exact ih (k + 1) _ (stq_len h)
/-- All rows, period by period. -/
def rowsV (a : Int) (nw : Bool) (m : List Int) (n : Nat) : Nat → Nat → List Int → List (List Int) → List (List Int)
  | 0, _, _, X => X
  | d + 1, t, L, X => rowsV a nw m n d (t + 1) (run a t (fI nw n) n 0 (L, List.replicate n 0, rd m (t : Int))).1 (X ++ [(run a t (fI nw n) n 0 (L, List.replicate n 0, rd m (t : Int))).2.1])
theorem rowsV_in (a : Int) (nw : Bool) (m : List Int) (n : Nat) (d : Nat) : ∀ t L X, L.length = n → (∀ r ∈ X, r.length = n) → (rowsV a nw m n d t L X).length = X.length + d ∧ ∀ r ∈ rowsV a nw m n d t L X, r.length = n := by
  induction d with
  | zero => intro t L X hL hX; exact ⟨rfl, hX⟩
  | succ d ih =>
    intro t L X hL hX
    have h := run_len (a := a) (t := t) (n := n) (fI nw n) n 0 (L, List.replicate n 0, rd m (t : Int)) ⟨hL, List.length_replicate⟩
    simp only [rowsV]
    obtain ⟨h1, h2⟩ := ih (t + 1) _ (X ++ [(run a t (fI nw n) n 0 (L, List.replicate n 0, rd m (t : Int))).2.1]) h.1 (fun r hr => by
      rcases List.mem_append.mp hr with hr | hr
      · exact hX r hr
      · rw [List.mem_singleton.mp hr]; exact h.2)
    exact ⟨by rw [h1]; simp; omega, h2⟩
section
variable {a : Int} {l m : List Int} {b c : Int} {n : Nat} (ha1 : 1 ≤ a) (ha8 : a ≤ 8) (hm : m.length = n) (hn : n ≤ 8)
include ha1 ha8 hm hn
theorem impl_l1 (nw : Bool) (t : Nat) (ht : t < n) {X : List (List Int)} (hX : X.length = t) {R : List (List Int)} (d : Nat) : ∀ (k : Nat) (s : List Int × List Int × Int), k + d = n → LenOk n s →
    (∀ s', s' = run a t (fI nw n) d k s → Ev (fun K => impl_Shelf_issued.l0 K nw s'.1 (X ++ [s'.2.1]) m (n : Int) ((t + 1 : Nat) : Int) a l m b c) R) → Ev (fun K => impl_Shelf_issued.l1 K nw s.1 X (t : Int) s.2.2 s.2.1 m (n : Int) (t : Int) (n : Int) (k : Int) a l m b c) R := by
  induction d with
  | zero =>
    intro k s hk hs hc
    refine ev_succ ?_
    simp only [impl_Shelf_issued.l1]
    rw [wsucc (Nat.le_of_lt ht) hn]
    exact ev_neg (by omega) (ev_pos (by omega) (hc s rfl))
  | succ d ih =>
    intro k s hk hs hc
    obtain ⟨L, Rw, nd⟩ := s
    have hL : L.length = n := hs.1
    have hR : Rw.length = n := hs.2
    have hkn : k ≤ n := by omega
    simp only [run] at hc
    have q := ih (k + 1) (stq a t (fI nw n k) (L, Rw, nd)) (by omega) (stq_len hs) hc
    have hf : fI nw n k < n := fI_lt (by omega)
    have ce := can_eq (a := a) (fr := ((fI nw n k : Nat) : Int)) (t := (t : Int)) l m b c ha1 ha8 (by omega) (by omega)
    have f1 : ((fI nw n k : Nat) : Int) < (L.length : Int) := by omega
    have f2 : ((fI nw n k : Nat) : Int) < (Rw.length : Int) := by omega
    have f0 : 0 ≤ ((fI nw n k : Nat) : Int) := by omega
    refine ev_succ ?_
    simp only [impl_Shelf_issued.l1]
    have hkl : k < n := by omega
    rw [wsucc hkn hn, wrev (by rw [hR]) hkl hn]
    refine ev_pos (by omega) ?_
    cases nw with
    | true =>
      have ef : fI true n k = n - 1 - k := by simp [fI]
      rw [ef] at q ce f1 f2 f0
      refine ev_pos rfl ?_
      rw [ce]
      simp only [Option.bind_some]
      by_cases cb : canB a ((n - 1 - k : Nat) : Int) (t : Int) = true
      · unfold stq at q
        rw [if_pos cb] at q
        exact ev_pos cb (ev_pos f0 (ev_pos f1 (ev_pos f2 q)))
      · unfold stq at q
        rw [if_neg cb] at q
        exact ev_neg cb q
    | false =>
      have ef : fI false n k = k := by simp [fI]
      rw [ef] at q ce f1 f2 f0
      refine ev_neg (by simp) ?_
      rw [ce]
      simp only [Option.bind_some]
      by_cases cb : canB a ((k : Nat) : Int) (t : Int) = true
      · unfold stq at q
        rw [if_pos cb] at q
        exact ev_pos cb (ev_pos f0 (ev_pos f1 (ev_pos f2 q)))
      · unfold stq at q
        rw [if_neg cb] at q
        exact ev_neg cb q
theorem impl_l0 (nw : Bool) (d : Nat) : ∀ (t : Nat) (L : List Int) (X : List (List Int)), t + d = n → L.length = n → X.length = t → Ev (fun K => impl_Shelf_issued.l0 K nw L X m (n : Int) (t : Int) a l m b c) (rowsV a nw m n d t L X) := by
  induction d with
  | zero =>
    intro t L X ht hL hX
    refine ev_succ ?_
    simp only [impl_Shelf_issued.l0, rowsV]
    exact ev_neg (by omega) (ev_some _)
  | succ d ih =>
    intro t L X ht hL hX
    have hs : LenOk n (L, List.replicate n (0 : Int), rd m (t : Int)) := ⟨hL, List.length_replicate⟩
    have q := impl_l1 (l := l) (b := b) (c := c) ha1 ha8 hm hn nw t (by omega) hX (R := rowsV a nw m n (d + 1) t L X) n 0 _ (by omega) hs (fun s' e => by
      have hl := run_len (a := a) (t := t) (fI nw n) n 0 _ hs
      rw [← e] at hl
      simp only [rowsV]
      rw [← e]
      exact ih (t + 1) s'.1 (X ++ [s'.2.1]) (by omega) hl.1 (by simp; exact hX))
    refine ev_succ ?_
    simp only [impl_Shelf_issued.l0, Option.bind_some]
    rw [hm, Int.toNat_natCast, List.length_replicate]
    exact ev_pos (by omega) (ev_pos (by omega) (ev_pos (by omega) (ev_pos (by omega) (ev_pos (by omega) q))))
theorem spec_l1 (nw : Bool) (t : Nat) (ht : t < n) {X : List (List Int)} (hX : X.length = t) {R : List (List Int)} (d : Nat) : ∀ (k : Nat) (s : List Int × List Int × Int), k + d = t + 1 → LenOk n s →
    (∀ s', s' = run a t (fS nw t) d k s → Ev (fun K => spec_l9Make.l0 K nw (n : Int) s'.1 (X ++ [s'.2.1]) ((t + 1 : Nat) : Int) a l m b c) R) → Ev (fun K => spec_l9Make.l1 K nw (n : Int) s.1 X (t : Int) s.2.1 s.2.2 (k : Int) a l m b c) R := by
  induction d with
  | zero =>
    intro k s hk hs hc
    refine ev_succ ?_
    simp only [spec_l9Make.l1]
    rw [wsucc (Nat.le_of_lt ht) hn]
    exact ev_neg (by omega) (ev_pos (by omega) (hc s rfl))
  | succ d ih =>
    intro k s hk hs hc
    obtain ⟨L, Rw, nd⟩ := s
    have hL : L.length = n := hs.1
    have hR : Rw.length = n := hs.2
    have hkn : k ≤ n := by omega
    simp only [run] at hc
    have q := ih (k + 1) (stq a t (fS nw t k) (L, Rw, nd)) (by omega) (stq_len hs) hc
    have hf : fS nw t k < n := fS_lt (by omega) ht
    have ce := usable_eq (a := a) (fr := ((fS nw t k : Nat) : Int)) (t := (t : Int)) l m b c ha1 ha8 (by omega) (by omega)
    have f1 : ((fS nw t k : Nat) : Int) < (L.length : Int) := by omega
    have f2 : ((fS nw t k : Nat) : Int) < (Rw.length : Int) := by omega
    have f0 : 0 ≤ ((fS nw t k : Nat) : Int) := by omega
    have hj : Ev (fun K => spec_l9Make.j2 K nw (n : Int) L X (t : Int) Rw nd (k : Int) ((fS nw t k : Nat) : Int) a l m b c) R := by
      refine ev_succ ?_
      simp only [spec_l9Make.j2]
      rw [wsucc hkn hn, ce]
      simp only [Option.bind_some, spec_l1Least.f]
      unfold stq at q
      by_cases cb : canB a ((fS nw t k : Nat) : Int) (t : Int) = true
      · rw [if_pos cb] at q
        refine ev_pos cb (ev_pos f0 (ev_pos f1 ?_))
        unfold stp at q
        simp only at q
        by_cases cl : nd < rd L ((fS nw t k : Nat) : Int)
        · rw [if_pos cl] at q
          rw [if_pos cl]
          exact ev_pos f2 q
        · rw [if_neg cl] at q
          rw [if_neg cl]
          exact ev_pos f2 q
      · rw [if_neg cb] at q
        exact ev_neg cb q
    refine ev_succ ?_
    simp only [spec_l9Make.l1]
    have hkl : k ≤ t := by omega
    rw [wdiff hkl (Nat.le_trans (Nat.le_of_lt ht) hn)]
    refine ev_pos (by omega) ?_
    cases nw with
    | true =>
      have ef : fS true t k = t - k := by simp [fS]
      rw [ef] at hj
      exact ev_pos rfl hj
    | false =>
      have ef : fS false t k = k := by simp [fS]
      rw [ef] at hj
      exact ev_neg (by simp) hj
theorem spec_l0 (nw : Bool) (d : Nat) : ∀ (t : Nat) (L : List Int) (X : List (List Int)), t + d = n → L.length = n → X.length = t → Ev (fun K => spec_l9Make.l0 K nw (n : Int) L X (t : Int) a l m b c) (rowsV a nw m n d t L X) := by
  induction d with
  | zero =>
    intro t L X ht hL hX
    refine ev_succ ?_
    simp only [spec_l9Make.l0, rowsV]
    exact ev_neg (by omega) (ev_some _)
  | succ d ih =>
    intro t L X ht hL hX
    have hs : LenOk n (L, List.replicate n (0 : Int), rd m (t : Int)) := ⟨hL, List.length_replicate⟩
    have q := spec_l1 (l := l) (b := b) (c := c) ha1 ha8 hm hn nw t (by omega) hX (R := rowsV a nw m n (d + 1) t L X) (t + 1) 0 _ (by omega) hs (fun s' e => by
      rw [← run_eq a nw n t (by omega)] at e
      have hl := run_len (a := a) (t := t) (fI nw n) n 0 _ hs
      rw [← e] at hl
      simp only [rowsV]
      rw [← e]
      exact ih (t + 1) s'.1 (X ++ [s'.2.1]) (by omega) hl.1 (by simp; exact hX))
    refine ev_succ ?_
    simp only [spec_l9Make.l0]
    rw [Int.toNat_natCast]
    exact ev_pos (by omega) (ev_pos (by omega) (ev_pos (by omega) (ev_pos (by omega) (ev_pos (by omega) q))))
end
theorem specMake_ev {a : Int} {l m : List Int} {b c : Int} (nw : Bool) (h : ShelfOk a l m b c) : Ev (fun k => spec_l9Make.f k a l m b c nw) (rowsV a nw m m.length m.length 0 l []) := by
  have h8 := h.2.1
  have h9 := h.2.2.1
  unfold spec_l9Make.f
  have hc : spec_l1Own.f l = some l := by
    unfold spec_l1Own.f
    simp only [Option.bind_some, List.nil_append, List.length_nil]
    rw [if_pos (by omega)]
  rw [hc]
  simp only [Option.bind_some]
  exact spec_l0 h.1.1 h.1.2 rfl (by omega) nw m.length 0 l [] (by omega) (by omega) rfl
theorem implMake_ev {a : Int} {l m : List Int} {b c : Int} (nw : Bool) (h : ShelfOk a l m b c) : Ev (fun k => impl_Shelf_issued.f k a l m b c nw) (rowsV a nw m m.length m.length 0 l []) := by
  have h8 := h.2.1
  have h9 := h.2.2.1
  unfold impl_Shelf_issued.f
  have hc : impl_copied.f l = some l := by
    unfold impl_copied.f
    simp only [Option.bind_some, List.nil_append, List.length_nil]
    rw [if_pos (by omega)]
  rw [hc]
  simp only [Option.bind_some]
  exact impl_l0 h.1.1 h.1.2 rfl (by omega) nw m.length 0 l [] (by omega) (by omega) rfl

def ans (a : Int) (l m : List Int) (b c : Int) : List (List Int) × Bool := if ShelfOk a l m b c then (rowsV a true m m.length m.length 0 l [], true) else ([], false)
theorem ans_in (a : Int) (l m : List Int) (b c : Int) : (ans a l m b c).1.length ≤ 1048576 ∧ ∀ r ∈ (ans a l m b c).1, r.length ≤ 1048576 := by
  unfold ans
  by_cases h : ShelfOk a l m b c
  · rw [if_pos h]
    have h8 := h.2.1
    have h9 := h.2.2.1
    obtain ⟨h1, h2⟩ := rowsV_in a true m m.length m.length 0 l [] (by omega) (by simp)
    simp only [List.length_nil] at h1
    refine ⟨by show (rowsV a true m m.length m.length 0 l []).length ≤ 1048576; omega, fun r hr => ?_⟩
    have := h2 r hr
    omega
  · rw [if_neg h]
    simp
theorem spec_ans (a : Int) (l m : List Int) (b c : Int) (hl : l.length ≤ 35184372088832) (hm : m.length ≤ 35184372088832) : Ev (fun k => spec_NewestFirst.f k a l m b c) (ans a l m b c) := by
  unfold spec_NewestFirst.f ans
  refine ev_bind (specShelf_ev a l m b c hl hm) ?_
  by_cases h : ShelfOk a l m b c
  · rw [if_pos h]
    exact ev_pos (decide_eq_true h) (ev_bind (specMake_ev true h) (ev_some _))
  · rw [if_neg h]
    exact ev_neg (by rw [decide_eq_true_eq]; exact h) (ev_some _)
theorem impl_ans (a : Int) (l m : List Int) (b c : Int) (hl : l.length ≤ 35184372088832) (hm : m.length ≤ 35184372088832) : Ev (fun k => impl_NewestFirst.f k a l m b c) (ans a l m b c) := by
  unfold impl_NewestFirst.f ans
  refine ev_bind (implShelf_ev a l m b c hl hm) ?_
  by_cases h : ShelfOk a l m b c
  · rw [if_pos h]
    exact ev_pos (decide_eq_true h) (ev_bind (implMake_ev true h) (ev_some _))
  · rw [if_neg h]
    exact ev_neg (by rw [decide_eq_true_eq]; exact h) (ev_some _)
theorem FnExactNewestFirst (a0_0 : Int) (l0_1 : List Int) (l0_2 : List Int) (a0_3 : Int) (a0_4 : Int) (hw0_0 : (Lit.int .i64 a0_0).wf = true) (hl0_1 : l0_1.length ≤ maxLen) (hw0_1 : ∀ x ∈ l0_1, (Lit.int .i64 x).wf = true) (hl0_2 : l0_2.length ≤ maxLen) (hw0_2 : ∀ x ∈ l0_2, (Lit.int .i64 x).wf = true) (hw0_3 : (Lit.int .i64 a0_3).wf = true) (hw0_4 : (Lit.int .i64 a0_4).wf = true) :
    ∃ k, laws_FnExactNewestFirst.f k a0_0 l0_1 l0_2 a0_3 a0_4 = some true := by
  refine Ev.rounds ?_
  unfold laws_FnExactNewestFirst.f
  obtain ⟨r, hr, hz⟩ := szShelf_eq a0_0 l0_1 l0_2 a0_3 a0_4 1048576 (by omega) (by omega) hl0_1 hl0_2
  simp only [hr, Option.bind_some]
  by_cases c : r < 0
  · exact ev_pos c (ev_some _)
  have hz := hz (by omega)
  have h1 : l0_1.length ≤ 35184372088832 := by omega
  have h2 : l0_2.length ≤ 35184372088832 := by omega
  have hto := toShelf_ev a0_0 l0_1 l0_2 a0_3 a0_4 h1 h2
  have hS := spec_ans a0_0 l0_1 l0_2 a0_3 a0_4 h1 h2
  have hI := impl_ans a0_0 l0_1 l0_2 a0_3 a0_4 h1 h2
  have hL := ans_in a0_0 l0_1 l0_2 a0_3 a0_4
  generalize ans a0_0 l0_1 l0_2 a0_3 a0_4 = A at hS hI hL
  obtain ⟨g, o⟩ := A
  simp only at hL
  have hE := eqIntSS_ev g hL.1 hL.2
  have hm : Ev (fun k => laws_markShelf.f k a0_0 l0_1 l0_2 a0_3 a0_4 1) (1 + (l0_1.length : Int) + (l0_2.length : Int), asc 1 l0_1.length, asc (1 + (l0_1.length : Int)) l0_2.length) := by
    unfold laws_markShelf.f
    exact ev_bind (mark_ev l0_1 1 (by omega) h1 (by omega)) (ev_bind (mark_ev l0_2 _ (by omega) h2 (by omega)) (ev_some _))
  have hm2 := markSS_ev g 1 hL.1 hL.2 (by omega) (by omega)
  have hh := heldSS_ev g hL.1 hL.2
  have t2 := tot_in g hL.2
  have g1 : ¬ (1 + (l0_1.length : Int) + (l0_2.length : Int) < 0) := by omega
  have g2 : ¬ (1 + tot g < 0) := by omega
  refine ev_neg c (ev_bind hto (ev_bind hS (ev_bind hto (ev_bind hI (ev_bind hE (ev_pos rfl (ev_neg (by simp) ?_)))))))
  refine ev_bind hto (ev_bind (eqShelf_ev a0_0 l0_1 l0_2 a0_3 a0_4 h1 h2) (ev_pos rfl (ev_bind hm (ev_neg g1 (ev_bind hE (ev_pos rfl (ev_bind hm2 (ev_bind hh (ev_neg g2 (ev_pos rfl ?_))))))))))
  exact ev_bind hto (ev_bind hI (ev_bind hE (ev_pos rfl (ev_neg (by simp) (ev_bind hh (ev_neg g2 (ev_pos rfl (ev_some _))))))))

end Go.Proofs.Yteajhicfehicjaa.Pure
