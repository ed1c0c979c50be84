/- The program's TextOfPolicy joins the words of the pairs, each number's text from the library; the reference builds the same text by itself. Levels lie between -10 and 10. No conditions. -/
import Derived.Test.YtdjhbjkegicpcaaDoorKit
import Derived.Lib.ItoaLen
import Derived.Test.YtdjhbjkegicpcaaDoorXFnExactTextOfPolicyx10
namespace Go.Proofs.YtdjhbjkegicpcaaDoor.Pure
set_option linter.unusedVariables false
open Go.RowKit Go.Proofs.YtdjhbjkegicpcaaDoor.PFnExactTextOfPolicy Go.Proofs.YtdjhbjkegicpcaaDoorW.PrintWords Go.Proofs.YtdjhbjkegicpcaaDoorW.PrintLast Go.Proofs.YtdjhbjkegicpcaaDoor.Kit

theorem in_eq (a b c : Int) : spec_l1In.f a b c = some (decide (b ≤ a ∧ a ≤ c)) := by
  unfold spec_l1In.f
  by_cases h : b ≤ a <;> simp [h]
theorem within_eq (a b c : Int) : impl_within.f a b c = some (decide (b ≤ a ∧ a ≤ c)) := by
  unfold impl_within.f
  by_cases h : b ≤ a <;> simp [h]
theorem toIntS_l0 (xs : List Int) (hn : xs.length ≤ 35184372088832) (d : Nat) : ∀ (i : Nat) (ys : List Int), i + d = xs.length → ys.length = xs.length → ys.take i = xs.take i →
    Ev (fun k => laws_toIntS.l0 k xs ys (i : Int)) xs := by
  induction d with
  | zero =>
    intro i ys hi hl ht
    refine ev_succ ?_
    simp only [laws_toIntS.l0]
    refine ev_neg (by omega) ?_
    rw [List.take_of_length_le (by omega), List.take_of_length_le (by omega)] at ht
    rw [ht]
    exact ev_some _
  | succ d ih =>
    intro i ys hi hl ht
    refine ev_succ ?_
    simp only [laws_toIntS.l0]
    refine ev_pos (by omega) (ev_pos (by omega) (ev_pos (by omega) ?_))
    have hw : wrap64 ((i : Int) + 1) = ((i + 1 : Nat) : Int) := by rw [wid (by omega) (by omega)]; omega
    rw [hw]
    refine ih (i + 1) _ (by omega) (by simpa using hl) ?_
    rw [rd_nat xs i (by omega), Int.toNat_natCast, List.take_succ_eq_append_getElem (by simp; omega), List.take_succ_eq_append_getElem (by omega), List.getElem_set_self, List.take_set_of_le (by omega), ht]
theorem toIntS_ev (xs : List Int) (hn : xs.length ≤ 35184372088832) : Ev (fun k => laws_toIntS.f k xs) xs := by
  unfold laws_toIntS.f
  refine ev_pos (by omega) (ev_pos (by omega) ?_)
  exact toIntS_l0 xs hn xs.length 0 _ (by omega) (by simp) rfl
theorem eqIntS_l0 (xs ys : List Int) (hn : xs.length ≤ 35184372088832) (hl : ys.length = xs.length) (d : Nat) : ∀ (i : Nat), i + d = xs.length →
    Ev (fun k => laws_eqIntS.l0 k xs ys (i : Int)) (decide (xs.drop i = ys.drop i)) := by
  induction d with
  | zero =>
    intro i hi
    refine ev_succ ?_
    simp only [laws_eqIntS.l0]
    refine ev_neg (by omega) ?_
    rw [List.drop_of_length_le (by omega), List.drop_of_length_le (by omega)]
    exact ev_some _
  | succ d ih =>
    intro i hi
    refine ev_succ ?_
    simp only [laws_eqIntS.l0]
    refine ev_pos (by omega) (ev_pos (by omega) (ev_pos (by omega) ?_))
    have hw : wrap64 ((i : Int) + 1) = ((i + 1 : Nat) : Int) := by rw [wid (by omega) (by omega)]; omega
    rw [hw, drop_rd xs i (by omega), drop_rd ys i (by omega)]
    by_cases h : rd xs i = rd ys i
    · refine ev_pos h (ev_cast (ih (i + 1) (by omega)) ?_)
      simp [h]
    · refine ev_neg h (ev_cast (ev_some false) ?_)
      simp [h]
theorem eqIntS_ev (xs ys : List Int) (hn : xs.length ≤ 35184372088832) : Ev (fun k => laws_eqIntS.f k xs ys) (decide (xs = ys)) := by
  unfold laws_eqIntS.f
  by_cases h : xs.length = ys.length
  · refine ev_pos (by omega) (ev_cast (eqIntS_l0 xs ys hn h.symm xs.length 0 (by omega)) (by simp))
  · refine ev_neg (by omega) (ev_cast (ev_some false) ?_)
    have : xs ≠ ys := fun e => h (by rw [e])
    simp [this]
theorem allWithin_l0 (lo up : Int) (xs : List Int) (hn : xs.length ≤ 35184372088832) (d : Nat) : ∀ (i : Nat), i + d = xs.length →
    Ev (fun k => impl_allWithin.l0 k lo up xs (xs.length : Int) (i : Int)) (decide (∀ x ∈ xs.drop i, lo ≤ x ∧ x ≤ up)) := by
  induction d with
  | zero =>
    intro i hi
    refine ev_succ ?_
    simp only [impl_allWithin.l0]
    refine ev_neg (by omega) ?_
    rw [List.drop_of_length_le (by omega)]
    exact ev_cast (ev_some true) (by simp)
  | succ d ih =>
    intro i hi
    refine ev_succ ?_
    simp only [impl_allWithin.l0, within_eq, Option.bind_some]
    refine ev_pos (by omega) (ev_pos (by omega) (ev_pos (by omega) ?_))
    have hw : wrap64 ((i : Int) + 1) = ((i + 1 : Nat) : Int) := by rw [wid (by omega) (by omega)]; omega
    rw [hw, drop_rd xs i (by omega)]
    by_cases h : lo ≤ rd xs i ∧ rd xs i ≤ up
    · refine ev_pos (by simpa using h) (ev_cast (ih (i + 1) (by omega)) ?_)
      simp [h]
    · refine ev_neg (by simpa using h) (ev_cast (ev_some false) ?_)
      symm
      simp only [decide_eq_false_iff_not, List.mem_cons]
      exact fun hh => h (hh _ (Or.inl rfl))
theorem allWithin_ev (xs : List Int) (lo hi : Int) (hn : xs.length ≤ 35184372088832) : Ev (fun k => impl_allWithin.f k xs lo hi) (decide (∀ x ∈ xs, lo ≤ x ∧ x ≤ hi)) := by
  unfold impl_allWithin.f
  exact allWithin_l0 lo hi xs hn xs.length 0 (by omega)
theorem l2Row_l0 (n up : Int) (xs : List Int) (hn : xs.length ≤ 35184372088832) (d : Nat) : ∀ (i : Nat), i + d = xs.length →
    Ev (fun k => spec_l2Row.l0 k xs n up (i : Int)) (decide ((∀ x ∈ xs.drop i, 0 ≤ x ∧ x ≤ up) ∧ (xs.length : Int) = n)) := by
  induction d with
  | zero =>
    intro i hi
    refine ev_succ ?_
    simp only [spec_l2Row.l0]
    refine ev_neg (by omega) ?_
    rw [List.drop_of_length_le (by omega)]
    refine ev_cast (ev_some _) ?_
    rw [Bool.eq_iff_iff]
    simp
  | succ d ih =>
    intro i hi
    refine ev_succ ?_
    simp only [spec_l2Row.l0, in_eq, Option.bind_some]
    refine ev_pos (by omega) (ev_pos (by omega) ?_)
    have hw : wrap64 ((i : Int) + 1) = ((i + 1 : Nat) : Int) := by rw [wid (by omega) (by omega)]; omega
    rw [hw, drop_rd xs i (by omega)]
    by_cases h : 0 ≤ rd xs i ∧ rd xs i ≤ up
    · refine ev_pos (by simpa using h) (ev_cast (ih (i + 1) (by omega)) ?_)
      simp [h]
    · refine ev_neg (by simpa using h) (ev_cast (ev_some false) ?_)
      symm
      simp only [decide_eq_false_iff_not, List.mem_cons]
      exact fun hh => h (hh.1 _ (Or.inl rfl))
theorem l2Row_ev (xs : List Int) (n up : Int) (hn : xs.length ≤ 35184372088832) : Ev (fun k => spec_l2Row.f k xs n up) (decide ((∀ x ∈ xs, 0 ≤ x ∧ x ≤ up) ∧ (xs.length : Int) = n)) := by
  unfold spec_l2Row.f
  exact l2Row_l0 n up xs hn xs.length 0 (by omega)
theorem l2Sum_l0 (xs : List Int) (hn : xs.length ≤ 35184372088832) (hs : ∀ i, -9223372036854775808 ≤ (xs.take i).sum ∧ (xs.take i).sum ≤ 9223372036854775807) (d : Nat) : ∀ (i : Nat), i + d = xs.length →
    Ev (fun k => spec_l2Sum.l0 k xs (xs.take i).sum (i : Int)) xs.sum := by
  induction d with
  | zero =>
    intro i hi
    refine ev_succ ?_
    simp only [spec_l2Sum.l0]
    refine ev_neg (by omega) ?_
    rw [List.take_of_length_le (by omega)]
    exact ev_some _
  | succ d ih =>
    intro i hi
    refine ev_succ ?_
    simp only [spec_l2Sum.l0]
    refine ev_pos (by omega) (ev_pos (by omega) ?_)
    have hw : wrap64 ((i : Int) + 1) = ((i + 1 : Nat) : Int) := by rw [wid (by omega) (by omega)]; omega
    have ht := take_sum_succ xs i (by omega)
    rw [hw, ht, wid (hs _).1 (hs _).2]
    exact ih (i + 1) (by omega)
theorem l2Sum_ev (xs : List Int) (hn : xs.length ≤ 35184372088832) (hs : ∀ i, -9223372036854775808 ≤ (xs.take i).sum ∧ (xs.take i).sum ≤ 9223372036854775807) : Ev (fun k => spec_l2Sum.f k xs) xs.sum := by
  unfold spec_l2Sum.f
  exact l2Sum_l0 xs hn hs xs.length 0 (by omega)
theorem total_l0 (xs : List Int) (hn : xs.length ≤ 35184372088832) (hs : ∀ i, -9223372036854775808 ≤ (xs.take i).sum ∧ (xs.take i).sum ≤ 9223372036854775807) (d : Nat) : ∀ (i : Nat), i + d = xs.length →
    Ev (fun k => impl_total.l0 k (xs.take i).sum xs (xs.length : Int) (i : Int)) xs.sum := by
  induction d with
  | zero =>
    intro i hi
    refine ev_succ ?_
    simp only [impl_total.l0]
    refine ev_neg (by omega) ?_
    rw [List.take_of_length_le (by omega)]
    exact ev_some _
  | succ d ih =>
    intro i hi
    refine ev_succ ?_
    simp only [impl_total.l0]
    refine ev_pos (by omega) (ev_pos (by omega) (ev_pos (by omega) ?_))
    have hw : wrap64 ((i : Int) + 1) = ((i + 1 : Nat) : Int) := by rw [wid (by omega) (by omega)]; omega
    have ht := take_sum_succ xs i (by omega)
    rw [hw, ht, wid (hs _).1 (hs _).2]
    exact ih (i + 1) (by omega)
theorem total_ev (xs : List Int) (hn : xs.length ≤ 35184372088832) (hs : ∀ i, -9223372036854775808 ≤ (xs.take i).sum ∧ (xs.take i).sum ≤ 9223372036854775807) : Ev (fun k => impl_total.f k xs) xs.sum := by
  unfold impl_total.f
  exact total_l0 xs hn hs xs.length 0 (by omega)
theorem szIntS_eq (xs : List Int) (a : Int) (h0 : 0 ≤ a) (h1 : a ≤ 1048576) (hl : xs.length ≤ maxLen) : laws_szIntS.f xs a = some (if a - (xs.length : Int) < 0 then -1 else a - (xs.length : Int)) := by
  unfold maxLen at hl
  unfold laws_szIntS.f
  rw [wid (by omega) (by omega)]
  split <;> rfl
theorem szProcess_eq (a : Int) (l : List Int) (b c d e : Int) (n : Int) (h0 : 0 ≤ n) (h1 : n ≤ 1048576) (hl : l.length ≤ maxLen) :
    ∃ r, laws_szProcess.f a l b c d e n = some r ∧ (0 ≤ r → r = n - l.length) := by
  unfold laws_szProcess.f
  rw [szIntS_eq l n h0 h1 hl]
  simp only [Option.bind_some]
  by_cases c1 : n - (l.length : Int) < 0
  · rw [if_pos c1, if_pos (by omega)]
    exact ⟨_, rfl, by omega⟩
  · rw [if_neg c1, if_neg c1]
    exact ⟨_, rfl, fun _ => rfl⟩
theorem toProcess_ev (a : Int) (l : List Int) (b c d e : Int) (hl : l.length ≤ 35184372088832) : Ev (fun k => laws_toProcess.f k a l b c d e) (a, l, b, c, d, e) := by
  unfold laws_toProcess.f
  exact ev_bind (toIntS_ev l hl) (ev_some _)
theorem eqProcess_ev (a : Int) (l : List Int) (b c d e : Int) (hl : l.length ≤ 35184372088832) : Ev (fun k => laws_eqProcess.f k a l b c d e a l b c d e) true := by
  unfold laws_eqProcess.f
  exact ev_pos rfl (ev_bind (eqIntS_ev l l hl) (ev_pos (by simp) (ev_pos rfl (ev_pos rfl (ev_pos rfl (ev_pos rfl (ev_some _)))))))

/-- What a valid process is. -/
def ProcOk (a : Int) (l : List Int) (b c d e : Int) : Prop :=
  (0 ≤ a ∧ a ≤ 5) ∧ (1 ≤ (l.length : Int) ∧ (l.length : Int) ≤ 5) ∧ (∀ x ∈ l, 0 ≤ x ∧ x ≤ 4) ∧ l.sum > 0 ∧ (0 ≤ b ∧ b ≤ 99) ∧ (0 ≤ c ∧ c ≤ 9) ∧ (0 ≤ d ∧ d ≤ 9) ∧ (0 ≤ e ∧ e ≤ 9)
instance (a : Int) (l : List Int) (b c d e : Int) : Decidable (ProcOk a l b c d e) := by unfold ProcOk; infer_instance
theorem implProcess_ev (a : Int) (l : List Int) (b c d e : Int) (hl : l.length ≤ 35184372088832) : Ev (fun k => impl_IsProcess.f k a l b c d e) (decide (ProcOk a l b c d e)) := by
  unfold impl_IsProcess.f ProcOk
  simp only [within_eq, Option.bind_some]
  refine ev_and rfl fun _ => ev_and rfl fun h2 => ev_bind (allWithin_ev l 0 4 hl) (ev_and rfl fun h3 => ev_bind (total_ev l hl (take_sum64 (by omega) (by omega) h3 (by omega))) (ev_andp fun _ => ev_and rfl fun _ => ?_))
  refine ev_dec (ev_bind (allWithin_ev [c, d, e] 0 9 (by simp)) (ev_some _)) ?_
  simp [List.mem_cons]
theorem specProcess_ev (a : Int) (l : List Int) (b c d e : Int) (hl : l.length ≤ 35184372088832) : Ev (fun k => spec_l6Good.f k a l b c d e) (decide (ProcOk a l b c d e)) := by
  unfold spec_l6Good.f ProcOk
  simp only [in_eq, Option.bind_some]
  refine ev_and rfl fun _ => ev_and rfl fun h2 => ev_dec (P := ((∀ x ∈ l, 0 ≤ x ∧ x ≤ 4) ∧ (l.length : Int) = l.length) ∧ l.sum > 0 ∧ (0 ≤ b ∧ b ≤ 99) ∧ (0 ≤ c ∧ c ≤ 9) ∧ (0 ≤ d ∧ d ≤ 9) ∧ (0 ≤ e ∧ e ≤ 9)) ?_ (by simp)
  exact ev_bind (l2Row_ev l _ 4 hl) (ev_and rfl fun h3 => ev_bind (l2Sum_ev l hl (take_sum64 (by omega) (by omega) h3.1 (by omega))) (ev_andp fun _ => ev_and rfl fun _ => ev_and rfl fun _ => ev_and rfl fun _ => ev_some _))
theorem rdp_nat (xs : List S40) (i : Nat) (h : i < xs.length) : rd_T40 xs (i : Int) = xs[i] := by
  unfold rd_T40
  simp [List.getD_eq_getElem?_getD, h]
theorem drop_rdp (xs : List S40) (i : Nat) (h : i < xs.length) : xs.drop i = rd_T40 xs (i : Int) :: xs.drop (i + 1) := by
  rw [rdp_nat xs i h]
  exact List.drop_eq_getElem_cons h
theorem toPairs_l0 (xs : List S40) (hn : xs.length ≤ 1048576) (d : Nat) : ∀ (i : Nat) (ys : List S40), i + d = xs.length → ys.length = xs.length → ys.take i = xs.take i →
    Ev (fun k => laws_toIntA2S.l0 k xs ys (i : Int)) xs := by
  induction d with
  | zero =>
    intro i ys hi hl ht
    refine ev_succ ?_
    simp only [laws_toIntA2S.l0]
    refine ev_neg (by omega) ?_
    rw [List.take_of_length_le (by omega), List.take_of_length_le (by omega)] at ht
    rw [ht]
    exact ev_some _
  | succ d ih =>
    intro i ys hi hl ht
    refine ev_succ ?_
    simp only [laws_toIntA2S.l0, laws_toIntA2.f, Option.bind_some]
    refine ev_pos (by omega) (ev_pos (by omega) (ev_pos (by omega) ?_))
    have hw : wrap64 ((i : Int) + 1) = ((i + 1 : Nat) : Int) := by rw [wid (by omega) (by omega)]; omega
    rw [hw]
    refine ih (i + 1) _ (by omega) (by simpa using hl) ?_
    rw [rdp_nat xs i (by omega), Int.toNat_natCast, List.take_succ_eq_append_getElem (by simp; omega), List.take_succ_eq_append_getElem (by omega), List.getElem_set_self, List.take_set_of_le (by omega), ht]
theorem toPairs_ev (xs : List S40) (hn : xs.length ≤ 1048576) : Ev (fun k => laws_toIntA2S.f k xs) xs := by
  unfold laws_toIntA2S.f
  refine ev_pos (by omega) (ev_pos (by omega) ?_)
  exact toPairs_l0 xs hn xs.length 0 _ (by omega) (by simp) rfl
theorem eqPairs_l0 (xs : List S40) (hn : xs.length ≤ 1048576) (d : Nat) : ∀ (i : Nat), i + d = xs.length → Ev (fun k => laws_eqIntA2S.l0 k xs xs (i : Int)) true := by
  induction d with
  | zero =>
    intro i hi
    refine ev_succ ?_
    simp only [laws_eqIntA2S.l0]
    exact ev_neg (by omega) (ev_some _)
  | succ d ih =>
    intro i hi
    refine ev_succ ?_
    simp only [laws_eqIntA2S.l0, laws_eqIntA2.f, if_true, Option.bind_some, beq_self_eq_true]
    have hw : wrap64 ((i : Int) + 1) = ((i + 1 : Nat) : Int) := by rw [wid (by omega) (by omega)]; omega
    rw [hw]
    exact ev_pos (by omega) (ev_pos (by omega) (ev_pos (by omega) (ih (i + 1) (by omega))))
theorem eqPairs_ev (xs : List S40) (hn : xs.length ≤ 1048576) : Ev (fun k => laws_eqIntA2S.f k xs xs) true := by
  unfold laws_eqIntA2S.f
  exact ev_pos rfl (eqPairs_l0 xs hn xs.length 0 (by omega))
theorem szPairs_eq (xs : List S40) (a : Int) (h0 : 0 ≤ a) (h1 : a ≤ 1048576) (hl : xs.length ≤ maxLen) : laws_szIntA2S.f xs a = some (if a - (xs.length : Int) < 0 then -1 else a - (xs.length : Int)) := by
  unfold maxLen at hl
  unfold laws_szIntA2S.f
  rw [wid (by omega) (by omega)]
  split <;> rfl
/-- A pair of levels of a policy with a floor. -/
def LevOk (f : Int) (x : S40) : Prop := (-10 ≤ x.f0 ∧ x.f0 ≤ 10) ∧ (-10 ≤ x.f1 ∧ x.f1 ≤ 10) ∧ ¬ x.f0 > x.f1 ∧ ¬ x.f1 < f
instance (f : Int) (x : S40) : Decidable (LevOk f x) := by unfold LevOk; infer_instance
def floorOf (l : List Int) : Int := wrap64 (wrap64 ((l.length : Int) - 1) - 10)
def PolOk (a : Int) (l : List Int) (xs : List S40) : Prop := (xs.length : Int) = a ∧ ∀ x ∈ xs, LevOk (floorOf l) x
instance (a : Int) (l : List Int) (xs : List S40) : Decidable (PolOk a l xs) := by unfold PolOk; infer_instance
theorem specPol_l0 (a : Int) (l : List Int) (b c d e : Int) (xs : List S40) (hn : xs.length ≤ 1048576) (m : Nat) : ∀ i : Nat, i + m = xs.length →
    Ev (fun k => spec_l6Policy.l0 k xs (i : Int) a l b c d e) (decide ((xs.length : Int) = a ∧ ∀ x ∈ xs.drop i, LevOk (floorOf l) x)) := by
  induction m with
  | zero =>
    intro i hi
    refine ev_succ ?_
    simp only [spec_l6Policy.l0]
    refine ev_neg (by omega) (ev_cast (ev_some _) ?_)
    rw [List.drop_of_length_le (by omega), show ((xs.length : Int) == a) = decide ((xs.length : Int) = a) from by rw [Bool.eq_iff_iff]; simp]
    simp
  | succ m ih =>
    intro i hi
    have hw : wrap64 ((i : Int) + 1) = ((i + 1 : Nat) : Int) := by rw [wid (by omega) (by omega)]; omega
    have q1 : (i : Int) < (xs.length : Int) := by omega
    have q2 : 0 ≤ (i : Int) := by omega
    have q := ih (i + 1) (by omega)
    refine ev_succ ?_
    simp only [spec_l6Policy.l0, spec_l6Level.f, spec_l6Floor.f, in_eq, Option.bind_some]
    rw [hw, drop_rdp xs i (by omega)]
    refine ev_pos q1 (ev_pos q2 ?_)
    generalize rd_T40 xs (i : Int) = x
    by_cases a1 : -10 ≤ x.f0 ∧ x.f0 ≤ 10
    rotate_left
    · exact ev_neg (by rw [decide_eq_true_eq]; exact a1) (ev_false fun h => a1 (h.2 x (by simp)).1)
    refine ev_pos (decide_eq_true a1) ?_
    by_cases a2 : -10 ≤ x.f1 ∧ x.f1 ≤ 10
    rotate_left
    · exact ev_neg (by rw [decide_eq_true_eq]; exact a2) (ev_false fun h => a2 (h.2 x (by simp)).2.1)
    refine ev_pos (decide_eq_true a2) ?_
    by_cases a3 : x.f0 > x.f1
    · exact ev_pos a3 (ev_false fun h => (h.2 x (by simp)).2.2.1 a3)
    refine ev_neg a3 ?_
    by_cases a4 : x.f1 < floorOf l
    · exact ev_pos a4 (ev_false fun h => (h.2 x (by simp)).2.2.2 a4)
    refine ev_neg a4 (ev_dec q ?_)
    have hx : LevOk (floorOf l) x := ⟨a1, a2, a3, a4⟩
    simp [hx]
theorem implPol_l0 (a : Int) (l : List Int) (b c d e : Int) (xs : List S40) (hn : xs.length ≤ 1048576) (m : Nat) : ∀ i : Nat, i + m = xs.length →
    Ev (fun k => impl_Process_isPolicy.l0 k xs xs (xs.length : Int) (i : Int) a l b c d e) (decide ((xs.length : Int) = a ∧ ∀ x ∈ xs.drop i, LevOk (floorOf l) x)) := by
  induction m with
  | zero =>
    intro i hi
    refine ev_succ ?_
    simp only [impl_Process_isPolicy.l0]
    refine ev_neg (by omega) (ev_cast (ev_some _) ?_)
    rw [List.drop_of_length_le (by omega), show ((xs.length : Int) == a) = decide ((xs.length : Int) = a) from by rw [Bool.eq_iff_iff]; simp]
    simp
  | succ m ih =>
    intro i hi
    have hw : wrap64 ((i : Int) + 1) = ((i + 1 : Nat) : Int) := by rw [wid (by omega) (by omega)]; omega
    have q1 : (i : Int) < (xs.length : Int) := by omega
    have q2 : 0 ≤ (i : Int) := by omega
    have q := ih (i + 1) (by omega)
    refine ev_succ ?_
    simp only [impl_Process_isPolicy.l0, impl_isLevel.f, impl_Process_floor.f, within_eq, Option.bind_some]
    rw [hw, drop_rdp xs i (by omega)]
    refine ev_pos q1 (ev_pos q2 (ev_pos q1 ?_))
    generalize rd_T40 xs (i : Int) = x
    by_cases a1 : -10 ≤ x.f0 ∧ x.f0 ≤ 10
    rotate_left
    · exact ev_neg (by rw [decide_eq_true_eq]; exact a1) (ev_false fun h => a1 (h.2 x (by simp)).1)
    refine ev_pos (decide_eq_true a1) ?_
    by_cases a2 : -10 ≤ x.f1 ∧ x.f1 ≤ 10
    rotate_left
    · exact ev_neg (by rw [decide_eq_true_eq]; exact a2) (ev_false fun h => a2 (h.2 x (by simp)).2.1)
    refine ev_pos (decide_eq_true a2) ?_
    by_cases a3 : x.f0 > x.f1
    · exact ev_pos a3 (ev_false fun h => (h.2 x (by simp)).2.2.1 a3)
    refine ev_neg a3 ?_
    by_cases a4 : x.f1 < floorOf l
    · exact ev_pos a4 (ev_false fun h => (h.2 x (by simp)).2.2.2 a4)
    refine ev_neg a4 (ev_dec q ?_)
    have hx : LevOk (floorOf l) x := ⟨a1, a2, a3, a4⟩
    simp [hx]

/-- A number's text. -/
def numB (n : Int) : ByteArray := ⟨(Lib.itoa n).toArray⟩
theorem numB_list (n : Int) : (numB n).data.toList = Lib.itoa n := rfl
theorem numB_size (n : Int) : (numB n).size = (Lib.itoa n).length := rfl
theorem size_list (b : ByteArray) : b.size = b.data.toList.length := rfl
theorem of_list {a b : ByteArray} (h : a.data.toList = b.data.toList) : a = b := ByteArray.ext (Array.toList_inj.mp h)
theorem app_list (a b : ByteArray) : (a ++ b).data.toList = a.data.toList ++ b.data.toList := by rw [ByteArray.data_append, Array.toList_append]
theorem numB_le (n : Int) (h : -10 ≤ n ∧ n ≤ 10) : (numB n).size ≤ 21 := Lib.itoa_length_le n (by omega) (by omega)
theorem digit_text (m : Nat) (h : m < 10) : (⟨#[48, 49, 50, 51, 52, 53, 54, 55, 56, 57]⟩ : ByteArray).extract m (m + 1) = numB (m : Int) := by
  have e : Lib.itoa (m : Int) = [UInt8.ofNat (48 + m)] := by
    unfold Lib.itoa
    rw [if_neg (by omega), Int.toNat_natCast, Lib.decDigits, dif_pos h]
  refine of_list ?_
  rw [numB_list, e]
  match m, h with
  | 0, _ => rfl
  | 1, _ => rfl
  | 2, _ => rfl
  | 3, _ => rfl
  | 4, _ => rfl
  | 5, _ => rfl
  | 6, _ => rfl
  | 7, _ => rfl
  | 8, _ => rfl
  | 9, _ => rfl
  | m + 10, h => omega
theorem num_digit (m : Nat) (h : m < 10) : Ev (fun k => spec_l1Num.f k (m : Int)) (numB (m : Int)) := by
  refine ev_succ ?_
  simp only [spec_l1Num.f]
  have hw : wrap64 ((m : Int) + 1) = ((m + 1 : Nat) : Int) := by rw [wid (by omega) (by omega)]; omega
  rw [hw, Int.toNat_natCast, Int.toNat_natCast, digit_text m h]
  exact ev_neg (by omega) (ev_pos (by omega) (ev_pos (by omega) (ev_pos (by omega) (ev_pos (by omega) (ev_some _)))))
theorem num_ten : Ev (fun k => spec_l1Num.f k 10) (numB 10) := by
  refine ev_succ ?_
  simp only [spec_l1Num.f]
  refine ev_neg (by omega) (ev_neg (by omega) ?_)
  rw [show Int.tdiv 10 10 = 1 from by decide, show wrap64 1 = ((1 : Nat) : Int) from wid (by omega) (by omega), show Int.tmod 10 10 = ((0 : Nat) : Int) from by decide, show wrap64 (((0 : Nat) : Int) + 1) = ((0 + 1 : Nat) : Int) from wid (by omega) (by omega), Int.toNat_natCast, Int.toNat_natCast, digit_text 0 (by omega)]
  refine ev_bind (num_digit 1 (by omega)) (ev_pos (by omega) (ev_pos (by omega) (ev_pos (by omega) (ev_pos ?_ (ev_cast (ev_some _) ?_)))))
  · have h1 := numB_le ((1 : Nat) : Int) (by omega)
    have h2 := numB_le ((0 : Nat) : Int) (by omega)
    omega
  · refine of_list ?_
    rw [app_list, numB_list, numB_list, numB_list]
    unfold Lib.itoa
    rw [if_neg (by omega), if_neg (by omega), if_neg (by omega)]
    have d0 : Lib.decDigits 0 = [48] := by rw [Lib.decDigits, dif_pos (by omega)]; rfl
    have d1 : Lib.decDigits 1 = [49] := by rw [Lib.decDigits, dif_pos (by omega)]; rfl
    have d10 : Lib.decDigits 10 = [49, 48] := by rw [Lib.decDigits, dif_neg (by omega), show 10 / 10 = 1 from rfl, d1]; rfl
    show Lib.decDigits 1 ++ Lib.decDigits 0 = Lib.decDigits 10
    rw [d0, d1, d10]
    rfl
theorem num_up (m : Nat) (h : m ≤ 10) : Ev (fun k => spec_l1Num.f k (m : Int)) (numB (m : Int)) := by
  by_cases e : m = 10
  · subst e
    exact num_ten
  · exact num_digit m (by omega)
theorem num_ev (n : Int) (h : -10 ≤ n ∧ n ≤ 10) : Ev (fun k => spec_l1Num.f k n) (numB n) := by
  by_cases hn : n < 0
  · obtain ⟨m, rfl⟩ : ∃ m : Nat, n = -(m : Int) := ⟨(-n).toNat, by omega⟩
    refine ev_succ ?_
    simp only [spec_l1Num.f]
    rw [show wrap64 (-(-(m : Int))) = (m : Int) by rw [wid (by omega) (by omega)]; omega]
    refine ev_pos hn (ev_bind (num_up m (by omega)) (ev_pos ?_ (ev_cast (ev_some _) ?_)))
    · have := numB_le (m : Int) (by omega)
      omega
    · refine of_list ?_
      rw [app_list, numB_list, numB_list]
      unfold Lib.itoa
      rw [if_pos hn, if_neg (by omega)]
      rw [show (-(m : Int)).natAbs = m by omega, Int.toNat_natCast]
      rfl
  · obtain ⟨m, rfl⟩ : ∃ m : Nat, n = (m : Int) := ⟨n.toNat, by omega⟩
    exact num_up m (by omega)
/-- A pair's word. -/
def word (x : S40) : List UInt8 := Lib.itoa x.f0 ++ [47] ++ Lib.itoa x.f1
def wordB (x : S40) : ByteArray := (numB x.f0 ++ (⟨#[47]⟩ : ByteArray)) ++ numB x.f1
theorem wordB_list (x : S40) : (wordB x).data.toList = word x := by
  unfold wordB word
  rw [app_list, app_list, numB_list, numB_list]
theorem word_le (x : S40) (h0 : -10 ≤ x.f0 ∧ x.f0 ≤ 10) (h1 : -10 ≤ x.f1 ∧ x.f1 ≤ 10) : (word x).length ≤ 43 := by
  have a := numB_le x.f0 h0
  have b := numB_le x.f1 h1
  rw [numB_size] at a b
  unfold word
  rw [List.length_append, List.length_append, List.length_cons, List.length_nil]
  omega
def InT (xs : List S40) : Prop := ∀ x ∈ xs, (-10 ≤ x.f0 ∧ x.f0 ≤ 10) ∧ (-10 ≤ x.f1 ∧ x.f1 ≤ 10)
def bytesOf (l : List UInt8) : ByteArray := ⟨l.toArray⟩
theorem bytesOf_list (l : List UInt8) : (bytesOf l).data.toList = l := rfl
/-- The text of a policy. -/
def textOf (xs : List S40) : ByteArray := if xs.length = 0 then (⟨#[110, 111, 110, 101]⟩ : ByteArray) else bytesOf (Lib.join (xs.map word) [32])
theorem tail_cons (w : List UInt8) (r : List (List UInt8)) : Lib.joinTail [32] (w :: r) = [32] ++ w ++ Lib.joinTail [32] r := by
  unfold Lib.joinTail
  rw [List.map_cons, List.flatten_cons]
theorem specText_l0 (xs : List S40) (hn : xs.length ≤ 5) (hx : InT xs) (m : Nat) : ∀ (i : Nat) (acc : ByteArray), 1 ≤ i → i + m = xs.length → acc.size ≤ 50 * i →
    Ev (fun k => spec_TextOfPolicy.l0 k xs acc (i : Int)) (bytesOf (acc.data.toList ++ Lib.joinTail [32] ((xs.drop i).map word)), true) := by
  induction m with
  | zero =>
    intro i acc h1 hi hs
    refine ev_succ ?_
    simp only [spec_TextOfPolicy.l0]
    refine ev_neg (by omega) (ev_neg (by omega) (ev_cast (ev_some _) ?_))
    rw [List.drop_of_length_le (by omega), List.map_nil, show Lib.joinTail [32] [] = [] from rfl, List.append_nil]
    rfl
  | succ m ih =>
    intro i acc h1 hi hs
    have hmem : rd_T40 xs (i : Int) ∈ xs := by rw [rdp_nat xs i (by omega)]; exact List.getElem_mem _
    have hd := drop_rdp xs i (by omega)
    have hw : wrap64 ((i : Int) + 1) = ((i + 1 : Nat) : Int) := by rw [wid (by omega) (by omega)]; omega
    generalize rd_T40 xs (i : Int) = x at hmem hd
    have hxi := hx x hmem
    have n0 := numB_le x.f0 hxi.1
    have n1 := numB_le x.f1 hxi.2
    have e32 : (⟨#[32]⟩ : ByteArray).size = 1 := rfl
    have e47 : (⟨#[47]⟩ : ByteArray).size = 1 := rfl
    have hsz : ((((acc ++ (⟨#[32]⟩ : ByteArray)) ++ numB x.f0) ++ (⟨#[47]⟩ : ByteArray)) ++ numB x.f1).size ≤ 50 * (i + 1) := by
      simp only [ByteArray.size_append]
      omega
    have hnext := ih (i + 1) ((((acc ++ (⟨#[32]⟩ : ByteArray)) ++ numB x.f0) ++ (⟨#[47]⟩ : ByteArray)) ++ numB x.f1) (by omega) (by omega) hsz
    refine ev_succ ?_
    simp only [spec_TextOfPolicy.l0]
    rw [hw]
    have hrd : rd_T40 xs (i : Int) = x := by
      have := drop_rdp xs i (by omega)
      rw [hd] at this
      exact (List.cons.inj this).1.symm
    rw [hrd]
    refine ev_pos (by omega) (ev_pos (by omega) (ev_pos (by omega) (ev_pos (by omega) (ev_bind (num_ev x.f0 hxi.1) (ev_pos ?_ (ev_pos ?_ (ev_bind (num_ev x.f1 hxi.2) (ev_pos ?_ (ev_cast hnext ?_)))))))))
    · simp only [ByteArray.size_append]; omega
    · simp only [ByteArray.size_append]; omega
    · simp only [ByteArray.size_append]; omega
    · rw [hd, List.map_cons, tail_cons, app_list, app_list, app_list, app_list, numB_list, numB_list]
      unfold word
      simp only [List.append_assoc]
theorem specText_ev (xs : List S40) (hn : xs.length ≤ 5) (hx : InT xs) : Ev (fun k => spec_TextOfPolicy.l0 k xs (⟨#[]⟩ : ByteArray) 0) (textOf xs, true) := by
  by_cases h0 : xs.length = 0
  · refine ev_succ ?_
    simp only [spec_TextOfPolicy.l0]
    refine ev_neg (by omega) (ev_pos (by omega) (ev_cast (ev_some _) ?_))
    unfold textOf
    rw [if_pos h0]
  · have hmem : rd_T40 xs ((0 : Nat) : Int) ∈ xs := by rw [rdp_nat xs 0 (by omega)]; exact List.getElem_mem _
    have hd := drop_rdp xs 0 (by omega)
    rw [List.drop_zero] at hd
    generalize hx0 : rd_T40 xs ((0 : Nat) : Int) = x at hmem hd
    have hx1 : rd_T40 xs 0 = x := hx0
    have hxi := hx _ hmem
    have n0 := numB_le _ hxi.1
    have n1 := numB_le _ hxi.2
    have e47 : (⟨#[47]⟩ : ByteArray).size = 1 := rfl
    have e0 : (⟨#[]⟩ : ByteArray).size = 0 := rfl
    have hsz : (((((⟨#[]⟩ : ByteArray) ++ numB x.f0) ++ (⟨#[47]⟩ : ByteArray)) ++ numB x.f1)).size ≤ 50 * 1 := by
      simp only [ByteArray.size_append]
      omega
    have hnext := specText_l0 xs hn hx (xs.length - 1) 1 _ (Nat.le_refl 1) (by omega) hsz
    refine ev_succ ?_
    simp only [spec_TextOfPolicy.l0]
    rw [show wrap64 ((0 : Int) + 1) = ((1 : Nat) : Int) from wid (by omega) (by omega), hx1]
    refine ev_pos (by omega) (ev_neg (by omega) (ev_pos (by omega) (ev_bind (num_ev _ hxi.1) (ev_pos ?_ (ev_pos ?_ (ev_bind (num_ev _ hxi.2) (ev_pos ?_ (ev_cast hnext ?_))))))))
    · omega
    · simp only [ByteArray.size_append]; omega
    · simp only [ByteArray.size_append]; omega
    · unfold textOf
      rw [if_neg h0]
      conv => rhs; rw [hd]
      rw [List.map_cons, Lib.join_cons, app_list, app_list, app_list, numB_list, numB_list]
      rfl
theorem implText_l0 (xs : List S40) (hn : xs.length ≤ 5) (hx : InT xs) (m : Nat) : ∀ (i : Nat), i + m = xs.length →
    Ev (fun k => impl_TextOfPolicy.l0 k ((xs.take i).map wordB) xs (xs.length : Int) (i : Int)) (textOf xs, true) := by
  induction m with
  | zero =>
    intro i hi
    refine ev_succ ?_
    simp only [impl_TextOfPolicy.l0]
    rw [List.take_of_length_le (by omega)]
    refine ev_neg (by omega) ?_
    unfold textOf
    by_cases h0 : xs.length = 0
    · exact ev_pos (by rw [List.length_map]; omega) (ev_cast (ev_some _) (by rw [if_pos h0]))
    · have hm : (xs.map wordB).map (·.data.toList) = xs.map word := by
        rw [List.map_map]
        exact List.map_congr_left fun x _ => wordB_list x
      have hlen : (Lib.join (xs.map word) [32]).length ≤ 1000 := by
        obtain ⟨x, r, rfl⟩ : ∃ x r, xs = x :: r := by
          cases xs with
          | nil => exact absurd rfl h0
          | cons x r => exact ⟨x, r, rfl⟩
        rw [List.map_cons, Lib.join_cons]
        have hx0 := word_le x (hx x (by simp)).1 (hx x (by simp)).2
        have ht : ∀ r : List S40, InT r → (Lib.joinTail [32] (r.map word)).length ≤ 44 * r.length := by
          intro r
          induction r with
          | nil => intro _; exact Nat.le_refl 0
          | cons y r ih =>
            intro hr
            have h1 := ih fun z hz => hr z (by simp [hz])
            have h2 := word_le y (hr y (by simp)).1 (hr y (by simp)).2
            rw [List.map_cons, tail_cons, List.length_append, List.length_append, List.length_cons, List.length_nil, List.length_cons]
            omega
        have h3 := ht r fun z hz => hx z (by simp [hz])
        rw [List.length_cons] at hn
        rw [List.length_append]
        omega
      refine ev_neg (by rw [List.length_map]; omega) (ev_cast (ev_of_eq fun _ => ?_) (by rw [if_neg h0]))
      unfold strings_Join.f
      rw [hm]
      rw [if_pos ⟨by rw [List.length_map]; omega, by show (Lib.join (xs.map word) [32]).length ≤ _; omega⟩]
      rfl
  | succ m ih =>
    intro i hi
    have hmem : rd_T40 xs (i : Int) ∈ xs := by rw [rdp_nat xs i (by omega)]; exact List.getElem_mem _
    have hxi := hx _ hmem
    have n0 := numB_le _ hxi.1
    have n1 := numB_le _ hxi.2
    have e47 : (⟨#[47]⟩ : ByteArray).size = 1 := rfl
    have hw : wrap64 ((i : Int) + 1) = ((i + 1 : Nat) : Int) := by rw [wid (by omega) (by omega)]; omega
    have hnext := ih (i + 1) (by omega)
    rw [List.take_succ_eq_append_getElem (by omega), List.map_append, List.map_cons, List.map_nil, ← rdp_nat xs i (by omega)] at hnext
    have i0 : strconv_Itoa_20.f (rd_T40 xs (i : Int)).f0 = some (numB (rd_T40 xs (i : Int)).f0) := if_pos ⟨by omega, by omega⟩
    have i1 : strconv_Itoa_20.f (rd_T40 xs (i : Int)).f1 = some (numB (rd_T40 xs (i : Int)).f1) := if_pos ⟨by omega, by omega⟩
    refine ev_succ ?_
    simp only [impl_TextOfPolicy.l0, i0, i1, Option.bind_some]
    rw [hw]
    refine ev_pos (by omega) (ev_pos (by omega) (ev_pos (by omega) (ev_pos (by omega) (ev_pos ?_ (ev_pos ?_ hnext)))))
    · simp only [ByteArray.size_append]; omega
    · rw [List.length_map, List.length_take]; omega
def ans (a : Int) (l : List Int) (b c d e : Int) (xs : List S40) : ByteArray × Bool := if ProcOk a l b c d e ∧ PolOk a l xs then (textOf xs, true) else ((⟨#[]⟩ : ByteArray), false)
theorem pol_in {a b c d e : Int} {l : List Int} {xs : List S40} (h : ProcOk a l b c d e ∧ PolOk a l xs) : xs.length ≤ 5 ∧ InT xs :=
  ⟨by have := h.1.1.2; have := h.2.1; omega, fun x hx => ⟨(h.2.2 x hx).1, (h.2.2 x hx).2.1⟩⟩
theorem spec_ans (a : Int) (l : List Int) (b c d e : Int) (xs : List S40) (hl : l.length ≤ 35184372088832) (hn : xs.length ≤ 1048576) : Ev (fun k => spec_TextOfPolicy.f k a l b c d e xs) (ans a l b c d e xs) := by
  unfold spec_TextOfPolicy.f ans
  refine ev_bind (specProcess_ev a l b c d e hl) ?_
  have hoff : ¬ (ProcOk a l b c d e ∧ PolOk a l xs) → Ev (fun k => spec_TextOfPolicy.j0 k xs true) (if ProcOk a l b c d e ∧ PolOk a l xs then (textOf xs, true) else ((⟨#[]⟩ : ByteArray), false)) := by
    intro h
    refine ev_succ ?_
    simp only [spec_TextOfPolicy.j0]
    exact ev_pos trivial (ev_cast (ev_some _) (if_neg h).symm)
  by_cases h : ProcOk a l b c d e
  · refine ev_pos (decide_eq_true h) (ev_bind (g := fun k => spec_l6Policy.f k a l b c d e xs) (a := decide (PolOk a l xs)) ?_ ?_)
    · unfold spec_l6Policy.f PolOk
      exact specPol_l0 a l b c d e xs hn xs.length 0 (Nat.zero_add _)
    · by_cases q : PolOk a l xs
      · obtain ⟨g1, g2⟩ := pol_in (b := b) (c := c) (d := d) (e := e) ⟨h, q⟩
        rw [decide_eq_true q, if_pos ⟨h, q⟩]
        refine ev_succ ?_
        simp only [spec_TextOfPolicy.j0]
        exact ev_neg (by simp) (specText_ev xs g1 g2)
      · rw [decide_eq_false q]
        exact hoff fun w => q w.2
  · exact ev_neg (by rw [decide_eq_true_eq]; exact h) (hoff fun w => h w.1)
theorem impl_ans (a : Int) (l : List Int) (b c d e : Int) (xs : List S40) (hl : l.length ≤ 35184372088832) (hn : xs.length ≤ 1048576) : Ev (fun k => impl_TextOfPolicy.f k a l b c d e xs) (ans a l b c d e xs) := by
  unfold impl_TextOfPolicy.f ans
  refine ev_bind (implProcess_ev a l b c d e hl) ?_
  have hoff : ¬ (ProcOk a l b c d e ∧ PolOk a l xs) → Ev (fun k => impl_TextOfPolicy.j0 k xs true) (if ProcOk a l b c d e ∧ PolOk a l xs then (textOf xs, true) else ((⟨#[]⟩ : ByteArray), false)) := by
    intro h
    refine ev_succ ?_
    simp only [impl_TextOfPolicy.j0]
    exact ev_pos trivial (ev_cast (ev_some _) (if_neg h).symm)
  by_cases h : ProcOk a l b c d e
  · refine ev_pos (decide_eq_true h) (ev_bind (g := fun k => impl_Process_isPolicy.f k a l b c d e xs) (a := decide (PolOk a l xs)) ?_ ?_)
    · unfold impl_Process_isPolicy.f PolOk
      exact implPol_l0 a l b c d e xs hn xs.length 0 (Nat.zero_add _)
    · by_cases q : PolOk a l xs
      · obtain ⟨g1, g2⟩ := pol_in (b := b) (c := c) (d := d) (e := e) ⟨h, q⟩
        rw [decide_eq_true q, if_pos ⟨h, q⟩]
        refine ev_succ ?_
        simp only [impl_TextOfPolicy.j0]
        exact ev_neg (by simp) (implText_l0 xs g1 g2 xs.length 0 (by omega))
      · rw [decide_eq_false q]
        exact hoff fun w => q w.2
  · exact ev_neg (by rw [decide_eq_true_eq]; exact h) (hoff fun w => h w.1)
theorem FnExactTextOfPolicy (a0_0 : Int) (l0_1 : List Int) (a0_2 : Int) (a0_3 : Int) (a0_4 : Int) (a0_5 : Int) (l1 : List (S40)) (hw0_0 : (Lit.int .i64 a0_0).wf = true) (hl0_1 : l0_1.length ≤ maxLen) (hw0_1 : ∀ x ∈ l0_1, (Lit.int .i64 x).wf = true) (hw0_2 : (Lit.int .i64 a0_2).wf = true) (hw0_3 : (Lit.int .i64 a0_3).wf = true) (hw0_4 : (Lit.int .i64 a0_4).wf = true) (hw0_5 : (Lit.int .i64 a0_5).wf = true) (hl1 : l1.length ≤ maxLen) (hw1 : ∀ x ∈ l1, (Lit.int .i64 x.f0).wf = true ∧ (Lit.int .i64 x.f1).wf = true) :
    ∃ k, laws_FnExactTextOfPolicy.f k a0_0 l0_1 a0_2 a0_3 a0_4 a0_5 l1 = some true := by
  refine Ev.rounds ?_
  unfold laws_FnExactTextOfPolicy.f
  obtain ⟨r, hr, hz⟩ := szProcess_eq a0_0 l0_1 a0_2 a0_3 a0_4 a0_5 1048576 (by omega) (by omega) hl0_1
  simp only [hr, Option.bind_some]
  by_cases c : r < 0
  · exact ev_pos c (ev_some _)
  have hz := hz (by omega)
  refine ev_neg c ?_
  simp only [szPairs_eq l1 r (by omega) (by omega) hl1, Option.bind_some]
  by_cases c2 : r - (l1.length : Int) < 0
  · rw [if_pos c2]
    exact ev_pos (by omega) (ev_some _)
  rw [if_neg c2]
  refine ev_neg c2 ?_
  have h1 : l0_1.length ≤ 35184372088832 := by omega
  have h2 : l1.length ≤ 1048576 := by omega
  have hto := toProcess_ev a0_0 l0_1 a0_2 a0_3 a0_4 a0_5 h1
  have htp := toPairs_ev l1 h2
  refine ev_bind hto (ev_bind htp (ev_bind (spec_ans a0_0 l0_1 a0_2 a0_3 a0_4 a0_5 l1 h1 h2) (ev_bind hto (ev_bind htp (ev_bind (impl_ans a0_0 l0_1 a0_2 a0_3 a0_4 a0_5 l1 h1 h2) ?_)))))
  refine ev_pos rfl (ev_succ ?_)
  simp only [laws_FnExactTextOfPolicy.j0]
  exact ev_neg (by simp) (ev_bind hto (ev_bind (eqProcess_ev a0_0 l0_1 a0_2 a0_3 a0_4 a0_5 h1) (ev_pos rfl (ev_bind htp (ev_bind (eqPairs_ev l1 h2) (ev_pos rfl (ev_some _)))))))

end Go.Proofs.YtdjhbjkegicpcaaDoor.Pure
