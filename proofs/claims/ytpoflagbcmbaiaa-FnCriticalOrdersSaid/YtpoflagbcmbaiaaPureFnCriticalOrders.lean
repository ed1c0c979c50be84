/- What FnCriticalOrders asks holds for every code: the program's questions on one period's order answer as the reference does, the best orders are a row of numbers from the critical one on, and the cost sums grow by the weights. No conditions. -/
import Derived.Test.YtpoflagbcmbaiaaKit
import Derived.Test.YtpoflagbcmbaiaaXFnCriticalOrdersx6
namespace Go.Proofs.Ytpoflagbcmbaiaa.Pure
set_option linter.unusedVariables false
open Go.RowKit Go.Proofs.Ytpoflagbcmbaiaa.PFnCriticalOrders Go.Proofs.YtpoflagbcmbaiaaW.PrintWords Go.Proofs.YtpoflagbcmbaiaaW.PrintLast Go.Proofs.Ytpoflagbcmbaiaa.Kit

theorem in_eq (a b c : Int) : spec_l1In.f a b c = some (decide (b ≤ a ∧ a ≤ c)) := by
  unfold spec_l1In.f
  by_cases h : b ≤ a <;> simp [h]
theorem within_eq (a b c : Int) : impl_within.f a b c = some (decide (b ≤ a ∧ a ≤ c)) := by
  unfold impl_within.f
  by_cases h : b ≤ a <;> simp [h]
theorem allWithin_l0 (lo up : Int) (xs : List Int) (hn : xs.length ≤ 35184372088832) (d : Nat) : ∀ (i : Nat), i + d = xs.length →
    Ev (fun k => impl_allWithin.l0 k lo up xs (xs.length : Int) (i : Int)) (decide (∀ x ∈ xs.drop i, lo ≤ x ∧ x ≤ up)) := by
  induction d with
  | zero =>
    intro i hi
    refine ev_succ ?_
    simp only [impl_allWithin.l0]
    refine ev_neg (by omega) ?_
    rw [List.drop_of_length_le (by omega)]
    exact ev_cast (ev_some true) (by simp)
  | succ d ih =>
    intro i hi
    refine ev_succ ?_
    simp only [impl_allWithin.l0, within_eq, Option.bind_some]
    refine ev_pos (by omega) (ev_pos (by omega) (ev_pos (by omega) ?_))
    have hw : wrap64 ((i : Int) + 1) = ((i + 1 : Nat) : Int) := by rw [wid (by omega) (by omega)]; omega
    rw [hw, drop_rd xs i (by omega)]
    by_cases h : lo ≤ rd xs i ∧ rd xs i ≤ up
    · refine ev_pos (by simpa using h) (ev_cast (ih (i + 1) (by omega)) ?_)
      simp [h]
    · refine ev_neg (by simpa using h) (ev_cast (ev_some false) ?_)
      symm
      simp only [decide_eq_false_iff_not, List.mem_cons]
      exact fun hh => h (hh _ (Or.inl rfl))
theorem allWithin_ev (xs : List Int) (lo hi : Int) (hn : xs.length ≤ 35184372088832) : Ev (fun k => impl_allWithin.f k xs lo hi) (decide (∀ x ∈ xs, lo ≤ x ∧ x ≤ hi)) := by
  unfold impl_allWithin.f
  exact allWithin_l0 lo hi xs hn xs.length 0 (by omega)
theorem l2Row_l0 (n up : Int) (xs : List Int) (hn : xs.length ≤ 35184372088832) (d : Nat) : ∀ (i : Nat), i + d = xs.length →
    Ev (fun k => spec_l2Row.l0 k xs n up (i : Int)) (decide ((∀ x ∈ xs.drop i, 0 ≤ x ∧ x ≤ up) ∧ (xs.length : Int) = n)) := by
  induction d with
  | zero =>
    intro i hi
    refine ev_succ ?_
    simp only [spec_l2Row.l0]
    refine ev_neg (by omega) ?_
    rw [List.drop_of_length_le (by omega)]
    refine ev_cast (ev_some _) ?_
    rw [Bool.eq_iff_iff]
    simp
  | succ d ih =>
    intro i hi
    refine ev_succ ?_
    simp only [spec_l2Row.l0, in_eq, Option.bind_some]
    refine ev_pos (by omega) (ev_pos (by omega) ?_)
    have hw : wrap64 ((i : Int) + 1) = ((i + 1 : Nat) : Int) := by rw [wid (by omega) (by omega)]; omega
    rw [hw, drop_rd xs i (by omega)]
    by_cases h : 0 ≤ rd xs i ∧ rd xs i ≤ up
    · refine ev_pos (by simpa using h) (ev_cast (ih (i + 1) (by omega)) ?_)
      simp [h]
    · refine ev_neg (by simpa using h) (ev_cast (ev_some false) ?_)
      symm
      simp only [decide_eq_false_iff_not, List.mem_cons]
      exact fun hh => h (hh.1 _ (Or.inl rfl))
theorem l2Row_ev (xs : List Int) (n up : Int) (hn : xs.length ≤ 35184372088832) : Ev (fun k => spec_l2Row.f k xs n up) (decide ((∀ x ∈ xs, 0 ≤ x ∧ x ≤ up) ∧ (xs.length : Int) = n)) := by
  unfold spec_l2Row.f
  exact l2Row_l0 n up xs hn xs.length 0 (by omega)
theorem total_l0 (xs : List Int) (hn : xs.length ≤ 35184372088832) (hs : ∀ i, -9223372036854775808 ≤ (xs.take i).sum ∧ (xs.take i).sum ≤ 9223372036854775807) (d : Nat) : ∀ (i : Nat), i + d = xs.length →
    Ev (fun k => impl_total.l0 k (xs.take i).sum xs (xs.length : Int) (i : Int)) xs.sum := by
  induction d with
  | zero =>
    intro i hi
    refine ev_succ ?_
    simp only [impl_total.l0]
    refine ev_neg (by omega) ?_
    rw [List.take_of_length_le (by omega)]
    exact ev_some _
  | succ d ih =>
    intro i hi
    refine ev_succ ?_
    simp only [impl_total.l0]
    refine ev_pos (by omega) (ev_pos (by omega) (ev_pos (by omega) ?_))
    have hw : wrap64 ((i : Int) + 1) = ((i + 1 : Nat) : Int) := by rw [wid (by omega) (by omega)]; omega
    have ht := take_sum_succ xs i (by omega)
    rw [hw, ht, wid (hs _).1 (hs _).2]
    exact ih (i + 1) (by omega)
theorem total_ev (xs : List Int) (hn : xs.length ≤ 35184372088832) (hs : ∀ i, -9223372036854775808 ≤ (xs.take i).sum ∧ (xs.take i).sum ≤ 9223372036854775807) : Ev (fun k => impl_total.f k xs) xs.sum := by
  unfold impl_total.f
  exact total_l0 xs hn hs xs.length 0 (by omega)
theorem l2Sum_l0 (xs : List Int) (hn : xs.length ≤ 35184372088832) (hs : ∀ i, -9223372036854775808 ≤ (xs.take i).sum ∧ (xs.take i).sum ≤ 9223372036854775807) (d : Nat) : ∀ (i : Nat), i + d = xs.length →
    Ev (fun k => spec_l2Sum.l0 k xs (xs.take i).sum (i : Int)) xs.sum := by
  induction d with
  | zero =>
    intro i hi
    refine ev_succ ?_
    simp only [spec_l2Sum.l0]
    refine ev_neg (by omega) ?_
    rw [List.take_of_length_le (by omega)]
    exact ev_some _
  | succ d ih =>
    intro i hi
    refine ev_succ ?_
    simp only [spec_l2Sum.l0]
    refine ev_pos (by omega) (ev_pos (by omega) ?_)
    have hw : wrap64 ((i : Int) + 1) = ((i + 1 : Nat) : Int) := by rw [wid (by omega) (by omega)]; omega
    have ht := take_sum_succ xs i (by omega)
    rw [hw, ht, wid (hs _).1 (hs _).2]
    exact ih (i + 1) (by omega)
theorem l2Sum_ev (xs : List Int) (hn : xs.length ≤ 35184372088832) (hs : ∀ i, -9223372036854775808 ≤ (xs.take i).sum ∧ (xs.take i).sum ≤ 9223372036854775807) : Ev (fun k => spec_l2Sum.f k xs) xs.sum := by
  unfold spec_l2Sum.f
  exact l2Sum_l0 xs hn hs xs.length 0 (by omega)
theorem rd_in {xs : List Int} {lo up : Int} (h : ∀ x ∈ xs, lo ≤ x ∧ x ≤ up) (i : Nat) (hi : i < xs.length) : lo ≤ rd xs (i : Int) ∧ rd xs (i : Int) ≤ up := by
  rw [rd_nat xs i hi]
  exact h _ (List.getElem_mem _)
/-- A reader of draws: its bytes; each draw moves it on by two places at most. -/
def CodeOk (code : List Int) : Prop := ∀ x ∈ code, 0 ≤ x ∧ x ≤ 255
theorem codeOk_of {code : List Int} (h : ∀ x ∈ code, (Lit.int .u8 x).wf = true) : CodeOk code := fun x hx => by
  have := h x hx
  simp only [Lit.wf, Bool.and_eq_true, decide_eq_true_eq] at this
  exact this
theorem seed_low (x : Int) (h0 : 0 ≤ x) (h1 : x < 18446744073709551616) : Go.bits .and .u64 (x / 1099511627776) 255 = (x / 1099511627776) % 256 :=
  bits_mask .u64 24 (by decide) (fun n h0 h1 => by simp only [IntKind.wrap, IntKind.bits, IntKind.signed]; simp; omega) 8 (by decide) (x / 1099511627776) (by omega) (by omega)
theorem u64_in (x : Int) : 0 ≤ IntKind.u64.wrap x ∧ IntKind.u64.wrap x < 18446744073709551616 := by
  simp only [IntKind.wrap, IntKind.bits, IntKind.signed]
  simp
  omega
theorem next_ok {code : List Int} (hc : CodeOk code) (t s : Int) (h0 : 0 ≤ t) (h1 : t ≤ 1000000000000000) :
    ∃ b s', spec_l1Cur_next.f code t s = some (b, t + 1, s') ∧ 0 ≤ b ∧ b ≤ 255 := by
  unfold spec_l1Cur_next.f
  rw [wid (x := t + 1) (by omega) (by omega)]
  by_cases c : t < (code.length : Int)
  · have hb : 0 ≤ rd code t ∧ rd code t ≤ 255 := by
      obtain ⟨i, rfl⟩ := Int.eq_ofNat_of_zero_le h0
      rw [rd_nat code i (by omega)]
      exact hc _ (List.getElem_mem _)
    rw [if_pos c, if_pos h0, wid (x := rd code t) (by omega) (by omega)]
    by_cases c2 : t + 1 ≤ (code.length : Int)
    · rw [if_pos c2]
      exact ⟨_, _, rfl, hb.1, hb.2⟩
    · omega
  · rw [if_neg c]
    by_cases c2 : t + 1 ≤ (code.length : Int)
    · omega
    · rw [if_neg c2]
      have u := u64_in (IntKind.u64.wrap (IntKind.u64.wrap (s * 6364136223846793005) + 0) + 462197)
      generalize IntKind.u64.wrap (IntKind.u64.wrap (IntKind.u64.wrap (s * 6364136223846793005) + 0) + 462197) = v at u ⊢
      rw [seed_low v u.1 u.2, wid (by omega) (by omega)]
      exact ⟨_, _, rfl, by omega, by omega⟩
theorem pick_ok {code : List Int} (hc : CodeOk code) (t s n : Int) (h0 : 0 ≤ t) (h1 : t ≤ 900000000000000) (hn : n ≤ 65536) :
    ∃ r t' s', spec_l1Cur_pick.f code t s n = some (r, t', s') ∧ 0 ≤ r ∧ (1 ≤ n → r < n) ∧ t ≤ t' ∧ t' ≤ t + 2 := by
  unfold spec_l1Cur_pick.f
  by_cases c : n ≤ 1
  · rw [if_pos c]
    exact ⟨0, t, s, rfl, by omega, fun _ => by omega, by omega, by omega⟩
  · rw [if_neg c]
    obtain ⟨b, s1, e1, b0, b1⟩ := next_ok hc t s h0 (by omega)
    rw [e1]
    simp only [Option.bind_some]
    by_cases c2 : n > 200
    · obtain ⟨b2, s2, e2, q0, q1⟩ := next_ok hc (t + 1) s1 (by omega) (by omega)
      rw [if_pos c2, e2]
      simp only [Option.bind_some]
      rw [if_neg (by omega), wid (x := b * 256) (by omega) (by omega), wid (by omega) (by omega), Int.tmod_eq_emod_of_nonneg (by omega)]
      exact ⟨_, _, _, rfl, Int.emod_nonneg _ (by omega), fun _ => Int.emod_lt_of_pos _ (by omega), by omega, by omega⟩
    · rw [if_neg c2, if_neg (by omega), Int.tmod_eq_emod_of_nonneg (by omega)]
      exact ⟨_, _, _, rfl, Int.emod_nonneg _ (by omega), fun _ => Int.emod_lt_of_pos _ (by omega), by omega, by omega⟩
theorem among_ok {code : List Int} (hc : CodeOk code) (t s : Int) (l : List Int) (h0 : 0 ≤ t) (h1 : t ≤ 900000000000000) (hl : 0 < l.length) (hl2 : l.length ≤ 65536) :
    ∃ r t' s', spec_l1Cur_among.f code t s l = some (r, t', s') ∧ r ∈ l ∧ t ≤ t' ∧ t' ≤ t + 2 := by
  unfold spec_l1Cur_among.f
  obtain ⟨r, t', s', e, a, b, c, d⟩ := pick_ok hc t s (l.length : Int) h0 h1 (by omega)
  have b := b (by omega)
  rw [e]
  simp only [Option.bind_some]
  rw [if_pos a, if_pos b]
  obtain ⟨i, rfl⟩ := Int.eq_ofNat_of_zero_le a
  refine ⟨_, _, _, rfl, ?_, c, d⟩
  rw [rd_nat l i (by omega)]
  exact List.getElem_mem _
theorem one_ok {code : List Int} (hc : CodeOk code) (t s n : Int) (h0 : 0 ≤ t) (h1 : t ≤ 900000000000000) (hn : n ≤ 65536) :
    ∃ b t' s', spec_l1Cur_one.f code t s n = some (b, t', s') ∧ t ≤ t' ∧ t' ≤ t + 2 := by
  unfold spec_l1Cur_one.f
  obtain ⟨r, t', s', e, _, _, c, d⟩ := pick_ok hc t s n h0 h1 hn
  simp only [e, Option.bind_some]
  exact ⟨_, _, _, rfl, c, d⟩
theorem vcut_ok {code : List Int} (hc : CodeOk code) (hl : code.length ≤ 65536) (n : Int) (h0 : 0 ≤ n) (h1 : n ≤ 255) : ∃ r, laws_vCut.f code n = some r ∧ CodeOk r := by
  have key : ∀ m : Int, 0 ≤ m → CodeOk (([] : List Int) ++ code.drop m.toNat ++ [m % 256]) := fun m hm x hx => by
    rcases List.mem_append.1 hx with h | h
    · rw [List.nil_append] at h
      exact hc x (List.mem_of_mem_drop h)
    · rw [List.mem_singleton] at h
      omega
  have len : ∀ m : Int, (code.drop m.toNat).length ≤ 65536 := fun m => by rw [List.length_drop]; omega
  unfold laws_vCut.f
  simp only [Option.bind_some, List.length_nil, List.nil_append]
  by_cases c : n > (code.length : Int)
  · have q := len (code.length : Int)
    rw [if_pos c, if_pos (by omega), if_pos (by omega), if_pos (by omega), if_pos (by omega)]
    exact ⟨_, rfl, by have := key (code.length : Int) (by omega); rwa [List.nil_append] at this⟩
  · have q := len n
    rw [if_neg c, if_pos h0, if_pos (by omega), if_pos (by omega), if_pos (by omega)]
    exact ⟨_, rfl, by have := key n h0; rwa [List.nil_append] at this⟩
theorem chances_l1 {code : List Int} (hc : CodeOk code) (d : Nat) : ∀ (xs : List Int) (t s : Int), xs.length + d = 17 → 0 ≤ t → t + 2 * d + 2 ≤ 800000000000000 →
    ∃ r t' s', Ev (fun k => spec_l1Cur_chances.l1 k xs code t s) (r, t', s') ∧ r.length ≤ 17 ∧ t ≤ t' ∧ t' ≤ t + 2 * d + 2 := by
  induction d with
  | zero =>
    intro xs t s hx h0 h1
    obtain ⟨p, t1, s1, e1, p0, p1, q0, q1⟩ := pick_ok hc t s 3 h0 (by omega) (by omega)
    have p1 := p1 (by omega)
    refine ⟨xs, t1, s1, ev_succ ?_, by omega, q0, by omega⟩
    simp only [spec_l1Cur_chances.l1, e1, Option.bind_some]
    rw [wid (by omega) (by omega)]
    exact ev_neg (by omega) (ev_some _)
  | succ d ih =>
    intro xs t s hx h0 h1
    obtain ⟨p, t1, s1, e1, p0, p1, q0, q1⟩ := pick_ok hc t s 3 h0 (by omega) (by omega)
    have p1 := p1 (by omega)
    by_cases c : (xs.length : Int) < 15 + p
    · obtain ⟨r, t', s', e2, l2, a2, b2⟩ := ih (xs ++ [1]) t1 s1 (by simp; omega) (by omega) (by omega)
      refine ⟨r, t', s', ev_succ ?_, l2, by omega, by omega⟩
      simp only [spec_l1Cur_chances.l1, e1, Option.bind_some]
      rw [wid (x := 15 + p) (by omega) (by omega)]
      exact ev_pos c (ev_pos (by omega) e2)
    · refine ⟨xs, t1, s1, ev_succ ?_, by omega, q0, by omega⟩
      simp only [spec_l1Cur_chances.l1, e1, Option.bind_some]
      rw [wid (by omega) (by omega)]
      exact ev_neg c (ev_some _)
theorem chances_l0 {code : List Int} (hc : CodeOk code) (n : Nat) : ∀ (xs : List Int) (t s : Int), xs.length + n ≤ 8 → 1 ≤ xs.length + n → 0 ≤ t → t + 2 * n ≤ 700000000000000 →
    ∃ r t' s', Ev (fun k => spec_l1Cur_chances.l0 k xs (n : Int) code t s) (r, t', s') ∧ r.length ≤ 17 ∧ t ≤ t' ∧ t' ≤ t + 2 * n + 60 := by
  induction n with
  | zero =>
    intro xs t s hx hx1 h0 h1
    obtain ⟨p, t1, s1, e1, p0, p1, q0, q1⟩ := pick_ok hc t s 32 h0 (by omega) (by omega)
    have z : ¬ (((0 : Nat) : Int) > 0) := by omega
    by_cases c0 : p = 0
    · obtain ⟨v, t2, s2, e2, _, a2, b2⟩ := among_ok hc t1 s1 [-1, 1000, 1001, 4611686018427387904] (by omega) (by omega) (by decide) (by decide)
      refine ⟨xs.set (0 : Int).toNat v, t2, s2, ev_succ ?_, by rw [List.length_set]; omega, by omega, by omega⟩
      simp only [spec_l1Cur_chances.l0, e1, Option.bind_some]
      refine ev_neg z (ev_pos c0 ?_)
      rw [e2]
      simp only [Option.bind_some]
      exact ev_pos (by omega) (ev_some _)
    by_cases c1 : p = 1
    · obtain ⟨r, t2, s2, e2, l2, a2, b2⟩ := chances_l1 hc (17 - xs.length) xs t1 s1 (by omega) (by omega) (by omega)
      refine ⟨r, t2, s2, ev_succ ?_, l2, by omega, by omega⟩
      simp only [spec_l1Cur_chances.l0, e1, Option.bind_some]
      exact ev_neg z (ev_neg c0 (ev_pos c1 e2))
    by_cases c2 : p = 2
    · obtain ⟨v, t2, s2, e2, v0, v1, a2, b2⟩ := pick_ok hc t1 s1 4 (by omega) (by omega) (by omega)
      have v1 := v1 (by omega)
      refine ⟨List.replicate v.toNat 0, t2, s2, ev_succ ?_, by rw [List.length_replicate]; omega, by omega, by omega⟩
      simp only [spec_l1Cur_chances.l0, e1, Option.bind_some]
      refine ev_neg z (ev_neg c0 (ev_neg c1 (ev_pos c2 ?_)))
      rw [e2]
      simp only [Option.bind_some]
      exact ev_pos v0 (ev_pos (by omega) (ev_some _))
    · refine ⟨xs, t1, s1, ev_succ ?_, by omega, by omega, by omega⟩
      simp only [spec_l1Cur_chances.l0, e1, Option.bind_some]
      exact ev_neg z (ev_neg c0 (ev_neg c1 (ev_neg c2 (ev_some _))))
  | succ n ih =>
    intro xs t s hx hx1 h0 h1
    obtain ⟨v, t1, s1, e1, _, a1, b1⟩ := among_ok hc t s [1, 2, 0, 3, 5, 1] (by omega) (by omega) (by decide) (by decide)
    obtain ⟨r, t2, s2, e2, l2, a2, b2⟩ := ih (xs ++ [v]) t1 s1 (by simp; omega) (by simp; omega) (by omega) (by omega)
    refine ⟨r, t2, s2, ev_succ ?_, l2, by omega, by omega⟩
    simp only [spec_l1Cur_chances.l0, e1, Option.bind_some]
    rw [wid (x := ((n + 1 : Nat) : Int) - 1) (by omega) (by omega), show ((n + 1 : Nat) : Int) - 1 = (n : Int) by omega]
    exact ev_pos (by omega) (ev_pos (by omega) e2)
theorem chances_ok {code : List Int} (hc : CodeOk code) (t s : Int) (h0 : 0 ≤ t) (h1 : t ≤ 600000000000000) :
    ∃ r t' s', Ev (fun k => spec_l1Cur_chances.f k code t s) (r, t', s') ∧ r.length ≤ 17 ∧ t ≤ t' ∧ t' ≤ t + 100 := by
  obtain ⟨n, t1, s1, e1, m1, a1, b1⟩ := among_ok hc t s [4, 5, 6, 3, 8, 1, 2] h0 (by omega) (by decide) (by decide)
  have hn : 1 ≤ n ∧ n ≤ 8 := by simp at m1; omega
  obtain ⟨r, t2, s2, e2, l2, a2, b2⟩ := chances_l0 hc n.toNat [] t1 s1 (by simp; omega) (by simp; omega) (by omega) (by omega)
  rw [Int.toNat_of_nonneg (by omega)] at e2
  refine ⟨r, t2, s2, ?_, l2, by omega, by omega⟩
  unfold spec_l1Cur_chances.f
  simp only [e1, Option.bind_some]
  exact e2
theorem charge_ok {code : List Int} (hc : CodeOk code) (t s : Int) (h0 : 0 ≤ t) (h1 : t ≤ 600000000000000) : ∃ r t' s', spec_l1Cur_charge.f code t s = some (r, t', s') ∧ t ≤ t' ∧ t' ≤ t + 4 := by
  unfold spec_l1Cur_charge.f
  obtain ⟨p, t1, s1, e1, p0, p1, q0, q1⟩ := pick_ok hc t s 24 h0 (by omega) (by omega)
  have p1 := p1 (by omega)
  simp only [Option.bind_some, e1, List.length_cons, List.length_nil]
  rw [Int.tdiv_eq_ediv_of_nonneg p0, wid (x := p / 11) (by omega) (by omega), wid (x := 7 + p / 11) (by omega) (by omega)]
  have hl : (List.take (7 + p / 11).toNat [1, 2, 3, 5, 0, 8, 20, 21, (-1 : Int)]).length = (7 + p / 11).toNat := by rw [List.length_take]; simp; omega
  obtain ⟨v, t2, s2, e2, _, a2, b2⟩ := among_ok hc t1 s1 (List.take (7 + p / 11).toNat [1, 2, 3, 5, 0, 8, 20, 21, (-1 : Int)]) (by omega) (by omega) (by rw [hl]; omega) (by rw [hl]; omega)
  rw [if_pos (by omega), if_pos (by omega), e2]
  simp only [Option.bind_some]
  exact ⟨_, _, _, rfl, by omega, by omega⟩
theorem order5_ok {code : List Int} (hc : CodeOk code) (t s : Int) (h0 : 0 ≤ t) (h1 : t ≤ 600000000000000) : ∃ r t' s', spec_l1Cur_order5.f code t s = some (r, t', s') := by
  unfold spec_l1Cur_order5.f
  obtain ⟨b, t1, s1, e1, a1, b1⟩ := one_ok hc t s 16 h0 (by omega) (by omega)
  simp only [e1, Option.bind_some]
  cases b with
  | true =>
    obtain ⟨v, t2, s2, e2, _⟩ := among_ok hc t1 s1 [-1, 15, 16, 4611686018427387904] (by omega) (by omega) (by decide) (by decide)
    rw [if_pos rfl, e2]
    exact ⟨_, _, _, rfl⟩
  | false =>
    obtain ⟨v, t2, s2, e2, _⟩ := pick_ok hc t1 s1 9 (by omega) (by omega) (by omega)
    rw [if_neg (by simp), e2]
    exact ⟨_, _, _, rfl⟩
/-- What a distribution is. -/
def DistOk (w : List Int) : Prop := (1 ≤ (w.length : Int) ∧ (w.length : Int) ≤ 16) ∧ (∀ x ∈ w, 0 ≤ x ∧ x ≤ 1000) ∧ w.sum > 0
instance (w : List Int) : Decidable (DistOk w) := by unfold DistOk; infer_instance
theorem implDist_ev (w : List Int) (hl : w.length ≤ 35184372088832) : Ev (fun k => impl_IsDistribution.f k w) (decide (DistOk w)) := by
  unfold impl_IsDistribution.f DistOk
  simp only [within_eq, Option.bind_some]
  exact ev_and rfl fun h1 => ev_bind (allWithin_ev w 0 1000 hl) (ev_and rfl fun h3 => ev_bind (total_ev w hl (take_sum64 (by omega) (by omega) h3 (by omega))) (ev_some _))
theorem specDist_ev (w : List Int) (hl : w.length ≤ 35184372088832) : Ev (fun k => spec_l5Good.f k w) (decide (DistOk w)) := by
  unfold spec_l5Good.f DistOk spec_l5Total.f
  simp only [in_eq, Option.bind_some]
  refine ev_and rfl fun h1 => ev_dec (P := ((∀ x ∈ w, 0 ≤ x ∧ x ≤ 1000) ∧ (w.length : Int) = w.length) ∧ w.sum > 0) ?_ (by simp)
  exact ev_bind (l2Row_ev w _ 1000 hl) (ev_and rfl fun h3 => ev_bind (ev_bind (l2Sum_ev w hl (take_sum64 (by omega) (by omega) h3.1 (by omega))) (ev_some _)) (ev_some _))
/-- A sum of weights times numbers, of the first demands. -/
def wsum (w : List Int) (f : Int → Int) : Nat → Int
  | 0 => 0
  | n + 1 => wsum w f n + rd w (n : Int) * f (n : Int)
theorem wsum_congr {w : List Int} {f g : Int → Int} (n : Nat) (h : ∀ i : Nat, i < n → f (i : Int) = g (i : Int)) : wsum w f n = wsum w g n := by
  induction n with
  | zero => rfl
  | succ n ih => simp only [wsum]; rw [ih fun i hi => h i (by omega), h n (by omega)]
theorem wsum_add (w : List Int) (f g : Int → Int) (n : Nat) : wsum w (fun d => f d + g d) n = wsum w f n + wsum w g n := by
  induction n with
  | zero => rfl
  | succ n ih => simp only [wsum]; rw [ih, Int.mul_add]; omega
theorem wsum_mul (w : List Int) (f : Int → Int) (c : Int) (n : Nat) : wsum w (fun d => c * f d) n = c * wsum w f n := by
  induction n with
  | zero => simp [wsum]
  | succ n ih => simp only [wsum]; rw [ih, Int.mul_add]; grind
theorem wsum_sub (w : List Int) (f g : Int → Int) (n : Nat) : wsum w (fun d => f d - g d) n = wsum w f n - wsum w g n := by
  induction n with
  | zero => rfl
  | succ n ih => simp only [wsum]; rw [ih, Int.mul_sub]; omega
theorem wsum_mono {w : List Int} {f g : Int → Int} (hw : ∀ i : Nat, i < w.length → 0 ≤ rd w (i : Int)) (n : Nat) (hn : n ≤ w.length) (h : ∀ i : Nat, i < n → f (i : Int) ≤ g (i : Int)) : wsum w f n ≤ wsum w g n := by
  induction n with
  | zero => exact Int.le_refl _
  | succ n ih =>
    simp only [wsum]
    have h1 := ih (by omega) fun i hi => h i (by omega)
    have h2 := Int.mul_le_mul_of_nonneg_left (h n (by omega)) (hw n (by omega))
    omega
theorem wsum_one (w : List Int) (n : Nat) (hn : n ≤ w.length) : wsum w (fun _ => 1) n = (w.take n).sum := by
  induction n with
  | zero => simp [wsum]
  | succ n ih => simp only [wsum]; rw [ih (by omega), Int.mul_one, take_sum_succ w n (by omega)]
theorem wsum_in {w : List Int} {f : Int → Int} {B : Int} (hB : 0 ≤ B) (hw : ∀ x ∈ w, 0 ≤ x ∧ x ≤ 1000) (hf : ∀ i : Nat, i < w.length → 0 ≤ f (i : Int) ∧ f (i : Int) ≤ B) (n : Nat) (hn : n ≤ w.length) : 0 ≤ wsum w f n ∧ wsum w f n ≤ n * (1000 * B) := by
  induction n with
  | zero => simp [wsum]
  | succ n ih =>
    have h1 := ih (by omega)
    have h2 : 0 ≤ rd w (n : Int) ∧ rd w (n : Int) ≤ 1000 := by rw [rd_nat w n (by omega)]; exact hw _ (List.getElem_mem _)
    have h3 := hf n (by omega)
    have h4 := mulb h2.1 h2.2 h3.1 h3.2
    simp only [wsum]
    rw [show (((n + 1 : Nat) : Int)) * (1000 * B) = n * (1000 * B) + 1000 * B by rw [Int.natCast_add, Int.add_mul]; omega]
    omega
theorem tot_one (w : List Int) : w.sum = wsum w (fun _ => 1) w.length := by rw [wsum_one w _ (Nat.le_refl _), List.take_length]
/-- The positive part of a number. -/
def pos (x : Int) : Int := if 0 < x then x else 0
theorem pos_in {x b : Int} (h : x ≤ b) (hb : 0 ≤ b) : 0 ≤ pos x ∧ pos x ≤ b := by
  unfold pos
  split <;> omega
theorem most_pos (x : Int) : spec_l1Most.f 0 x = some (pos x) := by
  unfold spec_l1Most.f pos
  by_cases h : 0 < x
  · rw [if_pos h, if_neg (by omega)]
  · rw [if_neg h]
    by_cases h2 : (0 : Int) > x
    · rw [if_pos h2]
    · rw [if_neg h2, show x = 0 by omega]
def overN (w : List Int) (q : Int) : Int := wsum w (fun d => pos (q - d)) w.length
def shortN (w : List Int) (q : Int) : Int := wsum w (fun d => pos (d - q)) w.length
def costN (w : List Int) (o u q : Int) : Int := o * overN w q + u * shortN w q
def upToN (w : List Int) (q : Int) : Int := wsum w (fun d => if d ≤ q then 1 else 0) w.length
def meanN (w : List Int) : Int := wsum w (fun d => d) w.length
section
variable {w : List Int} (hD : DistOk w)
include hD
theorem dist_rd (i : Nat) (hi : i < w.length) : 0 ≤ rd w (i : Int) ∧ rd w (i : Int) ≤ 1000 := rd_in hD.2.1 i hi
theorem over_in {q : Int} (h : 0 ≤ q ∧ q ≤ 100) (n : Nat) (hn : n ≤ w.length) : 0 ≤ wsum w (fun d => pos (q - d)) n ∧ wsum w (fun d => pos (q - d)) n ≤ 1600000 := by
  have := wsum_in (f := fun d => pos (q - d)) (B := 100) (by omega) hD.2.1 (fun i hi => pos_in (by omega) (by omega)) n hn
  have := hD.1
  omega
theorem short_in {q : Int} (h : 0 ≤ q ∧ q ≤ 100) (n : Nat) (hn : n ≤ w.length) : 0 ≤ wsum w (fun d => pos (d - q)) n ∧ wsum w (fun d => pos (d - q)) n ≤ 1600000 := by
  have l := hD.1
  have := wsum_in (f := fun d => pos (d - q)) (B := 100) (by omega) hD.2.1 (fun i hi => pos_in (by omega) (by omega)) n hn
  omega
theorem cost_in {o u q : Int} (ho : 0 ≤ o ∧ o ≤ 20) (hu : 0 ≤ u ∧ u ≤ 20) (h : 0 ≤ q ∧ q ≤ 100) : 0 ≤ costN w o u q ∧ costN w o u q ≤ 64000000 := by
  have h1 := over_in hD h w.length (Nat.le_refl _)
  have h2 := short_in hD h w.length (Nat.le_refl _)
  have h3 := mulb ho.1 ho.2 h1.1 h1.2
  have h4 := mulb hu.1 hu.2 h2.1 h2.2
  unfold costN overN shortN
  omega
theorem tot_le : 0 < w.sum ∧ w.sum ≤ 16000 := by
  have := sum_nonneg hD.2.1
  have := hD.1
  have := hD.2.2
  omega
theorem sum64 : ∀ i, -9223372036854775808 ≤ (w.take i).sum ∧ (w.take i).sum ≤ 9223372036854775807 := take_sum64 (by omega) (by omega) hD.2.1 (by have := hD.1; omega)
theorem distTotal_ev : Ev (fun k => impl_total.f k w) w.sum := total_ev w (by have := hD.1; omega) (sum64 hD)
theorem specTotal_ev : Ev (fun k => spec_l5Total.f k w) w.sum := by
  unfold spec_l5Total.f
  exact ev_bind (l2Sum_ev w (by have := hD.1; omega) (sum64 hD)) (ev_some _)
theorem weighted_l0 {g : Int → Option Int} {f : Int → Int} (hg : ∀ n : Nat, n < w.length → g (n : Int) = some (f (n : Int))) (hf : ∀ n : Nat, n < w.length → 0 ≤ f (n : Int) ∧ f (n : Int) ≤ 100) (d : Nat) : ∀ i : Nat, i + d = w.length →
    Ev (fun k => impl_weighted.l0 g k (wsum w f i) w (w.length : Int) (i : Int)) (wsum w f w.length) := by
  have hl := hD.1
  induction d with
  | zero =>
    intro i hi
    refine ev_succ ?_
    simp only [impl_weighted.l0]
    refine ev_neg (by omega) ?_
    rw [show i = w.length by omega]
    exact ev_some _
  | succ d ih =>
    intro i hi
    have q := ih (i + 1) (by omega)
    have b1 := wsum_in (B := 100) (by omega) hD.2.1 hf (i + 1) (by omega)
    have b2 := dist_rd hD i (by omega)
    have b3 := hf i (by omega)
    have b4 := mulb b2.1 b2.2 b3.1 b3.2
    have hw : wrap64 ((i : Int) + 1) = ((i + 1 : Nat) : Int) := by rw [wid (by omega) (by omega)]; omega
    simp only [wsum] at q b1
    refine ev_succ ?_
    simp only [impl_weighted.l0, hg i (by omega), Option.bind_some]
    rw [hw, wid (x := rd w (i : Int) * f (i : Int)) (by omega) (by omega), wid (x := wsum w f i + rd w (i : Int) * f (i : Int)) (by omega) (by omega)]
    exact ev_pos (by omega) (ev_pos (by omega) (ev_pos (by omega) q))
theorem weighted_ev {g : Int → Option Int} {f : Int → Int} (hg : ∀ n : Nat, n < w.length → g (n : Int) = some (f (n : Int))) (hf : ∀ n : Nat, n < w.length → 0 ≤ f (n : Int) ∧ f (n : Int) ≤ 100) : Ev (fun k => impl_weighted.f k w g) (wsum w f w.length) := by
  unfold impl_weighted.f
  exact weighted_l0 hD hg hf w.length 0 (by omega)
theorem implOver_ev {q : Int} (h : 0 ≤ q ∧ q ≤ 100) : Ev (fun k => impl_overSum.f k w q) (overN w q) := by
  unfold impl_overSum.f overN
  have hl := hD.1
  refine ev_bind (weighted_ev hD (f := fun d => pos (q - d)) (fun n hn => ?_) (fun n hn => pos_in (by omega) (by omega))) (ev_some _)
  rw [wid (by omega) (by omega)]
  rfl
theorem implShort_ev {q : Int} (h : 0 ≤ q ∧ q ≤ 100) : Ev (fun k => impl_shortSum.f k w q) (shortN w q) := by
  unfold impl_shortSum.f shortN
  have hl := hD.1
  refine ev_bind (weighted_ev hD (f := fun d => pos (d - q)) (fun n hn => ?_) (fun n hn => pos_in (by omega) (by omega))) (ev_some _)
  rw [wid (by omega) (by omega)]
  rfl
theorem implCost_ev {o u q : Int} (ho : 0 ≤ o ∧ o ≤ 20) (hu : 0 ≤ u ∧ u ≤ 20) (h : 0 ≤ q ∧ q ≤ 100) : Ev (fun k => impl_costSum.f k w o u q) (costN w o u q) := by
  unfold impl_costSum.f costN
  have h1 := over_in hD h w.length (Nat.le_refl _)
  have h2 := short_in hD h w.length (Nat.le_refl _)
  have h3 := mulb ho.1 ho.2 h1.1 h1.2
  have h4 := mulb hu.1 hu.2 h2.1 h2.2
  refine ev_bind (implOver_ev hD h) (ev_bind (implShort_ev hD h) (ev_cast (ev_some _) ?_))
  unfold overN shortN
  rw [wid (x := o * _) (by omega) (by omega), wid (x := u * _) (by omega) (by omega), wid (by omega) (by omega)]
/-! The cost sums are convex. -/
omit hD in
theorem over_step (q : Int) : overN w (q + 1) = overN w q + upToN w q := by
  unfold overN upToN
  rw [← wsum_add]
  refine wsum_congr _ fun i _ => ?_
  unfold pos
  repeat' split
  all_goals omega
theorem short_step (q : Int) : shortN w (q + 1) = shortN w q - (w.sum - upToN w q) := by
  have _ := hD
  rw [tot_one w]
  unfold shortN upToN
  rw [← wsum_sub, ← wsum_sub]
  refine wsum_congr _ fun i _ => ?_
  unfold pos
  repeat' split
  all_goals omega
theorem cost_step (o u q : Int) : costN w o u (q + 1) - costN w o u q = (o + u) * upToN w q - u * w.sum := by
  unfold costN
  rw [over_step, short_step hD]
  grind
theorem over_short (q : Int) : overN w q - shortN w q = q * w.sum - meanN w := by
  have _ := hD
  rw [tot_one w]
  unfold overN shortN meanN
  rw [← wsum_sub, ← wsum_mul, ← wsum_sub]
  refine wsum_congr _ fun i _ => ?_
  unfold pos
  repeat' split
  all_goals omega
theorem upTo_mono {p q : Int} (h : p ≤ q) : upToN w p ≤ upToN w q := by
  unfold upToN
  refine wsum_mono (fun i hi => (dist_rd hD i hi).1) _ (Nat.le_refl _) fun i _ => ?_
  repeat' split
  all_goals omega
theorem upTo_le (q : Int) : 0 ≤ upToN w q ∧ upToN w q ≤ w.sum := by
  rw [tot_one w]
  refine ⟨(wsum_in (f := fun d => if d ≤ q then 1 else 0) (B := 1) (by omega) hD.2.1 (fun i _ => by show 0 ≤ (if (i : Int) ≤ q then (1 : Int) else 0) ∧ (if (i : Int) ≤ q then (1 : Int) else 0) ≤ 1; split <;> omega) _ (Nat.le_refl _)).1, ?_⟩
  unfold upToN
  refine wsum_mono (fun i hi => (dist_rd hD i hi).1) _ (Nat.le_refl _) fun i _ => ?_
  repeat' split
  all_goals omega
theorem upTo_full {q : Int} (h : (w.length : Int) - 1 ≤ q) : upToN w q = w.sum := by
  have _ := hD
  rw [tot_one w]
  unfold upToN
  refine wsum_congr _ fun i hi => ?_
  exact if_pos (by omega)
omit hD in
theorem upTo_take (q : Int) (h : -1 ≤ q) (n : Nat) : wsum w (fun d => if d ≤ q then 1 else 0) n = wsum w (fun _ => 1) (min (q + 1).toNat n) := by
  induction n with
  | zero => simp [wsum]
  | succ n ih =>
    simp only [wsum]
    rw [ih]
    by_cases c : (n : Int) ≤ q
    · rw [if_pos c, show min (q + 1).toNat n = n by omega, show min (q + 1).toNat (n + 1) = n + 1 by omega]
      rfl
    · rw [if_neg c, show min (q + 1).toNat (n + 1) = min (q + 1).toNat n by omega]
      omega
end
/-- The least number with a property. -/
theorem least_of {P : Nat → Prop} [DecidablePred P] (n : Nat) (h : P n) : ∃ m, m ≤ n ∧ P m ∧ ∀ j, j < m → ¬ P j := by
  induction n using Nat.strongRecOn with
  | _ n ih =>
    by_cases c : ∃ j, j < n ∧ P j
    · obtain ⟨j, hj, pj⟩ := c
      obtain ⟨m, a, b, e⟩ := ih j hj pj
      exact ⟨m, by omega, b, e⟩
    · exact ⟨n, Nat.le_refl _, h, fun j hj pj => c ⟨j, hj, pj⟩⟩
/-- What the critical order is. -/
def Crit (w : List Int) (o u : Int) (q : Int) : Prop := 0 ≤ q ∧ q ≤ (w.length : Int) - 1 ∧ u * w.sum ≤ (o + u) * upToN w q ∧ ∀ j : Int, 0 ≤ j → j < q → (o + u) * upToN w j < u * w.sum
theorem crit_ex {w : List Int} (hD : DistOk w) {o u : Int} (ho : 0 ≤ o) (hu : 0 ≤ u) : ∃ q, Crit w o u q := by
  have hl := hD.1
  have hT := hD.2.2
  obtain ⟨m, a, b, e⟩ := least_of (P := fun n => u * w.sum ≤ (o + u) * upToN w (n : Int)) (w.length - 1) (by
    rw [upTo_full hD (by omega)]
    exact Int.mul_le_mul_of_nonneg_right (by omega) (by omega))
  refine ⟨(m : Int), by omega, by omega, b, fun j h0 h1 => ?_⟩
  have := e j.toNat (by omega)
  rw [Int.toNat_of_nonneg h0] at this
  omega
theorem crit_less {w : List Int} (hD : DistOk w) {o u q : Int} (h : Crit w o u q) (j : Int) (h0 : 0 ≤ j) (hj : j < q) : costN w o u (j + 1) < costN w o u j := by
  have := cost_step hD o u j
  have := h.2.2.2 j h0 hj
  omega
theorem crit_more {w : List Int} (hD : DistOk w) {o u q : Int} (ho : 0 ≤ o) (hu : 0 ≤ u) (h : Crit w o u q) (j : Int) (hj : q ≤ j) : costN w o u j ≤ costN w o u (j + 1) := by
  have h1 := cost_step hD o u j
  have h2 := upTo_mono hD hj
  have h3 := Int.mul_le_mul_of_nonneg_left h2 (show 0 ≤ o + u by omega)
  have h4 := h.2.2.1
  omega
theorem crit_right {w : List Int} (hD : DistOk w) {o u q : Int} (ho : 0 ≤ o) (hu : 0 ≤ u) (h : Crit w o u q) (d : Nat) : costN w o u q ≤ costN w o u (q + d) := by
  induction d with
  | zero => simp
  | succ d ih =>
    have := crit_more hD ho hu h (q + d) (by omega)
    rw [show q + ((d + 1 : Nat) : Int) = q + d + 1 by omega]
    omega
theorem crit_left {w : List Int} (hD : DistOk w) {o u q : Int} (h : Crit w o u q) (d : Nat) : ∀ j : Int, 0 ≤ j → j + d + 1 = q → costN w o u q < costN w o u j := by
  induction d with
  | zero =>
    intro j h0 hj
    have := crit_less hD h j h0 (by omega)
    rw [show q = j + 1 by omega]
    exact this
  | succ d ih =>
    intro j h0 hj
    have h1 := ih (j + 1) (by omega) (by omega)
    have h2 := crit_less hD h j h0 (by omega)
    omega
/-- The critical order costs least. -/
theorem crit_best {w : List Int} (hD : DistOk w) {o u q : Int} (ho : 0 ≤ o) (hu : 0 ≤ u) (h : Crit w o u q) (j : Int) (h0 : 0 ≤ j) : costN w o u q ≤ costN w o u j := by
  by_cases c : q ≤ j
  · have := crit_right hD ho hu h (j - q).toNat
    rwa [show q + ((j - q).toNat : Int) = j by omega] at this
  · have := crit_left hD h (q - j - 1).toNat j h0 (by omega)
    omega
section
variable {w : List Int} (hD : DistOk w)
include hD
theorem specShort_l0 {q : Int} (h : 0 ≤ q ∧ q ≤ 100) (d : Nat) : ∀ i : Nat, i + d = w.length → Ev (fun k => spec_l5Short.l0 k w q (wsum w (fun d => pos (d - q)) i) (i : Int)) (shortN w q) := by
  have hl := hD.1
  induction d with
  | zero =>
    intro i hi
    refine ev_succ ?_
    simp only [spec_l5Short.l0]
    refine ev_neg (by omega) ?_
    rw [show i = w.length by omega]
    exact ev_some _
  | succ d ih =>
    intro i hi
    have z := ih (i + 1) (by omega)
    have b1 := short_in hD h (i + 1) (by omega)
    have b2 := dist_rd hD i (by omega)
    have b3 := pos_in (show (i : Int) - q ≤ 100 by omega) (by omega)
    have b4 := mulb b2.1 b2.2 b3.1 b3.2
    have b5 := short_in hD h i (by omega)
    have hw : wrap64 ((i : Int) + 1) = ((i + 1 : Nat) : Int) := by rw [wid (by omega) (by omega)]; omega
    simp only [wsum] at z b1
    refine ev_succ ?_
    simp only [spec_l5Short.l0]
    rw [hw, wid (x := (i : Int) - q) (by omega) (by omega), most_pos]
    simp only [Option.bind_some]
    rw [wid (x := rd w (i : Int) * pos ((i : Int) - q)) (by omega) (by omega), wid (by omega) (by omega)]
    exact ev_pos (by omega) (ev_pos (by omega) z)
theorem specShort_ev {q : Int} (h : 0 ≤ q ∧ q ≤ 100) : Ev (fun k => spec_l5Short.f k w q) (shortN w q) := by
  unfold spec_l5Short.f
  exact specShort_l0 hD h w.length 0 (by omega)
end
section
variable {w : List Int} (hD : DistOk w)
include hD
theorem specOver_l0 {q : Int} (h : 0 ≤ q ∧ q ≤ 100) (d : Nat) : ∀ i : Nat, i + d = w.length → Ev (fun k => spec_l5Over.l0 k w q (wsum w (fun d => pos (q - d)) i) (i : Int)) (overN w q) := by
  have hl := hD.1
  induction d with
  | zero =>
    intro i hi
    refine ev_succ ?_
    simp only [spec_l5Over.l0]
    refine ev_neg (by omega) ?_
    rw [show i = w.length by omega]
    exact ev_some _
  | succ d ih =>
    intro i hi
    have z := ih (i + 1) (by omega)
    have b1 := over_in hD h (i + 1) (by omega)
    have b2 := dist_rd hD i (by omega)
    have b3 := pos_in (show q - (i : Int) ≤ 100 by omega) (by omega)
    have b4 := mulb b2.1 b2.2 b3.1 b3.2
    have b5 := over_in hD h i (by omega)
    have hw : wrap64 ((i : Int) + 1) = ((i + 1 : Nat) : Int) := by rw [wid (by omega) (by omega)]; omega
    simp only [wsum] at z b1
    refine ev_succ ?_
    simp only [spec_l5Over.l0]
    rw [hw, wid (x := q - (i : Int)) (by omega) (by omega), most_pos]
    simp only [Option.bind_some]
    rw [wid (x := rd w (i : Int) * pos (q - (i : Int))) (by omega) (by omega), wid (by omega) (by omega)]
    exact ev_pos (by omega) (ev_pos (by omega) z)
theorem specOver_ev {q : Int} (h : 0 ≤ q ∧ q ≤ 100) : Ev (fun k => spec_l5Over.f k w q) (overN w q) := by
  unfold spec_l5Over.f
  exact specOver_l0 hD h w.length 0 (by omega)
theorem specCost_ev {o u q : Int} (ho : 0 ≤ o ∧ o ≤ 20) (hu : 0 ≤ u ∧ u ≤ 20) (h : 0 ≤ q ∧ q ≤ 100) : Ev (fun k => spec_l5Cost.f k w o u q) (costN w o u q) := by
  unfold spec_l5Cost.f costN
  have h1 := over_in hD h w.length (Nat.le_refl _)
  have h2 := short_in hD h w.length (Nat.le_refl _)
  have h3 := mulb ho.1 ho.2 h1.1 h1.2
  have h4 := mulb hu.1 hu.2 h2.1 h2.2
  refine ev_bind (specOver_ev hD h) (ev_bind (specShort_ev hD h) (ev_cast (ev_some _) ?_))
  unfold overN shortN
  rw [wid (x := o * _) (by omega) (by omega), wid (x := u * _) (by omega) (by omega), wid (by omega) (by omega)]
end
theorem charges_ev (l : List Int) (hl : l.length ≤ 1000) : Ev (fun k => impl_areCharges.f k l) (decide (∀ x ∈ l, 0 ≤ x ∧ x ≤ 20)) := by
  unfold impl_areCharges.f
  exact ev_bind (allWithin_ev l 0 20 (by omega)) (ev_some _)
def ChOk (o u : Int) : Prop := (0 ≤ o ∧ o ≤ 20) ∧ (0 ≤ u ∧ u ≤ 20)
instance (o u : Int) : Decidable (ChOk o u) := by unfold ChOk; infer_instance
theorem charges2_ev (o u : Int) : Ev (fun k => impl_areCharges.f k [o, u]) (decide (ChOk o u)) := ev_dec (charges_ev [o, u] (by simp)) (by unfold ChOk; simp)
theorem implUpTo_ev {w : List Int} (hD : DistOk w) {q : Int} (h : 0 ≤ q ∧ q ≤ 100) : Ev (fun k => impl_upTo.f k w q) (upToN w q) := by
  have hl := hD.1
  unfold impl_upTo.f
  rw [wid (by omega) (by omega)]
  have e : mn (q + 1) (w.length : Int) = ((min (q + 1).toNat w.length : Nat) : Int) := by unfold mn; split <;> omega
  rw [e, Int.toNat_natCast]
  have t := sum64 hD
  refine ev_pos (by omega) (ev_pos (by omega) (ev_bind (total_ev (w.take (min (q + 1).toNat w.length)) (by rw [List.length_take]; omega) (fun i => by rw [List.take_take]; exact t _)) (ev_cast (ev_some _) ?_)))
  unfold upToN
  rw [upTo_take q (by omega), wsum_one w _ (by omega)]
theorem implCrit_l0 {w : List Int} (hD : DistOk w) {o u q : Int} (hc : ChOk o u) (h : Crit w o u q) (d : Nat) : ∀ j : Int, 0 ≤ j → j + d = q → Ev (fun k => impl_CriticalOrder.l0 k w o u j) (q, true) := by
  have hl := hD.1
  obtain ⟨ho, hu⟩ := hc
  have hT := tot_le hD
  have m2 := mulb hu.1 hu.2 (show 0 ≤ w.sum by omega) hT.2
  have hq := h.2.1
  have m1 : ∀ j : Int, 0 ≤ (o + u) * upToN w j ∧ (o + u) * upToN w j ≤ 40 * 16000 := fun j => by
    have := upTo_le hD j
    exact mulb (by omega) (by omega) this.1 (by omega)
  induction d with
  | zero =>
    intro j h0 hj
    have e : j = q := by omega
    subst e
    have := m1 j
    refine ev_succ ?_
    simp only [impl_CriticalOrder.l0]
    refine ev_bind (implUpTo_ev hD ⟨h0, by omega⟩) (ev_bind (distTotal_ev hD) ?_)
    rw [wid (x := o + u) (by omega) (by omega), wid (x := (o + u) * upToN w j) (by omega) (by omega), wid (x := u * w.sum) (by omega) (by omega)]
    exact ev_neg (by have := h.2.2.1; omega) (ev_some _)
  | succ d ih =>
    intro j h0 hj
    have := m1 j
    have z := ih (j + 1) (by omega) (by omega)
    refine ev_succ ?_
    simp only [impl_CriticalOrder.l0]
    refine ev_bind (implUpTo_ev hD ⟨h0, by omega⟩) (ev_bind (distTotal_ev hD) ?_)
    rw [wid (x := o + u) (by omega) (by omega), wid (x := (o + u) * upToN w j) (by omega) (by omega), wid (x := u * w.sum) (by omega) (by omega), wid (x := j + 1) (by omega) (by omega)]
    exact ev_pos (h.2.2.2 j h0 (by omega)) z
theorem implCrit_no {w : List Int} {o u : Int} (hl : w.length ≤ 35184372088832) (h : ¬ (DistOk w ∧ ChOk o u)) : Ev (fun k => impl_CriticalOrder.f k w o u) (0, false) := by
  unfold impl_CriticalOrder.f
  refine ev_bind (implDist_ev w hl) ?_
  by_cases c : DistOk w
  · refine ev_pos (decide_eq_true c) (ev_bind (charges2_ev o u) (ev_succ ?_))
    simp only [impl_CriticalOrder.j0]
    exact ev_pos (by rw [decide_eq_false fun x => h ⟨c, x⟩]; rfl) (ev_some _)
  · refine ev_neg (by rw [decide_eq_true_eq]; exact c) (ev_succ ?_)
    simp only [impl_CriticalOrder.j0]
    exact ev_pos trivial (ev_some _)
theorem implCrit_yes {w : List Int} {o u q : Int} (hD : DistOk w) (hc : ChOk o u) (h : Crit w o u q) : Ev (fun k => impl_CriticalOrder.f k w o u) (q, true) := by
  have hl := hD.1
  unfold impl_CriticalOrder.f
  refine ev_bind (implDist_ev w (by omega)) (ev_pos (decide_eq_true hD) (ev_bind (charges2_ev o u) (ev_succ ?_)))
  simp only [impl_CriticalOrder.j0]
  refine ev_neg (by rw [decide_eq_true hc]; simp) ?_
  exact implCrit_l0 hD hc h q.toNat 0 (by omega) (by have := h.1; omega)
theorem specUpTo_l0 {w : List Int} (hD : DistOk w) {q : Int} (h : 0 ≤ q ∧ q ≤ 100) (d : Nat) : ∀ i : Nat, i + d = min (q + 1).toNat w.length →
    Ev (fun k => spec_l5UpTo.l0 k w q (w.take i).sum (i : Int)) (upToN w q) := by
  have hl := hD.1
  have t := sum64 hD
  induction d with
  | zero =>
    intro i hi
    have e : upToN w q = (w.take i).sum := by
      unfold upToN
      rw [upTo_take q (by omega), ← hi, Nat.add_zero, wsum_one w _ (by omega)]
    rw [e]
    refine ev_succ ?_
    simp only [spec_l5UpTo.l0]
    by_cases c : (i : Int) < (w.length : Int)
    · exact ev_pos c (ev_neg (by omega) (ev_some _))
    · exact ev_neg c (ev_some _)
  | succ d ih =>
    intro i hi
    have z := ih (i + 1) (by omega)
    have hw : wrap64 ((i : Int) + 1) = ((i + 1 : Nat) : Int) := by rw [wid (by omega) (by omega)]; omega
    refine ev_succ ?_
    simp only [spec_l5UpTo.l0]
    rw [hw, take_sum_succ w i (by omega), wid (t _).1 (t _).2]
    exact ev_pos (by omega) (ev_pos (by omega) (ev_pos (by omega) z))
theorem specUpTo_ev {w : List Int} (hD : DistOk w) {q : Int} (h : 0 ≤ q ∧ q ≤ 100) : Ev (fun k => spec_l5UpTo.f k w q) (upToN w q) := by
  unfold spec_l5UpTo.f
  exact specUpTo_l0 hD h _ 0 (Nat.zero_add _)
theorem implMean_ev {w : List Int} (hD : DistOk w) : Ev (fun k => impl_meanSum.f k w) (meanN w) := by
  have hl := hD.1
  unfold impl_meanSum.f meanN
  exact ev_bind (weighted_ev hD (f := fun d => d) (fun n hn => rfl) (fun n hn => by show 0 ≤ (n : Int) ∧ (n : Int) ≤ 100; omega)) (ev_some _)
theorem mean_in {w : List Int} (hD : DistOk w) : 0 ≤ meanN w ∧ meanN w ≤ 1600000 := by
  have l := hD.1
  have := wsum_in (f := fun d => d) (B := 100) (by omega) hD.2.1 (fun i hi => by show 0 ≤ (i : Int) ∧ (i : Int) ≤ 100; omega) w.length (Nat.le_refl _)
  unfold meanN
  omega
theorem short_zero (w : List Int) : shortN w 0 = meanN w := by
  unfold shortN meanN
  refine wsum_congr _ fun i _ => ?_
  unfold pos
  split <;> omega
theorem vInts_l0 (l : List Int) (hl : l.length ≤ 1000000) (d : Nat) : ∀ i : Nat, i + d = l.length → Ev (fun k => laws_vInts.l0 k l l (i : Int)) true := by
  induction d with
  | zero =>
    intro i hi
    refine ev_succ ?_
    simp only [laws_vInts.l0]
    exact ev_neg (by omega) (ev_some _)
  | succ d ih =>
    intro i hi
    have z := ih (i + 1) (by omega)
    refine ev_succ ?_
    simp only [laws_vInts.l0]
    rw [show wrap64 ((i : Int) + 1) = ((i + 1 : Nat) : Int) by rw [wid (by omega) (by omega)]; omega]
    exact ev_pos (by omega) (ev_pos (by omega) (ev_pos (by omega) (ev_pos trivial z)))
theorem vInts_ev (l : List Int) (hl : l.length ≤ 1000000) : Ev (fun k => laws_vInts.f k l l) true := by
  unfold laws_vInts.f
  exact ev_pos rfl (vInts_l0 l hl l.length 0 (by omega))
theorem costSum_ev {w : List Int} {o u q : Int} (hD : DistOk w) (hc : ChOk o u) (h : 0 ≤ q ∧ q ≤ 15) : Ev (fun k => impl_CostSum.f k w o u q) (costN w o u q, true) := by
  have hl := hD.1
  unfold impl_CostSum.f impl_isOrder.f
  simp only [within_eq, Option.bind_some]
  refine ev_bind (implDist_ev w (by omega)) (ev_pos (decide_eq_true hD) (ev_bind (charges2_ev o u) (ev_pos (decide_eq_true hc) (ev_pos (decide_eq_true h) (ev_bind (implCost_ev hD hc.1 hc.2 (by omega)) (ev_some _))))))
theorem meanSum_ev {w : List Int} (hD : DistOk w) : Ev (fun k => impl_MeanSum.f k w) (meanN w, true) := by
  have hl := hD.1
  unfold impl_MeanSum.f
  exact ev_bind (implDist_ev w (by omega)) (ev_pos (decide_eq_true hD) (ev_bind (implMean_ev hD) (ev_some _)))

theorem specCharges_ev (o u : Int) : spec_l5Charges.f o u = some (decide (ChOk o u)) := by
  unfold spec_l5Charges.f
  simp only [in_eq, Option.bind_some]
  by_cases c : 0 ≤ o ∧ o ≤ 20
  · rw [if_pos (decide_eq_true c)]
    exact congrArg some (decide_eq_decide.2 ⟨fun h => (⟨c, h⟩ : ChOk o u), fun h : ChOk o u => h.2⟩)
  · rw [if_neg (by rw [decide_eq_true_eq]; exact c)]
    exact congrArg some (decide_eq_false (fun h : ChOk o u => c h.1)).symm
theorem specCrit_l0 {w : List Int} (hD : DistOk w) {o u q : Int} (hc : ChOk o u) (h : Crit w o u q) (d : Nat) : ∀ j : Int, 0 ≤ j → j + d = q → Ev (fun k => spec_l5Critical.l0 k w o u j) q := by
  have hl := hD.1
  obtain ⟨ho, hu⟩ := hc
  have hT := tot_le hD
  have m2 := mulb hu.1 hu.2 (show 0 ≤ w.sum by omega) hT.2
  have hq := h.2.1
  have m1 : ∀ j : Int, 0 ≤ (o + u) * upToN w j ∧ (o + u) * upToN w j ≤ 40 * 16000 := fun j => by
    have := upTo_le hD j
    exact mulb (by omega) (by omega) this.1 (by omega)
  induction d with
  | zero =>
    intro j h0 hj
    have e : j = q := by omega
    subst e
    have := m1 j
    refine ev_succ ?_
    simp only [spec_l5Critical.l0]
    refine ev_bind (specUpTo_ev hD ⟨h0, by omega⟩) (ev_bind (specTotal_ev hD) ?_)
    rw [wid (x := o + u) (by omega) (by omega), wid (x := (o + u) * upToN w j) (by omega) (by omega), wid (x := u * w.sum) (by omega) (by omega)]
    exact ev_neg (by have := h.2.2.1; omega) (ev_some _)
  | succ d ih =>
    intro j h0 hj
    have := m1 j
    have z := ih (j + 1) (by omega) (by omega)
    refine ev_succ ?_
    simp only [spec_l5Critical.l0]
    refine ev_bind (specUpTo_ev hD ⟨h0, by omega⟩) (ev_bind (specTotal_ev hD) ?_)
    rw [wid (x := o + u) (by omega) (by omega), wid (x := (o + u) * upToN w j) (by omega) (by omega), wid (x := u * w.sum) (by omega) (by omega), wid (x := j + 1) (by omega) (by omega)]
    exact ev_pos (h.2.2.2 j h0 (by omega)) z
theorem specCritical_ev {w : List Int} (hD : DistOk w) {o u q : Int} (hc : ChOk o u) (h : Crit w o u q) : Ev (fun k => spec_l5Critical.f k w o u) q := by
  unfold spec_l5Critical.f
  exact specCrit_l0 hD hc h q.toNat 0 (by omega) (by have := h.1; omega)
theorem specCrit_no {w : List Int} {o u : Int} (hl : w.length ≤ 1000) (h : ¬ (DistOk w ∧ ChOk o u)) : Ev (fun k => spec_CriticalOrder.f k w o u) (0, false) := by
  unfold spec_CriticalOrder.f
  refine ev_bind (specDist_ev w (by omega)) ?_
  by_cases c : DistOk w
  · refine ev_pos (decide_eq_true c) ?_
    rw [specCharges_ev]
    simp only [Option.bind_some]
    exact ev_neg (by rw [decide_eq_true_eq]; exact fun z => h ⟨c, z⟩) (ev_some _)
  · exact ev_neg (by rw [decide_eq_true_eq]; exact c) (ev_some _)
theorem specCrit_yes {w : List Int} {o u q : Int} (hD : DistOk w) (hc : ChOk o u) (h : Crit w o u q) : Ev (fun k => spec_CriticalOrder.f k w o u) (q, true) := by
  have hl := hD.1
  unfold spec_CriticalOrder.f
  refine ev_bind (specDist_ev w (by omega)) (ev_pos (decide_eq_true hD) ?_)
  rw [specCharges_ev]
  simp only [Option.bind_some]
  exact ev_pos (decide_eq_true hc) (ev_bind (specCritical_ev hD hc h) (ev_some _))
/-! The best orders: a row of numbers from the critical one on. -/
def iv (q : Nat) (m : Nat) : List Int := (List.range m).map fun i : Nat => ((q + i : Nat) : Int)
theorem iv_succ (q m : Nat) : iv q (m + 1) = iv q m ++ [((q + m : Nat) : Int)] := by
  unfold iv
  rw [List.range_succ, List.map_append]
  rfl
theorem iv_len (q m : Nat) : (iv q m).length = m := by unfold iv; simp
theorem iv_rd (q m i : Nat) (h : i < m) : rd (iv q m) (i : Int) = ((q + i : Nat) : Int) := by
  rw [rd_nat _ i (by rw [iv_len]; exact h)]
  unfold iv
  simp
/-- M orders from q on cost as little as q, the others more. -/
structure Run (w : List Int) (o u : Int) (q M : Nat) : Prop where
  one : 1 ≤ M
  top : q + M ≤ 16
  crit : Crit w o u (q : Int)
  same : ∀ i : Nat, q ≤ i → i < q + M → costN w o u (i : Int) = costN w o u (q : Int)
  more : ∀ i : Nat, q + M ≤ i → i < 16 → costN w o u (q : Int) < costN w o u (i : Int)
theorem run_ex {w : List Int} (hD : DistOk w) {o u : Int} (hc : ChOk o u) {q : Nat} (h : Crit w o u (q : Int)) : ∃ M, Run w o u q M := by
  have hl := hD.1
  have hq := h.2.1
  obtain ⟨m, a, b, e⟩ := least_of (P := fun n => 16 ≤ q + n ∨ costN w o u ((q + n : Nat) : Int) ≠ costN w o u (q : Int)) (16 - q) (Or.inl (by omega))
  have m1 : 1 ≤ m := by
    rcases Nat.eq_zero_or_pos m with z | z
    · subst z
      rcases b with b | b
      · omega
      · exact absurd rfl b
    · exact z
  refine ⟨m, m1, by omega, h, fun i h1 h2 => ?_, fun i h1 h2 => ?_⟩
  · have := e (i - q) (by omega)
    rw [show q + (i - q) = i by omega] at this
    refine Classical.byContradiction fun c => this (Or.inr c)
  · have b2 : costN w o u ((q + m : Nat) : Int) ≠ costN w o u (q : Int) := by
      rcases b with b | b
      · omega
      · exact b
    have s : costN w o u (q : Int) < costN w o u ((q + m : Nat) : Int) := by
      have := crit_best hD hc.1.1 hc.2.1 h ((q + m : Nat) : Int) (by omega)
      omega
    have g : ∀ d : Nat, costN w o u ((q + m : Nat) : Int) ≤ costN w o u ((q + m + d : Nat) : Int) := fun d => by
      induction d with
      | zero => exact Int.le_refl _
      | succ d ih =>
        have := crit_more hD hc.1.1 hc.2.1 h ((q + m + d : Nat) : Int) (by omega)
        rw [show ((q + m + d : Nat) : Int) + 1 = ((q + m + (d + 1) : Nat) : Int) by omega] at this
        omega
    have := g (i - (q + m))
    rw [show q + m + (i - (q + m)) = i by omega] at this
    omega
theorem run_step {w : List Int} (hD : DistOk w) {o u : Int} {q M : Nat} (R : Run w o u q M) (y : Nat) (hy : y < 16) :
    (if costN w o u (y : Int) = costN w o u (q : Int) then iv q (min (y - q) M) ++ [(y : Int)] else iv q (min (y - q) M)) = iv q (min (y + 1 - q) M) := by
  have hl := hD.1
  by_cases c : y < q
  · have := crit_left hD R.crit (q - y - 1) (y : Int) (by omega) (by omega)
    rw [if_neg (by omega), show y - q = 0 by omega, show y + 1 - q = 0 by omega]
  · by_cases e : y < q + M
    · rw [if_pos (R.same y (by omega) e), show min (y - q) M = y - q by omega, show min (y + 1 - q) M = (y - q) + 1 by omega, iv_succ, show q + (y - q) = y by omega]
    · have := R.more y (by omega) hy
      rw [if_neg (by omega), show min (y - q) M = M by omega, show min (y + 1 - q) M = M by omega]
theorem specBest_l0 {w : List Int} (hD : DistOk w) {o u : Int} (hc : ChOk o u) {q M : Nat} (R : Run w o u q M) (d : Nat) : ∀ y : Nat, y + d = 16 →
    Ev (fun k => spec_BestOrders.l0 k w o u (iv q (min (y - q) M)) (costN w o u (q : Int)) (y : Int)) (iv q M, true) := by
  have hl := hD.1
  have ht := R.top
  induction d with
  | zero =>
    intro y hy
    refine ev_succ ?_
    simp only [spec_BestOrders.l0]
    rw [show min (y - q) M = M by omega]
    exact ev_neg (by omega) (ev_some _)
  | succ d ih =>
    intro y hy
    have z := ih (y + 1) (by omega)
    have st := run_step hD R y (by omega)
    refine ev_succ ?_
    simp only [spec_BestOrders.l0]
    rw [show wrap64 ((y : Int) + 1) = ((y + 1 : Nat) : Int) by rw [wid (by omega) (by omega)]; omega]
    refine ev_pos (by omega) (ev_bind (specCost_ev hD hc.1 hc.2 (by omega)) ?_)
    by_cases c : costN w o u (y : Int) = costN w o u (q : Int)
    · rw [if_pos c] at st
      rw [← st] at z
      exact ev_pos c (ev_pos (by rw [iv_len]; omega) z)
    · rw [if_neg c] at st
      rw [← st] at z
      exact ev_neg c z
/-- The program's list and least cost before order y. -/
theorem implBest_l0 {w : List Int} (hD : DistOk w) {o u : Int} (hc : ChOk o u) {q M : Nat} (R : Run w o u q M) (d : Nat) : ∀ y : Nat, y + d = 16 → q < y →
    Ev (fun k => impl_BestOrders.l0 k w o u (iv q (min (y - q) M)) (costN w o u (q : Int)) (y : Int)) (iv q M, true) := by
  have hl := hD.1
  have ht := R.top
  induction d with
  | zero =>
    intro y hy _
    refine ev_succ ?_
    simp only [impl_BestOrders.l0]
    rw [show min (y - q) M = M by omega]
    exact ev_neg (by omega) (ev_some _)
  | succ d ih =>
    intro y hy hlt
    have z := ih (y + 1) (by omega) (by omega)
    have st := run_step hD R y (by omega)
    have nb := crit_best hD hc.1.1 hc.2.1 R.crit (y : Int) (by omega)
    refine ev_succ ?_
    simp only [impl_BestOrders.l0]
    rw [show wrap64 ((y : Int) + 1) = ((y + 1 : Nat) : Int) by rw [wid (by omega) (by omega)]; omega]
    refine ev_pos (by omega) (ev_bind (implCost_ev hD hc.1 hc.2 (by omega)) (ev_neg (by omega) ?_))
    by_cases c : costN w o u (y : Int) = costN w o u (q : Int)
    · rw [if_pos c] at st
      rw [← st] at z
      exact ev_pos c (ev_pos (by rw [iv_len]; omega) z)
    · rw [if_neg c] at st
      rw [← st] at z
      exact ev_neg c z
theorem implBest_first {w : List Int} (hD : DistOk w) {o u : Int} (hc : ChOk o u) {q M : Nat} (R : Run w o u q M) (d : Nat) : ∀ (y : Nat) (xs : List Int) (b : Int), y + d = q → costN w o u (y : Int) < b →
    Ev (fun k => impl_BestOrders.l0 k w o u xs b (y : Int)) (iv q M, true) := by
  have hl := hD.1
  have ht := R.top
  have h1 := R.one
  induction d with
  | zero =>
    intro y xs b hy hb
    have e : y = q := by omega
    subst e
    have z := implBest_l0 hD hc R (15 - y) (y + 1) (by omega) (by omega)
    rw [show min (y + 1 - y) M = 0 + 1 by omega, iv_succ] at z
    refine ev_succ ?_
    simp only [impl_BestOrders.l0, Option.bind_some]
    rw [show wrap64 ((y : Int) + 1) = ((y + 1 : Nat) : Int) by rw [wid (by omega) (by omega)]; omega]
    exact ev_pos (by omega) (ev_bind (implCost_ev hD hc.1 hc.2 (by omega)) (ev_pos hb (ev_pos trivial (ev_pos (by simp) z))))
  | succ d ih =>
    intro y xs b hy hb
    have less := crit_less hD R.crit (y : Int) (by omega) (by omega)
    have z := ih (y + 1) ([] ++ [(y : Int)]) (costN w o u (y : Int)) (by omega) (by rw [show ((y + 1 : Nat) : Int) = (y : Int) + 1 by omega]; exact less)
    refine ev_succ ?_
    simp only [impl_BestOrders.l0, Option.bind_some]
    rw [show wrap64 ((y : Int) + 1) = ((y + 1 : Nat) : Int) by rw [wid (by omega) (by omega)]; omega]
    exact ev_pos (by omega) (ev_bind (implCost_ev hD hc.1 hc.2 (by omega)) (ev_pos hb (ev_pos trivial (ev_pos (by simp) z))))
theorem implBest_no {w : List Int} {o u : Int} (hl : w.length ≤ 1000) (h : ¬ (DistOk w ∧ ChOk o u)) : Ev (fun k => impl_BestOrders.f k w o u) ([], false) := by
  unfold impl_BestOrders.f
  refine ev_bind (implDist_ev w (by omega)) ?_
  by_cases c : DistOk w
  · refine ev_pos (decide_eq_true c) (ev_bind (charges2_ev o u) (ev_succ ?_))
    simp only [impl_BestOrders.j0]
    exact ev_pos (by rw [decide_eq_false fun x => h ⟨c, x⟩]; rfl) (ev_some _)
  · refine ev_neg (by rw [decide_eq_true_eq]; exact c) (ev_succ ?_)
    simp only [impl_BestOrders.j0]
    exact ev_pos trivial (ev_some _)
theorem implBest_yes {w : List Int} {o u : Int} {q M : Nat} (hD : DistOk w) (hc : ChOk o u) (R : Run w o u q M) : Ev (fun k => impl_BestOrders.f k w o u) (iv q M, true) := by
  have hl := hD.1
  have c0 := cost_in hD hc.1 hc.2 (q := 0) (by omega)
  unfold impl_BestOrders.f
  refine ev_bind (implDist_ev w (by omega)) (ev_pos (decide_eq_true hD) (ev_bind (charges2_ev o u) (ev_succ ?_)))
  simp only [impl_BestOrders.j0]
  refine ev_neg (by rw [decide_eq_true hc]; simp) ?_
  exact implBest_first hD hc R q 0 [] 1099511627776 (by omega) (Int.lt_of_le_of_lt c0.2 (by decide))
theorem specBest_no {w : List Int} {o u : Int} (hl : w.length ≤ 1000) (h : ¬ (DistOk w ∧ ChOk o u)) : Ev (fun k => spec_BestOrders.f k w o u) ([], false) := by
  unfold spec_BestOrders.f
  simp only [Option.bind_some, specCharges_ev]
  refine ev_bind (specDist_ev w (by omega)) ?_
  by_cases c : DistOk w
  · refine ev_pos (decide_eq_true c) (ev_succ ?_)
    simp only [spec_BestOrders.j0]
    exact ev_pos (by rw [decide_eq_false fun x => h ⟨c, x⟩]; rfl) (ev_some _)
  · refine ev_neg (by rw [decide_eq_true_eq]; exact c) (ev_succ ?_)
    simp only [spec_BestOrders.j0]
    exact ev_pos trivial (ev_some _)
theorem specBest_yes {w : List Int} {o u : Int} {q M : Nat} (hD : DistOk w) (hc : ChOk o u) (R : Run w o u q M) : Ev (fun k => spec_BestOrders.f k w o u) (iv q M, true) := by
  have hl := hD.1
  have hq := R.crit.2.1
  unfold spec_BestOrders.f
  simp only [Option.bind_some, specCharges_ev]
  refine ev_bind (specDist_ev w (by omega)) (ev_pos (decide_eq_true hD) (ev_succ ?_))
  simp only [spec_BestOrders.j0]
  refine ev_neg (by rw [decide_eq_true hc]; simp) (ev_bind (specCritical_ev hD hc R.crit) (ev_bind (specCost_ev hD hc.1 hc.2 (by omega)) ?_))
  have := specBest_l0 hD hc R 16 0 (by omega)
  rw [show min (0 - q) M = 0 by omega] at this
  exact this
/-! The small questions. -/
def OrOk (q : Int) : Prop := 0 ≤ q ∧ q ≤ 15
instance (q : Int) : Decidable (OrOk q) := by unfold OrOk; infer_instance
theorem implOrder_eq (q : Int) : impl_isOrder.f q = some (decide (OrOk q)) := by
  unfold impl_isOrder.f
  simp only [within_eq, Option.bind_some]
  rfl
theorem specOrder_ev (w : List Int) (q : Int) (hl : w.length ≤ 1000) : Ev (fun k => spec_l5Order.f k w q) (decide (DistOk w ∧ OrOk q)) := by
  unfold spec_l5Order.f
  simp only [in_eq, Option.bind_some]
  exact ev_bind (specDist_ev w (by omega)) (ev_and rfl fun _ => ev_some _)
def ansC (w : List Int) (o u q : Int) : Int × Bool := if DistOk w ∧ ChOk o u ∧ OrOk q then (costN w o u q, true) else (0, false)
def ansQ (w : List Int) (q v : Int) : Int × Bool := if DistOk w ∧ OrOk q then (v, true) else (0, false)
def ansD (w : List Int) (v : Int) : Int × Bool := if DistOk w then (v, true) else (0, false)
theorem implQ {w : List Int} {q v : Int} (hl : w.length ≤ 1000) {g : Nat → Option Int} (h : DistOk w → OrOk q → Ev g v) :
    Ev (fun k => (impl_IsDistribution.f k w).bind fun a => if a = true then (impl_isOrder.f q).bind fun b => if b = true then (g k).bind fun r => some (r, true) else some (0, false) else some (0, false)) (ansQ w q v) := by
  unfold ansQ
  refine ev_bind (implDist_ev w (by omega)) ?_
  simp only [implOrder_eq, Option.bind_some]
  by_cases c : DistOk w
  · refine ev_pos (decide_eq_true c) ?_
    by_cases e : OrOk q
    · rw [if_pos ⟨c, e⟩]
      exact ev_pos (decide_eq_true e) (ev_bind (h c e) (ev_some _))
    · rw [if_neg fun z => e z.2]
      exact ev_neg (by rw [decide_eq_true_eq]; exact e) (ev_some _)
  · rw [if_neg fun z => c z.1]
    exact ev_neg (by rw [decide_eq_true_eq]; exact c) (ev_some _)
theorem specQ {w : List Int} {q v : Int} (hl : w.length ≤ 1000) {g : Nat → Option Int} (h : DistOk w → OrOk q → Ev g v) :
    Ev (fun k => (spec_l5Order.f k w q).bind fun a => if a = true then (g k).bind fun r => some (r, true) else some (0, false)) (ansQ w q v) := by
  unfold ansQ
  refine ev_bind (specOrder_ev w q hl) ?_
  by_cases c : DistOk w ∧ OrOk q
  · rw [if_pos c]
    exact ev_pos (decide_eq_true c) (ev_bind (h c.1 c.2) (ev_some _))
  · rw [if_neg c]
    exact ev_neg (by rw [decide_eq_true_eq]; exact c) (ev_some _)
theorem implD {w : List Int} {v : Int} (hl : w.length ≤ 1000) {g : Nat → Option Int} (h : DistOk w → Ev g v) :
    Ev (fun k => (impl_IsDistribution.f k w).bind fun a => if a = true then (g k).bind fun r => some (r, true) else some (0, false)) (ansD w v) := by
  unfold ansD
  refine ev_bind (implDist_ev w (by omega)) ?_
  by_cases c : DistOk w
  · rw [if_pos c]
    exact ev_pos (decide_eq_true c) (ev_bind (h c) (ev_some _))
  · rw [if_neg c]
    exact ev_neg (by rw [decide_eq_true_eq]; exact c) (ev_some _)
theorem specD {w : List Int} {v : Int} (hl : w.length ≤ 1000) {g : Nat → Option Int} (h : DistOk w → Ev g v) :
    Ev (fun k => (spec_l5Good.f k w).bind fun a => if a = true then (g k).bind fun r => some (r, true) else some (0, false)) (ansD w v) := by
  unfold ansD
  refine ev_bind (specDist_ev w (by omega)) ?_
  by_cases c : DistOk w
  · rw [if_pos c]
    exact ev_pos (decide_eq_true c) (ev_bind (h c) (ev_some _))
  · rw [if_neg c]
    exact ev_neg (by rw [decide_eq_true_eq]; exact c) (ev_some _)
section
variable {w : List Int} (hl : w.length ≤ 1000)
include hl
theorem over1 (q : Int) : Ev (fun k => impl_OverSum.f k w q) (ansQ w q (overN w q)) := by unfold impl_OverSum.f; exact implQ hl fun a b => implOver_ev a (by unfold OrOk at b; omega)
theorem over2 (q : Int) : Ev (fun k => spec_OverSum.f k w q) (ansQ w q (overN w q)) := by unfold spec_OverSum.f; exact specQ hl fun a b => specOver_ev a (by unfold OrOk at b; omega)
theorem short1 (q : Int) : Ev (fun k => impl_ShortSum.f k w q) (ansQ w q (shortN w q)) := by unfold impl_ShortSum.f; exact implQ hl fun a b => implShort_ev a (by unfold OrOk at b; omega)
theorem short2 (q : Int) : Ev (fun k => spec_ShortSum.f k w q) (ansQ w q (shortN w q)) := by unfold spec_ShortSum.f; exact specQ hl fun a b => specShort_ev a (by unfold OrOk at b; omega)
theorem upto1 (q : Int) : Ev (fun k => impl_WeightUpTo.f k w q) (ansQ w q (upToN w q)) := by unfold impl_WeightUpTo.f; exact implQ hl fun a b => implUpTo_ev a (by unfold OrOk at b; omega)
theorem upto2 (q : Int) : Ev (fun k => spec_WeightUpTo.f k w q) (ansQ w q (upToN w q)) := by unfold spec_WeightUpTo.f; exact specQ hl fun a b => specUpTo_ev a (by unfold OrOk at b; omega)
theorem mean1 : Ev (fun k => impl_MeanSum.f k w) (ansD w (meanN w)) := by unfold impl_MeanSum.f; exact implD hl fun a => implMean_ev a
theorem mean2 : Ev (fun k => spec_MeanSum.f k w) (ansD w (meanN w)) := by unfold spec_MeanSum.f; exact specD hl fun a => ev_cast (specShort_ev a (by omega)) (short_zero w)
theorem tot1 : Ev (fun k => impl_TotalWeight.f k w) (ansD w w.sum) := by unfold impl_TotalWeight.f; exact implD hl fun a => distTotal_ev a
theorem tot2 : Ev (fun k => spec_TotalWeight.f k w) (ansD w w.sum) := by unfold spec_TotalWeight.f; exact specD hl fun a => specTotal_ev a
theorem cost1 (o u q : Int) : Ev (fun k => impl_CostSum.f k w o u q) (ansC w o u q) := by
  unfold impl_CostSum.f ansC
  simp only [implOrder_eq, Option.bind_some]
  refine ev_bind (implDist_ev w (by omega)) ?_
  by_cases c : DistOk w
  · refine ev_pos (decide_eq_true c) (ev_bind (charges2_ev o u) ?_)
    by_cases e : ChOk o u
    · refine ev_pos (decide_eq_true e) ?_
      by_cases f : OrOk q
      · rw [if_pos ⟨c, e, f⟩]
        exact ev_pos (decide_eq_true f) (ev_bind (implCost_ev c e.1 e.2 (by unfold OrOk at f; omega)) (ev_some _))
      · rw [if_neg fun z => f z.2.2]
        exact ev_neg (by rw [decide_eq_true_eq]; exact f) (ev_some _)
    · rw [if_neg fun z => e z.2.1]
      exact ev_neg (by rw [decide_eq_true_eq]; exact e) (ev_some _)
  · rw [if_neg fun z => c z.1]
    exact ev_neg (by rw [decide_eq_true_eq]; exact c) (ev_some _)
theorem cost2 (o u q : Int) : Ev (fun k => spec_CostSum.f k w o u q) (ansC w o u q) := by
  unfold spec_CostSum.f ansC
  simp only [specCharges_ev, Option.bind_some]
  refine ev_bind (specOrder_ev w q hl) ?_
  by_cases c : DistOk w ∧ OrOk q
  · refine ev_pos (decide_eq_true c) ?_
    by_cases e : ChOk o u
    · rw [if_pos ⟨c.1, e, c.2⟩]
      exact ev_pos (decide_eq_true e) (ev_bind (specCost_ev c.1 e.1 e.2 (by have f := c.2; unfold OrOk at f; omega)) (ev_some _))
    · rw [if_neg fun z => e z.2.1]
      exact ev_neg (by rw [decide_eq_true_eq]; exact e) (ev_some _)
  · rw [if_neg fun z => c ⟨z.1, z.2.2⟩]
    exact ev_neg (by rw [decide_eq_true_eq]; exact c) (ev_some _)
end
/-! The law. -/
theorem law_l0 {w : List Int} {o u : Int} (hD : DistOk w) (hc : ChOk o u) (d : Nat) : ∀ y : Nat, y + d = 15 → Ev (fun k => laws_FnCriticalOrders.l0 k w o u w.sum (y : Int)) true := by
  have hl := hD.1
  have hT := tot_le hD
  have m2 := mulb hc.2.1 hc.2.2 (show 0 ≤ w.sum by omega) hT.2
  induction d with
  | zero =>
    intro y hy
    refine ev_succ ?_
    simp only [laws_FnCriticalOrders.l0]
    exact ev_neg (by omega) (ev_some _)
  | succ d ih =>
    intro y hy
    have z := ih (y + 1) (by omega)
    have y1 : OrOk (y : Int) := by unfold OrOk; omega
    have y2 : OrOk (((y + 1 : Nat) : Int)) := by unfold OrOk; omega
    have c1 : Ev (fun k => impl_CostSum.f k w o u (y : Int)) (costN w o u (y : Int), true) := ev_cast (cost1 (by omega) o u _) (if_pos ⟨hD, hc, y1⟩)
    have c2 : Ev (fun k => impl_CostSum.f k w o u ((y + 1 : Nat) : Int)) (costN w o u ((y + 1 : Nat) : Int), true) := ev_cast (cost1 (by omega) o u _) (if_pos ⟨hD, hc, y2⟩)
    have c3 : Ev (fun k => impl_WeightUpTo.f k w (y : Int)) (upToN w (y : Int), true) := ev_cast (upto1 (by omega) _) (if_pos ⟨hD, y1⟩)
    have st := cost_step hD o u (y : Int)
    rw [show (y : Int) + 1 = ((y + 1 : Nat) : Int) by omega] at st
    have b1 := cost_in hD hc.1 hc.2 (q := (y : Int)) (by omega)
    have b2 := cost_in hD hc.1 hc.2 (q := ((y + 1 : Nat) : Int)) (by omega)
    have b3 := upTo_le hD (y : Int)
    have oc := hc.1
    have uc := hc.2
    have b4 := mulb (show 0 ≤ o + u by omega) (show o + u ≤ 40 by omega) b3.1 (show upToN w (y : Int) ≤ 16000 by omega)
    refine ev_succ ?_
    simp only [laws_FnCriticalOrders.l0]
    rw [show wrap64 ((y : Int) + 1) = ((y + 1 : Nat) : Int) by rw [wid (by omega) (by omega)]; omega]
    refine ev_pos (by omega) (ev_bind c1 (ev_bind c2 (ev_bind c3 (ev_pos rfl ?_))))
    rw [wid (x := o + u) (by omega) (by omega), wid (x := (o + u) * upToN w (y : Int)) (by omega) (by omega), wid (x := u * w.sum) (by omega) (by omega), wid (x := costN w o u ((y + 1 : Nat) : Int) - costN w o u (y : Int)) (by omega) (by omega), wid (by omega) (by omega)]
    exact ev_pos st z
theorem law_j0_yes {w : List Int} {o u : Int} {q M : Nat} (hD : DistOk w) (hc : ChOk o u) (R : Run w o u q M) : Ev (fun k => laws_FnCriticalOrders.j0 k w o u (q : Int) true (iv q M) false) true := by
  have hl := hD.1
  have h1 := R.one
  have ht := R.top
  have r0 := iv_rd q M 0 (by omega)
  have r1 := iv_rd q M (M - 1) (by omega)
  have e : wrap64 (((iv q M).length : Int) - 1) = ((M - 1 : Nat) : Int) := by rw [iv_len, wid (by omega) (by omega)]; omega
  have tw : Ev (fun k => impl_TotalWeight.f k w) (w.sum, true) := ev_cast (tot1 (by omega)) (if_pos hD)
  refine ev_succ ?_
  simp only [laws_FnCriticalOrders.j0]
  rw [e, r1, wid (x := ((q + (M - 1) : Nat) : Int) - (q : Int)) (by omega) (by omega)]
  refine ev_neg (by simp) (ev_pos trivial (ev_neg (by rw [iv_len]; omega) (ev_pos (by rw [iv_len]; omega) (ev_pos r0 (ev_pos (by omega) (ev_pos (by rw [iv_len]; omega) (ev_pos (by omega) (ev_bind tw (law_l0 hD hc 15 0 (by omega))))))))))
theorem law_j0_no (w : List Int) (o u x : Int) (l : List Int) : Ev (fun k => laws_FnCriticalOrders.j0 k w o u x false l false) true := by
  refine ev_succ ?_
  simp only [laws_FnCriticalOrders.j0]
  exact ev_neg (by simp) (ev_neg (by simp) (ev_some _))
theorem drawCrit_ok {code : List Int} (hc : CodeOk code) : ∃ w o u, Ev (fun k => spec_DrawCriticalOrder.f k code) (w, o, u) ∧ w.length ≤ 17 := by
  obtain ⟨w, t1, s1, e1, l1, a1, b1⟩ := chances_ok hc 0 0 (by omega) (by omega)
  obtain ⟨o, t2, s2, e2, a2, b2⟩ := charge_ok hc t1 s1 (by omega) (by omega)
  obtain ⟨u, t3, s3, e3, a3, b3⟩ := charge_ok hc t2 s2 (by omega) (by omega)
  refine ⟨w, o, u, ?_, l1⟩
  unfold spec_DrawCriticalOrder.f spec_newCur.f
  simp only [Option.bind_some]
  refine ev_bind e1 ?_
  simp only [e2, e3, Option.bind_some]
  exact ev_some _
theorem drawCost_ok {code : List Int} (hc : CodeOk code) : ∃ w o u q, Ev (fun k => spec_DrawCostSum.f k code) (w, o, u, q) ∧ w.length ≤ 17 := by
  obtain ⟨w, t1, s1, e1, l1, a1, b1⟩ := chances_ok hc 0 0 (by omega) (by omega)
  obtain ⟨o, t2, s2, e2, a2, b2⟩ := charge_ok hc t1 s1 (by omega) (by omega)
  obtain ⟨u, t3, s3, e3, a3, b3⟩ := charge_ok hc t2 s2 (by omega) (by omega)
  obtain ⟨st, t6, s6, e6⟩ := order5_ok hc t3 s3 (by omega) (by omega)
  refine ⟨w, o, u, st, ?_, l1⟩
  unfold spec_DrawCostSum.f spec_newCur.f
  simp only [Option.bind_some]
  refine ev_bind e1 ?_
  simp only [e2, e3, e6, Option.bind_some]
  exact ev_some _
theorem specIs_ev (w : List Int) (hl : w.length ≤ 1000) : Ev (fun k => spec_IsDistribution.f k w) (decide (DistOk w)) := by
  unfold spec_IsDistribution.f
  exact ev_bind (specDist_ev w (by omega)) (ev_some _)
theorem FnCriticalOrders (l0 : List Int) (hl0 : l0.length ≤ maxLen) (hw0 : ∀ x ∈ l0, (Lit.int .u8 x).wf = true) : ∃ k, laws_FnCriticalOrders.f k l0 = some true := by
  refine Ev.rounds ?_
  unfold laws_FnCriticalOrders.f laws_vBig.f
  simp only [Option.bind_some]
  by_cases big : (l0.length : Int) > 65536
  · exact ev_pos (decide_eq_true big) (ev_some _)
  refine ev_neg (by rw [decide_eq_true_eq]; exact big) ?_
  have hc := codeOk_of hw0
  obtain ⟨c1, hv1, hc1⟩ := vcut_ok hc (by omega) 1 (by omega) (by omega)
  obtain ⟨w, o, u, d1, a1⟩ := drawCrit_ok hc
  obtain ⟨v, a, b, q, d2, a2⟩ := drawCost_ok hc1
  simp only [hv1, Option.bind_some]
  have a3 : w.length ≤ 1000 := by omega
  have a4 : v.length ≤ 1000 := by omega
  obtain ⟨C, B, k1, k2, k3, k4, kl, kj⟩ : ∃ (C : Int × Bool) (B : List Int × Bool), Ev (fun k => impl_CriticalOrder.f k w o u) C ∧ Ev (fun k => spec_CriticalOrder.f k w o u) C ∧ Ev (fun k => impl_BestOrders.f k w o u) B ∧ Ev (fun k => spec_BestOrders.f k w o u) B ∧ B.1.length ≤ 1000000 ∧
      Ev (fun k => laws_FnCriticalOrders.j0 k w o u C.1 C.2 B.1 false) true := by
    by_cases ok : DistOk w ∧ ChOk o u
    · obtain ⟨hD, hch⟩ := ok
      obtain ⟨p, hp⟩ := crit_ex hD (o := o) (u := u) hch.1.1 hch.2.1
      have e : p = ((p.toNat : Nat) : Int) := by have := hp.1; omega
      rw [e] at hp
      obtain ⟨M, R⟩ := run_ex hD hch hp
      have := R.top
      exact ⟨_, _, implCrit_yes hD hch hp, specCrit_yes hD hch hp, implBest_yes hD hch R, specBest_yes hD hch R, by rw [iv_len]; omega, law_j0_yes hD hch R⟩
    · exact ⟨_, _, implCrit_no (by omega) ok, specCrit_no a3 ok, implBest_no a3 ok, specBest_no a3 ok, by simp, law_j0_no w o u 0 []⟩
  refine ev_bind d1 (ev_bind k1 (ev_bind k2 (ev_bind k3 (ev_bind k4 (ev_bind d2 (ev_bind (cost1 a4 a b q) (ev_bind (cost2 a4 a b q) (ev_bind (over1 a4 q) (ev_bind (over2 a4 q) (ev_bind (short1 a4 q) (ev_bind (short2 a4 q) (ev_bind (mean1 a4) (ev_bind (mean2 a4) (ev_bind (tot1 a4) (ev_bind (tot2 a4) (ev_bind (upto1 a4 q) (ev_bind (upto2 a4 q) ?_)))))))))))))))))
  refine ev_pos rfl (ev_neg (by simp) (ev_neg (by simp) (ev_bind (vInts_ev _ kl) (ev_pos rfl (ev_pos rfl (ev_neg (by simp) (ev_pos rfl (ev_neg (by simp) (ev_pos rfl (ev_neg (by simp) (ev_pos rfl (ev_neg (by simp) (ev_pos rfl (ev_neg (by simp) (ev_pos rfl (ev_neg (by simp) (ev_bind (implDist_ev w (by omega)) (ev_bind (specIs_ev w a3) (ev_neg (by simp) ?_)))))))))))))))))))
  by_cases ok : DistOk v ∧ OrOk q
  · obtain ⟨hD, hq⟩ := id ok
    have q1 : ∀ x, ansQ v q x = (x, true) := fun x => if_pos ok
    have q2 : ∀ x, ansD v x = (x, true) := fun x => if_pos hD
    have qq : 0 ≤ q ∧ q ≤ 15 := hq
    have hl := hD.1
    have h1 := over_in hD (q := q) (by omega) v.length (Nat.le_refl _)
    have h2 := short_in hD (q := q) (by omega) v.length (Nat.le_refl _)
    have h3 := mean_in hD
    have h4 := tot_le hD
    have h5 := mulb qq.1 qq.2 (show 0 ≤ v.sum by omega) h4.2
    have h6 := over_short hD q
    have h7 := upTo_le hD q
    simp only [q1, q2]
    have g1 : wrap64 (overN v q - shortN v q) = overN v q - shortN v q := wid (by unfold overN shortN; omega) (by unfold overN shortN; omega)
    rw [g1, wid (x := q * v.sum) (by omega) (by omega), wid (x := q * v.sum - meanN v) (by omega) (by omega)]
    refine ev_pos trivial (ev_pos h6 (ev_neg (by omega) ?_))
    by_cases ch : ChOk a b
    · have q3 : ansC v a b q = (costN v a b q, true) := if_pos ⟨hD, ch, hq⟩
      rw [q3]
      have h8 := mulb ch.1.1 ch.1.2 h1.1 h1.2
      have h9 := mulb ch.2.1 ch.2.2 h2.1 h2.2
      have g2 : wrap64 (wrap64 (a * overN v q) + wrap64 (b * shortN v q)) = costN v a b q := by
        unfold costN
        have i1 : 0 ≤ a * overN v q ∧ a * overN v q ≤ 20 * 1600000 := h8
        have i2 : 0 ≤ b * shortN v q ∧ b * shortN v q ≤ 20 * 1600000 := h9
        rw [wid (x := a * overN v q) (by omega) (by omega), wid (x := b * shortN v q) (by omega) (by omega), wid (by omega) (by omega)]
      rw [g2]
      refine ev_pos rfl ?_
      rw [show (costN v a b q != costN v a b q) = false by simp]
      exact kj
    · have q3 : ansC v a b q = (0, false) := if_neg fun z => ch z.2.1
      rw [q3]
      exact ev_neg (by simp) kj
  · have q1 : ∀ x, ansQ v q x = (0, false) := fun x => if_neg ok
    simp only [q1]
    exact ev_neg (by simp) kj

end Go.Proofs.Ytpoflagbcmbaiaa.Pure
