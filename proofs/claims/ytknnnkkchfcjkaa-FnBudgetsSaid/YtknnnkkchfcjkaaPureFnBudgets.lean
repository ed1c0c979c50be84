/- What FnBudgets asks holds for every code: the program's best orders within a budget are the reference's and cost no more than the budget, its orders step by step are the reference's, and with a price of 1 each they cost as little as the best ones. No conditions. -/
import Derived.Test.YtknnnkkchfcjkaaKit
import Derived.Test.YtknnnkkchfcjkaaXFnBudgetsx9
namespace Go.Proofs.Ytknnnkkchfcjkaa.Pure
set_option linter.unusedVariables false
open Go.RowKit Go.Proofs.Ytknnnkkchfcjkaa.PFnBudgets Go.Proofs.YtknnnkkchfcjkaaW.PrintWords Go.Proofs.YtknnnkkchfcjkaaW.PrintLast Go.Proofs.Ytknnnkkchfcjkaa.Kit

theorem in_eq (a b c : Int) : spec_l1In.f a b c = some (decide (b ≤ a ∧ a ≤ c)) := by
  unfold spec_l1In.f
  by_cases h : b ≤ a <;> simp [h]
theorem within_eq (a b c : Int) : impl_within.f a b c = some (decide (b ≤ a ∧ a ≤ c)) := by
  unfold impl_within.f
  by_cases h : b ≤ a <;> simp [h]
theorem allWithin_l0 (lo up : Int) (xs : List Int) (hn : xs.length ≤ 35184372088832) (d : Nat) : ∀ (i : Nat), i + d = xs.length →
    Ev (fun k => impl_allWithin.l0 k lo up xs (xs.length : Int) (i : Int)) (decide (∀ x ∈ xs.drop i, lo ≤ x ∧ x ≤ up)) := by
  induction d with
  | zero =>
    intro i hi
    refine ev_succ ?_
    simp only [impl_allWithin.l0]
    refine ev_neg (by omega) ?_
    rw [List.drop_of_length_le (by omega)]
    exact ev_cast (ev_some true) (by simp)
  | succ d ih =>
    intro i hi
    refine ev_succ ?_
    simp only [impl_allWithin.l0, within_eq, Option.bind_some]
    refine ev_pos (by omega) (ev_pos (by omega) (ev_pos (by omega) ?_))
    have hw : wrap64 ((i : Int) + 1) = ((i + 1 : Nat) : Int) := by rw [wid (by omega) (by omega)]; omega
    rw [hw, drop_rd xs i (by omega)]
    by_cases h : lo ≤ rd xs i ∧ rd xs i ≤ up
    · refine ev_pos (by simpa using h) (ev_cast (ih (i + 1) (by omega)) ?_)
      simp [h]
    · refine ev_neg (by simpa using h) (ev_cast (ev_some false) ?_)
      symm
      simp only [decide_eq_false_iff_not, List.mem_cons]
      exact fun hh => h (hh _ (Or.inl rfl))
theorem allWithin_ev (xs : List Int) (lo hi : Int) (hn : xs.length ≤ 35184372088832) : Ev (fun k => impl_allWithin.f k xs lo hi) (decide (∀ x ∈ xs, lo ≤ x ∧ x ≤ hi)) := by
  unfold impl_allWithin.f
  exact allWithin_l0 lo hi xs hn xs.length 0 (by omega)
theorem l2Row_l0 (n up : Int) (xs : List Int) (hn : xs.length ≤ 35184372088832) (d : Nat) : ∀ (i : Nat), i + d = xs.length →
    Ev (fun k => spec_l2Row.l0 k xs n up (i : Int)) (decide ((∀ x ∈ xs.drop i, 0 ≤ x ∧ x ≤ up) ∧ (xs.length : Int) = n)) := by
  induction d with
  | zero =>
    intro i hi
    refine ev_succ ?_
    simp only [spec_l2Row.l0]
    refine ev_neg (by omega) ?_
    rw [List.drop_of_length_le (by omega)]
    refine ev_cast (ev_some _) ?_
    rw [Bool.eq_iff_iff]
    simp
  | succ d ih =>
    intro i hi
    refine ev_succ ?_
    simp only [spec_l2Row.l0, in_eq, Option.bind_some]
    refine ev_pos (by omega) (ev_pos (by omega) ?_)
    have hw : wrap64 ((i : Int) + 1) = ((i + 1 : Nat) : Int) := by rw [wid (by omega) (by omega)]; omega
    rw [hw, drop_rd xs i (by omega)]
    by_cases h : 0 ≤ rd xs i ∧ rd xs i ≤ up
    · refine ev_pos (by simpa using h) (ev_cast (ih (i + 1) (by omega)) ?_)
      simp [h]
    · refine ev_neg (by simpa using h) (ev_cast (ev_some false) ?_)
      symm
      simp only [decide_eq_false_iff_not, List.mem_cons]
      exact fun hh => h (hh.1 _ (Or.inl rfl))
theorem l2Row_ev (xs : List Int) (n up : Int) (hn : xs.length ≤ 35184372088832) : Ev (fun k => spec_l2Row.f k xs n up) (decide ((∀ x ∈ xs, 0 ≤ x ∧ x ≤ up) ∧ (xs.length : Int) = n)) := by
  unfold spec_l2Row.f
  exact l2Row_l0 n up xs hn xs.length 0 (by omega)
theorem total_l0 (xs : List Int) (hn : xs.length ≤ 35184372088832) (hs : ∀ i, -9223372036854775808 ≤ (xs.take i).sum ∧ (xs.take i).sum ≤ 9223372036854775807) (d : Nat) : ∀ (i : Nat), i + d = xs.length →
    Ev (fun k => impl_total.l0 k (xs.take i).sum xs (xs.length : Int) (i : Int)) xs.sum := by
  induction d with
  | zero =>
    intro i hi
    refine ev_succ ?_
    simp only [impl_total.l0]
    refine ev_neg (by omega) ?_
    rw [List.take_of_length_le (by omega)]
    exact ev_some _
  | succ d ih =>
    intro i hi
    refine ev_succ ?_
    simp only [impl_total.l0]
    refine ev_pos (by omega) (ev_pos (by omega) (ev_pos (by omega) ?_))
    have hw : wrap64 ((i : Int) + 1) = ((i + 1 : Nat) : Int) := by rw [wid (by omega) (by omega)]; omega
    have ht := take_sum_succ xs i (by omega)
    rw [hw, ht, wid (hs _).1 (hs _).2]
    exact ih (i + 1) (by omega)
theorem total_ev (xs : List Int) (hn : xs.length ≤ 35184372088832) (hs : ∀ i, -9223372036854775808 ≤ (xs.take i).sum ∧ (xs.take i).sum ≤ 9223372036854775807) : Ev (fun k => impl_total.f k xs) xs.sum := by
  unfold impl_total.f
  exact total_l0 xs hn hs xs.length 0 (by omega)
theorem l2Sum_l0 (xs : List Int) (hn : xs.length ≤ 35184372088832) (hs : ∀ i, -9223372036854775808 ≤ (xs.take i).sum ∧ (xs.take i).sum ≤ 9223372036854775807) (d : Nat) : ∀ (i : Nat), i + d = xs.length →
    Ev (fun k => spec_l2Sum.l0 k xs (xs.take i).sum (i : Int)) xs.sum := by
  induction d with
  | zero =>
    intro i hi
    refine ev_succ ?_
    simp only [spec_l2Sum.l0]
    refine ev_neg (by omega) ?_
    rw [List.take_of_length_le (by omega)]
    exact ev_some _
  | succ d ih =>
    intro i hi
    refine ev_succ ?_
    simp only [spec_l2Sum.l0]
    refine ev_pos (by omega) (ev_pos (by omega) ?_)
    have hw : wrap64 ((i : Int) + 1) = ((i + 1 : Nat) : Int) := by rw [wid (by omega) (by omega)]; omega
    have ht := take_sum_succ xs i (by omega)
    rw [hw, ht, wid (hs _).1 (hs _).2]
    exact ih (i + 1) (by omega)
theorem l2Sum_ev (xs : List Int) (hn : xs.length ≤ 35184372088832) (hs : ∀ i, -9223372036854775808 ≤ (xs.take i).sum ∧ (xs.take i).sum ≤ 9223372036854775807) : Ev (fun k => spec_l2Sum.f k xs) xs.sum := by
  unfold spec_l2Sum.f
  exact l2Sum_l0 xs hn hs xs.length 0 (by omega)
theorem rd_in {xs : List Int} {lo up : Int} (h : ∀ x ∈ xs, lo ≤ x ∧ x ≤ up) (i : Nat) (hi : i < xs.length) : lo ≤ rd xs (i : Int) ∧ rd xs (i : Int) ≤ up := by
  rw [rd_nat xs i hi]
  exact h _ (List.getElem_mem _)
/-- A reader of draws: its bytes; each draw moves it on by two places at most. -/
def CodeOk (code : List Int) : Prop := ∀ x ∈ code, 0 ≤ x ∧ x ≤ 255
theorem codeOk_of {code : List Int} (h : ∀ x ∈ code, (Lit.int .u8 x).wf = true) : CodeOk code := fun x hx => by
  have := h x hx
  simp only [Lit.wf, Bool.and_eq_true, decide_eq_true_eq] at this
  exact this
theorem seed_low (x : Int) (h0 : 0 ≤ x) (h1 : x < 18446744073709551616) : Go.bits .and .u64 (x / 1099511627776) 255 = (x / 1099511627776) % 256 :=
  bits_mask .u64 24 (by decide) (fun n h0 h1 => by simp only [IntKind.wrap, IntKind.bits, IntKind.signed]; simp; omega) 8 (by decide) (x / 1099511627776) (by omega) (by omega)
theorem u64_in (x : Int) : 0 ≤ IntKind.u64.wrap x ∧ IntKind.u64.wrap x < 18446744073709551616 := by
  simp only [IntKind.wrap, IntKind.bits, IntKind.signed]
  simp
  omega
theorem next_ok {code : List Int} (hc : CodeOk code) (t s : Int) (h0 : 0 ≤ t) (h1 : t ≤ 1000000000000000) :
    ∃ b s', spec_l1Cur_next.f code t s = some (b, t + 1, s') ∧ 0 ≤ b ∧ b ≤ 255 := by
  unfold spec_l1Cur_next.f
  rw [wid (x := t + 1) (by omega) (by omega)]
  by_cases c : t < (code.length : Int)
  · have hb : 0 ≤ rd code t ∧ rd code t ≤ 255 := by
      obtain ⟨i, rfl⟩ := Int.eq_ofNat_of_zero_le h0
      rw [rd_nat code i (by omega)]
      exact hc _ (List.getElem_mem _)
    rw [if_pos c, if_pos h0, wid (x := rd code t) (by omega) (by omega)]
    by_cases c2 : t + 1 ≤ (code.length : Int)
    · rw [if_pos c2]
      exact ⟨_, _, rfl, hb.1, hb.2⟩
    · omega
  · rw [if_neg c]
    by_cases c2 : t + 1 ≤ (code.length : Int)
    · omega
    · rw [if_neg c2]
      have u := u64_in (IntKind.u64.wrap (IntKind.u64.wrap (s * 6364136223846793005) + 0) + 462197)
      generalize IntKind.u64.wrap (IntKind.u64.wrap (IntKind.u64.wrap (s * 6364136223846793005) + 0) + 462197) = v at u ⊢
      rw [seed_low v u.1 u.2, wid (by omega) (by omega)]
      exact ⟨_, _, rfl, by omega, by omega⟩
theorem pick_ok {code : List Int} (hc : CodeOk code) (t s n : Int) (h0 : 0 ≤ t) (h1 : t ≤ 900000000000000) (hn : n ≤ 65536) :
    ∃ r t' s', spec_l1Cur_pick.f code t s n = some (r, t', s') ∧ 0 ≤ r ∧ (1 ≤ n → r < n) ∧ t ≤ t' ∧ t' ≤ t + 2 := by
  unfold spec_l1Cur_pick.f
  by_cases c : n ≤ 1
  · rw [if_pos c]
    exact ⟨0, t, s, rfl, by omega, fun _ => by omega, by omega, by omega⟩
  · rw [if_neg c]
    obtain ⟨b, s1, e1, b0, b1⟩ := next_ok hc t s h0 (by omega)
    rw [e1]
    simp only [Option.bind_some]
    by_cases c2 : n > 200
    · obtain ⟨b2, s2, e2, q0, q1⟩ := next_ok hc (t + 1) s1 (by omega) (by omega)
      rw [if_pos c2, e2]
      simp only [Option.bind_some]
      rw [if_neg (by omega), wid (x := b * 256) (by omega) (by omega), wid (by omega) (by omega), Int.tmod_eq_emod_of_nonneg (by omega)]
      exact ⟨_, _, _, rfl, Int.emod_nonneg _ (by omega), fun _ => Int.emod_lt_of_pos _ (by omega), by omega, by omega⟩
    · rw [if_neg c2, if_neg (by omega), Int.tmod_eq_emod_of_nonneg (by omega)]
      exact ⟨_, _, _, rfl, Int.emod_nonneg _ (by omega), fun _ => Int.emod_lt_of_pos _ (by omega), by omega, by omega⟩
theorem among_ok {code : List Int} (hc : CodeOk code) (t s : Int) (l : List Int) (h0 : 0 ≤ t) (h1 : t ≤ 900000000000000) (hl : 0 < l.length) (hl2 : l.length ≤ 65536) :
    ∃ r t' s', spec_l1Cur_among.f code t s l = some (r, t', s') ∧ r ∈ l ∧ t ≤ t' ∧ t' ≤ t + 2 := by
  unfold spec_l1Cur_among.f
  obtain ⟨r, t', s', e, a, b, c, d⟩ := pick_ok hc t s (l.length : Int) h0 h1 (by omega)
  have b := b (by omega)
  rw [e]
  simp only [Option.bind_some]
  rw [if_pos a, if_pos b]
  obtain ⟨i, rfl⟩ := Int.eq_ofNat_of_zero_le a
  refine ⟨_, _, _, rfl, ?_, c, d⟩
  rw [rd_nat l i (by omega)]
  exact List.getElem_mem _
theorem one_ok {code : List Int} (hc : CodeOk code) (t s n : Int) (h0 : 0 ≤ t) (h1 : t ≤ 900000000000000) (hn : n ≤ 65536) :
    ∃ b t' s', spec_l1Cur_one.f code t s n = some (b, t', s') ∧ t ≤ t' ∧ t' ≤ t + 2 := by
  unfold spec_l1Cur_one.f
  obtain ⟨r, t', s', e, _, _, c, d⟩ := pick_ok hc t s n h0 h1 hn
  simp only [e, Option.bind_some]
  exact ⟨_, _, _, rfl, c, d⟩
theorem vcut_ok {code : List Int} (hc : CodeOk code) (hl : code.length ≤ 65536) (n : Int) (h0 : 0 ≤ n) (h1 : n ≤ 255) : ∃ r, laws_vCut.f code n = some r ∧ CodeOk r := by
  have key : ∀ m : Int, 0 ≤ m → CodeOk (([] : List Int) ++ code.drop m.toNat ++ [m % 256]) := fun m hm x hx => by
    rcases List.mem_append.1 hx with h | h
    · rw [List.nil_append] at h
      exact hc x (List.mem_of_mem_drop h)
    · rw [List.mem_singleton] at h
      omega
  have len : ∀ m : Int, (code.drop m.toNat).length ≤ 65536 := fun m => by rw [List.length_drop]; omega
  unfold laws_vCut.f
  simp only [Option.bind_some, List.length_nil, List.nil_append]
  by_cases c : n > (code.length : Int)
  · have q := len (code.length : Int)
    rw [if_pos c, if_pos (by omega), if_pos (by omega), if_pos (by omega), if_pos (by omega)]
    exact ⟨_, rfl, by have := key (code.length : Int) (by omega); rwa [List.nil_append] at this⟩
  · have q := len n
    rw [if_neg c, if_pos h0, if_pos (by omega), if_pos (by omega), if_pos (by omega)]
    exact ⟨_, rfl, by have := key n h0; rwa [List.nil_append] at this⟩
theorem chances_l1 {code : List Int} (hc : CodeOk code) (d : Nat) : ∀ (xs : List Int) (t s : Int), xs.length + d = 17 → 0 ≤ t → t + 2 * d + 2 ≤ 800000000000000 →
    ∃ r t' s', Ev (fun k => spec_l1Cur_chances.l1 k xs code t s) (r, t', s') ∧ r.length ≤ 17 ∧ t ≤ t' ∧ t' ≤ t + 2 * d + 2 := by
  induction d with
  | zero =>
    intro xs t s hx h0 h1
    obtain ⟨p, t1, s1, e1, p0, p1, q0, q1⟩ := pick_ok hc t s 3 h0 (by omega) (by omega)
    have p1 := p1 (by omega)
    refine ⟨xs, t1, s1, ev_succ ?_, by omega, q0, by omega⟩
    simp only [spec_l1Cur_chances.l1, e1, Option.bind_some]
    rw [wid (by omega) (by omega)]
    exact ev_neg (by omega) (ev_some _)
  | succ d ih =>
    intro xs t s hx h0 h1
    obtain ⟨p, t1, s1, e1, p0, p1, q0, q1⟩ := pick_ok hc t s 3 h0 (by omega) (by omega)
    have p1 := p1 (by omega)
    by_cases c : (xs.length : Int) < 15 + p
    · obtain ⟨r, t', s', e2, l2, a2, b2⟩ := ih (xs ++ [1]) t1 s1 (by simp; omega) (by omega) (by omega)
      refine ⟨r, t', s', ev_succ ?_, l2, by omega, by omega⟩
      simp only [spec_l1Cur_chances.l1, e1, Option.bind_some]
      rw [wid (x := 15 + p) (by omega) (by omega)]
      exact ev_pos c (ev_pos (by omega) e2)
    · refine ⟨xs, t1, s1, ev_succ ?_, by omega, q0, by omega⟩
      simp only [spec_l1Cur_chances.l1, e1, Option.bind_some]
      rw [wid (by omega) (by omega)]
      exact ev_neg c (ev_some _)
theorem chances_l0 {code : List Int} (hc : CodeOk code) (n : Nat) : ∀ (xs : List Int) (t s : Int), xs.length + n ≤ 8 → 1 ≤ xs.length + n → 0 ≤ t → t + 2 * n ≤ 700000000000000 →
    ∃ r t' s', Ev (fun k => spec_l1Cur_chances.l0 k xs (n : Int) code t s) (r, t', s') ∧ r.length ≤ 17 ∧ t ≤ t' ∧ t' ≤ t + 2 * n + 60 := by
  induction n with
  | zero =>
    intro xs t s hx hx1 h0 h1
    obtain ⟨p, t1, s1, e1, p0, p1, q0, q1⟩ := pick_ok hc t s 32 h0 (by omega) (by omega)
    have z : ¬ (((0 : Nat) : Int) > 0) := by omega
    by_cases c0 : p = 0
    · obtain ⟨v, t2, s2, e2, _, a2, b2⟩ := among_ok hc t1 s1 [-1, 1000, 1001, 4611686018427387904] (by omega) (by omega) (by decide) (by decide)
      refine ⟨xs.set (0 : Int).toNat v, t2, s2, ev_succ ?_, by rw [List.length_set]; omega, by omega, by omega⟩
      simp only [spec_l1Cur_chances.l0, e1, Option.bind_some]
      refine ev_neg z (ev_pos c0 ?_)
      rw [e2]
      simp only [Option.bind_some]
      exact ev_pos (by omega) (ev_some _)
    by_cases c1 : p = 1
    · obtain ⟨r, t2, s2, e2, l2, a2, b2⟩ := chances_l1 hc (17 - xs.length) xs t1 s1 (by omega) (by omega) (by omega)
      refine ⟨r, t2, s2, ev_succ ?_, l2, by omega, by omega⟩
      simp only [spec_l1Cur_chances.l0, e1, Option.bind_some]
      exact ev_neg z (ev_neg c0 (ev_pos c1 e2))
    by_cases c2 : p = 2
    · obtain ⟨v, t2, s2, e2, v0, v1, a2, b2⟩ := pick_ok hc t1 s1 4 (by omega) (by omega) (by omega)
      have v1 := v1 (by omega)
      refine ⟨List.replicate v.toNat 0, t2, s2, ev_succ ?_, by rw [List.length_replicate]; omega, by omega, by omega⟩
      simp only [spec_l1Cur_chances.l0, e1, Option.bind_some]
      refine ev_neg z (ev_neg c0 (ev_neg c1 (ev_pos c2 ?_)))
      rw [e2]
      simp only [Option.bind_some]
      exact ev_pos v0 (ev_pos (by omega) (ev_some _))
    · refine ⟨xs, t1, s1, ev_succ ?_, by omega, by omega, by omega⟩
      simp only [spec_l1Cur_chances.l0, e1, Option.bind_some]
      exact ev_neg z (ev_neg c0 (ev_neg c1 (ev_neg c2 (ev_some _))))
  | succ n ih =>
    intro xs t s hx hx1 h0 h1
    obtain ⟨v, t1, s1, e1, _, a1, b1⟩ := among_ok hc t s [1, 2, 0, 3, 5, 1] (by omega) (by omega) (by decide) (by decide)
    obtain ⟨r, t2, s2, e2, l2, a2, b2⟩ := ih (xs ++ [v]) t1 s1 (by simp; omega) (by simp; omega) (by omega) (by omega)
    refine ⟨r, t2, s2, ev_succ ?_, l2, by omega, by omega⟩
    simp only [spec_l1Cur_chances.l0, e1, Option.bind_some]
    rw [wid (x := ((n + 1 : Nat) : Int) - 1) (by omega) (by omega), show ((n + 1 : Nat) : Int) - 1 = (n : Int) by omega]
    exact ev_pos (by omega) (ev_pos (by omega) e2)
theorem chances_ok {code : List Int} (hc : CodeOk code) (t s : Int) (h0 : 0 ≤ t) (h1 : t ≤ 600000000000000) :
    ∃ r t' s', Ev (fun k => spec_l1Cur_chances.f k code t s) (r, t', s') ∧ r.length ≤ 17 ∧ t ≤ t' ∧ t' ≤ t + 100 := by
  obtain ⟨n, t1, s1, e1, m1, a1, b1⟩ := among_ok hc t s [4, 5, 6, 3, 8, 1, 2] h0 (by omega) (by decide) (by decide)
  have hn : 1 ≤ n ∧ n ≤ 8 := by simp at m1; omega
  obtain ⟨r, t2, s2, e2, l2, a2, b2⟩ := chances_l0 hc n.toNat [] t1 s1 (by simp; omega) (by simp; omega) (by omega) (by omega)
  rw [Int.toNat_of_nonneg (by omega)] at e2
  refine ⟨r, t2, s2, ?_, l2, by omega, by omega⟩
  unfold spec_l1Cur_chances.f
  simp only [e1, Option.bind_some]
  exact e2
theorem charge_ok {code : List Int} (hc : CodeOk code) (t s : Int) (h0 : 0 ≤ t) (h1 : t ≤ 600000000000000) : ∃ r t' s', spec_l1Cur_charge.f code t s = some (r, t', s') ∧ t ≤ t' ∧ t' ≤ t + 4 := by
  unfold spec_l1Cur_charge.f
  obtain ⟨p, t1, s1, e1, p0, p1, q0, q1⟩ := pick_ok hc t s 24 h0 (by omega) (by omega)
  have p1 := p1 (by omega)
  simp only [Option.bind_some, e1, List.length_cons, List.length_nil]
  rw [Int.tdiv_eq_ediv_of_nonneg p0, wid (x := p / 11) (by omega) (by omega), wid (x := 7 + p / 11) (by omega) (by omega)]
  have hl : (List.take (7 + p / 11).toNat [1, 2, 3, 5, 0, 8, 20, 21, (-1 : Int)]).length = (7 + p / 11).toNat := by rw [List.length_take]; simp; omega
  obtain ⟨v, t2, s2, e2, _, a2, b2⟩ := among_ok hc t1 s1 (List.take (7 + p / 11).toNat [1, 2, 3, 5, 0, 8, 20, 21, (-1 : Int)]) (by omega) (by omega) (by rw [hl]; omega) (by rw [hl]; omega)
  rw [if_pos (by omega), if_pos (by omega), e2]
  simp only [Option.bind_some]
  exact ⟨_, _, _, rfl, by omega, by omega⟩
/-- What a distribution is. -/
def DistOk (w : List Int) : Prop := (1 ≤ (w.length : Int) ∧ (w.length : Int) ≤ 16) ∧ (∀ x ∈ w, 0 ≤ x ∧ x ≤ 1000) ∧ w.sum > 0
instance (w : List Int) : Decidable (DistOk w) := by unfold DistOk; infer_instance
theorem implDist_ev (w : List Int) (hl : w.length ≤ 35184372088832) : Ev (fun k => impl_IsDistribution.f k w) (decide (DistOk w)) := by
  unfold impl_IsDistribution.f DistOk
  simp only [within_eq, Option.bind_some]
  exact ev_and rfl fun h1 => ev_bind (allWithin_ev w 0 1000 hl) (ev_and rfl fun h3 => ev_bind (total_ev w hl (take_sum64 (by omega) (by omega) h3 (by omega))) (ev_some _))
theorem specDist_ev (w : List Int) (hl : w.length ≤ 35184372088832) : Ev (fun k => spec_l5Good.f k w) (decide (DistOk w)) := by
  unfold spec_l5Good.f DistOk spec_l5Total.f
  simp only [in_eq, Option.bind_some]
  refine ev_and rfl fun h1 => ev_dec (P := ((∀ x ∈ w, 0 ≤ x ∧ x ≤ 1000) ∧ (w.length : Int) = w.length) ∧ w.sum > 0) ?_ (by simp)
  exact ev_bind (l2Row_ev w _ 1000 hl) (ev_and rfl fun h3 => ev_bind (ev_bind (l2Sum_ev w hl (take_sum64 (by omega) (by omega) h3.1 (by omega))) (ev_some _)) (ev_some _))
/-- A sum of weights times numbers, of the first demands. -/
def wsum (w : List Int) (f : Int → Int) : Nat → Int
  | 0 => 0
  | n + 1 => wsum w f n + rd w (n : Int) * f (n : Int)
theorem wsum_congr {w : List Int} {f g : Int → Int} (n : Nat) (h : ∀ i : Nat, i < n → f (i : Int) = g (i : Int)) : wsum w f n = wsum w g n := by
  induction n with
  | zero => rfl
  | succ n ih => simp only [wsum]; rw [ih fun i hi => h i (by omega), h n (by omega)]
theorem wsum_add (w : List Int) (f g : Int → Int) (n : Nat) : wsum w (fun d => f d + g d) n = wsum w f n + wsum w g n := by
  induction n with
  | zero => rfl
  | succ n ih => simp only [wsum]; rw [ih, Int.mul_add]; omega
theorem wsum_mul (w : List Int) (f : Int → Int) (c : Int) (n : Nat) : wsum w (fun d => c * f d) n = c * wsum w f n := by
  induction n with
  | zero => simp [wsum]
  | succ n ih => simp only [wsum]; rw [ih, Int.mul_add]; grind
theorem wsum_sub (w : List Int) (f g : Int → Int) (n : Nat) : wsum w (fun d => f d - g d) n = wsum w f n - wsum w g n := by
  induction n with
  | zero => rfl
  | succ n ih => simp only [wsum]; rw [ih, Int.mul_sub]; omega
theorem wsum_mono {w : List Int} {f g : Int → Int} (hw : ∀ i : Nat, i < w.length → 0 ≤ rd w (i : Int)) (n : Nat) (hn : n ≤ w.length) (h : ∀ i : Nat, i < n → f (i : Int) ≤ g (i : Int)) : wsum w f n ≤ wsum w g n := by
  induction n with
  | zero => exact Int.le_refl _
  | succ n ih =>
    simp only [wsum]
    have h1 := ih (by omega) fun i hi => h i (by omega)
    have h2 := Int.mul_le_mul_of_nonneg_left (h n (by omega)) (hw n (by omega))
    omega
theorem wsum_one (w : List Int) (n : Nat) (hn : n ≤ w.length) : wsum w (fun _ => 1) n = (w.take n).sum := by
  induction n with
  | zero => simp [wsum]
  | succ n ih => simp only [wsum]; rw [ih (by omega), Int.mul_one, take_sum_succ w n (by omega)]
theorem wsum_in {w : List Int} {f : Int → Int} {B : Int} (hB : 0 ≤ B) (hw : ∀ x ∈ w, 0 ≤ x ∧ x ≤ 1000) (hf : ∀ i : Nat, i < w.length → 0 ≤ f (i : Int) ∧ f (i : Int) ≤ B) (n : Nat) (hn : n ≤ w.length) : 0 ≤ wsum w f n ∧ wsum w f n ≤ n * (1000 * B) := by
  induction n with
  | zero => simp [wsum]
  | succ n ih =>
    have h1 := ih (by omega)
    have h2 : 0 ≤ rd w (n : Int) ∧ rd w (n : Int) ≤ 1000 := by rw [rd_nat w n (by omega)]; exact hw _ (List.getElem_mem _)
    have h3 := hf n (by omega)
    have h4 := mulb h2.1 h2.2 h3.1 h3.2
    simp only [wsum]
    rw [show (((n + 1 : Nat) : Int)) * (1000 * B) = n * (1000 * B) + 1000 * B by rw [Int.natCast_add, Int.add_mul]; omega]
    omega
theorem tot_one (w : List Int) : w.sum = wsum w (fun _ => 1) w.length := by rw [wsum_one w _ (Nat.le_refl _), List.take_length]
/-- The positive part of a number. -/
def pos (x : Int) : Int := if 0 < x then x else 0
theorem pos_in {x b : Int} (h : x ≤ b) (hb : 0 ≤ b) : 0 ≤ pos x ∧ pos x ≤ b := by
  unfold pos
  split <;> omega
theorem most_pos (x : Int) : spec_l1Most.f 0 x = some (pos x) := by
  unfold spec_l1Most.f pos
  by_cases h : 0 < x
  · rw [if_pos h, if_neg (by omega)]
  · rw [if_neg h]
    by_cases h2 : (0 : Int) > x
    · rw [if_pos h2]
    · rw [if_neg h2, show x = 0 by omega]
def overN (w : List Int) (q : Int) : Int := wsum w (fun d => pos (q - d)) w.length
def shortN (w : List Int) (q : Int) : Int := wsum w (fun d => pos (d - q)) w.length
def costN (w : List Int) (o u q : Int) : Int := o * overN w q + u * shortN w q
def upToN (w : List Int) (q : Int) : Int := wsum w (fun d => if d ≤ q then 1 else 0) w.length
def meanN (w : List Int) : Int := wsum w (fun d => d) w.length
section
variable {w : List Int} (hD : DistOk w)
include hD
theorem dist_rd (i : Nat) (hi : i < w.length) : 0 ≤ rd w (i : Int) ∧ rd w (i : Int) ≤ 1000 := rd_in hD.2.1 i hi
theorem over_in {q : Int} (h : 0 ≤ q ∧ q ≤ 100) (n : Nat) (hn : n ≤ w.length) : 0 ≤ wsum w (fun d => pos (q - d)) n ∧ wsum w (fun d => pos (q - d)) n ≤ 1600000 := by
  have := wsum_in (f := fun d => pos (q - d)) (B := 100) (by omega) hD.2.1 (fun i hi => pos_in (by omega) (by omega)) n hn
  have := hD.1
  omega
theorem short_in {q : Int} (h : 0 ≤ q ∧ q ≤ 100) (n : Nat) (hn : n ≤ w.length) : 0 ≤ wsum w (fun d => pos (d - q)) n ∧ wsum w (fun d => pos (d - q)) n ≤ 1600000 := by
  have l := hD.1
  have := wsum_in (f := fun d => pos (d - q)) (B := 100) (by omega) hD.2.1 (fun i hi => pos_in (by omega) (by omega)) n hn
  omega
theorem cost_in {o u q : Int} (ho : 0 ≤ o ∧ o ≤ 20) (hu : 0 ≤ u ∧ u ≤ 20) (h : 0 ≤ q ∧ q ≤ 100) : 0 ≤ costN w o u q ∧ costN w o u q ≤ 64000000 := by
  have h1 := over_in hD h w.length (Nat.le_refl _)
  have h2 := short_in hD h w.length (Nat.le_refl _)
  have h3 := mulb ho.1 ho.2 h1.1 h1.2
  have h4 := mulb hu.1 hu.2 h2.1 h2.2
  unfold costN overN shortN
  omega
theorem tot_le : 0 < w.sum ∧ w.sum ≤ 16000 := by
  have := sum_nonneg hD.2.1
  have := hD.1
  have := hD.2.2
  omega
theorem sum64 : ∀ i, -9223372036854775808 ≤ (w.take i).sum ∧ (w.take i).sum ≤ 9223372036854775807 := take_sum64 (by omega) (by omega) hD.2.1 (by have := hD.1; omega)
theorem distTotal_ev : Ev (fun k => impl_total.f k w) w.sum := total_ev w (by have := hD.1; omega) (sum64 hD)
theorem specTotal_ev : Ev (fun k => spec_l5Total.f k w) w.sum := by
  unfold spec_l5Total.f
  exact ev_bind (l2Sum_ev w (by have := hD.1; omega) (sum64 hD)) (ev_some _)
theorem weighted_l0 {g : Int → Option Int} {f : Int → Int} (hg : ∀ n : Nat, n < w.length → g (n : Int) = some (f (n : Int))) (hf : ∀ n : Nat, n < w.length → 0 ≤ f (n : Int) ∧ f (n : Int) ≤ 100) (d : Nat) : ∀ i : Nat, i + d = w.length →
    Ev (fun k => impl_weighted.l0 g k (wsum w f i) w (w.length : Int) (i : Int)) (wsum w f w.length) := by
  have hl := hD.1
  induction d with
  | zero =>
    intro i hi
    refine ev_succ ?_
    simp only [impl_weighted.l0]
    refine ev_neg (by omega) ?_
    rw [show i = w.length by omega]
    exact ev_some _
  | succ d ih =>
    intro i hi
    have q := ih (i + 1) (by omega)
    have b1 := wsum_in (B := 100) (by omega) hD.2.1 hf (i + 1) (by omega)
    have b2 := dist_rd hD i (by omega)
    have b3 := hf i (by omega)
    have b4 := mulb b2.1 b2.2 b3.1 b3.2
    have hw : wrap64 ((i : Int) + 1) = ((i + 1 : Nat) : Int) := by rw [wid (by omega) (by omega)]; omega
    simp only [wsum] at q b1
    refine ev_succ ?_
    simp only [impl_weighted.l0, hg i (by omega), Option.bind_some]
    rw [hw, wid (x := rd w (i : Int) * f (i : Int)) (by omega) (by omega), wid (x := wsum w f i + rd w (i : Int) * f (i : Int)) (by omega) (by omega)]
    exact ev_pos (by omega) (ev_pos (by omega) (ev_pos (by omega) q))
theorem weighted_ev {g : Int → Option Int} {f : Int → Int} (hg : ∀ n : Nat, n < w.length → g (n : Int) = some (f (n : Int))) (hf : ∀ n : Nat, n < w.length → 0 ≤ f (n : Int) ∧ f (n : Int) ≤ 100) : Ev (fun k => impl_weighted.f k w g) (wsum w f w.length) := by
  unfold impl_weighted.f
  exact weighted_l0 hD hg hf w.length 0 (by omega)
theorem implOver_ev {q : Int} (h : 0 ≤ q ∧ q ≤ 100) : Ev (fun k => impl_overSum.f k w q) (overN w q) := by
  unfold impl_overSum.f overN
  have hl := hD.1
  refine ev_bind (weighted_ev hD (f := fun d => pos (q - d)) (fun n hn => ?_) (fun n hn => pos_in (by omega) (by omega))) (ev_some _)
  rw [wid (by omega) (by omega)]
  rfl
theorem implShort_ev {q : Int} (h : 0 ≤ q ∧ q ≤ 100) : Ev (fun k => impl_shortSum.f k w q) (shortN w q) := by
  unfold impl_shortSum.f shortN
  have hl := hD.1
  refine ev_bind (weighted_ev hD (f := fun d => pos (d - q)) (fun n hn => ?_) (fun n hn => pos_in (by omega) (by omega))) (ev_some _)
  rw [wid (by omega) (by omega)]
  rfl
theorem implCost_ev {o u q : Int} (ho : 0 ≤ o ∧ o ≤ 20) (hu : 0 ≤ u ∧ u ≤ 20) (h : 0 ≤ q ∧ q ≤ 100) : Ev (fun k => impl_costSum.f k w o u q) (costN w o u q) := by
  unfold impl_costSum.f costN
  have h1 := over_in hD h w.length (Nat.le_refl _)
  have h2 := short_in hD h w.length (Nat.le_refl _)
  have h3 := mulb ho.1 ho.2 h1.1 h1.2
  have h4 := mulb hu.1 hu.2 h2.1 h2.2
  refine ev_bind (implOver_ev hD h) (ev_bind (implShort_ev hD h) (ev_cast (ev_some _) ?_))
  unfold overN shortN
  rw [wid (x := o * _) (by omega) (by omega), wid (x := u * _) (by omega) (by omega), wid (by omega) (by omega)]
/-! The cost sums are convex. -/
omit hD in
theorem over_step (q : Int) : overN w (q + 1) = overN w q + upToN w q := by
  unfold overN upToN
  rw [← wsum_add]
  refine wsum_congr _ fun i _ => ?_
  unfold pos
  repeat' split
  all_goals omega
theorem short_step (q : Int) : shortN w (q + 1) = shortN w q - (w.sum - upToN w q) := by
  have _ := hD
  rw [tot_one w]
  unfold shortN upToN
  rw [← wsum_sub, ← wsum_sub]
  refine wsum_congr _ fun i _ => ?_
  unfold pos
  repeat' split
  all_goals omega
theorem cost_step (o u q : Int) : costN w o u (q + 1) - costN w o u q = (o + u) * upToN w q - u * w.sum := by
  unfold costN
  rw [over_step, short_step hD]
  grind
theorem over_short (q : Int) : overN w q - shortN w q = q * w.sum - meanN w := by
  have _ := hD
  rw [tot_one w]
  unfold overN shortN meanN
  rw [← wsum_sub, ← wsum_mul, ← wsum_sub]
  refine wsum_congr _ fun i _ => ?_
  unfold pos
  repeat' split
  all_goals omega
theorem upTo_mono {p q : Int} (h : p ≤ q) : upToN w p ≤ upToN w q := by
  unfold upToN
  refine wsum_mono (fun i hi => (dist_rd hD i hi).1) _ (Nat.le_refl _) fun i _ => ?_
  repeat' split
  all_goals omega
theorem upTo_le (q : Int) : 0 ≤ upToN w q ∧ upToN w q ≤ w.sum := by
  rw [tot_one w]
  refine ⟨(wsum_in (f := fun d => if d ≤ q then 1 else 0) (B := 1) (by omega) hD.2.1 (fun i _ => by show 0 ≤ (if (i : Int) ≤ q then (1 : Int) else 0) ∧ (if (i : Int) ≤ q then (1 : Int) else 0) ≤ 1; split <;> omega) _ (Nat.le_refl _)).1, ?_⟩
  unfold upToN
  refine wsum_mono (fun i hi => (dist_rd hD i hi).1) _ (Nat.le_refl _) fun i _ => ?_
  repeat' split
  all_goals omega
theorem upTo_full {q : Int} (h : (w.length : Int) - 1 ≤ q) : upToN w q = w.sum := by
  have _ := hD
  rw [tot_one w]
  unfold upToN
  refine wsum_congr _ fun i hi => ?_
  exact if_pos (by omega)
omit hD in
theorem upTo_take (q : Int) (h : -1 ≤ q) (n : Nat) : wsum w (fun d => if d ≤ q then 1 else 0) n = wsum w (fun _ => 1) (min (q + 1).toNat n) := by
  induction n with
  | zero => simp [wsum]
  | succ n ih =>
    simp only [wsum]
    rw [ih]
    by_cases c : (n : Int) ≤ q
    · rw [if_pos c, show min (q + 1).toNat n = n by omega, show min (q + 1).toNat (n + 1) = n + 1 by omega]
      rfl
    · rw [if_neg c, show min (q + 1).toNat (n + 1) = min (q + 1).toNat n by omega]
      omega
end
/-- The least number with a property. -/
theorem least_of {P : Nat → Prop} [DecidablePred P] (n : Nat) (h : P n) : ∃ m, m ≤ n ∧ P m ∧ ∀ j, j < m → ¬ P j := by
  induction n using Nat.strongRecOn with
  | _ n ih =>
    by_cases c : ∃ j, j < n ∧ P j
    · obtain ⟨j, hj, pj⟩ := c
      obtain ⟨m, a, b, e⟩ := ih j hj pj
      exact ⟨m, by omega, b, e⟩
    · exact ⟨n, Nat.le_refl _, h, fun j hj pj => c ⟨j, hj, pj⟩⟩
/-- What the critical order is. -/
def Crit (w : List Int) (o u : Int) (q : Int) : Prop := 0 ≤ q ∧ q ≤ (w.length : Int) - 1 ∧ u * w.sum ≤ (o + u) * upToN w q ∧ ∀ j : Int, 0 ≤ j → j < q → (o + u) * upToN w j < u * w.sum
theorem crit_ex {w : List Int} (hD : DistOk w) {o u : Int} (ho : 0 ≤ o) (hu : 0 ≤ u) : ∃ q, Crit w o u q := by
  have hl := hD.1
  have hT := hD.2.2
  obtain ⟨m, a, b, e⟩ := least_of (P := fun n => u * w.sum ≤ (o + u) * upToN w (n : Int)) (w.length - 1) (by
    rw [upTo_full hD (by omega)]
    exact Int.mul_le_mul_of_nonneg_right (by omega) (by omega))
  refine ⟨(m : Int), by omega, by omega, b, fun j h0 h1 => ?_⟩
  have := e j.toNat (by omega)
  rw [Int.toNat_of_nonneg h0] at this
  omega
theorem crit_less {w : List Int} (hD : DistOk w) {o u q : Int} (h : Crit w o u q) (j : Int) (h0 : 0 ≤ j) (hj : j < q) : costN w o u (j + 1) < costN w o u j := by
  have := cost_step hD o u j
  have := h.2.2.2 j h0 hj
  omega
theorem crit_more {w : List Int} (hD : DistOk w) {o u q : Int} (ho : 0 ≤ o) (hu : 0 ≤ u) (h : Crit w o u q) (j : Int) (hj : q ≤ j) : costN w o u j ≤ costN w o u (j + 1) := by
  have h1 := cost_step hD o u j
  have h2 := upTo_mono hD hj
  have h3 := Int.mul_le_mul_of_nonneg_left h2 (show 0 ≤ o + u by omega)
  have h4 := h.2.2.1
  omega
theorem crit_right {w : List Int} (hD : DistOk w) {o u q : Int} (ho : 0 ≤ o) (hu : 0 ≤ u) (h : Crit w o u q) (d : Nat) : costN w o u q ≤ costN w o u (q + d) := by
  induction d with
  | zero => simp
  | succ d ih =>
    have := crit_more hD ho hu h (q + d) (by omega)
    rw [show q + ((d + 1 : Nat) : Int) = q + d + 1 by omega]
    omega
theorem crit_left {w : List Int} (hD : DistOk w) {o u q : Int} (h : Crit w o u q) (d : Nat) : ∀ j : Int, 0 ≤ j → j + d + 1 = q → costN w o u q < costN w o u j := by
  induction d with
  | zero =>
    intro j h0 hj
    have := crit_less hD h j h0 (by omega)
    rw [show q = j + 1 by omega]
    exact this
  | succ d ih =>
    intro j h0 hj
    have h1 := ih (j + 1) (by omega) (by omega)
    have h2 := crit_less hD h j h0 (by omega)
    omega
/-- The critical order costs least. -/
theorem crit_best {w : List Int} (hD : DistOk w) {o u q : Int} (ho : 0 ≤ o) (hu : 0 ≤ u) (h : Crit w o u q) (j : Int) (h0 : 0 ≤ j) : costN w o u q ≤ costN w o u j := by
  by_cases c : q ≤ j
  · have := crit_right hD ho hu h (j - q).toNat
    rwa [show q + ((j - q).toNat : Int) = j by omega] at this
  · have := crit_left hD h (q - j - 1).toNat j h0 (by omega)
    omega
section
variable {w : List Int} (hD : DistOk w)
include hD
theorem specShort_l0 {q : Int} (h : 0 ≤ q ∧ q ≤ 100) (d : Nat) : ∀ i : Nat, i + d = w.length → Ev (fun k => spec_l5Short.l0 k w q (wsum w (fun d => pos (d - q)) i) (i : Int)) (shortN w q) := by
  have hl := hD.1
  induction d with
  | zero =>
    intro i hi
    refine ev_succ ?_
    simp only [spec_l5Short.l0]
    refine ev_neg (by omega) ?_
    rw [show i = w.length by omega]
    exact ev_some _
  | succ d ih =>
    intro i hi
    have z := ih (i + 1) (by omega)
    have b1 := short_in hD h (i + 1) (by omega)
    have b2 := dist_rd hD i (by omega)
    have b3 := pos_in (show (i : Int) - q ≤ 100 by omega) (by omega)
    have b4 := mulb b2.1 b2.2 b3.1 b3.2
    have b5 := short_in hD h i (by omega)
    have hw : wrap64 ((i : Int) + 1) = ((i + 1 : Nat) : Int) := by rw [wid (by omega) (by omega)]; omega
    simp only [wsum] at z b1
    refine ev_succ ?_
    simp only [spec_l5Short.l0]
    rw [hw, wid (x := (i : Int) - q) (by omega) (by omega), most_pos]
    simp only [Option.bind_some]
    rw [wid (x := rd w (i : Int) * pos ((i : Int) - q)) (by omega) (by omega), wid (by omega) (by omega)]
    exact ev_pos (by omega) (ev_pos (by omega) z)
theorem specShort_ev {q : Int} (h : 0 ≤ q ∧ q ≤ 100) : Ev (fun k => spec_l5Short.f k w q) (shortN w q) := by
  unfold spec_l5Short.f
  exact specShort_l0 hD h w.length 0 (by omega)
end
section
variable {w : List Int} (hD : DistOk w)
include hD
theorem specOver_l0 {q : Int} (h : 0 ≤ q ∧ q ≤ 100) (d : Nat) : ∀ i : Nat, i + d = w.length → Ev (fun k => spec_l5Over.l0 k w q (wsum w (fun d => pos (q - d)) i) (i : Int)) (overN w q) := by
  have hl := hD.1
  induction d with
  | zero =>
    intro i hi
    refine ev_succ ?_
    simp only [spec_l5Over.l0]
    refine ev_neg (by omega) ?_
    rw [show i = w.length by omega]
    exact ev_some _
  | succ d ih =>
    intro i hi
    have z := ih (i + 1) (by omega)
    have b1 := over_in hD h (i + 1) (by omega)
    have b2 := dist_rd hD i (by omega)
    have b3 := pos_in (show q - (i : Int) ≤ 100 by omega) (by omega)
    have b4 := mulb b2.1 b2.2 b3.1 b3.2
    have b5 := over_in hD h i (by omega)
    have hw : wrap64 ((i : Int) + 1) = ((i + 1 : Nat) : Int) := by rw [wid (by omega) (by omega)]; omega
    simp only [wsum] at z b1
    refine ev_succ ?_
    simp only [spec_l5Over.l0]
    rw [hw, wid (x := q - (i : Int)) (by omega) (by omega), most_pos]
    simp only [Option.bind_some]
    rw [wid (x := rd w (i : Int) * pos (q - (i : Int))) (by omega) (by omega), wid (by omega) (by omega)]
    exact ev_pos (by omega) (ev_pos (by omega) z)
theorem specOver_ev {q : Int} (h : 0 ≤ q ∧ q ≤ 100) : Ev (fun k => spec_l5Over.f k w q) (overN w q) := by
  unfold spec_l5Over.f
  exact specOver_l0 hD h w.length 0 (by omega)
theorem specCost_ev {o u q : Int} (ho : 0 ≤ o ∧ o ≤ 20) (hu : 0 ≤ u ∧ u ≤ 20) (h : 0 ≤ q ∧ q ≤ 100) : Ev (fun k => spec_l5Cost.f k w o u q) (costN w o u q) := by
  unfold spec_l5Cost.f costN
  have h1 := over_in hD h w.length (Nat.le_refl _)
  have h2 := short_in hD h w.length (Nat.le_refl _)
  have h3 := mulb ho.1 ho.2 h1.1 h1.2
  have h4 := mulb hu.1 hu.2 h2.1 h2.2
  refine ev_bind (specOver_ev hD h) (ev_bind (specShort_ev hD h) (ev_cast (ev_some _) ?_))
  unfold overN shortN
  rw [wid (x := o * _) (by omega) (by omega), wid (x := u * _) (by omega) (by omega), wid (by omega) (by omega)]
end
theorem charges_ev (l : List Int) (hl : l.length ≤ 1000) : Ev (fun k => impl_areCharges.f k l) (decide (∀ x ∈ l, 0 ≤ x ∧ x ≤ 20)) := by
  unfold impl_areCharges.f
  exact ev_bind (allWithin_ev l 0 20 (by omega)) (ev_some _)
def ChOk (o u : Int) : Prop := (0 ≤ o ∧ o ≤ 20) ∧ (0 ≤ u ∧ u ≤ 20)
instance (o u : Int) : Decidable (ChOk o u) := by unfold ChOk; infer_instance
theorem charges2_ev (o u : Int) : Ev (fun k => impl_areCharges.f k [o, u]) (decide (ChOk o u)) := ev_dec (charges_ev [o, u] (by simp)) (by unfold ChOk; simp)
theorem vInts_l0 (l : List Int) (hl : l.length ≤ 1000000) (d : Nat) : ∀ i : Nat, i + d = l.length → Ev (fun k => laws_vInts.l0 k l l (i : Int)) true := by
  induction d with
  | zero =>
    intro i hi
    refine ev_succ ?_
    simp only [laws_vInts.l0]
    exact ev_neg (by omega) (ev_some _)
  | succ d ih =>
    intro i hi
    have z := ih (i + 1) (by omega)
    refine ev_succ ?_
    simp only [laws_vInts.l0]
    rw [show wrap64 ((i : Int) + 1) = ((i + 1 : Nat) : Int) by rw [wid (by omega) (by omega)]; omega]
    exact ev_pos (by omega) (ev_pos (by omega) (ev_pos (by omega) (ev_pos trivial z)))
theorem vInts_ev (l : List Int) (hl : l.length ≤ 1000000) : Ev (fun k => laws_vInts.f k l l) true := by
  unfold laws_vInts.f
  exact ev_pos rfl (vInts_l0 l hl l.length 0 (by omega))
theorem costSum_ev {w : List Int} {o u q : Int} (hD : DistOk w) (hc : ChOk o u) (h : 0 ≤ q ∧ q ≤ 15) : Ev (fun k => impl_CostSum.f k w o u q) (costN w o u q, true) := by
  have hl := hD.1
  unfold impl_CostSum.f impl_isOrder.f
  simp only [within_eq, Option.bind_some]
  refine ev_bind (implDist_ev w (by omega)) (ev_pos (decide_eq_true hD) (ev_bind (charges2_ev o u) (ev_pos (decide_eq_true hc) (ev_pos (decide_eq_true h) (ev_bind (implCost_ev hD hc.1 hc.2 (by omega)) (ev_some _))))))
/-! The draw of goods: three lists of few numbers at most. -/
theorem specTotal_ex (w : List Int) (hl : w.length ≤ 1000000) : ∃ r, Ev (fun k => spec_l5Total.f k w) r := by
  have key : ∀ (d i : Nat) (x : Int), i + d = w.length → ∃ r, Ev (fun k => spec_l2Sum.l0 k w x (i : Int)) r := by
    intro d
    induction d with
    | zero =>
      intro i x hi
      refine ⟨x, ev_succ ?_⟩
      simp only [spec_l2Sum.l0]
      exact ev_neg (by omega) (ev_some _)
    | succ d ih =>
      intro i x hi
      obtain ⟨r, hr⟩ := ih (i + 1) (wrap64 (x + rd w (i : Int))) (by omega)
      refine ⟨r, ev_succ ?_⟩
      simp only [spec_l2Sum.l0]
      rw [show wrap64 ((i : Int) + 1) = ((i + 1 : Nat) : Int) by rw [wid (by omega) (by omega)]; omega]
      exact ev_pos (by omega) (ev_pos (by omega) hr)
  obtain ⟨r, hr⟩ := key w.length 0 0 (by omega)
  refine ⟨r, ?_⟩
  unfold spec_l5Total.f spec_l2Sum.f
  exact ev_bind hr (ev_some _)
theorem own_some (w : List Int) (hl : w.length ≤ 1000000) : spec_l1Own.f w = some w := by
  unfold spec_l1Own.f
  simp only [Option.bind_some, List.length_nil, List.nil_append]
  rw [if_pos (by omega)]
theorem rdL2_nat (gs : List (List Int)) (i : Nat) (h : i < gs.length) : rd_L2 gs (i : Int) = gs[i] := by
  unfold rd_L2
  simp [List.getD_eq_getElem?_getD, h]
section
variable {code : List Int} (hc : CodeOk code)
include hc
omit hc in
theorem goods_j3 (n : Nat) (ih : ∀ (xs : List (List Int)) (x t s : Int), xs.length + n ≤ 3 → (∀ w ∈ xs, w.length ≤ 17) → 0 ≤ t → t + 200 * n ≤ 500000000000000 → ∃ r t' s', Ev (fun k => spec_l1Cur_goods.l0 k xs x (n : Int) code t s) (r, t', s') ∧ r.length ≤ 3 ∧ (∀ w ∈ r, w.length ≤ 17) ∧ t ≤ t' ∧ t' ≤ t + 200 * n + 2)
    (xs : List (List Int)) (y : List Int) (b : Bool) (t s : Int) (hx : xs.length + (n + 1) ≤ 3) (hw : ∀ w ∈ xs, w.length ≤ 17) (hy : y.length ≤ 17) (h0 : 0 ≤ t) (h1 : t + 200 * n ≤ 500000000000000) (hb : b = true → 0 < xs.length) :
    ∃ r t' s', Ev (fun k => spec_l1Cur_goods.j3 k xs ((n + 1 : Nat) : Int) y b code t s) (r, t', s') ∧ r.length ≤ 3 ∧ (∀ w ∈ r, w.length ≤ 17) ∧ t ≤ t' ∧ t' ≤ t + 200 * n + 2 := by
  have en : wrap64 (((n + 1 : Nat) : Int) - 1) = (n : Int) := by rw [wid (by omega) (by omega)]; omega
  by_cases c : b = true
  · subst c
    have hp := hb rfl
    have e0 : rd_L2 xs 0 = xs[0] := rdL2_nat xs 0 hp
    have l0 : (xs[0]).length ≤ 17 := hw _ (List.getElem_mem _)
    obtain ⟨x, hx2⟩ := specTotal_ex xs[0] (by omega)
    obtain ⟨r, t', s', e, a1, a2, a3, a4⟩ := ih (xs ++ [xs[0]]) x t s (by simp; omega) (fun w h => by
      rcases List.mem_append.1 h with h | h
      · exact hw w h
      · rw [List.mem_singleton] at h; subst h; exact l0) h0 h1
    refine ⟨r, t', s', ev_succ ?_, a1, a2, a3, a4⟩
    simp only [spec_l1Cur_goods.j3]
    rw [en, e0, own_some _ (by omega)]
    simp only [Option.bind_some]
    exact ev_pos trivial (ev_pos (by omega) (ev_bind hx2 (ev_pos (by omega) e)))
  · obtain ⟨x, hx2⟩ := specTotal_ex y (by omega)
    obtain ⟨r, t', s', e, a1, a2, a3, a4⟩ := ih (xs ++ [y]) x t s (by simp; omega) (fun w h => by
      rcases List.mem_append.1 h with h | h
      · exact hw w h
      · rw [List.mem_singleton] at h; subst h; exact hy) h0 h1
    refine ⟨r, t', s', ev_succ ?_, a1, a2, a3, a4⟩
    simp only [spec_l1Cur_goods.j3]
    rw [en]
    exact ev_neg c (ev_bind hx2 (ev_pos (by omega) e))
theorem goods_j2 (n : Nat) (ih : ∀ (xs : List (List Int)) (x t s : Int), xs.length + n ≤ 3 → (∀ w ∈ xs, w.length ≤ 17) → 0 ≤ t → t + 200 * n ≤ 500000000000000 → ∃ r t' s', Ev (fun k => spec_l1Cur_goods.l0 k xs x (n : Int) code t s) (r, t', s') ∧ r.length ≤ 3 ∧ (∀ w ∈ r, w.length ≤ 17) ∧ t ≤ t' ∧ t' ≤ t + 200 * n + 2)
    (xs : List (List Int)) (y : List Int) (x t s : Int) (hx : xs.length + (n + 1) ≤ 3) (hw : ∀ w ∈ xs, w.length ≤ 17) (hy : y.length ≤ 17) (h0 : 0 ≤ t) (h1 : t + 200 * n + 10 ≤ 500000000000000) :
    ∃ r t' s', Ev (fun k => spec_l1Cur_goods.j2 k xs x ((n + 1 : Nat) : Int) y code t s) (r, t', s') ∧ r.length ≤ 3 ∧ (∀ w ∈ r, w.length ≤ 17) ∧ t ≤ t' ∧ t' ≤ t + 200 * n + 10 := by
  by_cases c : (xs.length : Int) > 0
  · have hg := specDist_ev y (by omega)
    by_cases d : DistOk y
    · obtain ⟨z, hz⟩ := specTotal_ex y (by omega)
      by_cases e : z = x
      · obtain ⟨r, t', s', e1, a1, a2, a3, a4⟩ := goods_j3 (code := code) n ih xs y false t s hx hw hy h0 (by omega) (fun h => by cases h)
        refine ⟨r, t', s', ev_succ ?_, a1, a2, a3, by omega⟩
        simp only [spec_l1Cur_goods.j2]
        exact ev_pos c (ev_bind hg (ev_pos (decide_eq_true d) (ev_bind hz (ev_pos e e1))))
      · obtain ⟨b, t1, s1, e2, q1, q2⟩ := one_ok hc t s 12 h0 (by omega) (by omega)
        obtain ⟨r, t', s', e1, a1, a2, a3, a4⟩ := goods_j3 (code := code) n ih xs y (!b) t1 s1 hx hw hy (by omega) (by omega) (fun _ => by omega)
        refine ⟨r, t', s', ev_succ ?_, a1, a2, by omega, by omega⟩
        simp only [spec_l1Cur_goods.j2, e2, Option.bind_some]
        exact ev_pos c (ev_bind hg (ev_pos (decide_eq_true d) (ev_bind hz (ev_neg e e1))))
    · obtain ⟨r, t', s', e1, a1, a2, a3, a4⟩ := goods_j3 (code := code) n ih xs y false t s hx hw hy h0 (by omega) (fun h => by cases h)
      refine ⟨r, t', s', ev_succ ?_, a1, a2, a3, by omega⟩
      simp only [spec_l1Cur_goods.j2]
      exact ev_pos c (ev_bind hg (ev_neg (by rw [decide_eq_true_eq]; exact d) e1))
  · obtain ⟨r, t', s', e1, a1, a2, a3, a4⟩ := goods_j3 (code := code) n ih xs y false t s hx hw hy h0 (by omega) (fun h => by cases h)
    refine ⟨r, t', s', ev_succ ?_, a1, a2, a3, by omega⟩
    simp only [spec_l1Cur_goods.j2]
    exact ev_neg c e1
theorem goods_j1 (n : Nat) (ih : ∀ (xs : List (List Int)) (x t s : Int), xs.length + n ≤ 3 → (∀ w ∈ xs, w.length ≤ 17) → 0 ≤ t → t + 200 * n ≤ 500000000000000 → ∃ r t' s', Ev (fun k => spec_l1Cur_goods.l0 k xs x (n : Int) code t s) (r, t', s') ∧ r.length ≤ 3 ∧ (∀ w ∈ r, w.length ≤ 17) ∧ t ≤ t' ∧ t' ≤ t + 200 * n + 2)
    (xs : List (List Int)) (y : List Int) (b : Bool) (x t s : Int) (hx : xs.length + (n + 1) ≤ 3) (hw : ∀ w ∈ xs, w.length ≤ 17) (hy : y.length ≤ 17) (h0 : 0 ≤ t) (h1 : t + 200 * n + 10 ≤ 500000000000000) (hb : b = true → 0 < y.length) :
    ∃ r t' s', Ev (fun k => spec_l1Cur_goods.j1 k xs x ((n + 1 : Nat) : Int) y b code t s) (r, t', s') ∧ r.length ≤ 3 ∧ (∀ w ∈ r, w.length ≤ 17) ∧ t ≤ t' ∧ t' ≤ t + 200 * n + 10 := by
  by_cases c : b = true
  · subst c
    have hp := hb rfl
    obtain ⟨z, hz⟩ := specTotal_ex y (by omega)
    obtain ⟨m, hm⟩ : ∃ m, spec_l1Least.f 1000 (wrap64 ((wrap64 ((rd y 0) + x)) - z)) = some m := by unfold spec_l1Least.f; split <;> exact ⟨_, rfl⟩
    obtain ⟨r, t', s', e1, a1, a2, a3, a4⟩ := goods_j2 hc n ih xs (y.set (0 : Int).toNat m) x t s hx hw (by rw [List.length_set]; exact hy) h0 h1
    refine ⟨r, t', s', ev_succ ?_, a1, a2, a3, a4⟩
    simp only [spec_l1Cur_goods.j1]
    refine ev_pos trivial (ev_pos (by omega) (ev_bind hz ?_))
    rw [hm]
    exact e1
  · obtain ⟨r, t', s', e1, a1, a2, a3, a4⟩ := goods_j2 hc n ih xs y x t s hx hw hy h0 h1
    refine ⟨r, t', s', ev_succ ?_, a1, a2, a3, a4⟩
    simp only [spec_l1Cur_goods.j1]
    exact ev_neg c e1
theorem goods_l0 (n : Nat) : ∀ (xs : List (List Int)) (x t s : Int), xs.length + n ≤ 3 → (∀ w ∈ xs, w.length ≤ 17) → 0 ≤ t → t + 200 * n ≤ 500000000000000 →
    ∃ r t' s', Ev (fun k => spec_l1Cur_goods.l0 k xs x (n : Int) code t s) (r, t', s') ∧ r.length ≤ 3 ∧ (∀ w ∈ r, w.length ≤ 17) ∧ t ≤ t' ∧ t' ≤ t + 200 * n + 2 := by
  induction n with
  | zero =>
    intro xs x t s hx hw h0 h1
    obtain ⟨b, t1, s1, e2, q1, q2⟩ := one_ok hc t s 24 h0 (by omega) (by omega)
    by_cases c : b = true
    · refine ⟨[], t1, s1, ev_succ ?_, by simp, by simp, q1, by omega⟩
      simp only [spec_l1Cur_goods.l0, e2, Option.bind_some]
      exact ev_neg (by omega) (ev_pos c (ev_some _))
    · refine ⟨xs, t1, s1, ev_succ ?_, by omega, hw, q1, by omega⟩
      simp only [spec_l1Cur_goods.l0, e2, Option.bind_some]
      exact ev_neg (by omega) (ev_neg c (ev_some _))
  | succ n ih =>
    intro xs x t s hx hw h0 h1
    obtain ⟨y, t1, s1, e1, l1, q1, q2⟩ := chances_ok hc t s h0 (by omega)
    have F : ∀ (b : Bool) (t2 s2 : Int), (b = true → 0 < y.length) → t ≤ t2 → t2 ≤ t + 110 → ∃ r t' s', Ev (fun k => spec_l1Cur_goods.j1 k xs x ((n + 1 : Nat) : Int) y b code t2 s2) (r, t', s') ∧ r.length ≤ 3 ∧ (∀ w ∈ r, w.length ≤ 17) ∧ t2 ≤ t' ∧ t' ≤ t2 + 200 * n + 10 := fun b t2 s2 hb g1 g2 =>
      goods_j1 hc n ih xs y b x t2 s2 hx hw l1 (by omega) (by omega) hb
    by_cases c : (xs.length : Int) > 0
    · have hg := specDist_ev y (by omega)
      by_cases d : DistOk y
      · have hl := d.1
        obtain ⟨z, hz⟩ := specTotal_ex y (by omega)
        by_cases e : z < x
        · obtain ⟨b, t2, s2, e2, g1, g2⟩ := one_ok hc t1 s1 12 (by omega) (by omega) (by omega)
          obtain ⟨r, t', s', e3, a1, a2, a3, a4⟩ := F (!b) t2 s2 (fun _ => by omega) (by omega) (by omega)
          refine ⟨r, t', s', ev_succ ?_, a1, a2, by omega, by omega⟩
          simp only [spec_l1Cur_goods.l0]
          refine ev_pos (by omega) (ev_bind e1 (ev_pos c (ev_bind hg (ev_pos (decide_eq_true d) (ev_bind hz (ev_pos e ?_))))))
          simp only [e2, Option.bind_some]
          exact e3
        · obtain ⟨r, t', s', e3, a1, a2, a3, a4⟩ := F false t1 s1 (fun h => by cases h) (by omega) (by omega)
          refine ⟨r, t', s', ev_succ ?_, a1, a2, by omega, by omega⟩
          simp only [spec_l1Cur_goods.l0]
          exact ev_pos (by omega) (ev_bind e1 (ev_pos c (ev_bind hg (ev_pos (decide_eq_true d) (ev_bind hz (ev_neg e e3))))))
      · obtain ⟨r, t', s', e3, a1, a2, a3, a4⟩ := F false t1 s1 (fun h => by cases h) (by omega) (by omega)
        refine ⟨r, t', s', ev_succ ?_, a1, a2, by omega, by omega⟩
        simp only [spec_l1Cur_goods.l0]
        exact ev_pos (by omega) (ev_bind e1 (ev_pos c (ev_bind hg (ev_neg (by rw [decide_eq_true_eq]; exact d) e3))))
    · obtain ⟨r, t', s', e3, a1, a2, a3, a4⟩ := F false t1 s1 (fun h => by cases h) (by omega) (by omega)
      refine ⟨r, t', s', ev_succ ?_, a1, a2, by omega, by omega⟩
      simp only [spec_l1Cur_goods.l0]
      exact ev_pos (by omega) (ev_bind e1 (ev_neg c e3))
theorem goods_ok (t s : Int) (h0 : 0 ≤ t) (h1 : t ≤ 400000000000000) : ∃ r t' s', Ev (fun k => spec_l1Cur_goods.f k code t s) (r, t', s') ∧ r.length ≤ 3 ∧ (∀ w ∈ r, w.length ≤ 17) ∧ t ≤ t' ∧ t' ≤ t + 700 := by
  obtain ⟨n, t1, s1, e1, m1, q1, q2⟩ := among_ok hc t s [2, 1, 2, 3] h0 (by omega) (by decide) (by decide)
  have hn : 1 ≤ n ∧ n ≤ 3 := by simp at m1; omega
  obtain ⟨r, t', s', e2, a1, a2, a3, a4⟩ := goods_l0 hc n.toNat [] 0 t1 s1 (by simp; omega) (by simp) (by omega) (by omega)
  rw [Int.toNat_of_nonneg (by omega)] at e2
  refine ⟨r, t', s', ?_, a1, a2, by omega, by omega⟩
  unfold spec_l1Cur_goods.f
  simp only [e1, Option.bind_some]
  exact e2
end
theorem drawBudget_l0 {code : List Int} (hc : CodeOk code) (gs : List (List Int)) (d : Nat) : ∀ (ps : List Int) (t s : Int) (i : Nat), i + d = gs.length → ps.length = i → gs.length ≤ 3 → 0 ≤ t → t + 2 * d ≤ 400000000000000 →
    ∃ o u qs b, Ev (fun k => spec_DrawBudgetOrders.l0 k gs ps (i : Int) code t s) (gs, o, u, qs, b) ∧ qs.length ≤ 4 := by
  induction d with
  | zero =>
    intro ps t s i hi hp hg h0 h1
    obtain ⟨b, t1, s1, e1, q1, q2⟩ := one_ok hc t s 24 h0 (by omega) (by omega)
    obtain ⟨o, t2, s2, e2, q3, q4⟩ := charge_ok hc t1 s1 (by omega) (by omega)
    obtain ⟨u, t3, s3, e3, q5, q6⟩ := charge_ok hc t2 s2 (by omega) (by omega)
    obtain ⟨p, t4, s4, e4, p0, p1, q7, q8⟩ := pick_ok hc t3 s3 24 (by omega) (by omega) (by omega)
    have p1 := p1 (by omega)
    have hl : (List.take (6 + p / 11).toNat [5, 8, 3, 12, 0, 60, 61, (-1 : Int)]).length = (6 + p / 11).toNat := by rw [List.length_take]; simp; omega
    obtain ⟨v, t5, s5, e5, _, q9, q10⟩ := among_ok hc t4 s4 (List.take (6 + p / 11).toNat [5, 8, 3, 12, 0, 60, 61, (-1 : Int)]) (by omega) (by omega) (by rw [hl]; omega) (by rw [hl]; omega)
    have J : ∀ qs : List Int, Ev (fun k => spec_DrawBudgetOrders.j1 k gs qs code t1 s1) (gs, o, u, qs, v) := fun qs => by
      refine ev_succ ?_
      simp only [spec_DrawBudgetOrders.j1, e2, e3, e4, Option.bind_some, List.length_cons, List.length_nil]
      rw [Int.tdiv_eq_ediv_of_nonneg p0, wid (x := p / 11) (by omega) (by omega), wid (x := 6 + p / 11) (by omega) (by omega), e5]
      simp only [Option.bind_some]
      exact ev_pos (by omega) (ev_pos (by omega) (ev_some _))
    by_cases c : b = true
    · refine ⟨o, u, ps ++ [1], v, ev_succ ?_, by simp; omega⟩
      simp only [spec_DrawBudgetOrders.l0, e1, Option.bind_some]
      exact ev_neg (by omega) (ev_pos c (ev_pos (by omega) (J _)))
    · refine ⟨o, u, ps, v, ev_succ ?_, by omega⟩
      simp only [spec_DrawBudgetOrders.l0, e1, Option.bind_some]
      exact ev_neg (by omega) (ev_neg c (J _))
  | succ d ih =>
    intro ps t s i hi hp hg h0 h1
    obtain ⟨v, t1, s1, e1, _, q1, q2⟩ := among_ok hc t s [1, 2, 3, 5, 0] h0 (by omega) (by decide) (by decide)
    obtain ⟨o, u, qs, b, e2, l2⟩ := ih (ps ++ [v]) t1 s1 (i + 1) (by omega) (by simp; omega) hg (by omega) (by omega)
    refine ⟨o, u, qs, b, ev_succ ?_, l2⟩
    simp only [spec_DrawBudgetOrders.l0, e1, Option.bind_some]
    rw [show wrap64 ((i : Int) + 1) = ((i + 1 : Nat) : Int) by rw [wid (by omega) (by omega)]; omega]
    exact ev_pos (by omega) (ev_pos (by omega) e2)
theorem drawBudget_ok {code : List Int} (hc : CodeOk code) : ∃ gs o u ps b, Ev (fun k => spec_DrawBudgetOrders.f k code) (gs, o, u, ps, b) ∧ gs.length ≤ 3 ∧ (∀ w ∈ gs, w.length ≤ 17) ∧ ps.length ≤ 4 := by
  obtain ⟨gs, t1, s1, e1, a1, a2, a3, a4⟩ := goods_ok hc 0 0 (by omega) (by omega)
  obtain ⟨o, u, ps, b, e2, l2⟩ := drawBudget_l0 hc gs gs.length [] t1 s1 0 (by omega) rfl a1 (by omega) (by omega)
  refine ⟨gs, o, u, ps, b, ?_, a1, a2, l2⟩
  unfold spec_DrawBudgetOrders.f spec_newCur.f
  simp only [Option.bind_some]
  exact ev_bind e1 e2
theorem drawStep_ok {code : List Int} (hc : CodeOk code) : ∃ gs o u b, Ev (fun k => spec_DrawStepOrders.f k code) (gs, o, u, b) ∧ gs.length ≤ 3 ∧ (∀ w ∈ gs, w.length ≤ 17) := by
  obtain ⟨gs, t1, s1, e1, a1, a2, a3, a4⟩ := goods_ok hc 0 0 (by omega) (by omega)
  obtain ⟨o, t2, s2, e2, q3, q4⟩ := charge_ok hc t1 s1 (by omega) (by omega)
  obtain ⟨u, t3, s3, e3, q5, q6⟩ := charge_ok hc t2 s2 (by omega) (by omega)
  obtain ⟨p, t4, s4, e4, p0, p1, q7, q8⟩ := pick_ok hc t3 s3 24 (by omega) (by omega) (by omega)
  have p1 := p1 (by omega)
  have hl : (List.take (6 + p / 11).toNat [5, 8, 3, 12, 0, 60, 61, (-1 : Int)]).length = (6 + p / 11).toNat := by rw [List.length_take]; simp; omega
  obtain ⟨v, t5, s5, e5, _, q9, q10⟩ := among_ok hc t4 s4 (List.take (6 + p / 11).toNat [5, 8, 3, 12, 0, 60, 61, (-1 : Int)]) (by omega) (by omega) (by rw [hl]; omega) (by rw [hl]; omega)
  refine ⟨gs, o, u, v, ?_, a1, a2⟩
  unfold spec_DrawStepOrders.f spec_newCur.f
  simp only [Option.bind_some]
  refine ev_bind e1 ?_
  simp only [e2, e3, e4, Option.bind_some, List.length_cons, List.length_nil]
  rw [Int.tdiv_eq_ediv_of_nonneg p0, wid (x := p / 11) (by omega) (by omega), wid (x := 6 + p / 11) (by omega) (by omega), e5]
  simp only [Option.bind_some]
  exact ev_pos (by omega) (ev_pos (by omega) (ev_some _))
/-! What goods are. -/
def SameT (gs : List (List Int)) (w : List Int) : Prop := DistOk w ∧ w.sum = (rd_L2 gs 0).sum
instance (gs : List (List Int)) (w : List Int) : Decidable (SameT gs w) := by unfold SameT; infer_instance
def GoodsOk (gs : List (List Int)) : Prop := (∀ w ∈ gs, SameT gs w) ∧ (1 ≤ (gs.length : Int) ∧ (gs.length : Int) ≤ 3)
instance (gs : List (List Int)) : Decidable (GoodsOk gs) := by unfold GoodsOk; infer_instance
theorem goods_rd {gs : List (List Int)} (h : GoodsOk gs) (i : Nat) (hi : i < gs.length) : DistOk (rd_L2 gs (i : Int)) := by
  rw [rdL2_nat gs i hi]
  exact (h.1 _ (List.getElem_mem _)).1
theorem drop_rdL2 (gs : List (List Int)) (i : Nat) (h : i < gs.length) : gs.drop i = rd_L2 gs (i : Int) :: gs.drop (i + 1) := by
  rw [rdL2_nat gs i h]
  exact List.drop_eq_getElem_cons h
section
variable {gs : List (List Int)} (hs : ∀ w ∈ gs, w.length ≤ 1000) (hl : gs.length ≤ 1000000)
include hs hl
theorem areGoods_l0 (o u : Int) (d : Nat) : ∀ i : Nat, i + d = gs.length → (0 < i → DistOk (rd_L2 gs 0)) →
    Ev (fun k => impl_areGoods.l0 k gs o u gs (gs.length : Int) (i : Int)) (decide ((∀ w ∈ gs.drop i, SameT gs w) ∧ (1 ≤ (gs.length : Int) ∧ (gs.length : Int) ≤ 3) ∧ ChOk o u)) := by
  induction d with
  | zero =>
    intro i hi hp
    refine ev_succ ?_
    simp only [impl_areGoods.l0, within_eq, Option.bind_some]
    refine ev_neg (by omega) ?_
    rw [List.drop_of_length_le (by omega)]
    refine ev_dec (P := (1 ≤ (gs.length : Int) ∧ (gs.length : Int) ≤ 3) ∧ ChOk o u) ?_ (by simp)
    exact ev_and rfl fun _ => ev_bind (charges2_ev o u) (ev_some _)
  | succ d ih =>
    intro i hi hp
    have hd := drop_rdL2 gs i (by omega)
    have hw : (rd_L2 gs (i : Int)).length ≤ 1000 := by rw [rdL2_nat gs i (by omega)]; exact hs _ (List.getElem_mem _)
    refine ev_succ ?_
    simp only [impl_areGoods.l0]
    refine ev_pos (by omega) (ev_pos (by omega) (ev_pos (by omega) (ev_bind (implDist_ev _ (by omega)) ?_)))
    by_cases c : DistOk (rd_L2 gs (i : Int))
    · have h0 : DistOk (rd_L2 gs 0) := by
        rcases Nat.eq_zero_or_pos i with z | z
        · subst z; exact c
        · exact hp z
      refine ev_pos (decide_eq_true c) (ev_bind (distTotal_ev c) (ev_pos (by omega) (ev_bind (distTotal_ev h0) ?_)))
      by_cases e : (rd_L2 gs (i : Int)).sum = (rd_L2 gs 0).sum
      · rw [show wrap64 ((i : Int) + 1) = ((i + 1 : Nat) : Int) by rw [wid (by omega) (by omega)]; omega]
        refine ev_pos e (ev_dec (ih (i + 1) (by omega) (fun _ => h0)) ?_)
        rw [hd]
        simp only [List.forall_mem_cons]
        exact ⟨fun z => ⟨⟨⟨c, e⟩, z.1⟩, z.2⟩, fun z => ⟨z.1.2, z.2⟩⟩
      · refine ev_neg e (ev_false fun z => ?_)
        rw [hd] at z
        exact e (z.1 _ (List.mem_cons_self ..)).2
    · refine ev_neg (by rw [decide_eq_true_eq]; exact c) (ev_false fun z => ?_)
      rw [hd] at z
      exact c (z.1 _ (List.mem_cons_self ..)).1
theorem areGoods_ev (o u : Int) : Ev (fun k => impl_areGoods.f k gs o u) (decide (GoodsOk gs ∧ ChOk o u)) := by
  unfold impl_areGoods.f
  refine ev_dec (areGoods_l0 hs hl o u gs.length 0 (by omega) (fun h => absurd h (by omega))) ?_
  unfold GoodsOk
  rw [List.drop_zero]
  exact ⟨fun z => ⟨⟨z.1, z.2.1⟩, z.2.2⟩, fun z => ⟨z.1.1, z.1.2, z.2⟩⟩
theorem l5Goods_l0 (d : Nat) : ∀ i : Nat, i + d = gs.length → (0 < i → DistOk (rd_L2 gs 0)) →
    Ev (fun k => spec_l5Goods.l0 k gs (i : Int)) (decide ((∀ w ∈ gs.drop i, SameT gs w) ∧ (1 ≤ (gs.length : Int) ∧ (gs.length : Int) ≤ 3))) := by
  induction d with
  | zero =>
    intro i hi hp
    refine ev_succ ?_
    simp only [spec_l5Goods.l0, in_eq, Option.bind_some]
    refine ev_neg (by omega) ?_
    rw [List.drop_of_length_le (by omega)]
    exact ev_dec (P := (1 ≤ (gs.length : Int) ∧ (gs.length : Int) ≤ 3)) (ev_some _) (by simp)
  | succ d ih =>
    intro i hi hp
    have hd := drop_rdL2 gs i (by omega)
    have hw : (rd_L2 gs (i : Int)).length ≤ 1000 := by rw [rdL2_nat gs i (by omega)]; exact hs _ (List.getElem_mem _)
    refine ev_succ ?_
    simp only [spec_l5Goods.l0]
    refine ev_pos (by omega) (ev_pos (by omega) (ev_bind (specDist_ev _ (by omega)) ?_))
    by_cases c : DistOk (rd_L2 gs (i : Int))
    · have h0 : DistOk (rd_L2 gs 0) := by
        rcases Nat.eq_zero_or_pos i with z | z
        · subst z; exact c
        · exact hp z
      refine ev_pos (decide_eq_true c) (ev_bind (specTotal_ev c) (ev_pos (by omega) (ev_bind (specTotal_ev h0) ?_)))
      by_cases e : (rd_L2 gs (i : Int)).sum = (rd_L2 gs 0).sum
      · rw [show wrap64 ((i : Int) + 1) = ((i + 1 : Nat) : Int) by rw [wid (by omega) (by omega)]; omega]
        refine ev_pos e (ev_dec (ih (i + 1) (by omega) (fun _ => h0)) ?_)
        rw [hd]
        simp only [List.forall_mem_cons]
        exact ⟨fun z => ⟨⟨⟨c, e⟩, z.1⟩, z.2⟩, fun z => ⟨z.1.2, z.2⟩⟩
      · refine ev_neg e (ev_false fun z => ?_)
        rw [hd] at z
        exact e (z.1 _ (List.mem_cons_self ..)).2
    · refine ev_neg (by rw [decide_eq_true_eq]; exact c) (ev_false fun z => ?_)
      rw [hd] at z
      exact c (z.1 _ (List.mem_cons_self ..)).1
theorem l5Goods_ev : Ev (fun k => spec_l5Goods.f k gs) (decide (GoodsOk gs)) := by
  unfold spec_l5Goods.f
  refine ev_dec (l5Goods_l0 hs hl gs.length 0 (by omega) (fun h => absurd h (by omega))) ?_
  unfold GoodsOk
  rw [List.drop_zero]
end
theorem l5Charges_eq (o u : Int) : spec_l5Charges.f o u = some (decide (ChOk o u)) := by
  unfold spec_l5Charges.f
  simp only [in_eq, Option.bind_some]
  by_cases c : 0 ≤ o ∧ o ≤ 20
  · rw [if_pos (decide_eq_true c)]
    exact congrArg some (decide_eq_decide.2 ⟨fun h => (⟨c, h⟩ : ChOk o u), fun h : ChOk o u => h.2⟩)
  · rw [if_neg (by rw [decide_eq_true_eq]; exact c)]
    exact congrArg some (decide_eq_false (fun h : ChOk o u => c h.1)).symm
/-! All lists of orders within a budget, one behind the other. -/
def upd (st : Option (List Int × Int)) (x : List Int) (c : Int) : Option (List Int × Int) :=
  match st with
  | none => some (x, c)
  | some p => if c < p.2 then some (x, c) else some p
def loopT (f : Int → Option (List Int × Int) → Option (List Int × Int)) : Nat → Int → Option (List Int × Int) → Option (List Int × Int)
  | 0, _, st => st
  | d + 1, q, st => loopT f d (q + 1) (f q st)
theorem loop_stop {f : Int → Option (List Int × Int) → Option (List Int × Int)} (d : Nat) : ∀ (q : Int) (st : Option (List Int × Int)), (∀ r, q ≤ r → ∀ s, f r s = s) → loopT f d q st = st := by
  induction d with
  | zero => intro q st _; rfl
  | succ d ih =>
    intro q st h
    simp only [loopT]
    rw [h q (Int.le_refl q) st]
    exact ih (q + 1) st fun r hr => h r (by omega)
def Tr (gs : List (List Int)) (o u : Int) (ps : List Int) : Nat → Int → List Int → Int → Option (List Int × Int) → Option (List Int × Int)
  | 0, _, acc, cost, st => upd st acc cost
  | d + 1, left, acc, cost, st => loopT (fun q s => if q * rd ps (acc.length : Int) ≤ left then Tr gs o u ps d (left - q * rd ps (acc.length : Int)) (acc ++ [q]) (cost + costN (rd_L2 gs (acc.length : Int)) o u q) s else s) 16 0 st
def encI (st : Option (List Int × Int)) : List Int × Int := match st with
  | none => ([], 1099511627776)
  | some p => p
def encS (st : Option (List Int × Int)) : List Int × Int × Bool := match st with
  | none => ([], 0, false)
  | some p => (p.1, p.2, true)
theorem copied_some (w : List Int) (hl : w.length ≤ 1000000) : impl_copied.f w = some w := by
  unfold impl_copied.f
  simp only [Option.bind_some, List.length_nil, List.nil_append]
  rw [if_pos (by omega)]
section
variable {gs : List (List Int)} {o u : Int} {ps : List Int} (hG : GoodsOk gs) (hc : ChOk o u) (hp : ∀ x ∈ ps, 0 ≤ x ∧ x ≤ 20) (hn : ps.length = gs.length)
include hG hc hp hn
theorem implTry (d : Nat) : ∀ (left : Int) (acc : List Int) (cost : Int) (st : Option (List Int × Int)), acc.length + d = gs.length → left ≤ 60 → -1000 ≤ left → 0 ≤ cost → cost ≤ acc.length * 64000000 →
    Ev (fun k => impl_BudgetOrdersLit.f k gs o u ps acc left cost (encI st).1 (encI st).2) (encI (Tr gs o u ps d left acc cost st)) := by
  have hg := hG.2
  induction d with
  | zero =>
    intro left acc cost st ha h1 h2 h3 h4
    refine ev_succ ?_
    simp only [impl_BudgetOrdersLit.f, Tr, copied_some acc (by omega), Option.bind_some]
    refine ev_pos (by omega) ?_
    cases st with
    | none => exact ev_pos (show cost < 1099511627776 by omega) (ev_some _)
    | some p =>
      simp only [upd, encI]
      by_cases c : cost < p.2
      · rw [if_pos c]
        exact ev_pos c (ev_some _)
      · rw [if_neg c]
        exact ev_neg c (ev_some _)
  | succ d ih =>
    intro left acc cost st ha h1 h2 h3 h4
    have hr := rd_in hp acc.length (by omega)
    have hD := goods_rd hG acc.length (by omega)
    simp only [Tr]
    generalize hF : (fun (q : Int) (s : Option (List Int × Int)) => if q * rd ps (acc.length : Int) ≤ left then Tr gs o u ps d (left - q * rd ps (acc.length : Int)) (acc ++ [q]) (cost + costN (rd_L2 gs (acc.length : Int)) o u q) s else s) = F
    have hf : ∀ q s, F q s = if q * rd ps (acc.length : Int) ≤ left then Tr gs o u ps d (left - q * rd ps (acc.length : Int)) (acc ++ [q]) (cost + costN (rd_L2 gs (acc.length : Int)) o u q) s else s := fun q s => by rw [← hF]
    have L : ∀ (m j : Nat) (s : Option (List Int × Int)), j + m = 16 → Ev (fun k => impl_BudgetOrdersLit.l0 k gs o u ps acc left cost (encI s).1 (encI s).2 (j : Int)) (encI (loopT F m (j : Int) s)) := by
      intro m
      induction m with
      | zero =>
        intro j s hj
        refine ev_succ ?_
        simp only [impl_BudgetOrdersLit.l0, loopT]
        exact ev_neg (by omega) (ev_some _)
      | succ m ihm =>
        intro j s hj
        have hj0 : (0 : Int) ≤ (j : Int) := Int.natCast_nonneg j
        have hj1 : (j : Int) ≤ 15 := by omega
        have hj2 : (j : Int) < 16 := by omega
        have hm := mulb hj0 hj1 hr.1 hr.2
        have hco := cost_in hD hc.1 hc.2 (q := (j : Int)) ⟨hj0, by omega⟩
        have i1 : (acc.length : Int) < (ps.length : Int) := by omega
        have i2 : (acc.length : Int) < (gs.length : Int) := by omega
        have i3 : acc.length < 17592186044416 := by omega
        have i4 : (acc ++ [(j : Int)]).length + d = gs.length := by simp; omega
        have i5 : ((acc ++ [(j : Int)]).length : Int) = (acc.length : Int) + 1 := by simp
        refine ev_succ ?_
        simp only [impl_BudgetOrdersLit.l0, loopT]
        rw [show wrap64 ((j : Int) + 1) = ((j + 1 : Nat) : Int) by rw [wid (by omega) (by omega)]; omega, wid (x := (j : Int) * rd ps (acc.length : Int)) (by omega) (by omega), show ((j : Int) + 1) = ((j + 1 : Nat) : Int) by omega, hf]
        refine ev_pos hj2 (ev_pos i1 ?_)
        by_cases c : (j : Int) * rd ps (acc.length : Int) ≤ left
        · have g1 : left - (j : Int) * rd ps (acc.length : Int) ≤ 60 := by omega
          have g2 : -1000 ≤ left - (j : Int) * rd ps (acc.length : Int) := by omega
          have g3 : 0 ≤ cost + costN (rd_L2 gs (acc.length : Int)) o u (j : Int) := by omega
          have g4 : cost + costN (rd_L2 gs (acc.length : Int)) o u (j : Int) ≤ ((acc ++ [(j : Int)]).length : Int) * 64000000 := by omega
          have g5 : cost + costN (rd_L2 gs (acc.length : Int)) o u (j : Int) ≤ 1000000000 := by omega
          rw [if_pos c]
          refine ev_pos c (ev_pos i3 (ev_pos i2 (ev_bind (implCost_ev hD hc.1 hc.2 ⟨hj0, by omega⟩) ?_)))
          rw [wid (x := left - (j : Int) * rd ps (acc.length : Int)) (by omega) (by omega), wid (x := cost + costN (rd_L2 gs (acc.length : Int)) o u (j : Int)) (by omega) (by omega)]
          exact ev_bind (ih _ (acc ++ [(j : Int)]) _ s i4 g1 g2 g3 g4) (ihm (j + 1) _ (by omega))
        · rw [if_neg c]
          exact ev_neg c (ihm (j + 1) s (by omega))
    refine ev_succ ?_
    simp only [impl_BudgetOrdersLit.f]
    exact ev_neg (by omega) (L 16 0 st (by omega))
theorem specTry (d : Nat) : ∀ (left : Int) (acc : List Int) (cost : Int) (st : Option (List Int × Int)), acc.length + d = gs.length → left ≤ 60 → -1000 ≤ left → 0 ≤ cost → cost ≤ acc.length * 64000000 →
    Ev (fun k => spec_l5Try.f k gs o u ps left acc cost (encS st).1 (encS st).2.1 (encS st).2.2) (encS (Tr gs o u ps d left acc cost st)) := by
  have hg := hG.2
  induction d with
  | zero =>
    intro left acc cost st ha h1 h2 h3 h4
    refine ev_succ ?_
    simp only [spec_l5Try.f, Tr]
    refine ev_pos (by omega) ?_
    cases st with
    | none => exact ev_neg (by simp [encS]) (ev_some _)
    | some p =>
      simp only [upd, encS]
      refine ev_pos trivial ?_
      by_cases c : cost < p.2
      · rw [if_pos c]
        exact ev_pos c (ev_some _)
      · rw [if_neg c]
        exact ev_neg c (ev_some _)
  | succ d ih =>
    intro left acc cost st ha h1 h2 h3 h4
    have hr := rd_in hp acc.length (by omega)
    have hD := goods_rd hG acc.length (by omega)
    simp only [Tr]
    generalize hF : (fun (q : Int) (s : Option (List Int × Int)) => if q * rd ps (acc.length : Int) ≤ left then Tr gs o u ps d (left - q * rd ps (acc.length : Int)) (acc ++ [q]) (cost + costN (rd_L2 gs (acc.length : Int)) o u q) s else s) = F
    have hf : ∀ q s, F q s = if q * rd ps (acc.length : Int) ≤ left then Tr gs o u ps d (left - q * rd ps (acc.length : Int)) (acc ++ [q]) (cost + costN (rd_L2 gs (acc.length : Int)) o u q) s else s := fun q s => by rw [← hF]
    have L : ∀ (m j : Nat) (s : Option (List Int × Int)), j + m = 16 → Ev (fun k => spec_l5Try.l0 k gs o u ps left acc cost (encS s).1 (encS s).2.1 (encS s).2.2 (j : Int)) (encS (loopT F m (j : Int) s)) := by
      intro m
      induction m with
      | zero =>
        intro j s hj
        refine ev_succ ?_
        simp only [spec_l5Try.l0, loopT]
        exact ev_neg (by omega) (ev_some _)
      | succ m ihm =>
        intro j s hj
        have hj0 : (0 : Int) ≤ (j : Int) := Int.natCast_nonneg j
        have hj1 : (j : Int) ≤ 15 := by omega
        have hm := mulb hj0 hj1 hr.1 hr.2
        have hco := cost_in hD hc.1 hc.2 (q := (j : Int)) ⟨hj0, by omega⟩
        have i1 : (acc.length : Int) < (ps.length : Int) := by omega
        have i2 : (acc.length : Int) < (gs.length : Int) := by omega
        have i3 : acc.length < 17592186044416 := by omega
        have i4 : (acc ++ [(j : Int)]).length + d = gs.length := by simp; omega
        have i5 : ((acc ++ [(j : Int)]).length : Int) = (acc.length : Int) + 1 := by simp
        by_cases c : (j : Int) * rd ps (acc.length : Int) ≤ left
        · have g1 : left - (j : Int) * rd ps (acc.length : Int) ≤ 60 := by omega
          have g2 : -1000 ≤ left - (j : Int) * rd ps (acc.length : Int) := by omega
          have g3 : 0 ≤ cost + costN (rd_L2 gs (acc.length : Int)) o u (j : Int) := by omega
          have g4 : cost + costN (rd_L2 gs (acc.length : Int)) o u (j : Int) ≤ ((acc ++ [(j : Int)]).length : Int) * 64000000 := by omega
          have g5 : cost + costN (rd_L2 gs (acc.length : Int)) o u (j : Int) ≤ 1000000000 := by omega
          refine ev_succ ?_
          simp only [spec_l5Try.l0, loopT, own_some acc (by omega), Option.bind_some]
          rw [show wrap64 ((j : Int) + 1) = ((j + 1 : Nat) : Int) by rw [wid (by omega) (by omega)]; omega, wid (x := (j : Int) * rd ps (acc.length : Int)) (by omega) (by omega), show ((j : Int) + 1) = ((j + 1 : Nat) : Int) by omega, hf]
          refine ev_pos hj1 (ev_pos i1 ?_)
          rw [if_pos c]
          refine ev_pos c (ev_pos i2 (ev_pos i3 (ev_bind (specCost_ev hD hc.1 hc.2 ⟨hj0, by omega⟩) ?_)))
          rw [wid (x := left - (j : Int) * rd ps (acc.length : Int)) (by omega) (by omega), wid (x := cost + costN (rd_L2 gs (acc.length : Int)) o u (j : Int)) (by omega) (by omega)]
          exact ev_bind (ih _ (acc ++ [(j : Int)]) _ s i4 g1 g2 g3 g4) (ihm (j + 1) _ (by omega))
        · rw [loop_stop (m + 1) (j : Int) s fun r hr2 s => by
            rw [hf, if_neg]
            have := Int.mul_le_mul_of_nonneg_right hr2 hr.1
            omega]
          refine ev_succ ?_
          simp only [spec_l5Try.l0]
          rw [wid (x := (j : Int) * rd ps (acc.length : Int)) (by omega) (by omega)]
          exact ev_pos hj1 (ev_pos i1 (ev_neg c (ev_some _)))
    refine ev_succ ?_
    simp only [spec_l5Try.f]
    exact ev_neg (by omega) (L 16 0 st (by omega))
end
/-! What is found: a list within the budget that costs least. -/
def dot (ps xs : List Int) : Nat → Int
  | 0 => 0
  | n + 1 => dot ps xs n + rd ps (n : Int) * rd xs (n : Int)
def csum (gs : List (List Int)) (o u : Int) (xs : List Int) : Nat → Int
  | 0 => 0
  | n + 1 => csum gs o u xs n + costN (rd_L2 gs (n : Int)) o u (rd xs (n : Int))
theorem rd_app (xs ys : List Int) (i : Nat) (h : i < xs.length) : rd (xs ++ ys) (i : Int) = rd xs (i : Int) := by
  unfold rd
  simp [List.getD_eq_getElem?_getD, List.getElem?_append_left h]
theorem rd_at (xs : List Int) (y : Int) (ys : List Int) : rd (xs ++ y :: ys) (xs.length : Int) = y := by
  unfold rd
  simp [List.getD_eq_getElem?_getD]
theorem rd_nn {xs : List Int} {b : Int} (hb : 0 ≤ b) (h : ∀ x ∈ xs, 0 ≤ x ∧ x ≤ b) (i : Nat) : 0 ≤ rd xs (i : Int) ∧ rd xs (i : Int) ≤ b := by
  by_cases c : i < xs.length
  · exact rd_in h i c
  · have e : rd xs (i : Int) = 0 := by
      unfold rd
      simp [List.getD_eq_getElem?_getD, List.getElem?_eq_none (Nat.le_of_not_lt c)]
    omega
theorem dot_app (ps xs ys : List Int) (n : Nat) (h : n ≤ xs.length) : dot ps (xs ++ ys) n = dot ps xs n := by
  induction n with
  | zero => rfl
  | succ n ih => simp only [dot]; rw [ih (by omega), rd_app xs ys n (by omega)]
theorem csum_app (gs : List (List Int)) (o u : Int) (xs ys : List Int) (n : Nat) (h : n ≤ xs.length) : csum gs o u (xs ++ ys) n = csum gs o u xs n := by
  induction n with
  | zero => rfl
  | succ n ih => simp only [csum]; rw [ih (by omega), rd_app xs ys n (by omega)]
theorem dot_le {ps xs : List Int} (hp : ∀ x ∈ ps, 0 ≤ x ∧ x ≤ 20) (hx : ∀ x ∈ xs, 0 ≤ x ∧ x ≤ 15) (m d : Nat) : dot ps xs m ≤ dot ps xs (m + d) := by
  induction d with
  | zero => exact Int.le_refl _
  | succ d ih =>
    have a := rd_nn (by omega) hp (m + d)
    have b := rd_nn (by omega) hx (m + d)
    have := Int.mul_nonneg a.1 b.1
    rw [show m + (d + 1) = (m + d) + 1 by omega]
    simp only [dot]
    omega
def Full (gs : List (List Int)) (ps : List Int) (B : Int) (xs : List Int) : Prop := xs.length = gs.length ∧ (∀ x ∈ xs, 0 ≤ x ∧ x ≤ 15) ∧ dot ps xs gs.length ≤ B
section
variable {gs : List (List Int)} {ps : List Int} (o u B : Int) (hp : ∀ x ∈ ps, 0 ≤ x ∧ x ≤ 20)
include hp
theorem Tr_spec (d : Nat) : ∀ (left : Int) (acc : List Int) (cost : Int) (st : Option (List Int × Int)), acc.length + d = gs.length → (∀ x ∈ acc, 0 ≤ x ∧ x ≤ 15) → left = B - dot ps acc acc.length → 0 ≤ left → cost = csum gs o u acc acc.length →
    (Tr gs o u ps d left acc cost st = st ∨ ∃ xs, Full gs ps B xs ∧ Tr gs o u ps d left acc cost st = some (xs, csum gs o u xs gs.length)) ∧
    (∀ ys, Full gs ps B (acc ++ ys) → ∃ b c, Tr gs o u ps d left acc cost st = some (b, c) ∧ c ≤ csum gs o u (acc ++ ys) gs.length) ∧
    (∀ b0 c0, st = some (b0, c0) → ∃ b c, Tr gs o u ps d left acc cost st = some (b, c) ∧ c ≤ c0) := by
  induction d with
  | zero =>
    intro left acc cost st ha hx hl h0 hc
    have ea : acc.length = gs.length := by omega
    rw [ea] at hl hc
    have hF : Full gs ps B acc := ⟨ea, hx, by omega⟩
    simp only [Tr]
    have hys : ∀ ys, Full gs ps B (acc ++ ys) → acc ++ ys = acc := fun ys h => by
      have := h.1
      rw [List.length_append] at this
      rw [List.eq_nil_of_length_eq_zero (show ys.length = 0 by omega), List.append_nil]
    cases st with
    | none =>
      simp only [upd]
      exact ⟨.inr ⟨acc, hF, by rw [hc]⟩, fun ys h => ⟨acc, cost, rfl, by rw [hys ys h]; omega⟩, fun b0 c0 h => by cases h⟩
    | some p =>
      simp only [upd]
      by_cases c : cost < p.2
      · rw [if_pos c]
        refine ⟨.inr ⟨acc, hF, by rw [hc]⟩, fun ys h => ⟨acc, cost, rfl, by rw [hys ys h]; omega⟩, fun b0 c0 h => ⟨acc, cost, rfl, ?_⟩⟩
        cases h
        exact Int.le_of_lt c
      · rw [if_neg c]
        refine ⟨.inl rfl, fun ys h => ⟨p.1, p.2, rfl, by rw [hys ys h]; omega⟩, fun b0 c0 h => ⟨b0, c0, h, Int.le_refl _⟩⟩
  | succ d ih =>
    intro left acc cost st ha hx hl h0 hc
    simp only [Tr]
    generalize hF : (fun (q : Int) (s : Option (List Int × Int)) => if q * rd ps (acc.length : Int) ≤ left then Tr gs o u ps d (left - q * rd ps (acc.length : Int)) (acc ++ [q]) (cost + costN (rd_L2 gs (acc.length : Int)) o u q) s else s) = F
    have hf : ∀ q s, F q s = if q * rd ps (acc.length : Int) ≤ left then Tr gs o u ps d (left - q * rd ps (acc.length : Int)) (acc ++ [q]) (cost + costN (rd_L2 gs (acc.length : Int)) o u q) s else s := fun q s => by rw [← hF]
    have L : ∀ (m j : Nat) (s : Option (List Int × Int)), j + m = 16 →
        (loopT F m (j : Int) s = s ∨ ∃ xs, Full gs ps B xs ∧ loopT F m (j : Int) s = some (xs, csum gs o u xs gs.length)) ∧
        (∀ (y : Int) ys, (j : Int) ≤ y → Full gs ps B (acc ++ y :: ys) → ∃ b c, loopT F m (j : Int) s = some (b, c) ∧ c ≤ csum gs o u (acc ++ y :: ys) gs.length) ∧
        (∀ b0 c0, s = some (b0, c0) → ∃ b c, loopT F m (j : Int) s = some (b, c) ∧ c ≤ c0) := by
      intro m
      induction m with
      | zero =>
        intro j s hj
        simp only [loopT]
        refine ⟨.inl trivial, fun y ys hy h => ?_, fun b0 c0 h => ⟨b0, c0, h, Int.le_refl _⟩⟩
        have := (h.2.1 y (by simp)).2
        omega
      | succ m ihm =>
        intro j s hj
        simp only [loopT]
        rw [show ((j : Int) + 1) = ((j + 1 : Nat) : Int) by omega]
        obtain ⟨a1, a2, a3⟩ := ihm (j + 1) (F (j : Int) s) (by omega)
        have hS : (F (j : Int) s = s ∨ ∃ xs, Full gs ps B xs ∧ F (j : Int) s = some (xs, csum gs o u xs gs.length)) ∧ (∀ ys, Full gs ps B (acc ++ (j : Int) :: ys) → ∃ b c, F (j : Int) s = some (b, c) ∧ c ≤ csum gs o u (acc ++ (j : Int) :: ys) gs.length) ∧ (∀ b0 c0, s = some (b0, c0) → ∃ b c, F (j : Int) s = some (b, c) ∧ c ≤ c0) := by
          rw [hf]
          by_cases c : (j : Int) * rd ps (acc.length : Int) ≤ left
          · rw [if_pos c]
            have el : (acc ++ [(j : Int)]).length = acc.length + 1 := by simp
            have q := ih (left - (j : Int) * rd ps (acc.length : Int)) (acc ++ [(j : Int)]) (cost + costN (rd_L2 gs (acc.length : Int)) o u (j : Int)) s (by omega) (fun x hx2 => by
              rcases List.mem_append.1 hx2 with h | h
              · exact hx x h
              · rw [List.mem_singleton] at h
                omega) (by
              rw [el]
              simp only [dot]
              rw [dot_app ps acc _ _ (Nat.le_refl _), rd_at acc (j : Int) [], hl, Int.mul_comm (rd ps (acc.length : Int))]
              omega) (by omega) (by
              rw [el]
              simp only [csum]
              rw [csum_app gs o u acc _ _ (Nat.le_refl _), rd_at acc (j : Int) [], hc])
            refine ⟨q.1, fun ys h => ?_, q.2.2⟩
            have e : acc ++ (j : Int) :: ys = (acc ++ [(j : Int)]) ++ ys := by simp
            rw [e] at h ⊢
            exact q.2.1 ys h
          · rw [if_neg c]
            refine ⟨.inl rfl, fun ys h => absurd ?_ c, fun b0 c0 h => ⟨b0, c0, h, Int.le_refl _⟩⟩
            have h1 := dot_le hp h.2.1 (acc.length + 1) d
            rw [show acc.length + 1 + d = gs.length by omega] at h1
            have h2 := h.2.2
            simp only [dot] at h1
            rw [dot_app ps acc _ _ (Nat.le_refl _), rd_at acc (j : Int) ys, Int.mul_comm (rd ps (acc.length : Int))] at h1
            omega
        obtain ⟨s1, s2, s3⟩ := hS
        refine ⟨?_, fun y ys hy h => ?_, fun b0 c0 h => ?_⟩
        · rcases a1 with e | e
          · rw [e]
            exact s1
          · exact .inr e
        · by_cases c : y = (j : Int)
          · subst c
            obtain ⟨b, c, e, le⟩ := s2 ys h
            obtain ⟨b2, c2, e2, le2⟩ := a3 b c e
            exact ⟨b2, c2, e2, by omega⟩
          · exact a2 y ys (by omega) h
        · obtain ⟨b, c, e, le⟩ := s3 b0 c0 h
          obtain ⟨b2, c2, e2, le2⟩ := a3 b c e
          exact ⟨b2, c2, e2, by omega⟩
    obtain ⟨a1, a2, a3⟩ := L 16 0 st (by omega)
    refine ⟨a1, fun ys h => ?_, a3⟩
    cases ys with
    | nil =>
      have := h.1
      rw [List.append_nil] at this
      omega
    | cons y ys => exact a2 y ys (by have := (h.2.1 y (by simp)).1; omega) h
theorem best_ex (hB : 0 ≤ B) : ∃ xs, Tr gs o u ps gs.length B [] 0 none = some (xs, csum gs o u xs gs.length) ∧ Full gs ps B xs ∧ ∀ ys, Full gs ps B ys → csum gs o u xs gs.length ≤ csum gs o u ys gs.length := by
  obtain ⟨a1, a2, a3⟩ := Tr_spec (gs := gs) o u B hp gs.length B [] 0 none (by simp) (by simp) (by simp [dot]) hB (by simp [csum])
  have hz : ∀ n, dot ps (List.replicate gs.length 0) n = 0 := fun n => by
    induction n with
    | zero => rfl
    | succ n ih =>
      have e : rd (List.replicate gs.length (0 : Int)) (n : Int) = 0 := by
        unfold rd
        by_cases c : n < gs.length
        · simp [List.getD_eq_getElem?_getD, c]
        · simp [List.getD_eq_getElem?_getD, c]
      simp only [dot]
      rw [ih, e]
      simp
  have z : Full gs ps B ([] ++ List.replicate gs.length 0) := by
    rw [List.nil_append]
    exact ⟨by simp, fun x hx => by have := List.eq_of_mem_replicate hx; omega, by rw [hz]; exact hB⟩
  rcases a1 with e | ⟨xs, hF, e⟩
  · obtain ⟨b, c, e2, _⟩ := a2 _ z
    rw [e] at e2
    cases e2
  · refine ⟨xs, e, hF, fun ys hy => ?_⟩
    obtain ⟨b, c, e2, le⟩ := a2 ys (by rw [List.nil_append]; exact hy)
    rw [e] at e2
    cases e2
    rw [List.nil_append] at le
    exact le
end
/-! Orders step by step: each unit goes to the good that gains most by it, the first of such. -/
def gain (gs : List (List Int)) (o u : Int) (z : List Int) (i : Nat) : Int := costN (rd_L2 gs (i : Int)) o u (rd z (i : Int)) - costN (rd_L2 gs (i : Int)) o u (rd z (i : Int) + 1)
def pick (gs : List (List Int)) (o u : Int) (z : List Int) : Nat → Nat → Int → Int → Int × Int
  | 0, _, b, m => (b, m)
  | d + 1, i, b, m => if gain gs o u z i > m then pick gs o u z d (i + 1) (i : Int) (gain gs o u z i) else pick gs o u z d (i + 1) b m
def stepN (gs : List (List Int)) (o u : Int) : Nat → List Int → List Int
  | 0, z => z
  | n + 1, z => if (pick gs o u z gs.length 0 (-1) 0).1 < 0 then z else stepN gs o u n (z.set (pick gs o u z gs.length 0 (-1) 0).1.toNat (rd z (pick gs o u z gs.length 0 (-1) 0).1 + 1))
def OutOk (gs : List (List Int)) (z : List Int) : Prop := z.length = gs.length ∧ ∀ x ∈ z, 0 ≤ x ∧ x ≤ 15
theorem pick_spec (gs : List (List Int)) (o u : Int) (z : List Int) (d : Nat) : ∀ (i : Nat) (b m : Int), i + d = gs.length → 0 ≤ m → ((b = -1 ∧ m = 0) ∨ ∃ j : Nat, j < i ∧ b = (j : Int) ∧ gain gs o u z j = m ∧ 0 < m) → (∀ j, j < i → gain gs o u z j ≤ m) →
    (((pick gs o u z d i b m).1 = -1 ∧ (pick gs o u z d i b m).2 = 0) ∨ ∃ j : Nat, j < gs.length ∧ (pick gs o u z d i b m).1 = (j : Int) ∧ gain gs o u z j = (pick gs o u z d i b m).2 ∧ 0 < (pick gs o u z d i b m).2) ∧ ∀ j, j < gs.length → gain gs o u z j ≤ (pick gs o u z d i b m).2 := by
  induction d with
  | zero =>
    intro i b m hi h0 h1 h2
    simp only [pick]
    have e : i = gs.length := by omega
    subst e
    exact ⟨h1, h2⟩
  | succ d ih =>
    intro i b m hi h0 h1 h2
    simp only [pick]
    by_cases c : gain gs o u z i > m
    · rw [if_pos c]
      refine ih (i + 1) _ _ (by omega) (by omega) (.inr ⟨i, by omega, rfl, rfl, by omega⟩) fun j hj => ?_
      by_cases e : j = i
      · subst e; exact Int.le_refl _
      · have := h2 j (by omega)
        omega
    · rw [if_neg c]
      refine ih (i + 1) _ _ (by omega) h0 ?_ fun j hj => ?_
      · rcases h1 with h | ⟨j, hj, h⟩
        · exact .inl h
        · exact .inr ⟨j, by omega, h⟩
      · by_cases e : j = i
        · subst e; omega
        · exact h2 j (by omega)
theorem pick_top (gs : List (List Int)) (o u : Int) (z : List Int) :
    (((pick gs o u z gs.length 0 (-1) 0).1 = -1 ∧ (pick gs o u z gs.length 0 (-1) 0).2 = 0) ∨ ∃ j : Nat, j < gs.length ∧ (pick gs o u z gs.length 0 (-1) 0).1 = (j : Int) ∧ gain gs o u z j = (pick gs o u z gs.length 0 (-1) 0).2 ∧ 0 < (pick gs o u z gs.length 0 (-1) 0).2) ∧ ∀ j, j < gs.length → gain gs o u z j ≤ (pick gs o u z gs.length 0 (-1) 0).2 :=
  pick_spec gs o u z gs.length 0 (-1) 0 (by omega) (Int.le_refl 0) (.inl ⟨rfl, rfl⟩) (fun j hj => absurd hj (by omega))
theorem sum_set (z : List Int) (x : Int) : ∀ j : Nat, j < z.length → (z.set j x).sum = z.sum - rd z (j : Int) + x := by
  induction z with
  | nil => intro j h; simp at h
  | cons a z ih =>
    intro j h
    cases j with
    | zero =>
      rw [rd_nat (a :: z) 0 h]
      simp only [List.set_cons_zero, List.sum_cons, List.getElem_cons_zero]
      omega
    | succ j =>
      have hj : j < z.length := by simpa using h
      have q := ih j hj
      rw [rd_nat (a :: z) (j + 1) h]
      rw [rd_nat z j hj] at q
      simp only [List.set_cons_succ, List.sum_cons, List.getElem_cons_succ]
      omega
theorem rd_set (z : List Int) (x : Int) (j i : Nat) (h : j < z.length) : rd (z.set j x) (i : Int) = if i = j then x else rd z (i : Int) := by
  unfold rd
  by_cases c : i = j
  · subst c
    simp [List.getD_eq_getElem?_getD, h]
  · rw [if_neg c]
    simp [List.getD_eq_getElem?_getD, List.getElem?_set_ne (Ne.symm c)]
section
variable {gs : List (List Int)} {o u : Int} (hG : GoodsOk gs) (hc : ChOk o u)
include hG hc
theorem gain_full {z : List Int} (i : Nat) (hi : i < gs.length) (h : 15 ≤ rd z (i : Int)) : gain gs o u z i ≤ 0 := by
  have hD := goods_rd hG i hi
  have hl := hD.1
  have e := cost_step hD o u (rd z (i : Int))
  rw [upTo_full hD (by omega)] at e
  have hT := hD.2.2
  have := Int.mul_nonneg hc.1.1 (show 0 ≤ (rd_L2 gs (i : Int)).sum by omega)
  rw [Int.add_mul] at e
  unfold gain
  omega
theorem out_step {z : List Int} (hz : OutOk gs z) (j : Nat) (hj : j < gs.length) (hg : 0 < gain gs o u z j) : OutOk gs (z.set j (rd z (j : Int) + 1)) ∧ rd z (j : Int) < 15 := by
  have h1 : rd z (j : Int) < 15 := Int.lt_of_not_ge fun h => by have := gain_full hG hc (z := z) j hj h; omega
  have h2 := rd_in hz.2 j (by have := hz.1; omega)
  refine ⟨⟨by rw [List.length_set]; exact hz.1, fun x hx => ?_⟩, h1⟩
  rcases List.mem_or_eq_of_mem_set hx with h | h
  · exact hz.2 x h
  · subst h
    omega
/-! The program's and the reference's walks. -/
theorem implStep_l1 {z : List Int} (hz : OutOk gs z) (U c : Int) (R : List Int × Bool) (P : Int × Int) (hE : Ev (fun k => if P.1 < 0 then some (z, true) else (if 0 ≤ P.1 then (if P.1 < (z.length : Int) then (impl_StepOrders.l0 k gs o u (z.set P.1.toNat (wrap64 ((rd z P.1) + 1))) U (wrap64 (c + 1))) else none) else none)) R) (d : Nat) : ∀ (i : Nat) (b m : Int), i + d = gs.length → pick gs o u z d i b m = P →
    Ev (fun k => impl_StepOrders.l1 k gs o u z b m U c gs (gs.length : Int) (i : Int)) R := by
  have hg := hG.2
  have hl := hz.1
  induction d with
  | zero =>
    intro i b m hi hP
    simp only [pick] at hP
    subst hP
    refine ev_succ ?_
    simp only [impl_StepOrders.l1]
    exact ev_neg (by omega) hE
  | succ d ih =>
    intro i b m hi hP
    have hD := goods_rd hG i (by omega)
    have hr := rd_in hz.2 i (by omega)
    have c1 := cost_in hD hc.1 hc.2 (q := rd z (i : Int)) ⟨hr.1, by omega⟩
    have c2 := cost_in hD hc.1 hc.2 (q := rd z (i : Int) + 1) ⟨by omega, by omega⟩
    have j1 : (i : Int) < (gs.length : Int) := by omega
    have j2 : (i : Int) < (z.length : Int) := by omega
    simp only [pick] at hP
    refine ev_succ ?_
    simp only [impl_StepOrders.l1]
    rw [show wrap64 ((i : Int) + 1) = ((i + 1 : Nat) : Int) by rw [wid (by omega) (by omega)]; omega, wid (x := rd z (i : Int) + 1) (by omega) (by omega)]
    refine ev_pos j1 (ev_pos (Int.natCast_nonneg i) (ev_pos j1 (ev_pos j2 (ev_bind (implCost_ev hD hc.1 hc.2 ⟨hr.1, by omega⟩) (ev_bind (implCost_ev hD hc.1 hc.2 ⟨by omega, by omega⟩) ?_)))))
    rw [wid (x := costN (rd_L2 gs (i : Int)) o u (rd z (i : Int)) - costN (rd_L2 gs (i : Int)) o u (rd z (i : Int) + 1)) (by omega) (by omega)]
    by_cases e : gain gs o u z i > m
    · rw [if_pos e] at hP
      exact ev_pos e (ih (i + 1) _ _ (by omega) hP)
    · rw [if_neg e] at hP
      exact ev_neg e (ih (i + 1) _ _ (by omega) hP)
theorem implStep_l0 (U : Int) (hU : 0 ≤ U ∧ U ≤ 60) (n : Nat) : ∀ (c : Int) (z : List Int), 0 ≤ c → c + n = U → OutOk gs z → Ev (fun k => impl_StepOrders.l0 k gs o u z U c) (stepN gs o u n z, true) := by
  induction n with
  | zero =>
    intro c z h0 h1 hz
    refine ev_succ ?_
    simp only [impl_StepOrders.l0, stepN]
    exact ev_neg (by omega) (ev_some _)
  | succ n ih =>
    intro c z h0 h1 hz
    have hl := hz.1
    have hg := hG.2
    refine ev_succ ?_
    simp only [impl_StepOrders.l0]
    refine ev_pos (by omega) (implStep_l1 hG hc hz U c _ _ ?_ gs.length 0 (-1) 0 (by omega) rfl)
    obtain ⟨h2, _⟩ := pick_top gs o u z
    simp only [stepN]
    rcases h2 with ⟨h2, h3⟩ | ⟨j, hj, e, h4, h5⟩
    · rw [h2]
      exact ev_pos (by omega) (ev_cast (ev_some _) (by rw [if_pos (by omega)]))
    · rw [e, if_neg (by omega), Int.toNat_natCast]
      obtain ⟨q1, q2⟩ := out_step hG hc hz j hj (by omega)
      have q3 := rd_in hz.2 j (by omega)
      rw [wid (x := rd z (j : Int) + 1) (by omega) (by omega), wid (x := c + 1) (by omega) (by omega)]
      exact ev_neg (by omega) (ev_pos (by omega) (ev_pos (by omega) (ih (c + 1) _ (by omega) (by omega) q1)))
theorem specStep_l1 {z : List Int} (hz : OutOk gs z) (U : Int) (R : List Int × Bool) (P : Int × Int) (hE : Ev (fun k => if P.1 < 0 then some (z, true) else (if 0 ≤ P.1 then (if P.1 < (z.length : Int) then (spec_StepOrders.l0 k gs o u U (z.set P.1.toNat (wrap64 ((rd z P.1) + 1)))) else none) else none)) R) (d : Nat) : ∀ (i : Nat) (b m : Int), i + d = gs.length → 0 ≤ m → pick gs o u z d i b m = P →
    Ev (fun k => spec_StepOrders.l1 k gs o u U z b m (i : Int)) R := by
  have hg := hG.2
  have hl := hz.1
  induction d with
  | zero =>
    intro i b m hi h0 hP
    simp only [pick] at hP
    subst hP
    refine ev_succ ?_
    simp only [spec_StepOrders.l1]
    exact ev_neg (by omega) hE
  | succ d ih =>
    intro i b m hi h0 hP
    have hD := goods_rd hG i (by omega)
    have hr := rd_in hz.2 i (by omega)
    have c1 := cost_in hD hc.1 hc.2 (q := rd z (i : Int)) ⟨hr.1, by omega⟩
    have c2 := cost_in hD hc.1 hc.2 (q := rd z (i : Int) + 1) ⟨by omega, by omega⟩
    have j1 : (i : Int) < (gs.length : Int) := by omega
    have j2 : (i : Int) < (z.length : Int) := by omega
    simp only [pick] at hP
    refine ev_succ ?_
    simp only [spec_StepOrders.l1]
    rw [show wrap64 ((i : Int) + 1) = ((i + 1 : Nat) : Int) by rw [wid (by omega) (by omega)]; omega, wid (x := rd z (i : Int) + 1) (by omega) (by omega)]
    refine ev_pos j1 (ev_pos (Int.natCast_nonneg i) (ev_pos j2 ?_))
    by_cases f : rd z (i : Int) = 15
    · have := gain_full hG hc (z := z) i (by omega) (by omega)
      rw [if_neg (by omega)] at hP
      exact ev_pos f (ih (i + 1) _ _ (by omega) h0 hP)
    · refine ev_neg f (ev_bind (specCost_ev hD hc.1 hc.2 ⟨hr.1, by omega⟩) (ev_bind (specCost_ev hD hc.1 hc.2 ⟨by omega, by omega⟩) ?_))
      rw [wid (x := costN (rd_L2 gs (i : Int)) o u (rd z (i : Int)) - costN (rd_L2 gs (i : Int)) o u (rd z (i : Int) + 1)) (by omega) (by omega)]
      by_cases e : gain gs o u z i > m
      · rw [if_pos e] at hP
        exact ev_pos e (ih (i + 1) (i : Int) (gain gs o u z i) (by omega) (by omega) hP)
      · rw [if_neg e] at hP
        exact ev_neg e (ih (i + 1) _ _ (by omega) h0 hP)
theorem specStep_l0 (U : Int) (hU : 0 ≤ U ∧ U ≤ 60) (n : Nat) : ∀ (z : List Int), z.sum + n = U → OutOk gs z → Ev (fun k => spec_StepOrders.l0 k gs o u U z) (stepN gs o u n z, true) := by
  have hg := hG.2
  have S : ∀ z, OutOk gs z → Ev (fun k => spec_l2Sum.f k z) z.sum := fun z hz => l2Sum_ev z (by have := hz.1; omega) (take_sum64 (b := 15) (by omega) (by omega) hz.2 (by have := hz.1; omega))
  induction n with
  | zero =>
    intro z h1 hz
    refine ev_succ ?_
    simp only [spec_StepOrders.l0, stepN]
    exact ev_bind (S z hz) (ev_neg (by omega) (ev_some _))
  | succ n ih =>
    intro z h1 hz
    have hl := hz.1
    refine ev_succ ?_
    simp only [spec_StepOrders.l0]
    refine ev_bind (S z hz) (ev_pos (by omega) (specStep_l1 hG hc hz U _ _ ?_ gs.length 0 (-1) 0 (by omega) (Int.le_refl 0) rfl))
    obtain ⟨h2, _⟩ := pick_top gs o u z
    simp only [stepN]
    rcases h2 with ⟨h2, h3⟩ | ⟨j, hj, e, h4, h5⟩
    · rw [h2]
      exact ev_pos (by omega) (ev_cast (ev_some _) (by rw [if_pos (by omega)]))
    · rw [e, if_neg (by omega), Int.toNat_natCast]
      obtain ⟨q1, q2⟩ := out_step hG hc hz j hj (by omega)
      have q3 := rd_in hz.2 j (by omega)
      rw [wid (x := rd z (j : Int) + 1) (by omega) (by omega)]
      exact ev_neg (by omega) (ev_pos (by omega) (ev_pos (by omega) (ih _ (by rw [sum_set z _ j (by omega)]; omega) q1)))
/-! What is found costs least. -/
def Inv (gs : List (List Int)) (o u : Int) (z : List Int) (g : Int) : Prop := 0 ≤ g ∧ ∀ i : Nat, i < gs.length →
  (∀ j : Int, 0 ≤ j → j < rd z (i : Int) → costN (rd_L2 gs (i : Int)) o u (j + 1) - costN (rd_L2 gs (i : Int)) o u j ≤ -g) ∧ -g ≤ costN (rd_L2 gs (i : Int)) o u (rd z (i : Int) + 1) - costN (rd_L2 gs (i : Int)) o u (rd z (i : Int))
theorem cost_conv (i : Nat) (hi : i < gs.length) {p q : Int} (h : p ≤ q) : costN (rd_L2 gs (i : Int)) o u (p + 1) - costN (rd_L2 gs (i : Int)) o u p ≤ costN (rd_L2 gs (i : Int)) o u (q + 1) - costN (rd_L2 gs (i : Int)) o u q := by
  have hD := goods_rd hG i hi
  rw [cost_step hD, cost_step hD]
  have h1 := Int.mul_le_mul_of_nonneg_left (upTo_mono hD h) (show 0 ≤ o + u by have := hc.1.1; have := hc.2.1; omega)
  omega
theorem stepN_inv (n : Nat) : ∀ (z : List Int) (g : Int), OutOk gs z → Inv gs o u z g →
    ∃ g', Inv gs o u (stepN gs o u n z) g' ∧ OutOk gs (stepN gs o u n z) ∧ (stepN gs o u n z).sum ≤ z.sum + n ∧ (g' = 0 ∨ (stepN gs o u n z).sum = z.sum + n) := by
  induction n with
  | zero =>
    intro z g hz hI
    exact ⟨g, hI, hz, by simp [stepN], .inr (by simp [stepN])⟩
  | succ n ih =>
    intro z g hz hI
    have hl := hz.1
    obtain ⟨h2, h6⟩ := pick_top gs o u z
    simp only [stepN]
    rcases h2 with ⟨h2, h3⟩ | ⟨j, hj, e, h4, h5⟩
    · rw [h2, if_pos (by omega)]
      refine ⟨0, ⟨Int.le_refl 0, fun i hi => ⟨fun k k0 k1 => ?_, ?_⟩⟩, hz, by omega, .inl rfl⟩
      · have := (hI.2 i hi).1 k k0 k1
        have := hI.1
        omega
      · have := h6 i hi
        unfold gain at this
        omega
    · rw [e, if_neg (by omega), Int.toNat_natCast]
      obtain ⟨q1, q2⟩ := out_step hG hc hz j hj (by omega)
      have hm : gain gs o u z j ≤ g := by
        have := (hI.2 j hj).2
        unfold gain
        omega
      have hI2 : Inv gs o u (z.set j (rd z (j : Int) + 1)) (gain gs o u z j) := by
        refine ⟨by omega, fun i hi => ?_⟩
        rw [rd_set z _ j i (by omega)]
        by_cases c : i = j
        · subst c
          rw [if_pos rfl]
          refine ⟨fun k k0 k1 => ?_, ?_⟩
          · by_cases d : k = rd z (i : Int)
            · subst d
              unfold gain
              omega
            · have := (hI.2 i hi).1 k k0 (by omega)
              omega
          · have := cost_conv hG hc i hi (show rd z (i : Int) ≤ rd z (i : Int) + 1 by omega)
            unfold gain
            omega
        · rw [if_neg c]
          refine ⟨fun k k0 k1 => ?_, ?_⟩
          · have := (hI.2 i hi).1 k k0 k1
            omega
          · have := h6 i hi
            rw [← h4] at this
            unfold gain at this ⊢
            omega
      obtain ⟨g', a1, a2, a3, a4⟩ := ih _ _ q1 hI2
      rw [sum_set z _ j (by omega)] at a3 a4
      exact ⟨g', a1, a2, by omega, a4.imp id (fun h => by omega)⟩
theorem inv_one {z : List Int} {g : Int} (hI : Inv gs o u z g) (i : Nat) (hi : i < gs.length) (x : Int) (hx : 0 ≤ x) : costN (rd_L2 gs (i : Int)) o u (rd z (i : Int)) + g * rd z (i : Int) ≤ costN (rd_L2 gs (i : Int)) o u x + g * x := by
  obtain ⟨h1, h2⟩ := hI.2 i hi
  by_cases c : rd z (i : Int) ≤ x
  · have R : ∀ d : Nat, costN (rd_L2 gs (i : Int)) o u (rd z (i : Int)) + g * rd z (i : Int) ≤ costN (rd_L2 gs (i : Int)) o u (rd z (i : Int) + d) + g * (rd z (i : Int) + d) := fun d => by
      induction d with
      | zero => simp
      | succ d ih =>
        have := cost_conv hG hc i hi (show rd z (i : Int) ≤ rd z (i : Int) + d by omega)
        have e : rd z (i : Int) + ((d + 1 : Nat) : Int) = rd z (i : Int) + d + 1 := by omega
        rw [e, Int.mul_add g (rd z (i : Int) + d) 1, Int.mul_one]
        omega
    have := R (x - rd z (i : Int)).toNat
    rwa [show rd z (i : Int) + ((x - rd z (i : Int)).toNat : Int) = x by omega] at this
  · have L : ∀ d : Nat, (d : Int) ≤ rd z (i : Int) → costN (rd_L2 gs (i : Int)) o u (rd z (i : Int)) + g * rd z (i : Int) ≤ costN (rd_L2 gs (i : Int)) o u (rd z (i : Int) - d) + g * (rd z (i : Int) - d) := fun d => by
      induction d with
      | zero => simp
      | succ d ih =>
        intro hd
        have a := ih (by omega)
        have b := h1 (rd z (i : Int) - ((d + 1 : Nat) : Int)) (by omega) (by omega)
        have e : rd z (i : Int) - (d : Int) = rd z (i : Int) - ((d + 1 : Nat) : Int) + 1 := by omega
        rw [e, Int.mul_add g (rd z (i : Int) - ((d + 1 : Nat) : Int)) 1, Int.mul_one] at a
        omega
    have := L (rd z (i : Int) - x).toNat (by omega)
    rwa [show rd z (i : Int) - ((rd z (i : Int) - x).toNat : Int) = x by omega] at this
theorem inv_all {z xs : List Int} {g : Int} (hI : Inv gs o u z g) (hz : z.length = gs.length) (hx : xs.length = gs.length) (hp : ∀ x ∈ xs, 0 ≤ x ∧ x ≤ 15) (n : Nat) (hn : n ≤ gs.length) : csum gs o u z n + g * (z.take n).sum ≤ csum gs o u xs n + g * (xs.take n).sum := by
  induction n with
  | zero => simp [csum]
  | succ n ih =>
    have a := ih (by omega)
    have b := inv_one hG hc hI n (by omega) (rd xs (n : Int)) (rd_in hp n (by omega)).1
    rw [← take_sum_succ z n (by omega), ← take_sum_succ xs n (by omega), Int.mul_add, Int.mul_add]
    simp only [csum]
    omega
theorem stepN_best (n : Nat) {xs : List Int} (hx : xs.length = gs.length) (hp : ∀ x ∈ xs, 0 ≤ x ∧ x ≤ 15) (hs : xs.sum ≤ n) :
    OutOk gs (stepN gs o u n (List.replicate gs.length 0)) ∧ (stepN gs o u n (List.replicate gs.length 0)).sum ≤ n ∧ csum gs o u (stepN gs o u n (List.replicate gs.length 0)) gs.length ≤ csum gs o u xs gs.length := by
  have hz0 : OutOk gs (List.replicate gs.length 0) := ⟨by simp, fun x hx => by have := List.eq_of_mem_replicate hx; omega⟩
  have er : ∀ i : Nat, i < gs.length → rd (List.replicate gs.length (0 : Int)) (i : Int) = 0 := fun i hi => by
    rw [rd_nat _ i (by simpa using hi)]
    simp
  have hI0 : Inv gs o u (List.replicate gs.length 0) 64000000 := by
    refine ⟨by omega, fun i hi => ?_⟩
    have hD := goods_rd hG i hi
    rw [er i hi]
    have c1 := cost_in hD hc.1 hc.2 (q := 0) ⟨by omega, by omega⟩
    have c2 := cost_in hD hc.1 hc.2 (q := 0 + 1) ⟨by omega, by omega⟩
    exact ⟨fun j j0 j1 => absurd j1 (by omega), by omega⟩
  have es : (List.replicate gs.length (0 : Int)).sum = 0 := by simp
  obtain ⟨g, a1, a2, a3, a4⟩ := stepN_inv hG hc n _ _ hz0 hI0
  rw [es] at a3 a4
  refine ⟨a2, by omega, ?_⟩
  have b := inv_all hG hc a1 a2.1 hx hp gs.length (Nat.le_refl _)
  rw [List.take_of_length_le (by have := a2.1; omega), List.take_of_length_le (by omega)] at b
  rcases a4 with e | e
  · subst e
    simpa using b
  · have := Int.mul_le_mul_of_nonneg_left (show xs.sum ≤ (stepN gs o u n (List.replicate gs.length 0)).sum by omega) a1.1
    omega
end

def BudOk (gs : List (List Int)) (o u : Int) (ps : List Int) (B : Int) : Prop := (GoodsOk gs ∧ ChOk o u) ∧ ps.length = gs.length ∧ (∀ x ∈ ps, 0 ≤ x ∧ x ≤ 20) ∧ (0 ≤ B ∧ B ≤ 60)
def StepOk (gs : List (List Int)) (o u U : Int) : Prop := (GoodsOk gs ∧ ChOk o u) ∧ (0 ≤ U ∧ U ≤ 60)
section
variable {gs : List (List Int)} (hs : ∀ w ∈ gs, w.length ≤ 1000) (hl : gs.length ≤ 1000)
include hs hl
theorem implBud_yes {o u B : Int} {ps xs : List Int} {c : Int} (h : BudOk gs o u ps B) (hT : Tr gs o u ps gs.length B [] 0 none = some (xs, c)) : Ev (fun k => impl_BudgetOrders.f k gs o u ps B) (xs, true) := by
  obtain ⟨h1, h2, h3, h4⟩ := h
  unfold impl_BudgetOrders.f
  simp only [within_eq, Option.bind_some]
  refine ev_bind (areGoods_ev hs (by omega) o u) (ev_pos (decide_eq_true h1) (ev_pos (by omega) (ev_bind (charges_ev ps (by omega)) (ev_pos (decide_eq_true h3) (ev_pos (decide_eq_true h4) ?_)))))
  have q := implTry h1.1 h1.2 h3 h2 gs.length B [] 0 none (by simp) (by omega) (by omega) (by omega) (by simp)
  rw [hT] at q
  exact ev_bind q (ev_some _)
theorem implBud_no {o u B : Int} {ps : List Int} (hp : ps.length ≤ 1000) (h : ¬ BudOk gs o u ps B) : Ev (fun k => impl_BudgetOrders.f k gs o u ps B) ([], false) := by
  unfold impl_BudgetOrders.f
  simp only [within_eq, Option.bind_some]
  refine ev_bind (areGoods_ev hs (by omega) o u) ?_
  by_cases h1 : GoodsOk gs ∧ ChOk o u
  · refine ev_pos (decide_eq_true h1) ?_
    by_cases h2 : (ps.length : Int) = (gs.length : Int)
    · refine ev_pos h2 (ev_bind (charges_ev ps hp) ?_)
      by_cases h3 : ∀ x ∈ ps, 0 ≤ x ∧ x ≤ 20
      · refine ev_pos (decide_eq_true h3) ?_
        by_cases h4 : 0 ≤ B ∧ B ≤ 60
        · exact absurd ⟨h1, by omega, h3, h4⟩ h
        · exact ev_neg (by rw [decide_eq_true_eq]; exact h4) (ev_some _)
      · exact ev_neg (by rw [decide_eq_true_eq]; exact h3) (ev_some _)
    · exact ev_neg h2 (ev_some _)
  · exact ev_neg (by rw [decide_eq_true_eq]; exact h1) (ev_some _)
theorem specBud_yes {o u B : Int} {ps xs : List Int} {c : Int} (h : BudOk gs o u ps B) (hT : Tr gs o u ps gs.length B [] 0 none = some (xs, c)) : Ev (fun k => spec_BudgetOrders.f k gs o u ps B) (xs, true) := by
  obtain ⟨h1, h2, h3, h4⟩ := h
  unfold spec_BudgetOrders.f
  simp only [in_eq, l5Charges_eq, Option.bind_some]
  refine ev_bind (l5Goods_ev hs (by omega)) (ev_pos (decide_eq_true h1.1) (ev_pos (decide_eq_true h1.2) (ev_bind (l2Row_ev ps _ 20 (by omega)) (ev_pos (decide_eq_true ⟨h3, by omega⟩) (ev_pos (decide_eq_true h4) ?_)))))
  have q := specTry h1.1 h1.2 h3 h2 gs.length B [] 0 none (by simp) (by omega) (by omega) (by omega) (by simp)
  rw [hT] at q
  exact ev_bind q (ev_some _)
theorem specBud_no {o u B : Int} {ps : List Int} (hp : ps.length ≤ 1000) (h : ¬ BudOk gs o u ps B) : Ev (fun k => spec_BudgetOrders.f k gs o u ps B) ([], false) := by
  unfold spec_BudgetOrders.f
  simp only [in_eq, l5Charges_eq, Option.bind_some]
  refine ev_bind (l5Goods_ev hs (by omega)) ?_
  by_cases h1 : GoodsOk gs
  · refine ev_pos (decide_eq_true h1) ?_
    by_cases h2 : ChOk o u
    · refine ev_pos (decide_eq_true h2) (ev_bind (l2Row_ev ps _ 20 (by omega)) ?_)
      by_cases h3 : (∀ x ∈ ps, 0 ≤ x ∧ x ≤ 20) ∧ (ps.length : Int) = (gs.length : Int)
      · refine ev_pos (decide_eq_true h3) ?_
        by_cases h4 : 0 ≤ B ∧ B ≤ 60
        · exact absurd ⟨⟨h1, h2⟩, by omega, h3.1, h4⟩ h
        · exact ev_neg (by rw [decide_eq_true_eq]; exact h4) (ev_some _)
      · exact ev_neg (by rw [decide_eq_true_eq]; exact h3) (ev_some _)
    · exact ev_neg (by rw [decide_eq_true_eq]; exact h2) (ev_some _)
  · exact ev_neg (by rw [decide_eq_true_eq]; exact h1) (ev_some _)
theorem zeros_ok : OutOk gs (List.replicate gs.length 0) := by
  have _ := hs
  have _ := hl
  exact ⟨by simp, fun x hx => by have := List.eq_of_mem_replicate hx; omega⟩
theorem implStep_yes {o u U : Int} (h : StepOk gs o u U) : Ev (fun k => impl_StepOrders.f k gs o u U) (stepN gs o u U.toNat (List.replicate gs.length 0), true) := by
  obtain ⟨h1, h2⟩ := h
  unfold impl_StepOrders.f
  simp only [within_eq, Option.bind_some]
  refine ev_bind (areGoods_ev hs (by omega) o u) (ev_pos (decide_eq_true h1) (ev_succ ?_))
  simp only [impl_StepOrders.j0]
  rw [decide_eq_true h2, Int.toNat_natCast]
  exact ev_neg (by simp) (ev_pos (by omega) (ev_pos (by omega) (implStep_l0 h1.1 h1.2 U h2 U.toNat 0 _ (by omega) (by omega) (zeros_ok hs hl))))
theorem implStep_no {o u U : Int} (h : ¬ StepOk gs o u U) : Ev (fun k => impl_StepOrders.f k gs o u U) ([], false) := by
  unfold impl_StepOrders.f
  simp only [within_eq, Option.bind_some]
  refine ev_bind (areGoods_ev hs (by omega) o u) ?_
  by_cases h1 : GoodsOk gs ∧ ChOk o u
  · refine ev_pos (decide_eq_true h1) (ev_succ ?_)
    simp only [impl_StepOrders.j0]
    rw [decide_eq_false fun h2 => h ⟨h1, h2⟩]
    exact ev_pos (by simp) (ev_some _)
  · refine ev_neg (by rw [decide_eq_true_eq]; exact h1) (ev_succ ?_)
    simp only [impl_StepOrders.j0]
    exact ev_pos trivial (ev_some _)
theorem specStep_yes {o u U : Int} (h : StepOk gs o u U) : Ev (fun k => spec_StepOrders.f k gs o u U) (stepN gs o u U.toNat (List.replicate gs.length 0), true) := by
  obtain ⟨h1, h2⟩ := h
  unfold spec_StepOrders.f
  simp only [in_eq, l5Charges_eq, Option.bind_some]
  refine ev_bind (l5Goods_ev hs (by omega)) (ev_pos (decide_eq_true h1.1) (ev_pos (decide_eq_true h1.2) (ev_succ ?_)))
  simp only [spec_StepOrders.j0]
  rw [decide_eq_true h2, Int.toNat_natCast]
  exact ev_neg (by simp) (ev_pos (by omega) (ev_pos (by omega) (specStep_l0 h1.1 h1.2 U h2 U.toNat _ (by rw [List.sum_replicate_int]; omega) (zeros_ok hs hl))))
theorem specStep_no {o u U : Int} (h : ¬ StepOk gs o u U) : Ev (fun k => spec_StepOrders.f k gs o u U) ([], false) := by
  unfold spec_StepOrders.f
  simp only [in_eq, l5Charges_eq, Option.bind_some]
  refine ev_bind (l5Goods_ev hs (by omega)) ?_
  have J : Ev (fun k => spec_StepOrders.j0 k gs o u U true) ([], false) := by
    refine ev_succ ?_
    simp only [spec_StepOrders.j0]
    exact ev_pos trivial (ev_some _)
  by_cases h1 : GoodsOk gs
  · refine ev_pos (decide_eq_true h1) ?_
    by_cases h2 : ChOk o u
    · refine ev_pos (decide_eq_true h2) ?_
      rw [decide_eq_false fun h3 => h ⟨⟨h1, h2⟩, h3⟩]
      exact J
    · exact ev_neg (by rw [decide_eq_true_eq]; exact h2) J
  · exact ev_neg (by rw [decide_eq_true_eq]; exact h1) J
end
theorem vAdd_l0 (xs : List Int) (hn : xs.length ≤ 1000000) (hx : ∀ i, -9223372036854775808 ≤ (xs.take i).sum ∧ (xs.take i).sum ≤ 9223372036854775807) (d : Nat) : ∀ (i : Nat), i + d = xs.length →
    Ev (fun k => laws_vAdd.l0 k xs (xs.take i).sum (i : Int)) xs.sum := by
  induction d with
  | zero =>
    intro i hi
    refine ev_succ ?_
    simp only [laws_vAdd.l0]
    refine ev_neg (by omega) ?_
    rw [List.take_of_length_le (by omega)]
    exact ev_some _
  | succ d ih =>
    intro i hi
    refine ev_succ ?_
    simp only [laws_vAdd.l0]
    refine ev_pos (by omega) (ev_pos (by omega) ?_)
    rw [show wrap64 ((i : Int) + 1) = ((i + 1 : Nat) : Int) by rw [wid (by omega) (by omega)]; omega, take_sum_succ xs i (by omega), wid (hx _).1 (hx _).2]
    exact ih (i + 1) (by omega)
theorem vAdd_ev {gs : List (List Int)} {xs : List Int} (h : OutOk gs xs) (hl : gs.length ≤ 1000) : Ev (fun k => laws_vAdd.f k xs) xs.sum := by
  unfold laws_vAdd.f
  have e := h.1
  exact vAdd_l0 xs (by omega) (take_sum64 (b := 15) (by omega) (by omega) h.2 (by omega)) xs.length 0 (by omega)
theorem csum_in {gs : List (List Int)} (hG : GoodsOk gs) {o u : Int} (hc : ChOk o u) {xs : List Int} (hx : ∀ x ∈ xs, 0 ≤ x ∧ x ≤ 15) (n : Nat) (hn : n ≤ gs.length) : 0 ≤ csum gs o u xs n ∧ csum gs o u xs n ≤ n * 64000000 := by
  induction n with
  | zero => simp [csum]
  | succ n ih =>
    have a := ih (by omega)
    have r := rd_nn (by omega) hx n
    have b := cost_in (goods_rd hG n (by omega)) hc.1 hc.2 (q := rd xs (n : Int)) ⟨r.1, by omega⟩
    simp only [csum]
    omega
/-- The law's last walk: the cost sums of both, good for good. -/
theorem law_l2 {gs : List (List Int)} (hG : GoodsOk gs) {o u U : Int} (hc : ChOk o u) {xs ys : List Int} (hx : OutOk gs xs) (hy : OutOk gs ys) (hU : xs.sum ≤ U) (he : csum gs o u xs gs.length = csum gs o u ys gs.length) (d : Nat) : ∀ i : Nat, i + d = gs.length →
    Ev (fun k => laws_FnBudgets.l2 k gs o u U xs ys true (csum gs o u xs i) (csum gs o u ys i) (i : Int)) true := by
  have hg := hG.2
  have l1 := hx.1
  have l2 := hy.1
  induction d with
  | zero =>
    intro i hi
    refine ev_succ ?_
    simp only [laws_FnBudgets.l2]
    refine ev_pos trivial (ev_succ ?_)
    simp only [laws_FnBudgets.j5]
    have e : i = gs.length := by omega
    subst e
    exact ev_neg (by simp) (ev_pos trivial (ev_pos he (ev_bind (vAdd_ev hx (by omega)) (ev_cast (ev_some _) (decide_eq_true hU)))))
  | succ d ih =>
    intro i hi
    have hD := goods_rd hG i (by omega)
    have r1 := rd_in hx.2 i (by omega)
    have r2 := rd_in hy.2 i (by omega)
    have a1 := csum_in hG hc hx.2 (i + 1) (by omega)
    have a2 := csum_in hG hc hy.2 (i + 1) (by omega)
    have z := ih (i + 1) (by omega)
    have j1 : (i : Int) < (gs.length : Int) := by omega
    have j2 : (i : Int) < (xs.length : Int) := by omega
    have j3 : (i : Int) < (ys.length : Int) := by omega
    simp only [csum] at z a1 a2
    refine ev_succ ?_
    simp only [laws_FnBudgets.l2]
    refine ev_pos trivial (ev_succ ?_)
    simp only [laws_FnBudgets.j5]
    refine ev_pos (decide_eq_true j1) (ev_pos (Int.natCast_nonneg i) (ev_pos j1 (ev_pos j2 (ev_bind (costSum_ev hD hc r1) (ev_pos j3 (ev_bind (costSum_ev hD hc r2) ?_))))))
    rw [show wrap64 ((i : Int) + 1) = ((i + 1 : Nat) : Int) by rw [wid (by omega) (by omega)]; omega, wid (x := csum gs o u xs i + costN (rd_L2 gs (i : Int)) o u (rd xs (i : Int))) (by omega) (by omega), wid (x := csum gs o u ys i + costN (rd_L2 gs (i : Int)) o u (rd ys (i : Int))) (by omega) (by omega)]
    exact z
theorem dot_ones (n : Nat) {xs : List Int} (h : xs.length = n) (m : Nat) (hm : m ≤ n) : dot (List.replicate n 1) xs m = (xs.take m).sum := by
  induction m with
  | zero => simp [dot]
  | succ m ih =>
    have e : rd (List.replicate n (1 : Int)) (m : Int) = 1 := by
      rw [rd_nat _ m (by rw [List.length_replicate]; omega)]
      simp
    simp only [dot]
    rw [ih (by omega), e, Int.one_mul, take_sum_succ xs m (by omega)]
theorem law_l1 {gs : List (List Int)} (hs : ∀ w ∈ gs, w.length ≤ 1000) {o u U : Int} (h : StepOk gs o u U) (d : Nat) : ∀ i : Nat, i + d = gs.length →
    Ev (fun k => laws_FnBudgets.l1 k gs o u U (stepN gs o u U.toNat (List.replicate gs.length 0)) (List.replicate i 1) (i : Int)) true := by
  obtain ⟨⟨hG, hc⟩, hU⟩ := id h
  have hg := hG.2
  induction d with
  | zero =>
    intro i hi
    have e : i = gs.length := by omega
    subst e
    have hB : BudOk gs o u (List.replicate gs.length 1) U := ⟨⟨hG, hc⟩, by simp, fun x hx => by have := List.eq_of_mem_replicate hx; omega, hU⟩
    obtain ⟨ys, hT, hF, hM⟩ := best_ex (gs := gs) o u U hB.2.2.1 hU.1
    have hd := dot_ones gs.length hF.1 gs.length (Nat.le_refl _)
    rw [List.take_of_length_le (by have := hF.1; omega)] at hd
    have hsum : ys.sum ≤ (U.toNat : Nat) := by have := hF.2.2; omega
    obtain ⟨b1, b2, b3⟩ := stepN_best hG hc U.toNat hF.1 hF.2.1 hsum
    have hd2 := dot_ones gs.length b1.1 gs.length (Nat.le_refl _)
    rw [List.take_of_length_le (by have := b1.1; omega)] at hd2
    have b4 := hM _ ⟨b1.1, b1.2, by omega⟩
    refine ev_succ ?_
    simp only [laws_FnBudgets.l1]
    refine ev_neg (by omega) (ev_bind (implBud_yes hs (by omega) hB hT) ?_)
    exact law_l2 hG hc b1 ⟨hF.1, hF.2.1⟩ (by omega) (by omega) gs.length 0 (by omega)
  | succ d ih =>
    intro i hi
    refine ev_succ ?_
    simp only [laws_FnBudgets.l1]
    rw [show wrap64 ((i : Int) + 1) = ((i + 1 : Nat) : Int) by rw [wid (by omega) (by omega)]; omega, show List.replicate i (1 : Int) ++ [1] = List.replicate (i + 1) 1 by rw [List.replicate_succ']]
    exact ev_pos (by omega) (ev_pos (by rw [List.length_replicate]; omega) (ih (i + 1) (by omega)))
/-- What the second draw gives: the program's answer and the reference's are one, and the law goes on. -/
theorem second {gs : List (List Int)} (hs : ∀ w ∈ gs, w.length ≤ 1000) (hl : gs.length ≤ 1000) (o u U : Int) : ∃ (zs : List Int) (f : Bool), Ev (fun k => impl_StepOrders.f k gs o u U) (zs, f) ∧ Ev (fun k => spec_StepOrders.f k gs o u U) (zs, f) ∧ zs.length ≤ 1000 ∧ Ev (fun k => laws_FnBudgets.j2 k gs o u U zs f) true := by
  by_cases h : StepOk gs o u U
  · have hz := stepN_best h.1.1 h.1.2 U.toNat (xs := List.replicate gs.length 0) (by simp) (zeros_ok hs hl).2 (by rw [List.sum_replicate_int]; omega)
    refine ⟨_, _, implStep_yes hs hl h, specStep_yes hs hl h, by have := hz.1.1; omega, ev_succ ?_⟩
    simp only [laws_FnBudgets.j2]
    exact ev_pos trivial (law_l1 hs h gs.length 0 (by omega))
  · refine ⟨_, _, implStep_no hs hl h, specStep_no hs hl h, by simp, ev_succ ?_⟩
    simp only [laws_FnBudgets.j2]
    exact ev_neg (by simp) (ev_some _)
theorem law_l0 {gs : List (List Int)} {ps xs : List Int} {B : Int} (hF : Full gs ps B xs) (hp : ∀ x ∈ ps, 0 ≤ x ∧ x ≤ 20) (hn : ps.length = gs.length) (hg : gs.length ≤ 1000) {ls : List (List Int)} {a b U : Int} {zs : List Int} {f : Bool} (hJ : Ev (fun k => laws_FnBudgets.j2 k ls a b U zs f) true) (d : Nat) : ∀ i : Nat, i + d = gs.length →
    Ev (fun k => laws_FnBudgets.l0 k gs ps B xs ls a b U zs f (dot ps xs i) (i : Int)) true := by
  have l1 := hF.1
  have D : ∀ i : Nat, 0 ≤ dot ps xs i ∧ dot ps xs i ≤ i * 300 := fun i => by
    induction i with
    | zero => simp [dot]
    | succ i ih =>
      have r1 := rd_nn (by omega) hp i
      have r2 := rd_nn (by omega) hF.2.1 i
      have := mulb r1.1 r1.2 r2.1 r2.2
      simp only [dot]
      omega
  induction d with
  | zero =>
    intro i hi
    have e : i = gs.length := by omega
    subst e
    refine ev_succ ?_
    simp only [laws_FnBudgets.l0]
    exact ev_neg (by omega) (ev_neg (by have := hF.2.2; omega) (ev_pos (by omega) hJ))
  | succ d ih =>
    intro i hi
    have z := ih (i + 1) (by omega)
    have a1 := D (i + 1)
    have r1 := rd_nn (by omega) hp i
    have r2 := rd_nn (by omega) hF.2.1 i
    have r3 := mulb r1.1 r1.2 r2.1 r2.2
    have j1 : (i : Int) < (xs.length : Int) := by omega
    have j2 : (i : Int) < (ps.length : Int) := by omega
    simp only [dot] at z a1
    refine ev_succ ?_
    simp only [laws_FnBudgets.l0]
    rw [show wrap64 ((i : Int) + 1) = ((i + 1 : Nat) : Int) by rw [wid (by omega) (by omega)]; omega, wid (x := rd ps (i : Int) * rd xs (i : Int)) (by omega) (by omega), wid (x := dot ps xs i + rd ps (i : Int) * rd xs (i : Int)) (by omega) (by omega)]
    exact ev_pos j1 (ev_pos (Int.natCast_nonneg i) (ev_pos j2 z))
/-- What the first draw gives. -/
theorem first_ {gs : List (List Int)} (hs : ∀ w ∈ gs, w.length ≤ 1000) (hl : gs.length ≤ 1000) (o u B : Int) (ps : List Int) (hp : ps.length ≤ 1000) : ∃ (xs : List Int) (t : Bool), Ev (fun k => impl_BudgetOrders.f k gs o u ps B) (xs, t) ∧ Ev (fun k => spec_BudgetOrders.f k gs o u ps B) (xs, t) ∧ xs.length ≤ 1000 ∧
    ∀ (ls : List (List Int)) (a b U : Int) (zs : List Int) (f : Bool), Ev (fun k => laws_FnBudgets.j2 k ls a b U zs f) true → Ev (fun k => laws_FnBudgets.j0 k gs ps B xs t ls a b U zs f false) true := by
  by_cases h : BudOk gs o u ps B
  · obtain ⟨xs, hT, hF, _⟩ := best_ex (gs := gs) o u B h.2.2.1 h.2.2.2.1
    refine ⟨_, _, implBud_yes hs hl h hT, specBud_yes hs hl h hT, by have := hF.1; omega, fun ls a b U zs f hJ => ev_succ ?_⟩
    simp only [laws_FnBudgets.j0]
    exact ev_neg (by simp) (ev_pos trivial (law_l0 hF h.2.2.1 h.2.1 hl hJ gs.length 0 (by omega)))
  · refine ⟨_, _, implBud_no hs hl hp h, specBud_no hs hl hp h, by simp, fun ls a b U zs f hJ => ev_succ ?_⟩
    simp only [laws_FnBudgets.j0]
    exact ev_neg (by simp) (ev_neg (by simp) hJ)

theorem FnBudgets (code : List Int) (hl0 : code.length ≤ maxLen) (hw0 : ∀ x ∈ code, (Lit.int .u8 x).wf = true) : ∃ k, laws_FnBudgets.f k code = some true := by
  refine Ev.rounds ?_
  unfold laws_FnBudgets.f laws_vBig.f
  simp only [Option.bind_some]
  by_cases big : (code.length : Int) > 65536
  · exact ev_pos (decide_eq_true big) (ev_some _)
  refine ev_neg (by rw [decide_eq_true_eq]; exact big) ?_
  have hc := codeOk_of hw0
  obtain ⟨c1, hv1, hc1⟩ := vcut_ok hc (by omega) 1 (by omega) (by omega)
  obtain ⟨gs, o, u, ps, B, d1, a1, a2, a3⟩ := drawBudget_ok hc
  obtain ⟨ls, a, b, U, d2, b1, b2⟩ := drawStep_ok hc1
  obtain ⟨xs, t, e1, e2, e3, e4⟩ := first_ (gs := gs) (fun w hw => by have := a2 w hw; omega) (by omega) o u B ps (by omega)
  obtain ⟨zs, f, f1, f2, f3, f4⟩ := second (gs := ls) (fun w hw => by have := b2 w hw; omega) (by omega) a b U
  have J := e4 ls a b U zs f f4
  simp only [hv1, Option.bind_some]
  refine ev_bind d1 (ev_bind e1 (ev_bind e2 (ev_bind d2 (ev_bind f1 (ev_bind f2 ?_)))))
  exact ev_neg (by simp) (ev_bind (vInts_ev xs (by omega)) (ev_pos rfl (ev_neg (by simp) (ev_bind (vInts_ev zs (by omega)) J))))

end Go.Proofs.Ytknnnkkchfcjkaa.Pure
