/- What FnDistributions asks holds for every code: the program's three questions on distributions answer as the reference does, of a smaller demand less is ordered, a wider demand costs more, and demands pooled cost no more than apart. No conditions. -/
import Derived.Test.YtecciinjpimmmaaKit
import Derived.Test.YtecciinjpimmmaaXFnDistributionsx8
namespace Go.Proofs.Ytecciinjpimmmaa.Pure
set_option linter.unusedVariables false
open Go.RowKit Go.Proofs.Ytecciinjpimmmaa.PFnDistributions Go.Proofs.YtecciinjpimmmaaW.PrintWords Go.Proofs.YtecciinjpimmmaaW.PrintLast Go.Proofs.Ytecciinjpimmmaa.Kit

theorem in_eq (a b c : Int) : spec_l1In.f a b c = some (decide (b ≤ a ∧ a ≤ c)) := by
  unfold spec_l1In.f
  by_cases h : b ≤ a <;> simp [h]
theorem within_eq (a b c : Int) : impl_within.f a b c = some (decide (b ≤ a ∧ a ≤ c)) := by
  unfold impl_within.f
  by_cases h : b ≤ a <;> simp [h]
theorem allWithin_l0 (lo up : Int) (xs : List Int) (hn : xs.length ≤ 35184372088832) (d : Nat) : ∀ (i : Nat), i + d = xs.length →
    Ev (fun k => impl_allWithin.l0 k lo up xs (xs.length : Int) (i : Int)) (decide (∀ x ∈ xs.drop i, lo ≤ x ∧ x ≤ up)) := by
  induction d with
  | zero =>
    intro i hi
    refine ev_succ ?_
    simp only [impl_allWithin.l0]
    refine ev_neg (by omega) ?_
    rw [List.drop_of_length_le (by omega)]
    exact ev_cast (ev_some true) (by simp)
  | succ d ih =>
    intro i hi
    refine ev_succ ?_
    simp only [impl_allWithin.l0, within_eq, Option.bind_some]
    refine ev_pos (by omega) (ev_pos (by omega) (ev_pos (by omega) ?_))
    have hw : wrap64 ((i : Int) + 1) = ((i + 1 : Nat) : Int) := by rw [wid (by omega) (by omega)]; omega
    rw [hw, drop_rd xs i (by omega)]
    by_cases h : lo ≤ rd xs i ∧ rd xs i ≤ up
    · refine ev_pos (by simpa using h) (ev_cast (ih (i + 1) (by omega)) ?_)
      simp [h]
    · refine ev_neg (by simpa using h) (ev_cast (ev_some false) ?_)
      symm
      simp only [decide_eq_false_iff_not, List.mem_cons]
      exact fun hh => h (hh _ (Or.inl rfl))
theorem allWithin_ev (xs : List Int) (lo hi : Int) (hn : xs.length ≤ 35184372088832) : Ev (fun k => impl_allWithin.f k xs lo hi) (decide (∀ x ∈ xs, lo ≤ x ∧ x ≤ hi)) := by
  unfold impl_allWithin.f
  exact allWithin_l0 lo hi xs hn xs.length 0 (by omega)
theorem l2Row_l0 (n up : Int) (xs : List Int) (hn : xs.length ≤ 35184372088832) (d : Nat) : ∀ (i : Nat), i + d = xs.length →
    Ev (fun k => spec_l2Row.l0 k xs n up (i : Int)) (decide ((∀ x ∈ xs.drop i, 0 ≤ x ∧ x ≤ up) ∧ (xs.length : Int) = n)) := by
  induction d with
  | zero =>
    intro i hi
    refine ev_succ ?_
    simp only [spec_l2Row.l0]
    refine ev_neg (by omega) ?_
    rw [List.drop_of_length_le (by omega)]
    refine ev_cast (ev_some _) ?_
    rw [Bool.eq_iff_iff]
    simp
  | succ d ih =>
    intro i hi
    refine ev_succ ?_
    simp only [spec_l2Row.l0, in_eq, Option.bind_some]
    refine ev_pos (by omega) (ev_pos (by omega) ?_)
    have hw : wrap64 ((i : Int) + 1) = ((i + 1 : Nat) : Int) := by rw [wid (by omega) (by omega)]; omega
    rw [hw, drop_rd xs i (by omega)]
    by_cases h : 0 ≤ rd xs i ∧ rd xs i ≤ up
    · refine ev_pos (by simpa using h) (ev_cast (ih (i + 1) (by omega)) ?_)
      simp [h]
    · refine ev_neg (by simpa using h) (ev_cast (ev_some false) ?_)
      symm
      simp only [decide_eq_false_iff_not, List.mem_cons]
      exact fun hh => h (hh.1 _ (Or.inl rfl))
theorem l2Row_ev (xs : List Int) (n up : Int) (hn : xs.length ≤ 35184372088832) : Ev (fun k => spec_l2Row.f k xs n up) (decide ((∀ x ∈ xs, 0 ≤ x ∧ x ≤ up) ∧ (xs.length : Int) = n)) := by
  unfold spec_l2Row.f
  exact l2Row_l0 n up xs hn xs.length 0 (by omega)
theorem total_l0 (xs : List Int) (hn : xs.length ≤ 35184372088832) (hs : ∀ i, -9223372036854775808 ≤ (xs.take i).sum ∧ (xs.take i).sum ≤ 9223372036854775807) (d : Nat) : ∀ (i : Nat), i + d = xs.length →
    Ev (fun k => impl_total.l0 k (xs.take i).sum xs (xs.length : Int) (i : Int)) xs.sum := by
  induction d with
  | zero =>
    intro i hi
    refine ev_succ ?_
    simp only [impl_total.l0]
    refine ev_neg (by omega) ?_
    rw [List.take_of_length_le (by omega)]
    exact ev_some _
  | succ d ih =>
    intro i hi
    refine ev_succ ?_
    simp only [impl_total.l0]
    refine ev_pos (by omega) (ev_pos (by omega) (ev_pos (by omega) ?_))
    have hw : wrap64 ((i : Int) + 1) = ((i + 1 : Nat) : Int) := by rw [wid (by omega) (by omega)]; omega
    have ht := take_sum_succ xs i (by omega)
    rw [hw, ht, wid (hs _).1 (hs _).2]
    exact ih (i + 1) (by omega)
theorem total_ev (xs : List Int) (hn : xs.length ≤ 35184372088832) (hs : ∀ i, -9223372036854775808 ≤ (xs.take i).sum ∧ (xs.take i).sum ≤ 9223372036854775807) : Ev (fun k => impl_total.f k xs) xs.sum := by
  unfold impl_total.f
  exact total_l0 xs hn hs xs.length 0 (by omega)
theorem l2Sum_l0 (xs : List Int) (hn : xs.length ≤ 35184372088832) (hs : ∀ i, -9223372036854775808 ≤ (xs.take i).sum ∧ (xs.take i).sum ≤ 9223372036854775807) (d : Nat) : ∀ (i : Nat), i + d = xs.length →
    Ev (fun k => spec_l2Sum.l0 k xs (xs.take i).sum (i : Int)) xs.sum := by
  induction d with
  | zero =>
    intro i hi
    refine ev_succ ?_
    simp only [spec_l2Sum.l0]
    refine ev_neg (by omega) ?_
    rw [List.take_of_length_le (by omega)]
    exact ev_some _
  | succ d ih =>
    intro i hi
    refine ev_succ ?_
    simp only [spec_l2Sum.l0]
    refine ev_pos (by omega) (ev_pos (by omega) ?_)
    have hw : wrap64 ((i : Int) + 1) = ((i + 1 : Nat) : Int) := by rw [wid (by omega) (by omega)]; omega
    have ht := take_sum_succ xs i (by omega)
    rw [hw, ht, wid (hs _).1 (hs _).2]
    exact ih (i + 1) (by omega)
theorem l2Sum_ev (xs : List Int) (hn : xs.length ≤ 35184372088832) (hs : ∀ i, -9223372036854775808 ≤ (xs.take i).sum ∧ (xs.take i).sum ≤ 9223372036854775807) : Ev (fun k => spec_l2Sum.f k xs) xs.sum := by
  unfold spec_l2Sum.f
  exact l2Sum_l0 xs hn hs xs.length 0 (by omega)
theorem rd_in {xs : List Int} {lo up : Int} (h : ∀ x ∈ xs, lo ≤ x ∧ x ≤ up) (i : Nat) (hi : i < xs.length) : lo ≤ rd xs (i : Int) ∧ rd xs (i : Int) ≤ up := by
  rw [rd_nat xs i hi]
  exact h _ (List.getElem_mem _)
/-- A reader of draws: its bytes; each draw moves it on by two places at most. -/
def CodeOk (code : List Int) : Prop := ∀ x ∈ code, 0 ≤ x ∧ x ≤ 255
theorem codeOk_of {code : List Int} (h : ∀ x ∈ code, (Lit.int .u8 x).wf = true) : CodeOk code := fun x hx => by
  have := h x hx
  simp only [Lit.wf, Bool.and_eq_true, decide_eq_true_eq] at this
  exact this
theorem seed_low (x : Int) (h0 : 0 ≤ x) (h1 : x < 18446744073709551616) : Go.bits .and .u64 (x / 1099511627776) 255 = (x / 1099511627776) % 256 :=
  bits_mask .u64 24 (by decide) (fun n h0 h1 => by simp only [IntKind.wrap, IntKind.bits, IntKind.signed]; simp; omega) 8 (by decide) (x / 1099511627776) (by omega) (by omega)
theorem u64_in (x : Int) : 0 ≤ IntKind.u64.wrap x ∧ IntKind.u64.wrap x < 18446744073709551616 := by
  simp only [IntKind.wrap, IntKind.bits, IntKind.signed]
  simp
  omega
theorem next_ok {code : List Int} (hc : CodeOk code) (t s : Int) (h0 : 0 ≤ t) (h1 : t ≤ 1000000000000000) :
    ∃ b s', spec_l1Cur_next.f code t s = some (b, t + 1, s') ∧ 0 ≤ b ∧ b ≤ 255 := by
  unfold spec_l1Cur_next.f
  rw [wid (x := t + 1) (by omega) (by omega)]
  by_cases c : t < (code.length : Int)
  · have hb : 0 ≤ rd code t ∧ rd code t ≤ 255 := by
      obtain ⟨i, rfl⟩ := Int.eq_ofNat_of_zero_le h0
      rw [rd_nat code i (by omega)]
      exact hc _ (List.getElem_mem _)
    rw [if_pos c, if_pos h0, wid (x := rd code t) (by omega) (by omega)]
    by_cases c2 : t + 1 ≤ (code.length : Int)
    · rw [if_pos c2]
      exact ⟨_, _, rfl, hb.1, hb.2⟩
    · omega
  · rw [if_neg c]
    by_cases c2 : t + 1 ≤ (code.length : Int)
    · omega
    · rw [if_neg c2]
      have u := u64_in (IntKind.u64.wrap (IntKind.u64.wrap (s * 6364136223846793005) + 0) + 462197)
      generalize IntKind.u64.wrap (IntKind.u64.wrap (IntKind.u64.wrap (s * 6364136223846793005) + 0) + 462197) = v at u ⊢
      rw [seed_low v u.1 u.2, wid (by omega) (by omega)]
      exact ⟨_, _, rfl, by omega, by omega⟩
theorem pick_ok {code : List Int} (hc : CodeOk code) (t s n : Int) (h0 : 0 ≤ t) (h1 : t ≤ 900000000000000) (hn : n ≤ 65536) :
    ∃ r t' s', spec_l1Cur_pick.f code t s n = some (r, t', s') ∧ 0 ≤ r ∧ (1 ≤ n → r < n) ∧ t ≤ t' ∧ t' ≤ t + 2 := by
  unfold spec_l1Cur_pick.f
  by_cases c : n ≤ 1
  · rw [if_pos c]
    exact ⟨0, t, s, rfl, by omega, fun _ => by omega, by omega, by omega⟩
  · rw [if_neg c]
    obtain ⟨b, s1, e1, b0, b1⟩ := next_ok hc t s h0 (by omega)
    rw [e1]
    simp only [Option.bind_some]
    by_cases c2 : n > 200
    · obtain ⟨b2, s2, e2, q0, q1⟩ := next_ok hc (t + 1) s1 (by omega) (by omega)
      rw [if_pos c2, e2]
      simp only [Option.bind_some]
      rw [if_neg (by omega), wid (x := b * 256) (by omega) (by omega), wid (by omega) (by omega), Int.tmod_eq_emod_of_nonneg (by omega)]
      exact ⟨_, _, _, rfl, Int.emod_nonneg _ (by omega), fun _ => Int.emod_lt_of_pos _ (by omega), by omega, by omega⟩
    · rw [if_neg c2, if_neg (by omega), Int.tmod_eq_emod_of_nonneg (by omega)]
      exact ⟨_, _, _, rfl, Int.emod_nonneg _ (by omega), fun _ => Int.emod_lt_of_pos _ (by omega), by omega, by omega⟩
theorem among_ok {code : List Int} (hc : CodeOk code) (t s : Int) (l : List Int) (h0 : 0 ≤ t) (h1 : t ≤ 900000000000000) (hl : 0 < l.length) (hl2 : l.length ≤ 65536) :
    ∃ r t' s', spec_l1Cur_among.f code t s l = some (r, t', s') ∧ r ∈ l ∧ t ≤ t' ∧ t' ≤ t + 2 := by
  unfold spec_l1Cur_among.f
  obtain ⟨r, t', s', e, a, b, c, d⟩ := pick_ok hc t s (l.length : Int) h0 h1 (by omega)
  have b := b (by omega)
  rw [e]
  simp only [Option.bind_some]
  rw [if_pos a, if_pos b]
  obtain ⟨i, rfl⟩ := Int.eq_ofNat_of_zero_le a
  refine ⟨_, _, _, rfl, ?_, c, d⟩
  rw [rd_nat l i (by omega)]
  exact List.getElem_mem _
theorem one_ok {code : List Int} (hc : CodeOk code) (t s n : Int) (h0 : 0 ≤ t) (h1 : t ≤ 900000000000000) (hn : n ≤ 65536) :
    ∃ b t' s', spec_l1Cur_one.f code t s n = some (b, t', s') ∧ t ≤ t' ∧ t' ≤ t + 2 := by
  unfold spec_l1Cur_one.f
  obtain ⟨r, t', s', e, _, _, c, d⟩ := pick_ok hc t s n h0 h1 hn
  simp only [e, Option.bind_some]
  exact ⟨_, _, _, rfl, c, d⟩
theorem vcut_ok {code : List Int} (hc : CodeOk code) (hl : code.length ≤ 65536) (n : Int) (h0 : 0 ≤ n) (h1 : n ≤ 255) : ∃ r, laws_vCut.f code n = some r ∧ CodeOk r := by
  have key : ∀ m : Int, 0 ≤ m → CodeOk (([] : List Int) ++ code.drop m.toNat ++ [m % 256]) := fun m hm x hx => by
    rcases List.mem_append.1 hx with h | h
    · rw [List.nil_append] at h
      exact hc x (List.mem_of_mem_drop h)
    · rw [List.mem_singleton] at h
      omega
  have len : ∀ m : Int, (code.drop m.toNat).length ≤ 65536 := fun m => by rw [List.length_drop]; omega
  unfold laws_vCut.f
  simp only [Option.bind_some, List.length_nil, List.nil_append]
  by_cases c : n > (code.length : Int)
  · have q := len (code.length : Int)
    rw [if_pos c, if_pos (by omega), if_pos (by omega), if_pos (by omega), if_pos (by omega)]
    exact ⟨_, rfl, by have := key (code.length : Int) (by omega); rwa [List.nil_append] at this⟩
  · have q := len n
    rw [if_neg c, if_pos h0, if_pos (by omega), if_pos (by omega), if_pos (by omega)]
    exact ⟨_, rfl, by have := key n h0; rwa [List.nil_append] at this⟩
theorem chances_l1 {code : List Int} (hc : CodeOk code) (d : Nat) : ∀ (xs : List Int) (t s : Int), xs.length + d = 17 → 0 ≤ t → t + 2 * d + 2 ≤ 800000000000000 →
    ∃ r t' s', Ev (fun k => spec_l1Cur_chances.l1 k xs code t s) (r, t', s') ∧ r.length ≤ 17 ∧ t ≤ t' ∧ t' ≤ t + 2 * d + 2 := by
  induction d with
  | zero =>
    intro xs t s hx h0 h1
    obtain ⟨p, t1, s1, e1, p0, p1, q0, q1⟩ := pick_ok hc t s 3 h0 (by omega) (by omega)
    have p1 := p1 (by omega)
    refine ⟨xs, t1, s1, ev_succ ?_, by omega, q0, by omega⟩
    simp only [spec_l1Cur_chances.l1, e1, Option.bind_some]
    rw [wid (by omega) (by omega)]
    exact ev_neg (by omega) (ev_some _)
  | succ d ih =>
    intro xs t s hx h0 h1
    obtain ⟨p, t1, s1, e1, p0, p1, q0, q1⟩ := pick_ok hc t s 3 h0 (by omega) (by omega)
    have p1 := p1 (by omega)
    by_cases c : (xs.length : Int) < 15 + p
    · obtain ⟨r, t', s', e2, l2, a2, b2⟩ := ih (xs ++ [1]) t1 s1 (by simp; omega) (by omega) (by omega)
      refine ⟨r, t', s', ev_succ ?_, l2, by omega, by omega⟩
      simp only [spec_l1Cur_chances.l1, e1, Option.bind_some]
      rw [wid (x := 15 + p) (by omega) (by omega)]
      exact ev_pos c (ev_pos (by omega) e2)
    · refine ⟨xs, t1, s1, ev_succ ?_, by omega, q0, by omega⟩
      simp only [spec_l1Cur_chances.l1, e1, Option.bind_some]
      rw [wid (by omega) (by omega)]
      exact ev_neg c (ev_some _)
theorem chances_l0 {code : List Int} (hc : CodeOk code) (n : Nat) : ∀ (xs : List Int) (t s : Int), xs.length + n ≤ 8 → 1 ≤ xs.length + n → 0 ≤ t → t + 2 * n ≤ 700000000000000 →
    ∃ r t' s', Ev (fun k => spec_l1Cur_chances.l0 k xs (n : Int) code t s) (r, t', s') ∧ r.length ≤ 17 ∧ t ≤ t' ∧ t' ≤ t + 2 * n + 60 := by
  induction n with
  | zero =>
    intro xs t s hx hx1 h0 h1
    obtain ⟨p, t1, s1, e1, p0, p1, q0, q1⟩ := pick_ok hc t s 32 h0 (by omega) (by omega)
    have z : ¬ (((0 : Nat) : Int) > 0) := by omega
    by_cases c0 : p = 0
    · obtain ⟨v, t2, s2, e2, _, a2, b2⟩ := among_ok hc t1 s1 [-1, 1000, 1001, 4611686018427387904] (by omega) (by omega) (by decide) (by decide)
      refine ⟨xs.set (0 : Int).toNat v, t2, s2, ev_succ ?_, by rw [List.length_set]; omega, by omega, by omega⟩
      simp only [spec_l1Cur_chances.l0, e1, Option.bind_some]
      refine ev_neg z (ev_pos c0 ?_)
      rw [e2]
      simp only [Option.bind_some]
      exact ev_pos (by omega) (ev_some _)
    by_cases c1 : p = 1
    · obtain ⟨r, t2, s2, e2, l2, a2, b2⟩ := chances_l1 hc (17 - xs.length) xs t1 s1 (by omega) (by omega) (by omega)
      refine ⟨r, t2, s2, ev_succ ?_, l2, by omega, by omega⟩
      simp only [spec_l1Cur_chances.l0, e1, Option.bind_some]
      exact ev_neg z (ev_neg c0 (ev_pos c1 e2))
    by_cases c2 : p = 2
    · obtain ⟨v, t2, s2, e2, v0, v1, a2, b2⟩ := pick_ok hc t1 s1 4 (by omega) (by omega) (by omega)
      have v1 := v1 (by omega)
      refine ⟨List.replicate v.toNat 0, t2, s2, ev_succ ?_, by rw [List.length_replicate]; omega, by omega, by omega⟩
      simp only [spec_l1Cur_chances.l0, e1, Option.bind_some]
      refine ev_neg z (ev_neg c0 (ev_neg c1 (ev_pos c2 ?_)))
      rw [e2]
      simp only [Option.bind_some]
      exact ev_pos v0 (ev_pos (by omega) (ev_some _))
    · refine ⟨xs, t1, s1, ev_succ ?_, by omega, by omega, by omega⟩
      simp only [spec_l1Cur_chances.l0, e1, Option.bind_some]
      exact ev_neg z (ev_neg c0 (ev_neg c1 (ev_neg c2 (ev_some _))))
  | succ n ih =>
    intro xs t s hx hx1 h0 h1
    obtain ⟨v, t1, s1, e1, _, a1, b1⟩ := among_ok hc t s [1, 2, 0, 3, 5, 1] (by omega) (by omega) (by decide) (by decide)
    obtain ⟨r, t2, s2, e2, l2, a2, b2⟩ := ih (xs ++ [v]) t1 s1 (by simp; omega) (by simp; omega) (by omega) (by omega)
    refine ⟨r, t2, s2, ev_succ ?_, l2, by omega, by omega⟩
    simp only [spec_l1Cur_chances.l0, e1, Option.bind_some]
    rw [wid (x := ((n + 1 : Nat) : Int) - 1) (by omega) (by omega), show ((n + 1 : Nat) : Int) - 1 = (n : Int) by omega]
    exact ev_pos (by omega) (ev_pos (by omega) e2)
theorem chances_ok {code : List Int} (hc : CodeOk code) (t s : Int) (h0 : 0 ≤ t) (h1 : t ≤ 600000000000000) :
    ∃ r t' s', Ev (fun k => spec_l1Cur_chances.f k code t s) (r, t', s') ∧ r.length ≤ 17 ∧ t ≤ t' ∧ t' ≤ t + 100 := by
  obtain ⟨n, t1, s1, e1, m1, a1, b1⟩ := among_ok hc t s [4, 5, 6, 3, 8, 1, 2] h0 (by omega) (by decide) (by decide)
  have hn : 1 ≤ n ∧ n ≤ 8 := by simp at m1; omega
  obtain ⟨r, t2, s2, e2, l2, a2, b2⟩ := chances_l0 hc n.toNat [] t1 s1 (by simp; omega) (by simp; omega) (by omega) (by omega)
  rw [Int.toNat_of_nonneg (by omega)] at e2
  refine ⟨r, t2, s2, ?_, l2, by omega, by omega⟩
  unfold spec_l1Cur_chances.f
  simp only [e1, Option.bind_some]
  exact e2
/-- What a distribution is. -/
def DistOk (w : List Int) : Prop := (1 ≤ (w.length : Int) ∧ (w.length : Int) ≤ 16) ∧ (∀ x ∈ w, 0 ≤ x ∧ x ≤ 1000) ∧ w.sum > 0
instance (w : List Int) : Decidable (DistOk w) := by unfold DistOk; infer_instance
theorem implDist_ev (w : List Int) (hl : w.length ≤ 35184372088832) : Ev (fun k => impl_IsDistribution.f k w) (decide (DistOk w)) := by
  unfold impl_IsDistribution.f DistOk
  simp only [within_eq, Option.bind_some]
  exact ev_and rfl fun h1 => ev_bind (allWithin_ev w 0 1000 hl) (ev_and rfl fun h3 => ev_bind (total_ev w hl (take_sum64 (by omega) (by omega) h3 (by omega))) (ev_some _))
theorem specDist_ev (w : List Int) (hl : w.length ≤ 35184372088832) : Ev (fun k => spec_l5Good.f k w) (decide (DistOk w)) := by
  unfold spec_l5Good.f DistOk spec_l5Total.f
  simp only [in_eq, Option.bind_some]
  refine ev_and rfl fun h1 => ev_dec (P := ((∀ x ∈ w, 0 ≤ x ∧ x ≤ 1000) ∧ (w.length : Int) = w.length) ∧ w.sum > 0) ?_ (by simp)
  exact ev_bind (l2Row_ev w _ 1000 hl) (ev_and rfl fun h3 => ev_bind (ev_bind (l2Sum_ev w hl (take_sum64 (by omega) (by omega) h3.1 (by omega))) (ev_some _)) (ev_some _))
/-- A sum of weights times numbers, of the first demands. -/
def wsum (w : List Int) (f : Int → Int) : Nat → Int
  | 0 => 0
  | n + 1 => wsum w f n + rd w (n : Int) * f (n : Int)
theorem wsum_congr {w : List Int} {f g : Int → Int} (n : Nat) (h : ∀ i : Nat, i < n → f (i : Int) = g (i : Int)) : wsum w f n = wsum w g n := by
  induction n with
  | zero => rfl
  | succ n ih => simp only [wsum]; rw [ih fun i hi => h i (by omega), h n (by omega)]
theorem wsum_add (w : List Int) (f g : Int → Int) (n : Nat) : wsum w (fun d => f d + g d) n = wsum w f n + wsum w g n := by
  induction n with
  | zero => rfl
  | succ n ih => simp only [wsum]; rw [ih, Int.mul_add]; omega
theorem wsum_mul (w : List Int) (f : Int → Int) (c : Int) (n : Nat) : wsum w (fun d => c * f d) n = c * wsum w f n := by
  induction n with
  | zero => simp [wsum]
  | succ n ih => simp only [wsum]; rw [ih, Int.mul_add]; grind
theorem wsum_sub (w : List Int) (f g : Int → Int) (n : Nat) : wsum w (fun d => f d - g d) n = wsum w f n - wsum w g n := by
  induction n with
  | zero => rfl
  | succ n ih => simp only [wsum]; rw [ih, Int.mul_sub]; omega
theorem wsum_mono {w : List Int} {f g : Int → Int} (hw : ∀ i : Nat, i < w.length → 0 ≤ rd w (i : Int)) (n : Nat) (hn : n ≤ w.length) (h : ∀ i : Nat, i < n → f (i : Int) ≤ g (i : Int)) : wsum w f n ≤ wsum w g n := by
  induction n with
  | zero => exact Int.le_refl _
  | succ n ih =>
    simp only [wsum]
    have h1 := ih (by omega) fun i hi => h i (by omega)
    have h2 := Int.mul_le_mul_of_nonneg_left (h n (by omega)) (hw n (by omega))
    omega
theorem wsum_one (w : List Int) (n : Nat) (hn : n ≤ w.length) : wsum w (fun _ => 1) n = (w.take n).sum := by
  induction n with
  | zero => simp [wsum]
  | succ n ih => simp only [wsum]; rw [ih (by omega), Int.mul_one, take_sum_succ w n (by omega)]
theorem wsum_in {w : List Int} {f : Int → Int} {B : Int} (hB : 0 ≤ B) (hw : ∀ x ∈ w, 0 ≤ x ∧ x ≤ 1000) (hf : ∀ i : Nat, i < w.length → 0 ≤ f (i : Int) ∧ f (i : Int) ≤ B) (n : Nat) (hn : n ≤ w.length) : 0 ≤ wsum w f n ∧ wsum w f n ≤ n * (1000 * B) := by
  induction n with
  | zero => simp [wsum]
  | succ n ih =>
    have h1 := ih (by omega)
    have h2 : 0 ≤ rd w (n : Int) ∧ rd w (n : Int) ≤ 1000 := by rw [rd_nat w n (by omega)]; exact hw _ (List.getElem_mem _)
    have h3 := hf n (by omega)
    have h4 := mulb h2.1 h2.2 h3.1 h3.2
    simp only [wsum]
    rw [show (((n + 1 : Nat) : Int)) * (1000 * B) = n * (1000 * B) + 1000 * B by rw [Int.natCast_add, Int.add_mul]; omega]
    omega
theorem tot_one (w : List Int) : w.sum = wsum w (fun _ => 1) w.length := by rw [wsum_one w _ (Nat.le_refl _), List.take_length]
/-- The positive part of a number. -/
def pos (x : Int) : Int := if 0 < x then x else 0
theorem pos_in {x b : Int} (h : x ≤ b) (hb : 0 ≤ b) : 0 ≤ pos x ∧ pos x ≤ b := by
  unfold pos
  split <;> omega
theorem most_pos (x : Int) : spec_l1Most.f 0 x = some (pos x) := by
  unfold spec_l1Most.f pos
  by_cases h : 0 < x
  · rw [if_pos h, if_neg (by omega)]
  · rw [if_neg h]
    by_cases h2 : (0 : Int) > x
    · rw [if_pos h2]
    · rw [if_neg h2, show x = 0 by omega]
def overN (w : List Int) (q : Int) : Int := wsum w (fun d => pos (q - d)) w.length
def shortN (w : List Int) (q : Int) : Int := wsum w (fun d => pos (d - q)) w.length
def costN (w : List Int) (o u q : Int) : Int := o * overN w q + u * shortN w q
def upToN (w : List Int) (q : Int) : Int := wsum w (fun d => if d ≤ q then 1 else 0) w.length
def meanN (w : List Int) : Int := wsum w (fun d => d) w.length
section
variable {w : List Int} (hD : DistOk w)
include hD
theorem dist_rd (i : Nat) (hi : i < w.length) : 0 ≤ rd w (i : Int) ∧ rd w (i : Int) ≤ 1000 := rd_in hD.2.1 i hi
theorem over_in {q : Int} (h : 0 ≤ q ∧ q ≤ 100) (n : Nat) (hn : n ≤ w.length) : 0 ≤ wsum w (fun d => pos (q - d)) n ∧ wsum w (fun d => pos (q - d)) n ≤ 1600000 := by
  have := wsum_in (f := fun d => pos (q - d)) (B := 100) (by omega) hD.2.1 (fun i hi => pos_in (by omega) (by omega)) n hn
  have := hD.1
  omega
theorem short_in {q : Int} (h : 0 ≤ q ∧ q ≤ 100) (n : Nat) (hn : n ≤ w.length) : 0 ≤ wsum w (fun d => pos (d - q)) n ∧ wsum w (fun d => pos (d - q)) n ≤ 1600000 := by
  have l := hD.1
  have := wsum_in (f := fun d => pos (d - q)) (B := 100) (by omega) hD.2.1 (fun i hi => pos_in (by omega) (by omega)) n hn
  omega
theorem cost_in {o u q : Int} (ho : 0 ≤ o ∧ o ≤ 20) (hu : 0 ≤ u ∧ u ≤ 20) (h : 0 ≤ q ∧ q ≤ 100) : 0 ≤ costN w o u q ∧ costN w o u q ≤ 64000000 := by
  have h1 := over_in hD h w.length (Nat.le_refl _)
  have h2 := short_in hD h w.length (Nat.le_refl _)
  have h3 := mulb ho.1 ho.2 h1.1 h1.2
  have h4 := mulb hu.1 hu.2 h2.1 h2.2
  unfold costN overN shortN
  omega
theorem tot_le : 0 < w.sum ∧ w.sum ≤ 16000 := by
  have := sum_nonneg hD.2.1
  have := hD.1
  have := hD.2.2
  omega
theorem sum64 : ∀ i, -9223372036854775808 ≤ (w.take i).sum ∧ (w.take i).sum ≤ 9223372036854775807 := take_sum64 (by omega) (by omega) hD.2.1 (by have := hD.1; omega)
theorem distTotal_ev : Ev (fun k => impl_total.f k w) w.sum := total_ev w (by have := hD.1; omega) (sum64 hD)
theorem specTotal_ev : Ev (fun k => spec_l5Total.f k w) w.sum := by
  unfold spec_l5Total.f
  exact ev_bind (l2Sum_ev w (by have := hD.1; omega) (sum64 hD)) (ev_some _)
theorem weighted_l0 {g : Int → Option Int} {f : Int → Int} (hg : ∀ n : Nat, n < w.length → g (n : Int) = some (f (n : Int))) (hf : ∀ n : Nat, n < w.length → 0 ≤ f (n : Int) ∧ f (n : Int) ≤ 100) (d : Nat) : ∀ i : Nat, i + d = w.length →
    Ev (fun k => impl_weighted.l0 g k (wsum w f i) w (w.length : Int) (i : Int)) (wsum w f w.length) := by
  have hl := hD.1
  induction d with
  | zero =>
    intro i hi
    refine ev_succ ?_
    simp only [impl_weighted.l0]
    refine ev_neg (by omega) ?_
    rw [show i = w.length by omega]
    exact ev_some _
  | succ d ih =>
    intro i hi
    have q := ih (i + 1) (by omega)
    have b1 := wsum_in (B := 100) (by omega) hD.2.1 hf (i + 1) (by omega)
    have b2 := dist_rd hD i (by omega)
    have b3 := hf i (by omega)
    have b4 := mulb b2.1 b2.2 b3.1 b3.2
    have hw : wrap64 ((i : Int) + 1) = ((i + 1 : Nat) : Int) := by rw [wid (by omega) (by omega)]; omega
    simp only [wsum] at q b1
    refine ev_succ ?_
    simp only [impl_weighted.l0, hg i (by omega), Option.bind_some]
    rw [hw, wid (x := rd w (i : Int) * f (i : Int)) (by omega) (by omega), wid (x := wsum w f i + rd w (i : Int) * f (i : Int)) (by omega) (by omega)]
    exact ev_pos (by omega) (ev_pos (by omega) (ev_pos (by omega) q))
theorem weighted_ev {g : Int → Option Int} {f : Int → Int} (hg : ∀ n : Nat, n < w.length → g (n : Int) = some (f (n : Int))) (hf : ∀ n : Nat, n < w.length → 0 ≤ f (n : Int) ∧ f (n : Int) ≤ 100) : Ev (fun k => impl_weighted.f k w g) (wsum w f w.length) := by
  unfold impl_weighted.f
  exact weighted_l0 hD hg hf w.length 0 (by omega)
theorem implOver_ev {q : Int} (h : 0 ≤ q ∧ q ≤ 100) : Ev (fun k => impl_overSum.f k w q) (overN w q) := by
  unfold impl_overSum.f overN
  have hl := hD.1
  refine ev_bind (weighted_ev hD (f := fun d => pos (q - d)) (fun n hn => ?_) (fun n hn => pos_in (by omega) (by omega))) (ev_some _)
  rw [wid (by omega) (by omega)]
  rfl
theorem implShort_ev {q : Int} (h : 0 ≤ q ∧ q ≤ 100) : Ev (fun k => impl_shortSum.f k w q) (shortN w q) := by
  unfold impl_shortSum.f shortN
  have hl := hD.1
  refine ev_bind (weighted_ev hD (f := fun d => pos (d - q)) (fun n hn => ?_) (fun n hn => pos_in (by omega) (by omega))) (ev_some _)
  rw [wid (by omega) (by omega)]
  rfl
theorem implCost_ev {o u q : Int} (ho : 0 ≤ o ∧ o ≤ 20) (hu : 0 ≤ u ∧ u ≤ 20) (h : 0 ≤ q ∧ q ≤ 100) : Ev (fun k => impl_costSum.f k w o u q) (costN w o u q) := by
  unfold impl_costSum.f costN
  have h1 := over_in hD h w.length (Nat.le_refl _)
  have h2 := short_in hD h w.length (Nat.le_refl _)
  have h3 := mulb ho.1 ho.2 h1.1 h1.2
  have h4 := mulb hu.1 hu.2 h2.1 h2.2
  refine ev_bind (implOver_ev hD h) (ev_bind (implShort_ev hD h) (ev_cast (ev_some _) ?_))
  unfold overN shortN
  rw [wid (x := o * _) (by omega) (by omega), wid (x := u * _) (by omega) (by omega), wid (by omega) (by omega)]
/-! The cost sums are convex. -/
omit hD in
theorem over_step (q : Int) : overN w (q + 1) = overN w q + upToN w q := by
  unfold overN upToN
  rw [← wsum_add]
  refine wsum_congr _ fun i _ => ?_
  unfold pos
  repeat' split
  all_goals omega
theorem short_step (q : Int) : shortN w (q + 1) = shortN w q - (w.sum - upToN w q) := by
  have _ := hD
  rw [tot_one w]
  unfold shortN upToN
  rw [← wsum_sub, ← wsum_sub]
  refine wsum_congr _ fun i _ => ?_
  unfold pos
  repeat' split
  all_goals omega
theorem cost_step (o u q : Int) : costN w o u (q + 1) - costN w o u q = (o + u) * upToN w q - u * w.sum := by
  unfold costN
  rw [over_step, short_step hD]
  grind
theorem over_short (q : Int) : overN w q - shortN w q = q * w.sum - meanN w := by
  have _ := hD
  rw [tot_one w]
  unfold overN shortN meanN
  rw [← wsum_sub, ← wsum_mul, ← wsum_sub]
  refine wsum_congr _ fun i _ => ?_
  unfold pos
  repeat' split
  all_goals omega
theorem upTo_mono {p q : Int} (h : p ≤ q) : upToN w p ≤ upToN w q := by
  unfold upToN
  refine wsum_mono (fun i hi => (dist_rd hD i hi).1) _ (Nat.le_refl _) fun i _ => ?_
  repeat' split
  all_goals omega
theorem upTo_le (q : Int) : 0 ≤ upToN w q ∧ upToN w q ≤ w.sum := by
  rw [tot_one w]
  refine ⟨(wsum_in (f := fun d => if d ≤ q then 1 else 0) (B := 1) (by omega) hD.2.1 (fun i _ => by show 0 ≤ (if (i : Int) ≤ q then (1 : Int) else 0) ∧ (if (i : Int) ≤ q then (1 : Int) else 0) ≤ 1; split <;> omega) _ (Nat.le_refl _)).1, ?_⟩
  unfold upToN
  refine wsum_mono (fun i hi => (dist_rd hD i hi).1) _ (Nat.le_refl _) fun i _ => ?_
  repeat' split
  all_goals omega
theorem upTo_full {q : Int} (h : (w.length : Int) - 1 ≤ q) : upToN w q = w.sum := by
  have _ := hD
  rw [tot_one w]
  unfold upToN
  refine wsum_congr _ fun i hi => ?_
  exact if_pos (by omega)
omit hD in
theorem upTo_take (q : Int) (h : -1 ≤ q) (n : Nat) : wsum w (fun d => if d ≤ q then 1 else 0) n = wsum w (fun _ => 1) (min (q + 1).toNat n) := by
  induction n with
  | zero => simp [wsum]
  | succ n ih =>
    simp only [wsum]
    rw [ih]
    by_cases c : (n : Int) ≤ q
    · rw [if_pos c, show min (q + 1).toNat n = n by omega, show min (q + 1).toNat (n + 1) = n + 1 by omega]
      rfl
    · rw [if_neg c, show min (q + 1).toNat (n + 1) = min (q + 1).toNat n by omega]
      omega
end
/-- The least number with a property. -/
theorem least_of {P : Nat → Prop} [DecidablePred P] (n : Nat) (h : P n) : ∃ m, m ≤ n ∧ P m ∧ ∀ j, j < m → ¬ P j := by
  induction n using Nat.strongRecOn with
  | _ n ih =>
    by_cases c : ∃ j, j < n ∧ P j
    · obtain ⟨j, hj, pj⟩ := c
      obtain ⟨m, a, b, e⟩ := ih j hj pj
      exact ⟨m, by omega, b, e⟩
    · exact ⟨n, Nat.le_refl _, h, fun j hj pj => c ⟨j, hj, pj⟩⟩
/-- What the critical order is. -/
def Crit (w : List Int) (o u : Int) (q : Int) : Prop := 0 ≤ q ∧ q ≤ (w.length : Int) - 1 ∧ u * w.sum ≤ (o + u) * upToN w q ∧ ∀ j : Int, 0 ≤ j → j < q → (o + u) * upToN w j < u * w.sum
theorem crit_ex {w : List Int} (hD : DistOk w) {o u : Int} (ho : 0 ≤ o) (hu : 0 ≤ u) : ∃ q, Crit w o u q := by
  have hl := hD.1
  have hT := hD.2.2
  obtain ⟨m, a, b, e⟩ := least_of (P := fun n => u * w.sum ≤ (o + u) * upToN w (n : Int)) (w.length - 1) (by
    rw [upTo_full hD (by omega)]
    exact Int.mul_le_mul_of_nonneg_right (by omega) (by omega))
  refine ⟨(m : Int), by omega, by omega, b, fun j h0 h1 => ?_⟩
  have := e j.toNat (by omega)
  rw [Int.toNat_of_nonneg h0] at this
  omega
theorem crit_less {w : List Int} (hD : DistOk w) {o u q : Int} (h : Crit w o u q) (j : Int) (h0 : 0 ≤ j) (hj : j < q) : costN w o u (j + 1) < costN w o u j := by
  have := cost_step hD o u j
  have := h.2.2.2 j h0 hj
  omega
theorem crit_more {w : List Int} (hD : DistOk w) {o u q : Int} (ho : 0 ≤ o) (hu : 0 ≤ u) (h : Crit w o u q) (j : Int) (hj : q ≤ j) : costN w o u j ≤ costN w o u (j + 1) := by
  have h1 := cost_step hD o u j
  have h2 := upTo_mono hD hj
  have h3 := Int.mul_le_mul_of_nonneg_left h2 (show 0 ≤ o + u by omega)
  have h4 := h.2.2.1
  omega
theorem crit_right {w : List Int} (hD : DistOk w) {o u q : Int} (ho : 0 ≤ o) (hu : 0 ≤ u) (h : Crit w o u q) (d : Nat) : costN w o u q ≤ costN w o u (q + d) := by
  induction d with
  | zero => simp
  | succ d ih =>
    have := crit_more hD ho hu h (q + d) (by omega)
    rw [show q + ((d + 1 : Nat) : Int) = q + d + 1 by omega]
    omega
theorem crit_left {w : List Int} (hD : DistOk w) {o u q : Int} (h : Crit w o u q) (d : Nat) : ∀ j : Int, 0 ≤ j → j + d + 1 = q → costN w o u q < costN w o u j := by
  induction d with
  | zero =>
    intro j h0 hj
    have := crit_less hD h j h0 (by omega)
    rw [show q = j + 1 by omega]
    exact this
  | succ d ih =>
    intro j h0 hj
    have h1 := ih (j + 1) (by omega) (by omega)
    have h2 := crit_less hD h j h0 (by omega)
    omega
/-- The critical order costs least. -/
theorem crit_best {w : List Int} (hD : DistOk w) {o u q : Int} (ho : 0 ≤ o) (hu : 0 ≤ u) (h : Crit w o u q) (j : Int) (h0 : 0 ≤ j) : costN w o u q ≤ costN w o u j := by
  by_cases c : q ≤ j
  · have := crit_right hD ho hu h (j - q).toNat
    rwa [show q + ((j - q).toNat : Int) = j by omega] at this
  · have := crit_left hD h (q - j - 1).toNat j h0 (by omega)
    omega
section
variable {w : List Int} (hD : DistOk w)
include hD
theorem specShort_l0 {q : Int} (h : 0 ≤ q ∧ q ≤ 100) (d : Nat) : ∀ i : Nat, i + d = w.length → Ev (fun k => spec_l5Short.l0 k w q (wsum w (fun d => pos (d - q)) i) (i : Int)) (shortN w q) := by
  have hl := hD.1
  induction d with
  | zero =>
    intro i hi
    refine ev_succ ?_
    simp only [spec_l5Short.l0]
    refine ev_neg (by omega) ?_
    rw [show i = w.length by omega]
    exact ev_some _
  | succ d ih =>
    intro i hi
    have z := ih (i + 1) (by omega)
    have b1 := short_in hD h (i + 1) (by omega)
    have b2 := dist_rd hD i (by omega)
    have b3 := pos_in (show (i : Int) - q ≤ 100 by omega) (by omega)
    have b4 := mulb b2.1 b2.2 b3.1 b3.2
    have b5 := short_in hD h i (by omega)
    have hw : wrap64 ((i : Int) + 1) = ((i + 1 : Nat) : Int) := by rw [wid (by omega) (by omega)]; omega
    simp only [wsum] at z b1
    refine ev_succ ?_
    simp only [spec_l5Short.l0]
    rw [hw, wid (x := (i : Int) - q) (by omega) (by omega), most_pos]
    simp only [Option.bind_some]
    rw [wid (x := rd w (i : Int) * pos ((i : Int) - q)) (by omega) (by omega), wid (by omega) (by omega)]
    exact ev_pos (by omega) (ev_pos (by omega) z)
theorem specShort_ev {q : Int} (h : 0 ≤ q ∧ q ≤ 100) : Ev (fun k => spec_l5Short.f k w q) (shortN w q) := by
  unfold spec_l5Short.f
  exact specShort_l0 hD h w.length 0 (by omega)
end
theorem charges_ev (l : List Int) (hl : l.length ≤ 1000) : Ev (fun k => impl_areCharges.f k l) (decide (∀ x ∈ l, 0 ≤ x ∧ x ≤ 20)) := by
  unfold impl_areCharges.f
  exact ev_bind (allWithin_ev l 0 20 (by omega)) (ev_some _)
def ChOk (o u : Int) : Prop := (0 ≤ o ∧ o ≤ 20) ∧ (0 ≤ u ∧ u ≤ 20)
instance (o u : Int) : Decidable (ChOk o u) := by unfold ChOk; infer_instance
theorem charges2_ev (o u : Int) : Ev (fun k => impl_areCharges.f k [o, u]) (decide (ChOk o u)) := ev_dec (charges_ev [o, u] (by simp)) (by unfold ChOk; simp)
theorem implUpTo_ev {w : List Int} (hD : DistOk w) {q : Int} (h : 0 ≤ q ∧ q ≤ 100) : Ev (fun k => impl_upTo.f k w q) (upToN w q) := by
  have hl := hD.1
  unfold impl_upTo.f
  rw [wid (by omega) (by omega)]
  have e : mn (q + 1) (w.length : Int) = ((min (q + 1).toNat w.length : Nat) : Int) := by unfold mn; split <;> omega
  rw [e, Int.toNat_natCast]
  have t := sum64 hD
  refine ev_pos (by omega) (ev_pos (by omega) (ev_bind (total_ev (w.take (min (q + 1).toNat w.length)) (by rw [List.length_take]; omega) (fun i => by rw [List.take_take]; exact t _)) (ev_cast (ev_some _) ?_)))
  unfold upToN
  rw [upTo_take q (by omega), wsum_one w _ (by omega)]
theorem implCrit_l0 {w : List Int} (hD : DistOk w) {o u q : Int} (hc : ChOk o u) (h : Crit w o u q) (d : Nat) : ∀ j : Int, 0 ≤ j → j + d = q → Ev (fun k => impl_CriticalOrder.l0 k w o u j) (q, true) := by
  have hl := hD.1
  obtain ⟨ho, hu⟩ := hc
  have hT := tot_le hD
  have m2 := mulb hu.1 hu.2 (show 0 ≤ w.sum by omega) hT.2
  have hq := h.2.1
  have m1 : ∀ j : Int, 0 ≤ (o + u) * upToN w j ∧ (o + u) * upToN w j ≤ 40 * 16000 := fun j => by
    have := upTo_le hD j
    exact mulb (by omega) (by omega) this.1 (by omega)
  induction d with
  | zero =>
    intro j h0 hj
    have e : j = q := by omega
    subst e
    have := m1 j
    refine ev_succ ?_
    simp only [impl_CriticalOrder.l0]
    refine ev_bind (implUpTo_ev hD ⟨h0, by omega⟩) (ev_bind (distTotal_ev hD) ?_)
    rw [wid (x := o + u) (by omega) (by omega), wid (x := (o + u) * upToN w j) (by omega) (by omega), wid (x := u * w.sum) (by omega) (by omega)]
    exact ev_neg (by have := h.2.2.1; omega) (ev_some _)
  | succ d ih =>
    intro j h0 hj
    have := m1 j
    have z := ih (j + 1) (by omega) (by omega)
    refine ev_succ ?_
    simp only [impl_CriticalOrder.l0]
    refine ev_bind (implUpTo_ev hD ⟨h0, by omega⟩) (ev_bind (distTotal_ev hD) ?_)
    rw [wid (x := o + u) (by omega) (by omega), wid (x := (o + u) * upToN w j) (by omega) (by omega), wid (x := u * w.sum) (by omega) (by omega), wid (x := j + 1) (by omega) (by omega)]
    exact ev_pos (h.2.2.2 j h0 (by omega)) z
theorem implCrit_no {w : List Int} {o u : Int} (hl : w.length ≤ 35184372088832) (h : ¬ (DistOk w ∧ ChOk o u)) : Ev (fun k => impl_CriticalOrder.f k w o u) (0, false) := by
  unfold impl_CriticalOrder.f
  refine ev_bind (implDist_ev w hl) ?_
  by_cases c : DistOk w
  · refine ev_pos (decide_eq_true c) (ev_bind (charges2_ev o u) (ev_succ ?_))
    simp only [impl_CriticalOrder.j0]
    exact ev_pos (by rw [decide_eq_false fun x => h ⟨c, x⟩]; rfl) (ev_some _)
  · refine ev_neg (by rw [decide_eq_true_eq]; exact c) (ev_succ ?_)
    simp only [impl_CriticalOrder.j0]
    exact ev_pos trivial (ev_some _)
theorem implCrit_yes {w : List Int} {o u q : Int} (hD : DistOk w) (hc : ChOk o u) (h : Crit w o u q) : Ev (fun k => impl_CriticalOrder.f k w o u) (q, true) := by
  have hl := hD.1
  unfold impl_CriticalOrder.f
  refine ev_bind (implDist_ev w (by omega)) (ev_pos (decide_eq_true hD) (ev_bind (charges2_ev o u) (ev_succ ?_)))
  simp only [impl_CriticalOrder.j0]
  refine ev_neg (by rw [decide_eq_true hc]; simp) ?_
  exact implCrit_l0 hD hc h q.toNat 0 (by omega) (by have := h.1; omega)
theorem specUpTo_l0 {w : List Int} (hD : DistOk w) {q : Int} (h : 0 ≤ q ∧ q ≤ 100) (d : Nat) : ∀ i : Nat, i + d = min (q + 1).toNat w.length →
    Ev (fun k => spec_l5UpTo.l0 k w q (w.take i).sum (i : Int)) (upToN w q) := by
  have hl := hD.1
  have t := sum64 hD
  induction d with
  | zero =>
    intro i hi
    have e : upToN w q = (w.take i).sum := by
      unfold upToN
      rw [upTo_take q (by omega), ← hi, Nat.add_zero, wsum_one w _ (by omega)]
    rw [e]
    refine ev_succ ?_
    simp only [spec_l5UpTo.l0]
    by_cases c : (i : Int) < (w.length : Int)
    · exact ev_pos c (ev_neg (by omega) (ev_some _))
    · exact ev_neg c (ev_some _)
  | succ d ih =>
    intro i hi
    have z := ih (i + 1) (by omega)
    have hw : wrap64 ((i : Int) + 1) = ((i + 1 : Nat) : Int) := by rw [wid (by omega) (by omega)]; omega
    refine ev_succ ?_
    simp only [spec_l5UpTo.l0]
    rw [hw, take_sum_succ w i (by omega), wid (t _).1 (t _).2]
    exact ev_pos (by omega) (ev_pos (by omega) (ev_pos (by omega) z))
theorem specUpTo_ev {w : List Int} (hD : DistOk w) {q : Int} (h : 0 ≤ q ∧ q ≤ 100) : Ev (fun k => spec_l5UpTo.f k w q) (upToN w q) := by
  unfold spec_l5UpTo.f
  exact specUpTo_l0 hD h _ 0 (Nat.zero_add _)
theorem implMean_ev {w : List Int} (hD : DistOk w) : Ev (fun k => impl_meanSum.f k w) (meanN w) := by
  have hl := hD.1
  unfold impl_meanSum.f meanN
  exact ev_bind (weighted_ev hD (f := fun d => d) (fun n hn => rfl) (fun n hn => by show 0 ≤ (n : Int) ∧ (n : Int) ≤ 100; omega)) (ev_some _)
theorem mean_in {w : List Int} (hD : DistOk w) : 0 ≤ meanN w ∧ meanN w ≤ 1600000 := by
  have l := hD.1
  have := wsum_in (f := fun d => d) (B := 100) (by omega) hD.2.1 (fun i hi => by show 0 ≤ (i : Int) ∧ (i : Int) ≤ 100; omega) w.length (Nat.le_refl _)
  unfold meanN
  omega
theorem short_zero (w : List Int) : shortN w 0 = meanN w := by
  unfold shortN meanN
  refine wsum_congr _ fun i _ => ?_
  unfold pos
  split <;> omega
theorem vInts_l0 (l : List Int) (hl : l.length ≤ 1000000) (d : Nat) : ∀ i : Nat, i + d = l.length → Ev (fun k => laws_vInts.l0 k l l (i : Int)) true := by
  induction d with
  | zero =>
    intro i hi
    refine ev_succ ?_
    simp only [laws_vInts.l0]
    exact ev_neg (by omega) (ev_some _)
  | succ d ih =>
    intro i hi
    have z := ih (i + 1) (by omega)
    refine ev_succ ?_
    simp only [laws_vInts.l0]
    rw [show wrap64 ((i : Int) + 1) = ((i + 1 : Nat) : Int) by rw [wid (by omega) (by omega)]; omega]
    exact ev_pos (by omega) (ev_pos (by omega) (ev_pos (by omega) (ev_pos trivial z)))
theorem vInts_ev (l : List Int) (hl : l.length ≤ 1000000) : Ev (fun k => laws_vInts.f k l l) true := by
  unfold laws_vInts.f
  exact ev_pos rfl (vInts_l0 l hl l.length 0 (by omega))
theorem costSum_ev {w : List Int} {o u q : Int} (hD : DistOk w) (hc : ChOk o u) (h : 0 ≤ q ∧ q ≤ 15) : Ev (fun k => impl_CostSum.f k w o u q) (costN w o u q, true) := by
  have hl := hD.1
  unfold impl_CostSum.f impl_isOrder.f
  simp only [within_eq, Option.bind_some]
  refine ev_bind (implDist_ev w (by omega)) (ev_pos (decide_eq_true hD) (ev_bind (charges2_ev o u) (ev_pos (decide_eq_true hc) (ev_pos (decide_eq_true h) (ev_bind (implCost_ev hD hc.1 hc.2 (by omega)) (ev_some _))))))
theorem meanSum_ev {w : List Int} (hD : DistOk w) : Ev (fun k => impl_MeanSum.f k w) (meanN w, true) := by
  have hl := hD.1
  unfold impl_MeanSum.f
  exact ev_bind (implDist_ev w (by omega)) (ev_pos (decide_eq_true hD) (ev_bind (implMean_ev hD) (ev_some _)))

/-! Two distributions compared. -/
def MoreP (x y : List Int) (n : Nat) : Prop := ∀ q : Nat, n ≤ q → q < 16 → upToN x q * y.sum ≤ upToN y q * x.sum
theorem moreP_succ {x y : List Int} {n : Nat} (hn : n < 16) : MoreP x y n ↔ upToN x n * y.sum ≤ upToN y n * x.sum ∧ MoreP x y (n + 1) := by
  constructor
  · exact fun h => ⟨h n (Nat.le_refl _) hn, fun q a b => h q (by omega) b⟩
  · rintro ⟨a, b⟩ q c e
    by_cases z : q = n
    · rw [z]; exact a
    · exact b q (by omega) e
theorem moreP_end (x y : List Int) : MoreP x y 16 := fun q a b => by omega
open Classical in
noncomputable def moreAns (x y : List Int) : Bool × Bool := if DistOk x ∧ DistOk y then (decide (MoreP x y 0), true) else (false, false)
theorem up_mul {x y : List Int} (hx : DistOk x) (hy : DistOk y) (q : Int) : 0 ≤ upToN x q * y.sum ∧ upToN x q * y.sum ≤ 16000 * 16000 := by
  have h1 := upTo_le hx q
  have h2 := tot_le hx
  have h3 := tot_le hy
  exact mulb h1.1 (by omega) (by omega) h3.2
open Classical in
theorem implMore_l0 {x y : List Int} (hx : DistOk x) (hy : DistOk y) (d : Nat) : ∀ i : Nat, i + d = 16 → Ev (fun k => impl_IsMore.l0 k x y (i : Int)) (decide (MoreP x y i), true) := by
  induction d with
  | zero =>
    intro i hi
    refine ev_succ ?_
    simp only [impl_IsMore.l0]
    have e : i = 16 := by omega
    subst e
    rw [decide_eq_true (moreP_end x y)]
    exact ev_neg (by omega) (ev_some _)
  | succ d ih =>
    intro i hi
    have z := ih (i + 1) (by omega)
    have b1 := up_mul hx hy i
    have b2 := up_mul hy hx i
    have hw : wrap64 ((i : Int) + 1) = ((i + 1 : Nat) : Int) := by rw [wid (by omega) (by omega)]; omega
    refine ev_succ ?_
    simp only [impl_IsMore.l0]
    rw [hw]
    refine ev_pos (by omega) (ev_bind (implUpTo_ev hx (by omega)) (ev_bind (distTotal_ev hy) (ev_bind (implUpTo_ev hy (by omega)) (ev_bind (distTotal_ev hx) ?_))))
    rw [wid (x := upToN x i * y.sum) (by omega) (by omega), wid (x := upToN y i * x.sum) (by omega) (by omega)]
    by_cases c : upToN x i * y.sum ≤ upToN y i * x.sum
    · refine ev_neg (by omega) (ev_cast z ?_)
      rw [decide_eq_decide.2 (show MoreP x y (i + 1) ↔ MoreP x y i by rw [moreP_succ (n := i) (by omega)]; exact ⟨fun h => ⟨c, h⟩, fun h => h.2⟩)]
    · refine ev_pos (by omega) (ev_cast (ev_some _) ?_)
      rw [decide_eq_false fun h => c ((moreP_succ (by omega)).1 h).1]
open Classical in
theorem specMore_l0 {x y : List Int} (hx : DistOk x) (hy : DistOk y) (d : Nat) : ∀ i : Nat, i + d = 16 → Ev (fun k => spec_IsMore.l0 k x y (i : Int)) (decide (MoreP x y i), true) := by
  induction d with
  | zero =>
    intro i hi
    refine ev_succ ?_
    simp only [spec_IsMore.l0]
    have e : i = 16 := by omega
    subst e
    rw [decide_eq_true (moreP_end x y)]
    exact ev_neg (by omega) (ev_some _)
  | succ d ih =>
    intro i hi
    have z := ih (i + 1) (by omega)
    have b1 := up_mul hx hy i
    have b2 := up_mul hy hx i
    have hw : wrap64 ((i : Int) + 1) = ((i + 1 : Nat) : Int) := by rw [wid (by omega) (by omega)]; omega
    refine ev_succ ?_
    simp only [spec_IsMore.l0]
    rw [hw]
    refine ev_pos (by omega) (ev_bind (specUpTo_ev hx (by omega)) (ev_bind (specTotal_ev hy) (ev_bind (specUpTo_ev hy (by omega)) (ev_bind (specTotal_ev hx) ?_))))
    rw [wid (x := upToN x i * y.sum) (by omega) (by omega), wid (x := upToN y i * x.sum) (by omega) (by omega)]
    by_cases c : upToN x i * y.sum ≤ upToN y i * x.sum
    · refine ev_neg (by omega) (ev_cast z ?_)
      rw [decide_eq_decide.2 (show MoreP x y (i + 1) ↔ MoreP x y i by rw [moreP_succ (n := i) (by omega)]; exact ⟨fun h => ⟨c, h⟩, fun h => h.2⟩)]
    · refine ev_pos (by omega) (ev_cast (ev_some _) ?_)
      rw [decide_eq_false fun h => c ((moreP_succ (by omega)).1 h).1]
/-- How the three questions begin: both must be distributions. -/
theorem ask_ev {α : Type} {x y : List Int} {g : List Int → Nat → Option Bool} {j : Nat → List Int → List Int → Bool → Option α} {r no : α} (hx : Ev (g x) (decide (DistOk x))) (hy : Ev (g y) (decide (DistOk y)))
    (hj : Ev (fun k => j k x y true) no) (h : DistOk x ∧ DistOk y → Ev (fun k => j k x y false) r) (h2 : ¬ (DistOk x ∧ DistOk y) → no = r) :
    Ev (fun k => (g x k).bind fun a => if a = true then (g y k).bind fun b => j k x y (!b) else j k x y true) r := by
  refine ev_bind hx ?_
  by_cases c : DistOk x
  · refine ev_pos (decide_eq_true c) (ev_bind hy ?_)
    by_cases e : DistOk y
    · rw [decide_eq_true e]
      exact h ⟨c, e⟩
    · rw [decide_eq_false e]
      exact ev_cast hj (h2 fun z => e z.2)
  · exact ev_neg (by rw [decide_eq_true_eq]; exact c) (ev_cast hj (h2 fun z => c z.1))
open Classical in
theorem implMore_ev (x y : List Int) (hx : x.length ≤ 1000) (hy : y.length ≤ 1000) : Ev (fun k => impl_IsMore.f k x y) (moreAns x y) := by
  unfold impl_IsMore.f
  refine ask_ev (g := fun x k => impl_IsDistribution.f k x) (no := (false, false)) (implDist_ev x (by omega)) (implDist_ev y (by omega)) ?_ (fun h => ?_) fun h => (if_neg h).symm
  · refine ev_succ ?_
    simp only [impl_IsMore.j0]
    exact ev_pos trivial (ev_some _)
  · refine ev_succ ?_
    simp only [impl_IsMore.j0]
    refine ev_neg (by simp) (ev_cast (implMore_l0 h.1 h.2 16 0 (by omega)) (if_pos h).symm)
open Classical in
theorem specMore_ev (x y : List Int) (hx : x.length ≤ 1000) (hy : y.length ≤ 1000) : Ev (fun k => spec_IsMore.f k x y) (moreAns x y) := by
  unfold spec_IsMore.f
  refine ask_ev (g := fun x k => spec_l5Good.f k x) (no := (false, false)) (specDist_ev x (by omega)) (specDist_ev y (by omega)) ?_ (fun h => ?_) fun h => (if_neg h).symm
  · refine ev_succ ?_
    simp only [spec_IsMore.j0]
    exact ev_pos trivial (ev_some _)
  · refine ev_succ ?_
    simp only [spec_IsMore.j0]
    refine ev_neg (by simp) (ev_cast (specMore_l0 h.1 h.2 16 0 (by omega)) (if_pos h).symm)
/-! Wider. -/
def WideP (x y : List Int) (n : Nat) : Prop := ∀ q : Nat, n ≤ q → q < 16 → shortN y q * x.sum ≤ shortN x q * y.sum
theorem wideP_succ {x y : List Int} {n : Nat} (hn : n < 16) : WideP x y n ↔ shortN y n * x.sum ≤ shortN x n * y.sum ∧ WideP x y (n + 1) := by
  constructor
  · exact fun h => ⟨h n (Nat.le_refl _) hn, fun q a b => h q (by omega) b⟩
  · rintro ⟨a, b⟩ q c e
    by_cases z : q = n
    · rw [z]; exact a
    · exact b q (by omega) e
theorem wideP_end (x y : List Int) : WideP x y 16 := fun q a b => by omega
def Wide (x y : List Int) : Prop := meanN x * y.sum = meanN y * x.sum ∧ WideP x y 0
open Classical in
noncomputable def wideAns (x y : List Int) : Bool × Bool := if DistOk x ∧ DistOk y then (decide (Wide x y), true) else (false, false)
theorem sh_mul {x y : List Int} (hx : DistOk x) (hy : DistOk y) {q : Int} (h : 0 ≤ q ∧ q ≤ 100) : 0 ≤ shortN x q * y.sum ∧ shortN x q * y.sum ≤ 1600000 * 16000 := by
  have h1 := short_in hx h x.length (Nat.le_refl _)
  have h3 := tot_le hy
  exact mulb h1.1 h1.2 (by omega) h3.2
theorem me_mul {x y : List Int} (hx : DistOk x) (hy : DistOk y) : 0 ≤ meanN x * y.sum ∧ meanN x * y.sum ≤ 1600000 * 16000 := by
  have h1 := mean_in hx
  have h3 := tot_le hy
  exact mulb h1.1 h1.2 (by omega) h3.2
open Classical in
theorem implWide_l0 {x y : List Int} (hx : DistOk x) (hy : DistOk y) (d : Nat) : ∀ i : Nat, i + d = 16 → Ev (fun k => impl_IsWider.l0 k x y (i : Int)) (decide (WideP x y i), true) := by
  induction d with
  | zero =>
    intro i hi
    refine ev_succ ?_
    simp only [impl_IsWider.l0]
    have e : i = 16 := by omega
    subst e
    rw [decide_eq_true (wideP_end x y)]
    exact ev_neg (by omega) (ev_some _)
  | succ d ih =>
    intro i hi
    have z := ih (i + 1) (by omega)
    have b1 := sh_mul hx hy (q := i) (by omega)
    have b2 := sh_mul hy hx (q := i) (by omega)
    have hw : wrap64 ((i : Int) + 1) = ((i + 1 : Nat) : Int) := by rw [wid (by omega) (by omega)]; omega
    refine ev_succ ?_
    simp only [impl_IsWider.l0]
    rw [hw]
    refine ev_pos (by omega) (ev_bind (implShort_ev hx (by omega)) (ev_bind (distTotal_ev hy) (ev_bind (implShort_ev hy (by omega)) (ev_bind (distTotal_ev hx) ?_))))
    rw [wid (x := shortN x i * y.sum) (by omega) (by omega), wid (x := shortN y i * x.sum) (by omega) (by omega)]
    by_cases c : shortN y i * x.sum ≤ shortN x i * y.sum
    · refine ev_neg (by omega) (ev_cast z ?_)
      rw [decide_eq_decide.2 (show WideP x y (i + 1) ↔ WideP x y i by rw [wideP_succ (n := i) (by omega)]; exact ⟨fun h => ⟨c, h⟩, fun h => h.2⟩)]
    · refine ev_pos (by omega) (ev_cast (ev_some _) ?_)
      rw [decide_eq_false fun h => c ((wideP_succ (by omega)).1 h).1]
open Classical in
theorem specWide_l0 {x y : List Int} (hx : DistOk x) (hy : DistOk y) (d : Nat) : ∀ i : Nat, i + d = 16 → Ev (fun k => spec_IsWider.l0 k x y (i : Int)) (decide ((i = 0 → meanN x * y.sum = meanN y * x.sum) ∧ WideP x y i), true) := by
  induction d with
  | zero =>
    intro i hi
    refine ev_succ ?_
    simp only [spec_IsWider.l0]
    have e : i = 16 := by omega
    subst e
    rw [decide_eq_true ⟨fun h => by omega, wideP_end x y⟩]
    exact ev_neg (by omega) (ev_some _)
  | succ d ih =>
    intro i hi
    have z := ih (i + 1) (by omega)
    have b1 := sh_mul hx hy (q := i) (by omega)
    have b2 := sh_mul hy hx (q := i) (by omega)
    have hw : wrap64 ((i : Int) + 1) = ((i + 1 : Nat) : Int) := by rw [wid (by omega) (by omega)]; omega
    refine ev_succ ?_
    simp only [spec_IsWider.l0]
    rw [hw]
    refine ev_pos (by omega) (ev_bind (specShort_ev hx (by omega)) (ev_bind (specTotal_ev hy) (ev_bind (specShort_ev hy (by omega)) (ev_bind (specTotal_ev hx) ?_))))
    rw [wid (x := shortN x i * y.sum) (by omega) (by omega), wid (x := shortN y i * x.sum) (by omega) (by omega)]
    by_cases c : shortN y i * x.sum ≤ shortN x i * y.sum
    · refine ev_neg (by omega) ?_
      by_cases c0 : (i : Int) = 0
      · have i0 : i = 0 := by omega
        refine ev_pos c0 ?_
        have e1 : shortN x i = meanN x := by rw [i0]; exact short_zero x
        have e2 : shortN y i = meanN y := by rw [i0]; exact short_zero y
        rw [e1, e2] at c ⊢
        by_cases m : meanN x * y.sum = meanN y * x.sum
        · refine ev_pos m (ev_cast z ?_)
          rw [decide_eq_decide.2 (show ((i + 1 = 0 → meanN x * y.sum = meanN y * x.sum) ∧ WideP x y (i + 1)) ↔ ((i = 0 → meanN x * y.sum = meanN y * x.sum) ∧ WideP x y i) by
            rw [wideP_succ (n := i) (by omega), e1, e2]; exact ⟨fun h => ⟨fun _ => m, c, h.2⟩, fun h => ⟨fun _ => m, h.2.2⟩⟩)]
        · refine ev_neg m (ev_cast (ev_some _) ?_)
          rw [decide_eq_false fun h => m (h.1 i0)]
      · refine ev_neg c0 (ev_cast z ?_)
        rw [decide_eq_decide.2 (show ((i + 1 = 0 → meanN x * y.sum = meanN y * x.sum) ∧ WideP x y (i + 1)) ↔ ((i = 0 → meanN x * y.sum = meanN y * x.sum) ∧ WideP x y i) by
            rw [wideP_succ (n := i) (by omega)]; exact ⟨fun h => ⟨fun e => by omega, c, h.2⟩, fun h => ⟨fun e => by omega, h.2.2⟩⟩)]
    · refine ev_pos (by omega) (ev_cast (ev_some _) ?_)
      rw [decide_eq_false fun h => c ((wideP_succ (by omega)).1 h.2).1]
open Classical in
theorem implWide_ev (x y : List Int) (hx : x.length ≤ 1000) (hy : y.length ≤ 1000) : Ev (fun k => impl_IsWider.f k x y) (wideAns x y) := by
  unfold impl_IsWider.f
  refine ask_ev (g := fun x k => impl_IsDistribution.f k x) (no := (false, false)) (implDist_ev x (by omega)) (implDist_ev y (by omega)) ?_ (fun h => ?_) fun h => (if_neg h).symm
  · refine ev_succ ?_
    simp only [impl_IsWider.j0]
    exact ev_pos trivial (ev_some _)
  · have b1 := me_mul h.1 h.2
    have b2 := me_mul h.2 h.1
    have e : wideAns x y = (decide (Wide x y), true) := if_pos h
    rw [e]
    refine ev_succ ?_
    simp only [impl_IsWider.j0]
    refine ev_neg (by simp) (ev_bind (implMean_ev h.1) (ev_bind (distTotal_ev h.2) (ev_bind (implMean_ev h.2) (ev_bind (distTotal_ev h.1) ?_))))
    rw [wid (x := meanN x * y.sum) (by omega) (by omega), wid (x := meanN y * x.sum) (by omega) (by omega)]
    by_cases m : meanN x * y.sum = meanN y * x.sum
    · refine ev_pos m (ev_cast (implWide_l0 h.1 h.2 16 0 (by omega)) ?_)
      rw [decide_eq_decide.2 (show WideP x y 0 ↔ Wide x y from ⟨fun z => ⟨m, z⟩, fun z => z.2⟩)]
    · refine ev_neg m (ev_cast (ev_some _) ?_)
      rw [decide_eq_false fun z => m z.1]
open Classical in
theorem specWide_ev (x y : List Int) (hx : x.length ≤ 1000) (hy : y.length ≤ 1000) : Ev (fun k => spec_IsWider.f k x y) (wideAns x y) := by
  unfold spec_IsWider.f
  refine ask_ev (g := fun x k => spec_l5Good.f k x) (no := (false, false)) (specDist_ev x (by omega)) (specDist_ev y (by omega)) ?_ (fun h => ?_) fun h => (if_neg h).symm
  · refine ev_succ ?_
    simp only [spec_IsWider.j0]
    exact ev_pos trivial (ev_some _)
  · have e : wideAns x y = (decide (Wide x y), true) := if_pos h
    rw [e]
    refine ev_succ ?_
    simp only [spec_IsWider.j0]
    refine ev_neg (by simp) (ev_cast (specWide_l0 h.1 h.2 16 0 (by omega)) ?_)
    rw [decide_eq_decide.2 (show (((0 : Nat) = 0 → meanN x * y.sum = meanN y * x.sum) ∧ WideP x y 0) ↔ Wide x y from ⟨fun z => ⟨z.1 rfl, z.2⟩, fun z => ⟨fun _ => z.1, z.2⟩⟩)]
/-! The sum of two demands. -/
def cAdd (z : List Int) (i : Nat) (a : Int) (y : List Int) : Nat → Nat → List Int
  | 0, _ => z
  | d + 1, j => cAdd (z.set (i + j) (rd z ((i + j : Nat) : Int) + a * rd y (j : Int))) i a y d (j + 1)
def cRows (z x y : List Int) : Nat → Nat → List Int
  | 0, _ => z
  | d + 1, i => cRows (cAdd z i (rd x (i : Int)) y y.length 0) x y d (i + 1)
theorem cAdd_len (i : Nat) (a : Int) (y : List Int) (d : Nat) : ∀ (z : List Int) (j : Nat), (cAdd z i a y d j).length = z.length := by
  induction d with
  | zero => intro z j; rfl
  | succ d ih => intro z j; simp only [cAdd]; rw [ih, List.length_set]
theorem cRows_len (x y : List Int) (d : Nat) : ∀ (z : List Int) (i : Nat), (cRows z x y d i).length = z.length := by
  induction d with
  | zero => intro z i; rfl
  | succ d ih => intro z i; simp only [cRows]; rw [ih, cAdd_len]
theorem rd_set (z : List Int) (k : Nat) (v : Int) (i : Nat) (hi : i < z.length) : rd (z.set k v) (i : Int) = if k = i then v else rd z (i : Int) := by
  rw [rd_nat _ i (by rw [List.length_set]; exact hi), rd_nat z i hi, List.getElem_set]
theorem wsum_set (z : List Int) (k : Nat) (v : Int) (f : Int → Int) (n : Nat) (hn : n ≤ z.length) : wsum (z.set k (rd z (k : Int) + v)) f n = wsum z f n + if k < n then v * f (k : Int) else 0 := by
  induction n with
  | zero => simp [wsum]
  | succ n ih =>
    simp only [wsum]
    rw [ih (by omega), rd_set z k _ n (by omega)]
    by_cases c : k = n
    · subst c
      rw [if_neg (by omega), if_pos rfl, if_pos (by omega), Int.add_mul]
      omega
    · rw [if_neg c]
      by_cases e : k < n
      · rw [if_pos e, if_pos (by omega)]; omega
      · rw [if_neg e, if_neg (by omega)]; omega
theorem cAdd_sum (i : Nat) (a : Int) (y : List Int) (f : Int → Int) (d : Nat) : ∀ (z : List Int) (j : Nat), j + d = y.length → i + y.length ≤ z.length →
    wsum (cAdd z i a y d j) f z.length = wsum z f z.length + a * (wsum y (fun j => f ((i : Int) + j)) y.length - wsum y (fun j => f ((i : Int) + j)) j) := by
  induction d with
  | zero =>
    intro z j h1 h2
    simp only [cAdd]
    rw [show j = y.length by omega]
    simp
  | succ d ih =>
    intro z j h1 h2
    simp only [cAdd]
    have := ih (z.set (i + j) (rd z ((i + j : Nat) : Int) + a * rd y (j : Int))) (j + 1) (by omega) (by rw [List.length_set]; exact h2)
    rw [List.length_set] at this
    rw [this, wsum_set z (i + j) _ f z.length (Nat.le_refl _), if_pos (by omega)]
    simp only [wsum]
    rw [Int.natCast_add, Int.mul_sub, Int.mul_sub, Int.mul_add, Int.mul_assoc]
    omega
theorem cRows_sum (x y : List Int) (f : Int → Int) (d : Nat) : ∀ (z : List Int) (i : Nat), i + d = x.length → x.length + y.length ≤ z.length + 1 →
    wsum (cRows z x y d i) f z.length = wsum z f z.length + (wsum x (fun i => wsum y (fun j => f (i + j)) y.length) x.length - wsum x (fun i => wsum y (fun j => f (i + j)) y.length) i) := by
  induction d with
  | zero =>
    intro z i h1 h2
    simp only [cRows]
    rw [show i = x.length by omega]
    omega
  | succ d ih =>
    intro z i h1 h2
    simp only [cRows]
    have := ih (cAdd z i (rd x (i : Int)) y y.length 0) (i + 1) (by omega) (by rw [cAdd_len]; exact h2)
    rw [cAdd_len] at this
    rw [this, cAdd_sum i _ y f y.length z 0 (by omega) (by omega)]
    simp only [wsum]
    rw [Int.sub_zero]
    omega
def sumOf (x y : List Int) : List Int := cRows (List.replicate (x.length + y.length - 1) 0) x y x.length 0
theorem wsum_rep (m : Nat) (f : Int → Int) (n : Nat) (hn : n ≤ m) : wsum (List.replicate m 0) f n = 0 := by
  induction n with
  | zero => rfl
  | succ n ih =>
    simp only [wsum]
    rw [ih (by omega), rd_nat _ n (by rw [List.length_replicate]; omega), List.getElem_replicate]
    simp
theorem sumOf_len (x y : List Int) : (sumOf x y).length = x.length + y.length - 1 := by unfold sumOf; rw [cRows_len, List.length_replicate]
theorem sumOf_sum {x y : List Int} (hx : 0 < x.length) (f : Int → Int) : wsum (sumOf x y) f (sumOf x y).length = wsum x (fun i => wsum y (fun j => f (i + j)) y.length) x.length := by
  have := cRows_sum x y f x.length (List.replicate (x.length + y.length - 1) 0) 0 (by omega) (by rw [List.length_replicate]; omega)
  rw [List.length_replicate, wsum_rep _ f _ (Nat.le_refl _)] at this
  rw [sumOf_len]
  unfold sumOf
  rw [this]
  simp only [wsum]
  omega
/-- Numbers from 0 to m millions. -/
def Mil (z : List Int) (m : Nat) : Prop := ∀ v ∈ z, 0 ≤ v ∧ v ≤ (m : Int) * 1000000
theorem mil_set {z : List Int} {m : Nat} (h : Mil z m) (k : Nat) (hk : k < z.length) {v : Int} (hv : 0 ≤ v ∧ v ≤ 1000000) : Mil (z.set k (rd z (k : Int) + v)) (m + 1) := fun u hu => by
  rcases List.mem_or_eq_of_mem_set hu with c | c
  · have := h u c
    omega
  · have := rd_in h k hk
    omega
theorem mulm {p : Int} (h : 0 ≤ p ∧ p ≤ 1000 * 1000) : 0 ≤ p ∧ p ≤ 1000000 := by omega
theorem mil64 {p q : Int} {m d : Nat} (h : m + 1 + d ≤ 10000) (a : 0 ≤ q ∧ q ≤ (m : Int) * 1000000) (b : 0 ≤ p ∧ p ≤ 1000000) : wrap64 (q + p) = q + p := wid (by omega) (by omega)
theorem two_one (m d : Nat) : m + (d + 1) = m + 1 + d := by omega
theorem implSum_l1 {x y : List Int} (hx : DistOk x) (hy : DistOk y) (i : Nat) (hi : i < x.length) (r : List Int × Bool) (d : Nat) : ∀ (z : List Int) (j m : Nat), j + d = y.length → z.length + 1 = x.length + y.length → Mil z m → m + d ≤ 10000 →
    (Mil (cAdd z i (rd x (i : Int)) y d j) (m + d) → Ev (fun k => impl_SumOf.l0 k y (cAdd z i (rd x (i : Int)) y d j) x (x.length : Int) ((i + 1 : Nat) : Int)) r) →
    Ev (fun k => impl_SumOf.l1 k y z (i : Int) (rd x (i : Int)) x (x.length : Int) (i : Int) y (y.length : Int) (j : Int)) r := by
  have hl := hx.1
  have hl2 := hy.1
  induction d with
  | zero =>
    intro z j m h1 h2 h3 h4 h
    refine ev_succ ?_
    simp only [impl_SumOf.l1]
    rw [show wrap64 ((i : Int) + 1) = ((i + 1 : Nat) : Int) by rw [wid (by omega) (by omega)]; omega]
    exact ev_neg (by omega) (h h3)
  | succ d ih =>
    intro z j m h1 h2 h3 h4 h
    have o1 : i + j < z.length := by omega
    have o2 : (i : Int) + (j : Int) = ((i + j : Nat) : Int) := rfl
    have o3 : j < y.length := by omega
    have o4 : z.length ≤ 100 := by omega
    have o5 : j + 1 + d = y.length := by omega
    have o6 : m + 1 + d ≤ 10000 := by omega
    have e1 : wrap64 ((j : Int) + 1) = ((j + 1 : Nat) : Int) := by rw [wid (by omega) (by omega)]; rfl
    have e2 : wrap64 ((i : Int) + (j : Int)) = ((i + j : Nat) : Int) := by rw [o2, wid (by omega) (by omega)]
    have b5 : 0 ≤ rd x (i : Int) * rd y (j : Int) ∧ rd x (i : Int) * rd y (j : Int) ≤ 1000000 := by
      have b1 := dist_rd hx i hi
      have b2 := dist_rd hy j o3
      have b3 := mulb b1.1 b1.2 b2.1 b2.2
      exact mulm b3
    have e3 := wid (x := rd x (i : Int) * rd y (j : Int)) (Int.le_trans (by decide) b5.1) (Int.le_trans b5.2 (by decide))
    have b4 := rd_in h3 (i + j) o1
    have b6 := mil_set h3 (i + j) o1 b5
    have e4 : wrap64 (rd z ((i + j : Nat) : Int) + rd x (i : Int) * rd y (j : Int)) = rd z ((i + j : Nat) : Int) + rd x (i : Int) * rd y (j : Int) := mil64 o6 b4 b5
    have z2 := ih (z.set (i + j) (rd z ((i + j : Nat) : Int) + rd x (i : Int) * rd y (j : Int))) (j + 1) (m + 1) o5 (by rw [List.length_set]; exact h2) b6 o6 fun hm => h (by rw [show m + (d + 1) = m + 1 + d from two_one m d]; exact hm)
    have q1 : (j : Int) < (y.length : Int) := Int.ofNat_lt.2 o3
    have q2 : (0 : Int) ≤ (j : Int) := Int.natCast_nonneg j
    have q3 : (0 : Int) ≤ ((i + j : Nat) : Int) := Int.natCast_nonneg _
    have q4 : ((i + j : Nat) : Int) < (z.length : Int) := Int.ofNat_lt.2 o1
    have q5 : (0 : Int) ≤ (i : Int) := Int.natCast_nonneg i
    have q6 : (i : Int) < (x.length : Int) := Int.ofNat_lt.2 hi
    refine ev_succ ?_
    simp only [impl_SumOf.l1]
    rw [e1, e2, Int.toNat_natCast, e3, e4]
    refine Ev.congr (fun _ => ?_) z2
    rw [if_pos q1, if_pos q2, if_pos q1, if_pos q3, if_pos q4]
theorem specSum_l1 {x y : List Int} (hx : DistOk x) (hy : DistOk y) (i : Nat) (hi : i < x.length) (r : List Int × Bool) (d : Nat) : ∀ (z : List Int) (j m : Nat), j + d = y.length → z.length + 1 = x.length + y.length → Mil z m → m + d ≤ 10000 →
    (Mil (cAdd z i (rd x (i : Int)) y d j) (m + d) → Ev (fun k => spec_SumOf.l0 k x y (cAdd z i (rd x (i : Int)) y d j) ((i + 1 : Nat) : Int)) r) →
    Ev (fun k => spec_SumOf.l1 k x y z (i : Int) (j : Int)) r := by
  have hl := hx.1
  have hl2 := hy.1
  induction d with
  | zero =>
    intro z j m h1 h2 h3 h4 h
    refine ev_succ ?_
    simp only [spec_SumOf.l1]
    rw [show wrap64 ((i : Int) + 1) = ((i + 1 : Nat) : Int) by rw [wid (by omega) (by omega)]; omega]
    exact ev_neg (by omega) (h h3)
  | succ d ih =>
    intro z j m h1 h2 h3 h4 h
    have o1 : i + j < z.length := by omega
    have o2 : (i : Int) + (j : Int) = ((i + j : Nat) : Int) := rfl
    have o3 : j < y.length := by omega
    have o4 : z.length ≤ 100 := by omega
    have o5 : j + 1 + d = y.length := by omega
    have o6 : m + 1 + d ≤ 10000 := by omega
    have e1 : wrap64 ((j : Int) + 1) = ((j + 1 : Nat) : Int) := by rw [wid (by omega) (by omega)]; rfl
    have e2 : wrap64 ((i : Int) + (j : Int)) = ((i + j : Nat) : Int) := by rw [o2, wid (by omega) (by omega)]
    have b5 : 0 ≤ rd x (i : Int) * rd y (j : Int) ∧ rd x (i : Int) * rd y (j : Int) ≤ 1000000 := by
      have b1 := dist_rd hx i hi
      have b2 := dist_rd hy j o3
      have b3 := mulb b1.1 b1.2 b2.1 b2.2
      exact mulm b3
    have e3 := wid (x := rd x (i : Int) * rd y (j : Int)) (Int.le_trans (by decide) b5.1) (Int.le_trans b5.2 (by decide))
    have b4 := rd_in h3 (i + j) o1
    have b6 := mil_set h3 (i + j) o1 b5
    have e4 : wrap64 (rd z ((i + j : Nat) : Int) + rd x (i : Int) * rd y (j : Int)) = rd z ((i + j : Nat) : Int) + rd x (i : Int) * rd y (j : Int) := mil64 o6 b4 b5
    have z2 := ih (z.set (i + j) (rd z ((i + j : Nat) : Int) + rd x (i : Int) * rd y (j : Int))) (j + 1) (m + 1) o5 (by rw [List.length_set]; exact h2) b6 o6 fun hm => h (by rw [show m + (d + 1) = m + 1 + d from two_one m d]; exact hm)
    have q1 : (j : Int) < (y.length : Int) := Int.ofNat_lt.2 o3
    have q2 : (0 : Int) ≤ (j : Int) := Int.natCast_nonneg j
    have q3 : (0 : Int) ≤ ((i + j : Nat) : Int) := Int.natCast_nonneg _
    have q4 : ((i + j : Nat) : Int) < (z.length : Int) := Int.ofNat_lt.2 o1
    have q5 : (0 : Int) ≤ (i : Int) := Int.natCast_nonneg i
    have q6 : (i : Int) < (x.length : Int) := Int.ofNat_lt.2 hi
    refine ev_succ ?_
    simp only [spec_SumOf.l1]
    rw [e1, e2, Int.toNat_natCast, e3, e4]
    refine Ev.congr (fun _ => ?_) z2
    rw [if_pos q1, if_pos q3, if_pos q4, if_pos q5, if_pos q6, if_pos q2]
def fin (z : List Int) : List Int × Bool := if DistOk z then (z, true) else ([], false)
theorem implSum_l0 {x y : List Int} (hx : DistOk x) (hy : DistOk y) (d : Nat) : ∀ (z : List Int) (i m : Nat), i + d = x.length → z.length + 1 = x.length + y.length → Mil z m → m + d * 16 ≤ 1000 →
    Ev (fun k => impl_SumOf.l0 k y z x (x.length : Int) (i : Int)) (fin (cRows z x y d i)) := by
  have hl := hx.1
  have hl2 := hy.1
  induction d with
  | zero =>
    intro z i m h1 h2 h3 h4
    refine ev_succ ?_
    simp only [impl_SumOf.l0, cRows]
    refine ev_neg (by omega) (ev_bind (implDist_ev z (by omega)) ?_)
    unfold fin
    by_cases c : DistOk z
    · rw [if_pos c]
      exact ev_pos (decide_eq_true c) (ev_some _)
    · rw [if_neg c]
      exact ev_neg (by rw [decide_eq_true_eq]; exact c) (ev_some _)
  | succ d ih =>
    intro z i m h1 h2 h3 h4
    refine ev_succ ?_
    simp only [impl_SumOf.l0, cRows]
    refine ev_pos (by omega) (ev_pos (by omega) (ev_pos (by omega) (implSum_l1 hx hy i (by omega) _ y.length z 0 m (by omega) h2 h3 (by omega) fun hm => ?_)))
    exact ih _ (i + 1) (m + y.length) (by omega) (by rw [cAdd_len]; exact h2) hm (by omega)
theorem specSum_l0 {x y : List Int} (hx : DistOk x) (hy : DistOk y) (d : Nat) : ∀ (z : List Int) (i m : Nat), i + d = x.length → z.length + 1 = x.length + y.length → Mil z m → m + d * 16 ≤ 1000 →
    Ev (fun k => spec_SumOf.l0 k x y z (i : Int)) (fin (cRows z x y d i)) := by
  have hl := hx.1
  have hl2 := hy.1
  induction d with
  | zero =>
    intro z i m h1 h2 h3 h4
    refine ev_succ ?_
    simp only [spec_SumOf.l0, cRows]
    refine ev_neg (by omega) (ev_bind (specDist_ev z (by omega)) ?_)
    unfold fin
    by_cases c : DistOk z
    · rw [if_pos c]
      exact ev_pos (decide_eq_true c) (ev_some _)
    · rw [if_neg c]
      exact ev_neg (by rw [decide_eq_true_eq]; exact c) (ev_some _)
  | succ d ih =>
    intro z i m h1 h2 h3 h4
    refine ev_succ ?_
    simp only [spec_SumOf.l0, cRows]
    refine ev_pos (by omega) (specSum_l1 hx hy i (by omega) _ y.length z 0 m (by omega) h2 h3 (by omega) fun hm => ?_)
    exact ih _ (i + 1) (m + y.length) (by omega) (by rw [cAdd_len]; exact h2) hm (by omega)
def sumAns (x y : List Int) : List Int × Bool := if DistOk x ∧ DistOk y then fin (sumOf x y) else ([], false)
theorem mil_rep (n : Nat) : Mil (List.replicate n 0) 0 := fun v hv => by
  rw [List.eq_of_mem_replicate hv]
  omega
theorem implSum_ev (x y : List Int) (hx : x.length ≤ 1000) (hy : y.length ≤ 1000) : Ev (fun k => impl_SumOf.f k x y) (sumAns x y) := by
  unfold impl_SumOf.f
  refine ask_ev (g := fun x k => impl_IsDistribution.f k x) (no := ([], false)) (implDist_ev x (by omega)) (implDist_ev y (by omega)) ?_ (fun h => ?_) fun h => (if_neg h).symm
  · refine ev_succ ?_
    simp only [impl_SumOf.j0]
    exact ev_pos trivial (ev_some _)
  · have h1 := h.1.1
    have h2 := h.2.1
    have e : sumAns x y = fin (sumOf x y) := if_pos h
    rw [e]
    refine ev_succ ?_
    simp only [impl_SumOf.j0]
    rw [wid (x := (x.length : Int) + (y.length : Int)) (by omega) (by omega), wid (by omega) (by omega), show ((x.length : Int) + (y.length : Int) - 1).toNat = x.length + y.length - 1 by omega]
    exact ev_neg (by simp) (ev_pos (by omega) (ev_pos (by omega) (implSum_l0 h.1 h.2 x.length _ 0 0 (by omega) (by rw [List.length_replicate]; omega) (mil_rep _) (by omega))))
theorem specSum_ev (x y : List Int) (hx : x.length ≤ 1000) (hy : y.length ≤ 1000) : Ev (fun k => spec_SumOf.f k x y) (sumAns x y) := by
  unfold spec_SumOf.f
  refine ask_ev (g := fun x k => spec_l5Good.f k x) (no := ([], false)) (specDist_ev x (by omega)) (specDist_ev y (by omega)) ?_ (fun h => ?_) fun h => (if_neg h).symm
  · refine ev_succ ?_
    simp only [spec_SumOf.j0]
    exact ev_pos trivial (ev_some _)
  · have h1 := h.1.1
    have h2 := h.2.1
    have e : sumAns x y = fin (sumOf x y) := if_pos h
    rw [e]
    refine ev_succ ?_
    simp only [spec_SumOf.j0]
    rw [wid (x := (x.length : Int) + (y.length : Int)) (by omega) (by omega), wid (by omega) (by omega), show ((x.length : Int) + (y.length : Int) - 1).toNat = x.length + y.length - 1 by omega]
    exact ev_neg (by simp) (ev_pos (by omega) (ev_pos (by omega) (specSum_l0 h.1 h.2 x.length _ 0 0 (by omega) (by rw [List.length_replicate]; omega) (mil_rep _) (by omega))))
/-! What the law asks. -/
/-- Of a smaller demand no more is ordered. -/
theorem more_crit {x y : List Int} (hx : DistOk x) (hy : DistOk y) (h : MoreP x y 0) {o u p q : Int} (ho : 0 ≤ o) (hu : 0 ≤ u) (hp : Crit x o u p) (hq : Crit y o u q) : q ≤ p := by
  refine Int.not_lt.1 fun c => ?_
  have l := hx.1
  have h1 := hq.2.2.2 p hp.1 c
  have h2 := hp.2.2.1
  have h3 := h p.toNat (by omega) (by have := hp.2.1; omega)
  rw [Int.toNat_of_nonneg hp.1] at h3
  have t1 := tot_le hx
  have t2 := tot_le hy
  have a1 := Int.mul_le_mul_of_nonneg_right h2 (show 0 ≤ y.sum by omega)
  have a2 := Int.mul_lt_mul_of_pos_right h1 t1.1
  have a3 := Int.mul_le_mul_of_nonneg_left h3 (show 0 ≤ o + u by omega)
  rw [← Int.mul_assoc, ← Int.mul_assoc] at a3
  rw [Int.mul_assoc u, Int.mul_comm x.sum y.sum, ← Int.mul_assoc u] at a1
  omega
/-- A wider demand costs more. -/
theorem wide_cost {x y : List Int} (hx : DistOk x) (hy : DistOk y) (h : Wide x y) {o u p q : Int} (ho : 0 ≤ o) (hu : 0 ≤ u) (hp : Crit x o u p) (hq : Crit y o u q) : costN y o u q * x.sum ≤ costN x o u p * y.sum := by
  have l := hx.1
  have t1 := tot_le hx
  have h1 := crit_best hy ho hu hq p hp.1
  have h2 := h.2 p.toNat (by omega) (by have := hp.2.1; omega)
  rw [Int.toNat_of_nonneg hp.1] at h2
  have h3 := Int.mul_le_mul_of_nonneg_right h1 (show 0 ≤ x.sum by omega)
  refine Int.le_trans h3 ?_
  have e1 := over_short hx p
  have e2 := over_short hy p
  have m := h.1
  have a3 := Int.mul_le_mul_of_nonneg_left h2 (show 0 ≤ o + u by omega)
  unfold costN
  rw [show overN x p = shortN x p + (p * x.sum - meanN x) by omega, show overN y p = shortN y p + (p * y.sum - meanN y) by omega]
  have e3 : (o * (shortN x p + (p * x.sum - meanN x)) + u * shortN x p) * y.sum = (o + u) * (shortN x p * y.sum) + o * (p * x.sum * y.sum - meanN x * y.sum) := by grind
  have e4 : (o * (shortN y p + (p * y.sum - meanN y)) + u * shortN y p) * x.sum = (o + u) * (shortN y p * x.sum) + o * (p * x.sum * y.sum - meanN y * x.sum) := by grind
  rw [e3, e4, m]
  omega
theorem pos_add (a b c e : Int) : pos (a + b - (c + e)) ≤ pos (a - c) + pos (b - e) := by
  unfold pos
  repeat' split
  all_goals omega
theorem wsum_nest_add {x y : List Int} (f g : Int → Int) : wsum x (fun i => wsum y (fun j => f i + g j) y.length) x.length = wsum x f x.length * y.sum + wsum y g y.length * x.sum := by
  have e : ∀ i : Int, wsum y (fun j => f i + g j) y.length = y.sum * f i + wsum y g y.length * 1 := fun i => by
    rw [wsum_add y (fun _ => f i) g, tot_one y]
    rw [show (fun _ : Int => f i) = (fun d => f i * (fun _ => 1) d) by funext d; simp, wsum_mul, Int.mul_comm (f i), Int.mul_one]
  rw [wsum_congr (g := fun i => y.sum * f i + wsum y g y.length * 1) x.length fun i _ => e i, wsum_add x (fun i => y.sum * f i) (fun _ => wsum y g y.length * 1), wsum_mul, wsum_mul x (fun _ => 1), ← tot_one x, Int.mul_comm y.sum]
theorem nest_mono {x y : List Int} (hx : DistOk x) (hy : DistOk y) {f g : Int → Int → Int} (h : ∀ i j, f i j ≤ g i j) : wsum x (fun i => wsum y (f i) y.length) x.length ≤ wsum x (fun i => wsum y (g i) y.length) x.length :=
  wsum_mono (fun i hi => (dist_rd hx i hi).1) _ (Nat.le_refl _) fun i _ => wsum_mono (fun i hi => (dist_rd hy i hi).1) _ (Nat.le_refl _) fun j _ => h _ _
/-- Demands pooled cost no more than apart. -/
theorem sum_cost {x y z : List Int} (hx : DistOk x) (hy : DistOk y) (hz : DistOk z) (hS : ∀ f : Int → Int, wsum z f z.length = wsum x (fun i => wsum y (fun j => f (i + j)) y.length) x.length)
    {o u p q r : Int} (ho : 0 ≤ o) (hu : 0 ≤ u) (hp : Crit x o u p) (hq : Crit y o u q) (hr : Crit z o u r) : costN z o u r ≤ costN x o u p * y.sum + costN y o u q * x.sum := by
  refine Int.le_trans (crit_best hz ho hu hr (p + q) (by have := hp.1; have := hq.1; omega)) ?_
  have h1 : overN z (p + q) ≤ overN x p * y.sum + overN y q * x.sum := by
    unfold overN
    rw [hS, ← wsum_nest_add]
    exact nest_mono hx hy fun i j => pos_add _ _ _ _
  have h2 : shortN z (p + q) ≤ shortN x p * y.sum + shortN y q * x.sum := by
    unfold shortN
    rw [hS, ← wsum_nest_add]
    exact nest_mono hx hy fun i j => pos_add _ _ _ _
  have h3 := Int.mul_le_mul_of_nonneg_left h1 ho
  have h4 := Int.mul_le_mul_of_nonneg_left h2 hu
  unfold costN
  have e : (o * overN x p + u * shortN x p) * y.sum + (o * overN y q + u * shortN y q) * x.sum = o * (overN x p * y.sum + overN y q * x.sum) + u * (shortN x p * y.sum + shortN y q * x.sum) := by grind
  rw [e]
  omega
theorem sum_mean {x y z : List Int} (hS : ∀ f : Int → Int, wsum z f z.length = wsum x (fun i => wsum y (fun j => f (i + j)) y.length) x.length) : meanN z = meanN x * y.sum + meanN y * x.sum := by
  unfold meanN
  rw [hS, ← wsum_nest_add]
theorem sum_tot {x y z : List Int} (hS : ∀ f : Int → Int, wsum z f z.length = wsum x (fun i => wsum y (fun j => f (i + j)) y.length) x.length) : z.sum = x.sum * y.sum := by
  rw [tot_one z, hS]
  rw [← tot_one y, show (fun _ : Int => y.sum) = (fun d => y.sum * (fun _ => 1) d) by funext d; simp, wsum_mul, ← tot_one x, Int.mul_comm]
/-! The law. -/
theorem vAdd_l0 (xs : List Int) (hn : xs.length ≤ 35184372088832) (hs : ∀ i, -9223372036854775808 ≤ (xs.take i).sum ∧ (xs.take i).sum ≤ 9223372036854775807) (d : Nat) : ∀ (i : Nat), i + d = xs.length →
    Ev (fun k => laws_vAdd.l0 k xs (xs.take i).sum (i : Int)) xs.sum := by
  induction d with
  | zero =>
    intro i hi
    refine ev_succ ?_
    simp only [laws_vAdd.l0]
    refine ev_neg (by omega) ?_
    rw [List.take_of_length_le (by omega)]
    exact ev_some _
  | succ d ih =>
    intro i hi
    refine ev_succ ?_
    simp only [laws_vAdd.l0]
    refine ev_pos (by omega) (ev_pos (by omega) ?_)
    have hw : wrap64 ((i : Int) + 1) = ((i + 1 : Nat) : Int) := by rw [wid (by omega) (by omega)]; omega
    have ht := take_sum_succ xs i (by omega)
    rw [hw, ht, wid (hs _).1 (hs _).2]
    exact ih (i + 1) (by omega)
theorem vAdd_ev {w : List Int} (hD : DistOk w) : Ev (fun k => laws_vAdd.f k w) w.sum := by
  unfold laws_vAdd.f
  exact vAdd_l0 w (by have := hD.1; omega) (sum64 hD) w.length 0 (by omega)
theorem vAt_ok {code : List Int} (hc : CodeOk code) (hl : code.length ≤ 65536) (i : Nat) (hi : i ≤ 1000) : ∃ r, laws_vAt.f code (i : Int) = some r ∧ 0 ≤ Int.tmod r 7 ∧ Int.tmod r 7 ≤ 6 := by
  unfold laws_vAt.f
  have m : ∀ r : Int, 0 ≤ r → 0 ≤ Int.tmod r 7 ∧ Int.tmod r 7 ≤ 6 := fun r h => by
    rw [Int.tmod_eq_emod_of_nonneg h]
    omega
  by_cases c : (i : Int) < (code.length : Int)
  · have b := rd_in hc i (by omega)
    rw [if_pos c, if_pos (by omega)]
    refine ⟨_, rfl, m _ ?_⟩
    rw [wid (by omega) (by omega)]
    exact b.1
  · rw [if_neg c]
    refine ⟨_, rfl, m _ ?_⟩
    rw [wid (x := (i : Int) * 7) (by omega) (by omega), wid (by omega) (by omega), Int.tmod_eq_emod_of_nonneg (by omega)]
    omega
theorem best_ev {w : List Int} {o u q : Int} (hD : DistOk w) (hc : ChOk o u) (h : Crit w o u q) : Ev (fun k => laws_vBestSum.f k w o u) (costN w o u q) := by
  have hl := hD.1
  have := h.2.1
  unfold laws_vBestSum.f
  exact ev_bind (implCrit_yes hD hc h) (ev_bind (costSum_ev hD hc ⟨h.1, by omega⟩) (ev_some _))
/-- What the law's loop knows. -/
structure Known (x3 x4 : List Int) (x5 : Bool) (x9 x10 : List Int) (x11 : Bool) (x15 x16 x17 : List Int) (x18 : Bool) : Prop where
  more : x5 = true → DistOk x3 ∧ DistOk x4 ∧ MoreP x3 x4 0
  wide : x11 = true → DistOk x9 ∧ DistOk x10 ∧ Wide x9 x10
  sums : x18 = true → DistOk x15 ∧ DistOk x16 ∧ DistOk x17 ∧ ∀ f : Int → Int, wsum x17 f x17.length = wsum x15 (fun i => wsum x16 (fun j => f (i + j)) x16.length) x15.length
theorem law_l0 {code : List Int} (hc : CodeOk code) (hl : code.length ≤ 65536) {x3 x4 : List Int} {x5 : Bool} {x9 x10 : List Int} {x11 : Bool} {x15 x16 x17 : List Int} {x18 : Bool} (K : Known x3 x4 x5 x9 x10 x11 x15 x16 x17 x18) (d : Nat) :
    ∀ t : Nat, t + d = 7 → Ev (fun k => laws_FnDistributions.l0 k code x3 x4 x5 x9 x10 x11 x15 x16 x17 x18 (t : Int)) true := by
  induction d with
  | zero =>
    intro t ht
    refine ev_succ ?_
    simp only [laws_FnDistributions.l0]
    refine ev_neg (by omega) ?_
    by_cases c : x18 = true
    · obtain ⟨h1, h2, h3, h4⟩ := K.sums c
      have e1 := sum_mean h4
      have e2 := sum_tot h4
      have b1 := me_mul h1 h2
      have b2 := me_mul h2 h1
      have t1 := tot_le h1
      have t2 := tot_le h2
      have b3 := mulb (show 0 ≤ x15.sum by omega) t1.2 (show 0 ≤ x16.sum by omega) t2.2
      refine ev_pos c (ev_bind (meanSum_ev h3) (ev_bind (meanSum_ev h1) (ev_bind (meanSum_ev h2) (ev_pos rfl (ev_bind (vAdd_ev h2) (ev_bind (vAdd_ev h1) ?_))))))
      rw [wid (x := meanN x15 * x16.sum) (by omega) (by omega), wid (x := meanN x16 * x15.sum) (by omega) (by omega), wid (by omega) (by omega)]
      refine ev_pos e1 (ev_bind (vAdd_ev h3) (ev_bind (vAdd_ev h1) (ev_bind (vAdd_ev h2) (ev_cast (ev_some _) ?_))))
      rw [wid (x := x15.sum * x16.sum) (by omega) (by omega), e2]
      simp
    · exact ev_neg c (ev_some _)
  | succ d ih =>
    intro t ht
    have z := ih (t + 1) (by omega)
    obtain ⟨r, er, r0, r1⟩ := vAt_ok hc hl t (by omega)
    have hch : ChOk (Int.tmod r 7) (t : Int) := ⟨by omega, by omega⟩
    have hw : wrap64 ((t : Int) + 1) = ((t + 1 : Nat) : Int) := by rw [wid (by omega) (by omega)]; omega
    have j3 : Ev (fun k => laws_FnDistributions.j3 k code x3 x4 x5 x9 x10 x11 x15 x16 x17 x18 (t : Int) (Int.tmod r 7) false) true := by
      refine ev_succ ?_
      simp only [laws_FnDistributions.j3]
      rw [hw]
      refine ev_neg (by simp) ?_
      by_cases c : x18 = true
      · obtain ⟨h1, h2, h3, h4⟩ := K.sums c
        obtain ⟨p, hp⟩ := crit_ex h1 hch.1.1 hch.2.1
        obtain ⟨q, hq⟩ := crit_ex h2 hch.1.1 hch.2.1
        obtain ⟨s, hs⟩ := crit_ex h3 hch.1.1 hch.2.1
        have hle := sum_cost h1 h2 h3 h4 hch.1.1 hch.2.1 hp hq hs
        have l1 := h1.1
        have l2 := h2.1
        have t1 := tot_le h1
        have t2 := tot_le h2
        have c1 := cost_in h1 hch.1 hch.2 (q := p) (by have := hp.1; have := hp.2.1; omega)
        have c2 := cost_in h2 hch.1 hch.2 (q := q) (by have := hq.1; have := hq.2.1; omega)
        have b1 := mulb c1.1 c1.2 (show 0 ≤ x16.sum by omega) t2.2
        have b2 := mulb c2.1 c2.2 (show 0 ≤ x15.sum by omega) t1.2
        refine ev_pos c (ev_bind (best_ev h3 hch hs) (ev_bind (best_ev h1 hch hp) (ev_bind (vAdd_ev h2) (ev_bind (best_ev h2 hch hq) (ev_bind (vAdd_ev h1) ?_)))))
        rw [wid (x := costN x15 _ _ p * x16.sum) (by omega) (by omega), wid (x := costN x16 _ _ q * x15.sum) (by omega) (by omega), wid (by omega) (by omega)]
        exact ev_neg (by omega) z
      · exact ev_neg c z
    have j2 : Ev (fun k => laws_FnDistributions.j2 k code x3 x4 x5 x9 x10 x11 x15 x16 x17 x18 (t : Int) (Int.tmod r 7)) true := by
      refine ev_succ ?_
      simp only [laws_FnDistributions.j2]
      by_cases c : x11 = true
      · obtain ⟨h1, h2, h3⟩ := K.wide c
        obtain ⟨p, hp⟩ := crit_ex h1 hch.1.1 hch.2.1
        obtain ⟨q, hq⟩ := crit_ex h2 hch.1.1 hch.2.1
        have hle := wide_cost h1 h2 h3 hch.1.1 hch.2.1 hp hq
        have l1 := h1.1
        have l2 := h2.1
        have t1 := tot_le h1
        have t2 := tot_le h2
        have c1 := cost_in h1 hch.1 hch.2 (q := p) (by have := hp.1; have := hp.2.1; omega)
        have c2 := cost_in h2 hch.1 hch.2 (q := q) (by have := hq.1; have := hq.2.1; omega)
        have b1 := mulb c1.1 c1.2 (show 0 ≤ x10.sum by omega) t2.2
        have b2 := mulb c2.1 c2.2 (show 0 ≤ x9.sum by omega) t1.2
        refine ev_pos c (ev_bind (best_ev h1 hch hp) (ev_bind (vAdd_ev h2) (ev_bind (best_ev h2 hch hq) (ev_bind (vAdd_ev h1) ?_))))
        rw [wid (x := costN x9 _ _ p * x10.sum) (by omega) (by omega), wid (x := costN x10 _ _ q * x9.sum) (by omega) (by omega), decide_eq_false (by omega)]
        exact j3
      · exact ev_neg c j3
    refine ev_succ ?_
    simp only [laws_FnDistributions.l0, er, Option.bind_some]
    refine ev_pos (by omega) ?_
    by_cases c : x5 = true
    · obtain ⟨h1, h2, h3⟩ := K.more c
      obtain ⟨p, hp⟩ := crit_ex h1 hch.1.1 hch.2.1
      obtain ⟨q, hq⟩ := crit_ex h2 hch.1.1 hch.2.1
      have hle := more_crit h1 h2 h3 hch.1.1 hch.2.1 hp hq
      exact ev_pos c (ev_bind (implCrit_yes h1 hch hp) (ev_bind (implCrit_yes h2 hch hq) (ev_neg (by show ¬ p < q; omega) j2)))
    · exact ev_neg c j2
theorem own_ev (w : List Int) (h : w.length ≤ 17) : spec_l1Own.f w = some w := by
  unfold spec_l1Own.f
  simp only [Option.bind_some, List.length_nil, List.nil_append]
  rw [if_pos (by omega)]
theorem drawMore_ok {code : List Int} (hc : CodeOk code) : ∃ x y, Ev (fun k => spec_DrawIsMore.f k code) (x, y) ∧ x.length ≤ 18 ∧ y.length ≤ 18 := by
  obtain ⟨w, t1, s1, e1, l1, a1, b1⟩ := chances_ok hc 0 0 (by omega) (by omega)
  obtain ⟨o, t2, s2, e2, a2, b2⟩ := one_ok hc t1 s1 2 (by omega) (by omega) (by omega)
  obtain ⟨i, t3, s3, e3, c3, d3, a3, b3⟩ := pick_ok hc t2 s2 ((w.length : Int) + 1) (by omega) (by omega) (by omega)
  have d3 := d3 (by omega)
  have f3 : w.length ≤ 18 := by omega
  have f4 : ([0] ++ w).length ≤ 18 := by rw [List.length_append]; simp only [List.length_cons, List.length_nil]; omega
  have f5 : ([0] : List Int).length + w.length < 17592186044416 := by simp only [List.length_cons, List.length_nil]; omega
  have hi : wrap64 (i + 1) = i + 1 := wid (by omega) (by omega)
  have f1 : 0 ≤ wrap64 (i + 1) := by rw [hi]; omega
  have f2 : wrap64 (i + 1) < (w.length : Int) → i < (w.length : Int) := fun h => by rw [hi] at h; omega
  rw [← wid (x := (w.length : Int) + 1) (by omega) (by omega)] at e3
  unfold spec_DrawIsMore.f spec_newCur.f
  clear a1 b1 a2 b2 a3 b3 d3 hi
  by_cases c : o = true
  · exact ⟨[0] ++ w, w, ev_bind (ev_some _) (ev_bind e1 (ev_bind (ev_of_eq fun _ => e2) (ev_pos c (ev_bind (ev_some _) (ev_pos f5 (ev_some _)))))), f4, f3⟩
  by_cases c1 : wrap64 (i + 1) < (w.length : Int)
  · by_cases c2 : rd w i > 0
    · by_cases c4 : rd w i < 1000
      · refine ⟨_, w, ev_bind (ev_some _) (ev_bind e1 (ev_bind (ev_of_eq fun _ => e2) (ev_neg c (ev_bind (ev_of_eq fun _ => own_ev w l1) (ev_bind (ev_of_eq fun _ => e3) (ev_pos c1 (ev_pos c3 (ev_pos (f2 c1) (ev_pos c2 (ev_pos c4 (ev_bind (ev_some _) (ev_pos f1 (ev_some _))))))))))))), ?_, f3⟩
        rw [List.length_set, List.length_set]; exact f3
      · exact ⟨w, w, ev_bind (ev_some _) (ev_bind e1 (ev_bind (ev_of_eq fun _ => e2) (ev_neg c (ev_bind (ev_of_eq fun _ => own_ev w l1) (ev_bind (ev_of_eq fun _ => e3) (ev_pos c1 (ev_pos c3 (ev_pos (f2 c1) (ev_pos c2 (ev_neg c4 (ev_some _))))))))))), f3, f3⟩
    · exact ⟨w, w, ev_bind (ev_some _) (ev_bind e1 (ev_bind (ev_of_eq fun _ => e2) (ev_neg c (ev_bind (ev_of_eq fun _ => own_ev w l1) (ev_bind (ev_of_eq fun _ => e3) (ev_pos c1 (ev_pos c3 (ev_pos (f2 c1) (ev_neg c2 (ev_some _)))))))))), f3, f3⟩
  · exact ⟨w, w, ev_bind (ev_some _) (ev_bind e1 (ev_bind (ev_of_eq fun _ => e2) (ev_neg c (ev_bind (ev_of_eq fun _ => own_ev w l1) (ev_bind (ev_of_eq fun _ => e3) (ev_neg c1 (ev_some _))))))), f3, f3⟩
theorem drawWide_ok {code : List Int} (hc : CodeOk code) : ∃ x y, Ev (fun k => spec_DrawIsWider.f k code) (x, y) ∧ x.length ≤ 18 ∧ y.length ≤ 18 := by
  obtain ⟨w, t1, s1, e1, l1, a1, b1⟩ := chances_ok hc 0 0 (by omega) (by omega)
  obtain ⟨i, t2, s2, e2, c2, d2, a2, b2⟩ := pick_ok hc t1 s1 ((w.length : Int) + 1) (by omega) (by omega) (by omega)
  obtain ⟨n, t3, s3, e3, c3, d3, a3, b3⟩ := pick_ok hc t2 s2 6 (by omega) (by omega) (by omega)
  have d2 := d2 (by omega)
  have f3 : w.length ≤ 18 := by omega
  have hi : wrap64 (1 + i) = 1 + i := wid (by omega) (by omega)
  have hi2 : wrap64 (wrap64 (1 + i) + 1) = 1 + i + 1 := by rw [hi]; exact wid (by omega) (by omega)
  have hi3 : wrap64 (wrap64 (1 + i) - 1) = 1 + i - 1 := by rw [hi]; exact wid (by omega) (by omega)
  have f1 : 0 ≤ wrap64 (1 + i) := by rw [hi]; omega
  have f2 : wrap64 (wrap64 (1 + i) + 1) < (w.length : Int) → wrap64 (1 + i) < (w.length : Int) := fun h => by rw [hi2] at h; rw [hi]; omega
  have f4 : 0 ≤ wrap64 (wrap64 (1 + i) - 1) := by rw [hi3]; omega
  have f5 : wrap64 (wrap64 (1 + i) + 1) < (w.length : Int) → wrap64 (wrap64 (1 + i) - 1) < (w.length : Int) := fun h => by rw [hi2] at h; rw [hi3]; omega
  have f6 : 0 ≤ wrap64 (wrap64 (1 + i) + 1) := by rw [hi2]; omega
  rw [← wid (x := (w.length : Int) + 1) (by omega) (by omega)] at e2
  unfold spec_DrawIsWider.f spec_newCur.f
  clear a1 b1 a2 b2 a3 b3 d3 d2 c2 c3 hi hi2 hi3
  by_cases c1 : wrap64 (wrap64 (1 + i) + 1) < (w.length : Int)
  · by_cases c4 : rd w (wrap64 (1 + i)) > 1
    · by_cases c5 : rd w (wrap64 (1 + i)) < 1000
      · by_cases c6 : n > 0
        · refine ⟨_, w, ev_bind (ev_some _) (ev_bind e1 (ev_bind (ev_of_eq fun _ => own_ev w l1) (ev_bind (ev_of_eq fun _ => e2) (ev_pos c1 (ev_pos f1 (ev_pos (f2 c1) (ev_pos c4 (ev_pos c5 (ev_bind (ev_of_eq fun _ => e3) (ev_pos c6 (ev_bind (ev_some _) (ev_pos f4 (ev_pos (f5 c1) (ev_bind (ev_some _) (ev_pos f6 (ev_some _)))))))))))))))), ?_, f3⟩
          rw [List.length_set, List.length_set, List.length_set]; exact f3
        · exact ⟨w, w, ev_bind (ev_some _) (ev_bind e1 (ev_bind (ev_of_eq fun _ => own_ev w l1) (ev_bind (ev_of_eq fun _ => e2) (ev_pos c1 (ev_pos f1 (ev_pos (f2 c1) (ev_pos c4 (ev_pos c5 (ev_bind (ev_of_eq fun _ => e3) (ev_neg c6 (ev_some _))))))))))), f3, f3⟩
      · exact ⟨w, w, ev_bind (ev_some _) (ev_bind e1 (ev_bind (ev_of_eq fun _ => own_ev w l1) (ev_bind (ev_of_eq fun _ => e2) (ev_pos c1 (ev_pos f1 (ev_pos (f2 c1) (ev_pos c4 (ev_neg c5 (ev_some _))))))))), f3, f3⟩
    · exact ⟨w, w, ev_bind (ev_some _) (ev_bind e1 (ev_bind (ev_of_eq fun _ => own_ev w l1) (ev_bind (ev_of_eq fun _ => e2) (ev_pos c1 (ev_pos f1 (ev_pos (f2 c1) (ev_neg c4 (ev_some _)))))))), f3, f3⟩
  · exact ⟨w, w, ev_bind (ev_some _) (ev_bind e1 (ev_bind (ev_of_eq fun _ => own_ev w l1) (ev_bind (ev_of_eq fun _ => e2) (ev_neg c1 (ev_some _))))), f3, f3⟩
theorem drawSum_ok {code : List Int} (hc : CodeOk code) : ∃ x y, Ev (fun k => spec_DrawSumOf.f k code) (x, y) ∧ x.length ≤ 18 ∧ y.length ≤ 18 := by
  obtain ⟨w, t1, s1, e1, l1, a1, b1⟩ := chances_ok hc 0 0 (by omega) (by omega)
  obtain ⟨v, t2, s2, e2, l2, a2, b2⟩ := chances_ok hc t1 s1 (by omega) (by omega)
  refine ⟨w, v, ?_, by omega, by omega⟩
  unfold spec_DrawSumOf.f spec_newCur.f
  simp only [Option.bind_some]
  exact ev_bind e1 (ev_bind e2 (ev_some _))
theorem FnDistributions (l0 : List Int) (hl0 : l0.length ≤ maxLen) (hw0 : ∀ x ∈ l0, (Lit.int .u8 x).wf = true) : ∃ k, laws_FnDistributions.f k l0 = some true := by
  refine Ev.rounds ?_
  unfold laws_FnDistributions.f laws_vBig.f
  simp only [Option.bind_some]
  by_cases big : (l0.length : Int) > 65536
  · exact ev_pos (decide_eq_true big) (ev_some _)
  refine ev_neg (by rw [decide_eq_true_eq]; exact big) ?_
  have hc := codeOk_of hw0
  obtain ⟨c1, hv1, hc1⟩ := vcut_ok hc (by omega) 1 (by omega) (by omega)
  obtain ⟨c2, hv2, hc2⟩ := vcut_ok hc (by omega) 2 (by omega) (by omega)
  obtain ⟨x3, x4, d1, a1, b1⟩ := drawMore_ok hc
  obtain ⟨x9, x10, d2, a2, b2⟩ := drawWide_ok hc1
  obtain ⟨x15, x16, d3, a3, b3⟩ := drawSum_ok hc2
  simp only [hv1, hv2, Option.bind_some]
  have hlen : (sumAns x15 x16).1.length ≤ 1000000 := by
    unfold sumAns fin
    repeat' split
    · show (sumOf x15 x16).length ≤ 1000000
      rw [sumOf_len]; omega
    all_goals simp
  refine ev_bind d1 (ev_bind (implMore_ev x3 x4 (by omega) (by omega)) (ev_bind (specMore_ev x3 x4 (by omega) (by omega)) (ev_bind d2 (ev_bind (implWide_ev x9 x10 (by omega) (by omega)) (ev_bind (specWide_ev x9 x10 (by omega) (by omega)) (ev_bind d3 (ev_bind (implSum_ev x15 x16 (by omega) (by omega)) (ev_bind (specSum_ev x15 x16 (by omega) (by omega))
    (ev_neg (by simp) (ev_neg (by simp) (ev_neg (by simp) (ev_neg (by simp) (ev_neg (by simp) (ev_bind (vInts_ev _ hlen) (ev_succ ?_)))))))))))))))
  simp only [laws_FnDistributions.j0]
  refine ev_neg (by simp) (law_l0 hc (by omega) ⟨fun h => ?_, fun h => ?_, fun h => ?_⟩ 7 0 (by omega))
  · unfold moreAns at h
    split at h
    · rename_i c
      exact ⟨c.1, c.2, by simpa using h⟩
    · simp at h
  · unfold wideAns at h
    split at h
    · rename_i c
      exact ⟨c.1, c.2, by simpa using h⟩
    · simp at h
  · unfold sumAns fin at h ⊢
    split at h
    · rename_i c
      rw [if_pos c]
      split at h
      · rename_i e
        rw [if_pos e]
        exact ⟨c.1, c.2, e, sumOf_sum (by have := c.1.1; omega)⟩
      · simp at h
    · simp at h

end Go.Proofs.Ytecciinjpimmmaa.Pure
