/- What FnTriggers asks holds for every code: the program's levels and trigger are the reference's, below the trigger level the stock is raised to one level, and above it never. No conditions. -/
import Derived.Test.YtcohbmibpcgfaaaKit
import Derived.Test.YtcohbmibpcgfaaaXFnTriggersx5
namespace Go.Proofs.Ytcohbmibpcgfaaa.Pure
set_option linter.unusedVariables false
open Go.RowKit Go.Proofs.Ytcohbmibpcgfaaa.PFnTriggers Go.Proofs.YtcohbmibpcgfaaaW.PrintWords Go.Proofs.YtcohbmibpcgfaaaW.PrintLast Go.Proofs.Ytcohbmibpcgfaaa.Kit

theorem in_eq (a b c : Int) : spec_l1In.f a b c = some (decide (b ≤ a ∧ a ≤ c)) := by
  unfold spec_l1In.f
  by_cases h : b ≤ a <;> simp [h]
theorem within_eq (a b c : Int) : impl_within.f a b c = some (decide (b ≤ a ∧ a ≤ c)) := by
  unfold impl_within.f
  by_cases h : b ≤ a <;> simp [h]
theorem allWithin_l0 (lo up : Int) (xs : List Int) (hn : xs.length ≤ 35184372088832) (d : Nat) : ∀ (i : Nat), i + d = xs.length →
    Ev (fun k => impl_allWithin.l0 k lo up xs (xs.length : Int) (i : Int)) (decide (∀ x ∈ xs.drop i, lo ≤ x ∧ x ≤ up)) := by
  induction d with
  | zero =>
    intro i hi
    refine ev_succ ?_
    simp only [impl_allWithin.l0]
    refine ev_neg (by omega) ?_
    rw [List.drop_of_length_le (by omega)]
    exact ev_cast (ev_some true) (by simp)
  | succ d ih =>
    intro i hi
    refine ev_succ ?_
    simp only [impl_allWithin.l0, within_eq, Option.bind_some]
    refine ev_pos (by omega) (ev_pos (by omega) (ev_pos (by omega) ?_))
    have hw : wrap64 ((i : Int) + 1) = ((i + 1 : Nat) : Int) := by rw [wid (by omega) (by omega)]; omega
    rw [hw, drop_rd xs i (by omega)]
    by_cases h : lo ≤ rd xs i ∧ rd xs i ≤ up
    · refine ev_pos (by simpa using h) (ev_cast (ih (i + 1) (by omega)) ?_)
      simp [h]
    · refine ev_neg (by simpa using h) (ev_cast (ev_some false) ?_)
      symm
      simp only [decide_eq_false_iff_not, List.mem_cons]
      exact fun hh => h (hh _ (Or.inl rfl))
theorem allWithin_ev (xs : List Int) (lo hi : Int) (hn : xs.length ≤ 35184372088832) : Ev (fun k => impl_allWithin.f k xs lo hi) (decide (∀ x ∈ xs, lo ≤ x ∧ x ≤ hi)) := by
  unfold impl_allWithin.f
  exact allWithin_l0 lo hi xs hn xs.length 0 (by omega)
theorem l2Row_l0 (n up : Int) (xs : List Int) (hn : xs.length ≤ 35184372088832) (d : Nat) : ∀ (i : Nat), i + d = xs.length →
    Ev (fun k => spec_l2Row.l0 k xs n up (i : Int)) (decide ((∀ x ∈ xs.drop i, 0 ≤ x ∧ x ≤ up) ∧ (xs.length : Int) = n)) := by
  induction d with
  | zero =>
    intro i hi
    refine ev_succ ?_
    simp only [spec_l2Row.l0]
    refine ev_neg (by omega) ?_
    rw [List.drop_of_length_le (by omega)]
    refine ev_cast (ev_some _) ?_
    rw [Bool.eq_iff_iff]
    simp
  | succ d ih =>
    intro i hi
    refine ev_succ ?_
    simp only [spec_l2Row.l0, in_eq, Option.bind_some]
    refine ev_pos (by omega) (ev_pos (by omega) ?_)
    have hw : wrap64 ((i : Int) + 1) = ((i + 1 : Nat) : Int) := by rw [wid (by omega) (by omega)]; omega
    rw [hw, drop_rd xs i (by omega)]
    by_cases h : 0 ≤ rd xs i ∧ rd xs i ≤ up
    · refine ev_pos (by simpa using h) (ev_cast (ih (i + 1) (by omega)) ?_)
      simp [h]
    · refine ev_neg (by simpa using h) (ev_cast (ev_some false) ?_)
      symm
      simp only [decide_eq_false_iff_not, List.mem_cons]
      exact fun hh => h (hh.1 _ (Or.inl rfl))
theorem l2Row_ev (xs : List Int) (n up : Int) (hn : xs.length ≤ 35184372088832) : Ev (fun k => spec_l2Row.f k xs n up) (decide ((∀ x ∈ xs, 0 ≤ x ∧ x ≤ up) ∧ (xs.length : Int) = n)) := by
  unfold spec_l2Row.f
  exact l2Row_l0 n up xs hn xs.length 0 (by omega)
theorem total_l0 (xs : List Int) (hn : xs.length ≤ 35184372088832) (hs : ∀ i, -9223372036854775808 ≤ (xs.take i).sum ∧ (xs.take i).sum ≤ 9223372036854775807) (d : Nat) : ∀ (i : Nat), i + d = xs.length →
    Ev (fun k => impl_total.l0 k (xs.take i).sum xs (xs.length : Int) (i : Int)) xs.sum := by
  induction d with
  | zero =>
    intro i hi
    refine ev_succ ?_
    simp only [impl_total.l0]
    refine ev_neg (by omega) ?_
    rw [List.take_of_length_le (by omega)]
    exact ev_some _
  | succ d ih =>
    intro i hi
    refine ev_succ ?_
    simp only [impl_total.l0]
    refine ev_pos (by omega) (ev_pos (by omega) (ev_pos (by omega) ?_))
    have hw : wrap64 ((i : Int) + 1) = ((i + 1 : Nat) : Int) := by rw [wid (by omega) (by omega)]; omega
    have ht := take_sum_succ xs i (by omega)
    rw [hw, ht, wid (hs _).1 (hs _).2]
    exact ih (i + 1) (by omega)
theorem total_ev (xs : List Int) (hn : xs.length ≤ 35184372088832) (hs : ∀ i, -9223372036854775808 ≤ (xs.take i).sum ∧ (xs.take i).sum ≤ 9223372036854775807) : Ev (fun k => impl_total.f k xs) xs.sum := by
  unfold impl_total.f
  exact total_l0 xs hn hs xs.length 0 (by omega)
theorem l2Sum_l0 (xs : List Int) (hn : xs.length ≤ 35184372088832) (hs : ∀ i, -9223372036854775808 ≤ (xs.take i).sum ∧ (xs.take i).sum ≤ 9223372036854775807) (d : Nat) : ∀ (i : Nat), i + d = xs.length →
    Ev (fun k => spec_l2Sum.l0 k xs (xs.take i).sum (i : Int)) xs.sum := by
  induction d with
  | zero =>
    intro i hi
    refine ev_succ ?_
    simp only [spec_l2Sum.l0]
    refine ev_neg (by omega) ?_
    rw [List.take_of_length_le (by omega)]
    exact ev_some _
  | succ d ih =>
    intro i hi
    refine ev_succ ?_
    simp only [spec_l2Sum.l0]
    refine ev_pos (by omega) (ev_pos (by omega) ?_)
    have hw : wrap64 ((i : Int) + 1) = ((i + 1 : Nat) : Int) := by rw [wid (by omega) (by omega)]; omega
    have ht := take_sum_succ xs i (by omega)
    rw [hw, ht, wid (hs _).1 (hs _).2]
    exact ih (i + 1) (by omega)
theorem l2Sum_ev (xs : List Int) (hn : xs.length ≤ 35184372088832) (hs : ∀ i, -9223372036854775808 ≤ (xs.take i).sum ∧ (xs.take i).sum ≤ 9223372036854775807) : Ev (fun k => spec_l2Sum.f k xs) xs.sum := by
  unfold spec_l2Sum.f
  exact l2Sum_l0 xs hn hs xs.length 0 (by omega)
theorem rd_in {xs : List Int} {lo up : Int} (h : ∀ x ∈ xs, lo ≤ x ∧ x ≤ up) (i : Nat) (hi : i < xs.length) : lo ≤ rd xs (i : Int) ∧ rd xs (i : Int) ≤ up := by
  rw [rd_nat xs i hi]
  exact h _ (List.getElem_mem _)
/-- A reader of draws: its bytes; each draw moves it on by two places at most. -/
def CodeOk (code : List Int) : Prop := ∀ x ∈ code, 0 ≤ x ∧ x ≤ 255
theorem codeOk_of {code : List Int} (h : ∀ x ∈ code, (Lit.int .u8 x).wf = true) : CodeOk code := fun x hx => by
  have := h x hx
  simp only [Lit.wf, Bool.and_eq_true, decide_eq_true_eq] at this
  exact this
theorem seed_low (x : Int) (h0 : 0 ≤ x) (h1 : x < 18446744073709551616) : Go.bits .and .u64 (x / 1099511627776) 255 = (x / 1099511627776) % 256 :=
  bits_mask .u64 24 (by decide) (fun n h0 h1 => by simp only [IntKind.wrap, IntKind.bits, IntKind.signed]; simp; omega) 8 (by decide) (x / 1099511627776) (by omega) (by omega)
theorem u64_in (x : Int) : 0 ≤ IntKind.u64.wrap x ∧ IntKind.u64.wrap x < 18446744073709551616 := by
  simp only [IntKind.wrap, IntKind.bits, IntKind.signed]
  simp
  omega
theorem next_ok {code : List Int} (hc : CodeOk code) (t s : Int) (h0 : 0 ≤ t) (h1 : t ≤ 1000000000000000) :
    ∃ b s', spec_l1Cur_next.f code t s = some (b, t + 1, s') ∧ 0 ≤ b ∧ b ≤ 255 := by
  unfold spec_l1Cur_next.f
  rw [wid (x := t + 1) (by omega) (by omega)]
  by_cases c : t < (code.length : Int)
  · have hb : 0 ≤ rd code t ∧ rd code t ≤ 255 := by
      obtain ⟨i, rfl⟩ := Int.eq_ofNat_of_zero_le h0
      rw [rd_nat code i (by omega)]
      exact hc _ (List.getElem_mem _)
    rw [if_pos c, if_pos h0, wid (x := rd code t) (by omega) (by omega)]
    by_cases c2 : t + 1 ≤ (code.length : Int)
    · rw [if_pos c2]
      exact ⟨_, _, rfl, hb.1, hb.2⟩
    · omega
  · rw [if_neg c]
    by_cases c2 : t + 1 ≤ (code.length : Int)
    · omega
    · rw [if_neg c2]
      have u := u64_in (IntKind.u64.wrap (IntKind.u64.wrap (s * 6364136223846793005) + 0) + 462197)
      generalize IntKind.u64.wrap (IntKind.u64.wrap (IntKind.u64.wrap (s * 6364136223846793005) + 0) + 462197) = v at u ⊢
      rw [seed_low v u.1 u.2, wid (by omega) (by omega)]
      exact ⟨_, _, rfl, by omega, by omega⟩
theorem pick_ok {code : List Int} (hc : CodeOk code) (t s n : Int) (h0 : 0 ≤ t) (h1 : t ≤ 900000000000000) (hn : n ≤ 65536) :
    ∃ r t' s', spec_l1Cur_pick.f code t s n = some (r, t', s') ∧ 0 ≤ r ∧ (1 ≤ n → r < n) ∧ t ≤ t' ∧ t' ≤ t + 2 := by
  unfold spec_l1Cur_pick.f
  by_cases c : n ≤ 1
  · rw [if_pos c]
    exact ⟨0, t, s, rfl, by omega, fun _ => by omega, by omega, by omega⟩
  · rw [if_neg c]
    obtain ⟨b, s1, e1, b0, b1⟩ := next_ok hc t s h0 (by omega)
    rw [e1]
    simp only [Option.bind_some]
    by_cases c2 : n > 200
    · obtain ⟨b2, s2, e2, q0, q1⟩ := next_ok hc (t + 1) s1 (by omega) (by omega)
      rw [if_pos c2, e2]
      simp only [Option.bind_some]
      rw [if_neg (by omega), wid (x := b * 256) (by omega) (by omega), wid (by omega) (by omega), Int.tmod_eq_emod_of_nonneg (by omega)]
      exact ⟨_, _, _, rfl, Int.emod_nonneg _ (by omega), fun _ => Int.emod_lt_of_pos _ (by omega), by omega, by omega⟩
    · rw [if_neg c2, if_neg (by omega), Int.tmod_eq_emod_of_nonneg (by omega)]
      exact ⟨_, _, _, rfl, Int.emod_nonneg _ (by omega), fun _ => Int.emod_lt_of_pos _ (by omega), by omega, by omega⟩
theorem among_ok {code : List Int} (hc : CodeOk code) (t s : Int) (l : List Int) (h0 : 0 ≤ t) (h1 : t ≤ 900000000000000) (hl : 0 < l.length) (hl2 : l.length ≤ 65536) :
    ∃ r t' s', spec_l1Cur_among.f code t s l = some (r, t', s') ∧ r ∈ l ∧ t ≤ t' ∧ t' ≤ t + 2 := by
  unfold spec_l1Cur_among.f
  obtain ⟨r, t', s', e, a, b, c, d⟩ := pick_ok hc t s (l.length : Int) h0 h1 (by omega)
  have b := b (by omega)
  rw [e]
  simp only [Option.bind_some]
  rw [if_pos a, if_pos b]
  obtain ⟨i, rfl⟩ := Int.eq_ofNat_of_zero_le a
  refine ⟨_, _, _, rfl, ?_, c, d⟩
  rw [rd_nat l i (by omega)]
  exact List.getElem_mem _
theorem one_ok {code : List Int} (hc : CodeOk code) (t s n : Int) (h0 : 0 ≤ t) (h1 : t ≤ 900000000000000) (hn : n ≤ 65536) :
    ∃ b t' s', spec_l1Cur_one.f code t s n = some (b, t', s') ∧ t ≤ t' ∧ t' ≤ t + 2 := by
  unfold spec_l1Cur_one.f
  obtain ⟨r, t', s', e, _, _, c, d⟩ := pick_ok hc t s n h0 h1 hn
  simp only [e, Option.bind_some]
  exact ⟨_, _, _, rfl, c, d⟩
theorem vcut_ok {code : List Int} (hc : CodeOk code) (hl : code.length ≤ 65536) (n : Int) (h0 : 0 ≤ n) (h1 : n ≤ 255) : ∃ r, laws_vCut.f code n = some r ∧ CodeOk r := by
  have key : ∀ m : Int, 0 ≤ m → CodeOk (([] : List Int) ++ code.drop m.toNat ++ [m % 256]) := fun m hm x hx => by
    rcases List.mem_append.1 hx with h | h
    · rw [List.nil_append] at h
      exact hc x (List.mem_of_mem_drop h)
    · rw [List.mem_singleton] at h
      omega
  have len : ∀ m : Int, (code.drop m.toNat).length ≤ 65536 := fun m => by rw [List.length_drop]; omega
  unfold laws_vCut.f
  simp only [Option.bind_some, List.length_nil, List.nil_append]
  by_cases c : n > (code.length : Int)
  · have q := len (code.length : Int)
    rw [if_pos c, if_pos (by omega), if_pos (by omega), if_pos (by omega), if_pos (by omega)]
    exact ⟨_, rfl, by have := key (code.length : Int) (by omega); rwa [List.nil_append] at this⟩
  · have q := len n
    rw [if_neg c, if_pos h0, if_pos (by omega), if_pos (by omega), if_pos (by omega)]
    exact ⟨_, rfl, by have := key n h0; rwa [List.nil_append] at this⟩
theorem chances_l1 {code : List Int} (hc : CodeOk code) (d : Nat) : ∀ (xs : List Int) (t s : Int), xs.length + d = 17 → 0 ≤ t → t + 2 * d + 2 ≤ 800000000000000 →
    ∃ r t' s', Ev (fun k => spec_l1Cur_chances.l1 k xs code t s) (r, t', s') ∧ r.length ≤ 17 ∧ t ≤ t' ∧ t' ≤ t + 2 * d + 2 := by
  induction d with
  | zero =>
    intro xs t s hx h0 h1
    obtain ⟨p, t1, s1, e1, p0, p1, q0, q1⟩ := pick_ok hc t s 3 h0 (by omega) (by omega)
    have p1 := p1 (by omega)
    refine ⟨xs, t1, s1, ev_succ ?_, by omega, q0, by omega⟩
    simp only [spec_l1Cur_chances.l1, e1, Option.bind_some]
    rw [wid (by omega) (by omega)]
    exact ev_neg (by omega) (ev_some _)
  | succ d ih =>
    intro xs t s hx h0 h1
    obtain ⟨p, t1, s1, e1, p0, p1, q0, q1⟩ := pick_ok hc t s 3 h0 (by omega) (by omega)
    have p1 := p1 (by omega)
    by_cases c : (xs.length : Int) < 15 + p
    · obtain ⟨r, t', s', e2, l2, a2, b2⟩ := ih (xs ++ [1]) t1 s1 (by simp; omega) (by omega) (by omega)
      refine ⟨r, t', s', ev_succ ?_, l2, by omega, by omega⟩
      simp only [spec_l1Cur_chances.l1, e1, Option.bind_some]
      rw [wid (x := 15 + p) (by omega) (by omega)]
      exact ev_pos c (ev_pos (by omega) e2)
    · refine ⟨xs, t1, s1, ev_succ ?_, by omega, q0, by omega⟩
      simp only [spec_l1Cur_chances.l1, e1, Option.bind_some]
      rw [wid (by omega) (by omega)]
      exact ev_neg c (ev_some _)
theorem chances_l0 {code : List Int} (hc : CodeOk code) (n : Nat) : ∀ (xs : List Int) (t s : Int), xs.length + n ≤ 8 → 1 ≤ xs.length + n → 0 ≤ t → t + 2 * n ≤ 700000000000000 →
    ∃ r t' s', Ev (fun k => spec_l1Cur_chances.l0 k xs (n : Int) code t s) (r, t', s') ∧ r.length ≤ 17 ∧ t ≤ t' ∧ t' ≤ t + 2 * n + 60 := by
  induction n with
  | zero =>
    intro xs t s hx hx1 h0 h1
    obtain ⟨p, t1, s1, e1, p0, p1, q0, q1⟩ := pick_ok hc t s 32 h0 (by omega) (by omega)
    have z : ¬ (((0 : Nat) : Int) > 0) := by omega
    by_cases c0 : p = 0
    · obtain ⟨v, t2, s2, e2, _, a2, b2⟩ := among_ok hc t1 s1 [-1, 1000, 1001, 4611686018427387904] (by omega) (by omega) (by decide) (by decide)
      refine ⟨xs.set (0 : Int).toNat v, t2, s2, ev_succ ?_, by rw [List.length_set]; omega, by omega, by omega⟩
      simp only [spec_l1Cur_chances.l0, e1, Option.bind_some]
      refine ev_neg z (ev_pos c0 ?_)
      rw [e2]
      simp only [Option.bind_some]
      exact ev_pos (by omega) (ev_some _)
    by_cases c1 : p = 1
    · obtain ⟨r, t2, s2, e2, l2, a2, b2⟩ := chances_l1 hc (17 - xs.length) xs t1 s1 (by omega) (by omega) (by omega)
      refine ⟨r, t2, s2, ev_succ ?_, l2, by omega, by omega⟩
      simp only [spec_l1Cur_chances.l0, e1, Option.bind_some]
      exact ev_neg z (ev_neg c0 (ev_pos c1 e2))
    by_cases c2 : p = 2
    · obtain ⟨v, t2, s2, e2, v0, v1, a2, b2⟩ := pick_ok hc t1 s1 4 (by omega) (by omega) (by omega)
      have v1 := v1 (by omega)
      refine ⟨List.replicate v.toNat 0, t2, s2, ev_succ ?_, by rw [List.length_replicate]; omega, by omega, by omega⟩
      simp only [spec_l1Cur_chances.l0, e1, Option.bind_some]
      refine ev_neg z (ev_neg c0 (ev_neg c1 (ev_pos c2 ?_)))
      rw [e2]
      simp only [Option.bind_some]
      exact ev_pos v0 (ev_pos (by omega) (ev_some _))
    · refine ⟨xs, t1, s1, ev_succ ?_, by omega, by omega, by omega⟩
      simp only [spec_l1Cur_chances.l0, e1, Option.bind_some]
      exact ev_neg z (ev_neg c0 (ev_neg c1 (ev_neg c2 (ev_some _))))
  | succ n ih =>
    intro xs t s hx hx1 h0 h1
    obtain ⟨v, t1, s1, e1, _, a1, b1⟩ := among_ok hc t s [1, 2, 0, 3, 5, 1] (by omega) (by omega) (by decide) (by decide)
    obtain ⟨r, t2, s2, e2, l2, a2, b2⟩ := ih (xs ++ [v]) t1 s1 (by simp; omega) (by simp; omega) (by omega) (by omega)
    refine ⟨r, t2, s2, ev_succ ?_, l2, by omega, by omega⟩
    simp only [spec_l1Cur_chances.l0, e1, Option.bind_some]
    rw [wid (x := ((n + 1 : Nat) : Int) - 1) (by omega) (by omega), show ((n + 1 : Nat) : Int) - 1 = (n : Int) by omega]
    exact ev_pos (by omega) (ev_pos (by omega) e2)
theorem chances_ok {code : List Int} (hc : CodeOk code) (t s : Int) (h0 : 0 ≤ t) (h1 : t ≤ 600000000000000) :
    ∃ r t' s', Ev (fun k => spec_l1Cur_chances.f k code t s) (r, t', s') ∧ r.length ≤ 17 ∧ t ≤ t' ∧ t' ≤ t + 100 := by
  obtain ⟨n, t1, s1, e1, m1, a1, b1⟩ := among_ok hc t s [4, 5, 6, 3, 8, 1, 2] h0 (by omega) (by decide) (by decide)
  have hn : 1 ≤ n ∧ n ≤ 8 := by simp at m1; omega
  obtain ⟨r, t2, s2, e2, l2, a2, b2⟩ := chances_l0 hc n.toNat [] t1 s1 (by simp; omega) (by simp; omega) (by omega) (by omega)
  rw [Int.toNat_of_nonneg (by omega)] at e2
  refine ⟨r, t2, s2, ?_, l2, by omega, by omega⟩
  unfold spec_l1Cur_chances.f
  simp only [e1, Option.bind_some]
  exact e2
theorem charge_ok {code : List Int} (hc : CodeOk code) (t s : Int) (h0 : 0 ≤ t) (h1 : t ≤ 600000000000000) : ∃ r t' s', spec_l1Cur_charge.f code t s = some (r, t', s') ∧ t ≤ t' ∧ t' ≤ t + 4 := by
  unfold spec_l1Cur_charge.f
  obtain ⟨p, t1, s1, e1, p0, p1, q0, q1⟩ := pick_ok hc t s 24 h0 (by omega) (by omega)
  have p1 := p1 (by omega)
  simp only [Option.bind_some, e1, List.length_cons, List.length_nil]
  rw [Int.tdiv_eq_ediv_of_nonneg p0, wid (x := p / 11) (by omega) (by omega), wid (x := 7 + p / 11) (by omega) (by omega)]
  have hl : (List.take (7 + p / 11).toNat [1, 2, 3, 5, 0, 8, 20, 21, (-1 : Int)]).length = (7 + p / 11).toNat := by rw [List.length_take]; simp; omega
  obtain ⟨v, t2, s2, e2, _, a2, b2⟩ := among_ok hc t1 s1 (List.take (7 + p / 11).toNat [1, 2, 3, 5, 0, 8, 20, 21, (-1 : Int)]) (by omega) (by omega) (by rw [hl]; omega) (by rw [hl]; omega)
  rw [if_pos (by omega), if_pos (by omega), e2]
  simp only [Option.bind_some]
  exact ⟨_, _, _, rfl, by omega, by omega⟩
theorem order5_ok {code : List Int} (hc : CodeOk code) (t s : Int) (h0 : 0 ≤ t) (h1 : t ≤ 600000000000000) : ∃ r t' s', spec_l1Cur_order5.f code t s = some (r, t', s') := by
  unfold spec_l1Cur_order5.f
  obtain ⟨b, t1, s1, e1, a1, b1⟩ := one_ok hc t s 16 h0 (by omega) (by omega)
  simp only [e1, Option.bind_some]
  cases b with
  | true =>
    obtain ⟨v, t2, s2, e2, _⟩ := among_ok hc t1 s1 [-1, 15, 16, 4611686018427387904] (by omega) (by omega) (by decide) (by decide)
    rw [if_pos rfl, e2]
    exact ⟨_, _, _, rfl⟩
  | false =>
    obtain ⟨v, t2, s2, e2, _⟩ := pick_ok hc t1 s1 9 (by omega) (by omega) (by omega)
    rw [if_neg (by simp), e2]
    exact ⟨_, _, _, rfl⟩
/-- What a distribution is. -/
def DistOk (w : List Int) : Prop := (1 ≤ (w.length : Int) ∧ (w.length : Int) ≤ 16) ∧ (∀ x ∈ w, 0 ≤ x ∧ x ≤ 1000) ∧ w.sum > 0
instance (w : List Int) : Decidable (DistOk w) := by unfold DistOk; infer_instance
theorem implDist_ev (w : List Int) (hl : w.length ≤ 35184372088832) : Ev (fun k => impl_IsDistribution.f k w) (decide (DistOk w)) := by
  unfold impl_IsDistribution.f DistOk
  simp only [within_eq, Option.bind_some]
  exact ev_and rfl fun h1 => ev_bind (allWithin_ev w 0 1000 hl) (ev_and rfl fun h3 => ev_bind (total_ev w hl (take_sum64 (by omega) (by omega) h3 (by omega))) (ev_some _))
theorem specDist_ev (w : List Int) (hl : w.length ≤ 35184372088832) : Ev (fun k => spec_l5Good.f k w) (decide (DistOk w)) := by
  unfold spec_l5Good.f DistOk spec_l5Total.f
  simp only [in_eq, Option.bind_some]
  refine ev_and rfl fun h1 => ev_dec (P := ((∀ x ∈ w, 0 ≤ x ∧ x ≤ 1000) ∧ (w.length : Int) = w.length) ∧ w.sum > 0) ?_ (by simp)
  exact ev_bind (l2Row_ev w _ 1000 hl) (ev_and rfl fun h3 => ev_bind (ev_bind (l2Sum_ev w hl (take_sum64 (by omega) (by omega) h3.1 (by omega))) (ev_some _)) (ev_some _))
/-- A sum of weights times numbers, of the first demands. -/
def wsum (w : List Int) (f : Int → Int) : Nat → Int
  | 0 => 0
  | n + 1 => wsum w f n + rd w (n : Int) * f (n : Int)
theorem wsum_congr {w : List Int} {f g : Int → Int} (n : Nat) (h : ∀ i : Nat, i < n → f (i : Int) = g (i : Int)) : wsum w f n = wsum w g n := by
  induction n with
  | zero => rfl
  | succ n ih => simp only [wsum]; rw [ih fun i hi => h i (by omega), h n (by omega)]
theorem wsum_add (w : List Int) (f g : Int → Int) (n : Nat) : wsum w (fun d => f d + g d) n = wsum w f n + wsum w g n := by
  induction n with
  | zero => rfl
  | succ n ih => simp only [wsum]; rw [ih, Int.mul_add]; omega
theorem wsum_mul (w : List Int) (f : Int → Int) (c : Int) (n : Nat) : wsum w (fun d => c * f d) n = c * wsum w f n := by
  induction n with
  | zero => simp [wsum]
  | succ n ih => simp only [wsum]; rw [ih, Int.mul_add]; grind
theorem wsum_sub (w : List Int) (f g : Int → Int) (n : Nat) : wsum w (fun d => f d - g d) n = wsum w f n - wsum w g n := by
  induction n with
  | zero => rfl
  | succ n ih => simp only [wsum]; rw [ih, Int.mul_sub]; omega
theorem wsum_mono {w : List Int} {f g : Int → Int} (hw : ∀ i : Nat, i < w.length → 0 ≤ rd w (i : Int)) (n : Nat) (hn : n ≤ w.length) (h : ∀ i : Nat, i < n → f (i : Int) ≤ g (i : Int)) : wsum w f n ≤ wsum w g n := by
  induction n with
  | zero => exact Int.le_refl _
  | succ n ih =>
    simp only [wsum]
    have h1 := ih (by omega) fun i hi => h i (by omega)
    have h2 := Int.mul_le_mul_of_nonneg_left (h n (by omega)) (hw n (by omega))
    omega
theorem wsum_one (w : List Int) (n : Nat) (hn : n ≤ w.length) : wsum w (fun _ => 1) n = (w.take n).sum := by
  induction n with
  | zero => simp [wsum]
  | succ n ih => simp only [wsum]; rw [ih (by omega), Int.mul_one, take_sum_succ w n (by omega)]
theorem wsum_in {w : List Int} {f : Int → Int} {B : Int} (hB : 0 ≤ B) (hw : ∀ x ∈ w, 0 ≤ x ∧ x ≤ 1000) (hf : ∀ i : Nat, i < w.length → 0 ≤ f (i : Int) ∧ f (i : Int) ≤ B) (n : Nat) (hn : n ≤ w.length) : 0 ≤ wsum w f n ∧ wsum w f n ≤ n * (1000 * B) := by
  induction n with
  | zero => simp [wsum]
  | succ n ih =>
    have h1 := ih (by omega)
    have h2 : 0 ≤ rd w (n : Int) ∧ rd w (n : Int) ≤ 1000 := by rw [rd_nat w n (by omega)]; exact hw _ (List.getElem_mem _)
    have h3 := hf n (by omega)
    have h4 := mulb h2.1 h2.2 h3.1 h3.2
    simp only [wsum]
    rw [show (((n + 1 : Nat) : Int)) * (1000 * B) = n * (1000 * B) + 1000 * B by rw [Int.natCast_add, Int.add_mul]; omega]
    omega
theorem tot_one (w : List Int) : w.sum = wsum w (fun _ => 1) w.length := by rw [wsum_one w _ (Nat.le_refl _), List.take_length]
/-- The positive part of a number. -/
def pos (x : Int) : Int := if 0 < x then x else 0
theorem pos_in {x b : Int} (h : x ≤ b) (hb : 0 ≤ b) : 0 ≤ pos x ∧ pos x ≤ b := by
  unfold pos
  split <;> omega
theorem most_pos (x : Int) : spec_l1Most.f 0 x = some (pos x) := by
  unfold spec_l1Most.f pos
  by_cases h : 0 < x
  · rw [if_pos h, if_neg (by omega)]
  · rw [if_neg h]
    by_cases h2 : (0 : Int) > x
    · rw [if_pos h2]
    · rw [if_neg h2, show x = 0 by omega]
def overN (w : List Int) (q : Int) : Int := wsum w (fun d => pos (q - d)) w.length
def shortN (w : List Int) (q : Int) : Int := wsum w (fun d => pos (d - q)) w.length
def costN (w : List Int) (o u q : Int) : Int := o * overN w q + u * shortN w q
def upToN (w : List Int) (q : Int) : Int := wsum w (fun d => if d ≤ q then 1 else 0) w.length
def meanN (w : List Int) : Int := wsum w (fun d => d) w.length
section
variable {w : List Int} (hD : DistOk w)
include hD
theorem dist_rd (i : Nat) (hi : i < w.length) : 0 ≤ rd w (i : Int) ∧ rd w (i : Int) ≤ 1000 := rd_in hD.2.1 i hi
theorem over_in {q : Int} (h : 0 ≤ q ∧ q ≤ 100) (n : Nat) (hn : n ≤ w.length) : 0 ≤ wsum w (fun d => pos (q - d)) n ∧ wsum w (fun d => pos (q - d)) n ≤ 1600000 := by
  have := wsum_in (f := fun d => pos (q - d)) (B := 100) (by omega) hD.2.1 (fun i hi => pos_in (by omega) (by omega)) n hn
  have := hD.1
  omega
theorem short_in {q : Int} (h : 0 ≤ q ∧ q ≤ 100) (n : Nat) (hn : n ≤ w.length) : 0 ≤ wsum w (fun d => pos (d - q)) n ∧ wsum w (fun d => pos (d - q)) n ≤ 1600000 := by
  have l := hD.1
  have := wsum_in (f := fun d => pos (d - q)) (B := 100) (by omega) hD.2.1 (fun i hi => pos_in (by omega) (by omega)) n hn
  omega
theorem cost_in {o u q : Int} (ho : 0 ≤ o ∧ o ≤ 20) (hu : 0 ≤ u ∧ u ≤ 20) (h : 0 ≤ q ∧ q ≤ 100) : 0 ≤ costN w o u q ∧ costN w o u q ≤ 64000000 := by
  have h1 := over_in hD h w.length (Nat.le_refl _)
  have h2 := short_in hD h w.length (Nat.le_refl _)
  have h3 := mulb ho.1 ho.2 h1.1 h1.2
  have h4 := mulb hu.1 hu.2 h2.1 h2.2
  unfold costN overN shortN
  omega
theorem tot_le : 0 < w.sum ∧ w.sum ≤ 16000 := by
  have := sum_nonneg hD.2.1
  have := hD.1
  have := hD.2.2
  omega
theorem sum64 : ∀ i, -9223372036854775808 ≤ (w.take i).sum ∧ (w.take i).sum ≤ 9223372036854775807 := take_sum64 (by omega) (by omega) hD.2.1 (by have := hD.1; omega)
theorem distTotal_ev : Ev (fun k => impl_total.f k w) w.sum := total_ev w (by have := hD.1; omega) (sum64 hD)
theorem specTotal_ev : Ev (fun k => spec_l5Total.f k w) w.sum := by
  unfold spec_l5Total.f
  exact ev_bind (l2Sum_ev w (by have := hD.1; omega) (sum64 hD)) (ev_some _)
theorem weighted_l0 {g : Int → Option Int} {f : Int → Int} (hg : ∀ n : Nat, n < w.length → g (n : Int) = some (f (n : Int))) (hf : ∀ n : Nat, n < w.length → 0 ≤ f (n : Int) ∧ f (n : Int) ≤ 100) (d : Nat) : ∀ i : Nat, i + d = w.length →
    Ev (fun k => impl_weighted.l0 g k (wsum w f i) w (w.length : Int) (i : Int)) (wsum w f w.length) := by
  have hl := hD.1
  induction d with
  | zero =>
    intro i hi
    refine ev_succ ?_
    simp only [impl_weighted.l0]
    refine ev_neg (by omega) ?_
    rw [show i = w.length by omega]
    exact ev_some _
  | succ d ih =>
    intro i hi
    have q := ih (i + 1) (by omega)
    have b1 := wsum_in (B := 100) (by omega) hD.2.1 hf (i + 1) (by omega)
    have b2 := dist_rd hD i (by omega)
    have b3 := hf i (by omega)
    have b4 := mulb b2.1 b2.2 b3.1 b3.2
    have hw : wrap64 ((i : Int) + 1) = ((i + 1 : Nat) : Int) := by rw [wid (by omega) (by omega)]; omega
    simp only [wsum] at q b1
    refine ev_succ ?_
    simp only [impl_weighted.l0, hg i (by omega), Option.bind_some]
    rw [hw, wid (x := rd w (i : Int) * f (i : Int)) (by omega) (by omega), wid (x := wsum w f i + rd w (i : Int) * f (i : Int)) (by omega) (by omega)]
    exact ev_pos (by omega) (ev_pos (by omega) (ev_pos (by omega) q))
theorem weighted_ev {g : Int → Option Int} {f : Int → Int} (hg : ∀ n : Nat, n < w.length → g (n : Int) = some (f (n : Int))) (hf : ∀ n : Nat, n < w.length → 0 ≤ f (n : Int) ∧ f (n : Int) ≤ 100) : Ev (fun k => impl_weighted.f k w g) (wsum w f w.length) := by
  unfold impl_weighted.f
  exact weighted_l0 hD hg hf w.length 0 (by omega)
theorem implOver_ev {q : Int} (h : 0 ≤ q ∧ q ≤ 100) : Ev (fun k => impl_overSum.f k w q) (overN w q) := by
  unfold impl_overSum.f overN
  have hl := hD.1
  refine ev_bind (weighted_ev hD (f := fun d => pos (q - d)) (fun n hn => ?_) (fun n hn => pos_in (by omega) (by omega))) (ev_some _)
  rw [wid (by omega) (by omega)]
  rfl
theorem implShort_ev {q : Int} (h : 0 ≤ q ∧ q ≤ 100) : Ev (fun k => impl_shortSum.f k w q) (shortN w q) := by
  unfold impl_shortSum.f shortN
  have hl := hD.1
  refine ev_bind (weighted_ev hD (f := fun d => pos (d - q)) (fun n hn => ?_) (fun n hn => pos_in (by omega) (by omega))) (ev_some _)
  rw [wid (by omega) (by omega)]
  rfl
theorem implCost_ev {o u q : Int} (ho : 0 ≤ o ∧ o ≤ 20) (hu : 0 ≤ u ∧ u ≤ 20) (h : 0 ≤ q ∧ q ≤ 100) : Ev (fun k => impl_costSum.f k w o u q) (costN w o u q) := by
  unfold impl_costSum.f costN
  have h1 := over_in hD h w.length (Nat.le_refl _)
  have h2 := short_in hD h w.length (Nat.le_refl _)
  have h3 := mulb ho.1 ho.2 h1.1 h1.2
  have h4 := mulb hu.1 hu.2 h2.1 h2.2
  refine ev_bind (implOver_ev hD h) (ev_bind (implShort_ev hD h) (ev_cast (ev_some _) ?_))
  unfold overN shortN
  rw [wid (x := o * _) (by omega) (by omega), wid (x := u * _) (by omega) (by omega), wid (by omega) (by omega)]
theorem specOver_l0 {q : Int} (h : 0 ≤ q ∧ q ≤ 100) (d : Nat) : ∀ i : Nat, i + d = w.length → Ev (fun k => spec_l5Over.l0 k w q (wsum w (fun d => pos (q - d)) i) (i : Int)) (overN w q) := by
  have hl := hD.1
  induction d with
  | zero =>
    intro i hi
    refine ev_succ ?_
    simp only [spec_l5Over.l0]
    refine ev_neg (by omega) ?_
    rw [show i = w.length by omega]
    exact ev_some _
  | succ d ih =>
    intro i hi
    have z := ih (i + 1) (by omega)
    have b1 := over_in hD h (i + 1) (by omega)
    have b2 := dist_rd hD i (by omega)
    have b3 := pos_in (show q - (i : Int) ≤ 100 by omega) (by omega)
    have b4 := mulb b2.1 b2.2 b3.1 b3.2
    have b5 := over_in hD h i (by omega)
    have hw : wrap64 ((i : Int) + 1) = ((i + 1 : Nat) : Int) := by rw [wid (by omega) (by omega)]; omega
    simp only [wsum] at z b1
    refine ev_succ ?_
    simp only [spec_l5Over.l0]
    rw [hw, wid (x := q - (i : Int)) (by omega) (by omega), most_pos]
    simp only [Option.bind_some]
    rw [wid (x := rd w (i : Int) * pos (q - (i : Int))) (by omega) (by omega), wid (by omega) (by omega)]
    exact ev_pos (by omega) (ev_pos (by omega) z)
theorem specShort_l0 {q : Int} (h : 0 ≤ q ∧ q ≤ 100) (d : Nat) : ∀ i : Nat, i + d = w.length → Ev (fun k => spec_l5Short.l0 k w q (wsum w (fun d => pos (d - q)) i) (i : Int)) (shortN w q) := by
  have hl := hD.1
  induction d with
  | zero =>
    intro i hi
    refine ev_succ ?_
    simp only [spec_l5Short.l0]
    refine ev_neg (by omega) ?_
    rw [show i = w.length by omega]
    exact ev_some _
  | succ d ih =>
    intro i hi
    have z := ih (i + 1) (by omega)
    have b1 := short_in hD h (i + 1) (by omega)
    have b2 := dist_rd hD i (by omega)
    have b3 := pos_in (show (i : Int) - q ≤ 100 by omega) (by omega)
    have b4 := mulb b2.1 b2.2 b3.1 b3.2
    have b5 := short_in hD h i (by omega)
    have hw : wrap64 ((i : Int) + 1) = ((i + 1 : Nat) : Int) := by rw [wid (by omega) (by omega)]; omega
    simp only [wsum] at z b1
    refine ev_succ ?_
    simp only [spec_l5Short.l0]
    rw [hw, wid (x := (i : Int) - q) (by omega) (by omega), most_pos]
    simp only [Option.bind_some]
    rw [wid (x := rd w (i : Int) * pos ((i : Int) - q)) (by omega) (by omega), wid (by omega) (by omega)]
    exact ev_pos (by omega) (ev_pos (by omega) z)
theorem specOver_ev {q : Int} (h : 0 ≤ q ∧ q ≤ 100) : Ev (fun k => spec_l5Over.f k w q) (overN w q) := by
  unfold spec_l5Over.f
  exact specOver_l0 hD h w.length 0 (by omega)
theorem specShort_ev {q : Int} (h : 0 ≤ q ∧ q ≤ 100) : Ev (fun k => spec_l5Short.f k w q) (shortN w q) := by
  unfold spec_l5Short.f
  exact specShort_l0 hD h w.length 0 (by omega)
theorem specCost_ev {o u q : Int} (ho : 0 ≤ o ∧ o ≤ 20) (hu : 0 ≤ u ∧ u ≤ 20) (h : 0 ≤ q ∧ q ≤ 100) : Ev (fun k => spec_l5Cost.f k w o u q) (costN w o u q) := by
  unfold spec_l5Cost.f costN
  have h1 := over_in hD h w.length (Nat.le_refl _)
  have h2 := short_in hD h w.length (Nat.le_refl _)
  have h3 := mulb ho.1 ho.2 h1.1 h1.2
  have h4 := mulb hu.1 hu.2 h2.1 h2.2
  refine ev_bind (specOver_ev hD h) (ev_bind (specShort_ev hD h) (ev_cast (ev_some _) ?_))
  unfold overN shortN
  rw [wid (x := o * _) (by omega) (by omega), wid (x := u * _) (by omega) (by omega), wid (by omega) (by omega)]
/-! The cost sums are convex. -/
omit hD in
theorem over_step (q : Int) : overN w (q + 1) = overN w q + upToN w q := by
  unfold overN upToN
  rw [← wsum_add]
  refine wsum_congr _ fun i _ => ?_
  unfold pos
  repeat' split
  all_goals omega
theorem short_step (q : Int) : shortN w (q + 1) = shortN w q - (w.sum - upToN w q) := by
  have _ := hD
  rw [tot_one w]
  unfold shortN upToN
  rw [← wsum_sub, ← wsum_sub]
  refine wsum_congr _ fun i _ => ?_
  unfold pos
  repeat' split
  all_goals omega
theorem cost_step (o u q : Int) : costN w o u (q + 1) - costN w o u q = (o + u) * upToN w q - u * w.sum := by
  unfold costN
  rw [over_step, short_step hD]
  grind
theorem over_short (q : Int) : overN w q - shortN w q = q * w.sum - meanN w := by
  have _ := hD
  rw [tot_one w]
  unfold overN shortN meanN
  rw [← wsum_sub, ← wsum_mul, ← wsum_sub]
  refine wsum_congr _ fun i _ => ?_
  unfold pos
  repeat' split
  all_goals omega
theorem upTo_mono {p q : Int} (h : p ≤ q) : upToN w p ≤ upToN w q := by
  unfold upToN
  refine wsum_mono (fun i hi => (dist_rd hD i hi).1) _ (Nat.le_refl _) fun i _ => ?_
  repeat' split
  all_goals omega
theorem upTo_le (q : Int) : 0 ≤ upToN w q ∧ upToN w q ≤ w.sum := by
  rw [tot_one w]
  refine ⟨(wsum_in (f := fun d => if d ≤ q then 1 else 0) (B := 1) (by omega) hD.2.1 (fun i _ => by show 0 ≤ (if (i : Int) ≤ q then (1 : Int) else 0) ∧ (if (i : Int) ≤ q then (1 : Int) else 0) ≤ 1; split <;> omega) _ (Nat.le_refl _)).1, ?_⟩
  unfold upToN
  refine wsum_mono (fun i hi => (dist_rd hD i hi).1) _ (Nat.le_refl _) fun i _ => ?_
  repeat' split
  all_goals omega
theorem upTo_full {q : Int} (h : (w.length : Int) - 1 ≤ q) : upToN w q = w.sum := by
  have _ := hD
  rw [tot_one w]
  unfold upToN
  refine wsum_congr _ fun i hi => ?_
  exact if_pos (by omega)
omit hD in
theorem upTo_take (q : Int) (h : -1 ≤ q) (n : Nat) : wsum w (fun d => if d ≤ q then 1 else 0) n = wsum w (fun _ => 1) (min (q + 1).toNat n) := by
  induction n with
  | zero => simp [wsum]
  | succ n ih =>
    simp only [wsum]
    rw [ih]
    by_cases c : (n : Int) ≤ q
    · rw [if_pos c, show min (q + 1).toNat n = n by omega, show min (q + 1).toNat (n + 1) = n + 1 by omega]
      rfl
    · rw [if_neg c, show min (q + 1).toNat (n + 1) = min (q + 1).toNat n by omega]
      omega
end
/-- The least number with a property. -/
theorem least_of {P : Nat → Prop} [DecidablePred P] (n : Nat) (h : P n) : ∃ m, m ≤ n ∧ P m ∧ ∀ j, j < m → ¬ P j := by
  induction n using Nat.strongRecOn with
  | _ n ih =>
    by_cases c : ∃ j, j < n ∧ P j
    · obtain ⟨j, hj, pj⟩ := c
      obtain ⟨m, a, b, e⟩ := ih j hj pj
      exact ⟨m, by omega, b, e⟩
    · exact ⟨n, Nat.le_refl _, h, fun j hj pj => c ⟨j, hj, pj⟩⟩
/-- What the critical order is. -/
def Crit (w : List Int) (o u : Int) (q : Int) : Prop := 0 ≤ q ∧ q ≤ (w.length : Int) - 1 ∧ u * w.sum ≤ (o + u) * upToN w q ∧ ∀ j : Int, 0 ≤ j → j < q → (o + u) * upToN w j < u * w.sum
theorem crit_ex {w : List Int} (hD : DistOk w) {o u : Int} (ho : 0 ≤ o) (hu : 0 ≤ u) : ∃ q, Crit w o u q := by
  have hl := hD.1
  have hT := hD.2.2
  obtain ⟨m, a, b, e⟩ := least_of (P := fun n => u * w.sum ≤ (o + u) * upToN w (n : Int)) (w.length - 1) (by
    rw [upTo_full hD (by omega)]
    exact Int.mul_le_mul_of_nonneg_right (by omega) (by omega))
  refine ⟨(m : Int), by omega, by omega, b, fun j h0 h1 => ?_⟩
  have := e j.toNat (by omega)
  rw [Int.toNat_of_nonneg h0] at this
  omega
theorem crit_less {w : List Int} (hD : DistOk w) {o u q : Int} (h : Crit w o u q) (j : Int) (h0 : 0 ≤ j) (hj : j < q) : costN w o u (j + 1) < costN w o u j := by
  have := cost_step hD o u j
  have := h.2.2.2 j h0 hj
  omega
theorem crit_more {w : List Int} (hD : DistOk w) {o u q : Int} (ho : 0 ≤ o) (hu : 0 ≤ u) (h : Crit w o u q) (j : Int) (hj : q ≤ j) : costN w o u j ≤ costN w o u (j + 1) := by
  have h1 := cost_step hD o u j
  have h2 := upTo_mono hD hj
  have h3 := Int.mul_le_mul_of_nonneg_left h2 (show 0 ≤ o + u by omega)
  have h4 := h.2.2.1
  omega
theorem crit_right {w : List Int} (hD : DistOk w) {o u q : Int} (ho : 0 ≤ o) (hu : 0 ≤ u) (h : Crit w o u q) (d : Nat) : costN w o u q ≤ costN w o u (q + d) := by
  induction d with
  | zero => simp
  | succ d ih =>
    have := crit_more hD ho hu h (q + d) (by omega)
    rw [show q + ((d + 1 : Nat) : Int) = q + d + 1 by omega]
    omega
theorem crit_left {w : List Int} (hD : DistOk w) {o u q : Int} (h : Crit w o u q) (d : Nat) : ∀ j : Int, 0 ≤ j → j + d + 1 = q → costN w o u q < costN w o u j := by
  induction d with
  | zero =>
    intro j h0 hj
    have := crit_less hD h j h0 (by omega)
    rw [show q = j + 1 by omega]
    exact this
  | succ d ih =>
    intro j h0 hj
    have h1 := ih (j + 1) (by omega) (by omega)
    have h2 := crit_less hD h j h0 (by omega)
    omega
/-- The critical order costs least. -/
theorem crit_best {w : List Int} (hD : DistOk w) {o u q : Int} (ho : 0 ≤ o) (hu : 0 ≤ u) (h : Crit w o u q) (j : Int) (h0 : 0 ≤ j) : costN w o u q ≤ costN w o u j := by
  by_cases c : q ≤ j
  · have := crit_right hD ho hu h (j - q).toNat
    rwa [show q + ((j - q).toNat : Int) = j by omega] at this
  · have := crit_left hD h (q - j - 1).toNat j h0 (by omega)
    omega
theorem charges_ev (l : List Int) (hl : l.length ≤ 1000) : Ev (fun k => impl_areCharges.f k l) (decide (∀ x ∈ l, 0 ≤ x ∧ x ≤ 20)) := by
  unfold impl_areCharges.f
  exact ev_bind (allWithin_ev l 0 20 (by omega)) (ev_some _)
def ChOk (o u : Int) : Prop := (0 ≤ o ∧ o ≤ 20) ∧ (0 ≤ u ∧ u ≤ 20)
instance (o u : Int) : Decidable (ChOk o u) := by unfold ChOk; infer_instance
theorem charges2_ev (o u : Int) : Ev (fun k => impl_areCharges.f k [o, u]) (decide (ChOk o u)) := ev_dec (charges_ev [o, u] (by simp)) (by unfold ChOk; simp)
theorem implUpTo_ev {w : List Int} (hD : DistOk w) {q : Int} (h : 0 ≤ q ∧ q ≤ 100) : Ev (fun k => impl_upTo.f k w q) (upToN w q) := by
  have hl := hD.1
  unfold impl_upTo.f
  rw [wid (by omega) (by omega)]
  have e : mn (q + 1) (w.length : Int) = ((min (q + 1).toNat w.length : Nat) : Int) := by unfold mn; split <;> omega
  rw [e, Int.toNat_natCast]
  have t := sum64 hD
  refine ev_pos (by omega) (ev_pos (by omega) (ev_bind (total_ev (w.take (min (q + 1).toNat w.length)) (by rw [List.length_take]; omega) (fun i => by rw [List.take_take]; exact t _)) (ev_cast (ev_some _) ?_)))
  unfold upToN
  rw [upTo_take q (by omega), wsum_one w _ (by omega)]
theorem implCrit_l0 {w : List Int} (hD : DistOk w) {o u q : Int} (hc : ChOk o u) (h : Crit w o u q) (d : Nat) : ∀ j : Int, 0 ≤ j → j + d = q → Ev (fun k => impl_CriticalOrder.l0 k w o u j) (q, true) := by
  have hl := hD.1
  obtain ⟨ho, hu⟩ := hc
  have hT := tot_le hD
  have m2 := mulb hu.1 hu.2 (show 0 ≤ w.sum by omega) hT.2
  have hq := h.2.1
  have m1 : ∀ j : Int, 0 ≤ (o + u) * upToN w j ∧ (o + u) * upToN w j ≤ 40 * 16000 := fun j => by
    have := upTo_le hD j
    exact mulb (by omega) (by omega) this.1 (by omega)
  induction d with
  | zero =>
    intro j h0 hj
    have e : j = q := by omega
    subst e
    have := m1 j
    refine ev_succ ?_
    simp only [impl_CriticalOrder.l0]
    refine ev_bind (implUpTo_ev hD ⟨h0, by omega⟩) (ev_bind (distTotal_ev hD) ?_)
    rw [wid (x := o + u) (by omega) (by omega), wid (x := (o + u) * upToN w j) (by omega) (by omega), wid (x := u * w.sum) (by omega) (by omega)]
    exact ev_neg (by have := h.2.2.1; omega) (ev_some _)
  | succ d ih =>
    intro j h0 hj
    have := m1 j
    have z := ih (j + 1) (by omega) (by omega)
    refine ev_succ ?_
    simp only [impl_CriticalOrder.l0]
    refine ev_bind (implUpTo_ev hD ⟨h0, by omega⟩) (ev_bind (distTotal_ev hD) ?_)
    rw [wid (x := o + u) (by omega) (by omega), wid (x := (o + u) * upToN w j) (by omega) (by omega), wid (x := u * w.sum) (by omega) (by omega), wid (x := j + 1) (by omega) (by omega)]
    exact ev_pos (h.2.2.2 j h0 (by omega)) z
theorem implCrit_no {w : List Int} {o u : Int} (hl : w.length ≤ 35184372088832) (h : ¬ (DistOk w ∧ ChOk o u)) : Ev (fun k => impl_CriticalOrder.f k w o u) (0, false) := by
  unfold impl_CriticalOrder.f
  refine ev_bind (implDist_ev w hl) ?_
  by_cases c : DistOk w
  · refine ev_pos (decide_eq_true c) (ev_bind (charges2_ev o u) (ev_succ ?_))
    simp only [impl_CriticalOrder.j0]
    exact ev_pos (by rw [decide_eq_false fun x => h ⟨c, x⟩]; rfl) (ev_some _)
  · refine ev_neg (by rw [decide_eq_true_eq]; exact c) (ev_succ ?_)
    simp only [impl_CriticalOrder.j0]
    exact ev_pos trivial (ev_some _)
theorem implCrit_yes {w : List Int} {o u q : Int} (hD : DistOk w) (hc : ChOk o u) (h : Crit w o u q) : Ev (fun k => impl_CriticalOrder.f k w o u) (q, true) := by
  have hl := hD.1
  unfold impl_CriticalOrder.f
  refine ev_bind (implDist_ev w (by omega)) (ev_pos (decide_eq_true hD) (ev_bind (charges2_ev o u) (ev_succ ?_)))
  simp only [impl_CriticalOrder.j0]
  refine ev_neg (by rw [decide_eq_true hc]; simp) ?_
  exact implCrit_l0 hD hc h q.toNat 0 (by omega) (by have := h.1; omega)
/-- The first number from b, y, y + 1, .. with the least value. -/
def argm (F : Int → Int) : Nat → Int → Int → Int
  | 0, _, b => b
  | d + 1, y, b => argm F d (y + 1) (if F y < F b then y else b)
/-- r is the first one with the least value, of those from a on and less than z. -/
def First (F : Int → Int) (a z r : Int) : Prop := (a ≤ r ∧ r < z) ∧ (∀ j, a ≤ j → j < z → F r ≤ F j) ∧ ∀ j, a ≤ j → j < r → F r < F j
theorem first_unique {F : Int → Int} {a z r s : Int} (h : First F a z r) (k : First F a z s) : r = s := by
  obtain ⟨h1, h2, h3⟩ := h
  obtain ⟨k1, k2, k3⟩ := k
  rcases Int.lt_trichotomy r s with c | c | c
  · have := k3 r h1.1 c
    have := h2 s k1.1 k1.2
    omega
  · exact c
  · have := h3 s k1.1 c
    have := k2 r h1.1 h1.2
    omega
theorem argm_first (F : Int → Int) (a : Int) (d : Nat) : ∀ y b, First F a y b → First F a (y + d) (argm F d y b) := by
  induction d with
  | zero => intro y b h; simpa [argm] using h
  | succ d ih =>
    intro y b h
    obtain ⟨h1, h2, h3⟩ := h
    simp only [argm]
    rw [show y + ((d + 1 : Nat) : Int) = y + 1 + d by omega]
    refine ih (y + 1) _ ?_
    by_cases c : F y < F b
    · rw [if_pos c]
      refine ⟨⟨by omega, by omega⟩, fun j hj hz => ?_, fun j hj hz => ?_⟩
      · by_cases e : j = y
        · rw [e]; exact Int.le_refl _
        · have := h2 j hj (by omega); omega
      · have := h2 j hj hz; omega
    · rw [if_neg c]
      refine ⟨⟨h1.1, by omega⟩, fun j hj hz => ?_, h3⟩
      by_cases e : j = y
      · rw [e]; omega
      · exact h2 j hj (by omega)
theorem first_one (F : Int → Int) (a : Int) : First F a (a + 1) a := ⟨⟨Int.le_refl _, by omega⟩, fun j h1 h2 => by rw [show j = a by omega]; exact Int.le_refl _, fun j h1 h2 => by omega⟩

/-- The cost of a period begun with y, with a stock. -/
def bgn (w : List Int) (o u n s st y : Int) : Int := costN w o u y + w.sum * n * y + (if y > st then w.sum * s else 0)
/-- Start numbers. -/
def StOk (w : List Int) (o u n s : Int) : Prop := DistOk w ∧ ChOk o u ∧ (0 ≤ n ∧ n ≤ 20) ∧ (0 ≤ s ∧ s ≤ 30)
instance (w : List Int) (o u n s : Int) : Decidable (StOk w o u n s) := by unfold StOk; infer_instance
theorem implStart_ev (w : List Int) (o u n s : Int) (hl : w.length ≤ 35184372088832) : Ev (fun k => impl_isStart.f k w o u n s) (decide (StOk w o u n s)) := by
  unfold impl_isStart.f
  simp only [within_eq, Option.bind_some]
  refine ev_dec (P := DistOk w ∧ (∀ x ∈ [o, u, n], 0 ≤ x ∧ x ≤ 20) ∧ 0 ≤ s ∧ s ≤ 30) (ev_bind (implDist_ev w hl) (ev_and rfl fun _ => ev_bind (charges_ev [o, u, n] (by simp)) (ev_and rfl fun _ => ev_some _))) ?_
  unfold StOk ChOk
  simp only [List.mem_cons, List.not_mem_nil, or_false, forall_eq_or_imp, forall_eq]
  constructor
  · rintro ⟨a, ⟨b, c, d⟩, e⟩; exact ⟨a, ⟨b, c⟩, d, e⟩
  · rintro ⟨a, ⟨b, c⟩, d, e⟩; exact ⟨a, ⟨b, c, d⟩, e⟩
theorem specStart_ev (w : List Int) (o u n s : Int) (hl : w.length ≤ 35184372088832) : Ev (fun k => spec_l5Asks.f k w o u n s) (decide (StOk w o u n s)) := by
  unfold spec_l5Asks.f spec_l5Charges.f
  simp only [in_eq, Option.bind_some]
  refine ev_dec (P := DistOk w ∧ ChOk o u ∧ (0 ≤ n ∧ n ≤ 20) ∧ 0 ≤ s ∧ s ≤ 30) (ev_bind (specDist_ev w hl) (ev_and rfl fun _ => ev_bind (a := decide (ChOk o u)) ?_ (ev_and rfl fun _ => ev_and rfl fun _ => ev_some _))) Iff.rfl
  exact ev_and rfl fun _ => ev_some _
section
variable {w : List Int} {o u n s : Int} (hS : StOk w o u n s)
include hS
theorem bgn_in {st y : Int} (hy : 0 ≤ y ∧ y ≤ 15) : 0 ≤ w.sum * n ∧ w.sum * n ≤ 16000 * 20 ∧ 0 ≤ w.sum * n * y ∧ w.sum * n * y ≤ 16000 * 20 * 15 ∧ 0 ≤ w.sum * s ∧ w.sum * s ≤ 16000 * 30 ∧ 0 ≤ costN w o u y ∧ costN w o u y ≤ 64000000 ∧ 0 ≤ bgn w o u n s st y ∧ bgn w o u n s st y ≤ 70000000 := by
  obtain ⟨hD, hc, hn, hs⟩ := hS
  have hT := tot_le hD
  have m1 := mulb (show 0 ≤ w.sum by omega) hT.2 hn.1 hn.2
  have m2 := mulb m1.1 m1.2 hy.1 hy.2
  have m3 := mulb (show 0 ≤ w.sum by omega) hT.2 hs.1 hs.2
  have m4 := cost_in hD hc.1 hc.2 (q := y) (by omega)
  refine ⟨m1.1, m1.2, m2.1, m2.2, m3.1, m3.2, m4.1, m4.2, ?_⟩
  unfold bgn
  split <;> omega
theorem implLevel_l0 (st : Int) (hst : 0 ≤ st ∧ st ≤ 15) (d : Nat) : ∀ y b : Int, y + d = 16 → st < y → st ≤ b → b ≤ 15 → Ev (fun k => impl_orderUpTo.l0 k w o u n s st b (bgn w o u n s st b) y) (argm (bgn w o u n s st) d y b) := by
  induction d with
  | zero =>
    intro y b hy h1 h2 h3
    refine ev_succ ?_
    simp only [impl_orderUpTo.l0, argm]
    exact ev_neg (by omega) (ev_some _)
  | succ d ih =>
    intro y b hy h1 h2 h3
    obtain ⟨m1, m2, m3, m4, m5, m6, m7, m8, _⟩ := bgn_in hS (st := st) (y := y) (by omega)
    obtain ⟨hD, hc, hn, hs⟩ := id hS
    have hT := tot_le hD
    have e : bgn w o u n s st y = costN w o u y + w.sum * n * y + w.sum * s := by unfold bgn; rw [if_pos h1]
    refine ev_succ ?_
    simp only [impl_orderUpTo.l0, argm]
    rw [wid (x := y + 1) (by omega) (by omega)]
    refine ev_pos (by omega) (ev_bind (implCost_ev hD hc.1 hc.2 (by omega)) (ev_bind (distTotal_ev hD) (ev_pos h1 (ev_bind (distTotal_ev hD) ?_))))
    rw [wid (x := w.sum * n) (by omega) (by omega), wid (x := w.sum * n * y) (by omega) (by omega), wid (x := w.sum * s) (by omega) (by omega), wid (x := costN w o u y + w.sum * n * y) (by omega) (by omega), wid (x := costN w o u y + w.sum * n * y + w.sum * s) (by omega) (by omega), ← e]
    by_cases c : bgn w o u n s st y < bgn w o u n s st b
    · rw [if_pos c]
      exact ev_pos c (ih (y + 1) y (by omega) (by omega) (by omega) (by omega))
    · rw [if_neg c]
      exact ev_neg c (ih (y + 1) b (by omega) (by omega) h2 h3)
/-- The stock with which a period is best begun. -/
def lvl (w : List Int) (o u n s st : Int) : Int := argm (bgn w o u n s st) (15 - st).toNat (st + 1) st
theorem implLevel_ev (st : Int) (hst : 0 ≤ st ∧ st ≤ 15) : Ev (fun k => impl_orderUpTo.f k w o u n s st) (lvl w o u n s st) := by
  obtain ⟨m1, m2, m3, m4, m5, m6, m7, m8, m9, m10⟩ := bgn_in hS (st := st) (y := st) hst
  obtain ⟨hD, hc, hn, hs⟩ := id hS
  have e : bgn w o u n s st st = costN w o u st + w.sum * n * st := by unfold bgn; rw [if_neg (by omega)]; omega
  unfold impl_orderUpTo.f lvl
  refine ev_succ ?_
  simp only [impl_orderUpTo.l0]
  rw [wid (x := st + 1) (by omega) (by omega)]
  refine ev_pos (by omega) (ev_bind (implCost_ev hD hc.1 hc.2 (by omega)) (ev_bind (distTotal_ev hD) (ev_neg (by omega) ?_)))
  rw [wid (x := w.sum * n) (by omega) (by omega), wid (x := w.sum * n * st) (by omega) (by omega), wid (x := costN w o u st + w.sum * n * st) (by omega) (by omega), ← e]
  exact ev_pos (by omega) (implLevel_l0 hS st hst (15 - st).toNat (st + 1) st (by omega) (by omega) (by omega) (by omega))
theorem specBegun_ev (st y : Int) (hy : 0 ≤ y ∧ y ≤ 15) : Ev (fun k => spec_l5Begun.f k w o u n s st y) (bgn w o u n s st y) := by
  obtain ⟨m1, m2, m3, m4, m5, m6, m7, m8, m9, m10⟩ := bgn_in hS (st := st) (y := y) hy
  obtain ⟨hD, hc, hn, hs⟩ := id hS
  unfold spec_l5Begun.f
  refine ev_bind (specCost_ev hD hc.1 hc.2 (by omega)) (ev_bind (specTotal_ev hD) ?_)
  rw [wid (x := w.sum * n) (by omega) (by omega), wid (x := w.sum * n * y) (by omega) (by omega), wid (x := costN w o u y + w.sum * n * y) (by omega) (by omega)]
  by_cases c : y > st
  · refine ev_pos c (ev_bind (specTotal_ev hD) (ev_cast (ev_some _) ?_))
    rw [wid (x := w.sum * s) (by omega) (by omega), wid (by omega) (by omega)]
    unfold bgn
    rw [if_pos c]
  · refine ev_neg c (ev_cast (ev_some _) ?_)
    unfold bgn
    rw [if_neg c]
    omega
theorem specLevel_l0 (st : Int) (hst : 0 ≤ st ∧ st ≤ 15) (d : Nat) : ∀ y b : Int, y + d = 16 → st < y → st ≤ b → b ≤ 15 → Ev (fun k => spec_l5Level.l0 k w o u n s st b y) (argm (bgn w o u n s st) d y b) := by
  induction d with
  | zero =>
    intro y b hy h1 h2 h3
    refine ev_succ ?_
    simp only [spec_l5Level.l0, argm]
    exact ev_neg (by omega) (ev_some _)
  | succ d ih =>
    intro y b hy h1 h2 h3
    refine ev_succ ?_
    simp only [spec_l5Level.l0, argm]
    rw [wid (x := y + 1) (by omega) (by omega)]
    refine ev_pos (by omega) (ev_bind (specBegun_ev hS st y (by omega)) (ev_bind (specBegun_ev hS st b (by omega)) ?_))
    by_cases c : bgn w o u n s st y < bgn w o u n s st b
    · rw [if_pos c]
      exact ev_pos c (ih (y + 1) y (by omega) (by omega) (by omega) (by omega))
    · rw [if_neg c]
      exact ev_neg c (ih (y + 1) b (by omega) (by omega) h2 h3)
theorem specLevel_ev (st : Int) (hst : 0 ≤ st ∧ st ≤ 15) : Ev (fun k => spec_l5Level.f k w o u n s st) (lvl w o u n s st) := by
  unfold spec_l5Level.f lvl
  rw [wid (x := st + 1) (by omega) (by omega)]
  exact specLevel_l0 hS st hst (15 - st).toNat (st + 1) st (by omega) (by omega) (by omega) (by omega)
omit hS in
theorem lvl_first (st : Int) (hst : 0 ≤ st ∧ st ≤ 15) : First (bgn w o u n s st) st 16 (lvl w o u n s st) := by
  have := argm_first (bgn w o u n s st) st (15 - st).toNat (st + 1) st (first_one _ _)
  rwa [show st + 1 + (((15 - st).toNat : Nat) : Int) = 16 by omega] at this
/-! Below a level that is raised all levels are raised to the same one. -/
def grad (w : List Int) (o u n y : Int) : Int := costN w o u y + w.sum * n * y
omit hS in
theorem bgn_above {st y : Int} (h : st < y) : bgn w o u n s st y = grad w o u n y + w.sum * s := by unfold bgn grad; rw [if_pos h]
omit hS in
theorem bgn_at (st : Int) : bgn w o u n s st st = grad w o u n st := by unfold bgn grad; rw [if_neg (by omega)]; omega
theorem grad_step {p q : Int} (h : p ≤ q) : grad w o u n (p + 1) - grad w o u n p ≤ grad w o u n (q + 1) - grad w o u n q := by
  obtain ⟨hD, hc, hn, hs⟩ := hS
  have h1 := cost_step hD o u p
  have h2 := cost_step hD o u q
  have h3 := Int.mul_le_mul_of_nonneg_left (upTo_mono hD h) (show 0 ≤ o + u by have := hc.1; have := hc.2; omega)
  have e1 : w.sum * n * (p + 1) - w.sum * n * p = w.sum * n := by grind
  have e2 : w.sum * n * (q + 1) - w.sum * n * q = w.sum * n := by grind
  unfold grad
  omega
theorem grad_up {p : Int} (h : grad w o u n p ≤ grad w o u n (p + 1)) (d : Nat) : grad w o u n p ≤ grad w o u n (p + d) := by
  induction d with
  | zero => simp
  | succ d ih =>
    have := grad_step hS (show p ≤ p + d by omega)
    rw [show p + ((d + 1 : Nat) : Int) = p + d + 1 by omega]
    omega
theorem grad_down {p : Int} (h : grad w o u n (p + 1) < grad w o u n p) (d : Nat) : grad w o u n p ≤ grad w o u n (p - d) := by
  induction d with
  | zero => simp
  | succ d ih =>
    have := grad_step hS (show p - ((d + 1 : Nat) : Int) ≤ p by omega)
    rw [show p - ((d + 1 : Nat) : Int) + 1 = p - d by omega] at this
    omega
theorem lvl_same (t : Int) (ht : 0 ≤ t ∧ t ≤ 15) (hr : t < lvl w o u n s t) (y : Int) (h0 : 0 ≤ y) (hy : y ≤ t) : lvl w o u n s y = lvl w o u n s t := by
  obtain ⟨a1, a2, a3⟩ := lvl_first (w := w) (o := o) (u := u) (n := n) (s := s) t ht
  obtain ⟨hD, hc, hn, hs⟩ := id hS
  have hT := tot_le hD
  have hK := Int.mul_nonneg (show 0 ≤ w.sum by omega) hs.1
  generalize hL : lvl w o u n s t = L at *
  have b1 := a3 t (by omega) hr
  rw [bgn_above hr, bgn_at] at b1
  have down : grad w o u n (t + 1) < grad w o u n t := by
    refine Decidable.byContradiction fun z => ?_
    have := grad_up hS (p := t) (by omega) (L - t).toNat
    rw [show t + ((L - t).toNat : Int) = L by omega] at this
    omega
  have left : ∀ j : Int, y ≤ j → j ≤ t → grad w o u n t ≤ grad w o u n j := fun j h1 h2 => by
    have := grad_down hS down (t - j).toNat
    rwa [show t - ((t - j).toNat : Int) = j by omega] at this
  refine first_unique (lvl_first (w := w) (o := o) (u := u) (n := n) (s := s) y ⟨h0, by omega⟩) ⟨⟨by omega, a1.2⟩, fun j h1 h2 => ?_, fun j h1 h2 => ?_⟩
  · rw [bgn_above (show y < L by omega)]
    by_cases e : j = y
    · rw [e, bgn_at]
      have := left y (Int.le_refl _) hy
      omega
    · rw [bgn_above (show y < j by omega)]
      by_cases c : j ≤ t
      · have := left j h1 c; omega
      · have := a2 j (by omega) h2
        rw [bgn_above hr, bgn_above (show t < j by omega)] at this
        exact this
  · rw [bgn_above (show y < L by omega)]
    by_cases e : j = y
    · rw [e, bgn_at]
      have := left y (Int.le_refl _) hy
      omega
    · rw [bgn_above (show y < j by omega)]
      by_cases c : j ≤ t
      · have := left j h1 c; omega
      · have := a3 j (by omega) h2
        rw [bgn_above hr, bgn_above (show t < j by omega)] at this
        exact this
end
/-- The greatest stock less than a number with which something is ordered, or -1. -/
def trig (w : List Int) (o u n s : Int) : Nat → Int
  | 0 => -1
  | m + 1 => if lvl w o u n s (m : Int) > (m : Int) then (m : Int) else trig w o u n s m
theorem trig_in (w : List Int) (o u n s : Int) (m : Nat) : -1 ≤ trig w o u n s m ∧ trig w o u n s m < m := by
  induction m with
  | zero => simp [trig]
  | succ m ih =>
    simp only [trig]
    split <;> omega
theorem trig_at (w : List Int) (o u n s : Int) (m : Nat) : (0 ≤ trig w o u n s m → lvl w o u n s (trig w o u n s m) > trig w o u n s m) ∧ ∀ y : Int, trig w o u n s m < y → 0 ≤ y → y < m → ¬ lvl w o u n s y > y := by
  induction m with
  | zero => exact ⟨fun h => by simp [trig] at h, fun y h1 h2 h3 => by omega⟩
  | succ m ih =>
    simp only [trig]
    by_cases c : lvl w o u n s (m : Int) > (m : Int)
    · rw [if_pos c]
      exact ⟨fun _ => c, fun y h1 h2 h3 => by omega⟩
    · rw [if_neg c]
      refine ⟨ih.1, fun y h1 h2 h3 => ?_⟩
      by_cases e : y = m
      · rw [e]; exact c
      · exact ih.2 y h1 h2 (by omega)
section
variable {w : List Int} {o u n s : Int} (hS : StOk w o u n s)
include hS
theorem implTrig_l0 (m : Nat) : m ≤ 16 → Ev (fun k => impl_TriggerLevel.l0 k w o u n s ((m : Int) - 1)) (trig w o u n s m, true) := by
  induction m with
  | zero =>
    intro _
    refine ev_succ ?_
    simp only [impl_TriggerLevel.l0, trig]
    exact ev_neg (by omega) (ev_some _)
  | succ m ih =>
    intro hm
    refine ev_succ ?_
    simp only [impl_TriggerLevel.l0, trig]
    rw [show ((m + 1 : Nat) : Int) - 1 = (m : Int) by omega, wid (x := (m : Int) - 1) (by omega) (by omega)]
    refine ev_pos (by omega) (ev_bind (implLevel_ev hS (m : Int) (by omega)) ?_)
    by_cases c : lvl w o u n s (m : Int) > (m : Int)
    · rw [if_pos c]
      exact ev_pos c (ev_some _)
    · rw [if_neg c]
      exact ev_neg c (ih (by omega))
theorem specTrig_l0 (d : Nat) : ∀ m : Nat, m + d = 16 → Ev (fun k => spec_TriggerLevel.l0 k w o u n s (trig w o u n s m) (m : Int)) (trig w o u n s 16, true) := by
  induction d with
  | zero =>
    intro m hm
    refine ev_succ ?_
    simp only [spec_TriggerLevel.l0]
    refine ev_neg (by omega) ?_
    rw [show m = 16 by omega]
    exact ev_some _
  | succ d ih =>
    intro m hm
    have q := ih (m + 1) (by omega)
    simp only [trig] at q
    refine ev_succ ?_
    simp only [spec_TriggerLevel.l0]
    rw [wid (x := (m : Int) + 1) (by omega) (by omega), show (m : Int) + 1 = ((m + 1 : Nat) : Int) by omega]
    refine ev_pos (by omega) (ev_bind (specLevel_ev hS (m : Int) (by omega)) ?_)
    by_cases c : lvl w o u n s (m : Int) > (m : Int)
    · rw [if_pos c] at q
      exact ev_pos c q
    · rw [if_neg c] at q
      exact ev_neg c q
end
def ordAns (w : List Int) (o u n s st : Int) : Int × Bool := if StOk w o u n s ∧ 0 ≤ st ∧ st ≤ 15 then (lvl w o u n s st, true) else (0, false)
theorem implOrd_ev (w : List Int) (o u n s st : Int) (hl : w.length ≤ 35184372088832) : Ev (fun k => impl_OrderUpTo.f k w o u n s st) (ordAns w o u n s st) := by
  unfold impl_OrderUpTo.f impl_isOrder.f ordAns
  simp only [within_eq, Option.bind_some]
  refine ev_bind (implStart_ev w o u n s hl) ?_
  by_cases c : StOk w o u n s
  · refine ev_pos (decide_eq_true c) ?_
    by_cases c2 : 0 ≤ st ∧ st ≤ 15
    · rw [if_pos ⟨c, c2⟩]
      exact ev_pos (decide_eq_true c2) (ev_bind (implLevel_ev c st c2) (ev_some _))
    · rw [if_neg fun x => c2 x.2]
      exact ev_neg (by rw [decide_eq_true_eq]; exact c2) (ev_some _)
  · rw [if_neg fun x => c x.1]
    exact ev_neg (by rw [decide_eq_true_eq]; exact c) (ev_some _)
theorem specOrd_ev (w : List Int) (o u n s st : Int) (hl : w.length ≤ 35184372088832) : Ev (fun k => spec_OrderUpTo.f k w o u n s st) (ordAns w o u n s st) := by
  unfold spec_OrderUpTo.f ordAns
  simp only [in_eq, Option.bind_some]
  refine ev_bind (specStart_ev w o u n s hl) ?_
  by_cases c : StOk w o u n s
  · refine ev_pos (decide_eq_true c) ?_
    by_cases c2 : 0 ≤ st ∧ st ≤ 15
    · rw [if_pos ⟨c, c2⟩]
      exact ev_pos (decide_eq_true c2) (ev_bind (specLevel_ev c st c2) (ev_some _))
    · rw [if_neg fun x => c2 x.2]
      exact ev_neg (by rw [decide_eq_true_eq]; exact c2) (ev_some _)
  · rw [if_neg fun x => c x.1]
    exact ev_neg (by rw [decide_eq_true_eq]; exact c) (ev_some _)
def trigAns (w : List Int) (o u n s : Int) : Int × Bool := if StOk w o u n s then (trig w o u n s 16, true) else (0, false)
theorem implTrig_ev (w : List Int) (o u n s : Int) (hl : w.length ≤ 35184372088832) : Ev (fun k => impl_TriggerLevel.f k w o u n s) (trigAns w o u n s) := by
  unfold impl_TriggerLevel.f trigAns
  refine ev_bind (implStart_ev w o u n s hl) ?_
  by_cases c : StOk w o u n s
  · rw [if_pos c]
    exact ev_pos (decide_eq_true c) (implTrig_l0 c 16 (by omega))
  · rw [if_neg c]
    exact ev_neg (by rw [decide_eq_true_eq]; exact c) (ev_some _)
theorem specTrig_ev (w : List Int) (o u n s : Int) (hl : w.length ≤ 35184372088832) : Ev (fun k => spec_TriggerLevel.f k w o u n s) (trigAns w o u n s) := by
  unfold spec_TriggerLevel.f trigAns
  refine ev_bind (specStart_ev w o u n s hl) ?_
  by_cases c : StOk w o u n s
  · rw [if_pos c]
    exact ev_pos (decide_eq_true c) (specTrig_l0 c 16 0 (by omega))
  · rw [if_neg c]
    exact ev_neg (by rw [decide_eq_true_eq]; exact c) (ev_some _)
theorem drawOrd_ok {code : List Int} (hc : CodeOk code) : ∃ w o u n s st, Ev (fun k => spec_DrawOrderUpTo.f k code) (w, o, u, n, s, st) ∧ w.length ≤ 17 := by
  obtain ⟨w, t1, s1, e1, l1, a1, b1⟩ := chances_ok hc 0 0 (by omega) (by omega)
  obtain ⟨o, t2, s2, e2, a2, b2⟩ := charge_ok hc t1 s1 (by omega) (by omega)
  obtain ⟨u, t3, s3, e3, a3, b3⟩ := charge_ok hc t2 s2 (by omega) (by omega)
  obtain ⟨n, t4, s4, e4, _, a4, b4⟩ := among_ok hc t3 s3 [0, 1, 2, 20, 21] (by omega) (by omega) (by decide) (by decide)
  obtain ⟨s, t5, s5, e5, _, a5, b5⟩ := among_ok hc t4 s4 [0, 2, 5, 30, 31] (by omega) (by omega) (by decide) (by decide)
  obtain ⟨st, t6, s6, e6⟩ := order5_ok hc t5 s5 (by omega) (by omega)
  refine ⟨w, o, u, n, s, st, ?_, l1⟩
  unfold spec_DrawOrderUpTo.f spec_newCur.f
  simp only [Option.bind_some]
  refine ev_bind e1 ?_
  simp only [e2, e3, e4, e5, e6, Option.bind_some]
  exact ev_some _
theorem drawTrig_ok {code : List Int} (hc : CodeOk code) : ∃ w o u n s, Ev (fun k => spec_DrawTriggerLevel.f k code) (w, o, u, n, s) ∧ w.length ≤ 17 := by
  obtain ⟨w, t1, s1, e1, l1, a1, b1⟩ := chances_ok hc 0 0 (by omega) (by omega)
  obtain ⟨o, t2, s2, e2, a2, b2⟩ := charge_ok hc t1 s1 (by omega) (by omega)
  obtain ⟨u, t3, s3, e3, a3, b3⟩ := charge_ok hc t2 s2 (by omega) (by omega)
  obtain ⟨n, t4, s4, e4, _, a4, b4⟩ := among_ok hc t3 s3 [0, 1, 2, 20, 21] (by omega) (by omega) (by decide) (by decide)
  obtain ⟨s, t5, s5, e5, _, a5, b5⟩ := among_ok hc t4 s4 [0, 2, 5, 30, 31] (by omega) (by omega) (by decide) (by decide)
  refine ⟨w, o, u, n, s, ?_, l1⟩
  unfold spec_DrawTriggerLevel.f spec_newCur.f
  simp only [Option.bind_some]
  refine ev_bind e1 ?_
  simp only [e2, e3, e4, e5, Option.bind_some]
  exact ev_some _
/-- The law's last loop: what is raised is raised to one level. -/
theorem law_l0 {w : List Int} {o u n s : Int} (hS : StOk w o u n s) (d : Nat) : ∀ y : Nat, y + d = 16 →
    Ev (fun k => laws_FnTriggers.l0 k w o u n s (trig w o u n s 16) (if 0 < y ∧ 0 ≤ trig w o u n s 16 then lvl w o u n s (trig w o u n s 16) else -1) (y : Int)) true := by
  have hT := trig_in w o u n s 16
  obtain ⟨hT1, hT2⟩ := trig_at w o u n s 16
  have hl := hS.1.1
  induction d with
  | zero =>
    intro y hy
    refine ev_succ ?_
    simp only [laws_FnTriggers.l0]
    exact ev_neg (by omega) (ev_some _)
  | succ d ih =>
    intro y hy
    have q := ih (y + 1) (by omega)
    have eo : ordAns w o u n s (y : Int) = (lvl w o u n s (y : Int), true) := if_pos ⟨hS, by omega, by omega⟩
    have lf := (lvl_first (w := w) (o := o) (u := u) (n := n) (s := s) (y : Int) (by omega)).1
    have hw : wrap64 ((y : Int) + 1) = ((y + 1 : Nat) : Int) := by rw [wid (by omega) (by omega)]; omega
    have io := implOrd_ev w o u n s (y : Int) (by omega)
    rw [eo] at io
    refine ev_succ ?_
    simp only [laws_FnTriggers.l0]
    refine ev_pos (by omega) (ev_bind io (ev_pos rfl (ev_succ ?_)))
    simp only [laws_FnTriggers.j4]
    rw [hw]
    generalize hTT : trig w o u n s 16 = T at *
    by_cases c : (y : Int) ≤ T
    · have h0 : 0 ≤ T := by omega
      have hr := hT1 h0
      have same := lvl_same hS T (by omega) hr (y : Int) (by omega) c
      rw [same]
      rw [if_pos ⟨Nat.succ_pos y, h0⟩] at q
      refine ev_neg (by rw [decide_eq_true (show lvl w o u n s T > (y : Int) by omega), decide_eq_true c]; simp) (ev_pos (by omega) ?_)
      by_cases z : 0 < y
      · rw [if_pos ⟨z, h0⟩]
        exact ev_pos (by omega) (ev_pos rfl q)
      · rw [if_neg fun x => z x.1]
        exact ev_neg (by omega) q
    · have no := hT2 (y : Int) (by omega) (by omega) (by omega)
      refine ev_neg (by rw [decide_eq_false no, decide_eq_false c]; simp) (ev_neg no ?_)
      have e : (if 0 < y ∧ 0 ≤ T then lvl w o u n s T else -1) = (if 0 < y + 1 ∧ 0 ≤ T then lvl w o u n s T else -1) := by
        by_cases z : 0 ≤ T
        · rw [if_pos ⟨by omega, z⟩, if_pos ⟨by omega, z⟩]
        · rw [if_neg fun x => z x.2, if_neg fun x => z x.2]
      rw [e]
      exact q
theorem law_j2 (w : List Int) (o u n s : Int) : Ev (fun k => laws_FnTriggers.j2 k w o u n s (trigAns w o u n s).1 (trigAns w o u n s).2) true := by
  refine ev_succ ?_
  simp only [laws_FnTriggers.j2]
  by_cases c : StOk w o u n s
  · have e : trigAns w o u n s = (trig w o u n s 16, true) := if_pos c
    rw [e]
    have := law_l0 c 16 0 (by omega)
    rw [if_neg (by omega)] at this
    exact ev_pos rfl this
  · have e : trigAns w o u n s = (0, false) := if_neg c
    rw [e]
    exact ev_neg (by simp) (ev_some _)
theorem FnTriggers (l0 : List Int) (hl0 : l0.length ≤ maxLen) (hw0 : ∀ x ∈ l0, (Lit.int .u8 x).wf = true) : ∃ k, laws_FnTriggers.f k l0 = some true := by
  refine Ev.rounds ?_
  unfold laws_FnTriggers.f laws_vBig.f
  simp only [Option.bind_some]
  by_cases big : (l0.length : Int) > 65536
  · exact ev_pos (decide_eq_true big) (ev_some _)
  refine ev_neg (by rw [decide_eq_true_eq]; exact big) ?_
  have hc := codeOk_of hw0
  obtain ⟨w, o, u, n, s, st, hd, hl⟩ := drawOrd_ok hc
  obtain ⟨c2, hv, hc2⟩ := vcut_ok hc (by omega) 1 (by omega) (by omega)
  obtain ⟨x, a, b, e, f, hd2, hl2⟩ := drawTrig_ok hc2
  refine ev_bind hd (ev_bind (implOrd_ev w o u n s st (by omega)) (ev_bind (specOrd_ev w o u n s st (by omega)) ?_))
  simp only [hv, Option.bind_some]
  refine ev_bind hd2 (ev_bind (implTrig_ev x a b e f (by omega)) (ev_bind (specTrig_ev x a b e f (by omega)) (ev_pos trivial (ev_neg (by simp) (ev_pos rfl (ev_neg (by simp) ?_))))))
  have j1 : ∀ v : Bool, (v = true → ∃ q, Ev (fun k => impl_CriticalOrder.f k w o u) q ∧ (st ≤ q.1 → (ordAns w o u n s st).1 = q.1)) → Ev (fun k => laws_FnTriggers.j1 k w o u st (ordAns w o u n s st).1 x a b e f (trigAns x a b e f).1 (trigAns x a b e f).2 v) true := fun v hv => by
    refine ev_succ ?_
    simp only [laws_FnTriggers.j1]
    cases v with
    | false => exact ev_neg (by simp) (law_j2 x a b e f)
    | true =>
      obtain ⟨q, hq, hq2⟩ := hv rfl
      refine ev_pos rfl (ev_bind hq ?_)
      by_cases z : st ≤ q.1
      · exact ev_pos z (ev_pos (hq2 z) (law_j2 x a b e f))
      · exact ev_neg z (law_j2 x a b e f)
  by_cases ok : StOk w o u n s ∧ 0 ≤ st ∧ st ≤ 15
  · have eo : ordAns w o u n s st = (lvl w o u n s st, true) := if_pos ok
    have lf := lvl_first (w := w) (o := o) (u := u) (n := n) (s := s) st ok.2
    rw [eo] at j1 ⊢
    refine ev_pos rfl (ev_succ ?_)
    simp only [laws_FnTriggers.j0]
    refine ev_neg (by rw [decide_eq_false (show ¬ lvl w o u n s st < st by have := lf.1; omega)]; simp) (ev_pos trivial ?_)
    by_cases s0 : s = 0
    · refine ev_pos s0 (j1 _ fun hn => ?_)
      have n0 : n = 0 := by simpa using hn
      obtain ⟨hD, hch, _, _⟩ := ok.1
      obtain ⟨q, hq⟩ := crit_ex hD (o := o) (u := u) hch.1.1 hch.2.1
      refine ⟨_, implCrit_yes hD hch hq, fun hle => ?_⟩
      refine first_unique lf ⟨⟨hle, by have := hq.2.1; have := hD.1; omega⟩, fun j h1 h2 => ?_, fun j h1 h2 => ?_⟩
      · have := crit_best hD hch.1.1 hch.2.1 hq j (by omega)
        unfold bgn
        simp only [s0, n0, Int.mul_zero, Int.zero_mul, Int.add_zero, ite_self]
        exact this
      · have := crit_left hD hq (q - j - 1).toNat j (by omega) (by omega)
        unfold bgn
        simp only [s0, n0, Int.mul_zero, Int.zero_mul, Int.add_zero, ite_self]
        exact this
    · exact ev_neg s0 (j1 false fun h => by simp at h)
  · have eo : ordAns w o u n s st = (0, false) := if_neg ok
    rw [eo] at j1 ⊢
    refine ev_neg (by simp) (ev_succ ?_)
    simp only [laws_FnTriggers.j0]
    exact ev_neg (by simp) (ev_neg (by simp) (j1 false fun h => by simp at h))

end Go.Proofs.Ytcohbmibpcgfaaa.Pure
