-- Made by wip/xprint.py: the print of the kit, called over a changed copy of what it reads.
-- PRINTED by print.py (a twelfth state) out of the translation. Not trusted: Lean checks it.
import Derived.WideKeyArr2
import Derived.Test.YtmbeagpnkfmlgaaMemo
import Derived.Test.YtmbeagpnkfmlgaaDyn
import Derived.Test.YtmbeagpnkfmlgaaXFnExactLimitSavesx0
import Derived.Test.YtmbeagpnkfmlgaaXFnExactLimitSavesx5
namespace Go.Proofs.Ytmbeagpnkfmlgaa.PFnExactLimitSaves
open Go.Proofs.Ytmbeagpnkfmlgaa.Memo
open Go.Proofs.Ytmbeagpnkfmlgaa.Dyn
attribute [local go_sem] run_mf events_mf
open Go.RowKit Go.Proofs.YtmbeagpnkfmlgaaW.PrintWords Go.Proofs.YtmbeagpnkfmlgaaW.PrintLast Go.Proofs.YtmbeagpnkfmlgaaW.PrintMore
attribute [local go_sem] max2_int min2_int max_two min_two max_three min_three max_four min_four   -- for this text's walks alone
set_option linter.unusedVariables false
set_option linter.unusedSimpArgs false

/-! ### impl_limitedAfter: function 34 -/
mutual
def impl_limitedAfter.j0 : Nat → Int → Int → Int → Int → Bool → Bool → List Int → List Int → List Int → List Int → Option (Int × Int × Int)
 | 0, _, _, _, _, _, _, _, _, _, _ => none
 | k + 1, x1, x2, x3, x4, x6, x26, x229000, x229001, x229002, x229003 => if x26 = true then (if x6 = true then (if x3 = 1 then (some (0, 0, 1099511627776)) else (impl_limitedAfter.j1 k x1 x2 1 x4 x229000 x229001 x229002 x229003)) else (impl_limitedAfter.j1 k x1 x2 1 x4 x229000 x229001 x229002 x229003)) else (impl_limitedAfter.j1 k x1 x2 x3 x4 x229000 x229001 x229002 x229003)
def impl_limitedAfter.j1 : Nat → Int → Int → Int → Int → List Int → List Int → List Int → List Int → Option (Int × Int × Int)
 | 0, _, _, _, _, _, _, _, _ => none
 | k + 1, x1, x2, x3, x4, x229000, x229001, x229002, x229003 => if 0 ≤ x1 then (if x1 < (x229000.length : Int) then (if (wrap64 (x2 + (wrap64 (x4 - (rd x229000 x1))))) < 0 then (some (0, 0, 1099511627776)) else (if x1 < (x229002.length : Int) then (if x1 < (x229003.length : Int) then (if x4 > 0 then (if x1 < (x229001.length : Int) then (if (wrap64 (x2 + (wrap64 (x4 - (rd x229000 x1))))) = 0 then (some (wrap64 (x2 + (wrap64 (x4 - (rd x229000 x1)))), 0, wrap64 ((wrap64 ((wrap64 ((rd x229002 x1) * x4)) + (wrap64 ((rd x229003 x1) * (wrap64 (x2 + (wrap64 (x4 - (rd x229000 x1))))))))) + (rd x229001 x1)))) else (some (wrap64 (x2 + (wrap64 (x4 - (rd x229000 x1)))), x3, wrap64 ((wrap64 ((wrap64 ((rd x229002 x1) * x4)) + (wrap64 ((rd x229003 x1) * (wrap64 (x2 + (wrap64 (x4 - (rd x229000 x1))))))))) + (rd x229001 x1))))) else (none)) else (if (wrap64 (x2 + (wrap64 (x4 - (rd x229000 x1))))) = 0 then (some (wrap64 (x2 + (wrap64 (x4 - (rd x229000 x1)))), 0, wrap64 ((wrap64 ((rd x229002 x1) * x4)) + (wrap64 ((rd x229003 x1) * (wrap64 (x2 + (wrap64 (x4 - (rd x229000 x1)))))))))) else (some (wrap64 (x2 + (wrap64 (x4 - (rd x229000 x1)))), x3, wrap64 ((wrap64 ((rd x229002 x1) * x4)) + (wrap64 ((rd x229003 x1) * (wrap64 (x2 + (wrap64 (x4 - (rd x229000 x1)))))))))))) else (none)) else (none))) else (none)) else (none)
end
def impl_limitedAfter.f (k : Nat) (l0_0 : List Int) (l0_1 : List Int) (l0_2 : List Int) (l0_3 : List Int) (a1 : Int) (a2 : Int) (a3 : Int) (a4 : Int) (l5 : List Int) (a6 : Bool) : Option (Int × Int × Int) := if a4 > 0 then (if 0 ≤ a1 then (if a1 < (l5.length : Int) then (impl_limitedAfter.j0 k a1 a2 a3 a4 a6 (decide (a4 < (rd l5 a1))) l0_0 l0_1 l0_2 l0_3) else (none)) else (none)) else (impl_limitedAfter.j0 k a1 a2 a3 a4 a6 false l0_0 l0_1 l0_2 l0_3)
theorem impl_limitedAfter.mono_l : ∀ k, (∀ y0 y1 y2 y3 y4 y5 y6 y7 y8 y9, LeO (impl_limitedAfter.j0 k y0 y1 y2 y3 y4 y5 y6 y7 y8 y9) (impl_limitedAfter.j0 (k + 1) y0 y1 y2 y3 y4 y5 y6 y7 y8 y9)) ∧ (∀ y0 y1 y2 y3 y4 y5 y6 y7, LeO (impl_limitedAfter.j1 k y0 y1 y2 y3 y4 y5 y6 y7) (impl_limitedAfter.j1 (k + 1) y0 y1 y2 y3 y4 y5 y6 y7))
 | 0 => ⟨fun _ _ _ _ _ _ _ _ _ _ r h => by simp [impl_limitedAfter.j0] at h, fun _ _ _ _ _ _ _ _ r h => by simp [impl_limitedAfter.j1] at h⟩
 | k + 1 => by
  obtain ⟨ih0, ih1⟩ := impl_limitedAfter.mono_l k
  refine ⟨?_, ?_⟩
  ·
   intro y0 y1 y2 y3 y4 y5 y6 y7 y8 y9
   unfold impl_limitedAfter.j0
   repeat' first
   | (with_reducible exact ih0 _ _ _ _ _ _ _ _ _ _)
   | (with_reducible exact ih1 _ _ _ _ _ _ _ _)
   | (with_reducible exact LeO.refl _)
   | (with_reducible exact LeO.none _)
   | (with_reducible refine LeO.ite ?_ ?_)
   | (with_reducible refine LeO.bind ?_ (fun _ => ?_))
   | exact ih0 _ _ _ _ _ _ _ _ _ _
   | exact ih1 _ _ _ _ _ _ _ _
   | exact LeO.none _
   | refine LeO.ite ?_ ?_
   | refine LeO.bind ?_ (fun _ => ?_)
  ·
   intro y0 y1 y2 y3 y4 y5 y6 y7
   unfold impl_limitedAfter.j1
   repeat' first
   | (with_reducible exact ih0 _ _ _ _ _ _ _ _ _ _)
   | (with_reducible exact ih1 _ _ _ _ _ _ _ _)
   | (with_reducible exact LeO.refl _)
   | (with_reducible exact LeO.none _)
   | (with_reducible refine LeO.ite ?_ ?_)
   | (with_reducible refine LeO.bind ?_ (fun _ => ?_))
   | exact ih0 _ _ _ _ _ _ _ _ _ _
   | exact ih1 _ _ _ _ _ _ _ _
   | exact LeO.none _
   | refine LeO.ite ?_ ?_
   | refine LeO.bind ?_ (fun _ => ?_)
theorem impl_limitedAfter.mono : ∀ a0 a1 a2 a3 a4 a5 a6 a7 a8 a9 k, LeO (impl_limitedAfter.f k a0 a1 a2 a3 a4 a5 a6 a7 a8 a9) (impl_limitedAfter.f (k + 1) a0 a1 a2 a3 a4 a5 a6 a7 a8 a9) := by
 intro a0 a1 a2 a3 a4 a5 a6 a7 a8 a9 k
 obtain ⟨ih0, ih1⟩ := impl_limitedAfter.mono_l k
 unfold impl_limitedAfter.f
 repeat' first
   | (with_reducible exact ih0 _ _ _ _ _ _ _ _ _ _)
   | (with_reducible exact ih1 _ _ _ _ _ _ _ _)
   | (with_reducible exact LeO.refl _)
   | (with_reducible exact LeO.none _)
   | (with_reducible refine LeO.ite ?_ ?_)
   | (with_reducible refine LeO.bind ?_ (fun _ => ?_))
   | exact ih0 _ _ _ _ _ _ _ _ _ _
   | exact ih1 _ _ _ _ _ _ _ _
   | exact LeO.none _
   | refine LeO.ite ?_ ?_
   | refine LeO.bind ?_ (fun _ => ?_)
set_option maxHeartbeats 8000000 in
set_option maxRecDepth 100000 in
theorem impl_limitedAfter.calls (k : Nat) (A0_0 : Option Addr) (c0_0 : Nat) (l0_0 : List Int) (A0_1 : Option Addr) (c0_1 : Nat) (l0_1 : List Int) (A0_2 : Option Addr) (c0_2 : Nat) (l0_2 : List Int) (A0_3 : Option Addr) (c0_3 : Nat) (l0_3 : List Int) (a1 : Int) (a2 : Int) (a3 : Int) (a4 : Int) (A5 : Option Addr) (c5 : Nat) (l5 : List Int) (a6 : Bool) (r1 : Int) (r2 : Int) (r3 : Int) (gl gm : Nat) (w : World) (hl : w.heap[gl]? = some (.cells #[.slice A0_0 l0_0.length c0_0, .slice A0_1 l0_1.length c0_1, .slice A0_2 l0_2.length c0_2, .slice A0_3 l0_3.length c0_3, .slice A5 l5.length c5, .bool a6, .map (some gm)] 52 (0, 0))) (hr0_0 : Kd.C (Kd.int .i64) w A0_0 l0_0.length l0_0) (hc0_0 : l0_0.length ≤ c0_0) (hr0_1 : Kd.C (Kd.int .i64) w A0_1 l0_1.length l0_1) (hc0_1 : l0_1.length ≤ c0_1) (hr0_2 : Kd.C (Kd.int .i64) w A0_2 l0_2.length l0_2) (hc0_2 : l0_2.length ≤ c0_2) (hr0_3 : Kd.C (Kd.int .i64) w A0_3 l0_3.length l0_3) (hc0_3 : l0_3.length ≤ c0_3) (hr5 : Kd.C (Kd.int .i64) w A5 l5.length l5) (hc5 : l5.length ≤ c5) (h : impl_limitedAfter.f k l0_0 l0_1 l0_2 l0_3 a1 a2 a3 a4 l5 a6 = some (r1, r2, r3)) :
  Calls Try.prog 34 #[.pointer (some ⟨gl, 0, none⟩), .int .i64 a1, .int .i64 a2, .int .i64 a3, .int .i64 a4] w fun e w' => e = .returned (.tuple #[.int .i64 r1, .int .i64 r2, .int .i64 r3]) ∧ Below w.heap.size w w' := by
 have BK210 := Aside0.mk hl
 have hw4_ : w.cell? ⟨gl, 4, none⟩ = some (.slice A5 l5.length c5) := (blk_cell hl 4).trans rfl
 have hw5_ : w.cell? ⟨gl, 5, none⟩ = some (.bool a6) := (blk_cell hl 5).trans rfl
 clear hl
 have HR0_0 := Aside0.mk hr0_0
 have HC0_0 := Aside0.mk hc0_0
 clear hr0_0 hc0_0
 have HR0_1 := Aside0.mk hr0_1
 have HC0_1 := Aside0.mk hc0_1
 clear hr0_1 hc0_1
 have HR0_2 := Aside0.mk hr0_2
 have HC0_2 := Aside0.mk hc0_2
 clear hr0_2 hc0_2
 have HR0_3 := Aside0.mk hr0_3
 have HC0_3 := Aside0.mk hc0_3
 clear hr0_3 hc0_3
 have HR5 := Aside0.mk hr5
 have HC5 := Aside0.mk hc5
 clear hr5 hc5
 have HB := Aside0.mk (Below.refl w.heap.size w)
 have H : (if a4 > 0 then (if 0 ≤ a1 then (if a1 < (l5.length : Int) then (impl_limitedAfter.j0 k a1 a2 a3 a4 a6 (decide (a4 < (rd l5 a1))) l0_0 l0_1 l0_2 l0_3) else (none)) else (none)) else (impl_limitedAfter.j0 k a1 a2 a3 a4 a6 false l0_0 l0_1 l0_2 l0_3)) = some (r1, r2, r3) := h
 clear h
 have HC8 := Aside0.mk H
 clear H
 go_enter Try.func34, Try.ntmps34
 go_upto_region 1 with (fail)
 repeat (go_quiet (fail); go_upto_region 1 with (fail))
 (try simp only [Act.put, List.setIfInBounds_toArray, List.set_cons_zero, List.set_cons_succ])
 go_cut [26] (fun v26 wc => ∃ (kq : Nat) (x26_7 : Bool), v26 = .bool x26_7 ∧ Aside0 (impl_limitedAfter.j0 kq a1 a2 a3 a4 a6 x26_7 l0_0 l0_1 l0_2 l0_3 = some (r1, r2, r3)) ∧ Aside0 (kq ≤ k) ∧ Aside0 (wc.heap[gl]? = some (.cells #[.slice A0_0 l0_0.length c0_0, .slice A0_1 l0_1.length c0_1, .slice A0_2 l0_2.length c0_2, .slice A0_3 l0_3.length c0_3, .slice A5 l5.length c5, .bool a6, .map (some gm)] 52 (0, 0))) ∧ Aside0 (Below w.heap.size w wc))
 case first =>
  have H := HC8.out
  clear HC8
  by_cases c10 : a4 > 0
  ·
   rw [if_pos c10] at H
   have c10b0 : decide (0 < a4) = true := decide_eq_true c10
   clear c10
   (first | rw [c10b0] | (simp only [i64_w, i32_w]; rw [c10b0]) | skip)
   by_cases c11 : 0 ≤ a1
   ·
    rw [if_pos c11] at H
    have c11b0 : decide (0 ≤ a1) = true := decide_eq_true c11
    clear c11
    by_cases c12 : a1 < (l5.length : Int)
    ·
     rw [if_pos c12] at H
     have c12b0 : decide (a1 < (l5.length : Int)) = true := decide_eq_true c12
     clear c12
     have H' := Aside0.mk H
     clear H
     have p229 : 0 ≤ (a1 : Int) := of_decide_eq_true (by first | (with_reducible assumption) | assumption)
     have q229 : a1 < (l5.length : Int) := of_decide_eq_true (by first | (with_reducible assumption) | assumption)
     obtain ⟨ad229, e229, hx229_0⟩ := Kd.at_int HR5.out a1 p229 q229
     cases e229
     replace hx229_0 := (HB.out.cell (World.block_lt_of_cell? w _ hx229_0)).trans hx229_0
     replace p229 := eq_true p229
     replace q229 := eq_true q229
     go_wp2
     repeat (go_quiet (fail); try go_wp2)
     go_meet
     case rel => exact ⟨_, (decide (a4 < (rd l5 a1))), (by first | rfl | (simp; done) | (simp [*]; done)), H', ⟨by first | omega | exact Nat.le_refl _⟩, ⟨by (with_reducible repeat (first | refine blk_drewN ?_ _ | refine blk_drew ?_ | refine blk_alloc ?_ _)); exact BK210.out⟩, ⟨by repeat (first | (with_reducible first | exact HB.out | apply below_alloc | apply pw_below_drewN | apply below_drew1) | exact HB.out)⟩⟩
    ·
     rw [if_neg c12] at H
     exact absurd H (by simp)
   ·
    rw [if_neg c11] at H
    exact absurd H (by simp)
  ·
   rw [if_neg c10] at H
   have c10b0 : decide (0 < a4) = false := decide_eq_false c10
   clear c10
   (first | rw [c10b0] | (simp only [i64_w, i32_w]; rw [c10b0]) | skip)
   have H' := Aside0.mk H
   clear H
   go_wp2
   repeat (go_quiet (fail); try go_wp2)
   go_meet
   case rel => exact ⟨_, (false), (by first | rfl | (simp; done) | (simp [*]; done)), H', ⟨by first | omega | exact Nat.le_refl _⟩, ⟨by (with_reducible repeat (first | refine blk_drewN ?_ _ | refine blk_drew ?_ | refine blk_alloc ?_ _)); exact BK210.out⟩, ⟨by repeat (first | (with_reducible first | exact HB.out | apply below_alloc | apply pw_below_drewN | apply below_drew1) | exact HB.out)⟩⟩
 case rest =>
  clear HC8
  try clear c1
  try clear p2
  try clear q2
  try clear hx2
  try clear c3
  try clear c5
  try clear c10
  try clear c10b0
  try clear c11
  try clear c11b0
  try clear c12
  try clear c12b0
  try clear hx229_0
  try clear p229
  try clear q229
  obtain ⟨kq, x26_7, rfl, HA, HJ7, BK210, HB⟩ := hcut
  have hk4_ : wc.cell? ⟨gl, 4, none⟩ = some (.slice A5 l5.length c5) := (blk_cell BK210.out 4).trans rfl
  have hk5_ : wc.cell? ⟨gl, 5, none⟩ = some (.bool a6) := (blk_cell BK210.out 5).trans rfl
  cases kq with
  | zero => exact absurd HA.out (by simp [impl_limitedAfter.j0])
  | succ kj7 =>
   have H := HA.out
   clear HA
   simp only [impl_limitedAfter.j0] at H
   have HC13 := Aside0.mk H
   clear H
   go_upto_if 26 with (fail)
   repeat (go_quiet (fail); go_upto_if 26 with (fail))
   go_cut [3] (fun v3 wc => ∃ (kq : Nat) (x3_12 : Int), v3 = .int .i64 x3_12 ∧ Aside0 (impl_limitedAfter.j1 kq a1 a2 x3_12 a4 l0_0 l0_1 l0_2 l0_3 = some (r1, r2, r3)) ∧ Aside0 (kq ≤ kj7) ∧ Aside0 (wc.heap[gl]? = some (.cells #[.slice A0_0 l0_0.length c0_0, .slice A0_1 l0_1.length c0_1, .slice A0_2 l0_2.length c0_2, .slice A0_3 l0_3.length c0_3, .slice A5 l5.length c5, .bool a6, .map (some gm)] 52 (0, 0))) ∧ Aside0 (Below w.heap.size w wc))
   case first =>
    have H := HC13.out
    clear HC13
    by_cases c14 : x26_7 = true
    ·
     subst c14
     have H1 : (if a6 = true then (if a3 = 1 then (some (0, 0, 1099511627776)) else (impl_limitedAfter.j1 kj7 a1 a2 1 a4 l0_0 l0_1 l0_2 l0_3)) else (impl_limitedAfter.j1 kj7 a1 a2 1 a4 l0_0 l0_1 l0_2 l0_3)) = some (r1, r2, r3) := by rw [if_pos rfl] at H; exact H
     clear H
     have H := H1
     clear H1
     by_cases c15 : a6 = true
     ·
      subst c15
      have H1 : (if a3 = 1 then (some (0, 0, 1099511627776)) else (impl_limitedAfter.j1 kj7 a1 a2 1 a4 l0_0 l0_1 l0_2 l0_3)) = some (r1, r2, r3) := by rw [if_pos rfl] at H; exact H
      clear H
      have H := H1
      clear H1
      by_cases c16 : a3 = 1
      ·
       rw [if_pos c16] at H
       have c16b0 : (a3 == 1) = true := beq_iff_eq.mpr c16
       have c16b1 : (a3 != 1) = false := bne_eq_false_iff_eq.mpr c16
       clear c16
       (first | rw [c16b0] | (simp only [i64_w, i32_w]; rw [c16b0]) | skip)
       simp only [Option.some.injEq, Prod.mk.injEq] at H
       obtain ⟨rfl, rfl, rfl⟩ := H
       go_wp2
       repeat (go_quiet (fail); try go_wp2)
       go_ret3
       exact ⟨by first | rfl | (simp [errW_none, errW_some] <;> rfl) | (simp [*, errW_none, errW_some] <;> rfl), by repeat (first | (with_reducible first | exact HB.out | apply below_alloc | apply pw_below_drewN | apply below_drew1) | exact HB.out)⟩
      ·
       rw [if_neg c16] at H
       have c16b0 : (a3 == 1) = false := beq_eq_false_iff_ne.mpr c16
       have c16b1 : (a3 != 1) = true := bne_iff_ne.mpr c16
       (first | rw [c16b0] | (simp only [i64_w, i32_w]; rw [c16b0]) | skip)
       have H' := Aside0.mk H
       clear H
       go_wp2
       repeat (go_quiet (fail); try go_wp2)
       go_meet
       case rel => exact ⟨_, (1), (by first | rfl | (simp; done) | (simp [*]; done)), H', ⟨by have := HJ7.out; first | omega | exact Nat.le_refl _⟩, ⟨by (with_reducible repeat (first | refine blk_drewN ?_ _ | refine blk_drew ?_ | refine blk_alloc ?_ _)); exact BK210.out⟩, ⟨by repeat (first | (with_reducible first | exact HB.out | apply below_alloc | apply pw_below_drewN | apply below_drew1) | exact HB.out)⟩⟩
     ·
      replace c15 := Bool.eq_false_iff.mpr c15
      subst c15
      have H1 : (impl_limitedAfter.j1 kj7 a1 a2 1 a4 l0_0 l0_1 l0_2 l0_3) = some (r1, r2, r3) := by rw [if_neg (show ¬ (false = true) by decide)] at H; exact H
      clear H
      have H := H1
      clear H1
      have H' := Aside0.mk H
      clear H
      go_wp2
      repeat (go_quiet (fail); try go_wp2)
      go_meet
      case rel => exact ⟨_, (1), (by first | rfl | (simp; done) | (simp [*]; done)), H', ⟨by have := HJ7.out; first | omega | exact Nat.le_refl _⟩, ⟨by (with_reducible repeat (first | refine blk_drewN ?_ _ | refine blk_drew ?_ | refine blk_alloc ?_ _)); exact BK210.out⟩, ⟨by repeat (first | (with_reducible first | exact HB.out | apply below_alloc | apply pw_below_drewN | apply below_drew1) | exact HB.out)⟩⟩
    ·
     replace c14 := Bool.eq_false_iff.mpr c14
     subst c14
     have H1 : (impl_limitedAfter.j1 kj7 a1 a2 a3 a4 l0_0 l0_1 l0_2 l0_3) = some (r1, r2, r3) := by rw [if_neg (show ¬ (false = true) by decide)] at H; exact H
     clear H
     have H := H1
     clear H1
     have H' := Aside0.mk H
     clear H
     go_wp2
     repeat (go_quiet (fail); try go_wp2)
     go_meet
     case rel => exact ⟨_, (a3), (by first | rfl | (simp; done) | (simp [*]; done)), H', ⟨by have := HJ7.out; first | omega | exact Nat.le_refl _⟩, ⟨by (with_reducible repeat (first | refine blk_drewN ?_ _ | refine blk_drew ?_ | refine blk_alloc ?_ _)); exact BK210.out⟩, ⟨by repeat (first | (with_reducible first | exact HB.out | apply below_alloc | apply pw_below_drewN | apply below_drew1) | exact HB.out)⟩⟩
   case rest =>
    clear HC13
    try clear c1
    try clear p2
    try clear q2
    try clear hx2
    try clear c3
    try clear c5
    try clear c10
    try clear c10b0
    try clear c11
    try clear c11b0
    try clear c12
    try clear c12b0
    try clear c14
    try clear c15
    try clear c16
    try clear c16b0
    try clear c16b1
    try clear hx229_0
    try clear p2
    try clear p229
    try clear q2
    try clear q229
    obtain ⟨kq, x3_12, rfl, HA, HJ12, BK210, HB⟩ := hcut
    cases kq with
    | zero => exact absurd HA.out (by simp [impl_limitedAfter.j1])
    | succ kj12 =>
     have H := HA.out
     clear HA
     simp only [impl_limitedAfter.j1] at H
     by_cases c17 : 0 ≤ a1
     ·
      rw [if_pos c17] at H
      have c17b0 : decide (0 ≤ a1) = true := decide_eq_true c17
      clear c17
      by_cases c18 : a1 < (l0_0.length : Int)
      ·
       rw [if_pos c18] at H
       have c18b0 : decide (a1 < (l0_0.length : Int)) = true := decide_eq_true c18
       clear c18
       by_cases c19 : (wrap64 (a2 + (wrap64 (a4 - (rd l0_0 a1))))) < 0
       ·
        rw [if_pos c19] at H
        have c19b0 : decide ((wrap64 (a2 + (wrap64 (a4 - (rd l0_0 a1))))) < 0) = true := decide_eq_true c19
        clear c19
        simp only [Option.some.injEq, Prod.mk.injEq] at H
        obtain ⟨rfl, rfl, rfl⟩ := H
        have hcz20_0 : wc.cell? ⟨gl, 0, none⟩ = some (.slice A0_0 l0_0.length c0_0) := (blk_cell BK210.out 0).trans rfl
        have hcz20_1 : wc.cell? ⟨gl, 1, none⟩ = some (.slice A0_1 l0_1.length c0_1) := (blk_cell BK210.out 1).trans rfl
        have hcz20_2 : wc.cell? ⟨gl, 2, none⟩ = some (.slice A0_2 l0_2.length c0_2) := (blk_cell BK210.out 2).trans rfl
        have hcz20_3 : wc.cell? ⟨gl, 3, none⟩ = some (.slice A0_3 l0_3.length c0_3) := (blk_cell BK210.out 3).trans rfl
        have hfz20_0 := blk_frozen BK210.out 0
        have hfz20_1 := blk_frozen BK210.out 1
        have hfz20_2 := blk_frozen BK210.out 2
        have hfz20_3 := blk_frozen BK210.out 3
        have p230 : 0 ≤ (a1 : Int) := of_decide_eq_true (by first | (with_reducible assumption) | assumption)
        have q230 : a1 < (l0_0.length : Int) := of_decide_eq_true (by first | (with_reducible assumption) | assumption)
        obtain ⟨ad230, e230, hx230_0⟩ := Kd.at_int HR0_0.out a1 p230 q230
        cases e230
        replace hx230_0 := (HB.out.cell (World.block_lt_of_cell? w _ hx230_0)).trans hx230_0
        replace p230 := eq_true p230
        replace q230 := eq_true q230
        go_wp2
        repeat (go_quiet (fail); try go_wp2)
        go_ret3
        exact ⟨by first | rfl | (simp [errW_none, errW_some] <;> rfl) | (simp [*, errW_none, errW_some] <;> rfl), by repeat (first | (with_reducible first | exact HB.out | apply below_alloc | apply pw_below_drewN | apply below_drew1) | exact HB.out)⟩
       ·
        rw [if_neg c19] at H
        have c19b0 : decide ((wrap64 (a2 + (wrap64 (a4 - (rd l0_0 a1))))) < 0) = false := decide_eq_false c19
        clear c19
        by_cases c21 : a1 < (l0_2.length : Int)
        ·
         rw [if_pos c21] at H
         have c21b0 : decide (a1 < (l0_2.length : Int)) = true := decide_eq_true c21
         clear c21
         by_cases c22 : a1 < (l0_3.length : Int)
         ·
          rw [if_pos c22] at H
          have c22b0 : decide (a1 < (l0_3.length : Int)) = true := decide_eq_true c22
          clear c22
          by_cases c23 : a4 > 0
          ·
           rw [if_pos c23] at H
           have c23b0 : decide (0 < a4) = true := decide_eq_true c23
           clear c23
           by_cases c24 : a1 < (l0_1.length : Int)
           ·
            rw [if_pos c24] at H
            have c24b0 : decide (a1 < (l0_1.length : Int)) = true := decide_eq_true c24
            clear c24
            by_cases c25 : (wrap64 (a2 + (wrap64 (a4 - (rd l0_0 a1))))) = 0
            ·
             rw [if_pos c25] at H
             have c25b0 : ((wrap64 (a2 + (wrap64 (a4 - (rd l0_0 a1))))) == 0) = true := beq_iff_eq.mpr c25
             have c25b1 : ((wrap64 (a2 + (wrap64 (a4 - (rd l0_0 a1))))) != 0) = false := bne_eq_false_iff_eq.mpr c25
             clear c25
             simp only [Option.some.injEq, Prod.mk.injEq] at H
             obtain ⟨rfl, rfl, rfl⟩ := H
             have hcz26_0 : wc.cell? ⟨gl, 0, none⟩ = some (.slice A0_0 l0_0.length c0_0) := (blk_cell BK210.out 0).trans rfl
             have hcz26_1 : wc.cell? ⟨gl, 1, none⟩ = some (.slice A0_1 l0_1.length c0_1) := (blk_cell BK210.out 1).trans rfl
             have hcz26_2 : wc.cell? ⟨gl, 2, none⟩ = some (.slice A0_2 l0_2.length c0_2) := (blk_cell BK210.out 2).trans rfl
             have hcz26_3 : wc.cell? ⟨gl, 3, none⟩ = some (.slice A0_3 l0_3.length c0_3) := (blk_cell BK210.out 3).trans rfl
             have hfz26_0 := blk_frozen BK210.out 0
             have hfz26_1 := blk_frozen BK210.out 1
             have hfz26_2 := blk_frozen BK210.out 2
             have hfz26_3 := blk_frozen BK210.out 3
             have p230 : 0 ≤ (a1 : Int) := of_decide_eq_true (by first | (with_reducible assumption) | assumption)
             have q230 : a1 < (l0_0.length : Int) := of_decide_eq_true (by first | (with_reducible assumption) | assumption)
             obtain ⟨ad230, e230, hx230_0⟩ := Kd.at_int HR0_0.out a1 p230 q230
             cases e230
             replace hx230_0 := (HB.out.cell (World.block_lt_of_cell? w _ hx230_0)).trans hx230_0
             replace p230 := eq_true p230
             replace q230 := eq_true q230
             have p231 : 0 ≤ (a1 : Int) := of_decide_eq_true (by first | (with_reducible assumption) | assumption)
             have q231 : a1 < (l0_2.length : Int) := of_decide_eq_true (by first | (with_reducible assumption) | assumption)
             obtain ⟨ad231, e231, hx231_0⟩ := Kd.at_int HR0_2.out a1 p231 q231
             cases e231
             replace hx231_0 := (HB.out.cell (World.block_lt_of_cell? w _ hx231_0)).trans hx231_0
             replace p231 := eq_true p231
             replace q231 := eq_true q231
             have p232 : 0 ≤ (a1 : Int) := of_decide_eq_true (by first | (with_reducible assumption) | assumption)
             have q232 : a1 < (l0_3.length : Int) := of_decide_eq_true (by first | (with_reducible assumption) | assumption)
             obtain ⟨ad232, e232, hx232_0⟩ := Kd.at_int HR0_3.out a1 p232 q232
             cases e232
             replace hx232_0 := (HB.out.cell (World.block_lt_of_cell? w _ hx232_0)).trans hx232_0
             replace p232 := eq_true p232
             replace q232 := eq_true q232
             have p233 : 0 ≤ (a1 : Int) := of_decide_eq_true (by first | (with_reducible assumption) | assumption)
             have q233 : a1 < (l0_1.length : Int) := of_decide_eq_true (by first | (with_reducible assumption) | assumption)
             obtain ⟨ad233, e233, hx233_0⟩ := Kd.at_int HR0_1.out a1 p233 q233
             cases e233
             replace hx233_0 := (HB.out.cell (World.block_lt_of_cell? w _ hx233_0)).trans hx233_0
             replace p233 := eq_true p233
             replace q233 := eq_true q233
             go_wp2
             repeat (go_quiet (fail); try go_wp2)
             go_ret3
             exact ⟨by first | rfl | (simp [errW_none, errW_some] <;> rfl) | (simp [*, errW_none, errW_some] <;> rfl), by repeat (first | (with_reducible first | exact HB.out | apply below_alloc | apply pw_below_drewN | apply below_drew1) | exact HB.out)⟩
            ·
             rw [if_neg c25] at H
             have c25b0 : ((wrap64 (a2 + (wrap64 (a4 - (rd l0_0 a1))))) == 0) = false := beq_eq_false_iff_ne.mpr c25
             have c25b1 : ((wrap64 (a2 + (wrap64 (a4 - (rd l0_0 a1))))) != 0) = true := bne_iff_ne.mpr c25
             simp only [Option.some.injEq, Prod.mk.injEq] at H
             obtain ⟨rfl, rfl, rfl⟩ := H
             have hcz27_0 : wc.cell? ⟨gl, 0, none⟩ = some (.slice A0_0 l0_0.length c0_0) := (blk_cell BK210.out 0).trans rfl
             have hcz27_1 : wc.cell? ⟨gl, 1, none⟩ = some (.slice A0_1 l0_1.length c0_1) := (blk_cell BK210.out 1).trans rfl
             have hcz27_2 : wc.cell? ⟨gl, 2, none⟩ = some (.slice A0_2 l0_2.length c0_2) := (blk_cell BK210.out 2).trans rfl
             have hcz27_3 : wc.cell? ⟨gl, 3, none⟩ = some (.slice A0_3 l0_3.length c0_3) := (blk_cell BK210.out 3).trans rfl
             have hfz27_0 := blk_frozen BK210.out 0
             have hfz27_1 := blk_frozen BK210.out 1
             have hfz27_2 := blk_frozen BK210.out 2
             have hfz27_3 := blk_frozen BK210.out 3
             have p230 : 0 ≤ (a1 : Int) := of_decide_eq_true (by first | (with_reducible assumption) | assumption)
             have q230 : a1 < (l0_0.length : Int) := of_decide_eq_true (by first | (with_reducible assumption) | assumption)
             obtain ⟨ad230, e230, hx230_0⟩ := Kd.at_int HR0_0.out a1 p230 q230
             cases e230
             replace hx230_0 := (HB.out.cell (World.block_lt_of_cell? w _ hx230_0)).trans hx230_0
             replace p230 := eq_true p230
             replace q230 := eq_true q230
             have p231 : 0 ≤ (a1 : Int) := of_decide_eq_true (by first | (with_reducible assumption) | assumption)
             have q231 : a1 < (l0_2.length : Int) := of_decide_eq_true (by first | (with_reducible assumption) | assumption)
             obtain ⟨ad231, e231, hx231_0⟩ := Kd.at_int HR0_2.out a1 p231 q231
             cases e231
             replace hx231_0 := (HB.out.cell (World.block_lt_of_cell? w _ hx231_0)).trans hx231_0
             replace p231 := eq_true p231
             replace q231 := eq_true q231
             have p232 : 0 ≤ (a1 : Int) := of_decide_eq_true (by first | (with_reducible assumption) | assumption)
             have q232 : a1 < (l0_3.length : Int) := of_decide_eq_true (by first | (with_reducible assumption) | assumption)
             obtain ⟨ad232, e232, hx232_0⟩ := Kd.at_int HR0_3.out a1 p232 q232
             cases e232
             replace hx232_0 := (HB.out.cell (World.block_lt_of_cell? w _ hx232_0)).trans hx232_0
             replace p232 := eq_true p232
             replace q232 := eq_true q232
             have p233 : 0 ≤ (a1 : Int) := of_decide_eq_true (by first | (with_reducible assumption) | assumption)
             have q233 : a1 < (l0_1.length : Int) := of_decide_eq_true (by first | (with_reducible assumption) | assumption)
             obtain ⟨ad233, e233, hx233_0⟩ := Kd.at_int HR0_1.out a1 p233 q233
             cases e233
             replace hx233_0 := (HB.out.cell (World.block_lt_of_cell? w _ hx233_0)).trans hx233_0
             replace p233 := eq_true p233
             replace q233 := eq_true q233
             go_wp2
             repeat (go_quiet (fail); try go_wp2)
             go_ret3
             exact ⟨by first | rfl | (simp [errW_none, errW_some] <;> rfl) | (simp [*, errW_none, errW_some] <;> rfl), by repeat (first | (with_reducible first | exact HB.out | apply below_alloc | apply pw_below_drewN | apply below_drew1) | exact HB.out)⟩
           ·
            rw [if_neg c24] at H
            exact absurd H (by simp)
          ·
           rw [if_neg c23] at H
           have c23b0 : decide (0 < a4) = false := decide_eq_false c23
           clear c23
           by_cases c28 : (wrap64 (a2 + (wrap64 (a4 - (rd l0_0 a1))))) = 0
           ·
            rw [if_pos c28] at H
            have c28b0 : ((wrap64 (a2 + (wrap64 (a4 - (rd l0_0 a1))))) == 0) = true := beq_iff_eq.mpr c28
            have c28b1 : ((wrap64 (a2 + (wrap64 (a4 - (rd l0_0 a1))))) != 0) = false := bne_eq_false_iff_eq.mpr c28
            clear c28
            simp only [Option.some.injEq, Prod.mk.injEq] at H
            obtain ⟨rfl, rfl, rfl⟩ := H
            have hcz29_0 : wc.cell? ⟨gl, 0, none⟩ = some (.slice A0_0 l0_0.length c0_0) := (blk_cell BK210.out 0).trans rfl
            have hcz29_1 : wc.cell? ⟨gl, 1, none⟩ = some (.slice A0_1 l0_1.length c0_1) := (blk_cell BK210.out 1).trans rfl
            have hcz29_2 : wc.cell? ⟨gl, 2, none⟩ = some (.slice A0_2 l0_2.length c0_2) := (blk_cell BK210.out 2).trans rfl
            have hcz29_3 : wc.cell? ⟨gl, 3, none⟩ = some (.slice A0_3 l0_3.length c0_3) := (blk_cell BK210.out 3).trans rfl
            have hfz29_0 := blk_frozen BK210.out 0
            have hfz29_1 := blk_frozen BK210.out 1
            have hfz29_2 := blk_frozen BK210.out 2
            have hfz29_3 := blk_frozen BK210.out 3
            have p230 : 0 ≤ (a1 : Int) := of_decide_eq_true (by first | (with_reducible assumption) | assumption)
            have q230 : a1 < (l0_0.length : Int) := of_decide_eq_true (by first | (with_reducible assumption) | assumption)
            obtain ⟨ad230, e230, hx230_0⟩ := Kd.at_int HR0_0.out a1 p230 q230
            cases e230
            replace hx230_0 := (HB.out.cell (World.block_lt_of_cell? w _ hx230_0)).trans hx230_0
            replace p230 := eq_true p230
            replace q230 := eq_true q230
            have p231 : 0 ≤ (a1 : Int) := of_decide_eq_true (by first | (with_reducible assumption) | assumption)
            have q231 : a1 < (l0_2.length : Int) := of_decide_eq_true (by first | (with_reducible assumption) | assumption)
            obtain ⟨ad231, e231, hx231_0⟩ := Kd.at_int HR0_2.out a1 p231 q231
            cases e231
            replace hx231_0 := (HB.out.cell (World.block_lt_of_cell? w _ hx231_0)).trans hx231_0
            replace p231 := eq_true p231
            replace q231 := eq_true q231
            have p232 : 0 ≤ (a1 : Int) := of_decide_eq_true (by first | (with_reducible assumption) | assumption)
            have q232 : a1 < (l0_3.length : Int) := of_decide_eq_true (by first | (with_reducible assumption) | assumption)
            obtain ⟨ad232, e232, hx232_0⟩ := Kd.at_int HR0_3.out a1 p232 q232
            cases e232
            replace hx232_0 := (HB.out.cell (World.block_lt_of_cell? w _ hx232_0)).trans hx232_0
            replace p232 := eq_true p232
            replace q232 := eq_true q232
            go_wp2
            repeat (go_quiet (fail); try go_wp2)
            go_ret3
            exact ⟨by first | rfl | (simp [errW_none, errW_some] <;> rfl) | (simp [*, errW_none, errW_some] <;> rfl), by repeat (first | (with_reducible first | exact HB.out | apply below_alloc | apply pw_below_drewN | apply below_drew1) | exact HB.out)⟩
           ·
            rw [if_neg c28] at H
            have c28b0 : ((wrap64 (a2 + (wrap64 (a4 - (rd l0_0 a1))))) == 0) = false := beq_eq_false_iff_ne.mpr c28
            have c28b1 : ((wrap64 (a2 + (wrap64 (a4 - (rd l0_0 a1))))) != 0) = true := bne_iff_ne.mpr c28
            simp only [Option.some.injEq, Prod.mk.injEq] at H
            obtain ⟨rfl, rfl, rfl⟩ := H
            have hcz30_0 : wc.cell? ⟨gl, 0, none⟩ = some (.slice A0_0 l0_0.length c0_0) := (blk_cell BK210.out 0).trans rfl
            have hcz30_1 : wc.cell? ⟨gl, 1, none⟩ = some (.slice A0_1 l0_1.length c0_1) := (blk_cell BK210.out 1).trans rfl
            have hcz30_2 : wc.cell? ⟨gl, 2, none⟩ = some (.slice A0_2 l0_2.length c0_2) := (blk_cell BK210.out 2).trans rfl
            have hcz30_3 : wc.cell? ⟨gl, 3, none⟩ = some (.slice A0_3 l0_3.length c0_3) := (blk_cell BK210.out 3).trans rfl
            have hfz30_0 := blk_frozen BK210.out 0
            have hfz30_1 := blk_frozen BK210.out 1
            have hfz30_2 := blk_frozen BK210.out 2
            have hfz30_3 := blk_frozen BK210.out 3
            have p230 : 0 ≤ (a1 : Int) := of_decide_eq_true (by first | (with_reducible assumption) | assumption)
            have q230 : a1 < (l0_0.length : Int) := of_decide_eq_true (by first | (with_reducible assumption) | assumption)
            obtain ⟨ad230, e230, hx230_0⟩ := Kd.at_int HR0_0.out a1 p230 q230
            cases e230
            replace hx230_0 := (HB.out.cell (World.block_lt_of_cell? w _ hx230_0)).trans hx230_0
            replace p230 := eq_true p230
            replace q230 := eq_true q230
            have p231 : 0 ≤ (a1 : Int) := of_decide_eq_true (by first | (with_reducible assumption) | assumption)
            have q231 : a1 < (l0_2.length : Int) := of_decide_eq_true (by first | (with_reducible assumption) | assumption)
            obtain ⟨ad231, e231, hx231_0⟩ := Kd.at_int HR0_2.out a1 p231 q231
            cases e231
            replace hx231_0 := (HB.out.cell (World.block_lt_of_cell? w _ hx231_0)).trans hx231_0
            replace p231 := eq_true p231
            replace q231 := eq_true q231
            have p232 : 0 ≤ (a1 : Int) := of_decide_eq_true (by first | (with_reducible assumption) | assumption)
            have q232 : a1 < (l0_3.length : Int) := of_decide_eq_true (by first | (with_reducible assumption) | assumption)
            obtain ⟨ad232, e232, hx232_0⟩ := Kd.at_int HR0_3.out a1 p232 q232
            cases e232
            replace hx232_0 := (HB.out.cell (World.block_lt_of_cell? w _ hx232_0)).trans hx232_0
            replace p232 := eq_true p232
            replace q232 := eq_true q232
            go_wp2
            repeat (go_quiet (fail); try go_wp2)
            go_ret3
            exact ⟨by first | rfl | (simp [errW_none, errW_some] <;> rfl) | (simp [*, errW_none, errW_some] <;> rfl), by repeat (first | (with_reducible first | exact HB.out | apply below_alloc | apply pw_below_drewN | apply below_drew1) | exact HB.out)⟩
         ·
          rw [if_neg c22] at H
          exact absurd H (by simp)
        ·
         rw [if_neg c21] at H
         exact absurd H (by simp)
      ·
       rw [if_neg c18] at H
       exact absurd H (by simp)
     ·
      rw [if_neg c17] at H
      exact absurd H (by simp)

/-! ### impl_limitedWith: function 33 -/
/-! ### impl_limitedLeast: function 32 -/
/- (ours: least and with call one another; the memory of answers is a map) -/
mutual
def impl_limitedLeast.l0 : Nat → Int → Int → Int → List Int → Bool → Int → Int → Int → List Int → List Int → List Int → List Int → Option (Int)
 | 0, _, _, _, _, _, _, _, _, _, _, _, _ => none
 | k + 1, x1, x2, x3, x4, x5, x12, x56, x57, y0, y1, y2, y3 => if x57 < x56 then ((impl_limitedWith.f k y0 y1 y2 y3 x1 x2 x3 x57 x4 x5).bind fun t220 => (impl_limitedLeast.l0 k x1 x2 x3 x4 x5 (mn x12 t220) x56 (wrap64 (x57 + 1)) y0 y1 y2 y3)) else (some x12)
def impl_limitedLeast.f : Nat → List Int → List Int → List Int → List Int → Int → Int → Int → List Int → Bool → Option (Int)
 | 0, _, _, _, _, _, _, _, _, _ => none
 | k + 1, l0_0, l0_1, l0_2, l0_3, a1, a2, a3, l4, a5 => if (0 ≤ a1 ∧ a1 ≤ 8 ∧ 0 ≤ a2 ∧ a2 ≤ 1000 ∧ 0 ≤ a3 ∧ a3 ≤ 1) then (if a1 ≤ (l0_0.length : Int) then ((impl_total.f k (l0_0.drop (a1 : Int).toNat)).bind fun t218 => (if a2 > t218 then (some 1099511627776) else (if a1 = (l0_0.length : Int) then (some 0) else (if a1 < (l4.length : Int) then (impl_limitedLeast.l0 k a1 a2 a3 l4 a5 1099511627776 (wrap64 ((rd l4 a1) + 1)) 0 l0_0 l0_1 l0_2 l0_3) else (none))))) else (none)) else (none)
def impl_limitedWith.f : Nat → List Int → List Int → List Int → List Int → Int → Int → Int → Int → List Int → Bool → Option (Int)
 | 0, _, _, _, _, _, _, _, _, _, _ => none
 | k + 1, l0_0, l0_1, l0_2, l0_3, a1, a2, a3, a4, l5, a6 => (impl_limitedAfter.f k l0_0 l0_1 l0_2 l0_3 a1 a2 a3 a4 l5 a6).bind fun bt => (if bt.2.2 = 1099511627776 then (some 1099511627776) else ((impl_limitedLeast.f k l0_0 l0_1 l0_2 l0_3 (wrap64 (a1 + 1)) bt.1 bt.2.1 l5 a6).bind fun t => (some (mn 1099511627776 (wrap64 (bt.2.2 + t))))))
end
theorem impl_limitedLeast.mono_l : ∀ k, (∀ y0 y1 y2 y3 y4 y5 y6 y7 y8, LeO (impl_limitedLeast.f k y0 y1 y2 y3 y4 y5 y6 y7 y8) (impl_limitedLeast.f (k + 1) y0 y1 y2 y3 y4 y5 y6 y7 y8)) ∧ (∀ y0 y1 y2 y3 y4 y5 y6 y7 y8 y9 y10 y11, LeO (impl_limitedLeast.l0 k y0 y1 y2 y3 y4 y5 y6 y7 y8 y9 y10 y11) (impl_limitedLeast.l0 (k + 1) y0 y1 y2 y3 y4 y5 y6 y7 y8 y9 y10 y11)) ∧ (∀ y0 y1 y2 y3 y4 y5 y6 y7 y8 y9, LeO (impl_limitedWith.f k y0 y1 y2 y3 y4 y5 y6 y7 y8 y9) (impl_limitedWith.f (k + 1) y0 y1 y2 y3 y4 y5 y6 y7 y8 y9))
 | 0 => ⟨fun _ _ _ _ _ _ _ _ _ r h => by simp [impl_limitedLeast.f] at h, fun _ _ _ _ _ _ _ _ _ _ _ _ r h => by simp [impl_limitedLeast.l0] at h, fun _ _ _ _ _ _ _ _ _ _ r h => by simp [impl_limitedWith.f] at h⟩
 | k + 1 => by
  obtain ⟨ih0, ih1, ih2⟩ := impl_limitedLeast.mono_l k
  refine ⟨?_, ?_, ?_⟩
  ·
   intro y0 y1 y2 y3 y4 y5 y6 y7 y8
   unfold impl_limitedLeast.f
   repeat' first
   | (with_reducible exact ih0 _ _ _ _ _ _ _ _ _)
   | (with_reducible exact ih1 _ _ _ _ _ _ _ _ _ _ _ _)
   | (with_reducible exact ih2 _ _ _ _ _ _ _ _ _ _)
   | (with_reducible exact impl_limitedAfter.mono _ _ _ _ _ _ _ _ _ _ _)
   | (with_reducible exact impl_total.mono _ _)
   | (with_reducible exact LeO.refl _)
   | (with_reducible exact LeO.none _)
   | (with_reducible refine LeO.ite ?_ ?_)
   | (with_reducible refine LeO.bind ?_ (fun _ => ?_))
   | exact ih0 _ _ _ _ _ _ _ _ _
   | exact ih1 _ _ _ _ _ _ _ _ _ _ _ _
   | exact ih2 _ _ _ _ _ _ _ _ _ _
   | exact LeO.none _
   | refine LeO.ite ?_ ?_
   | refine LeO.bind ?_ (fun _ => ?_)
  ·
   intro y0 y1 y2 y3 y4 y5 y6 y7 y8 y9 y10 y11
   unfold impl_limitedLeast.l0
   repeat' first
   | (with_reducible exact ih0 _ _ _ _ _ _ _ _ _)
   | (with_reducible exact ih1 _ _ _ _ _ _ _ _ _ _ _ _)
   | (with_reducible exact ih2 _ _ _ _ _ _ _ _ _ _)
   | (with_reducible exact impl_limitedAfter.mono _ _ _ _ _ _ _ _ _ _ _)
   | (with_reducible exact impl_total.mono _ _)
   | (with_reducible exact LeO.refl _)
   | (with_reducible exact LeO.none _)
   | (with_reducible refine LeO.ite ?_ ?_)
   | (with_reducible refine LeO.bind ?_ (fun _ => ?_))
   | exact ih0 _ _ _ _ _ _ _ _ _
   | exact ih1 _ _ _ _ _ _ _ _ _ _ _ _
   | exact ih2 _ _ _ _ _ _ _ _ _ _
   | exact LeO.none _
   | refine LeO.ite ?_ ?_
   | refine LeO.bind ?_ (fun _ => ?_)
  ·
   intro y0 y1 y2 y3 y4 y5 y6 y7 y8 y9
   unfold impl_limitedWith.f
   repeat' first
   | (with_reducible exact ih0 _ _ _ _ _ _ _ _ _)
   | (with_reducible exact ih1 _ _ _ _ _ _ _ _ _ _ _ _)
   | (with_reducible exact ih2 _ _ _ _ _ _ _ _ _ _)
   | (with_reducible exact impl_limitedAfter.mono _ _ _ _ _ _ _ _ _ _ _)
   | (with_reducible exact impl_total.mono _ _)
   | (with_reducible exact LeO.refl _)
   | (with_reducible exact LeO.none _)
   | (with_reducible refine LeO.ite ?_ ?_)
   | (with_reducible refine LeO.bind ?_ (fun _ => ?_))
   | exact ih0 _ _ _ _ _ _ _ _ _
   | exact ih1 _ _ _ _ _ _ _ _ _ _ _ _
   | exact ih2 _ _ _ _ _ _ _ _ _ _
   | exact LeO.none _
   | refine LeO.ite ?_ ?_
   | refine LeO.bind ?_ (fun _ => ?_)
theorem impl_limitedLeast.mono : ∀ a0 a1 a2 a3 a4 a5 a6 a7 a8 k, LeO (impl_limitedLeast.f k a0 a1 a2 a3 a4 a5 a6 a7 a8) (impl_limitedLeast.f (k + 1) a0 a1 a2 a3 a4 a5 a6 a7 a8) := fun a0 a1 a2 a3 a4 a5 a6 a7 a8 k => (impl_limitedLeast.mono_l k).1 a0 a1 a2 a3 a4 a5 a6 a7 a8
theorem impl_limitedWith.mono : ∀ a0 a1 a2 a3 a4 a5 a6 a7 a8 a9 k, LeO (impl_limitedWith.f k a0 a1 a2 a3 a4 a5 a6 a7 a8 a9) (impl_limitedWith.f (k + 1) a0 a1 a2 a3 a4 a5 a6 a7 a8 a9) := fun a0 a1 a2 a3 a4 a5 a6 a7 a8 a9 k => (impl_limitedLeast.mono_l k).2.2 a0 a1 a2 a3 a4 a5 a6 a7 a8 a9
theorem impl_limitedLeast.up {a0 a1 a2 a3 : List Int} {a4 a5 a6 : Int} {a7 : List Int} {a8 : Bool} {k k' : Nat} (h : k ≤ k') {r : Int} (e : impl_limitedLeast.f k a0 a1 a2 a3 a4 a5 a6 a7 a8 = some r) : impl_limitedLeast.f k' a0 a1 a2 a3 a4 a5 a6 a7 a8 = some r := by
 induction h with
 | refl => exact e
 | step _ ih => exact impl_limitedLeast.mono _ _ _ _ _ _ _ _ _ _ _ ih
theorem impl_limitedLeast.one {a0 a1 a2 a3 : List Int} {a4 a5 a6 : Int} {a7 : List Int} {a8 : Bool} {k k' : Nat} {r r' : Int} (e : impl_limitedLeast.f k a0 a1 a2 a3 a4 a5 a6 a7 a8 = some r) (e' : impl_limitedLeast.f k' a0 a1 a2 a3 a4 a5 a6 a7 a8 = some r') : r = r' :=
 Option.some.inj ((impl_limitedLeast.up (Nat.le_max_left k k') e).symm.trans (impl_limitedLeast.up (Nat.le_max_right k k') e'))
/-- What the memory of answers holds. -/
def LimG (l0_0 l0_1 l0_2 l0_3 l5 : List Int) (a6 : Bool) (i s p v : Int) : Prop := ∃ k, impl_limitedLeast.f k l0_0 l0_1 l0_2 l0_3 i s p l5 a6 = some v
theorem lim_arr : Go.WideMaps.ArrKey Try.prog 62 3 3 := ⟨Try.underlying62, by kernel_rfl, by kernel_rfl, by kernel_rfl⟩
theorem lim_keyed : Maps.Keyed Try.prog 62 := Maps.Keyed.of_law lim_arr.law
theorem lim_key {i s p : Int} (h : InR i s p) : ∃ kl, keyOf Try.prog 62 (key3 i s p) = some kl := by
 obtain ⟨a0, a1, b0, b1, c0, c1⟩ := h
 have w0 : (Lit.int .i64 i).wf = true := by simp only [Lit.wf, Bool.and_eq_true, decide_eq_true_eq]; exact (show -9223372036854775808 ≤ i ∧ i ≤ 9223372036854775807 by omega)
 have w1 : (Lit.int .i64 s).wf = true := by simp only [Lit.wf, Bool.and_eq_true, decide_eq_true_eq]; exact (show -9223372036854775808 ≤ s ∧ s ≤ 9223372036854775807 by omega)
 have w2 : (Lit.int .i64 p).wf = true := by simp only [Lit.wf, Bool.and_eq_true, decide_eq_true_eq]; exact (show -9223372036854775808 ≤ p ∧ p ≤ 9223372036854775807 by omega)
 obtain ⟨m, hm⟩ : ∃ m, Try.prog.types.size = m + 1 := ⟨Try.prog.types.size - 1, by have : 0 < Try.prog.types.size := of_decide_eq_true (by kernel_rfl); omega⟩
 have hk := lim_arr.keyType ⟨m, hm⟩
 have hu3 : Try.prog.underlying 3 = some (.int .i64) := Try.underlying3
 unfold keyOf key3
 simp [lim_arr.hu, hk, Value.formed, lim_arr.size, Value.cells, hm, Program.keyLits, lim_arr.one, hu3, w0, w1, w2, List.range_succ]
theorem lim_zero (w : World) : (zeroValue 3).run Try.prog w = .ok (.int .i64 0) w := by
 obtain ⟨i_, hi_, z_, _, _⟩ := info_parts info3
 simp [zeroValue, typeInfo, hi_, z_]
theorem limited_wf {k : Nat} {l0_0 l0_1 l0_2 l0_3 : List Int} {a1 a2 a3 a4 : Int} {l5 : List Int} {a6 : Bool} {r : Int} (h : impl_limitedWith.f k l0_0 l0_1 l0_2 l0_3 a1 a2 a3 a4 l5 a6 = some r) : -9223372036854775808 ≤ r ∧ r ≤ 9223372036854775807 := by
 cases k with
 | zero => exact absurd h (by simp [impl_limitedWith.f])
 | succ k =>
 simp only [impl_limitedWith.f] at h
 obtain ⟨⟨t1, t2, t3⟩, _, H⟩ := Option.bind_eq_some_iff.mp h
 by_cases c3 : t3 = 1099511627776
 ·
  rw [if_pos c3] at H
  obtain rfl := Option.some.inj H
  omega
 ·
  rw [if_neg c3] at H
  obtain ⟨t5, _, H⟩ := Option.bind_eq_some_iff.mp H
  obtain rfl := Option.some.inj H
  unfold mn wrap64
  split <;> omega
def impl_limitedLeast.T15 : Bool × List (List Nat × List Nat) := (true, [([], []), ([0], [0]), ([1], [1]), ([2], [2]), ([], []), ([], []), ([3, 4, 5, 0, 1, 2, 3, 4, 5], [3, 4, 5])])
def impl_limitedLeast.B15 : List Nat := [0, 1, 3, 7, 0, 0, 63]
theorem impl_limitedLeast.tab15 : rtab .any (opsOf Try.f32 15) = impl_limitedLeast.T15 := by kernel_rfl
theorem impl_limitedLeast.bits15 : waitsOk impl_limitedLeast.T15.2 impl_limitedLeast.B15 = true := by kernel_rfl
set_option maxHeartbeats 8000000 in
set_option maxRecDepth 100000 in
theorem limited_calls (gl gm : Nat) (A0_0 : Option Addr) (c0_0 : Nat) (l0_0 : List Int) (A0_1 : Option Addr) (c0_1 : Nat) (l0_1 : List Int) (A0_2 : Option Addr) (c0_2 : Nat) (l0_2 : List Int) (A0_3 : Option Addr) (c0_3 : Nat) (l0_3 : List Int) (A5 : Option Addr) (c5 : Nat) (l5 : List Int) (a6 : Bool) (w0 : World) (hgm : w0.heap.size ≤ gm) (hr0_0 : Kd.C (Kd.int .i64) w0 A0_0 l0_0.length l0_0) (hc0_0 : l0_0.length ≤ c0_0) (hr0_1 : Kd.C (Kd.int .i64) w0 A0_1 l0_1.length l0_1) (hc0_1 : l0_1.length ≤ c0_1) (hr0_2 : Kd.C (Kd.int .i64) w0 A0_2 l0_2.length l0_2) (hc0_2 : l0_2.length ≤ c0_2) (hr0_3 : Kd.C (Kd.int .i64) w0 A0_3 l0_3.length l0_3) (hc0_3 : l0_3.length ≤ c0_3) (hr5 : Kd.C (Kd.int .i64) w0 A5 l5.length l5) (hc5 : l5.length ≤ c5) (k : Nat) :
  (∀ (a1 a2 a3 r : Int) (w : World), Below w0.heap.size w0 w → w.heap[gl]? = some (.cells #[.slice A0_0 l0_0.length c0_0, .slice A0_1 l0_1.length c0_1, .slice A0_2 l0_2.length c0_2, .slice A0_3 l0_3.length c0_3, .slice A5 l5.length c5, .bool a6, .map (some gm)] 52 (0, 0)) → Memo Try.prog 62 3 w gm (LimG l0_0 l0_1 l0_2 l0_3 l5 a6) → impl_limitedLeast.f k l0_0 l0_1 l0_2 l0_3 a1 a2 a3 l5 a6 = some r → Calls Try.prog 32 #[.pointer (some ⟨gl, 0, none⟩), .int .i64 a1, .int .i64 a2, .int .i64 a3] w fun e w' => e = .returned (.int .i64 r) ∧ w.grownBy w' (some gm) ∧ Memo Try.prog 62 3 w' gm (LimG l0_0 l0_1 l0_2 l0_3 l5 a6)) ∧
  (∀ (a1 a2 a3 a4 r : Int) (w : World), Below w0.heap.size w0 w → w.heap[gl]? = some (.cells #[.slice A0_0 l0_0.length c0_0, .slice A0_1 l0_1.length c0_1, .slice A0_2 l0_2.length c0_2, .slice A0_3 l0_3.length c0_3, .slice A5 l5.length c5, .bool a6, .map (some gm)] 52 (0, 0)) → Memo Try.prog 62 3 w gm (LimG l0_0 l0_1 l0_2 l0_3 l5 a6) → impl_limitedWith.f k l0_0 l0_1 l0_2 l0_3 a1 a2 a3 a4 l5 a6 = some r → Calls Try.prog 33 #[.pointer (some ⟨gl, 0, none⟩), .int .i64 a1, .int .i64 a2, .int .i64 a3, .int .i64 a4] w fun e w' => e = .returned (.int .i64 r) ∧ w.grownBy w' (some gm) ∧ Memo Try.prog 62 3 w' gm (LimG l0_0 l0_1 l0_2 l0_3 l5 a6)) := by
 have HR0_0 := Aside0.mk hr0_0
 have HC0_0 := Aside0.mk hc0_0
 have HR0_1 := Aside0.mk hr0_1
 have HC0_1 := Aside0.mk hc0_1
 have HR0_2 := Aside0.mk hr0_2
 have HC0_2 := Aside0.mk hc0_2
 have HR0_3 := Aside0.mk hr0_3
 have HC0_3 := Aside0.mk hc0_3
 have HR5 := Aside0.mk hr5
 have HC5 := Aside0.mk hc5
 have HGM := Aside0.mk hgm
 clear hr0_0 hc0_0 hr0_1 hc0_1 hr0_2 hc0_2 hr0_3 hc0_3 hr5 hc5 hgm
 induction k using Nat.strongRecOn with
 | _ k ih =>
 refine ⟨?_, ?_⟩
 ·
  intro a1 a2 a3 r w hB hl hm h
  cases k with
  | zero => exact absurd h (by simp [impl_limitedLeast.f])
  | succ k =>
  have HF := Aside0.mk h
  simp only [impl_limitedLeast.f] at h
  by_cases cg : (0 ≤ a1 ∧ a1 ≤ 8 ∧ 0 ≤ a2 ∧ a2 ≤ 1000 ∧ 0 ≤ a3 ∧ a3 ≤ 1)
  ·
   rw [if_pos cg] at h
   have CG := Aside0.mk (show InR a1 a2 a3 from cg)
   have c7 : 0 ≤ a1 := cg.1
   clear cg
   have c7b0 := eq_true c7
   have c7b1 : decide (0 ≤ a1) = true := decide_eq_true c7
   by_cases c8 : a1 ≤ (l0_0.length : Int)
   ·
    rw [if_pos c8] at h
    have c8b0 := eq_true c8
    have c8b1 : decide (a1 ≤ (l0_0.length : Int)) = true := decide_eq_true c8
    obtain ⟨t218, A90, H⟩ := Option.bind_eq_some_iff.mp h
    clear h
    have A9 := Aside0.mk A90
    clear A90
    have HB := Aside0.mk hB
    have HL := Aside0.mk hl
    have HM := Aside0.mk hm
    have hw0_ : w.cell? ⟨gl, 0, none⟩ = some (.slice A0_0 l0_0.length c0_0) := (blk_cell hl 0).trans rfl
    have hw4_ : w.cell? ⟨gl, 4, none⟩ = some (.slice A5 l5.length c5) := (blk_cell hl 4).trans rfl
    clear hB hl hm
    obtain ⟨i021, hi021, _, hsz21, _⟩ := info_parts info3
    obtain ⟨A21, hcut21, hA21, hC21⟩ := print_drop_of (P := Try.prog) (Value.int .i64) 0 22 3 .i64 Try.underlying22 hi021 hsz21 A0_0 c0_0 l0_0 a1 c7 c8 HC0_0.out
    have HR217 := Aside0.mk (Kd.C_of_reads (h1 := fun _ => rfl) (hA21 _ (Kd.reads_of_C HR0_0.out)))
    have HC217 := Aside0.mk hC21
    clear hA21 hC21 hi021 hsz21 c7 c8
    by_cases c10 : a2 > t218
    ·
     rw [if_pos c10] at H
     have c10b0 : decide (t218 < a2) = true := decide_eq_true c10
     clear c10
     obtain rfl := Option.some.inj H
     go_enter Try.func32, Try.ntmps32
     go_wp2_with (first | ((with_reducible refine gate_callee (f := 37) rfl ?_); refine goesL_ (some 23) rfl rfl Try.func37 (by kernel_rfl) rfl #[.slice A21 (l0_0.drop (a1 : Int).toNat).length (c0_0 - a1.toNat)] rfl (by (try simp only [List.map_toArray, List.map_cons, List.map_nil]); first | done | (rw [show (l0_0.drop (a1 : Int).toNat).length = (l0_0.length - a1.toNat) from List.length_drop] <;> rfl) | rfl | (simp only [List.length_drop, List.length_take]; rfl)) ?_; (with_reducible refine (impl_total.calls k _ _ (l0_0.drop (a1 : Int).toNat) t218 _ ?side1 ?side2 A9.out).mono ?_); (case side1 => exact Kd.C_below HR217.out HB.out); (case side2 => exact HC217.out); rintro e w' ⟨rfl, ⟨nd, rfl⟩⟩; refine ⟨_, rfl, ?_⟩))
     go_ret
     exact ⟨rfl, growM (pw_below_drewN (Below.refl w.heap.size w) nd) (some gm), memo_below HM.out (pw_below_drewN (Below.refl w.heap.size w) nd)⟩
    ·
     rw [if_neg c10] at H
     have c10b0 : decide (t218 < a2) = false := decide_eq_false c10
     clear c10
     by_cases c14 : a1 = (l0_0.length : Int)
     ·
      rw [if_pos c14] at H
      have c14b0 : (a1 == (l0_0.length : Int)) = true := beq_iff_eq.mpr c14
      have c14b1 : (a1 != (l0_0.length : Int)) = false := bne_eq_false_iff_eq.mpr c14
      clear c14
      obtain rfl := Option.some.inj H
      go_enter Try.func32, Try.ntmps32
      go_wp2_with (first | ((with_reducible refine gate_callee (f := 37) rfl ?_); refine goesL_ (some 23) rfl rfl Try.func37 (by kernel_rfl) rfl #[.slice A21 (l0_0.drop (a1 : Int).toNat).length (c0_0 - a1.toNat)] rfl (by (try simp only [List.map_toArray, List.map_cons, List.map_nil]); first | done | (rw [show (l0_0.drop (a1 : Int).toNat).length = (l0_0.length - a1.toNat) from List.length_drop] <;> rfl) | rfl | (simp only [List.length_drop, List.length_take]; rfl)) ?_; (with_reducible refine (impl_total.calls k _ _ (l0_0.drop (a1 : Int).toNat) t218 _ ?side1 ?side2 A9.out).mono ?_); (case side1 => exact Kd.C_below HR217.out HB.out); (case side2 => exact HC217.out); rintro e w' ⟨rfl, ⟨nd, rfl⟩⟩; refine ⟨_, rfl, ?_⟩))
      go_ret
      exact ⟨rfl, growM (pw_below_drewN (Below.refl w.heap.size w) nd) (some gm), memo_below HM.out (pw_below_drewN (Below.refl w.heap.size w) nd)⟩
     ·
      rw [if_neg c14] at H
      have c14b0 : (a1 == (l0_0.length : Int)) = false := beq_eq_false_iff_ne.mpr c14
      have c14b1 : (a1 != (l0_0.length : Int)) = true := bne_iff_ne.mpr c14
      clear c14
      by_cases c18 : a1 < (l5.length : Int)
      ·
       rw [if_pos c18] at H
       have c18b0 : decide (a1 < (l5.length : Int)) = true := decide_eq_true c18
       clear c18
       have H' := Aside0.mk H
       clear H
       go_enter Try.func32, Try.ntmps32
       go_wp2_with (first | ((with_reducible refine gate_callee (f := 37) rfl ?_); refine goesL_ (some 23) rfl rfl Try.func37 (by kernel_rfl) rfl #[.slice A21 (l0_0.drop (a1 : Int).toNat).length (c0_0 - a1.toNat)] rfl (by (try simp only [List.map_toArray, List.map_cons, List.map_nil]); first | done | (rw [show (l0_0.drop (a1 : Int).toNat).length = (l0_0.length - a1.toNat) from List.length_drop] <;> rfl) | rfl | (simp only [List.length_drop, List.length_take]; rfl)) ?_; (with_reducible refine (impl_total.calls k _ _ (l0_0.drop (a1 : Int).toNat) t218 _ ?side1 ?side2 A9.out).mono ?_); (case side1 => exact Kd.C_below HR217.out HB.out); (case side2 => exact HC217.out); rintro e w' ⟨rfl, ⟨nd, rfl⟩⟩; refine ⟨_, rfl, ?_⟩) | ((with_reducible refine gate_dst (N := 9) rfl ?_); refine box_event ?hg (N := 9) ?hd (cs := #[.int .i64 0, .int .i64 0, .int .i64 0]) (t := 62) ?hr ?_; (case hd => rfl); (case hg => rfl); (case hr => first | (go_simp; done) | (go_simp; rfl)); intro gy hgy wk hboxk hbk; have BKk := Aside0.mk hboxk; have GEk := Aside0.mk (by rw [hgy]; exact Nat.le_refl _ : w.heap.size ≤ gy); have HBk := Aside0.mk (below_step (pw_below_drewN (Below.refl w.heap.size w) nd) hbk); have hck0_ : wk.cell? ⟨gy, 0, none⟩ = some (.int .i64 0) := (blk_cell hboxk 0).trans rfl; have hck1_ : wk.cell? ⟨gy, 1, none⟩ = some (.int .i64 0) := (blk_cell hboxk 1).trans rfl; have hck2_ : wk.cell? ⟨gy, 2, none⟩ = some (.int .i64 0) := (blk_cell hboxk 2).trans rfl; have hfk0_ := blk_frozen hboxk 0; have hfk1_ := blk_frozen hboxk 1; have hfk2_ := blk_frozen hboxk 2; clear hgy hboxk hbk) | ((with_reducible refine gate_store (t := 62) (p := 9) rfl ?_); refine store_event (t := 62) (p := 9) (v := .tmp 37) (w1 := ((wk.setCell ⟨gy, 0, none⟩ (.int .i64 a1)).setCell ⟨gy, 1, none⟩ (.int .i64 a2)).setCell ⟨gy, 2, none⟩ (.int .i64 a3)) ?hg ?ho ?hn ?hr ?_; (case ho => rfl); (case hg => rfl); (case hn => rfl); (case hr => first | (go_simp; done) | (go_simp; rfl)); intro w5 hw5; have BK5 := Aside0.mk (by rw [hw5]; exact blk_put (blk_put (blk_put BKk.out 0 _ rfl) 1 _ rfl) 2 _ rfl : w5.heap[gy]? = some (.cells #[.int .i64 a1, .int .i64 a2, .int .i64 a3] 62 (0, 0))); have HB5 := Aside0.mk (by rw [hw5]; exact below_set (below_set (below_set HBk.out GEk.out) GEk.out) GEk.out : Below w.heap.size w w5); clear hw5 hck0_ hck1_ hck2_ hfk0_ hfk1_ hfk2_))
       have HL5 := Aside0.mk (blk_below HL.out HB5.out)
       have HM5 := Aside0.mk (memo_below HM.out HB5.out)
       have HBB := Aside0.mk (below_step HB.out HB5.out)
       have h56_ : w5.cell? ⟨gl, 6, none⟩ = some (.map (some gm)) := (blk_cell HL5.out 6).trans rfl
       have h54_ : w5.cell? ⟨gl, 4, none⟩ = some (.slice A5 l5.length c5) := (blk_cell HL5.out 4).trans rfl
       have hk50_ : w5.cell? ⟨gy, 0, none⟩ = some (.int .i64 a1) := (blk_cell BK5.out 0).trans rfl
       have hk51_ : w5.cell? ⟨gy, 1, none⟩ = some (.int .i64 a2) := (blk_cell BK5.out 1).trans rfl
       have hk52_ : w5.cell? ⟨gy, 2, none⟩ = some (.int .i64 a3) := (blk_cell BK5.out 2).trans rfl
       obtain ⟨cc, ok, hlook, hG⟩ := memo_looks HM5.out lim_keyed Try.underlying50 Try.underlying3 lim_zero (lim_key CG.out)
       unfold key3 at hlook
       have HG := Aside0.mk hG
       clear hG
       cases ok with
       | true =>
        obtain ⟨k', hk'⟩ := HG.out rfl
        have hrc := impl_limitedLeast.one HF.out hk'
        subst hrc
        go_quiet (fail)
        go_wp2
        go_ret
        exact ⟨rfl, growM (pw_below_drewN HB5.out nq) (some gm), memo_below HM.out (pw_below_drewN HB5.out nq)⟩
       | false =>
        clear HG
        have p219 : 0 ≤ (a1 : Int) := of_decide_eq_true (by first | (with_reducible assumption) | assumption)
        have q219 : a1 < (l5.length : Int) := of_decide_eq_true (by first | (with_reducible assumption) | assumption)
        obtain ⟨ad219, e219, hx219_0⟩ := Kd.at_int HR5.out a1 p219 q219
        cases e219
        replace hx219_0 := (HBB.out.cell (World.block_lt_of_cell? w0 _ hx219_0)).trans hx219_0
        replace p219 := eq_true p219
        replace q219 := eq_true q219
        go_quiet (fail)
        go_wp2
        go_loopg [12, 57] k (fun kq v12 v57 w' => ∃ (x12_1 : Int) (x57_1 : Int), v12 = .int .i64 x12_1 ∧ v57 = .int .i64 x57_1 ∧ Aside0 (impl_limitedLeast.l0 kq a1 a2 a3 l5 a6 x12_1 (wrap64 ((rd l5 a1) + 1)) x57_1 l0_0 l0_1 l0_2 l0_3 = some r) ∧ Aside0 (kq ≤ k) ∧ Aside0 (-9223372036854775808 ≤ x12_1 ∧ x12_1 ≤ 9223372036854775807) ∧ Aside0 (w.grownBy w' (some gm)) ∧ Aside0 (Memo Try.prog 62 3 w' gm (LimG l0_0 l0_1 l0_2 l0_3 l5 a6)) ∧ Aside0 (w'.heap[gy]? = some (.cells #[.int .i64 a1, .int .i64 a2, .int .i64 a3] 62 (0, 0))))
        case atStart => exact ⟨(1099511627776), (0), (by first | rfl | (simp; done) | (simp [*]; done)), (by first | rfl | (simp; done) | (simp [*]; done)), H', ⟨Nat.le_refl _⟩, ⟨by decide⟩, ⟨growM (pw_below_drewN HB5.out nq) (some gm)⟩, ⟨memo_below HM.out (pw_below_drewN HB5.out nq)⟩, ⟨blk_drewN BK5.out nq⟩⟩
        case round =>
         clear H' hlook HM5 HL5 HBB BK5 HB5
         obtain ⟨x12_1, x57_1, rfl, rfl, HA, HK1, HW, GR, HMr, BKr⟩ := hrel
         have HLr := Aside0.mk (blk_grown HL.out GR.out (fun e => memo_ne HM.out HL.out (Option.some.inj e)))
         have HBr := Aside0.mk (HB.out.grown GR.out HB.out.size (fun j e => by cases e; exact HGM.out))
         have hkm := memo_ne HMr.out BKr.out
         cases gk with
         | zero => exact absurd HA.out (by simp [impl_limitedLeast.l0])
         | succ k1 =>
          have H := HA.out
          clear HA
          simp only [impl_limitedLeast.l0] at H
          by_cases c22 : x57_1 < (wrap64 ((rd l5 a1) + 1))
          ·
           rw [if_pos c22] at H
           have c22b0 : decide (x57_1 < (wrap64 ((rd l5 a1) + 1))) = true := decide_eq_true c22
           clear c22
           obtain ⟨t220, A230, H⟩ := Option.bind_eq_some_iff.mp H
           have hwt := limited_wf A230
           have A23 := Aside0.mk A230
           clear A230
           obtain ⟨ji24, hji24⟩ : ∃ j_ : Int, (mn x12_1 t220) = j_ := ⟨_, rfl⟩
           rw [hji24] at H
           have hji24_ : (if t220 < x12_1 then t220 else x12_1) = ji24 := hji24
           have HWj := Aside0.mk (show -9223372036854775808 ≤ ji24 ∧ ji24 ≤ 9223372036854775807 by have := HW.out; rw [← hji24]; unfold mn; split <;> omega)
           clear hwt
           have H' := Aside0.mk H
           clear H
           go_wp2_with (first | ((with_reducible refine gate_callee (f := 33) rfl ?_); refine goesL_ (some 66) rfl rfl Try.func33 (by kernel_rfl) rfl #[.pointer (some ⟨gl, 0, none⟩), .int .i64 a1, .int .i64 a2, .int .i64 a3, .int .i64 x57_1] rfl (by (try simp only [List.map_toArray, List.map_cons, List.map_nil]); first | done | rfl) ?_; refine ((ih k1 (by have := HK1.out; omega)).2 a1 a2 a3 x57_1 t220 _ HBr.out HLr.out HMr.out A23.out).mono ?_; rintro e w6 ⟨rfl, hg6, hm6⟩; refine ⟨_, rfl, ?_⟩; have GR6 := Aside0.mk (transM GR.out hg6); have HM6 := Aside0.mk hm6; have BK6 := Aside0.mk (blk_grown BKr.out hg6 (fun e => hkm (Option.some.inj e))); clear hg6 hm6))
           go_roundg k1
           case measure => have := HK1.out; omega
           case rel => exact ⟨(ji24), (wrap64 (x57_1 + 1)), (by first | rfl | (simp; done) | (simp only [← hji24] <;> (first | rfl | simp)) | (simp [*]; done)), (by first | rfl | (simp; done) | (simp [*]; done)), H', ⟨by have := HK1.out; omega⟩, HWj, GR6, HM6, BK6⟩
          ·
           rw [if_neg c22] at H
           have c22b0 : decide (x57_1 < (wrap64 ((rd l5 a1) + 1))) = false := decide_eq_false c22
           clear c22
           obtain rfl := Option.some.inj H
           clear H
           have hw2_ : (Lit.int .i64 x12_1).wf = true := by simp only [Lit.wf, Bool.and_eq_true, decide_eq_true_eq]; exact HW.out
           go_wp2
           have HLd := Aside0.mk (show (World.drew _).heap[gl]? = _ from HLr.out)
           have HMd := Aside0.mk (memo_below HMr.out (below_drew1 (Below.refl _ _)))
           have BKd := Aside0.mk (show (World.drew _).heap[gy]? = _ from BKr.out)
           have GRd := Aside0.mk (transM GR.out (growM (below_drew1 (Below.refl _ _)) (some gm)))
           refine start_ (n := 7) (S := fun w' => w'.cell? ⟨gl, 6, none⟩ = some (.map (some gm)) ∧ w'.cell? ⟨gy, 0, none⟩ = some (.int .i64 a1) ∧ w'.cell? ⟨gy, 1, none⟩ = some (.int .i64 a2) ∧ w'.cell? ⟨gy, 2, none⟩ = some (.int .i64 a3)) (ds := []) #[false, false, false, false, false, false, false] (by kernel_rfl) rfl rfl ⟨(blk_cell HLd.out 6).trans rfl, (blk_cell BKd.out 0).trans rfl, (blk_cell BKd.out 1).trans rfl, (blk_cell BKd.out 2).trans rfl⟩ (fun hHeld => ?_); refine with_tabW impl_limitedLeast.tab15 impl_limitedLeast.bits15 (fun HT_ HW_ => ?_)
           generalize wr.drew = w7 at HLd HMd BKd GRd hHeld ⊢
           refine pure_ (i := 0) (N := some 69) (v := ?_) (a' := ?_) #[true, false, false, false, false, false, false] rfl rfl (any_of HT_.out (by kernel_rfl)) (fun _ _ _ h => h) (Or.inl ⟨by rfl, ?_⟩) ?_ ?_
           rotate_left
           ·
            intro w'
            go_simp
            with_reducible rfl
           rotate_left
           ·
            simp only [Act.put, List.setIfInBounds_toArray, List.set_cons_zero, List.set_cons_succ, i64_w, i32_w]
            rfl
           refine pure_ (i := 1) (N := some 70) (v := ?_) (a' := ?_) #[true, true, false, false, false, false, false] rfl rfl (any_of HT_.out (by kernel_rfl)) (fun _ _ _ h => h) (Or.inl ⟨by rfl, ?_⟩) ?_ ?_
           rotate_left
           ·
            intro w'
            go_simp
            with_reducible rfl
           rotate_left
           ·
            simp only [Act.put, List.setIfInBounds_toArray, List.set_cons_zero, List.set_cons_succ, i64_w, i32_w]
            rfl
           refine pure_ (i := 2) (N := some 71) (v := ?_) (a' := ?_) #[true, true, true, false, false, false, false] rfl rfl (any_of HT_.out (by kernel_rfl)) (fun _ _ _ h => h) (Or.inl ⟨by rfl, ?_⟩) ?_ ?_
           rotate_left
           ·
            intro w'
            go_simp
            with_reducible rfl
           rotate_left
           ·
            simp only [Act.put, List.setIfInBounds_toArray, List.set_cons_zero, List.set_cons_succ, i64_w, i32_w]
            rfl
           refine take_ (i := 3) (N := some 72) (v := ?_) (a' := ?_) #[true, true, true, true, false, false, false] rfl rfl (take_ofW HT_.out HW_.out (by kernel_rfl)) (fun _ _ _ h => h) (Or.inl ⟨by rfl, ?_⟩) hHeld ?_ ?_
           rotate_left
           ·
            rintro w' ⟨s0, s1, s2, s3⟩
            go_simp
            with_reducible rfl
           rotate_left
           ·
            simp only [Act.put, List.setIfInBounds_toArray, List.set_cons_zero, List.set_cons_succ, i64_w, i32_w]
            rfl
           refine take_ (i := 4) (N := some 73) (v := ?_) (a' := ?_) #[true, true, true, true, true, false, false] rfl rfl (take_ofW HT_.out HW_.out (by kernel_rfl)) (fun _ _ _ h => h) (Or.inl ⟨by rfl, ?_⟩) hHeld ?_ ?_
           rotate_left
           ·
            rintro w' ⟨s0, s1, s2, s3⟩
            go_simp
            with_reducible rfl
           rotate_left
           ·
            simp only [Act.put, List.setIfInBounds_toArray, List.set_cons_zero, List.set_cons_succ, i64_w, i32_w]
            rfl
           refine pure_ (i := 5) (N := some 74) (v := ?_) (a' := ?_) #[true, true, true, true, true, true, false] rfl rfl (any_of HT_.out (by kernel_rfl)) (fun _ _ _ h => h) (Or.inl ⟨by rfl, ?_⟩) ?_ ?_
           rotate_left
           ·
            intro w'
            go_simp
            with_reducible rfl
           rotate_left
           ·
            simp only [Act.put, List.setIfInBounds_toArray, List.set_cons_zero, List.set_cons_succ, i64_w, i32_w]
            rfl
           refine one_ (i := 6) (N := none) #[true, true, true, true, true, true, true] rfl rfl (one_of HT_.out (by kernel_rfl)) (by decide) (fun K hK => ?_)
           obtain ⟨w8, hup, hm8, hg8⟩ := memo_store HMd.out lim_keyed Try.underlying50 Try.underlying3 CG.out (lim_key CG.out) hw2_ ⟨_, HF.out⟩
           unfold key3 at hup
           refine skip_ (w1 := w8) (by rfl) rfl ?_ ?_
           ·
            first | (go_simp; done) | (go_simp; rfl)
           have HL8 := Aside0.mk (blk_grown HLd.out hg8 (fun e => memo_ne HMd.out HLd.out (Option.some.inj e)))
           have BK8 := Aside0.mk (blk_grown BKd.out hg8 (fun e => memo_ne HMd.out BKd.out (Option.some.inj e)))
           refine hK.out _ _ ⟨(blk_cell HL8.out 6).trans rfl, (blk_cell BK8.out 0).trans rfl, (blk_cell BK8.out 1).trans rfl, (blk_cell BK8.out 2).trans rfl⟩ (fun hHeld => ?_)
           clear hK K
           refine done_ (done_of HT_.out (by kernel_rfl)) ?_
           try go_wp2
           go_ret
           exact ⟨rfl, transM GRd.out hg8, hm8⟩
      ·
       rw [if_neg c18] at H
       exact absurd H (by simp)
   ·
    rw [if_neg c8] at h
    exact absurd h (by simp)
  ·
   rw [if_neg cg] at h
   exact absurd h (by simp)
 ·
  intro a1 a2 a3 a4 r w hB hl hm h
  cases k with
  | zero => exact absurd h (by simp [impl_limitedWith.f])
  | succ k =>
  simp only [impl_limitedWith.f] at h
  obtain ⟨⟨t1, t2, t3⟩, AA0, H⟩ := Option.bind_eq_some_iff.mp h
  clear h
  have AA := Aside0.mk AA0
  clear AA0
  have HB := Aside0.mk hB
  have HL := Aside0.mk hl
  have HM := Aside0.mk hm
  clear hB hl hm
  by_cases c3 : t3 = 1099511627776
  ·
   subst c3
   rw [if_pos rfl] at H
   obtain rfl := Option.some.inj H
   go_enter Try.func33, Try.ntmps33
   go_wp2_with (first | ((with_reducible refine gate_callee (f := 34) rfl ?_); refine goesL_ (some 20) rfl rfl Try.func34 (by kernel_rfl) rfl #[.pointer (some ⟨gl, 0, none⟩), .int .i64 a1, .int .i64 a2, .int .i64 a3, .int .i64 a4] rfl (by (try simp only [List.map_toArray, List.map_cons, List.map_nil]); first | done | rfl) ?_; refine (impl_limitedAfter.calls k _ _ l0_0 _ _ l0_1 _ _ l0_2 _ _ l0_3 a1 a2 a3 a4 _ _ l5 a6 _ _ _ gl gm _ HL.out (Kd.C_below HR0_0.out HB.out) HC0_0.out (Kd.C_below HR0_1.out HB.out) HC0_1.out (Kd.C_below HR0_2.out HB.out) HC0_2.out (Kd.C_below HR0_3.out HB.out) HC0_3.out (Kd.C_below HR5.out HB.out) HC5.out AA.out).mono ?_; rintro e w1 ⟨rfl, hb1⟩; refine ⟨_, rfl, ?_⟩; have GR1 := Aside0.mk (growM hb1 (some gm)); have HM1 := Aside0.mk (memo_below HM.out hb1); have HL1 := Aside0.mk (blk_below HL.out hb1); have HB1 := Aside0.mk (below_step HB.out hb1); clear hb1))
   go_ret
   exact ⟨rfl, GR1.out, HM1.out⟩
  ·
   rw [if_neg c3] at H
   have c3b0 : (t3 == 1099511627776) = false := beq_eq_false_iff_ne.mpr c3
   obtain ⟨t5, A50, H⟩ := Option.bind_eq_some_iff.mp H
   have A5_ := Aside0.mk A50
   clear A50
   obtain ⟨m5, hm5⟩ : ∃ m_ : Int, mn 1099511627776 (wrap64 (t3 + t5)) = m_ := ⟨_, rfl⟩
   rw [hm5] at H
   have hm5_ : (if wrap64 (t3 + t5) < 1099511627776 then wrap64 (t3 + t5) else 1099511627776) = m5 := hm5
   obtain rfl := Option.some.inj H
   go_enter Try.func33, Try.ntmps33
   go_wp2_with (first | ((with_reducible refine gate_callee (f := 34) rfl ?_); refine goesL_ (some 20) rfl rfl Try.func34 (by kernel_rfl) rfl #[.pointer (some ⟨gl, 0, none⟩), .int .i64 a1, .int .i64 a2, .int .i64 a3, .int .i64 a4] rfl (by (try simp only [List.map_toArray, List.map_cons, List.map_nil]); first | done | rfl) ?_; refine (impl_limitedAfter.calls k _ _ l0_0 _ _ l0_1 _ _ l0_2 _ _ l0_3 a1 a2 a3 a4 _ _ l5 a6 _ _ _ gl gm _ HL.out (Kd.C_below HR0_0.out HB.out) HC0_0.out (Kd.C_below HR0_1.out HB.out) HC0_1.out (Kd.C_below HR0_2.out HB.out) HC0_2.out (Kd.C_below HR0_3.out HB.out) HC0_3.out (Kd.C_below HR5.out HB.out) HC5.out AA.out).mono ?_; rintro e w1 ⟨rfl, hb1⟩; refine ⟨_, rfl, ?_⟩; have GR1 := Aside0.mk (growM hb1 (some gm)); have HM1 := Aside0.mk (memo_below HM.out hb1); have HL1 := Aside0.mk (blk_below HL.out hb1); have HB1 := Aside0.mk (below_step HB.out hb1); clear hb1) | ((with_reducible refine gate_callee (f := 32) rfl ?_); refine goesL_ (some 32) rfl rfl Try.func32 (by kernel_rfl) rfl #[.pointer (some ⟨gl, 0, none⟩), .int .i64 (wrap64 (a1 + 1)), .int .i64 t1, .int .i64 t2] rfl (by (try simp only [List.map_toArray, List.map_cons, List.map_nil]); first | done | rfl) ?_; refine ((ih k (Nat.lt_succ_self k)).1 (wrap64 (a1 + 1)) t1 t2 t5 w1 HB1.out HL1.out HM1.out A5_.out).mono ?_; rintro e w2 ⟨rfl, hg2, hm2⟩; refine ⟨_, rfl, ?_⟩; have GR2 := Aside0.mk (transM GR1.out hg2); have HM2 := Aside0.mk hm2; clear hg2 hm2))
   go_ret
   exact ⟨by first | rfl | (simp [*]; done), GR2.out, HM2.out⟩
end Go.Proofs.Ytmbeagpnkfmlgaa.PFnExactLimitSaves
