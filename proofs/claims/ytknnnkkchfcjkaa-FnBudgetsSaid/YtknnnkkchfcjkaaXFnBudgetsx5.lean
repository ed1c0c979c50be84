-- Made by wip/xprint.py: the print of the kit, called over a changed copy of what it reads.
-- PRINTED by print.py (a twelfth state) out of the translation. Not trusted: Lean checks it.
import Derived.Deep.RegionHeld3
import Derived.Deep.RegionLawGrows
import Derived.Deep.AppendLies
import Derived.Laws.Rows
import Derived.Test.YtknnnkkchfcjkaaDyn
import Derived.Test.YtknnnkkchfcjkaaXFnBudgetsx0
import Derived.Test.YtknnnkkchfcjkaaXFnBudgetsx1
import Derived.Test.YtknnnkkchfcjkaaXFnBudgetsx2
import Derived.Test.YtknnnkkchfcjkaaXFnBudgetsx4
namespace Go.Proofs.Ytknnnkkchfcjkaa.PFnBudgets
open Go.Proofs.Ytknnnkkchfcjkaa.Dyn
open Go.Proofs.YtknnnkkchfcjkaaW.PrintWords.Aside0 renaming mk → am_
open Go.Proofs.YtknnnkkchfcjkaaW.PrintWords renaming below_drew1 → bd_, below_alloc → ba_, below_size → bz_, below_step → bp_, blk_frozen → kf_, blk_cell → kc_, blk_below → kb_, gate_callee → gc_
open Go.Proofs.YtknnnkkchfcjkaaW.PrintWords.Kd renaming R_reads' → rr_, C_alloc → ca_, C_drewN → cn_, C_drew → cd_, C_below → cb_
attribute [local go_sem] run_mf events_mf
open Go.RowKit Go.Proofs.YtknnnkkchfcjkaaW.PrintWords Go.Proofs.YtknnnkkchfcjkaaW.PrintLast Go.Proofs.YtknnnkkchfcjkaaW.PrintMore
attribute [local go_sem] max2_int min2_int max_two min_two max_three min_three max_four min_four   -- for this text's walks alone
set_option linter.unusedVariables false
set_option linter.unusedSimpArgs false

/-! ### impl_areGoods: function 20 -/
def impl_areGoods.l0 : Nat → List (List Int) → Int → Int → List (List Int) → Int → Int → Option (Bool)
  | 0, _, _, _, _, _, _ => none
  | k + 1, x0, x1, x2, x9, x10, x11 => if x11 < x10 then (if 0 ≤ x11 then (if x11 < (x9.length : Int) then ((impl_IsDistribution.f k (rd_L2 x9 x11)).bind fun t285 => (if t285 = true then ((impl_total.f k (rd_L2 x9 x11)).bind fun t286 => (if 0 < (x0.length : Int) then ((impl_total.f k (rd_L2 x0 0)).bind fun t288 => (if t286 = t288 then (impl_areGoods.l0 k x0 x1 x2 x9 x10 (wrap64 (x11 + 1))) else (some false))) else (none))) else (some false))) else (none)) else (none)) else ((impl_within.f (x0.length : Int) 1 3).bind fun t279 => (if t279 = true then ((impl_areCharges.f k (([x1, x2] : List Int))).bind fun t283 => (some t283)) else (some false)))
def impl_areGoods.f (k : Nat) (l0 : List (List Int)) (a1 : Int) (a2 : Int) : Option (Bool) := impl_areGoods.l0 k l0 a1 a2 l0 (l0.length : Int) 0
theorem impl_areGoods.mono_l : ∀ k, (∀ y0 y1 y2 y3 y4 y5, LeO (impl_areGoods.l0 k y0 y1 y2 y3 y4 y5) (impl_areGoods.l0 (k + 1) y0 y1 y2 y3 y4 y5))
  | 0 => fun _ _ _ _ _ _ r h => by simp [impl_areGoods.l0] at h
  | k + 1 => by
    have ih0 := impl_areGoods.mono_l k
    · intro y0 y1 y2 y3 y4 y5
      unfold impl_areGoods.l0
      repeat' first
      | (with_reducible exact ih0 _ _ _ _ _ _)
      | (with_reducible exact impl_IsDistribution.mono _ _)
      | (with_reducible exact impl_areCharges.mono _ _)
      | (with_reducible exact impl_total.mono _ _)
      | (with_reducible exact LeO.refl _)
      | (with_reducible exact LeO.none _)
      | (with_reducible refine LeO.ite ?_ ?_)
      | (with_reducible refine LeO.bind ?_ (fun _ => ?_))
      | exact ih0 _ _ _ _ _ _
      | exact impl_IsDistribution.mono _ _
      | exact impl_areCharges.mono _ _
      | exact impl_total.mono _ _
      | exact LeO.none _
      | refine LeO.ite ?_ ?_
      | refine LeO.bind ?_ (fun _ => ?_)
theorem impl_areGoods.mono : ∀ a0 a1 a2 k, LeO (impl_areGoods.f k a0 a1 a2) (impl_areGoods.f (k + 1) a0 a1 a2) := by
  intro a0 a1 a2 k
  have ih0 := impl_areGoods.mono_l k
  unfold impl_areGoods.f
  repeat' first
      | (with_reducible exact ih0 _ _ _ _ _ _)
      | (with_reducible exact impl_IsDistribution.mono _ _)
      | (with_reducible exact impl_areCharges.mono _ _)
      | (with_reducible exact impl_total.mono _ _)
      | (with_reducible exact LeO.refl _)
      | (with_reducible exact LeO.none _)
      | (with_reducible refine LeO.ite ?_ ?_)
      | (with_reducible refine LeO.bind ?_ (fun _ => ?_))
      | exact ih0 _ _ _ _ _ _
      | exact impl_IsDistribution.mono _ _
      | exact impl_areCharges.mono _ _
      | exact impl_total.mono _ _
      | exact LeO.none _
      | refine LeO.ite ?_ ?_
      | refine LeO.bind ?_ (fun _ => ?_)
set_option maxHeartbeats 8000000 in
set_option maxRecDepth 100000 in
theorem impl_areGoods.calls (k : Nat) (A0 : Option Addr) (c0 : Nat) (l0 : List (List Int)) (a1 : Int) (a2 : Int) (r : Bool) (w : World) (hr0 : Kd.C (Kd.slice 3 (Kd.int .i64)) w A0 l0.length l0) (hc0 : l0.length ≤ c0) (h : impl_areGoods.f k l0 a1 a2 = some r) :
    Calls Try.prog 20 #[.slice A0 l0.length c0, .int .i64 a1, .int .i64 a2] w fun e w' => e = .returned (.bool r) ∧ Below w.heap.size w w' := by
  have HR0 := am_ hr0
  have HC0 := am_ hc0
  clear hr0 hc0
  have HB := am_ (Below.refl w.heap.size w)
  have H : (impl_areGoods.l0 k l0 a1 a2 l0 (l0.length : Int) 0) = some r := h
  clear h
  have H' := am_ H
  clear H
  go_enter Try.func20, Try.ntmps20
  go_wp2
  repeat (go_quiet (fail); try go_wp2)
  go_loopg [11] k (fun kq v11 w' => ∃ (x11_1 : Int), v11 = .int .i64 x11_1 ∧ Aside0 (impl_areGoods.l0 kq l0 a1 a2 l0 (l0.length : Int) x11_1 = some r) ∧ Aside0 (kq ≤ k) ∧ Aside0 (Below w.heap.size w w'))
  case atStart => exact ⟨(0), (by first | rfl | (simp; done) | (simp [*]; done)), H', ⟨Nat.le_refl _⟩, ⟨by repeat (first | (with_reducible first | exact HB.out | apply ba_ | apply pw_below_drewN | apply bd_) | exact HB.out)⟩⟩
  case round =>
    clear H'
    try clear c2
    try clear p2
    obtain ⟨x11_1, rfl, HA, HK1, HB⟩ := hrel
    cases gk with
    | zero => exact absurd HA.out (by simp [impl_areGoods.l0])
    | succ k1 =>
      have H := HA.out
      clear HA
      simp only [impl_areGoods.l0] at H
      by_cases c4 : x11_1 < (l0.length : Int)
      · rw [if_pos c4] at H
        have c4b0 : decide (x11_1 < (l0.length : Int)) = true := decide_eq_true c4
        clear c4
        by_cases c5 : 0 ≤ x11_1
        · rw [if_pos c5] at H
          have c5b0 : decide (0 ≤ x11_1) = true := decide_eq_true c5
          clear c5
          by_cases c6 : x11_1 < (l0.length : Int)
          · rw [if_pos c6] at H
            have c6b0 : decide (x11_1 < (l0.length : Int)) = true := decide_eq_true c6
            clear c6
            replace H := Option.bind_eq_some_iff.mp H
            obtain ⟨t285, A70, H⟩ := H
            replace H : (if t285 = true then ((impl_total.f k1 (rd_L2 l0 x11_1)).bind fun t286 => (if 0 < (l0.length : Int) then ((impl_total.f k1 (rd_L2 l0 0)).bind fun t288 => (if t286 = t288 then (impl_areGoods.l0 k1 l0 a1 a2 l0 (l0.length : Int) (wrap64 (x11_1 + 1))) else (some false))) else (none))) else (some false)) = some r := H
            have A7 := am_ A70
            clear A70
            by_cases c8 : t285 = true
            · subst c8
              have H1 : ((impl_total.f k1 (rd_L2 l0 x11_1)).bind fun t286 => (if 0 < (l0.length : Int) then ((impl_total.f k1 (rd_L2 l0 0)).bind fun t288 => (if t286 = t288 then (impl_areGoods.l0 k1 l0 a1 a2 l0 (l0.length : Int) (wrap64 (x11_1 + 1))) else (some false))) else (none))) = some r := by rw [if_pos rfl] at H; exact H
              clear H
              have H := H1
              clear H1
              replace H := Option.bind_eq_some_iff.mp H
              obtain ⟨t286, A90, H⟩ := H
              replace H : (if 0 < (l0.length : Int) then ((impl_total.f k1 (rd_L2 l0 0)).bind fun t288 => (if t286 = t288 then (impl_areGoods.l0 k1 l0 a1 a2 l0 (l0.length : Int) (wrap64 (x11_1 + 1))) else (some false))) else (none)) = some r := H
              have A9 := am_ A90
              clear A90
              by_cases c10 : 0 < (l0.length : Int)
              · rw [if_pos c10] at H
                have c10b0 : decide (0 < (l0.length : Int)) = true := decide_eq_true c10
                have c10b1 : decide (0 < l0.length) = true := decide_eq_true (by omega)
                clear c10
                replace H := Option.bind_eq_some_iff.mp H
                obtain ⟨t288, A110, H⟩ := H
                replace H : (if t286 = t288 then (impl_areGoods.l0 k1 l0 a1 a2 l0 (l0.length : Int) (wrap64 (x11_1 + 1))) else (some false)) = some r := H
                have A11 := am_ A110
                clear A110
                by_cases c12 : t286 = t288
                · rw [if_pos c12] at H
                  have c12b0 : (t286 == t288) = true := beq_iff_eq.mpr c12
                  have c12b1 : (t286 != t288) = false := bne_eq_false_iff_eq.mpr c12
                  clear c12
                  have H' := am_ H
                  clear H
                  have p284 : 0 ≤ (x11_1 : Int) := of_decide_eq_true (by first | (with_reducible assumption) | assumption)
                  have q284 : x11_1 < (l0.length : Int) := of_decide_eq_true (by first | (with_reducible assumption) | assumption)
                  obtain ⟨ad284, A284_0, c284_0, e284, hx284_0, hl284_0, hi284_0⟩ := at_L2 HR0.out x11_1 p284 q284
                  cases e284
                  replace hx284_0 := (HB.out.cell (World.block_lt_of_cell? w _ hx284_0)).trans hx284_0
                  have HR284_0 := am_ hi284_0
                  have HC284_0 := am_ hl284_0
                  clear hi284_0 hl284_0
                  replace p284 := eq_true p284
                  replace q284 := eq_true q284
                  go_wp2_with (first | (go_at_call 33; (with_reducible refine (impl_IsDistribution.calls k1 _ _ (rd_L2 l0 x11_1) true _ ?side1 ?side2 A7.out).mono ?_); (case side1 => repeat (first | exact (cb_ HR284_0.out HB.out) | (with_reducible refine ca_ ?_ _) | (with_reducible refine cn_ ?_ _) | (with_reducible refine cd_ ?_))); (case side2 => exact HC284_0.out); rintro e w' ⟨rfl, ⟨nd, rfl⟩⟩; (try first | exact ⟨rfl, _, World.drewN_drewN _ _ _⟩ | exact ⟨rfl, _, Eq.trans (World.drewN_drewN _ _ _) (congrArg (World.drewN _) (Nat.add_assoc _ _ _))⟩)) | (go_at_call 41; (with_reducible refine (impl_total.calls k1 _ _ (rd_L2 l0 x11_1) t286 _ ?side1 ?side2 A9.out).mono ?_); (case side1 => repeat (first | exact (cb_ HR284_0.out (by repeat (first | (with_reducible first | exact HB.out | apply ba_ | apply pw_below_drewN | apply bd_) | exact HB.out))) | (with_reducible refine ca_ ?_ _) | (with_reducible refine cn_ ?_ _) | (with_reducible refine cd_ ?_))); (case side2 => exact HC284_0.out); rintro e w' ⟨rfl, ⟨nd, rfl⟩⟩; (try first | exact ⟨rfl, _, World.drewN_drewN _ _ _⟩ | exact ⟨rfl, _, Eq.trans (World.drewN_drewN _ _ _) (congrArg (World.drewN _) (Nat.add_assoc _ _ _))⟩); have p287 : 0 ≤ (0 : Int) := (by omega); have q287 : 0 < (l0.length : Int) := of_decide_eq_true (by first | (with_reducible assumption) | assumption); obtain ⟨ad287, A287_0, c287_0, e287, hx287_0, hl287_0, hi287_0⟩ := at_L2 HR0.out 0 p287 q287; obtain rfl : ad284 = ad287 := (by injection e287); have qi287 : (0 < l0.length) = True := eq_true (by omega); (try rw [show ((0 : Int)).toNat = 0 from rfl] at hx287_0); (try rw [Addr.add_zero'] at hx287_0); replace hx287_0 := (HB.out.cell (World.block_lt_of_cell? w _ hx287_0)).trans hx287_0; have HR287_0 := am_ hi287_0; have HC287_0 := am_ hl287_0; clear hi287_0 hl287_0; replace p287 := eq_true p287; replace q287 := eq_true q287) | (go_at_call 41; (with_reducible refine (impl_total.calls k1 _ _ (rd_L2 l0 0) t288 _ ?side1 ?side2 A11.out).mono ?_); (case side1 => repeat (first | exact (cb_ HR287_0.out (by repeat (first | (with_reducible first | exact HB.out | apply ba_ | apply pw_below_drewN | apply bd_) | exact HB.out))) | (with_reducible refine ca_ ?_ _) | (with_reducible refine cn_ ?_ _) | (with_reducible refine cd_ ?_))); (case side2 => exact HC287_0.out); rintro e w' ⟨rfl, ⟨nd, rfl⟩⟩; (try first | exact ⟨rfl, _, World.drewN_drewN _ _ _⟩ | exact ⟨rfl, _, Eq.trans (World.drewN_drewN _ _ _) (congrArg (World.drewN _) (Nat.add_assoc _ _ _))⟩)))
                  repeat (go_quiet (first | (go_at_call 33; (with_reducible refine (impl_IsDistribution.calls k1 _ _ (rd_L2 l0 x11_1) true _ ?side1 ?side2 A7.out).mono ?_); (case side1 => repeat (first | exact (cb_ HR284_0.out HB.out) | (with_reducible refine ca_ ?_ _) | (with_reducible refine cn_ ?_ _) | (with_reducible refine cd_ ?_))); (case side2 => exact HC284_0.out); rintro e w' ⟨rfl, ⟨nd, rfl⟩⟩; (try first | exact ⟨rfl, _, World.drewN_drewN _ _ _⟩ | exact ⟨rfl, _, Eq.trans (World.drewN_drewN _ _ _) (congrArg (World.drewN _) (Nat.add_assoc _ _ _))⟩)) | (go_at_call 41; (with_reducible refine (impl_total.calls k1 _ _ (rd_L2 l0 x11_1) t286 _ ?side1 ?side2 A9.out).mono ?_); (case side1 => repeat (first | exact (cb_ HR284_0.out (by repeat (first | (with_reducible first | exact HB.out | apply ba_ | apply pw_below_drewN | apply bd_) | exact HB.out))) | (with_reducible refine ca_ ?_ _) | (with_reducible refine cn_ ?_ _) | (with_reducible refine cd_ ?_))); (case side2 => exact HC284_0.out); rintro e w' ⟨rfl, ⟨nd, rfl⟩⟩; (try first | exact ⟨rfl, _, World.drewN_drewN _ _ _⟩ | exact ⟨rfl, _, Eq.trans (World.drewN_drewN _ _ _) (congrArg (World.drewN _) (Nat.add_assoc _ _ _))⟩); have p287 : 0 ≤ (0 : Int) := (by omega); have q287 : 0 < (l0.length : Int) := of_decide_eq_true (by first | (with_reducible assumption) | assumption); obtain ⟨ad287, A287_0, c287_0, e287, hx287_0, hl287_0, hi287_0⟩ := at_L2 HR0.out 0 p287 q287; obtain rfl : ad284 = ad287 := (by injection e287); have qi287 : (0 < l0.length) = True := eq_true (by omega); (try rw [show ((0 : Int)).toNat = 0 from rfl] at hx287_0); (try rw [Addr.add_zero'] at hx287_0); replace hx287_0 := (HB.out.cell (World.block_lt_of_cell? w _ hx287_0)).trans hx287_0; have HR287_0 := am_ hi287_0; have HC287_0 := am_ hl287_0; clear hi287_0 hl287_0; replace p287 := eq_true p287; replace q287 := eq_true q287) | (go_at_call 41; (with_reducible refine (impl_total.calls k1 _ _ (rd_L2 l0 0) t288 _ ?side1 ?side2 A11.out).mono ?_); (case side1 => repeat (first | exact (cb_ HR287_0.out (by repeat (first | (with_reducible first | exact HB.out | apply ba_ | apply pw_below_drewN | apply bd_) | exact HB.out))) | (with_reducible refine ca_ ?_ _) | (with_reducible refine cn_ ?_ _) | (with_reducible refine cd_ ?_))); (case side2 => exact HC287_0.out); rintro e w' ⟨rfl, ⟨nd, rfl⟩⟩; (try first | exact ⟨rfl, _, World.drewN_drewN _ _ _⟩ | exact ⟨rfl, _, Eq.trans (World.drewN_drewN _ _ _) (congrArg (World.drewN _) (Nat.add_assoc _ _ _))⟩))); try go_wp2_with (first | (go_at_call 33; (with_reducible refine (impl_IsDistribution.calls k1 _ _ (rd_L2 l0 x11_1) true _ ?side1 ?side2 A7.out).mono ?_); (case side1 => repeat (first | exact (cb_ HR284_0.out HB.out) | (with_reducible refine ca_ ?_ _) | (with_reducible refine cn_ ?_ _) | (with_reducible refine cd_ ?_))); (case side2 => exact HC284_0.out); rintro e w' ⟨rfl, ⟨nd, rfl⟩⟩; (try first | exact ⟨rfl, _, World.drewN_drewN _ _ _⟩ | exact ⟨rfl, _, Eq.trans (World.drewN_drewN _ _ _) (congrArg (World.drewN _) (Nat.add_assoc _ _ _))⟩)) | (go_at_call 41; (with_reducible refine (impl_total.calls k1 _ _ (rd_L2 l0 x11_1) t286 _ ?side1 ?side2 A9.out).mono ?_); (case side1 => repeat (first | exact (cb_ HR284_0.out (by repeat (first | (with_reducible first | exact HB.out | apply ba_ | apply pw_below_drewN | apply bd_) | exact HB.out))) | (with_reducible refine ca_ ?_ _) | (with_reducible refine cn_ ?_ _) | (with_reducible refine cd_ ?_))); (case side2 => exact HC284_0.out); rintro e w' ⟨rfl, ⟨nd, rfl⟩⟩; (try first | exact ⟨rfl, _, World.drewN_drewN _ _ _⟩ | exact ⟨rfl, _, Eq.trans (World.drewN_drewN _ _ _) (congrArg (World.drewN _) (Nat.add_assoc _ _ _))⟩); have p287 : 0 ≤ (0 : Int) := (by omega); have q287 : 0 < (l0.length : Int) := of_decide_eq_true (by first | (with_reducible assumption) | assumption); obtain ⟨ad287, A287_0, c287_0, e287, hx287_0, hl287_0, hi287_0⟩ := at_L2 HR0.out 0 p287 q287; obtain rfl : ad284 = ad287 := (by injection e287); have qi287 : (0 < l0.length) = True := eq_true (by omega); (try rw [show ((0 : Int)).toNat = 0 from rfl] at hx287_0); (try rw [Addr.add_zero'] at hx287_0); replace hx287_0 := (HB.out.cell (World.block_lt_of_cell? w _ hx287_0)).trans hx287_0; have HR287_0 := am_ hi287_0; have HC287_0 := am_ hl287_0; clear hi287_0 hl287_0; replace p287 := eq_true p287; replace q287 := eq_true q287) | (go_at_call 41; (with_reducible refine (impl_total.calls k1 _ _ (rd_L2 l0 0) t288 _ ?side1 ?side2 A11.out).mono ?_); (case side1 => repeat (first | exact (cb_ HR287_0.out (by repeat (first | (with_reducible first | exact HB.out | apply ba_ | apply pw_below_drewN | apply bd_) | exact HB.out))) | (with_reducible refine ca_ ?_ _) | (with_reducible refine cn_ ?_ _) | (with_reducible refine cd_ ?_))); (case side2 => exact HC287_0.out); rintro e w' ⟨rfl, ⟨nd, rfl⟩⟩; (try first | exact ⟨rfl, _, World.drewN_drewN _ _ _⟩ | exact ⟨rfl, _, Eq.trans (World.drewN_drewN _ _ _) (congrArg (World.drewN _) (Nat.add_assoc _ _ _))⟩))))
                  go_roundg k1
                  case measure => have := HK1.out; omega
                  case rel => exact ⟨(wrap64 (x11_1 + 1)), (by first | rfl | (simp; done) | (simp [*]; done)), H', ⟨by have := HK1.out; omega⟩, ⟨by repeat (first | (with_reducible first | exact HB.out | apply ba_ | apply pw_below_drewN | apply bd_) | exact HB.out)⟩⟩
                · rw [if_neg c12] at H
                  have c12b0 : (t286 == t288) = false := beq_eq_false_iff_ne.mpr c12
                  have c12b1 : (t286 != t288) = true := bne_iff_ne.mpr c12
                  obtain rfl := Option.some.inj H
                  have p284 : 0 ≤ (x11_1 : Int) := of_decide_eq_true (by first | (with_reducible assumption) | assumption)
                  have q284 : x11_1 < (l0.length : Int) := of_decide_eq_true (by first | (with_reducible assumption) | assumption)
                  obtain ⟨ad284, A284_0, c284_0, e284, hx284_0, hl284_0, hi284_0⟩ := at_L2 HR0.out x11_1 p284 q284
                  cases e284
                  replace hx284_0 := (HB.out.cell (World.block_lt_of_cell? w _ hx284_0)).trans hx284_0
                  have HR284_0 := am_ hi284_0
                  have HC284_0 := am_ hl284_0
                  clear hi284_0 hl284_0
                  replace p284 := eq_true p284
                  replace q284 := eq_true q284
                  go_wp2_with (first | (go_at_call 33; (with_reducible refine (impl_IsDistribution.calls k1 _ _ (rd_L2 l0 x11_1) true _ ?side1 ?side2 A7.out).mono ?_); (case side1 => repeat (first | exact (cb_ HR284_0.out HB.out) | (with_reducible refine ca_ ?_ _) | (with_reducible refine cn_ ?_ _) | (with_reducible refine cd_ ?_))); (case side2 => exact HC284_0.out); rintro e w' ⟨rfl, ⟨nd, rfl⟩⟩; (try first | exact ⟨rfl, _, World.drewN_drewN _ _ _⟩ | exact ⟨rfl, _, Eq.trans (World.drewN_drewN _ _ _) (congrArg (World.drewN _) (Nat.add_assoc _ _ _))⟩)) | (go_at_call 41; (with_reducible refine (impl_total.calls k1 _ _ (rd_L2 l0 x11_1) t286 _ ?side1 ?side2 A9.out).mono ?_); (case side1 => repeat (first | exact (cb_ HR284_0.out (by repeat (first | (with_reducible first | exact HB.out | apply ba_ | apply pw_below_drewN | apply bd_) | exact HB.out))) | (with_reducible refine ca_ ?_ _) | (with_reducible refine cn_ ?_ _) | (with_reducible refine cd_ ?_))); (case side2 => exact HC284_0.out); rintro e w' ⟨rfl, ⟨nd, rfl⟩⟩; (try first | exact ⟨rfl, _, World.drewN_drewN _ _ _⟩ | exact ⟨rfl, _, Eq.trans (World.drewN_drewN _ _ _) (congrArg (World.drewN _) (Nat.add_assoc _ _ _))⟩); have p287 : 0 ≤ (0 : Int) := (by omega); have q287 : 0 < (l0.length : Int) := of_decide_eq_true (by first | (with_reducible assumption) | assumption); obtain ⟨ad287, A287_0, c287_0, e287, hx287_0, hl287_0, hi287_0⟩ := at_L2 HR0.out 0 p287 q287; obtain rfl : ad284 = ad287 := (by injection e287); have qi287 : (0 < l0.length) = True := eq_true (by omega); (try rw [show ((0 : Int)).toNat = 0 from rfl] at hx287_0); (try rw [Addr.add_zero'] at hx287_0); replace hx287_0 := (HB.out.cell (World.block_lt_of_cell? w _ hx287_0)).trans hx287_0; have HR287_0 := am_ hi287_0; have HC287_0 := am_ hl287_0; clear hi287_0 hl287_0; replace p287 := eq_true p287; replace q287 := eq_true q287) | (go_at_call 41; (with_reducible refine (impl_total.calls k1 _ _ (rd_L2 l0 0) t288 _ ?side1 ?side2 A11.out).mono ?_); (case side1 => repeat (first | exact (cb_ HR287_0.out (by repeat (first | (with_reducible first | exact HB.out | apply ba_ | apply pw_below_drewN | apply bd_) | exact HB.out))) | (with_reducible refine ca_ ?_ _) | (with_reducible refine cn_ ?_ _) | (with_reducible refine cd_ ?_))); (case side2 => exact HC287_0.out); rintro e w' ⟨rfl, ⟨nd, rfl⟩⟩; (try first | exact ⟨rfl, _, World.drewN_drewN _ _ _⟩ | exact ⟨rfl, _, Eq.trans (World.drewN_drewN _ _ _) (congrArg (World.drewN _) (Nat.add_assoc _ _ _))⟩)))
                  repeat (go_quiet (first | (go_at_call 33; (with_reducible refine (impl_IsDistribution.calls k1 _ _ (rd_L2 l0 x11_1) true _ ?side1 ?side2 A7.out).mono ?_); (case side1 => repeat (first | exact (cb_ HR284_0.out HB.out) | (with_reducible refine ca_ ?_ _) | (with_reducible refine cn_ ?_ _) | (with_reducible refine cd_ ?_))); (case side2 => exact HC284_0.out); rintro e w' ⟨rfl, ⟨nd, rfl⟩⟩; (try first | exact ⟨rfl, _, World.drewN_drewN _ _ _⟩ | exact ⟨rfl, _, Eq.trans (World.drewN_drewN _ _ _) (congrArg (World.drewN _) (Nat.add_assoc _ _ _))⟩)) | (go_at_call 41; (with_reducible refine (impl_total.calls k1 _ _ (rd_L2 l0 x11_1) t286 _ ?side1 ?side2 A9.out).mono ?_); (case side1 => repeat (first | exact (cb_ HR284_0.out (by repeat (first | (with_reducible first | exact HB.out | apply ba_ | apply pw_below_drewN | apply bd_) | exact HB.out))) | (with_reducible refine ca_ ?_ _) | (with_reducible refine cn_ ?_ _) | (with_reducible refine cd_ ?_))); (case side2 => exact HC284_0.out); rintro e w' ⟨rfl, ⟨nd, rfl⟩⟩; (try first | exact ⟨rfl, _, World.drewN_drewN _ _ _⟩ | exact ⟨rfl, _, Eq.trans (World.drewN_drewN _ _ _) (congrArg (World.drewN _) (Nat.add_assoc _ _ _))⟩); have p287 : 0 ≤ (0 : Int) := (by omega); have q287 : 0 < (l0.length : Int) := of_decide_eq_true (by first | (with_reducible assumption) | assumption); obtain ⟨ad287, A287_0, c287_0, e287, hx287_0, hl287_0, hi287_0⟩ := at_L2 HR0.out 0 p287 q287; obtain rfl : ad284 = ad287 := (by injection e287); have qi287 : (0 < l0.length) = True := eq_true (by omega); (try rw [show ((0 : Int)).toNat = 0 from rfl] at hx287_0); (try rw [Addr.add_zero'] at hx287_0); replace hx287_0 := (HB.out.cell (World.block_lt_of_cell? w _ hx287_0)).trans hx287_0; have HR287_0 := am_ hi287_0; have HC287_0 := am_ hl287_0; clear hi287_0 hl287_0; replace p287 := eq_true p287; replace q287 := eq_true q287) | (go_at_call 41; (with_reducible refine (impl_total.calls k1 _ _ (rd_L2 l0 0) t288 _ ?side1 ?side2 A11.out).mono ?_); (case side1 => repeat (first | exact (cb_ HR287_0.out (by repeat (first | (with_reducible first | exact HB.out | apply ba_ | apply pw_below_drewN | apply bd_) | exact HB.out))) | (with_reducible refine ca_ ?_ _) | (with_reducible refine cn_ ?_ _) | (with_reducible refine cd_ ?_))); (case side2 => exact HC287_0.out); rintro e w' ⟨rfl, ⟨nd, rfl⟩⟩; (try first | exact ⟨rfl, _, World.drewN_drewN _ _ _⟩ | exact ⟨rfl, _, Eq.trans (World.drewN_drewN _ _ _) (congrArg (World.drewN _) (Nat.add_assoc _ _ _))⟩))); try go_wp2_with (first | (go_at_call 33; (with_reducible refine (impl_IsDistribution.calls k1 _ _ (rd_L2 l0 x11_1) true _ ?side1 ?side2 A7.out).mono ?_); (case side1 => repeat (first | exact (cb_ HR284_0.out HB.out) | (with_reducible refine ca_ ?_ _) | (with_reducible refine cn_ ?_ _) | (with_reducible refine cd_ ?_))); (case side2 => exact HC284_0.out); rintro e w' ⟨rfl, ⟨nd, rfl⟩⟩; (try first | exact ⟨rfl, _, World.drewN_drewN _ _ _⟩ | exact ⟨rfl, _, Eq.trans (World.drewN_drewN _ _ _) (congrArg (World.drewN _) (Nat.add_assoc _ _ _))⟩)) | (go_at_call 41; (with_reducible refine (impl_total.calls k1 _ _ (rd_L2 l0 x11_1) t286 _ ?side1 ?side2 A9.out).mono ?_); (case side1 => repeat (first | exact (cb_ HR284_0.out (by repeat (first | (with_reducible first | exact HB.out | apply ba_ | apply pw_below_drewN | apply bd_) | exact HB.out))) | (with_reducible refine ca_ ?_ _) | (with_reducible refine cn_ ?_ _) | (with_reducible refine cd_ ?_))); (case side2 => exact HC284_0.out); rintro e w' ⟨rfl, ⟨nd, rfl⟩⟩; (try first | exact ⟨rfl, _, World.drewN_drewN _ _ _⟩ | exact ⟨rfl, _, Eq.trans (World.drewN_drewN _ _ _) (congrArg (World.drewN _) (Nat.add_assoc _ _ _))⟩); have p287 : 0 ≤ (0 : Int) := (by omega); have q287 : 0 < (l0.length : Int) := of_decide_eq_true (by first | (with_reducible assumption) | assumption); obtain ⟨ad287, A287_0, c287_0, e287, hx287_0, hl287_0, hi287_0⟩ := at_L2 HR0.out 0 p287 q287; obtain rfl : ad284 = ad287 := (by injection e287); have qi287 : (0 < l0.length) = True := eq_true (by omega); (try rw [show ((0 : Int)).toNat = 0 from rfl] at hx287_0); (try rw [Addr.add_zero'] at hx287_0); replace hx287_0 := (HB.out.cell (World.block_lt_of_cell? w _ hx287_0)).trans hx287_0; have HR287_0 := am_ hi287_0; have HC287_0 := am_ hl287_0; clear hi287_0 hl287_0; replace p287 := eq_true p287; replace q287 := eq_true q287) | (go_at_call 41; (with_reducible refine (impl_total.calls k1 _ _ (rd_L2 l0 0) t288 _ ?side1 ?side2 A11.out).mono ?_); (case side1 => repeat (first | exact (cb_ HR287_0.out (by repeat (first | (with_reducible first | exact HB.out | apply ba_ | apply pw_below_drewN | apply bd_) | exact HB.out))) | (with_reducible refine ca_ ?_ _) | (with_reducible refine cn_ ?_ _) | (with_reducible refine cd_ ?_))); (case side2 => exact HC287_0.out); rintro e w' ⟨rfl, ⟨nd, rfl⟩⟩; (try first | exact ⟨rfl, _, World.drewN_drewN _ _ _⟩ | exact ⟨rfl, _, Eq.trans (World.drewN_drewN _ _ _) (congrArg (World.drewN _) (Nat.add_assoc _ _ _))⟩))))
                  go_ret
                  exact ⟨by first | rfl | (simp [errW_none, errW_some] <;> rfl) | (simp [*, errW_none, errW_some] <;> rfl), by repeat (first | (with_reducible first | exact HB.out | apply ba_ | apply pw_below_drewN | apply bd_) | exact HB.out)⟩
              · rw [if_neg c10] at H
                exact absurd H (by simp)
            · replace c8 := Bool.eq_false_iff.mpr c8
              subst c8
              have H1 : (some false) = some r := by rw [if_neg (show ¬ (false = true) by decide)] at H; exact H
              clear H
              have H := H1
              clear H1
              obtain rfl := Option.some.inj H
              have p284 : 0 ≤ (x11_1 : Int) := of_decide_eq_true (by first | (with_reducible assumption) | assumption)
              have q284 : x11_1 < (l0.length : Int) := of_decide_eq_true (by first | (with_reducible assumption) | assumption)
              obtain ⟨ad284, A284_0, c284_0, e284, hx284_0, hl284_0, hi284_0⟩ := at_L2 HR0.out x11_1 p284 q284
              cases e284
              replace hx284_0 := (HB.out.cell (World.block_lt_of_cell? w _ hx284_0)).trans hx284_0
              have HR284_0 := am_ hi284_0
              have HC284_0 := am_ hl284_0
              clear hi284_0 hl284_0
              replace p284 := eq_true p284
              replace q284 := eq_true q284
              go_wp2_with (first | (go_at_call 33; (with_reducible refine (impl_IsDistribution.calls k1 _ _ (rd_L2 l0 x11_1) false _ ?side1 ?side2 A7.out).mono ?_); (case side1 => repeat (first | exact (cb_ HR284_0.out HB.out) | (with_reducible refine ca_ ?_ _) | (with_reducible refine cn_ ?_ _) | (with_reducible refine cd_ ?_))); (case side2 => exact HC284_0.out); rintro e w' ⟨rfl, ⟨nd, rfl⟩⟩; (try first | exact ⟨rfl, _, World.drewN_drewN _ _ _⟩ | exact ⟨rfl, _, Eq.trans (World.drewN_drewN _ _ _) (congrArg (World.drewN _) (Nat.add_assoc _ _ _))⟩)))
              repeat (go_quiet (first | (go_at_call 33; (with_reducible refine (impl_IsDistribution.calls k1 _ _ (rd_L2 l0 x11_1) false _ ?side1 ?side2 A7.out).mono ?_); (case side1 => repeat (first | exact (cb_ HR284_0.out HB.out) | (with_reducible refine ca_ ?_ _) | (with_reducible refine cn_ ?_ _) | (with_reducible refine cd_ ?_))); (case side2 => exact HC284_0.out); rintro e w' ⟨rfl, ⟨nd, rfl⟩⟩; (try first | exact ⟨rfl, _, World.drewN_drewN _ _ _⟩ | exact ⟨rfl, _, Eq.trans (World.drewN_drewN _ _ _) (congrArg (World.drewN _) (Nat.add_assoc _ _ _))⟩))); try go_wp2_with (first | (go_at_call 33; (with_reducible refine (impl_IsDistribution.calls k1 _ _ (rd_L2 l0 x11_1) false _ ?side1 ?side2 A7.out).mono ?_); (case side1 => repeat (first | exact (cb_ HR284_0.out HB.out) | (with_reducible refine ca_ ?_ _) | (with_reducible refine cn_ ?_ _) | (with_reducible refine cd_ ?_))); (case side2 => exact HC284_0.out); rintro e w' ⟨rfl, ⟨nd, rfl⟩⟩; (try first | exact ⟨rfl, _, World.drewN_drewN _ _ _⟩ | exact ⟨rfl, _, Eq.trans (World.drewN_drewN _ _ _) (congrArg (World.drewN _) (Nat.add_assoc _ _ _))⟩))))
              go_ret
              exact ⟨by first | rfl | (simp [errW_none, errW_some] <;> rfl) | (simp [*, errW_none, errW_some] <;> rfl), by repeat (first | (with_reducible first | exact HB.out | apply ba_ | apply pw_below_drewN | apply bd_) | exact HB.out)⟩
          · rw [if_neg c6] at H
            exact absurd H (by simp)
        · rw [if_neg c5] at H
          exact absurd H (by simp)
      · rw [if_neg c4] at H
        have c4b0 : decide (x11_1 < (l0.length : Int)) = false := decide_eq_false c4
        clear c4
        replace H := Option.bind_eq_some_iff.mp H
        obtain ⟨t279, A130, H⟩ := H
        replace H : (if t279 = true then ((impl_areCharges.f k1 (([a1, a2] : List Int))).bind fun t283 => (some t283)) else (some false)) = some r := H
        have A13 := am_ A130
        clear A130
        by_cases c14 : t279 = true
        · subst c14
          have H1 : ((impl_areCharges.f k1 (([a1, a2] : List Int))).bind fun t283 => (some t283)) = some r := by rw [if_pos rfl] at H; exact H
          clear H
          have H := H1
          clear H1
          obtain ⟨y280, hy280⟩ : ∃ y_ : List Int, y_ = (([a1, a2] : List Int)) := ⟨_, rfl⟩
          replace H : ((impl_areCharges.f k1 y280).bind fun t283 => (some t283)) = some r := by first | (rw [hy280]; with_reducible exact H) | (have H2_ := (Option.bind_some _ _).symm.trans H; rw [hy280]; with_reducible exact H2_) | (have H2_ := (Option.bind_some _ _).symm.trans H; with_reducible exact H2_) | with_reducible exact H | (rw [hy280]; exact H) | exact H
          have Ny280 := am_ hy280
          clear hy280
          replace H := Option.bind_eq_some_iff.mp H
          obtain ⟨t283, A150, H⟩ := H
          replace H : (some t283) = some r := H
          have A15 := am_ A150
          clear A150
          obtain rfl := Option.some.inj H
          go_wp2_with (first | (go_at_call 22; (with_reducible refine (impl_within.calls (l0.length : Int) 1 3 true _ A13.out).mono ?_); rintro e w' ⟨rfl, ⟨nd, rfl⟩⟩; (try first | exact ⟨rfl, _, World.drewN_drewN _ _ _⟩ | exact ⟨rfl, _, Eq.trans (World.drewN_drewN _ _ _) (congrArg (World.drewN _) (Nat.add_assoc _ _ _))⟩)) | ((with_reducible refine gate_dst (N := 34) rfl ?_); (try (refine gate_guard (by rfl) ?_; dsimp only)); refine Kd.R_lit (Kd.int .i64) _ 3 ?hg (N := 34) ?hd (xs := ([a1, a2] : List Int)) (inner := [.int .i64 a1, .int .i64 a2]) (ok := fun _ => True) (okp := fun _ => True) ?hr ?hp (fun _ hk => hk) trivial (Below.refl _ _) (Nat.le_refl _) (by simp) ?_; (case hd => rfl); (case hg => rfl); (case hr => first | (go_simp; done) | (go_simp; rfl)); (case hp => exact (Reps.one (show Kd.M (Kd.int .i64) _ _ _ a1 [.int .i64 a1] from rfl) (Reps.one (show Kd.M (Kd.int .i64) _ _ _ a2 [.int .i64 a2] from rfl) (Reps.none _ _)))); intro v281 w16 ho17 hb hg_ hnew_; clear hg_ hnew_; (first | rw [← Ny280.out] at ho17 | (simp only [Int.reduceToNat] at ho17; rw [← Ny280.out] at ho17)); have n0_ := am_ (Kd.R_lower ho17 (bz_ (by repeat (first | (with_reducible first | exact HB.out | apply ba_ | apply pw_below_drewN | apply bd_) | exact HB.out)))); have n1_ := am_ (bp_ (by repeat (first | (with_reducible first | exact HB.out | apply ba_ | apply pw_below_drewN | apply bd_) | exact HB.out)) hb); clear HB; have HO282 := n0_; have HB := n1_; clear n0_ n1_; clear hb ho17; obtain ⟨Ao18, co18, eo18⟩ := Kd.R_slice HO282.out; subst eo18) | (go_at_call 21; (with_reducible refine (impl_areCharges.calls k1 _ _ y280 t283 _ ?side1 ?side2 A15.out).mono ?_); (case side1 => repeat (first | exact (rr_ HO282.out).2.2 | (with_reducible refine ca_ ?_ _) | (with_reducible refine cn_ ?_ _) | (with_reducible refine cd_ ?_))); (case side2 => exact (rr_ HO282.out).2.1); rintro e w' ⟨rfl, ⟨nd, rfl⟩⟩; (try first | exact ⟨rfl, _, World.drewN_drewN _ _ _⟩ | exact ⟨rfl, _, Eq.trans (World.drewN_drewN _ _ _) (congrArg (World.drewN _) (Nat.add_assoc _ _ _))⟩)))
          repeat (go_quiet (first | (go_at_call 22; (with_reducible refine (impl_within.calls (l0.length : Int) 1 3 true _ A13.out).mono ?_); rintro e w' ⟨rfl, ⟨nd, rfl⟩⟩; (try first | exact ⟨rfl, _, World.drewN_drewN _ _ _⟩ | exact ⟨rfl, _, Eq.trans (World.drewN_drewN _ _ _) (congrArg (World.drewN _) (Nat.add_assoc _ _ _))⟩)) | ((with_reducible refine gate_dst (N := 34) rfl ?_); (try (refine gate_guard (by rfl) ?_; dsimp only)); refine Kd.R_lit (Kd.int .i64) _ 3 ?hg (N := 34) ?hd (xs := ([a1, a2] : List Int)) (inner := [.int .i64 a1, .int .i64 a2]) (ok := fun _ => True) (okp := fun _ => True) ?hr ?hp (fun _ hk => hk) trivial (Below.refl _ _) (Nat.le_refl _) (by simp) ?_; (case hd => rfl); (case hg => rfl); (case hr => first | (go_simp; done) | (go_simp; rfl)); (case hp => exact (Reps.one (show Kd.M (Kd.int .i64) _ _ _ a1 [.int .i64 a1] from rfl) (Reps.one (show Kd.M (Kd.int .i64) _ _ _ a2 [.int .i64 a2] from rfl) (Reps.none _ _)))); intro v281 w16 ho17 hb hg_ hnew_; clear hg_ hnew_; (first | rw [← Ny280.out] at ho17 | (simp only [Int.reduceToNat] at ho17; rw [← Ny280.out] at ho17)); have n0_ := am_ (Kd.R_lower ho17 (bz_ (by repeat (first | (with_reducible first | exact HB.out | apply ba_ | apply pw_below_drewN | apply bd_) | exact HB.out)))); have n1_ := am_ (bp_ (by repeat (first | (with_reducible first | exact HB.out | apply ba_ | apply pw_below_drewN | apply bd_) | exact HB.out)) hb); clear HB; have HO282 := n0_; have HB := n1_; clear n0_ n1_; clear hb ho17; obtain ⟨Ao18, co18, eo18⟩ := Kd.R_slice HO282.out; subst eo18) | (go_at_call 21; (with_reducible refine (impl_areCharges.calls k1 _ _ y280 t283 _ ?side1 ?side2 A15.out).mono ?_); (case side1 => repeat (first | exact (rr_ HO282.out).2.2 | (with_reducible refine ca_ ?_ _) | (with_reducible refine cn_ ?_ _) | (with_reducible refine cd_ ?_))); (case side2 => exact (rr_ HO282.out).2.1); rintro e w' ⟨rfl, ⟨nd, rfl⟩⟩; (try first | exact ⟨rfl, _, World.drewN_drewN _ _ _⟩ | exact ⟨rfl, _, Eq.trans (World.drewN_drewN _ _ _) (congrArg (World.drewN _) (Nat.add_assoc _ _ _))⟩))); try go_wp2_with (first | (go_at_call 22; (with_reducible refine (impl_within.calls (l0.length : Int) 1 3 true _ A13.out).mono ?_); rintro e w' ⟨rfl, ⟨nd, rfl⟩⟩; (try first | exact ⟨rfl, _, World.drewN_drewN _ _ _⟩ | exact ⟨rfl, _, Eq.trans (World.drewN_drewN _ _ _) (congrArg (World.drewN _) (Nat.add_assoc _ _ _))⟩)) | ((with_reducible refine gate_dst (N := 34) rfl ?_); (try (refine gate_guard (by rfl) ?_; dsimp only)); refine Kd.R_lit (Kd.int .i64) _ 3 ?hg (N := 34) ?hd (xs := ([a1, a2] : List Int)) (inner := [.int .i64 a1, .int .i64 a2]) (ok := fun _ => True) (okp := fun _ => True) ?hr ?hp (fun _ hk => hk) trivial (Below.refl _ _) (Nat.le_refl _) (by simp) ?_; (case hd => rfl); (case hg => rfl); (case hr => first | (go_simp; done) | (go_simp; rfl)); (case hp => exact (Reps.one (show Kd.M (Kd.int .i64) _ _ _ a1 [.int .i64 a1] from rfl) (Reps.one (show Kd.M (Kd.int .i64) _ _ _ a2 [.int .i64 a2] from rfl) (Reps.none _ _)))); intro v281 w16 ho17 hb hg_ hnew_; clear hg_ hnew_; (first | rw [← Ny280.out] at ho17 | (simp only [Int.reduceToNat] at ho17; rw [← Ny280.out] at ho17)); have n0_ := am_ (Kd.R_lower ho17 (bz_ (by repeat (first | (with_reducible first | exact HB.out | apply ba_ | apply pw_below_drewN | apply bd_) | exact HB.out)))); have n1_ := am_ (bp_ (by repeat (first | (with_reducible first | exact HB.out | apply ba_ | apply pw_below_drewN | apply bd_) | exact HB.out)) hb); clear HB; have HO282 := n0_; have HB := n1_; clear n0_ n1_; clear hb ho17; obtain ⟨Ao18, co18, eo18⟩ := Kd.R_slice HO282.out; subst eo18) | (go_at_call 21; (with_reducible refine (impl_areCharges.calls k1 _ _ y280 t283 _ ?side1 ?side2 A15.out).mono ?_); (case side1 => repeat (first | exact (rr_ HO282.out).2.2 | (with_reducible refine ca_ ?_ _) | (with_reducible refine cn_ ?_ _) | (with_reducible refine cd_ ?_))); (case side2 => exact (rr_ HO282.out).2.1); rintro e w' ⟨rfl, ⟨nd, rfl⟩⟩; (try first | exact ⟨rfl, _, World.drewN_drewN _ _ _⟩ | exact ⟨rfl, _, Eq.trans (World.drewN_drewN _ _ _) (congrArg (World.drewN _) (Nat.add_assoc _ _ _))⟩))))
          go_ret
          exact ⟨by first | rfl | (simp [errW_none, errW_some] <;> rfl) | (simp [*, errW_none, errW_some] <;> rfl), by repeat (first | (with_reducible first | exact HB.out | apply ba_ | apply pw_below_drewN | apply bd_) | exact HB.out)⟩
        · replace c14 := Bool.eq_false_iff.mpr c14
          subst c14
          have H1 : (some false) = some r := by rw [if_neg (show ¬ (false = true) by decide)] at H; exact H
          clear H
          have H := H1
          clear H1
          obtain rfl := Option.some.inj H
          go_wp2_with (first | (go_at_call 22; (with_reducible refine (impl_within.calls (l0.length : Int) 1 3 false _ A13.out).mono ?_); rintro e w' ⟨rfl, ⟨nd, rfl⟩⟩; (try first | exact ⟨rfl, _, World.drewN_drewN _ _ _⟩ | exact ⟨rfl, _, Eq.trans (World.drewN_drewN _ _ _) (congrArg (World.drewN _) (Nat.add_assoc _ _ _))⟩)))
          repeat (go_quiet (first | (go_at_call 22; (with_reducible refine (impl_within.calls (l0.length : Int) 1 3 false _ A13.out).mono ?_); rintro e w' ⟨rfl, ⟨nd, rfl⟩⟩; (try first | exact ⟨rfl, _, World.drewN_drewN _ _ _⟩ | exact ⟨rfl, _, Eq.trans (World.drewN_drewN _ _ _) (congrArg (World.drewN _) (Nat.add_assoc _ _ _))⟩))); try go_wp2_with (first | (go_at_call 22; (with_reducible refine (impl_within.calls (l0.length : Int) 1 3 false _ A13.out).mono ?_); rintro e w' ⟨rfl, ⟨nd, rfl⟩⟩; (try first | exact ⟨rfl, _, World.drewN_drewN _ _ _⟩ | exact ⟨rfl, _, Eq.trans (World.drewN_drewN _ _ _) (congrArg (World.drewN _) (Nat.add_assoc _ _ _))⟩))))
          go_ret
          exact ⟨by first | rfl | (simp [errW_none, errW_some] <;> rfl) | (simp [*, errW_none, errW_some] <;> rfl), by repeat (first | (with_reducible first | exact HB.out | apply ba_ | apply pw_below_drewN | apply bd_) | exact HB.out)⟩

/-! ### impl_copied: function 24 -/
def impl_copied.f (l0 : List Int) : Option (List Int) := (some (([] : List Int) : List Int)).bind fun y289 => (if y289.length + l0.length < 17592186044416 then (some (y289 ++ l0)) else (none))
set_option maxHeartbeats 8000000 in
set_option maxRecDepth 100000 in
theorem impl_copied.calls (A0 : Option Addr) (c0 : Nat) (l0 : List Int) (r : List Int) (w : World) (hr0 : Kd.C (Kd.int .i64) w A0 l0.length l0) (hc0 : l0.length ≤ c0) (h : impl_copied.f l0 = some r) :
    Calls Try.prog 24 #[.slice A0 l0.length c0] w fun e w' => ∃ v0_ : Value, e = .returned (v0_) ∧ Kd.R (Kd.int .i64) 3 w' w.heap.size (fun _ => True) v0_ r ∧ Below w.heap.size w w' := by
  have HR0 := am_ hr0
  have HC0 := am_ hc0
  clear hr0 hc0
  have HB := am_ (Below.refl w.heap.size w)
  have H : ((some (([] : List Int) : List Int)).bind fun y289 => (if y289.length + l0.length < 17592186044416 then (some (y289 ++ l0)) else (none))) = some r := h
  clear h
  obtain ⟨y289, hy289⟩ : ∃ y_ : List Int, y_ = (([] : List Int)) := ⟨_, rfl⟩
  replace H : (if y289.length + l0.length < 17592186044416 then (some (y289 ++ l0)) else (none)) = some r := by first | (rw [hy289]; with_reducible exact H) | (have H2_ := (Option.bind_some _ _).symm.trans H; rw [hy289]; with_reducible exact H2_) | (have H2_ := (Option.bind_some _ _).symm.trans H; with_reducible exact H2_) | with_reducible exact H | (rw [hy289]; exact H) | exact H
  have Ny289 := am_ hy289
  clear hy289
  by_cases c2 : y289.length + l0.length < 17592186044416
  · rw [if_pos c2] at H
    have LMc2 := am_ c2
    clear c2
    obtain ⟨y292, hy292⟩ : ∃ y_ : List Int, y_ = (y289 ++ l0) := ⟨_, rfl⟩
    replace H : (some y292) = some r := by first | (rw [hy292]; with_reducible exact H) | (have H2_ := (Option.bind_some _ _).symm.trans H; rw [hy292]; with_reducible exact H2_) | (have H2_ := (Option.bind_some _ _).symm.trans H; with_reducible exact H2_) | with_reducible exact H | (rw [hy292]; exact H) | exact H
    have Ny292 := am_ hy292
    clear hy292
    obtain rfl := Option.some.inj H
    go_enter Try.func24, Try.ntmps24
    go_wp2_with (first | ((with_reducible refine gate_dst (N := 3) rfl ?_); refine Kd.R_lit (Kd.int .i64) _ 3 ?hg (N := 3) ?hd (xs := ([] : List Int)) (inner := []) (ok := fun _ => True) (okp := fun _ => True) ?hr ?hp (fun _ hk => hk) trivial (Below.refl _ _) (Nat.le_refl _) (by simp) ?_; (case hd => rfl); (case hg => rfl); (case hr => first | (go_simp; done) | (go_simp; rfl)); (case hp => exact (Reps.none _ _)); intro v290 w3 ho4 hb hg_ hnew_; clear hg_ hnew_; (first | rw [← Ny289.out] at ho4 | (simp only [Int.reduceToNat] at ho4; rw [← Ny289.out] at ho4)); have n0_ := am_ (Kd.R_lower ho4 (bz_ (by repeat (first | (with_reducible first | exact HB.out | apply ba_ | apply pw_below_drewN | apply bd_) | exact HB.out)))); have n1_ := am_ (bp_ (by repeat (first | (with_reducible first | exact HB.out | apply ba_ | apply pw_below_drewN | apply bd_) | exact HB.out)) hb); clear HB; have HO291 := n0_; have HB := n1_; clear n0_ n1_; clear hb ho4) | ((with_reducible refine gate_builtin (b := .append) (xs := #[.tmp 3, .tmp 4]) rfl ?_); at_builtin; refine Kd.R_append_rows (Kd.int .i64) (w0 := w) w.heap.size rfl (.tmp 3) (.tmp 4) 25 3 (.int .i64 0) 8 rfl Try.underlying25 info3 rfl (by decide) (by omega) v290 y289 l0 _ _ _ (fun _ => True) (fun _ => False) rfl rfl ?aO ?aR (fun _ _ h => h) (fun _ h => h.elim) ?aF ?aB ?aS ?aL ?_; (case aR => repeat (first | exact (cb_ HR0.out HB.out) | (with_reducible refine ca_ ?_ _) | (with_reducible refine cn_ ?_ _) | (with_reducible refine cd_ ?_))); (case aB => exact (by repeat (first | (with_reducible first | exact HB.out | apply ba_ | apply pw_below_drewN | apply bd_) | exact HB.out))); (case aF => exact (fun _ _ => trivial)); (case aO => exact (by (with_reducible repeat (first | apply Kd.R_alloc | apply Kd.R_drewN | apply Kd.R_drew)); exact HO291.out)); (case aS => exact (bz_ (by repeat (first | (with_reducible first | exact HB.out | apply ba_ | apply pw_below_drewN | apply bd_) | exact HB.out)))); (case aL => have := LMc2.out; omega); intro v293 w5 ho hb hg hat; rw [← Ny292.out] at ho; have n0_ := am_ (hb); have n1_ := am_ (ho); clear HB; clear HO291; have HB := n0_; have HO294 := n1_; clear n0_ n1_; clear ho hb hg hat))
    go_ret
    exact ⟨_, by first | rfl | (simp [errW_none, errW_some] <;> rfl) | (simp [*, errW_none, errW_some] <;> rfl), by (with_reducible repeat (first | apply Kd.R_alloc | apply Kd.R_drewN | apply Kd.R_drew)); exact HO294.out, by repeat (first | (with_reducible first | exact HB.out | apply ba_ | apply pw_below_drewN | apply bd_) | exact HB.out)⟩
  · rw [if_neg c2] at H
    exact absurd H (by simp)

/-! ### spec_l1Most: function 50 -/
def spec_l1Most.f (a0 : Int) (a1 : Int) : Option (Int) := if a0 > a1 then (some a0) else (some a1)
set_option maxHeartbeats 8000000 in
set_option maxRecDepth 100000 in
theorem spec_l1Most.calls (a0 : Int) (a1 : Int) (r : Int) (w : World) (h : spec_l1Most.f a0 a1 = some r) :
    Calls Try.prog 50 #[.int .i64 a0, .int .i64 a1] w fun e w' => e = .returned (.int .i64 r) ∧ Drawn0 w w' := by
  have H : (if a0 > a1 then (some a0) else (some a1)) = some r := h
  clear h
  by_cases c3 : a0 > a1
  · rw [if_pos c3] at H
    have c3b0 : decide (a1 < a0) = true := decide_eq_true c3
    clear c3
    obtain rfl := Option.some.inj H
    go_enter Try.func50, Try.ntmps50
    go_wp2
    go_ret
    exact ⟨by first | rfl | (simp; done) | (simp [*]; done), by repeat (first | exact Drawn0.refl _ | apply Drawn0.step)⟩
  · rw [if_neg c3] at H
    have c3b0 : decide (a1 < a0) = false := decide_eq_false c3
    clear c3
    obtain rfl := Option.some.inj H
    go_enter Try.func50, Try.ntmps50
    go_wp2
    go_ret
    exact ⟨by first | rfl | (simp; done) | (simp [*]; done), by repeat (first | exact Drawn0.refl _ | apply Drawn0.step)⟩

/-! ### impl_weighted: function 47 -/
def impl_weighted.l0 (g : Int → Option Int) : Nat → Int → List Int → Int → Int → Option (Int)
  | 0, _, _, _, _ => none
  | k + 1, x5, x8, x9, x10 => if x10 < x9 then (if 0 ≤ x10 then (if x10 < (x8.length : Int) then ((g x10).bind fun t205 => (impl_weighted.l0 g k (wrap64 (x5 + (wrap64 ((rd x8 x10) * t205)))) x8 x9 (wrap64 (x10 + 1)))) else (none)) else (none)) else (some x5)
def impl_weighted.f (k : Nat) (l0 : List Int) (g : Int → Option Int) : Option (Int) := impl_weighted.l0 g k 0 l0 (l0.length : Int) 0
theorem impl_weighted.mono_l (g : Int → Option Int) : ∀ k, (∀ y0 y1 y2 y3, LeO (impl_weighted.l0 g k y0 y1 y2 y3) (impl_weighted.l0 g (k + 1) y0 y1 y2 y3))
  | 0 => fun _ _ _ _ r h => by simp [impl_weighted.l0] at h
  | k + 1 => by
    have ih0 := impl_weighted.mono_l g k
    · intro y0 y1 y2 y3
      unfold impl_weighted.l0
      repeat' first
      | (with_reducible exact ih0 _ _ _ _)
      | (with_reducible exact LeO.refl _)
      | (with_reducible exact LeO.none _)
      | (with_reducible refine LeO.ite ?_ ?_)
      | (with_reducible refine LeO.bind ?_ (fun _ => ?_))
      | exact ih0 _ _ _ _
      | exact LeO.none _
      | refine LeO.ite ?_ ?_
      | refine LeO.bind ?_ (fun _ => ?_)
theorem impl_weighted.mono : ∀ a0 g k, LeO (impl_weighted.f k a0 g) (impl_weighted.f (k + 1) a0 g) := by
  intro a0 g k
  have ih0 := impl_weighted.mono_l g k
  unfold impl_weighted.f
  exact ih0 _ _ _ _
set_option maxHeartbeats 8000000 in
set_option maxRecDepth 100000 in
theorem impl_weighted.calls (k : Nat) (A0 : Option Addr) (c0 : Nat) (l0 : List Int) (g : Int → Option Int) (r : Int) (w : World) {f : FuncId} {fn : Func} {first cap : Array Value} (hf : Try.prog.funcs[f]? = some fn) (hname : (fn.name == "runtime.NumGoroutine") = false) (hbody : fn.body.isSome = true)
    (hfc : ∀ n p : Int, g n = some p → ∀ m, Calls Try.prog f (first ++ #[.int .i64 n] ++ cap) (w.drewN m) fun e w' => e = .returned (.int .i64 p) ∧ Drawn0 (w.drewN m) w')
    (hr0 : Kd.C (Kd.int .i64) w A0 l0.length l0) (hc0 : l0.length ≤ c0) (h : impl_weighted.f k l0 g = some r) :
    Calls Try.prog 47 #[.slice A0 l0.length c0, .func (.func f) first cap] w fun e w' => e = .returned (.int .i64 r) ∧ Drawn0 w w' := by
  have HF := am_ hf
  have HN := am_ hname
  have HBD := am_ hbody
  have HFC := am_ hfc
  clear hf hname hbody hfc
  have HR0 := am_ hr0
  have HC0 := am_ hc0
  clear hr0 hc0
  have H : (impl_weighted.l0 g k 0 l0 (l0.length : Int) 0) = some r := h
  clear h
  have H' := am_ H
  clear H
  go_enter Try.func47, Try.ntmps47
  go_wp2
  go_loopg [5, 10] k (fun kq v5 v10 w' => ∃ (x5_1 : Int) (x10_1 : Int), v5 = .int .i64 x5_1 ∧ v10 = .int .i64 x10_1 ∧ Aside0 (impl_weighted.l0 g kq x5_1 l0 (l0.length : Int) x10_1 = some r) ∧ Aside0 (kq ≤ k) ∧ Drawn0 w w')
  case atStart => exact ⟨(0), (0), (by first | rfl | (simp; done) | (simp [*]; done)), (by first | rfl | (simp; done) | (simp [*]; done)), H', ⟨Nat.le_refl _⟩, by repeat (first | exact Drawn0.refl _ | apply Drawn0.step)⟩
  case round =>
    clear H'
    obtain ⟨x5_1, x10_1, rfl, rfl, HA, HK1, ⟨m1, rfl⟩⟩ := hrel
    cases gk with
    | zero => exact absurd HA.out (by simp [impl_weighted.l0])
    | succ k1 =>
      have H := HA.out
      clear HA
      simp only [impl_weighted.l0] at H
      by_cases c3 : x10_1 < (l0.length : Int)
      · rw [if_pos c3] at H
        have c3b0 : decide (x10_1 < (l0.length : Int)) = true := decide_eq_true c3
        clear c3
        by_cases c4 : 0 ≤ x10_1
        · rw [if_pos c4] at H
          have c4b0 : decide (0 ≤ x10_1) = true := decide_eq_true c4
          clear c4
          by_cases c5 : x10_1 < (l0.length : Int)
          · rw [if_pos c5] at H
            have c5b0 : decide (x10_1 < (l0.length : Int)) = true := decide_eq_true c5
            clear c5
            replace H := Option.bind_eq_some_iff.mp H
            obtain ⟨t205, A60, H⟩ := H
            replace H : (impl_weighted.l0 g k1 (wrap64 (x5_1 + (wrap64 ((rd l0 x10_1) * t205)))) l0 (l0.length : Int) (wrap64 (x10_1 + 1))) = some r := H
            have A6 := am_ A60
            clear A60
            have H' := am_ H
            clear H
            have p204 : 0 ≤ (x10_1 : Int) := of_decide_eq_true (by first | (with_reducible assumption) | assumption)
            have q204 : x10_1 < (l0.length : Int) := of_decide_eq_true (by first | (with_reducible assumption) | assumption)
            obtain ⟨ad204, e204, hx204_0⟩ := Kd.at_int HR0.out x10_1 p204 q204
            cases e204
            replace p204 := eq_true p204
            replace q204 := eq_true q204
            go_wp2_with (first | ((with_reducible refine gate_dst (N := 19) rfl ?_); refine goesD_ (some 19) rfl rfl HF.out HN.out HBD.out (x := Operand.tmp 17) first cap #[.int .i64 x10_1] rfl rfl (by first | (rfl; done) | (simp [Act.eval, Act.put]; done)) ?_; refine (HFC.out _ _ A6.out _).mono ?_; rintro e w' ⟨rfl, ⟨nd, rfl⟩⟩; refine ⟨_, rfl, ?_⟩))
            go_roundg k1
            case measure => have := HK1.out; omega
            case rel => exact ⟨(wrap64 (x5_1 + (wrap64 ((rd l0 x10_1) * t205)))), (wrap64 (x10_1 + 1)), (by first | rfl | (simp; done) | (simp [*]; done)), (by first | rfl | (simp; done) | (simp [*]; done)), H', ⟨by have := HK1.out; omega⟩, by repeat (first | exact Drawn0.refl _ | apply Drawn0.step)⟩
          · rw [if_neg c5] at H
            exact absurd H (by simp)
        · rw [if_neg c4] at H
          exact absurd H (by simp)
      · rw [if_neg c3] at H
        have c3b0 : decide (x10_1 < (l0.length : Int)) = false := decide_eq_false c3
        clear c3
        obtain rfl := Option.some.inj H
        go_wp2
        go_ret
        exact ⟨by first | rfl | (simp; done) | (simp [*]; done), by repeat (first | exact Drawn0.refl _ | apply Drawn0.step)⟩
-- NOT PRINTED: function 48 (impl_overSum_1)

/-- The function that impl_overSum_lit makes: it reads the order in its cell. -/
theorem impl_overSum_lit.calls (q d p : Int) (w : World) (gq : Nat) (hq : w.heap[gq]? = some (.cells #[.int .i64 q] 3 (0, 0))) (h : (some (if 0 < wrap64 (q - d) then wrap64 (q - d) else 0) : Option Int) = some p) :
    Calls Try.prog 48 #[.int .i64 d, .pointer (some ⟨gq, 0, none⟩)] w fun e w' => e = .returned (.int .i64 p) ∧ Drawn0 w w' := by
  have hcz : w.cell? ⟨gq, 0, none⟩ = some (.int .i64 q) := (kc_ hq 0).trans rfl
  obtain rfl := Option.some.inj h
  clear h hq
  go_enter Try.func48, Try.ntmps48
  go_wp2
  all_goals
    go_ret
    exact ⟨by first | rfl | (simp [*]; done) | (simp [i64_w, *]; done), Drawn0.refl _⟩
/-! ### impl_overSum: function 43 -/
def impl_overSum.f (k : Nat) (l0 : List Int) (a1 : Int) : Option (Int) := (impl_weighted.f k l0 (fun d_ => some (if 0 < wrap64 (a1 - d_) then wrap64 (a1 - d_) else 0))).bind fun t298 => (some t298)
theorem impl_overSum.mono : ∀ a0 a1 k, LeO (impl_overSum.f k a0 a1) (impl_overSum.f (k + 1) a0 a1) := by
  intro a0 a1 k
  unfold impl_overSum.f
  repeat' first
      | (with_reducible exact impl_weighted.mono _ _ _)
      | (with_reducible exact LeO.refl _)
      | (with_reducible exact LeO.none _)
      | (with_reducible refine LeO.ite ?_ ?_)
      | (with_reducible refine LeO.bind ?_ (fun _ => ?_))
      | exact impl_weighted.mono _ _ _
      | exact LeO.none _
      | refine LeO.ite ?_ ?_
      | refine LeO.bind ?_ (fun _ => ?_)
set_option maxHeartbeats 8000000 in
set_option maxRecDepth 100000 in
theorem impl_overSum.calls (k : Nat) (A0 : Option Addr) (c0 : Nat) (l0 : List Int) (a1 : Int) (r : Int) (w : World) (hr0 : Kd.C (Kd.int .i64) w A0 l0.length l0) (hc0 : l0.length ≤ c0) (h : impl_overSum.f k l0 a1 = some r) :
    Calls Try.prog 43 #[.slice A0 l0.length c0, .int .i64 a1] w fun e w' => e = .returned (.int .i64 r) ∧ Below w.heap.size w w' := by
  have HR0 := am_ hr0
  have HC0 := am_ hc0
  clear hr0 hc0
  have HB := am_ (Below.refl w.heap.size w)
  have H : ((impl_weighted.f k l0 (fun d_ => some (if 0 < wrap64 (a1 - d_) then wrap64 (a1 - d_) else 0))).bind fun t298 => (some t298)) = some r := h
  clear h
  replace H := Option.bind_eq_some_iff.mp H
  obtain ⟨t298, A30, H⟩ := H
  replace H : (some t298) = some r := H
  have A3 := am_ A30
  clear A30
  obtain rfl := Option.some.inj H
  go_enter Try.func43, Try.ntmps43
  go_wp2_with (first | ((with_reducible refine gate_dst (N := 3) rfl ?_); refine box_event ?hg (N := 3) ?hd (cs := #[.int .i64 a1]) (t := 3) ?hr ?_; (case hd => rfl); (case hg => rfl); (case hr => first | (go_simp; done) | (go_simp; rfl)); intro gb297 hg w4 hbox hb; have n0_ := am_ (bp_ (by repeat (first | (with_reducible first | exact HB.out | apply ba_ | apply pw_below_drewN | apply bd_) | exact HB.out)) hb); have n1_ := am_ (hbox); have n2_ := am_ ((by rw [hg]; exact (bz_ (by repeat (first | (with_reducible first | exact HB.out | apply ba_ | apply pw_below_drewN | apply bd_) | exact HB.out))) : w.heap.size ≤ gb297)); have n3_ := am_ ((by rw [hg]; exact (bz_ (by repeat (first | (with_reducible first | exact HB.out | apply ba_ | apply pw_below_drewN | apply bd_) | exact HB.out))) : w.heap.size ≤ gb297)); clear HB; have HB := n0_; have BK297 := n1_; have GW297 := n2_; have GE297 := n3_; clear n0_ n1_ n2_ n3_; clear hb hbox hg) | ((with_reducible refine gc_ (f := 47) rfl ?_); refine goesL_ (some 7) rfl rfl Try.func47 (by kernel_rfl) rfl #[.slice A0 l0.length c0, .func (.func 48) #[] #[.pointer (some ⟨gb297, 0, none⟩)]] rfl (by (try simp only [List.map_toArray, List.map_cons, List.map_nil]); first | done | rfl | (simp only [List.length_drop, List.length_take]; rfl)) ?_; (refine (impl_weighted.calls k _ _ l0 (fun d_ => some (if 0 < wrap64 (a1 - d_) then wrap64 (a1 - d_) else 0)) t298 _ (f := 48) (first := #[]) (cap := #[.pointer (some ⟨gb297, 0, none⟩)]) Try.func48 (by kernel_rfl) rfl (fun n_ p_ h_ m_ => impl_overSum_lit.calls a1 n_ p_ _ gb297 (blk_drewN BK297.out m_) h_) ?side1 ?side2 A3.out).mono ?_); (case side1 => repeat (first | exact (cb_ HR0.out HB.out) | (with_reducible refine ca_ ?_ _) | (with_reducible refine cn_ ?_ _) | (with_reducible refine cd_ ?_))); (case side2 => exact HC0.out); rintro e w' ⟨rfl, ⟨nd, rfl⟩⟩; refine ⟨_, rfl, ?_⟩))
  go_ret
  exact ⟨by first | rfl | (simp [errW_none, errW_some] <;> rfl) | (simp [*, errW_none, errW_some] <;> rfl), by repeat (first | (with_reducible first | exact HB.out | apply ba_ | apply pw_below_drewN | apply bd_ | refine below_set ?_ GE297.out) | exact HB.out)⟩

-- NOT PRINTED: function 49 (impl_shortSum_1)

/-- The function that impl_shortSum_lit makes: it reads the order in its cell. -/
theorem impl_shortSum_lit.calls (q d p : Int) (w : World) (gq : Nat) (hq : w.heap[gq]? = some (.cells #[.int .i64 q] 3 (0, 0))) (h : (some (if 0 < wrap64 (d - q) then wrap64 (d - q) else 0) : Option Int) = some p) :
    Calls Try.prog 49 #[.int .i64 d, .pointer (some ⟨gq, 0, none⟩)] w fun e w' => e = .returned (.int .i64 p) ∧ Drawn0 w w' := by
  have hcz : w.cell? ⟨gq, 0, none⟩ = some (.int .i64 q) := (kc_ hq 0).trans rfl
  obtain rfl := Option.some.inj h
  clear h hq
  go_enter Try.func49, Try.ntmps49
  go_wp2
  all_goals
    go_ret
    exact ⟨by first | rfl | (simp [*]; done) | (simp [i64_w, *]; done), Drawn0.refl _⟩
/-! ### impl_shortSum: function 44 -/
def impl_shortSum.f (k : Nat) (l0 : List Int) (a1 : Int) : Option (Int) := (impl_weighted.f k l0 (fun d_ => some (if 0 < wrap64 (d_ - a1) then wrap64 (d_ - a1) else 0))).bind fun t300 => (some t300)
theorem impl_shortSum.mono : ∀ a0 a1 k, LeO (impl_shortSum.f k a0 a1) (impl_shortSum.f (k + 1) a0 a1) := by
  intro a0 a1 k
  unfold impl_shortSum.f
  repeat' first
      | (with_reducible exact impl_weighted.mono _ _ _)
      | (with_reducible exact LeO.refl _)
      | (with_reducible exact LeO.none _)
      | (with_reducible refine LeO.ite ?_ ?_)
      | (with_reducible refine LeO.bind ?_ (fun _ => ?_))
      | exact impl_weighted.mono _ _ _
      | exact LeO.none _
      | refine LeO.ite ?_ ?_
      | refine LeO.bind ?_ (fun _ => ?_)
set_option maxHeartbeats 8000000 in
set_option maxRecDepth 100000 in
theorem impl_shortSum.calls (k : Nat) (A0 : Option Addr) (c0 : Nat) (l0 : List Int) (a1 : Int) (r : Int) (w : World) (hr0 : Kd.C (Kd.int .i64) w A0 l0.length l0) (hc0 : l0.length ≤ c0) (h : impl_shortSum.f k l0 a1 = some r) :
    Calls Try.prog 44 #[.slice A0 l0.length c0, .int .i64 a1] w fun e w' => e = .returned (.int .i64 r) ∧ Below w.heap.size w w' := by
  have HR0 := am_ hr0
  have HC0 := am_ hc0
  clear hr0 hc0
  have HB := am_ (Below.refl w.heap.size w)
  have H : ((impl_weighted.f k l0 (fun d_ => some (if 0 < wrap64 (d_ - a1) then wrap64 (d_ - a1) else 0))).bind fun t300 => (some t300)) = some r := h
  clear h
  replace H := Option.bind_eq_some_iff.mp H
  obtain ⟨t300, A30, H⟩ := H
  replace H : (some t300) = some r := H
  have A3 := am_ A30
  clear A30
  obtain rfl := Option.some.inj H
  go_enter Try.func44, Try.ntmps44
  go_wp2_with (first | ((with_reducible refine gate_dst (N := 3) rfl ?_); refine box_event ?hg (N := 3) ?hd (cs := #[.int .i64 a1]) (t := 3) ?hr ?_; (case hd => rfl); (case hg => rfl); (case hr => first | (go_simp; done) | (go_simp; rfl)); intro gb299 hg w4 hbox hb; have n0_ := am_ (bp_ (by repeat (first | (with_reducible first | exact HB.out | apply ba_ | apply pw_below_drewN | apply bd_) | exact HB.out)) hb); have n1_ := am_ (hbox); have n2_ := am_ ((by rw [hg]; exact (bz_ (by repeat (first | (with_reducible first | exact HB.out | apply ba_ | apply pw_below_drewN | apply bd_) | exact HB.out))) : w.heap.size ≤ gb299)); have n3_ := am_ ((by rw [hg]; exact (bz_ (by repeat (first | (with_reducible first | exact HB.out | apply ba_ | apply pw_below_drewN | apply bd_) | exact HB.out))) : w.heap.size ≤ gb299)); clear HB; have HB := n0_; have BK299 := n1_; have GW299 := n2_; have GE299 := n3_; clear n0_ n1_ n2_ n3_; clear hb hbox hg) | ((with_reducible refine gc_ (f := 47) rfl ?_); refine goesL_ (some 7) rfl rfl Try.func47 (by kernel_rfl) rfl #[.slice A0 l0.length c0, .func (.func 49) #[] #[.pointer (some ⟨gb299, 0, none⟩)]] rfl (by (try simp only [List.map_toArray, List.map_cons, List.map_nil]); first | done | rfl | (simp only [List.length_drop, List.length_take]; rfl)) ?_; (refine (impl_weighted.calls k _ _ l0 (fun d_ => some (if 0 < wrap64 (d_ - a1) then wrap64 (d_ - a1) else 0)) t300 _ (f := 49) (first := #[]) (cap := #[.pointer (some ⟨gb299, 0, none⟩)]) Try.func49 (by kernel_rfl) rfl (fun n_ p_ h_ m_ => impl_shortSum_lit.calls a1 n_ p_ _ gb299 (blk_drewN BK299.out m_) h_) ?side1 ?side2 A3.out).mono ?_); (case side1 => repeat (first | exact (cb_ HR0.out HB.out) | (with_reducible refine ca_ ?_ _) | (with_reducible refine cn_ ?_ _) | (with_reducible refine cd_ ?_))); (case side2 => exact HC0.out); rintro e w' ⟨rfl, ⟨nd, rfl⟩⟩; refine ⟨_, rfl, ?_⟩))
  go_ret
  exact ⟨by first | rfl | (simp [errW_none, errW_some] <;> rfl) | (simp [*, errW_none, errW_some] <;> rfl), by repeat (first | (with_reducible first | exact HB.out | apply ba_ | apply pw_below_drewN | apply bd_ | refine below_set ?_ GE299.out) | exact HB.out)⟩

/-! ### impl_costSum: function 25 -/
def impl_costSum.f (k : Nat) (l0 : List Int) (a1 : Int) (a2 : Int) (a3 : Int) : Option (Int) := (impl_overSum.f k l0 a3).bind fun t301 => ((impl_shortSum.f k l0 a3).bind fun t302 => (some (wrap64 ((wrap64 (a1 * t301)) + (wrap64 (a2 * t302))))))
theorem impl_costSum.mono : ∀ a0 a1 a2 a3 k, LeO (impl_costSum.f k a0 a1 a2 a3) (impl_costSum.f (k + 1) a0 a1 a2 a3) := by
  intro a0 a1 a2 a3 k
  unfold impl_costSum.f
  repeat' first
      | (with_reducible exact impl_overSum.mono _ _ _)
      | (with_reducible exact impl_shortSum.mono _ _ _)
      | (with_reducible exact LeO.refl _)
      | (with_reducible exact LeO.none _)
      | (with_reducible refine LeO.ite ?_ ?_)
      | (with_reducible refine LeO.bind ?_ (fun _ => ?_))
      | exact impl_overSum.mono _ _ _
      | exact impl_shortSum.mono _ _ _
      | exact LeO.none _
      | refine LeO.ite ?_ ?_
      | refine LeO.bind ?_ (fun _ => ?_)
set_option maxHeartbeats 8000000 in
set_option maxRecDepth 100000 in
theorem impl_costSum.calls (k : Nat) (A0 : Option Addr) (c0 : Nat) (l0 : List Int) (a1 : Int) (a2 : Int) (a3 : Int) (r : Int) (w : World) (hr0 : Kd.C (Kd.int .i64) w A0 l0.length l0) (hc0 : l0.length ≤ c0) (h : impl_costSum.f k l0 a1 a2 a3 = some r) :
    Calls Try.prog 25 #[.slice A0 l0.length c0, .int .i64 a1, .int .i64 a2, .int .i64 a3] w fun e w' => e = .returned (.int .i64 r) ∧ Below w.heap.size w w' := by
  have HR0 := am_ hr0
  have HC0 := am_ hc0
  clear hr0 hc0
  have HB := am_ (Below.refl w.heap.size w)
  have H : ((impl_overSum.f k l0 a3).bind fun t301 => ((impl_shortSum.f k l0 a3).bind fun t302 => (some (wrap64 ((wrap64 (a1 * t301)) + (wrap64 (a2 * t302))))))) = some r := h
  clear h
  replace H := Option.bind_eq_some_iff.mp H
  obtain ⟨t301, A50, H⟩ := H
  replace H : ((impl_shortSum.f k l0 a3).bind fun t302 => (some (wrap64 ((wrap64 (a1 * t301)) + (wrap64 (a2 * t302)))))) = some r := H
  have A5 := am_ A50
  clear A50
  replace H := Option.bind_eq_some_iff.mp H
  obtain ⟨t302, A60, H⟩ := H
  replace H : (some (wrap64 ((wrap64 (a1 * t301)) + (wrap64 (a2 * t302))))) = some r := H
  have A6 := am_ A60
  clear A60
  obtain rfl := Option.some.inj H
  go_enter Try.func25, Try.ntmps25
  go_wp2_with (first | ((with_reducible refine gc_ (f := 43) rfl ?_); refine goesL_ (some 12) rfl rfl Try.func43 (by kernel_rfl) rfl #[.slice A0 l0.length c0, .int .i64 a3] rfl (by (try simp only [List.map_toArray, List.map_cons, List.map_nil]); first | done | rfl | (simp only [List.length_drop, List.length_take]; rfl)) ?_; (with_reducible refine (impl_overSum.calls k _ _ l0 a3 t301 _ ?side1 ?side2 A5.out).mono ?_); (case side1 => repeat (first | exact HR0.out | (with_reducible refine ca_ ?_ _) | (with_reducible refine cn_ ?_ _) | (with_reducible refine cd_ ?_))); (case side2 => exact HC0.out); rintro e w7 ⟨rfl, hb⟩; refine ⟨_, rfl, ?_⟩; have n0_ := am_ (bp_ (by repeat (first | (with_reducible first | exact HB.out | apply ba_ | apply pw_below_drewN | apply bd_) | exact HB.out)) hb); clear HB; have HB := n0_; clear n0_; (try clear hb); (try clear hb2); (try clear hk); (try clear hi)) | ((with_reducible refine gc_ (f := 44) rfl ?_); refine goesL_ (some 17) rfl rfl Try.func44 (by kernel_rfl) rfl #[.slice A0 l0.length c0, .int .i64 a3] rfl (by (try simp only [List.map_toArray, List.map_cons, List.map_nil]); first | done | rfl | (simp only [List.length_drop, List.length_take]; rfl)) ?_; (with_reducible refine (impl_shortSum.calls k _ _ l0 a3 t302 _ ?side1 ?side2 A6.out).mono ?_); (case side1 => repeat (first | exact (cb_ HR0.out HB.out) | (with_reducible refine ca_ ?_ _) | (with_reducible refine cn_ ?_ _) | (with_reducible refine cd_ ?_))); (case side2 => exact HC0.out); rintro e w8 ⟨rfl, hb⟩; refine ⟨_, rfl, ?_⟩; have n0_ := am_ (bp_ (by repeat (first | (with_reducible first | exact HB.out | apply ba_ | apply pw_below_drewN | apply bd_) | exact HB.out)) hb); clear HB; have HB := n0_; clear n0_; (try clear hb); (try clear hb2); (try clear hk); (try clear hi)))
  go_ret
  exact ⟨by first | rfl | (simp [errW_none, errW_some] <;> rfl) | (simp [*, errW_none, errW_some] <;> rfl), by repeat (first | (with_reducible first | exact HB.out | apply ba_ | apply pw_below_drewN | apply bd_) | exact HB.out)⟩

-- NOT PRINTED: function 23 (impl_BudgetOrders_1)

/-! ### impl_BudgetOrders: function 6 -/
/- ours: made by wip/seat21 (bud*.txt) -/
/- what a closure writes: two cells -/
/-- All but the two cells (and what is new) stays. -/
structure BudFr (gl gb : Nat) (w W : World) : Prop where
  os : W.os = w.os
  tape : W.tape = w.tape
  output : W.output = w.output
  kept : Kept w W (fun k => k = gl ∨ k = gb)
section
variable {gl gb g : Nat} {w W W2 w0 : World}
theorem BudFr.refl (gl gb : Nat) (w : World) : BudFr gl gb w w := ⟨rfl, rfl, rfl, Kept.refl _ _⟩
theorem BudFr.of_below (h : Below w.heap.size w W) : BudFr gl gb w W := ⟨h.os, h.tape, h.output, Kept.of_below h _⟩
theorem BudFr.trans (h : BudFr gl gb w W) (k : BudFr gl gb W W2) : BudFr gl gb w W2 := ⟨k.os.trans h.os, k.tape.trans h.tape, k.output.trans h.output, h.kept.then_ k.kept (fun _ h2 => .inl h2)⟩
theorem BudFr.below (h : BudFr gl gb w W) (k : Below W.heap.size W W2) : BudFr gl gb w W2 := h.trans (.of_below k)
theorem BudFr.set (h : BudFr gl gb w W) (hg : g = gl ∨ g = gb) (j : Nat) (u : Value) : BudFr gl gb w (W.setCell ⟨g, j, none⟩ u) := ⟨h.os, h.tape, h.output, h.kept.setCell (.inl hg) u⟩
theorem BudFr.size (h : BudFr gl gb w W) : w.heap.size ≤ W.heap.size := h.kept.1
theorem BudFr.blk {o : Obj} (h : BudFr gl gb w W) (hb : w.heap[g]? = some o) (h1 : g ≠ gl) (h2 : g ≠ gb) : W.heap[g]? = some o := blk_kept hb h.kept (fun hk => hk.elim h1 h2)
theorem BudFr.cell {a : Addr} {v : Value} (h : BudFr gl gb w W) (hc : w.cell? a = some v) (h1 : a.block ≠ gl) (h2 : a.block ≠ gb) : W.cell? a = some v := cell_kept hc h.kept (fun hk => hk.elim h1 h2)
theorem BudFr.came (hb : Below w0.heap.size w0 w) (h : BudFr gl gb w W) (h1 : w0.heap.size ≤ gl) (h2 : w0.heap.size ≤ gb) : Below w0.heap.size w0 W :=
  ⟨h.os.trans hb.os, h.tape.trans hb.tape, h.output.trans hb.output, Nat.le_trans hb.size h.size, fun k hk => (h.kept.2 k (Nat.lt_of_lt_of_le hk hb.size) (fun hs => by rcases hs with rfl | rfl <;> omega)).trans (hb.block k hk)⟩
theorem BudFr.row {base : Nat} {v : Value} {xs : List Int} (h : BudFr gl gb w W) (hr : Kd.R (Kd.int .i64) 3 w base (fun _ => True) v xs) (h1 : gl < base) (h2 : gb < base) : Kd.R (Kd.int .i64) 3 W base (fun _ => True) v xs :=
  Kd.R_mono (Kd.R_kept (Kd.R_bound hr) h.kept (fun k hk hs => by rcases hs with rfl | rfl <;> omega)) (fun _ _ => trivial)
end
section
variable {P : Program} {ops : Array Oper} {K : Act → World → Prop} {Q : Exit → Act → World → Prop} {E : Prop}
/-- A call of a Go function, at a step of a drawn region. -/
theorem step_goesL {oi : Oper} {a : Act} {w : World} (hg : oi.guard = none) {f : FuncId} {fn : Func} {as_ : Array Operand} {ts : Array TypeId} (hf : P.funcs[f]? = some fn) (hname : (fn.name == "runtime.NumGoroutine") = false) (hb : fn.body.isSome = true) (args : Array Value)
    (hop : oi.op = .call { callee := .value (.func f), args := as_, argTypes := ts }) (hargs : as_.map a.eval = args)
    (h : Calls P f args w fun e w' => ∃ v, e = .returned v ∧ K (a.put oi.dst v) w') : if Region.wanted oi (yielded ops a.tmps) = true then Oper.wp P oi a w K Q else E := by
  have hw : Region.wanted oi (yielded ops a.tmps) = true := by simp [Region.wanted, hg]
  rw [if_pos hw]
  have hrun : (execOp a.eval oi).run P w = .ok (.enter f args) w := by
    unfold execOp
    simp [hop, resolve, Deferred.ofValue, invoke, hargs, Act.eval]
    exact enters_ hf hname hb args w
  unfold Oper.wp
  rw [hrun, Oper.upon_enter]
  refine h.mono fun e w'' hh => ?_
  obtain ⟨v, rfl, hk⟩ := hh
  exact hk
/-- A call of a function value, at a step of a drawn region. -/
theorem step_goesD {oi : Oper} {a : Act} {w : World} (hg : oi.guard = none) {f : FuncId} {fn : Func} {x : Operand} {as_ : Array Operand} {ts : Array TypeId} (hf : P.funcs[f]? = some fn) (hname : (fn.name == "runtime.NumGoroutine") = false) (hb : fn.body.isSome = true) (first cap args : Array Value)
    (hop : oi.op = .call { callee := .value x, args := as_, argTypes := ts }) (hx : a.eval x = .func (.func f) first cap) (hargs : as_.map a.eval = args)
    (h : Calls P f (first ++ args ++ cap) w fun e w' => ∃ v, e = .returned v ∧ K (a.put oi.dst v) w') : if Region.wanted oi (yielded ops a.tmps) = true then Oper.wp P oi a w K Q else E := by
  have hw : Region.wanted oi (yielded ops a.tmps) = true := by simp [Region.wanted, hg]
  rw [if_pos hw]
  have hrun : (execOp a.eval oi).run P w = .ok (.enter f (first ++ args ++ cap)) w := by
    unfold execOp
    simp [hop, resolve, Deferred.ofValue, invoke, hx, hargs]
    rw [← Array.append_assoc]
    exact enters_ hf hname hb (first ++ args ++ cap) w
  unfold Oper.wp
  rw [hrun, Oper.upon_enter]
  refine h.mono fun e w'' hh => ?_
  obtain ⟨v, rfl, hk⟩ := hh
  exact hk
end
theorem int_cells {W : World} {A : Option Addr} {l : List Int} (h : Kd.C (Kd.int .i64) W A l.length l) : ∀ b, A = some b → ∀ j u, (l.map (Value.int .i64))[j]? = some u → W.cell? (b.add j) = some u := by
  rintro b rfl j u hj
  rw [List.getElem?_map] at hj
  obtain ⟨p, hp, rfl⟩ := Option.map_eq_some_iff.mp hj
  have hlt : j < l.length := (List.getElem?_eq_some_iff.mp hp).1
  obtain ⟨ad', e, hcell⟩ := Kd.at_int h (j : Int) (Int.natCast_nonneg j) (by omega)
  cases e
  have e2 : rd l (j : Int) = p := by simp [rd, hp]
  rw [e2] at hcell
  simpa using hcell
theorem int_none {W : World} {A : Option Addr} {l : List Int} (h : Kd.C (Kd.int .i64) W A l.length l) : A = none → l.length = 0 ∧ l.length = 0 := by
  rintro rfl
  by_cases e : l.length = 0
  · exact ⟨e, e⟩
  · obtain ⟨ad, h2, _⟩ := Kd.at_int h 0 (Int.le_refl 0) (by omega)
    cases h2
theorem two_cells {W : World} {n : Nat} {x : Int} (h : W.heap[n]? = some (.cells #[.int .i64 x] 3 (0, 0))) : ∀ j u, [Value.int .i64 x][j]? = some u → W.cell? ((⟨n, 0, none⟩ : Addr).add j) = some u := by
  intro j u hj
  have hj0 : j = 0 := by
    have := (List.getElem?_eq_some_iff.mp hj).1
    simp at this
    exact this
  subst hj0
  cases hj
  exact (kc_ h 0).trans rfl
/-- append(orders[:i:i], q) at a step of a drawn region: the cut has no room, so the row is a new one. -/
theorem bud_grows {ops : Array Oper} {o : Oper} {a : Act} {K : Act → World → Prop} {Q : Exit → Act → World → Prop} {E : Prop} {W : World} (A0 : Option Addr) (l0 : List Int) (x : Int) {l2 : List Int} (h2 : l2 = l0 ++ [x]) (hg : o.guard = none) (s y : Operand) (hop : o.op = Op.call { callee := Callee.builtin Builtin.append, args := #[s, y], argTypes := #[25, 25] })
    (base n : Nat) (hc : Kd.C (Kd.int .i64) W A0 l0.length l0) (hs : a.eval s = .slice A0 l0.length l0.length) (hy : a.eval y = .slice (some ⟨n, 0, none⟩) 1 1) (hn : W.heap[n]? = some (.cells #[.int .i64 x] 3 (0, 0))) (hbase : base ≤ W.heap.size) (hl : l0.length < 17592186044416)
    (h : ∀ A2 c2 w2, Kd.R (Kd.int .i64) 3 w2 base (fun _ => True) (.slice A2 l2.length c2) l2 → Below W.heap.size W w2 → K (a.put o.dst (.slice A2 l2.length c2)) w2) :
    if Region.wanted o (yielded ops a.tmps) = true then Oper.wp Try.prog o a W K Q else E := by
  subst h2
  obtain ⟨i_, hi_, z_, s_, b_⟩ := info_parts info3
  refine step_append_grows hg s y 25 hop 3 i_ (.int .i64 0) 1 8 Try.underlying25 hi_ z_ s_ b_ rfl (by decide) A0 l0.length l0.length (l0.map (Value.int .i64)) hs (int_none hc) (by simp) (int_cells hc) ⟨n, 0, none⟩ 1 1 [.int .i64 x] hy (by simp) (two_cells hn) ?one (by omega) (by simp only [maxLen]; omega) (by omega) ?k
  case one => intro u hu; simp at hu; subst hu; rfl
  case k =>
    intro v' w' hown hgr
    have hown2 : w'.ownsRow W.heap.size 3 1 v' (l0 ++ [x]).length (encs (Value.int .i64) (l0 ++ [x])) := by
      simpa [encs] using hown
    have hR0 : Kd.R (Kd.int .i64) 3 w' W.heap.size (fun _ => True) v' (l0 ++ [x]) := Kd.R_of_own (h1 := fun _ => rfl) hown2 (fun _ _ => trivial)
    obtain ⟨A2, c2, rfl⟩ := Kd.R_slice hR0
    exact h A2 c2 w' (Kd.R_lower hR0 hbase) ((Below.refl _ _).grown hgr (Nat.le_refl _) (fun _ h_ => by cases h_))
/- impl_BudgetOrdersLit: function 23: 'choose': what it writes (best, least) told as what it is given and gives back -/
mutual
def impl_BudgetOrdersLit.l0 : Nat → List (List Int) → Int → Int → List Int → List Int → Int → Int → List Int → Int → Int → Option (List Int × Int)
  | 0, _, _, _, _, _, _, _, _, _, _ => none
  | k + 1, x0, x1, x2, x3, x4, x5, x6, b, t, q => if q < 16 then (if (x4.length : Int) < (x3.length : Int) then (if wrap64 (q * rd x3 (x4.length : Int)) ≤ x5 then (if x4.length < 17592186044416 then (if (x4.length : Int) < (x0.length : Int) then ((impl_costSum.f k (rd_L2 x0 (x4.length : Int)) x1 x2 q).bind fun c => ((impl_BudgetOrdersLit.f k x0 x1 x2 x3 (x4 ++ [q]) (wrap64 (x5 - wrap64 (q * rd x3 (x4.length : Int)))) (wrap64 (x6 + c)) b t).bind fun bt => (impl_BudgetOrdersLit.l0 k x0 x1 x2 x3 x4 x5 x6 bt.1 bt.2 (wrap64 (q + 1))))) else (none)) else (none)) else (impl_BudgetOrdersLit.l0 k x0 x1 x2 x3 x4 x5 x6 b t (wrap64 (q + 1)))) else (none)) else (some (b, t))
def impl_BudgetOrdersLit.f : Nat → List (List Int) → Int → Int → List Int → List Int → Int → Int → List Int → Int → Option (List Int × Int)
  | 0, _, _, _, _, _, _, _, _, _ => none
  | k + 1, x0, x1, x2, x3, x4, x5, x6, b, t => if (x4.length : Int) = (x0.length : Int) then (if x6 < t then ((impl_copied.f x4).bind fun r => (some (r, x6))) else (some (b, t))) else (impl_BudgetOrdersLit.l0 k x0 x1 x2 x3 x4 x5 x6 b t 0)
end
theorem impl_BudgetOrdersLit.mono_l : ∀ k, (∀ y0 y1 y2 y3 y4 y5 y6 y7 y8, LeO (impl_BudgetOrdersLit.f k y0 y1 y2 y3 y4 y5 y6 y7 y8) (impl_BudgetOrdersLit.f (k + 1) y0 y1 y2 y3 y4 y5 y6 y7 y8)) ∧ (∀ y0 y1 y2 y3 y4 y5 y6 y7 y8 y9, LeO (impl_BudgetOrdersLit.l0 k y0 y1 y2 y3 y4 y5 y6 y7 y8 y9) (impl_BudgetOrdersLit.l0 (k + 1) y0 y1 y2 y3 y4 y5 y6 y7 y8 y9))
  | 0 => ⟨fun _ _ _ _ _ _ _ _ _ r h => by simp [impl_BudgetOrdersLit.f] at h, fun _ _ _ _ _ _ _ _ _ _ r h => by simp [impl_BudgetOrdersLit.l0] at h⟩
  | k + 1 => by
    obtain ⟨ih0, ih1⟩ := impl_BudgetOrdersLit.mono_l k
    refine ⟨?_, ?_⟩
    · intro y0 y1 y2 y3 y4 y5 y6 y7 y8
      unfold impl_BudgetOrdersLit.f
      repeat' first
      | (with_reducible exact ih1 _ _ _ _ _ _ _ _ _ _)
      | (with_reducible exact LeO.refl _)
      | (with_reducible exact LeO.none _)
      | (with_reducible refine LeO.ite ?_ ?_)
      | (with_reducible refine LeO.bind ?_ (fun _ => ?_))
    · intro y0 y1 y2 y3 y4 y5 y6 y7 y8 y9
      unfold impl_BudgetOrdersLit.l0
      repeat' first
      | (with_reducible exact ih0 _ _ _ _ _ _ _ _ _)
      | (with_reducible exact ih1 _ _ _ _ _ _ _ _ _ _)
      | (with_reducible exact impl_costSum.mono _ _ _ _ _)
      | (with_reducible exact LeO.refl _)
      | (with_reducible exact LeO.none _)
      | (with_reducible refine LeO.ite ?_ ?_)
      | (with_reducible refine LeO.bind ?_ (fun _ => ?_))
theorem impl_BudgetOrdersLit.mono : ∀ a0 a1 a2 a3 a4 a5 a6 a7 a8 k, LeO (impl_BudgetOrdersLit.f k a0 a1 a2 a3 a4 a5 a6 a7 a8) (impl_BudgetOrdersLit.f (k + 1) a0 a1 a2 a3 a4 a5 a6 a7 a8) := fun a0 a1 a2 a3 a4 a5 a6 a7 a8 k => (impl_BudgetOrdersLit.mono_l k).1 a0 a1 a2 a3 a4 a5 a6 a7 a8
/-- What choose finds: goods, over, under, prices, itself; they stay. -/
def budFun (gg gl gb gp gc go gu : Nat) : Value := .func (.func 23) #[] #[.pointer (some ⟨gg, 0, none⟩), .pointer (some ⟨gl, 0, none⟩), .pointer (some ⟨gb, 0, none⟩), .pointer (some ⟨gp, 0, none⟩), .pointer (some ⟨gc, 0, none⟩), .pointer (some ⟨go, 0, none⟩), .pointer (some ⟨gu, 0, none⟩)]
set_option maxHeartbeats 8000000 in
set_option maxRecDepth 100000 in
theorem impl_BudgetOrdersLit.calls (k : Nat) : ∀ (gg gl gb gp gc go gu base : Nat) (w0 w : World) (AG : Option Addr) (cG : Nat) (l0 : List (List Int)) (a1 a2 : Int) (AP : Option Addr) (cP : Nat) (l3 : List Int) (A0 : Option Addr) (c0 : Nat) (l4 : List Int) (a5 a6 : Int) (AB : Option Addr) (cB : Nat) (bl : List Int) (t : Int) (r1 : List Int) (r2 : Int)
    (hgg : w.heap[gg]? = some (.cells #[.slice AG l0.length cG] 24 (0, 0))) (hgl : w.heap[gl]? = some (.cells #[.int .i64 t] 3 (0, 0))) (hgb : w.heap[gb]? = some (.cells #[.slice AB bl.length cB] 25 (0, 0))) (hgp : w.heap[gp]? = some (.cells #[.slice AP l3.length cP] 25 (0, 0)))
    (hgc : w.heap[gc]? = some (.cells #[.func (.func 23) #[] #[.pointer (some ⟨gg, 0, none⟩), .pointer (some ⟨gl, 0, none⟩), .pointer (some ⟨gb, 0, none⟩), .pointer (some ⟨gp, 0, none⟩), .pointer (some ⟨gc, 0, none⟩), .pointer (some ⟨go, 0, none⟩), .pointer (some ⟨gu, 0, none⟩)]] 49 (0, 0)))
    (hgo : w.heap[go]? = some (.cells #[.int .i64 a1] 3 (0, 0))) (hgu : w.heap[gu]? = some (.cells #[.int .i64 a2] 3 (0, 0)))
    (hne : w0.heap.size ≤ gg ∧ gg < go ∧ go < gu ∧ gu < gp ∧ gp < gb ∧ gb < gl ∧ gl < gc ∧ gc < base) (hbase : base ≤ w.heap.size) (hb0 : Below w0.heap.size w0 w)
    (hrG : Kd.C (Kd.slice 3 (Kd.int .i64)) w0 AG l0.length l0) (hcG : l0.length ≤ cG) (hrP : Kd.C (Kd.int .i64) w0 AP l3.length l3) (hcP : l3.length ≤ cP)
    (hr0 : Kd.R (Kd.int .i64) 3 w base (fun _ => True) (.slice A0 l4.length c0) l4) (hrB : Kd.R (Kd.int .i64) 3 w base (fun _ => True) (.slice AB bl.length cB) bl)
    (h : impl_BudgetOrdersLit.f k l0 a1 a2 l3 l4 a5 a6 bl t = some (r1, r2)),
    Calls Try.prog 23 #[.slice A0 l4.length c0, .int .i64 a5, .int .i64 a6, .pointer (some ⟨gg, 0, none⟩), .pointer (some ⟨gl, 0, none⟩), .pointer (some ⟨gb, 0, none⟩), .pointer (some ⟨gp, 0, none⟩), .pointer (some ⟨gc, 0, none⟩), .pointer (some ⟨go, 0, none⟩), .pointer (some ⟨gu, 0, none⟩)] w fun e w' => e = .returned (.tuple #[]) ∧ BudFr gl gb w w' ∧ w'.heap[gl]? = some (.cells #[.int .i64 r2] 3 (0, 0)) ∧ ∃ A c, w'.heap[gb]? = some (.cells #[.slice A r1.length c] 25 (0, 0)) ∧ Kd.R (Kd.int .i64) 3 w' base (fun _ => True) (.slice A r1.length c) r1 := by
  induction k using Nat.strongRecOn with
  | _ k ih =>
  intro gg gl gb gp gc go gu base w0 w AG cG l0 a1 a2 AP cP l3 A0 c0 l4 a5 a6 AB cB bl t r1 r2 hgg hgl hgb hgp hgc hgo hgu hne hbase hb0 hrG hcG hrP hcP hr0 hrB h
  cases k with
  | zero => exact absurd h (by simp [impl_BudgetOrdersLit.f])
  | succ k =>
  simp only [impl_BudgetOrdersLit.f] at h
  have hwgg_ : w.cell? ⟨gg, 0, none⟩ = some (.slice AG l0.length cG) := (kc_ hgg 0).trans rfl
  have hwgl_ : w.cell? ⟨gl, 0, none⟩ = some (.int .i64 t) := (kc_ hgl 0).trans rfl
  have hfgl_ : w.frozen? ⟨gl, 0, none⟩ = false := kf_ hgl 0
  have hfgb_ : w.frozen? ⟨gb, 0, none⟩ = false := kf_ hgb 0
  have hwgb_ : w.cell? ⟨gb, 0, none⟩ = some (.slice AB bl.length cB) := (kc_ hgb 0).trans rfl
  have HGG := am_ hgg
  have HGL := am_ hgl
  have HGB := am_ hgb
  have HGP := am_ hgp
  have HGC := am_ hgc
  have HGO := am_ hgo
  have HGU := am_ hgu
  have HNE := am_ hne
  have HBASE := am_ hbase
  have HB0 := am_ hb0
  have HRG := am_ hrG
  have HCG := am_ hcG
  have HRP := am_ hrP
  have HCP := am_ hcP
  have HR0 := am_ hr0
  have HC0 := am_ (rr_ hr0).2.1
  have HRB := am_ hrB
  clear hgg hgl hgb hgp hgc hgo hgu hne hbase hb0 hrG hcG hrP hcP hr0 hrB
  have H := h
  clear h
  by_cases c3 : (l4.length : Int) = (l0.length : Int)
  · rw [if_pos c3] at H
    have c3b0 : ((l4.length : Int) == (l0.length : Int)) = true := beq_iff_eq.mpr c3
    have c3b1 : ((l4.length : Int) != (l0.length : Int)) = false := bne_eq_false_iff_eq.mpr c3
    have c3b2 : (l4.length == l0.length) = true := by first | simpa using c3 | (simp at c3 ⊢; omega)
    clear c3
    by_cases c4 : a6 < t
    · rw [if_pos c4] at H
      have c4b0 : decide (a6 < t) = true := decide_eq_true c4
      clear c4
      obtain ⟨t5, A50, H⟩ := Option.bind_eq_some_iff.mp H
      have A5 := am_ A50
      clear A50
      simp only [Option.some.injEq, Prod.mk.injEq] at H
      obtain ⟨rfl, rfl⟩ := H
      go_enter Try.func23, Try.ntmps23
      go_wp2_with (first | ((with_reducible refine gc_ (f := 24) rfl ?_); refine goesL_ (some 25) rfl rfl Try.func24 (by kernel_rfl) rfl #[.slice A0 l4.length c0] rfl (by (try simp only [List.map_toArray, List.map_cons, List.map_nil]); first | done | rfl) ?_; refine (impl_copied.calls A0 c0 l4 t5 _ (rr_ HR0.out).2.2 HC0.out A5.out).mono ?_; rintro e w1 ⟨v1, rfl, ho1, hb1⟩; refine ⟨_, rfl, ?_⟩; obtain ⟨A1, c1, rfl⟩ := Kd.R_slice ho1; have HO1 := am_ ho1; have HB1 := am_ hb1; have HGL1 := am_ (kb_ HGL.out hb1); have HGB1 := am_ (kb_ HGB.out hb1); have hc1gb_ : w1.cell? ⟨gb, 0, none⟩ = some (.slice AB bl.length cB) := (kc_ HGB1.out 0).trans rfl; have hf1gb_ : w1.frozen? ⟨gb, 0, none⟩ = false := kf_ HGB1.out 0; clear ho1 hb1) | ((with_reducible refine gate_store (t := 25) (p := 5) rfl ?_); refine store_event (t := 25) (p := 5) (v := .tmp 25) (w1 := (w1.setCell ⟨gb, 0, none⟩ (.slice A1 t5.length c1))) ?hg ?ho ?hn ?hr ?_; (case ho => rfl); (case hg => rfl); (case hn => rfl); (case hr => first | (go_simp; done) | (go_simp; rfl)); intro w2 hw2; have HGB2 := am_ (by rw [hw2]; exact blk_put HGB1.out 0 _ rfl : w2.heap[gb]? = some (.cells #[.slice A1 t5.length c1] 25 (0, 0))); have HGL2 := am_ (by rw [hw2]; exact blk_far HGL1.out (by have := HNE.out; simp only []; omega) _ : w2.heap[gl]? = some (.cells #[.int .i64 t] 3 (0, 0))); have HF2 := am_ (by rw [hw2]; exact (BudFr.of_below HB1.out).set (.inr rfl) 0 _ : BudFr gl gb w w2); have HF12 := am_ (by rw [hw2]; exact (BudFr.refl gl gb w1).set (.inr rfl) 0 _ : BudFr gl gb w1 w2); have hc2gl_ : w2.cell? ⟨gl, 0, none⟩ = some (.int .i64 t) := (kc_ HGL2.out 0).trans rfl; have hf2gl_ : w2.frozen? ⟨gl, 0, none⟩ = false := kf_ HGL2.out 0; clear hw2) | ((with_reducible refine gate_store (t := 3) (p := 4) rfl ?_); refine store_event (t := 3) (p := 4) (v := .tmp 26) (w1 := (w2.setCell ⟨gl, 0, none⟩ (.int .i64 a6))) ?hg ?ho ?hn ?hr ?_; (case ho => rfl); (case hg => rfl); (case hn => rfl); (case hr => first | (go_simp; done) | (go_simp; rfl)); intro w3 hw3; have HGL3 := am_ (by rw [hw3]; exact blk_put HGL2.out 0 _ rfl : w3.heap[gl]? = some (.cells #[.int .i64 a6] 3 (0, 0))); have HGB3 := am_ (by rw [hw3]; exact blk_far HGB2.out (by have := HNE.out; simp only []; omega) _ : w3.heap[gb]? = some (.cells #[.slice A1 t5.length c1] 25 (0, 0))); have HF3 := am_ (by rw [hw3]; exact HF2.out.set (.inl rfl) 0 _ : BudFr gl gb w w3); have HF13 := am_ (by rw [hw3]; exact HF12.out.set (.inl rfl) 0 _ : BudFr gl gb w1 w3); clear hw3))
      (try simp only [Exit.inBlock, Exit.then])
      refine bodyPost_ret (results_none rfl _ _ _) rfl ?_
      exact ⟨rfl, HF3.out, HGL3.out, A1, c1, HGB3.out, Kd.R_lower (HF13.out.row HO1.out (by have := HNE.out; have := HBASE.out; omega) (by have := HNE.out; have := HBASE.out; omega)) HBASE.out⟩
    · rw [if_neg c4] at H
      have c4b0 : decide (a6 < t) = false := decide_eq_false c4
      clear c4
      simp only [Option.some.injEq, Prod.mk.injEq] at H
      obtain ⟨rfl, rfl⟩ := H
      go_enter Try.func23, Try.ntmps23
      go_wp2
      (try simp only [Exit.inBlock, Exit.then])
      refine bodyPost_ret (results_none rfl _ _ _) rfl ?_
      exact ⟨rfl, BudFr.refl _ _ _, HGL.out, AB, cB, HGB.out, HRB.out⟩
  · rw [if_neg c3] at H
    have c3b0 : ((l4.length : Int) == (l0.length : Int)) = false := beq_eq_false_iff_ne.mpr c3
    have c3b1 : ((l4.length : Int) != (l0.length : Int)) = true := bne_iff_ne.mpr c3
    have c3b2 : (l4.length == l0.length) = false := by first | simpa using c3 | (simp at c3 ⊢; omega)
    have H' := am_ H
    clear H
    go_enter Try.func23, Try.ntmps23
    go_wp2
    go_loopg [27] k (fun kq v27 w' => ∃ (q : Int) (bq : List Int) (tq : Int) (Aq : Option Addr) (cq : Nat), v27 = .int .i64 q ∧ Aside0 (impl_BudgetOrdersLit.l0 kq l0 a1 a2 l3 l4 a5 a6 bq tq q = some (r1, r2)) ∧ Aside0 (kq ≤ k) ∧ Aside0 (BudFr gl gb w w') ∧ Aside0 (w'.heap[gl]? = some (.cells #[.int .i64 tq] 3 (0, 0))) ∧ Aside0 (w'.heap[gb]? = some (.cells #[.slice Aq bq.length cq] 25 (0, 0))) ∧ Aside0 (Kd.R (Kd.int .i64) 3 w' base (fun _ => True) (.slice Aq bq.length cq) bq))
    case atStart => exact ⟨0, bl, t, AB, cB, rfl, H', ⟨Nat.le_refl _⟩, ⟨BudFr.refl _ _ _⟩, HGL, HGB, HRB⟩
    case round =>
      clear H'
      obtain ⟨q, bq, tq, Aq, cq, rfl, HA, HK1, HF, HGLq, HGBq, HRBq⟩ := hrel
      cases gk with
      | zero => exact absurd HA.out (by simp [impl_BudgetOrdersLit.l0])
      | succ k1 =>
        have H := HA.out
        clear HA
        simp only [impl_BudgetOrdersLit.l0] at H
        by_cases c8 : q < 16
        · rw [if_pos c8] at H
          have c8b0 : decide (q < 16) = true := decide_eq_true c8
          clear c8
          by_cases c9 : (l4.length : Int) < (l3.length : Int)
          · rw [if_pos c9] at H
            have p1 : 0 ≤ (l4.length : Int) := Int.natCast_nonneg _
            obtain ⟨adP, eP, hxP⟩ := Kd.at_int HRP.out (l4.length : Int) p1 c9
            cases eP
            have hfr : BudFr gl gb w wr := HF.out
            have hbW : Below w0.heap.size w0 wr := BudFr.came HB0.out hfr (by have := HNE.out; omega) (by have := HNE.out; omega)
            have ltP0 := World.block_lt_of_cell? w0 _ hxP
            replace hxP := (hbW.cell (World.block_lt_of_cell? w0 _ hxP)).trans hxP
            (try simp only [Go.IntWalk.toNatUp] at hxP ltP0)
            have hwgp_ : wr.cell? ⟨gp, 0, none⟩ = some (.slice (some adP) l3.length cP) := (kc_ (hfr.blk HGP.out (by have := HNE.out; omega) (by have := HNE.out; omega)) 0).trans rfl
            have q1 := eq_true c9
            by_cases c10 : wrap64 (q * rd l3 (l4.length : Int)) ≤ a5
            · rw [if_pos c10] at H
              have c10b0 : decide (wrap64 (q * rd l3 (l4.length : Int)) ≤ a5) = true := decide_eq_true c10
              clear c10
              by_cases c11 : l4.length < 17592186044416
              · rw [if_pos c11] at H
                by_cases c12 : (l4.length : Int) < (l0.length : Int)
                · rw [if_pos c12] at H
                  obtain ⟨c, AC0, H⟩ := Option.bind_eq_some_iff.mp H
                  have AC := am_ AC0
                  clear AC0
                  obtain ⟨⟨b1, t1⟩, AB0, H⟩ := Option.bind_eq_some_iff.mp H
                  have AB1 := am_ AB0
                  clear AB0
                  have H' := am_ H
                  clear H
                  obtain ⟨adG, Ai, ci, eG, hxG, hlG, hiG⟩ := at_L2 HRG.out (l4.length : Int) p1 c12
                  cases eG
                  have ltP : (adP.add l4.length).block < w0.heap.size := ltP0
                  have ltG : (adG.add ((l4.length : Int)).toNat).block < w0.heap.size := World.block_lt_of_cell? w0 _ hxG
                  replace hxG := (hbW.cell ltG).trans hxG
                  (try simp only [Go.IntWalk.toNatUp] at hxG ltG)
                  have HRI := am_ (cb_ hiG hbW)
                  have HLI := am_ hlG
                  clear hiG hlG
                  have hwgg2_ : wr.cell? ⟨gg, 0, none⟩ = some (.slice (some adG) l0.length cG) := (kc_ (hfr.blk HGG.out (by have := HNE.out; omega) (by have := HNE.out; omega)) 0).trans rfl
                  have hwgc2_ : wr.cell? ⟨gc, 0, none⟩ = some (.func (.func 23) #[] #[.pointer (some ⟨gg, 0, none⟩), .pointer (some ⟨gl, 0, none⟩), .pointer (some ⟨gb, 0, none⟩), .pointer (some ⟨gp, 0, none⟩), .pointer (some ⟨gc, 0, none⟩), .pointer (some ⟨go, 0, none⟩), .pointer (some ⟨gu, 0, none⟩)]) := (kc_ (hfr.blk HGC.out (by have := HNE.out; omega) (by have := HNE.out; omega)) 0).trans rfl
                  have hwgo2_ : wr.cell? ⟨go, 0, none⟩ = some (.int .i64 a1) := (kc_ (hfr.blk HGO.out (by have := HNE.out; omega) (by have := HNE.out; omega)) 0).trans rfl
                  have hwgu2_ : wr.cell? ⟨gu, 0, none⟩ = some (.int .i64 a2) := (kc_ (hfr.blk HGU.out (by have := HNE.out; omega) (by have := HNE.out; omega)) 0).trans rfl
                  have HSOF := am_ (show ∀ W, BudFr gl gb wr W → (W.cell? ⟨gc, 0, none⟩ = some (.func (.func 23) #[] #[.pointer (some ⟨gg, 0, none⟩), .pointer (some ⟨gl, 0, none⟩), .pointer (some ⟨gb, 0, none⟩), .pointer (some ⟨gp, 0, none⟩), .pointer (some ⟨gc, 0, none⟩), .pointer (some ⟨go, 0, none⟩), .pointer (some ⟨gu, 0, none⟩)]) ∧ W.cell? ⟨gp, 0, none⟩ = some (.slice (some adP) l3.length cP) ∧ W.cell? (adP.add l4.length) = some (.int .i64 (rd l3 (l4.length : Int))) ∧ W.cell? ⟨gg, 0, none⟩ = some (.slice (some adG) l0.length cG) ∧ W.cell? (adG.add l4.length) = some (.slice Ai (rd_L2 l0 (l4.length : Int)).length ci) ∧ W.cell? ⟨go, 0, none⟩ = some (.int .i64 a1) ∧ W.cell? ⟨gu, 0, none⟩ = some (.int .i64 a2) ∧ Aside0 (BudFr gl gb wr W)) from fun W hf => ⟨hf.cell hwgc2_ (by have := HNE.out; simp only []; omega) (by have := HNE.out; simp only []; omega), hf.cell hwgp_ (by have := HNE.out; simp only []; omega) (by have := HNE.out; simp only []; omega), hf.cell hxP (by have := HNE.out; omega) (by have := HNE.out; omega), hf.cell hwgg2_ (by have := HNE.out; simp only []; omega) (by have := HNE.out; simp only []; omega), hf.cell hxG (by have := HNE.out; omega) (by have := HNE.out; omega), hf.cell hwgo2_ (by have := HNE.out; simp only []; omega) (by have := HNE.out; simp only []; omega), hf.cell hwgu2_ (by have := HNE.out; simp only []; omega) (by have := HNE.out; simp only []; omega), ⟨hf⟩⟩)
                  have HBW := am_ hbW
                  have HR0w := am_ (hfr.row HR0.out (by have := HNE.out; omega) (by have := HNE.out; omega))
                  have HBASEw := am_ (Nat.le_trans HBASE.out hfr.size)
                  have C11 := am_ c11
                  clear hbW hfr c11 ltP ltG ltP0 hwgg2_ hwgc2_ hwgo2_ hwgu2_
                  have hcap0 : (l4.length ≤ c0) = True := eq_true HC0.out
                  have hcap1 : ((l4.length : Int) ≤ (c0 : Int)) = True := eq_true (by have := HC0.out; omega)
                  have q12 := eq_true c12
                  go_wp2_with fail
                  go_region_held3 (fun w' => w'.cell? ⟨gc, 0, none⟩ = some (.func (.func 23) #[] #[.pointer (some ⟨gg, 0, none⟩), .pointer (some ⟨gl, 0, none⟩), .pointer (some ⟨gb, 0, none⟩), .pointer (some ⟨gp, 0, none⟩), .pointer (some ⟨gc, 0, none⟩), .pointer (some ⟨go, 0, none⟩), .pointer (some ⟨gu, 0, none⟩)]) ∧ w'.cell? ⟨gp, 0, none⟩ = some (.slice (some adP) l3.length cP) ∧ w'.cell? (adP.add l4.length) = some (.int .i64 (rd l3 (l4.length : Int))) ∧ w'.cell? ⟨gg, 0, none⟩ = some (.slice (some adG) l0.length cG) ∧ w'.cell? (adG.add l4.length) = some (.slice Ai (rd_L2 l0 (l4.length : Int)).length ci) ∧ w'.cell? ⟨go, 0, none⟩ = some (.int .i64 a1) ∧ w'.cell? ⟨gu, 0, none⟩ = some (.int .i64 a2) ∧ Aside0 (BudFr gl gb wr w'))
                    (first
                      | exact HSOF.out _ HF4.out
                      | exact HSOF.out _ (BudFr.of_below HB3.out)
                      | exact HSOF.out _ (BudFr.of_below HB2.out)
                      | exact HSOF.out _ (BudFr.of_below (by repeat (first | (with_reducible first | exact Below.refl _ _ | apply ba_ | apply pw_below_drewN | apply bd_) | exact Below.refl _ _))))
                    (first
                      | (refine bud_grows A0 l4 q (l2 := l4 ++ [q]) rfl (by rfl) _ _ (by rfl) base wr.heap.size (cb_ (rr_ HR0w.out).2.2 (by repeat (first | (with_reducible first | exact Below.refl _ _ | apply ba_ | apply pw_below_drewN | apply bd_) | exact Below.refl _ _))) (by rfl) (by rfl) (by first | exact heap_alloc_new _ _ | exact blk_new _ _) (Nat.le_trans HBASEw.out (bz_ (by repeat (first | (with_reducible first | exact Below.refl _ _ | apply ba_ | apply pw_below_drewN | apply bd_) | exact Below.refl _ _)))) C11.out ?_
                         intro A2 c2 w2 ho2 hb2
                         have HR2 := am_ ho2
                         have HB2 := am_ (show Below wr.heap.size wr w2 from bp_ (by repeat (first | (with_reducible first | exact Below.refl _ _ | apply ba_ | apply pw_below_drewN | apply bd_) | exact Below.refl _ _)) hb2)
                         clear ho2 hb2)
                      | (refine step_goesL (by rfl) Try.func25 (by kernel_rfl) rfl #[.slice Ai (rd_L2 l0 (l4.length : Int)).length ci, .int .i64 a1, .int .i64 a2, .int .i64 q] (by rfl) (by first | (rfl; done) | (simp [Act.eval, Act.put]; done)) ?_
                         refine (impl_costSum.calls k1 Ai ci (rd_L2 l0 (l4.length : Int)) a1 a2 q c _ (cb_ HRI.out HB2.out) HLI.out AC.out).mono ?_
                         rintro e w3 ⟨rfl, hb3⟩
                         refine ⟨_, rfl, ?_⟩
                         have HR3 := am_ (Kd.R_below HR2.out hb3)
                         have HB3 := am_ (bp_ HB2.out hb3)
                         clear hb3)
                      | (refine step_goesD (by rfl) Try.func23 (by kernel_rfl) rfl #[] #[.pointer (some ⟨gg, 0, none⟩), .pointer (some ⟨gl, 0, none⟩), .pointer (some ⟨gb, 0, none⟩), .pointer (some ⟨gp, 0, none⟩), .pointer (some ⟨gc, 0, none⟩), .pointer (some ⟨go, 0, none⟩), .pointer (some ⟨gu, 0, none⟩)] #[.slice A2 (l4 ++ [q]).length c2, .int .i64 (wrap64 (a5 - wrap64 (q * rd l3 (l4.length : Int)))), .int .i64 (wrap64 (a6 + c))] (by rfl) (by rfl) (by first | (rfl; done) | (simp [Act.eval, Act.put, i64_w]; done)) ?_
                         refine (ih k1 (by have := HK1.out; omega) gg gl gb gp gc go gu base w0 _ (some adG) cG l0 a1 a2 (some adP) cP l3 A2 c2 (l4 ++ [q]) _ _ Aq cq bq tq b1 t1 (kb_ (HF.out.blk HGG.out (by have := HNE.out; omega) (by have := HNE.out; omega)) HB3.out) (kb_ HGLq.out HB3.out) (kb_ HGBq.out HB3.out) (kb_ (HF.out.blk HGP.out (by have := HNE.out; omega) (by have := HNE.out; omega)) HB3.out) (kb_ (HF.out.blk HGC.out (by have := HNE.out; omega) (by have := HNE.out; omega)) HB3.out) (kb_ (HF.out.blk HGO.out (by have := HNE.out; omega) (by have := HNE.out; omega)) HB3.out) (kb_ (HF.out.blk HGU.out (by have := HNE.out; omega) (by have := HNE.out; omega)) HB3.out) HNE.out (Nat.le_trans HBASEw.out HB3.out.size) (below_then HBW.out HBW.out.size HB3.out) HRG.out HCG.out HRP.out HCP.out HR3.out (Kd.R_below HRBq.out HB3.out) AB1.out).mono ?_
                         rintro e w4 ⟨rfl, hf4, hgl4, A4, c4, hgb4, hr4⟩
                         refine ⟨_, rfl, ?_⟩
                         have HF4 := am_ ((BudFr.of_below HB3.out).trans hf4)
                         have HGL4 := am_ hgl4
                         have HGB4 := am_ hgb4
                         have HR4 := am_ hr4
                         clear hf4 hgl4 hgb4 hr4))
                  go_wp2
                  go_roundg k1
                  case measure => have := HK1.out; omega
                  case rel => exact ⟨wrap64 (q + 1), b1, t1, A4, c4, rfl, H', ⟨by have := HK1.out; omega⟩, ⟨HF.out.trans HF4.out⟩, HGL4, HGB4, HR4⟩
                · rw [if_neg c12] at H
                  exact absurd H (by simp)
              · rw [if_neg c11] at H
                exact absurd H (by simp)
            · rw [if_neg c10] at H
              have c10b0 : decide (wrap64 (q * rd l3 (l4.length : Int)) ≤ a5) = false := decide_eq_false c10
              clear c10
              have H' := am_ H
              clear H
              clear hbW hfr
              go_wp2
              go_roundg k1
              case measure => have := HK1.out; omega
              case rel => exact ⟨wrap64 (q + 1), bq, tq, Aq, cq, rfl, H', ⟨by have := HK1.out; omega⟩, HF, HGLq, HGBq, HRBq⟩
          · rw [if_neg c9] at H
            exact absurd H (by simp)
        · rw [if_neg c8] at H
          have c8b0 : decide (q < 16) = false := decide_eq_false c8
          clear c8
          simp only [Option.some.injEq, Prod.mk.injEq] at H
          obtain ⟨rfl, rfl⟩ := H
          go_wp2
          go_end0
          exact ⟨rfl, HF.out, HGLq.out, Aq, cq, HGBq.out, HRBq.out⟩
/- impl_BudgetOrders: function 6 -/
def impl_BudgetOrders.f (k : Nat) (l0 : List (List Int)) (a1 : Int) (a2 : Int) (l3 : List Int) (a4 : Int) : Option (List Int × Bool) := (impl_areGoods.f k l0 a1 a2).bind fun t1 => (if t1 = true then (if (l3.length : Int) = (l0.length : Int) then ((impl_areCharges.f k l3).bind fun t2 => (if t2 = true then ((impl_within.f a4 0 60).bind fun t3 => (if t3 = true then ((impl_BudgetOrdersLit.f k l0 a1 a2 l3 [] a4 0 [] 1099511627776).bind fun bt => (some (bt.1, true))) else (some (([] : List Int), false)))) else (some (([] : List Int), false)))) else (some (([] : List Int), false))) else (some (([] : List Int), false)))
theorem impl_BudgetOrders.mono : ∀ a0 a1 a2 a3 a4 k, LeO (impl_BudgetOrders.f k a0 a1 a2 a3 a4) (impl_BudgetOrders.f (k + 1) a0 a1 a2 a3 a4) := by
  intro a0 a1 a2 a3 a4 k
  unfold impl_BudgetOrders.f
  repeat' first
      | (with_reducible exact impl_BudgetOrdersLit.mono _ _ _ _ _ _ _ _ _ _)
      | (with_reducible exact impl_areGoods.mono _ _ _ _)
      | (with_reducible exact impl_areCharges.mono _ _)
      | (with_reducible exact LeO.refl _)
      | (with_reducible exact LeO.none _)
      | (with_reducible refine LeO.ite ?_ ?_)
      | (with_reducible refine LeO.bind ?_ (fun _ => ?_))
      | exact LeO.refl _
theorem bud_store {P : Program} {w : World} {a : Addr} {m : Mode} (fn : Fn) (first captured : Array Value) : (Go.store a (.func fn first captured) m).run P w = Go.stored P w a (.func fn first captured) m := Go.run_store P w a _ m rfl
attribute [local go_sem] bud_store
set_option maxHeartbeats 8000000 in
set_option maxRecDepth 100000 in
theorem impl_BudgetOrders.calls (k : Nat) (A0 : Option Addr) (c0 : Nat) (l0 : List (List Int)) (a1 : Int) (a2 : Int) (A3 : Option Addr) (c3 : Nat) (l3 : List Int) (a4 : Int) (r1 : List Int) (r2 : Bool) (w : World) (hr0 : Kd.C (Kd.slice 3 (Kd.int .i64)) w A0 l0.length l0) (hc0 : l0.length ≤ c0) (hr3 : Kd.C (Kd.int .i64) w A3 l3.length l3) (hc3 : l3.length ≤ c3) (h : impl_BudgetOrders.f k l0 a1 a2 l3 a4 = some (r1, r2)) :
    Calls Try.prog 6 #[.slice A0 l0.length c0, .int .i64 a1, .int .i64 a2, .slice A3 l3.length c3, .int .i64 a4] w fun e w' => ∃ v0_ : Value, e = .returned (.tuple #[v0_, .bool r2]) ∧ Kd.R (Kd.int .i64) 3 w' w.heap.size (fun _ => True) v0_ r1 ∧ Below w.heap.size w w' := by
  have HR0 := am_ hr0
  have HC0 := am_ hc0
  have HR3 := am_ hr3
  have HC3 := am_ hc3
  clear hr0 hc0 hr3 hc3
  unfold impl_BudgetOrders.f at h
  obtain ⟨t1_, A10, H⟩ := Option.bind_eq_some_iff.mp h
  clear h
  have A1 := am_ A10
  clear A10
  by_cases e1 : t1_ = true
  · subst e1
    rw [if_pos rfl] at H
    by_cases e2 : (l3.length : Int) = (l0.length : Int)
    · rw [if_pos e2] at H
      have e2b0 : ((l3.length : Int) == (l0.length : Int)) = true := beq_iff_eq.mpr e2
      have e2b1 : ((l3.length : Int) != (l0.length : Int)) = false := bne_eq_false_iff_eq.mpr e2
      have e2b2 : (l3.length == l0.length) = true := by first | simpa using e2 | (simp at e2 ⊢; omega)
      clear e2
      obtain ⟨t2_, A20, H⟩ := Option.bind_eq_some_iff.mp H
      have A2 := am_ A20
      clear A20
      by_cases e3 : t2_ = true
      · subst e3
        rw [if_pos rfl] at H
        obtain ⟨t3_, A30, H⟩ := Option.bind_eq_some_iff.mp H
        have A3_ := am_ A30
        clear A30
        by_cases e4 : t3_ = true
        · subst e4
          rw [if_pos rfl] at H
          obtain ⟨⟨b1, t1⟩, A40, H⟩ := Option.bind_eq_some_iff.mp H
          have A4_ := am_ A40
          clear A40
          simp only [Option.some.injEq, Prod.mk.injEq] at H
          obtain ⟨rfl, rfl⟩ := H
          go_enter Try.func6, Try.ntmps6
          go_wp2_with (first | ((with_reducible refine gate_dst (N := 5) rfl ?_); refine box_event ?hg (N := 5) ?hd (cs := #[.slice A0 l0.length c0]) (t := 24) ?hr ?_; (case hd => rfl); (case hg => rfl); (case hr => first | (go_simp; done) | (go_simp; rfl)); intro g5 hg5 w5 hbox5 hb5; have GE5 := am_ (by rw [hg5]; exact Nat.le_refl _ : w.heap.size ≤ g5); have HB := am_ hb5; have BK5 := am_ hbox5; clear hg5 hbox5 hb5) | ((with_reducible refine gate_dst (N := 6) rfl ?_); refine box_event ?hg (N := 6) ?hd (cs := #[.int .i64 a1]) (t := 3) ?hr ?_; (case hd => rfl); (case hg => rfl); (case hr => first | (go_simp; done) | (go_simp; rfl)); intro g6 hg6 w6 hbox6 hb6; have L6 := am_ (by rw [hg6]; exact blk_lt BK5.out : g5 < g6); have n_ := am_ (bp_ (by repeat (first | (with_reducible first | exact HB.out | apply ba_ | apply pw_below_drewN | apply bd_) | exact HB.out)) hb6); clear HB; have HB := n_; clear n_; have n_ := am_ (kb_ BK5.out hb6); clear BK5; have BK5 := n_; clear n_; have BK6 := am_ hbox6; clear hg6 hbox6 hb6) | ((with_reducible refine gate_dst (N := 7) rfl ?_); refine box_event ?hg (N := 7) ?hd (cs := #[.int .i64 a2]) (t := 3) ?hr ?_; (case hd => rfl); (case hg => rfl); (case hr => first | (go_simp; done) | (go_simp; rfl)); intro g7 hg7 w7 hbox7 hb7; have L7 := am_ (by rw [hg7]; exact blk_lt BK6.out : g6 < g7); have n_ := am_ (bp_ (by repeat (first | (with_reducible first | exact HB.out | apply ba_ | apply pw_below_drewN | apply bd_) | exact HB.out)) hb7); clear HB; have HB := n_; clear n_; have n_ := am_ (kb_ BK5.out hb7); clear BK5; have BK5 := n_; clear n_; have n_ := am_ (kb_ BK6.out hb7); clear BK6; have BK6 := n_; clear n_; have BK7 := am_ hbox7; clear hg7 hbox7 hb7) | ((with_reducible refine gate_dst (N := 8) rfl ?_); refine box_event ?hg (N := 8) ?hd (cs := #[.slice A3 l3.length c3]) (t := 25) ?hr ?_; (case hd => rfl); (case hg => rfl); (case hr => first | (go_simp; done) | (go_simp; rfl)); intro g8 hg8 w8 hbox8 hb8; have L8 := am_ (by rw [hg8]; exact blk_lt BK7.out : g7 < g8); have n_ := am_ (bp_ (by repeat (first | (with_reducible first | exact HB.out | apply ba_ | apply pw_below_drewN | apply bd_) | exact HB.out)) hb8); clear HB; have HB := n_; clear n_; have n_ := am_ (kb_ BK5.out hb8); clear BK5; have BK5 := n_; clear n_; have n_ := am_ (kb_ BK6.out hb8); clear BK6; have BK6 := n_; clear n_; have n_ := am_ (kb_ BK7.out hb8); clear BK7; have BK7 := n_; clear n_; have BK8 := am_ hbox8; clear hg8 hbox8 hb8; have hc8_5 : w8.cell? ⟨g5, 0, none⟩ = some (.slice A0 l0.length c0) := (kc_ BK5.out 0).trans rfl; have hc8_6 : w8.cell? ⟨g6, 0, none⟩ = some (.int .i64 a1) := (kc_ BK6.out 0).trans rfl; have hc8_7 : w8.cell? ⟨g7, 0, none⟩ = some (.int .i64 a2) := (kc_ BK7.out 0).trans rfl; have hc8_8 : w8.cell? ⟨g8, 0, none⟩ = some (.slice A3 l3.length c3) := (kc_ BK8.out 0).trans rfl) | ((with_reducible refine gc_ (f := 20) rfl ?_); refine goesL_ (some 18) rfl rfl Try.func20 (by kernel_rfl) rfl #[.slice A0 l0.length c0, .int .i64 a1, .int .i64 a2] rfl (by (try simp only [List.map_toArray, List.map_cons, List.map_nil]); first | done | rfl) ?_; refine (impl_areGoods.calls k A0 c0 l0 a1 a2 true _ (cb_ HR0.out HB.out) HC0.out A1.out).mono ?_; rintro e w9 ⟨rfl, hb9⟩; refine ⟨_, rfl, ?_⟩; have n_ := am_ (bp_ HB.out hb9); clear HB; have HB := n_; clear n_; have n_ := am_ (kb_ BK5.out hb9); clear BK5; have BK5 := n_; clear n_; have n_ := am_ (kb_ BK6.out hb9); clear BK6; have BK6 := n_; clear n_; have n_ := am_ (kb_ BK7.out hb9); clear BK7; have BK7 := n_; clear n_; have n_ := am_ (kb_ BK8.out hb9); clear BK8; have BK8 := n_; clear n_; clear hb9; have hc9_5 : w9.cell? ⟨g5, 0, none⟩ = some (.slice A0 l0.length c0) := (kc_ BK5.out 0).trans rfl; have hc9_8 : w9.cell? ⟨g8, 0, none⟩ = some (.slice A3 l3.length c3) := (kc_ BK8.out 0).trans rfl) | (go_at_call 21; (with_reducible refine (impl_areCharges.calls k A3 c3 l3 true _ ?side1 ?side2 A2.out).mono ?_); (case side1 => exact cb_ HR3.out (by repeat (first | (with_reducible first | exact HB.out | apply ba_ | apply pw_below_drewN | apply bd_) | exact HB.out))); (case side2 => exact HC3.out); rintro e w' ⟨rfl, ⟨nd, rfl⟩⟩) | (go_at_call 22; (with_reducible refine (impl_within.calls a4 0 60 true _ A3_.out).mono ?_); rintro e w' ⟨rfl, ⟨nd2, rfl⟩⟩) | ((with_reducible refine gate_dst (N := 12) rfl ?_); refine box_event ?hg (N := 12) ?hd (cs := #[.slice none 0 0]) (t := 25) ?hr ?_; (case hd => rfl); (case hg => rfl); (case hr => first | (go_simp; done) | (go_simp; rfl)); intro g12 hg12 w12 hbox12 hb12; have L12 := am_ (by rw [hg12]; exact blk_lt (show _ from BK8.out) : g8 < g12); have n_ := am_ (bp_ (by repeat (first | (with_reducible first | exact HB.out | apply ba_ | apply pw_below_drewN | apply bd_) | exact HB.out)) hb12); clear HB; have HB := n_; clear n_; have n_ := am_ (kb_ (by exact BK5.out) hb12); clear BK5; have BK5 := n_; clear n_; have n_ := am_ (kb_ (by exact BK6.out) hb12); clear BK6; have BK6 := n_; clear n_; have n_ := am_ (kb_ (by exact BK7.out) hb12); clear BK7; have BK7 := n_; clear n_; have n_ := am_ (kb_ (by exact BK8.out) hb12); clear BK8; have BK8 := n_; clear n_; have BK12 := am_ hbox12; clear hg12 hbox12 hb12) | ((with_reducible refine gate_dst (N := 13) rfl ?_); refine box_event ?hg (N := 13) ?hd (cs := #[.int .i64 0]) (t := 3) ?hr ?_; (case hd => rfl); (case hg => rfl); (case hr => first | (go_simp; done) | (go_simp; rfl)); intro g13 hg13 w13 hbox13 hb13; have L13 := am_ (by rw [hg13]; exact blk_lt BK12.out : g12 < g13); have n_ := am_ (bp_ (by repeat (first | (with_reducible first | exact HB.out | apply ba_ | apply pw_below_drewN | apply bd_) | exact HB.out)) hb13); clear HB; have HB := n_; clear n_; have n_ := am_ (kb_ BK5.out hb13); clear BK5; have BK5 := n_; clear n_; have n_ := am_ (kb_ BK6.out hb13); clear BK6; have BK6 := n_; clear n_; have n_ := am_ (kb_ BK7.out hb13); clear BK7; have BK7 := n_; clear n_; have n_ := am_ (kb_ BK8.out hb13); clear BK8; have BK8 := n_; clear n_; have n_ := am_ (kb_ BK12.out hb13); clear BK12; have BK12 := n_; clear n_; have BK13 := am_ hbox13; clear hg13 hbox13 hb13; have hc13_12 : w13.cell? ⟨g12, 0, none⟩ = some (.slice none 0 0) := (kc_ BK12.out 0).trans rfl; have hf13_12 : w13.frozen? ⟨g12, 0, none⟩ = false := kf_ BK12.out 0) | ((with_reducible refine gate_store (t := 25) (p := 12) rfl ?_); refine store_event (t := 25) (p := 12) (v := .const (.slice none 0 0)) (w1 := (w13.setCell ⟨g12, 0, none⟩ (.slice none 0 0))) ?hg ?ho ?hn ?hr ?_; (case ho => rfl); (case hg => rfl); (case hn => rfl); (case hr => first | (go_simp; done) | (go_simp; rfl)); intro w15 hw15; have n_ := am_ (by rw [hw15]; exact blk_put BK12.out 0 _ rfl : w15.heap[g12]? = some (.cells #[.slice none 0 0] 25 (0, 0))); have n5_ := am_ (by rw [hw15]; exact blk_far BK5.out (by (have := GE5.out; have := L6.out; have := L7.out; have := L8.out; have := L12.out; have := L13.out); simp only []; omega) _ : w15.heap[g5]? = some (.cells #[.slice A0 l0.length c0] 24 (0, 0))); have n6_ := am_ (by rw [hw15]; exact blk_far BK6.out (by (have := GE5.out; have := L6.out; have := L7.out; have := L8.out; have := L12.out; have := L13.out); simp only []; omega) _ : w15.heap[g6]? = some (.cells #[.int .i64 a1] 3 (0, 0))); have n7_ := am_ (by rw [hw15]; exact blk_far BK7.out (by (have := GE5.out; have := L6.out; have := L7.out; have := L8.out; have := L12.out; have := L13.out); simp only []; omega) _ : w15.heap[g7]? = some (.cells #[.int .i64 a2] 3 (0, 0))); have n8_ := am_ (by rw [hw15]; exact blk_far BK8.out (by (have := GE5.out; have := L6.out; have := L7.out; have := L8.out; have := L12.out; have := L13.out); simp only []; omega) _ : w15.heap[g8]? = some (.cells #[.slice A3 l3.length c3] 25 (0, 0))); have n13_ := am_ (by rw [hw15]; exact blk_far BK13.out (by (have := GE5.out; have := L6.out; have := L7.out; have := L8.out; have := L12.out; have := L13.out); simp only []; omega) _ : w15.heap[g13]? = some (.cells #[.int .i64 0] 3 (0, 0))); have n0_ := am_ (by rw [hw15]; exact below_set HB.out (by have := GE5.out; have := L6.out; have := L7.out; have := L8.out; have := L12.out; have := L13.out; omega) : Below w.heap.size w w15); clear HB; have HB := n0_; clear n0_; clear BK5; clear BK6; clear BK7; clear BK8; clear BK12; clear BK13; have BK12 := n_; have BK5 := n5_; clear n5_; have BK6 := n6_; clear n6_; have BK7 := n7_; clear n7_; have BK8 := n8_; clear n8_; have BK13 := n13_; clear n13_; clear n_ hw15; have hc15_13 : w15.cell? ⟨g13, 0, none⟩ = some (.int .i64 0) := (kc_ BK13.out 0).trans rfl; have hf15_13 : w15.frozen? ⟨g13, 0, none⟩ = false := kf_ BK13.out 0) | ((with_reducible refine gate_store (t := 3) (p := 13) rfl ?_); refine store_event (t := 3) (p := 13) (v := .const (.int .i64 1099511627776)) (w1 := (w15.setCell ⟨g13, 0, none⟩ (.int .i64 1099511627776))) ?hg ?ho ?hn ?hr ?_; (case ho => rfl); (case hg => rfl); (case hn => rfl); (case hr => first | (go_simp; done) | (go_simp; rfl)); intro w16 hw16; have n_ := am_ (by rw [hw16]; exact blk_put BK13.out 0 _ rfl : w16.heap[g13]? = some (.cells #[.int .i64 1099511627776] 3 (0, 0))); have n5_ := am_ (by rw [hw16]; exact blk_far BK5.out (by (have := GE5.out; have := L6.out; have := L7.out; have := L8.out; have := L12.out; have := L13.out); simp only []; omega) _ : w16.heap[g5]? = some (.cells #[.slice A0 l0.length c0] 24 (0, 0))); have n6_ := am_ (by rw [hw16]; exact blk_far BK6.out (by (have := GE5.out; have := L6.out; have := L7.out; have := L8.out; have := L12.out; have := L13.out); simp only []; omega) _ : w16.heap[g6]? = some (.cells #[.int .i64 a1] 3 (0, 0))); have n7_ := am_ (by rw [hw16]; exact blk_far BK7.out (by (have := GE5.out; have := L6.out; have := L7.out; have := L8.out; have := L12.out; have := L13.out); simp only []; omega) _ : w16.heap[g7]? = some (.cells #[.int .i64 a2] 3 (0, 0))); have n8_ := am_ (by rw [hw16]; exact blk_far BK8.out (by (have := GE5.out; have := L6.out; have := L7.out; have := L8.out; have := L12.out; have := L13.out); simp only []; omega) _ : w16.heap[g8]? = some (.cells #[.slice A3 l3.length c3] 25 (0, 0))); have n12_ := am_ (by rw [hw16]; exact blk_far BK12.out (by (have := GE5.out; have := L6.out; have := L7.out; have := L8.out; have := L12.out; have := L13.out); simp only []; omega) _ : w16.heap[g12]? = some (.cells #[.slice none 0 0] 25 (0, 0))); have n0_ := am_ (by rw [hw16]; exact below_set HB.out (by have := GE5.out; have := L6.out; have := L7.out; have := L8.out; have := L12.out; have := L13.out; omega) : Below w.heap.size w w16); clear HB; have HB := n0_; clear n0_; clear BK5; clear BK6; clear BK7; clear BK8; clear BK12; clear BK13; have BK13 := n_; have BK5 := n5_; clear n5_; have BK6 := n6_; clear n6_; have BK7 := n7_; clear n7_; have BK8 := n8_; clear n8_; have BK12 := n12_; clear n12_; clear n_ hw16; skip) | ((with_reducible refine gate_dst (N := 14) rfl ?_); refine box_event ?hg (N := 14) ?hd (cs := #[.nilFunc]) (t := 49) ?hr ?_; (case hd => rfl); (case hg => rfl); (case hr => first | (go_simp; done) | (go_simp; rfl)); intro g14 hg14 w17 hbox14 hb14; have L14 := am_ (by rw [hg14]; exact blk_lt BK13.out : g13 < g14); have n_ := am_ (bp_ (by repeat (first | (with_reducible first | exact HB.out | apply ba_ | apply pw_below_drewN | apply bd_) | exact HB.out)) hb14); clear HB; have HB := n_; clear n_; have n_ := am_ (kb_ BK5.out hb14); clear BK5; have BK5 := n_; clear n_; have n_ := am_ (kb_ BK6.out hb14); clear BK6; have BK6 := n_; clear n_; have n_ := am_ (kb_ BK7.out hb14); clear BK7; have BK7 := n_; clear n_; have n_ := am_ (kb_ BK8.out hb14); clear BK8; have BK8 := n_; clear n_; have n_ := am_ (kb_ BK12.out hb14); clear BK12; have BK12 := n_; clear n_; have n_ := am_ (kb_ BK13.out hb14); clear BK13; have BK13 := n_; clear n_; have BK14 := am_ hbox14; clear hg14 hbox14 hb14; have hc17_14 : w17.cell? ⟨g14, 0, none⟩ = some (.nilFunc) := (kc_ BK14.out 0).trans rfl; have hf17_14 : w17.frozen? ⟨g14, 0, none⟩ = false := kf_ BK14.out 0) | ((with_reducible refine gate_store (t := 49) (p := 14) rfl ?_); refine store_event (t := 49) (p := 14) (v := .tmp 37) (w1 := (w17.setCell ⟨g14, 0, none⟩ (.func (.func 23) #[] #[.pointer (some ⟨g5, 0, none⟩), .pointer (some ⟨g13, 0, none⟩), .pointer (some ⟨g12, 0, none⟩), .pointer (some ⟨g8, 0, none⟩), .pointer (some ⟨g14, 0, none⟩), .pointer (some ⟨g6, 0, none⟩), .pointer (some ⟨g7, 0, none⟩)]))) ?hg ?ho ?hn ?hr ?_; (case ho => rfl); (case hg => rfl); (case hn => rfl); (case hr => first | (go_simp; done) | (go_simp; rfl)); intro w18 hw18; have n_ := am_ (by rw [hw18]; exact blk_put BK14.out 0 _ rfl : w18.heap[g14]? = some (.cells #[.func (.func 23) #[] #[.pointer (some ⟨g5, 0, none⟩), .pointer (some ⟨g13, 0, none⟩), .pointer (some ⟨g12, 0, none⟩), .pointer (some ⟨g8, 0, none⟩), .pointer (some ⟨g14, 0, none⟩), .pointer (some ⟨g6, 0, none⟩), .pointer (some ⟨g7, 0, none⟩)]] 49 (0, 0))); have n5_ := am_ (by rw [hw18]; exact blk_far BK5.out (by (have := GE5.out; have := L6.out; have := L7.out; have := L8.out; have := L12.out; have := L13.out; have := L14.out); simp only []; omega) _ : w18.heap[g5]? = some (.cells #[.slice A0 l0.length c0] 24 (0, 0))); have n6_ := am_ (by rw [hw18]; exact blk_far BK6.out (by (have := GE5.out; have := L6.out; have := L7.out; have := L8.out; have := L12.out; have := L13.out; have := L14.out); simp only []; omega) _ : w18.heap[g6]? = some (.cells #[.int .i64 a1] 3 (0, 0))); have n7_ := am_ (by rw [hw18]; exact blk_far BK7.out (by (have := GE5.out; have := L6.out; have := L7.out; have := L8.out; have := L12.out; have := L13.out; have := L14.out); simp only []; omega) _ : w18.heap[g7]? = some (.cells #[.int .i64 a2] 3 (0, 0))); have n8_ := am_ (by rw [hw18]; exact blk_far BK8.out (by (have := GE5.out; have := L6.out; have := L7.out; have := L8.out; have := L12.out; have := L13.out; have := L14.out); simp only []; omega) _ : w18.heap[g8]? = some (.cells #[.slice A3 l3.length c3] 25 (0, 0))); have n12_ := am_ (by rw [hw18]; exact blk_far BK12.out (by (have := GE5.out; have := L6.out; have := L7.out; have := L8.out; have := L12.out; have := L13.out; have := L14.out); simp only []; omega) _ : w18.heap[g12]? = some (.cells #[.slice none 0 0] 25 (0, 0))); have n13_ := am_ (by rw [hw18]; exact blk_far BK13.out (by (have := GE5.out; have := L6.out; have := L7.out; have := L8.out; have := L12.out; have := L13.out; have := L14.out); simp only []; omega) _ : w18.heap[g13]? = some (.cells #[.int .i64 1099511627776] 3 (0, 0))); have n0_ := am_ (by rw [hw18]; exact below_set HB.out (by have := GE5.out; have := L6.out; have := L7.out; have := L8.out; have := L12.out; have := L13.out; have := L14.out; omega) : Below w.heap.size w w18); clear HB; have HB := n0_; clear n0_; clear BK5; clear BK6; clear BK7; clear BK8; clear BK12; clear BK13; clear BK14; have BK14 := n_; have BK5 := n5_; clear n5_; have BK6 := n6_; clear n6_; have BK7 := n7_; clear n7_; have BK8 := n8_; clear n8_; have BK12 := n12_; clear n12_; have BK13 := n13_; clear n13_; clear n_ hw18; have hc18_14 : w18.cell? ⟨g14, 0, none⟩ = some (.func (.func 23) #[] #[.pointer (some ⟨g5, 0, none⟩), .pointer (some ⟨g13, 0, none⟩), .pointer (some ⟨g12, 0, none⟩), .pointer (some ⟨g8, 0, none⟩), .pointer (some ⟨g14, 0, none⟩), .pointer (some ⟨g6, 0, none⟩), .pointer (some ⟨g7, 0, none⟩)]) := (kc_ BK14.out 0).trans rfl) | ((with_reducible refine gate_dst (N := 40) rfl ?_); refine goesD_ (some 40) rfl rfl Try.func23 (by kernel_rfl) rfl (x := Operand.tmp 38) #[] #[.pointer (some ⟨g5, 0, none⟩), .pointer (some ⟨g13, 0, none⟩), .pointer (some ⟨g12, 0, none⟩), .pointer (some ⟨g8, 0, none⟩), .pointer (some ⟨g14, 0, none⟩), .pointer (some ⟨g6, 0, none⟩), .pointer (some ⟨g7, 0, none⟩)] #[.slice none 0 0, .int .i64 a4, .int .i64 0] rfl rfl (by first | (rfl; done) | (simp [Act.eval, Act.put]; done)) ?_; refine (impl_BudgetOrdersLit.calls k g5 g13 g12 g8 g14 g6 g7 w18.heap.size w w18 A0 c0 l0 a1 a2 A3 c3 l3 none 0 [] a4 0 none 0 [] 1099511627776 b1 t1 BK5.out BK13.out BK12.out BK8.out BK14.out BK6.out BK7.out ⟨GE5.out, L6.out, L7.out, L8.out, L12.out, L13.out, L14.out, blk_lt BK14.out⟩ (Nat.le_refl _) HB.out HR0.out HC0.out HR3.out HC3.out (Kd.R_nil _ _ _ _ _) (Kd.R_nil _ _ _ _ _) A4_.out).mono ?_; rintro e w19 ⟨rfl, hf19, hgl19, A9, c9, hgb19, hr19⟩; refine ⟨_, rfl, ?_⟩; have n_ := am_ (BudFr.came HB.out hf19 (by have := GE5.out; have := L6.out; have := L7.out; have := L8.out; have := L12.out; have := L13.out; omega) (by have := GE5.out; have := L6.out; have := L7.out; have := L8.out; have := L12.out; omega)); have HR19 := am_ (Kd.R_lower hr19 HB.out.size); clear HB; have HB := n_; clear n_; have hc19_12 : w19.cell? ⟨g12, 0, none⟩ = some (.slice A9 b1.length c9) := (kc_ hgb19 0).trans rfl; clear hf19 hgl19 hgb19 hr19))
          go_ret2
          exact ⟨_, rfl, HR19.out, (by repeat (first | (with_reducible first | exact HB.out | apply ba_ | apply pw_below_drewN | apply bd_) | exact HB.out))⟩
        · replace e4 := Bool.eq_false_iff.mpr e4
          subst e4
          rw [if_neg (show ¬ (false = true) by decide)] at H
          simp only [Option.some.injEq, Prod.mk.injEq] at H
          obtain ⟨rfl, rfl⟩ := H
          go_enter Try.func6, Try.ntmps6
          go_wp2_with (first | ((with_reducible refine gate_dst (N := 5) rfl ?_); refine box_event ?hg (N := 5) ?hd (cs := #[.slice A0 l0.length c0]) (t := 24) ?hr ?_; (case hd => rfl); (case hg => rfl); (case hr => first | (go_simp; done) | (go_simp; rfl)); intro g5 hg5 w5 hbox5 hb5; have GE5 := am_ (by rw [hg5]; exact Nat.le_refl _ : w.heap.size ≤ g5); have HB := am_ hb5; have BK5 := am_ hbox5; clear hg5 hbox5 hb5) | ((with_reducible refine gate_dst (N := 6) rfl ?_); refine box_event ?hg (N := 6) ?hd (cs := #[.int .i64 a1]) (t := 3) ?hr ?_; (case hd => rfl); (case hg => rfl); (case hr => first | (go_simp; done) | (go_simp; rfl)); intro g6 hg6 w6 hbox6 hb6; have L6 := am_ (by rw [hg6]; exact blk_lt BK5.out : g5 < g6); have n_ := am_ (bp_ (by repeat (first | (with_reducible first | exact HB.out | apply ba_ | apply pw_below_drewN | apply bd_) | exact HB.out)) hb6); clear HB; have HB := n_; clear n_; have n_ := am_ (kb_ BK5.out hb6); clear BK5; have BK5 := n_; clear n_; have BK6 := am_ hbox6; clear hg6 hbox6 hb6) | ((with_reducible refine gate_dst (N := 7) rfl ?_); refine box_event ?hg (N := 7) ?hd (cs := #[.int .i64 a2]) (t := 3) ?hr ?_; (case hd => rfl); (case hg => rfl); (case hr => first | (go_simp; done) | (go_simp; rfl)); intro g7 hg7 w7 hbox7 hb7; have L7 := am_ (by rw [hg7]; exact blk_lt BK6.out : g6 < g7); have n_ := am_ (bp_ (by repeat (first | (with_reducible first | exact HB.out | apply ba_ | apply pw_below_drewN | apply bd_) | exact HB.out)) hb7); clear HB; have HB := n_; clear n_; have n_ := am_ (kb_ BK5.out hb7); clear BK5; have BK5 := n_; clear n_; have n_ := am_ (kb_ BK6.out hb7); clear BK6; have BK6 := n_; clear n_; have BK7 := am_ hbox7; clear hg7 hbox7 hb7) | ((with_reducible refine gate_dst (N := 8) rfl ?_); refine box_event ?hg (N := 8) ?hd (cs := #[.slice A3 l3.length c3]) (t := 25) ?hr ?_; (case hd => rfl); (case hg => rfl); (case hr => first | (go_simp; done) | (go_simp; rfl)); intro g8 hg8 w8 hbox8 hb8; have L8 := am_ (by rw [hg8]; exact blk_lt BK7.out : g7 < g8); have n_ := am_ (bp_ (by repeat (first | (with_reducible first | exact HB.out | apply ba_ | apply pw_below_drewN | apply bd_) | exact HB.out)) hb8); clear HB; have HB := n_; clear n_; have n_ := am_ (kb_ BK5.out hb8); clear BK5; have BK5 := n_; clear n_; have n_ := am_ (kb_ BK6.out hb8); clear BK6; have BK6 := n_; clear n_; have n_ := am_ (kb_ BK7.out hb8); clear BK7; have BK7 := n_; clear n_; have BK8 := am_ hbox8; clear hg8 hbox8 hb8; have hc8_5 : w8.cell? ⟨g5, 0, none⟩ = some (.slice A0 l0.length c0) := (kc_ BK5.out 0).trans rfl; have hc8_6 : w8.cell? ⟨g6, 0, none⟩ = some (.int .i64 a1) := (kc_ BK6.out 0).trans rfl; have hc8_7 : w8.cell? ⟨g7, 0, none⟩ = some (.int .i64 a2) := (kc_ BK7.out 0).trans rfl; have hc8_8 : w8.cell? ⟨g8, 0, none⟩ = some (.slice A3 l3.length c3) := (kc_ BK8.out 0).trans rfl) | ((with_reducible refine gc_ (f := 20) rfl ?_); refine goesL_ (some 18) rfl rfl Try.func20 (by kernel_rfl) rfl #[.slice A0 l0.length c0, .int .i64 a1, .int .i64 a2] rfl (by (try simp only [List.map_toArray, List.map_cons, List.map_nil]); first | done | rfl) ?_; refine (impl_areGoods.calls k A0 c0 l0 a1 a2 true _ (cb_ HR0.out HB.out) HC0.out A1.out).mono ?_; rintro e w9 ⟨rfl, hb9⟩; refine ⟨_, rfl, ?_⟩; have n_ := am_ (bp_ HB.out hb9); clear HB; have HB := n_; clear n_; have n_ := am_ (kb_ BK5.out hb9); clear BK5; have BK5 := n_; clear n_; have n_ := am_ (kb_ BK6.out hb9); clear BK6; have BK6 := n_; clear n_; have n_ := am_ (kb_ BK7.out hb9); clear BK7; have BK7 := n_; clear n_; have n_ := am_ (kb_ BK8.out hb9); clear BK8; have BK8 := n_; clear n_; clear hb9; have hc9_5 : w9.cell? ⟨g5, 0, none⟩ = some (.slice A0 l0.length c0) := (kc_ BK5.out 0).trans rfl; have hc9_8 : w9.cell? ⟨g8, 0, none⟩ = some (.slice A3 l3.length c3) := (kc_ BK8.out 0).trans rfl) | (go_at_call 21; (with_reducible refine (impl_areCharges.calls k A3 c3 l3 true _ ?side1 ?side2 A2.out).mono ?_); (case side1 => exact cb_ HR3.out (by repeat (first | (with_reducible first | exact HB.out | apply ba_ | apply pw_below_drewN | apply bd_) | exact HB.out))); (case side2 => exact HC3.out); rintro e w' ⟨rfl, ⟨nd, rfl⟩⟩) | (go_at_call 22; (with_reducible refine (impl_within.calls a4 0 60 false _ A3_.out).mono ?_); rintro e w' ⟨rfl, ⟨nd2, rfl⟩⟩))
          go_ret2
          exact ⟨_, rfl, Kd.R_nil _ _ _ _ _, (by repeat (first | (with_reducible first | exact HB.out | apply ba_ | apply pw_below_drewN | apply bd_) | exact HB.out))⟩
      · replace e3 := Bool.eq_false_iff.mpr e3
        subst e3
        rw [if_neg (show ¬ (false = true) by decide)] at H
        simp only [Option.some.injEq, Prod.mk.injEq] at H
        obtain ⟨rfl, rfl⟩ := H
        go_enter Try.func6, Try.ntmps6
        go_wp2_with (first | ((with_reducible refine gate_dst (N := 5) rfl ?_); refine box_event ?hg (N := 5) ?hd (cs := #[.slice A0 l0.length c0]) (t := 24) ?hr ?_; (case hd => rfl); (case hg => rfl); (case hr => first | (go_simp; done) | (go_simp; rfl)); intro g5 hg5 w5 hbox5 hb5; have GE5 := am_ (by rw [hg5]; exact Nat.le_refl _ : w.heap.size ≤ g5); have HB := am_ hb5; have BK5 := am_ hbox5; clear hg5 hbox5 hb5) | ((with_reducible refine gate_dst (N := 6) rfl ?_); refine box_event ?hg (N := 6) ?hd (cs := #[.int .i64 a1]) (t := 3) ?hr ?_; (case hd => rfl); (case hg => rfl); (case hr => first | (go_simp; done) | (go_simp; rfl)); intro g6 hg6 w6 hbox6 hb6; have L6 := am_ (by rw [hg6]; exact blk_lt BK5.out : g5 < g6); have n_ := am_ (bp_ (by repeat (first | (with_reducible first | exact HB.out | apply ba_ | apply pw_below_drewN | apply bd_) | exact HB.out)) hb6); clear HB; have HB := n_; clear n_; have n_ := am_ (kb_ BK5.out hb6); clear BK5; have BK5 := n_; clear n_; have BK6 := am_ hbox6; clear hg6 hbox6 hb6) | ((with_reducible refine gate_dst (N := 7) rfl ?_); refine box_event ?hg (N := 7) ?hd (cs := #[.int .i64 a2]) (t := 3) ?hr ?_; (case hd => rfl); (case hg => rfl); (case hr => first | (go_simp; done) | (go_simp; rfl)); intro g7 hg7 w7 hbox7 hb7; have L7 := am_ (by rw [hg7]; exact blk_lt BK6.out : g6 < g7); have n_ := am_ (bp_ (by repeat (first | (with_reducible first | exact HB.out | apply ba_ | apply pw_below_drewN | apply bd_) | exact HB.out)) hb7); clear HB; have HB := n_; clear n_; have n_ := am_ (kb_ BK5.out hb7); clear BK5; have BK5 := n_; clear n_; have n_ := am_ (kb_ BK6.out hb7); clear BK6; have BK6 := n_; clear n_; have BK7 := am_ hbox7; clear hg7 hbox7 hb7) | ((with_reducible refine gate_dst (N := 8) rfl ?_); refine box_event ?hg (N := 8) ?hd (cs := #[.slice A3 l3.length c3]) (t := 25) ?hr ?_; (case hd => rfl); (case hg => rfl); (case hr => first | (go_simp; done) | (go_simp; rfl)); intro g8 hg8 w8 hbox8 hb8; have L8 := am_ (by rw [hg8]; exact blk_lt BK7.out : g7 < g8); have n_ := am_ (bp_ (by repeat (first | (with_reducible first | exact HB.out | apply ba_ | apply pw_below_drewN | apply bd_) | exact HB.out)) hb8); clear HB; have HB := n_; clear n_; have n_ := am_ (kb_ BK5.out hb8); clear BK5; have BK5 := n_; clear n_; have n_ := am_ (kb_ BK6.out hb8); clear BK6; have BK6 := n_; clear n_; have n_ := am_ (kb_ BK7.out hb8); clear BK7; have BK7 := n_; clear n_; have BK8 := am_ hbox8; clear hg8 hbox8 hb8; have hc8_5 : w8.cell? ⟨g5, 0, none⟩ = some (.slice A0 l0.length c0) := (kc_ BK5.out 0).trans rfl; have hc8_6 : w8.cell? ⟨g6, 0, none⟩ = some (.int .i64 a1) := (kc_ BK6.out 0).trans rfl; have hc8_7 : w8.cell? ⟨g7, 0, none⟩ = some (.int .i64 a2) := (kc_ BK7.out 0).trans rfl; have hc8_8 : w8.cell? ⟨g8, 0, none⟩ = some (.slice A3 l3.length c3) := (kc_ BK8.out 0).trans rfl) | ((with_reducible refine gc_ (f := 20) rfl ?_); refine goesL_ (some 18) rfl rfl Try.func20 (by kernel_rfl) rfl #[.slice A0 l0.length c0, .int .i64 a1, .int .i64 a2] rfl (by (try simp only [List.map_toArray, List.map_cons, List.map_nil]); first | done | rfl) ?_; refine (impl_areGoods.calls k A0 c0 l0 a1 a2 true _ (cb_ HR0.out HB.out) HC0.out A1.out).mono ?_; rintro e w9 ⟨rfl, hb9⟩; refine ⟨_, rfl, ?_⟩; have n_ := am_ (bp_ HB.out hb9); clear HB; have HB := n_; clear n_; have n_ := am_ (kb_ BK5.out hb9); clear BK5; have BK5 := n_; clear n_; have n_ := am_ (kb_ BK6.out hb9); clear BK6; have BK6 := n_; clear n_; have n_ := am_ (kb_ BK7.out hb9); clear BK7; have BK7 := n_; clear n_; have n_ := am_ (kb_ BK8.out hb9); clear BK8; have BK8 := n_; clear n_; clear hb9; have hc9_5 : w9.cell? ⟨g5, 0, none⟩ = some (.slice A0 l0.length c0) := (kc_ BK5.out 0).trans rfl; have hc9_8 : w9.cell? ⟨g8, 0, none⟩ = some (.slice A3 l3.length c3) := (kc_ BK8.out 0).trans rfl) | (go_at_call 21; (with_reducible refine (impl_areCharges.calls k A3 c3 l3 false _ ?side1 ?side2 A2.out).mono ?_); (case side1 => exact cb_ HR3.out (by repeat (first | (with_reducible first | exact HB.out | apply ba_ | apply pw_below_drewN | apply bd_) | exact HB.out))); (case side2 => exact HC3.out); rintro e w' ⟨rfl, ⟨nd, rfl⟩⟩))
        go_ret2
        exact ⟨_, rfl, Kd.R_nil _ _ _ _ _, (by repeat (first | (with_reducible first | exact HB.out | apply ba_ | apply pw_below_drewN | apply bd_) | exact HB.out))⟩
    · rw [if_neg e2] at H
      have e2b0 : ((l3.length : Int) == (l0.length : Int)) = false := beq_eq_false_iff_ne.mpr e2
      have e2b1 : ((l3.length : Int) != (l0.length : Int)) = true := bne_iff_ne.mpr e2
      have e2b2 : (l3.length == l0.length) = false := by first | simpa using e2 | (simp at e2 ⊢; omega)
      clear e2
      simp only [Option.some.injEq, Prod.mk.injEq] at H
      obtain ⟨rfl, rfl⟩ := H
      go_enter Try.func6, Try.ntmps6
      go_wp2_with (first | ((with_reducible refine gate_dst (N := 5) rfl ?_); refine box_event ?hg (N := 5) ?hd (cs := #[.slice A0 l0.length c0]) (t := 24) ?hr ?_; (case hd => rfl); (case hg => rfl); (case hr => first | (go_simp; done) | (go_simp; rfl)); intro g5 hg5 w5 hbox5 hb5; have GE5 := am_ (by rw [hg5]; exact Nat.le_refl _ : w.heap.size ≤ g5); have HB := am_ hb5; have BK5 := am_ hbox5; clear hg5 hbox5 hb5) | ((with_reducible refine gate_dst (N := 6) rfl ?_); refine box_event ?hg (N := 6) ?hd (cs := #[.int .i64 a1]) (t := 3) ?hr ?_; (case hd => rfl); (case hg => rfl); (case hr => first | (go_simp; done) | (go_simp; rfl)); intro g6 hg6 w6 hbox6 hb6; have L6 := am_ (by rw [hg6]; exact blk_lt BK5.out : g5 < g6); have n_ := am_ (bp_ (by repeat (first | (with_reducible first | exact HB.out | apply ba_ | apply pw_below_drewN | apply bd_) | exact HB.out)) hb6); clear HB; have HB := n_; clear n_; have n_ := am_ (kb_ BK5.out hb6); clear BK5; have BK5 := n_; clear n_; have BK6 := am_ hbox6; clear hg6 hbox6 hb6) | ((with_reducible refine gate_dst (N := 7) rfl ?_); refine box_event ?hg (N := 7) ?hd (cs := #[.int .i64 a2]) (t := 3) ?hr ?_; (case hd => rfl); (case hg => rfl); (case hr => first | (go_simp; done) | (go_simp; rfl)); intro g7 hg7 w7 hbox7 hb7; have L7 := am_ (by rw [hg7]; exact blk_lt BK6.out : g6 < g7); have n_ := am_ (bp_ (by repeat (first | (with_reducible first | exact HB.out | apply ba_ | apply pw_below_drewN | apply bd_) | exact HB.out)) hb7); clear HB; have HB := n_; clear n_; have n_ := am_ (kb_ BK5.out hb7); clear BK5; have BK5 := n_; clear n_; have n_ := am_ (kb_ BK6.out hb7); clear BK6; have BK6 := n_; clear n_; have BK7 := am_ hbox7; clear hg7 hbox7 hb7) | ((with_reducible refine gate_dst (N := 8) rfl ?_); refine box_event ?hg (N := 8) ?hd (cs := #[.slice A3 l3.length c3]) (t := 25) ?hr ?_; (case hd => rfl); (case hg => rfl); (case hr => first | (go_simp; done) | (go_simp; rfl)); intro g8 hg8 w8 hbox8 hb8; have L8 := am_ (by rw [hg8]; exact blk_lt BK7.out : g7 < g8); have n_ := am_ (bp_ (by repeat (first | (with_reducible first | exact HB.out | apply ba_ | apply pw_below_drewN | apply bd_) | exact HB.out)) hb8); clear HB; have HB := n_; clear n_; have n_ := am_ (kb_ BK5.out hb8); clear BK5; have BK5 := n_; clear n_; have n_ := am_ (kb_ BK6.out hb8); clear BK6; have BK6 := n_; clear n_; have n_ := am_ (kb_ BK7.out hb8); clear BK7; have BK7 := n_; clear n_; have BK8 := am_ hbox8; clear hg8 hbox8 hb8; have hc8_5 : w8.cell? ⟨g5, 0, none⟩ = some (.slice A0 l0.length c0) := (kc_ BK5.out 0).trans rfl; have hc8_6 : w8.cell? ⟨g6, 0, none⟩ = some (.int .i64 a1) := (kc_ BK6.out 0).trans rfl; have hc8_7 : w8.cell? ⟨g7, 0, none⟩ = some (.int .i64 a2) := (kc_ BK7.out 0).trans rfl; have hc8_8 : w8.cell? ⟨g8, 0, none⟩ = some (.slice A3 l3.length c3) := (kc_ BK8.out 0).trans rfl) | ((with_reducible refine gc_ (f := 20) rfl ?_); refine goesL_ (some 18) rfl rfl Try.func20 (by kernel_rfl) rfl #[.slice A0 l0.length c0, .int .i64 a1, .int .i64 a2] rfl (by (try simp only [List.map_toArray, List.map_cons, List.map_nil]); first | done | rfl) ?_; refine (impl_areGoods.calls k A0 c0 l0 a1 a2 true _ (cb_ HR0.out HB.out) HC0.out A1.out).mono ?_; rintro e w9 ⟨rfl, hb9⟩; refine ⟨_, rfl, ?_⟩; have n_ := am_ (bp_ HB.out hb9); clear HB; have HB := n_; clear n_; have n_ := am_ (kb_ BK5.out hb9); clear BK5; have BK5 := n_; clear n_; have n_ := am_ (kb_ BK6.out hb9); clear BK6; have BK6 := n_; clear n_; have n_ := am_ (kb_ BK7.out hb9); clear BK7; have BK7 := n_; clear n_; have n_ := am_ (kb_ BK8.out hb9); clear BK8; have BK8 := n_; clear n_; clear hb9; have hc9_5 : w9.cell? ⟨g5, 0, none⟩ = some (.slice A0 l0.length c0) := (kc_ BK5.out 0).trans rfl; have hc9_8 : w9.cell? ⟨g8, 0, none⟩ = some (.slice A3 l3.length c3) := (kc_ BK8.out 0).trans rfl))
      go_ret2
      exact ⟨_, rfl, Kd.R_nil _ _ _ _ _, (by repeat (first | (with_reducible first | exact HB.out | apply ba_ | apply pw_below_drewN | apply bd_) | exact HB.out))⟩
  · replace e1 := Bool.eq_false_iff.mpr e1
    subst e1
    rw [if_neg (show ¬ (false = true) by decide)] at H
    simp only [Option.some.injEq, Prod.mk.injEq] at H
    obtain ⟨rfl, rfl⟩ := H
    go_enter Try.func6, Try.ntmps6
    go_wp2_with (first | ((with_reducible refine gate_dst (N := 5) rfl ?_); refine box_event ?hg (N := 5) ?hd (cs := #[.slice A0 l0.length c0]) (t := 24) ?hr ?_; (case hd => rfl); (case hg => rfl); (case hr => first | (go_simp; done) | (go_simp; rfl)); intro g5 hg5 w5 hbox5 hb5; have GE5 := am_ (by rw [hg5]; exact Nat.le_refl _ : w.heap.size ≤ g5); have HB := am_ hb5; have BK5 := am_ hbox5; clear hg5 hbox5 hb5) | ((with_reducible refine gate_dst (N := 6) rfl ?_); refine box_event ?hg (N := 6) ?hd (cs := #[.int .i64 a1]) (t := 3) ?hr ?_; (case hd => rfl); (case hg => rfl); (case hr => first | (go_simp; done) | (go_simp; rfl)); intro g6 hg6 w6 hbox6 hb6; have L6 := am_ (by rw [hg6]; exact blk_lt BK5.out : g5 < g6); have n_ := am_ (bp_ (by repeat (first | (with_reducible first | exact HB.out | apply ba_ | apply pw_below_drewN | apply bd_) | exact HB.out)) hb6); clear HB; have HB := n_; clear n_; have n_ := am_ (kb_ BK5.out hb6); clear BK5; have BK5 := n_; clear n_; have BK6 := am_ hbox6; clear hg6 hbox6 hb6) | ((with_reducible refine gate_dst (N := 7) rfl ?_); refine box_event ?hg (N := 7) ?hd (cs := #[.int .i64 a2]) (t := 3) ?hr ?_; (case hd => rfl); (case hg => rfl); (case hr => first | (go_simp; done) | (go_simp; rfl)); intro g7 hg7 w7 hbox7 hb7; have L7 := am_ (by rw [hg7]; exact blk_lt BK6.out : g6 < g7); have n_ := am_ (bp_ (by repeat (first | (with_reducible first | exact HB.out | apply ba_ | apply pw_below_drewN | apply bd_) | exact HB.out)) hb7); clear HB; have HB := n_; clear n_; have n_ := am_ (kb_ BK5.out hb7); clear BK5; have BK5 := n_; clear n_; have n_ := am_ (kb_ BK6.out hb7); clear BK6; have BK6 := n_; clear n_; have BK7 := am_ hbox7; clear hg7 hbox7 hb7) | ((with_reducible refine gate_dst (N := 8) rfl ?_); refine box_event ?hg (N := 8) ?hd (cs := #[.slice A3 l3.length c3]) (t := 25) ?hr ?_; (case hd => rfl); (case hg => rfl); (case hr => first | (go_simp; done) | (go_simp; rfl)); intro g8 hg8 w8 hbox8 hb8; have L8 := am_ (by rw [hg8]; exact blk_lt BK7.out : g7 < g8); have n_ := am_ (bp_ (by repeat (first | (with_reducible first | exact HB.out | apply ba_ | apply pw_below_drewN | apply bd_) | exact HB.out)) hb8); clear HB; have HB := n_; clear n_; have n_ := am_ (kb_ BK5.out hb8); clear BK5; have BK5 := n_; clear n_; have n_ := am_ (kb_ BK6.out hb8); clear BK6; have BK6 := n_; clear n_; have n_ := am_ (kb_ BK7.out hb8); clear BK7; have BK7 := n_; clear n_; have BK8 := am_ hbox8; clear hg8 hbox8 hb8; have hc8_5 : w8.cell? ⟨g5, 0, none⟩ = some (.slice A0 l0.length c0) := (kc_ BK5.out 0).trans rfl; have hc8_6 : w8.cell? ⟨g6, 0, none⟩ = some (.int .i64 a1) := (kc_ BK6.out 0).trans rfl; have hc8_7 : w8.cell? ⟨g7, 0, none⟩ = some (.int .i64 a2) := (kc_ BK7.out 0).trans rfl; have hc8_8 : w8.cell? ⟨g8, 0, none⟩ = some (.slice A3 l3.length c3) := (kc_ BK8.out 0).trans rfl) | ((with_reducible refine gc_ (f := 20) rfl ?_); refine goesL_ (some 18) rfl rfl Try.func20 (by kernel_rfl) rfl #[.slice A0 l0.length c0, .int .i64 a1, .int .i64 a2] rfl (by (try simp only [List.map_toArray, List.map_cons, List.map_nil]); first | done | rfl) ?_; refine (impl_areGoods.calls k A0 c0 l0 a1 a2 false _ (cb_ HR0.out HB.out) HC0.out A1.out).mono ?_; rintro e w9 ⟨rfl, hb9⟩; refine ⟨_, rfl, ?_⟩; have n_ := am_ (bp_ HB.out hb9); clear HB; have HB := n_; clear n_; have n_ := am_ (kb_ BK5.out hb9); clear BK5; have BK5 := n_; clear n_; have n_ := am_ (kb_ BK6.out hb9); clear BK6; have BK6 := n_; clear n_; have n_ := am_ (kb_ BK7.out hb9); clear BK7; have BK7 := n_; clear n_; have n_ := am_ (kb_ BK8.out hb9); clear BK8; have BK8 := n_; clear n_; clear hb9; have hc9_5 : w9.cell? ⟨g5, 0, none⟩ = some (.slice A0 l0.length c0) := (kc_ BK5.out 0).trans rfl; have hc9_8 : w9.cell? ⟨g8, 0, none⟩ = some (.slice A3 l3.length c3) := (kc_ BK8.out 0).trans rfl))
    go_ret2
    exact ⟨_, rfl, Kd.R_nil _ _ _ _ _, (by repeat (first | (with_reducible first | exact HB.out | apply ba_ | apply pw_below_drewN | apply bd_) | exact HB.out))⟩
/-! ### spec_l5Goods: function 26 -/
def spec_l5Goods.l0 : Nat → List (List Int) → Int → Option (Bool)
  | 0, _, _ => none
  | k + 1, x0, x3 => if x3 < (x0.length : Int) then (if 0 ≤ x3 then ((spec_l5Good.f k (rd_L2 x0 x3)).bind fun t310 => (if t310 = true then ((spec_l5Total.f k (rd_L2 x0 x3)).bind fun t312 => (if 0 < (x0.length : Int) then ((spec_l5Total.f k (rd_L2 x0 0)).bind fun t314 => (if t312 = t314 then (spec_l5Goods.l0 k x0 (wrap64 (x3 + 1))) else (some false))) else (none))) else (some false))) else (none)) else ((spec_l1In.f (x0.length : Int) 1 3).bind fun t308 => (some t308))
def spec_l5Goods.f (k : Nat) (l0 : List (List Int)) : Option (Bool) := spec_l5Goods.l0 k l0 0
theorem spec_l5Goods.mono_l : ∀ k, (∀ y0 y1, LeO (spec_l5Goods.l0 k y0 y1) (spec_l5Goods.l0 (k + 1) y0 y1))
  | 0 => fun _ _ r h => by simp [spec_l5Goods.l0] at h
  | k + 1 => by
    have ih0 := spec_l5Goods.mono_l k
    · intro y0 y1
      unfold spec_l5Goods.l0
      repeat' first
      | (with_reducible exact ih0 _ _)
      | (with_reducible exact spec_l5Good.mono _ _)
      | (with_reducible exact spec_l5Total.mono _ _)
      | (with_reducible exact LeO.refl _)
      | (with_reducible exact LeO.none _)
      | (with_reducible refine LeO.ite ?_ ?_)
      | (with_reducible refine LeO.bind ?_ (fun _ => ?_))
      | exact ih0 _ _
      | exact spec_l5Good.mono _ _
      | exact spec_l5Total.mono _ _
      | exact LeO.none _
      | refine LeO.ite ?_ ?_
      | refine LeO.bind ?_ (fun _ => ?_)
theorem spec_l5Goods.mono : ∀ a0 k, LeO (spec_l5Goods.f k a0) (spec_l5Goods.f (k + 1) a0) := by
  intro a0 k
  have ih0 := spec_l5Goods.mono_l k
  unfold spec_l5Goods.f
  repeat' first
      | (with_reducible exact ih0 _ _)
      | (with_reducible exact spec_l5Good.mono _ _)
      | (with_reducible exact spec_l5Total.mono _ _)
      | (with_reducible exact LeO.refl _)
      | (with_reducible exact LeO.none _)
      | (with_reducible refine LeO.ite ?_ ?_)
      | (with_reducible refine LeO.bind ?_ (fun _ => ?_))
      | exact ih0 _ _
      | exact spec_l5Good.mono _ _
      | exact spec_l5Total.mono _ _
      | exact LeO.none _
      | refine LeO.ite ?_ ?_
      | refine LeO.bind ?_ (fun _ => ?_)
set_option maxHeartbeats 8000000 in
set_option maxRecDepth 100000 in
theorem spec_l5Goods.calls (k : Nat) (A0 : Option Addr) (c0 : Nat) (l0 : List (List Int)) (r : Bool) (w : World) (hr0 : Kd.C (Kd.slice 3 (Kd.int .i64)) w A0 l0.length l0) (hc0 : l0.length ≤ c0) (h : spec_l5Goods.f k l0 = some r) :
    Calls Try.prog 26 #[.slice A0 l0.length c0] w fun e w' => e = .returned (.bool r) ∧ Drawn0 w w' := by
  have HR0 := am_ hr0
  have HC0 := am_ hc0
  clear hr0 hc0
  have H : (spec_l5Goods.l0 k l0 0) = some r := h
  clear h
  have H' := am_ H
  clear H
  go_enter Try.func26, Try.ntmps26
  go_wp2
  repeat (go_quiet (fail); try go_wp2)
  go_loopg [3] k (fun kq v3 w' => ∃ (x3_1 : Int), v3 = .int .i64 x3_1 ∧ Aside0 (spec_l5Goods.l0 kq l0 x3_1 = some r) ∧ Aside0 (kq ≤ k) ∧ Drawn0 w w')
  case atStart => exact ⟨(0), (by first | rfl | (simp; done) | (simp [*]; done)), H', ⟨Nat.le_refl _⟩, by repeat (first | exact Drawn0.refl _ | apply Drawn0.step)⟩
  case round =>
    clear H'
    obtain ⟨x3_1, rfl, HA, HK1, ⟨m1, rfl⟩⟩ := hrel
    cases gk with
    | zero => exact absurd HA.out (by simp [spec_l5Goods.l0])
    | succ k1 =>
      have H := HA.out
      clear HA
      simp only [spec_l5Goods.l0] at H
      by_cases c2 : x3_1 < (l0.length : Int)
      · rw [if_pos c2] at H
        have c2b0 : decide (x3_1 < (l0.length : Int)) = true := decide_eq_true c2
        clear c2
        by_cases c3 : 0 ≤ x3_1
        · rw [if_pos c3] at H
          have c3b0 : decide (0 ≤ x3_1) = true := decide_eq_true c3
          clear c3
          replace H := Option.bind_eq_some_iff.mp H
          obtain ⟨t310, A40, H⟩ := H
          replace H : (if t310 = true then ((spec_l5Total.f k1 (rd_L2 l0 x3_1)).bind fun t312 => (if 0 < (l0.length : Int) then ((spec_l5Total.f k1 (rd_L2 l0 0)).bind fun t314 => (if t312 = t314 then (spec_l5Goods.l0 k1 l0 (wrap64 (x3_1 + 1))) else (some false))) else (none))) else (some false)) = some r := H
          have A4 := am_ A40
          clear A40
          by_cases c5 : t310 = true
          · subst c5
            have H1 : ((spec_l5Total.f k1 (rd_L2 l0 x3_1)).bind fun t312 => (if 0 < (l0.length : Int) then ((spec_l5Total.f k1 (rd_L2 l0 0)).bind fun t314 => (if t312 = t314 then (spec_l5Goods.l0 k1 l0 (wrap64 (x3_1 + 1))) else (some false))) else (none))) = some r := by rw [if_pos rfl] at H; exact H
            clear H
            have H := H1
            clear H1
            replace H := Option.bind_eq_some_iff.mp H
            obtain ⟨t312, A60, H⟩ := H
            replace H : (if 0 < (l0.length : Int) then ((spec_l5Total.f k1 (rd_L2 l0 0)).bind fun t314 => (if t312 = t314 then (spec_l5Goods.l0 k1 l0 (wrap64 (x3_1 + 1))) else (some false))) else (none)) = some r := H
            have A6 := am_ A60
            clear A60
            by_cases c7 : 0 < (l0.length : Int)
            · rw [if_pos c7] at H
              have c7b0 : decide (0 < (l0.length : Int)) = true := decide_eq_true c7
              have c7b1 : decide (0 < l0.length) = true := decide_eq_true (by omega)
              clear c7
              replace H := Option.bind_eq_some_iff.mp H
              obtain ⟨t314, A80, H⟩ := H
              replace H : (if t312 = t314 then (spec_l5Goods.l0 k1 l0 (wrap64 (x3_1 + 1))) else (some false)) = some r := H
              have A8 := am_ A80
              clear A80
              by_cases c9 : t312 = t314
              · rw [if_pos c9] at H
                have c9b0 : (t312 == t314) = true := beq_iff_eq.mpr c9
                have c9b1 : (t312 != t314) = false := bne_eq_false_iff_eq.mpr c9
                clear c9
                have H' := am_ H
                clear H
                have p309 : 0 ≤ (x3_1 : Int) := of_decide_eq_true (by first | (with_reducible assumption) | assumption)
                have q309 : x3_1 < (l0.length : Int) := of_decide_eq_true (by first | (with_reducible assumption) | assumption)
                obtain ⟨ad309, A309_0, c309_0, e309, hx309_0, hl309_0, hi309_0⟩ := at_L2 HR0.out x3_1 p309 q309
                cases e309
                have HR309_0 := am_ hi309_0
                have HC309_0 := am_ hl309_0
                clear hi309_0 hl309_0
                replace p309 := eq_true p309
                replace q309 := eq_true q309
                go_wp2_with (first | (go_at_call 36; (with_reducible refine (spec_l5Good.calls k1 _ _ (rd_L2 l0 x3_1) true _ ?side1 ?side2 A4.out).mono ?_); (case side1 => repeat (first | exact HR309_0.out | (with_reducible refine ca_ ?_ _) | (with_reducible refine cn_ ?_ _) | (with_reducible refine cd_ ?_))); (case side2 => exact HC309_0.out); rintro e w' ⟨rfl, ⟨nd, rfl⟩⟩; (try first | exact ⟨rfl, _, World.drewN_drewN _ _ _⟩ | exact ⟨rfl, _, Eq.trans (World.drewN_drewN _ _ _) (congrArg (World.drewN _) (Nat.add_assoc _ _ _))⟩); have p311 : 0 ≤ (x3_1 : Int) := of_decide_eq_true (by first | (with_reducible assumption) | assumption); have q311 : x3_1 < (l0.length : Int) := of_decide_eq_true (by first | (with_reducible assumption) | assumption); obtain ⟨ad311, A311_0, c311_0, e311, hx311_0, hl311_0, hi311_0⟩ := at_L2 HR0.out x3_1 p311 q311; obtain rfl : ad309 = ad311 := (by injection e311); have HR311_0 := am_ hi311_0; have HC311_0 := am_ hl311_0; clear hi311_0 hl311_0; replace p311 := eq_true p311; replace q311 := eq_true q311; have ea_ := Option.some.inj (hx309_0.symm.trans hx311_0); injection ea_ with ea_ en_ ec_; subst ea_; subst ec_; clear en_) | (go_at_call 37; (with_reducible refine (spec_l5Total.calls k1 _ _ (rd_L2 l0 x3_1) t312 _ ?side1 ?side2 A6.out).mono ?_); (case side1 => repeat (first | exact HR311_0.out | (with_reducible refine ca_ ?_ _) | (with_reducible refine cn_ ?_ _) | (with_reducible refine cd_ ?_))); (case side2 => exact HC311_0.out); rintro e w' ⟨rfl, ⟨nd, rfl⟩⟩; (try first | exact ⟨rfl, _, World.drewN_drewN _ _ _⟩ | exact ⟨rfl, _, Eq.trans (World.drewN_drewN _ _ _) (congrArg (World.drewN _) (Nat.add_assoc _ _ _))⟩); have p313 : 0 ≤ (0 : Int) := (by omega); have q313 : 0 < (l0.length : Int) := of_decide_eq_true (by first | (with_reducible assumption) | assumption); obtain ⟨ad313, A313_0, c313_0, e313, hx313_0, hl313_0, hi313_0⟩ := at_L2 HR0.out 0 p313 q313; obtain rfl : ad309 = ad313 := (by injection e313); have qi313 : (0 < l0.length) = True := eq_true (by omega); (try rw [show ((0 : Int)).toNat = 0 from rfl] at hx313_0); (try rw [Addr.add_zero'] at hx313_0); have HR313_0 := am_ hi313_0; have HC313_0 := am_ hl313_0; clear hi313_0 hl313_0; replace p313 := eq_true p313; replace q313 := eq_true q313) | (go_at_call 37; (with_reducible refine (spec_l5Total.calls k1 _ _ (rd_L2 l0 0) t314 _ ?side1 ?side2 A8.out).mono ?_); (case side1 => repeat (first | exact HR313_0.out | (with_reducible refine ca_ ?_ _) | (with_reducible refine cn_ ?_ _) | (with_reducible refine cd_ ?_))); (case side2 => exact HC313_0.out); rintro e w' ⟨rfl, ⟨nd, rfl⟩⟩; (try first | exact ⟨rfl, _, World.drewN_drewN _ _ _⟩ | exact ⟨rfl, _, Eq.trans (World.drewN_drewN _ _ _) (congrArg (World.drewN _) (Nat.add_assoc _ _ _))⟩)))
                repeat (go_quiet (first | (go_at_call 36; (with_reducible refine (spec_l5Good.calls k1 _ _ (rd_L2 l0 x3_1) true _ ?side1 ?side2 A4.out).mono ?_); (case side1 => repeat (first | exact HR309_0.out | (with_reducible refine ca_ ?_ _) | (with_reducible refine cn_ ?_ _) | (with_reducible refine cd_ ?_))); (case side2 => exact HC309_0.out); rintro e w' ⟨rfl, ⟨nd, rfl⟩⟩; (try first | exact ⟨rfl, _, World.drewN_drewN _ _ _⟩ | exact ⟨rfl, _, Eq.trans (World.drewN_drewN _ _ _) (congrArg (World.drewN _) (Nat.add_assoc _ _ _))⟩); have p311 : 0 ≤ (x3_1 : Int) := of_decide_eq_true (by first | (with_reducible assumption) | assumption); have q311 : x3_1 < (l0.length : Int) := of_decide_eq_true (by first | (with_reducible assumption) | assumption); obtain ⟨ad311, A311_0, c311_0, e311, hx311_0, hl311_0, hi311_0⟩ := at_L2 HR0.out x3_1 p311 q311; obtain rfl : ad309 = ad311 := (by injection e311); have HR311_0 := am_ hi311_0; have HC311_0 := am_ hl311_0; clear hi311_0 hl311_0; replace p311 := eq_true p311; replace q311 := eq_true q311; have ea_ := Option.some.inj (hx309_0.symm.trans hx311_0); injection ea_ with ea_ en_ ec_; subst ea_; subst ec_; clear en_) | (go_at_call 37; (with_reducible refine (spec_l5Total.calls k1 _ _ (rd_L2 l0 x3_1) t312 _ ?side1 ?side2 A6.out).mono ?_); (case side1 => repeat (first | exact HR311_0.out | (with_reducible refine ca_ ?_ _) | (with_reducible refine cn_ ?_ _) | (with_reducible refine cd_ ?_))); (case side2 => exact HC311_0.out); rintro e w' ⟨rfl, ⟨nd, rfl⟩⟩; (try first | exact ⟨rfl, _, World.drewN_drewN _ _ _⟩ | exact ⟨rfl, _, Eq.trans (World.drewN_drewN _ _ _) (congrArg (World.drewN _) (Nat.add_assoc _ _ _))⟩); have p313 : 0 ≤ (0 : Int) := (by omega); have q313 : 0 < (l0.length : Int) := of_decide_eq_true (by first | (with_reducible assumption) | assumption); obtain ⟨ad313, A313_0, c313_0, e313, hx313_0, hl313_0, hi313_0⟩ := at_L2 HR0.out 0 p313 q313; obtain rfl : ad309 = ad313 := (by injection e313); have qi313 : (0 < l0.length) = True := eq_true (by omega); (try rw [show ((0 : Int)).toNat = 0 from rfl] at hx313_0); (try rw [Addr.add_zero'] at hx313_0); have HR313_0 := am_ hi313_0; have HC313_0 := am_ hl313_0; clear hi313_0 hl313_0; replace p313 := eq_true p313; replace q313 := eq_true q313) | (go_at_call 37; (with_reducible refine (spec_l5Total.calls k1 _ _ (rd_L2 l0 0) t314 _ ?side1 ?side2 A8.out).mono ?_); (case side1 => repeat (first | exact HR313_0.out | (with_reducible refine ca_ ?_ _) | (with_reducible refine cn_ ?_ _) | (with_reducible refine cd_ ?_))); (case side2 => exact HC313_0.out); rintro e w' ⟨rfl, ⟨nd, rfl⟩⟩; (try first | exact ⟨rfl, _, World.drewN_drewN _ _ _⟩ | exact ⟨rfl, _, Eq.trans (World.drewN_drewN _ _ _) (congrArg (World.drewN _) (Nat.add_assoc _ _ _))⟩))); try go_wp2_with (first | (go_at_call 36; (with_reducible refine (spec_l5Good.calls k1 _ _ (rd_L2 l0 x3_1) true _ ?side1 ?side2 A4.out).mono ?_); (case side1 => repeat (first | exact HR309_0.out | (with_reducible refine ca_ ?_ _) | (with_reducible refine cn_ ?_ _) | (with_reducible refine cd_ ?_))); (case side2 => exact HC309_0.out); rintro e w' ⟨rfl, ⟨nd, rfl⟩⟩; (try first | exact ⟨rfl, _, World.drewN_drewN _ _ _⟩ | exact ⟨rfl, _, Eq.trans (World.drewN_drewN _ _ _) (congrArg (World.drewN _) (Nat.add_assoc _ _ _))⟩); have p311 : 0 ≤ (x3_1 : Int) := of_decide_eq_true (by first | (with_reducible assumption) | assumption); have q311 : x3_1 < (l0.length : Int) := of_decide_eq_true (by first | (with_reducible assumption) | assumption); obtain ⟨ad311, A311_0, c311_0, e311, hx311_0, hl311_0, hi311_0⟩ := at_L2 HR0.out x3_1 p311 q311; obtain rfl : ad309 = ad311 := (by injection e311); have HR311_0 := am_ hi311_0; have HC311_0 := am_ hl311_0; clear hi311_0 hl311_0; replace p311 := eq_true p311; replace q311 := eq_true q311; have ea_ := Option.some.inj (hx309_0.symm.trans hx311_0); injection ea_ with ea_ en_ ec_; subst ea_; subst ec_; clear en_) | (go_at_call 37; (with_reducible refine (spec_l5Total.calls k1 _ _ (rd_L2 l0 x3_1) t312 _ ?side1 ?side2 A6.out).mono ?_); (case side1 => repeat (first | exact HR311_0.out | (with_reducible refine ca_ ?_ _) | (with_reducible refine cn_ ?_ _) | (with_reducible refine cd_ ?_))); (case side2 => exact HC311_0.out); rintro e w' ⟨rfl, ⟨nd, rfl⟩⟩; (try first | exact ⟨rfl, _, World.drewN_drewN _ _ _⟩ | exact ⟨rfl, _, Eq.trans (World.drewN_drewN _ _ _) (congrArg (World.drewN _) (Nat.add_assoc _ _ _))⟩); have p313 : 0 ≤ (0 : Int) := (by omega); have q313 : 0 < (l0.length : Int) := of_decide_eq_true (by first | (with_reducible assumption) | assumption); obtain ⟨ad313, A313_0, c313_0, e313, hx313_0, hl313_0, hi313_0⟩ := at_L2 HR0.out 0 p313 q313; obtain rfl : ad309 = ad313 := (by injection e313); have qi313 : (0 < l0.length) = True := eq_true (by omega); (try rw [show ((0 : Int)).toNat = 0 from rfl] at hx313_0); (try rw [Addr.add_zero'] at hx313_0); have HR313_0 := am_ hi313_0; have HC313_0 := am_ hl313_0; clear hi313_0 hl313_0; replace p313 := eq_true p313; replace q313 := eq_true q313) | (go_at_call 37; (with_reducible refine (spec_l5Total.calls k1 _ _ (rd_L2 l0 0) t314 _ ?side1 ?side2 A8.out).mono ?_); (case side1 => repeat (first | exact HR313_0.out | (with_reducible refine ca_ ?_ _) | (with_reducible refine cn_ ?_ _) | (with_reducible refine cd_ ?_))); (case side2 => exact HC313_0.out); rintro e w' ⟨rfl, ⟨nd, rfl⟩⟩; (try first | exact ⟨rfl, _, World.drewN_drewN _ _ _⟩ | exact ⟨rfl, _, Eq.trans (World.drewN_drewN _ _ _) (congrArg (World.drewN _) (Nat.add_assoc _ _ _))⟩))))
                go_roundg k1
                case measure => have := HK1.out; omega
                case rel => exact ⟨(wrap64 (x3_1 + 1)), (by first | rfl | (simp; done) | (simp [*]; done)), H', ⟨by have := HK1.out; omega⟩, by repeat (first | exact Drawn0.refl _ | apply Drawn0.step)⟩
              · rw [if_neg c9] at H
                have c9b0 : (t312 == t314) = false := beq_eq_false_iff_ne.mpr c9
                have c9b1 : (t312 != t314) = true := bne_iff_ne.mpr c9
                obtain rfl := Option.some.inj H
                have p309 : 0 ≤ (x3_1 : Int) := of_decide_eq_true (by first | (with_reducible assumption) | assumption)
                have q309 : x3_1 < (l0.length : Int) := of_decide_eq_true (by first | (with_reducible assumption) | assumption)
                obtain ⟨ad309, A309_0, c309_0, e309, hx309_0, hl309_0, hi309_0⟩ := at_L2 HR0.out x3_1 p309 q309
                cases e309
                have HR309_0 := am_ hi309_0
                have HC309_0 := am_ hl309_0
                clear hi309_0 hl309_0
                replace p309 := eq_true p309
                replace q309 := eq_true q309
                go_wp2_with (first | (go_at_call 36; (with_reducible refine (spec_l5Good.calls k1 _ _ (rd_L2 l0 x3_1) true _ ?side1 ?side2 A4.out).mono ?_); (case side1 => repeat (first | exact HR309_0.out | (with_reducible refine ca_ ?_ _) | (with_reducible refine cn_ ?_ _) | (with_reducible refine cd_ ?_))); (case side2 => exact HC309_0.out); rintro e w' ⟨rfl, ⟨nd, rfl⟩⟩; (try first | exact ⟨rfl, _, World.drewN_drewN _ _ _⟩ | exact ⟨rfl, _, Eq.trans (World.drewN_drewN _ _ _) (congrArg (World.drewN _) (Nat.add_assoc _ _ _))⟩); have p311 : 0 ≤ (x3_1 : Int) := of_decide_eq_true (by first | (with_reducible assumption) | assumption); have q311 : x3_1 < (l0.length : Int) := of_decide_eq_true (by first | (with_reducible assumption) | assumption); obtain ⟨ad311, A311_0, c311_0, e311, hx311_0, hl311_0, hi311_0⟩ := at_L2 HR0.out x3_1 p311 q311; obtain rfl : ad309 = ad311 := (by injection e311); have HR311_0 := am_ hi311_0; have HC311_0 := am_ hl311_0; clear hi311_0 hl311_0; replace p311 := eq_true p311; replace q311 := eq_true q311; have ea_ := Option.some.inj (hx309_0.symm.trans hx311_0); injection ea_ with ea_ en_ ec_; subst ea_; subst ec_; clear en_) | (go_at_call 37; (with_reducible refine (spec_l5Total.calls k1 _ _ (rd_L2 l0 x3_1) t312 _ ?side1 ?side2 A6.out).mono ?_); (case side1 => repeat (first | exact HR311_0.out | (with_reducible refine ca_ ?_ _) | (with_reducible refine cn_ ?_ _) | (with_reducible refine cd_ ?_))); (case side2 => exact HC311_0.out); rintro e w' ⟨rfl, ⟨nd, rfl⟩⟩; (try first | exact ⟨rfl, _, World.drewN_drewN _ _ _⟩ | exact ⟨rfl, _, Eq.trans (World.drewN_drewN _ _ _) (congrArg (World.drewN _) (Nat.add_assoc _ _ _))⟩); have p313 : 0 ≤ (0 : Int) := (by omega); have q313 : 0 < (l0.length : Int) := of_decide_eq_true (by first | (with_reducible assumption) | assumption); obtain ⟨ad313, A313_0, c313_0, e313, hx313_0, hl313_0, hi313_0⟩ := at_L2 HR0.out 0 p313 q313; obtain rfl : ad309 = ad313 := (by injection e313); have qi313 : (0 < l0.length) = True := eq_true (by omega); (try rw [show ((0 : Int)).toNat = 0 from rfl] at hx313_0); (try rw [Addr.add_zero'] at hx313_0); have HR313_0 := am_ hi313_0; have HC313_0 := am_ hl313_0; clear hi313_0 hl313_0; replace p313 := eq_true p313; replace q313 := eq_true q313) | (go_at_call 37; (with_reducible refine (spec_l5Total.calls k1 _ _ (rd_L2 l0 0) t314 _ ?side1 ?side2 A8.out).mono ?_); (case side1 => repeat (first | exact HR313_0.out | (with_reducible refine ca_ ?_ _) | (with_reducible refine cn_ ?_ _) | (with_reducible refine cd_ ?_))); (case side2 => exact HC313_0.out); rintro e w' ⟨rfl, ⟨nd, rfl⟩⟩; (try first | exact ⟨rfl, _, World.drewN_drewN _ _ _⟩ | exact ⟨rfl, _, Eq.trans (World.drewN_drewN _ _ _) (congrArg (World.drewN _) (Nat.add_assoc _ _ _))⟩)))
                repeat (go_quiet (first | (go_at_call 36; (with_reducible refine (spec_l5Good.calls k1 _ _ (rd_L2 l0 x3_1) true _ ?side1 ?side2 A4.out).mono ?_); (case side1 => repeat (first | exact HR309_0.out | (with_reducible refine ca_ ?_ _) | (with_reducible refine cn_ ?_ _) | (with_reducible refine cd_ ?_))); (case side2 => exact HC309_0.out); rintro e w' ⟨rfl, ⟨nd, rfl⟩⟩; (try first | exact ⟨rfl, _, World.drewN_drewN _ _ _⟩ | exact ⟨rfl, _, Eq.trans (World.drewN_drewN _ _ _) (congrArg (World.drewN _) (Nat.add_assoc _ _ _))⟩); have p311 : 0 ≤ (x3_1 : Int) := of_decide_eq_true (by first | (with_reducible assumption) | assumption); have q311 : x3_1 < (l0.length : Int) := of_decide_eq_true (by first | (with_reducible assumption) | assumption); obtain ⟨ad311, A311_0, c311_0, e311, hx311_0, hl311_0, hi311_0⟩ := at_L2 HR0.out x3_1 p311 q311; obtain rfl : ad309 = ad311 := (by injection e311); have HR311_0 := am_ hi311_0; have HC311_0 := am_ hl311_0; clear hi311_0 hl311_0; replace p311 := eq_true p311; replace q311 := eq_true q311; have ea_ := Option.some.inj (hx309_0.symm.trans hx311_0); injection ea_ with ea_ en_ ec_; subst ea_; subst ec_; clear en_) | (go_at_call 37; (with_reducible refine (spec_l5Total.calls k1 _ _ (rd_L2 l0 x3_1) t312 _ ?side1 ?side2 A6.out).mono ?_); (case side1 => repeat (first | exact HR311_0.out | (with_reducible refine ca_ ?_ _) | (with_reducible refine cn_ ?_ _) | (with_reducible refine cd_ ?_))); (case side2 => exact HC311_0.out); rintro e w' ⟨rfl, ⟨nd, rfl⟩⟩; (try first | exact ⟨rfl, _, World.drewN_drewN _ _ _⟩ | exact ⟨rfl, _, Eq.trans (World.drewN_drewN _ _ _) (congrArg (World.drewN _) (Nat.add_assoc _ _ _))⟩); have p313 : 0 ≤ (0 : Int) := (by omega); have q313 : 0 < (l0.length : Int) := of_decide_eq_true (by first | (with_reducible assumption) | assumption); obtain ⟨ad313, A313_0, c313_0, e313, hx313_0, hl313_0, hi313_0⟩ := at_L2 HR0.out 0 p313 q313; obtain rfl : ad309 = ad313 := (by injection e313); have qi313 : (0 < l0.length) = True := eq_true (by omega); (try rw [show ((0 : Int)).toNat = 0 from rfl] at hx313_0); (try rw [Addr.add_zero'] at hx313_0); have HR313_0 := am_ hi313_0; have HC313_0 := am_ hl313_0; clear hi313_0 hl313_0; replace p313 := eq_true p313; replace q313 := eq_true q313) | (go_at_call 37; (with_reducible refine (spec_l5Total.calls k1 _ _ (rd_L2 l0 0) t314 _ ?side1 ?side2 A8.out).mono ?_); (case side1 => repeat (first | exact HR313_0.out | (with_reducible refine ca_ ?_ _) | (with_reducible refine cn_ ?_ _) | (with_reducible refine cd_ ?_))); (case side2 => exact HC313_0.out); rintro e w' ⟨rfl, ⟨nd, rfl⟩⟩; (try first | exact ⟨rfl, _, World.drewN_drewN _ _ _⟩ | exact ⟨rfl, _, Eq.trans (World.drewN_drewN _ _ _) (congrArg (World.drewN _) (Nat.add_assoc _ _ _))⟩))); try go_wp2_with (first | (go_at_call 36; (with_reducible refine (spec_l5Good.calls k1 _ _ (rd_L2 l0 x3_1) true _ ?side1 ?side2 A4.out).mono ?_); (case side1 => repeat (first | exact HR309_0.out | (with_reducible refine ca_ ?_ _) | (with_reducible refine cn_ ?_ _) | (with_reducible refine cd_ ?_))); (case side2 => exact HC309_0.out); rintro e w' ⟨rfl, ⟨nd, rfl⟩⟩; (try first | exact ⟨rfl, _, World.drewN_drewN _ _ _⟩ | exact ⟨rfl, _, Eq.trans (World.drewN_drewN _ _ _) (congrArg (World.drewN _) (Nat.add_assoc _ _ _))⟩); have p311 : 0 ≤ (x3_1 : Int) := of_decide_eq_true (by first | (with_reducible assumption) | assumption); have q311 : x3_1 < (l0.length : Int) := of_decide_eq_true (by first | (with_reducible assumption) | assumption); obtain ⟨ad311, A311_0, c311_0, e311, hx311_0, hl311_0, hi311_0⟩ := at_L2 HR0.out x3_1 p311 q311; obtain rfl : ad309 = ad311 := (by injection e311); have HR311_0 := am_ hi311_0; have HC311_0 := am_ hl311_0; clear hi311_0 hl311_0; replace p311 := eq_true p311; replace q311 := eq_true q311; have ea_ := Option.some.inj (hx309_0.symm.trans hx311_0); injection ea_ with ea_ en_ ec_; subst ea_; subst ec_; clear en_) | (go_at_call 37; (with_reducible refine (spec_l5Total.calls k1 _ _ (rd_L2 l0 x3_1) t312 _ ?side1 ?side2 A6.out).mono ?_); (case side1 => repeat (first | exact HR311_0.out | (with_reducible refine ca_ ?_ _) | (with_reducible refine cn_ ?_ _) | (with_reducible refine cd_ ?_))); (case side2 => exact HC311_0.out); rintro e w' ⟨rfl, ⟨nd, rfl⟩⟩; (try first | exact ⟨rfl, _, World.drewN_drewN _ _ _⟩ | exact ⟨rfl, _, Eq.trans (World.drewN_drewN _ _ _) (congrArg (World.drewN _) (Nat.add_assoc _ _ _))⟩); have p313 : 0 ≤ (0 : Int) := (by omega); have q313 : 0 < (l0.length : Int) := of_decide_eq_true (by first | (with_reducible assumption) | assumption); obtain ⟨ad313, A313_0, c313_0, e313, hx313_0, hl313_0, hi313_0⟩ := at_L2 HR0.out 0 p313 q313; obtain rfl : ad309 = ad313 := (by injection e313); have qi313 : (0 < l0.length) = True := eq_true (by omega); (try rw [show ((0 : Int)).toNat = 0 from rfl] at hx313_0); (try rw [Addr.add_zero'] at hx313_0); have HR313_0 := am_ hi313_0; have HC313_0 := am_ hl313_0; clear hi313_0 hl313_0; replace p313 := eq_true p313; replace q313 := eq_true q313) | (go_at_call 37; (with_reducible refine (spec_l5Total.calls k1 _ _ (rd_L2 l0 0) t314 _ ?side1 ?side2 A8.out).mono ?_); (case side1 => repeat (first | exact HR313_0.out | (with_reducible refine ca_ ?_ _) | (with_reducible refine cn_ ?_ _) | (with_reducible refine cd_ ?_))); (case side2 => exact HC313_0.out); rintro e w' ⟨rfl, ⟨nd, rfl⟩⟩; (try first | exact ⟨rfl, _, World.drewN_drewN _ _ _⟩ | exact ⟨rfl, _, Eq.trans (World.drewN_drewN _ _ _) (congrArg (World.drewN _) (Nat.add_assoc _ _ _))⟩))))
                go_ret
                exact ⟨by first | rfl | (simp; done) | (simp [*]; done), by repeat (first | exact Drawn0.refl _ | apply Drawn0.step)⟩
            · rw [if_neg c7] at H
              exact absurd H (by simp)
          · replace c5 := Bool.eq_false_iff.mpr c5
            subst c5
            have H1 : (some false) = some r := by rw [if_neg (show ¬ (false = true) by decide)] at H; exact H
            clear H
            have H := H1
            clear H1
            obtain rfl := Option.some.inj H
            have p309 : 0 ≤ (x3_1 : Int) := of_decide_eq_true (by first | (with_reducible assumption) | assumption)
            have q309 : x3_1 < (l0.length : Int) := of_decide_eq_true (by first | (with_reducible assumption) | assumption)
            obtain ⟨ad309, A309_0, c309_0, e309, hx309_0, hl309_0, hi309_0⟩ := at_L2 HR0.out x3_1 p309 q309
            cases e309
            have HR309_0 := am_ hi309_0
            have HC309_0 := am_ hl309_0
            clear hi309_0 hl309_0
            replace p309 := eq_true p309
            replace q309 := eq_true q309
            go_wp2_with (first | (go_at_call 36; (with_reducible refine (spec_l5Good.calls k1 _ _ (rd_L2 l0 x3_1) false _ ?side1 ?side2 A4.out).mono ?_); (case side1 => repeat (first | exact HR309_0.out | (with_reducible refine ca_ ?_ _) | (with_reducible refine cn_ ?_ _) | (with_reducible refine cd_ ?_))); (case side2 => exact HC309_0.out); rintro e w' ⟨rfl, ⟨nd, rfl⟩⟩; (try first | exact ⟨rfl, _, World.drewN_drewN _ _ _⟩ | exact ⟨rfl, _, Eq.trans (World.drewN_drewN _ _ _) (congrArg (World.drewN _) (Nat.add_assoc _ _ _))⟩)))
            repeat (go_quiet (first | (go_at_call 36; (with_reducible refine (spec_l5Good.calls k1 _ _ (rd_L2 l0 x3_1) false _ ?side1 ?side2 A4.out).mono ?_); (case side1 => repeat (first | exact HR309_0.out | (with_reducible refine ca_ ?_ _) | (with_reducible refine cn_ ?_ _) | (with_reducible refine cd_ ?_))); (case side2 => exact HC309_0.out); rintro e w' ⟨rfl, ⟨nd, rfl⟩⟩; (try first | exact ⟨rfl, _, World.drewN_drewN _ _ _⟩ | exact ⟨rfl, _, Eq.trans (World.drewN_drewN _ _ _) (congrArg (World.drewN _) (Nat.add_assoc _ _ _))⟩))); try go_wp2_with (first | (go_at_call 36; (with_reducible refine (spec_l5Good.calls k1 _ _ (rd_L2 l0 x3_1) false _ ?side1 ?side2 A4.out).mono ?_); (case side1 => repeat (first | exact HR309_0.out | (with_reducible refine ca_ ?_ _) | (with_reducible refine cn_ ?_ _) | (with_reducible refine cd_ ?_))); (case side2 => exact HC309_0.out); rintro e w' ⟨rfl, ⟨nd, rfl⟩⟩; (try first | exact ⟨rfl, _, World.drewN_drewN _ _ _⟩ | exact ⟨rfl, _, Eq.trans (World.drewN_drewN _ _ _) (congrArg (World.drewN _) (Nat.add_assoc _ _ _))⟩))))
            go_ret
            exact ⟨by first | rfl | (simp; done) | (simp [*]; done), by repeat (first | exact Drawn0.refl _ | apply Drawn0.step)⟩
        · rw [if_neg c3] at H
          exact absurd H (by simp)
      · rw [if_neg c2] at H
        have c2b0 : decide (x3_1 < (l0.length : Int)) = false := decide_eq_false c2
        clear c2
        replace H := Option.bind_eq_some_iff.mp H
        obtain ⟨t308, A100, H⟩ := H
        replace H : (some t308) = some r := H
        have A10 := am_ A100
        clear A100
        obtain rfl := Option.some.inj H
        go_wp2_with (first | (go_at_call 29; (with_reducible refine (spec_l1In.calls (l0.length : Int) 1 3 t308 _ A10.out).mono ?_); rintro e w' ⟨rfl, ⟨nd, rfl⟩⟩; (try first | exact ⟨rfl, _, World.drewN_drewN _ _ _⟩ | exact ⟨rfl, _, Eq.trans (World.drewN_drewN _ _ _) (congrArg (World.drewN _) (Nat.add_assoc _ _ _))⟩)))
        repeat (go_quiet (first | (go_at_call 29; (with_reducible refine (spec_l1In.calls (l0.length : Int) 1 3 t308 _ A10.out).mono ?_); rintro e w' ⟨rfl, ⟨nd, rfl⟩⟩; (try first | exact ⟨rfl, _, World.drewN_drewN _ _ _⟩ | exact ⟨rfl, _, Eq.trans (World.drewN_drewN _ _ _) (congrArg (World.drewN _) (Nat.add_assoc _ _ _))⟩))); try go_wp2_with (first | (go_at_call 29; (with_reducible refine (spec_l1In.calls (l0.length : Int) 1 3 t308 _ A10.out).mono ?_); rintro e w' ⟨rfl, ⟨nd, rfl⟩⟩; (try first | exact ⟨rfl, _, World.drewN_drewN _ _ _⟩ | exact ⟨rfl, _, Eq.trans (World.drewN_drewN _ _ _) (congrArg (World.drewN _) (Nat.add_assoc _ _ _))⟩))))
        go_ret
        exact ⟨by first | rfl | (simp; done) | (simp [*]; done), by repeat (first | exact Drawn0.refl _ | apply Drawn0.step)⟩

/-! ### spec_l5Charges: function 27 -/
def spec_l5Charges.f (a0 : Int) (a1 : Int) : Option (Bool) := (spec_l1In.f a0 0 20).bind fun t315 => (if t315 = true then ((spec_l1In.f a1 0 20).bind fun t316 => (some t316)) else (some false))
set_option maxHeartbeats 8000000 in
set_option maxRecDepth 100000 in
theorem spec_l5Charges.calls (a0 : Int) (a1 : Int) (r : Bool) (w : World) (h : spec_l5Charges.f a0 a1 = some r) :
    Calls Try.prog 27 #[.int .i64 a0, .int .i64 a1] w fun e w' => e = .returned (.bool r) ∧ Drawn0 w w' := by
  have H : ((spec_l1In.f a0 0 20).bind fun t315 => (if t315 = true then ((spec_l1In.f a1 0 20).bind fun t316 => (some t316)) else (some false))) = some r := h
  clear h
  replace H := Option.bind_eq_some_iff.mp H
  obtain ⟨t315, A30, H⟩ := H
  replace H : (if t315 = true then ((spec_l1In.f a1 0 20).bind fun t316 => (some t316)) else (some false)) = some r := H
  have A3 := am_ A30
  clear A30
  by_cases c4 : t315 = true
  · subst c4
    have H1 : ((spec_l1In.f a1 0 20).bind fun t316 => (some t316)) = some r := by rw [if_pos rfl] at H; exact H
    clear H
    have H := H1
    clear H1
    replace H := Option.bind_eq_some_iff.mp H
    obtain ⟨t316, A50, H⟩ := H
    replace H : (some t316) = some r := H
    have A5 := am_ A50
    clear A50
    obtain rfl := Option.some.inj H
    go_enter Try.func27, Try.ntmps27
    go_wp2_with (first | ((with_reducible refine gc_ (f := 29) rfl ?_); refine goesL_ (some 6) rfl rfl Try.func29 (by kernel_rfl) rfl #[.int .i64 a0, .int .i64 0, .int .i64 20] rfl (by (try simp only [List.map_toArray, List.map_cons, List.map_nil]); first | done | rfl | (simp only [List.length_drop, List.length_take]; rfl)) ?_; (with_reducible refine (spec_l1In.calls a0 0 20 true _ A3.out).mono ?_); rintro e w' ⟨rfl, ⟨nd, rfl⟩⟩; refine ⟨_, rfl, ?_⟩) | (go_at_call 29; (with_reducible refine (spec_l1In.calls a1 0 20 t316 _ A5.out).mono ?_); rintro e w' ⟨rfl, ⟨nd, rfl⟩⟩))
    go_ret
    exact ⟨by first | rfl | (simp; done) | (simp [*]; done), by repeat (first | exact Drawn0.refl _ | apply Drawn0.step)⟩
  · replace c4 := Bool.eq_false_iff.mpr c4
    subst c4
    have H1 : (some false) = some r := by rw [if_neg (show ¬ (false = true) by decide)] at H; exact H
    clear H
    have H := H1
    clear H1
    obtain rfl := Option.some.inj H
    go_enter Try.func27, Try.ntmps27
    go_wp2_with (first | ((with_reducible refine gc_ (f := 29) rfl ?_); refine goesL_ (some 6) rfl rfl Try.func29 (by kernel_rfl) rfl #[.int .i64 a0, .int .i64 0, .int .i64 20] rfl (by (try simp only [List.map_toArray, List.map_cons, List.map_nil]); first | done | rfl | (simp only [List.length_drop, List.length_take]; rfl)) ?_; (with_reducible refine (spec_l1In.calls a0 0 20 false _ A3.out).mono ?_); rintro e w' ⟨rfl, ⟨nd, rfl⟩⟩; refine ⟨_, rfl, ?_⟩))
    go_ret
    exact ⟨by first | rfl | (simp; done) | (simp [*]; done), by repeat (first | exact Drawn0.refl _ | apply Drawn0.step)⟩

/-! ### spec_l5Over: function 45 -/
def spec_l5Over.l0 : Nat → List Int → Int → Int → Int → Option (Int)
  | 0, _, _, _, _ => none
  | k + 1, x0, x1, x5, x6 => if x6 < (x0.length : Int) then (if 0 ≤ x6 then ((spec_l1Most.f 0 (wrap64 (x1 - x6))).bind fun t318 => (spec_l5Over.l0 k x0 x1 (wrap64 (x5 + (wrap64 ((rd x0 x6) * t318)))) (wrap64 (x6 + 1)))) else (none)) else (some x5)
def spec_l5Over.f (k : Nat) (l0 : List Int) (a1 : Int) : Option (Int) := spec_l5Over.l0 k l0 a1 0 0
theorem spec_l5Over.mono_l : ∀ k, (∀ y0 y1 y2 y3, LeO (spec_l5Over.l0 k y0 y1 y2 y3) (spec_l5Over.l0 (k + 1) y0 y1 y2 y3))
  | 0 => fun _ _ _ _ r h => by simp [spec_l5Over.l0] at h
  | k + 1 => by
    have ih0 := spec_l5Over.mono_l k
    · intro y0 y1 y2 y3
      unfold spec_l5Over.l0
      repeat' first
      | (with_reducible exact ih0 _ _ _ _)
      | (with_reducible exact LeO.refl _)
      | (with_reducible exact LeO.none _)
      | (with_reducible refine LeO.ite ?_ ?_)
      | (with_reducible refine LeO.bind ?_ (fun _ => ?_))
      | exact ih0 _ _ _ _
      | exact LeO.none _
      | refine LeO.ite ?_ ?_
      | refine LeO.bind ?_ (fun _ => ?_)
theorem spec_l5Over.mono : ∀ a0 a1 k, LeO (spec_l5Over.f k a0 a1) (spec_l5Over.f (k + 1) a0 a1) := by
  intro a0 a1 k
  have ih0 := spec_l5Over.mono_l k
  unfold spec_l5Over.f
  repeat' first
      | (with_reducible exact ih0 _ _ _ _)
      | (with_reducible exact LeO.refl _)
      | (with_reducible exact LeO.none _)
      | (with_reducible refine LeO.ite ?_ ?_)
      | (with_reducible refine LeO.bind ?_ (fun _ => ?_))
      | exact ih0 _ _ _ _
      | exact LeO.none _
      | refine LeO.ite ?_ ?_
      | refine LeO.bind ?_ (fun _ => ?_)
set_option maxHeartbeats 8000000 in
set_option maxRecDepth 100000 in
theorem spec_l5Over.calls (k : Nat) (A0 : Option Addr) (c0 : Nat) (l0 : List Int) (a1 : Int) (r : Int) (w : World) (hr0 : Kd.C (Kd.int .i64) w A0 l0.length l0) (hc0 : l0.length ≤ c0) (h : spec_l5Over.f k l0 a1 = some r) :
    Calls Try.prog 45 #[.slice A0 l0.length c0, .int .i64 a1] w fun e w' => e = .returned (.int .i64 r) ∧ Drawn0 w w' := by
  have HR0 := am_ hr0
  have HC0 := am_ hc0
  clear hr0 hc0
  have H : (spec_l5Over.l0 k l0 a1 0 0) = some r := h
  clear h
  have H' := am_ H
  clear H
  go_enter Try.func45, Try.ntmps45
  go_wp2
  repeat (go_quiet (fail); try go_wp2)
  go_loopg [5, 6] k (fun kq v5 v6 w' => ∃ (x5_1 : Int) (x6_1 : Int), v5 = .int .i64 x5_1 ∧ v6 = .int .i64 x6_1 ∧ Aside0 (spec_l5Over.l0 kq l0 a1 x5_1 x6_1 = some r) ∧ Aside0 (kq ≤ k) ∧ Drawn0 w w')
  case atStart => exact ⟨(0), (0), (by first | rfl | (simp; done) | (simp [*]; done)), (by first | rfl | (simp; done) | (simp [*]; done)), H', ⟨Nat.le_refl _⟩, by repeat (first | exact Drawn0.refl _ | apply Drawn0.step)⟩
  case round =>
    clear H'
    try clear p2
    obtain ⟨x5_1, x6_1, rfl, rfl, HA, HK1, ⟨m1, rfl⟩⟩ := hrel
    cases gk with
    | zero => exact absurd HA.out (by simp [spec_l5Over.l0])
    | succ k1 =>
      have H := HA.out
      clear HA
      simp only [spec_l5Over.l0] at H
      by_cases c3 : x6_1 < (l0.length : Int)
      · rw [if_pos c3] at H
        have c3b0 : decide (x6_1 < (l0.length : Int)) = true := decide_eq_true c3
        clear c3
        by_cases c4 : 0 ≤ x6_1
        · rw [if_pos c4] at H
          have c4b0 : decide (0 ≤ x6_1) = true := decide_eq_true c4
          clear c4
          replace H := Option.bind_eq_some_iff.mp H
          obtain ⟨t318, A50, H⟩ := H
          replace H : (spec_l5Over.l0 k1 l0 a1 (wrap64 (x5_1 + (wrap64 ((rd l0 x6_1) * t318)))) (wrap64 (x6_1 + 1))) = some r := H
          have A5 := am_ A50
          clear A50
          have H' := am_ H
          clear H
          have p317 : 0 ≤ (x6_1 : Int) := of_decide_eq_true (by first | (with_reducible assumption) | assumption)
          have q317 : x6_1 < (l0.length : Int) := of_decide_eq_true (by first | (with_reducible assumption) | assumption)
          obtain ⟨ad317, e317, hx317_0⟩ := Kd.at_int HR0.out x6_1 p317 q317
          cases e317
          replace p317 := eq_true p317
          replace q317 := eq_true q317
          go_wp2_with (first | (go_at_call 50; (with_reducible refine (spec_l1Most.calls 0 (wrap64 (a1 - x6_1)) t318 _ A5.out).mono ?_); rintro e w' ⟨rfl, ⟨nd, rfl⟩⟩; (try first | exact ⟨rfl, _, World.drewN_drewN _ _ _⟩ | exact ⟨rfl, _, Eq.trans (World.drewN_drewN _ _ _) (congrArg (World.drewN _) (Nat.add_assoc _ _ _))⟩)))
          repeat (go_quiet (first | (go_at_call 50; (with_reducible refine (spec_l1Most.calls 0 (wrap64 (a1 - x6_1)) t318 _ A5.out).mono ?_); rintro e w' ⟨rfl, ⟨nd, rfl⟩⟩; (try first | exact ⟨rfl, _, World.drewN_drewN _ _ _⟩ | exact ⟨rfl, _, Eq.trans (World.drewN_drewN _ _ _) (congrArg (World.drewN _) (Nat.add_assoc _ _ _))⟩))); try go_wp2_with (first | (go_at_call 50; (with_reducible refine (spec_l1Most.calls 0 (wrap64 (a1 - x6_1)) t318 _ A5.out).mono ?_); rintro e w' ⟨rfl, ⟨nd, rfl⟩⟩; (try first | exact ⟨rfl, _, World.drewN_drewN _ _ _⟩ | exact ⟨rfl, _, Eq.trans (World.drewN_drewN _ _ _) (congrArg (World.drewN _) (Nat.add_assoc _ _ _))⟩))))
          go_roundg k1
          case measure => have := HK1.out; omega
          case rel => exact ⟨(wrap64 (x5_1 + (wrap64 ((rd l0 x6_1) * t318)))), (wrap64 (x6_1 + 1)), (by first | rfl | (simp; done) | (simp [*]; done)), (by first | rfl | (simp; done) | (simp [*]; done)), H', ⟨by have := HK1.out; omega⟩, by repeat (first | exact Drawn0.refl _ | apply Drawn0.step)⟩
        · rw [if_neg c4] at H
          exact absurd H (by simp)
      · rw [if_neg c3] at H
        have c3b0 : decide (x6_1 < (l0.length : Int)) = false := decide_eq_false c3
        clear c3
        obtain rfl := Option.some.inj H
        go_wp2
        repeat (go_quiet (fail); try go_wp2)
        go_ret
        exact ⟨by first | rfl | (simp; done) | (simp [*]; done), by repeat (first | exact Drawn0.refl _ | apply Drawn0.step)⟩

end Go.Proofs.Ytknnnkkchfcjkaa.PFnBudgets
