-- Made by wip/xprint.py: the print of the kit, called over a changed copy of what it reads.
-- PRINTED by print.py (a twelfth state) out of the translation. Not trusted: Lean checks it.
import Derived.Test.YtknnnkkchfcjkaaXFnBudgetsx0
import Derived.Test.YtknnnkkchfcjkaaXFnBudgetsx1
import Derived.Test.YtknnnkkchfcjkaaXFnBudgetsx4
import Derived.Test.YtknnnkkchfcjkaaXFnBudgetsx5
import Derived.Test.YtknnnkkchfcjkaaXFnBudgetsx6
import Derived.Test.YtknnnkkchfcjkaaXFnBudgetsx7
import Derived.Test.YtknnnkkchfcjkaaXFnBudgetsx8
namespace Go.Proofs.Ytknnnkkchfcjkaa.PFnBudgets
open Go.RowKit Go.Proofs.YtknnnkkchfcjkaaW.PrintWords Go.Proofs.YtknnnkkchfcjkaaW.PrintLast Go.Proofs.YtknnnkkchfcjkaaW.PrintMore
open Go.Proofs.YtknnnkkchfcjkaaW.PrintWords.Aside0 renaming mk → am_
open Go.Proofs.YtknnnkkchfcjkaaW.PrintWords renaming below_drew1 → bd_, below_alloc → ba_, below_size → bz_, below_step → bp_, gate_callee → gc_
open Go.Proofs.YtknnnkkchfcjkaaW.PrintWords.Kd renaming R_alloc → ra_, R_drewN → rn_, R_drew → rd_, R_below → rb_, R_mono → rm_, R_reads' → rr_, R_slice → rs_, C_alloc → ca_, C_drewN → cn_, C_drew → cd_, S_alloc → sa_, S_drewN → sn_, S_drew → sd_, S_mono → sm_, S_reads' → sr_
attribute [local go_sem] max2_int min2_int max_two min_two max_three min_three max_four min_four   -- for this text's walks alone
set_option linter.unusedVariables false
set_option linter.unusedSimpArgs false

/-! ### laws_FnBudgets: function 3 -/
mutual
def laws_FnBudgets.j0 : Nat → List (List Int) → List Int → Int → List Int → Bool → List (List Int) → Int → Int → Int → List Int → Bool → Bool → Option (Bool)
 | 0, _, _, _, _, _, _, _, _, _, _, _, _ => none
 | k + 1, x3, x6, x7, x8, x9, x12, x13, x14, x15, x16, x17, x104 => if x104 = true then (some false) else (if x9 = true then (laws_FnBudgets.l0 k x3 x6 x7 x8 x12 x13 x14 x15 x16 x17 0 0) else (laws_FnBudgets.j2 k x12 x13 x14 x15 x16 x17))
def laws_FnBudgets.j2 : Nat → List (List Int) → Int → Int → Int → List Int → Bool → Option (Bool)
 | 0, _, _, _, _, _, _ => none
 | k + 1, x12, x13, x14, x15, x16, x17 => if x17 = true then (laws_FnBudgets.l1 k x12 x13 x14 x15 x16 (([] : List Int)) 0) else (some true)
def laws_FnBudgets.l1 : Nat → List (List Int) → Int → Int → Int → List Int → List Int → Int → Option (Bool)
 | 0, _, _, _, _, _, _, _ => none
 | k + 1, x12, x13, x14, x15, x16, x22, x23 => if x23 < (x12.length : Int) then (if x22.length < 17592186044416 then (laws_FnBudgets.l1 k x12 x13 x14 x15 x16 (x22 ++ [1]) (wrap64 (x23 + 1))) else (none)) else ((impl_BudgetOrders.f k x12 x13 x14 x22 x15).bind fun bt482 => (laws_FnBudgets.l2 k x12 x13 x14 x15 x16 bt482.1 bt482.2 0 0 0))
def laws_FnBudgets.l2 : Nat → List (List Int) → Int → Int → Int → List Int → List Int → Bool → Int → Int → Int → Option (Bool)
 | 0, _, _, _, _, _, _, _, _, _, _ => none
 | k + 1, x12, x13, x14, x15, x16, x24, x25, x26, x27, x28 => if x25 = true then (laws_FnBudgets.j5 k x12 x13 x14 x15 x16 x24 x25 x26 x27 x28 (decide (x28 < (x12.length : Int)))) else (laws_FnBudgets.j5 k x12 x13 x14 x15 x16 x24 x25 x26 x27 x28 false)
def laws_FnBudgets.j5 : Nat → List (List Int) → Int → Int → Int → List Int → List Int → Bool → Int → Int → Int → Bool → Option (Bool)
 | 0, _, _, _, _, _, _, _, _, _, _, _ => none
 | k + 1, x12, x13, x14, x15, x16, x24, x25, x26, x27, x28, x160 => if x160 = true then (if 0 ≤ x28 then (if x28 < (x12.length : Int) then (if x28 < (x16.length : Int) then ((impl_CostSum.f k (rd_L2 x12 x28) x13 x14 (rd x16 x28)).bind fun bt488 => (if x28 < (x24.length : Int) then ((impl_CostSum.f k (rd_L2 x12 x28) x13 x14 (rd x24 x28)).bind fun bt492 => (laws_FnBudgets.l2 k x12 x13 x14 x15 x16 x24 x25 (wrap64 (x26 + bt488.1)) (wrap64 (x27 + bt492.1)) (wrap64 (x28 + 1)))) else (none))) else (none)) else (none)) else (none)) else (if x25 = true then (if x26 = x27 then ((laws_vAdd.f k x16).bind fun t494 => (some (decide (t494 ≤ x15)))) else (some false)) else (some false))
def laws_FnBudgets.l0 : Nat → List (List Int) → List Int → Int → List Int → List (List Int) → Int → Int → Int → List Int → Bool → Int → Int → Option (Bool)
 | 0, _, _, _, _, _, _, _, _, _, _, _, _ => none
 | k + 1, x3, x6, x7, x8, x12, x13, x14, x15, x16, x17, x20, x21 => if x21 < (x8.length : Int) then (if 0 ≤ x21 then (if x21 < (x6.length : Int) then (laws_FnBudgets.l0 k x3 x6 x7 x8 x12 x13 x14 x15 x16 x17 (wrap64 (x20 + (wrap64 ((rd x6 x21) * (rd x8 x21))))) (wrap64 (x21 + 1))) else (none)) else (none)) else (if x20 > x7 then (some false) else (if (x8.length : Int) = (x3.length : Int) then (laws_FnBudgets.j2 k x12 x13 x14 x15 x16 x17) else (some false)))
end
def laws_FnBudgets.f (k : Nat) (l0 : List Int) : Option (Bool) := (laws_vBig.f l0).bind fun t437 => (if t437 = true then (some true) else ((spec_DrawBudgetOrders.f k l0).bind fun bt438 => ((impl_BudgetOrders.f k bt438.1 bt438.2.1 bt438.2.2.1 bt438.2.2.2.1 bt438.2.2.2.2).bind fun bt447 => ((spec_BudgetOrders.f k bt438.1 bt438.2.1 bt438.2.2.1 bt438.2.2.2.1 bt438.2.2.2.2).bind fun bt451 => ((laws_vCut.f l0 1).bind fun t455 => ((spec_DrawStepOrders.f k t455).bind fun bt458 => ((impl_StepOrders.f k bt458.1 bt458.2.1 bt458.2.2.1 bt458.2.2.2).bind fun bt464 => ((spec_StepOrders.f k bt458.1 bt458.2.1 bt458.2.2.1 bt458.2.2.2).bind fun bt468 => (if (bt447.2 != bt451.2) = true then (laws_FnBudgets.j0 k bt438.1 bt438.2.2.2.1 bt438.2.2.2.2 bt447.1 bt447.2 bt458.1 bt458.2.1 bt458.2.2.1 bt458.2.2.2 bt464.1 bt464.2 true) else ((laws_vInts.f k bt447.1 bt451.1).bind fun t472 => (if t472 = true then (if (bt464.2 != bt468.2) = true then (laws_FnBudgets.j0 k bt438.1 bt438.2.2.2.1 bt438.2.2.2.2 bt447.1 bt447.2 bt458.1 bt458.2.1 bt458.2.2.1 bt458.2.2.2 bt464.1 bt464.2 true) else ((laws_vInts.f k bt464.1 bt468.1).bind fun t473 => (laws_FnBudgets.j0 k bt438.1 bt438.2.2.2.1 bt438.2.2.2.2 bt447.1 bt447.2 bt458.1 bt458.2.1 bt458.2.2.1 bt458.2.2.2 bt464.1 bt464.2 (!t473)))) else (laws_FnBudgets.j0 k bt438.1 bt438.2.2.2.1 bt438.2.2.2.2 bt447.1 bt447.2 bt458.1 bt458.2.1 bt458.2.2.1 bt458.2.2.2 bt464.1 bt464.2 true))))))))))))
theorem laws_FnBudgets.mono_l : ∀ k, (∀ y0 y1 y2 y3 y4 y5 y6 y7 y8 y9 y10 y11, LeO (laws_FnBudgets.j0 k y0 y1 y2 y3 y4 y5 y6 y7 y8 y9 y10 y11) (laws_FnBudgets.j0 (k + 1) y0 y1 y2 y3 y4 y5 y6 y7 y8 y9 y10 y11)) ∧ (∀ y0 y1 y2 y3 y4 y5, LeO (laws_FnBudgets.j2 k y0 y1 y2 y3 y4 y5) (laws_FnBudgets.j2 (k + 1) y0 y1 y2 y3 y4 y5)) ∧ (∀ y0 y1 y2 y3 y4 y5 y6, LeO (laws_FnBudgets.l1 k y0 y1 y2 y3 y4 y5 y6) (laws_FnBudgets.l1 (k + 1) y0 y1 y2 y3 y4 y5 y6)) ∧ (∀ y0 y1 y2 y3 y4 y5 y6 y7 y8 y9, LeO (laws_FnBudgets.l2 k y0 y1 y2 y3 y4 y5 y6 y7 y8 y9) (laws_FnBudgets.l2 (k + 1) y0 y1 y2 y3 y4 y5 y6 y7 y8 y9)) ∧ (∀ y0 y1 y2 y3 y4 y5 y6 y7 y8 y9 y10, LeO (laws_FnBudgets.j5 k y0 y1 y2 y3 y4 y5 y6 y7 y8 y9 y10) (laws_FnBudgets.j5 (k + 1) y0 y1 y2 y3 y4 y5 y6 y7 y8 y9 y10)) ∧ (∀ y0 y1 y2 y3 y4 y5 y6 y7 y8 y9 y10 y11, LeO (laws_FnBudgets.l0 k y0 y1 y2 y3 y4 y5 y6 y7 y8 y9 y10 y11) (laws_FnBudgets.l0 (k + 1) y0 y1 y2 y3 y4 y5 y6 y7 y8 y9 y10 y11))
 | 0 => ⟨fun _ _ _ _ _ _ _ _ _ _ _ _ r h => by simp [laws_FnBudgets.j0] at h, fun _ _ _ _ _ _ r h => by simp [laws_FnBudgets.j2] at h, fun _ _ _ _ _ _ _ r h => by simp [laws_FnBudgets.l1] at h, fun _ _ _ _ _ _ _ _ _ _ r h => by simp [laws_FnBudgets.l2] at h, fun _ _ _ _ _ _ _ _ _ _ _ r h => by simp [laws_FnBudgets.j5] at h, fun _ _ _ _ _ _ _ _ _ _ _ _ r h => by simp [laws_FnBudgets.l0] at h⟩
 | k + 1 => by
  obtain ⟨ih0, ih1, ih2, ih3, ih4, ih5⟩ := laws_FnBudgets.mono_l k
  refine ⟨?_, ?_, ?_, ?_, ?_, ?_⟩
  ·
   intro y0 y1 y2 y3 y4 y5 y6 y7 y8 y9 y10 y11
   unfold laws_FnBudgets.j0
   repeat' first
   | (with_reducible exact ih0 _ _ _ _ _ _ _ _ _ _ _ _)
   | (with_reducible exact ih1 _ _ _ _ _ _)
   | (with_reducible exact ih2 _ _ _ _ _ _ _)
   | (with_reducible exact ih3 _ _ _ _ _ _ _ _ _ _)
   | (with_reducible exact ih4 _ _ _ _ _ _ _ _ _ _ _)
   | (with_reducible exact ih5 _ _ _ _ _ _ _ _ _ _ _ _)
   | (with_reducible exact impl_BudgetOrders.mono _ _ _ _ _ _)
   | (with_reducible exact impl_CostSum.mono _ _ _ _ _)
   | (with_reducible exact impl_StepOrders.mono _ _ _ _ _)
   | (with_reducible exact laws_vAdd.mono _ _)
   | (with_reducible exact laws_vInts.mono _ _ _)
   | (with_reducible exact spec_BudgetOrders.mono _ _ _ _ _ _)
   | (with_reducible exact spec_DrawBudgetOrders.mono _ _)
   | (with_reducible exact spec_DrawStepOrders.mono _ _)
   | (with_reducible exact spec_StepOrders.mono _ _ _ _ _)
   | (with_reducible exact LeO.refl _)
   | (with_reducible exact LeO.none _)
   | (with_reducible refine LeO.ite ?_ ?_)
   | (with_reducible refine LeO.bind ?_ (fun _ => ?_))
   | exact ih0 _ _ _ _ _ _ _ _ _ _ _ _
   | exact ih1 _ _ _ _ _ _
   | exact ih2 _ _ _ _ _ _ _
   | exact ih3 _ _ _ _ _ _ _ _ _ _
   | exact ih4 _ _ _ _ _ _ _ _ _ _ _
   | exact ih5 _ _ _ _ _ _ _ _ _ _ _ _
   | exact impl_BudgetOrders.mono _ _ _ _ _ _
   | exact impl_CostSum.mono _ _ _ _ _
   | exact impl_StepOrders.mono _ _ _ _ _
   | exact laws_vAdd.mono _ _
   | exact laws_vInts.mono _ _ _
   | exact spec_BudgetOrders.mono _ _ _ _ _ _
   | exact spec_DrawBudgetOrders.mono _ _
   | exact spec_DrawStepOrders.mono _ _
   | exact spec_StepOrders.mono _ _ _ _ _
   | exact LeO.none _
   | refine LeO.ite ?_ ?_
   | refine LeO.bind ?_ (fun _ => ?_)
  ·
   intro y0 y1 y2 y3 y4 y5
   unfold laws_FnBudgets.j2
   repeat' first
   | (with_reducible exact ih0 _ _ _ _ _ _ _ _ _ _ _ _)
   | (with_reducible exact ih1 _ _ _ _ _ _)
   | (with_reducible exact ih2 _ _ _ _ _ _ _)
   | (with_reducible exact ih3 _ _ _ _ _ _ _ _ _ _)
   | (with_reducible exact ih4 _ _ _ _ _ _ _ _ _ _ _)
   | (with_reducible exact ih5 _ _ _ _ _ _ _ _ _ _ _ _)
   | (with_reducible exact impl_BudgetOrders.mono _ _ _ _ _ _)
   | (with_reducible exact impl_CostSum.mono _ _ _ _ _)
   | (with_reducible exact impl_StepOrders.mono _ _ _ _ _)
   | (with_reducible exact laws_vAdd.mono _ _)
   | (with_reducible exact laws_vInts.mono _ _ _)
   | (with_reducible exact spec_BudgetOrders.mono _ _ _ _ _ _)
   | (with_reducible exact spec_DrawBudgetOrders.mono _ _)
   | (with_reducible exact spec_DrawStepOrders.mono _ _)
   | (with_reducible exact spec_StepOrders.mono _ _ _ _ _)
   | (with_reducible exact LeO.refl _)
   | (with_reducible exact LeO.none _)
   | (with_reducible refine LeO.ite ?_ ?_)
   | (with_reducible refine LeO.bind ?_ (fun _ => ?_))
   | exact ih0 _ _ _ _ _ _ _ _ _ _ _ _
   | exact ih1 _ _ _ _ _ _
   | exact ih2 _ _ _ _ _ _ _
   | exact ih3 _ _ _ _ _ _ _ _ _ _
   | exact ih4 _ _ _ _ _ _ _ _ _ _ _
   | exact ih5 _ _ _ _ _ _ _ _ _ _ _ _
   | exact impl_BudgetOrders.mono _ _ _ _ _ _
   | exact impl_CostSum.mono _ _ _ _ _
   | exact impl_StepOrders.mono _ _ _ _ _
   | exact laws_vAdd.mono _ _
   | exact laws_vInts.mono _ _ _
   | exact spec_BudgetOrders.mono _ _ _ _ _ _
   | exact spec_DrawBudgetOrders.mono _ _
   | exact spec_DrawStepOrders.mono _ _
   | exact spec_StepOrders.mono _ _ _ _ _
   | exact LeO.none _
   | refine LeO.ite ?_ ?_
   | refine LeO.bind ?_ (fun _ => ?_)
  ·
   intro y0 y1 y2 y3 y4 y5 y6
   unfold laws_FnBudgets.l1
   repeat' first
   | (with_reducible exact ih0 _ _ _ _ _ _ _ _ _ _ _ _)
   | (with_reducible exact ih1 _ _ _ _ _ _)
   | (with_reducible exact ih2 _ _ _ _ _ _ _)
   | (with_reducible exact ih3 _ _ _ _ _ _ _ _ _ _)
   | (with_reducible exact ih4 _ _ _ _ _ _ _ _ _ _ _)
   | (with_reducible exact ih5 _ _ _ _ _ _ _ _ _ _ _ _)
   | (with_reducible exact impl_BudgetOrders.mono _ _ _ _ _ _)
   | (with_reducible exact impl_CostSum.mono _ _ _ _ _)
   | (with_reducible exact impl_StepOrders.mono _ _ _ _ _)
   | (with_reducible exact laws_vAdd.mono _ _)
   | (with_reducible exact laws_vInts.mono _ _ _)
   | (with_reducible exact spec_BudgetOrders.mono _ _ _ _ _ _)
   | (with_reducible exact spec_DrawBudgetOrders.mono _ _)
   | (with_reducible exact spec_DrawStepOrders.mono _ _)
   | (with_reducible exact spec_StepOrders.mono _ _ _ _ _)
   | (with_reducible exact LeO.refl _)
   | (with_reducible exact LeO.none _)
   | (with_reducible refine LeO.ite ?_ ?_)
   | (with_reducible refine LeO.bind ?_ (fun _ => ?_))
   | exact ih0 _ _ _ _ _ _ _ _ _ _ _ _
   | exact ih1 _ _ _ _ _ _
   | exact ih2 _ _ _ _ _ _ _
   | exact ih3 _ _ _ _ _ _ _ _ _ _
   | exact ih4 _ _ _ _ _ _ _ _ _ _ _
   | exact ih5 _ _ _ _ _ _ _ _ _ _ _ _
   | exact impl_BudgetOrders.mono _ _ _ _ _ _
   | exact impl_CostSum.mono _ _ _ _ _
   | exact impl_StepOrders.mono _ _ _ _ _
   | exact laws_vAdd.mono _ _
   | exact laws_vInts.mono _ _ _
   | exact spec_BudgetOrders.mono _ _ _ _ _ _
   | exact spec_DrawBudgetOrders.mono _ _
   | exact spec_DrawStepOrders.mono _ _
   | exact spec_StepOrders.mono _ _ _ _ _
   | exact LeO.none _
   | refine LeO.ite ?_ ?_
   | refine LeO.bind ?_ (fun _ => ?_)
  ·
   intro y0 y1 y2 y3 y4 y5 y6 y7 y8 y9
   unfold laws_FnBudgets.l2
   repeat' first
   | (with_reducible exact ih0 _ _ _ _ _ _ _ _ _ _ _ _)
   | (with_reducible exact ih1 _ _ _ _ _ _)
   | (with_reducible exact ih2 _ _ _ _ _ _ _)
   | (with_reducible exact ih3 _ _ _ _ _ _ _ _ _ _)
   | (with_reducible exact ih4 _ _ _ _ _ _ _ _ _ _ _)
   | (with_reducible exact ih5 _ _ _ _ _ _ _ _ _ _ _ _)
   | (with_reducible exact impl_BudgetOrders.mono _ _ _ _ _ _)
   | (with_reducible exact impl_CostSum.mono _ _ _ _ _)
   | (with_reducible exact impl_StepOrders.mono _ _ _ _ _)
   | (with_reducible exact laws_vAdd.mono _ _)
   | (with_reducible exact laws_vInts.mono _ _ _)
   | (with_reducible exact spec_BudgetOrders.mono _ _ _ _ _ _)
   | (with_reducible exact spec_DrawBudgetOrders.mono _ _)
   | (with_reducible exact spec_DrawStepOrders.mono _ _)
   | (with_reducible exact spec_StepOrders.mono _ _ _ _ _)
   | (with_reducible exact LeO.refl _)
   | (with_reducible exact LeO.none _)
   | (with_reducible refine LeO.ite ?_ ?_)
   | (with_reducible refine LeO.bind ?_ (fun _ => ?_))
   | exact ih0 _ _ _ _ _ _ _ _ _ _ _ _
   | exact ih1 _ _ _ _ _ _
   | exact ih2 _ _ _ _ _ _ _
   | exact ih3 _ _ _ _ _ _ _ _ _ _
   | exact ih4 _ _ _ _ _ _ _ _ _ _ _
   | exact ih5 _ _ _ _ _ _ _ _ _ _ _ _
   | exact impl_BudgetOrders.mono _ _ _ _ _ _
   | exact impl_CostSum.mono _ _ _ _ _
   | exact impl_StepOrders.mono _ _ _ _ _
   | exact laws_vAdd.mono _ _
   | exact laws_vInts.mono _ _ _
   | exact spec_BudgetOrders.mono _ _ _ _ _ _
   | exact spec_DrawBudgetOrders.mono _ _
   | exact spec_DrawStepOrders.mono _ _
   | exact spec_StepOrders.mono _ _ _ _ _
   | exact LeO.none _
   | refine LeO.ite ?_ ?_
   | refine LeO.bind ?_ (fun _ => ?_)
  ·
   intro y0 y1 y2 y3 y4 y5 y6 y7 y8 y9 y10
   unfold laws_FnBudgets.j5
   repeat' first
   | (with_reducible exact ih0 _ _ _ _ _ _ _ _ _ _ _ _)
   | (with_reducible exact ih1 _ _ _ _ _ _)
   | (with_reducible exact ih2 _ _ _ _ _ _ _)
   | (with_reducible exact ih3 _ _ _ _ _ _ _ _ _ _)
   | (with_reducible exact ih4 _ _ _ _ _ _ _ _ _ _ _)
   | (with_reducible exact ih5 _ _ _ _ _ _ _ _ _ _ _ _)
   | (with_reducible exact impl_BudgetOrders.mono _ _ _ _ _ _)
   | (with_reducible exact impl_CostSum.mono _ _ _ _ _)
   | (with_reducible exact impl_StepOrders.mono _ _ _ _ _)
   | (with_reducible exact laws_vAdd.mono _ _)
   | (with_reducible exact laws_vInts.mono _ _ _)
   | (with_reducible exact spec_BudgetOrders.mono _ _ _ _ _ _)
   | (with_reducible exact spec_DrawBudgetOrders.mono _ _)
   | (with_reducible exact spec_DrawStepOrders.mono _ _)
   | (with_reducible exact spec_StepOrders.mono _ _ _ _ _)
   | (with_reducible exact LeO.refl _)
   | (with_reducible exact LeO.none _)
   | (with_reducible refine LeO.ite ?_ ?_)
   | (with_reducible refine LeO.bind ?_ (fun _ => ?_))
   | exact ih0 _ _ _ _ _ _ _ _ _ _ _ _
   | exact ih1 _ _ _ _ _ _
   | exact ih2 _ _ _ _ _ _ _
   | exact ih3 _ _ _ _ _ _ _ _ _ _
   | exact ih4 _ _ _ _ _ _ _ _ _ _ _
   | exact ih5 _ _ _ _ _ _ _ _ _ _ _ _
   | exact impl_BudgetOrders.mono _ _ _ _ _ _
   | exact impl_CostSum.mono _ _ _ _ _
   | exact impl_StepOrders.mono _ _ _ _ _
   | exact laws_vAdd.mono _ _
   | exact laws_vInts.mono _ _ _
   | exact spec_BudgetOrders.mono _ _ _ _ _ _
   | exact spec_DrawBudgetOrders.mono _ _
   | exact spec_DrawStepOrders.mono _ _
   | exact spec_StepOrders.mono _ _ _ _ _
   | exact LeO.none _
   | refine LeO.ite ?_ ?_
   | refine LeO.bind ?_ (fun _ => ?_)
  ·
   intro y0 y1 y2 y3 y4 y5 y6 y7 y8 y9 y10 y11
   unfold laws_FnBudgets.l0
   repeat' first
   | (with_reducible exact ih0 _ _ _ _ _ _ _ _ _ _ _ _)
   | (with_reducible exact ih1 _ _ _ _ _ _)
   | (with_reducible exact ih2 _ _ _ _ _ _ _)
   | (with_reducible exact ih3 _ _ _ _ _ _ _ _ _ _)
   | (with_reducible exact ih4 _ _ _ _ _ _ _ _ _ _ _)
   | (with_reducible exact ih5 _ _ _ _ _ _ _ _ _ _ _ _)
   | (with_reducible exact impl_BudgetOrders.mono _ _ _ _ _ _)
   | (with_reducible exact impl_CostSum.mono _ _ _ _ _)
   | (with_reducible exact impl_StepOrders.mono _ _ _ _ _)
   | (with_reducible exact laws_vAdd.mono _ _)
   | (with_reducible exact laws_vInts.mono _ _ _)
   | (with_reducible exact spec_BudgetOrders.mono _ _ _ _ _ _)
   | (with_reducible exact spec_DrawBudgetOrders.mono _ _)
   | (with_reducible exact spec_DrawStepOrders.mono _ _)
   | (with_reducible exact spec_StepOrders.mono _ _ _ _ _)
   | (with_reducible exact LeO.refl _)
   | (with_reducible exact LeO.none _)
   | (with_reducible refine LeO.ite ?_ ?_)
   | (with_reducible refine LeO.bind ?_ (fun _ => ?_))
   | exact ih0 _ _ _ _ _ _ _ _ _ _ _ _
   | exact ih1 _ _ _ _ _ _
   | exact ih2 _ _ _ _ _ _ _
   | exact ih3 _ _ _ _ _ _ _ _ _ _
   | exact ih4 _ _ _ _ _ _ _ _ _ _ _
   | exact ih5 _ _ _ _ _ _ _ _ _ _ _ _
   | exact impl_BudgetOrders.mono _ _ _ _ _ _
   | exact impl_CostSum.mono _ _ _ _ _
   | exact impl_StepOrders.mono _ _ _ _ _
   | exact laws_vAdd.mono _ _
   | exact laws_vInts.mono _ _ _
   | exact spec_BudgetOrders.mono _ _ _ _ _ _
   | exact spec_DrawBudgetOrders.mono _ _
   | exact spec_DrawStepOrders.mono _ _
   | exact spec_StepOrders.mono _ _ _ _ _
   | exact LeO.none _
   | refine LeO.ite ?_ ?_
   | refine LeO.bind ?_ (fun _ => ?_)
theorem laws_FnBudgets.mono : ∀ a0 k, LeO (laws_FnBudgets.f k a0) (laws_FnBudgets.f (k + 1) a0) := by
 intro a0 k
 obtain ⟨ih0, ih1, ih2, ih3, ih4, ih5⟩ := laws_FnBudgets.mono_l k
 unfold laws_FnBudgets.f
 repeat' first
   | (with_reducible exact ih0 _ _ _ _ _ _ _ _ _ _ _ _)
   | (with_reducible exact ih1 _ _ _ _ _ _)
   | (with_reducible exact ih2 _ _ _ _ _ _ _)
   | (with_reducible exact ih3 _ _ _ _ _ _ _ _ _ _)
   | (with_reducible exact ih4 _ _ _ _ _ _ _ _ _ _ _)
   | (with_reducible exact ih5 _ _ _ _ _ _ _ _ _ _ _ _)
   | (with_reducible exact impl_BudgetOrders.mono _ _ _ _ _ _)
   | (with_reducible exact impl_CostSum.mono _ _ _ _ _)
   | (with_reducible exact impl_StepOrders.mono _ _ _ _ _)
   | (with_reducible exact laws_vAdd.mono _ _)
   | (with_reducible exact laws_vInts.mono _ _ _)
   | (with_reducible exact spec_BudgetOrders.mono _ _ _ _ _ _)
   | (with_reducible exact spec_DrawBudgetOrders.mono _ _)
   | (with_reducible exact spec_DrawStepOrders.mono _ _)
   | (with_reducible exact spec_StepOrders.mono _ _ _ _ _)
   | (with_reducible exact LeO.refl _)
   | (with_reducible exact LeO.none _)
   | (with_reducible refine LeO.ite ?_ ?_)
   | (with_reducible refine LeO.bind ?_ (fun _ => ?_))
   | exact ih0 _ _ _ _ _ _ _ _ _ _ _ _
   | exact ih1 _ _ _ _ _ _
   | exact ih2 _ _ _ _ _ _ _
   | exact ih3 _ _ _ _ _ _ _ _ _ _
   | exact ih4 _ _ _ _ _ _ _ _ _ _ _
   | exact ih5 _ _ _ _ _ _ _ _ _ _ _ _
   | exact impl_BudgetOrders.mono _ _ _ _ _ _
   | exact impl_CostSum.mono _ _ _ _ _
   | exact impl_StepOrders.mono _ _ _ _ _
   | exact laws_vAdd.mono _ _
   | exact laws_vInts.mono _ _ _
   | exact spec_BudgetOrders.mono _ _ _ _ _ _
   | exact spec_DrawBudgetOrders.mono _ _
   | exact spec_DrawStepOrders.mono _ _
   | exact spec_StepOrders.mono _ _ _ _ _
   | exact LeO.none _
   | refine LeO.ite ?_ ?_
   | refine LeO.bind ?_ (fun _ => ?_)
def laws_FnBudgets.T16 : Bool × List (List Nat × List Nat) := (true, [([], []), ([], []), ([], []), ([1, 2], [1, 2]), ([3], [3]), ([], []), ([], []), ([5, 6], [5, 6]), ([7], [7]), ([4, 8], [4, 8]), ([0, 9], [0, 9]), ([10, 0, 1, 2, 3, 4, 5, 6, 7, 8, 9, 10], [0, 10])])
def laws_FnBudgets.B16 : List Nat := [0, 0, 0, 6, 14, 0, 0, 96, 224, 510, 1023, 2047]
theorem laws_FnBudgets.tab16 : rtab .any (opsOf Try.f3 16) = laws_FnBudgets.T16 := by kernel_rfl
theorem laws_FnBudgets.bits16 : waitsOk laws_FnBudgets.T16.2 laws_FnBudgets.B16 = true := by kernel_rfl
def laws_FnBudgets.T31 : Bool × List (List Nat × List Nat) := (true, [([], []), ([], []), ([0, 1], [0, 1]), ([2], [2]), ([], []), ([], []), ([], []), ([], []), ([6, 7], [6, 7]), ([8], [8]), ([3, 4, 5, 9], [3, 4, 5, 9]), ([10], [10]), ([11], [11]), ([11], [11]), ([12, 10, 0, 1, 2, 3, 4, 5, 6, 7, 8, 9, 10, 11, 12], [12]), ([13, 14, 0, 1, 2, 3, 4, 5, 6, 7, 8, 9, 10, 11, 12, 13, 14], [13])])
def laws_FnBudgets.B31 : List Nat := [0, 0, 3, 7, 0, 0, 0, 0, 192, 448, 1023, 2047, 4095, 4095, 8191, 32767]
theorem laws_FnBudgets.tab31 : rtab .any (opsOf Try.f3 31) = laws_FnBudgets.T31 := by kernel_rfl
theorem laws_FnBudgets.bits31 : waitsOk laws_FnBudgets.T31.2 laws_FnBudgets.B31 = true := by kernel_rfl
def laws_FnBudgets.T32 : Bool × List (List Nat × List Nat) := (true, [([], []), ([], []), ([0, 1], [0, 1]), ([2], [2]), ([], []), ([], []), ([], []), ([], []), ([6, 7], [6, 7]), ([8], [8]), ([3, 4, 5, 9], [3, 4, 5, 9]), ([10], [10]), ([11], [11]), ([11], [11]), ([12, 10, 0, 1, 2, 3, 4, 5, 6, 7, 8, 9, 10, 11, 12], [12]), ([13, 14, 0, 1, 2, 3, 4, 5, 6, 7, 8, 9, 10, 11, 12, 13, 14], [13])])
def laws_FnBudgets.B32 : List Nat := [0, 0, 3, 7, 0, 0, 0, 0, 192, 448, 1023, 2047, 4095, 4095, 8191, 32767]
theorem laws_FnBudgets.tab32 : rtab .any (opsOf Try.f3 32) = laws_FnBudgets.T32 := by kernel_rfl
theorem laws_FnBudgets.bits32 : waitsOk laws_FnBudgets.T32.2 laws_FnBudgets.B32 = true := by kernel_rfl
set_option maxHeartbeats 8000000 in
set_option maxRecDepth 100000 in
theorem laws_FnBudgets.calls (k : Nat) (A0 : Option Addr) (c0 : Nat) (l0 : List Int) (r : Bool) (w : World) (hr0 : Kd.C (Kd.int .u8) w A0 l0.length l0) (hc0 : l0.length ≤ c0) (h : laws_FnBudgets.f k l0 = some r) :
  Calls Try.prog 3 #[.slice A0 l0.length c0] w fun e w' => e = .returned (.bool r) ∧ Below w.heap.size w w' := by
 have HR0 := am_ hr0
 have HC0 := am_ hc0
 clear hr0 hc0
 have HB := am_ (Below.refl w.heap.size w)
 have H : ((laws_vBig.f l0).bind fun t437 => (if t437 = true then (some true) else ((spec_DrawBudgetOrders.f k l0).bind fun bt438 => ((impl_BudgetOrders.f k bt438.1 bt438.2.1 bt438.2.2.1 bt438.2.2.2.1 bt438.2.2.2.2).bind fun bt447 => ((spec_BudgetOrders.f k bt438.1 bt438.2.1 bt438.2.2.1 bt438.2.2.2.1 bt438.2.2.2.2).bind fun bt451 => ((laws_vCut.f l0 1).bind fun t455 => ((spec_DrawStepOrders.f k t455).bind fun bt458 => ((impl_StepOrders.f k bt458.1 bt458.2.1 bt458.2.2.1 bt458.2.2.2).bind fun bt464 => ((spec_StepOrders.f k bt458.1 bt458.2.1 bt458.2.2.1 bt458.2.2.2).bind fun bt468 => (if (bt447.2 != bt451.2) = true then (laws_FnBudgets.j0 k bt438.1 bt438.2.2.2.1 bt438.2.2.2.2 bt447.1 bt447.2 bt458.1 bt458.2.1 bt458.2.2.1 bt458.2.2.2 bt464.1 bt464.2 true) else ((laws_vInts.f k bt447.1 bt451.1).bind fun t472 => (if t472 = true then (if (bt464.2 != bt468.2) = true then (laws_FnBudgets.j0 k bt438.1 bt438.2.2.2.1 bt438.2.2.2.2 bt447.1 bt447.2 bt458.1 bt458.2.1 bt458.2.2.1 bt458.2.2.2 bt464.1 bt464.2 true) else ((laws_vInts.f k bt464.1 bt468.1).bind fun t473 => (laws_FnBudgets.j0 k bt438.1 bt438.2.2.2.1 bt438.2.2.2.2 bt447.1 bt447.2 bt458.1 bt458.2.1 bt458.2.2.1 bt458.2.2.2 bt464.1 bt464.2 (!t473)))) else (laws_FnBudgets.j0 k bt438.1 bt438.2.2.2.1 bt438.2.2.2.2 bt447.1 bt447.2 bt458.1 bt458.2.1 bt458.2.2.1 bt458.2.2.2 bt464.1 bt464.2 true))))))))))))) = some r := h
 clear h
 replace H := Option.bind_eq_some_iff.mp H
 obtain ⟨t437, A20, H⟩ := H
 replace H : (if t437 = true then (some true) else ((spec_DrawBudgetOrders.f k l0).bind fun bt438 => ((impl_BudgetOrders.f k bt438.1 bt438.2.1 bt438.2.2.1 bt438.2.2.2.1 bt438.2.2.2.2).bind fun bt447 => ((spec_BudgetOrders.f k bt438.1 bt438.2.1 bt438.2.2.1 bt438.2.2.2.1 bt438.2.2.2.2).bind fun bt451 => ((laws_vCut.f l0 1).bind fun t455 => ((spec_DrawStepOrders.f k t455).bind fun bt458 => ((impl_StepOrders.f k bt458.1 bt458.2.1 bt458.2.2.1 bt458.2.2.2).bind fun bt464 => ((spec_StepOrders.f k bt458.1 bt458.2.1 bt458.2.2.1 bt458.2.2.2).bind fun bt468 => (if (bt447.2 != bt451.2) = true then (laws_FnBudgets.j0 k bt438.1 bt438.2.2.2.1 bt438.2.2.2.2 bt447.1 bt447.2 bt458.1 bt458.2.1 bt458.2.2.1 bt458.2.2.2 bt464.1 bt464.2 true) else ((laws_vInts.f k bt447.1 bt451.1).bind fun t472 => (if t472 = true then (if (bt464.2 != bt468.2) = true then (laws_FnBudgets.j0 k bt438.1 bt438.2.2.2.1 bt438.2.2.2.2 bt447.1 bt447.2 bt458.1 bt458.2.1 bt458.2.2.1 bt458.2.2.2 bt464.1 bt464.2 true) else ((laws_vInts.f k bt464.1 bt468.1).bind fun t473 => (laws_FnBudgets.j0 k bt438.1 bt438.2.2.2.1 bt438.2.2.2.2 bt447.1 bt447.2 bt458.1 bt458.2.1 bt458.2.2.1 bt458.2.2.2 bt464.1 bt464.2 (!t473)))) else (laws_FnBudgets.j0 k bt438.1 bt438.2.2.2.1 bt438.2.2.2.2 bt447.1 bt447.2 bt458.1 bt458.2.1 bt458.2.2.1 bt458.2.2.2 bt464.1 bt464.2 true)))))))))))) = some r := H
 have A2 := am_ A20
 clear A20
 by_cases c3 : t437 = true
 ·
  subst c3
  have H1 : (some true) = some r := by rw [if_pos rfl] at H; exact H
  clear H
  have H := H1
  clear H1
  obtain rfl := Option.some.inj H
  go_enter Try.func3, Try.ntmps3
  go_wp2_with (first | ((with_reducible refine gc_ (f := 4) rfl ?_); refine goesL_ (some 34) rfl rfl Try.func4 (by kernel_rfl) rfl #[.slice A0 l0.length c0] rfl (by (try simp only [List.map_toArray, List.map_cons, List.map_nil]); first | done | rfl | (simp only [List.length_drop, List.length_take]; rfl)) ?_; (with_reducible refine (laws_vBig.calls _ _ l0 true _ ?side1 ?side2 A2.out).mono ?_); (case side1 => repeat (first | exact HR0.out | (with_reducible refine ca_ ?_ _) | (with_reducible refine cn_ ?_ _) | (with_reducible refine cd_ ?_))); (case side2 => exact HC0.out); rintro e w' ⟨rfl, ⟨nd, rfl⟩⟩; refine ⟨_, rfl, ?_⟩))
  go_ret
  exact ⟨by first | rfl | (simp [errW_none, errW_some] <;> rfl) | (simp [*, errW_none, errW_some] <;> rfl), by repeat (first | (with_reducible first | exact HB.out | apply ba_ | apply pw_below_drewN | apply bd_) | exact HB.out)⟩
 ·
  replace c3 := Bool.eq_false_iff.mpr c3
  subst c3
  have H1 : ((spec_DrawBudgetOrders.f k l0).bind fun bt438 => ((impl_BudgetOrders.f k bt438.1 bt438.2.1 bt438.2.2.1 bt438.2.2.2.1 bt438.2.2.2.2).bind fun bt447 => ((spec_BudgetOrders.f k bt438.1 bt438.2.1 bt438.2.2.1 bt438.2.2.2.1 bt438.2.2.2.2).bind fun bt451 => ((laws_vCut.f l0 1).bind fun t455 => ((spec_DrawStepOrders.f k t455).bind fun bt458 => ((impl_StepOrders.f k bt458.1 bt458.2.1 bt458.2.2.1 bt458.2.2.2).bind fun bt464 => ((spec_StepOrders.f k bt458.1 bt458.2.1 bt458.2.2.1 bt458.2.2.2).bind fun bt468 => (if (bt447.2 != bt451.2) = true then (laws_FnBudgets.j0 k bt438.1 bt438.2.2.2.1 bt438.2.2.2.2 bt447.1 bt447.2 bt458.1 bt458.2.1 bt458.2.2.1 bt458.2.2.2 bt464.1 bt464.2 true) else ((laws_vInts.f k bt447.1 bt451.1).bind fun t472 => (if t472 = true then (if (bt464.2 != bt468.2) = true then (laws_FnBudgets.j0 k bt438.1 bt438.2.2.2.1 bt438.2.2.2.2 bt447.1 bt447.2 bt458.1 bt458.2.1 bt458.2.2.1 bt458.2.2.2 bt464.1 bt464.2 true) else ((laws_vInts.f k bt464.1 bt468.1).bind fun t473 => (laws_FnBudgets.j0 k bt438.1 bt438.2.2.2.1 bt438.2.2.2.2 bt447.1 bt447.2 bt458.1 bt458.2.1 bt458.2.2.1 bt458.2.2.2 bt464.1 bt464.2 (!t473)))) else (laws_FnBudgets.j0 k bt438.1 bt438.2.2.2.1 bt438.2.2.2.2 bt447.1 bt447.2 bt458.1 bt458.2.1 bt458.2.2.1 bt458.2.2.2 bt464.1 bt464.2 true))))))))))) = some r := by rw [if_neg (show ¬ (false = true) by decide)] at H; exact H
  clear H
  have H := H1
  clear H1
  replace H := Option.bind_eq_some_iff.mp H
  obtain ⟨⟨t438, t439, t440, t441, t442⟩, A40, H⟩ := H
  replace H : ((impl_BudgetOrders.f k t438 t439 t440 t441 t442).bind fun bt447 => ((spec_BudgetOrders.f k t438 t439 t440 t441 t442).bind fun bt451 => ((laws_vCut.f l0 1).bind fun t455 => ((spec_DrawStepOrders.f k t455).bind fun bt458 => ((impl_StepOrders.f k bt458.1 bt458.2.1 bt458.2.2.1 bt458.2.2.2).bind fun bt464 => ((spec_StepOrders.f k bt458.1 bt458.2.1 bt458.2.2.1 bt458.2.2.2).bind fun bt468 => (if (bt447.2 != bt451.2) = true then (laws_FnBudgets.j0 k t438 t441 t442 bt447.1 bt447.2 bt458.1 bt458.2.1 bt458.2.2.1 bt458.2.2.2 bt464.1 bt464.2 true) else ((laws_vInts.f k bt447.1 bt451.1).bind fun t472 => (if t472 = true then (if (bt464.2 != bt468.2) = true then (laws_FnBudgets.j0 k t438 t441 t442 bt447.1 bt447.2 bt458.1 bt458.2.1 bt458.2.2.1 bt458.2.2.2 bt464.1 bt464.2 true) else ((laws_vInts.f k bt464.1 bt468.1).bind fun t473 => (laws_FnBudgets.j0 k t438 t441 t442 bt447.1 bt447.2 bt458.1 bt458.2.1 bt458.2.2.1 bt458.2.2.2 bt464.1 bt464.2 (!t473)))) else (laws_FnBudgets.j0 k t438 t441 t442 bt447.1 bt447.2 bt458.1 bt458.2.1 bt458.2.2.1 bt458.2.2.2 bt464.1 bt464.2 true)))))))))) = some r := H
  have A4 := am_ A40
  clear A40
  replace H := Option.bind_eq_some_iff.mp H
  obtain ⟨⟨t447, t448⟩, A50, H⟩ := H
  replace H : ((spec_BudgetOrders.f k t438 t439 t440 t441 t442).bind fun bt451 => ((laws_vCut.f l0 1).bind fun t455 => ((spec_DrawStepOrders.f k t455).bind fun bt458 => ((impl_StepOrders.f k bt458.1 bt458.2.1 bt458.2.2.1 bt458.2.2.2).bind fun bt464 => ((spec_StepOrders.f k bt458.1 bt458.2.1 bt458.2.2.1 bt458.2.2.2).bind fun bt468 => (if (t448 != bt451.2) = true then (laws_FnBudgets.j0 k t438 t441 t442 t447 t448 bt458.1 bt458.2.1 bt458.2.2.1 bt458.2.2.2 bt464.1 bt464.2 true) else ((laws_vInts.f k t447 bt451.1).bind fun t472 => (if t472 = true then (if (bt464.2 != bt468.2) = true then (laws_FnBudgets.j0 k t438 t441 t442 t447 t448 bt458.1 bt458.2.1 bt458.2.2.1 bt458.2.2.2 bt464.1 bt464.2 true) else ((laws_vInts.f k bt464.1 bt468.1).bind fun t473 => (laws_FnBudgets.j0 k t438 t441 t442 t447 t448 bt458.1 bt458.2.1 bt458.2.2.1 bt458.2.2.2 bt464.1 bt464.2 (!t473)))) else (laws_FnBudgets.j0 k t438 t441 t442 t447 t448 bt458.1 bt458.2.1 bt458.2.2.1 bt458.2.2.2 bt464.1 bt464.2 true))))))))) = some r := H
  have A5 := am_ A50
  clear A50
  replace H := Option.bind_eq_some_iff.mp H
  obtain ⟨⟨t451, t452⟩, A60, H⟩ := H
  replace H : ((laws_vCut.f l0 1).bind fun t455 => ((spec_DrawStepOrders.f k t455).bind fun bt458 => ((impl_StepOrders.f k bt458.1 bt458.2.1 bt458.2.2.1 bt458.2.2.2).bind fun bt464 => ((spec_StepOrders.f k bt458.1 bt458.2.1 bt458.2.2.1 bt458.2.2.2).bind fun bt468 => (if (t448 != t452) = true then (laws_FnBudgets.j0 k t438 t441 t442 t447 t448 bt458.1 bt458.2.1 bt458.2.2.1 bt458.2.2.2 bt464.1 bt464.2 true) else ((laws_vInts.f k t447 t451).bind fun t472 => (if t472 = true then (if (bt464.2 != bt468.2) = true then (laws_FnBudgets.j0 k t438 t441 t442 t447 t448 bt458.1 bt458.2.1 bt458.2.2.1 bt458.2.2.2 bt464.1 bt464.2 true) else ((laws_vInts.f k bt464.1 bt468.1).bind fun t473 => (laws_FnBudgets.j0 k t438 t441 t442 t447 t448 bt458.1 bt458.2.1 bt458.2.2.1 bt458.2.2.2 bt464.1 bt464.2 (!t473)))) else (laws_FnBudgets.j0 k t438 t441 t442 t447 t448 bt458.1 bt458.2.1 bt458.2.2.1 bt458.2.2.2 bt464.1 bt464.2 true)))))))) = some r := H
  have A6 := am_ A60
  clear A60
  replace H := Option.bind_eq_some_iff.mp H
  obtain ⟨t455, A70, H⟩ := H
  replace H : ((spec_DrawStepOrders.f k t455).bind fun bt458 => ((impl_StepOrders.f k bt458.1 bt458.2.1 bt458.2.2.1 bt458.2.2.2).bind fun bt464 => ((spec_StepOrders.f k bt458.1 bt458.2.1 bt458.2.2.1 bt458.2.2.2).bind fun bt468 => (if (t448 != t452) = true then (laws_FnBudgets.j0 k t438 t441 t442 t447 t448 bt458.1 bt458.2.1 bt458.2.2.1 bt458.2.2.2 bt464.1 bt464.2 true) else ((laws_vInts.f k t447 t451).bind fun t472 => (if t472 = true then (if (bt464.2 != bt468.2) = true then (laws_FnBudgets.j0 k t438 t441 t442 t447 t448 bt458.1 bt458.2.1 bt458.2.2.1 bt458.2.2.2 bt464.1 bt464.2 true) else ((laws_vInts.f k bt464.1 bt468.1).bind fun t473 => (laws_FnBudgets.j0 k t438 t441 t442 t447 t448 bt458.1 bt458.2.1 bt458.2.2.1 bt458.2.2.2 bt464.1 bt464.2 (!t473)))) else (laws_FnBudgets.j0 k t438 t441 t442 t447 t448 bt458.1 bt458.2.1 bt458.2.2.1 bt458.2.2.2 bt464.1 bt464.2 true))))))) = some r := H
  have A7 := am_ A70
  clear A70
  replace H := Option.bind_eq_some_iff.mp H
  obtain ⟨⟨t458, t459, t460, t461⟩, A80, H⟩ := H
  replace H : ((impl_StepOrders.f k t458 t459 t460 t461).bind fun bt464 => ((spec_StepOrders.f k t458 t459 t460 t461).bind fun bt468 => (if (t448 != t452) = true then (laws_FnBudgets.j0 k t438 t441 t442 t447 t448 t458 t459 t460 t461 bt464.1 bt464.2 true) else ((laws_vInts.f k t447 t451).bind fun t472 => (if t472 = true then (if (bt464.2 != bt468.2) = true then (laws_FnBudgets.j0 k t438 t441 t442 t447 t448 t458 t459 t460 t461 bt464.1 bt464.2 true) else ((laws_vInts.f k bt464.1 bt468.1).bind fun t473 => (laws_FnBudgets.j0 k t438 t441 t442 t447 t448 t458 t459 t460 t461 bt464.1 bt464.2 (!t473)))) else (laws_FnBudgets.j0 k t438 t441 t442 t447 t448 t458 t459 t460 t461 bt464.1 bt464.2 true)))))) = some r := H
  have A8 := am_ A80
  clear A80
  replace H := Option.bind_eq_some_iff.mp H
  obtain ⟨⟨t464, t465⟩, A90, H⟩ := H
  replace H : ((spec_StepOrders.f k t458 t459 t460 t461).bind fun bt468 => (if (t448 != t452) = true then (laws_FnBudgets.j0 k t438 t441 t442 t447 t448 t458 t459 t460 t461 t464 t465 true) else ((laws_vInts.f k t447 t451).bind fun t472 => (if t472 = true then (if (t465 != bt468.2) = true then (laws_FnBudgets.j0 k t438 t441 t442 t447 t448 t458 t459 t460 t461 t464 t465 true) else ((laws_vInts.f k t464 bt468.1).bind fun t473 => (laws_FnBudgets.j0 k t438 t441 t442 t447 t448 t458 t459 t460 t461 t464 t465 (!t473)))) else (laws_FnBudgets.j0 k t438 t441 t442 t447 t448 t458 t459 t460 t461 t464 t465 true))))) = some r := H
  have A9 := am_ A90
  clear A90
  replace H := Option.bind_eq_some_iff.mp H
  obtain ⟨⟨t468, t469⟩, A100, H⟩ := H
  replace H : (if (t448 != t452) = true then (laws_FnBudgets.j0 k t438 t441 t442 t447 t448 t458 t459 t460 t461 t464 t465 true) else ((laws_vInts.f k t447 t451).bind fun t472 => (if t472 = true then (if (t465 != t469) = true then (laws_FnBudgets.j0 k t438 t441 t442 t447 t448 t458 t459 t460 t461 t464 t465 true) else ((laws_vInts.f k t464 t468).bind fun t473 => (laws_FnBudgets.j0 k t438 t441 t442 t447 t448 t458 t459 t460 t461 t464 t465 (!t473)))) else (laws_FnBudgets.j0 k t438 t441 t442 t447 t448 t458 t459 t460 t461 t464 t465 true)))) = some r := H
  have A10 := am_ A100
  clear A100
  have HC11 := am_ H
  clear H
  go_enter Try.func3, Try.ntmps3
  go_upto_region 9 with (first | ((with_reducible refine gc_ (f := 4) rfl ?_); refine goesL_ (some 34) rfl rfl Try.func4 (by kernel_rfl) rfl #[.slice A0 l0.length c0] rfl (by (try simp only [List.map_toArray, List.map_cons, List.map_nil]); first | done | rfl | (simp only [List.length_drop, List.length_take]; rfl)) ?_; (with_reducible refine (laws_vBig.calls _ _ l0 false _ ?side1 ?side2 A2.out).mono ?_); (case side1 => repeat (first | exact HR0.out | (with_reducible refine ca_ ?_ _) | (with_reducible refine cn_ ?_ _) | (with_reducible refine cd_ ?_))); (case side2 => exact HC0.out); rintro e w' ⟨rfl, ⟨nd, rfl⟩⟩; refine ⟨_, rfl, ?_⟩) | ((with_reducible refine gc_ (f := 5) rfl ?_); refine goesL_ (some 37) rfl rfl Try.func5 (by kernel_rfl) rfl #[.slice A0 l0.length c0] rfl (by (try simp only [List.map_toArray, List.map_cons, List.map_nil]); first | done | rfl | (simp only [List.length_drop, List.length_take]; rfl)) ?_; (with_reducible refine (spec_DrawBudgetOrders.calls k _ _ l0 t438 t439 t440 t441 t442 _ ?side1 ?side2 A4.out).mono ?_); (case side1 => repeat (first | exact HR0.out | (with_reducible refine ca_ ?_ _) | (with_reducible refine cn_ ?_ _) | (with_reducible refine cd_ ?_))); (case side2 => exact HC0.out); rintro e w12 ⟨v443, v445, rfl, ho0, ho1, hb⟩; refine ⟨_, rfl, ?_⟩; have n0_ := am_ (Kd.S_lower ho0 (bz_ (by repeat (first | (with_reducible first | exact HB.out | apply ba_ | apply pw_below_drewN | apply bd_) | exact HB.out)))); have n1_ := am_ (Kd.R_lower ho1 (bz_ (by repeat (first | (with_reducible first | exact HB.out | apply ba_ | apply pw_below_drewN | apply bd_) | exact HB.out)))); have n2_ := am_ (bp_ (by repeat (first | (with_reducible first | exact HB.out | apply ba_ | apply pw_below_drewN | apply bd_) | exact HB.out)) hb); clear HB; have HO444 := n0_; have HO446 := n1_; have HB := n2_; clear n0_ n1_ n2_; (try clear hb); (try clear hb2); (try clear hk); (try clear hi); (try clear ho0); (try clear ho1); obtain ⟨Ao13, co13, eo13⟩ := Kd.S_slice HO444.out; subst eo13; obtain ⟨Ao14, co14, eo14⟩ := rs_ HO446.out; subst eo14) | ((with_reducible refine gc_ (f := 6) rfl ?_); refine goesL_ (some 49) rfl rfl Try.func6 (by kernel_rfl) rfl #[.slice Ao13 t438.length co13, .int .i64 t439, .int .i64 t440, .slice Ao14 t441.length co14, .int .i64 t442] rfl (by (try simp only [List.map_toArray, List.map_cons, List.map_nil]); first | done | rfl | (simp only [List.length_drop, List.length_take]; rfl)) ?_; (with_reducible refine (impl_BudgetOrders.calls k _ _ t438 t439 t440 _ _ t441 t442 t447 t448 _ ?side1 ?side2 ?side3 ?side4 A5.out).mono ?_); (case side1 => repeat (first | exact (sr_ HO444.out).2.2 | (with_reducible refine ca_ ?_ _) | (with_reducible refine cn_ ?_ _) | (with_reducible refine cd_ ?_))); (case side2 => exact (sr_ HO444.out).2.1); (case side3 => repeat (first | exact (rr_ HO446.out).2.2 | (with_reducible refine ca_ ?_ _) | (with_reducible refine cn_ ?_ _) | (with_reducible refine cd_ ?_))); (case side4 => exact (rr_ HO446.out).2.1); rintro e w15 ⟨v449, rfl, ho0, hb⟩; refine ⟨_, rfl, ?_⟩; have n0_ := am_ (Kd.S_elder' (by (with_reducible repeat (first | apply sa_ | apply sn_ | apply sd_)); exact HO444.out) (Kd.R_base ho0) hb); have n1_ := am_ (Kd.R_elder' (by (with_reducible repeat (first | apply ra_ | apply rn_ | apply rd_)); exact HO446.out) (Kd.R_base ho0) hb); have n2_ := am_ (Kd.R_lower (Kd.R_new' ho0 (Kd.R_lt (by (with_reducible repeat (first | apply ra_ | apply rn_ | apply rd_)); exact HO446.out))) (bz_ (by repeat (first | (with_reducible first | exact HB.out | apply ba_ | apply pw_below_drewN | apply bd_) | exact HB.out)))); have n3_ := am_ (bp_ (by repeat (first | (with_reducible first | exact HB.out | apply ba_ | apply pw_below_drewN | apply bd_) | exact HB.out)) hb); clear HO444; clear HO446; clear HB; have HO444 := n0_; have HO446 := n1_; have HO450 := n2_; have HB := n3_; clear n0_ n1_ n2_ n3_; (try clear hb); (try clear hb2); (try clear hk); (try clear hi); (try clear ho0)) | ((with_reducible refine gc_ (f := 7) rfl ?_); refine goesL_ (some 58) rfl rfl Try.func7 (by kernel_rfl) rfl #[.slice Ao13 t438.length co13, .int .i64 t439, .int .i64 t440, .slice Ao14 t441.length co14, .int .i64 t442] rfl (by (try simp only [List.map_toArray, List.map_cons, List.map_nil]); first | done | rfl | (simp only [List.length_drop, List.length_take]; rfl)) ?_; (with_reducible refine (spec_BudgetOrders.calls k _ _ t438 t439 t440 _ _ t441 t442 t451 t452 _ ?side1 ?side2 ?side3 ?side4 A6.out).mono ?_); (case side1 => repeat (first | exact (sr_ HO444.out).2.2 | (with_reducible refine ca_ ?_ _) | (with_reducible refine cn_ ?_ _) | (with_reducible refine cd_ ?_))); (case side2 => exact (sr_ HO444.out).2.1); (case side3 => repeat (first | exact (rr_ HO446.out).2.2 | (with_reducible refine ca_ ?_ _) | (with_reducible refine cn_ ?_ _) | (with_reducible refine cd_ ?_))); (case side4 => exact (rr_ HO446.out).2.1); rintro e w16 ⟨v453, rfl, ho0, hb⟩; refine ⟨_, rfl, ?_⟩; have n0_ := am_ (Kd.S_elder' (by (with_reducible repeat (first | apply sa_ | apply sn_ | apply sd_)); exact HO444.out) (Kd.R_base ho0) hb); have n1_ := am_ (Kd.R_elder' (by (with_reducible repeat (first | apply ra_ | apply rn_ | apply rd_)); exact HO446.out) (Kd.R_base ho0) hb); have n2_ := am_ (Kd.R_elder' (by (with_reducible repeat (first | apply ra_ | apply rn_ | apply rd_)); exact HO450.out) (Kd.R_base ho0) hb); have n3_ := am_ (Kd.R_lower (Kd.R_new' (Kd.R_new' ho0 (Kd.R_lt (by (with_reducible repeat (first | apply ra_ | apply rn_ | apply rd_)); exact HO446.out))) (Kd.R_lt (by (with_reducible repeat (first | apply ra_ | apply rn_ | apply rd_)); exact HO450.out))) (bz_ (by repeat (first | (with_reducible first | exact HB.out | apply ba_ | apply pw_below_drewN | apply bd_) | exact HB.out)))); have n4_ := am_ (bp_ (by repeat (first | (with_reducible first | exact HB.out | apply ba_ | apply pw_below_drewN | apply bd_) | exact HB.out)) hb); clear HO444; clear HO446; clear HO450; clear HB; have HO444 := n0_; have HO446 := n1_; have HO450 := n2_; have HO454 := n3_; have HB := n4_; clear n0_ n1_ n2_ n3_ n4_; (try clear hb); (try clear hb2); (try clear hk); (try clear hi); (try clear ho0)) | ((with_reducible refine gc_ (f := 9) rfl ?_); refine goesL_ (some 63) rfl rfl Try.func9 (by kernel_rfl) rfl #[.slice A0 l0.length c0, .int .i64 1] rfl (by (try simp only [List.map_toArray, List.map_cons, List.map_nil]); first | done | rfl | (simp only [List.length_drop, List.length_take]; rfl)) ?_; (with_reducible refine (laws_vCut.calls _ _ l0 1 t455 _ ?side1 ?side2 A7.out).mono ?_); (case side1 => repeat (first | exact (Kd.C_below HR0.out HB.out) | (with_reducible refine ca_ ?_ _) | (with_reducible refine cn_ ?_ _) | (with_reducible refine cd_ ?_))); (case side2 => exact HC0.out); rintro e w17 ⟨v456, rfl, ho0, hb⟩; refine ⟨_, rfl, ?_⟩; have n0_ := am_ (Kd.S_below (by (with_reducible repeat (first | apply sa_ | apply sn_ | apply sd_)); exact HO444.out) hb); have n1_ := am_ (rb_ (by (with_reducible repeat (first | apply ra_ | apply rn_ | apply rd_)); exact HO446.out) hb); have n2_ := am_ (rb_ (by (with_reducible repeat (first | apply ra_ | apply rn_ | apply rd_)); exact HO450.out) hb); have n3_ := am_ (rb_ (by (with_reducible repeat (first | apply ra_ | apply rn_ | apply rd_)); exact HO454.out) hb); have n4_ := am_ (Kd.R_lower ho0 (bz_ (by repeat (first | (with_reducible first | exact HB.out | apply ba_ | apply pw_below_drewN | apply bd_) | exact HB.out)))); have n5_ := am_ (bp_ (by repeat (first | (with_reducible first | exact HB.out | apply ba_ | apply pw_below_drewN | apply bd_) | exact HB.out)) hb); clear HO444; clear HO446; clear HO450; clear HO454; clear HB; have HO444 := n0_; have HO446 := n1_; have HO450 := n2_; have HO454 := n3_; have HO457 := n4_; have HB := n5_; clear n0_ n1_ n2_ n3_ n4_ n5_; (try clear hb); (try clear hb2); (try clear hk); (try clear hi); (try clear ho0); obtain ⟨Ao18, co18, eo18⟩ := rs_ HO457.out; subst eo18) | ((with_reducible refine gc_ (f := 8) rfl ?_); refine goesL_ (some 64) rfl rfl Try.func8 (by kernel_rfl) rfl #[.slice Ao18 t455.length co18] rfl (by (try simp only [List.map_toArray, List.map_cons, List.map_nil]); first | done | rfl | (simp only [List.length_drop, List.length_take]; rfl)) ?_; (with_reducible refine (spec_DrawStepOrders.calls k _ _ t455 t458 t459 t460 t461 _ ?side1 ?side2 A8.out).mono ?_); (case side1 => repeat (first | exact (rr_ HO457.out).2.2 | (with_reducible refine ca_ ?_ _) | (with_reducible refine cn_ ?_ _) | (with_reducible refine cd_ ?_))); (case side2 => exact (rr_ HO457.out).2.1); rintro e w19 ⟨v462, rfl, ho0, hb⟩; refine ⟨_, rfl, ?_⟩; have n0_ := am_ (Kd.S_elder' (by (with_reducible repeat (first | apply sa_ | apply sn_ | apply sd_)); exact HO444.out) (Kd.S_base ho0) hb); have n1_ := am_ (rb_ (by (with_reducible repeat (first | apply ra_ | apply rn_ | apply rd_)); exact HO446.out) hb); have n2_ := am_ (rb_ (by (with_reducible repeat (first | apply ra_ | apply rn_ | apply rd_)); exact HO450.out) hb); have n3_ := am_ (rb_ (by (with_reducible repeat (first | apply ra_ | apply rn_ | apply rd_)); exact HO454.out) hb); have n4_ := am_ (rb_ (by (with_reducible repeat (first | apply ra_ | apply rn_ | apply rd_)); exact HO457.out) hb); have n5_ := am_ (Kd.S_lower (Kd.S_new' (Kd.S_new' (Kd.S_new' (Kd.S_new' ho0 (Kd.S_lt (by (with_reducible repeat (first | apply sa_ | apply sn_ | apply sd_)); exact HO444.out))) (Kd.R_lt (by (with_reducible repeat (first | apply ra_ | apply rn_ | apply rd_)); exact HO446.out))) (Kd.R_lt (by (with_reducible repeat (first | apply ra_ | apply rn_ | apply rd_)); exact HO450.out))) (Kd.R_lt (by (with_reducible repeat (first | apply ra_ | apply rn_ | apply rd_)); exact HO454.out))) (bz_ (by repeat (first | (with_reducible first | exact HB.out | apply ba_ | apply pw_below_drewN | apply bd_) | exact HB.out)))); have n6_ := am_ (bp_ (by repeat (first | (with_reducible first | exact HB.out | apply ba_ | apply pw_below_drewN | apply bd_) | exact HB.out)) hb); clear HO444; clear HO446; clear HO450; clear HO454; clear HO457; clear HB; have HO444 := n0_; have HO446 := n1_; have HO450 := n2_; have HO454 := n3_; have HO457 := n4_; have HO463 := n5_; have HB := n6_; clear n0_ n1_ n2_ n3_ n4_ n5_ n6_; (try clear hb); (try clear hb2); (try clear hk); (try clear hi); (try clear ho0); obtain ⟨Ao20, co20, eo20⟩ := Kd.S_slice HO463.out; subst eo20) | ((with_reducible refine gc_ (f := 10) rfl ?_); refine goesL_ (some 74) rfl rfl Try.func10 (by kernel_rfl) rfl #[.slice Ao20 t458.length co20, .int .i64 t459, .int .i64 t460, .int .i64 t461] rfl (by (try simp only [List.map_toArray, List.map_cons, List.map_nil]); first | done | rfl | (simp only [List.length_drop, List.length_take]; rfl)) ?_; (with_reducible refine (impl_StepOrders.calls k _ _ t458 t459 t460 t461 t464 t465 _ ?side1 ?side2 A9.out).mono ?_); (case side1 => repeat (first | exact (sr_ HO463.out).2.2 | (with_reducible refine ca_ ?_ _) | (with_reducible refine cn_ ?_ _) | (with_reducible refine cd_ ?_))); (case side2 => exact (sr_ HO463.out).2.1); rintro e w21 ⟨v466, rfl, ho0, hb⟩; refine ⟨_, rfl, ?_⟩; have n0_ := am_ (Kd.S_elder' (by (with_reducible repeat (first | apply sa_ | apply sn_ | apply sd_)); exact HO444.out) (Kd.R_base ho0) hb); have n1_ := am_ (Kd.R_elder' (by (with_reducible repeat (first | apply ra_ | apply rn_ | apply rd_)); exact HO446.out) (Kd.R_base ho0) hb); have n2_ := am_ (Kd.R_elder' (by (with_reducible repeat (first | apply ra_ | apply rn_ | apply rd_)); exact HO450.out) (Kd.R_base ho0) hb); have n3_ := am_ (Kd.R_elder' (by (with_reducible repeat (first | apply ra_ | apply rn_ | apply rd_)); exact HO454.out) (Kd.R_base ho0) hb); have n4_ := am_ (rb_ (by (with_reducible repeat (first | apply ra_ | apply rn_ | apply rd_)); exact HO457.out) hb); have n5_ := am_ (Kd.S_elder' (by (with_reducible repeat (first | apply sa_ | apply sn_ | apply sd_)); exact HO463.out) (Kd.R_base ho0) hb); have n6_ := am_ (Kd.R_lower (Kd.R_new' (Kd.R_new' (Kd.R_new' ho0 (Kd.R_lt (by (with_reducible repeat (first | apply ra_ | apply rn_ | apply rd_)); exact HO446.out))) (Kd.R_lt (by (with_reducible repeat (first | apply ra_ | apply rn_ | apply rd_)); exact HO450.out))) (Kd.R_lt (by (with_reducible repeat (first | apply ra_ | apply rn_ | apply rd_)); exact HO454.out))) (bz_ (by repeat (first | (with_reducible first | exact HB.out | apply ba_ | apply pw_below_drewN | apply bd_) | exact HB.out)))); have n7_ := am_ (bp_ (by repeat (first | (with_reducible first | exact HB.out | apply ba_ | apply pw_below_drewN | apply bd_) | exact HB.out)) hb); clear HO444; clear HO446; clear HO450; clear HO454; clear HO457; clear HO463; clear HB; have HO444 := n0_; have HO446 := n1_; have HO450 := n2_; have HO454 := n3_; have HO457 := n4_; have HO463 := n5_; have HO467 := n6_; have HB := n7_; clear n0_ n1_ n2_ n3_ n4_ n5_ n6_ n7_; (try clear hb); (try clear hb2); (try clear hk); (try clear hi); (try clear ho0)) | ((with_reducible refine gc_ (f := 11) rfl ?_); refine goesL_ (some 82) rfl rfl Try.func11 (by kernel_rfl) rfl #[.slice Ao20 t458.length co20, .int .i64 t459, .int .i64 t460, .int .i64 t461] rfl (by (try simp only [List.map_toArray, List.map_cons, List.map_nil]); first | done | rfl | (simp only [List.length_drop, List.length_take]; rfl)) ?_; (with_reducible refine (spec_StepOrders.calls k _ _ t458 t459 t460 t461 t468 t469 _ ?side1 ?side2 A10.out).mono ?_); (case side1 => repeat (first | exact (sr_ HO463.out).2.2 | (with_reducible refine ca_ ?_ _) | (with_reducible refine cn_ ?_ _) | (with_reducible refine cd_ ?_))); (case side2 => exact (sr_ HO463.out).2.1); rintro e w22 ⟨v470, rfl, ho0, hb⟩; refine ⟨_, rfl, ?_⟩; have n0_ := am_ (Kd.S_elder' (by (with_reducible repeat (first | apply sa_ | apply sn_ | apply sd_)); exact HO444.out) (Kd.R_base ho0) hb); have n1_ := am_ (Kd.R_elder' (by (with_reducible repeat (first | apply ra_ | apply rn_ | apply rd_)); exact HO446.out) (Kd.R_base ho0) hb); have n2_ := am_ (Kd.R_elder' (by (with_reducible repeat (first | apply ra_ | apply rn_ | apply rd_)); exact HO450.out) (Kd.R_base ho0) hb); have n3_ := am_ (Kd.R_elder' (by (with_reducible repeat (first | apply ra_ | apply rn_ | apply rd_)); exact HO454.out) (Kd.R_base ho0) hb); have n4_ := am_ (rb_ (by (with_reducible repeat (first | apply ra_ | apply rn_ | apply rd_)); exact HO457.out) hb); have n5_ := am_ (Kd.S_elder' (by (with_reducible repeat (first | apply sa_ | apply sn_ | apply sd_)); exact HO463.out) (Kd.R_base ho0) hb); have n6_ := am_ (Kd.R_elder' (by (with_reducible repeat (first | apply ra_ | apply rn_ | apply rd_)); exact HO467.out) (Kd.R_base ho0) hb); have n7_ := am_ (Kd.R_lower (Kd.R_new' (Kd.R_new' (Kd.R_new' (Kd.R_new' ho0 (Kd.R_lt (by (with_reducible repeat (first | apply ra_ | apply rn_ | apply rd_)); exact HO446.out))) (Kd.R_lt (by (with_reducible repeat (first | apply ra_ | apply rn_ | apply rd_)); exact HO450.out))) (Kd.R_lt (by (with_reducible repeat (first | apply ra_ | apply rn_ | apply rd_)); exact HO454.out))) (Kd.R_lt (by (with_reducible repeat (first | apply ra_ | apply rn_ | apply rd_)); exact HO467.out))) (bz_ (by repeat (first | (with_reducible first | exact HB.out | apply ba_ | apply pw_below_drewN | apply bd_) | exact HB.out)))); have n8_ := am_ (bp_ (by repeat (first | (with_reducible first | exact HB.out | apply ba_ | apply pw_below_drewN | apply bd_) | exact HB.out)) hb); clear HO444; clear HO446; clear HO450; clear HO454; clear HO457; clear HO463; clear HO467; clear HB; have HO444 := n0_; have HO446 := n1_; have HO450 := n2_; have HO454 := n3_; have HO457 := n4_; have HO463 := n5_; have HO467 := n6_; have HO471 := n7_; have HB := n8_; clear n0_ n1_ n2_ n3_ n4_ n5_ n6_ n7_ n8_; (try clear hb); (try clear hb2); (try clear hk); (try clear hi); (try clear ho0)))
  (try simp only [Act.put, List.setIfInBounds_toArray, List.set_cons_zero, List.set_cons_succ])
  go_cut [104] (fun v104 wc => ∃ (kq : Nat) (x104_10 : Bool), v104 = .bool x104_10 ∧ Aside0 (laws_FnBudgets.j0 kq t438 t441 t442 t447 t448 t458 t459 t460 t461 t464 t465 x104_10 = some r) ∧ Aside0 (kq ≤ k) ∧ Aside0 (Kd.S (Kd.slice 3 (Kd.int .i64)) 25 wc w.heap.size (fun k_ => some k_ ≠ ((.slice Ao14 t441.length co14) : Value).ownBlock ∧ some k_ ≠ (v449 : Value).ownBlock ∧ some k_ ≠ ((.slice Ao20 t458.length co20) : Value).ownBlock ∧ some k_ ≠ (v466 : Value).ownBlock) (.slice Ao13 t438.length co13) t438) ∧ Aside0 (Kd.R (Kd.int .i64) 3 wc w.heap.size (fun k_ => some k_ ≠ (v449 : Value).ownBlock ∧ some k_ ≠ (v466 : Value).ownBlock) (.slice Ao14 t441.length co14) t441) ∧ Aside0 (Kd.R (Kd.int .i64) 3 wc w.heap.size (fun k_ => some k_ ≠ ((.slice Ao14 t441.length co14) : Value).ownBlock ∧ some k_ ≠ (v466 : Value).ownBlock) v449 t447) ∧ Aside0 (Kd.S (Kd.slice 3 (Kd.int .i64)) 25 wc w.heap.size (fun k_ => some k_ ≠ ((.slice Ao13 t438.length co13) : Value).ownBlock ∧ some k_ ≠ ((.slice Ao14 t441.length co14) : Value).ownBlock ∧ some k_ ≠ (v449 : Value).ownBlock ∧ some k_ ≠ (v466 : Value).ownBlock) (.slice Ao20 t458.length co20) t458) ∧ Aside0 (Kd.R (Kd.int .i64) 3 wc w.heap.size (fun k_ => some k_ ≠ ((.slice Ao14 t441.length co14) : Value).ownBlock ∧ some k_ ≠ (v449 : Value).ownBlock) v466 t464) ∧ Aside0 (Below w.heap.size w wc))
  case first =>
   have H := HC11.out
   clear HC11
   by_cases c23 : (t448 != t452) = true
   ·
    rw [if_pos c23] at H
    have c23b0 : (t448 != t452) = true := c23
    (try (have c23b1 : decide (t448 = t452) = false := by simpa using c23))
    (try (have c23b2 : (t448 == t452) = false := by simpa using c23))
    (try (have c23b3 : ¬ (t448 = t452) := by simpa using c23))
    clear c23
    (first | rw [c23b0] | (simp only [i64_w, i32_w]; rw [c23b0]) | skip)
    have H' := am_ H
    clear H
    go_wp2
    go_meet
    case rel => exact ⟨_, (true), (by first | rfl | (simp; done) | (simp [*]; done)), H', ⟨by first | omega | exact Nat.le_refl _⟩, ⟨by (with_reducible repeat (first | apply sa_ | apply sn_ | apply sd_)); exact sm_ HO444.out (fun _ hk => ⟨hk.1.1.1.1.1, ⟨hk.1.1.1.1.2, ⟨hk.1.1.2, hk.1.2⟩⟩⟩)⟩, ⟨by (with_reducible repeat (first | apply ra_ | apply rn_ | apply rd_)); exact rm_ HO446.out (fun _ hk => ⟨hk.1.1.1.2, hk.1.2⟩)⟩, ⟨by (with_reducible repeat (first | apply ra_ | apply rn_ | apply rd_)); exact rm_ HO450.out (fun _ hk => ⟨hk.1.1.1.2, hk.1.2⟩)⟩, ⟨by (with_reducible repeat (first | apply sa_ | apply sn_ | apply sd_)); exact sm_ HO463.out (fun _ hk => ⟨hk.1.1.1.1.1.2, ⟨hk.1.1.1.1.2, ⟨hk.1.1.1.2, hk.1.2⟩⟩⟩)⟩, ⟨by (with_reducible repeat (first | apply ra_ | apply rn_ | apply rd_)); exact rm_ HO467.out (fun _ hk => ⟨hk.1.1.1.2, hk.1.1.2⟩)⟩, ⟨by repeat (first | (with_reducible first | exact HB.out | apply ba_ | apply pw_below_drewN | apply bd_) | exact HB.out)⟩⟩
   ·
    rw [if_neg c23] at H
    have c23b0 : (t448 != t452) = false := by simpa using c23
    (try (have c23b1 : decide (t448 = t452) = true := by simpa using c23))
    (try (have c23b2 : (t448 == t452) = true := by simpa using c23))
    clear c23
    (first | rw [c23b0] | (simp only [i64_w, i32_w]; rw [c23b0]) | skip)
    replace H := Option.bind_eq_some_iff.mp H
    obtain ⟨t472, A240, H⟩ := H
    replace H : (if t472 = true then (if (t465 != t469) = true then (laws_FnBudgets.j0 k t438 t441 t442 t447 t448 t458 t459 t460 t461 t464 t465 true) else ((laws_vInts.f k t464 t468).bind fun t473 => (laws_FnBudgets.j0 k t438 t441 t442 t447 t448 t458 t459 t460 t461 t464 t465 (!t473)))) else (laws_FnBudgets.j0 k t438 t441 t442 t447 t448 t458 t459 t460 t461 t464 t465 true)) = some r := H
    have A24 := am_ A240
    clear A240
    by_cases c25 : t472 = true
    ·
     subst c25
     have H1 : (if (t465 != t469) = true then (laws_FnBudgets.j0 k t438 t441 t442 t447 t448 t458 t459 t460 t461 t464 t465 true) else ((laws_vInts.f k t464 t468).bind fun t473 => (laws_FnBudgets.j0 k t438 t441 t442 t447 t448 t458 t459 t460 t461 t464 t465 (!t473)))) = some r := by rw [if_pos rfl] at H; exact H
     clear H
     have H := H1
     clear H1
     by_cases c26 : (t465 != t469) = true
     ·
      rw [if_pos c26] at H
      have c26b0 : (t465 != t469) = true := c26
      (try (have c26b1 : decide (t465 = t469) = false := by simpa using c26))
      (try (have c26b2 : (t465 == t469) = false := by simpa using c26))
      (try (have c26b3 : ¬ (t465 = t469) := by simpa using c26))
      clear c26
      have H' := am_ H
      clear H
      obtain ⟨Ao27, co27, eo27⟩ := rs_ HO450.out
      subst eo27
      obtain ⟨Ao28, co28, eo28⟩ := rs_ HO454.out
      subst eo28
      go_wp2_with (first | (go_at_call 12; (with_reducible refine (laws_vInts.calls k _ _ t447 _ _ t451 true _ ?side1 ?side2 ?side3 ?side4 A24.out).mono ?_); (case side1 => repeat (first | exact (rr_ HO450.out).2.2 | (with_reducible refine ca_ ?_ _) | (with_reducible refine cn_ ?_ _) | (with_reducible refine cd_ ?_))); (case side2 => exact (rr_ HO450.out).2.1); (case side3 => repeat (first | exact (rr_ HO454.out).2.2 | (with_reducible refine ca_ ?_ _) | (with_reducible refine cn_ ?_ _) | (with_reducible refine cd_ ?_))); (case side4 => exact (rr_ HO454.out).2.1); rintro e w' ⟨rfl, ⟨nd, rfl⟩⟩))
      go_meet
      case rel => exact ⟨_, (true), (by first | rfl | (simp; done) | (simp [*]; done)), H', ⟨by first | omega | exact Nat.le_refl _⟩, ⟨by (with_reducible repeat (first | apply sa_ | apply sn_ | apply sd_)); exact sm_ HO444.out (fun _ hk => ⟨hk.1.1.1.1.1, ⟨hk.1.1.1.1.2, ⟨hk.1.1.2, hk.1.2⟩⟩⟩)⟩, ⟨by (with_reducible repeat (first | apply ra_ | apply rn_ | apply rd_)); exact rm_ HO446.out (fun _ hk => ⟨hk.1.1.1.2, hk.1.2⟩)⟩, ⟨by (with_reducible repeat (first | apply ra_ | apply rn_ | apply rd_)); exact rm_ HO450.out (fun _ hk => ⟨hk.1.1.1.2, hk.1.2⟩)⟩, ⟨by (with_reducible repeat (first | apply sa_ | apply sn_ | apply sd_)); exact sm_ HO463.out (fun _ hk => ⟨hk.1.1.1.1.1.2, ⟨hk.1.1.1.1.2, ⟨hk.1.1.1.2, hk.1.2⟩⟩⟩)⟩, ⟨by (with_reducible repeat (first | apply ra_ | apply rn_ | apply rd_)); exact rm_ HO467.out (fun _ hk => ⟨hk.1.1.1.2, hk.1.1.2⟩)⟩, ⟨by repeat (first | (with_reducible first | exact HB.out | apply ba_ | apply pw_below_drewN | apply bd_) | exact HB.out)⟩⟩
     ·
      rw [if_neg c26] at H
      have c26b0 : (t465 != t469) = false := by simpa using c26
      (try (have c26b1 : decide (t465 = t469) = true := by simpa using c26))
      (try (have c26b2 : (t465 == t469) = true := by simpa using c26))
      clear c26
      replace H := Option.bind_eq_some_iff.mp H
      obtain ⟨t473, A290, H⟩ := H
      replace H : (laws_FnBudgets.j0 k t438 t441 t442 t447 t448 t458 t459 t460 t461 t464 t465 (!t473)) = some r := H
      have A29 := am_ A290
      clear A290
      have H' := am_ H
      clear H
      obtain ⟨Ao30, co30, eo30⟩ := rs_ HO450.out
      subst eo30
      obtain ⟨Ao31, co31, eo31⟩ := rs_ HO454.out
      subst eo31
      go_wp2_with (first | (go_at_call 12; (with_reducible refine (laws_vInts.calls k _ _ t447 _ _ t451 true _ ?side1 ?side2 ?side3 ?side4 A24.out).mono ?_); (case side1 => repeat (first | exact (rr_ HO450.out).2.2 | (with_reducible refine ca_ ?_ _) | (with_reducible refine cn_ ?_ _) | (with_reducible refine cd_ ?_))); (case side2 => exact (rr_ HO450.out).2.1); (case side3 => repeat (first | exact (rr_ HO454.out).2.2 | (with_reducible refine ca_ ?_ _) | (with_reducible refine cn_ ?_ _) | (with_reducible refine cd_ ?_))); (case side4 => exact (rr_ HO454.out).2.1); rintro e w' ⟨rfl, ⟨nd, rfl⟩⟩; obtain ⟨Ao32, co32, eo32⟩ := rs_ HO467.out; subst eo32; obtain ⟨Ao33, co33, eo33⟩ := rs_ HO471.out; subst eo33) | (go_at_call 12; (with_reducible refine (laws_vInts.calls k _ _ t464 _ _ t468 t473 _ ?side1 ?side2 ?side3 ?side4 A29.out).mono ?_); (case side1 => repeat (first | exact (rr_ HO467.out).2.2 | (with_reducible refine ca_ ?_ _) | (with_reducible refine cn_ ?_ _) | (with_reducible refine cd_ ?_))); (case side2 => exact (rr_ HO467.out).2.1); (case side3 => repeat (first | exact (rr_ HO471.out).2.2 | (with_reducible refine ca_ ?_ _) | (with_reducible refine cn_ ?_ _) | (with_reducible refine cd_ ?_))); (case side4 => exact (rr_ HO471.out).2.1); rintro e w' ⟨rfl, ⟨nd, rfl⟩⟩))
      go_meet
      case rel => exact ⟨_, (!t473), (by first | rfl | (simp; done) | (simp [*]; done)), H', ⟨by first | omega | exact Nat.le_refl _⟩, ⟨by (with_reducible repeat (first | apply sa_ | apply sn_ | apply sd_)); exact sm_ HO444.out (fun _ hk => ⟨hk.1.1.1.1.1, ⟨hk.1.1.1.1.2, ⟨hk.1.1.2, hk.1.2⟩⟩⟩)⟩, ⟨by (with_reducible repeat (first | apply ra_ | apply rn_ | apply rd_)); exact rm_ HO446.out (fun _ hk => ⟨hk.1.1.1.2, hk.1.2⟩)⟩, ⟨by (with_reducible repeat (first | apply ra_ | apply rn_ | apply rd_)); exact rm_ HO450.out (fun _ hk => ⟨hk.1.1.1.2, hk.1.2⟩)⟩, ⟨by (with_reducible repeat (first | apply sa_ | apply sn_ | apply sd_)); exact sm_ HO463.out (fun _ hk => ⟨hk.1.1.1.1.1.2, ⟨hk.1.1.1.1.2, ⟨hk.1.1.1.2, hk.1.2⟩⟩⟩)⟩, ⟨by (with_reducible repeat (first | apply ra_ | apply rn_ | apply rd_)); exact rm_ HO467.out (fun _ hk => ⟨hk.1.1.1.2, hk.1.1.2⟩)⟩, ⟨by repeat (first | (with_reducible first | exact HB.out | apply ba_ | apply pw_below_drewN | apply bd_) | exact HB.out)⟩⟩
    ·
     replace c25 := Bool.eq_false_iff.mpr c25
     subst c25
     have H1 : (laws_FnBudgets.j0 k t438 t441 t442 t447 t448 t458 t459 t460 t461 t464 t465 true) = some r := by rw [if_neg (show ¬ (false = true) by decide)] at H; exact H
     clear H
     have H := H1
     clear H1
     have H' := am_ H
     clear H
     obtain ⟨Ao34, co34, eo34⟩ := rs_ HO450.out
     subst eo34
     obtain ⟨Ao35, co35, eo35⟩ := rs_ HO454.out
     subst eo35
     go_wp2_with (first | (go_at_call 12; (with_reducible refine (laws_vInts.calls k _ _ t447 _ _ t451 false _ ?side1 ?side2 ?side3 ?side4 A24.out).mono ?_); (case side1 => repeat (first | exact (rr_ HO450.out).2.2 | (with_reducible refine ca_ ?_ _) | (with_reducible refine cn_ ?_ _) | (with_reducible refine cd_ ?_))); (case side2 => exact (rr_ HO450.out).2.1); (case side3 => repeat (first | exact (rr_ HO454.out).2.2 | (with_reducible refine ca_ ?_ _) | (with_reducible refine cn_ ?_ _) | (with_reducible refine cd_ ?_))); (case side4 => exact (rr_ HO454.out).2.1); rintro e w' ⟨rfl, ⟨nd, rfl⟩⟩))
     go_meet
     case rel => exact ⟨_, (true), (by first | rfl | (simp; done) | (simp [*]; done)), H', ⟨by first | omega | exact Nat.le_refl _⟩, ⟨by (with_reducible repeat (first | apply sa_ | apply sn_ | apply sd_)); exact sm_ HO444.out (fun _ hk => ⟨hk.1.1.1.1.1, ⟨hk.1.1.1.1.2, ⟨hk.1.1.2, hk.1.2⟩⟩⟩)⟩, ⟨by (with_reducible repeat (first | apply ra_ | apply rn_ | apply rd_)); exact rm_ HO446.out (fun _ hk => ⟨hk.1.1.1.2, hk.1.2⟩)⟩, ⟨by (with_reducible repeat (first | apply ra_ | apply rn_ | apply rd_)); exact rm_ HO450.out (fun _ hk => ⟨hk.1.1.1.2, hk.1.2⟩)⟩, ⟨by (with_reducible repeat (first | apply sa_ | apply sn_ | apply sd_)); exact sm_ HO463.out (fun _ hk => ⟨hk.1.1.1.1.1.2, ⟨hk.1.1.1.1.2, ⟨hk.1.1.1.2, hk.1.2⟩⟩⟩)⟩, ⟨by (with_reducible repeat (first | apply ra_ | apply rn_ | apply rd_)); exact rm_ HO467.out (fun _ hk => ⟨hk.1.1.1.2, hk.1.1.2⟩)⟩, ⟨by repeat (first | (with_reducible first | exact HB.out | apply ba_ | apply pw_below_drewN | apply bd_) | exact HB.out)⟩⟩
  case rest =>
   clear HC11
   try clear c1
   try clear c2
   try clear p2
   try clear c3
   try clear c4
   try clear c5
   try clear c6
   try clear c7
   try clear c8
   try clear c9
   try clear c10
   try clear c11
   try clear c23
   try clear c23b0
   try clear c23b1
   try clear c23b2
   try clear c25
   try clear c26
   try clear c26b0
   try clear c26b1
   try clear c26b2
   obtain ⟨kq, x104_10, rfl, HA, HJ10, HO_3, HO_6, HO_8, HO_12, HO_16, HB⟩ := hcut
   cases kq with
   | zero => exact absurd HA.out (by simp [laws_FnBudgets.j0])
   | succ kj10 =>
    have H := HA.out
    clear HA
    simp only [laws_FnBudgets.j0] at H
    by_cases c36 : x104_10 = true
    ·
     subst c36
     have H1 : (some false) = some r := by rw [if_pos rfl] at H; exact H
     clear H
     have H := H1
     clear H1
     obtain rfl := Option.some.inj H
     go_wp2
     go_ret
     exact ⟨by first | rfl | (simp [errW_none, errW_some] <;> rfl) | (simp [*, errW_none, errW_some] <;> rfl), by repeat (first | (with_reducible first | exact HB.out | apply ba_ | apply pw_below_drewN | apply bd_) | exact HB.out)⟩
    ·
     replace c36 := Bool.eq_false_iff.mpr c36
     subst c36
     have H1 : (if t448 = true then (laws_FnBudgets.l0 kj10 t438 t441 t442 t447 t458 t459 t460 t461 t464 t465 0 0) else (laws_FnBudgets.j2 kj10 t458 t459 t460 t461 t464 t465)) = some r := by rw [if_neg (show ¬ (false = true) by decide)] at H; exact H
     clear H
     have H := H1
     clear H1
     have HC37 := am_ H
     clear H
     go_upto_if 105 with (fail)
     go_cut [] (fun wc => ∃ (kq : Nat), Aside0 (laws_FnBudgets.j2 kq t458 t459 t460 t461 t464 t465 = some r) ∧ Aside0 (kq ≤ kj10) ∧ Aside0 (Kd.S (Kd.slice 3 (Kd.int .i64)) 25 wc w.heap.size (fun k_ => some k_ ≠ (v466 : Value).ownBlock) (.slice Ao20 t458.length co20) t458) ∧ Aside0 (Kd.R (Kd.int .i64) 3 wc w.heap.size (fun _ => True) v466 t464) ∧ Aside0 (Below w.heap.size w wc))
     case first =>
      have H := HC37.out
      clear HC37
      by_cases c38 : t448 = true
      ·
       subst c38
       have H1 : (laws_FnBudgets.l0 kj10 t438 t441 t442 t447 t458 t459 t460 t461 t464 t465 0 0) = some r := by rw [if_pos rfl] at H; exact H
       clear H
       have H := H1
       clear H1
       have H' := am_ H
       clear H
       go_wp2
       go_loopg [20, 21] kj10 (fun kq v20 v21 w' => ∃ (x20_2 : Int) (x21_2 : Int), v20 = .int .i64 x20_2 ∧ v21 = .int .i64 x21_2 ∧ Aside0 (laws_FnBudgets.l0 kq t438 t441 t442 t447 t458 t459 t460 t461 t464 t465 x20_2 x21_2 = some r) ∧ Aside0 (kq ≤ kj10) ∧ Aside0 (Kd.S (Kd.slice 3 (Kd.int .i64)) 25 w' w.heap.size (fun k_ => some k_ ≠ ((.slice Ao14 t441.length co14) : Value).ownBlock ∧ some k_ ≠ (v449 : Value).ownBlock ∧ some k_ ≠ ((.slice Ao20 t458.length co20) : Value).ownBlock ∧ some k_ ≠ (v466 : Value).ownBlock) (.slice Ao13 t438.length co13) t438) ∧ Aside0 (Kd.R (Kd.int .i64) 3 w' w.heap.size (fun k_ => some k_ ≠ (v449 : Value).ownBlock ∧ some k_ ≠ (v466 : Value).ownBlock) (.slice Ao14 t441.length co14) t441) ∧ Aside0 (Kd.R (Kd.int .i64) 3 w' w.heap.size (fun k_ => some k_ ≠ ((.slice Ao14 t441.length co14) : Value).ownBlock ∧ some k_ ≠ (v466 : Value).ownBlock) v449 t447) ∧ Aside0 (Kd.S (Kd.slice 3 (Kd.int .i64)) 25 w' w.heap.size (fun k_ => some k_ ≠ ((.slice Ao13 t438.length co13) : Value).ownBlock ∧ some k_ ≠ ((.slice Ao14 t441.length co14) : Value).ownBlock ∧ some k_ ≠ (v449 : Value).ownBlock ∧ some k_ ≠ (v466 : Value).ownBlock) (.slice Ao20 t458.length co20) t458) ∧ Aside0 (Kd.R (Kd.int .i64) 3 w' w.heap.size (fun k_ => some k_ ≠ ((.slice Ao14 t441.length co14) : Value).ownBlock ∧ some k_ ≠ (v449 : Value).ownBlock) v466 t464) ∧ Aside0 (Below w.heap.size w w'))
       case atStart => exact ⟨(0), (0), (by first | rfl | (simp; done) | (simp [*]; done)), (by first | rfl | (simp; done) | (simp [*]; done)), H', ⟨Nat.le_refl _⟩, ⟨by (with_reducible repeat (first | apply sa_ | apply sn_ | apply sd_)); exact HO_3.out⟩, ⟨by (with_reducible repeat (first | apply ra_ | apply rn_ | apply rd_)); exact HO_6.out⟩, ⟨by (with_reducible repeat (first | apply ra_ | apply rn_ | apply rd_)); exact HO_8.out⟩, ⟨by (with_reducible repeat (first | apply sa_ | apply sn_ | apply sd_)); exact HO_12.out⟩, ⟨by (with_reducible repeat (first | apply ra_ | apply rn_ | apply rd_)); exact HO_16.out⟩, ⟨by repeat (first | (with_reducible first | exact HB.out | apply ba_ | apply pw_below_drewN | apply bd_) | exact HB.out)⟩⟩
       case round =>
        clear H'
        try clear c1
        try clear c2
        try clear p2
        try clear c3
        try clear c4
        try clear c5
        try clear c6
        try clear c7
        try clear c8
        try clear c9
        try clear c10
        try clear c11
        try clear c23
        try clear c23b0
        try clear c23b1
        try clear c23b2
        try clear c25
        try clear c26
        try clear c26b0
        try clear c26b1
        try clear c26b2
        try clear c36
        try clear c38
        try clear p2
        obtain ⟨x20_2, x21_2, rfl, rfl, HA, HK2, HO_3, HO_6, HO_8, HO_12, HO_16, HB⟩ := hrel
        cases gk with
        | zero => exact absurd HA.out (by simp [laws_FnBudgets.l0])
        | succ k2 =>
         have H := HA.out
         clear HA
         simp only [laws_FnBudgets.l0] at H
         by_cases c39 : x21_2 < (t447.length : Int)
         ·
          rw [if_pos c39] at H
          have c39b0 : decide (x21_2 < (t447.length : Int)) = true := decide_eq_true c39
          clear c39
          (first | rw [c39b0] | (simp only [i64_w, i32_w]; rw [c39b0]) | skip)
          by_cases c40 : 0 ≤ x21_2
          ·
           rw [if_pos c40] at H
           have c40b0 : decide (0 ≤ x21_2) = true := decide_eq_true c40
           clear c40
           by_cases c41 : x21_2 < (t441.length : Int)
           ·
            rw [if_pos c41] at H
            have c41b0 : decide (x21_2 < (t441.length : Int)) = true := decide_eq_true c41
            clear c41
            have H' := am_ H
            clear H
            obtain ⟨Ao42, co42, eo42⟩ := rs_ HO_8.out
            subst eo42
            try go_wp2
            have n0_ := am_ (sd_ HO_3.out)
            have n1_ := am_ (rd_ HO_6.out)
            have n2_ := am_ (rd_ HO_8.out)
            have n3_ := am_ (sd_ HO_12.out)
            have n4_ := am_ (rd_ HO_16.out)
            have n5_ := am_ (bd_ HB.out)
            clear HO_3
            clear HO_6
            clear HO_8
            clear HO_12
            clear HO_16
            clear HB
            have HO_3 := n0_
            have HO_6 := n1_
            have HO_8 := n2_
            have HO_12 := n3_
            have HO_16 := n4_
            have HB := n5_
            clear n0_ n1_ n2_ n3_ n4_ n5_
            have p474 : 0 ≤ (x21_2 : Int) := of_decide_eq_true (by first | (with_reducible assumption) | assumption)
            have q474 : x21_2 < (t441.length : Int) := of_decide_eq_true (by first | (with_reducible assumption) | assumption)
            obtain ⟨ad474, e474, hx474_0⟩ := Kd.at_int (rr_ HO_6.out).2.2 x21_2 p474 q474
            cases e474
            replace p474 := eq_true p474
            replace q474 := eq_true q474
            have p475 : 0 ≤ (x21_2 : Int) := of_decide_eq_true (by first | (with_reducible assumption) | assumption)
            have q475 : x21_2 < (t447.length : Int) := of_decide_eq_true (by first | (with_reducible assumption) | assumption)
            obtain ⟨ad475, e475, hx475_0⟩ := Kd.at_int (rr_ HO_8.out).2.2 x21_2 p475 q475
            cases e475
            replace p475 := eq_true p475
            replace q475 := eq_true q475
            refine start_ (n := 12) (S := fun w' => w'.cell? (ad474.add (x21_2).toNat) = some (.int .i64 (rd t441 x21_2)) ∧ w'.cell? (ad475.add (x21_2).toNat) = some (.int .i64 (rd t447 x21_2))) (ds := []) #[false, false, false, false, false, false, false, false, false, false, false, false] (by kernel_rfl) rfl rfl ⟨hx474_0, hx475_0⟩ (fun hHeld => ?_); refine with_tabW laws_FnBudgets.tab16 laws_FnBudgets.bits16 (fun HT_ HW_ => ?_)
            generalize wr.drew = w43 at HO_3 HO_6 HO_8 HO_12 HO_16 HB hx474_0 hx475_0 hHeld ⊢
            refine pure_ (i := 0) (N := some 112) (v := ?_) (a' := ?_) #[true, false, false, false, false, false, false, false, false, false, false, false] rfl rfl (any_of HT_.out (by kernel_rfl)) (fun _ _ _ h => h) (Or.inl ⟨by rfl, ?_⟩) ?_ ?_
            rotate_left
            ·
             intro w'
             go_simp
             with_reducible rfl
            rotate_left
            ·
             simp only [Act.put, List.setIfInBounds_toArray, List.set_cons_zero, List.set_cons_succ, i64_w, i32_w]
             rfl
            refine pure_ (i := 1) (N := some 113) (v := ?_) (a' := ?_) #[true, true, false, false, false, false, false, false, false, false, false, false] rfl rfl (any_of HT_.out (by kernel_rfl)) (fun _ _ _ h => h) (Or.inl ⟨by rfl, ?_⟩) ?_ ?_
            rotate_left
            ·
             intro w'
             go_simp
             with_reducible rfl
            rotate_left
            ·
             simp only [Act.put, List.setIfInBounds_toArray, List.set_cons_zero, List.set_cons_succ, i64_w, i32_w]
             rfl
            refine pure_ (i := 2) (N := some 114) (v := ?_) (a' := ?_) #[true, true, true, false, false, false, false, false, false, false, false, false] rfl rfl (any_of HT_.out (by kernel_rfl)) (fun _ _ _ h => h) (Or.inl ⟨by rfl, ?_⟩) ?_ ?_
            rotate_left
            ·
             intro w'
             go_simp
             with_reducible rfl
            rotate_left
            ·
             simp only [Act.put, List.setIfInBounds_toArray, List.set_cons_zero, List.set_cons_succ, i64_w, i32_w]
             rfl
            refine pure_ (i := 3) (N := some 115) (v := ?_) (a' := ?_) #[true, true, true, true, false, false, false, false, false, false, false, false] rfl rfl (any_of HT_.out (by kernel_rfl)) (fun _ _ _ h => h) (Or.inl ⟨by rfl, ?_⟩) ?_ ?_
            rotate_left
            ·
             intro w'
             go_simp
             with_reducible rfl
            rotate_left
            ·
             simp only [Act.put, List.setIfInBounds_toArray, List.set_cons_zero, List.set_cons_succ, i64_w, i32_w]
             rfl
            refine pure_ (i := 5) (N := some 117) (v := ?_) (a' := ?_) #[true, true, true, true, false, true, false, false, false, false, false, false] rfl rfl (any_of HT_.out (by kernel_rfl)) (fun _ _ _ h => h) (Or.inl ⟨by rfl, ?_⟩) ?_ ?_
            rotate_left
            ·
             intro w'
             go_simp
             with_reducible rfl
            rotate_left
            ·
             simp only [Act.put, List.setIfInBounds_toArray, List.set_cons_zero, List.set_cons_succ, i64_w, i32_w]
             rfl
            refine pure_ (i := 6) (N := some 118) (v := ?_) (a' := ?_) #[true, true, true, true, false, true, true, false, false, false, false, false] rfl rfl (any_of HT_.out (by kernel_rfl)) (fun _ _ _ h => h) (Or.inl ⟨by rfl, ?_⟩) ?_ ?_
            rotate_left
            ·
             intro w'
             go_simp
             with_reducible rfl
            rotate_left
            ·
             simp only [Act.put, List.setIfInBounds_toArray, List.set_cons_zero, List.set_cons_succ, i64_w, i32_w]
             rfl
            refine pure_ (i := 7) (N := some 119) (v := ?_) (a' := ?_) #[true, true, true, true, false, true, true, true, false, false, false, false] rfl rfl (any_of HT_.out (by kernel_rfl)) (fun _ _ _ h => h) (Or.inl ⟨by rfl, ?_⟩) ?_ ?_
            rotate_left
            ·
             intro w'
             go_simp
             with_reducible rfl
            rotate_left
            ·
             simp only [Act.put, List.setIfInBounds_toArray, List.set_cons_zero, List.set_cons_succ, i64_w, i32_w]
             rfl
            refine take_ (i := 4) (N := some 116) (v := ?_) (a' := ?_) #[true, true, true, true, true, true, true, true, false, false, false, false] rfl rfl (take_ofW HT_.out HW_.out (by kernel_rfl)) (fun _ _ _ h => h) (Or.inl ⟨by rfl, ?_⟩) hHeld ?_ ?_
            rotate_left
            ·
             rintro w' ⟨s0, s1⟩
             go_simp
             with_reducible rfl
            rotate_left
            ·
             simp only [Act.put, List.setIfInBounds_toArray, List.set_cons_zero, List.set_cons_succ, i64_w, i32_w]
             rfl
            refine take_ (i := 8) (N := some 120) (v := ?_) (a' := ?_) #[true, true, true, true, true, true, true, true, true, false, false, false] rfl rfl (take_ofW HT_.out HW_.out (by kernel_rfl)) (fun _ _ _ h => h) (Or.inl ⟨by rfl, ?_⟩) hHeld ?_ ?_
            rotate_left
            ·
             rintro w' ⟨s0, s1⟩
             go_simp
             with_reducible rfl
            rotate_left
            ·
             simp only [Act.put, List.setIfInBounds_toArray, List.set_cons_zero, List.set_cons_succ, i64_w, i32_w]
             rfl
            refine pure_ (i := 9) (N := some 121) (v := ?_) (a' := ?_) #[true, true, true, true, true, true, true, true, true, true, false, false] rfl rfl (any_of HT_.out (by kernel_rfl)) (fun _ _ _ h => h) (Or.inl ⟨by rfl, ?_⟩) ?_ ?_
            rotate_left
            ·
             intro w'
             go_simp
             with_reducible rfl
            rotate_left
            ·
             simp only [Act.put, List.setIfInBounds_toArray, List.set_cons_zero, List.set_cons_succ, i64_w, i32_w]
             rfl
            refine pure_ (i := 10) (N := some 122) (v := ?_) (a' := ?_) #[true, true, true, true, true, true, true, true, true, true, true, false] rfl rfl (any_of HT_.out (by kernel_rfl)) (fun _ _ _ h => h) (Or.inl ⟨by rfl, ?_⟩) ?_ ?_
            rotate_left
            ·
             intro w'
             go_simp
             with_reducible rfl
            rotate_left
            ·
             simp only [Act.put, List.setIfInBounds_toArray, List.set_cons_zero, List.set_cons_succ, i64_w, i32_w]
             rfl
            refine pure_ (i := 11) (N := some 20) (v := ?_) (a' := ?_) #[true, true, true, true, true, true, true, true, true, true, true, true] rfl rfl (any_of HT_.out (by kernel_rfl)) (fun _ _ _ h => h) (Or.inl ⟨by rfl, ?_⟩) ?_ ?_
            rotate_left
            ·
             intro w'
             go_simp
             with_reducible rfl
            rotate_left
            ·
             simp only [Act.put, List.setIfInBounds_toArray, List.set_cons_zero, List.set_cons_succ, i64_w, i32_w]
             rfl
            refine done_ (done_of HT_.out (by kernel_rfl)) ?_
            try go_wp2
            go_roundg k2
            case measure => have := HJ10.out; have := HK2.out; omega
            case rel => exact ⟨(wrap64 (x20_2 + (wrap64 ((rd t441 x21_2) * (rd t447 x21_2))))), (wrap64 (x21_2 + 1)), (by first | rfl | (simp; done) | (simp [*]; done)), (by first | rfl | (simp; done) | (simp [*]; done)), H', ⟨by have := HJ10.out; have := HK2.out; omega⟩, ⟨by (with_reducible repeat (first | apply sa_ | apply sn_ | apply sd_)); exact HO_3.out⟩, ⟨by (with_reducible repeat (first | apply ra_ | apply rn_ | apply rd_)); exact HO_6.out⟩, ⟨by (with_reducible repeat (first | apply ra_ | apply rn_ | apply rd_)); exact HO_8.out⟩, ⟨by (with_reducible repeat (first | apply sa_ | apply sn_ | apply sd_)); exact HO_12.out⟩, ⟨by (with_reducible repeat (first | apply ra_ | apply rn_ | apply rd_)); exact HO_16.out⟩, ⟨by repeat (first | (with_reducible first | exact HB.out | apply ba_ | apply pw_below_drewN | apply bd_) | exact HB.out)⟩⟩
           ·
            rw [if_neg c41] at H
            exact absurd H (by simp)
          ·
           rw [if_neg c40] at H
           exact absurd H (by simp)
         ·
          rw [if_neg c39] at H
          have c39b0 : decide (x21_2 < (t447.length : Int)) = false := decide_eq_false c39
          clear c39
          (first | rw [c39b0] | (simp only [i64_w, i32_w]; rw [c39b0]) | skip)
          by_cases c44 : x20_2 > t442
          ·
           rw [if_pos c44] at H
           have c44b0 : decide (t442 < x20_2) = true := decide_eq_true c44
           clear c44
           obtain rfl := Option.some.inj H
           obtain ⟨Ao45, co45, eo45⟩ := rs_ HO_8.out
           subst eo45
           go_wp2
           go_ret
           exact ⟨by first | rfl | (simp [errW_none, errW_some] <;> rfl) | (simp [*, errW_none, errW_some] <;> rfl), by repeat (first | (with_reducible first | exact HB.out | apply ba_ | apply pw_below_drewN | apply bd_) | exact HB.out)⟩
          ·
           rw [if_neg c44] at H
           have c44b0 : decide (t442 < x20_2) = false := decide_eq_false c44
           clear c44
           by_cases c46 : (t447.length : Int) = (t438.length : Int)
           ·
            rw [if_pos c46] at H
            have c46b0 : ((t447.length : Int) == (t438.length : Int)) = true := beq_iff_eq.mpr c46
            have c46b1 : ((t447.length : Int) != (t438.length : Int)) = false := bne_eq_false_iff_eq.mpr c46
            have c46b2 : (t447.length == t438.length) = true := by first | simpa using c46 | (simp at c46 ⊢; omega)
            clear c46
            have H' := am_ H
            clear H
            obtain ⟨Ao47, co47, eo47⟩ := rs_ HO_8.out
            subst eo47
            go_wp2
            go_meet
            case rel => exact ⟨_, H', ⟨by have := HJ10.out; have := HK2.out; first | omega | exact Nat.le_refl _⟩, ⟨by (with_reducible repeat (first | apply sa_ | apply sn_ | apply sd_)); exact sm_ HO_12.out (fun _ hk => hk.2.2.2)⟩, ⟨by (with_reducible repeat (first | apply ra_ | apply rn_ | apply rd_)); exact rm_ HO_16.out (fun _ hk => trivial)⟩, ⟨by repeat (first | (with_reducible first | exact HB.out | apply ba_ | apply pw_below_drewN | apply bd_) | exact HB.out)⟩⟩
           ·
            rw [if_neg c46] at H
            have c46b0 : ((t447.length : Int) == (t438.length : Int)) = false := beq_eq_false_iff_ne.mpr c46
            have c46b1 : ((t447.length : Int) != (t438.length : Int)) = true := bne_iff_ne.mpr c46
            have c46b2 : (t447.length == t438.length) = false := by first | simpa using c46 | (simp at c46 ⊢; omega)
            obtain rfl := Option.some.inj H
            obtain ⟨Ao48, co48, eo48⟩ := rs_ HO_8.out
            subst eo48
            go_wp2
            go_ret
            exact ⟨by first | rfl | (simp [errW_none, errW_some] <;> rfl) | (simp [*, errW_none, errW_some] <;> rfl), by repeat (first | (with_reducible first | exact HB.out | apply ba_ | apply pw_below_drewN | apply bd_) | exact HB.out)⟩
      ·
       replace c38 := Bool.eq_false_iff.mpr c38
       subst c38
       have H1 : (laws_FnBudgets.j2 kj10 t458 t459 t460 t461 t464 t465) = some r := by rw [if_neg (show ¬ (false = true) by decide)] at H; exact H
       clear H
       have H := H1
       clear H1
       have H' := am_ H
       clear H
       go_wp2
       go_meet
       case rel => exact ⟨_, H', ⟨by have := HJ10.out; first | omega | exact Nat.le_refl _⟩, ⟨by (with_reducible repeat (first | apply sa_ | apply sn_ | apply sd_)); exact sm_ HO_12.out (fun _ hk => hk.2.2.2)⟩, ⟨by (with_reducible repeat (first | apply ra_ | apply rn_ | apply rd_)); exact rm_ HO_16.out (fun _ hk => trivial)⟩, ⟨by repeat (first | (with_reducible first | exact HB.out | apply ba_ | apply pw_below_drewN | apply bd_) | exact HB.out)⟩⟩
     case rest =>
      clear HC37
      try clear c1
      try clear c2
      try clear p2
      try clear c3
      try clear c4
      try clear p4
      try clear q4
      try clear hx4
      try clear c5
      try clear c6
      try clear p6
      try clear c7
      try clear c8
      try clear c9
      try clear c10
      try clear c11
      try clear c23
      try clear c23b0
      try clear c23b1
      try clear c23b2
      try clear c25
      try clear c26
      try clear c26b0
      try clear c26b1
      try clear c26b2
      try clear c36
      try clear c38
      try clear c39
      try clear c39b0
      try clear c40
      try clear c40b0
      try clear c41
      try clear c41b0
      try clear c44
      try clear c44b0
      try clear c46
      try clear c46b0
      try clear c46b1
      try clear c46b2
      try clear p47
      try clear q47
      try clear hx47
      try clear hx474_0
      try clear hx475_0
      try clear p2
      try clear p474
      try clear p475
      try clear q474
      try clear q475
      obtain ⟨kq, HA, HJ36, HO_12, HO_16, HB⟩ := hcut
      cases kq with
      | zero => exact absurd HA.out (by simp [laws_FnBudgets.j2])
      | succ kj36 =>
       have H := HA.out
       clear HA
       simp only [laws_FnBudgets.j2] at H
       by_cases c49 : t465 = true
       ·
        subst c49
        have H1 : (laws_FnBudgets.l1 kj36 t458 t459 t460 t461 t464 (([] : List Int)) 0) = some r := by rw [if_pos rfl] at H; exact H
        clear H
        have H := H1
        clear H1
        obtain ⟨y476, hy476⟩ : ∃ y_ : List Int, y_ = (([] : List Int)) := ⟨_, rfl⟩
        replace H : (laws_FnBudgets.l1 kj36 t458 t459 t460 t461 t464 y476 0) = some r := by first | (rw [hy476]; with_reducible exact H) | (have H2_ := (Option.bind_some _ _).symm.trans H; rw [hy476]; with_reducible exact H2_) | (have H2_ := (Option.bind_some _ _).symm.trans H; with_reducible exact H2_) | with_reducible exact H | (rw [hy476]; exact H) | exact H
        have Ny476 := am_ hy476
        clear hy476
        have H' := am_ H
        clear H
        go_wp2_with (first | ((with_reducible refine gate_dst (N := 135) rfl ?_); (try (refine gate_guard (by rfl) ?_; dsimp only)); refine Kd.R_lit (Kd.int .i64) _ 3 ?hg (N := 135) ?hd (xs := ([] : List Int)) (inner := []) (ok := fun _ => True) (okp := fun _ => True) ?hr ?hp (fun _ hk => hk) trivial (Below.refl _ _) (Nat.le_refl _) (by simp) ?_; (case hd => rfl); (case hg => rfl); (case hr => first | (go_simp; done) | (go_simp; rfl)); (case hp => exact (Reps.none _ _)); intro v477 w50 ho51 hb hg_ hnew_; clear hg_ hnew_; (first | rw [← Ny476.out] at ho51 | (simp only [Int.reduceToNat] at ho51; rw [← Ny476.out] at ho51)); have n0_ := am_ (Kd.S_elder' (by (with_reducible repeat (first | apply sa_ | apply sn_ | apply sd_)); exact HO_12.out) (Kd.R_base ho51) hb); have n1_ := am_ (Kd.R_elder' (by (with_reducible repeat (first | apply ra_ | apply rn_ | apply rd_)); exact HO_16.out) (Kd.R_base ho51) hb); have n2_ := am_ (Kd.R_lower (Kd.R_new' ho51 (Kd.R_lt (by (with_reducible repeat (first | apply ra_ | apply rn_ | apply rd_)); exact HO_16.out))) (bz_ (by repeat (first | (with_reducible first | exact HB.out | apply ba_ | apply pw_below_drewN | apply bd_) | exact HB.out)))); have n3_ := am_ (bp_ (by repeat (first | (with_reducible first | exact HB.out | apply ba_ | apply pw_below_drewN | apply bd_) | exact HB.out)) hb); clear HO_12; clear HO_16; clear HB; have HO_12 := n0_; have HO_16 := n1_; have HO478 := n2_; have HB := n3_; clear n0_ n1_ n2_ n3_; clear hb ho51))
        go_loopg [22, 23] kj36 (fun kq v22 v23 w' => ∃ (x22_3 : List Int) (x23_3 : Int), v23 = .int .i64 x23_3 ∧ Aside0 (laws_FnBudgets.l1 kq t458 t459 t460 t461 t464 x22_3 x23_3 = some r) ∧ Aside0 (kq ≤ kj36) ∧ Aside0 (Kd.S (Kd.slice 3 (Kd.int .i64)) 25 w' w.heap.size (fun k_ => some k_ ≠ (v466 : Value).ownBlock ∧ some k_ ≠ (v22 : Value).ownBlock) (.slice Ao20 t458.length co20) t458) ∧ Aside0 (Kd.R (Kd.int .i64) 3 w' w.heap.size (fun k_ => some k_ ≠ (v22 : Value).ownBlock) v466 t464) ∧ Aside0 (Kd.R (Kd.int .i64) 3 w' w.heap.size (fun k_ => some k_ ≠ (v466 : Value).ownBlock) v22 x22_3) ∧ Aside0 (Below w.heap.size w w'))
        case atStart => exact ⟨(y476), (0), (by first | rfl | (simp; done) | (simp [*]; done)), H', ⟨Nat.le_refl _⟩, ⟨by (with_reducible repeat (first | apply sa_ | apply sn_ | apply sd_)); exact HO_12.out⟩, ⟨by (with_reducible repeat (first | apply ra_ | apply rn_ | apply rd_)); exact rm_ HO_16.out (fun _ hk => hk.2)⟩, ⟨by (with_reducible repeat (first | apply ra_ | apply rn_ | apply rd_)); exact rm_ HO478.out (fun _ hk => hk.2)⟩, ⟨by repeat (first | (with_reducible first | exact HB.out | apply ba_ | apply pw_below_drewN | apply bd_) | exact HB.out)⟩⟩
        case round =>
         clear H'
         try clear c1
         try clear c2
         try clear p2
         try clear c3
         try clear c4
         try clear p4
         try clear q4
         try clear hx4
         try clear c5
         try clear c6
         try clear p6
         try clear c7
         try clear c8
         try clear c9
         try clear c10
         try clear c11
         try clear c23
         try clear c23b0
         try clear c23b1
         try clear c23b2
         try clear c25
         try clear c26
         try clear c26b0
         try clear c26b1
         try clear c26b2
         try clear c36
         try clear c38
         try clear c39
         try clear c39b0
         try clear c40
         try clear c40b0
         try clear c41
         try clear c41b0
         try clear c44
         try clear c44b0
         try clear c46
         try clear c46b0
         try clear c46b1
         try clear c46b2
         try clear p47
         try clear q47
         try clear hx47
         try clear c49
         try clear hx474_0
         try clear hx475_0
         try clear p2
         try clear p4
         try clear p47
         try clear p474
         try clear p475
         try clear p6
         try clear q4
         try clear q47
         try clear q474
         try clear q475
         obtain ⟨x22_3, x23_3, rfl, HA, HK3, HO_12, HO_16, HO_22, HB⟩ := hrel
         cases gk with
         | zero => exact absurd HA.out (by simp [laws_FnBudgets.l1])
         | succ k3 =>
          have H := HA.out
          clear HA
          simp only [laws_FnBudgets.l1] at H
          by_cases c52 : x23_3 < (t458.length : Int)
          ·
           rw [if_pos c52] at H
           have c52b0 : decide (x23_3 < (t458.length : Int)) = true := decide_eq_true c52
           clear c52
           by_cases c53 : x22_3.length < 17592186044416
           ·
            rw [if_pos c53] at H
            have LMc53 := am_ c53
            clear c53
            obtain ⟨y479, hy479⟩ : ∃ y_ : List Int, y_ = (x22_3 ++ [1]) := ⟨_, rfl⟩
            replace H : (laws_FnBudgets.l1 k3 t458 t459 t460 t461 t464 y479 (wrap64 (x23_3 + 1))) = some r := by first | (rw [hy479]; with_reducible exact H) | (have H2_ := (Option.bind_some _ _).symm.trans H; rw [hy479]; with_reducible exact H2_) | (have H2_ := (Option.bind_some _ _).symm.trans H; with_reducible exact H2_) | with_reducible exact H | (rw [hy479]; exact H) | exact H
            have Ny479 := am_ hy479
            clear hy479
            have H' := am_ H
            clear H
            go_wp2_with (first | ((with_reducible refine gate_builtin (b := .append) (xs := #[.tmp 142, .tmp 143]) rfl ?_); (try (refine gate_guard (by rfl) ?_; dsimp only)); at_builtin; refine Kd.R_append (Kd.int .i64) (w0 := w) w.heap.size rfl (.tmp 142) (.tmp 143) 25 3 (.int .i64 0) 8 rfl Try.underlying25 info3 rfl (by decide) (by omega) u22 x22_3 1 [.int .i64 1] (fun k_ => some k_ ≠ (v466 : Value).ownBlock) (fun _ => False) rfl rfl ?aP (fun _ hk => hk.elim) ?aF ?aO ?aB ?aS ?aL ?_; (case aP => exact rfl); (case aB => exact (by repeat (first | (with_reducible first | exact HB.out | apply ba_ | apply pw_below_drewN | apply bd_) | exact HB.out))); (case aF => exact (fun k_ hk => Kd.fresh' (Kd.R_lt (by (with_reducible repeat (first | apply ra_ | apply rn_ | apply rd_)); exact HO_16.out)) k_ hk)); (case aO => exact (by (with_reducible repeat (first | apply ra_ | apply rn_ | apply rd_)); exact HO_22.out)); (case aS => exact (bz_ (by repeat (first | (with_reducible first | exact HB.out | apply ba_ | apply pw_below_drewN | apply bd_) | exact HB.out)))); (case aL => have := LMc53.out; omega); intro v480 w54 ho hb hg hat; rw [← Ny479.out] at ho; have n0_ := am_ (Kd.S_after (ok := (fun k_ => some k_ ≠ (v466 : Value).ownBlock)) (by (with_reducible repeat (first | apply sa_ | apply sn_ | apply sd_)); exact HO_12.out) hg hat); have n1_ := am_ (Kd.R_after (ok := (fun _ => True)) (by (with_reducible repeat (first | apply ra_ | apply rn_ | apply rd_)); exact rm_ HO_16.out (fun _ hk => ⟨trivial, hk⟩)) hg hat); have n2_ := am_ (hb); have n3_ := am_ (ho); clear HO_12; clear HO_16; clear HB; clear HO_22; have HO_12 := n0_; have HO_16 := n1_; have HB := n2_; have HO481 := n3_; clear n0_ n1_ n2_ n3_; clear ho hb hg hat))
            go_roundg k3
            case measure => have := HJ10.out; have := HJ36.out; have := HK3.out; omega
            case rel => exact ⟨(y479), (wrap64 (x23_3 + 1)), (by first | rfl | (simp; done) | (simp [*]; done)), H', ⟨by have := HJ10.out; have := HJ36.out; have := HK3.out; omega⟩, ⟨by (with_reducible repeat (first | apply sa_ | apply sn_ | apply sd_)); exact HO_12.out⟩, ⟨by (with_reducible repeat (first | apply ra_ | apply rn_ | apply rd_)); exact rm_ HO_16.out (fun _ hk => hk.2)⟩, ⟨by (with_reducible repeat (first | apply ra_ | apply rn_ | apply rd_)); exact HO481.out⟩, ⟨by repeat (first | (with_reducible first | exact HB.out | apply ba_ | apply pw_below_drewN | apply bd_) | exact HB.out)⟩⟩
           ·
            rw [if_neg c53] at H
            exact absurd H (by simp)
          ·
           rw [if_neg c52] at H
           have c52b0 : decide (x23_3 < (t458.length : Int)) = false := decide_eq_false c52
           clear c52
           replace H := Option.bind_eq_some_iff.mp H
           obtain ⟨⟨t482, t483⟩, A550, H⟩ := H
           replace H : (laws_FnBudgets.l2 k3 t458 t459 t460 t461 t464 t482 t483 0 0 0) = some r := H
           have A55 := am_ A550
           clear A550
           have H' := am_ H
           clear H
           obtain ⟨Ao56, co56, eo56⟩ := rs_ HO_22.out
           subst eo56
           go_wp2_with (first | ((with_reducible refine gc_ (f := 6) rfl ?_); refine goesL_ (some 151) rfl rfl Try.func6 (by kernel_rfl) rfl #[.slice Ao20 t458.length co20, .int .i64 t459, .int .i64 t460, .slice Ao56 x22_3.length co56, .int .i64 t461] rfl (by (try simp only [List.map_toArray, List.map_cons, List.map_nil]); first | done | rfl | (simp only [List.length_drop, List.length_take]; rfl)) ?_; (with_reducible refine (impl_BudgetOrders.calls k3 _ _ t458 t459 t460 _ _ x22_3 t461 t482 t483 _ ?side1 ?side2 ?side3 ?side4 A55.out).mono ?_); (case side1 => repeat (first | exact (sr_ HO_12.out).2.2 | (with_reducible refine ca_ ?_ _) | (with_reducible refine cn_ ?_ _) | (with_reducible refine cd_ ?_))); (case side2 => exact (sr_ HO_12.out).2.1); (case side3 => repeat (first | exact (rr_ HO_22.out).2.2 | (with_reducible refine ca_ ?_ _) | (with_reducible refine cn_ ?_ _) | (with_reducible refine cd_ ?_))); (case side4 => exact (rr_ HO_22.out).2.1); rintro e w57 ⟨v484, rfl, ho0, hb⟩; refine ⟨_, rfl, ?_⟩; have n0_ := am_ (Kd.S_elder' (by (with_reducible repeat (first | apply sa_ | apply sn_ | apply sd_)); exact HO_12.out) (Kd.R_base ho0) hb); have n1_ := am_ (Kd.R_elder' (by (with_reducible repeat (first | apply ra_ | apply rn_ | apply rd_)); exact HO_16.out) (Kd.R_base ho0) hb); have n2_ := am_ (Kd.R_elder' (by (with_reducible repeat (first | apply ra_ | apply rn_ | apply rd_)); exact HO_22.out) (Kd.R_base ho0) hb); have n3_ := am_ (Kd.R_lower (Kd.R_new' (Kd.R_new' ho0 (Kd.R_lt (by (with_reducible repeat (first | apply ra_ | apply rn_ | apply rd_)); exact HO_16.out))) (Kd.R_lt (by (with_reducible repeat (first | apply ra_ | apply rn_ | apply rd_)); exact HO_22.out))) (bz_ (by repeat (first | (with_reducible first | exact HB.out | apply ba_ | apply pw_below_drewN | apply bd_) | exact HB.out)))); have n4_ := am_ (bp_ (by repeat (first | (with_reducible first | exact HB.out | apply ba_ | apply pw_below_drewN | apply bd_) | exact HB.out)) hb); clear HO_12; clear HO_16; clear HO_22; clear HB; have HO_12 := n0_; have HO_16 := n1_; have HO_22 := n2_; have HO485 := n3_; have HB := n4_; clear n0_ n1_ n2_ n3_ n4_; (try clear hb); (try clear hb2); (try clear hk); (try clear hi); (try clear ho0)))
           go_loopg [26, 27, 28] k3 (fun kq v26 v27 v28 w' => ∃ (x26_4 : Int) (x27_4 : Int) (x28_4 : Int), v26 = .int .i64 x26_4 ∧ v27 = .int .i64 x27_4 ∧ v28 = .int .i64 x28_4 ∧ Aside0 (laws_FnBudgets.l2 kq t458 t459 t460 t461 t464 t482 t483 x26_4 x27_4 x28_4 = some r) ∧ Aside0 (kq ≤ k3) ∧ Aside0 (Kd.S (Kd.slice 3 (Kd.int .i64)) 25 w' w.heap.size (fun k_ => some k_ ≠ (v466 : Value).ownBlock ∧ some k_ ≠ (v484 : Value).ownBlock) (.slice Ao20 t458.length co20) t458) ∧ Aside0 (Kd.R (Kd.int .i64) 3 w' w.heap.size (fun k_ => some k_ ≠ (v484 : Value).ownBlock) v466 t464) ∧ Aside0 (Kd.R (Kd.int .i64) 3 w' w.heap.size (fun k_ => some k_ ≠ (v466 : Value).ownBlock) v484 t482) ∧ Aside0 (Below w.heap.size w w'))
           case atStart => exact ⟨(0), (0), (0), (by first | rfl | (simp; done) | (simp [*]; done)), (by first | rfl | (simp; done) | (simp [*]; done)), (by first | rfl | (simp; done) | (simp [*]; done)), H', ⟨Nat.le_refl _⟩, ⟨by (with_reducible repeat (first | apply sa_ | apply sn_ | apply sd_)); exact sm_ HO_12.out (fun _ hk => ⟨hk.1.1, hk.2⟩)⟩, ⟨by (with_reducible repeat (first | apply ra_ | apply rn_ | apply rd_)); exact rm_ HO_16.out (fun _ hk => hk.2)⟩, ⟨by (with_reducible repeat (first | apply ra_ | apply rn_ | apply rd_)); exact rm_ HO485.out (fun _ hk => hk.1.2)⟩, ⟨by repeat (first | (with_reducible first | exact HB.out | apply ba_ | apply pw_below_drewN | apply bd_) | exact HB.out)⟩⟩
           case round =>
            clear H'
            try clear c1
            try clear c2
            try clear p2
            try clear c3
            try clear c4
            try clear p4
            try clear q4
            try clear hx4
            try clear c5
            try clear c6
            try clear p6
            try clear c7
            try clear c8
            try clear c9
            try clear c10
            try clear c11
            try clear c23
            try clear c23b0
            try clear c23b1
            try clear c23b2
            try clear c25
            try clear c26
            try clear c26b0
            try clear c26b1
            try clear c26b2
            try clear c36
            try clear c38
            try clear c39
            try clear c39b0
            try clear c40
            try clear c40b0
            try clear c41
            try clear c41b0
            try clear c44
            try clear c44b0
            try clear c46
            try clear c46b0
            try clear c46b1
            try clear c46b2
            try clear p47
            try clear q47
            try clear hx47
            try clear c49
            try clear c52
            try clear c52b0
            try clear c53
            try clear hx474_0
            try clear hx475_0
            try clear p2
            try clear p4
            try clear p47
            try clear p474
            try clear p475
            try clear p6
            try clear q4
            try clear q47
            try clear q474
            try clear q475
            obtain ⟨x26_4, x27_4, x28_4, rfl, rfl, rfl, HA, HK4, HO_12, HO_16, HO_24, HB⟩ := hrel
            cases gk with
            | zero => exact absurd HA.out (by simp [laws_FnBudgets.l2])
            | succ k4 =>
             have H := HA.out
             clear HA
             simp only [laws_FnBudgets.l2] at H
             have HC58 := am_ H
             clear H
             go_upto_region 29 with (fail)
             go_cut [160] (fun v160 wc => ∃ (kq : Nat) (x160_57 : Bool), v160 = .bool x160_57 ∧ Aside0 (laws_FnBudgets.j5 kq t458 t459 t460 t461 t464 t482 t483 x26_4 x27_4 x28_4 x160_57 = some r) ∧ Aside0 (kq ≤ k4) ∧ Aside0 (Kd.S (Kd.slice 3 (Kd.int .i64)) 25 wc w.heap.size (fun k_ => some k_ ≠ (v466 : Value).ownBlock ∧ some k_ ≠ (v484 : Value).ownBlock) (.slice Ao20 t458.length co20) t458) ∧ Aside0 (Kd.R (Kd.int .i64) 3 wc w.heap.size (fun k_ => some k_ ≠ (v484 : Value).ownBlock) v466 t464) ∧ Aside0 (Kd.R (Kd.int .i64) 3 wc w.heap.size (fun k_ => some k_ ≠ (v466 : Value).ownBlock) v484 t482) ∧ Aside0 (Below w.heap.size w wc))
             case first =>
              have H := HC58.out
              clear HC58
              by_cases c59 : t483 = true
              ·
               subst c59
               have H1 : (laws_FnBudgets.j5 k4 t458 t459 t460 t461 t464 t482 true x26_4 x27_4 x28_4 (decide (x28_4 < (t458.length : Int)))) = some r := by rw [if_pos rfl] at H; exact H
               clear H
               have H := H1
               clear H1
               have H' := am_ H
               clear H
               go_wp2
               go_meet
               case rel => exact ⟨_, (decide (x28_4 < (t458.length : Int))), (by first | rfl | (simp; done) | (simp [*]; done)), H', ⟨by have := HJ10.out; have := HJ36.out; have := HK3.out; have := HK4.out; first | omega | exact Nat.le_refl _⟩, ⟨by (with_reducible repeat (first | apply sa_ | apply sn_ | apply sd_)); exact HO_12.out⟩, ⟨by (with_reducible repeat (first | apply ra_ | apply rn_ | apply rd_)); exact HO_16.out⟩, ⟨by (with_reducible repeat (first | apply ra_ | apply rn_ | apply rd_)); exact HO_24.out⟩, ⟨by repeat (first | (with_reducible first | exact HB.out | apply ba_ | apply pw_below_drewN | apply bd_) | exact HB.out)⟩⟩
              ·
               replace c59 := Bool.eq_false_iff.mpr c59
               subst c59
               have H1 : (laws_FnBudgets.j5 k4 t458 t459 t460 t461 t464 t482 false x26_4 x27_4 x28_4 false) = some r := by rw [if_neg (show ¬ (false = true) by decide)] at H; exact H
               clear H
               have H := H1
               clear H1
               have H' := am_ H
               clear H
               go_wp2
               go_meet
               case rel => exact ⟨_, (false), (by first | rfl | (simp; done) | (simp [*]; done)), H', ⟨by have := HJ10.out; have := HJ36.out; have := HK3.out; have := HK4.out; first | omega | exact Nat.le_refl _⟩, ⟨by (with_reducible repeat (first | apply sa_ | apply sn_ | apply sd_)); exact HO_12.out⟩, ⟨by (with_reducible repeat (first | apply ra_ | apply rn_ | apply rd_)); exact HO_16.out⟩, ⟨by (with_reducible repeat (first | apply ra_ | apply rn_ | apply rd_)); exact HO_24.out⟩, ⟨by repeat (first | (with_reducible first | exact HB.out | apply ba_ | apply pw_below_drewN | apply bd_) | exact HB.out)⟩⟩
             case rest =>
              clear HC58
              try clear c1
              try clear c2
              try clear p2
              try clear c3
              try clear c4
              try clear p4
              try clear q4
              try clear hx4
              try clear c5
              try clear c6
              try clear p6
              try clear c7
              try clear c8
              try clear c9
              try clear c10
              try clear c11
              try clear c23
              try clear c23b0
              try clear c23b1
              try clear c23b2
              try clear c25
              try clear c26
              try clear c26b0
              try clear c26b1
              try clear c26b2
              try clear c36
              try clear c38
              try clear c39
              try clear c39b0
              try clear c40
              try clear c40b0
              try clear c41
              try clear c41b0
              try clear c44
              try clear c44b0
              try clear c46
              try clear c46b0
              try clear c46b1
              try clear c46b2
              try clear p47
              try clear q47
              try clear hx47
              try clear c49
              try clear c52
              try clear c52b0
              try clear c53
              try clear c59
              try clear hx474_0
              try clear hx475_0
              try clear p2
              try clear p4
              try clear p47
              try clear p474
              try clear p475
              try clear p6
              try clear q4
              try clear q47
              try clear q474
              try clear q475
              obtain ⟨kq, x160_57, rfl, HA, HJ57, HO_12, HO_16, HO_24, HB⟩ := hcut
              cases kq with
              | zero => exact absurd HA.out (by simp [laws_FnBudgets.j5])
              | succ kj57 =>
               have H := HA.out
               clear HA
               simp only [laws_FnBudgets.j5] at H
               by_cases c60 : x160_57 = true
               ·
                subst c60
                have H1 : (if 0 ≤ x28_4 then (if x28_4 < (t458.length : Int) then (if x28_4 < (t464.length : Int) then ((impl_CostSum.f kj57 (rd_L2 t458 x28_4) t459 t460 (rd t464 x28_4)).bind fun bt488 => (if x28_4 < (t482.length : Int) then ((impl_CostSum.f kj57 (rd_L2 t458 x28_4) t459 t460 (rd t482 x28_4)).bind fun bt492 => (laws_FnBudgets.l2 kj57 t458 t459 t460 t461 t464 t482 t483 (wrap64 (x26_4 + bt488.1)) (wrap64 (x27_4 + bt492.1)) (wrap64 (x28_4 + 1)))) else (none))) else (none)) else (none)) else (none)) = some r := by rw [if_pos rfl] at H; exact H
                clear H
                have H := H1
                clear H1
                by_cases c61 : 0 ≤ x28_4
                ·
                 rw [if_pos c61] at H
                 have c61b0 : decide (0 ≤ x28_4) = true := decide_eq_true c61
                 clear c61
                 by_cases c62 : x28_4 < (t458.length : Int)
                 ·
                  rw [if_pos c62] at H
                  have c62b0 : decide (x28_4 < (t458.length : Int)) = true := decide_eq_true c62
                  clear c62
                  by_cases c63 : x28_4 < (t464.length : Int)
                  ·
                   rw [if_pos c63] at H
                   have c63b0 : decide (x28_4 < (t464.length : Int)) = true := decide_eq_true c63
                   clear c63
                   replace H := Option.bind_eq_some_iff.mp H
                   obtain ⟨⟨t488, t489⟩, A640, H⟩ := H
                   replace H : (if x28_4 < (t482.length : Int) then ((impl_CostSum.f kj57 (rd_L2 t458 x28_4) t459 t460 (rd t482 x28_4)).bind fun bt492 => (laws_FnBudgets.l2 kj57 t458 t459 t460 t461 t464 t482 t483 (wrap64 (x26_4 + t488)) (wrap64 (x27_4 + bt492.1)) (wrap64 (x28_4 + 1)))) else (none)) = some r := H
                   have A64 := am_ A640
                   clear A640
                   by_cases c65 : x28_4 < (t482.length : Int)
                   ·
                    rw [if_pos c65] at H
                    have c65b0 : decide (x28_4 < (t482.length : Int)) = true := decide_eq_true c65
                    clear c65
                    replace H := Option.bind_eq_some_iff.mp H
                    obtain ⟨⟨t492, t493⟩, A660, H⟩ := H
                    replace H : (laws_FnBudgets.l2 kj57 t458 t459 t460 t461 t464 t482 t483 (wrap64 (x26_4 + t488)) (wrap64 (x27_4 + t492)) (wrap64 (x28_4 + 1))) = some r := H
                    have A66 := am_ A660
                    clear A660
                    have H' := am_ H
                    clear H
                    try go_wp2
                    have n0_ := am_ (sd_ HO_12.out)
                    have n1_ := am_ (rd_ HO_16.out)
                    have n2_ := am_ (rd_ HO_24.out)
                    have n3_ := am_ (bd_ HB.out)
                    clear HO_12
                    clear HO_16
                    clear HO_24
                    clear HB
                    have HO_12 := n0_
                    have HO_16 := n1_
                    have HO_24 := n2_
                    have HB := n3_
                    clear n0_ n1_ n2_ n3_
                    have p486 : 0 ≤ (x28_4 : Int) := of_decide_eq_true (by first | (with_reducible assumption) | assumption)
                    have q486 : x28_4 < (t458.length : Int) := of_decide_eq_true (by first | (with_reducible assumption) | assumption)
                    obtain ⟨ad486, A486_0, c486_0, e486, hx486_0, hl486_0, hi486_0⟩ := at_L2 (sr_ HO_12.out).2.2 x28_4 p486 q486
                    cases e486
                    obtain ⟨ce486, hce486, hMe486, hcc486⟩ := Kd.S_get HO_12.out [] x28_4 p486 (by first | exact q486 | exact of_decide_eq_true (by first | (with_reducible assumption) | assumption) | (have e_ := (sr_ HO_12.out).1; omega))
                    obtain ⟨ve486_0, rfl, ge486_0⟩ := hMe486
                    have hv486_0 := hcc486 0 _ rfl
                    rw [Nat.add_zero, show ((Kd.slice 3 (Kd.int .i64))).sz = 1 from rfl, Nat.mul_one] at hv486_0
                    replace hv486_0 := Option.some.inj (hv486_0.symm.trans hx486_0)
                    rw [hv486_0] at ge486_0
                    have HL486_0 := am_ (show Kd.R (Kd.int .i64) 3 _ _ _ _ (rd_L2 t458 x28_4) from ge486_0)
                    clear hv486_0 ge486_0
                    clear hcc486 hce486
                    have HR486_0 := am_ hi486_0
                    have HC486_0 := am_ hl486_0
                    clear hi486_0 hl486_0
                    replace p486 := eq_true p486
                    replace q486 := eq_true q486
                    obtain ⟨Ao68, co68, eo68⟩ := rs_ HO_16.out
                    (first | subst eo68 | (injection eo68 with f1_ f2_ f3_; have f4_ := f1_.symm; have f5_ := f3_.symm; clear f1_ f2_ f3_; subst f4_; subst f5_))
                    have p487 : 0 ≤ (x28_4 : Int) := of_decide_eq_true (by first | (with_reducible assumption) | assumption)
                    have q487 : x28_4 < (t464.length : Int) := of_decide_eq_true (by first | (with_reducible assumption) | assumption)
                    obtain ⟨ad487, e487, hx487_0⟩ := Kd.at_int (rr_ HO_16.out).2.2 x28_4 p487 q487
                    cases e487
                    replace p487 := eq_true p487
                    replace q487 := eq_true q487
                    refine start_ (n := 16) (S := fun w' => w'.cell? (ad486.add (x28_4).toNat) = some (.slice A486_0 (rd_L2 t458 x28_4).length c486_0) ∧ w'.cell? (ad487.add (x28_4).toNat) = some (.int .i64 (rd t464 x28_4))) (ds := []) #[false, false, false, false, false, false, false, false, false, false, false, false, false, false, false, false] (by kernel_rfl) rfl rfl ⟨hx486_0, hx487_0⟩ (fun hHeld => ?_); refine with_tabW laws_FnBudgets.tab31 laws_FnBudgets.bits31 (fun HT_ HW_ => ?_)
                    generalize wc.drew = w67 at HO_12 HO_16 HO_24 HB HL486_0 HR486_0 hx486_0 hx487_0 hHeld ⊢
                    refine pure_ (i := 0) (N := some 164) (v := ?_) (a' := ?_) #[true, false, false, false, false, false, false, false, false, false, false, false, false, false, false, false] rfl rfl (any_of HT_.out (by kernel_rfl)) (fun _ _ _ h => h) (Or.inl ⟨by rfl, ?_⟩) ?_ ?_
                    rotate_left
                    ·
                     intro w'
                     go_simp
                     with_reducible rfl
                    rotate_left
                    ·
                     simp only [Act.put, List.setIfInBounds_toArray, List.set_cons_zero, List.set_cons_succ, i64_w, i32_w]
                     rfl
                    refine pure_ (i := 1) (N := some 165) (v := ?_) (a' := ?_) #[true, true, false, false, false, false, false, false, false, false, false, false, false, false, false, false] rfl rfl (any_of HT_.out (by kernel_rfl)) (fun _ _ _ h => h) (Or.inl ⟨by rfl, ?_⟩) ?_ ?_
                    rotate_left
                    ·
                     intro w'
                     go_simp
                     with_reducible rfl
                    rotate_left
                    ·
                     simp only [Act.put, List.setIfInBounds_toArray, List.set_cons_zero, List.set_cons_succ, i64_w, i32_w]
                     rfl
                    refine pure_ (i := 2) (N := some 166) (v := ?_) (a' := ?_) #[true, true, true, false, false, false, false, false, false, false, false, false, false, false, false, false] rfl rfl (any_of HT_.out (by kernel_rfl)) (fun _ _ _ h => h) (Or.inl ⟨by rfl, ?_⟩) ?_ ?_
                    rotate_left
                    ·
                     intro w'
                     go_simp
                     with_reducible rfl
                    rotate_left
                    ·
                     simp only [Act.put, List.setIfInBounds_toArray, List.set_cons_zero, List.set_cons_succ, i64_w, i32_w]
                     rfl
                    refine pure_ (i := 4) (N := some 168) (v := ?_) (a' := ?_) #[true, true, true, false, true, false, false, false, false, false, false, false, false, false, false, false] rfl rfl (any_of HT_.out (by kernel_rfl)) (fun _ _ _ h => h) (Or.inl ⟨by rfl, ?_⟩) ?_ ?_
                    rotate_left
                    ·
                     intro w'
                     go_simp
                     with_reducible rfl
                    rotate_left
                    ·
                     simp only [Act.put, List.setIfInBounds_toArray, List.set_cons_zero, List.set_cons_succ, i64_w, i32_w]
                     rfl
                    refine pure_ (i := 5) (N := some 169) (v := ?_) (a' := ?_) #[true, true, true, false, true, true, false, false, false, false, false, false, false, false, false, false] rfl rfl (any_of HT_.out (by kernel_rfl)) (fun _ _ _ h => h) (Or.inl ⟨by rfl, ?_⟩) ?_ ?_
                    rotate_left
                    ·
                     intro w'
                     go_simp
                     with_reducible rfl
                    rotate_left
                    ·
                     simp only [Act.put, List.setIfInBounds_toArray, List.set_cons_zero, List.set_cons_succ, i64_w, i32_w]
                     rfl
                    refine pure_ (i := 6) (N := some 170) (v := ?_) (a' := ?_) #[true, true, true, false, true, true, true, false, false, false, false, false, false, false, false, false] rfl rfl (any_of HT_.out (by kernel_rfl)) (fun _ _ _ h => h) (Or.inl ⟨by rfl, ?_⟩) ?_ ?_
                    rotate_left
                    ·
                     intro w'
                     go_simp
                     with_reducible rfl
                    rotate_left
                    ·
                     simp only [Act.put, List.setIfInBounds_toArray, List.set_cons_zero, List.set_cons_succ, i64_w, i32_w]
                     rfl
                    refine pure_ (i := 7) (N := some 171) (v := ?_) (a' := ?_) #[true, true, true, false, true, true, true, true, false, false, false, false, false, false, false, false] rfl rfl (any_of HT_.out (by kernel_rfl)) (fun _ _ _ h => h) (Or.inl ⟨by rfl, ?_⟩) ?_ ?_
                    rotate_left
                    ·
                     intro w'
                     go_simp
                     with_reducible rfl
                    rotate_left
                    ·
                     simp only [Act.put, List.setIfInBounds_toArray, List.set_cons_zero, List.set_cons_succ, i64_w, i32_w]
                     rfl
                    refine pure_ (i := 8) (N := some 172) (v := ?_) (a' := ?_) #[true, true, true, false, true, true, true, true, true, false, false, false, false, false, false, false] rfl rfl (any_of HT_.out (by kernel_rfl)) (fun _ _ _ h => h) (Or.inl ⟨by rfl, ?_⟩) ?_ ?_
                    rotate_left
                    ·
                     intro w'
                     go_simp
                     with_reducible rfl
                    rotate_left
                    ·
                     simp only [Act.put, List.setIfInBounds_toArray, List.set_cons_zero, List.set_cons_succ, i64_w, i32_w]
                     rfl
                    refine take_ (i := 3) (N := some 167) (v := ?_) (a' := ?_) #[true, true, true, true, true, true, true, true, true, false, false, false, false, false, false, false] rfl rfl (take_ofW HT_.out HW_.out (by kernel_rfl)) (fun _ _ _ h => h) (Or.inl ⟨by rfl, ?_⟩) hHeld ?_ ?_
                    rotate_left
                    ·
                     rintro w' ⟨s0, s1⟩
                     go_simp
                     with_reducible rfl
                    rotate_left
                    ·
                     simp only [Act.put, List.setIfInBounds_toArray, List.set_cons_zero, List.set_cons_succ, i64_w, i32_w]
                     rfl
                    refine take_ (i := 9) (N := some 173) (v := ?_) (a' := ?_) #[true, true, true, true, true, true, true, true, true, true, false, false, false, false, false, false] rfl rfl (take_ofW HT_.out HW_.out (by kernel_rfl)) (fun _ _ _ h => h) (Or.inl ⟨by rfl, ?_⟩) hHeld ?_ ?_
                    rotate_left
                    ·
                     rintro w' ⟨s0, s1⟩
                     go_simp
                     with_reducible rfl
                    rotate_left
                    ·
                     simp only [Act.put, List.setIfInBounds_toArray, List.set_cons_zero, List.set_cons_succ, i64_w, i32_w]
                     rfl
                    refine one_ (i := 10) (N := some 174) #[true, true, true, true, true, true, true, true, true, true, true, false, false, false, false, false] rfl rfl (one_of HT_.out (by kernel_rfl)) (by decide) (fun K hK => ?_)
                    refine goes_ Try.func13 (by kernel_rfl) rfl #[.slice A486_0 (rd_L2 t458 x28_4).length c486_0, .int .i64 t459, .int .i64 t460, .int .i64 (rd t464 x28_4)] (by rfl) rfl rfl (by (try simp only [List.map_toArray, List.map_cons, List.map_nil]); first | done | rfl | (simp only [List.length_drop, List.length_take]; rfl)) ?_
                    with_reducible refine (impl_CostSum.calls kj57 _ _ (rd_L2 t458 x28_4) t459 t460 (rd t464 x28_4) t488 t489 _ ?side1 ?side2 A64.out).mono ?_
                    (case side1 => repeat (first | exact (by repeat (first | (with_reducible exact HR486_0.out) | (with_reducible refine ca_ ?_ _) | (with_reducible refine cn_ ?_ _) | (with_reducible refine cd_ ?_) | exact HR486_0.out)) | (with_reducible refine ca_ ?_ _) | (with_reducible refine cn_ ?_ _) | (with_reducible refine cd_ ?_)))
                    (case side2 => exact HC486_0.out)
                    rintro e w69 ⟨rfl, hb⟩
                    have HS0_ := (hb.cell (World.block_lt_of_cell? _ _ (hHeld.1))).trans (hHeld.1)
                    have HS1_ := (hb.cell (World.block_lt_of_cell? _ _ (hHeld.2))).trans (hHeld.2)
                    refine ⟨_, rfl, ?_⟩
                    have n0_ := am_ (Kd.S_below (by (with_reducible repeat (first | apply sa_ | apply sn_ | apply sd_)); exact HO_12.out) hb)
                    have n1_ := am_ (rb_ (by (with_reducible repeat (first | apply ra_ | apply rn_ | apply rd_)); exact HO_16.out) hb)
                    have n2_ := am_ (rb_ (by (with_reducible repeat (first | apply ra_ | apply rn_ | apply rd_)); exact HO_24.out) hb)
                    have n3_ := am_ (rb_ (by (with_reducible repeat (first | apply ra_ | apply rn_ | apply rd_)); exact HL486_0.out) hb)
                    have n4_ := am_ (Kd.C_below (by repeat (first | (with_reducible exact HR486_0.out) | (with_reducible refine ca_ ?_ _) | (with_reducible refine cn_ ?_ _) | (with_reducible refine cd_ ?_) | exact HR486_0.out)) hb)
                    have n5_ := am_ (bp_ (by repeat (first | (with_reducible first | exact HB.out | apply ba_ | apply pw_below_drewN | apply bd_) | exact HB.out)) hb)
                    clear HO_12
                    clear HO_16
                    clear HO_24
                    clear HL486_0
                    clear HR486_0
                    clear HB
                    have HO_12 := n0_
                    have HO_16 := n1_
                    have HO_24 := n2_
                    have HL486_0 := n3_
                    have HR486_0 := n4_
                    have HB := n5_
                    clear n0_ n1_ n2_ n3_ n4_ n5_
                    (try clear hb)
                    (try clear hb2)
                    (try clear hk)
                    (try clear hi)
                    refine hK.out _ _ ⟨HS0_, HS1_⟩ (fun hHeld => ?_)
                    clear hK K
                    refine norm_ (a' := ?_) ?_ ?_
                    rotate_left
                    ·
                     show Act.put _ (some 174) _ = _
                     simp only [Act.put, List.setIfInBounds_toArray, List.set_cons_zero, List.set_cons_succ, i64_w, i32_w]
                     rfl
                    refine pure_ (i := 11) (N := some 163) (v := ?_) (a' := ?_) #[true, true, true, true, true, true, true, true, true, true, true, true, false, false, false, false] rfl rfl (any_of HT_.out (by kernel_rfl)) (fun _ _ _ h => h) (Or.inl ⟨by rfl, ?_⟩) ?_ ?_
                    rotate_left
                    ·
                     intro w'
                     go_simp
                     with_reducible rfl
                    rotate_left
                    ·
                     simp only [Act.put, List.setIfInBounds_toArray, List.set_cons_zero, List.set_cons_succ, i64_w, i32_w]
                     rfl
                    refine pure_ (i := 12) (N := some 175) (v := ?_) (a' := ?_) #[true, true, true, true, true, true, true, true, true, true, true, true, true, false, false, false] rfl rfl (any_of HT_.out (by kernel_rfl)) (fun _ _ _ h => h) (Or.inl ⟨by rfl, ?_⟩) ?_ ?_
                    rotate_left
                    ·
                     intro w'
                     go_simp
                     with_reducible rfl
                    rotate_left
                    ·
                     simp only [Act.put, List.setIfInBounds_toArray, List.set_cons_zero, List.set_cons_succ, i64_w, i32_w]
                     rfl
                    refine pure_ (i := 13) (N := some 176) (v := ?_) (a' := ?_) #[true, true, true, true, true, true, true, true, true, true, true, true, true, true, false, false] rfl rfl (any_of HT_.out (by kernel_rfl)) (fun _ _ _ h => h) (Or.inl ⟨by rfl, ?_⟩) ?_ ?_
                    rotate_left
                    ·
                     intro w'
                     go_simp
                     with_reducible rfl
                    rotate_left
                    ·
                     simp only [Act.put, List.setIfInBounds_toArray, List.set_cons_zero, List.set_cons_succ, i64_w, i32_w]
                     rfl
                    refine pure_ (i := 14) (N := some 29) (v := ?_) (a' := ?_) #[true, true, true, true, true, true, true, true, true, true, true, true, true, true, true, false] rfl rfl (any_of HT_.out (by kernel_rfl)) (fun _ _ _ h => h) (Or.inl ⟨by rfl, ?_⟩) ?_ ?_
                    rotate_left
                    ·
                     intro w'
                     go_simp
                     with_reducible rfl
                    rotate_left
                    ·
                     simp only [Act.put, List.setIfInBounds_toArray, List.set_cons_zero, List.set_cons_succ, i64_w, i32_w]
                     rfl
                    refine pure_ (i := 15) (N := some 30) (v := ?_) (a' := ?_) #[true, true, true, true, true, true, true, true, true, true, true, true, true, true, true, true] rfl rfl (any_of HT_.out (by kernel_rfl)) (fun _ _ _ h => h) (Or.inl ⟨by rfl, ?_⟩) ?_ ?_
                    rotate_left
                    ·
                     intro w'
                     go_simp
                     with_reducible rfl
                    rotate_left
                    ·
                     simp only [Act.put, List.setIfInBounds_toArray, List.set_cons_zero, List.set_cons_succ, i64_w, i32_w]
                     rfl
                    refine done_ (done_of HT_.out (by kernel_rfl)) ?_
                    try go_wp2
                    have n0_ := am_ (sd_ HO_12.out)
                    have n1_ := am_ (rd_ HO_16.out)
                    have n2_ := am_ (rd_ HO_24.out)
                    have n3_ := am_ (rd_ HL486_0.out)
                    have n4_ := am_ (cd_ HR486_0.out)
                    have n5_ := am_ (bd_ HB.out)
                    clear HO_12
                    clear HO_16
                    clear HO_24
                    clear HL486_0
                    clear HR486_0
                    clear HB
                    have HO_12 := n0_
                    have HO_16 := n1_
                    have HO_24 := n2_
                    have HL486_0 := n3_
                    have HR486_0 := n4_
                    have HB := n5_
                    clear n0_ n1_ n2_ n3_ n4_ n5_
                    have p490 : 0 ≤ (x28_4 : Int) := of_decide_eq_true (by first | (with_reducible assumption) | assumption)
                    have q490 : x28_4 < (t458.length : Int) := of_decide_eq_true (by first | (with_reducible assumption) | assumption)
                    obtain ⟨ad490, A490_0, c490_0, e490, hx490_0, hl490_0, hi490_0⟩ := at_L2 (sr_ HO_12.out).2.2 x28_4 p490 q490
                    obtain rfl : ad486 = ad490 := (by injection e490)
                    obtain ⟨ce490, hce490, hMe490, hcc490⟩ := Kd.S_get HO_12.out [] x28_4 p490 (by first | exact q490 | exact of_decide_eq_true (by first | (with_reducible assumption) | assumption) | (have e_ := (sr_ HO_12.out).1; omega))
                    obtain ⟨ve490_0, rfl, ge490_0⟩ := hMe490
                    have hv490_0 := hcc490 0 _ rfl
                    rw [Nat.add_zero, show ((Kd.slice 3 (Kd.int .i64))).sz = 1 from rfl, Nat.mul_one] at hv490_0
                    replace hv490_0 := Option.some.inj (hv490_0.symm.trans hx490_0)
                    rw [hv490_0] at ge490_0
                    have HL490_0 := am_ (show Kd.R (Kd.int .i64) 3 _ _ _ _ (rd_L2 t458 x28_4) from ge490_0)
                    clear hv490_0 ge490_0
                    clear hcc490 hce490
                    have HR490_0 := am_ hi490_0
                    have HC490_0 := am_ hl490_0
                    clear hi490_0 hl490_0
                    replace p490 := eq_true p490
                    replace q490 := eq_true q490
                    obtain ⟨Ao71, co71, eo71⟩ := rs_ HO_24.out
                    (first | subst eo71 | (injection eo71 with f1_ f2_ f3_; have f4_ := f1_.symm; have f5_ := f3_.symm; clear f1_ f2_ f3_; subst f4_; subst f5_))
                    have p491 : 0 ≤ (x28_4 : Int) := of_decide_eq_true (by first | (with_reducible assumption) | assumption)
                    have q491 : x28_4 < (t482.length : Int) := of_decide_eq_true (by first | (with_reducible assumption) | assumption)
                    obtain ⟨ad491, e491, hx491_0⟩ := Kd.at_int (rr_ HO_24.out).2.2 x28_4 p491 q491
                    cases e491
                    replace p491 := eq_true p491
                    replace q491 := eq_true q491
                    refine start_ (n := 16) (S := fun w' => w'.cell? (ad486.add (x28_4).toNat) = some (.slice A490_0 (rd_L2 t458 x28_4).length c490_0) ∧ w'.cell? (ad491.add (x28_4).toNat) = some (.int .i64 (rd t482 x28_4))) (ds := []) #[false, false, false, false, false, false, false, false, false, false, false, false, false, false, false, false] (by kernel_rfl) rfl rfl ⟨hx490_0, hx491_0⟩ (fun hHeld => ?_); refine with_tabW laws_FnBudgets.tab32 laws_FnBudgets.bits32 (fun HT_ HW_ => ?_)
                    generalize w69.drew = w70 at HO_12 HO_16 HO_24 HL486_0 HR486_0 HB HL490_0 HR490_0 hx490_0 hx491_0 hHeld ⊢
                    refine pure_ (i := 0) (N := some 178) (v := ?_) (a' := ?_) #[true, false, false, false, false, false, false, false, false, false, false, false, false, false, false, false] rfl rfl (any_of HT_.out (by kernel_rfl)) (fun _ _ _ h => h) (Or.inl ⟨by rfl, ?_⟩) ?_ ?_
                    rotate_left
                    ·
                     intro w'
                     go_simp
                     with_reducible rfl
                    rotate_left
                    ·
                     simp only [Act.put, List.setIfInBounds_toArray, List.set_cons_zero, List.set_cons_succ, i64_w, i32_w]
                     rfl
                    refine pure_ (i := 1) (N := some 179) (v := ?_) (a' := ?_) #[true, true, false, false, false, false, false, false, false, false, false, false, false, false, false, false] rfl rfl (any_of HT_.out (by kernel_rfl)) (fun _ _ _ h => h) (Or.inl ⟨by rfl, ?_⟩) ?_ ?_
                    rotate_left
                    ·
                     intro w'
                     go_simp
                     with_reducible rfl
                    rotate_left
                    ·
                     simp only [Act.put, List.setIfInBounds_toArray, List.set_cons_zero, List.set_cons_succ, i64_w, i32_w]
                     rfl
                    refine pure_ (i := 2) (N := some 180) (v := ?_) (a' := ?_) #[true, true, true, false, false, false, false, false, false, false, false, false, false, false, false, false] rfl rfl (any_of HT_.out (by kernel_rfl)) (fun _ _ _ h => h) (Or.inl ⟨by rfl, ?_⟩) ?_ ?_
                    rotate_left
                    ·
                     intro w'
                     go_simp
                     with_reducible rfl
                    rotate_left
                    ·
                     simp only [Act.put, List.setIfInBounds_toArray, List.set_cons_zero, List.set_cons_succ, i64_w, i32_w]
                     rfl
                    refine pure_ (i := 4) (N := some 182) (v := ?_) (a' := ?_) #[true, true, true, false, true, false, false, false, false, false, false, false, false, false, false, false] rfl rfl (any_of HT_.out (by kernel_rfl)) (fun _ _ _ h => h) (Or.inl ⟨by rfl, ?_⟩) ?_ ?_
                    rotate_left
                    ·
                     intro w'
                     go_simp
                     with_reducible rfl
                    rotate_left
                    ·
                     simp only [Act.put, List.setIfInBounds_toArray, List.set_cons_zero, List.set_cons_succ, i64_w, i32_w]
                     rfl
                    refine pure_ (i := 5) (N := some 183) (v := ?_) (a' := ?_) #[true, true, true, false, true, true, false, false, false, false, false, false, false, false, false, false] rfl rfl (any_of HT_.out (by kernel_rfl)) (fun _ _ _ h => h) (Or.inl ⟨by rfl, ?_⟩) ?_ ?_
                    rotate_left
                    ·
                     intro w'
                     go_simp
                     with_reducible rfl
                    rotate_left
                    ·
                     simp only [Act.put, List.setIfInBounds_toArray, List.set_cons_zero, List.set_cons_succ, i64_w, i32_w]
                     rfl
                    refine pure_ (i := 6) (N := some 184) (v := ?_) (a' := ?_) #[true, true, true, false, true, true, true, false, false, false, false, false, false, false, false, false] rfl rfl (any_of HT_.out (by kernel_rfl)) (fun _ _ _ h => h) (Or.inl ⟨by rfl, ?_⟩) ?_ ?_
                    rotate_left
                    ·
                     intro w'
                     go_simp
                     with_reducible rfl
                    rotate_left
                    ·
                     simp only [Act.put, List.setIfInBounds_toArray, List.set_cons_zero, List.set_cons_succ, i64_w, i32_w]
                     rfl
                    refine pure_ (i := 7) (N := some 185) (v := ?_) (a' := ?_) #[true, true, true, false, true, true, true, true, false, false, false, false, false, false, false, false] rfl rfl (any_of HT_.out (by kernel_rfl)) (fun _ _ _ h => h) (Or.inl ⟨by rfl, ?_⟩) ?_ ?_
                    rotate_left
                    ·
                     intro w'
                     go_simp
                     with_reducible rfl
                    rotate_left
                    ·
                     simp only [Act.put, List.setIfInBounds_toArray, List.set_cons_zero, List.set_cons_succ, i64_w, i32_w]
                     rfl
                    refine pure_ (i := 8) (N := some 186) (v := ?_) (a' := ?_) #[true, true, true, false, true, true, true, true, true, false, false, false, false, false, false, false] rfl rfl (any_of HT_.out (by kernel_rfl)) (fun _ _ _ h => h) (Or.inl ⟨by rfl, ?_⟩) ?_ ?_
                    rotate_left
                    ·
                     intro w'
                     go_simp
                     with_reducible rfl
                    rotate_left
                    ·
                     simp only [Act.put, List.setIfInBounds_toArray, List.set_cons_zero, List.set_cons_succ, i64_w, i32_w]
                     rfl
                    refine take_ (i := 3) (N := some 181) (v := ?_) (a' := ?_) #[true, true, true, true, true, true, true, true, true, false, false, false, false, false, false, false] rfl rfl (take_ofW HT_.out HW_.out (by kernel_rfl)) (fun _ _ _ h => h) (Or.inl ⟨by rfl, ?_⟩) hHeld ?_ ?_
                    rotate_left
                    ·
                     rintro w' ⟨s0, s1⟩
                     go_simp
                     with_reducible rfl
                    rotate_left
                    ·
                     simp only [Act.put, List.setIfInBounds_toArray, List.set_cons_zero, List.set_cons_succ, i64_w, i32_w]
                     rfl
                    refine take_ (i := 9) (N := some 187) (v := ?_) (a' := ?_) #[true, true, true, true, true, true, true, true, true, true, false, false, false, false, false, false] rfl rfl (take_ofW HT_.out HW_.out (by kernel_rfl)) (fun _ _ _ h => h) (Or.inl ⟨by rfl, ?_⟩) hHeld ?_ ?_
                    rotate_left
                    ·
                     rintro w' ⟨s0, s1⟩
                     go_simp
                     with_reducible rfl
                    rotate_left
                    ·
                     simp only [Act.put, List.setIfInBounds_toArray, List.set_cons_zero, List.set_cons_succ, i64_w, i32_w]
                     rfl
                    refine one_ (i := 10) (N := some 188) #[true, true, true, true, true, true, true, true, true, true, true, false, false, false, false, false] rfl rfl (one_of HT_.out (by kernel_rfl)) (by decide) (fun K hK => ?_)
                    refine goes_ Try.func13 (by kernel_rfl) rfl #[.slice A490_0 (rd_L2 t458 x28_4).length c490_0, .int .i64 t459, .int .i64 t460, .int .i64 (rd t482 x28_4)] (by rfl) rfl rfl (by (try simp only [List.map_toArray, List.map_cons, List.map_nil]); first | done | rfl | (simp only [List.length_drop, List.length_take]; rfl)) ?_
                    with_reducible refine (impl_CostSum.calls kj57 _ _ (rd_L2 t458 x28_4) t459 t460 (rd t482 x28_4) t492 t493 _ ?side1 ?side2 A66.out).mono ?_
                    (case side1 => repeat (first | exact (by repeat (first | (with_reducible exact HR490_0.out) | (with_reducible refine ca_ ?_ _) | (with_reducible refine cn_ ?_ _) | (with_reducible refine cd_ ?_) | exact HR490_0.out)) | (with_reducible refine ca_ ?_ _) | (with_reducible refine cn_ ?_ _) | (with_reducible refine cd_ ?_)))
                    (case side2 => exact HC490_0.out)
                    rintro e w72 ⟨rfl, hb⟩
                    have HS0_ := (hb.cell (World.block_lt_of_cell? _ _ (hHeld.1))).trans (hHeld.1)
                    have HS1_ := (hb.cell (World.block_lt_of_cell? _ _ (hHeld.2))).trans (hHeld.2)
                    refine ⟨_, rfl, ?_⟩
                    have n0_ := am_ (Kd.S_below (by (with_reducible repeat (first | apply sa_ | apply sn_ | apply sd_)); exact HO_12.out) hb)
                    have n1_ := am_ (rb_ (by (with_reducible repeat (first | apply ra_ | apply rn_ | apply rd_)); exact HO_16.out) hb)
                    have n2_ := am_ (rb_ (by (with_reducible repeat (first | apply ra_ | apply rn_ | apply rd_)); exact HO_24.out) hb)
                    have n3_ := am_ (rb_ (by (with_reducible repeat (first | apply ra_ | apply rn_ | apply rd_)); exact HL486_0.out) hb)
                    have n4_ := am_ (rb_ (by (with_reducible repeat (first | apply ra_ | apply rn_ | apply rd_)); exact HL490_0.out) hb)
                    have n5_ := am_ (Kd.C_below (by repeat (first | (with_reducible exact HR486_0.out) | (with_reducible refine ca_ ?_ _) | (with_reducible refine cn_ ?_ _) | (with_reducible refine cd_ ?_) | exact HR486_0.out)) hb)
                    have n6_ := am_ (Kd.C_below (by repeat (first | (with_reducible exact HR490_0.out) | (with_reducible refine ca_ ?_ _) | (with_reducible refine cn_ ?_ _) | (with_reducible refine cd_ ?_) | exact HR490_0.out)) hb)
                    have n7_ := am_ (bp_ (by repeat (first | (with_reducible first | exact HB.out | apply ba_ | apply pw_below_drewN | apply bd_) | exact HB.out)) hb)
                    clear HO_12
                    clear HO_16
                    clear HO_24
                    clear HL486_0
                    clear HL490_0
                    clear HR486_0
                    clear HR490_0
                    clear HB
                    have HO_12 := n0_
                    have HO_16 := n1_
                    have HO_24 := n2_
                    have HL486_0 := n3_
                    have HL490_0 := n4_
                    have HR486_0 := n5_
                    have HR490_0 := n6_
                    have HB := n7_
                    clear n0_ n1_ n2_ n3_ n4_ n5_ n6_ n7_
                    (try clear hb)
                    (try clear hb2)
                    (try clear hk)
                    (try clear hi)
                    refine hK.out _ _ ⟨HS0_, HS1_⟩ (fun hHeld => ?_)
                    clear hK K
                    refine norm_ (a' := ?_) ?_ ?_
                    rotate_left
                    ·
                     show Act.put _ (some 188) _ = _
                     simp only [Act.put, List.setIfInBounds_toArray, List.set_cons_zero, List.set_cons_succ, i64_w, i32_w]
                     rfl
                    refine pure_ (i := 11) (N := some 177) (v := ?_) (a' := ?_) #[true, true, true, true, true, true, true, true, true, true, true, true, false, false, false, false] rfl rfl (any_of HT_.out (by kernel_rfl)) (fun _ _ _ h => h) (Or.inl ⟨by rfl, ?_⟩) ?_ ?_
                    rotate_left
                    ·
                     intro w'
                     go_simp
                     with_reducible rfl
                    rotate_left
                    ·
                     simp only [Act.put, List.setIfInBounds_toArray, List.set_cons_zero, List.set_cons_succ, i64_w, i32_w]
                     rfl
                    refine pure_ (i := 12) (N := some 189) (v := ?_) (a' := ?_) #[true, true, true, true, true, true, true, true, true, true, true, true, true, false, false, false] rfl rfl (any_of HT_.out (by kernel_rfl)) (fun _ _ _ h => h) (Or.inl ⟨by rfl, ?_⟩) ?_ ?_
                    rotate_left
                    ·
                     intro w'
                     go_simp
                     with_reducible rfl
                    rotate_left
                    ·
                     simp only [Act.put, List.setIfInBounds_toArray, List.set_cons_zero, List.set_cons_succ, i64_w, i32_w]
                     rfl
                    refine pure_ (i := 13) (N := some 190) (v := ?_) (a' := ?_) #[true, true, true, true, true, true, true, true, true, true, true, true, true, true, false, false] rfl rfl (any_of HT_.out (by kernel_rfl)) (fun _ _ _ h => h) (Or.inl ⟨by rfl, ?_⟩) ?_ ?_
                    rotate_left
                    ·
                     intro w'
                     go_simp
                     with_reducible rfl
                    rotate_left
                    ·
                     simp only [Act.put, List.setIfInBounds_toArray, List.set_cons_zero, List.set_cons_succ, i64_w, i32_w]
                     rfl
                    refine pure_ (i := 14) (N := some 31) (v := ?_) (a' := ?_) #[true, true, true, true, true, true, true, true, true, true, true, true, true, true, true, false] rfl rfl (any_of HT_.out (by kernel_rfl)) (fun _ _ _ h => h) (Or.inl ⟨by rfl, ?_⟩) ?_ ?_
                    rotate_left
                    ·
                     intro w'
                     go_simp
                     with_reducible rfl
                    rotate_left
                    ·
                     simp only [Act.put, List.setIfInBounds_toArray, List.set_cons_zero, List.set_cons_succ, i64_w, i32_w]
                     rfl
                    refine pure_ (i := 15) (N := some 32) (v := ?_) (a' := ?_) #[true, true, true, true, true, true, true, true, true, true, true, true, true, true, true, true] rfl rfl (any_of HT_.out (by kernel_rfl)) (fun _ _ _ h => h) (Or.inl ⟨by rfl, ?_⟩) ?_ ?_
                    rotate_left
                    ·
                     intro w'
                     go_simp
                     with_reducible rfl
                    rotate_left
                    ·
                     simp only [Act.put, List.setIfInBounds_toArray, List.set_cons_zero, List.set_cons_succ, i64_w, i32_w]
                     rfl
                    refine done_ (done_of HT_.out (by kernel_rfl)) ?_
                    try go_wp2
                    go_roundg kj57
                    case measure => have := HJ10.out; have := HJ36.out; have := HK3.out; have := HK4.out; have := HJ57.out; omega
                    case rel => exact ⟨(wrap64 (x26_4 + t488)), (wrap64 (x27_4 + t492)), (wrap64 (x28_4 + 1)), (by first | rfl | (simp; done) | (simp [*]; done)), (by first | rfl | (simp; done) | (simp [*]; done)), (by first | rfl | (simp; done) | (simp [*]; done)), H', ⟨by have := HJ10.out; have := HJ36.out; have := HK3.out; have := HK4.out; have := HJ57.out; omega⟩, ⟨by (with_reducible repeat (first | apply sa_ | apply sn_ | apply sd_)); exact HO_12.out⟩, ⟨by (with_reducible repeat (first | apply ra_ | apply rn_ | apply rd_)); exact HO_16.out⟩, ⟨by (with_reducible repeat (first | apply ra_ | apply rn_ | apply rd_)); exact HO_24.out⟩, ⟨by repeat (first | (with_reducible first | exact HB.out | apply ba_ | apply pw_below_drewN | apply bd_) | exact HB.out)⟩⟩
                   ·
                    rw [if_neg c65] at H
                    exact absurd H (by simp)
                  ·
                   rw [if_neg c63] at H
                   exact absurd H (by simp)
                 ·
                  rw [if_neg c62] at H
                  exact absurd H (by simp)
                ·
                 rw [if_neg c61] at H
                 exact absurd H (by simp)
               ·
                replace c60 := Bool.eq_false_iff.mpr c60
                subst c60
                have H1 : (if t483 = true then (if x26_4 = x27_4 then ((laws_vAdd.f kj57 t464).bind fun t494 => (some (decide (t494 ≤ t461)))) else (some false)) else (some false)) = some r := by rw [if_neg (show ¬ (false = true) by decide)] at H; exact H
                clear H
                have H := H1
                clear H1
                by_cases c73 : t483 = true
                ·
                 subst c73
                 have H1 : (if x26_4 = x27_4 then ((laws_vAdd.f kj57 t464).bind fun t494 => (some (decide (t494 ≤ t461)))) else (some false)) = some r := by rw [if_pos rfl] at H; exact H
                 clear H
                 have H := H1
                 clear H1
                 by_cases c74 : x26_4 = x27_4
                 ·
                  rw [if_pos c74] at H
                  have c74b0 : (x26_4 == x27_4) = true := beq_iff_eq.mpr c74
                  have c74b1 : (x26_4 != x27_4) = false := bne_eq_false_iff_eq.mpr c74
                  clear c74
                  replace H := Option.bind_eq_some_iff.mp H
                  obtain ⟨t494, A750, H⟩ := H
                  replace H : (some (decide (t494 ≤ t461))) = some r := H
                  have A75 := am_ A750
                  clear A750
                  obtain rfl := Option.some.inj H
                  obtain ⟨Ao76, co76, eo76⟩ := rs_ HO_16.out
                  subst eo76
                  go_wp2_with (first | (go_at_call 14; (with_reducible refine (laws_vAdd.calls kj57 _ _ t464 t494 _ ?side1 ?side2 A75.out).mono ?_); (case side1 => repeat (first | exact (rr_ HO_16.out).2.2 | (with_reducible refine ca_ ?_ _) | (with_reducible refine cn_ ?_ _) | (with_reducible refine cd_ ?_))); (case side2 => exact (rr_ HO_16.out).2.1); rintro e w' ⟨rfl, ⟨nd, rfl⟩⟩))
                  go_ret
                  exact ⟨by first | rfl | (simp [errW_none, errW_some] <;> rfl) | (simp [*, errW_none, errW_some] <;> rfl), by repeat (first | (with_reducible first | exact HB.out | apply ba_ | apply pw_below_drewN | apply bd_) | exact HB.out)⟩
                 ·
                  rw [if_neg c74] at H
                  have c74b0 : (x26_4 == x27_4) = false := beq_eq_false_iff_ne.mpr c74
                  have c74b1 : (x26_4 != x27_4) = true := bne_iff_ne.mpr c74
                  obtain rfl := Option.some.inj H
                  go_wp2
                  go_ret
                  exact ⟨by first | rfl | (simp [errW_none, errW_some] <;> rfl) | (simp [*, errW_none, errW_some] <;> rfl), by repeat (first | (with_reducible first | exact HB.out | apply ba_ | apply pw_below_drewN | apply bd_) | exact HB.out)⟩
                ·
                 replace c73 := Bool.eq_false_iff.mpr c73
                 subst c73
                 have H1 : (some false) = some r := by rw [if_neg (show ¬ (false = true) by decide)] at H; exact H
                 clear H
                 have H := H1
                 clear H1
                 obtain rfl := Option.some.inj H
                 go_wp2
                 go_ret
                 exact ⟨by first | rfl | (simp [errW_none, errW_some] <;> rfl) | (simp [*, errW_none, errW_some] <;> rfl), by repeat (first | (with_reducible first | exact HB.out | apply ba_ | apply pw_below_drewN | apply bd_) | exact HB.out)⟩
       ·
        replace c49 := Bool.eq_false_iff.mpr c49
        subst c49
        have H1 : (some true) = some r := by rw [if_neg (show ¬ (false = true) by decide)] at H; exact H
        clear H
        have H := H1
        clear H1
        obtain rfl := Option.some.inj H
        go_wp2
        go_ret
        exact ⟨by first | rfl | (simp [errW_none, errW_some] <;> rfl) | (simp [*, errW_none, errW_some] <;> rfl), by repeat (first | (with_reducible first | exact HB.out | apply ba_ | apply pw_below_drewN | apply bd_) | exact HB.out)⟩

/-- THE ONE PURE STATEMENT of laws_FnBudgets: yours. -/
def laws_FnBudgets.Pure : Prop := ∀ (l0 : List Int), l0.length ≤ maxLen → l0.length * 1 ≤ 140737488351232 → (∀ x ∈ l0, (Lit.int .u8 x).wf = true) → ∃ k, laws_FnBudgets.f k l0 = some true
theorem laws_FnBudgets.walk (P : laws_FnBudgets.Pure) (a0 : Option Addr) (len0 cap0 : Nat) (z0 : List Int) (w : World) (w0 : (a0 = none ∧ len0 = 0 ∧ cap0 = 0 ∧ z0 = []) ∨ ∃ x, a0 = some x ∧ len0 ≤ cap0 ∧ cap0 ≤ maxLen ∧ z0.length = cap0 ∧ (∀ i, i < z0.length → w.cell? (x.add i) = some (.int .u8 (z0.getD i 0))) ∧ ∀ n ∈ z0, (Lit.int .u8 n).wf = true) (y0 : len0 * 1 ≤ 140737488351232) :
  Calls Try.prog 3 #[.slice a0 len0 cap0] w fun e w' => e = .returned (.bool true) ∧ Below w.heap.size w w' := by
 obtain ⟨l0, rfl, hr0, hm0, hw0, hc0⟩ := ReadsInt.ofRowC w0
 obtain ⟨k, h⟩ := P l0 hm0 y0 hw0
 refine (laws_FnBudgets.calls k _ _ l0 true w (Kd.C_of_reads (d := (0 : Int)) (h1 := fun _ => rfl) hr0) hc0 h).mono ?_
 rintro e w' ⟨rfl, hd⟩
 exact ⟨rfl, hd⟩

end Go.Proofs.Ytknnnkkchfcjkaa.PFnBudgets
