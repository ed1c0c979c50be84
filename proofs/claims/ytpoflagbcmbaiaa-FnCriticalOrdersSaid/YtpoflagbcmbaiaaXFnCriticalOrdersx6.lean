-- Made by wip/xprint.py: the print of the kit, called over a changed copy of what it reads.
-- PRINTED by print.py (a twelfth state) out of the translation. Not trusted: Lean checks it.
import Derived.Test.YtpoflagbcmbaiaaCut
import Derived.Test.YtpoflagbcmbaiaaXFnCriticalOrdersx0
import Derived.Test.YtpoflagbcmbaiaaXFnCriticalOrdersx1
import Derived.Test.YtpoflagbcmbaiaaXFnCriticalOrdersx2
import Derived.Test.YtpoflagbcmbaiaaXFnCriticalOrdersx3
import Derived.Test.YtpoflagbcmbaiaaXFnCriticalOrdersx4
import Derived.Test.YtpoflagbcmbaiaaXFnCriticalOrdersx5
namespace Go.Proofs.Ytpoflagbcmbaiaa.PFnCriticalOrders
open Go.Proofs.Ytpoflagbcmbaiaa.Cut
open Go.Proofs.YtpoflagbcmbaiaaW.PrintWords.Aside0 renaming mk → am_
open Go.Proofs.YtpoflagbcmbaiaaW.PrintWords renaming below_drew1 → bd_, below_alloc → ba_, below_step → bp_, gate_callee → gc_
open Go.Proofs.YtpoflagbcmbaiaaW.PrintWords.Kd renaming R_alloc → ra_, R_drewN → rn_, R_drew → rd_, R_below → rb_, R_mono → rm_, R_reads' → rr_, C_alloc → ca_, C_drewN → cn_, C_drew → cd_
open Go.RowKit Go.Proofs.YtpoflagbcmbaiaaW.PrintWords Go.Proofs.YtpoflagbcmbaiaaW.PrintLast Go.Proofs.YtpoflagbcmbaiaaW.PrintMore
attribute [local go_sem] max2_int min2_int max_two min_two max_three min_three max_four min_four   -- for this text's walks alone
set_option linter.unusedVariables false
set_option linter.unusedSimpArgs false

/-! ### laws_FnCriticalOrders: function 3 -/
mutual
def laws_FnCriticalOrders.j0 : Nat → List Int → Int → Int → Int → Bool → List Int → Bool → Option (Bool)
 | 0, _, _, _, _, _, _, _ => none
 | k + 1, x3, x4, x5, x6, x7, x10, x283 => if x283 = true then (none) else (if x7 = true then (if (x10.length : Int) = 0 then (none) else (if 0 < (x10.length : Int) then (if (rd x10 0) = x6 then (if 0 ≤ (wrap64 ((x10.length : Int) - 1)) then (if (wrap64 ((x10.length : Int) - 1)) < (x10.length : Int) then (if (wrap64 ((rd x10 (wrap64 ((x10.length : Int) - 1))) - x6)) = (wrap64 ((x10.length : Int) - 1)) then ((impl_TotalWeight.f k x3).bind fun bt403 => (laws_FnCriticalOrders.l0 k x3 x4 x5 bt403.1 0)) else (none)) else (none)) else (none)) else (none)) else (none))) else (some true))
def laws_FnCriticalOrders.l0 : Nat → List Int → Int → Int → Int → Int → Option (Bool)
 | 0, _, _, _, _, _ => none
 | k + 1, x3, x4, x5, x42, x44 => if x44 < 15 then ((impl_CostSum.f k x3 x4 x5 x44).bind fun bt405 => ((impl_CostSum.f k x3 x4 x5 (wrap64 (x44 + 1))).bind fun bt407 => ((impl_WeightUpTo.f k x3 x44).bind fun bt409 => (if bt409.2 = true then (if (wrap64 (bt407.1 - bt405.1)) = (wrap64 ((wrap64 ((wrap64 (x4 + x5)) * bt409.1)) - (wrap64 (x5 * x42)))) then (laws_FnCriticalOrders.l0 k x3 x4 x5 x42 (wrap64 (x44 + 1))) else (none)) else (none))))) else (some true)
end
def laws_FnCriticalOrders.f (k : Nat) (l0 : List Int) : Option (Bool) := (laws_vBig.f l0).bind fun t347 => (if t347 = true then (some true) else ((spec_DrawCriticalOrder.f k l0).bind fun bt348 => ((impl_CriticalOrder.f k bt348.1 bt348.2.1 bt348.2.2).bind fun bt353 => ((spec_CriticalOrder.f k bt348.1 bt348.2.1 bt348.2.2).bind fun bt355 => ((impl_BestOrders.f k bt348.1 bt348.2.1 bt348.2.2).bind fun bt357 => ((spec_BestOrders.f k bt348.1 bt348.2.1 bt348.2.2).bind fun bt361 => ((laws_vCut.f l0 1).bind fun t365 => ((spec_DrawCostSum.f k t365).bind fun bt368 => ((impl_CostSum.f k bt368.1 bt368.2.1 bt368.2.2.1 bt368.2.2.2).bind fun bt374 => ((spec_CostSum.f k bt368.1 bt368.2.1 bt368.2.2.1 bt368.2.2.2).bind fun bt376 => ((impl_OverSum.f k bt368.1 bt368.2.2.2).bind fun bt378 => ((spec_OverSum.f k bt368.1 bt368.2.2.2).bind fun bt380 => ((impl_ShortSum.f k bt368.1 bt368.2.2.2).bind fun bt382 => ((spec_ShortSum.f k bt368.1 bt368.2.2.2).bind fun bt384 => ((impl_MeanSum.f k bt368.1).bind fun bt386 => ((spec_MeanSum.f k bt368.1).bind fun bt388 => ((impl_TotalWeight.f k bt368.1).bind fun bt390 => ((spec_TotalWeight.f k bt368.1).bind fun bt392 => ((impl_WeightUpTo.f k bt368.1 bt368.2.2.2).bind fun bt394 => ((spec_WeightUpTo.f k bt368.1 bt368.2.2.2).bind fun bt396 => (if bt353.1 = bt355.1 then (if (bt353.2 != bt355.2) = true then (none) else (if (bt357.2 != bt361.2) = true then (none) else ((laws_vInts.f k bt357.1 bt361.1).bind fun t398 => (if t398 = true then (if bt374.1 = bt376.1 then (if (bt374.2 != bt376.2) = true then (none) else (if bt378.1 = bt380.1 then (if (bt378.2 != bt380.2) = true then (none) else (if bt382.1 = bt384.1 then (if (bt382.2 != bt384.2) = true then (none) else (if bt386.1 = bt388.1 then (if (bt386.2 != bt388.2) = true then (none) else (if bt390.1 = bt392.1 then (if (bt390.2 != bt392.2) = true then (none) else (if bt394.1 = bt396.1 then (if (bt394.2 != bt396.2) = true then (none) else ((impl_IsDistribution.f k bt348.1).bind fun t399 => ((spec_IsDistribution.f k bt348.1).bind fun t400 => (if (t399 != t400) = true then (none) else (if bt378.2 = true then (if (wrap64 (bt378.1 - bt382.1)) = (wrap64 ((wrap64 (bt368.2.2.2 * bt390.1)) - bt386.1)) then (if bt394.1 > bt390.1 then (laws_FnCriticalOrders.j0 k bt348.1 bt348.2.1 bt348.2.2 bt353.1 bt353.2 bt357.1 true) else (if bt374.2 = true then (laws_FnCriticalOrders.j0 k bt348.1 bt348.2.1 bt348.2.2 bt353.1 bt353.2 bt357.1 (bt374.1 != (wrap64 ((wrap64 (bt368.2.1 * bt378.1)) + (wrap64 (bt368.2.2.1 * bt382.1)))))) else (laws_FnCriticalOrders.j0 k bt348.1 bt348.2.1 bt348.2.2 bt353.1 bt353.2 bt357.1 false))) else (laws_FnCriticalOrders.j0 k bt348.1 bt348.2.1 bt348.2.2 bt353.1 bt353.2 bt357.1 true)) else (laws_FnCriticalOrders.j0 k bt348.1 bt348.2.1 bt348.2.2 bt353.1 bt353.2 bt357.1 false)))))) else (none))) else (none))) else (none))) else (none))) else (none))) else (none)) else (none))))) else (none))))))))))))))))))))))
theorem laws_FnCriticalOrders.mono_l : ∀ k, (∀ y0 y1 y2 y3 y4 y5 y6, LeO (laws_FnCriticalOrders.j0 k y0 y1 y2 y3 y4 y5 y6) (laws_FnCriticalOrders.j0 (k + 1) y0 y1 y2 y3 y4 y5 y6)) ∧ (∀ y0 y1 y2 y3 y4, LeO (laws_FnCriticalOrders.l0 k y0 y1 y2 y3 y4) (laws_FnCriticalOrders.l0 (k + 1) y0 y1 y2 y3 y4))
 | 0 => ⟨fun _ _ _ _ _ _ _ r h => by simp [laws_FnCriticalOrders.j0] at h, fun _ _ _ _ _ r h => by simp [laws_FnCriticalOrders.l0] at h⟩
 | k + 1 => by
  obtain ⟨ih0, ih1⟩ := laws_FnCriticalOrders.mono_l k
  refine ⟨?_, ?_⟩
  ·
   intro y0 y1 y2 y3 y4 y5 y6
   unfold laws_FnCriticalOrders.j0
   repeat' first
   | (with_reducible exact ih0 _ _ _ _ _ _ _)
   | (with_reducible exact ih1 _ _ _ _ _)
   | (with_reducible exact impl_BestOrders.mono _ _ _ _)
   | (with_reducible exact impl_CostSum.mono _ _ _ _ _)
   | (with_reducible exact impl_CriticalOrder.mono _ _ _ _)
   | (with_reducible exact impl_IsDistribution.mono _ _)
   | (with_reducible exact impl_MeanSum.mono _ _)
   | (with_reducible exact impl_OverSum.mono _ _ _)
   | (with_reducible exact impl_ShortSum.mono _ _ _)
   | (with_reducible exact impl_TotalWeight.mono _ _)
   | (with_reducible exact impl_WeightUpTo.mono _ _ _)
   | (with_reducible exact laws_vInts.mono _ _ _)
   | (with_reducible exact spec_BestOrders.mono _ _ _ _)
   | (with_reducible exact spec_CostSum.mono _ _ _ _ _)
   | (with_reducible exact spec_CriticalOrder.mono _ _ _ _)
   | (with_reducible exact spec_DrawCostSum.mono _ _)
   | (with_reducible exact spec_DrawCriticalOrder.mono _ _)
   | (with_reducible exact spec_IsDistribution.mono _ _)
   | (with_reducible exact spec_MeanSum.mono _ _)
   | (with_reducible exact spec_OverSum.mono _ _ _)
   | (with_reducible exact spec_ShortSum.mono _ _ _)
   | (with_reducible exact spec_TotalWeight.mono _ _)
   | (with_reducible exact spec_WeightUpTo.mono _ _ _)
   | (with_reducible exact LeO.refl _)
   | (with_reducible exact LeO.none _)
   | (with_reducible refine LeO.ite ?_ ?_)
   | (with_reducible refine LeO.bind ?_ (fun _ => ?_))
   | exact ih0 _ _ _ _ _ _ _
   | exact ih1 _ _ _ _ _
   | exact impl_BestOrders.mono _ _ _ _
   | exact impl_CostSum.mono _ _ _ _ _
   | exact impl_CriticalOrder.mono _ _ _ _
   | exact impl_IsDistribution.mono _ _
   | exact impl_MeanSum.mono _ _
   | exact impl_OverSum.mono _ _ _
   | exact impl_ShortSum.mono _ _ _
   | exact impl_TotalWeight.mono _ _
   | exact impl_WeightUpTo.mono _ _ _
   | exact laws_vInts.mono _ _ _
   | exact spec_BestOrders.mono _ _ _ _
   | exact spec_CostSum.mono _ _ _ _ _
   | exact spec_CriticalOrder.mono _ _ _ _
   | exact spec_DrawCostSum.mono _ _
   | exact spec_DrawCriticalOrder.mono _ _
   | exact spec_IsDistribution.mono _ _
   | exact spec_MeanSum.mono _ _
   | exact spec_OverSum.mono _ _ _
   | exact spec_ShortSum.mono _ _ _
   | exact spec_TotalWeight.mono _ _
   | exact spec_WeightUpTo.mono _ _ _
   | exact LeO.none _
   | refine LeO.ite ?_ ?_
   | refine LeO.bind ?_ (fun _ => ?_)
  ·
   intro y0 y1 y2 y3 y4
   unfold laws_FnCriticalOrders.l0
   repeat' first
   | (with_reducible exact ih0 _ _ _ _ _ _ _)
   | (with_reducible exact ih1 _ _ _ _ _)
   | (with_reducible exact impl_BestOrders.mono _ _ _ _)
   | (with_reducible exact impl_CostSum.mono _ _ _ _ _)
   | (with_reducible exact impl_CriticalOrder.mono _ _ _ _)
   | (with_reducible exact impl_IsDistribution.mono _ _)
   | (with_reducible exact impl_MeanSum.mono _ _)
   | (with_reducible exact impl_OverSum.mono _ _ _)
   | (with_reducible exact impl_ShortSum.mono _ _ _)
   | (with_reducible exact impl_TotalWeight.mono _ _)
   | (with_reducible exact impl_WeightUpTo.mono _ _ _)
   | (with_reducible exact laws_vInts.mono _ _ _)
   | (with_reducible exact spec_BestOrders.mono _ _ _ _)
   | (with_reducible exact spec_CostSum.mono _ _ _ _ _)
   | (with_reducible exact spec_CriticalOrder.mono _ _ _ _)
   | (with_reducible exact spec_DrawCostSum.mono _ _)
   | (with_reducible exact spec_DrawCriticalOrder.mono _ _)
   | (with_reducible exact spec_IsDistribution.mono _ _)
   | (with_reducible exact spec_MeanSum.mono _ _)
   | (with_reducible exact spec_OverSum.mono _ _ _)
   | (with_reducible exact spec_ShortSum.mono _ _ _)
   | (with_reducible exact spec_TotalWeight.mono _ _)
   | (with_reducible exact spec_WeightUpTo.mono _ _ _)
   | (with_reducible exact LeO.refl _)
   | (with_reducible exact LeO.none _)
   | (with_reducible refine LeO.ite ?_ ?_)
   | (with_reducible refine LeO.bind ?_ (fun _ => ?_))
   | exact ih0 _ _ _ _ _ _ _
   | exact ih1 _ _ _ _ _
   | exact impl_BestOrders.mono _ _ _ _
   | exact impl_CostSum.mono _ _ _ _ _
   | exact impl_CriticalOrder.mono _ _ _ _
   | exact impl_IsDistribution.mono _ _
   | exact impl_MeanSum.mono _ _
   | exact impl_OverSum.mono _ _ _
   | exact impl_ShortSum.mono _ _ _
   | exact impl_TotalWeight.mono _ _
   | exact impl_WeightUpTo.mono _ _ _
   | exact laws_vInts.mono _ _ _
   | exact spec_BestOrders.mono _ _ _ _
   | exact spec_CostSum.mono _ _ _ _ _
   | exact spec_CriticalOrder.mono _ _ _ _
   | exact spec_DrawCostSum.mono _ _
   | exact spec_DrawCriticalOrder.mono _ _
   | exact spec_IsDistribution.mono _ _
   | exact spec_MeanSum.mono _ _
   | exact spec_OverSum.mono _ _ _
   | exact spec_ShortSum.mono _ _ _
   | exact spec_TotalWeight.mono _ _
   | exact spec_WeightUpTo.mono _ _ _
   | exact LeO.none _
   | refine LeO.ite ?_ ?_
   | refine LeO.bind ?_ (fun _ => ?_)
theorem laws_FnCriticalOrders.mono : ∀ a0 k, LeO (laws_FnCriticalOrders.f k a0) (laws_FnCriticalOrders.f (k + 1) a0) := by
 intro a0 k
 obtain ⟨ih0, ih1⟩ := laws_FnCriticalOrders.mono_l k
 unfold laws_FnCriticalOrders.f
 repeat' first
   | (with_reducible exact ih0 _ _ _ _ _ _ _)
   | (with_reducible exact ih1 _ _ _ _ _)
   | (with_reducible exact impl_BestOrders.mono _ _ _ _)
   | (with_reducible exact impl_CostSum.mono _ _ _ _ _)
   | (with_reducible exact impl_CriticalOrder.mono _ _ _ _)
   | (with_reducible exact impl_IsDistribution.mono _ _)
   | (with_reducible exact impl_MeanSum.mono _ _)
   | (with_reducible exact impl_OverSum.mono _ _ _)
   | (with_reducible exact impl_ShortSum.mono _ _ _)
   | (with_reducible exact impl_TotalWeight.mono _ _)
   | (with_reducible exact impl_WeightUpTo.mono _ _ _)
   | (with_reducible exact laws_vInts.mono _ _ _)
   | (with_reducible exact spec_BestOrders.mono _ _ _ _)
   | (with_reducible exact spec_CostSum.mono _ _ _ _ _)
   | (with_reducible exact spec_CriticalOrder.mono _ _ _ _)
   | (with_reducible exact spec_DrawCostSum.mono _ _)
   | (with_reducible exact spec_DrawCriticalOrder.mono _ _)
   | (with_reducible exact spec_IsDistribution.mono _ _)
   | (with_reducible exact spec_MeanSum.mono _ _)
   | (with_reducible exact spec_OverSum.mono _ _ _)
   | (with_reducible exact spec_ShortSum.mono _ _ _)
   | (with_reducible exact spec_TotalWeight.mono _ _)
   | (with_reducible exact spec_WeightUpTo.mono _ _ _)
   | (with_reducible exact LeO.refl _)
   | (with_reducible exact LeO.none _)
   | (with_reducible refine LeO.ite ?_ ?_)
   | (with_reducible refine LeO.bind ?_ (fun _ => ?_))
   | exact ih0 _ _ _ _ _ _ _
   | exact ih1 _ _ _ _ _
   | exact impl_BestOrders.mono _ _ _ _
   | exact impl_CostSum.mono _ _ _ _ _
   | exact impl_CriticalOrder.mono _ _ _ _
   | exact impl_IsDistribution.mono _ _
   | exact impl_MeanSum.mono _ _
   | exact impl_OverSum.mono _ _ _
   | exact impl_ShortSum.mono _ _ _
   | exact impl_TotalWeight.mono _ _
   | exact impl_WeightUpTo.mono _ _ _
   | exact laws_vInts.mono _ _ _
   | exact spec_BestOrders.mono _ _ _ _
   | exact spec_CostSum.mono _ _ _ _ _
   | exact spec_CriticalOrder.mono _ _ _ _
   | exact spec_DrawCostSum.mono _ _
   | exact spec_DrawCriticalOrder.mono _ _
   | exact spec_IsDistribution.mono _ _
   | exact spec_MeanSum.mono _ _
   | exact spec_OverSum.mono _ _ _
   | exact spec_ShortSum.mono _ _ _
   | exact spec_TotalWeight.mono _ _
   | exact spec_WeightUpTo.mono _ _ _
   | exact LeO.none _
   | refine LeO.ite ?_ ?_
   | refine LeO.bind ?_ (fun _ => ?_)
set_option maxHeartbeats 8000000 in
set_option maxRecDepth 100000 in
theorem laws_FnCriticalOrders.calls (k : Nat) (A0 : Option Addr) (c0 : Nat) (l0 : List Int) (r : Bool) (w : World) (hr0 : Kd.C (Kd.int .u8) w A0 l0.length l0) (hc0 : l0.length ≤ c0) (h : laws_FnCriticalOrders.f k l0 = some r) :
  Calls Try.prog 3 #[.slice A0 l0.length c0] w fun e w' => e = .returned (.bool r) ∧ Below w.heap.size w w' := by
 have HR0 := am_ hr0
 have HC0 := am_ hc0
 clear hr0 hc0
 have HB := am_ (Below.refl w.heap.size w)
 have H : ((laws_vBig.f l0).bind fun t347 => (if t347 = true then (some true) else ((spec_DrawCriticalOrder.f k l0).bind fun bt348 => ((impl_CriticalOrder.f k bt348.1 bt348.2.1 bt348.2.2).bind fun bt353 => ((spec_CriticalOrder.f k bt348.1 bt348.2.1 bt348.2.2).bind fun bt355 => ((impl_BestOrders.f k bt348.1 bt348.2.1 bt348.2.2).bind fun bt357 => ((spec_BestOrders.f k bt348.1 bt348.2.1 bt348.2.2).bind fun bt361 => ((laws_vCut.f l0 1).bind fun t365 => ((spec_DrawCostSum.f k t365).bind fun bt368 => ((impl_CostSum.f k bt368.1 bt368.2.1 bt368.2.2.1 bt368.2.2.2).bind fun bt374 => ((spec_CostSum.f k bt368.1 bt368.2.1 bt368.2.2.1 bt368.2.2.2).bind fun bt376 => ((impl_OverSum.f k bt368.1 bt368.2.2.2).bind fun bt378 => ((spec_OverSum.f k bt368.1 bt368.2.2.2).bind fun bt380 => ((impl_ShortSum.f k bt368.1 bt368.2.2.2).bind fun bt382 => ((spec_ShortSum.f k bt368.1 bt368.2.2.2).bind fun bt384 => ((impl_MeanSum.f k bt368.1).bind fun bt386 => ((spec_MeanSum.f k bt368.1).bind fun bt388 => ((impl_TotalWeight.f k bt368.1).bind fun bt390 => ((spec_TotalWeight.f k bt368.1).bind fun bt392 => ((impl_WeightUpTo.f k bt368.1 bt368.2.2.2).bind fun bt394 => ((spec_WeightUpTo.f k bt368.1 bt368.2.2.2).bind fun bt396 => (if bt353.1 = bt355.1 then (if (bt353.2 != bt355.2) = true then (none) else (if (bt357.2 != bt361.2) = true then (none) else ((laws_vInts.f k bt357.1 bt361.1).bind fun t398 => (if t398 = true then (if bt374.1 = bt376.1 then (if (bt374.2 != bt376.2) = true then (none) else (if bt378.1 = bt380.1 then (if (bt378.2 != bt380.2) = true then (none) else (if bt382.1 = bt384.1 then (if (bt382.2 != bt384.2) = true then (none) else (if bt386.1 = bt388.1 then (if (bt386.2 != bt388.2) = true then (none) else (if bt390.1 = bt392.1 then (if (bt390.2 != bt392.2) = true then (none) else (if bt394.1 = bt396.1 then (if (bt394.2 != bt396.2) = true then (none) else ((impl_IsDistribution.f k bt348.1).bind fun t399 => ((spec_IsDistribution.f k bt348.1).bind fun t400 => (if (t399 != t400) = true then (none) else (if bt378.2 = true then (if (wrap64 (bt378.1 - bt382.1)) = (wrap64 ((wrap64 (bt368.2.2.2 * bt390.1)) - bt386.1)) then (if bt394.1 > bt390.1 then (laws_FnCriticalOrders.j0 k bt348.1 bt348.2.1 bt348.2.2 bt353.1 bt353.2 bt357.1 true) else (if bt374.2 = true then (laws_FnCriticalOrders.j0 k bt348.1 bt348.2.1 bt348.2.2 bt353.1 bt353.2 bt357.1 (bt374.1 != (wrap64 ((wrap64 (bt368.2.1 * bt378.1)) + (wrap64 (bt368.2.2.1 * bt382.1)))))) else (laws_FnCriticalOrders.j0 k bt348.1 bt348.2.1 bt348.2.2 bt353.1 bt353.2 bt357.1 false))) else (laws_FnCriticalOrders.j0 k bt348.1 bt348.2.1 bt348.2.2 bt353.1 bt353.2 bt357.1 true)) else (laws_FnCriticalOrders.j0 k bt348.1 bt348.2.1 bt348.2.2 bt353.1 bt353.2 bt357.1 false)))))) else (none))) else (none))) else (none))) else (none))) else (none))) else (none)) else (none))))) else (none))))))))))))))))))))))) = some r := h
 clear h
 replace H := Option.bind_eq_some_iff.mp H
 obtain ⟨t347, A20, H⟩ := H
 replace H : (if t347 = true then (some true) else ((spec_DrawCriticalOrder.f k l0).bind fun bt348 => ((impl_CriticalOrder.f k bt348.1 bt348.2.1 bt348.2.2).bind fun bt353 => ((spec_CriticalOrder.f k bt348.1 bt348.2.1 bt348.2.2).bind fun bt355 => ((impl_BestOrders.f k bt348.1 bt348.2.1 bt348.2.2).bind fun bt357 => ((spec_BestOrders.f k bt348.1 bt348.2.1 bt348.2.2).bind fun bt361 => ((laws_vCut.f l0 1).bind fun t365 => ((spec_DrawCostSum.f k t365).bind fun bt368 => ((impl_CostSum.f k bt368.1 bt368.2.1 bt368.2.2.1 bt368.2.2.2).bind fun bt374 => ((spec_CostSum.f k bt368.1 bt368.2.1 bt368.2.2.1 bt368.2.2.2).bind fun bt376 => ((impl_OverSum.f k bt368.1 bt368.2.2.2).bind fun bt378 => ((spec_OverSum.f k bt368.1 bt368.2.2.2).bind fun bt380 => ((impl_ShortSum.f k bt368.1 bt368.2.2.2).bind fun bt382 => ((spec_ShortSum.f k bt368.1 bt368.2.2.2).bind fun bt384 => ((impl_MeanSum.f k bt368.1).bind fun bt386 => ((spec_MeanSum.f k bt368.1).bind fun bt388 => ((impl_TotalWeight.f k bt368.1).bind fun bt390 => ((spec_TotalWeight.f k bt368.1).bind fun bt392 => ((impl_WeightUpTo.f k bt368.1 bt368.2.2.2).bind fun bt394 => ((spec_WeightUpTo.f k bt368.1 bt368.2.2.2).bind fun bt396 => (if bt353.1 = bt355.1 then (if (bt353.2 != bt355.2) = true then (none) else (if (bt357.2 != bt361.2) = true then (none) else ((laws_vInts.f k bt357.1 bt361.1).bind fun t398 => (if t398 = true then (if bt374.1 = bt376.1 then (if (bt374.2 != bt376.2) = true then (none) else (if bt378.1 = bt380.1 then (if (bt378.2 != bt380.2) = true then (none) else (if bt382.1 = bt384.1 then (if (bt382.2 != bt384.2) = true then (none) else (if bt386.1 = bt388.1 then (if (bt386.2 != bt388.2) = true then (none) else (if bt390.1 = bt392.1 then (if (bt390.2 != bt392.2) = true then (none) else (if bt394.1 = bt396.1 then (if (bt394.2 != bt396.2) = true then (none) else ((impl_IsDistribution.f k bt348.1).bind fun t399 => ((spec_IsDistribution.f k bt348.1).bind fun t400 => (if (t399 != t400) = true then (none) else (if bt378.2 = true then (if (wrap64 (bt378.1 - bt382.1)) = (wrap64 ((wrap64 (bt368.2.2.2 * bt390.1)) - bt386.1)) then (if bt394.1 > bt390.1 then (laws_FnCriticalOrders.j0 k bt348.1 bt348.2.1 bt348.2.2 bt353.1 bt353.2 bt357.1 true) else (if bt374.2 = true then (laws_FnCriticalOrders.j0 k bt348.1 bt348.2.1 bt348.2.2 bt353.1 bt353.2 bt357.1 (bt374.1 != (wrap64 ((wrap64 (bt368.2.1 * bt378.1)) + (wrap64 (bt368.2.2.1 * bt382.1)))))) else (laws_FnCriticalOrders.j0 k bt348.1 bt348.2.1 bt348.2.2 bt353.1 bt353.2 bt357.1 false))) else (laws_FnCriticalOrders.j0 k bt348.1 bt348.2.1 bt348.2.2 bt353.1 bt353.2 bt357.1 true)) else (laws_FnCriticalOrders.j0 k bt348.1 bt348.2.1 bt348.2.2 bt353.1 bt353.2 bt357.1 false)))))) else (none))) else (none))) else (none))) else (none))) else (none))) else (none)) else (none))))) else (none)))))))))))))))))))))) = some r := H
 have A2 := am_ A20
 clear A20
 by_cases c3 : t347 = true
 ·
  subst c3
  have H1 : (some true) = some r := by rw [if_pos rfl] at H; exact H
  clear H
  have H := H1
  clear H1
  as_aux_lemma =>
   obtain rfl := Option.some.inj H
   go_enter Try.func3, Try.ntmps3
   go_wp2_with (first | ((with_reducible refine gc_ (f := 4) rfl ?_); refine goesL_ (some 52) rfl rfl Try.func4 (by kernel_rfl) rfl #[.slice A0 l0.length c0] rfl (by (try simp only [List.map_toArray, List.map_cons, List.map_nil]); first | done | rfl | (simp only [List.length_drop, List.length_take]; rfl)) ?_; (with_reducible refine (laws_vBig.calls _ _ l0 true _ ?side1 ?side2 A2.out).mono ?_); (case side1 => repeat (first | exact HR0.out | (with_reducible refine ca_ ?_ _) | (with_reducible refine cn_ ?_ _) | (with_reducible refine cd_ ?_))); (case side2 => exact HC0.out); rintro e w' ⟨rfl, ⟨nd, rfl⟩⟩; refine ⟨_, rfl, ?_⟩))
   go_ret
   exact ⟨by first | rfl | (simp [errW_none, errW_some] <;> rfl) | (simp [*, errW_none, errW_some] <;> rfl), by repeat (first | (with_reducible first | exact HB.out | apply ba_ | apply pw_below_drewN | apply bd_) | exact HB.out)⟩
 ·
  replace c3 := Bool.eq_false_iff.mpr c3
  subst c3
  have H1 : ((spec_DrawCriticalOrder.f k l0).bind fun bt348 => ((impl_CriticalOrder.f k bt348.1 bt348.2.1 bt348.2.2).bind fun bt353 => ((spec_CriticalOrder.f k bt348.1 bt348.2.1 bt348.2.2).bind fun bt355 => ((impl_BestOrders.f k bt348.1 bt348.2.1 bt348.2.2).bind fun bt357 => ((spec_BestOrders.f k bt348.1 bt348.2.1 bt348.2.2).bind fun bt361 => ((laws_vCut.f l0 1).bind fun t365 => ((spec_DrawCostSum.f k t365).bind fun bt368 => ((impl_CostSum.f k bt368.1 bt368.2.1 bt368.2.2.1 bt368.2.2.2).bind fun bt374 => ((spec_CostSum.f k bt368.1 bt368.2.1 bt368.2.2.1 bt368.2.2.2).bind fun bt376 => ((impl_OverSum.f k bt368.1 bt368.2.2.2).bind fun bt378 => ((spec_OverSum.f k bt368.1 bt368.2.2.2).bind fun bt380 => ((impl_ShortSum.f k bt368.1 bt368.2.2.2).bind fun bt382 => ((spec_ShortSum.f k bt368.1 bt368.2.2.2).bind fun bt384 => ((impl_MeanSum.f k bt368.1).bind fun bt386 => ((spec_MeanSum.f k bt368.1).bind fun bt388 => ((impl_TotalWeight.f k bt368.1).bind fun bt390 => ((spec_TotalWeight.f k bt368.1).bind fun bt392 => ((impl_WeightUpTo.f k bt368.1 bt368.2.2.2).bind fun bt394 => ((spec_WeightUpTo.f k bt368.1 bt368.2.2.2).bind fun bt396 => (if bt353.1 = bt355.1 then (if (bt353.2 != bt355.2) = true then (none) else (if (bt357.2 != bt361.2) = true then (none) else ((laws_vInts.f k bt357.1 bt361.1).bind fun t398 => (if t398 = true then (if bt374.1 = bt376.1 then (if (bt374.2 != bt376.2) = true then (none) else (if bt378.1 = bt380.1 then (if (bt378.2 != bt380.2) = true then (none) else (if bt382.1 = bt384.1 then (if (bt382.2 != bt384.2) = true then (none) else (if bt386.1 = bt388.1 then (if (bt386.2 != bt388.2) = true then (none) else (if bt390.1 = bt392.1 then (if (bt390.2 != bt392.2) = true then (none) else (if bt394.1 = bt396.1 then (if (bt394.2 != bt396.2) = true then (none) else ((impl_IsDistribution.f k bt348.1).bind fun t399 => ((spec_IsDistribution.f k bt348.1).bind fun t400 => (if (t399 != t400) = true then (none) else (if bt378.2 = true then (if (wrap64 (bt378.1 - bt382.1)) = (wrap64 ((wrap64 (bt368.2.2.2 * bt390.1)) - bt386.1)) then (if bt394.1 > bt390.1 then (laws_FnCriticalOrders.j0 k bt348.1 bt348.2.1 bt348.2.2 bt353.1 bt353.2 bt357.1 true) else (if bt374.2 = true then (laws_FnCriticalOrders.j0 k bt348.1 bt348.2.1 bt348.2.2 bt353.1 bt353.2 bt357.1 (bt374.1 != (wrap64 ((wrap64 (bt368.2.1 * bt378.1)) + (wrap64 (bt368.2.2.1 * bt382.1)))))) else (laws_FnCriticalOrders.j0 k bt348.1 bt348.2.1 bt348.2.2 bt353.1 bt353.2 bt357.1 false))) else (laws_FnCriticalOrders.j0 k bt348.1 bt348.2.1 bt348.2.2 bt353.1 bt353.2 bt357.1 true)) else (laws_FnCriticalOrders.j0 k bt348.1 bt348.2.1 bt348.2.2 bt353.1 bt353.2 bt357.1 false)))))) else (none))) else (none))) else (none))) else (none))) else (none))) else (none)) else (none))))) else (none))))))))))))))))))))) = some r := by rw [if_neg (show ¬ (false = true) by decide)] at H; exact H
  clear H
  have H := H1
  clear H1
  replace H := Option.bind_eq_some_iff.mp H
  obtain ⟨⟨t348, t349, t350⟩, A40, H⟩ := H
  replace H : ((impl_CriticalOrder.f k t348 t349 t350).bind fun bt353 => ((spec_CriticalOrder.f k t348 t349 t350).bind fun bt355 => ((impl_BestOrders.f k t348 t349 t350).bind fun bt357 => ((spec_BestOrders.f k t348 t349 t350).bind fun bt361 => ((laws_vCut.f l0 1).bind fun t365 => ((spec_DrawCostSum.f k t365).bind fun bt368 => ((impl_CostSum.f k bt368.1 bt368.2.1 bt368.2.2.1 bt368.2.2.2).bind fun bt374 => ((spec_CostSum.f k bt368.1 bt368.2.1 bt368.2.2.1 bt368.2.2.2).bind fun bt376 => ((impl_OverSum.f k bt368.1 bt368.2.2.2).bind fun bt378 => ((spec_OverSum.f k bt368.1 bt368.2.2.2).bind fun bt380 => ((impl_ShortSum.f k bt368.1 bt368.2.2.2).bind fun bt382 => ((spec_ShortSum.f k bt368.1 bt368.2.2.2).bind fun bt384 => ((impl_MeanSum.f k bt368.1).bind fun bt386 => ((spec_MeanSum.f k bt368.1).bind fun bt388 => ((impl_TotalWeight.f k bt368.1).bind fun bt390 => ((spec_TotalWeight.f k bt368.1).bind fun bt392 => ((impl_WeightUpTo.f k bt368.1 bt368.2.2.2).bind fun bt394 => ((spec_WeightUpTo.f k bt368.1 bt368.2.2.2).bind fun bt396 => (if bt353.1 = bt355.1 then (if (bt353.2 != bt355.2) = true then (none) else (if (bt357.2 != bt361.2) = true then (none) else ((laws_vInts.f k bt357.1 bt361.1).bind fun t398 => (if t398 = true then (if bt374.1 = bt376.1 then (if (bt374.2 != bt376.2) = true then (none) else (if bt378.1 = bt380.1 then (if (bt378.2 != bt380.2) = true then (none) else (if bt382.1 = bt384.1 then (if (bt382.2 != bt384.2) = true then (none) else (if bt386.1 = bt388.1 then (if (bt386.2 != bt388.2) = true then (none) else (if bt390.1 = bt392.1 then (if (bt390.2 != bt392.2) = true then (none) else (if bt394.1 = bt396.1 then (if (bt394.2 != bt396.2) = true then (none) else ((impl_IsDistribution.f k t348).bind fun t399 => ((spec_IsDistribution.f k t348).bind fun t400 => (if (t399 != t400) = true then (none) else (if bt378.2 = true then (if (wrap64 (bt378.1 - bt382.1)) = (wrap64 ((wrap64 (bt368.2.2.2 * bt390.1)) - bt386.1)) then (if bt394.1 > bt390.1 then (laws_FnCriticalOrders.j0 k t348 t349 t350 bt353.1 bt353.2 bt357.1 true) else (if bt374.2 = true then (laws_FnCriticalOrders.j0 k t348 t349 t350 bt353.1 bt353.2 bt357.1 (bt374.1 != (wrap64 ((wrap64 (bt368.2.1 * bt378.1)) + (wrap64 (bt368.2.2.1 * bt382.1)))))) else (laws_FnCriticalOrders.j0 k t348 t349 t350 bt353.1 bt353.2 bt357.1 false))) else (laws_FnCriticalOrders.j0 k t348 t349 t350 bt353.1 bt353.2 bt357.1 true)) else (laws_FnCriticalOrders.j0 k t348 t349 t350 bt353.1 bt353.2 bt357.1 false)))))) else (none))) else (none))) else (none))) else (none))) else (none))) else (none)) else (none))))) else (none)))))))))))))))))))) = some r := H
  have A4 := am_ A40
  clear A40
  replace H := Option.bind_eq_some_iff.mp H
  obtain ⟨⟨t353, t354⟩, A50, H⟩ := H
  replace H : ((spec_CriticalOrder.f k t348 t349 t350).bind fun bt355 => ((impl_BestOrders.f k t348 t349 t350).bind fun bt357 => ((spec_BestOrders.f k t348 t349 t350).bind fun bt361 => ((laws_vCut.f l0 1).bind fun t365 => ((spec_DrawCostSum.f k t365).bind fun bt368 => ((impl_CostSum.f k bt368.1 bt368.2.1 bt368.2.2.1 bt368.2.2.2).bind fun bt374 => ((spec_CostSum.f k bt368.1 bt368.2.1 bt368.2.2.1 bt368.2.2.2).bind fun bt376 => ((impl_OverSum.f k bt368.1 bt368.2.2.2).bind fun bt378 => ((spec_OverSum.f k bt368.1 bt368.2.2.2).bind fun bt380 => ((impl_ShortSum.f k bt368.1 bt368.2.2.2).bind fun bt382 => ((spec_ShortSum.f k bt368.1 bt368.2.2.2).bind fun bt384 => ((impl_MeanSum.f k bt368.1).bind fun bt386 => ((spec_MeanSum.f k bt368.1).bind fun bt388 => ((impl_TotalWeight.f k bt368.1).bind fun bt390 => ((spec_TotalWeight.f k bt368.1).bind fun bt392 => ((impl_WeightUpTo.f k bt368.1 bt368.2.2.2).bind fun bt394 => ((spec_WeightUpTo.f k bt368.1 bt368.2.2.2).bind fun bt396 => (if t353 = bt355.1 then (if (t354 != bt355.2) = true then (none) else (if (bt357.2 != bt361.2) = true then (none) else ((laws_vInts.f k bt357.1 bt361.1).bind fun t398 => (if t398 = true then (if bt374.1 = bt376.1 then (if (bt374.2 != bt376.2) = true then (none) else (if bt378.1 = bt380.1 then (if (bt378.2 != bt380.2) = true then (none) else (if bt382.1 = bt384.1 then (if (bt382.2 != bt384.2) = true then (none) else (if bt386.1 = bt388.1 then (if (bt386.2 != bt388.2) = true then (none) else (if bt390.1 = bt392.1 then (if (bt390.2 != bt392.2) = true then (none) else (if bt394.1 = bt396.1 then (if (bt394.2 != bt396.2) = true then (none) else ((impl_IsDistribution.f k t348).bind fun t399 => ((spec_IsDistribution.f k t348).bind fun t400 => (if (t399 != t400) = true then (none) else (if bt378.2 = true then (if (wrap64 (bt378.1 - bt382.1)) = (wrap64 ((wrap64 (bt368.2.2.2 * bt390.1)) - bt386.1)) then (if bt394.1 > bt390.1 then (laws_FnCriticalOrders.j0 k t348 t349 t350 t353 t354 bt357.1 true) else (if bt374.2 = true then (laws_FnCriticalOrders.j0 k t348 t349 t350 t353 t354 bt357.1 (bt374.1 != (wrap64 ((wrap64 (bt368.2.1 * bt378.1)) + (wrap64 (bt368.2.2.1 * bt382.1)))))) else (laws_FnCriticalOrders.j0 k t348 t349 t350 t353 t354 bt357.1 false))) else (laws_FnCriticalOrders.j0 k t348 t349 t350 t353 t354 bt357.1 true)) else (laws_FnCriticalOrders.j0 k t348 t349 t350 t353 t354 bt357.1 false)))))) else (none))) else (none))) else (none))) else (none))) else (none))) else (none)) else (none))))) else (none))))))))))))))))))) = some r := H
  have A5 := am_ A50
  clear A50
  replace H := Option.bind_eq_some_iff.mp H
  obtain ⟨⟨t355, t356⟩, A60, H⟩ := H
  replace H : ((impl_BestOrders.f k t348 t349 t350).bind fun bt357 => ((spec_BestOrders.f k t348 t349 t350).bind fun bt361 => ((laws_vCut.f l0 1).bind fun t365 => ((spec_DrawCostSum.f k t365).bind fun bt368 => ((impl_CostSum.f k bt368.1 bt368.2.1 bt368.2.2.1 bt368.2.2.2).bind fun bt374 => ((spec_CostSum.f k bt368.1 bt368.2.1 bt368.2.2.1 bt368.2.2.2).bind fun bt376 => ((impl_OverSum.f k bt368.1 bt368.2.2.2).bind fun bt378 => ((spec_OverSum.f k bt368.1 bt368.2.2.2).bind fun bt380 => ((impl_ShortSum.f k bt368.1 bt368.2.2.2).bind fun bt382 => ((spec_ShortSum.f k bt368.1 bt368.2.2.2).bind fun bt384 => ((impl_MeanSum.f k bt368.1).bind fun bt386 => ((spec_MeanSum.f k bt368.1).bind fun bt388 => ((impl_TotalWeight.f k bt368.1).bind fun bt390 => ((spec_TotalWeight.f k bt368.1).bind fun bt392 => ((impl_WeightUpTo.f k bt368.1 bt368.2.2.2).bind fun bt394 => ((spec_WeightUpTo.f k bt368.1 bt368.2.2.2).bind fun bt396 => (if t353 = t355 then (if (t354 != t356) = true then (none) else (if (bt357.2 != bt361.2) = true then (none) else ((laws_vInts.f k bt357.1 bt361.1).bind fun t398 => (if t398 = true then (if bt374.1 = bt376.1 then (if (bt374.2 != bt376.2) = true then (none) else (if bt378.1 = bt380.1 then (if (bt378.2 != bt380.2) = true then (none) else (if bt382.1 = bt384.1 then (if (bt382.2 != bt384.2) = true then (none) else (if bt386.1 = bt388.1 then (if (bt386.2 != bt388.2) = true then (none) else (if bt390.1 = bt392.1 then (if (bt390.2 != bt392.2) = true then (none) else (if bt394.1 = bt396.1 then (if (bt394.2 != bt396.2) = true then (none) else ((impl_IsDistribution.f k t348).bind fun t399 => ((spec_IsDistribution.f k t348).bind fun t400 => (if (t399 != t400) = true then (none) else (if bt378.2 = true then (if (wrap64 (bt378.1 - bt382.1)) = (wrap64 ((wrap64 (bt368.2.2.2 * bt390.1)) - bt386.1)) then (if bt394.1 > bt390.1 then (laws_FnCriticalOrders.j0 k t348 t349 t350 t353 t354 bt357.1 true) else (if bt374.2 = true then (laws_FnCriticalOrders.j0 k t348 t349 t350 t353 t354 bt357.1 (bt374.1 != (wrap64 ((wrap64 (bt368.2.1 * bt378.1)) + (wrap64 (bt368.2.2.1 * bt382.1)))))) else (laws_FnCriticalOrders.j0 k t348 t349 t350 t353 t354 bt357.1 false))) else (laws_FnCriticalOrders.j0 k t348 t349 t350 t353 t354 bt357.1 true)) else (laws_FnCriticalOrders.j0 k t348 t349 t350 t353 t354 bt357.1 false)))))) else (none))) else (none))) else (none))) else (none))) else (none))) else (none)) else (none))))) else (none)))))))))))))))))) = some r := H
  have A6 := am_ A60
  clear A60
  replace H := Option.bind_eq_some_iff.mp H
  obtain ⟨⟨t357, t358⟩, A70, H⟩ := H
  replace H : ((spec_BestOrders.f k t348 t349 t350).bind fun bt361 => ((laws_vCut.f l0 1).bind fun t365 => ((spec_DrawCostSum.f k t365).bind fun bt368 => ((impl_CostSum.f k bt368.1 bt368.2.1 bt368.2.2.1 bt368.2.2.2).bind fun bt374 => ((spec_CostSum.f k bt368.1 bt368.2.1 bt368.2.2.1 bt368.2.2.2).bind fun bt376 => ((impl_OverSum.f k bt368.1 bt368.2.2.2).bind fun bt378 => ((spec_OverSum.f k bt368.1 bt368.2.2.2).bind fun bt380 => ((impl_ShortSum.f k bt368.1 bt368.2.2.2).bind fun bt382 => ((spec_ShortSum.f k bt368.1 bt368.2.2.2).bind fun bt384 => ((impl_MeanSum.f k bt368.1).bind fun bt386 => ((spec_MeanSum.f k bt368.1).bind fun bt388 => ((impl_TotalWeight.f k bt368.1).bind fun bt390 => ((spec_TotalWeight.f k bt368.1).bind fun bt392 => ((impl_WeightUpTo.f k bt368.1 bt368.2.2.2).bind fun bt394 => ((spec_WeightUpTo.f k bt368.1 bt368.2.2.2).bind fun bt396 => (if t353 = t355 then (if (t354 != t356) = true then (none) else (if (t358 != bt361.2) = true then (none) else ((laws_vInts.f k t357 bt361.1).bind fun t398 => (if t398 = true then (if bt374.1 = bt376.1 then (if (bt374.2 != bt376.2) = true then (none) else (if bt378.1 = bt380.1 then (if (bt378.2 != bt380.2) = true then (none) else (if bt382.1 = bt384.1 then (if (bt382.2 != bt384.2) = true then (none) else (if bt386.1 = bt388.1 then (if (bt386.2 != bt388.2) = true then (none) else (if bt390.1 = bt392.1 then (if (bt390.2 != bt392.2) = true then (none) else (if bt394.1 = bt396.1 then (if (bt394.2 != bt396.2) = true then (none) else ((impl_IsDistribution.f k t348).bind fun t399 => ((spec_IsDistribution.f k t348).bind fun t400 => (if (t399 != t400) = true then (none) else (if bt378.2 = true then (if (wrap64 (bt378.1 - bt382.1)) = (wrap64 ((wrap64 (bt368.2.2.2 * bt390.1)) - bt386.1)) then (if bt394.1 > bt390.1 then (laws_FnCriticalOrders.j0 k t348 t349 t350 t353 t354 t357 true) else (if bt374.2 = true then (laws_FnCriticalOrders.j0 k t348 t349 t350 t353 t354 t357 (bt374.1 != (wrap64 ((wrap64 (bt368.2.1 * bt378.1)) + (wrap64 (bt368.2.2.1 * bt382.1)))))) else (laws_FnCriticalOrders.j0 k t348 t349 t350 t353 t354 t357 false))) else (laws_FnCriticalOrders.j0 k t348 t349 t350 t353 t354 t357 true)) else (laws_FnCriticalOrders.j0 k t348 t349 t350 t353 t354 t357 false)))))) else (none))) else (none))) else (none))) else (none))) else (none))) else (none)) else (none))))) else (none))))))))))))))))) = some r := H
  have A7 := am_ A70
  clear A70
  replace H := Option.bind_eq_some_iff.mp H
  obtain ⟨⟨t361, t362⟩, A80, H⟩ := H
  replace H : ((laws_vCut.f l0 1).bind fun t365 => ((spec_DrawCostSum.f k t365).bind fun bt368 => ((impl_CostSum.f k bt368.1 bt368.2.1 bt368.2.2.1 bt368.2.2.2).bind fun bt374 => ((spec_CostSum.f k bt368.1 bt368.2.1 bt368.2.2.1 bt368.2.2.2).bind fun bt376 => ((impl_OverSum.f k bt368.1 bt368.2.2.2).bind fun bt378 => ((spec_OverSum.f k bt368.1 bt368.2.2.2).bind fun bt380 => ((impl_ShortSum.f k bt368.1 bt368.2.2.2).bind fun bt382 => ((spec_ShortSum.f k bt368.1 bt368.2.2.2).bind fun bt384 => ((impl_MeanSum.f k bt368.1).bind fun bt386 => ((spec_MeanSum.f k bt368.1).bind fun bt388 => ((impl_TotalWeight.f k bt368.1).bind fun bt390 => ((spec_TotalWeight.f k bt368.1).bind fun bt392 => ((impl_WeightUpTo.f k bt368.1 bt368.2.2.2).bind fun bt394 => ((spec_WeightUpTo.f k bt368.1 bt368.2.2.2).bind fun bt396 => (if t353 = t355 then (if (t354 != t356) = true then (none) else (if (t358 != t362) = true then (none) else ((laws_vInts.f k t357 t361).bind fun t398 => (if t398 = true then (if bt374.1 = bt376.1 then (if (bt374.2 != bt376.2) = true then (none) else (if bt378.1 = bt380.1 then (if (bt378.2 != bt380.2) = true then (none) else (if bt382.1 = bt384.1 then (if (bt382.2 != bt384.2) = true then (none) else (if bt386.1 = bt388.1 then (if (bt386.2 != bt388.2) = true then (none) else (if bt390.1 = bt392.1 then (if (bt390.2 != bt392.2) = true then (none) else (if bt394.1 = bt396.1 then (if (bt394.2 != bt396.2) = true then (none) else ((impl_IsDistribution.f k t348).bind fun t399 => ((spec_IsDistribution.f k t348).bind fun t400 => (if (t399 != t400) = true then (none) else (if bt378.2 = true then (if (wrap64 (bt378.1 - bt382.1)) = (wrap64 ((wrap64 (bt368.2.2.2 * bt390.1)) - bt386.1)) then (if bt394.1 > bt390.1 then (laws_FnCriticalOrders.j0 k t348 t349 t350 t353 t354 t357 true) else (if bt374.2 = true then (laws_FnCriticalOrders.j0 k t348 t349 t350 t353 t354 t357 (bt374.1 != (wrap64 ((wrap64 (bt368.2.1 * bt378.1)) + (wrap64 (bt368.2.2.1 * bt382.1)))))) else (laws_FnCriticalOrders.j0 k t348 t349 t350 t353 t354 t357 false))) else (laws_FnCriticalOrders.j0 k t348 t349 t350 t353 t354 t357 true)) else (laws_FnCriticalOrders.j0 k t348 t349 t350 t353 t354 t357 false)))))) else (none))) else (none))) else (none))) else (none))) else (none))) else (none)) else (none))))) else (none)))))))))))))))) = some r := H
  have A8 := am_ A80
  clear A80
  replace H := Option.bind_eq_some_iff.mp H
  obtain ⟨t365, A90, H⟩ := H
  replace H : ((spec_DrawCostSum.f k t365).bind fun bt368 => ((impl_CostSum.f k bt368.1 bt368.2.1 bt368.2.2.1 bt368.2.2.2).bind fun bt374 => ((spec_CostSum.f k bt368.1 bt368.2.1 bt368.2.2.1 bt368.2.2.2).bind fun bt376 => ((impl_OverSum.f k bt368.1 bt368.2.2.2).bind fun bt378 => ((spec_OverSum.f k bt368.1 bt368.2.2.2).bind fun bt380 => ((impl_ShortSum.f k bt368.1 bt368.2.2.2).bind fun bt382 => ((spec_ShortSum.f k bt368.1 bt368.2.2.2).bind fun bt384 => ((impl_MeanSum.f k bt368.1).bind fun bt386 => ((spec_MeanSum.f k bt368.1).bind fun bt388 => ((impl_TotalWeight.f k bt368.1).bind fun bt390 => ((spec_TotalWeight.f k bt368.1).bind fun bt392 => ((impl_WeightUpTo.f k bt368.1 bt368.2.2.2).bind fun bt394 => ((spec_WeightUpTo.f k bt368.1 bt368.2.2.2).bind fun bt396 => (if t353 = t355 then (if (t354 != t356) = true then (none) else (if (t358 != t362) = true then (none) else ((laws_vInts.f k t357 t361).bind fun t398 => (if t398 = true then (if bt374.1 = bt376.1 then (if (bt374.2 != bt376.2) = true then (none) else (if bt378.1 = bt380.1 then (if (bt378.2 != bt380.2) = true then (none) else (if bt382.1 = bt384.1 then (if (bt382.2 != bt384.2) = true then (none) else (if bt386.1 = bt388.1 then (if (bt386.2 != bt388.2) = true then (none) else (if bt390.1 = bt392.1 then (if (bt390.2 != bt392.2) = true then (none) else (if bt394.1 = bt396.1 then (if (bt394.2 != bt396.2) = true then (none) else ((impl_IsDistribution.f k t348).bind fun t399 => ((spec_IsDistribution.f k t348).bind fun t400 => (if (t399 != t400) = true then (none) else (if bt378.2 = true then (if (wrap64 (bt378.1 - bt382.1)) = (wrap64 ((wrap64 (bt368.2.2.2 * bt390.1)) - bt386.1)) then (if bt394.1 > bt390.1 then (laws_FnCriticalOrders.j0 k t348 t349 t350 t353 t354 t357 true) else (if bt374.2 = true then (laws_FnCriticalOrders.j0 k t348 t349 t350 t353 t354 t357 (bt374.1 != (wrap64 ((wrap64 (bt368.2.1 * bt378.1)) + (wrap64 (bt368.2.2.1 * bt382.1)))))) else (laws_FnCriticalOrders.j0 k t348 t349 t350 t353 t354 t357 false))) else (laws_FnCriticalOrders.j0 k t348 t349 t350 t353 t354 t357 true)) else (laws_FnCriticalOrders.j0 k t348 t349 t350 t353 t354 t357 false)))))) else (none))) else (none))) else (none))) else (none))) else (none))) else (none)) else (none))))) else (none))))))))))))))) = some r := H
  have A9 := am_ A90
  clear A90
  replace H := Option.bind_eq_some_iff.mp H
  obtain ⟨⟨t368, t369, t370, t371⟩, A100, H⟩ := H
  replace H : ((impl_CostSum.f k t368 t369 t370 t371).bind fun bt374 => ((spec_CostSum.f k t368 t369 t370 t371).bind fun bt376 => ((impl_OverSum.f k t368 t371).bind fun bt378 => ((spec_OverSum.f k t368 t371).bind fun bt380 => ((impl_ShortSum.f k t368 t371).bind fun bt382 => ((spec_ShortSum.f k t368 t371).bind fun bt384 => ((impl_MeanSum.f k t368).bind fun bt386 => ((spec_MeanSum.f k t368).bind fun bt388 => ((impl_TotalWeight.f k t368).bind fun bt390 => ((spec_TotalWeight.f k t368).bind fun bt392 => ((impl_WeightUpTo.f k t368 t371).bind fun bt394 => ((spec_WeightUpTo.f k t368 t371).bind fun bt396 => (if t353 = t355 then (if (t354 != t356) = true then (none) else (if (t358 != t362) = true then (none) else ((laws_vInts.f k t357 t361).bind fun t398 => (if t398 = true then (if bt374.1 = bt376.1 then (if (bt374.2 != bt376.2) = true then (none) else (if bt378.1 = bt380.1 then (if (bt378.2 != bt380.2) = true then (none) else (if bt382.1 = bt384.1 then (if (bt382.2 != bt384.2) = true then (none) else (if bt386.1 = bt388.1 then (if (bt386.2 != bt388.2) = true then (none) else (if bt390.1 = bt392.1 then (if (bt390.2 != bt392.2) = true then (none) else (if bt394.1 = bt396.1 then (if (bt394.2 != bt396.2) = true then (none) else ((impl_IsDistribution.f k t348).bind fun t399 => ((spec_IsDistribution.f k t348).bind fun t400 => (if (t399 != t400) = true then (none) else (if bt378.2 = true then (if (wrap64 (bt378.1 - bt382.1)) = (wrap64 ((wrap64 (t371 * bt390.1)) - bt386.1)) then (if bt394.1 > bt390.1 then (laws_FnCriticalOrders.j0 k t348 t349 t350 t353 t354 t357 true) else (if bt374.2 = true then (laws_FnCriticalOrders.j0 k t348 t349 t350 t353 t354 t357 (bt374.1 != (wrap64 ((wrap64 (t369 * bt378.1)) + (wrap64 (t370 * bt382.1)))))) else (laws_FnCriticalOrders.j0 k t348 t349 t350 t353 t354 t357 false))) else (laws_FnCriticalOrders.j0 k t348 t349 t350 t353 t354 t357 true)) else (laws_FnCriticalOrders.j0 k t348 t349 t350 t353 t354 t357 false)))))) else (none))) else (none))) else (none))) else (none))) else (none))) else (none)) else (none))))) else (none)))))))))))))) = some r := H
  have A10 := am_ A100
  clear A100
  replace H := Option.bind_eq_some_iff.mp H
  obtain ⟨⟨t374, t375⟩, A110, H⟩ := H
  replace H : ((spec_CostSum.f k t368 t369 t370 t371).bind fun bt376 => ((impl_OverSum.f k t368 t371).bind fun bt378 => ((spec_OverSum.f k t368 t371).bind fun bt380 => ((impl_ShortSum.f k t368 t371).bind fun bt382 => ((spec_ShortSum.f k t368 t371).bind fun bt384 => ((impl_MeanSum.f k t368).bind fun bt386 => ((spec_MeanSum.f k t368).bind fun bt388 => ((impl_TotalWeight.f k t368).bind fun bt390 => ((spec_TotalWeight.f k t368).bind fun bt392 => ((impl_WeightUpTo.f k t368 t371).bind fun bt394 => ((spec_WeightUpTo.f k t368 t371).bind fun bt396 => (if t353 = t355 then (if (t354 != t356) = true then (none) else (if (t358 != t362) = true then (none) else ((laws_vInts.f k t357 t361).bind fun t398 => (if t398 = true then (if t374 = bt376.1 then (if (t375 != bt376.2) = true then (none) else (if bt378.1 = bt380.1 then (if (bt378.2 != bt380.2) = true then (none) else (if bt382.1 = bt384.1 then (if (bt382.2 != bt384.2) = true then (none) else (if bt386.1 = bt388.1 then (if (bt386.2 != bt388.2) = true then (none) else (if bt390.1 = bt392.1 then (if (bt390.2 != bt392.2) = true then (none) else (if bt394.1 = bt396.1 then (if (bt394.2 != bt396.2) = true then (none) else ((impl_IsDistribution.f k t348).bind fun t399 => ((spec_IsDistribution.f k t348).bind fun t400 => (if (t399 != t400) = true then (none) else (if bt378.2 = true then (if (wrap64 (bt378.1 - bt382.1)) = (wrap64 ((wrap64 (t371 * bt390.1)) - bt386.1)) then (if bt394.1 > bt390.1 then (laws_FnCriticalOrders.j0 k t348 t349 t350 t353 t354 t357 true) else (if t375 = true then (laws_FnCriticalOrders.j0 k t348 t349 t350 t353 t354 t357 (t374 != (wrap64 ((wrap64 (t369 * bt378.1)) + (wrap64 (t370 * bt382.1)))))) else (laws_FnCriticalOrders.j0 k t348 t349 t350 t353 t354 t357 false))) else (laws_FnCriticalOrders.j0 k t348 t349 t350 t353 t354 t357 true)) else (laws_FnCriticalOrders.j0 k t348 t349 t350 t353 t354 t357 false)))))) else (none))) else (none))) else (none))) else (none))) else (none))) else (none)) else (none))))) else (none))))))))))))) = some r := H
  have A11 := am_ A110
  clear A110
  replace H := Option.bind_eq_some_iff.mp H
  obtain ⟨⟨t376, t377⟩, A120, H⟩ := H
  replace H : ((impl_OverSum.f k t368 t371).bind fun bt378 => ((spec_OverSum.f k t368 t371).bind fun bt380 => ((impl_ShortSum.f k t368 t371).bind fun bt382 => ((spec_ShortSum.f k t368 t371).bind fun bt384 => ((impl_MeanSum.f k t368).bind fun bt386 => ((spec_MeanSum.f k t368).bind fun bt388 => ((impl_TotalWeight.f k t368).bind fun bt390 => ((spec_TotalWeight.f k t368).bind fun bt392 => ((impl_WeightUpTo.f k t368 t371).bind fun bt394 => ((spec_WeightUpTo.f k t368 t371).bind fun bt396 => (if t353 = t355 then (if (t354 != t356) = true then (none) else (if (t358 != t362) = true then (none) else ((laws_vInts.f k t357 t361).bind fun t398 => (if t398 = true then (if t374 = t376 then (if (t375 != t377) = true then (none) else (if bt378.1 = bt380.1 then (if (bt378.2 != bt380.2) = true then (none) else (if bt382.1 = bt384.1 then (if (bt382.2 != bt384.2) = true then (none) else (if bt386.1 = bt388.1 then (if (bt386.2 != bt388.2) = true then (none) else (if bt390.1 = bt392.1 then (if (bt390.2 != bt392.2) = true then (none) else (if bt394.1 = bt396.1 then (if (bt394.2 != bt396.2) = true then (none) else ((impl_IsDistribution.f k t348).bind fun t399 => ((spec_IsDistribution.f k t348).bind fun t400 => (if (t399 != t400) = true then (none) else (if bt378.2 = true then (if (wrap64 (bt378.1 - bt382.1)) = (wrap64 ((wrap64 (t371 * bt390.1)) - bt386.1)) then (if bt394.1 > bt390.1 then (laws_FnCriticalOrders.j0 k t348 t349 t350 t353 t354 t357 true) else (if t375 = true then (laws_FnCriticalOrders.j0 k t348 t349 t350 t353 t354 t357 (t374 != (wrap64 ((wrap64 (t369 * bt378.1)) + (wrap64 (t370 * bt382.1)))))) else (laws_FnCriticalOrders.j0 k t348 t349 t350 t353 t354 t357 false))) else (laws_FnCriticalOrders.j0 k t348 t349 t350 t353 t354 t357 true)) else (laws_FnCriticalOrders.j0 k t348 t349 t350 t353 t354 t357 false)))))) else (none))) else (none))) else (none))) else (none))) else (none))) else (none)) else (none))))) else (none)))))))))))) = some r := H
  have A12 := am_ A120
  clear A120
  replace H := Option.bind_eq_some_iff.mp H
  obtain ⟨⟨t378, t379⟩, A130, H⟩ := H
  replace H : ((spec_OverSum.f k t368 t371).bind fun bt380 => ((impl_ShortSum.f k t368 t371).bind fun bt382 => ((spec_ShortSum.f k t368 t371).bind fun bt384 => ((impl_MeanSum.f k t368).bind fun bt386 => ((spec_MeanSum.f k t368).bind fun bt388 => ((impl_TotalWeight.f k t368).bind fun bt390 => ((spec_TotalWeight.f k t368).bind fun bt392 => ((impl_WeightUpTo.f k t368 t371).bind fun bt394 => ((spec_WeightUpTo.f k t368 t371).bind fun bt396 => (if t353 = t355 then (if (t354 != t356) = true then (none) else (if (t358 != t362) = true then (none) else ((laws_vInts.f k t357 t361).bind fun t398 => (if t398 = true then (if t374 = t376 then (if (t375 != t377) = true then (none) else (if t378 = bt380.1 then (if (t379 != bt380.2) = true then (none) else (if bt382.1 = bt384.1 then (if (bt382.2 != bt384.2) = true then (none) else (if bt386.1 = bt388.1 then (if (bt386.2 != bt388.2) = true then (none) else (if bt390.1 = bt392.1 then (if (bt390.2 != bt392.2) = true then (none) else (if bt394.1 = bt396.1 then (if (bt394.2 != bt396.2) = true then (none) else ((impl_IsDistribution.f k t348).bind fun t399 => ((spec_IsDistribution.f k t348).bind fun t400 => (if (t399 != t400) = true then (none) else (if t379 = true then (if (wrap64 (t378 - bt382.1)) = (wrap64 ((wrap64 (t371 * bt390.1)) - bt386.1)) then (if bt394.1 > bt390.1 then (laws_FnCriticalOrders.j0 k t348 t349 t350 t353 t354 t357 true) else (if t375 = true then (laws_FnCriticalOrders.j0 k t348 t349 t350 t353 t354 t357 (t374 != (wrap64 ((wrap64 (t369 * t378)) + (wrap64 (t370 * bt382.1)))))) else (laws_FnCriticalOrders.j0 k t348 t349 t350 t353 t354 t357 false))) else (laws_FnCriticalOrders.j0 k t348 t349 t350 t353 t354 t357 true)) else (laws_FnCriticalOrders.j0 k t348 t349 t350 t353 t354 t357 false)))))) else (none))) else (none))) else (none))) else (none))) else (none))) else (none)) else (none))))) else (none))))))))))) = some r := H
  have A13 := am_ A130
  clear A130
  replace H := Option.bind_eq_some_iff.mp H
  obtain ⟨⟨t380, t381⟩, A140, H⟩ := H
  replace H : ((impl_ShortSum.f k t368 t371).bind fun bt382 => ((spec_ShortSum.f k t368 t371).bind fun bt384 => ((impl_MeanSum.f k t368).bind fun bt386 => ((spec_MeanSum.f k t368).bind fun bt388 => ((impl_TotalWeight.f k t368).bind fun bt390 => ((spec_TotalWeight.f k t368).bind fun bt392 => ((impl_WeightUpTo.f k t368 t371).bind fun bt394 => ((spec_WeightUpTo.f k t368 t371).bind fun bt396 => (if t353 = t355 then (if (t354 != t356) = true then (none) else (if (t358 != t362) = true then (none) else ((laws_vInts.f k t357 t361).bind fun t398 => (if t398 = true then (if t374 = t376 then (if (t375 != t377) = true then (none) else (if t378 = t380 then (if (t379 != t381) = true then (none) else (if bt382.1 = bt384.1 then (if (bt382.2 != bt384.2) = true then (none) else (if bt386.1 = bt388.1 then (if (bt386.2 != bt388.2) = true then (none) else (if bt390.1 = bt392.1 then (if (bt390.2 != bt392.2) = true then (none) else (if bt394.1 = bt396.1 then (if (bt394.2 != bt396.2) = true then (none) else ((impl_IsDistribution.f k t348).bind fun t399 => ((spec_IsDistribution.f k t348).bind fun t400 => (if (t399 != t400) = true then (none) else (if t379 = true then (if (wrap64 (t378 - bt382.1)) = (wrap64 ((wrap64 (t371 * bt390.1)) - bt386.1)) then (if bt394.1 > bt390.1 then (laws_FnCriticalOrders.j0 k t348 t349 t350 t353 t354 t357 true) else (if t375 = true then (laws_FnCriticalOrders.j0 k t348 t349 t350 t353 t354 t357 (t374 != (wrap64 ((wrap64 (t369 * t378)) + (wrap64 (t370 * bt382.1)))))) else (laws_FnCriticalOrders.j0 k t348 t349 t350 t353 t354 t357 false))) else (laws_FnCriticalOrders.j0 k t348 t349 t350 t353 t354 t357 true)) else (laws_FnCriticalOrders.j0 k t348 t349 t350 t353 t354 t357 false)))))) else (none))) else (none))) else (none))) else (none))) else (none))) else (none)) else (none))))) else (none)))))))))) = some r := H
  have A14 := am_ A140
  clear A140
  replace H := Option.bind_eq_some_iff.mp H
  obtain ⟨⟨t382, t383⟩, A150, H⟩ := H
  replace H : ((spec_ShortSum.f k t368 t371).bind fun bt384 => ((impl_MeanSum.f k t368).bind fun bt386 => ((spec_MeanSum.f k t368).bind fun bt388 => ((impl_TotalWeight.f k t368).bind fun bt390 => ((spec_TotalWeight.f k t368).bind fun bt392 => ((impl_WeightUpTo.f k t368 t371).bind fun bt394 => ((spec_WeightUpTo.f k t368 t371).bind fun bt396 => (if t353 = t355 then (if (t354 != t356) = true then (none) else (if (t358 != t362) = true then (none) else ((laws_vInts.f k t357 t361).bind fun t398 => (if t398 = true then (if t374 = t376 then (if (t375 != t377) = true then (none) else (if t378 = t380 then (if (t379 != t381) = true then (none) else (if t382 = bt384.1 then (if (t383 != bt384.2) = true then (none) else (if bt386.1 = bt388.1 then (if (bt386.2 != bt388.2) = true then (none) else (if bt390.1 = bt392.1 then (if (bt390.2 != bt392.2) = true then (none) else (if bt394.1 = bt396.1 then (if (bt394.2 != bt396.2) = true then (none) else ((impl_IsDistribution.f k t348).bind fun t399 => ((spec_IsDistribution.f k t348).bind fun t400 => (if (t399 != t400) = true then (none) else (if t379 = true then (if (wrap64 (t378 - t382)) = (wrap64 ((wrap64 (t371 * bt390.1)) - bt386.1)) then (if bt394.1 > bt390.1 then (laws_FnCriticalOrders.j0 k t348 t349 t350 t353 t354 t357 true) else (if t375 = true then (laws_FnCriticalOrders.j0 k t348 t349 t350 t353 t354 t357 (t374 != (wrap64 ((wrap64 (t369 * t378)) + (wrap64 (t370 * t382)))))) else (laws_FnCriticalOrders.j0 k t348 t349 t350 t353 t354 t357 false))) else (laws_FnCriticalOrders.j0 k t348 t349 t350 t353 t354 t357 true)) else (laws_FnCriticalOrders.j0 k t348 t349 t350 t353 t354 t357 false)))))) else (none))) else (none))) else (none))) else (none))) else (none))) else (none)) else (none))))) else (none))))))))) = some r := H
  have A15 := am_ A150
  clear A150
  replace H := Option.bind_eq_some_iff.mp H
  obtain ⟨⟨t384, t385⟩, A160, H⟩ := H
  replace H : ((impl_MeanSum.f k t368).bind fun bt386 => ((spec_MeanSum.f k t368).bind fun bt388 => ((impl_TotalWeight.f k t368).bind fun bt390 => ((spec_TotalWeight.f k t368).bind fun bt392 => ((impl_WeightUpTo.f k t368 t371).bind fun bt394 => ((spec_WeightUpTo.f k t368 t371).bind fun bt396 => (if t353 = t355 then (if (t354 != t356) = true then (none) else (if (t358 != t362) = true then (none) else ((laws_vInts.f k t357 t361).bind fun t398 => (if t398 = true then (if t374 = t376 then (if (t375 != t377) = true then (none) else (if t378 = t380 then (if (t379 != t381) = true then (none) else (if t382 = t384 then (if (t383 != t385) = true then (none) else (if bt386.1 = bt388.1 then (if (bt386.2 != bt388.2) = true then (none) else (if bt390.1 = bt392.1 then (if (bt390.2 != bt392.2) = true then (none) else (if bt394.1 = bt396.1 then (if (bt394.2 != bt396.2) = true then (none) else ((impl_IsDistribution.f k t348).bind fun t399 => ((spec_IsDistribution.f k t348).bind fun t400 => (if (t399 != t400) = true then (none) else (if t379 = true then (if (wrap64 (t378 - t382)) = (wrap64 ((wrap64 (t371 * bt390.1)) - bt386.1)) then (if bt394.1 > bt390.1 then (laws_FnCriticalOrders.j0 k t348 t349 t350 t353 t354 t357 true) else (if t375 = true then (laws_FnCriticalOrders.j0 k t348 t349 t350 t353 t354 t357 (t374 != (wrap64 ((wrap64 (t369 * t378)) + (wrap64 (t370 * t382)))))) else (laws_FnCriticalOrders.j0 k t348 t349 t350 t353 t354 t357 false))) else (laws_FnCriticalOrders.j0 k t348 t349 t350 t353 t354 t357 true)) else (laws_FnCriticalOrders.j0 k t348 t349 t350 t353 t354 t357 false)))))) else (none))) else (none))) else (none))) else (none))) else (none))) else (none)) else (none))))) else (none)))))))) = some r := H
  have A16 := am_ A160
  clear A160
  replace H := Option.bind_eq_some_iff.mp H
  obtain ⟨⟨t386, t387⟩, A170, H⟩ := H
  replace H : ((spec_MeanSum.f k t368).bind fun bt388 => ((impl_TotalWeight.f k t368).bind fun bt390 => ((spec_TotalWeight.f k t368).bind fun bt392 => ((impl_WeightUpTo.f k t368 t371).bind fun bt394 => ((spec_WeightUpTo.f k t368 t371).bind fun bt396 => (if t353 = t355 then (if (t354 != t356) = true then (none) else (if (t358 != t362) = true then (none) else ((laws_vInts.f k t357 t361).bind fun t398 => (if t398 = true then (if t374 = t376 then (if (t375 != t377) = true then (none) else (if t378 = t380 then (if (t379 != t381) = true then (none) else (if t382 = t384 then (if (t383 != t385) = true then (none) else (if t386 = bt388.1 then (if (t387 != bt388.2) = true then (none) else (if bt390.1 = bt392.1 then (if (bt390.2 != bt392.2) = true then (none) else (if bt394.1 = bt396.1 then (if (bt394.2 != bt396.2) = true then (none) else ((impl_IsDistribution.f k t348).bind fun t399 => ((spec_IsDistribution.f k t348).bind fun t400 => (if (t399 != t400) = true then (none) else (if t379 = true then (if (wrap64 (t378 - t382)) = (wrap64 ((wrap64 (t371 * bt390.1)) - t386)) then (if bt394.1 > bt390.1 then (laws_FnCriticalOrders.j0 k t348 t349 t350 t353 t354 t357 true) else (if t375 = true then (laws_FnCriticalOrders.j0 k t348 t349 t350 t353 t354 t357 (t374 != (wrap64 ((wrap64 (t369 * t378)) + (wrap64 (t370 * t382)))))) else (laws_FnCriticalOrders.j0 k t348 t349 t350 t353 t354 t357 false))) else (laws_FnCriticalOrders.j0 k t348 t349 t350 t353 t354 t357 true)) else (laws_FnCriticalOrders.j0 k t348 t349 t350 t353 t354 t357 false)))))) else (none))) else (none))) else (none))) else (none))) else (none))) else (none)) else (none))))) else (none))))))) = some r := H
  have A17 := am_ A170
  clear A170
  replace H := Option.bind_eq_some_iff.mp H
  obtain ⟨⟨t388, t389⟩, A180, H⟩ := H
  replace H : ((impl_TotalWeight.f k t368).bind fun bt390 => ((spec_TotalWeight.f k t368).bind fun bt392 => ((impl_WeightUpTo.f k t368 t371).bind fun bt394 => ((spec_WeightUpTo.f k t368 t371).bind fun bt396 => (if t353 = t355 then (if (t354 != t356) = true then (none) else (if (t358 != t362) = true then (none) else ((laws_vInts.f k t357 t361).bind fun t398 => (if t398 = true then (if t374 = t376 then (if (t375 != t377) = true then (none) else (if t378 = t380 then (if (t379 != t381) = true then (none) else (if t382 = t384 then (if (t383 != t385) = true then (none) else (if t386 = t388 then (if (t387 != t389) = true then (none) else (if bt390.1 = bt392.1 then (if (bt390.2 != bt392.2) = true then (none) else (if bt394.1 = bt396.1 then (if (bt394.2 != bt396.2) = true then (none) else ((impl_IsDistribution.f k t348).bind fun t399 => ((spec_IsDistribution.f k t348).bind fun t400 => (if (t399 != t400) = true then (none) else (if t379 = true then (if (wrap64 (t378 - t382)) = (wrap64 ((wrap64 (t371 * bt390.1)) - t386)) then (if bt394.1 > bt390.1 then (laws_FnCriticalOrders.j0 k t348 t349 t350 t353 t354 t357 true) else (if t375 = true then (laws_FnCriticalOrders.j0 k t348 t349 t350 t353 t354 t357 (t374 != (wrap64 ((wrap64 (t369 * t378)) + (wrap64 (t370 * t382)))))) else (laws_FnCriticalOrders.j0 k t348 t349 t350 t353 t354 t357 false))) else (laws_FnCriticalOrders.j0 k t348 t349 t350 t353 t354 t357 true)) else (laws_FnCriticalOrders.j0 k t348 t349 t350 t353 t354 t357 false)))))) else (none))) else (none))) else (none))) else (none))) else (none))) else (none)) else (none))))) else (none)))))) = some r := H
  have A18 := am_ A180
  clear A180
  replace H := Option.bind_eq_some_iff.mp H
  obtain ⟨⟨t390, t391⟩, A190, H⟩ := H
  replace H : ((spec_TotalWeight.f k t368).bind fun bt392 => ((impl_WeightUpTo.f k t368 t371).bind fun bt394 => ((spec_WeightUpTo.f k t368 t371).bind fun bt396 => (if t353 = t355 then (if (t354 != t356) = true then (none) else (if (t358 != t362) = true then (none) else ((laws_vInts.f k t357 t361).bind fun t398 => (if t398 = true then (if t374 = t376 then (if (t375 != t377) = true then (none) else (if t378 = t380 then (if (t379 != t381) = true then (none) else (if t382 = t384 then (if (t383 != t385) = true then (none) else (if t386 = t388 then (if (t387 != t389) = true then (none) else (if t390 = bt392.1 then (if (t391 != bt392.2) = true then (none) else (if bt394.1 = bt396.1 then (if (bt394.2 != bt396.2) = true then (none) else ((impl_IsDistribution.f k t348).bind fun t399 => ((spec_IsDistribution.f k t348).bind fun t400 => (if (t399 != t400) = true then (none) else (if t379 = true then (if (wrap64 (t378 - t382)) = (wrap64 ((wrap64 (t371 * t390)) - t386)) then (if bt394.1 > t390 then (laws_FnCriticalOrders.j0 k t348 t349 t350 t353 t354 t357 true) else (if t375 = true then (laws_FnCriticalOrders.j0 k t348 t349 t350 t353 t354 t357 (t374 != (wrap64 ((wrap64 (t369 * t378)) + (wrap64 (t370 * t382)))))) else (laws_FnCriticalOrders.j0 k t348 t349 t350 t353 t354 t357 false))) else (laws_FnCriticalOrders.j0 k t348 t349 t350 t353 t354 t357 true)) else (laws_FnCriticalOrders.j0 k t348 t349 t350 t353 t354 t357 false)))))) else (none))) else (none))) else (none))) else (none))) else (none))) else (none)) else (none))))) else (none))))) = some r := H
  have A19 := am_ A190
  clear A190
  replace H := Option.bind_eq_some_iff.mp H
  obtain ⟨⟨t392, t393⟩, A200, H⟩ := H
  replace H : ((impl_WeightUpTo.f k t368 t371).bind fun bt394 => ((spec_WeightUpTo.f k t368 t371).bind fun bt396 => (if t353 = t355 then (if (t354 != t356) = true then (none) else (if (t358 != t362) = true then (none) else ((laws_vInts.f k t357 t361).bind fun t398 => (if t398 = true then (if t374 = t376 then (if (t375 != t377) = true then (none) else (if t378 = t380 then (if (t379 != t381) = true then (none) else (if t382 = t384 then (if (t383 != t385) = true then (none) else (if t386 = t388 then (if (t387 != t389) = true then (none) else (if t390 = t392 then (if (t391 != t393) = true then (none) else (if bt394.1 = bt396.1 then (if (bt394.2 != bt396.2) = true then (none) else ((impl_IsDistribution.f k t348).bind fun t399 => ((spec_IsDistribution.f k t348).bind fun t400 => (if (t399 != t400) = true then (none) else (if t379 = true then (if (wrap64 (t378 - t382)) = (wrap64 ((wrap64 (t371 * t390)) - t386)) then (if bt394.1 > t390 then (laws_FnCriticalOrders.j0 k t348 t349 t350 t353 t354 t357 true) else (if t375 = true then (laws_FnCriticalOrders.j0 k t348 t349 t350 t353 t354 t357 (t374 != (wrap64 ((wrap64 (t369 * t378)) + (wrap64 (t370 * t382)))))) else (laws_FnCriticalOrders.j0 k t348 t349 t350 t353 t354 t357 false))) else (laws_FnCriticalOrders.j0 k t348 t349 t350 t353 t354 t357 true)) else (laws_FnCriticalOrders.j0 k t348 t349 t350 t353 t354 t357 false)))))) else (none))) else (none))) else (none))) else (none))) else (none))) else (none)) else (none))))) else (none)))) = some r := H
  have A20 := am_ A200
  clear A200
  replace H := Option.bind_eq_some_iff.mp H
  obtain ⟨⟨t394, t395⟩, A210, H⟩ := H
  replace H : ((spec_WeightUpTo.f k t368 t371).bind fun bt396 => (if t353 = t355 then (if (t354 != t356) = true then (none) else (if (t358 != t362) = true then (none) else ((laws_vInts.f k t357 t361).bind fun t398 => (if t398 = true then (if t374 = t376 then (if (t375 != t377) = true then (none) else (if t378 = t380 then (if (t379 != t381) = true then (none) else (if t382 = t384 then (if (t383 != t385) = true then (none) else (if t386 = t388 then (if (t387 != t389) = true then (none) else (if t390 = t392 then (if (t391 != t393) = true then (none) else (if t394 = bt396.1 then (if (t395 != bt396.2) = true then (none) else ((impl_IsDistribution.f k t348).bind fun t399 => ((spec_IsDistribution.f k t348).bind fun t400 => (if (t399 != t400) = true then (none) else (if t379 = true then (if (wrap64 (t378 - t382)) = (wrap64 ((wrap64 (t371 * t390)) - t386)) then (if t394 > t390 then (laws_FnCriticalOrders.j0 k t348 t349 t350 t353 t354 t357 true) else (if t375 = true then (laws_FnCriticalOrders.j0 k t348 t349 t350 t353 t354 t357 (t374 != (wrap64 ((wrap64 (t369 * t378)) + (wrap64 (t370 * t382)))))) else (laws_FnCriticalOrders.j0 k t348 t349 t350 t353 t354 t357 false))) else (laws_FnCriticalOrders.j0 k t348 t349 t350 t353 t354 t357 true)) else (laws_FnCriticalOrders.j0 k t348 t349 t350 t353 t354 t357 false)))))) else (none))) else (none))) else (none))) else (none))) else (none))) else (none)) else (none))))) else (none))) = some r := H
  have A21 := am_ A210
  clear A210
  replace H := Option.bind_eq_some_iff.mp H
  obtain ⟨⟨t396, t397⟩, A220, H⟩ := H
  replace H : (if t353 = t355 then (if (t354 != t356) = true then (none) else (if (t358 != t362) = true then (none) else ((laws_vInts.f k t357 t361).bind fun t398 => (if t398 = true then (if t374 = t376 then (if (t375 != t377) = true then (none) else (if t378 = t380 then (if (t379 != t381) = true then (none) else (if t382 = t384 then (if (t383 != t385) = true then (none) else (if t386 = t388 then (if (t387 != t389) = true then (none) else (if t390 = t392 then (if (t391 != t393) = true then (none) else (if t394 = t396 then (if (t395 != t397) = true then (none) else ((impl_IsDistribution.f k t348).bind fun t399 => ((spec_IsDistribution.f k t348).bind fun t400 => (if (t399 != t400) = true then (none) else (if t379 = true then (if (wrap64 (t378 - t382)) = (wrap64 ((wrap64 (t371 * t390)) - t386)) then (if t394 > t390 then (laws_FnCriticalOrders.j0 k t348 t349 t350 t353 t354 t357 true) else (if t375 = true then (laws_FnCriticalOrders.j0 k t348 t349 t350 t353 t354 t357 (t374 != (wrap64 ((wrap64 (t369 * t378)) + (wrap64 (t370 * t382)))))) else (laws_FnCriticalOrders.j0 k t348 t349 t350 t353 t354 t357 false))) else (laws_FnCriticalOrders.j0 k t348 t349 t350 t353 t354 t357 true)) else (laws_FnCriticalOrders.j0 k t348 t349 t350 t353 t354 t357 false)))))) else (none))) else (none))) else (none))) else (none))) else (none))) else (none)) else (none))))) else (none)) = some r := H
  have A22 := am_ A220
  clear A220
  by_cases c23 : t353 = t355
  ·
   rw [if_pos c23] at H
   have c23b0 : (t353 == t355) = true := beq_iff_eq.mpr c23
   have c23b1 : (t353 != t355) = false := bne_eq_false_iff_eq.mpr c23
   clear c23
   by_cases c24 : (t354 != t356) = true
   ·
    rw [if_pos c24] at H
    exact absurd H (by simp)
   ·
    rw [if_neg c24] at H
    have c24b0 : (t354 != t356) = false := by simpa using c24
    (try (have c24b1 : decide (t354 = t356) = true := by simpa using c24))
    (try (have c24b2 : (t354 == t356) = true := by simpa using c24))
    clear c24
    by_cases c25 : (t358 != t362) = true
    ·
     rw [if_pos c25] at H
     exact absurd H (by simp)
    ·
     rw [if_neg c25] at H
     have c25b0 : (t358 != t362) = false := by simpa using c25
     (try (have c25b1 : decide (t358 = t362) = true := by simpa using c25))
     (try (have c25b2 : (t358 == t362) = true := by simpa using c25))
     clear c25
     replace H := Option.bind_eq_some_iff.mp H
     obtain ⟨t398, A260, H⟩ := H
     replace H : (if t398 = true then (if t374 = t376 then (if (t375 != t377) = true then (none) else (if t378 = t380 then (if (t379 != t381) = true then (none) else (if t382 = t384 then (if (t383 != t385) = true then (none) else (if t386 = t388 then (if (t387 != t389) = true then (none) else (if t390 = t392 then (if (t391 != t393) = true then (none) else (if t394 = t396 then (if (t395 != t397) = true then (none) else ((impl_IsDistribution.f k t348).bind fun t399 => ((spec_IsDistribution.f k t348).bind fun t400 => (if (t399 != t400) = true then (none) else (if t379 = true then (if (wrap64 (t378 - t382)) = (wrap64 ((wrap64 (t371 * t390)) - t386)) then (if t394 > t390 then (laws_FnCriticalOrders.j0 k t348 t349 t350 t353 t354 t357 true) else (if t375 = true then (laws_FnCriticalOrders.j0 k t348 t349 t350 t353 t354 t357 (t374 != (wrap64 ((wrap64 (t369 * t378)) + (wrap64 (t370 * t382)))))) else (laws_FnCriticalOrders.j0 k t348 t349 t350 t353 t354 t357 false))) else (laws_FnCriticalOrders.j0 k t348 t349 t350 t353 t354 t357 true)) else (laws_FnCriticalOrders.j0 k t348 t349 t350 t353 t354 t357 false)))))) else (none))) else (none))) else (none))) else (none))) else (none))) else (none)) else (none)) = some r := H
     have A26 := am_ A260
     clear A260
     by_cases c27 : t398 = true
     ·
      subst c27
      have H1 : (if t374 = t376 then (if (t375 != t377) = true then (none) else (if t378 = t380 then (if (t379 != t381) = true then (none) else (if t382 = t384 then (if (t383 != t385) = true then (none) else (if t386 = t388 then (if (t387 != t389) = true then (none) else (if t390 = t392 then (if (t391 != t393) = true then (none) else (if t394 = t396 then (if (t395 != t397) = true then (none) else ((impl_IsDistribution.f k t348).bind fun t399 => ((spec_IsDistribution.f k t348).bind fun t400 => (if (t399 != t400) = true then (none) else (if t379 = true then (if (wrap64 (t378 - t382)) = (wrap64 ((wrap64 (t371 * t390)) - t386)) then (if t394 > t390 then (laws_FnCriticalOrders.j0 k t348 t349 t350 t353 t354 t357 true) else (if t375 = true then (laws_FnCriticalOrders.j0 k t348 t349 t350 t353 t354 t357 (t374 != (wrap64 ((wrap64 (t369 * t378)) + (wrap64 (t370 * t382)))))) else (laws_FnCriticalOrders.j0 k t348 t349 t350 t353 t354 t357 false))) else (laws_FnCriticalOrders.j0 k t348 t349 t350 t353 t354 t357 true)) else (laws_FnCriticalOrders.j0 k t348 t349 t350 t353 t354 t357 false)))))) else (none))) else (none))) else (none))) else (none))) else (none))) else (none)) = some r := by rw [if_pos rfl] at H; exact H
      clear H
      have H := H1
      clear H1
      by_cases c28 : t374 = t376
      ·
       rw [if_pos c28] at H
       have c28b0 : (t374 == t376) = true := beq_iff_eq.mpr c28
       have c28b1 : (t374 != t376) = false := bne_eq_false_iff_eq.mpr c28
       clear c28
       by_cases c29 : (t375 != t377) = true
       ·
        rw [if_pos c29] at H
        exact absurd H (by simp)
       ·
        rw [if_neg c29] at H
        have c29b0 : (t375 != t377) = false := by simpa using c29
        (try (have c29b1 : decide (t375 = t377) = true := by simpa using c29))
        (try (have c29b2 : (t375 == t377) = true := by simpa using c29))
        clear c29
        by_cases c30 : t378 = t380
        ·
         rw [if_pos c30] at H
         have c30b0 : (t378 == t380) = true := beq_iff_eq.mpr c30
         have c30b1 : (t378 != t380) = false := bne_eq_false_iff_eq.mpr c30
         clear c30
         by_cases c31 : (t379 != t381) = true
         ·
          rw [if_pos c31] at H
          exact absurd H (by simp)
         ·
          rw [if_neg c31] at H
          have c31b0 : (t379 != t381) = false := by simpa using c31
          (try (have c31b1 : decide (t379 = t381) = true := by simpa using c31))
          (try (have c31b2 : (t379 == t381) = true := by simpa using c31))
          clear c31
          by_cases c32 : t382 = t384
          ·
           rw [if_pos c32] at H
           have c32b0 : (t382 == t384) = true := beq_iff_eq.mpr c32
           have c32b1 : (t382 != t384) = false := bne_eq_false_iff_eq.mpr c32
           clear c32
           by_cases c33 : (t383 != t385) = true
           ·
            rw [if_pos c33] at H
            exact absurd H (by simp)
           ·
            rw [if_neg c33] at H
            have c33b0 : (t383 != t385) = false := by simpa using c33
            (try (have c33b1 : decide (t383 = t385) = true := by simpa using c33))
            (try (have c33b2 : (t383 == t385) = true := by simpa using c33))
            clear c33
            by_cases c34 : t386 = t388
            ·
             rw [if_pos c34] at H
             have c34b0 : (t386 == t388) = true := beq_iff_eq.mpr c34
             have c34b1 : (t386 != t388) = false := bne_eq_false_iff_eq.mpr c34
             clear c34
             by_cases c35 : (t387 != t389) = true
             ·
              rw [if_pos c35] at H
              exact absurd H (by simp)
             ·
              rw [if_neg c35] at H
              have c35b0 : (t387 != t389) = false := by simpa using c35
              (try (have c35b1 : decide (t387 = t389) = true := by simpa using c35))
              (try (have c35b2 : (t387 == t389) = true := by simpa using c35))
              clear c35
              by_cases c36 : t390 = t392
              ·
               rw [if_pos c36] at H
               have c36b0 : (t390 == t392) = true := beq_iff_eq.mpr c36
               have c36b1 : (t390 != t392) = false := bne_eq_false_iff_eq.mpr c36
               clear c36
               by_cases c37 : (t391 != t393) = true
               ·
                rw [if_pos c37] at H
                exact absurd H (by simp)
               ·
                rw [if_neg c37] at H
                have c37b0 : (t391 != t393) = false := by simpa using c37
                (try (have c37b1 : decide (t391 = t393) = true := by simpa using c37))
                (try (have c37b2 : (t391 == t393) = true := by simpa using c37))
                clear c37
                by_cases c38 : t394 = t396
                ·
                 rw [if_pos c38] at H
                 have c38b0 : (t394 == t396) = true := beq_iff_eq.mpr c38
                 have c38b1 : (t394 != t396) = false := bne_eq_false_iff_eq.mpr c38
                 clear c38
                 by_cases c39 : (t395 != t397) = true
                 ·
                  rw [if_pos c39] at H
                  exact absurd H (by simp)
                 ·
                  rw [if_neg c39] at H
                  have c39b0 : (t395 != t397) = false := by simpa using c39
                  (try (have c39b1 : decide (t395 = t397) = true := by simpa using c39))
                  (try (have c39b2 : (t395 == t397) = true := by simpa using c39))
                  clear c39
                  replace H := Option.bind_eq_some_iff.mp H
                  obtain ⟨t399, A400, H⟩ := H
                  replace H : ((spec_IsDistribution.f k t348).bind fun t400 => (if (t399 != t400) = true then (none) else (if t379 = true then (if (wrap64 (t378 - t382)) = (wrap64 ((wrap64 (t371 * t390)) - t386)) then (if t394 > t390 then (laws_FnCriticalOrders.j0 k t348 t349 t350 t353 t354 t357 true) else (if t375 = true then (laws_FnCriticalOrders.j0 k t348 t349 t350 t353 t354 t357 (t374 != (wrap64 ((wrap64 (t369 * t378)) + (wrap64 (t370 * t382)))))) else (laws_FnCriticalOrders.j0 k t348 t349 t350 t353 t354 t357 false))) else (laws_FnCriticalOrders.j0 k t348 t349 t350 t353 t354 t357 true)) else (laws_FnCriticalOrders.j0 k t348 t349 t350 t353 t354 t357 false)))) = some r := H
                  have A40 := am_ A400
                  clear A400
                  replace H := Option.bind_eq_some_iff.mp H
                  obtain ⟨t400, A410, H⟩ := H
                  replace H : (if (t399 != t400) = true then (none) else (if t379 = true then (if (wrap64 (t378 - t382)) = (wrap64 ((wrap64 (t371 * t390)) - t386)) then (if t394 > t390 then (laws_FnCriticalOrders.j0 k t348 t349 t350 t353 t354 t357 true) else (if t375 = true then (laws_FnCriticalOrders.j0 k t348 t349 t350 t353 t354 t357 (t374 != (wrap64 ((wrap64 (t369 * t378)) + (wrap64 (t370 * t382)))))) else (laws_FnCriticalOrders.j0 k t348 t349 t350 t353 t354 t357 false))) else (laws_FnCriticalOrders.j0 k t348 t349 t350 t353 t354 t357 true)) else (laws_FnCriticalOrders.j0 k t348 t349 t350 t353 t354 t357 false))) = some r := H
                  have A41 := am_ A410
                  clear A410
                  by_cases c42 : (t399 != t400) = true
                  ·
                   rw [if_pos c42] at H
                   exact absurd H (by simp)
                  ·
                   rw [if_neg c42] at H
                   have c42b0 : (t399 != t400) = false := by simpa using c42
                   (try (have c42b1 : decide (t399 = t400) = true := by simpa using c42))
                   (try (have c42b2 : (t399 == t400) = true := by simpa using c42))
                   clear c42
                   have HC43 := am_ H
                   clear H
                   go_enter Try.func3, Try.ntmps3
                   go_upto_region 6 with (first | ((with_reducible refine gc_ (f := 4) rfl ?_); refine goesL_ (some 52) rfl rfl Try.func4 (by kernel_rfl) rfl #[.slice A0 l0.length c0] rfl (by (try simp only [List.map_toArray, List.map_cons, List.map_nil]); first | done | rfl | (simp only [List.length_drop, List.length_take]; rfl)) ?_; (with_reducible refine (laws_vBig.calls _ _ l0 false _ ?side1 ?side2 A2.out).mono ?_); (case side1 => repeat (first | exact HR0.out | (with_reducible refine ca_ ?_ _) | (with_reducible refine cn_ ?_ _) | (with_reducible refine cd_ ?_))); (case side2 => exact HC0.out); rintro e w' ⟨rfl, ⟨nd, rfl⟩⟩; refine ⟨_, rfl, ?_⟩) | ((with_reducible refine gc_ (f := 5) rfl ?_); refine goesL_ (some 55) rfl rfl Try.func5 (by kernel_rfl) rfl #[.slice A0 l0.length c0] rfl (by (try simp only [List.map_toArray, List.map_cons, List.map_nil]); first | done | rfl | (simp only [List.length_drop, List.length_take]; rfl)) ?_; (with_reducible refine (spec_DrawCriticalOrder.calls k _ _ l0 t348 t349 t350 _ ?side1 ?side2 A4.out).mono ?_); (case side1 => repeat (first | exact HR0.out | (with_reducible refine ca_ ?_ _) | (with_reducible refine cn_ ?_ _) | (with_reducible refine cd_ ?_))); (case side2 => exact HC0.out); rintro e w44 ⟨v351, rfl, ho0, hb⟩; refine ⟨_, rfl, ?_⟩; have n0_ := am_ (Kd.R_lower ho0 (below_size (by repeat (first | (with_reducible first | exact HB.out | apply ba_ | apply pw_below_drewN | apply bd_) | exact HB.out)))); have n1_ := am_ (bp_ (by repeat (first | (with_reducible first | exact HB.out | apply ba_ | apply pw_below_drewN | apply bd_) | exact HB.out)) hb); clear HB; have HO352 := n0_; have HB := n1_; clear n0_ n1_; (try clear hb); (try clear hb2); (try clear hk); (try clear hi); (try clear ho0); obtain ⟨Ao45, co45, eo45⟩ := Kd.R_slice HO352.out; subst eo45) | ((with_reducible refine gc_ (f := 6) rfl ?_); refine goesL_ (some 63) rfl rfl Try.func6 (by kernel_rfl) rfl #[.slice Ao45 t348.length co45, .int .i64 t349, .int .i64 t350] rfl (by (try simp only [List.map_toArray, List.map_cons, List.map_nil]); first | done | rfl | (simp only [List.length_drop, List.length_take]; rfl)) ?_; (with_reducible refine (impl_CriticalOrder.calls k _ _ t348 t349 t350 t353 t354 _ ?side1 ?side2 A5.out).mono ?_); (case side1 => repeat (first | exact (rr_ HO352.out).2.2 | (with_reducible refine ca_ ?_ _) | (with_reducible refine cn_ ?_ _) | (with_reducible refine cd_ ?_))); (case side2 => exact (rr_ HO352.out).2.1); rintro e w46 ⟨rfl, hb⟩; refine ⟨_, rfl, ?_⟩; have n0_ := am_ (rb_ (by (with_reducible repeat (first | apply ra_ | apply rn_ | apply rd_)); exact HO352.out) hb); have n1_ := am_ (bp_ (by repeat (first | (with_reducible first | exact HB.out | apply ba_ | apply pw_below_drewN | apply bd_) | exact HB.out)) hb); clear HO352; clear HB; have HO352 := n0_; have HB := n1_; clear n0_ n1_; (try clear hb); (try clear hb2); (try clear hk); (try clear hi)) | ((with_reducible refine gc_ (f := 7) rfl ?_); refine goesL_ (some 70) rfl rfl Try.func7 (by kernel_rfl) rfl #[.slice Ao45 t348.length co45, .int .i64 t349, .int .i64 t350] rfl (by (try simp only [List.map_toArray, List.map_cons, List.map_nil]); first | done | rfl | (simp only [List.length_drop, List.length_take]; rfl)) ?_; (with_reducible refine (spec_CriticalOrder.calls k _ _ t348 t349 t350 t355 t356 _ ?side1 ?side2 A6.out).mono ?_); (case side1 => repeat (first | exact (rr_ HO352.out).2.2 | (with_reducible refine ca_ ?_ _) | (with_reducible refine cn_ ?_ _) | (with_reducible refine cd_ ?_))); (case side2 => exact (rr_ HO352.out).2.1); rintro e w' ⟨rfl, ⟨nd, rfl⟩⟩; refine ⟨_, rfl, ?_⟩))
                   as_aux_lemma =>
                   go_upto_region 9 with (first | ((with_reducible refine gc_ (f := 8) rfl ?_); refine goesL_ (some 77) rfl rfl Try.func8 (by kernel_rfl) rfl #[.slice Ao45 t348.length co45, .int .i64 t349, .int .i64 t350] rfl (by (try simp only [List.map_toArray, List.map_cons, List.map_nil]); first | done | rfl | (simp only [List.length_drop, List.length_take]; rfl)) ?_; (with_reducible refine (impl_BestOrders.calls k _ _ t348 t349 t350 t357 t358 _ ?side1 ?side2 A7.out).mono ?_); (case side1 => repeat (first | exact (rr_ HO352.out).2.2 | (with_reducible refine ca_ ?_ _) | (with_reducible refine cn_ ?_ _) | (with_reducible refine cd_ ?_))); (case side2 => exact (rr_ HO352.out).2.1); rintro e w47 ⟨v359, rfl, ho0, hb⟩; refine ⟨_, rfl, ?_⟩; have n0_ := am_ (Kd.R_elder' (by (with_reducible repeat (first | apply ra_ | apply rn_ | apply rd_)); exact HO352.out) (Kd.R_base ho0) hb); have n1_ := am_ (Kd.R_lower (Kd.R_new' ho0 (Kd.R_lt (by (with_reducible repeat (first | apply ra_ | apply rn_ | apply rd_)); exact HO352.out))) (below_size (by repeat (first | (with_reducible first | exact HB.out | apply ba_ | apply pw_below_drewN | apply bd_) | exact HB.out)))); have n2_ := am_ (bp_ (by repeat (first | (with_reducible first | exact HB.out | apply ba_ | apply pw_below_drewN | apply bd_) | exact HB.out)) hb); clear HO352; clear HB; have HO352 := n0_; have HO360 := n1_; have HB := n2_; clear n0_ n1_ n2_; (try clear hb); (try clear hb2); (try clear hk); (try clear hi); (try clear ho0)) | ((with_reducible refine gc_ (f := 9) rfl ?_); refine goesL_ (some 84) rfl rfl Try.func9 (by kernel_rfl) rfl #[.slice Ao45 t348.length co45, .int .i64 t349, .int .i64 t350] rfl (by (try simp only [List.map_toArray, List.map_cons, List.map_nil]); first | done | rfl | (simp only [List.length_drop, List.length_take]; rfl)) ?_; (with_reducible refine (spec_BestOrders.calls k _ _ t348 t349 t350 t361 t362 _ ?side1 ?side2 A8.out).mono ?_); (case side1 => repeat (first | exact (rr_ HO352.out).2.2 | (with_reducible refine ca_ ?_ _) | (with_reducible refine cn_ ?_ _) | (with_reducible refine cd_ ?_))); (case side2 => exact (rr_ HO352.out).2.1); rintro e w48 ⟨v363, rfl, ho0, hb⟩; refine ⟨_, rfl, ?_⟩; have n0_ := am_ (Kd.R_elder' (by (with_reducible repeat (first | apply ra_ | apply rn_ | apply rd_)); exact HO352.out) (Kd.R_base ho0) hb); have n1_ := am_ (Kd.R_elder' (by (with_reducible repeat (first | apply ra_ | apply rn_ | apply rd_)); exact HO360.out) (Kd.R_base ho0) hb); have n2_ := am_ (Kd.R_lower (Kd.R_new' (Kd.R_new' ho0 (Kd.R_lt (by (with_reducible repeat (first | apply ra_ | apply rn_ | apply rd_)); exact HO352.out))) (Kd.R_lt (by (with_reducible repeat (first | apply ra_ | apply rn_ | apply rd_)); exact HO360.out))) (below_size (by repeat (first | (with_reducible first | exact HB.out | apply ba_ | apply pw_below_drewN | apply bd_) | exact HB.out)))); have n3_ := am_ (bp_ (by repeat (first | (with_reducible first | exact HB.out | apply ba_ | apply pw_below_drewN | apply bd_) | exact HB.out)) hb); clear HO352; clear HO360; clear HB; have HO352 := n0_; have HO360 := n1_; have HO364 := n2_; have HB := n3_; clear n0_ n1_ n2_ n3_; (try clear hb); (try clear hb2); (try clear hk); (try clear hi); (try clear ho0)) | ((with_reducible refine gc_ (f := 11) rfl ?_); refine goesL_ (some 89) rfl rfl Try.func11 (by kernel_rfl) rfl #[.slice A0 l0.length c0, .int .i64 1] rfl (by (try simp only [List.map_toArray, List.map_cons, List.map_nil]); first | done | rfl | (simp only [List.length_drop, List.length_take]; rfl)) ?_; (with_reducible refine (laws_vCut.calls _ _ l0 1 t365 _ ?side1 ?side2 A9.out).mono ?_); (case side1 => repeat (first | exact (Kd.C_below HR0.out HB.out) | (with_reducible refine ca_ ?_ _) | (with_reducible refine cn_ ?_ _) | (with_reducible refine cd_ ?_))); (case side2 => exact HC0.out); rintro e w49 ⟨v366, rfl, ho0, hb⟩; refine ⟨_, rfl, ?_⟩; have n0_ := am_ (rb_ (by (with_reducible repeat (first | apply ra_ | apply rn_ | apply rd_)); exact HO352.out) hb); have n1_ := am_ (rb_ (by (with_reducible repeat (first | apply ra_ | apply rn_ | apply rd_)); exact HO360.out) hb); have n2_ := am_ (rb_ (by (with_reducible repeat (first | apply ra_ | apply rn_ | apply rd_)); exact HO364.out) hb); have n3_ := am_ (Kd.R_lower ho0 (below_size (by repeat (first | (with_reducible first | exact HB.out | apply ba_ | apply pw_below_drewN | apply bd_) | exact HB.out)))); have n4_ := am_ (bp_ (by repeat (first | (with_reducible first | exact HB.out | apply ba_ | apply pw_below_drewN | apply bd_) | exact HB.out)) hb); clear HO352; clear HO360; clear HO364; clear HB; have HO352 := n0_; have HO360 := n1_; have HO364 := n2_; have HO367 := n3_; have HB := n4_; clear n0_ n1_ n2_ n3_ n4_; (try clear hb); (try clear hb2); (try clear hk); (try clear hi); (try clear ho0); obtain ⟨Ao50, co50, eo50⟩ := Kd.R_slice HO367.out; subst eo50) | ((with_reducible refine gc_ (f := 10) rfl ?_); refine goesL_ (some 90) rfl rfl Try.func10 (by kernel_rfl) rfl #[.slice Ao50 t365.length co50] rfl (by (try simp only [List.map_toArray, List.map_cons, List.map_nil]); first | done | rfl | (simp only [List.length_drop, List.length_take]; rfl)) ?_; (with_reducible refine (spec_DrawCostSum.calls k _ _ t365 t368 t369 t370 t371 _ ?side1 ?side2 A10.out).mono ?_); (case side1 => repeat (first | exact (rr_ HO367.out).2.2 | (with_reducible refine ca_ ?_ _) | (with_reducible refine cn_ ?_ _) | (with_reducible refine cd_ ?_))); (case side2 => exact (rr_ HO367.out).2.1); rintro e w51 ⟨v372, rfl, ho0, hb⟩; refine ⟨_, rfl, ?_⟩; have n0_ := am_ (Kd.R_elder' (by (with_reducible repeat (first | apply ra_ | apply rn_ | apply rd_)); exact HO352.out) (Kd.R_base ho0) hb); have n1_ := am_ (Kd.R_elder' (by (with_reducible repeat (first | apply ra_ | apply rn_ | apply rd_)); exact HO360.out) (Kd.R_base ho0) hb); have n2_ := am_ (Kd.R_elder' (by (with_reducible repeat (first | apply ra_ | apply rn_ | apply rd_)); exact HO364.out) (Kd.R_base ho0) hb); have n3_ := am_ (rb_ (by (with_reducible repeat (first | apply ra_ | apply rn_ | apply rd_)); exact HO367.out) hb); have n4_ := am_ (Kd.R_lower (Kd.R_new' (Kd.R_new' (Kd.R_new' ho0 (Kd.R_lt (by (with_reducible repeat (first | apply ra_ | apply rn_ | apply rd_)); exact HO352.out))) (Kd.R_lt (by (with_reducible repeat (first | apply ra_ | apply rn_ | apply rd_)); exact HO360.out))) (Kd.R_lt (by (with_reducible repeat (first | apply ra_ | apply rn_ | apply rd_)); exact HO364.out))) (below_size (by repeat (first | (with_reducible first | exact HB.out | apply ba_ | apply pw_below_drewN | apply bd_) | exact HB.out)))); have n5_ := am_ (bp_ (by repeat (first | (with_reducible first | exact HB.out | apply ba_ | apply pw_below_drewN | apply bd_) | exact HB.out)) hb); clear HO352; clear HO360; clear HO364; clear HO367; clear HB; have HO352 := n0_; have HO360 := n1_; have HO364 := n2_; have HO367 := n3_; have HO373 := n4_; have HB := n5_; clear n0_ n1_ n2_ n3_ n4_ n5_; (try clear hb); (try clear hb2); (try clear hk); (try clear hi); (try clear ho0); obtain ⟨Ao52, co52, eo52⟩ := Kd.R_slice HO373.out; subst eo52))
                   as_aux_lemma =>
                   go_upto_region 12 with (first | ((with_reducible refine gc_ (f := 12) rfl ?_); refine goesL_ (some 100) rfl rfl Try.func12 (by kernel_rfl) rfl #[.slice Ao52 t368.length co52, .int .i64 t369, .int .i64 t370, .int .i64 t371] rfl (by (try simp only [List.map_toArray, List.map_cons, List.map_nil]); first | done | rfl | (simp only [List.length_drop, List.length_take]; rfl)) ?_; (with_reducible refine (impl_CostSum.calls k _ _ t368 t369 t370 t371 t374 t375 _ ?side1 ?side2 A11.out).mono ?_); (case side1 => repeat (first | exact (rr_ HO373.out).2.2 | (with_reducible refine ca_ ?_ _) | (with_reducible refine cn_ ?_ _) | (with_reducible refine cd_ ?_))); (case side2 => exact (rr_ HO373.out).2.1); rintro e w53 ⟨rfl, hb⟩; refine ⟨_, rfl, ?_⟩; have n0_ := am_ (rb_ (by (with_reducible repeat (first | apply ra_ | apply rn_ | apply rd_)); exact HO352.out) hb); have n1_ := am_ (rb_ (by (with_reducible repeat (first | apply ra_ | apply rn_ | apply rd_)); exact HO360.out) hb); have n2_ := am_ (rb_ (by (with_reducible repeat (first | apply ra_ | apply rn_ | apply rd_)); exact HO364.out) hb); have n3_ := am_ (rb_ (by (with_reducible repeat (first | apply ra_ | apply rn_ | apply rd_)); exact HO367.out) hb); have n4_ := am_ (rb_ (by (with_reducible repeat (first | apply ra_ | apply rn_ | apply rd_)); exact HO373.out) hb); have n5_ := am_ (bp_ (by repeat (first | (with_reducible first | exact HB.out | apply ba_ | apply pw_below_drewN | apply bd_) | exact HB.out)) hb); clear HO352; clear HO360; clear HO364; clear HO367; clear HO373; clear HB; have HO352 := n0_; have HO360 := n1_; have HO364 := n2_; have HO367 := n3_; have HO373 := n4_; have HB := n5_; clear n0_ n1_ n2_ n3_ n4_ n5_; (try clear hb); (try clear hb2); (try clear hk); (try clear hi)) | ((with_reducible refine gc_ (f := 13) rfl ?_); refine goesL_ (some 108) rfl rfl Try.func13 (by kernel_rfl) rfl #[.slice Ao52 t368.length co52, .int .i64 t369, .int .i64 t370, .int .i64 t371] rfl (by (try simp only [List.map_toArray, List.map_cons, List.map_nil]); first | done | rfl | (simp only [List.length_drop, List.length_take]; rfl)) ?_; (with_reducible refine (spec_CostSum.calls k _ _ t368 t369 t370 t371 t376 t377 _ ?side1 ?side2 A12.out).mono ?_); (case side1 => repeat (first | exact (rr_ HO373.out).2.2 | (with_reducible refine ca_ ?_ _) | (with_reducible refine cn_ ?_ _) | (with_reducible refine cd_ ?_))); (case side2 => exact (rr_ HO373.out).2.1); rintro e w' ⟨rfl, ⟨nd, rfl⟩⟩; refine ⟨_, rfl, ?_⟩) | ((with_reducible refine gc_ (f := 14) rfl ?_); refine goesL_ (some 114) rfl rfl Try.func14 (by kernel_rfl) rfl #[.slice Ao52 t368.length co52, .int .i64 t371] rfl (by (try simp only [List.map_toArray, List.map_cons, List.map_nil]); first | done | rfl | (simp only [List.length_drop, List.length_take]; rfl)) ?_; (with_reducible refine (impl_OverSum.calls k _ _ t368 t371 t378 t379 _ ?side1 ?side2 A13.out).mono ?_); (case side1 => repeat (first | exact (rr_ HO373.out).2.2 | (with_reducible refine ca_ ?_ _) | (with_reducible refine cn_ ?_ _) | (with_reducible refine cd_ ?_))); (case side2 => exact (rr_ HO373.out).2.1); rintro e w54 ⟨rfl, hb⟩; refine ⟨_, rfl, ?_⟩; have n0_ := am_ (rb_ (by (with_reducible repeat (first | apply ra_ | apply rn_ | apply rd_)); exact HO352.out) hb); have n1_ := am_ (rb_ (by (with_reducible repeat (first | apply ra_ | apply rn_ | apply rd_)); exact HO360.out) hb); have n2_ := am_ (rb_ (by (with_reducible repeat (first | apply ra_ | apply rn_ | apply rd_)); exact HO364.out) hb); have n3_ := am_ (rb_ (by (with_reducible repeat (first | apply ra_ | apply rn_ | apply rd_)); exact HO367.out) hb); have n4_ := am_ (rb_ (by (with_reducible repeat (first | apply ra_ | apply rn_ | apply rd_)); exact HO373.out) hb); have n5_ := am_ (bp_ (by repeat (first | (with_reducible first | exact HB.out | apply ba_ | apply pw_below_drewN | apply bd_) | exact HB.out)) hb); clear HO352; clear HO360; clear HO364; clear HO367; clear HO373; clear HB; have HO352 := n0_; have HO360 := n1_; have HO364 := n2_; have HO367 := n3_; have HO373 := n4_; have HB := n5_; clear n0_ n1_ n2_ n3_ n4_ n5_; (try clear hb); (try clear hb2); (try clear hk); (try clear hi)))
                   as_aux_lemma =>
                   go_upto_region 15 with (first | ((with_reducible refine gc_ (f := 15) rfl ?_); refine goesL_ (some 120) rfl rfl Try.func15 (by kernel_rfl) rfl #[.slice Ao52 t368.length co52, .int .i64 t371] rfl (by (try simp only [List.map_toArray, List.map_cons, List.map_nil]); first | done | rfl | (simp only [List.length_drop, List.length_take]; rfl)) ?_; (with_reducible refine (spec_OverSum.calls k _ _ t368 t371 t380 t381 _ ?side1 ?side2 A14.out).mono ?_); (case side1 => repeat (first | exact (rr_ HO373.out).2.2 | (with_reducible refine ca_ ?_ _) | (with_reducible refine cn_ ?_ _) | (with_reducible refine cd_ ?_))); (case side2 => exact (rr_ HO373.out).2.1); rintro e w' ⟨rfl, ⟨nd, rfl⟩⟩; refine ⟨_, rfl, ?_⟩) | ((with_reducible refine gc_ (f := 16) rfl ?_); refine goesL_ (some 126) rfl rfl Try.func16 (by kernel_rfl) rfl #[.slice Ao52 t368.length co52, .int .i64 t371] rfl (by (try simp only [List.map_toArray, List.map_cons, List.map_nil]); first | done | rfl | (simp only [List.length_drop, List.length_take]; rfl)) ?_; (with_reducible refine (impl_ShortSum.calls k _ _ t368 t371 t382 t383 _ ?side1 ?side2 A15.out).mono ?_); (case side1 => repeat (first | exact (rr_ HO373.out).2.2 | (with_reducible refine ca_ ?_ _) | (with_reducible refine cn_ ?_ _) | (with_reducible refine cd_ ?_))); (case side2 => exact (rr_ HO373.out).2.1); rintro e w55 ⟨rfl, hb⟩; refine ⟨_, rfl, ?_⟩; have n0_ := am_ (rb_ (by (with_reducible repeat (first | apply ra_ | apply rn_ | apply rd_)); exact HO352.out) hb); have n1_ := am_ (rb_ (by (with_reducible repeat (first | apply ra_ | apply rn_ | apply rd_)); exact HO360.out) hb); have n2_ := am_ (rb_ (by (with_reducible repeat (first | apply ra_ | apply rn_ | apply rd_)); exact HO364.out) hb); have n3_ := am_ (rb_ (by (with_reducible repeat (first | apply ra_ | apply rn_ | apply rd_)); exact HO367.out) hb); have n4_ := am_ (rb_ (by (with_reducible repeat (first | apply ra_ | apply rn_ | apply rd_)); exact HO373.out) hb); have n5_ := am_ (bp_ (by repeat (first | (with_reducible first | exact HB.out | apply ba_ | apply pw_below_drewN | apply bd_) | exact HB.out)) hb); clear HO352; clear HO360; clear HO364; clear HO367; clear HO373; clear HB; have HO352 := n0_; have HO360 := n1_; have HO364 := n2_; have HO367 := n3_; have HO373 := n4_; have HB := n5_; clear n0_ n1_ n2_ n3_ n4_ n5_; (try clear hb); (try clear hb2); (try clear hk); (try clear hi)) | ((with_reducible refine gc_ (f := 17) rfl ?_); refine goesL_ (some 132) rfl rfl Try.func17 (by kernel_rfl) rfl #[.slice Ao52 t368.length co52, .int .i64 t371] rfl (by (try simp only [List.map_toArray, List.map_cons, List.map_nil]); first | done | rfl | (simp only [List.length_drop, List.length_take]; rfl)) ?_; (with_reducible refine (spec_ShortSum.calls k _ _ t368 t371 t384 t385 _ ?side1 ?side2 A16.out).mono ?_); (case side1 => repeat (first | exact (rr_ HO373.out).2.2 | (with_reducible refine ca_ ?_ _) | (with_reducible refine cn_ ?_ _) | (with_reducible refine cd_ ?_))); (case side2 => exact (rr_ HO373.out).2.1); rintro e w' ⟨rfl, ⟨nd, rfl⟩⟩; refine ⟨_, rfl, ?_⟩))
                   as_aux_lemma =>
                   go_upto_region 18 with (first | ((with_reducible refine gc_ (f := 18) rfl ?_); refine goesL_ (some 137) rfl rfl Try.func18 (by kernel_rfl) rfl #[.slice Ao52 t368.length co52] rfl (by (try simp only [List.map_toArray, List.map_cons, List.map_nil]); first | done | rfl | (simp only [List.length_drop, List.length_take]; rfl)) ?_; (with_reducible refine (impl_MeanSum.calls k _ _ t368 t386 t387 _ ?side1 ?side2 A17.out).mono ?_); (case side1 => repeat (first | exact (rr_ HO373.out).2.2 | (with_reducible refine ca_ ?_ _) | (with_reducible refine cn_ ?_ _) | (with_reducible refine cd_ ?_))); (case side2 => exact (rr_ HO373.out).2.1); rintro e w' ⟨rfl, ⟨nd, rfl⟩⟩; refine ⟨_, rfl, ?_⟩) | ((with_reducible refine gc_ (f := 19) rfl ?_); refine goesL_ (some 142) rfl rfl Try.func19 (by kernel_rfl) rfl #[.slice Ao52 t368.length co52] rfl (by (try simp only [List.map_toArray, List.map_cons, List.map_nil]); first | done | rfl | (simp only [List.length_drop, List.length_take]; rfl)) ?_; (with_reducible refine (spec_MeanSum.calls k _ _ t368 t388 t389 _ ?side1 ?side2 A18.out).mono ?_); (case side1 => repeat (first | exact (rr_ HO373.out).2.2 | (with_reducible refine ca_ ?_ _) | (with_reducible refine cn_ ?_ _) | (with_reducible refine cd_ ?_))); (case side2 => exact (rr_ HO373.out).2.1); rintro e w' ⟨rfl, ⟨nd, rfl⟩⟩; refine ⟨_, rfl, ?_⟩) | ((with_reducible refine gc_ (f := 20) rfl ?_); refine goesL_ (some 147) rfl rfl Try.func20 (by kernel_rfl) rfl #[.slice Ao52 t368.length co52] rfl (by (try simp only [List.map_toArray, List.map_cons, List.map_nil]); first | done | rfl | (simp only [List.length_drop, List.length_take]; rfl)) ?_; (with_reducible refine (impl_TotalWeight.calls k _ _ t368 t390 t391 _ ?side1 ?side2 A19.out).mono ?_); (case side1 => repeat (first | exact (rr_ HO373.out).2.2 | (with_reducible refine ca_ ?_ _) | (with_reducible refine cn_ ?_ _) | (with_reducible refine cd_ ?_))); (case side2 => exact (rr_ HO373.out).2.1); rintro e w' ⟨rfl, ⟨nd, rfl⟩⟩; refine ⟨_, rfl, ?_⟩))
                   as_aux_lemma =>
                   go_upto_region 21 with (first | ((with_reducible refine gc_ (f := 21) rfl ?_); refine goesL_ (some 152) rfl rfl Try.func21 (by kernel_rfl) rfl #[.slice Ao52 t368.length co52] rfl (by (try simp only [List.map_toArray, List.map_cons, List.map_nil]); first | done | rfl | (simp only [List.length_drop, List.length_take]; rfl)) ?_; (with_reducible refine (spec_TotalWeight.calls k _ _ t368 t392 t393 _ ?side1 ?side2 A20.out).mono ?_); (case side1 => repeat (first | exact (rr_ HO373.out).2.2 | (with_reducible refine ca_ ?_ _) | (with_reducible refine cn_ ?_ _) | (with_reducible refine cd_ ?_))); (case side2 => exact (rr_ HO373.out).2.1); rintro e w' ⟨rfl, ⟨nd, rfl⟩⟩; refine ⟨_, rfl, ?_⟩) | ((with_reducible refine gc_ (f := 22) rfl ?_); refine goesL_ (some 158) rfl rfl Try.func22 (by kernel_rfl) rfl #[.slice Ao52 t368.length co52, .int .i64 t371] rfl (by (try simp only [List.map_toArray, List.map_cons, List.map_nil]); first | done | rfl | (simp only [List.length_drop, List.length_take]; rfl)) ?_; (with_reducible refine (impl_WeightUpTo.calls k _ _ t368 t371 t394 t395 _ ?side1 ?side2 A21.out).mono ?_); (case side1 => repeat (first | exact (rr_ HO373.out).2.2 | (with_reducible refine ca_ ?_ _) | (with_reducible refine cn_ ?_ _) | (with_reducible refine cd_ ?_))); (case side2 => exact (rr_ HO373.out).2.1); rintro e w56 ⟨rfl, hb⟩; refine ⟨_, rfl, ?_⟩; have n0_ := am_ (rb_ (by (with_reducible repeat (first | apply ra_ | apply rn_ | apply rd_)); exact HO352.out) hb); have n1_ := am_ (rb_ (by (with_reducible repeat (first | apply ra_ | apply rn_ | apply rd_)); exact HO360.out) hb); have n2_ := am_ (rb_ (by (with_reducible repeat (first | apply ra_ | apply rn_ | apply rd_)); exact HO364.out) hb); have n3_ := am_ (rb_ (by (with_reducible repeat (first | apply ra_ | apply rn_ | apply rd_)); exact HO367.out) hb); have n4_ := am_ (rb_ (by (with_reducible repeat (first | apply ra_ | apply rn_ | apply rd_)); exact HO373.out) hb); have n5_ := am_ (bp_ (by repeat (first | (with_reducible first | exact HB.out | apply ba_ | apply pw_below_drewN | apply bd_) | exact HB.out)) hb); clear HO352; clear HO360; clear HO364; clear HO367; clear HO373; clear HB; have HO352 := n0_; have HO360 := n1_; have HO364 := n2_; have HO367 := n3_; have HO373 := n4_; have HB := n5_; clear n0_ n1_ n2_ n3_ n4_ n5_; (try clear hb); (try clear hb2); (try clear hk); (try clear hi)) | ((with_reducible refine gc_ (f := 23) rfl ?_); refine goesL_ (some 164) rfl rfl Try.func23 (by kernel_rfl) rfl #[.slice Ao52 t368.length co52, .int .i64 t371] rfl (by (try simp only [List.map_toArray, List.map_cons, List.map_nil]); first | done | rfl | (simp only [List.length_drop, List.length_take]; rfl)) ?_; (with_reducible refine (spec_WeightUpTo.calls k _ _ t368 t371 t396 t397 _ ?side1 ?side2 A22.out).mono ?_); (case side1 => repeat (first | exact (rr_ HO373.out).2.2 | (with_reducible refine ca_ ?_ _) | (with_reducible refine cn_ ?_ _) | (with_reducible refine cd_ ?_))); (case side2 => exact (rr_ HO373.out).2.1); rintro e w' ⟨rfl, ⟨nd, rfl⟩⟩; refine ⟨_, rfl, ?_⟩; obtain ⟨Ao57, co57, eo57⟩ := Kd.R_slice HO360.out; subst eo57; obtain ⟨Ao58, co58, eo58⟩ := Kd.R_slice HO364.out; subst eo58))
                   as_aux_lemma =>
                   go_upto_region 23 with (first | (go_at_call 24; (with_reducible refine (laws_vInts.calls k _ _ t357 _ _ t361 true _ ?side1 ?side2 ?side3 ?side4 A26.out).mono ?_); (case side1 => repeat (first | exact (rr_ HO360.out).2.2 | (with_reducible refine ca_ ?_ _) | (with_reducible refine cn_ ?_ _) | (with_reducible refine cd_ ?_))); (case side2 => exact (rr_ HO360.out).2.1); (case side3 => repeat (first | exact (rr_ HO364.out).2.2 | (with_reducible refine ca_ ?_ _) | (with_reducible refine cn_ ?_ _) | (with_reducible refine cd_ ?_))); (case side4 => exact (rr_ HO364.out).2.1); rintro e w' ⟨rfl, ⟨nd, rfl⟩⟩) | (go_at_call 25; (with_reducible refine (impl_IsDistribution.calls k _ _ t348 t399 _ ?side1 ?side2 A40.out).mono ?_); (case side1 => repeat (first | exact (rr_ HO352.out).2.2 | (with_reducible refine ca_ ?_ _) | (with_reducible refine cn_ ?_ _) | (with_reducible refine cd_ ?_))); (case side2 => exact (rr_ HO352.out).2.1); rintro e w' ⟨rfl, ⟨nd, rfl⟩⟩) | (go_at_call 26; (with_reducible refine (spec_IsDistribution.calls k _ _ t348 t400 _ ?side1 ?side2 A41.out).mono ?_); (case side1 => repeat (first | exact (rr_ HO352.out).2.2 | (with_reducible refine ca_ ?_ _) | (with_reducible refine cn_ ?_ _) | (with_reducible refine cd_ ?_))); (case side2 => exact (rr_ HO352.out).2.1); rintro e w' ⟨rfl, ⟨nd, rfl⟩⟩))
                   (try simp only [Act.put, List.setIfInBounds_toArray, List.set_cons_zero, List.set_cons_succ])
                   go_cut [283] (fun v283 wc => ∃ (kq : Nat) (x283_42 : Bool), v283 = .bool x283_42 ∧ Aside0 (laws_FnCriticalOrders.j0 kq t348 t349 t350 t353 t354 t357 x283_42 = some r) ∧ Aside0 (kq ≤ k) ∧ Aside0 (Kd.R (Kd.int .i64) 3 wc w.heap.size (fun k_ => some k_ ≠ ((.slice Ao57 t357.length co57) : Value).ownBlock) (.slice Ao45 t348.length co45) t348) ∧ Aside0 (Kd.R (Kd.int .i64) 3 wc w.heap.size (fun k_ => some k_ ≠ ((.slice Ao45 t348.length co45) : Value).ownBlock) (.slice Ao57 t357.length co57) t357) ∧ Aside0 (Below w.heap.size w wc))
                   case first => as_aux_lemma =>
                    have H := HC43.out
                    clear HC43
                    by_cases c59 : t379 = true
                    ·
                     subst c59
                     have H1 : (if (wrap64 (t378 - t382)) = (wrap64 ((wrap64 (t371 * t390)) - t386)) then (if t394 > t390 then (laws_FnCriticalOrders.j0 k t348 t349 t350 t353 t354 t357 true) else (if t375 = true then (laws_FnCriticalOrders.j0 k t348 t349 t350 t353 t354 t357 (t374 != (wrap64 ((wrap64 (t369 * t378)) + (wrap64 (t370 * t382)))))) else (laws_FnCriticalOrders.j0 k t348 t349 t350 t353 t354 t357 false))) else (laws_FnCriticalOrders.j0 k t348 t349 t350 t353 t354 t357 true)) = some r := by rw [if_pos rfl] at H; exact H
                     clear H
                     have H := H1
                     clear H1
                     by_cases c60 : (wrap64 (t378 - t382)) = (wrap64 ((wrap64 (t371 * t390)) - t386))
                     ·
                      rw [if_pos c60] at H
                      have c60b0 : ((wrap64 (t378 - t382)) == (wrap64 ((wrap64 (t371 * t390)) - t386))) = true := beq_iff_eq.mpr c60
                      have c60b1 : ((wrap64 (t378 - t382)) != (wrap64 ((wrap64 (t371 * t390)) - t386))) = false := bne_eq_false_iff_eq.mpr c60
                      clear c60
                      (first | rw [c60b0] | (simp only [i64_w, i32_w]; rw [c60b0]) | skip)
                      by_cases c61 : t394 > t390
                      ·
                       rw [if_pos c61] at H
                       have c61b0 : decide (t390 < t394) = true := decide_eq_true c61
                       clear c61
                       as_aux_lemma =>
                        have H' := am_ H
                        clear H
                        go_wp2
                        go_meet
                        case rel => exact ⟨_, (true), (by first | rfl | (simp; done) | (simp [*]; done)), H', ⟨by first | omega | exact Nat.le_refl _⟩, ⟨by (with_reducible repeat (first | apply ra_ | apply rn_ | apply rd_)); exact rm_ HO352.out (fun _ hk => hk.1.1.2)⟩, ⟨by (with_reducible repeat (first | apply ra_ | apply rn_ | apply rd_)); exact rm_ HO360.out (fun _ hk => hk.1.1.2)⟩, ⟨by repeat (first | (with_reducible first | exact HB.out | apply ba_ | apply pw_below_drewN | apply bd_) | exact HB.out)⟩⟩
                      ·
                       rw [if_neg c61] at H
                       have c61b0 : decide (t390 < t394) = false := decide_eq_false c61
                       clear c61
                       by_cases c62 : t375 = true
                       ·
                        subst c62
                        have H1 : (laws_FnCriticalOrders.j0 k t348 t349 t350 t353 t354 t357 (t374 != (wrap64 ((wrap64 (t369 * t378)) + (wrap64 (t370 * t382)))))) = some r := by rw [if_pos rfl] at H; exact H
                        clear H
                        have H := H1
                        clear H1
                        as_aux_lemma =>
                         have H' := am_ H
                         clear H
                         go_wp2
                         go_meet
                         case rel => exact ⟨_, ((t374 != (wrap64 ((wrap64 (t369 * t378)) + (wrap64 (t370 * t382)))))), (by first | rfl | (simp; done) | (simp [*]; done)), H', ⟨by first | omega | exact Nat.le_refl _⟩, ⟨by (with_reducible repeat (first | apply ra_ | apply rn_ | apply rd_)); exact rm_ HO352.out (fun _ hk => hk.1.1.2)⟩, ⟨by (with_reducible repeat (first | apply ra_ | apply rn_ | apply rd_)); exact rm_ HO360.out (fun _ hk => hk.1.1.2)⟩, ⟨by repeat (first | (with_reducible first | exact HB.out | apply ba_ | apply pw_below_drewN | apply bd_) | exact HB.out)⟩⟩
                       ·
                        replace c62 := Bool.eq_false_iff.mpr c62
                        subst c62
                        have H1 : (laws_FnCriticalOrders.j0 k t348 t349 t350 t353 t354 t357 false) = some r := by rw [if_neg (show ¬ (false = true) by decide)] at H; exact H
                        clear H
                        have H := H1
                        clear H1
                        as_aux_lemma =>
                         have H' := am_ H
                         clear H
                         go_wp2
                         go_meet
                         case rel => exact ⟨_, (false), (by first | rfl | (simp; done) | (simp [*]; done)), H', ⟨by first | omega | exact Nat.le_refl _⟩, ⟨by (with_reducible repeat (first | apply ra_ | apply rn_ | apply rd_)); exact rm_ HO352.out (fun _ hk => hk.1.1.2)⟩, ⟨by (with_reducible repeat (first | apply ra_ | apply rn_ | apply rd_)); exact rm_ HO360.out (fun _ hk => hk.1.1.2)⟩, ⟨by repeat (first | (with_reducible first | exact HB.out | apply ba_ | apply pw_below_drewN | apply bd_) | exact HB.out)⟩⟩
                     ·
                      rw [if_neg c60] at H
                      have c60b0 : ((wrap64 (t378 - t382)) == (wrap64 ((wrap64 (t371 * t390)) - t386))) = false := beq_eq_false_iff_ne.mpr c60
                      have c60b1 : ((wrap64 (t378 - t382)) != (wrap64 ((wrap64 (t371 * t390)) - t386))) = true := bne_iff_ne.mpr c60
                      (first | rw [c60b0] | (simp only [i64_w, i32_w]; rw [c60b0]) | skip)
                      as_aux_lemma =>
                       have H' := am_ H
                       clear H
                       go_wp2
                       go_meet
                       case rel => exact ⟨_, (true), (by first | rfl | (simp; done) | (simp [*]; done)), H', ⟨by first | omega | exact Nat.le_refl _⟩, ⟨by (with_reducible repeat (first | apply ra_ | apply rn_ | apply rd_)); exact rm_ HO352.out (fun _ hk => hk.1.1.2)⟩, ⟨by (with_reducible repeat (first | apply ra_ | apply rn_ | apply rd_)); exact rm_ HO360.out (fun _ hk => hk.1.1.2)⟩, ⟨by repeat (first | (with_reducible first | exact HB.out | apply ba_ | apply pw_below_drewN | apply bd_) | exact HB.out)⟩⟩
                    ·
                     replace c59 := Bool.eq_false_iff.mpr c59
                     subst c59
                     have H1 : (laws_FnCriticalOrders.j0 k t348 t349 t350 t353 t354 t357 false) = some r := by rw [if_neg (show ¬ (false = true) by decide)] at H; exact H
                     clear H
                     have H := H1
                     clear H1
                     as_aux_lemma =>
                      have H' := am_ H
                      clear H
                      go_wp2
                      go_meet
                      case rel => exact ⟨_, (false), (by first | rfl | (simp; done) | (simp [*]; done)), H', ⟨by first | omega | exact Nat.le_refl _⟩, ⟨by (with_reducible repeat (first | apply ra_ | apply rn_ | apply rd_)); exact rm_ HO352.out (fun _ hk => hk.1.1.2)⟩, ⟨by (with_reducible repeat (first | apply ra_ | apply rn_ | apply rd_)); exact rm_ HO360.out (fun _ hk => hk.1.1.2)⟩, ⟨by repeat (first | (with_reducible first | exact HB.out | apply ba_ | apply pw_below_drewN | apply bd_) | exact HB.out)⟩⟩
                   case rest => as_aux_lemma =>
                    clear HC43
                    try clear c1
                    try clear c2
                    try clear p2
                    try clear c3
                    try clear c4
                    try clear c5
                    try clear c6
                    try clear p6
                    try clear c7
                    try clear c8
                    try clear c9
                    try clear c10
                    try clear c11
                    try clear c12
                    try clear c13
                    try clear c14
                    try clear c15
                    try clear c16
                    try clear c17
                    try clear c18
                    try clear c19
                    try clear c20
                    try clear c21
                    try clear c22
                    try clear c23
                    try clear c23b0
                    try clear c23b1
                    try clear c24
                    try clear c24b0
                    try clear c24b1
                    try clear c24b2
                    try clear c25
                    try clear c25b0
                    try clear c25b1
                    try clear c25b2
                    try clear c26
                    try clear c27
                    try clear c28
                    try clear c28b0
                    try clear c28b1
                    try clear c29
                    try clear c29b0
                    try clear c29b1
                    try clear c29b2
                    try clear c30
                    try clear c30b0
                    try clear c30b1
                    try clear c31
                    try clear c31b0
                    try clear c31b1
                    try clear c31b2
                    try clear c32
                    try clear c32b0
                    try clear c32b1
                    try clear c33
                    try clear c33b0
                    try clear c33b1
                    try clear c33b2
                    try clear c34
                    try clear c34b0
                    try clear c34b1
                    try clear c35
                    try clear c35b0
                    try clear c35b1
                    try clear c35b2
                    try clear c36
                    try clear c36b0
                    try clear c36b1
                    try clear c37
                    try clear c37b0
                    try clear c37b1
                    try clear c37b2
                    try clear c38
                    try clear c38b0
                    try clear c38b1
                    try clear c39
                    try clear c39b0
                    try clear c39b1
                    try clear c39b2
                    try clear c42
                    try clear c42b0
                    try clear c42b1
                    try clear c42b2
                    try clear c59
                    try clear c60
                    try clear c60b0
                    try clear c60b1
                    try clear c61
                    try clear c61b0
                    try clear c62
                    obtain ⟨kq, x283_42, rfl, HA, HJ42, HO_3, HO_10, HB⟩ := hcut
                    cases kq with
                    | zero => exact absurd HA.out (by simp [laws_FnCriticalOrders.j0])
                    | succ kj42 =>
                     have H := HA.out
                     clear HA
                     simp only [laws_FnCriticalOrders.j0] at H
                     by_cases c63 : x283_42 = true
                     ·
                      subst c63
                      have H1 : (none) = some r := by rw [if_pos rfl] at H; exact H
                      clear H
                      have H := H1
                      clear H1
                      exact absurd H (by simp)
                     ·
                      replace c63 := Bool.eq_false_iff.mpr c63
                      subst c63
                      have H1 : (if t354 = true then (if (t357.length : Int) = 0 then (none) else (if 0 < (t357.length : Int) then (if (rd t357 0) = t353 then (if 0 ≤ (wrap64 ((t357.length : Int) - 1)) then (if (wrap64 ((t357.length : Int) - 1)) < (t357.length : Int) then (if (wrap64 ((rd t357 (wrap64 ((t357.length : Int) - 1))) - t353)) = (wrap64 ((t357.length : Int) - 1)) then ((impl_TotalWeight.f kj42 t348).bind fun bt403 => (laws_FnCriticalOrders.l0 kj42 t348 t349 t350 bt403.1 0)) else (none)) else (none)) else (none)) else (none)) else (none))) else (some true)) = some r := by rw [if_neg (show ¬ (false = true) by decide)] at H; exact H
                      clear H
                      have H := H1
                      clear H1
                      by_cases c64 : t354 = true
                      ·
                       subst c64
                       have H1 : (if (t357.length : Int) = 0 then (none) else (if 0 < (t357.length : Int) then (if (rd t357 0) = t353 then (if 0 ≤ (wrap64 ((t357.length : Int) - 1)) then (if (wrap64 ((t357.length : Int) - 1)) < (t357.length : Int) then (if (wrap64 ((rd t357 (wrap64 ((t357.length : Int) - 1))) - t353)) = (wrap64 ((t357.length : Int) - 1)) then ((impl_TotalWeight.f kj42 t348).bind fun bt403 => (laws_FnCriticalOrders.l0 kj42 t348 t349 t350 bt403.1 0)) else (none)) else (none)) else (none)) else (none)) else (none))) = some r := by rw [if_pos rfl] at H; exact H
                       clear H
                       have H := H1
                       clear H1
                       by_cases c65 : (t357.length : Int) = 0
                       ·
                        rw [if_pos c65] at H
                        exact absurd H (by simp)
                       ·
                        rw [if_neg c65] at H
                        have c65b0 : ((t357.length : Int) == 0) = false := beq_eq_false_iff_ne.mpr c65
                        have c65b1 : ((t357.length : Int) != 0) = true := bne_iff_ne.mpr c65
                        have c65b2 : ¬ (t357 = []) := fun h_ => c65 (by rw [h_]; rfl)
                        by_cases c66 : 0 < (t357.length : Int)
                        ·
                         rw [if_pos c66] at H
                         have c66b0 : decide (0 < (t357.length : Int)) = true := decide_eq_true c66
                         have c66b1 : decide (0 < t357.length) = true := decide_eq_true (by omega)
                         clear c66
                         by_cases c67 : (rd t357 0) = t353
                         ·
                          rw [if_pos c67] at H
                          have c67b0 : ((rd t357 0) == t353) = true := beq_iff_eq.mpr c67
                          have c67b1 : ((rd t357 0) != t353) = false := bne_eq_false_iff_eq.mpr c67
                          clear c67
                          obtain ⟨ji68, hji68⟩ : ∃ j_ : Int, (wrap64 ((t357.length : Int) - 1)) = j_ := ⟨_, rfl⟩
                          replace H : (if 0 ≤ (ji68) then (if (ji68) < (t357.length : Int) then (if (wrap64 ((rd t357 (ji68)) - t353)) = (ji68) then ((impl_TotalWeight.f kj42 t348).bind fun bt403 => (laws_FnCriticalOrders.l0 kj42 t348 t349 t350 bt403.1 0)) else (none)) else (none)) else (none)) = some r := by first | (rw [hji68] at H; exact H) | (simp only [hji68] at H ⊢; exact H)
                          have hji68w : (IntKind.i64.wrap ((t357.length : Int) - 1)) = ji68 := (i64_w _).trans hji68
                          by_cases c69 : 0 ≤ (ji68)
                          ·
                           rw [if_pos c69] at H
                           have c69b0 : decide (0 ≤ (ji68)) = true := decide_eq_true c69
                           clear c69
                           by_cases c70 : (ji68) < (t357.length : Int)
                           ·
                            rw [if_pos c70] at H
                            have c70b0 : decide ((ji68) < (t357.length : Int)) = true := decide_eq_true c70
                            clear c70
                            by_cases c71 : (wrap64 ((rd t357 (ji68)) - t353)) = (ji68)
                            ·
                             rw [if_pos c71] at H
                             have c71b0 : ((wrap64 ((rd t357 (ji68)) - t353)) == (ji68)) = true := beq_iff_eq.mpr c71
                             have c71b1 : ((wrap64 ((rd t357 (ji68)) - t353)) != (ji68)) = false := bne_eq_false_iff_eq.mpr c71
                             clear c71
                             replace H := Option.bind_eq_some_iff.mp H
                             obtain ⟨⟨t403, t404⟩, A720, H⟩ := H
                             replace H : (laws_FnCriticalOrders.l0 kj42 t348 t349 t350 t403 0) = some r := H
                             have A72 := am_ A720
                             clear A720
                             have H' := am_ H
                             clear H
                             have p401 : 0 ≤ (0 : Int) := (by omega)
                             have q401 : 0 < (t357.length : Int) := of_decide_eq_true (by first | (with_reducible assumption) | assumption)
                             obtain ⟨ad401, e401, hx401_0⟩ := Kd.at_int (rr_ HO_10.out).2.2 0 p401 q401
                             cases e401
                             have qi401 : (0 < t357.length) = True := eq_true (by omega)
                             (try rw [show ((0 : Int)).toNat = 0 from rfl] at hx401_0)
                             (try rw [Addr.add_zero'] at hx401_0)
                             replace p401 := eq_true p401
                             replace q401 := eq_true q401
                             have p402 : 0 ≤ ((ji68) : Int) := of_decide_eq_true (by first | (with_reducible assumption) | assumption)
                             have q402 : (ji68) < (t357.length : Int) := of_decide_eq_true (by first | (with_reducible assumption) | assumption)
                             obtain ⟨ad402, e402, hx402_0⟩ := Kd.at_int (rr_ HO_10.out).2.2 (ji68) p402 q402
                             obtain rfl : ad401 = ad402 := (by injection e402)
                             replace p402 := eq_true p402
                             replace q402 := eq_true q402
                             go_wp2_with (first | ((with_reducible refine gc_ (f := 20) rfl ?_); refine goesL_ (some 312) rfl rfl Try.func20 (by kernel_rfl) rfl #[.slice Ao45 t348.length co45] rfl (by (try simp only [List.map_toArray, List.map_cons, List.map_nil]); first | done | rfl | (simp only [List.length_drop, List.length_take]; rfl)) ?_; (with_reducible refine (impl_TotalWeight.calls kj42 _ _ t348 t403 t404 _ ?side1 ?side2 A72.out).mono ?_); (case side1 => repeat (first | exact (rr_ HO_3.out).2.2 | (with_reducible refine ca_ ?_ _) | (with_reducible refine cn_ ?_ _) | (with_reducible refine cd_ ?_))); (case side2 => exact (rr_ HO_3.out).2.1); rintro e w' ⟨rfl, ⟨nd, rfl⟩⟩; refine ⟨_, rfl, ?_⟩))
                             go_loopg [44] kj42 (fun kq v44 w' => ∃ (x44_2 : Int), v44 = .int .i64 x44_2 ∧ Aside0 (laws_FnCriticalOrders.l0 kq t348 t349 t350 t403 x44_2 = some r) ∧ Aside0 (kq ≤ kj42) ∧ Aside0 (Kd.R (Kd.int .i64) 3 w' w.heap.size (fun _ => True) (.slice Ao45 t348.length co45) t348) ∧ Aside0 (Below w.heap.size w w'))
                             case atStart => exact ⟨(0), (by first | rfl | (simp; done) | (simp [*]; done)), H', ⟨Nat.le_refl _⟩, ⟨by (with_reducible repeat (first | apply ra_ | apply rn_ | apply rd_)); exact rm_ HO_3.out (fun _ hk => trivial)⟩, ⟨by repeat (first | (with_reducible first | exact HB.out | apply ba_ | apply pw_below_drewN | apply bd_) | exact HB.out)⟩⟩
                             case round => as_aux_lemma =>
                              clear H'
                              try clear c1
                              try clear c2
                              try clear p2
                              try clear c3
                              try clear c4
                              try clear p4
                              try clear q4
                              try clear hx4
                              try clear qi4
                              try clear c5
                              try clear c6
                              try clear p6
                              try clear c7
                              try clear c8
                              try clear c9
                              try clear c10
                              try clear c11
                              try clear c12
                              try clear c13
                              try clear c14
                              try clear c15
                              try clear c16
                              try clear c17
                              try clear c18
                              try clear c19
                              try clear c20
                              try clear c21
                              try clear c22
                              try clear c23
                              try clear c23b0
                              try clear c23b1
                              try clear c24
                              try clear c24b0
                              try clear c24b1
                              try clear c24b2
                              try clear c25
                              try clear c25b0
                              try clear c25b1
                              try clear c25b2
                              try clear c26
                              try clear c27
                              try clear c28
                              try clear c28b0
                              try clear c28b1
                              try clear c29
                              try clear c29b0
                              try clear c29b1
                              try clear c29b2
                              try clear c30
                              try clear c30b0
                              try clear c30b1
                              try clear c31
                              try clear c31b0
                              try clear c31b1
                              try clear c31b2
                              try clear c32
                              try clear c32b0
                              try clear c32b1
                              try clear c33
                              try clear c33b0
                              try clear c33b1
                              try clear c33b2
                              try clear c34
                              try clear c34b0
                              try clear c34b1
                              try clear c35
                              try clear c35b0
                              try clear c35b1
                              try clear c35b2
                              try clear c36
                              try clear c36b0
                              try clear c36b1
                              try clear c37
                              try clear c37b0
                              try clear c37b1
                              try clear c37b2
                              try clear c38
                              try clear c38b0
                              try clear c38b1
                              try clear c39
                              try clear c39b0
                              try clear c39b1
                              try clear c39b2
                              try clear p40
                              try clear q40
                              try clear hx40
                              try clear qi40
                              try clear c42
                              try clear c42b0
                              try clear c42b1
                              try clear c42b2
                              try clear c59
                              try clear c60
                              try clear c60b0
                              try clear c60b1
                              try clear c61
                              try clear c61b0
                              try clear c62
                              try clear c63
                              try clear c64
                              try clear p64
                              try clear c65
                              try clear c65b0
                              try clear c65b1
                              try clear c65b2
                              try clear c66
                              try clear c66b0
                              try clear c66b1
                              try clear c67
                              try clear c67b0
                              try clear c67b1
                              try clear c69
                              try clear c69b0
                              try clear c70
                              try clear c70b0
                              try clear c71
                              try clear c71b0
                              try clear c71b1
                              try clear hx401_0
                              try clear hx402_0
                              try clear p2
                              try clear p401
                              try clear p402
                              try clear p6
                              try clear q401
                              try clear q402
                              obtain ⟨x44_2, rfl, HA, HK2, HO_3, HB⟩ := hrel
                              cases gk with
                              | zero => exact absurd HA.out (by simp [laws_FnCriticalOrders.l0])
                              | succ k2 =>
                               have H := HA.out
                               clear HA
                               simp only [laws_FnCriticalOrders.l0] at H
                               by_cases c73 : x44_2 < 15
                               ·
                                rw [if_pos c73] at H
                                have c73b0 : decide (x44_2 < 15) = true := decide_eq_true c73
                                clear c73
                                replace H := Option.bind_eq_some_iff.mp H
                                obtain ⟨⟨t405, t406⟩, A740, H⟩ := H
                                replace H : ((impl_CostSum.f k2 t348 t349 t350 (wrap64 (x44_2 + 1))).bind fun bt407 => ((impl_WeightUpTo.f k2 t348 x44_2).bind fun bt409 => (if bt409.2 = true then (if (wrap64 (bt407.1 - t405)) = (wrap64 ((wrap64 ((wrap64 (t349 + t350)) * bt409.1)) - (wrap64 (t350 * t403)))) then (laws_FnCriticalOrders.l0 k2 t348 t349 t350 t403 (wrap64 (x44_2 + 1))) else (none)) else (none)))) = some r := H
                                have A74 := am_ A740
                                clear A740
                                replace H := Option.bind_eq_some_iff.mp H
                                obtain ⟨⟨t407, t408⟩, A750, H⟩ := H
                                replace H : ((impl_WeightUpTo.f k2 t348 x44_2).bind fun bt409 => (if bt409.2 = true then (if (wrap64 (t407 - t405)) = (wrap64 ((wrap64 ((wrap64 (t349 + t350)) * bt409.1)) - (wrap64 (t350 * t403)))) then (laws_FnCriticalOrders.l0 k2 t348 t349 t350 t403 (wrap64 (x44_2 + 1))) else (none)) else (none))) = some r := H
                                have A75 := am_ A750
                                clear A750
                                replace H := Option.bind_eq_some_iff.mp H
                                obtain ⟨⟨t409, t410⟩, A760, H⟩ := H
                                replace H : (if t410 = true then (if (wrap64 (t407 - t405)) = (wrap64 ((wrap64 ((wrap64 (t349 + t350)) * t409)) - (wrap64 (t350 * t403)))) then (laws_FnCriticalOrders.l0 k2 t348 t349 t350 t403 (wrap64 (x44_2 + 1))) else (none)) else (none)) = some r := H
                                have A76 := am_ A760
                                clear A760
                                by_cases c77 : t410 = true
                                ·
                                 subst c77
                                 have H1 : (if (wrap64 (t407 - t405)) = (wrap64 ((wrap64 ((wrap64 (t349 + t350)) * t409)) - (wrap64 (t350 * t403)))) then (laws_FnCriticalOrders.l0 k2 t348 t349 t350 t403 (wrap64 (x44_2 + 1))) else (none)) = some r := by rw [if_pos rfl] at H; exact H
                                 clear H
                                 have H := H1
                                 clear H1
                                 by_cases c78 : (wrap64 (t407 - t405)) = (wrap64 ((wrap64 ((wrap64 (t349 + t350)) * t409)) - (wrap64 (t350 * t403))))
                                 ·
                                  rw [if_pos c78] at H
                                  have c78b0 : ((wrap64 (t407 - t405)) == (wrap64 ((wrap64 ((wrap64 (t349 + t350)) * t409)) - (wrap64 (t350 * t403))))) = true := beq_iff_eq.mpr c78
                                  have c78b1 : ((wrap64 (t407 - t405)) != (wrap64 ((wrap64 ((wrap64 (t349 + t350)) * t409)) - (wrap64 (t350 * t403))))) = false := bne_eq_false_iff_eq.mpr c78
                                  clear c78
                                  as_aux_lemma =>
                                   have H' := am_ H
                                   clear H
                                   go_wp2_with (first | ((with_reducible refine gc_ (f := 12) rfl ?_); refine goesL_ (some 324) rfl rfl Try.func12 (by kernel_rfl) rfl #[.slice Ao45 t348.length co45, .int .i64 t349, .int .i64 t350, .int .i64 x44_2] rfl (by (try simp only [List.map_toArray, List.map_cons, List.map_nil]); first | done | rfl | (simp only [List.length_drop, List.length_take]; rfl)) ?_; (with_reducible refine (impl_CostSum.calls k2 _ _ t348 t349 t350 x44_2 t405 t406 _ ?side1 ?side2 A74.out).mono ?_); (case side1 => repeat (first | exact (rr_ HO_3.out).2.2 | (with_reducible refine ca_ ?_ _) | (with_reducible refine cn_ ?_ _) | (with_reducible refine cd_ ?_))); (case side2 => exact (rr_ HO_3.out).2.1); rintro e w79 ⟨rfl, hb⟩; refine ⟨_, rfl, ?_⟩; have n0_ := am_ (rb_ (by (with_reducible repeat (first | apply ra_ | apply rn_ | apply rd_)); exact HO_3.out) hb); have n1_ := am_ (bp_ (by repeat (first | (with_reducible first | exact HB.out | apply ba_ | apply pw_below_drewN | apply bd_) | exact HB.out)) hb); clear HO_3; clear HB; have HO_3 := n0_; have HB := n1_; clear n0_ n1_; (try clear hb); (try clear hb2); (try clear hk); (try clear hi)) | ((with_reducible refine gc_ (f := 12) rfl ?_); refine goesL_ (some 333) rfl rfl Try.func12 (by kernel_rfl) rfl #[.slice Ao45 t348.length co45, .int .i64 t349, .int .i64 t350, .int .i64 (wrap64 (x44_2 + 1))] rfl (by (try simp only [List.map_toArray, List.map_cons, List.map_nil]); first | done | rfl | (simp only [List.length_drop, List.length_take]; rfl)) ?_; (with_reducible refine (impl_CostSum.calls k2 _ _ t348 t349 t350 (wrap64 (x44_2 + 1)) t407 t408 _ ?side1 ?side2 A75.out).mono ?_); (case side1 => repeat (first | exact (rr_ HO_3.out).2.2 | (with_reducible refine ca_ ?_ _) | (with_reducible refine cn_ ?_ _) | (with_reducible refine cd_ ?_))); (case side2 => exact (rr_ HO_3.out).2.1); rintro e w80 ⟨rfl, hb⟩; refine ⟨_, rfl, ?_⟩; have n0_ := am_ (rb_ (by (with_reducible repeat (first | apply ra_ | apply rn_ | apply rd_)); exact HO_3.out) hb); have n1_ := am_ (bp_ (by repeat (first | (with_reducible first | exact HB.out | apply ba_ | apply pw_below_drewN | apply bd_) | exact HB.out)) hb); clear HO_3; clear HB; have HO_3 := n0_; have HB := n1_; clear n0_ n1_; (try clear hb); (try clear hb2); (try clear hk); (try clear hi)) | ((with_reducible refine gc_ (f := 22) rfl ?_); refine goesL_ (some 339) rfl rfl Try.func22 (by kernel_rfl) rfl #[.slice Ao45 t348.length co45, .int .i64 x44_2] rfl (by (try simp only [List.map_toArray, List.map_cons, List.map_nil]); first | done | rfl | (simp only [List.length_drop, List.length_take]; rfl)) ?_; (with_reducible refine (impl_WeightUpTo.calls k2 _ _ t348 x44_2 t409 true _ ?side1 ?side2 A76.out).mono ?_); (case side1 => repeat (first | exact (rr_ HO_3.out).2.2 | (with_reducible refine ca_ ?_ _) | (with_reducible refine cn_ ?_ _) | (with_reducible refine cd_ ?_))); (case side2 => exact (rr_ HO_3.out).2.1); rintro e w81 ⟨rfl, hb⟩; refine ⟨_, rfl, ?_⟩; have n0_ := am_ (rb_ (by (with_reducible repeat (first | apply ra_ | apply rn_ | apply rd_)); exact HO_3.out) hb); have n1_ := am_ (bp_ (by repeat (first | (with_reducible first | exact HB.out | apply ba_ | apply pw_below_drewN | apply bd_) | exact HB.out)) hb); clear HO_3; clear HB; have HO_3 := n0_; have HB := n1_; clear n0_ n1_; (try clear hb); (try clear hb2); (try clear hk); (try clear hi)))
                                   (try subst hji68)
                                   go_roundg k2
                                   case measure => have := HJ42.out; have := HK2.out; omega
                                   case rel => exact ⟨(wrap64 (x44_2 + 1)), (by first | rfl | (simp; done) | (simp [*]; done)), H', ⟨by have := HJ42.out; have := HK2.out; omega⟩, ⟨by (with_reducible repeat (first | apply ra_ | apply rn_ | apply rd_)); exact HO_3.out⟩, ⟨by repeat (first | (with_reducible first | exact HB.out | apply ba_ | apply pw_below_drewN | apply bd_) | exact HB.out)⟩⟩
                                 ·
                                  rw [if_neg c78] at H
                                  exact absurd H (by simp)
                                ·
                                 replace c77 := Bool.eq_false_iff.mpr c77
                                 subst c77
                                 have H1 : (none) = some r := by rw [if_neg (show ¬ (false = true) by decide)] at H; exact H
                                 clear H
                                 have H := H1
                                 clear H1
                                 exact absurd H (by simp)
                               ·
                                rw [if_neg c73] at H
                                have c73b0 : decide (x44_2 < 15) = false := decide_eq_false c73
                                clear c73
                                as_aux_lemma =>
                                 obtain rfl := Option.some.inj H
                                 go_wp2
                                 go_ret
                                 exact ⟨by first | rfl | (simp [errW_none, errW_some] <;> rfl) | (simp only [← hji68]; first | rfl | (simp [errW_none, errW_some] <;> rfl)) | (simp [*, errW_none, errW_some] <;> rfl), by repeat (first | (with_reducible first | exact HB.out | apply ba_ | apply pw_below_drewN | apply bd_) | exact HB.out)⟩
                            ·
                             rw [if_neg c71] at H
                             exact absurd H (by simp)
                           ·
                            rw [if_neg c70] at H
                            exact absurd H (by simp)
                          ·
                           rw [if_neg c69] at H
                           exact absurd H (by simp)
                         ·
                          rw [if_neg c67] at H
                          exact absurd H (by simp)
                        ·
                         rw [if_neg c66] at H
                         exact absurd H (by simp)
                      ·
                       replace c64 := Bool.eq_false_iff.mpr c64
                       subst c64
                       have H1 : (some true) = some r := by rw [if_neg (show ¬ (false = true) by decide)] at H; exact H
                       clear H
                       have H := H1
                       clear H1
                       as_aux_lemma =>
                        obtain rfl := Option.some.inj H
                        go_wp2
                        go_ret
                        exact ⟨by first | rfl | (simp [errW_none, errW_some] <;> rfl) | (simp [*, errW_none, errW_some] <;> rfl), by repeat (first | (with_reducible first | exact HB.out | apply ba_ | apply pw_below_drewN | apply bd_) | exact HB.out)⟩
                ·
                 rw [if_neg c38] at H
                 exact absurd H (by simp)
              ·
               rw [if_neg c36] at H
               exact absurd H (by simp)
            ·
             rw [if_neg c34] at H
             exact absurd H (by simp)
          ·
           rw [if_neg c32] at H
           exact absurd H (by simp)
        ·
         rw [if_neg c30] at H
         exact absurd H (by simp)
      ·
       rw [if_neg c28] at H
       exact absurd H (by simp)
     ·
      replace c27 := Bool.eq_false_iff.mpr c27
      subst c27
      have H1 : (none) = some r := by rw [if_neg (show ¬ (false = true) by decide)] at H; exact H
      clear H
      have H := H1
      clear H1
      exact absurd H (by simp)
  ·
   rw [if_neg c23] at H
   exact absurd H (by simp)

/-- THE ONE PURE STATEMENT of laws_FnCriticalOrders: yours. -/
def laws_FnCriticalOrders.Pure : Prop := ∀ (l0 : List Int), l0.length ≤ maxLen → l0.length * 1 ≤ 140737488351232 → (∀ x ∈ l0, (Lit.int .u8 x).wf = true) → ∃ k, laws_FnCriticalOrders.f k l0 = some true
theorem laws_FnCriticalOrders.walk (P : laws_FnCriticalOrders.Pure) (a0 : Option Addr) (len0 cap0 : Nat) (z0 : List Int) (w : World) (w0 : (a0 = none ∧ len0 = 0 ∧ cap0 = 0 ∧ z0 = []) ∨ ∃ x, a0 = some x ∧ len0 ≤ cap0 ∧ cap0 ≤ maxLen ∧ z0.length = cap0 ∧ (∀ i, i < z0.length → w.cell? (x.add i) = some (.int .u8 (z0.getD i 0))) ∧ ∀ n ∈ z0, (Lit.int .u8 n).wf = true) (y0 : len0 * 1 ≤ 140737488351232) :
  Calls Try.prog 3 #[.slice a0 len0 cap0] w fun e w' => e = .returned (.bool true) ∧ Below w.heap.size w w' := by
 obtain ⟨l0, rfl, hr0, hm0, hw0, hc0⟩ := ReadsInt.ofRowC w0
 obtain ⟨k, h⟩ := P l0 hm0 y0 hw0
 refine (laws_FnCriticalOrders.calls k _ _ l0 true w (Kd.C_of_reads (d := (0 : Int)) (h1 := fun _ => rfl) hr0) hc0 h).mono ?_
 rintro e w' ⟨rfl, hd⟩
 exact ⟨rfl, hd⟩

end Go.Proofs.Ytpoflagbcmbaiaa.PFnCriticalOrders
