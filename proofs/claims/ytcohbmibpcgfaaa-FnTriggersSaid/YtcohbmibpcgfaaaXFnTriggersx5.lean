-- Made by wip/xprint.py: the print of the kit, called over a changed copy of what it reads.
-- PRINTED by print.py (a twelfth state) out of the translation. Not trusted: Lean checks it.
import Derived.Test.YtcohbmibpcgfaaaXFnTriggersx0
import Derived.Test.YtcohbmibpcgfaaaXFnTriggersx1
import Derived.Test.YtcohbmibpcgfaaaXFnTriggersx3
import Derived.Test.YtcohbmibpcgfaaaXFnTriggersx4
namespace Go.Proofs.Ytcohbmibpcgfaaa.PFnTriggers
open Go.RowKit Go.Proofs.YtcohbmibpcgfaaaW.PrintWords Go.Proofs.YtcohbmibpcgfaaaW.PrintLast Go.Proofs.YtcohbmibpcgfaaaW.PrintMore
open Go.Proofs.YtcohbmibpcgfaaaW.PrintWords.Aside0 renaming mk → am_
open Go.Proofs.YtcohbmibpcgfaaaW.PrintWords renaming below_drew1 → bd_, below_alloc → ba_, below_step → bp_, gate_callee → gc_
open Go.Proofs.YtcohbmibpcgfaaaW.PrintWords.Kd renaming R_alloc → ra_, R_drewN → rn_, R_drew → rd_, R_below → rb_, R_mono → rm_, R_reads' → rr_, C_alloc → ca_, C_drewN → cn_, C_drew → cd_
attribute [local go_sem] max2_int min2_int max_two min_two max_three min_three max_four min_four   -- for this text's walks alone
set_option linter.unusedVariables false
set_option linter.unusedSimpArgs false

/-! ### laws_FnTriggers: function 3 -/
mutual
def laws_FnTriggers.j0 : Nat → List Int → Int → Int → Int → Int → Int → Int → Bool → List Int → Int → Int → Int → Int → Int → Bool → Bool → Option (Bool)
 | 0, _, _, _, _, _, _, _, _, _, _, _, _, _, _, _, _ => none
 | k + 1, x3, x4, x5, x6, x7, x8, x9, x10, x13, x14, x15, x16, x17, x18, x19, x111 => if x111 = true then (some false) else (if x10 = true then (if x7 = 0 then (laws_FnTriggers.j1 k x3 x4 x5 x8 x9 x13 x14 x15 x16 x17 x18 x19 (x6 == 0)) else (laws_FnTriggers.j1 k x3 x4 x5 x8 x9 x13 x14 x15 x16 x17 x18 x19 false)) else (laws_FnTriggers.j1 k x3 x4 x5 x8 x9 x13 x14 x15 x16 x17 x18 x19 false))
def laws_FnTriggers.j1 : Nat → List Int → Int → Int → Int → Int → List Int → Int → Int → Int → Int → Int → Bool → Bool → Option (Bool)
 | 0, _, _, _, _, _, _, _, _, _, _, _, _, _ => none
 | k + 1, x3, x4, x5, x8, x9, x13, x14, x15, x16, x17, x18, x19, x120 => if x120 = true then ((impl_CriticalOrder.f k x3 x4 x5).bind fun bt352 => (if x8 ≤ bt352.1 then (if x9 = bt352.1 then (laws_FnTriggers.j2 k x13 x14 x15 x16 x17 x18 x19) else (some false)) else (laws_FnTriggers.j2 k x13 x14 x15 x16 x17 x18 x19))) else (laws_FnTriggers.j2 k x13 x14 x15 x16 x17 x18 x19)
def laws_FnTriggers.j2 : Nat → List Int → Int → Int → Int → Int → Int → Bool → Option (Bool)
 | 0, _, _, _, _, _, _, _ => none
 | k + 1, x13, x14, x15, x16, x17, x18, x19 => if x19 = true then (laws_FnTriggers.l0 k x13 x14 x15 x16 x17 x18 (-1) 0) else (some true)
def laws_FnTriggers.l0 : Nat → List Int → Int → Int → Int → Int → Int → Int → Int → Option (Bool)
 | 0, _, _, _, _, _, _, _, _ => none
 | k + 1, x13, x14, x15, x16, x17, x18, x24, x25 => if x25 ≤ 15 then ((impl_OrderUpTo.f k x13 x14 x15 x16 x17 x25).bind fun bt354 => (if bt354.2 = true then (laws_FnTriggers.j4 k x13 x14 x15 x16 x17 x18 x24 x25 bt354.1 ((decide (bt354.1 > x25)) != (decide (x25 ≤ x18)))) else (laws_FnTriggers.j4 k x13 x14 x15 x16 x17 x18 x24 x25 bt354.1 true))) else (some true)
def laws_FnTriggers.j4 : Nat → List Int → Int → Int → Int → Int → Int → Int → Int → Int → Bool → Option (Bool)
 | 0, _, _, _, _, _, _, _, _, _, _ => none
 | k + 1, x13, x14, x15, x16, x17, x18, x24, x25, x26, x162 => if x162 = true then (some false) else (if x26 > x25 then (if x24 ≥ 0 then (if x26 = x24 then (laws_FnTriggers.l0 k x13 x14 x15 x16 x17 x18 x26 (wrap64 (x25 + 1))) else (some false)) else (laws_FnTriggers.l0 k x13 x14 x15 x16 x17 x18 x26 (wrap64 (x25 + 1)))) else (laws_FnTriggers.l0 k x13 x14 x15 x16 x17 x18 x24 (wrap64 (x25 + 1))))
end
def laws_FnTriggers.f (k : Nat) (l0 : List Int) : Option (Bool) := (laws_vBig.f l0).bind fun t325 => (if t325 = true then (some true) else ((spec_DrawOrderUpTo.f k l0).bind fun bt326 => ((impl_OrderUpTo.f k bt326.1 bt326.2.1 bt326.2.2.1 bt326.2.2.2.1 bt326.2.2.2.2.1 bt326.2.2.2.2.2).bind fun bt334 => ((spec_OrderUpTo.f k bt326.1 bt326.2.1 bt326.2.2.1 bt326.2.2.2.1 bt326.2.2.2.2.1 bt326.2.2.2.2.2).bind fun bt336 => ((laws_vCut.f l0 1).bind fun t338 => ((spec_DrawTriggerLevel.f k t338).bind fun bt341 => ((impl_TriggerLevel.f k bt341.1 bt341.2.1 bt341.2.2.1 bt341.2.2.2.1 bt341.2.2.2.2).bind fun bt348 => ((spec_TriggerLevel.f k bt341.1 bt341.2.1 bt341.2.2.1 bt341.2.2.2.1 bt341.2.2.2.2).bind fun bt350 => (if bt334.1 = bt336.1 then (if (bt334.2 != bt336.2) = true then (laws_FnTriggers.j0 k bt326.1 bt326.2.1 bt326.2.2.1 bt326.2.2.2.1 bt326.2.2.2.2.1 bt326.2.2.2.2.2 bt334.1 bt334.2 bt341.1 bt341.2.1 bt341.2.2.1 bt341.2.2.2.1 bt341.2.2.2.2 bt348.1 bt348.2 true) else (if bt348.1 = bt350.1 then (if (bt348.2 != bt350.2) = true then (laws_FnTriggers.j0 k bt326.1 bt326.2.1 bt326.2.2.1 bt326.2.2.2.1 bt326.2.2.2.2.1 bt326.2.2.2.2.2 bt334.1 bt334.2 bt341.1 bt341.2.1 bt341.2.2.1 bt341.2.2.2.1 bt341.2.2.2.2 bt348.1 bt348.2 true) else (if bt334.2 = true then (laws_FnTriggers.j0 k bt326.1 bt326.2.1 bt326.2.2.1 bt326.2.2.2.1 bt326.2.2.2.2.1 bt326.2.2.2.2.2 bt334.1 bt334.2 bt341.1 bt341.2.1 bt341.2.2.1 bt341.2.2.2.1 bt341.2.2.2.2 bt348.1 bt348.2 (decide (bt334.1 < bt326.2.2.2.2.2))) else (laws_FnTriggers.j0 k bt326.1 bt326.2.1 bt326.2.2.1 bt326.2.2.2.1 bt326.2.2.2.2.1 bt326.2.2.2.2.2 bt334.1 bt334.2 bt341.1 bt341.2.1 bt341.2.2.1 bt341.2.2.2.1 bt341.2.2.2.2 bt348.1 bt348.2 false))) else (laws_FnTriggers.j0 k bt326.1 bt326.2.1 bt326.2.2.1 bt326.2.2.2.1 bt326.2.2.2.2.1 bt326.2.2.2.2.2 bt334.1 bt334.2 bt341.1 bt341.2.1 bt341.2.2.1 bt341.2.2.2.1 bt341.2.2.2.2 bt348.1 bt348.2 true))) else (laws_FnTriggers.j0 k bt326.1 bt326.2.1 bt326.2.2.1 bt326.2.2.2.1 bt326.2.2.2.2.1 bt326.2.2.2.2.2 bt334.1 bt334.2 bt341.1 bt341.2.1 bt341.2.2.1 bt341.2.2.2.1 bt341.2.2.2.2 bt348.1 bt348.2 true))))))))))
theorem laws_FnTriggers.mono_l : ∀ k, (∀ y0 y1 y2 y3 y4 y5 y6 y7 y8 y9 y10 y11 y12 y13 y14 y15, LeO (laws_FnTriggers.j0 k y0 y1 y2 y3 y4 y5 y6 y7 y8 y9 y10 y11 y12 y13 y14 y15) (laws_FnTriggers.j0 (k + 1) y0 y1 y2 y3 y4 y5 y6 y7 y8 y9 y10 y11 y12 y13 y14 y15)) ∧ (∀ y0 y1 y2 y3 y4 y5 y6 y7 y8 y9 y10 y11 y12, LeO (laws_FnTriggers.j1 k y0 y1 y2 y3 y4 y5 y6 y7 y8 y9 y10 y11 y12) (laws_FnTriggers.j1 (k + 1) y0 y1 y2 y3 y4 y5 y6 y7 y8 y9 y10 y11 y12)) ∧ (∀ y0 y1 y2 y3 y4 y5 y6, LeO (laws_FnTriggers.j2 k y0 y1 y2 y3 y4 y5 y6) (laws_FnTriggers.j2 (k + 1) y0 y1 y2 y3 y4 y5 y6)) ∧ (∀ y0 y1 y2 y3 y4 y5 y6 y7, LeO (laws_FnTriggers.l0 k y0 y1 y2 y3 y4 y5 y6 y7) (laws_FnTriggers.l0 (k + 1) y0 y1 y2 y3 y4 y5 y6 y7)) ∧ (∀ y0 y1 y2 y3 y4 y5 y6 y7 y8 y9, LeO (laws_FnTriggers.j4 k y0 y1 y2 y3 y4 y5 y6 y7 y8 y9) (laws_FnTriggers.j4 (k + 1) y0 y1 y2 y3 y4 y5 y6 y7 y8 y9))
 | 0 => ⟨fun _ _ _ _ _ _ _ _ _ _ _ _ _ _ _ _ r h => by simp [laws_FnTriggers.j0] at h, fun _ _ _ _ _ _ _ _ _ _ _ _ _ r h => by simp [laws_FnTriggers.j1] at h, fun _ _ _ _ _ _ _ r h => by simp [laws_FnTriggers.j2] at h, fun _ _ _ _ _ _ _ _ r h => by simp [laws_FnTriggers.l0] at h, fun _ _ _ _ _ _ _ _ _ _ r h => by simp [laws_FnTriggers.j4] at h⟩
 | k + 1 => by
  obtain ⟨ih0, ih1, ih2, ih3, ih4⟩ := laws_FnTriggers.mono_l k
  refine ⟨?_, ?_, ?_, ?_, ?_⟩
  ·
   intro y0 y1 y2 y3 y4 y5 y6 y7 y8 y9 y10 y11 y12 y13 y14 y15
   unfold laws_FnTriggers.j0
   repeat' first
   | (with_reducible exact ih0 _ _ _ _ _ _ _ _ _ _ _ _ _ _ _ _)
   | (with_reducible exact ih1 _ _ _ _ _ _ _ _ _ _ _ _ _)
   | (with_reducible exact ih2 _ _ _ _ _ _ _)
   | (with_reducible exact ih3 _ _ _ _ _ _ _ _)
   | (with_reducible exact ih4 _ _ _ _ _ _ _ _ _ _)
   | (with_reducible exact impl_CriticalOrder.mono _ _ _ _)
   | (with_reducible exact impl_OrderUpTo.mono _ _ _ _ _ _ _)
   | (with_reducible exact impl_TriggerLevel.mono _ _ _ _ _ _)
   | (with_reducible exact spec_DrawOrderUpTo.mono _ _)
   | (with_reducible exact spec_DrawTriggerLevel.mono _ _)
   | (with_reducible exact spec_OrderUpTo.mono _ _ _ _ _ _ _)
   | (with_reducible exact spec_TriggerLevel.mono _ _ _ _ _ _)
   | (with_reducible exact LeO.refl _)
   | (with_reducible exact LeO.none _)
   | (with_reducible refine LeO.ite ?_ ?_)
   | (with_reducible refine LeO.bind ?_ (fun _ => ?_))
   | exact ih0 _ _ _ _ _ _ _ _ _ _ _ _ _ _ _ _
   | exact ih1 _ _ _ _ _ _ _ _ _ _ _ _ _
   | exact ih2 _ _ _ _ _ _ _
   | exact ih3 _ _ _ _ _ _ _ _
   | exact ih4 _ _ _ _ _ _ _ _ _ _
   | exact impl_CriticalOrder.mono _ _ _ _
   | exact impl_OrderUpTo.mono _ _ _ _ _ _ _
   | exact impl_TriggerLevel.mono _ _ _ _ _ _
   | exact spec_DrawOrderUpTo.mono _ _
   | exact spec_DrawTriggerLevel.mono _ _
   | exact spec_OrderUpTo.mono _ _ _ _ _ _ _
   | exact spec_TriggerLevel.mono _ _ _ _ _ _
   | exact LeO.none _
   | refine LeO.ite ?_ ?_
   | refine LeO.bind ?_ (fun _ => ?_)
  ·
   intro y0 y1 y2 y3 y4 y5 y6 y7 y8 y9 y10 y11 y12
   unfold laws_FnTriggers.j1
   repeat' first
   | (with_reducible exact ih0 _ _ _ _ _ _ _ _ _ _ _ _ _ _ _ _)
   | (with_reducible exact ih1 _ _ _ _ _ _ _ _ _ _ _ _ _)
   | (with_reducible exact ih2 _ _ _ _ _ _ _)
   | (with_reducible exact ih3 _ _ _ _ _ _ _ _)
   | (with_reducible exact ih4 _ _ _ _ _ _ _ _ _ _)
   | (with_reducible exact impl_CriticalOrder.mono _ _ _ _)
   | (with_reducible exact impl_OrderUpTo.mono _ _ _ _ _ _ _)
   | (with_reducible exact impl_TriggerLevel.mono _ _ _ _ _ _)
   | (with_reducible exact spec_DrawOrderUpTo.mono _ _)
   | (with_reducible exact spec_DrawTriggerLevel.mono _ _)
   | (with_reducible exact spec_OrderUpTo.mono _ _ _ _ _ _ _)
   | (with_reducible exact spec_TriggerLevel.mono _ _ _ _ _ _)
   | (with_reducible exact LeO.refl _)
   | (with_reducible exact LeO.none _)
   | (with_reducible refine LeO.ite ?_ ?_)
   | (with_reducible refine LeO.bind ?_ (fun _ => ?_))
   | exact ih0 _ _ _ _ _ _ _ _ _ _ _ _ _ _ _ _
   | exact ih1 _ _ _ _ _ _ _ _ _ _ _ _ _
   | exact ih2 _ _ _ _ _ _ _
   | exact ih3 _ _ _ _ _ _ _ _
   | exact ih4 _ _ _ _ _ _ _ _ _ _
   | exact impl_CriticalOrder.mono _ _ _ _
   | exact impl_OrderUpTo.mono _ _ _ _ _ _ _
   | exact impl_TriggerLevel.mono _ _ _ _ _ _
   | exact spec_DrawOrderUpTo.mono _ _
   | exact spec_DrawTriggerLevel.mono _ _
   | exact spec_OrderUpTo.mono _ _ _ _ _ _ _
   | exact spec_TriggerLevel.mono _ _ _ _ _ _
   | exact LeO.none _
   | refine LeO.ite ?_ ?_
   | refine LeO.bind ?_ (fun _ => ?_)
  ·
   intro y0 y1 y2 y3 y4 y5 y6
   unfold laws_FnTriggers.j2
   repeat' first
   | (with_reducible exact ih0 _ _ _ _ _ _ _ _ _ _ _ _ _ _ _ _)
   | (with_reducible exact ih1 _ _ _ _ _ _ _ _ _ _ _ _ _)
   | (with_reducible exact ih2 _ _ _ _ _ _ _)
   | (with_reducible exact ih3 _ _ _ _ _ _ _ _)
   | (with_reducible exact ih4 _ _ _ _ _ _ _ _ _ _)
   | (with_reducible exact impl_CriticalOrder.mono _ _ _ _)
   | (with_reducible exact impl_OrderUpTo.mono _ _ _ _ _ _ _)
   | (with_reducible exact impl_TriggerLevel.mono _ _ _ _ _ _)
   | (with_reducible exact spec_DrawOrderUpTo.mono _ _)
   | (with_reducible exact spec_DrawTriggerLevel.mono _ _)
   | (with_reducible exact spec_OrderUpTo.mono _ _ _ _ _ _ _)
   | (with_reducible exact spec_TriggerLevel.mono _ _ _ _ _ _)
   | (with_reducible exact LeO.refl _)
   | (with_reducible exact LeO.none _)
   | (with_reducible refine LeO.ite ?_ ?_)
   | (with_reducible refine LeO.bind ?_ (fun _ => ?_))
   | exact ih0 _ _ _ _ _ _ _ _ _ _ _ _ _ _ _ _
   | exact ih1 _ _ _ _ _ _ _ _ _ _ _ _ _
   | exact ih2 _ _ _ _ _ _ _
   | exact ih3 _ _ _ _ _ _ _ _
   | exact ih4 _ _ _ _ _ _ _ _ _ _
   | exact impl_CriticalOrder.mono _ _ _ _
   | exact impl_OrderUpTo.mono _ _ _ _ _ _ _
   | exact impl_TriggerLevel.mono _ _ _ _ _ _
   | exact spec_DrawOrderUpTo.mono _ _
   | exact spec_DrawTriggerLevel.mono _ _
   | exact spec_OrderUpTo.mono _ _ _ _ _ _ _
   | exact spec_TriggerLevel.mono _ _ _ _ _ _
   | exact LeO.none _
   | refine LeO.ite ?_ ?_
   | refine LeO.bind ?_ (fun _ => ?_)
  ·
   intro y0 y1 y2 y3 y4 y5 y6 y7
   unfold laws_FnTriggers.l0
   repeat' first
   | (with_reducible exact ih0 _ _ _ _ _ _ _ _ _ _ _ _ _ _ _ _)
   | (with_reducible exact ih1 _ _ _ _ _ _ _ _ _ _ _ _ _)
   | (with_reducible exact ih2 _ _ _ _ _ _ _)
   | (with_reducible exact ih3 _ _ _ _ _ _ _ _)
   | (with_reducible exact ih4 _ _ _ _ _ _ _ _ _ _)
   | (with_reducible exact impl_CriticalOrder.mono _ _ _ _)
   | (with_reducible exact impl_OrderUpTo.mono _ _ _ _ _ _ _)
   | (with_reducible exact impl_TriggerLevel.mono _ _ _ _ _ _)
   | (with_reducible exact spec_DrawOrderUpTo.mono _ _)
   | (with_reducible exact spec_DrawTriggerLevel.mono _ _)
   | (with_reducible exact spec_OrderUpTo.mono _ _ _ _ _ _ _)
   | (with_reducible exact spec_TriggerLevel.mono _ _ _ _ _ _)
   | (with_reducible exact LeO.refl _)
   | (with_reducible exact LeO.none _)
   | (with_reducible refine LeO.ite ?_ ?_)
   | (with_reducible refine LeO.bind ?_ (fun _ => ?_))
   | exact ih0 _ _ _ _ _ _ _ _ _ _ _ _ _ _ _ _
   | exact ih1 _ _ _ _ _ _ _ _ _ _ _ _ _
   | exact ih2 _ _ _ _ _ _ _
   | exact ih3 _ _ _ _ _ _ _ _
   | exact ih4 _ _ _ _ _ _ _ _ _ _
   | exact impl_CriticalOrder.mono _ _ _ _
   | exact impl_OrderUpTo.mono _ _ _ _ _ _ _
   | exact impl_TriggerLevel.mono _ _ _ _ _ _
   | exact spec_DrawOrderUpTo.mono _ _
   | exact spec_DrawTriggerLevel.mono _ _
   | exact spec_OrderUpTo.mono _ _ _ _ _ _ _
   | exact spec_TriggerLevel.mono _ _ _ _ _ _
   | exact LeO.none _
   | refine LeO.ite ?_ ?_
   | refine LeO.bind ?_ (fun _ => ?_)
  ·
   intro y0 y1 y2 y3 y4 y5 y6 y7 y8 y9
   unfold laws_FnTriggers.j4
   repeat' first
   | (with_reducible exact ih0 _ _ _ _ _ _ _ _ _ _ _ _ _ _ _ _)
   | (with_reducible exact ih1 _ _ _ _ _ _ _ _ _ _ _ _ _)
   | (with_reducible exact ih2 _ _ _ _ _ _ _)
   | (with_reducible exact ih3 _ _ _ _ _ _ _ _)
   | (with_reducible exact ih4 _ _ _ _ _ _ _ _ _ _)
   | (with_reducible exact impl_CriticalOrder.mono _ _ _ _)
   | (with_reducible exact impl_OrderUpTo.mono _ _ _ _ _ _ _)
   | (with_reducible exact impl_TriggerLevel.mono _ _ _ _ _ _)
   | (with_reducible exact spec_DrawOrderUpTo.mono _ _)
   | (with_reducible exact spec_DrawTriggerLevel.mono _ _)
   | (with_reducible exact spec_OrderUpTo.mono _ _ _ _ _ _ _)
   | (with_reducible exact spec_TriggerLevel.mono _ _ _ _ _ _)
   | (with_reducible exact LeO.refl _)
   | (with_reducible exact LeO.none _)
   | (with_reducible refine LeO.ite ?_ ?_)
   | (with_reducible refine LeO.bind ?_ (fun _ => ?_))
   | exact ih0 _ _ _ _ _ _ _ _ _ _ _ _ _ _ _ _
   | exact ih1 _ _ _ _ _ _ _ _ _ _ _ _ _
   | exact ih2 _ _ _ _ _ _ _
   | exact ih3 _ _ _ _ _ _ _ _
   | exact ih4 _ _ _ _ _ _ _ _ _ _
   | exact impl_CriticalOrder.mono _ _ _ _
   | exact impl_OrderUpTo.mono _ _ _ _ _ _ _
   | exact impl_TriggerLevel.mono _ _ _ _ _ _
   | exact spec_DrawOrderUpTo.mono _ _
   | exact spec_DrawTriggerLevel.mono _ _
   | exact spec_OrderUpTo.mono _ _ _ _ _ _ _
   | exact spec_TriggerLevel.mono _ _ _ _ _ _
   | exact LeO.none _
   | refine LeO.ite ?_ ?_
   | refine LeO.bind ?_ (fun _ => ?_)
theorem laws_FnTriggers.mono : ∀ a0 k, LeO (laws_FnTriggers.f k a0) (laws_FnTriggers.f (k + 1) a0) := by
 intro a0 k
 obtain ⟨ih0, ih1, ih2, ih3, ih4⟩ := laws_FnTriggers.mono_l k
 unfold laws_FnTriggers.f
 repeat' first
   | (with_reducible exact ih0 _ _ _ _ _ _ _ _ _ _ _ _ _ _ _ _)
   | (with_reducible exact ih1 _ _ _ _ _ _ _ _ _ _ _ _ _)
   | (with_reducible exact ih2 _ _ _ _ _ _ _)
   | (with_reducible exact ih3 _ _ _ _ _ _ _ _)
   | (with_reducible exact ih4 _ _ _ _ _ _ _ _ _ _)
   | (with_reducible exact impl_CriticalOrder.mono _ _ _ _)
   | (with_reducible exact impl_OrderUpTo.mono _ _ _ _ _ _ _)
   | (with_reducible exact impl_TriggerLevel.mono _ _ _ _ _ _)
   | (with_reducible exact spec_DrawOrderUpTo.mono _ _)
   | (with_reducible exact spec_DrawTriggerLevel.mono _ _)
   | (with_reducible exact spec_OrderUpTo.mono _ _ _ _ _ _ _)
   | (with_reducible exact spec_TriggerLevel.mono _ _ _ _ _ _)
   | (with_reducible exact LeO.refl _)
   | (with_reducible exact LeO.none _)
   | (with_reducible refine LeO.ite ?_ ?_)
   | (with_reducible refine LeO.bind ?_ (fun _ => ?_))
   | exact ih0 _ _ _ _ _ _ _ _ _ _ _ _ _ _ _ _
   | exact ih1 _ _ _ _ _ _ _ _ _ _ _ _ _
   | exact ih2 _ _ _ _ _ _ _
   | exact ih3 _ _ _ _ _ _ _ _
   | exact ih4 _ _ _ _ _ _ _ _ _ _
   | exact impl_CriticalOrder.mono _ _ _ _
   | exact impl_OrderUpTo.mono _ _ _ _ _ _ _
   | exact impl_TriggerLevel.mono _ _ _ _ _ _
   | exact spec_DrawOrderUpTo.mono _ _
   | exact spec_DrawTriggerLevel.mono _ _
   | exact spec_OrderUpTo.mono _ _ _ _ _ _ _
   | exact spec_TriggerLevel.mono _ _ _ _ _ _
   | exact LeO.none _
   | refine LeO.ite ?_ ?_
   | refine LeO.bind ?_ (fun _ => ?_)
set_option maxHeartbeats 8000000 in
set_option maxRecDepth 100000 in
theorem laws_FnTriggers.calls (k : Nat) (A0 : Option Addr) (c0 : Nat) (l0 : List Int) (r : Bool) (w : World) (hr0 : Kd.C (Kd.int .u8) w A0 l0.length l0) (hc0 : l0.length ≤ c0) (h : laws_FnTriggers.f k l0 = some r) :
  Calls Try.prog 3 #[.slice A0 l0.length c0] w fun e w' => e = .returned (.bool r) ∧ Below w.heap.size w w' := by
 have HR0 := am_ hr0
 have HC0 := am_ hc0
 clear hr0 hc0
 have HB := am_ (Below.refl w.heap.size w)
 have H : ((laws_vBig.f l0).bind fun t325 => (if t325 = true then (some true) else ((spec_DrawOrderUpTo.f k l0).bind fun bt326 => ((impl_OrderUpTo.f k bt326.1 bt326.2.1 bt326.2.2.1 bt326.2.2.2.1 bt326.2.2.2.2.1 bt326.2.2.2.2.2).bind fun bt334 => ((spec_OrderUpTo.f k bt326.1 bt326.2.1 bt326.2.2.1 bt326.2.2.2.1 bt326.2.2.2.2.1 bt326.2.2.2.2.2).bind fun bt336 => ((laws_vCut.f l0 1).bind fun t338 => ((spec_DrawTriggerLevel.f k t338).bind fun bt341 => ((impl_TriggerLevel.f k bt341.1 bt341.2.1 bt341.2.2.1 bt341.2.2.2.1 bt341.2.2.2.2).bind fun bt348 => ((spec_TriggerLevel.f k bt341.1 bt341.2.1 bt341.2.2.1 bt341.2.2.2.1 bt341.2.2.2.2).bind fun bt350 => (if bt334.1 = bt336.1 then (if (bt334.2 != bt336.2) = true then (laws_FnTriggers.j0 k bt326.1 bt326.2.1 bt326.2.2.1 bt326.2.2.2.1 bt326.2.2.2.2.1 bt326.2.2.2.2.2 bt334.1 bt334.2 bt341.1 bt341.2.1 bt341.2.2.1 bt341.2.2.2.1 bt341.2.2.2.2 bt348.1 bt348.2 true) else (if bt348.1 = bt350.1 then (if (bt348.2 != bt350.2) = true then (laws_FnTriggers.j0 k bt326.1 bt326.2.1 bt326.2.2.1 bt326.2.2.2.1 bt326.2.2.2.2.1 bt326.2.2.2.2.2 bt334.1 bt334.2 bt341.1 bt341.2.1 bt341.2.2.1 bt341.2.2.2.1 bt341.2.2.2.2 bt348.1 bt348.2 true) else (if bt334.2 = true then (laws_FnTriggers.j0 k bt326.1 bt326.2.1 bt326.2.2.1 bt326.2.2.2.1 bt326.2.2.2.2.1 bt326.2.2.2.2.2 bt334.1 bt334.2 bt341.1 bt341.2.1 bt341.2.2.1 bt341.2.2.2.1 bt341.2.2.2.2 bt348.1 bt348.2 (decide (bt334.1 < bt326.2.2.2.2.2))) else (laws_FnTriggers.j0 k bt326.1 bt326.2.1 bt326.2.2.1 bt326.2.2.2.1 bt326.2.2.2.2.1 bt326.2.2.2.2.2 bt334.1 bt334.2 bt341.1 bt341.2.1 bt341.2.2.1 bt341.2.2.2.1 bt341.2.2.2.2 bt348.1 bt348.2 false))) else (laws_FnTriggers.j0 k bt326.1 bt326.2.1 bt326.2.2.1 bt326.2.2.2.1 bt326.2.2.2.2.1 bt326.2.2.2.2.2 bt334.1 bt334.2 bt341.1 bt341.2.1 bt341.2.2.1 bt341.2.2.2.1 bt341.2.2.2.2 bt348.1 bt348.2 true))) else (laws_FnTriggers.j0 k bt326.1 bt326.2.1 bt326.2.2.1 bt326.2.2.2.1 bt326.2.2.2.2.1 bt326.2.2.2.2.2 bt334.1 bt334.2 bt341.1 bt341.2.1 bt341.2.2.1 bt341.2.2.2.1 bt341.2.2.2.2 bt348.1 bt348.2 true))))))))))) = some r := h
 clear h
 replace H := Option.bind_eq_some_iff.mp H
 obtain ⟨t325, A20, H⟩ := H
 replace H : (if t325 = true then (some true) else ((spec_DrawOrderUpTo.f k l0).bind fun bt326 => ((impl_OrderUpTo.f k bt326.1 bt326.2.1 bt326.2.2.1 bt326.2.2.2.1 bt326.2.2.2.2.1 bt326.2.2.2.2.2).bind fun bt334 => ((spec_OrderUpTo.f k bt326.1 bt326.2.1 bt326.2.2.1 bt326.2.2.2.1 bt326.2.2.2.2.1 bt326.2.2.2.2.2).bind fun bt336 => ((laws_vCut.f l0 1).bind fun t338 => ((spec_DrawTriggerLevel.f k t338).bind fun bt341 => ((impl_TriggerLevel.f k bt341.1 bt341.2.1 bt341.2.2.1 bt341.2.2.2.1 bt341.2.2.2.2).bind fun bt348 => ((spec_TriggerLevel.f k bt341.1 bt341.2.1 bt341.2.2.1 bt341.2.2.2.1 bt341.2.2.2.2).bind fun bt350 => (if bt334.1 = bt336.1 then (if (bt334.2 != bt336.2) = true then (laws_FnTriggers.j0 k bt326.1 bt326.2.1 bt326.2.2.1 bt326.2.2.2.1 bt326.2.2.2.2.1 bt326.2.2.2.2.2 bt334.1 bt334.2 bt341.1 bt341.2.1 bt341.2.2.1 bt341.2.2.2.1 bt341.2.2.2.2 bt348.1 bt348.2 true) else (if bt348.1 = bt350.1 then (if (bt348.2 != bt350.2) = true then (laws_FnTriggers.j0 k bt326.1 bt326.2.1 bt326.2.2.1 bt326.2.2.2.1 bt326.2.2.2.2.1 bt326.2.2.2.2.2 bt334.1 bt334.2 bt341.1 bt341.2.1 bt341.2.2.1 bt341.2.2.2.1 bt341.2.2.2.2 bt348.1 bt348.2 true) else (if bt334.2 = true then (laws_FnTriggers.j0 k bt326.1 bt326.2.1 bt326.2.2.1 bt326.2.2.2.1 bt326.2.2.2.2.1 bt326.2.2.2.2.2 bt334.1 bt334.2 bt341.1 bt341.2.1 bt341.2.2.1 bt341.2.2.2.1 bt341.2.2.2.2 bt348.1 bt348.2 (decide (bt334.1 < bt326.2.2.2.2.2))) else (laws_FnTriggers.j0 k bt326.1 bt326.2.1 bt326.2.2.1 bt326.2.2.2.1 bt326.2.2.2.2.1 bt326.2.2.2.2.2 bt334.1 bt334.2 bt341.1 bt341.2.1 bt341.2.2.1 bt341.2.2.2.1 bt341.2.2.2.2 bt348.1 bt348.2 false))) else (laws_FnTriggers.j0 k bt326.1 bt326.2.1 bt326.2.2.1 bt326.2.2.2.1 bt326.2.2.2.2.1 bt326.2.2.2.2.2 bt334.1 bt334.2 bt341.1 bt341.2.1 bt341.2.2.1 bt341.2.2.2.1 bt341.2.2.2.2 bt348.1 bt348.2 true))) else (laws_FnTriggers.j0 k bt326.1 bt326.2.1 bt326.2.2.1 bt326.2.2.2.1 bt326.2.2.2.2.1 bt326.2.2.2.2.2 bt334.1 bt334.2 bt341.1 bt341.2.1 bt341.2.2.1 bt341.2.2.2.1 bt341.2.2.2.2 bt348.1 bt348.2 true)))))))))) = some r := H
 have A2 := am_ A20
 clear A20
 by_cases c3 : t325 = true
 ·
  subst c3
  have H1 : (some true) = some r := by rw [if_pos rfl] at H; exact H
  clear H
  have H := H1
  clear H1
  obtain rfl := Option.some.inj H
  go_enter Try.func3, Try.ntmps3
  go_wp2_with (first | ((with_reducible refine gc_ (f := 4) rfl ?_); refine goesL_ (some 29) rfl rfl Try.func4 (by kernel_rfl) rfl #[.slice A0 l0.length c0] rfl (by (try simp only [List.map_toArray, List.map_cons, List.map_nil]); first | done | rfl | (simp only [List.length_drop, List.length_take]; rfl)) ?_; (with_reducible refine (laws_vBig.calls _ _ l0 true _ ?side1 ?side2 A2.out).mono ?_); (case side1 => repeat (first | exact HR0.out | (with_reducible refine ca_ ?_ _) | (with_reducible refine cn_ ?_ _) | (with_reducible refine cd_ ?_))); (case side2 => exact HC0.out); rintro e w' ⟨rfl, ⟨nd, rfl⟩⟩; refine ⟨_, rfl, ?_⟩))
  go_ret
  exact ⟨by first | rfl | (simp [errW_none, errW_some] <;> rfl) | (simp [*, errW_none, errW_some] <;> rfl), by repeat (first | (with_reducible first | exact HB.out | apply ba_ | apply pw_below_drewN | apply bd_) | exact HB.out)⟩
 ·
  replace c3 := Bool.eq_false_iff.mpr c3
  subst c3
  have H1 : ((spec_DrawOrderUpTo.f k l0).bind fun bt326 => ((impl_OrderUpTo.f k bt326.1 bt326.2.1 bt326.2.2.1 bt326.2.2.2.1 bt326.2.2.2.2.1 bt326.2.2.2.2.2).bind fun bt334 => ((spec_OrderUpTo.f k bt326.1 bt326.2.1 bt326.2.2.1 bt326.2.2.2.1 bt326.2.2.2.2.1 bt326.2.2.2.2.2).bind fun bt336 => ((laws_vCut.f l0 1).bind fun t338 => ((spec_DrawTriggerLevel.f k t338).bind fun bt341 => ((impl_TriggerLevel.f k bt341.1 bt341.2.1 bt341.2.2.1 bt341.2.2.2.1 bt341.2.2.2.2).bind fun bt348 => ((spec_TriggerLevel.f k bt341.1 bt341.2.1 bt341.2.2.1 bt341.2.2.2.1 bt341.2.2.2.2).bind fun bt350 => (if bt334.1 = bt336.1 then (if (bt334.2 != bt336.2) = true then (laws_FnTriggers.j0 k bt326.1 bt326.2.1 bt326.2.2.1 bt326.2.2.2.1 bt326.2.2.2.2.1 bt326.2.2.2.2.2 bt334.1 bt334.2 bt341.1 bt341.2.1 bt341.2.2.1 bt341.2.2.2.1 bt341.2.2.2.2 bt348.1 bt348.2 true) else (if bt348.1 = bt350.1 then (if (bt348.2 != bt350.2) = true then (laws_FnTriggers.j0 k bt326.1 bt326.2.1 bt326.2.2.1 bt326.2.2.2.1 bt326.2.2.2.2.1 bt326.2.2.2.2.2 bt334.1 bt334.2 bt341.1 bt341.2.1 bt341.2.2.1 bt341.2.2.2.1 bt341.2.2.2.2 bt348.1 bt348.2 true) else (if bt334.2 = true then (laws_FnTriggers.j0 k bt326.1 bt326.2.1 bt326.2.2.1 bt326.2.2.2.1 bt326.2.2.2.2.1 bt326.2.2.2.2.2 bt334.1 bt334.2 bt341.1 bt341.2.1 bt341.2.2.1 bt341.2.2.2.1 bt341.2.2.2.2 bt348.1 bt348.2 (decide (bt334.1 < bt326.2.2.2.2.2))) else (laws_FnTriggers.j0 k bt326.1 bt326.2.1 bt326.2.2.1 bt326.2.2.2.1 bt326.2.2.2.2.1 bt326.2.2.2.2.2 bt334.1 bt334.2 bt341.1 bt341.2.1 bt341.2.2.1 bt341.2.2.2.1 bt341.2.2.2.2 bt348.1 bt348.2 false))) else (laws_FnTriggers.j0 k bt326.1 bt326.2.1 bt326.2.2.1 bt326.2.2.2.1 bt326.2.2.2.2.1 bt326.2.2.2.2.2 bt334.1 bt334.2 bt341.1 bt341.2.1 bt341.2.2.1 bt341.2.2.2.1 bt341.2.2.2.2 bt348.1 bt348.2 true))) else (laws_FnTriggers.j0 k bt326.1 bt326.2.1 bt326.2.2.1 bt326.2.2.2.1 bt326.2.2.2.2.1 bt326.2.2.2.2.2 bt334.1 bt334.2 bt341.1 bt341.2.1 bt341.2.2.1 bt341.2.2.2.1 bt341.2.2.2.2 bt348.1 bt348.2 true))))))))) = some r := by rw [if_neg (show ¬ (false = true) by decide)] at H; exact H
  clear H
  have H := H1
  clear H1
  replace H := Option.bind_eq_some_iff.mp H
  obtain ⟨⟨t326, t327, t328, t329, t330, t331⟩, A40, H⟩ := H
  replace H : ((impl_OrderUpTo.f k t326 t327 t328 t329 t330 t331).bind fun bt334 => ((spec_OrderUpTo.f k t326 t327 t328 t329 t330 t331).bind fun bt336 => ((laws_vCut.f l0 1).bind fun t338 => ((spec_DrawTriggerLevel.f k t338).bind fun bt341 => ((impl_TriggerLevel.f k bt341.1 bt341.2.1 bt341.2.2.1 bt341.2.2.2.1 bt341.2.2.2.2).bind fun bt348 => ((spec_TriggerLevel.f k bt341.1 bt341.2.1 bt341.2.2.1 bt341.2.2.2.1 bt341.2.2.2.2).bind fun bt350 => (if bt334.1 = bt336.1 then (if (bt334.2 != bt336.2) = true then (laws_FnTriggers.j0 k t326 t327 t328 t329 t330 t331 bt334.1 bt334.2 bt341.1 bt341.2.1 bt341.2.2.1 bt341.2.2.2.1 bt341.2.2.2.2 bt348.1 bt348.2 true) else (if bt348.1 = bt350.1 then (if (bt348.2 != bt350.2) = true then (laws_FnTriggers.j0 k t326 t327 t328 t329 t330 t331 bt334.1 bt334.2 bt341.1 bt341.2.1 bt341.2.2.1 bt341.2.2.2.1 bt341.2.2.2.2 bt348.1 bt348.2 true) else (if bt334.2 = true then (laws_FnTriggers.j0 k t326 t327 t328 t329 t330 t331 bt334.1 bt334.2 bt341.1 bt341.2.1 bt341.2.2.1 bt341.2.2.2.1 bt341.2.2.2.2 bt348.1 bt348.2 (decide (bt334.1 < t331))) else (laws_FnTriggers.j0 k t326 t327 t328 t329 t330 t331 bt334.1 bt334.2 bt341.1 bt341.2.1 bt341.2.2.1 bt341.2.2.2.1 bt341.2.2.2.2 bt348.1 bt348.2 false))) else (laws_FnTriggers.j0 k t326 t327 t328 t329 t330 t331 bt334.1 bt334.2 bt341.1 bt341.2.1 bt341.2.2.1 bt341.2.2.2.1 bt341.2.2.2.2 bt348.1 bt348.2 true))) else (laws_FnTriggers.j0 k t326 t327 t328 t329 t330 t331 bt334.1 bt334.2 bt341.1 bt341.2.1 bt341.2.2.1 bt341.2.2.2.1 bt341.2.2.2.2 bt348.1 bt348.2 true)))))))) = some r := H
  have A4 := am_ A40
  clear A40
  replace H := Option.bind_eq_some_iff.mp H
  obtain ⟨⟨t334, t335⟩, A50, H⟩ := H
  replace H : ((spec_OrderUpTo.f k t326 t327 t328 t329 t330 t331).bind fun bt336 => ((laws_vCut.f l0 1).bind fun t338 => ((spec_DrawTriggerLevel.f k t338).bind fun bt341 => ((impl_TriggerLevel.f k bt341.1 bt341.2.1 bt341.2.2.1 bt341.2.2.2.1 bt341.2.2.2.2).bind fun bt348 => ((spec_TriggerLevel.f k bt341.1 bt341.2.1 bt341.2.2.1 bt341.2.2.2.1 bt341.2.2.2.2).bind fun bt350 => (if t334 = bt336.1 then (if (t335 != bt336.2) = true then (laws_FnTriggers.j0 k t326 t327 t328 t329 t330 t331 t334 t335 bt341.1 bt341.2.1 bt341.2.2.1 bt341.2.2.2.1 bt341.2.2.2.2 bt348.1 bt348.2 true) else (if bt348.1 = bt350.1 then (if (bt348.2 != bt350.2) = true then (laws_FnTriggers.j0 k t326 t327 t328 t329 t330 t331 t334 t335 bt341.1 bt341.2.1 bt341.2.2.1 bt341.2.2.2.1 bt341.2.2.2.2 bt348.1 bt348.2 true) else (if t335 = true then (laws_FnTriggers.j0 k t326 t327 t328 t329 t330 t331 t334 t335 bt341.1 bt341.2.1 bt341.2.2.1 bt341.2.2.2.1 bt341.2.2.2.2 bt348.1 bt348.2 (decide (t334 < t331))) else (laws_FnTriggers.j0 k t326 t327 t328 t329 t330 t331 t334 t335 bt341.1 bt341.2.1 bt341.2.2.1 bt341.2.2.2.1 bt341.2.2.2.2 bt348.1 bt348.2 false))) else (laws_FnTriggers.j0 k t326 t327 t328 t329 t330 t331 t334 t335 bt341.1 bt341.2.1 bt341.2.2.1 bt341.2.2.2.1 bt341.2.2.2.2 bt348.1 bt348.2 true))) else (laws_FnTriggers.j0 k t326 t327 t328 t329 t330 t331 t334 t335 bt341.1 bt341.2.1 bt341.2.2.1 bt341.2.2.2.1 bt341.2.2.2.2 bt348.1 bt348.2 true))))))) = some r := H
  have A5 := am_ A50
  clear A50
  replace H := Option.bind_eq_some_iff.mp H
  obtain ⟨⟨t336, t337⟩, A60, H⟩ := H
  replace H : ((laws_vCut.f l0 1).bind fun t338 => ((spec_DrawTriggerLevel.f k t338).bind fun bt341 => ((impl_TriggerLevel.f k bt341.1 bt341.2.1 bt341.2.2.1 bt341.2.2.2.1 bt341.2.2.2.2).bind fun bt348 => ((spec_TriggerLevel.f k bt341.1 bt341.2.1 bt341.2.2.1 bt341.2.2.2.1 bt341.2.2.2.2).bind fun bt350 => (if t334 = t336 then (if (t335 != t337) = true then (laws_FnTriggers.j0 k t326 t327 t328 t329 t330 t331 t334 t335 bt341.1 bt341.2.1 bt341.2.2.1 bt341.2.2.2.1 bt341.2.2.2.2 bt348.1 bt348.2 true) else (if bt348.1 = bt350.1 then (if (bt348.2 != bt350.2) = true then (laws_FnTriggers.j0 k t326 t327 t328 t329 t330 t331 t334 t335 bt341.1 bt341.2.1 bt341.2.2.1 bt341.2.2.2.1 bt341.2.2.2.2 bt348.1 bt348.2 true) else (if t335 = true then (laws_FnTriggers.j0 k t326 t327 t328 t329 t330 t331 t334 t335 bt341.1 bt341.2.1 bt341.2.2.1 bt341.2.2.2.1 bt341.2.2.2.2 bt348.1 bt348.2 (decide (t334 < t331))) else (laws_FnTriggers.j0 k t326 t327 t328 t329 t330 t331 t334 t335 bt341.1 bt341.2.1 bt341.2.2.1 bt341.2.2.2.1 bt341.2.2.2.2 bt348.1 bt348.2 false))) else (laws_FnTriggers.j0 k t326 t327 t328 t329 t330 t331 t334 t335 bt341.1 bt341.2.1 bt341.2.2.1 bt341.2.2.2.1 bt341.2.2.2.2 bt348.1 bt348.2 true))) else (laws_FnTriggers.j0 k t326 t327 t328 t329 t330 t331 t334 t335 bt341.1 bt341.2.1 bt341.2.2.1 bt341.2.2.2.1 bt341.2.2.2.2 bt348.1 bt348.2 true)))))) = some r := H
  have A6 := am_ A60
  clear A60
  replace H := Option.bind_eq_some_iff.mp H
  obtain ⟨t338, A70, H⟩ := H
  replace H : ((spec_DrawTriggerLevel.f k t338).bind fun bt341 => ((impl_TriggerLevel.f k bt341.1 bt341.2.1 bt341.2.2.1 bt341.2.2.2.1 bt341.2.2.2.2).bind fun bt348 => ((spec_TriggerLevel.f k bt341.1 bt341.2.1 bt341.2.2.1 bt341.2.2.2.1 bt341.2.2.2.2).bind fun bt350 => (if t334 = t336 then (if (t335 != t337) = true then (laws_FnTriggers.j0 k t326 t327 t328 t329 t330 t331 t334 t335 bt341.1 bt341.2.1 bt341.2.2.1 bt341.2.2.2.1 bt341.2.2.2.2 bt348.1 bt348.2 true) else (if bt348.1 = bt350.1 then (if (bt348.2 != bt350.2) = true then (laws_FnTriggers.j0 k t326 t327 t328 t329 t330 t331 t334 t335 bt341.1 bt341.2.1 bt341.2.2.1 bt341.2.2.2.1 bt341.2.2.2.2 bt348.1 bt348.2 true) else (if t335 = true then (laws_FnTriggers.j0 k t326 t327 t328 t329 t330 t331 t334 t335 bt341.1 bt341.2.1 bt341.2.2.1 bt341.2.2.2.1 bt341.2.2.2.2 bt348.1 bt348.2 (decide (t334 < t331))) else (laws_FnTriggers.j0 k t326 t327 t328 t329 t330 t331 t334 t335 bt341.1 bt341.2.1 bt341.2.2.1 bt341.2.2.2.1 bt341.2.2.2.2 bt348.1 bt348.2 false))) else (laws_FnTriggers.j0 k t326 t327 t328 t329 t330 t331 t334 t335 bt341.1 bt341.2.1 bt341.2.2.1 bt341.2.2.2.1 bt341.2.2.2.2 bt348.1 bt348.2 true))) else (laws_FnTriggers.j0 k t326 t327 t328 t329 t330 t331 t334 t335 bt341.1 bt341.2.1 bt341.2.2.1 bt341.2.2.2.1 bt341.2.2.2.2 bt348.1 bt348.2 true))))) = some r := H
  have A7 := am_ A70
  clear A70
  replace H := Option.bind_eq_some_iff.mp H
  obtain ⟨⟨t341, t342, t343, t344, t345⟩, A80, H⟩ := H
  replace H : ((impl_TriggerLevel.f k t341 t342 t343 t344 t345).bind fun bt348 => ((spec_TriggerLevel.f k t341 t342 t343 t344 t345).bind fun bt350 => (if t334 = t336 then (if (t335 != t337) = true then (laws_FnTriggers.j0 k t326 t327 t328 t329 t330 t331 t334 t335 t341 t342 t343 t344 t345 bt348.1 bt348.2 true) else (if bt348.1 = bt350.1 then (if (bt348.2 != bt350.2) = true then (laws_FnTriggers.j0 k t326 t327 t328 t329 t330 t331 t334 t335 t341 t342 t343 t344 t345 bt348.1 bt348.2 true) else (if t335 = true then (laws_FnTriggers.j0 k t326 t327 t328 t329 t330 t331 t334 t335 t341 t342 t343 t344 t345 bt348.1 bt348.2 (decide (t334 < t331))) else (laws_FnTriggers.j0 k t326 t327 t328 t329 t330 t331 t334 t335 t341 t342 t343 t344 t345 bt348.1 bt348.2 false))) else (laws_FnTriggers.j0 k t326 t327 t328 t329 t330 t331 t334 t335 t341 t342 t343 t344 t345 bt348.1 bt348.2 true))) else (laws_FnTriggers.j0 k t326 t327 t328 t329 t330 t331 t334 t335 t341 t342 t343 t344 t345 bt348.1 bt348.2 true)))) = some r := H
  have A8 := am_ A80
  clear A80
  replace H := Option.bind_eq_some_iff.mp H
  obtain ⟨⟨t348, t349⟩, A90, H⟩ := H
  replace H : ((spec_TriggerLevel.f k t341 t342 t343 t344 t345).bind fun bt350 => (if t334 = t336 then (if (t335 != t337) = true then (laws_FnTriggers.j0 k t326 t327 t328 t329 t330 t331 t334 t335 t341 t342 t343 t344 t345 t348 t349 true) else (if t348 = bt350.1 then (if (t349 != bt350.2) = true then (laws_FnTriggers.j0 k t326 t327 t328 t329 t330 t331 t334 t335 t341 t342 t343 t344 t345 t348 t349 true) else (if t335 = true then (laws_FnTriggers.j0 k t326 t327 t328 t329 t330 t331 t334 t335 t341 t342 t343 t344 t345 t348 t349 (decide (t334 < t331))) else (laws_FnTriggers.j0 k t326 t327 t328 t329 t330 t331 t334 t335 t341 t342 t343 t344 t345 t348 t349 false))) else (laws_FnTriggers.j0 k t326 t327 t328 t329 t330 t331 t334 t335 t341 t342 t343 t344 t345 t348 t349 true))) else (laws_FnTriggers.j0 k t326 t327 t328 t329 t330 t331 t334 t335 t341 t342 t343 t344 t345 t348 t349 true))) = some r := H
  have A9 := am_ A90
  clear A90
  replace H := Option.bind_eq_some_iff.mp H
  obtain ⟨⟨t350, t351⟩, A100, H⟩ := H
  replace H : (if t334 = t336 then (if (t335 != t337) = true then (laws_FnTriggers.j0 k t326 t327 t328 t329 t330 t331 t334 t335 t341 t342 t343 t344 t345 t348 t349 true) else (if t348 = t350 then (if (t349 != t351) = true then (laws_FnTriggers.j0 k t326 t327 t328 t329 t330 t331 t334 t335 t341 t342 t343 t344 t345 t348 t349 true) else (if t335 = true then (laws_FnTriggers.j0 k t326 t327 t328 t329 t330 t331 t334 t335 t341 t342 t343 t344 t345 t348 t349 (decide (t334 < t331))) else (laws_FnTriggers.j0 k t326 t327 t328 t329 t330 t331 t334 t335 t341 t342 t343 t344 t345 t348 t349 false))) else (laws_FnTriggers.j0 k t326 t327 t328 t329 t330 t331 t334 t335 t341 t342 t343 t344 t345 t348 t349 true))) else (laws_FnTriggers.j0 k t326 t327 t328 t329 t330 t331 t334 t335 t341 t342 t343 t344 t345 t348 t349 true)) = some r := H
  have A10 := am_ A100
  clear A100
  have HC11 := am_ H
  clear H
  go_enter Try.func3, Try.ntmps3
  go_upto_region 9 with (first | ((with_reducible refine gc_ (f := 4) rfl ?_); refine goesL_ (some 29) rfl rfl Try.func4 (by kernel_rfl) rfl #[.slice A0 l0.length c0] rfl (by (try simp only [List.map_toArray, List.map_cons, List.map_nil]); first | done | rfl | (simp only [List.length_drop, List.length_take]; rfl)) ?_; (with_reducible refine (laws_vBig.calls _ _ l0 false _ ?side1 ?side2 A2.out).mono ?_); (case side1 => repeat (first | exact HR0.out | (with_reducible refine ca_ ?_ _) | (with_reducible refine cn_ ?_ _) | (with_reducible refine cd_ ?_))); (case side2 => exact HC0.out); rintro e w' ⟨rfl, ⟨nd, rfl⟩⟩; refine ⟨_, rfl, ?_⟩) | ((with_reducible refine gc_ (f := 5) rfl ?_); refine goesL_ (some 32) rfl rfl Try.func5 (by kernel_rfl) rfl #[.slice A0 l0.length c0] rfl (by (try simp only [List.map_toArray, List.map_cons, List.map_nil]); first | done | rfl | (simp only [List.length_drop, List.length_take]; rfl)) ?_; (with_reducible refine (spec_DrawOrderUpTo.calls k _ _ l0 t326 t327 t328 t329 t330 t331 _ ?side1 ?side2 A4.out).mono ?_); (case side1 => repeat (first | exact HR0.out | (with_reducible refine ca_ ?_ _) | (with_reducible refine cn_ ?_ _) | (with_reducible refine cd_ ?_))); (case side2 => exact HC0.out); rintro e w12 ⟨v332, rfl, ho0, hb⟩; refine ⟨_, rfl, ?_⟩; have n0_ := am_ (Kd.R_lower ho0 (below_size (by repeat (first | (with_reducible first | exact HB.out | apply ba_ | apply pw_below_drewN | apply bd_) | exact HB.out)))); have n1_ := am_ (bp_ (by repeat (first | (with_reducible first | exact HB.out | apply ba_ | apply pw_below_drewN | apply bd_) | exact HB.out)) hb); clear HB; have HO333 := n0_; have HB := n1_; clear n0_ n1_; (try clear hb); (try clear hb2); (try clear hk); (try clear hi); (try clear ho0); obtain ⟨Ao13, co13, eo13⟩ := Kd.R_slice HO333.out; subst eo13) | ((with_reducible refine gc_ (f := 6) rfl ?_); refine goesL_ (some 46) rfl rfl Try.func6 (by kernel_rfl) rfl #[.slice Ao13 t326.length co13, .int .i64 t327, .int .i64 t328, .int .i64 t329, .int .i64 t330, .int .i64 t331] rfl (by (try simp only [List.map_toArray, List.map_cons, List.map_nil]); first | done | rfl | (simp only [List.length_drop, List.length_take]; rfl)) ?_; (with_reducible refine (impl_OrderUpTo.calls k _ _ t326 t327 t328 t329 t330 t331 t334 t335 _ ?side1 ?side2 A5.out).mono ?_); (case side1 => repeat (first | exact (rr_ HO333.out).2.2 | (with_reducible refine ca_ ?_ _) | (with_reducible refine cn_ ?_ _) | (with_reducible refine cd_ ?_))); (case side2 => exact (rr_ HO333.out).2.1); rintro e w14 ⟨rfl, hb⟩; refine ⟨_, rfl, ?_⟩; have n0_ := am_ (rb_ (by (with_reducible repeat (first | apply ra_ | apply rn_ | apply rd_)); exact HO333.out) hb); have n1_ := am_ (bp_ (by repeat (first | (with_reducible first | exact HB.out | apply ba_ | apply pw_below_drewN | apply bd_) | exact HB.out)) hb); clear HO333; clear HB; have HO333 := n0_; have HB := n1_; clear n0_ n1_; (try clear hb); (try clear hb2); (try clear hk); (try clear hi)) | ((with_reducible refine gc_ (f := 7) rfl ?_); refine goesL_ (some 56) rfl rfl Try.func7 (by kernel_rfl) rfl #[.slice Ao13 t326.length co13, .int .i64 t327, .int .i64 t328, .int .i64 t329, .int .i64 t330, .int .i64 t331] rfl (by (try simp only [List.map_toArray, List.map_cons, List.map_nil]); first | done | rfl | (simp only [List.length_drop, List.length_take]; rfl)) ?_; (with_reducible refine (spec_OrderUpTo.calls k _ _ t326 t327 t328 t329 t330 t331 t336 t337 _ ?side1 ?side2 A6.out).mono ?_); (case side1 => repeat (first | exact (rr_ HO333.out).2.2 | (with_reducible refine ca_ ?_ _) | (with_reducible refine cn_ ?_ _) | (with_reducible refine cd_ ?_))); (case side2 => exact (rr_ HO333.out).2.1); rintro e w' ⟨rfl, ⟨nd, rfl⟩⟩; refine ⟨_, rfl, ?_⟩) | ((with_reducible refine gc_ (f := 9) rfl ?_); refine goesL_ (some 61) rfl rfl Try.func9 (by kernel_rfl) rfl #[.slice A0 l0.length c0, .int .i64 1] rfl (by (try simp only [List.map_toArray, List.map_cons, List.map_nil]); first | done | rfl | (simp only [List.length_drop, List.length_take]; rfl)) ?_; (with_reducible refine (laws_vCut.calls _ _ l0 1 t338 _ ?side1 ?side2 A7.out).mono ?_); (case side1 => repeat (first | exact (Kd.C_below HR0.out (by repeat (first | (with_reducible first | exact HB.out | apply ba_ | apply pw_below_drewN | apply bd_) | exact HB.out))) | (with_reducible refine ca_ ?_ _) | (with_reducible refine cn_ ?_ _) | (with_reducible refine cd_ ?_))); (case side2 => exact HC0.out); rintro e w15 ⟨v339, rfl, ho0, hb⟩; refine ⟨_, rfl, ?_⟩; have n0_ := am_ (rb_ (by (with_reducible repeat (first | apply ra_ | apply rn_ | apply rd_)); exact HO333.out) hb); have n1_ := am_ (Kd.R_lower ho0 (below_size (by repeat (first | (with_reducible first | exact HB.out | apply ba_ | apply pw_below_drewN | apply bd_) | exact HB.out)))); have n2_ := am_ (bp_ (by repeat (first | (with_reducible first | exact HB.out | apply ba_ | apply pw_below_drewN | apply bd_) | exact HB.out)) hb); clear HO333; clear HB; have HO333 := n0_; have HO340 := n1_; have HB := n2_; clear n0_ n1_ n2_; (try clear hb); (try clear hb2); (try clear hk); (try clear hi); (try clear ho0); obtain ⟨Ao16, co16, eo16⟩ := Kd.R_slice HO340.out; subst eo16) | ((with_reducible refine gc_ (f := 8) rfl ?_); refine goesL_ (some 62) rfl rfl Try.func8 (by kernel_rfl) rfl #[.slice Ao16 t338.length co16] rfl (by (try simp only [List.map_toArray, List.map_cons, List.map_nil]); first | done | rfl | (simp only [List.length_drop, List.length_take]; rfl)) ?_; (with_reducible refine (spec_DrawTriggerLevel.calls k _ _ t338 t341 t342 t343 t344 t345 _ ?side1 ?side2 A8.out).mono ?_); (case side1 => repeat (first | exact (rr_ HO340.out).2.2 | (with_reducible refine ca_ ?_ _) | (with_reducible refine cn_ ?_ _) | (with_reducible refine cd_ ?_))); (case side2 => exact (rr_ HO340.out).2.1); rintro e w17 ⟨v346, rfl, ho0, hb⟩; refine ⟨_, rfl, ?_⟩; have n0_ := am_ (Kd.R_elder' (by (with_reducible repeat (first | apply ra_ | apply rn_ | apply rd_)); exact HO333.out) (Kd.R_base ho0) hb); have n1_ := am_ (rb_ (by (with_reducible repeat (first | apply ra_ | apply rn_ | apply rd_)); exact HO340.out) hb); have n2_ := am_ (Kd.R_lower (Kd.R_new' ho0 (Kd.R_lt (by (with_reducible repeat (first | apply ra_ | apply rn_ | apply rd_)); exact HO333.out))) (below_size (by repeat (first | (with_reducible first | exact HB.out | apply ba_ | apply pw_below_drewN | apply bd_) | exact HB.out)))); have n3_ := am_ (bp_ (by repeat (first | (with_reducible first | exact HB.out | apply ba_ | apply pw_below_drewN | apply bd_) | exact HB.out)) hb); clear HO333; clear HO340; clear HB; have HO333 := n0_; have HO340 := n1_; have HO347 := n2_; have HB := n3_; clear n0_ n1_ n2_ n3_; (try clear hb); (try clear hb2); (try clear hk); (try clear hi); (try clear ho0); obtain ⟨Ao18, co18, eo18⟩ := Kd.R_slice HO347.out; subst eo18) | ((with_reducible refine gc_ (f := 10) rfl ?_); refine goesL_ (some 74) rfl rfl Try.func10 (by kernel_rfl) rfl #[.slice Ao18 t341.length co18, .int .i64 t342, .int .i64 t343, .int .i64 t344, .int .i64 t345] rfl (by (try simp only [List.map_toArray, List.map_cons, List.map_nil]); first | done | rfl | (simp only [List.length_drop, List.length_take]; rfl)) ?_; (with_reducible refine (impl_TriggerLevel.calls k _ _ t341 t342 t343 t344 t345 t348 t349 _ ?side1 ?side2 A9.out).mono ?_); (case side1 => repeat (first | exact (rr_ HO347.out).2.2 | (with_reducible refine ca_ ?_ _) | (with_reducible refine cn_ ?_ _) | (with_reducible refine cd_ ?_))); (case side2 => exact (rr_ HO347.out).2.1); rintro e w19 ⟨rfl, hb⟩; refine ⟨_, rfl, ?_⟩; have n0_ := am_ (rb_ (by (with_reducible repeat (first | apply ra_ | apply rn_ | apply rd_)); exact HO333.out) hb); have n1_ := am_ (rb_ (by (with_reducible repeat (first | apply ra_ | apply rn_ | apply rd_)); exact HO340.out) hb); have n2_ := am_ (rb_ (by (with_reducible repeat (first | apply ra_ | apply rn_ | apply rd_)); exact HO347.out) hb); have n3_ := am_ (bp_ (by repeat (first | (with_reducible first | exact HB.out | apply ba_ | apply pw_below_drewN | apply bd_) | exact HB.out)) hb); clear HO333; clear HO340; clear HO347; clear HB; have HO333 := n0_; have HO340 := n1_; have HO347 := n2_; have HB := n3_; clear n0_ n1_ n2_ n3_; (try clear hb); (try clear hb2); (try clear hk); (try clear hi)) | ((with_reducible refine gc_ (f := 11) rfl ?_); refine goesL_ (some 83) rfl rfl Try.func11 (by kernel_rfl) rfl #[.slice Ao18 t341.length co18, .int .i64 t342, .int .i64 t343, .int .i64 t344, .int .i64 t345] rfl (by (try simp only [List.map_toArray, List.map_cons, List.map_nil]); first | done | rfl | (simp only [List.length_drop, List.length_take]; rfl)) ?_; (with_reducible refine (spec_TriggerLevel.calls k _ _ t341 t342 t343 t344 t345 t350 t351 _ ?side1 ?side2 A10.out).mono ?_); (case side1 => repeat (first | exact (rr_ HO347.out).2.2 | (with_reducible refine ca_ ?_ _) | (with_reducible refine cn_ ?_ _) | (with_reducible refine cd_ ?_))); (case side2 => exact (rr_ HO347.out).2.1); rintro e w' ⟨rfl, ⟨nd, rfl⟩⟩; refine ⟨_, rfl, ?_⟩))
  (try simp only [Act.put, List.setIfInBounds_toArray, List.set_cons_zero, List.set_cons_succ])
  go_cut [111] (fun v111 wc => ∃ (kq : Nat) (x111_10 : Bool), v111 = .bool x111_10 ∧ Aside0 (laws_FnTriggers.j0 kq t326 t327 t328 t329 t330 t331 t334 t335 t341 t342 t343 t344 t345 t348 t349 x111_10 = some r) ∧ Aside0 (kq ≤ k) ∧ Aside0 (Kd.R (Kd.int .i64) 3 wc w.heap.size (fun k_ => some k_ ≠ ((.slice Ao18 t341.length co18) : Value).ownBlock) (.slice Ao13 t326.length co13) t326) ∧ Aside0 (Kd.R (Kd.int .i64) 3 wc w.heap.size (fun k_ => some k_ ≠ ((.slice Ao13 t326.length co13) : Value).ownBlock) (.slice Ao18 t341.length co18) t341) ∧ Aside0 (Below w.heap.size w wc))
  case first =>
   have H := HC11.out
   clear HC11
   by_cases c20 : t334 = t336
   ·
    rw [if_pos c20] at H
    have c20b0 : (t334 == t336) = true := beq_iff_eq.mpr c20
    have c20b1 : (t334 != t336) = false := bne_eq_false_iff_eq.mpr c20
    clear c20
    (first | rw [c20b0] | (simp only [i64_w, i32_w]; rw [c20b0]) | skip)
    by_cases c21 : (t335 != t337) = true
    ·
     rw [if_pos c21] at H
     have c21b0 : (t335 != t337) = true := c21
     (try (have c21b1 : decide (t335 = t337) = false := by simpa using c21))
     (try (have c21b2 : (t335 == t337) = false := by simpa using c21))
     (try (have c21b3 : ¬ (t335 = t337) := by simpa using c21))
     clear c21
     have H' := am_ H
     clear H
     go_wp2
     go_meet
     case rel => exact ⟨_, (true), (by first | rfl | (simp; done) | (simp [*]; done)), H', ⟨by first | omega | exact Nat.le_refl _⟩, ⟨by (with_reducible repeat (first | apply ra_ | apply rn_ | apply rd_)); exact rm_ HO333.out (fun _ hk => hk.2)⟩, ⟨by (with_reducible repeat (first | apply ra_ | apply rn_ | apply rd_)); exact rm_ HO347.out (fun _ hk => hk.2)⟩, ⟨by repeat (first | (with_reducible first | exact HB.out | apply ba_ | apply pw_below_drewN | apply bd_) | exact HB.out)⟩⟩
    ·
     rw [if_neg c21] at H
     have c21b0 : (t335 != t337) = false := by simpa using c21
     (try (have c21b1 : decide (t335 = t337) = true := by simpa using c21))
     (try (have c21b2 : (t335 == t337) = true := by simpa using c21))
     clear c21
     by_cases c22 : t348 = t350
     ·
      rw [if_pos c22] at H
      have c22b0 : (t348 == t350) = true := beq_iff_eq.mpr c22
      have c22b1 : (t348 != t350) = false := bne_eq_false_iff_eq.mpr c22
      clear c22
      by_cases c23 : (t349 != t351) = true
      ·
       rw [if_pos c23] at H
       have c23b0 : (t349 != t351) = true := c23
       (try (have c23b1 : decide (t349 = t351) = false := by simpa using c23))
       (try (have c23b2 : (t349 == t351) = false := by simpa using c23))
       (try (have c23b3 : ¬ (t349 = t351) := by simpa using c23))
       clear c23
       have H' := am_ H
       clear H
       go_wp2
       go_meet
       case rel => exact ⟨_, (true), (by first | rfl | (simp; done) | (simp [*]; done)), H', ⟨by first | omega | exact Nat.le_refl _⟩, ⟨by (with_reducible repeat (first | apply ra_ | apply rn_ | apply rd_)); exact rm_ HO333.out (fun _ hk => hk.2)⟩, ⟨by (with_reducible repeat (first | apply ra_ | apply rn_ | apply rd_)); exact rm_ HO347.out (fun _ hk => hk.2)⟩, ⟨by repeat (first | (with_reducible first | exact HB.out | apply ba_ | apply pw_below_drewN | apply bd_) | exact HB.out)⟩⟩
      ·
       rw [if_neg c23] at H
       have c23b0 : (t349 != t351) = false := by simpa using c23
       (try (have c23b1 : decide (t349 = t351) = true := by simpa using c23))
       (try (have c23b2 : (t349 == t351) = true := by simpa using c23))
       clear c23
       by_cases c24 : t335 = true
       ·
        subst c24
        have H1 : (laws_FnTriggers.j0 k t326 t327 t328 t329 t330 t331 t334 true t341 t342 t343 t344 t345 t348 t349 (decide (t334 < t331))) = some r := by rw [if_pos rfl] at H; exact H
        clear H
        have H := H1
        clear H1
        have H' := am_ H
        clear H
        go_wp2
        go_meet
        case rel => exact ⟨_, (decide (t334 < t331)), (by first | rfl | (simp; done) | (simp [*]; done)), H', ⟨by first | omega | exact Nat.le_refl _⟩, ⟨by (with_reducible repeat (first | apply ra_ | apply rn_ | apply rd_)); exact rm_ HO333.out (fun _ hk => hk.2)⟩, ⟨by (with_reducible repeat (first | apply ra_ | apply rn_ | apply rd_)); exact rm_ HO347.out (fun _ hk => hk.2)⟩, ⟨by repeat (first | (with_reducible first | exact HB.out | apply ba_ | apply pw_below_drewN | apply bd_) | exact HB.out)⟩⟩
       ·
        replace c24 := Bool.eq_false_iff.mpr c24
        subst c24
        have H1 : (laws_FnTriggers.j0 k t326 t327 t328 t329 t330 t331 t334 false t341 t342 t343 t344 t345 t348 t349 false) = some r := by rw [if_neg (show ¬ (false = true) by decide)] at H; exact H
        clear H
        have H := H1
        clear H1
        have H' := am_ H
        clear H
        go_wp2
        go_meet
        case rel => exact ⟨_, (false), (by first | rfl | (simp; done) | (simp [*]; done)), H', ⟨by first | omega | exact Nat.le_refl _⟩, ⟨by (with_reducible repeat (first | apply ra_ | apply rn_ | apply rd_)); exact rm_ HO333.out (fun _ hk => hk.2)⟩, ⟨by (with_reducible repeat (first | apply ra_ | apply rn_ | apply rd_)); exact rm_ HO347.out (fun _ hk => hk.2)⟩, ⟨by repeat (first | (with_reducible first | exact HB.out | apply ba_ | apply pw_below_drewN | apply bd_) | exact HB.out)⟩⟩
     ·
      rw [if_neg c22] at H
      have c22b0 : (t348 == t350) = false := beq_eq_false_iff_ne.mpr c22
      have c22b1 : (t348 != t350) = true := bne_iff_ne.mpr c22
      have H' := am_ H
      clear H
      go_wp2
      go_meet
      case rel => exact ⟨_, (true), (by first | rfl | (simp; done) | (simp [*]; done)), H', ⟨by first | omega | exact Nat.le_refl _⟩, ⟨by (with_reducible repeat (first | apply ra_ | apply rn_ | apply rd_)); exact rm_ HO333.out (fun _ hk => hk.2)⟩, ⟨by (with_reducible repeat (first | apply ra_ | apply rn_ | apply rd_)); exact rm_ HO347.out (fun _ hk => hk.2)⟩, ⟨by repeat (first | (with_reducible first | exact HB.out | apply ba_ | apply pw_below_drewN | apply bd_) | exact HB.out)⟩⟩
   ·
    rw [if_neg c20] at H
    have c20b0 : (t334 == t336) = false := beq_eq_false_iff_ne.mpr c20
    have c20b1 : (t334 != t336) = true := bne_iff_ne.mpr c20
    (first | rw [c20b0] | (simp only [i64_w, i32_w]; rw [c20b0]) | skip)
    have H' := am_ H
    clear H
    go_wp2
    go_meet
    case rel => exact ⟨_, (true), (by first | rfl | (simp; done) | (simp [*]; done)), H', ⟨by first | omega | exact Nat.le_refl _⟩, ⟨by (with_reducible repeat (first | apply ra_ | apply rn_ | apply rd_)); exact rm_ HO333.out (fun _ hk => hk.2)⟩, ⟨by (with_reducible repeat (first | apply ra_ | apply rn_ | apply rd_)); exact rm_ HO347.out (fun _ hk => hk.2)⟩, ⟨by repeat (first | (with_reducible first | exact HB.out | apply ba_ | apply pw_below_drewN | apply bd_) | exact HB.out)⟩⟩
  case rest =>
   clear HC11
   try clear c1
   try clear c2
   try clear p2
   try clear c3
   try clear c4
   try clear c5
   try clear c6
   try clear c7
   try clear c8
   try clear c9
   try clear c10
   try clear c11
   try clear c20
   try clear c20b0
   try clear c20b1
   try clear c21
   try clear c21b0
   try clear c21b1
   try clear c21b2
   try clear c22
   try clear c22b0
   try clear c22b1
   try clear c23
   try clear c23b0
   try clear c23b1
   try clear c23b2
   try clear c24
   obtain ⟨kq, x111_10, rfl, HA, HJ10, HO_3, HO_13, HB⟩ := hcut
   cases kq with
   | zero => exact absurd HA.out (by simp [laws_FnTriggers.j0])
   | succ kj10 =>
    have H := HA.out
    clear HA
    simp only [laws_FnTriggers.j0] at H
    by_cases c25 : x111_10 = true
    ·
     subst c25
     have H1 : (some false) = some r := by rw [if_pos rfl] at H; exact H
     clear H
     have H := H1
     clear H1
     obtain rfl := Option.some.inj H
     go_wp2
     go_ret
     exact ⟨by first | rfl | (simp [errW_none, errW_some] <;> rfl) | (simp [*, errW_none, errW_some] <;> rfl), by repeat (first | (with_reducible first | exact HB.out | apply ba_ | apply pw_below_drewN | apply bd_) | exact HB.out)⟩
    ·
     replace c25 := Bool.eq_false_iff.mpr c25
     subst c25
     have H1 : (if t335 = true then (if t330 = 0 then (laws_FnTriggers.j1 kj10 t326 t327 t328 t331 t334 t341 t342 t343 t344 t345 t348 t349 (t329 == 0)) else (laws_FnTriggers.j1 kj10 t326 t327 t328 t331 t334 t341 t342 t343 t344 t345 t348 t349 false)) else (laws_FnTriggers.j1 kj10 t326 t327 t328 t331 t334 t341 t342 t343 t344 t345 t348 t349 false)) = some r := by rw [if_neg (show ¬ (false = true) by decide)] at H; exact H
     clear H
     have H := H1
     clear H1
     have HC26 := am_ H
     clear H
     go_upto_region 11 with (fail)
     go_cut [120] (fun v120 wc => ∃ (kq : Nat) (x120_25 : Bool), v120 = .bool x120_25 ∧ Aside0 (laws_FnTriggers.j1 kq t326 t327 t328 t331 t334 t341 t342 t343 t344 t345 t348 t349 x120_25 = some r) ∧ Aside0 (kq ≤ kj10) ∧ Aside0 (Kd.R (Kd.int .i64) 3 wc w.heap.size (fun k_ => some k_ ≠ ((.slice Ao18 t341.length co18) : Value).ownBlock) (.slice Ao13 t326.length co13) t326) ∧ Aside0 (Kd.R (Kd.int .i64) 3 wc w.heap.size (fun k_ => some k_ ≠ ((.slice Ao13 t326.length co13) : Value).ownBlock) (.slice Ao18 t341.length co18) t341) ∧ Aside0 (Below w.heap.size w wc))
     case first =>
      have H := HC26.out
      clear HC26
      by_cases c27 : t335 = true
      ·
       subst c27
       have H1 : (if t330 = 0 then (laws_FnTriggers.j1 kj10 t326 t327 t328 t331 t334 t341 t342 t343 t344 t345 t348 t349 (t329 == 0)) else (laws_FnTriggers.j1 kj10 t326 t327 t328 t331 t334 t341 t342 t343 t344 t345 t348 t349 false)) = some r := by rw [if_pos rfl] at H; exact H
       clear H
       have H := H1
       clear H1
       by_cases c28 : t330 = 0
       ·
        rw [if_pos c28] at H
        have c28b0 : (t330 == 0) = true := beq_iff_eq.mpr c28
        have c28b1 : (t330 != 0) = false := bne_eq_false_iff_eq.mpr c28
        clear c28
        (first | rw [c28b0] | (simp only [i64_w, i32_w]; rw [c28b0]) | skip)
        have H' := am_ H
        clear H
        go_wp2
        go_meet
        case rel => exact ⟨_, ((t329 == 0)), (by first | rfl | (simp; done) | (simp [*]; done)), H', ⟨by have := HJ10.out; first | omega | exact Nat.le_refl _⟩, ⟨by (with_reducible repeat (first | apply ra_ | apply rn_ | apply rd_)); exact HO_3.out⟩, ⟨by (with_reducible repeat (first | apply ra_ | apply rn_ | apply rd_)); exact HO_13.out⟩, ⟨by repeat (first | (with_reducible first | exact HB.out | apply ba_ | apply pw_below_drewN | apply bd_) | exact HB.out)⟩⟩
       ·
        rw [if_neg c28] at H
        have c28b0 : (t330 == 0) = false := beq_eq_false_iff_ne.mpr c28
        have c28b1 : (t330 != 0) = true := bne_iff_ne.mpr c28
        (first | rw [c28b0] | (simp only [i64_w, i32_w]; rw [c28b0]) | skip)
        have H' := am_ H
        clear H
        go_wp2
        go_meet
        case rel => exact ⟨_, (false), (by first | rfl | (simp; done) | (simp [*]; done)), H', ⟨by have := HJ10.out; first | omega | exact Nat.le_refl _⟩, ⟨by (with_reducible repeat (first | apply ra_ | apply rn_ | apply rd_)); exact HO_3.out⟩, ⟨by (with_reducible repeat (first | apply ra_ | apply rn_ | apply rd_)); exact HO_13.out⟩, ⟨by repeat (first | (with_reducible first | exact HB.out | apply ba_ | apply pw_below_drewN | apply bd_) | exact HB.out)⟩⟩
      ·
       replace c27 := Bool.eq_false_iff.mpr c27
       subst c27
       have H1 : (laws_FnTriggers.j1 kj10 t326 t327 t328 t331 t334 t341 t342 t343 t344 t345 t348 t349 false) = some r := by rw [if_neg (show ¬ (false = true) by decide)] at H; exact H
       clear H
       have H := H1
       clear H1
       have H' := am_ H
       clear H
       go_wp2
       go_meet
       case rel => exact ⟨_, (false), (by first | rfl | (simp; done) | (simp [*]; done)), H', ⟨by have := HJ10.out; first | omega | exact Nat.le_refl _⟩, ⟨by (with_reducible repeat (first | apply ra_ | apply rn_ | apply rd_)); exact HO_3.out⟩, ⟨by (with_reducible repeat (first | apply ra_ | apply rn_ | apply rd_)); exact HO_13.out⟩, ⟨by repeat (first | (with_reducible first | exact HB.out | apply ba_ | apply pw_below_drewN | apply bd_) | exact HB.out)⟩⟩
     case rest =>
      clear HC26
      try clear c1
      try clear c2
      try clear p2
      try clear c3
      try clear c4
      try clear c5
      try clear c6
      try clear c7
      try clear c8
      try clear c9
      try clear c10
      try clear c11
      try clear c20
      try clear c20b0
      try clear c20b1
      try clear c21
      try clear c21b0
      try clear c21b1
      try clear c21b2
      try clear c22
      try clear c22b0
      try clear c22b1
      try clear c23
      try clear c23b0
      try clear c23b1
      try clear c23b2
      try clear c24
      try clear c25
      try clear c27
      try clear c28
      try clear c28b0
      try clear c28b1
      try clear p2
      obtain ⟨kq, x120_25, rfl, HA, HJ25, HO_3, HO_13, HB⟩ := hcut
      cases kq with
      | zero => exact absurd HA.out (by simp [laws_FnTriggers.j1])
      | succ kj25 =>
       have H := HA.out
       clear HA
       simp only [laws_FnTriggers.j1] at H
       have HC29 := am_ H
       clear H
       go_upto_if 120 with (fail)
       go_cut [] (fun wc => ∃ (kq : Nat), Aside0 (laws_FnTriggers.j2 kq t341 t342 t343 t344 t345 t348 t349 = some r) ∧ Aside0 (kq ≤ kj25) ∧ Aside0 (Kd.R (Kd.int .i64) 3 wc w.heap.size (fun _ => True) (.slice Ao18 t341.length co18) t341) ∧ Aside0 (Below w.heap.size w wc))
       case first =>
        have H := HC29.out
        clear HC29
        by_cases c30 : x120_25 = true
        ·
         subst c30
         have H1 : ((impl_CriticalOrder.f kj25 t326 t327 t328).bind fun bt352 => (if t331 ≤ bt352.1 then (if t334 = bt352.1 then (laws_FnTriggers.j2 kj25 t341 t342 t343 t344 t345 t348 t349) else (some false)) else (laws_FnTriggers.j2 kj25 t341 t342 t343 t344 t345 t348 t349))) = some r := by rw [if_pos rfl] at H; exact H
         clear H
         have H := H1
         clear H1
         replace H := Option.bind_eq_some_iff.mp H
         obtain ⟨⟨t352, t353⟩, A310, H⟩ := H
         replace H : (if t331 ≤ t352 then (if t334 = t352 then (laws_FnTriggers.j2 kj25 t341 t342 t343 t344 t345 t348 t349) else (some false)) else (laws_FnTriggers.j2 kj25 t341 t342 t343 t344 t345 t348 t349)) = some r := H
         have A31 := am_ A310
         clear A310
         by_cases c32 : t331 ≤ t352
         ·
          rw [if_pos c32] at H
          have c32b0 : decide (t331 ≤ t352) = true := decide_eq_true c32
          clear c32
          (first | rw [c32b0] | (simp only [i64_w, i32_w]; rw [c32b0]) | skip)
          by_cases c33 : t334 = t352
          ·
           rw [if_pos c33] at H
           have c33b0 : (t334 == t352) = true := beq_iff_eq.mpr c33
           have c33b1 : (t334 != t352) = false := bne_eq_false_iff_eq.mpr c33
           clear c33
           have H' := am_ H
           clear H
           go_wp2_with (first | ((with_reducible refine gc_ (f := 12) rfl ?_); refine goesL_ (some 125) rfl rfl Try.func12 (by kernel_rfl) rfl #[.slice Ao13 t326.length co13, .int .i64 t327, .int .i64 t328] rfl (by (try simp only [List.map_toArray, List.map_cons, List.map_nil]); first | done | rfl | (simp only [List.length_drop, List.length_take]; rfl)) ?_; (with_reducible refine (impl_CriticalOrder.calls kj25 _ _ t326 t327 t328 t352 t353 _ ?side1 ?side2 A31.out).mono ?_); (case side1 => repeat (first | exact (rr_ HO_3.out).2.2 | (with_reducible refine ca_ ?_ _) | (with_reducible refine cn_ ?_ _) | (with_reducible refine cd_ ?_))); (case side2 => exact (rr_ HO_3.out).2.1); rintro e w34 ⟨rfl, hb⟩; refine ⟨_, rfl, ?_⟩; have n0_ := am_ (rb_ (by (with_reducible repeat (first | apply ra_ | apply rn_ | apply rd_)); exact HO_3.out) hb); have n1_ := am_ (rb_ (by (with_reducible repeat (first | apply ra_ | apply rn_ | apply rd_)); exact HO_13.out) hb); have n2_ := am_ (bp_ (by repeat (first | (with_reducible first | exact HB.out | apply ba_ | apply pw_below_drewN | apply bd_) | exact HB.out)) hb); clear HO_3; clear HO_13; clear HB; have HO_3 := n0_; have HO_13 := n1_; have HB := n2_; clear n0_ n1_ n2_; (try clear hb); (try clear hb2); (try clear hk); (try clear hi)))
           go_meet
           case rel => exact ⟨_, H', ⟨by have := HJ10.out; have := HJ25.out; first | omega | exact Nat.le_refl _⟩, ⟨by (with_reducible repeat (first | apply ra_ | apply rn_ | apply rd_)); exact rm_ HO_13.out (fun _ hk => trivial)⟩, ⟨by repeat (first | (with_reducible first | exact HB.out | apply ba_ | apply pw_below_drewN | apply bd_) | exact HB.out)⟩⟩
          ·
           rw [if_neg c33] at H
           have c33b0 : (t334 == t352) = false := beq_eq_false_iff_ne.mpr c33
           have c33b1 : (t334 != t352) = true := bne_iff_ne.mpr c33
           obtain rfl := Option.some.inj H
           go_wp2_with (first | ((with_reducible refine gc_ (f := 12) rfl ?_); refine goesL_ (some 125) rfl rfl Try.func12 (by kernel_rfl) rfl #[.slice Ao13 t326.length co13, .int .i64 t327, .int .i64 t328] rfl (by (try simp only [List.map_toArray, List.map_cons, List.map_nil]); first | done | rfl | (simp only [List.length_drop, List.length_take]; rfl)) ?_; (with_reducible refine (impl_CriticalOrder.calls kj25 _ _ t326 t327 t328 t352 t353 _ ?side1 ?side2 A31.out).mono ?_); (case side1 => repeat (first | exact (rr_ HO_3.out).2.2 | (with_reducible refine ca_ ?_ _) | (with_reducible refine cn_ ?_ _) | (with_reducible refine cd_ ?_))); (case side2 => exact (rr_ HO_3.out).2.1); rintro e w35 ⟨rfl, hb⟩; refine ⟨_, rfl, ?_⟩; have n0_ := am_ (rb_ (by (with_reducible repeat (first | apply ra_ | apply rn_ | apply rd_)); exact HO_3.out) hb); have n1_ := am_ (rb_ (by (with_reducible repeat (first | apply ra_ | apply rn_ | apply rd_)); exact HO_13.out) hb); have n2_ := am_ (bp_ (by repeat (first | (with_reducible first | exact HB.out | apply ba_ | apply pw_below_drewN | apply bd_) | exact HB.out)) hb); clear HO_3; clear HO_13; clear HB; have HO_3 := n0_; have HO_13 := n1_; have HB := n2_; clear n0_ n1_ n2_; (try clear hb); (try clear hb2); (try clear hk); (try clear hi)))
           go_ret
           exact ⟨by first | rfl | (simp [errW_none, errW_some] <;> rfl) | (simp [*, errW_none, errW_some] <;> rfl), by repeat (first | (with_reducible first | exact HB.out | apply ba_ | apply pw_below_drewN | apply bd_) | exact HB.out)⟩
         ·
          rw [if_neg c32] at H
          have c32b0 : decide (t331 ≤ t352) = false := decide_eq_false c32
          clear c32
          (first | rw [c32b0] | (simp only [i64_w, i32_w]; rw [c32b0]) | skip)
          have H' := am_ H
          clear H
          go_wp2_with (first | ((with_reducible refine gc_ (f := 12) rfl ?_); refine goesL_ (some 125) rfl rfl Try.func12 (by kernel_rfl) rfl #[.slice Ao13 t326.length co13, .int .i64 t327, .int .i64 t328] rfl (by (try simp only [List.map_toArray, List.map_cons, List.map_nil]); first | done | rfl | (simp only [List.length_drop, List.length_take]; rfl)) ?_; (with_reducible refine (impl_CriticalOrder.calls kj25 _ _ t326 t327 t328 t352 t353 _ ?side1 ?side2 A31.out).mono ?_); (case side1 => repeat (first | exact (rr_ HO_3.out).2.2 | (with_reducible refine ca_ ?_ _) | (with_reducible refine cn_ ?_ _) | (with_reducible refine cd_ ?_))); (case side2 => exact (rr_ HO_3.out).2.1); rintro e w36 ⟨rfl, hb⟩; refine ⟨_, rfl, ?_⟩; have n0_ := am_ (rb_ (by (with_reducible repeat (first | apply ra_ | apply rn_ | apply rd_)); exact HO_3.out) hb); have n1_ := am_ (rb_ (by (with_reducible repeat (first | apply ra_ | apply rn_ | apply rd_)); exact HO_13.out) hb); have n2_ := am_ (bp_ (by repeat (first | (with_reducible first | exact HB.out | apply ba_ | apply pw_below_drewN | apply bd_) | exact HB.out)) hb); clear HO_3; clear HO_13; clear HB; have HO_3 := n0_; have HO_13 := n1_; have HB := n2_; clear n0_ n1_ n2_; (try clear hb); (try clear hb2); (try clear hk); (try clear hi)))
          go_meet
          case rel => exact ⟨_, H', ⟨by have := HJ10.out; have := HJ25.out; first | omega | exact Nat.le_refl _⟩, ⟨by (with_reducible repeat (first | apply ra_ | apply rn_ | apply rd_)); exact rm_ HO_13.out (fun _ hk => trivial)⟩, ⟨by repeat (first | (with_reducible first | exact HB.out | apply ba_ | apply pw_below_drewN | apply bd_) | exact HB.out)⟩⟩
        ·
         replace c30 := Bool.eq_false_iff.mpr c30
         subst c30
         have H1 : (laws_FnTriggers.j2 kj25 t341 t342 t343 t344 t345 t348 t349) = some r := by rw [if_neg (show ¬ (false = true) by decide)] at H; exact H
         clear H
         have H := H1
         clear H1
         have H' := am_ H
         clear H
         go_wp2
         go_meet
         case rel => exact ⟨_, H', ⟨by have := HJ10.out; have := HJ25.out; first | omega | exact Nat.le_refl _⟩, ⟨by (with_reducible repeat (first | apply ra_ | apply rn_ | apply rd_)); exact rm_ HO_13.out (fun _ hk => trivial)⟩, ⟨by repeat (first | (with_reducible first | exact HB.out | apply ba_ | apply pw_below_drewN | apply bd_) | exact HB.out)⟩⟩
       case rest =>
        clear HC29
        try clear c1
        try clear c2
        try clear p2
        try clear c3
        try clear c4
        try clear c5
        try clear c6
        try clear c7
        try clear c8
        try clear c9
        try clear c10
        try clear c11
        try clear c12
        try clear c20
        try clear c20b0
        try clear c20b1
        try clear c21
        try clear c21b0
        try clear c21b1
        try clear c21b2
        try clear c22
        try clear c22b0
        try clear c22b1
        try clear c23
        try clear c23b0
        try clear c23b1
        try clear c23b2
        try clear c24
        try clear c25
        try clear c27
        try clear c28
        try clear c28b0
        try clear c28b1
        try clear c30
        try clear c32
        try clear c32b0
        try clear c33
        try clear c33b0
        try clear c33b1
        try clear p2
        obtain ⟨kq, HA, HJ28, HO_13, HB⟩ := hcut
        cases kq with
        | zero => exact absurd HA.out (by simp [laws_FnTriggers.j2])
        | succ kj28 =>
         have H := HA.out
         clear HA
         simp only [laws_FnTriggers.j2] at H
         by_cases c37 : t349 = true
         ·
          subst c37
          have H1 : (laws_FnTriggers.l0 kj28 t341 t342 t343 t344 t345 t348 (-1) 0) = some r := by rw [if_pos rfl] at H; exact H
          clear H
          have H := H1
          clear H1
          have H' := am_ H
          clear H
          go_wp2
          go_loopg [24, 25] kj28 (fun kq v24 v25 w' => ∃ (x24_4 : Int) (x25_4 : Int), v24 = .int .i64 x24_4 ∧ v25 = .int .i64 x25_4 ∧ Aside0 (laws_FnTriggers.l0 kq t341 t342 t343 t344 t345 t348 x24_4 x25_4 = some r) ∧ Aside0 (kq ≤ kj28) ∧ Aside0 (Kd.R (Kd.int .i64) 3 w' w.heap.size (fun _ => True) (.slice Ao18 t341.length co18) t341) ∧ Aside0 (Below w.heap.size w w'))
          case atStart => exact ⟨((-1)), (0), (by first | rfl | (simp; done) | (simp [*]; done)), (by first | rfl | (simp; done) | (simp [*]; done)), H', ⟨Nat.le_refl _⟩, ⟨by (with_reducible repeat (first | apply ra_ | apply rn_ | apply rd_)); exact HO_13.out⟩, ⟨by repeat (first | (with_reducible first | exact HB.out | apply ba_ | apply pw_below_drewN | apply bd_) | exact HB.out)⟩⟩
          case round =>
           clear H'
           try clear c1
           try clear c2
           try clear p2
           try clear c3
           try clear c4
           try clear c5
           try clear c6
           try clear c7
           try clear c8
           try clear c9
           try clear c10
           try clear c11
           try clear c12
           try clear c20
           try clear c20b0
           try clear c20b1
           try clear c21
           try clear c21b0
           try clear c21b1
           try clear c21b2
           try clear c22
           try clear c22b0
           try clear c22b1
           try clear c23
           try clear c23b0
           try clear c23b1
           try clear c23b2
           try clear c24
           try clear c25
           try clear c27
           try clear c28
           try clear c28b0
           try clear c28b1
           try clear c30
           try clear c32
           try clear c32b0
           try clear c33
           try clear c33b0
           try clear c33b1
           try clear c37
           try clear p2
           obtain ⟨x24_4, x25_4, rfl, rfl, HA, HK4, HO_13, HB⟩ := hrel
           cases gk with
           | zero => exact absurd HA.out (by simp [laws_FnTriggers.l0])
           | succ k4 =>
            have H := HA.out
            clear HA
            simp only [laws_FnTriggers.l0] at H
            by_cases c38 : x25_4 ≤ 15
            ·
             rw [if_pos c38] at H
             have c38b0 : decide (x25_4 ≤ 15) = true := decide_eq_true c38
             clear c38
             replace H := Option.bind_eq_some_iff.mp H
             obtain ⟨⟨t354, t355⟩, A390, H⟩ := H
             replace H : (if t355 = true then (laws_FnTriggers.j4 k4 t341 t342 t343 t344 t345 t348 x24_4 x25_4 t354 ((decide (t354 > x25_4)) != (decide (x25_4 ≤ t348)))) else (laws_FnTriggers.j4 k4 t341 t342 t343 t344 t345 t348 x24_4 x25_4 t354 true)) = some r := H
             have A39 := am_ A390
             clear A390
             have HC40 := am_ H
             clear H
             go_upto_region 22 with (first | ((with_reducible refine gc_ (f := 6) rfl ?_); refine goesL_ (some 149) rfl rfl Try.func6 (by kernel_rfl) rfl #[.slice Ao18 t341.length co18, .int .i64 t342, .int .i64 t343, .int .i64 t344, .int .i64 t345, .int .i64 x25_4] rfl (by (try simp only [List.map_toArray, List.map_cons, List.map_nil]); first | done | rfl | (simp only [List.length_drop, List.length_take]; rfl)) ?_; (with_reducible refine (impl_OrderUpTo.calls k4 _ _ t341 t342 t343 t344 t345 x25_4 t354 t355 _ ?side1 ?side2 A39.out).mono ?_); (case side1 => repeat (first | exact (rr_ HO_13.out).2.2 | (with_reducible refine ca_ ?_ _) | (with_reducible refine cn_ ?_ _) | (with_reducible refine cd_ ?_))); (case side2 => exact (rr_ HO_13.out).2.1); rintro e w41 ⟨rfl, hb⟩; refine ⟨_, rfl, ?_⟩; have n0_ := am_ (rb_ (by (with_reducible repeat (first | apply ra_ | apply rn_ | apply rd_)); exact HO_13.out) hb); have n1_ := am_ (bp_ (by repeat (first | (with_reducible first | exact HB.out | apply ba_ | apply pw_below_drewN | apply bd_) | exact HB.out)) hb); clear HO_13; clear HB; have HO_13 := n0_; have HB := n1_; clear n0_ n1_; (try clear hb); (try clear hb2); (try clear hk); (try clear hi)))
             (try simp only [Act.put, List.setIfInBounds_toArray, List.set_cons_zero, List.set_cons_succ])
             go_cut [162] (fun v162 wc => ∃ (kq : Nat) (x162_39 : Bool), v162 = .bool x162_39 ∧ Aside0 (laws_FnTriggers.j4 kq t341 t342 t343 t344 t345 t348 x24_4 x25_4 t354 x162_39 = some r) ∧ Aside0 (kq ≤ k4) ∧ Aside0 (Kd.R (Kd.int .i64) 3 wc w.heap.size (fun _ => True) (.slice Ao18 t341.length co18) t341) ∧ Aside0 (Below w.heap.size w wc))
             case first =>
              have H := HC40.out
              clear HC40
              by_cases c42 : t355 = true
              ·
               subst c42
               have H1 : (laws_FnTriggers.j4 k4 t341 t342 t343 t344 t345 t348 x24_4 x25_4 t354 ((decide (t354 > x25_4)) != (decide (x25_4 ≤ t348)))) = some r := by rw [if_pos rfl] at H; exact H
               clear H
               have H := H1
               clear H1
               have H' := am_ H
               clear H
               go_wp2
               go_meet
               case rel => exact ⟨_, (((decide (t354 > x25_4)) != (decide (x25_4 ≤ t348)))), (by first | rfl | (simp; done) | (simp [*]; done)), H', ⟨by have := HJ10.out; have := HJ25.out; have := HJ28.out; have := HK4.out; first | omega | exact Nat.le_refl _⟩, ⟨by (with_reducible repeat (first | apply ra_ | apply rn_ | apply rd_)); exact HO_13.out⟩, ⟨by repeat (first | (with_reducible first | exact HB.out | apply ba_ | apply pw_below_drewN | apply bd_) | exact HB.out)⟩⟩
              ·
               replace c42 := Bool.eq_false_iff.mpr c42
               subst c42
               have H1 : (laws_FnTriggers.j4 k4 t341 t342 t343 t344 t345 t348 x24_4 x25_4 t354 true) = some r := by rw [if_neg (show ¬ (false = true) by decide)] at H; exact H
               clear H
               have H := H1
               clear H1
               have H' := am_ H
               clear H
               go_wp2
               go_meet
               case rel => exact ⟨_, (true), (by first | rfl | (simp; done) | (simp [*]; done)), H', ⟨by have := HJ10.out; have := HJ25.out; have := HJ28.out; have := HK4.out; first | omega | exact Nat.le_refl _⟩, ⟨by (with_reducible repeat (first | apply ra_ | apply rn_ | apply rd_)); exact HO_13.out⟩, ⟨by repeat (first | (with_reducible first | exact HB.out | apply ba_ | apply pw_below_drewN | apply bd_) | exact HB.out)⟩⟩
             case rest =>
              clear HC40
              try clear c1
              try clear c2
              try clear p2
              try clear c3
              try clear c4
              try clear c5
              try clear c6
              try clear c7
              try clear c8
              try clear c9
              try clear c10
              try clear c11
              try clear c12
              try clear c20
              try clear c20b0
              try clear c20b1
              try clear c21
              try clear c21b0
              try clear c21b1
              try clear c21b2
              try clear c22
              try clear c22b0
              try clear c22b1
              try clear c23
              try clear c23b0
              try clear c23b1
              try clear c23b2
              try clear c24
              try clear c25
              try clear c27
              try clear c28
              try clear c28b0
              try clear c28b1
              try clear c30
              try clear c32
              try clear c32b0
              try clear c33
              try clear c33b0
              try clear c33b1
              try clear c37
              try clear c38
              try clear c38b0
              try clear c42
              try clear p2
              obtain ⟨kq, x162_39, rfl, HA, HJ39, HO_13, HB⟩ := hcut
              cases kq with
              | zero => exact absurd HA.out (by simp [laws_FnTriggers.j4])
              | succ kj39 =>
               have H := HA.out
               clear HA
               simp only [laws_FnTriggers.j4] at H
               by_cases c43 : x162_39 = true
               ·
                subst c43
                have H1 : (some false) = some r := by rw [if_pos rfl] at H; exact H
                clear H
                have H := H1
                clear H1
                obtain rfl := Option.some.inj H
                go_wp2
                go_ret
                exact ⟨by first | rfl | (simp [errW_none, errW_some] <;> rfl) | (simp [*, errW_none, errW_some] <;> rfl), by repeat (first | (with_reducible first | exact HB.out | apply ba_ | apply pw_below_drewN | apply bd_) | exact HB.out)⟩
               ·
                replace c43 := Bool.eq_false_iff.mpr c43
                subst c43
                have H1 : (if t354 > x25_4 then (if x24_4 ≥ 0 then (if t354 = x24_4 then (laws_FnTriggers.l0 kj39 t341 t342 t343 t344 t345 t348 t354 (wrap64 (x25_4 + 1))) else (some false)) else (laws_FnTriggers.l0 kj39 t341 t342 t343 t344 t345 t348 t354 (wrap64 (x25_4 + 1)))) else (laws_FnTriggers.l0 kj39 t341 t342 t343 t344 t345 t348 x24_4 (wrap64 (x25_4 + 1)))) = some r := by rw [if_neg (show ¬ (false = true) by decide)] at H; exact H
                clear H
                have H := H1
                clear H1
                by_cases c44 : t354 > x25_4
                ·
                 rw [if_pos c44] at H
                 have c44b0 : decide (x25_4 < t354) = true := decide_eq_true c44
                 clear c44
                 by_cases c45 : x24_4 ≥ 0
                 ·
                  rw [if_pos c45] at H
                  have c45b0 : decide (0 ≤ x24_4) = true := decide_eq_true c45
                  clear c45
                  by_cases c46 : t354 = x24_4
                  ·
                   rw [if_pos c46] at H
                   have c46b0 : (t354 == x24_4) = true := beq_iff_eq.mpr c46
                   have c46b1 : (t354 != x24_4) = false := bne_eq_false_iff_eq.mpr c46
                   clear c46
                   have H' := am_ H
                   clear H
                   go_wp2
                   go_roundg kj39
                   case measure => have := HJ10.out; have := HJ25.out; have := HJ28.out; have := HK4.out; have := HJ39.out; omega
                   case rel => exact ⟨(t354), (wrap64 (x25_4 + 1)), (by first | rfl | (simp; done) | (simp [*]; done)), (by first | rfl | (simp; done) | (simp [*]; done)), H', ⟨by have := HJ10.out; have := HJ25.out; have := HJ28.out; have := HK4.out; have := HJ39.out; omega⟩, ⟨by (with_reducible repeat (first | apply ra_ | apply rn_ | apply rd_)); exact HO_13.out⟩, ⟨by repeat (first | (with_reducible first | exact HB.out | apply ba_ | apply pw_below_drewN | apply bd_) | exact HB.out)⟩⟩
                  ·
                   rw [if_neg c46] at H
                   have c46b0 : (t354 == x24_4) = false := beq_eq_false_iff_ne.mpr c46
                   have c46b1 : (t354 != x24_4) = true := bne_iff_ne.mpr c46
                   obtain rfl := Option.some.inj H
                   go_wp2
                   go_ret
                   exact ⟨by first | rfl | (simp [errW_none, errW_some] <;> rfl) | (simp [*, errW_none, errW_some] <;> rfl), by repeat (first | (with_reducible first | exact HB.out | apply ba_ | apply pw_below_drewN | apply bd_) | exact HB.out)⟩
                 ·
                  rw [if_neg c45] at H
                  have c45b0 : decide (0 ≤ x24_4) = false := decide_eq_false c45
                  clear c45
                  have H' := am_ H
                  clear H
                  go_wp2
                  go_roundg kj39
                  case measure => have := HJ10.out; have := HJ25.out; have := HJ28.out; have := HK4.out; have := HJ39.out; omega
                  case rel => exact ⟨(t354), (wrap64 (x25_4 + 1)), (by first | rfl | (simp; done) | (simp [*]; done)), (by first | rfl | (simp; done) | (simp [*]; done)), H', ⟨by have := HJ10.out; have := HJ25.out; have := HJ28.out; have := HK4.out; have := HJ39.out; omega⟩, ⟨by (with_reducible repeat (first | apply ra_ | apply rn_ | apply rd_)); exact HO_13.out⟩, ⟨by repeat (first | (with_reducible first | exact HB.out | apply ba_ | apply pw_below_drewN | apply bd_) | exact HB.out)⟩⟩
                ·
                 rw [if_neg c44] at H
                 have c44b0 : decide (x25_4 < t354) = false := decide_eq_false c44
                 clear c44
                 have H' := am_ H
                 clear H
                 go_wp2
                 go_roundg kj39
                 case measure => have := HJ10.out; have := HJ25.out; have := HJ28.out; have := HK4.out; have := HJ39.out; omega
                 case rel => exact ⟨(x24_4), (wrap64 (x25_4 + 1)), (by first | rfl | (simp; done) | (simp [*]; done)), (by first | rfl | (simp; done) | (simp [*]; done)), H', ⟨by have := HJ10.out; have := HJ25.out; have := HJ28.out; have := HK4.out; have := HJ39.out; omega⟩, ⟨by (with_reducible repeat (first | apply ra_ | apply rn_ | apply rd_)); exact HO_13.out⟩, ⟨by repeat (first | (with_reducible first | exact HB.out | apply ba_ | apply pw_below_drewN | apply bd_) | exact HB.out)⟩⟩
            ·
             rw [if_neg c38] at H
             have c38b0 : decide (x25_4 ≤ 15) = false := decide_eq_false c38
             clear c38
             obtain rfl := Option.some.inj H
             go_wp2
             go_ret
             exact ⟨by first | rfl | (simp [errW_none, errW_some] <;> rfl) | (simp [*, errW_none, errW_some] <;> rfl), by repeat (first | (with_reducible first | exact HB.out | apply ba_ | apply pw_below_drewN | apply bd_) | exact HB.out)⟩
         ·
          replace c37 := Bool.eq_false_iff.mpr c37
          subst c37
          have H1 : (some true) = some r := by rw [if_neg (show ¬ (false = true) by decide)] at H; exact H
          clear H
          have H := H1
          clear H1
          obtain rfl := Option.some.inj H
          go_wp2
          go_ret
          exact ⟨by first | rfl | (simp [errW_none, errW_some] <;> rfl) | (simp [*, errW_none, errW_some] <;> rfl), by repeat (first | (with_reducible first | exact HB.out | apply ba_ | apply pw_below_drewN | apply bd_) | exact HB.out)⟩

/-- THE ONE PURE STATEMENT of laws_FnTriggers: yours. -/
def laws_FnTriggers.Pure : Prop := ∀ (l0 : List Int), l0.length ≤ maxLen → l0.length * 1 ≤ 140737488351232 → (∀ x ∈ l0, (Lit.int .u8 x).wf = true) → ∃ k, laws_FnTriggers.f k l0 = some true
theorem laws_FnTriggers.walk (P : laws_FnTriggers.Pure) (a0 : Option Addr) (len0 cap0 : Nat) (z0 : List Int) (w : World) (w0 : (a0 = none ∧ len0 = 0 ∧ cap0 = 0 ∧ z0 = []) ∨ ∃ x, a0 = some x ∧ len0 ≤ cap0 ∧ cap0 ≤ maxLen ∧ z0.length = cap0 ∧ (∀ i, i < z0.length → w.cell? (x.add i) = some (.int .u8 (z0.getD i 0))) ∧ ∀ n ∈ z0, (Lit.int .u8 n).wf = true) (y0 : len0 * 1 ≤ 140737488351232) :
  Calls Try.prog 3 #[.slice a0 len0 cap0] w fun e w' => e = .returned (.bool true) ∧ Below w.heap.size w w' := by
 obtain ⟨l0, rfl, hr0, hm0, hw0, hc0⟩ := ReadsInt.ofRowC w0
 obtain ⟨k, h⟩ := P l0 hm0 y0 hw0
 refine (laws_FnTriggers.calls k _ _ l0 true w (Kd.C_of_reads (d := (0 : Int)) (h1 := fun _ => rfl) hr0) hc0 h).mono ?_
 rintro e w' ⟨rfl, hd⟩
 exact ⟨rfl, hd⟩

end Go.Proofs.Ytcohbmibpcgfaaa.PFnTriggers
