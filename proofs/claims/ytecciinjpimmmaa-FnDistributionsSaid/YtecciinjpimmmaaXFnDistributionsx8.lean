-- Made by wip/xprint.py: the print of the kit, called over a changed copy of what it reads.
-- PRINTED by print.py (a twelfth state) out of the translation. Not trusted: Lean checks it.
import Derived.Test.YtecciinjpimmmaaXFnDistributionsx0
import Derived.Test.YtecciinjpimmmaaXFnDistributionsx1
import Derived.Test.YtecciinjpimmmaaXFnDistributionsx2
import Derived.Test.YtecciinjpimmmaaXFnDistributionsx3
import Derived.Test.YtecciinjpimmmaaXFnDistributionsx4
import Derived.Test.YtecciinjpimmmaaXFnDistributionsx5
import Derived.Test.YtecciinjpimmmaaXFnDistributionsx6
import Derived.Test.YtecciinjpimmmaaXFnDistributionsx7
namespace Go.Proofs.Ytecciinjpimmmaa.PFnDistributions
open Go.RowKit Go.Proofs.YtecciinjpimmmaaW.PrintWords Go.Proofs.YtecciinjpimmmaaW.PrintLast Go.Proofs.YtecciinjpimmmaaW.PrintMore
open Go.Proofs.YtecciinjpimmmaaW.PrintWords.Aside0 renaming mk → am_
open Go.Proofs.YtecciinjpimmmaaW.PrintWords renaming below_drew1 → bd_, below_alloc → ba_, below_size → bz_, below_step → bp_, gate_callee → gc_
open Go.Proofs.YtecciinjpimmmaaW.PrintWords.Kd renaming R_alloc → ra_, R_drewN → rn_, R_drew → rd_, R_below → rb_, R_mono → rm_, R_reads' → rr_, R_slice → rs_, C_alloc → ca_, C_drewN → cn_, C_drew → cd_
attribute [local go_sem] max2_int min2_int max_two min_two max_three min_three max_four min_four   -- for this text's walks alone
set_option linter.unusedVariables false
set_option linter.unusedSimpArgs false

/-! ### laws_FnDistributions: function 3 -/
mutual
def laws_FnDistributions.j0 : Nat → List Int → List Int → List Int → Bool → List Int → List Int → Bool → List Int → List Int → List Int → Bool → Bool → Option (Bool)
 | 0, _, _, _, _, _, _, _, _, _, _, _, _ => none
 | k + 1, x0, x3, x4, x5, x9, x10, x11, x15, x16, x17, x18, x116 => if x116 = true then (some false) else (laws_FnDistributions.l0 k x0 x3 x4 x5 x9 x10 x11 x15 x16 x17 x18 0)
def laws_FnDistributions.l0 : Nat → List Int → List Int → List Int → Bool → List Int → List Int → Bool → List Int → List Int → List Int → Bool → Int → Option (Bool)
 | 0, _, _, _, _, _, _, _, _, _, _, _, _ => none
 | k + 1, x0, x3, x4, x5, x9, x10, x11, x15, x16, x17, x18, x21 => if x21 ≤ 6 then ((laws_vAt.f x0 x21).bind fun t401 => (if x5 = true then ((impl_CriticalOrder.f k x3 (Int.tmod t401 7) x21).bind fun bt402 => ((impl_CriticalOrder.f k x4 (Int.tmod t401 7) x21).bind fun bt404 => (if bt402.1 < bt404.1 then (some false) else (laws_FnDistributions.j2 k x0 x3 x4 x5 x9 x10 x11 x15 x16 x17 x18 x21 (Int.tmod t401 7))))) else (laws_FnDistributions.j2 k x0 x3 x4 x5 x9 x10 x11 x15 x16 x17 x18 x21 (Int.tmod t401 7)))) else (if x18 = true then ((impl_MeanSum.f k x17).bind fun bt415 => ((impl_MeanSum.f k x15).bind fun bt417 => ((impl_MeanSum.f k x16).bind fun bt419 => (if bt419.2 = true then ((laws_vAdd.f k x16).bind fun t421 => ((laws_vAdd.f k x15).bind fun t422 => (if bt415.1 = (wrap64 ((wrap64 (bt417.1 * t421)) + (wrap64 (bt419.1 * t422)))) then ((laws_vAdd.f k x17).bind fun t423 => ((laws_vAdd.f k x15).bind fun t424 => ((laws_vAdd.f k x16).bind fun t425 => (some (t423 == (wrap64 (t424 * t425))))))) else (some false)))) else (some false))))) else (some true))
def laws_FnDistributions.j2 : Nat → List Int → List Int → List Int → Bool → List Int → List Int → Bool → List Int → List Int → List Int → Bool → Int → Int → Option (Bool)
 | 0, _, _, _, _, _, _, _, _, _, _, _, _, _ => none
 | k + 1, x0, x3, x4, x5, x9, x10, x11, x15, x16, x17, x18, x21, x22 => if x11 = true then ((laws_vBestSum.f k x9 x22 x21).bind fun t406 => ((laws_vAdd.f k x10).bind fun t407 => ((laws_vBestSum.f k x10 x22 x21).bind fun t408 => ((laws_vAdd.f k x9).bind fun t409 => (laws_FnDistributions.j3 k x0 x3 x4 x5 x9 x10 x11 x15 x16 x17 x18 x21 x22 (decide ((wrap64 (t406 * t407)) < (wrap64 (t408 * t409))))))))) else (laws_FnDistributions.j3 k x0 x3 x4 x5 x9 x10 x11 x15 x16 x17 x18 x21 x22 false)
def laws_FnDistributions.j3 : Nat → List Int → List Int → List Int → Bool → List Int → List Int → Bool → List Int → List Int → List Int → Bool → Int → Int → Bool → Option (Bool)
 | 0, _, _, _, _, _, _, _, _, _, _, _, _, _, _ => none
 | k + 1, x0, x3, x4, x5, x9, x10, x11, x15, x16, x17, x18, x21, x22, x160 => if x160 = true then (some false) else (if x18 = true then ((laws_vBestSum.f k x17 x22 x21).bind fun t410 => ((laws_vBestSum.f k x15 x22 x21).bind fun t411 => ((laws_vAdd.f k x16).bind fun t412 => ((laws_vBestSum.f k x16 x22 x21).bind fun t413 => ((laws_vAdd.f k x15).bind fun t414 => (if t410 > (wrap64 ((wrap64 (t411 * t412)) + (wrap64 (t413 * t414)))) then (some false) else (laws_FnDistributions.l0 k x0 x3 x4 x5 x9 x10 x11 x15 x16 x17 x18 (wrap64 (x21 + 1))))))))) else (laws_FnDistributions.l0 k x0 x3 x4 x5 x9 x10 x11 x15 x16 x17 x18 (wrap64 (x21 + 1))))
end
def laws_FnDistributions.f (k : Nat) (l0 : List Int) : Option (Bool) := (laws_vBig.f l0).bind fun t359 => (if t359 = true then (some true) else ((spec_DrawIsMore.f k l0).bind fun bt360 => ((impl_IsMore.f k bt360.1 bt360.2).bind fun bt366 => ((spec_IsMore.f k bt360.1 bt360.2).bind fun bt368 => ((laws_vCut.f l0 1).bind fun t370 => ((spec_DrawIsWider.f k t370).bind fun bt373 => ((impl_IsWider.f k bt373.1 bt373.2).bind fun bt379 => ((spec_IsWider.f k bt373.1 bt373.2).bind fun bt381 => ((laws_vCut.f l0 2).bind fun t383 => ((spec_DrawSumOf.f k t383).bind fun bt386 => ((impl_SumOf.f k bt386.1 bt386.2).bind fun bt392 => ((spec_SumOf.f k bt386.1 bt386.2).bind fun bt396 => (if (bt366.1 != bt368.1) = true then (laws_FnDistributions.j0 k l0 bt360.1 bt360.2 bt366.1 bt373.1 bt373.2 bt379.1 bt386.1 bt386.2 bt392.1 bt392.2 true) else (if (bt366.2 != bt368.2) = true then (laws_FnDistributions.j0 k l0 bt360.1 bt360.2 bt366.1 bt373.1 bt373.2 bt379.1 bt386.1 bt386.2 bt392.1 bt392.2 true) else (if (bt379.1 != bt381.1) = true then (laws_FnDistributions.j0 k l0 bt360.1 bt360.2 bt366.1 bt373.1 bt373.2 bt379.1 bt386.1 bt386.2 bt392.1 bt392.2 true) else (if (bt379.2 != bt381.2) = true then (laws_FnDistributions.j0 k l0 bt360.1 bt360.2 bt366.1 bt373.1 bt373.2 bt379.1 bt386.1 bt386.2 bt392.1 bt392.2 true) else (if (bt392.2 != bt396.2) = true then (laws_FnDistributions.j0 k l0 bt360.1 bt360.2 bt366.1 bt373.1 bt373.2 bt379.1 bt386.1 bt386.2 bt392.1 bt392.2 true) else ((laws_vInts.f k bt392.1 bt396.1).bind fun t400 => (laws_FnDistributions.j0 k l0 bt360.1 bt360.2 bt366.1 bt373.1 bt373.2 bt379.1 bt386.1 bt386.2 bt392.1 bt392.2 (!t400))))))))))))))))))))
theorem laws_FnDistributions.mono_l : ∀ k, (∀ y0 y1 y2 y3 y4 y5 y6 y7 y8 y9 y10 y11, LeO (laws_FnDistributions.j0 k y0 y1 y2 y3 y4 y5 y6 y7 y8 y9 y10 y11) (laws_FnDistributions.j0 (k + 1) y0 y1 y2 y3 y4 y5 y6 y7 y8 y9 y10 y11)) ∧ (∀ y0 y1 y2 y3 y4 y5 y6 y7 y8 y9 y10 y11, LeO (laws_FnDistributions.l0 k y0 y1 y2 y3 y4 y5 y6 y7 y8 y9 y10 y11) (laws_FnDistributions.l0 (k + 1) y0 y1 y2 y3 y4 y5 y6 y7 y8 y9 y10 y11)) ∧ (∀ y0 y1 y2 y3 y4 y5 y6 y7 y8 y9 y10 y11 y12, LeO (laws_FnDistributions.j2 k y0 y1 y2 y3 y4 y5 y6 y7 y8 y9 y10 y11 y12) (laws_FnDistributions.j2 (k + 1) y0 y1 y2 y3 y4 y5 y6 y7 y8 y9 y10 y11 y12)) ∧ (∀ y0 y1 y2 y3 y4 y5 y6 y7 y8 y9 y10 y11 y12 y13, LeO (laws_FnDistributions.j3 k y0 y1 y2 y3 y4 y5 y6 y7 y8 y9 y10 y11 y12 y13) (laws_FnDistributions.j3 (k + 1) y0 y1 y2 y3 y4 y5 y6 y7 y8 y9 y10 y11 y12 y13))
 | 0 => ⟨fun _ _ _ _ _ _ _ _ _ _ _ _ r h => by simp [laws_FnDistributions.j0] at h, fun _ _ _ _ _ _ _ _ _ _ _ _ r h => by simp [laws_FnDistributions.l0] at h, fun _ _ _ _ _ _ _ _ _ _ _ _ _ r h => by simp [laws_FnDistributions.j2] at h, fun _ _ _ _ _ _ _ _ _ _ _ _ _ _ r h => by simp [laws_FnDistributions.j3] at h⟩
 | k + 1 => by
  obtain ⟨ih0, ih1, ih2, ih3⟩ := laws_FnDistributions.mono_l k
  refine ⟨?_, ?_, ?_, ?_⟩
  ·
   intro y0 y1 y2 y3 y4 y5 y6 y7 y8 y9 y10 y11
   unfold laws_FnDistributions.j0
   repeat' first
   | (with_reducible exact ih0 _ _ _ _ _ _ _ _ _ _ _ _)
   | (with_reducible exact ih1 _ _ _ _ _ _ _ _ _ _ _ _)
   | (with_reducible exact ih2 _ _ _ _ _ _ _ _ _ _ _ _ _)
   | (with_reducible exact ih3 _ _ _ _ _ _ _ _ _ _ _ _ _ _)
   | (with_reducible exact impl_CriticalOrder.mono _ _ _ _)
   | (with_reducible exact impl_IsMore.mono _ _ _)
   | (with_reducible exact impl_IsWider.mono _ _ _)
   | (with_reducible exact impl_MeanSum.mono _ _)
   | (with_reducible exact impl_SumOf.mono _ _ _)
   | (with_reducible exact laws_vAdd.mono _ _)
   | (with_reducible exact laws_vBestSum.mono _ _ _ _)
   | (with_reducible exact laws_vInts.mono _ _ _)
   | (with_reducible exact spec_DrawIsMore.mono _ _)
   | (with_reducible exact spec_DrawIsWider.mono _ _)
   | (with_reducible exact spec_DrawSumOf.mono _ _)
   | (with_reducible exact spec_IsMore.mono _ _ _)
   | (with_reducible exact spec_IsWider.mono _ _ _)
   | (with_reducible exact spec_SumOf.mono _ _ _)
   | (with_reducible exact LeO.refl _)
   | (with_reducible exact LeO.none _)
   | (with_reducible refine LeO.ite ?_ ?_)
   | (with_reducible refine LeO.bind ?_ (fun _ => ?_))
   | exact ih0 _ _ _ _ _ _ _ _ _ _ _ _
   | exact ih1 _ _ _ _ _ _ _ _ _ _ _ _
   | exact ih2 _ _ _ _ _ _ _ _ _ _ _ _ _
   | exact ih3 _ _ _ _ _ _ _ _ _ _ _ _ _ _
   | exact impl_CriticalOrder.mono _ _ _ _
   | exact impl_IsMore.mono _ _ _
   | exact impl_IsWider.mono _ _ _
   | exact impl_MeanSum.mono _ _
   | exact impl_SumOf.mono _ _ _
   | exact laws_vAdd.mono _ _
   | exact laws_vBestSum.mono _ _ _ _
   | exact laws_vInts.mono _ _ _
   | exact spec_DrawIsMore.mono _ _
   | exact spec_DrawIsWider.mono _ _
   | exact spec_DrawSumOf.mono _ _
   | exact spec_IsMore.mono _ _ _
   | exact spec_IsWider.mono _ _ _
   | exact spec_SumOf.mono _ _ _
   | exact LeO.none _
   | refine LeO.ite ?_ ?_
   | refine LeO.bind ?_ (fun _ => ?_)
  ·
   intro y0 y1 y2 y3 y4 y5 y6 y7 y8 y9 y10 y11
   unfold laws_FnDistributions.l0
   repeat' first
   | (with_reducible exact ih0 _ _ _ _ _ _ _ _ _ _ _ _)
   | (with_reducible exact ih1 _ _ _ _ _ _ _ _ _ _ _ _)
   | (with_reducible exact ih2 _ _ _ _ _ _ _ _ _ _ _ _ _)
   | (with_reducible exact ih3 _ _ _ _ _ _ _ _ _ _ _ _ _ _)
   | (with_reducible exact impl_CriticalOrder.mono _ _ _ _)
   | (with_reducible exact impl_IsMore.mono _ _ _)
   | (with_reducible exact impl_IsWider.mono _ _ _)
   | (with_reducible exact impl_MeanSum.mono _ _)
   | (with_reducible exact impl_SumOf.mono _ _ _)
   | (with_reducible exact laws_vAdd.mono _ _)
   | (with_reducible exact laws_vBestSum.mono _ _ _ _)
   | (with_reducible exact laws_vInts.mono _ _ _)
   | (with_reducible exact spec_DrawIsMore.mono _ _)
   | (with_reducible exact spec_DrawIsWider.mono _ _)
   | (with_reducible exact spec_DrawSumOf.mono _ _)
   | (with_reducible exact spec_IsMore.mono _ _ _)
   | (with_reducible exact spec_IsWider.mono _ _ _)
   | (with_reducible exact spec_SumOf.mono _ _ _)
   | (with_reducible exact LeO.refl _)
   | (with_reducible exact LeO.none _)
   | (with_reducible refine LeO.ite ?_ ?_)
   | (with_reducible refine LeO.bind ?_ (fun _ => ?_))
   | exact ih0 _ _ _ _ _ _ _ _ _ _ _ _
   | exact ih1 _ _ _ _ _ _ _ _ _ _ _ _
   | exact ih2 _ _ _ _ _ _ _ _ _ _ _ _ _
   | exact ih3 _ _ _ _ _ _ _ _ _ _ _ _ _ _
   | exact impl_CriticalOrder.mono _ _ _ _
   | exact impl_IsMore.mono _ _ _
   | exact impl_IsWider.mono _ _ _
   | exact impl_MeanSum.mono _ _
   | exact impl_SumOf.mono _ _ _
   | exact laws_vAdd.mono _ _
   | exact laws_vBestSum.mono _ _ _ _
   | exact laws_vInts.mono _ _ _
   | exact spec_DrawIsMore.mono _ _
   | exact spec_DrawIsWider.mono _ _
   | exact spec_DrawSumOf.mono _ _
   | exact spec_IsMore.mono _ _ _
   | exact spec_IsWider.mono _ _ _
   | exact spec_SumOf.mono _ _ _
   | exact LeO.none _
   | refine LeO.ite ?_ ?_
   | refine LeO.bind ?_ (fun _ => ?_)
  ·
   intro y0 y1 y2 y3 y4 y5 y6 y7 y8 y9 y10 y11 y12
   unfold laws_FnDistributions.j2
   repeat' first
   | (with_reducible exact ih0 _ _ _ _ _ _ _ _ _ _ _ _)
   | (with_reducible exact ih1 _ _ _ _ _ _ _ _ _ _ _ _)
   | (with_reducible exact ih2 _ _ _ _ _ _ _ _ _ _ _ _ _)
   | (with_reducible exact ih3 _ _ _ _ _ _ _ _ _ _ _ _ _ _)
   | (with_reducible exact impl_CriticalOrder.mono _ _ _ _)
   | (with_reducible exact impl_IsMore.mono _ _ _)
   | (with_reducible exact impl_IsWider.mono _ _ _)
   | (with_reducible exact impl_MeanSum.mono _ _)
   | (with_reducible exact impl_SumOf.mono _ _ _)
   | (with_reducible exact laws_vAdd.mono _ _)
   | (with_reducible exact laws_vBestSum.mono _ _ _ _)
   | (with_reducible exact laws_vInts.mono _ _ _)
   | (with_reducible exact spec_DrawIsMore.mono _ _)
   | (with_reducible exact spec_DrawIsWider.mono _ _)
   | (with_reducible exact spec_DrawSumOf.mono _ _)
   | (with_reducible exact spec_IsMore.mono _ _ _)
   | (with_reducible exact spec_IsWider.mono _ _ _)
   | (with_reducible exact spec_SumOf.mono _ _ _)
   | (with_reducible exact LeO.refl _)
   | (with_reducible exact LeO.none _)
   | (with_reducible refine LeO.ite ?_ ?_)
   | (with_reducible refine LeO.bind ?_ (fun _ => ?_))
   | exact ih0 _ _ _ _ _ _ _ _ _ _ _ _
   | exact ih1 _ _ _ _ _ _ _ _ _ _ _ _
   | exact ih2 _ _ _ _ _ _ _ _ _ _ _ _ _
   | exact ih3 _ _ _ _ _ _ _ _ _ _ _ _ _ _
   | exact impl_CriticalOrder.mono _ _ _ _
   | exact impl_IsMore.mono _ _ _
   | exact impl_IsWider.mono _ _ _
   | exact impl_MeanSum.mono _ _
   | exact impl_SumOf.mono _ _ _
   | exact laws_vAdd.mono _ _
   | exact laws_vBestSum.mono _ _ _ _
   | exact laws_vInts.mono _ _ _
   | exact spec_DrawIsMore.mono _ _
   | exact spec_DrawIsWider.mono _ _
   | exact spec_DrawSumOf.mono _ _
   | exact spec_IsMore.mono _ _ _
   | exact spec_IsWider.mono _ _ _
   | exact spec_SumOf.mono _ _ _
   | exact LeO.none _
   | refine LeO.ite ?_ ?_
   | refine LeO.bind ?_ (fun _ => ?_)
  ·
   intro y0 y1 y2 y3 y4 y5 y6 y7 y8 y9 y10 y11 y12 y13
   unfold laws_FnDistributions.j3
   repeat' first
   | (with_reducible exact ih0 _ _ _ _ _ _ _ _ _ _ _ _)
   | (with_reducible exact ih1 _ _ _ _ _ _ _ _ _ _ _ _)
   | (with_reducible exact ih2 _ _ _ _ _ _ _ _ _ _ _ _ _)
   | (with_reducible exact ih3 _ _ _ _ _ _ _ _ _ _ _ _ _ _)
   | (with_reducible exact impl_CriticalOrder.mono _ _ _ _)
   | (with_reducible exact impl_IsMore.mono _ _ _)
   | (with_reducible exact impl_IsWider.mono _ _ _)
   | (with_reducible exact impl_MeanSum.mono _ _)
   | (with_reducible exact impl_SumOf.mono _ _ _)
   | (with_reducible exact laws_vAdd.mono _ _)
   | (with_reducible exact laws_vBestSum.mono _ _ _ _)
   | (with_reducible exact laws_vInts.mono _ _ _)
   | (with_reducible exact spec_DrawIsMore.mono _ _)
   | (with_reducible exact spec_DrawIsWider.mono _ _)
   | (with_reducible exact spec_DrawSumOf.mono _ _)
   | (with_reducible exact spec_IsMore.mono _ _ _)
   | (with_reducible exact spec_IsWider.mono _ _ _)
   | (with_reducible exact spec_SumOf.mono _ _ _)
   | (with_reducible exact LeO.refl _)
   | (with_reducible exact LeO.none _)
   | (with_reducible refine LeO.ite ?_ ?_)
   | (with_reducible refine LeO.bind ?_ (fun _ => ?_))
   | exact ih0 _ _ _ _ _ _ _ _ _ _ _ _
   | exact ih1 _ _ _ _ _ _ _ _ _ _ _ _
   | exact ih2 _ _ _ _ _ _ _ _ _ _ _ _ _
   | exact ih3 _ _ _ _ _ _ _ _ _ _ _ _ _ _
   | exact impl_CriticalOrder.mono _ _ _ _
   | exact impl_IsMore.mono _ _ _
   | exact impl_IsWider.mono _ _ _
   | exact impl_MeanSum.mono _ _
   | exact impl_SumOf.mono _ _ _
   | exact laws_vAdd.mono _ _
   | exact laws_vBestSum.mono _ _ _ _
   | exact laws_vInts.mono _ _ _
   | exact spec_DrawIsMore.mono _ _
   | exact spec_DrawIsWider.mono _ _
   | exact spec_DrawSumOf.mono _ _
   | exact spec_IsMore.mono _ _ _
   | exact spec_IsWider.mono _ _ _
   | exact spec_SumOf.mono _ _ _
   | exact LeO.none _
   | refine LeO.ite ?_ ?_
   | refine LeO.bind ?_ (fun _ => ?_)
theorem laws_FnDistributions.mono : ∀ a0 k, LeO (laws_FnDistributions.f k a0) (laws_FnDistributions.f (k + 1) a0) := by
 intro a0 k
 obtain ⟨ih0, ih1, ih2, ih3⟩ := laws_FnDistributions.mono_l k
 unfold laws_FnDistributions.f
 repeat' first
   | (with_reducible exact ih0 _ _ _ _ _ _ _ _ _ _ _ _)
   | (with_reducible exact ih1 _ _ _ _ _ _ _ _ _ _ _ _)
   | (with_reducible exact ih2 _ _ _ _ _ _ _ _ _ _ _ _ _)
   | (with_reducible exact ih3 _ _ _ _ _ _ _ _ _ _ _ _ _ _)
   | (with_reducible exact impl_CriticalOrder.mono _ _ _ _)
   | (with_reducible exact impl_IsMore.mono _ _ _)
   | (with_reducible exact impl_IsWider.mono _ _ _)
   | (with_reducible exact impl_MeanSum.mono _ _)
   | (with_reducible exact impl_SumOf.mono _ _ _)
   | (with_reducible exact laws_vAdd.mono _ _)
   | (with_reducible exact laws_vBestSum.mono _ _ _ _)
   | (with_reducible exact laws_vInts.mono _ _ _)
   | (with_reducible exact spec_DrawIsMore.mono _ _)
   | (with_reducible exact spec_DrawIsWider.mono _ _)
   | (with_reducible exact spec_DrawSumOf.mono _ _)
   | (with_reducible exact spec_IsMore.mono _ _ _)
   | (with_reducible exact spec_IsWider.mono _ _ _)
   | (with_reducible exact spec_SumOf.mono _ _ _)
   | (with_reducible exact LeO.refl _)
   | (with_reducible exact LeO.none _)
   | (with_reducible refine LeO.ite ?_ ?_)
   | (with_reducible refine LeO.bind ?_ (fun _ => ?_))
   | exact ih0 _ _ _ _ _ _ _ _ _ _ _ _
   | exact ih1 _ _ _ _ _ _ _ _ _ _ _ _
   | exact ih2 _ _ _ _ _ _ _ _ _ _ _ _ _
   | exact ih3 _ _ _ _ _ _ _ _ _ _ _ _ _ _
   | exact impl_CriticalOrder.mono _ _ _ _
   | exact impl_IsMore.mono _ _ _
   | exact impl_IsWider.mono _ _ _
   | exact impl_MeanSum.mono _ _
   | exact impl_SumOf.mono _ _ _
   | exact laws_vAdd.mono _ _
   | exact laws_vBestSum.mono _ _ _ _
   | exact laws_vInts.mono _ _ _
   | exact spec_DrawIsMore.mono _ _
   | exact spec_DrawIsWider.mono _ _
   | exact spec_DrawSumOf.mono _ _
   | exact spec_IsMore.mono _ _ _
   | exact spec_IsWider.mono _ _ _
   | exact spec_SumOf.mono _ _ _
   | exact LeO.none _
   | refine LeO.ite ?_ ?_
   | refine LeO.bind ?_ (fun _ => ?_)
set_option maxHeartbeats 8000000 in
set_option maxRecDepth 100000 in
theorem laws_FnDistributions.calls (k : Nat) (A0 : Option Addr) (c0 : Nat) (l0 : List Int) (r : Bool) (w : World) (hr0 : Kd.C (Kd.int .u8) w A0 l0.length l0) (hc0 : l0.length ≤ c0) (h : laws_FnDistributions.f k l0 = some r) :
  Calls Try.prog 3 #[.slice A0 l0.length c0] w fun e w' => e = .returned (.bool r) ∧ Below w.heap.size w w' := by
 have HR0 := am_ hr0
 have HC0 := am_ hc0
 clear hr0 hc0
 have HB := am_ (Below.refl w.heap.size w)
 have H : ((laws_vBig.f l0).bind fun t359 => (if t359 = true then (some true) else ((spec_DrawIsMore.f k l0).bind fun bt360 => ((impl_IsMore.f k bt360.1 bt360.2).bind fun bt366 => ((spec_IsMore.f k bt360.1 bt360.2).bind fun bt368 => ((laws_vCut.f l0 1).bind fun t370 => ((spec_DrawIsWider.f k t370).bind fun bt373 => ((impl_IsWider.f k bt373.1 bt373.2).bind fun bt379 => ((spec_IsWider.f k bt373.1 bt373.2).bind fun bt381 => ((laws_vCut.f l0 2).bind fun t383 => ((spec_DrawSumOf.f k t383).bind fun bt386 => ((impl_SumOf.f k bt386.1 bt386.2).bind fun bt392 => ((spec_SumOf.f k bt386.1 bt386.2).bind fun bt396 => (if (bt366.1 != bt368.1) = true then (laws_FnDistributions.j0 k l0 bt360.1 bt360.2 bt366.1 bt373.1 bt373.2 bt379.1 bt386.1 bt386.2 bt392.1 bt392.2 true) else (if (bt366.2 != bt368.2) = true then (laws_FnDistributions.j0 k l0 bt360.1 bt360.2 bt366.1 bt373.1 bt373.2 bt379.1 bt386.1 bt386.2 bt392.1 bt392.2 true) else (if (bt379.1 != bt381.1) = true then (laws_FnDistributions.j0 k l0 bt360.1 bt360.2 bt366.1 bt373.1 bt373.2 bt379.1 bt386.1 bt386.2 bt392.1 bt392.2 true) else (if (bt379.2 != bt381.2) = true then (laws_FnDistributions.j0 k l0 bt360.1 bt360.2 bt366.1 bt373.1 bt373.2 bt379.1 bt386.1 bt386.2 bt392.1 bt392.2 true) else (if (bt392.2 != bt396.2) = true then (laws_FnDistributions.j0 k l0 bt360.1 bt360.2 bt366.1 bt373.1 bt373.2 bt379.1 bt386.1 bt386.2 bt392.1 bt392.2 true) else ((laws_vInts.f k bt392.1 bt396.1).bind fun t400 => (laws_FnDistributions.j0 k l0 bt360.1 bt360.2 bt366.1 bt373.1 bt373.2 bt379.1 bt386.1 bt386.2 bt392.1 bt392.2 (!t400))))))))))))))))))))) = some r := h
 clear h
 replace H := Option.bind_eq_some_iff.mp H
 obtain ⟨t359, A20, H⟩ := H
 replace H : (if t359 = true then (some true) else ((spec_DrawIsMore.f k l0).bind fun bt360 => ((impl_IsMore.f k bt360.1 bt360.2).bind fun bt366 => ((spec_IsMore.f k bt360.1 bt360.2).bind fun bt368 => ((laws_vCut.f l0 1).bind fun t370 => ((spec_DrawIsWider.f k t370).bind fun bt373 => ((impl_IsWider.f k bt373.1 bt373.2).bind fun bt379 => ((spec_IsWider.f k bt373.1 bt373.2).bind fun bt381 => ((laws_vCut.f l0 2).bind fun t383 => ((spec_DrawSumOf.f k t383).bind fun bt386 => ((impl_SumOf.f k bt386.1 bt386.2).bind fun bt392 => ((spec_SumOf.f k bt386.1 bt386.2).bind fun bt396 => (if (bt366.1 != bt368.1) = true then (laws_FnDistributions.j0 k l0 bt360.1 bt360.2 bt366.1 bt373.1 bt373.2 bt379.1 bt386.1 bt386.2 bt392.1 bt392.2 true) else (if (bt366.2 != bt368.2) = true then (laws_FnDistributions.j0 k l0 bt360.1 bt360.2 bt366.1 bt373.1 bt373.2 bt379.1 bt386.1 bt386.2 bt392.1 bt392.2 true) else (if (bt379.1 != bt381.1) = true then (laws_FnDistributions.j0 k l0 bt360.1 bt360.2 bt366.1 bt373.1 bt373.2 bt379.1 bt386.1 bt386.2 bt392.1 bt392.2 true) else (if (bt379.2 != bt381.2) = true then (laws_FnDistributions.j0 k l0 bt360.1 bt360.2 bt366.1 bt373.1 bt373.2 bt379.1 bt386.1 bt386.2 bt392.1 bt392.2 true) else (if (bt392.2 != bt396.2) = true then (laws_FnDistributions.j0 k l0 bt360.1 bt360.2 bt366.1 bt373.1 bt373.2 bt379.1 bt386.1 bt386.2 bt392.1 bt392.2 true) else ((laws_vInts.f k bt392.1 bt396.1).bind fun t400 => (laws_FnDistributions.j0 k l0 bt360.1 bt360.2 bt366.1 bt373.1 bt373.2 bt379.1 bt386.1 bt386.2 bt392.1 bt392.2 (!t400)))))))))))))))))))) = some r := H
 have A2 := am_ A20
 clear A20
 by_cases c3 : t359 = true
 ·
  subst c3
  have H1 : (some true) = some r := by rw [if_pos rfl] at H; exact H
  clear H
  have H := H1
  clear H1
  obtain rfl := Option.some.inj H
  go_enter Try.func3, Try.ntmps3
  go_wp2_with (first | ((with_reducible refine gc_ (f := 4) rfl ?_); refine goesL_ (some 34) rfl rfl Try.func4 (by kernel_rfl) rfl #[.slice A0 l0.length c0] rfl (by (try simp only [List.map_toArray, List.map_cons, List.map_nil]); first | done | rfl | (simp only [List.length_drop, List.length_take]; rfl)) ?_; (with_reducible refine (laws_vBig.calls _ _ l0 true _ ?side1 ?side2 A2.out).mono ?_); (case side1 => repeat (first | exact HR0.out | (with_reducible refine ca_ ?_ _) | (with_reducible refine cn_ ?_ _) | (with_reducible refine cd_ ?_))); (case side2 => exact HC0.out); rintro e w' ⟨rfl, ⟨nd, rfl⟩⟩; refine ⟨_, rfl, ?_⟩))
  go_ret
  exact ⟨by first | rfl | (simp [errW_none, errW_some] <;> rfl) | (simp [*, errW_none, errW_some] <;> rfl), by repeat (first | (with_reducible first | exact HB.out | apply ba_ | apply pw_below_drewN | apply bd_) | exact HB.out)⟩
 ·
  replace c3 := Bool.eq_false_iff.mpr c3
  subst c3
  have H1 : ((spec_DrawIsMore.f k l0).bind fun bt360 => ((impl_IsMore.f k bt360.1 bt360.2).bind fun bt366 => ((spec_IsMore.f k bt360.1 bt360.2).bind fun bt368 => ((laws_vCut.f l0 1).bind fun t370 => ((spec_DrawIsWider.f k t370).bind fun bt373 => ((impl_IsWider.f k bt373.1 bt373.2).bind fun bt379 => ((spec_IsWider.f k bt373.1 bt373.2).bind fun bt381 => ((laws_vCut.f l0 2).bind fun t383 => ((spec_DrawSumOf.f k t383).bind fun bt386 => ((impl_SumOf.f k bt386.1 bt386.2).bind fun bt392 => ((spec_SumOf.f k bt386.1 bt386.2).bind fun bt396 => (if (bt366.1 != bt368.1) = true then (laws_FnDistributions.j0 k l0 bt360.1 bt360.2 bt366.1 bt373.1 bt373.2 bt379.1 bt386.1 bt386.2 bt392.1 bt392.2 true) else (if (bt366.2 != bt368.2) = true then (laws_FnDistributions.j0 k l0 bt360.1 bt360.2 bt366.1 bt373.1 bt373.2 bt379.1 bt386.1 bt386.2 bt392.1 bt392.2 true) else (if (bt379.1 != bt381.1) = true then (laws_FnDistributions.j0 k l0 bt360.1 bt360.2 bt366.1 bt373.1 bt373.2 bt379.1 bt386.1 bt386.2 bt392.1 bt392.2 true) else (if (bt379.2 != bt381.2) = true then (laws_FnDistributions.j0 k l0 bt360.1 bt360.2 bt366.1 bt373.1 bt373.2 bt379.1 bt386.1 bt386.2 bt392.1 bt392.2 true) else (if (bt392.2 != bt396.2) = true then (laws_FnDistributions.j0 k l0 bt360.1 bt360.2 bt366.1 bt373.1 bt373.2 bt379.1 bt386.1 bt386.2 bt392.1 bt392.2 true) else ((laws_vInts.f k bt392.1 bt396.1).bind fun t400 => (laws_FnDistributions.j0 k l0 bt360.1 bt360.2 bt366.1 bt373.1 bt373.2 bt379.1 bt386.1 bt386.2 bt392.1 bt392.2 (!t400))))))))))))))))))) = some r := by rw [if_neg (show ¬ (false = true) by decide)] at H; exact H
  clear H
  have H := H1
  clear H1
  replace H := Option.bind_eq_some_iff.mp H
  obtain ⟨⟨t360, t361⟩, A40, H⟩ := H
  replace H : ((impl_IsMore.f k t360 t361).bind fun bt366 => ((spec_IsMore.f k t360 t361).bind fun bt368 => ((laws_vCut.f l0 1).bind fun t370 => ((spec_DrawIsWider.f k t370).bind fun bt373 => ((impl_IsWider.f k bt373.1 bt373.2).bind fun bt379 => ((spec_IsWider.f k bt373.1 bt373.2).bind fun bt381 => ((laws_vCut.f l0 2).bind fun t383 => ((spec_DrawSumOf.f k t383).bind fun bt386 => ((impl_SumOf.f k bt386.1 bt386.2).bind fun bt392 => ((spec_SumOf.f k bt386.1 bt386.2).bind fun bt396 => (if (bt366.1 != bt368.1) = true then (laws_FnDistributions.j0 k l0 t360 t361 bt366.1 bt373.1 bt373.2 bt379.1 bt386.1 bt386.2 bt392.1 bt392.2 true) else (if (bt366.2 != bt368.2) = true then (laws_FnDistributions.j0 k l0 t360 t361 bt366.1 bt373.1 bt373.2 bt379.1 bt386.1 bt386.2 bt392.1 bt392.2 true) else (if (bt379.1 != bt381.1) = true then (laws_FnDistributions.j0 k l0 t360 t361 bt366.1 bt373.1 bt373.2 bt379.1 bt386.1 bt386.2 bt392.1 bt392.2 true) else (if (bt379.2 != bt381.2) = true then (laws_FnDistributions.j0 k l0 t360 t361 bt366.1 bt373.1 bt373.2 bt379.1 bt386.1 bt386.2 bt392.1 bt392.2 true) else (if (bt392.2 != bt396.2) = true then (laws_FnDistributions.j0 k l0 t360 t361 bt366.1 bt373.1 bt373.2 bt379.1 bt386.1 bt386.2 bt392.1 bt392.2 true) else ((laws_vInts.f k bt392.1 bt396.1).bind fun t400 => (laws_FnDistributions.j0 k l0 t360 t361 bt366.1 bt373.1 bt373.2 bt379.1 bt386.1 bt386.2 bt392.1 bt392.2 (!t400)))))))))))))))))) = some r := H
  have A4 := am_ A40
  clear A40
  replace H := Option.bind_eq_some_iff.mp H
  obtain ⟨⟨t366, t367⟩, A50, H⟩ := H
  replace H : ((spec_IsMore.f k t360 t361).bind fun bt368 => ((laws_vCut.f l0 1).bind fun t370 => ((spec_DrawIsWider.f k t370).bind fun bt373 => ((impl_IsWider.f k bt373.1 bt373.2).bind fun bt379 => ((spec_IsWider.f k bt373.1 bt373.2).bind fun bt381 => ((laws_vCut.f l0 2).bind fun t383 => ((spec_DrawSumOf.f k t383).bind fun bt386 => ((impl_SumOf.f k bt386.1 bt386.2).bind fun bt392 => ((spec_SumOf.f k bt386.1 bt386.2).bind fun bt396 => (if (t366 != bt368.1) = true then (laws_FnDistributions.j0 k l0 t360 t361 t366 bt373.1 bt373.2 bt379.1 bt386.1 bt386.2 bt392.1 bt392.2 true) else (if (t367 != bt368.2) = true then (laws_FnDistributions.j0 k l0 t360 t361 t366 bt373.1 bt373.2 bt379.1 bt386.1 bt386.2 bt392.1 bt392.2 true) else (if (bt379.1 != bt381.1) = true then (laws_FnDistributions.j0 k l0 t360 t361 t366 bt373.1 bt373.2 bt379.1 bt386.1 bt386.2 bt392.1 bt392.2 true) else (if (bt379.2 != bt381.2) = true then (laws_FnDistributions.j0 k l0 t360 t361 t366 bt373.1 bt373.2 bt379.1 bt386.1 bt386.2 bt392.1 bt392.2 true) else (if (bt392.2 != bt396.2) = true then (laws_FnDistributions.j0 k l0 t360 t361 t366 bt373.1 bt373.2 bt379.1 bt386.1 bt386.2 bt392.1 bt392.2 true) else ((laws_vInts.f k bt392.1 bt396.1).bind fun t400 => (laws_FnDistributions.j0 k l0 t360 t361 t366 bt373.1 bt373.2 bt379.1 bt386.1 bt386.2 bt392.1 bt392.2 (!t400))))))))))))))))) = some r := H
  have A5 := am_ A50
  clear A50
  replace H := Option.bind_eq_some_iff.mp H
  obtain ⟨⟨t368, t369⟩, A60, H⟩ := H
  replace H : ((laws_vCut.f l0 1).bind fun t370 => ((spec_DrawIsWider.f k t370).bind fun bt373 => ((impl_IsWider.f k bt373.1 bt373.2).bind fun bt379 => ((spec_IsWider.f k bt373.1 bt373.2).bind fun bt381 => ((laws_vCut.f l0 2).bind fun t383 => ((spec_DrawSumOf.f k t383).bind fun bt386 => ((impl_SumOf.f k bt386.1 bt386.2).bind fun bt392 => ((spec_SumOf.f k bt386.1 bt386.2).bind fun bt396 => (if (t366 != t368) = true then (laws_FnDistributions.j0 k l0 t360 t361 t366 bt373.1 bt373.2 bt379.1 bt386.1 bt386.2 bt392.1 bt392.2 true) else (if (t367 != t369) = true then (laws_FnDistributions.j0 k l0 t360 t361 t366 bt373.1 bt373.2 bt379.1 bt386.1 bt386.2 bt392.1 bt392.2 true) else (if (bt379.1 != bt381.1) = true then (laws_FnDistributions.j0 k l0 t360 t361 t366 bt373.1 bt373.2 bt379.1 bt386.1 bt386.2 bt392.1 bt392.2 true) else (if (bt379.2 != bt381.2) = true then (laws_FnDistributions.j0 k l0 t360 t361 t366 bt373.1 bt373.2 bt379.1 bt386.1 bt386.2 bt392.1 bt392.2 true) else (if (bt392.2 != bt396.2) = true then (laws_FnDistributions.j0 k l0 t360 t361 t366 bt373.1 bt373.2 bt379.1 bt386.1 bt386.2 bt392.1 bt392.2 true) else ((laws_vInts.f k bt392.1 bt396.1).bind fun t400 => (laws_FnDistributions.j0 k l0 t360 t361 t366 bt373.1 bt373.2 bt379.1 bt386.1 bt386.2 bt392.1 bt392.2 (!t400)))))))))))))))) = some r := H
  have A6 := am_ A60
  clear A60
  replace H := Option.bind_eq_some_iff.mp H
  obtain ⟨t370, A70, H⟩ := H
  replace H : ((spec_DrawIsWider.f k t370).bind fun bt373 => ((impl_IsWider.f k bt373.1 bt373.2).bind fun bt379 => ((spec_IsWider.f k bt373.1 bt373.2).bind fun bt381 => ((laws_vCut.f l0 2).bind fun t383 => ((spec_DrawSumOf.f k t383).bind fun bt386 => ((impl_SumOf.f k bt386.1 bt386.2).bind fun bt392 => ((spec_SumOf.f k bt386.1 bt386.2).bind fun bt396 => (if (t366 != t368) = true then (laws_FnDistributions.j0 k l0 t360 t361 t366 bt373.1 bt373.2 bt379.1 bt386.1 bt386.2 bt392.1 bt392.2 true) else (if (t367 != t369) = true then (laws_FnDistributions.j0 k l0 t360 t361 t366 bt373.1 bt373.2 bt379.1 bt386.1 bt386.2 bt392.1 bt392.2 true) else (if (bt379.1 != bt381.1) = true then (laws_FnDistributions.j0 k l0 t360 t361 t366 bt373.1 bt373.2 bt379.1 bt386.1 bt386.2 bt392.1 bt392.2 true) else (if (bt379.2 != bt381.2) = true then (laws_FnDistributions.j0 k l0 t360 t361 t366 bt373.1 bt373.2 bt379.1 bt386.1 bt386.2 bt392.1 bt392.2 true) else (if (bt392.2 != bt396.2) = true then (laws_FnDistributions.j0 k l0 t360 t361 t366 bt373.1 bt373.2 bt379.1 bt386.1 bt386.2 bt392.1 bt392.2 true) else ((laws_vInts.f k bt392.1 bt396.1).bind fun t400 => (laws_FnDistributions.j0 k l0 t360 t361 t366 bt373.1 bt373.2 bt379.1 bt386.1 bt386.2 bt392.1 bt392.2 (!t400))))))))))))))) = some r := H
  have A7 := am_ A70
  clear A70
  replace H := Option.bind_eq_some_iff.mp H
  obtain ⟨⟨t373, t374⟩, A80, H⟩ := H
  replace H : ((impl_IsWider.f k t373 t374).bind fun bt379 => ((spec_IsWider.f k t373 t374).bind fun bt381 => ((laws_vCut.f l0 2).bind fun t383 => ((spec_DrawSumOf.f k t383).bind fun bt386 => ((impl_SumOf.f k bt386.1 bt386.2).bind fun bt392 => ((spec_SumOf.f k bt386.1 bt386.2).bind fun bt396 => (if (t366 != t368) = true then (laws_FnDistributions.j0 k l0 t360 t361 t366 t373 t374 bt379.1 bt386.1 bt386.2 bt392.1 bt392.2 true) else (if (t367 != t369) = true then (laws_FnDistributions.j0 k l0 t360 t361 t366 t373 t374 bt379.1 bt386.1 bt386.2 bt392.1 bt392.2 true) else (if (bt379.1 != bt381.1) = true then (laws_FnDistributions.j0 k l0 t360 t361 t366 t373 t374 bt379.1 bt386.1 bt386.2 bt392.1 bt392.2 true) else (if (bt379.2 != bt381.2) = true then (laws_FnDistributions.j0 k l0 t360 t361 t366 t373 t374 bt379.1 bt386.1 bt386.2 bt392.1 bt392.2 true) else (if (bt392.2 != bt396.2) = true then (laws_FnDistributions.j0 k l0 t360 t361 t366 t373 t374 bt379.1 bt386.1 bt386.2 bt392.1 bt392.2 true) else ((laws_vInts.f k bt392.1 bt396.1).bind fun t400 => (laws_FnDistributions.j0 k l0 t360 t361 t366 t373 t374 bt379.1 bt386.1 bt386.2 bt392.1 bt392.2 (!t400)))))))))))))) = some r := H
  have A8 := am_ A80
  clear A80
  replace H := Option.bind_eq_some_iff.mp H
  obtain ⟨⟨t379, t380⟩, A90, H⟩ := H
  replace H : ((spec_IsWider.f k t373 t374).bind fun bt381 => ((laws_vCut.f l0 2).bind fun t383 => ((spec_DrawSumOf.f k t383).bind fun bt386 => ((impl_SumOf.f k bt386.1 bt386.2).bind fun bt392 => ((spec_SumOf.f k bt386.1 bt386.2).bind fun bt396 => (if (t366 != t368) = true then (laws_FnDistributions.j0 k l0 t360 t361 t366 t373 t374 t379 bt386.1 bt386.2 bt392.1 bt392.2 true) else (if (t367 != t369) = true then (laws_FnDistributions.j0 k l0 t360 t361 t366 t373 t374 t379 bt386.1 bt386.2 bt392.1 bt392.2 true) else (if (t379 != bt381.1) = true then (laws_FnDistributions.j0 k l0 t360 t361 t366 t373 t374 t379 bt386.1 bt386.2 bt392.1 bt392.2 true) else (if (t380 != bt381.2) = true then (laws_FnDistributions.j0 k l0 t360 t361 t366 t373 t374 t379 bt386.1 bt386.2 bt392.1 bt392.2 true) else (if (bt392.2 != bt396.2) = true then (laws_FnDistributions.j0 k l0 t360 t361 t366 t373 t374 t379 bt386.1 bt386.2 bt392.1 bt392.2 true) else ((laws_vInts.f k bt392.1 bt396.1).bind fun t400 => (laws_FnDistributions.j0 k l0 t360 t361 t366 t373 t374 t379 bt386.1 bt386.2 bt392.1 bt392.2 (!t400))))))))))))) = some r := H
  have A9 := am_ A90
  clear A90
  replace H := Option.bind_eq_some_iff.mp H
  obtain ⟨⟨t381, t382⟩, A100, H⟩ := H
  replace H : ((laws_vCut.f l0 2).bind fun t383 => ((spec_DrawSumOf.f k t383).bind fun bt386 => ((impl_SumOf.f k bt386.1 bt386.2).bind fun bt392 => ((spec_SumOf.f k bt386.1 bt386.2).bind fun bt396 => (if (t366 != t368) = true then (laws_FnDistributions.j0 k l0 t360 t361 t366 t373 t374 t379 bt386.1 bt386.2 bt392.1 bt392.2 true) else (if (t367 != t369) = true then (laws_FnDistributions.j0 k l0 t360 t361 t366 t373 t374 t379 bt386.1 bt386.2 bt392.1 bt392.2 true) else (if (t379 != t381) = true then (laws_FnDistributions.j0 k l0 t360 t361 t366 t373 t374 t379 bt386.1 bt386.2 bt392.1 bt392.2 true) else (if (t380 != t382) = true then (laws_FnDistributions.j0 k l0 t360 t361 t366 t373 t374 t379 bt386.1 bt386.2 bt392.1 bt392.2 true) else (if (bt392.2 != bt396.2) = true then (laws_FnDistributions.j0 k l0 t360 t361 t366 t373 t374 t379 bt386.1 bt386.2 bt392.1 bt392.2 true) else ((laws_vInts.f k bt392.1 bt396.1).bind fun t400 => (laws_FnDistributions.j0 k l0 t360 t361 t366 t373 t374 t379 bt386.1 bt386.2 bt392.1 bt392.2 (!t400)))))))))))) = some r := H
  have A10 := am_ A100
  clear A100
  replace H := Option.bind_eq_some_iff.mp H
  obtain ⟨t383, A110, H⟩ := H
  replace H : ((spec_DrawSumOf.f k t383).bind fun bt386 => ((impl_SumOf.f k bt386.1 bt386.2).bind fun bt392 => ((spec_SumOf.f k bt386.1 bt386.2).bind fun bt396 => (if (t366 != t368) = true then (laws_FnDistributions.j0 k l0 t360 t361 t366 t373 t374 t379 bt386.1 bt386.2 bt392.1 bt392.2 true) else (if (t367 != t369) = true then (laws_FnDistributions.j0 k l0 t360 t361 t366 t373 t374 t379 bt386.1 bt386.2 bt392.1 bt392.2 true) else (if (t379 != t381) = true then (laws_FnDistributions.j0 k l0 t360 t361 t366 t373 t374 t379 bt386.1 bt386.2 bt392.1 bt392.2 true) else (if (t380 != t382) = true then (laws_FnDistributions.j0 k l0 t360 t361 t366 t373 t374 t379 bt386.1 bt386.2 bt392.1 bt392.2 true) else (if (bt392.2 != bt396.2) = true then (laws_FnDistributions.j0 k l0 t360 t361 t366 t373 t374 t379 bt386.1 bt386.2 bt392.1 bt392.2 true) else ((laws_vInts.f k bt392.1 bt396.1).bind fun t400 => (laws_FnDistributions.j0 k l0 t360 t361 t366 t373 t374 t379 bt386.1 bt386.2 bt392.1 bt392.2 (!t400))))))))))) = some r := H
  have A11 := am_ A110
  clear A110
  replace H := Option.bind_eq_some_iff.mp H
  obtain ⟨⟨t386, t387⟩, A120, H⟩ := H
  replace H : ((impl_SumOf.f k t386 t387).bind fun bt392 => ((spec_SumOf.f k t386 t387).bind fun bt396 => (if (t366 != t368) = true then (laws_FnDistributions.j0 k l0 t360 t361 t366 t373 t374 t379 t386 t387 bt392.1 bt392.2 true) else (if (t367 != t369) = true then (laws_FnDistributions.j0 k l0 t360 t361 t366 t373 t374 t379 t386 t387 bt392.1 bt392.2 true) else (if (t379 != t381) = true then (laws_FnDistributions.j0 k l0 t360 t361 t366 t373 t374 t379 t386 t387 bt392.1 bt392.2 true) else (if (t380 != t382) = true then (laws_FnDistributions.j0 k l0 t360 t361 t366 t373 t374 t379 t386 t387 bt392.1 bt392.2 true) else (if (bt392.2 != bt396.2) = true then (laws_FnDistributions.j0 k l0 t360 t361 t366 t373 t374 t379 t386 t387 bt392.1 bt392.2 true) else ((laws_vInts.f k bt392.1 bt396.1).bind fun t400 => (laws_FnDistributions.j0 k l0 t360 t361 t366 t373 t374 t379 t386 t387 bt392.1 bt392.2 (!t400)))))))))) = some r := H
  have A12 := am_ A120
  clear A120
  replace H := Option.bind_eq_some_iff.mp H
  obtain ⟨⟨t392, t393⟩, A130, H⟩ := H
  replace H : ((spec_SumOf.f k t386 t387).bind fun bt396 => (if (t366 != t368) = true then (laws_FnDistributions.j0 k l0 t360 t361 t366 t373 t374 t379 t386 t387 t392 t393 true) else (if (t367 != t369) = true then (laws_FnDistributions.j0 k l0 t360 t361 t366 t373 t374 t379 t386 t387 t392 t393 true) else (if (t379 != t381) = true then (laws_FnDistributions.j0 k l0 t360 t361 t366 t373 t374 t379 t386 t387 t392 t393 true) else (if (t380 != t382) = true then (laws_FnDistributions.j0 k l0 t360 t361 t366 t373 t374 t379 t386 t387 t392 t393 true) else (if (t393 != bt396.2) = true then (laws_FnDistributions.j0 k l0 t360 t361 t366 t373 t374 t379 t386 t387 t392 t393 true) else ((laws_vInts.f k t392 bt396.1).bind fun t400 => (laws_FnDistributions.j0 k l0 t360 t361 t366 t373 t374 t379 t386 t387 t392 t393 (!t400))))))))) = some r := H
  have A13 := am_ A130
  clear A130
  replace H := Option.bind_eq_some_iff.mp H
  obtain ⟨⟨t396, t397⟩, A140, H⟩ := H
  replace H : (if (t366 != t368) = true then (laws_FnDistributions.j0 k l0 t360 t361 t366 t373 t374 t379 t386 t387 t392 t393 true) else (if (t367 != t369) = true then (laws_FnDistributions.j0 k l0 t360 t361 t366 t373 t374 t379 t386 t387 t392 t393 true) else (if (t379 != t381) = true then (laws_FnDistributions.j0 k l0 t360 t361 t366 t373 t374 t379 t386 t387 t392 t393 true) else (if (t380 != t382) = true then (laws_FnDistributions.j0 k l0 t360 t361 t366 t373 t374 t379 t386 t387 t392 t393 true) else (if (t393 != t397) = true then (laws_FnDistributions.j0 k l0 t360 t361 t366 t373 t374 t379 t386 t387 t392 t393 true) else ((laws_vInts.f k t392 t396).bind fun t400 => (laws_FnDistributions.j0 k l0 t360 t361 t366 t373 t374 t379 t386 t387 t392 t393 (!t400)))))))) = some r := H
  have A14 := am_ A140
  clear A140
  have HC15 := am_ H
  clear H
  go_enter Try.func3, Try.ntmps3
  go_upto_region 12 with (first | ((with_reducible refine gc_ (f := 4) rfl ?_); refine goesL_ (some 34) rfl rfl Try.func4 (by kernel_rfl) rfl #[.slice A0 l0.length c0] rfl (by (try simp only [List.map_toArray, List.map_cons, List.map_nil]); first | done | rfl | (simp only [List.length_drop, List.length_take]; rfl)) ?_; (with_reducible refine (laws_vBig.calls _ _ l0 false _ ?side1 ?side2 A2.out).mono ?_); (case side1 => repeat (first | exact HR0.out | (with_reducible refine ca_ ?_ _) | (with_reducible refine cn_ ?_ _) | (with_reducible refine cd_ ?_))); (case side2 => exact HC0.out); rintro e w' ⟨rfl, ⟨nd, rfl⟩⟩; refine ⟨_, rfl, ?_⟩) | ((with_reducible refine gc_ (f := 5) rfl ?_); refine goesL_ (some 37) rfl rfl Try.func5 (by kernel_rfl) rfl #[.slice A0 l0.length c0] rfl (by (try simp only [List.map_toArray, List.map_cons, List.map_nil]); first | done | rfl | (simp only [List.length_drop, List.length_take]; rfl)) ?_; (with_reducible refine (spec_DrawIsMore.calls k _ _ l0 t360 t361 _ ?side1 ?side2 A4.out).mono ?_); (case side1 => repeat (first | exact HR0.out | (with_reducible refine ca_ ?_ _) | (with_reducible refine cn_ ?_ _) | (with_reducible refine cd_ ?_))); (case side2 => exact HC0.out); rintro e w16 ⟨v362, v364, rfl, ho0, ho1, hb⟩; refine ⟨_, rfl, ?_⟩; have n0_ := am_ (Kd.R_lower ho0 (bz_ (by repeat (first | (with_reducible first | exact HB.out | apply ba_ | apply pw_below_drewN | apply bd_) | exact HB.out)))); have n1_ := am_ (Kd.R_lower ho1 (bz_ (by repeat (first | (with_reducible first | exact HB.out | apply ba_ | apply pw_below_drewN | apply bd_) | exact HB.out)))); have n2_ := am_ (bp_ (by repeat (first | (with_reducible first | exact HB.out | apply ba_ | apply pw_below_drewN | apply bd_) | exact HB.out)) hb); clear HB; have HO363 := n0_; have HO365 := n1_; have HB := n2_; clear n0_ n1_ n2_; (try clear hb); (try clear hb2); (try clear hk); (try clear hi); (try clear ho0); (try clear ho1); obtain ⟨Ao17, co17, eo17⟩ := rs_ HO363.out; subst eo17; obtain ⟨Ao18, co18, eo18⟩ := rs_ HO365.out; subst eo18) | ((with_reducible refine gc_ (f := 6) rfl ?_); refine goesL_ (some 43) rfl rfl Try.func6 (by kernel_rfl) rfl #[.slice Ao17 t360.length co17, .slice Ao18 t361.length co18] rfl (by (try simp only [List.map_toArray, List.map_cons, List.map_nil]); first | done | rfl | (simp only [List.length_drop, List.length_take]; rfl)) ?_; (with_reducible refine (impl_IsMore.calls k _ _ t360 _ _ t361 t366 t367 _ ?side1 ?side2 ?side3 ?side4 A5.out).mono ?_); (case side1 => repeat (first | exact (rr_ HO363.out).2.2 | (with_reducible refine ca_ ?_ _) | (with_reducible refine cn_ ?_ _) | (with_reducible refine cd_ ?_))); (case side2 => exact (rr_ HO363.out).2.1); (case side3 => repeat (first | exact (rr_ HO365.out).2.2 | (with_reducible refine ca_ ?_ _) | (with_reducible refine cn_ ?_ _) | (with_reducible refine cd_ ?_))); (case side4 => exact (rr_ HO365.out).2.1); rintro e w19 ⟨rfl, hb⟩; refine ⟨_, rfl, ?_⟩; have n0_ := am_ (rb_ (by (with_reducible repeat (first | apply ra_ | apply rn_ | apply rd_)); exact HO363.out) hb); have n1_ := am_ (rb_ (by (with_reducible repeat (first | apply ra_ | apply rn_ | apply rd_)); exact HO365.out) hb); have n2_ := am_ (bp_ (by repeat (first | (with_reducible first | exact HB.out | apply ba_ | apply pw_below_drewN | apply bd_) | exact HB.out)) hb); clear HO363; clear HO365; clear HB; have HO363 := n0_; have HO365 := n1_; have HB := n2_; clear n0_ n1_ n2_; (try clear hb); (try clear hb2); (try clear hk); (try clear hi)) | ((with_reducible refine gc_ (f := 7) rfl ?_); refine goesL_ (some 49) rfl rfl Try.func7 (by kernel_rfl) rfl #[.slice Ao17 t360.length co17, .slice Ao18 t361.length co18] rfl (by (try simp only [List.map_toArray, List.map_cons, List.map_nil]); first | done | rfl | (simp only [List.length_drop, List.length_take]; rfl)) ?_; (with_reducible refine (spec_IsMore.calls k _ _ t360 _ _ t361 t368 t369 _ ?side1 ?side2 ?side3 ?side4 A6.out).mono ?_); (case side1 => repeat (first | exact (rr_ HO363.out).2.2 | (with_reducible refine ca_ ?_ _) | (with_reducible refine cn_ ?_ _) | (with_reducible refine cd_ ?_))); (case side2 => exact (rr_ HO363.out).2.1); (case side3 => repeat (first | exact (rr_ HO365.out).2.2 | (with_reducible refine ca_ ?_ _) | (with_reducible refine cn_ ?_ _) | (with_reducible refine cd_ ?_))); (case side4 => exact (rr_ HO365.out).2.1); rintro e w' ⟨rfl, ⟨nd, rfl⟩⟩; refine ⟨_, rfl, ?_⟩) | ((with_reducible refine gc_ (f := 9) rfl ?_); refine goesL_ (some 54) rfl rfl Try.func9 (by kernel_rfl) rfl #[.slice A0 l0.length c0, .int .i64 1] rfl (by (try simp only [List.map_toArray, List.map_cons, List.map_nil]); first | done | rfl | (simp only [List.length_drop, List.length_take]; rfl)) ?_; (with_reducible refine (laws_vCut.calls _ _ l0 1 t370 _ ?side1 ?side2 A7.out).mono ?_); (case side1 => repeat (first | exact (Kd.C_below HR0.out (by repeat (first | (with_reducible first | exact HB.out | apply ba_ | apply pw_below_drewN | apply bd_) | exact HB.out))) | (with_reducible refine ca_ ?_ _) | (with_reducible refine cn_ ?_ _) | (with_reducible refine cd_ ?_))); (case side2 => exact HC0.out); rintro e w20 ⟨v371, rfl, ho0, hb⟩; refine ⟨_, rfl, ?_⟩; have n0_ := am_ (rb_ (by (with_reducible repeat (first | apply ra_ | apply rn_ | apply rd_)); exact HO363.out) hb); have n1_ := am_ (rb_ (by (with_reducible repeat (first | apply ra_ | apply rn_ | apply rd_)); exact HO365.out) hb); have n2_ := am_ (Kd.R_lower ho0 (bz_ (by repeat (first | (with_reducible first | exact HB.out | apply ba_ | apply pw_below_drewN | apply bd_) | exact HB.out)))); have n3_ := am_ (bp_ (by repeat (first | (with_reducible first | exact HB.out | apply ba_ | apply pw_below_drewN | apply bd_) | exact HB.out)) hb); clear HO363; clear HO365; clear HB; have HO363 := n0_; have HO365 := n1_; have HO372 := n2_; have HB := n3_; clear n0_ n1_ n2_ n3_; (try clear hb); (try clear hb2); (try clear hk); (try clear hi); (try clear ho0); obtain ⟨Ao21, co21, eo21⟩ := rs_ HO372.out; subst eo21) | ((with_reducible refine gc_ (f := 8) rfl ?_); refine goesL_ (some 55) rfl rfl Try.func8 (by kernel_rfl) rfl #[.slice Ao21 t370.length co21] rfl (by (try simp only [List.map_toArray, List.map_cons, List.map_nil]); first | done | rfl | (simp only [List.length_drop, List.length_take]; rfl)) ?_; (with_reducible refine (spec_DrawIsWider.calls k _ _ t370 t373 t374 _ ?side1 ?side2 A8.out).mono ?_); (case side1 => repeat (first | exact (rr_ HO372.out).2.2 | (with_reducible refine ca_ ?_ _) | (with_reducible refine cn_ ?_ _) | (with_reducible refine cd_ ?_))); (case side2 => exact (rr_ HO372.out).2.1); rintro e w22 ⟨v375, v377, rfl, ho0, ho1, hb⟩; refine ⟨_, rfl, ?_⟩; have n0_ := am_ (rm_ (Kd.R_told (Kd.R_told (Kd.R_old (by (with_reducible repeat (first | apply ra_ | apply rn_ | apply rd_)); exact HO363.out) hb) (Kd.R_base ho0)) (Kd.R_base ho1)) (fun _ h_ => h_.1)); have n1_ := am_ (rm_ (Kd.R_told (Kd.R_told (Kd.R_old (by (with_reducible repeat (first | apply ra_ | apply rn_ | apply rd_)); exact HO365.out) hb) (Kd.R_base ho0)) (Kd.R_base ho1)) (fun _ h_ => h_.1)); have n2_ := am_ (rb_ (by (with_reducible repeat (first | apply ra_ | apply rn_ | apply rd_)); exact HO372.out) hb); have n3_ := am_ (Kd.R_lower (Kd.R_new' (Kd.R_new' ho0 (Kd.R_lt (by (with_reducible repeat (first | apply ra_ | apply rn_ | apply rd_)); exact HO363.out))) (Kd.R_lt (by (with_reducible repeat (first | apply ra_ | apply rn_ | apply rd_)); exact HO365.out))) (bz_ (by repeat (first | (with_reducible first | exact HB.out | apply ba_ | apply pw_below_drewN | apply bd_) | exact HB.out)))); have n4_ := am_ (Kd.R_lower (Kd.R_new' (Kd.R_new' ho1 (Kd.R_lt (by (with_reducible repeat (first | apply ra_ | apply rn_ | apply rd_)); exact HO363.out))) (Kd.R_lt (by (with_reducible repeat (first | apply ra_ | apply rn_ | apply rd_)); exact HO365.out))) (bz_ (by repeat (first | (with_reducible first | exact HB.out | apply ba_ | apply pw_below_drewN | apply bd_) | exact HB.out)))); have n5_ := am_ (bp_ (by repeat (first | (with_reducible first | exact HB.out | apply ba_ | apply pw_below_drewN | apply bd_) | exact HB.out)) hb); clear HO363; clear HO365; clear HO372; clear HB; have HO363 := n0_; have HO365 := n1_; have HO372 := n2_; have HO376 := n3_; have HO378 := n4_; have HB := n5_; clear n0_ n1_ n2_ n3_ n4_ n5_; (try clear hb); (try clear hb2); (try clear hk); (try clear hi); (try clear ho0); (try clear ho1); obtain ⟨Ao23, co23, eo23⟩ := rs_ HO376.out; subst eo23; obtain ⟨Ao24, co24, eo24⟩ := rs_ HO378.out; subst eo24) | ((with_reducible refine gc_ (f := 10) rfl ?_); refine goesL_ (some 61) rfl rfl Try.func10 (by kernel_rfl) rfl #[.slice Ao23 t373.length co23, .slice Ao24 t374.length co24] rfl (by (try simp only [List.map_toArray, List.map_cons, List.map_nil]); first | done | rfl | (simp only [List.length_drop, List.length_take]; rfl)) ?_; (with_reducible refine (impl_IsWider.calls k _ _ t373 _ _ t374 t379 t380 _ ?side1 ?side2 ?side3 ?side4 A9.out).mono ?_); (case side1 => repeat (first | exact (rr_ HO376.out).2.2 | (with_reducible refine ca_ ?_ _) | (with_reducible refine cn_ ?_ _) | (with_reducible refine cd_ ?_))); (case side2 => exact (rr_ HO376.out).2.1); (case side3 => repeat (first | exact (rr_ HO378.out).2.2 | (with_reducible refine ca_ ?_ _) | (with_reducible refine cn_ ?_ _) | (with_reducible refine cd_ ?_))); (case side4 => exact (rr_ HO378.out).2.1); rintro e w25 ⟨rfl, hb⟩; refine ⟨_, rfl, ?_⟩; have n0_ := am_ (rb_ (by (with_reducible repeat (first | apply ra_ | apply rn_ | apply rd_)); exact HO363.out) hb); have n1_ := am_ (rb_ (by (with_reducible repeat (first | apply ra_ | apply rn_ | apply rd_)); exact HO365.out) hb); have n2_ := am_ (rb_ (by (with_reducible repeat (first | apply ra_ | apply rn_ | apply rd_)); exact HO372.out) hb); have n3_ := am_ (rb_ (by (with_reducible repeat (first | apply ra_ | apply rn_ | apply rd_)); exact HO376.out) hb); have n4_ := am_ (rb_ (by (with_reducible repeat (first | apply ra_ | apply rn_ | apply rd_)); exact HO378.out) hb); have n5_ := am_ (bp_ (by repeat (first | (with_reducible first | exact HB.out | apply ba_ | apply pw_below_drewN | apply bd_) | exact HB.out)) hb); clear HO363; clear HO365; clear HO372; clear HO376; clear HO378; clear HB; have HO363 := n0_; have HO365 := n1_; have HO372 := n2_; have HO376 := n3_; have HO378 := n4_; have HB := n5_; clear n0_ n1_ n2_ n3_ n4_ n5_; (try clear hb); (try clear hb2); (try clear hk); (try clear hi)) | ((with_reducible refine gc_ (f := 11) rfl ?_); refine goesL_ (some 67) rfl rfl Try.func11 (by kernel_rfl) rfl #[.slice Ao23 t373.length co23, .slice Ao24 t374.length co24] rfl (by (try simp only [List.map_toArray, List.map_cons, List.map_nil]); first | done | rfl | (simp only [List.length_drop, List.length_take]; rfl)) ?_; (with_reducible refine (spec_IsWider.calls k _ _ t373 _ _ t374 t381 t382 _ ?side1 ?side2 ?side3 ?side4 A10.out).mono ?_); (case side1 => repeat (first | exact (rr_ HO376.out).2.2 | (with_reducible refine ca_ ?_ _) | (with_reducible refine cn_ ?_ _) | (with_reducible refine cd_ ?_))); (case side2 => exact (rr_ HO376.out).2.1); (case side3 => repeat (first | exact (rr_ HO378.out).2.2 | (with_reducible refine ca_ ?_ _) | (with_reducible refine cn_ ?_ _) | (with_reducible refine cd_ ?_))); (case side4 => exact (rr_ HO378.out).2.1); rintro e w' ⟨rfl, ⟨nd, rfl⟩⟩; refine ⟨_, rfl, ?_⟩) | ((with_reducible refine gc_ (f := 9) rfl ?_); refine goesL_ (some 72) rfl rfl Try.func9 (by kernel_rfl) rfl #[.slice A0 l0.length c0, .int .i64 2] rfl (by (try simp only [List.map_toArray, List.map_cons, List.map_nil]); first | done | rfl | (simp only [List.length_drop, List.length_take]; rfl)) ?_; (with_reducible refine (laws_vCut.calls _ _ l0 2 t383 _ ?side1 ?side2 A11.out).mono ?_); (case side1 => repeat (first | exact (Kd.C_below HR0.out (by repeat (first | (with_reducible first | exact HB.out | apply ba_ | apply pw_below_drewN | apply bd_) | exact HB.out))) | (with_reducible refine ca_ ?_ _) | (with_reducible refine cn_ ?_ _) | (with_reducible refine cd_ ?_))); (case side2 => exact HC0.out); rintro e w26 ⟨v384, rfl, ho0, hb⟩; refine ⟨_, rfl, ?_⟩; have n0_ := am_ (rb_ (by (with_reducible repeat (first | apply ra_ | apply rn_ | apply rd_)); exact HO363.out) hb); have n1_ := am_ (rb_ (by (with_reducible repeat (first | apply ra_ | apply rn_ | apply rd_)); exact HO365.out) hb); have n2_ := am_ (Kd.R_elder' (by (with_reducible repeat (first | apply ra_ | apply rn_ | apply rd_)); exact HO372.out) (Kd.R_base ho0) hb); have n3_ := am_ (rb_ (by (with_reducible repeat (first | apply ra_ | apply rn_ | apply rd_)); exact HO376.out) hb); have n4_ := am_ (rb_ (by (with_reducible repeat (first | apply ra_ | apply rn_ | apply rd_)); exact HO378.out) hb); have n5_ := am_ (Kd.R_lower (Kd.R_new' ho0 (Kd.R_lt (by (with_reducible repeat (first | apply ra_ | apply rn_ | apply rd_)); exact HO372.out))) (bz_ (by repeat (first | (with_reducible first | exact HB.out | apply ba_ | apply pw_below_drewN | apply bd_) | exact HB.out)))); have n6_ := am_ (bp_ (by repeat (first | (with_reducible first | exact HB.out | apply ba_ | apply pw_below_drewN | apply bd_) | exact HB.out)) hb); clear HO363; clear HO365; clear HO372; clear HO376; clear HO378; clear HB; have HO363 := n0_; have HO365 := n1_; have HO372 := n2_; have HO376 := n3_; have HO378 := n4_; have HO385 := n5_; have HB := n6_; clear n0_ n1_ n2_ n3_ n4_ n5_ n6_; (try clear hb); (try clear hb2); (try clear hk); (try clear hi); (try clear ho0); obtain ⟨Ao27, co27, eo27⟩ := rs_ HO385.out; subst eo27) | ((with_reducible refine gc_ (f := 12) rfl ?_); refine goesL_ (some 73) rfl rfl Try.func12 (by kernel_rfl) rfl #[.slice Ao27 t383.length co27] rfl (by (try simp only [List.map_toArray, List.map_cons, List.map_nil]); first | done | rfl | (simp only [List.length_drop, List.length_take]; rfl)) ?_; (with_reducible refine (spec_DrawSumOf.calls k _ _ t383 t386 t387 _ ?side1 ?side2 A12.out).mono ?_); (case side1 => repeat (first | exact (rr_ HO385.out).2.2 | (with_reducible refine ca_ ?_ _) | (with_reducible refine cn_ ?_ _) | (with_reducible refine cd_ ?_))); (case side2 => exact (rr_ HO385.out).2.1); rintro e w28 ⟨v388, v390, rfl, ho0, ho1, hb⟩; refine ⟨_, rfl, ?_⟩; have n0_ := am_ (rm_ (Kd.R_told (Kd.R_told (Kd.R_old (by (with_reducible repeat (first | apply ra_ | apply rn_ | apply rd_)); exact HO363.out) hb) (Kd.R_base ho0)) (Kd.R_base ho1)) (fun _ h_ => h_.1)); have n1_ := am_ (rm_ (Kd.R_told (Kd.R_told (Kd.R_old (by (with_reducible repeat (first | apply ra_ | apply rn_ | apply rd_)); exact HO365.out) hb) (Kd.R_base ho0)) (Kd.R_base ho1)) (fun _ h_ => h_.1)); have n2_ := am_ (rb_ (by (with_reducible repeat (first | apply ra_ | apply rn_ | apply rd_)); exact HO372.out) hb); have n3_ := am_ (rm_ (Kd.R_told (Kd.R_told (Kd.R_old (by (with_reducible repeat (first | apply ra_ | apply rn_ | apply rd_)); exact HO376.out) hb) (Kd.R_base ho0)) (Kd.R_base ho1)) (fun _ h_ => h_.1)); have n4_ := am_ (rm_ (Kd.R_told (Kd.R_told (Kd.R_old (by (with_reducible repeat (first | apply ra_ | apply rn_ | apply rd_)); exact HO378.out) hb) (Kd.R_base ho0)) (Kd.R_base ho1)) (fun _ h_ => h_.1)); have n5_ := am_ (rb_ (by (with_reducible repeat (first | apply ra_ | apply rn_ | apply rd_)); exact HO385.out) hb); have n6_ := am_ (Kd.R_lower (Kd.R_new' (Kd.R_new' (Kd.R_new' (Kd.R_new' ho0 (Kd.R_lt (by (with_reducible repeat (first | apply ra_ | apply rn_ | apply rd_)); exact HO363.out))) (Kd.R_lt (by (with_reducible repeat (first | apply ra_ | apply rn_ | apply rd_)); exact HO365.out))) (Kd.R_lt (by (with_reducible repeat (first | apply ra_ | apply rn_ | apply rd_)); exact HO376.out))) (Kd.R_lt (by (with_reducible repeat (first | apply ra_ | apply rn_ | apply rd_)); exact HO378.out))) (bz_ (by repeat (first | (with_reducible first | exact HB.out | apply ba_ | apply pw_below_drewN | apply bd_) | exact HB.out)))); have n7_ := am_ (Kd.R_lower (Kd.R_new' (Kd.R_new' (Kd.R_new' (Kd.R_new' ho1 (Kd.R_lt (by (with_reducible repeat (first | apply ra_ | apply rn_ | apply rd_)); exact HO363.out))) (Kd.R_lt (by (with_reducible repeat (first | apply ra_ | apply rn_ | apply rd_)); exact HO365.out))) (Kd.R_lt (by (with_reducible repeat (first | apply ra_ | apply rn_ | apply rd_)); exact HO376.out))) (Kd.R_lt (by (with_reducible repeat (first | apply ra_ | apply rn_ | apply rd_)); exact HO378.out))) (bz_ (by repeat (first | (with_reducible first | exact HB.out | apply ba_ | apply pw_below_drewN | apply bd_) | exact HB.out)))); have n8_ := am_ (bp_ (by repeat (first | (with_reducible first | exact HB.out | apply ba_ | apply pw_below_drewN | apply bd_) | exact HB.out)) hb); clear HO363; clear HO365; clear HO372; clear HO376; clear HO378; clear HO385; clear HB; have HO363 := n0_; have HO365 := n1_; have HO372 := n2_; have HO376 := n3_; have HO378 := n4_; have HO385 := n5_; have HO389 := n6_; have HO391 := n7_; have HB := n8_; clear n0_ n1_ n2_ n3_ n4_ n5_ n6_ n7_ n8_; (try clear hb); (try clear hb2); (try clear hk); (try clear hi); (try clear ho0); (try clear ho1); obtain ⟨Ao29, co29, eo29⟩ := rs_ HO389.out; subst eo29; obtain ⟨Ao30, co30, eo30⟩ := rs_ HO391.out; subst eo30) | ((with_reducible refine gc_ (f := 13) rfl ?_); refine goesL_ (some 79) rfl rfl Try.func13 (by kernel_rfl) rfl #[.slice Ao29 t386.length co29, .slice Ao30 t387.length co30] rfl (by (try simp only [List.map_toArray, List.map_cons, List.map_nil]); first | done | rfl | (simp only [List.length_drop, List.length_take]; rfl)) ?_; (with_reducible refine (impl_SumOf.calls k _ _ t386 _ _ t387 t392 t393 _ ?side1 ?side2 ?side3 ?side4 A13.out).mono ?_); (case side1 => repeat (first | exact (rr_ HO389.out).2.2 | (with_reducible refine ca_ ?_ _) | (with_reducible refine cn_ ?_ _) | (with_reducible refine cd_ ?_))); (case side2 => exact (rr_ HO389.out).2.1); (case side3 => repeat (first | exact (rr_ HO391.out).2.2 | (with_reducible refine ca_ ?_ _) | (with_reducible refine cn_ ?_ _) | (with_reducible refine cd_ ?_))); (case side4 => exact (rr_ HO391.out).2.1); rintro e w31 ⟨v394, rfl, ho0, hb⟩; refine ⟨_, rfl, ?_⟩; have n0_ := am_ (Kd.R_elder' (by (with_reducible repeat (first | apply ra_ | apply rn_ | apply rd_)); exact HO363.out) (Kd.R_base ho0) hb); have n1_ := am_ (Kd.R_elder' (by (with_reducible repeat (first | apply ra_ | apply rn_ | apply rd_)); exact HO365.out) (Kd.R_base ho0) hb); have n2_ := am_ (rb_ (by (with_reducible repeat (first | apply ra_ | apply rn_ | apply rd_)); exact HO372.out) hb); have n3_ := am_ (Kd.R_elder' (by (with_reducible repeat (first | apply ra_ | apply rn_ | apply rd_)); exact HO376.out) (Kd.R_base ho0) hb); have n4_ := am_ (Kd.R_elder' (by (with_reducible repeat (first | apply ra_ | apply rn_ | apply rd_)); exact HO378.out) (Kd.R_base ho0) hb); have n5_ := am_ (rb_ (by (with_reducible repeat (first | apply ra_ | apply rn_ | apply rd_)); exact HO385.out) hb); have n6_ := am_ (Kd.R_elder' (by (with_reducible repeat (first | apply ra_ | apply rn_ | apply rd_)); exact HO389.out) (Kd.R_base ho0) hb); have n7_ := am_ (Kd.R_elder' (by (with_reducible repeat (first | apply ra_ | apply rn_ | apply rd_)); exact HO391.out) (Kd.R_base ho0) hb); have n8_ := am_ (Kd.R_lower (Kd.R_new' (Kd.R_new' (Kd.R_new' (Kd.R_new' (Kd.R_new' (Kd.R_new' ho0 (Kd.R_lt (by (with_reducible repeat (first | apply ra_ | apply rn_ | apply rd_)); exact HO363.out))) (Kd.R_lt (by (with_reducible repeat (first | apply ra_ | apply rn_ | apply rd_)); exact HO365.out))) (Kd.R_lt (by (with_reducible repeat (first | apply ra_ | apply rn_ | apply rd_)); exact HO376.out))) (Kd.R_lt (by (with_reducible repeat (first | apply ra_ | apply rn_ | apply rd_)); exact HO378.out))) (Kd.R_lt (by (with_reducible repeat (first | apply ra_ | apply rn_ | apply rd_)); exact HO389.out))) (Kd.R_lt (by (with_reducible repeat (first | apply ra_ | apply rn_ | apply rd_)); exact HO391.out))) (bz_ (by repeat (first | (with_reducible first | exact HB.out | apply ba_ | apply pw_below_drewN | apply bd_) | exact HB.out)))); have n9_ := am_ (bp_ (by repeat (first | (with_reducible first | exact HB.out | apply ba_ | apply pw_below_drewN | apply bd_) | exact HB.out)) hb); clear HO363; clear HO365; clear HO372; clear HO376; clear HO378; clear HO385; clear HO389; clear HO391; clear HB; have HO363 := n0_; have HO365 := n1_; have HO372 := n2_; have HO376 := n3_; have HO378 := n4_; have HO385 := n5_; have HO389 := n6_; have HO391 := n7_; have HO395 := n8_; have HB := n9_; clear n0_ n1_ n2_ n3_ n4_ n5_ n6_ n7_ n8_ n9_; (try clear hb); (try clear hb2); (try clear hk); (try clear hi); (try clear ho0)) | ((with_reducible refine gc_ (f := 14) rfl ?_); refine goesL_ (some 85) rfl rfl Try.func14 (by kernel_rfl) rfl #[.slice Ao29 t386.length co29, .slice Ao30 t387.length co30] rfl (by (try simp only [List.map_toArray, List.map_cons, List.map_nil]); first | done | rfl | (simp only [List.length_drop, List.length_take]; rfl)) ?_; (with_reducible refine (spec_SumOf.calls k _ _ t386 _ _ t387 t396 t397 _ ?side1 ?side2 ?side3 ?side4 A14.out).mono ?_); (case side1 => repeat (first | exact (rr_ HO389.out).2.2 | (with_reducible refine ca_ ?_ _) | (with_reducible refine cn_ ?_ _) | (with_reducible refine cd_ ?_))); (case side2 => exact (rr_ HO389.out).2.1); (case side3 => repeat (first | exact (rr_ HO391.out).2.2 | (with_reducible refine ca_ ?_ _) | (with_reducible refine cn_ ?_ _) | (with_reducible refine cd_ ?_))); (case side4 => exact (rr_ HO391.out).2.1); rintro e w32 ⟨v398, rfl, ho0, hb⟩; refine ⟨_, rfl, ?_⟩; have n0_ := am_ (Kd.R_elder' (by (with_reducible repeat (first | apply ra_ | apply rn_ | apply rd_)); exact HO363.out) (Kd.R_base ho0) hb); have n1_ := am_ (Kd.R_elder' (by (with_reducible repeat (first | apply ra_ | apply rn_ | apply rd_)); exact HO365.out) (Kd.R_base ho0) hb); have n2_ := am_ (rb_ (by (with_reducible repeat (first | apply ra_ | apply rn_ | apply rd_)); exact HO372.out) hb); have n3_ := am_ (Kd.R_elder' (by (with_reducible repeat (first | apply ra_ | apply rn_ | apply rd_)); exact HO376.out) (Kd.R_base ho0) hb); have n4_ := am_ (Kd.R_elder' (by (with_reducible repeat (first | apply ra_ | apply rn_ | apply rd_)); exact HO378.out) (Kd.R_base ho0) hb); have n5_ := am_ (rb_ (by (with_reducible repeat (first | apply ra_ | apply rn_ | apply rd_)); exact HO385.out) hb); have n6_ := am_ (Kd.R_elder' (by (with_reducible repeat (first | apply ra_ | apply rn_ | apply rd_)); exact HO389.out) (Kd.R_base ho0) hb); have n7_ := am_ (Kd.R_elder' (by (with_reducible repeat (first | apply ra_ | apply rn_ | apply rd_)); exact HO391.out) (Kd.R_base ho0) hb); have n8_ := am_ (Kd.R_elder' (by (with_reducible repeat (first | apply ra_ | apply rn_ | apply rd_)); exact HO395.out) (Kd.R_base ho0) hb); have n9_ := am_ (Kd.R_lower (Kd.R_new' (Kd.R_new' (Kd.R_new' (Kd.R_new' (Kd.R_new' (Kd.R_new' (Kd.R_new' ho0 (Kd.R_lt (by (with_reducible repeat (first | apply ra_ | apply rn_ | apply rd_)); exact HO363.out))) (Kd.R_lt (by (with_reducible repeat (first | apply ra_ | apply rn_ | apply rd_)); exact HO365.out))) (Kd.R_lt (by (with_reducible repeat (first | apply ra_ | apply rn_ | apply rd_)); exact HO376.out))) (Kd.R_lt (by (with_reducible repeat (first | apply ra_ | apply rn_ | apply rd_)); exact HO378.out))) (Kd.R_lt (by (with_reducible repeat (first | apply ra_ | apply rn_ | apply rd_)); exact HO389.out))) (Kd.R_lt (by (with_reducible repeat (first | apply ra_ | apply rn_ | apply rd_)); exact HO391.out))) (Kd.R_lt (by (with_reducible repeat (first | apply ra_ | apply rn_ | apply rd_)); exact HO395.out))) (bz_ (by repeat (first | (with_reducible first | exact HB.out | apply ba_ | apply pw_below_drewN | apply bd_) | exact HB.out)))); have n10_ := am_ (bp_ (by repeat (first | (with_reducible first | exact HB.out | apply ba_ | apply pw_below_drewN | apply bd_) | exact HB.out)) hb); clear HO363; clear HO365; clear HO372; clear HO376; clear HO378; clear HO385; clear HO389; clear HO391; clear HO395; clear HB; have HO363 := n0_; have HO365 := n1_; have HO372 := n2_; have HO376 := n3_; have HO378 := n4_; have HO385 := n5_; have HO389 := n6_; have HO391 := n7_; have HO395 := n8_; have HO399 := n9_; have HB := n10_; clear n0_ n1_ n2_ n3_ n4_ n5_ n6_ n7_ n8_ n9_ n10_; (try clear hb); (try clear hb2); (try clear hk); (try clear hi); (try clear ho0)))
  (try simp only [Act.put, List.setIfInBounds_toArray, List.set_cons_zero, List.set_cons_succ])
  go_cut [116] (fun v116 wc => ∃ (kq : Nat) (x116_14 : Bool), v116 = .bool x116_14 ∧ Aside0 (laws_FnDistributions.j0 kq l0 t360 t361 t366 t373 t374 t379 t386 t387 t392 t393 x116_14 = some r) ∧ Aside0 (kq ≤ k) ∧ Aside0 (Kd.R (Kd.int .i64) 3 wc w.heap.size (fun k_ => some k_ ≠ ((.slice Ao18 t361.length co18) : Value).ownBlock ∧ some k_ ≠ ((.slice Ao23 t373.length co23) : Value).ownBlock ∧ some k_ ≠ ((.slice Ao24 t374.length co24) : Value).ownBlock ∧ some k_ ≠ ((.slice Ao29 t386.length co29) : Value).ownBlock ∧ some k_ ≠ ((.slice Ao30 t387.length co30) : Value).ownBlock ∧ some k_ ≠ (v394 : Value).ownBlock) (.slice Ao17 t360.length co17) t360) ∧ Aside0 (Kd.R (Kd.int .i64) 3 wc w.heap.size (fun k_ => some k_ ≠ ((.slice Ao17 t360.length co17) : Value).ownBlock ∧ some k_ ≠ ((.slice Ao23 t373.length co23) : Value).ownBlock ∧ some k_ ≠ ((.slice Ao24 t374.length co24) : Value).ownBlock ∧ some k_ ≠ ((.slice Ao29 t386.length co29) : Value).ownBlock ∧ some k_ ≠ ((.slice Ao30 t387.length co30) : Value).ownBlock ∧ some k_ ≠ (v394 : Value).ownBlock) (.slice Ao18 t361.length co18) t361) ∧ Aside0 (Kd.R (Kd.int .i64) 3 wc w.heap.size (fun k_ => some k_ ≠ ((.slice Ao17 t360.length co17) : Value).ownBlock ∧ some k_ ≠ ((.slice Ao18 t361.length co18) : Value).ownBlock ∧ some k_ ≠ ((.slice Ao24 t374.length co24) : Value).ownBlock ∧ some k_ ≠ ((.slice Ao29 t386.length co29) : Value).ownBlock ∧ some k_ ≠ ((.slice Ao30 t387.length co30) : Value).ownBlock ∧ some k_ ≠ (v394 : Value).ownBlock) (.slice Ao23 t373.length co23) t373) ∧ Aside0 (Kd.R (Kd.int .i64) 3 wc w.heap.size (fun k_ => some k_ ≠ ((.slice Ao17 t360.length co17) : Value).ownBlock ∧ some k_ ≠ ((.slice Ao18 t361.length co18) : Value).ownBlock ∧ some k_ ≠ ((.slice Ao23 t373.length co23) : Value).ownBlock ∧ some k_ ≠ ((.slice Ao29 t386.length co29) : Value).ownBlock ∧ some k_ ≠ ((.slice Ao30 t387.length co30) : Value).ownBlock ∧ some k_ ≠ (v394 : Value).ownBlock) (.slice Ao24 t374.length co24) t374) ∧ Aside0 (Kd.R (Kd.int .i64) 3 wc w.heap.size (fun k_ => some k_ ≠ ((.slice Ao17 t360.length co17) : Value).ownBlock ∧ some k_ ≠ ((.slice Ao18 t361.length co18) : Value).ownBlock ∧ some k_ ≠ ((.slice Ao23 t373.length co23) : Value).ownBlock ∧ some k_ ≠ ((.slice Ao24 t374.length co24) : Value).ownBlock ∧ some k_ ≠ ((.slice Ao30 t387.length co30) : Value).ownBlock ∧ some k_ ≠ (v394 : Value).ownBlock) (.slice Ao29 t386.length co29) t386) ∧ Aside0 (Kd.R (Kd.int .i64) 3 wc w.heap.size (fun k_ => some k_ ≠ ((.slice Ao17 t360.length co17) : Value).ownBlock ∧ some k_ ≠ ((.slice Ao18 t361.length co18) : Value).ownBlock ∧ some k_ ≠ ((.slice Ao23 t373.length co23) : Value).ownBlock ∧ some k_ ≠ ((.slice Ao24 t374.length co24) : Value).ownBlock ∧ some k_ ≠ ((.slice Ao29 t386.length co29) : Value).ownBlock ∧ some k_ ≠ (v394 : Value).ownBlock) (.slice Ao30 t387.length co30) t387) ∧ Aside0 (Kd.R (Kd.int .i64) 3 wc w.heap.size (fun k_ => some k_ ≠ ((.slice Ao17 t360.length co17) : Value).ownBlock ∧ some k_ ≠ ((.slice Ao18 t361.length co18) : Value).ownBlock ∧ some k_ ≠ ((.slice Ao23 t373.length co23) : Value).ownBlock ∧ some k_ ≠ ((.slice Ao24 t374.length co24) : Value).ownBlock ∧ some k_ ≠ ((.slice Ao29 t386.length co29) : Value).ownBlock ∧ some k_ ≠ ((.slice Ao30 t387.length co30) : Value).ownBlock) v394 t392) ∧ Aside0 (Below w.heap.size w wc))
  case first =>
   have H := HC15.out
   clear HC15
   by_cases c33 : (t366 != t368) = true
   ·
    rw [if_pos c33] at H
    have c33b0 : (t366 != t368) = true := c33
    (try (have c33b1 : decide (t366 = t368) = false := by simpa using c33))
    (try (have c33b2 : (t366 == t368) = false := by simpa using c33))
    (try (have c33b3 : ¬ (t366 = t368) := by simpa using c33))
    clear c33
    (first | rw [c33b0] | (simp only [i64_w, i32_w]; rw [c33b0]) | skip)
    have H' := am_ H
    clear H
    go_wp2
    go_meet
    case rel => exact ⟨_, (true), (by first | rfl | (simp; done) | (simp [*]; done)), H', ⟨by first | omega | exact Nat.le_refl _⟩, ⟨by (with_reducible repeat (first | apply ra_ | apply rn_ | apply rd_)); exact rm_ HO363.out (fun _ hk => ⟨hk.1.1.1.1.1.1, ⟨hk.1.1.1.1.1.2, ⟨hk.1.1.1.1.2, ⟨hk.1.1.1.2, ⟨hk.1.1.2, hk.1.2⟩⟩⟩⟩⟩)⟩, ⟨by (with_reducible repeat (first | apply ra_ | apply rn_ | apply rd_)); exact rm_ HO365.out (fun _ hk => ⟨hk.1.1.1.1.1.1, ⟨hk.1.1.1.1.1.2, ⟨hk.1.1.1.1.2, ⟨hk.1.1.1.2, ⟨hk.1.1.2, hk.1.2⟩⟩⟩⟩⟩)⟩, ⟨by (with_reducible repeat (first | apply ra_ | apply rn_ | apply rd_)); exact rm_ HO376.out (fun _ hk => ⟨hk.1.1.1.1.1.2, ⟨hk.1.1.1.1.2, ⟨hk.1.1.1.1.1.1, ⟨hk.1.1.1.2, ⟨hk.1.1.2, hk.1.2⟩⟩⟩⟩⟩)⟩, ⟨by (with_reducible repeat (first | apply ra_ | apply rn_ | apply rd_)); exact rm_ HO378.out (fun _ hk => ⟨hk.1.1.1.1.1.2, ⟨hk.1.1.1.1.2, ⟨hk.1.1.1.1.1.1, ⟨hk.1.1.1.2, ⟨hk.1.1.2, hk.1.2⟩⟩⟩⟩⟩)⟩, ⟨by (with_reducible repeat (first | apply ra_ | apply rn_ | apply rd_)); exact rm_ HO389.out (fun _ hk => ⟨hk.1.1.1.1.1.2, ⟨hk.1.1.1.1.2, ⟨hk.1.1.1.2, ⟨hk.1.1.2, ⟨hk.1.1.1.1.1.1, hk.1.2⟩⟩⟩⟩⟩)⟩, ⟨by (with_reducible repeat (first | apply ra_ | apply rn_ | apply rd_)); exact rm_ HO391.out (fun _ hk => ⟨hk.1.1.1.1.1.2, ⟨hk.1.1.1.1.2, ⟨hk.1.1.1.2, ⟨hk.1.1.2, ⟨hk.1.1.1.1.1.1, hk.1.2⟩⟩⟩⟩⟩)⟩, ⟨by (with_reducible repeat (first | apply ra_ | apply rn_ | apply rd_)); exact rm_ HO395.out (fun _ hk => ⟨hk.1.1.1.1.1.1.2, ⟨hk.1.1.1.1.1.2, ⟨hk.1.1.1.1.2, ⟨hk.1.1.1.2, ⟨hk.1.1.2, hk.1.2⟩⟩⟩⟩⟩)⟩, ⟨by repeat (first | (with_reducible first | exact HB.out | apply ba_ | apply pw_below_drewN | apply bd_) | exact HB.out)⟩⟩
   ·
    rw [if_neg c33] at H
    have c33b0 : (t366 != t368) = false := by simpa using c33
    (try (have c33b1 : decide (t366 = t368) = true := by simpa using c33))
    (try (have c33b2 : (t366 == t368) = true := by simpa using c33))
    clear c33
    (first | rw [c33b0] | (simp only [i64_w, i32_w]; rw [c33b0]) | skip)
    by_cases c34 : (t367 != t369) = true
    ·
     rw [if_pos c34] at H
     have c34b0 : (t367 != t369) = true := c34
     (try (have c34b1 : decide (t367 = t369) = false := by simpa using c34))
     (try (have c34b2 : (t367 == t369) = false := by simpa using c34))
     (try (have c34b3 : ¬ (t367 = t369) := by simpa using c34))
     clear c34
     have H' := am_ H
     clear H
     go_wp2
     go_meet
     case rel => exact ⟨_, (true), (by first | rfl | (simp; done) | (simp [*]; done)), H', ⟨by first | omega | exact Nat.le_refl _⟩, ⟨by (with_reducible repeat (first | apply ra_ | apply rn_ | apply rd_)); exact rm_ HO363.out (fun _ hk => ⟨hk.1.1.1.1.1.1, ⟨hk.1.1.1.1.1.2, ⟨hk.1.1.1.1.2, ⟨hk.1.1.1.2, ⟨hk.1.1.2, hk.1.2⟩⟩⟩⟩⟩)⟩, ⟨by (with_reducible repeat (first | apply ra_ | apply rn_ | apply rd_)); exact rm_ HO365.out (fun _ hk => ⟨hk.1.1.1.1.1.1, ⟨hk.1.1.1.1.1.2, ⟨hk.1.1.1.1.2, ⟨hk.1.1.1.2, ⟨hk.1.1.2, hk.1.2⟩⟩⟩⟩⟩)⟩, ⟨by (with_reducible repeat (first | apply ra_ | apply rn_ | apply rd_)); exact rm_ HO376.out (fun _ hk => ⟨hk.1.1.1.1.1.2, ⟨hk.1.1.1.1.2, ⟨hk.1.1.1.1.1.1, ⟨hk.1.1.1.2, ⟨hk.1.1.2, hk.1.2⟩⟩⟩⟩⟩)⟩, ⟨by (with_reducible repeat (first | apply ra_ | apply rn_ | apply rd_)); exact rm_ HO378.out (fun _ hk => ⟨hk.1.1.1.1.1.2, ⟨hk.1.1.1.1.2, ⟨hk.1.1.1.1.1.1, ⟨hk.1.1.1.2, ⟨hk.1.1.2, hk.1.2⟩⟩⟩⟩⟩)⟩, ⟨by (with_reducible repeat (first | apply ra_ | apply rn_ | apply rd_)); exact rm_ HO389.out (fun _ hk => ⟨hk.1.1.1.1.1.2, ⟨hk.1.1.1.1.2, ⟨hk.1.1.1.2, ⟨hk.1.1.2, ⟨hk.1.1.1.1.1.1, hk.1.2⟩⟩⟩⟩⟩)⟩, ⟨by (with_reducible repeat (first | apply ra_ | apply rn_ | apply rd_)); exact rm_ HO391.out (fun _ hk => ⟨hk.1.1.1.1.1.2, ⟨hk.1.1.1.1.2, ⟨hk.1.1.1.2, ⟨hk.1.1.2, ⟨hk.1.1.1.1.1.1, hk.1.2⟩⟩⟩⟩⟩)⟩, ⟨by (with_reducible repeat (first | apply ra_ | apply rn_ | apply rd_)); exact rm_ HO395.out (fun _ hk => ⟨hk.1.1.1.1.1.1.2, ⟨hk.1.1.1.1.1.2, ⟨hk.1.1.1.1.2, ⟨hk.1.1.1.2, ⟨hk.1.1.2, hk.1.2⟩⟩⟩⟩⟩)⟩, ⟨by repeat (first | (with_reducible first | exact HB.out | apply ba_ | apply pw_below_drewN | apply bd_) | exact HB.out)⟩⟩
    ·
     rw [if_neg c34] at H
     have c34b0 : (t367 != t369) = false := by simpa using c34
     (try (have c34b1 : decide (t367 = t369) = true := by simpa using c34))
     (try (have c34b2 : (t367 == t369) = true := by simpa using c34))
     clear c34
     by_cases c35 : (t379 != t381) = true
     ·
      rw [if_pos c35] at H
      have c35b0 : (t379 != t381) = true := c35
      (try (have c35b1 : decide (t379 = t381) = false := by simpa using c35))
      (try (have c35b2 : (t379 == t381) = false := by simpa using c35))
      (try (have c35b3 : ¬ (t379 = t381) := by simpa using c35))
      clear c35
      have H' := am_ H
      clear H
      go_wp2
      go_meet
      case rel => exact ⟨_, (true), (by first | rfl | (simp; done) | (simp [*]; done)), H', ⟨by first | omega | exact Nat.le_refl _⟩, ⟨by (with_reducible repeat (first | apply ra_ | apply rn_ | apply rd_)); exact rm_ HO363.out (fun _ hk => ⟨hk.1.1.1.1.1.1, ⟨hk.1.1.1.1.1.2, ⟨hk.1.1.1.1.2, ⟨hk.1.1.1.2, ⟨hk.1.1.2, hk.1.2⟩⟩⟩⟩⟩)⟩, ⟨by (with_reducible repeat (first | apply ra_ | apply rn_ | apply rd_)); exact rm_ HO365.out (fun _ hk => ⟨hk.1.1.1.1.1.1, ⟨hk.1.1.1.1.1.2, ⟨hk.1.1.1.1.2, ⟨hk.1.1.1.2, ⟨hk.1.1.2, hk.1.2⟩⟩⟩⟩⟩)⟩, ⟨by (with_reducible repeat (first | apply ra_ | apply rn_ | apply rd_)); exact rm_ HO376.out (fun _ hk => ⟨hk.1.1.1.1.1.2, ⟨hk.1.1.1.1.2, ⟨hk.1.1.1.1.1.1, ⟨hk.1.1.1.2, ⟨hk.1.1.2, hk.1.2⟩⟩⟩⟩⟩)⟩, ⟨by (with_reducible repeat (first | apply ra_ | apply rn_ | apply rd_)); exact rm_ HO378.out (fun _ hk => ⟨hk.1.1.1.1.1.2, ⟨hk.1.1.1.1.2, ⟨hk.1.1.1.1.1.1, ⟨hk.1.1.1.2, ⟨hk.1.1.2, hk.1.2⟩⟩⟩⟩⟩)⟩, ⟨by (with_reducible repeat (first | apply ra_ | apply rn_ | apply rd_)); exact rm_ HO389.out (fun _ hk => ⟨hk.1.1.1.1.1.2, ⟨hk.1.1.1.1.2, ⟨hk.1.1.1.2, ⟨hk.1.1.2, ⟨hk.1.1.1.1.1.1, hk.1.2⟩⟩⟩⟩⟩)⟩, ⟨by (with_reducible repeat (first | apply ra_ | apply rn_ | apply rd_)); exact rm_ HO391.out (fun _ hk => ⟨hk.1.1.1.1.1.2, ⟨hk.1.1.1.1.2, ⟨hk.1.1.1.2, ⟨hk.1.1.2, ⟨hk.1.1.1.1.1.1, hk.1.2⟩⟩⟩⟩⟩)⟩, ⟨by (with_reducible repeat (first | apply ra_ | apply rn_ | apply rd_)); exact rm_ HO395.out (fun _ hk => ⟨hk.1.1.1.1.1.1.2, ⟨hk.1.1.1.1.1.2, ⟨hk.1.1.1.1.2, ⟨hk.1.1.1.2, ⟨hk.1.1.2, hk.1.2⟩⟩⟩⟩⟩)⟩, ⟨by repeat (first | (with_reducible first | exact HB.out | apply ba_ | apply pw_below_drewN | apply bd_) | exact HB.out)⟩⟩
     ·
      rw [if_neg c35] at H
      have c35b0 : (t379 != t381) = false := by simpa using c35
      (try (have c35b1 : decide (t379 = t381) = true := by simpa using c35))
      (try (have c35b2 : (t379 == t381) = true := by simpa using c35))
      clear c35
      by_cases c36 : (t380 != t382) = true
      ·
       rw [if_pos c36] at H
       have c36b0 : (t380 != t382) = true := c36
       (try (have c36b1 : decide (t380 = t382) = false := by simpa using c36))
       (try (have c36b2 : (t380 == t382) = false := by simpa using c36))
       (try (have c36b3 : ¬ (t380 = t382) := by simpa using c36))
       clear c36
       have H' := am_ H
       clear H
       go_wp2
       go_meet
       case rel => exact ⟨_, (true), (by first | rfl | (simp; done) | (simp [*]; done)), H', ⟨by first | omega | exact Nat.le_refl _⟩, ⟨by (with_reducible repeat (first | apply ra_ | apply rn_ | apply rd_)); exact rm_ HO363.out (fun _ hk => ⟨hk.1.1.1.1.1.1, ⟨hk.1.1.1.1.1.2, ⟨hk.1.1.1.1.2, ⟨hk.1.1.1.2, ⟨hk.1.1.2, hk.1.2⟩⟩⟩⟩⟩)⟩, ⟨by (with_reducible repeat (first | apply ra_ | apply rn_ | apply rd_)); exact rm_ HO365.out (fun _ hk => ⟨hk.1.1.1.1.1.1, ⟨hk.1.1.1.1.1.2, ⟨hk.1.1.1.1.2, ⟨hk.1.1.1.2, ⟨hk.1.1.2, hk.1.2⟩⟩⟩⟩⟩)⟩, ⟨by (with_reducible repeat (first | apply ra_ | apply rn_ | apply rd_)); exact rm_ HO376.out (fun _ hk => ⟨hk.1.1.1.1.1.2, ⟨hk.1.1.1.1.2, ⟨hk.1.1.1.1.1.1, ⟨hk.1.1.1.2, ⟨hk.1.1.2, hk.1.2⟩⟩⟩⟩⟩)⟩, ⟨by (with_reducible repeat (first | apply ra_ | apply rn_ | apply rd_)); exact rm_ HO378.out (fun _ hk => ⟨hk.1.1.1.1.1.2, ⟨hk.1.1.1.1.2, ⟨hk.1.1.1.1.1.1, ⟨hk.1.1.1.2, ⟨hk.1.1.2, hk.1.2⟩⟩⟩⟩⟩)⟩, ⟨by (with_reducible repeat (first | apply ra_ | apply rn_ | apply rd_)); exact rm_ HO389.out (fun _ hk => ⟨hk.1.1.1.1.1.2, ⟨hk.1.1.1.1.2, ⟨hk.1.1.1.2, ⟨hk.1.1.2, ⟨hk.1.1.1.1.1.1, hk.1.2⟩⟩⟩⟩⟩)⟩, ⟨by (with_reducible repeat (first | apply ra_ | apply rn_ | apply rd_)); exact rm_ HO391.out (fun _ hk => ⟨hk.1.1.1.1.1.2, ⟨hk.1.1.1.1.2, ⟨hk.1.1.1.2, ⟨hk.1.1.2, ⟨hk.1.1.1.1.1.1, hk.1.2⟩⟩⟩⟩⟩)⟩, ⟨by (with_reducible repeat (first | apply ra_ | apply rn_ | apply rd_)); exact rm_ HO395.out (fun _ hk => ⟨hk.1.1.1.1.1.1.2, ⟨hk.1.1.1.1.1.2, ⟨hk.1.1.1.1.2, ⟨hk.1.1.1.2, ⟨hk.1.1.2, hk.1.2⟩⟩⟩⟩⟩)⟩, ⟨by repeat (first | (with_reducible first | exact HB.out | apply ba_ | apply pw_below_drewN | apply bd_) | exact HB.out)⟩⟩
      ·
       rw [if_neg c36] at H
       have c36b0 : (t380 != t382) = false := by simpa using c36
       (try (have c36b1 : decide (t380 = t382) = true := by simpa using c36))
       (try (have c36b2 : (t380 == t382) = true := by simpa using c36))
       clear c36
       by_cases c37 : (t393 != t397) = true
       ·
        rw [if_pos c37] at H
        have c37b0 : (t393 != t397) = true := c37
        (try (have c37b1 : decide (t393 = t397) = false := by simpa using c37))
        (try (have c37b2 : (t393 == t397) = false := by simpa using c37))
        (try (have c37b3 : ¬ (t393 = t397) := by simpa using c37))
        clear c37
        have H' := am_ H
        clear H
        go_wp2
        go_meet
        case rel => exact ⟨_, (true), (by first | rfl | (simp; done) | (simp [*]; done)), H', ⟨by first | omega | exact Nat.le_refl _⟩, ⟨by (with_reducible repeat (first | apply ra_ | apply rn_ | apply rd_)); exact rm_ HO363.out (fun _ hk => ⟨hk.1.1.1.1.1.1, ⟨hk.1.1.1.1.1.2, ⟨hk.1.1.1.1.2, ⟨hk.1.1.1.2, ⟨hk.1.1.2, hk.1.2⟩⟩⟩⟩⟩)⟩, ⟨by (with_reducible repeat (first | apply ra_ | apply rn_ | apply rd_)); exact rm_ HO365.out (fun _ hk => ⟨hk.1.1.1.1.1.1, ⟨hk.1.1.1.1.1.2, ⟨hk.1.1.1.1.2, ⟨hk.1.1.1.2, ⟨hk.1.1.2, hk.1.2⟩⟩⟩⟩⟩)⟩, ⟨by (with_reducible repeat (first | apply ra_ | apply rn_ | apply rd_)); exact rm_ HO376.out (fun _ hk => ⟨hk.1.1.1.1.1.2, ⟨hk.1.1.1.1.2, ⟨hk.1.1.1.1.1.1, ⟨hk.1.1.1.2, ⟨hk.1.1.2, hk.1.2⟩⟩⟩⟩⟩)⟩, ⟨by (with_reducible repeat (first | apply ra_ | apply rn_ | apply rd_)); exact rm_ HO378.out (fun _ hk => ⟨hk.1.1.1.1.1.2, ⟨hk.1.1.1.1.2, ⟨hk.1.1.1.1.1.1, ⟨hk.1.1.1.2, ⟨hk.1.1.2, hk.1.2⟩⟩⟩⟩⟩)⟩, ⟨by (with_reducible repeat (first | apply ra_ | apply rn_ | apply rd_)); exact rm_ HO389.out (fun _ hk => ⟨hk.1.1.1.1.1.2, ⟨hk.1.1.1.1.2, ⟨hk.1.1.1.2, ⟨hk.1.1.2, ⟨hk.1.1.1.1.1.1, hk.1.2⟩⟩⟩⟩⟩)⟩, ⟨by (with_reducible repeat (first | apply ra_ | apply rn_ | apply rd_)); exact rm_ HO391.out (fun _ hk => ⟨hk.1.1.1.1.1.2, ⟨hk.1.1.1.1.2, ⟨hk.1.1.1.2, ⟨hk.1.1.2, ⟨hk.1.1.1.1.1.1, hk.1.2⟩⟩⟩⟩⟩)⟩, ⟨by (with_reducible repeat (first | apply ra_ | apply rn_ | apply rd_)); exact rm_ HO395.out (fun _ hk => ⟨hk.1.1.1.1.1.1.2, ⟨hk.1.1.1.1.1.2, ⟨hk.1.1.1.1.2, ⟨hk.1.1.1.2, ⟨hk.1.1.2, hk.1.2⟩⟩⟩⟩⟩)⟩, ⟨by repeat (first | (with_reducible first | exact HB.out | apply ba_ | apply pw_below_drewN | apply bd_) | exact HB.out)⟩⟩
       ·
        rw [if_neg c37] at H
        have c37b0 : (t393 != t397) = false := by simpa using c37
        (try (have c37b1 : decide (t393 = t397) = true := by simpa using c37))
        (try (have c37b2 : (t393 == t397) = true := by simpa using c37))
        clear c37
        replace H := Option.bind_eq_some_iff.mp H
        obtain ⟨t400, A380, H⟩ := H
        replace H : (laws_FnDistributions.j0 k l0 t360 t361 t366 t373 t374 t379 t386 t387 t392 t393 (!t400)) = some r := H
        have A38 := am_ A380
        clear A380
        have H' := am_ H
        clear H
        obtain ⟨Ao39, co39, eo39⟩ := rs_ HO395.out
        subst eo39
        obtain ⟨Ao40, co40, eo40⟩ := rs_ HO399.out
        subst eo40
        go_wp2_with (first | (go_at_call 15; (with_reducible refine (laws_vInts.calls k _ _ t392 _ _ t396 t400 _ ?side1 ?side2 ?side3 ?side4 A38.out).mono ?_); (case side1 => repeat (first | exact (rr_ HO395.out).2.2 | (with_reducible refine ca_ ?_ _) | (with_reducible refine cn_ ?_ _) | (with_reducible refine cd_ ?_))); (case side2 => exact (rr_ HO395.out).2.1); (case side3 => repeat (first | exact (rr_ HO399.out).2.2 | (with_reducible refine ca_ ?_ _) | (with_reducible refine cn_ ?_ _) | (with_reducible refine cd_ ?_))); (case side4 => exact (rr_ HO399.out).2.1); rintro e w' ⟨rfl, ⟨nd, rfl⟩⟩))
        go_meet
        case rel => exact ⟨_, (!t400), (by first | rfl | (simp; done) | (simp [*]; done)), H', ⟨by first | omega | exact Nat.le_refl _⟩, ⟨by (with_reducible repeat (first | apply ra_ | apply rn_ | apply rd_)); exact rm_ HO363.out (fun _ hk => ⟨hk.1.1.1.1.1.1, ⟨hk.1.1.1.1.1.2, ⟨hk.1.1.1.1.2, ⟨hk.1.1.1.2, ⟨hk.1.1.2, hk.1.2⟩⟩⟩⟩⟩)⟩, ⟨by (with_reducible repeat (first | apply ra_ | apply rn_ | apply rd_)); exact rm_ HO365.out (fun _ hk => ⟨hk.1.1.1.1.1.1, ⟨hk.1.1.1.1.1.2, ⟨hk.1.1.1.1.2, ⟨hk.1.1.1.2, ⟨hk.1.1.2, hk.1.2⟩⟩⟩⟩⟩)⟩, ⟨by (with_reducible repeat (first | apply ra_ | apply rn_ | apply rd_)); exact rm_ HO376.out (fun _ hk => ⟨hk.1.1.1.1.1.2, ⟨hk.1.1.1.1.2, ⟨hk.1.1.1.1.1.1, ⟨hk.1.1.1.2, ⟨hk.1.1.2, hk.1.2⟩⟩⟩⟩⟩)⟩, ⟨by (with_reducible repeat (first | apply ra_ | apply rn_ | apply rd_)); exact rm_ HO378.out (fun _ hk => ⟨hk.1.1.1.1.1.2, ⟨hk.1.1.1.1.2, ⟨hk.1.1.1.1.1.1, ⟨hk.1.1.1.2, ⟨hk.1.1.2, hk.1.2⟩⟩⟩⟩⟩)⟩, ⟨by (with_reducible repeat (first | apply ra_ | apply rn_ | apply rd_)); exact rm_ HO389.out (fun _ hk => ⟨hk.1.1.1.1.1.2, ⟨hk.1.1.1.1.2, ⟨hk.1.1.1.2, ⟨hk.1.1.2, ⟨hk.1.1.1.1.1.1, hk.1.2⟩⟩⟩⟩⟩)⟩, ⟨by (with_reducible repeat (first | apply ra_ | apply rn_ | apply rd_)); exact rm_ HO391.out (fun _ hk => ⟨hk.1.1.1.1.1.2, ⟨hk.1.1.1.1.2, ⟨hk.1.1.1.2, ⟨hk.1.1.2, ⟨hk.1.1.1.1.1.1, hk.1.2⟩⟩⟩⟩⟩)⟩, ⟨by (with_reducible repeat (first | apply ra_ | apply rn_ | apply rd_)); exact rm_ HO395.out (fun _ hk => ⟨hk.1.1.1.1.1.1.2, ⟨hk.1.1.1.1.1.2, ⟨hk.1.1.1.1.2, ⟨hk.1.1.1.2, ⟨hk.1.1.2, hk.1.2⟩⟩⟩⟩⟩)⟩, ⟨by repeat (first | (with_reducible first | exact HB.out | apply ba_ | apply pw_below_drewN | apply bd_) | exact HB.out)⟩⟩
  case rest =>
   clear HC15
   try clear c1
   try clear p2
   try clear c3
   try clear c4
   try clear c5
   try clear c6
   try clear c7
   try clear c8
   try clear c9
   try clear c10
   try clear c11
   try clear c12
   try clear c13
   try clear c14
   try clear c33
   try clear c33b0
   try clear c33b1
   try clear c33b2
   try clear c34
   try clear c34b0
   try clear c34b1
   try clear c34b2
   try clear c35
   try clear c35b0
   try clear c35b1
   try clear c35b2
   try clear c36
   try clear c36b0
   try clear c36b1
   try clear c36b2
   try clear c37
   try clear c37b0
   try clear c37b1
   try clear c37b2
   obtain ⟨kq, x116_14, rfl, HA, HJ14, HO_3, HO_4, HO_9, HO_10, HO_15, HO_16, HO_17, HB⟩ := hcut
   cases kq with
   | zero => exact absurd HA.out (by simp [laws_FnDistributions.j0])
   | succ kj14 =>
    have H := HA.out
    clear HA
    simp only [laws_FnDistributions.j0] at H
    by_cases c41 : x116_14 = true
    ·
     subst c41
     have H1 : (some false) = some r := by rw [if_pos rfl] at H; exact H
     clear H
     have H := H1
     clear H1
     obtain rfl := Option.some.inj H
     go_wp2
     go_ret
     exact ⟨by first | rfl | (simp [errW_none, errW_some] <;> rfl) | (simp [*, errW_none, errW_some] <;> rfl), by repeat (first | (with_reducible first | exact HB.out | apply ba_ | apply pw_below_drewN | apply bd_) | exact HB.out)⟩
    ·
     replace c41 := Bool.eq_false_iff.mpr c41
     subst c41
     have H1 : (laws_FnDistributions.l0 kj14 l0 t360 t361 t366 t373 t374 t379 t386 t387 t392 t393 0) = some r := by rw [if_neg (show ¬ (false = true) by decide)] at H; exact H
     clear H
     have H := H1
     clear H1
     have H' := am_ H
     clear H
     go_wp2
     go_loopg [21] kj14 (fun kq v21 w' => ∃ (x21_2 : Int), v21 = .int .i64 x21_2 ∧ Aside0 (laws_FnDistributions.l0 kq l0 t360 t361 t366 t373 t374 t379 t386 t387 t392 t393 x21_2 = some r) ∧ Aside0 (kq ≤ kj14) ∧ Aside0 (Kd.R (Kd.int .i64) 3 w' w.heap.size (fun k_ => some k_ ≠ ((.slice Ao18 t361.length co18) : Value).ownBlock ∧ some k_ ≠ ((.slice Ao23 t373.length co23) : Value).ownBlock ∧ some k_ ≠ ((.slice Ao24 t374.length co24) : Value).ownBlock ∧ some k_ ≠ ((.slice Ao29 t386.length co29) : Value).ownBlock ∧ some k_ ≠ ((.slice Ao30 t387.length co30) : Value).ownBlock ∧ some k_ ≠ (v394 : Value).ownBlock) (.slice Ao17 t360.length co17) t360) ∧ Aside0 (Kd.R (Kd.int .i64) 3 w' w.heap.size (fun k_ => some k_ ≠ ((.slice Ao17 t360.length co17) : Value).ownBlock ∧ some k_ ≠ ((.slice Ao23 t373.length co23) : Value).ownBlock ∧ some k_ ≠ ((.slice Ao24 t374.length co24) : Value).ownBlock ∧ some k_ ≠ ((.slice Ao29 t386.length co29) : Value).ownBlock ∧ some k_ ≠ ((.slice Ao30 t387.length co30) : Value).ownBlock ∧ some k_ ≠ (v394 : Value).ownBlock) (.slice Ao18 t361.length co18) t361) ∧ Aside0 (Kd.R (Kd.int .i64) 3 w' w.heap.size (fun k_ => some k_ ≠ ((.slice Ao17 t360.length co17) : Value).ownBlock ∧ some k_ ≠ ((.slice Ao18 t361.length co18) : Value).ownBlock ∧ some k_ ≠ ((.slice Ao24 t374.length co24) : Value).ownBlock ∧ some k_ ≠ ((.slice Ao29 t386.length co29) : Value).ownBlock ∧ some k_ ≠ ((.slice Ao30 t387.length co30) : Value).ownBlock ∧ some k_ ≠ (v394 : Value).ownBlock) (.slice Ao23 t373.length co23) t373) ∧ Aside0 (Kd.R (Kd.int .i64) 3 w' w.heap.size (fun k_ => some k_ ≠ ((.slice Ao17 t360.length co17) : Value).ownBlock ∧ some k_ ≠ ((.slice Ao18 t361.length co18) : Value).ownBlock ∧ some k_ ≠ ((.slice Ao23 t373.length co23) : Value).ownBlock ∧ some k_ ≠ ((.slice Ao29 t386.length co29) : Value).ownBlock ∧ some k_ ≠ ((.slice Ao30 t387.length co30) : Value).ownBlock ∧ some k_ ≠ (v394 : Value).ownBlock) (.slice Ao24 t374.length co24) t374) ∧ Aside0 (Kd.R (Kd.int .i64) 3 w' w.heap.size (fun k_ => some k_ ≠ ((.slice Ao17 t360.length co17) : Value).ownBlock ∧ some k_ ≠ ((.slice Ao18 t361.length co18) : Value).ownBlock ∧ some k_ ≠ ((.slice Ao23 t373.length co23) : Value).ownBlock ∧ some k_ ≠ ((.slice Ao24 t374.length co24) : Value).ownBlock ∧ some k_ ≠ ((.slice Ao30 t387.length co30) : Value).ownBlock ∧ some k_ ≠ (v394 : Value).ownBlock) (.slice Ao29 t386.length co29) t386) ∧ Aside0 (Kd.R (Kd.int .i64) 3 w' w.heap.size (fun k_ => some k_ ≠ ((.slice Ao17 t360.length co17) : Value).ownBlock ∧ some k_ ≠ ((.slice Ao18 t361.length co18) : Value).ownBlock ∧ some k_ ≠ ((.slice Ao23 t373.length co23) : Value).ownBlock ∧ some k_ ≠ ((.slice Ao24 t374.length co24) : Value).ownBlock ∧ some k_ ≠ ((.slice Ao29 t386.length co29) : Value).ownBlock ∧ some k_ ≠ (v394 : Value).ownBlock) (.slice Ao30 t387.length co30) t387) ∧ Aside0 (Kd.R (Kd.int .i64) 3 w' w.heap.size (fun k_ => some k_ ≠ ((.slice Ao17 t360.length co17) : Value).ownBlock ∧ some k_ ≠ ((.slice Ao18 t361.length co18) : Value).ownBlock ∧ some k_ ≠ ((.slice Ao23 t373.length co23) : Value).ownBlock ∧ some k_ ≠ ((.slice Ao24 t374.length co24) : Value).ownBlock ∧ some k_ ≠ ((.slice Ao29 t386.length co29) : Value).ownBlock ∧ some k_ ≠ ((.slice Ao30 t387.length co30) : Value).ownBlock) v394 t392) ∧ Aside0 (Below w.heap.size w w'))
     case atStart => exact ⟨(0), (by first | rfl | (simp; done) | (simp [*]; done)), H', ⟨Nat.le_refl _⟩, ⟨by (with_reducible repeat (first | apply ra_ | apply rn_ | apply rd_)); exact HO_3.out⟩, ⟨by (with_reducible repeat (first | apply ra_ | apply rn_ | apply rd_)); exact HO_4.out⟩, ⟨by (with_reducible repeat (first | apply ra_ | apply rn_ | apply rd_)); exact HO_9.out⟩, ⟨by (with_reducible repeat (first | apply ra_ | apply rn_ | apply rd_)); exact HO_10.out⟩, ⟨by (with_reducible repeat (first | apply ra_ | apply rn_ | apply rd_)); exact HO_15.out⟩, ⟨by (with_reducible repeat (first | apply ra_ | apply rn_ | apply rd_)); exact HO_16.out⟩, ⟨by (with_reducible repeat (first | apply ra_ | apply rn_ | apply rd_)); exact HO_17.out⟩, ⟨by repeat (first | (with_reducible first | exact HB.out | apply ba_ | apply pw_below_drewN | apply bd_) | exact HB.out)⟩⟩
     case round =>
      clear H'
      try clear c1
      try clear p2
      try clear c3
      try clear c4
      try clear c5
      try clear c6
      try clear c7
      try clear c8
      try clear c9
      try clear c10
      try clear c11
      try clear c12
      try clear c13
      try clear c14
      try clear c33
      try clear c33b0
      try clear c33b1
      try clear c33b2
      try clear c34
      try clear c34b0
      try clear c34b1
      try clear c34b2
      try clear c35
      try clear c35b0
      try clear c35b1
      try clear c35b2
      try clear c36
      try clear c36b0
      try clear c36b1
      try clear c36b2
      try clear c37
      try clear c37b0
      try clear c37b1
      try clear c37b2
      try clear c41
      try clear p2
      obtain ⟨x21_2, rfl, HA, HK2, HO_3, HO_4, HO_9, HO_10, HO_15, HO_16, HO_17, HB⟩ := hrel
      cases gk with
      | zero => exact absurd HA.out (by simp [laws_FnDistributions.l0])
      | succ k2 =>
       have H := HA.out
       clear HA
       simp only [laws_FnDistributions.l0] at H
       by_cases c42 : x21_2 ≤ 6
       ·
        rw [if_pos c42] at H
        have c42b0 : decide (x21_2 ≤ 6) = true := decide_eq_true c42
        clear c42
        replace H := Option.bind_eq_some_iff.mp H
        obtain ⟨t401, A430, H⟩ := H
        replace H : (if t366 = true then ((impl_CriticalOrder.f k2 t360 (Int.tmod t401 7) x21_2).bind fun bt402 => ((impl_CriticalOrder.f k2 t361 (Int.tmod t401 7) x21_2).bind fun bt404 => (if bt402.1 < bt404.1 then (some false) else (laws_FnDistributions.j2 k2 l0 t360 t361 t366 t373 t374 t379 t386 t387 t392 t393 x21_2 (Int.tmod t401 7))))) else (laws_FnDistributions.j2 k2 l0 t360 t361 t366 t373 t374 t379 t386 t387 t392 t393 x21_2 (Int.tmod t401 7))) = some r := H
        have A43 := am_ A430
        clear A430
        have HC44 := am_ H
        clear H
        go_upto_if 125 with (first | ((with_reducible refine gc_ (f := 16) rfl ?_); refine goesL_ (some 123) rfl rfl Try.func16 (by kernel_rfl) rfl #[.slice A0 l0.length c0, .int .i64 x21_2] rfl (by (try simp only [List.map_toArray, List.map_cons, List.map_nil]); first | done | rfl | (simp only [List.length_drop, List.length_take]; rfl)) ?_; (with_reducible refine (laws_vAt.calls _ _ l0 x21_2 t401 _ ?side1 ?side2 A43.out).mono ?_); (case side1 => repeat (first | exact (Kd.C_below HR0.out HB.out) | (with_reducible refine ca_ ?_ _) | (with_reducible refine cn_ ?_ _) | (with_reducible refine cd_ ?_))); (case side2 => exact HC0.out); rintro e w' ⟨rfl, ⟨nd, rfl⟩⟩; refine ⟨_, rfl, ?_⟩))
        (try simp only [Act.put, List.setIfInBounds_toArray, List.set_cons_zero, List.set_cons_succ])
        go_cut [] (fun wc => ∃ (kq : Nat), Aside0 (laws_FnDistributions.j2 kq l0 t360 t361 t366 t373 t374 t379 t386 t387 t392 t393 x21_2 (Int.tmod t401 7) = some r) ∧ Aside0 (kq ≤ k2) ∧ Aside0 (Kd.R (Kd.int .i64) 3 wc w.heap.size (fun k_ => some k_ ≠ ((.slice Ao18 t361.length co18) : Value).ownBlock ∧ some k_ ≠ ((.slice Ao23 t373.length co23) : Value).ownBlock ∧ some k_ ≠ ((.slice Ao24 t374.length co24) : Value).ownBlock ∧ some k_ ≠ ((.slice Ao29 t386.length co29) : Value).ownBlock ∧ some k_ ≠ ((.slice Ao30 t387.length co30) : Value).ownBlock ∧ some k_ ≠ (v394 : Value).ownBlock) (.slice Ao17 t360.length co17) t360) ∧ Aside0 (Kd.R (Kd.int .i64) 3 wc w.heap.size (fun k_ => some k_ ≠ ((.slice Ao17 t360.length co17) : Value).ownBlock ∧ some k_ ≠ ((.slice Ao23 t373.length co23) : Value).ownBlock ∧ some k_ ≠ ((.slice Ao24 t374.length co24) : Value).ownBlock ∧ some k_ ≠ ((.slice Ao29 t386.length co29) : Value).ownBlock ∧ some k_ ≠ ((.slice Ao30 t387.length co30) : Value).ownBlock ∧ some k_ ≠ (v394 : Value).ownBlock) (.slice Ao18 t361.length co18) t361) ∧ Aside0 (Kd.R (Kd.int .i64) 3 wc w.heap.size (fun k_ => some k_ ≠ ((.slice Ao17 t360.length co17) : Value).ownBlock ∧ some k_ ≠ ((.slice Ao18 t361.length co18) : Value).ownBlock ∧ some k_ ≠ ((.slice Ao24 t374.length co24) : Value).ownBlock ∧ some k_ ≠ ((.slice Ao29 t386.length co29) : Value).ownBlock ∧ some k_ ≠ ((.slice Ao30 t387.length co30) : Value).ownBlock ∧ some k_ ≠ (v394 : Value).ownBlock) (.slice Ao23 t373.length co23) t373) ∧ Aside0 (Kd.R (Kd.int .i64) 3 wc w.heap.size (fun k_ => some k_ ≠ ((.slice Ao17 t360.length co17) : Value).ownBlock ∧ some k_ ≠ ((.slice Ao18 t361.length co18) : Value).ownBlock ∧ some k_ ≠ ((.slice Ao23 t373.length co23) : Value).ownBlock ∧ some k_ ≠ ((.slice Ao29 t386.length co29) : Value).ownBlock ∧ some k_ ≠ ((.slice Ao30 t387.length co30) : Value).ownBlock ∧ some k_ ≠ (v394 : Value).ownBlock) (.slice Ao24 t374.length co24) t374) ∧ Aside0 (Kd.R (Kd.int .i64) 3 wc w.heap.size (fun k_ => some k_ ≠ ((.slice Ao17 t360.length co17) : Value).ownBlock ∧ some k_ ≠ ((.slice Ao18 t361.length co18) : Value).ownBlock ∧ some k_ ≠ ((.slice Ao23 t373.length co23) : Value).ownBlock ∧ some k_ ≠ ((.slice Ao24 t374.length co24) : Value).ownBlock ∧ some k_ ≠ ((.slice Ao30 t387.length co30) : Value).ownBlock ∧ some k_ ≠ (v394 : Value).ownBlock) (.slice Ao29 t386.length co29) t386) ∧ Aside0 (Kd.R (Kd.int .i64) 3 wc w.heap.size (fun k_ => some k_ ≠ ((.slice Ao17 t360.length co17) : Value).ownBlock ∧ some k_ ≠ ((.slice Ao18 t361.length co18) : Value).ownBlock ∧ some k_ ≠ ((.slice Ao23 t373.length co23) : Value).ownBlock ∧ some k_ ≠ ((.slice Ao24 t374.length co24) : Value).ownBlock ∧ some k_ ≠ ((.slice Ao29 t386.length co29) : Value).ownBlock ∧ some k_ ≠ (v394 : Value).ownBlock) (.slice Ao30 t387.length co30) t387) ∧ Aside0 (Kd.R (Kd.int .i64) 3 wc w.heap.size (fun k_ => some k_ ≠ ((.slice Ao17 t360.length co17) : Value).ownBlock ∧ some k_ ≠ ((.slice Ao18 t361.length co18) : Value).ownBlock ∧ some k_ ≠ ((.slice Ao23 t373.length co23) : Value).ownBlock ∧ some k_ ≠ ((.slice Ao24 t374.length co24) : Value).ownBlock ∧ some k_ ≠ ((.slice Ao29 t386.length co29) : Value).ownBlock ∧ some k_ ≠ ((.slice Ao30 t387.length co30) : Value).ownBlock) v394 t392) ∧ Aside0 (Below w.heap.size w wc))
        case first =>
         have H := HC44.out
         clear HC44
         by_cases c45 : t366 = true
         ·
          subst c45
          have H1 : ((impl_CriticalOrder.f k2 t360 (Int.tmod t401 7) x21_2).bind fun bt402 => ((impl_CriticalOrder.f k2 t361 (Int.tmod t401 7) x21_2).bind fun bt404 => (if bt402.1 < bt404.1 then (some false) else (laws_FnDistributions.j2 k2 l0 t360 t361 true t373 t374 t379 t386 t387 t392 t393 x21_2 (Int.tmod t401 7))))) = some r := by rw [if_pos rfl] at H; exact H
          clear H
          have H := H1
          clear H1
          replace H := Option.bind_eq_some_iff.mp H
          obtain ⟨⟨t402, t403⟩, A460, H⟩ := H
          replace H : ((impl_CriticalOrder.f k2 t361 (Int.tmod t401 7) x21_2).bind fun bt404 => (if t402 < bt404.1 then (some false) else (laws_FnDistributions.j2 k2 l0 t360 t361 true t373 t374 t379 t386 t387 t392 t393 x21_2 (Int.tmod t401 7)))) = some r := H
          have A46 := am_ A460
          clear A460
          replace H := Option.bind_eq_some_iff.mp H
          obtain ⟨⟨t404, t405⟩, A470, H⟩ := H
          replace H : (if t402 < t404 then (some false) else (laws_FnDistributions.j2 k2 l0 t360 t361 true t373 t374 t379 t386 t387 t392 t393 x21_2 (Int.tmod t401 7))) = some r := H
          have A47 := am_ A470
          clear A470
          by_cases c48 : t402 < t404
          ·
           rw [if_pos c48] at H
           have c48b0 : decide (t402 < t404) = true := decide_eq_true c48
           clear c48
           (first | rw [c48b0] | (simp only [i64_w, i32_w]; rw [c48b0]) | skip)
           obtain rfl := Option.some.inj H
           go_wp2_with (first | ((with_reducible refine gc_ (f := 17) rfl ?_); refine goesL_ (some 130) rfl rfl Try.func17 (by kernel_rfl) rfl #[.slice Ao17 t360.length co17, .int .i64 (Int.tmod t401 7), .int .i64 x21_2] rfl (by (try simp only [List.map_toArray, List.map_cons, List.map_nil]); first | done | rfl | (simp only [List.length_drop, List.length_take]; rfl)) ?_; (with_reducible refine (impl_CriticalOrder.calls k2 _ _ t360 (Int.tmod t401 7) x21_2 t402 t403 _ ?side1 ?side2 A46.out).mono ?_); (case side1 => repeat (first | exact (rr_ HO_3.out).2.2 | (with_reducible refine ca_ ?_ _) | (with_reducible refine cn_ ?_ _) | (with_reducible refine cd_ ?_))); (case side2 => exact (rr_ HO_3.out).2.1); rintro e w49 ⟨rfl, hb⟩; refine ⟨_, rfl, ?_⟩; have n0_ := am_ (rb_ (by (with_reducible repeat (first | apply ra_ | apply rn_ | apply rd_)); exact HO_3.out) hb); have n1_ := am_ (rb_ (by (with_reducible repeat (first | apply ra_ | apply rn_ | apply rd_)); exact HO_4.out) hb); have n2_ := am_ (rb_ (by (with_reducible repeat (first | apply ra_ | apply rn_ | apply rd_)); exact HO_9.out) hb); have n3_ := am_ (rb_ (by (with_reducible repeat (first | apply ra_ | apply rn_ | apply rd_)); exact HO_10.out) hb); have n4_ := am_ (rb_ (by (with_reducible repeat (first | apply ra_ | apply rn_ | apply rd_)); exact HO_15.out) hb); have n5_ := am_ (rb_ (by (with_reducible repeat (first | apply ra_ | apply rn_ | apply rd_)); exact HO_16.out) hb); have n6_ := am_ (rb_ (by (with_reducible repeat (first | apply ra_ | apply rn_ | apply rd_)); exact HO_17.out) hb); have n7_ := am_ (bp_ (by repeat (first | (with_reducible first | exact HB.out | apply ba_ | apply pw_below_drewN | apply bd_) | exact HB.out)) hb); clear HO_3; clear HO_4; clear HO_9; clear HO_10; clear HO_15; clear HO_16; clear HO_17; clear HB; have HO_3 := n0_; have HO_4 := n1_; have HO_9 := n2_; have HO_10 := n3_; have HO_15 := n4_; have HO_16 := n5_; have HO_17 := n6_; have HB := n7_; clear n0_ n1_ n2_ n3_ n4_ n5_ n6_ n7_; (try clear hb); (try clear hb2); (try clear hk); (try clear hi)) | ((with_reducible refine gc_ (f := 17) rfl ?_); refine goesL_ (some 137) rfl rfl Try.func17 (by kernel_rfl) rfl #[.slice Ao18 t361.length co18, .int .i64 (Int.tmod t401 7), .int .i64 x21_2] rfl (by (try simp only [List.map_toArray, List.map_cons, List.map_nil]); first | done | rfl | (simp only [List.length_drop, List.length_take]; rfl)) ?_; (with_reducible refine (impl_CriticalOrder.calls k2 _ _ t361 (Int.tmod t401 7) x21_2 t404 t405 _ ?side1 ?side2 A47.out).mono ?_); (case side1 => repeat (first | exact (rr_ HO_4.out).2.2 | (with_reducible refine ca_ ?_ _) | (with_reducible refine cn_ ?_ _) | (with_reducible refine cd_ ?_))); (case side2 => exact (rr_ HO_4.out).2.1); rintro e w50 ⟨rfl, hb⟩; refine ⟨_, rfl, ?_⟩; have n0_ := am_ (rb_ (by (with_reducible repeat (first | apply ra_ | apply rn_ | apply rd_)); exact HO_3.out) hb); have n1_ := am_ (rb_ (by (with_reducible repeat (first | apply ra_ | apply rn_ | apply rd_)); exact HO_4.out) hb); have n2_ := am_ (rb_ (by (with_reducible repeat (first | apply ra_ | apply rn_ | apply rd_)); exact HO_9.out) hb); have n3_ := am_ (rb_ (by (with_reducible repeat (first | apply ra_ | apply rn_ | apply rd_)); exact HO_10.out) hb); have n4_ := am_ (rb_ (by (with_reducible repeat (first | apply ra_ | apply rn_ | apply rd_)); exact HO_15.out) hb); have n5_ := am_ (rb_ (by (with_reducible repeat (first | apply ra_ | apply rn_ | apply rd_)); exact HO_16.out) hb); have n6_ := am_ (rb_ (by (with_reducible repeat (first | apply ra_ | apply rn_ | apply rd_)); exact HO_17.out) hb); have n7_ := am_ (bp_ (by repeat (first | (with_reducible first | exact HB.out | apply ba_ | apply pw_below_drewN | apply bd_) | exact HB.out)) hb); clear HO_3; clear HO_4; clear HO_9; clear HO_10; clear HO_15; clear HO_16; clear HO_17; clear HB; have HO_3 := n0_; have HO_4 := n1_; have HO_9 := n2_; have HO_10 := n3_; have HO_15 := n4_; have HO_16 := n5_; have HO_17 := n6_; have HB := n7_; clear n0_ n1_ n2_ n3_ n4_ n5_ n6_ n7_; (try clear hb); (try clear hb2); (try clear hk); (try clear hi)))
           go_ret
           exact ⟨by first | rfl | (simp [errW_none, errW_some] <;> rfl) | (simp [*, errW_none, errW_some] <;> rfl), by repeat (first | (with_reducible first | exact HB.out | apply ba_ | apply pw_below_drewN | apply bd_) | exact HB.out)⟩
          ·
           rw [if_neg c48] at H
           have c48b0 : decide (t402 < t404) = false := decide_eq_false c48
           clear c48
           (first | rw [c48b0] | (simp only [i64_w, i32_w]; rw [c48b0]) | skip)
           have H' := am_ H
           clear H
           go_wp2_with (first | ((with_reducible refine gc_ (f := 17) rfl ?_); refine goesL_ (some 130) rfl rfl Try.func17 (by kernel_rfl) rfl #[.slice Ao17 t360.length co17, .int .i64 (Int.tmod t401 7), .int .i64 x21_2] rfl (by (try simp only [List.map_toArray, List.map_cons, List.map_nil]); first | done | rfl | (simp only [List.length_drop, List.length_take]; rfl)) ?_; (with_reducible refine (impl_CriticalOrder.calls k2 _ _ t360 (Int.tmod t401 7) x21_2 t402 t403 _ ?side1 ?side2 A46.out).mono ?_); (case side1 => repeat (first | exact (rr_ HO_3.out).2.2 | (with_reducible refine ca_ ?_ _) | (with_reducible refine cn_ ?_ _) | (with_reducible refine cd_ ?_))); (case side2 => exact (rr_ HO_3.out).2.1); rintro e w51 ⟨rfl, hb⟩; refine ⟨_, rfl, ?_⟩; have n0_ := am_ (rb_ (by (with_reducible repeat (first | apply ra_ | apply rn_ | apply rd_)); exact HO_3.out) hb); have n1_ := am_ (rb_ (by (with_reducible repeat (first | apply ra_ | apply rn_ | apply rd_)); exact HO_4.out) hb); have n2_ := am_ (rb_ (by (with_reducible repeat (first | apply ra_ | apply rn_ | apply rd_)); exact HO_9.out) hb); have n3_ := am_ (rb_ (by (with_reducible repeat (first | apply ra_ | apply rn_ | apply rd_)); exact HO_10.out) hb); have n4_ := am_ (rb_ (by (with_reducible repeat (first | apply ra_ | apply rn_ | apply rd_)); exact HO_15.out) hb); have n5_ := am_ (rb_ (by (with_reducible repeat (first | apply ra_ | apply rn_ | apply rd_)); exact HO_16.out) hb); have n6_ := am_ (rb_ (by (with_reducible repeat (first | apply ra_ | apply rn_ | apply rd_)); exact HO_17.out) hb); have n7_ := am_ (bp_ (by repeat (first | (with_reducible first | exact HB.out | apply ba_ | apply pw_below_drewN | apply bd_) | exact HB.out)) hb); clear HO_3; clear HO_4; clear HO_9; clear HO_10; clear HO_15; clear HO_16; clear HO_17; clear HB; have HO_3 := n0_; have HO_4 := n1_; have HO_9 := n2_; have HO_10 := n3_; have HO_15 := n4_; have HO_16 := n5_; have HO_17 := n6_; have HB := n7_; clear n0_ n1_ n2_ n3_ n4_ n5_ n6_ n7_; (try clear hb); (try clear hb2); (try clear hk); (try clear hi)) | ((with_reducible refine gc_ (f := 17) rfl ?_); refine goesL_ (some 137) rfl rfl Try.func17 (by kernel_rfl) rfl #[.slice Ao18 t361.length co18, .int .i64 (Int.tmod t401 7), .int .i64 x21_2] rfl (by (try simp only [List.map_toArray, List.map_cons, List.map_nil]); first | done | rfl | (simp only [List.length_drop, List.length_take]; rfl)) ?_; (with_reducible refine (impl_CriticalOrder.calls k2 _ _ t361 (Int.tmod t401 7) x21_2 t404 t405 _ ?side1 ?side2 A47.out).mono ?_); (case side1 => repeat (first | exact (rr_ HO_4.out).2.2 | (with_reducible refine ca_ ?_ _) | (with_reducible refine cn_ ?_ _) | (with_reducible refine cd_ ?_))); (case side2 => exact (rr_ HO_4.out).2.1); rintro e w52 ⟨rfl, hb⟩; refine ⟨_, rfl, ?_⟩; have n0_ := am_ (rb_ (by (with_reducible repeat (first | apply ra_ | apply rn_ | apply rd_)); exact HO_3.out) hb); have n1_ := am_ (rb_ (by (with_reducible repeat (first | apply ra_ | apply rn_ | apply rd_)); exact HO_4.out) hb); have n2_ := am_ (rb_ (by (with_reducible repeat (first | apply ra_ | apply rn_ | apply rd_)); exact HO_9.out) hb); have n3_ := am_ (rb_ (by (with_reducible repeat (first | apply ra_ | apply rn_ | apply rd_)); exact HO_10.out) hb); have n4_ := am_ (rb_ (by (with_reducible repeat (first | apply ra_ | apply rn_ | apply rd_)); exact HO_15.out) hb); have n5_ := am_ (rb_ (by (with_reducible repeat (first | apply ra_ | apply rn_ | apply rd_)); exact HO_16.out) hb); have n6_ := am_ (rb_ (by (with_reducible repeat (first | apply ra_ | apply rn_ | apply rd_)); exact HO_17.out) hb); have n7_ := am_ (bp_ (by repeat (first | (with_reducible first | exact HB.out | apply ba_ | apply pw_below_drewN | apply bd_) | exact HB.out)) hb); clear HO_3; clear HO_4; clear HO_9; clear HO_10; clear HO_15; clear HO_16; clear HO_17; clear HB; have HO_3 := n0_; have HO_4 := n1_; have HO_9 := n2_; have HO_10 := n3_; have HO_15 := n4_; have HO_16 := n5_; have HO_17 := n6_; have HB := n7_; clear n0_ n1_ n2_ n3_ n4_ n5_ n6_ n7_; (try clear hb); (try clear hb2); (try clear hk); (try clear hi)))
           go_meet
           case rel => exact ⟨_, H', ⟨by have := HJ14.out; have := HK2.out; first | omega | exact Nat.le_refl _⟩, ⟨by (with_reducible repeat (first | apply ra_ | apply rn_ | apply rd_)); exact HO_3.out⟩, ⟨by (with_reducible repeat (first | apply ra_ | apply rn_ | apply rd_)); exact HO_4.out⟩, ⟨by (with_reducible repeat (first | apply ra_ | apply rn_ | apply rd_)); exact HO_9.out⟩, ⟨by (with_reducible repeat (first | apply ra_ | apply rn_ | apply rd_)); exact HO_10.out⟩, ⟨by (with_reducible repeat (first | apply ra_ | apply rn_ | apply rd_)); exact HO_15.out⟩, ⟨by (with_reducible repeat (first | apply ra_ | apply rn_ | apply rd_)); exact HO_16.out⟩, ⟨by (with_reducible repeat (first | apply ra_ | apply rn_ | apply rd_)); exact HO_17.out⟩, ⟨by repeat (first | (with_reducible first | exact HB.out | apply ba_ | apply pw_below_drewN | apply bd_) | exact HB.out)⟩⟩
         ·
          replace c45 := Bool.eq_false_iff.mpr c45
          subst c45
          have H1 : (laws_FnDistributions.j2 k2 l0 t360 t361 false t373 t374 t379 t386 t387 t392 t393 x21_2 (Int.tmod t401 7)) = some r := by rw [if_neg (show ¬ (false = true) by decide)] at H; exact H
          clear H
          have H := H1
          clear H1
          have H' := am_ H
          clear H
          go_wp2
          go_meet
          case rel => exact ⟨_, H', ⟨by have := HJ14.out; have := HK2.out; first | omega | exact Nat.le_refl _⟩, ⟨by (with_reducible repeat (first | apply ra_ | apply rn_ | apply rd_)); exact HO_3.out⟩, ⟨by (with_reducible repeat (first | apply ra_ | apply rn_ | apply rd_)); exact HO_4.out⟩, ⟨by (with_reducible repeat (first | apply ra_ | apply rn_ | apply rd_)); exact HO_9.out⟩, ⟨by (with_reducible repeat (first | apply ra_ | apply rn_ | apply rd_)); exact HO_10.out⟩, ⟨by (with_reducible repeat (first | apply ra_ | apply rn_ | apply rd_)); exact HO_15.out⟩, ⟨by (with_reducible repeat (first | apply ra_ | apply rn_ | apply rd_)); exact HO_16.out⟩, ⟨by (with_reducible repeat (first | apply ra_ | apply rn_ | apply rd_)); exact HO_17.out⟩, ⟨by repeat (first | (with_reducible first | exact HB.out | apply ba_ | apply pw_below_drewN | apply bd_) | exact HB.out)⟩⟩
        case rest =>
         clear HC44
         try clear c1
         try clear p2
         try clear c3
         try clear c4
         try clear c5
         try clear c6
         try clear c7
         try clear c8
         try clear c9
         try clear c10
         try clear c11
         try clear c12
         try clear c13
         try clear c14
         try clear c16
         try clear c17
         try clear c33
         try clear c33b0
         try clear c33b1
         try clear c33b2
         try clear c34
         try clear c34b0
         try clear c34b1
         try clear c34b2
         try clear c35
         try clear c35b0
         try clear c35b1
         try clear c35b2
         try clear c36
         try clear c36b0
         try clear c36b1
         try clear c36b2
         try clear c37
         try clear c37b0
         try clear c37b1
         try clear c37b2
         try clear c41
         try clear c42
         try clear c42b0
         try clear c45
         try clear c48
         try clear c48b0
         try clear p2
         obtain ⟨kq, HA, HJ43, HO_3, HO_4, HO_9, HO_10, HO_15, HO_16, HO_17, HB⟩ := hcut
         cases kq with
         | zero => exact absurd HA.out (by simp [laws_FnDistributions.j2])
         | succ kj43 =>
          have H := HA.out
          clear HA
          simp only [laws_FnDistributions.j2] at H
          have HC53 := am_ H
          clear H
          go_upto_region 23 with (fail)
          go_cut [160] (fun v160 wc => ∃ (kq : Nat) (x160_52 : Bool), v160 = .bool x160_52 ∧ Aside0 (laws_FnDistributions.j3 kq l0 t360 t361 t366 t373 t374 t379 t386 t387 t392 t393 x21_2 (Int.tmod t401 7) x160_52 = some r) ∧ Aside0 (kq ≤ kj43) ∧ Aside0 (Kd.R (Kd.int .i64) 3 wc w.heap.size (fun k_ => some k_ ≠ ((.slice Ao18 t361.length co18) : Value).ownBlock ∧ some k_ ≠ ((.slice Ao23 t373.length co23) : Value).ownBlock ∧ some k_ ≠ ((.slice Ao24 t374.length co24) : Value).ownBlock ∧ some k_ ≠ ((.slice Ao29 t386.length co29) : Value).ownBlock ∧ some k_ ≠ ((.slice Ao30 t387.length co30) : Value).ownBlock ∧ some k_ ≠ (v394 : Value).ownBlock) (.slice Ao17 t360.length co17) t360) ∧ Aside0 (Kd.R (Kd.int .i64) 3 wc w.heap.size (fun k_ => some k_ ≠ ((.slice Ao17 t360.length co17) : Value).ownBlock ∧ some k_ ≠ ((.slice Ao23 t373.length co23) : Value).ownBlock ∧ some k_ ≠ ((.slice Ao24 t374.length co24) : Value).ownBlock ∧ some k_ ≠ ((.slice Ao29 t386.length co29) : Value).ownBlock ∧ some k_ ≠ ((.slice Ao30 t387.length co30) : Value).ownBlock ∧ some k_ ≠ (v394 : Value).ownBlock) (.slice Ao18 t361.length co18) t361) ∧ Aside0 (Kd.R (Kd.int .i64) 3 wc w.heap.size (fun k_ => some k_ ≠ ((.slice Ao17 t360.length co17) : Value).ownBlock ∧ some k_ ≠ ((.slice Ao18 t361.length co18) : Value).ownBlock ∧ some k_ ≠ ((.slice Ao24 t374.length co24) : Value).ownBlock ∧ some k_ ≠ ((.slice Ao29 t386.length co29) : Value).ownBlock ∧ some k_ ≠ ((.slice Ao30 t387.length co30) : Value).ownBlock ∧ some k_ ≠ (v394 : Value).ownBlock) (.slice Ao23 t373.length co23) t373) ∧ Aside0 (Kd.R (Kd.int .i64) 3 wc w.heap.size (fun k_ => some k_ ≠ ((.slice Ao17 t360.length co17) : Value).ownBlock ∧ some k_ ≠ ((.slice Ao18 t361.length co18) : Value).ownBlock ∧ some k_ ≠ ((.slice Ao23 t373.length co23) : Value).ownBlock ∧ some k_ ≠ ((.slice Ao29 t386.length co29) : Value).ownBlock ∧ some k_ ≠ ((.slice Ao30 t387.length co30) : Value).ownBlock ∧ some k_ ≠ (v394 : Value).ownBlock) (.slice Ao24 t374.length co24) t374) ∧ Aside0 (Kd.R (Kd.int .i64) 3 wc w.heap.size (fun k_ => some k_ ≠ ((.slice Ao17 t360.length co17) : Value).ownBlock ∧ some k_ ≠ ((.slice Ao18 t361.length co18) : Value).ownBlock ∧ some k_ ≠ ((.slice Ao23 t373.length co23) : Value).ownBlock ∧ some k_ ≠ ((.slice Ao24 t374.length co24) : Value).ownBlock ∧ some k_ ≠ ((.slice Ao30 t387.length co30) : Value).ownBlock ∧ some k_ ≠ (v394 : Value).ownBlock) (.slice Ao29 t386.length co29) t386) ∧ Aside0 (Kd.R (Kd.int .i64) 3 wc w.heap.size (fun k_ => some k_ ≠ ((.slice Ao17 t360.length co17) : Value).ownBlock ∧ some k_ ≠ ((.slice Ao18 t361.length co18) : Value).ownBlock ∧ some k_ ≠ ((.slice Ao23 t373.length co23) : Value).ownBlock ∧ some k_ ≠ ((.slice Ao24 t374.length co24) : Value).ownBlock ∧ some k_ ≠ ((.slice Ao29 t386.length co29) : Value).ownBlock ∧ some k_ ≠ (v394 : Value).ownBlock) (.slice Ao30 t387.length co30) t387) ∧ Aside0 (Kd.R (Kd.int .i64) 3 wc w.heap.size (fun k_ => some k_ ≠ ((.slice Ao17 t360.length co17) : Value).ownBlock ∧ some k_ ≠ ((.slice Ao18 t361.length co18) : Value).ownBlock ∧ some k_ ≠ ((.slice Ao23 t373.length co23) : Value).ownBlock ∧ some k_ ≠ ((.slice Ao24 t374.length co24) : Value).ownBlock ∧ some k_ ≠ ((.slice Ao29 t386.length co29) : Value).ownBlock ∧ some k_ ≠ ((.slice Ao30 t387.length co30) : Value).ownBlock) v394 t392) ∧ Aside0 (Below w.heap.size w wc))
          case first =>
           have H := HC53.out
           clear HC53
           by_cases c54 : t379 = true
           ·
            subst c54
            have H1 : ((laws_vBestSum.f kj43 t373 (Int.tmod t401 7) x21_2).bind fun t406 => ((laws_vAdd.f kj43 t374).bind fun t407 => ((laws_vBestSum.f kj43 t374 (Int.tmod t401 7) x21_2).bind fun t408 => ((laws_vAdd.f kj43 t373).bind fun t409 => (laws_FnDistributions.j3 kj43 l0 t360 t361 t366 t373 t374 true t386 t387 t392 t393 x21_2 (Int.tmod t401 7) (decide ((wrap64 (t406 * t407)) < (wrap64 (t408 * t409))))))))) = some r := by rw [if_pos rfl] at H; exact H
            clear H
            have H := H1
            clear H1
            replace H := Option.bind_eq_some_iff.mp H
            obtain ⟨t406, A550, H⟩ := H
            replace H : ((laws_vAdd.f kj43 t374).bind fun t407 => ((laws_vBestSum.f kj43 t374 (Int.tmod t401 7) x21_2).bind fun t408 => ((laws_vAdd.f kj43 t373).bind fun t409 => (laws_FnDistributions.j3 kj43 l0 t360 t361 t366 t373 t374 true t386 t387 t392 t393 x21_2 (Int.tmod t401 7) (decide ((wrap64 (t406 * t407)) < (wrap64 (t408 * t409)))))))) = some r := H
            have A55 := am_ A550
            clear A550
            replace H := Option.bind_eq_some_iff.mp H
            obtain ⟨t407, A560, H⟩ := H
            replace H : ((laws_vBestSum.f kj43 t374 (Int.tmod t401 7) x21_2).bind fun t408 => ((laws_vAdd.f kj43 t373).bind fun t409 => (laws_FnDistributions.j3 kj43 l0 t360 t361 t366 t373 t374 true t386 t387 t392 t393 x21_2 (Int.tmod t401 7) (decide ((wrap64 (t406 * t407)) < (wrap64 (t408 * t409))))))) = some r := H
            have A56 := am_ A560
            clear A560
            replace H := Option.bind_eq_some_iff.mp H
            obtain ⟨t408, A570, H⟩ := H
            replace H : ((laws_vAdd.f kj43 t373).bind fun t409 => (laws_FnDistributions.j3 kj43 l0 t360 t361 t366 t373 t374 true t386 t387 t392 t393 x21_2 (Int.tmod t401 7) (decide ((wrap64 (t406 * t407)) < (wrap64 (t408 * t409)))))) = some r := H
            have A57 := am_ A570
            clear A570
            replace H := Option.bind_eq_some_iff.mp H
            obtain ⟨t409, A580, H⟩ := H
            replace H : (laws_FnDistributions.j3 kj43 l0 t360 t361 t366 t373 t374 true t386 t387 t392 t393 x21_2 (Int.tmod t401 7) (decide ((wrap64 (t406 * t407)) < (wrap64 (t408 * t409))))) = some r := H
            have A58 := am_ A580
            clear A580
            have H' := am_ H
            clear H
            go_wp2_with (first | (go_at_call 18; (with_reducible refine (laws_vBestSum.calls kj43 _ _ t373 (Int.tmod t401 7) x21_2 t406 _ ?side1 ?side2 A55.out).mono ?_); (case side1 => repeat (first | exact (rr_ HO_9.out).2.2 | (with_reducible refine ca_ ?_ _) | (with_reducible refine cn_ ?_ _) | (with_reducible refine cd_ ?_))); (case side2 => exact (rr_ HO_9.out).2.1); rintro e w59 ⟨rfl, hb⟩; have n0_ := am_ (rb_ (by (with_reducible repeat (first | apply ra_ | apply rn_ | apply rd_)); exact HO_3.out) hb); have n1_ := am_ (rb_ (by (with_reducible repeat (first | apply ra_ | apply rn_ | apply rd_)); exact HO_4.out) hb); have n2_ := am_ (rb_ (by (with_reducible repeat (first | apply ra_ | apply rn_ | apply rd_)); exact HO_9.out) hb); have n3_ := am_ (rb_ (by (with_reducible repeat (first | apply ra_ | apply rn_ | apply rd_)); exact HO_10.out) hb); have n4_ := am_ (rb_ (by (with_reducible repeat (first | apply ra_ | apply rn_ | apply rd_)); exact HO_15.out) hb); have n5_ := am_ (rb_ (by (with_reducible repeat (first | apply ra_ | apply rn_ | apply rd_)); exact HO_16.out) hb); have n6_ := am_ (rb_ (by (with_reducible repeat (first | apply ra_ | apply rn_ | apply rd_)); exact HO_17.out) hb); have n7_ := am_ (bp_ (by repeat (first | (with_reducible first | exact HB.out | apply ba_ | apply pw_below_drewN | apply bd_) | exact HB.out)) hb); clear HO_3; clear HO_4; clear HO_9; clear HO_10; clear HO_15; clear HO_16; clear HO_17; clear HB; have HO_3 := n0_; have HO_4 := n1_; have HO_9 := n2_; have HO_10 := n3_; have HO_15 := n4_; have HO_16 := n5_; have HO_17 := n6_; have HB := n7_; clear n0_ n1_ n2_ n3_ n4_ n5_ n6_ n7_; (try clear hb); (try clear hb2); (try clear hk); (try clear hi)) | (go_at_call 19; (with_reducible refine (laws_vAdd.calls kj43 _ _ t374 t407 _ ?side1 ?side2 A56.out).mono ?_); (case side1 => repeat (first | exact (rr_ HO_10.out).2.2 | (with_reducible refine ca_ ?_ _) | (with_reducible refine cn_ ?_ _) | (with_reducible refine cd_ ?_))); (case side2 => exact (rr_ HO_10.out).2.1); rintro e w' ⟨rfl, ⟨nd, rfl⟩⟩) | (go_at_call 18; (with_reducible refine (laws_vBestSum.calls kj43 _ _ t374 (Int.tmod t401 7) x21_2 t408 _ ?side1 ?side2 A57.out).mono ?_); (case side1 => repeat (first | exact (rr_ HO_10.out).2.2 | (with_reducible refine ca_ ?_ _) | (with_reducible refine cn_ ?_ _) | (with_reducible refine cd_ ?_))); (case side2 => exact (rr_ HO_10.out).2.1); rintro e w60 ⟨rfl, hb⟩; have n0_ := am_ (rb_ (by (with_reducible repeat (first | apply ra_ | apply rn_ | apply rd_)); exact HO_3.out) hb); have n1_ := am_ (rb_ (by (with_reducible repeat (first | apply ra_ | apply rn_ | apply rd_)); exact HO_4.out) hb); have n2_ := am_ (rb_ (by (with_reducible repeat (first | apply ra_ | apply rn_ | apply rd_)); exact HO_9.out) hb); have n3_ := am_ (rb_ (by (with_reducible repeat (first | apply ra_ | apply rn_ | apply rd_)); exact HO_10.out) hb); have n4_ := am_ (rb_ (by (with_reducible repeat (first | apply ra_ | apply rn_ | apply rd_)); exact HO_15.out) hb); have n5_ := am_ (rb_ (by (with_reducible repeat (first | apply ra_ | apply rn_ | apply rd_)); exact HO_16.out) hb); have n6_ := am_ (rb_ (by (with_reducible repeat (first | apply ra_ | apply rn_ | apply rd_)); exact HO_17.out) hb); have n7_ := am_ (bp_ (by repeat (first | (with_reducible first | exact HB.out | apply ba_ | apply pw_below_drewN | apply bd_) | exact HB.out)) hb); clear HO_3; clear HO_4; clear HO_9; clear HO_10; clear HO_15; clear HO_16; clear HO_17; clear HB; have HO_3 := n0_; have HO_4 := n1_; have HO_9 := n2_; have HO_10 := n3_; have HO_15 := n4_; have HO_16 := n5_; have HO_17 := n6_; have HB := n7_; clear n0_ n1_ n2_ n3_ n4_ n5_ n6_ n7_; (try clear hb); (try clear hb2); (try clear hk); (try clear hi)) | (go_at_call 19; (with_reducible refine (laws_vAdd.calls kj43 _ _ t373 t409 _ ?side1 ?side2 A58.out).mono ?_); (case side1 => repeat (first | exact (rr_ HO_9.out).2.2 | (with_reducible refine ca_ ?_ _) | (with_reducible refine cn_ ?_ _) | (with_reducible refine cd_ ?_))); (case side2 => exact (rr_ HO_9.out).2.1); rintro e w' ⟨rfl, ⟨nd, rfl⟩⟩))
            go_meet
            case rel => exact ⟨_, (decide ((wrap64 (t406 * t407)) < (wrap64 (t408 * t409)))), (by first | rfl | (simp; done) | (simp [*]; done)), H', ⟨by have := HJ14.out; have := HK2.out; have := HJ43.out; first | omega | exact Nat.le_refl _⟩, ⟨by (with_reducible repeat (first | apply ra_ | apply rn_ | apply rd_)); exact HO_3.out⟩, ⟨by (with_reducible repeat (first | apply ra_ | apply rn_ | apply rd_)); exact HO_4.out⟩, ⟨by (with_reducible repeat (first | apply ra_ | apply rn_ | apply rd_)); exact HO_9.out⟩, ⟨by (with_reducible repeat (first | apply ra_ | apply rn_ | apply rd_)); exact HO_10.out⟩, ⟨by (with_reducible repeat (first | apply ra_ | apply rn_ | apply rd_)); exact HO_15.out⟩, ⟨by (with_reducible repeat (first | apply ra_ | apply rn_ | apply rd_)); exact HO_16.out⟩, ⟨by (with_reducible repeat (first | apply ra_ | apply rn_ | apply rd_)); exact HO_17.out⟩, ⟨by repeat (first | (with_reducible first | exact HB.out | apply ba_ | apply pw_below_drewN | apply bd_) | exact HB.out)⟩⟩
           ·
            replace c54 := Bool.eq_false_iff.mpr c54
            subst c54
            have H1 : (laws_FnDistributions.j3 kj43 l0 t360 t361 t366 t373 t374 false t386 t387 t392 t393 x21_2 (Int.tmod t401 7) false) = some r := by rw [if_neg (show ¬ (false = true) by decide)] at H; exact H
            clear H
            have H := H1
            clear H1
            have H' := am_ H
            clear H
            go_wp2
            go_meet
            case rel => exact ⟨_, (false), (by first | rfl | (simp; done) | (simp [*]; done)), H', ⟨by have := HJ14.out; have := HK2.out; have := HJ43.out; first | omega | exact Nat.le_refl _⟩, ⟨by (with_reducible repeat (first | apply ra_ | apply rn_ | apply rd_)); exact HO_3.out⟩, ⟨by (with_reducible repeat (first | apply ra_ | apply rn_ | apply rd_)); exact HO_4.out⟩, ⟨by (with_reducible repeat (first | apply ra_ | apply rn_ | apply rd_)); exact HO_9.out⟩, ⟨by (with_reducible repeat (first | apply ra_ | apply rn_ | apply rd_)); exact HO_10.out⟩, ⟨by (with_reducible repeat (first | apply ra_ | apply rn_ | apply rd_)); exact HO_15.out⟩, ⟨by (with_reducible repeat (first | apply ra_ | apply rn_ | apply rd_)); exact HO_16.out⟩, ⟨by (with_reducible repeat (first | apply ra_ | apply rn_ | apply rd_)); exact HO_17.out⟩, ⟨by repeat (first | (with_reducible first | exact HB.out | apply ba_ | apply pw_below_drewN | apply bd_) | exact HB.out)⟩⟩
          case rest =>
           clear HC53
           try clear c1
           try clear p2
           try clear c3
           try clear c4
           try clear c5
           try clear c6
           try clear p6
           try clear c7
           try clear c8
           try clear c9
           try clear c10
           try clear c11
           try clear c12
           try clear c13
           try clear c14
           try clear c16
           try clear c17
           try clear c33
           try clear c33b0
           try clear c33b1
           try clear c33b2
           try clear c34
           try clear c34b0
           try clear c34b1
           try clear c34b2
           try clear c35
           try clear c35b0
           try clear c35b1
           try clear c35b2
           try clear c36
           try clear c36b0
           try clear c36b1
           try clear c36b2
           try clear c37
           try clear c37b0
           try clear c37b1
           try clear c37b2
           try clear c41
           try clear c42
           try clear c42b0
           try clear c45
           try clear c48
           try clear c48b0
           try clear c54
           try clear p2
           obtain ⟨kq, x160_52, rfl, HA, HJ52, HO_3, HO_4, HO_9, HO_10, HO_15, HO_16, HO_17, HB⟩ := hcut
           cases kq with
           | zero => exact absurd HA.out (by simp [laws_FnDistributions.j3])
           | succ kj52 =>
            have H := HA.out
            clear HA
            simp only [laws_FnDistributions.j3] at H
            by_cases c61 : x160_52 = true
            ·
             subst c61
             have H1 : (some false) = some r := by rw [if_pos rfl] at H; exact H
             clear H
             have H := H1
             clear H1
             obtain rfl := Option.some.inj H
             go_wp2
             go_ret
             exact ⟨by first | rfl | (simp [errW_none, errW_some] <;> rfl) | (simp [*, errW_none, errW_some] <;> rfl), by repeat (first | (with_reducible first | exact HB.out | apply ba_ | apply pw_below_drewN | apply bd_) | exact HB.out)⟩
            ·
             replace c61 := Bool.eq_false_iff.mpr c61
             subst c61
             have H1 : (if t393 = true then ((laws_vBestSum.f kj52 t392 (Int.tmod t401 7) x21_2).bind fun t410 => ((laws_vBestSum.f kj52 t386 (Int.tmod t401 7) x21_2).bind fun t411 => ((laws_vAdd.f kj52 t387).bind fun t412 => ((laws_vBestSum.f kj52 t387 (Int.tmod t401 7) x21_2).bind fun t413 => ((laws_vAdd.f kj52 t386).bind fun t414 => (if t410 > (wrap64 ((wrap64 (t411 * t412)) + (wrap64 (t413 * t414)))) then (some false) else (laws_FnDistributions.l0 kj52 l0 t360 t361 t366 t373 t374 t379 t386 t387 t392 t393 (wrap64 (x21_2 + 1))))))))) else (laws_FnDistributions.l0 kj52 l0 t360 t361 t366 t373 t374 t379 t386 t387 t392 t393 (wrap64 (x21_2 + 1)))) = some r := by rw [if_neg (show ¬ (false = true) by decide)] at H; exact H
             clear H
             have H := H1
             clear H1
             by_cases c62 : t393 = true
             ·
              subst c62
              have H1 : ((laws_vBestSum.f kj52 t392 (Int.tmod t401 7) x21_2).bind fun t410 => ((laws_vBestSum.f kj52 t386 (Int.tmod t401 7) x21_2).bind fun t411 => ((laws_vAdd.f kj52 t387).bind fun t412 => ((laws_vBestSum.f kj52 t387 (Int.tmod t401 7) x21_2).bind fun t413 => ((laws_vAdd.f kj52 t386).bind fun t414 => (if t410 > (wrap64 ((wrap64 (t411 * t412)) + (wrap64 (t413 * t414)))) then (some false) else (laws_FnDistributions.l0 kj52 l0 t360 t361 t366 t373 t374 t379 t386 t387 t392 true (wrap64 (x21_2 + 1))))))))) = some r := by rw [if_pos rfl] at H; exact H
              clear H
              have H := H1
              clear H1
              replace H := Option.bind_eq_some_iff.mp H
              obtain ⟨t410, A630, H⟩ := H
              replace H : ((laws_vBestSum.f kj52 t386 (Int.tmod t401 7) x21_2).bind fun t411 => ((laws_vAdd.f kj52 t387).bind fun t412 => ((laws_vBestSum.f kj52 t387 (Int.tmod t401 7) x21_2).bind fun t413 => ((laws_vAdd.f kj52 t386).bind fun t414 => (if t410 > (wrap64 ((wrap64 (t411 * t412)) + (wrap64 (t413 * t414)))) then (some false) else (laws_FnDistributions.l0 kj52 l0 t360 t361 t366 t373 t374 t379 t386 t387 t392 true (wrap64 (x21_2 + 1)))))))) = some r := H
              have A63 := am_ A630
              clear A630
              replace H := Option.bind_eq_some_iff.mp H
              obtain ⟨t411, A640, H⟩ := H
              replace H : ((laws_vAdd.f kj52 t387).bind fun t412 => ((laws_vBestSum.f kj52 t387 (Int.tmod t401 7) x21_2).bind fun t413 => ((laws_vAdd.f kj52 t386).bind fun t414 => (if t410 > (wrap64 ((wrap64 (t411 * t412)) + (wrap64 (t413 * t414)))) then (some false) else (laws_FnDistributions.l0 kj52 l0 t360 t361 t366 t373 t374 t379 t386 t387 t392 true (wrap64 (x21_2 + 1))))))) = some r := H
              have A64 := am_ A640
              clear A640
              replace H := Option.bind_eq_some_iff.mp H
              obtain ⟨t412, A650, H⟩ := H
              replace H : ((laws_vBestSum.f kj52 t387 (Int.tmod t401 7) x21_2).bind fun t413 => ((laws_vAdd.f kj52 t386).bind fun t414 => (if t410 > (wrap64 ((wrap64 (t411 * t412)) + (wrap64 (t413 * t414)))) then (some false) else (laws_FnDistributions.l0 kj52 l0 t360 t361 t366 t373 t374 t379 t386 t387 t392 true (wrap64 (x21_2 + 1)))))) = some r := H
              have A65 := am_ A650
              clear A650
              replace H := Option.bind_eq_some_iff.mp H
              obtain ⟨t413, A660, H⟩ := H
              replace H : ((laws_vAdd.f kj52 t386).bind fun t414 => (if t410 > (wrap64 ((wrap64 (t411 * t412)) + (wrap64 (t413 * t414)))) then (some false) else (laws_FnDistributions.l0 kj52 l0 t360 t361 t366 t373 t374 t379 t386 t387 t392 true (wrap64 (x21_2 + 1))))) = some r := H
              have A66 := am_ A660
              clear A660
              replace H := Option.bind_eq_some_iff.mp H
              obtain ⟨t414, A670, H⟩ := H
              replace H : (if t410 > (wrap64 ((wrap64 (t411 * t412)) + (wrap64 (t413 * t414)))) then (some false) else (laws_FnDistributions.l0 kj52 l0 t360 t361 t366 t373 t374 t379 t386 t387 t392 true (wrap64 (x21_2 + 1)))) = some r := H
              have A67 := am_ A670
              clear A670
              by_cases c68 : t410 > (wrap64 ((wrap64 (t411 * t412)) + (wrap64 (t413 * t414))))
              ·
               rw [if_pos c68] at H
               have c68b0 : decide ((wrap64 ((wrap64 (t411 * t412)) + (wrap64 (t413 * t414)))) < t410) = true := decide_eq_true c68
               clear c68
               obtain rfl := Option.some.inj H
               obtain ⟨Ao69, co69, eo69⟩ := rs_ HO_17.out
               subst eo69
               go_wp2_with (first | (go_at_call 18; (with_reducible refine (laws_vBestSum.calls kj52 _ _ t392 (Int.tmod t401 7) x21_2 t410 _ ?side1 ?side2 A63.out).mono ?_); (case side1 => repeat (first | exact (rr_ HO_17.out).2.2 | (with_reducible refine ca_ ?_ _) | (with_reducible refine cn_ ?_ _) | (with_reducible refine cd_ ?_))); (case side2 => exact (rr_ HO_17.out).2.1); rintro e w70 ⟨rfl, hb⟩; have n0_ := am_ (rb_ (by (with_reducible repeat (first | apply ra_ | apply rn_ | apply rd_)); exact HO_3.out) hb); have n1_ := am_ (rb_ (by (with_reducible repeat (first | apply ra_ | apply rn_ | apply rd_)); exact HO_4.out) hb); have n2_ := am_ (rb_ (by (with_reducible repeat (first | apply ra_ | apply rn_ | apply rd_)); exact HO_9.out) hb); have n3_ := am_ (rb_ (by (with_reducible repeat (first | apply ra_ | apply rn_ | apply rd_)); exact HO_10.out) hb); have n4_ := am_ (rb_ (by (with_reducible repeat (first | apply ra_ | apply rn_ | apply rd_)); exact HO_15.out) hb); have n5_ := am_ (rb_ (by (with_reducible repeat (first | apply ra_ | apply rn_ | apply rd_)); exact HO_16.out) hb); have n6_ := am_ (rb_ (by (with_reducible repeat (first | apply ra_ | apply rn_ | apply rd_)); exact HO_17.out) hb); have n7_ := am_ (bp_ (by repeat (first | (with_reducible first | exact HB.out | apply ba_ | apply pw_below_drewN | apply bd_) | exact HB.out)) hb); clear HO_3; clear HO_4; clear HO_9; clear HO_10; clear HO_15; clear HO_16; clear HO_17; clear HB; have HO_3 := n0_; have HO_4 := n1_; have HO_9 := n2_; have HO_10 := n3_; have HO_15 := n4_; have HO_16 := n5_; have HO_17 := n6_; have HB := n7_; clear n0_ n1_ n2_ n3_ n4_ n5_ n6_ n7_; (try clear hb); (try clear hb2); (try clear hk); (try clear hi)) | (go_at_call 18; (with_reducible refine (laws_vBestSum.calls kj52 _ _ t386 (Int.tmod t401 7) x21_2 t411 _ ?side1 ?side2 A64.out).mono ?_); (case side1 => repeat (first | exact (rr_ HO_15.out).2.2 | (with_reducible refine ca_ ?_ _) | (with_reducible refine cn_ ?_ _) | (with_reducible refine cd_ ?_))); (case side2 => exact (rr_ HO_15.out).2.1); rintro e w71 ⟨rfl, hb⟩; have n0_ := am_ (rb_ (by (with_reducible repeat (first | apply ra_ | apply rn_ | apply rd_)); exact HO_3.out) hb); have n1_ := am_ (rb_ (by (with_reducible repeat (first | apply ra_ | apply rn_ | apply rd_)); exact HO_4.out) hb); have n2_ := am_ (rb_ (by (with_reducible repeat (first | apply ra_ | apply rn_ | apply rd_)); exact HO_9.out) hb); have n3_ := am_ (rb_ (by (with_reducible repeat (first | apply ra_ | apply rn_ | apply rd_)); exact HO_10.out) hb); have n4_ := am_ (rb_ (by (with_reducible repeat (first | apply ra_ | apply rn_ | apply rd_)); exact HO_15.out) hb); have n5_ := am_ (rb_ (by (with_reducible repeat (first | apply ra_ | apply rn_ | apply rd_)); exact HO_16.out) hb); have n6_ := am_ (rb_ (by (with_reducible repeat (first | apply ra_ | apply rn_ | apply rd_)); exact HO_17.out) hb); have n7_ := am_ (bp_ (by repeat (first | (with_reducible first | exact HB.out | apply ba_ | apply pw_below_drewN | apply bd_) | exact HB.out)) hb); clear HO_3; clear HO_4; clear HO_9; clear HO_10; clear HO_15; clear HO_16; clear HO_17; clear HB; have HO_3 := n0_; have HO_4 := n1_; have HO_9 := n2_; have HO_10 := n3_; have HO_15 := n4_; have HO_16 := n5_; have HO_17 := n6_; have HB := n7_; clear n0_ n1_ n2_ n3_ n4_ n5_ n6_ n7_; (try clear hb); (try clear hb2); (try clear hk); (try clear hi)) | (go_at_call 19; (with_reducible refine (laws_vAdd.calls kj52 _ _ t387 t412 _ ?side1 ?side2 A65.out).mono ?_); (case side1 => repeat (first | exact (rr_ HO_16.out).2.2 | (with_reducible refine ca_ ?_ _) | (with_reducible refine cn_ ?_ _) | (with_reducible refine cd_ ?_))); (case side2 => exact (rr_ HO_16.out).2.1); rintro e w' ⟨rfl, ⟨nd, rfl⟩⟩) | (go_at_call 18; (with_reducible refine (laws_vBestSum.calls kj52 _ _ t387 (Int.tmod t401 7) x21_2 t413 _ ?side1 ?side2 A66.out).mono ?_); (case side1 => repeat (first | exact (rr_ HO_16.out).2.2 | (with_reducible refine ca_ ?_ _) | (with_reducible refine cn_ ?_ _) | (with_reducible refine cd_ ?_))); (case side2 => exact (rr_ HO_16.out).2.1); rintro e w72 ⟨rfl, hb⟩; have n0_ := am_ (rb_ (by (with_reducible repeat (first | apply ra_ | apply rn_ | apply rd_)); exact HO_3.out) hb); have n1_ := am_ (rb_ (by (with_reducible repeat (first | apply ra_ | apply rn_ | apply rd_)); exact HO_4.out) hb); have n2_ := am_ (rb_ (by (with_reducible repeat (first | apply ra_ | apply rn_ | apply rd_)); exact HO_9.out) hb); have n3_ := am_ (rb_ (by (with_reducible repeat (first | apply ra_ | apply rn_ | apply rd_)); exact HO_10.out) hb); have n4_ := am_ (rb_ (by (with_reducible repeat (first | apply ra_ | apply rn_ | apply rd_)); exact HO_15.out) hb); have n5_ := am_ (rb_ (by (with_reducible repeat (first | apply ra_ | apply rn_ | apply rd_)); exact HO_16.out) hb); have n6_ := am_ (rb_ (by (with_reducible repeat (first | apply ra_ | apply rn_ | apply rd_)); exact HO_17.out) hb); have n7_ := am_ (bp_ (by repeat (first | (with_reducible first | exact HB.out | apply ba_ | apply pw_below_drewN | apply bd_) | exact HB.out)) hb); clear HO_3; clear HO_4; clear HO_9; clear HO_10; clear HO_15; clear HO_16; clear HO_17; clear HB; have HO_3 := n0_; have HO_4 := n1_; have HO_9 := n2_; have HO_10 := n3_; have HO_15 := n4_; have HO_16 := n5_; have HO_17 := n6_; have HB := n7_; clear n0_ n1_ n2_ n3_ n4_ n5_ n6_ n7_; (try clear hb); (try clear hb2); (try clear hk); (try clear hi)) | (go_at_call 19; (with_reducible refine (laws_vAdd.calls kj52 _ _ t386 t414 _ ?side1 ?side2 A67.out).mono ?_); (case side1 => repeat (first | exact (rr_ HO_15.out).2.2 | (with_reducible refine ca_ ?_ _) | (with_reducible refine cn_ ?_ _) | (with_reducible refine cd_ ?_))); (case side2 => exact (rr_ HO_15.out).2.1); rintro e w' ⟨rfl, ⟨nd, rfl⟩⟩))
               go_ret
               exact ⟨by first | rfl | (simp [errW_none, errW_some] <;> rfl) | (simp [*, errW_none, errW_some] <;> rfl), by repeat (first | (with_reducible first | exact HB.out | apply ba_ | apply pw_below_drewN | apply bd_) | exact HB.out)⟩
              ·
               rw [if_neg c68] at H
               have c68b0 : decide ((wrap64 ((wrap64 (t411 * t412)) + (wrap64 (t413 * t414)))) < t410) = false := decide_eq_false c68
               clear c68
               have H' := am_ H
               clear H
               obtain ⟨Ao73, co73, eo73⟩ := rs_ HO_17.out
               subst eo73
               go_wp2_with (first | (go_at_call 18; (with_reducible refine (laws_vBestSum.calls kj52 _ _ t392 (Int.tmod t401 7) x21_2 t410 _ ?side1 ?side2 A63.out).mono ?_); (case side1 => repeat (first | exact (rr_ HO_17.out).2.2 | (with_reducible refine ca_ ?_ _) | (with_reducible refine cn_ ?_ _) | (with_reducible refine cd_ ?_))); (case side2 => exact (rr_ HO_17.out).2.1); rintro e w74 ⟨rfl, hb⟩; have n0_ := am_ (rb_ (by (with_reducible repeat (first | apply ra_ | apply rn_ | apply rd_)); exact HO_3.out) hb); have n1_ := am_ (rb_ (by (with_reducible repeat (first | apply ra_ | apply rn_ | apply rd_)); exact HO_4.out) hb); have n2_ := am_ (rb_ (by (with_reducible repeat (first | apply ra_ | apply rn_ | apply rd_)); exact HO_9.out) hb); have n3_ := am_ (rb_ (by (with_reducible repeat (first | apply ra_ | apply rn_ | apply rd_)); exact HO_10.out) hb); have n4_ := am_ (rb_ (by (with_reducible repeat (first | apply ra_ | apply rn_ | apply rd_)); exact HO_15.out) hb); have n5_ := am_ (rb_ (by (with_reducible repeat (first | apply ra_ | apply rn_ | apply rd_)); exact HO_16.out) hb); have n6_ := am_ (rb_ (by (with_reducible repeat (first | apply ra_ | apply rn_ | apply rd_)); exact HO_17.out) hb); have n7_ := am_ (bp_ (by repeat (first | (with_reducible first | exact HB.out | apply ba_ | apply pw_below_drewN | apply bd_) | exact HB.out)) hb); clear HO_3; clear HO_4; clear HO_9; clear HO_10; clear HO_15; clear HO_16; clear HO_17; clear HB; have HO_3 := n0_; have HO_4 := n1_; have HO_9 := n2_; have HO_10 := n3_; have HO_15 := n4_; have HO_16 := n5_; have HO_17 := n6_; have HB := n7_; clear n0_ n1_ n2_ n3_ n4_ n5_ n6_ n7_; (try clear hb); (try clear hb2); (try clear hk); (try clear hi)) | (go_at_call 18; (with_reducible refine (laws_vBestSum.calls kj52 _ _ t386 (Int.tmod t401 7) x21_2 t411 _ ?side1 ?side2 A64.out).mono ?_); (case side1 => repeat (first | exact (rr_ HO_15.out).2.2 | (with_reducible refine ca_ ?_ _) | (with_reducible refine cn_ ?_ _) | (with_reducible refine cd_ ?_))); (case side2 => exact (rr_ HO_15.out).2.1); rintro e w75 ⟨rfl, hb⟩; have n0_ := am_ (rb_ (by (with_reducible repeat (first | apply ra_ | apply rn_ | apply rd_)); exact HO_3.out) hb); have n1_ := am_ (rb_ (by (with_reducible repeat (first | apply ra_ | apply rn_ | apply rd_)); exact HO_4.out) hb); have n2_ := am_ (rb_ (by (with_reducible repeat (first | apply ra_ | apply rn_ | apply rd_)); exact HO_9.out) hb); have n3_ := am_ (rb_ (by (with_reducible repeat (first | apply ra_ | apply rn_ | apply rd_)); exact HO_10.out) hb); have n4_ := am_ (rb_ (by (with_reducible repeat (first | apply ra_ | apply rn_ | apply rd_)); exact HO_15.out) hb); have n5_ := am_ (rb_ (by (with_reducible repeat (first | apply ra_ | apply rn_ | apply rd_)); exact HO_16.out) hb); have n6_ := am_ (rb_ (by (with_reducible repeat (first | apply ra_ | apply rn_ | apply rd_)); exact HO_17.out) hb); have n7_ := am_ (bp_ (by repeat (first | (with_reducible first | exact HB.out | apply ba_ | apply pw_below_drewN | apply bd_) | exact HB.out)) hb); clear HO_3; clear HO_4; clear HO_9; clear HO_10; clear HO_15; clear HO_16; clear HO_17; clear HB; have HO_3 := n0_; have HO_4 := n1_; have HO_9 := n2_; have HO_10 := n3_; have HO_15 := n4_; have HO_16 := n5_; have HO_17 := n6_; have HB := n7_; clear n0_ n1_ n2_ n3_ n4_ n5_ n6_ n7_; (try clear hb); (try clear hb2); (try clear hk); (try clear hi)) | (go_at_call 19; (with_reducible refine (laws_vAdd.calls kj52 _ _ t387 t412 _ ?side1 ?side2 A65.out).mono ?_); (case side1 => repeat (first | exact (rr_ HO_16.out).2.2 | (with_reducible refine ca_ ?_ _) | (with_reducible refine cn_ ?_ _) | (with_reducible refine cd_ ?_))); (case side2 => exact (rr_ HO_16.out).2.1); rintro e w' ⟨rfl, ⟨nd, rfl⟩⟩) | (go_at_call 18; (with_reducible refine (laws_vBestSum.calls kj52 _ _ t387 (Int.tmod t401 7) x21_2 t413 _ ?side1 ?side2 A66.out).mono ?_); (case side1 => repeat (first | exact (rr_ HO_16.out).2.2 | (with_reducible refine ca_ ?_ _) | (with_reducible refine cn_ ?_ _) | (with_reducible refine cd_ ?_))); (case side2 => exact (rr_ HO_16.out).2.1); rintro e w76 ⟨rfl, hb⟩; have n0_ := am_ (rb_ (by (with_reducible repeat (first | apply ra_ | apply rn_ | apply rd_)); exact HO_3.out) hb); have n1_ := am_ (rb_ (by (with_reducible repeat (first | apply ra_ | apply rn_ | apply rd_)); exact HO_4.out) hb); have n2_ := am_ (rb_ (by (with_reducible repeat (first | apply ra_ | apply rn_ | apply rd_)); exact HO_9.out) hb); have n3_ := am_ (rb_ (by (with_reducible repeat (first | apply ra_ | apply rn_ | apply rd_)); exact HO_10.out) hb); have n4_ := am_ (rb_ (by (with_reducible repeat (first | apply ra_ | apply rn_ | apply rd_)); exact HO_15.out) hb); have n5_ := am_ (rb_ (by (with_reducible repeat (first | apply ra_ | apply rn_ | apply rd_)); exact HO_16.out) hb); have n6_ := am_ (rb_ (by (with_reducible repeat (first | apply ra_ | apply rn_ | apply rd_)); exact HO_17.out) hb); have n7_ := am_ (bp_ (by repeat (first | (with_reducible first | exact HB.out | apply ba_ | apply pw_below_drewN | apply bd_) | exact HB.out)) hb); clear HO_3; clear HO_4; clear HO_9; clear HO_10; clear HO_15; clear HO_16; clear HO_17; clear HB; have HO_3 := n0_; have HO_4 := n1_; have HO_9 := n2_; have HO_10 := n3_; have HO_15 := n4_; have HO_16 := n5_; have HO_17 := n6_; have HB := n7_; clear n0_ n1_ n2_ n3_ n4_ n5_ n6_ n7_; (try clear hb); (try clear hb2); (try clear hk); (try clear hi)) | (go_at_call 19; (with_reducible refine (laws_vAdd.calls kj52 _ _ t386 t414 _ ?side1 ?side2 A67.out).mono ?_); (case side1 => repeat (first | exact (rr_ HO_15.out).2.2 | (with_reducible refine ca_ ?_ _) | (with_reducible refine cn_ ?_ _) | (with_reducible refine cd_ ?_))); (case side2 => exact (rr_ HO_15.out).2.1); rintro e w' ⟨rfl, ⟨nd, rfl⟩⟩))
               go_roundg kj52
               case measure => have := HJ14.out; have := HK2.out; have := HJ43.out; have := HJ52.out; omega
               case rel => exact ⟨(wrap64 (x21_2 + 1)), (by first | rfl | (simp; done) | (simp [*]; done)), H', ⟨by have := HJ14.out; have := HK2.out; have := HJ43.out; have := HJ52.out; omega⟩, ⟨by (with_reducible repeat (first | apply ra_ | apply rn_ | apply rd_)); exact HO_3.out⟩, ⟨by (with_reducible repeat (first | apply ra_ | apply rn_ | apply rd_)); exact HO_4.out⟩, ⟨by (with_reducible repeat (first | apply ra_ | apply rn_ | apply rd_)); exact HO_9.out⟩, ⟨by (with_reducible repeat (first | apply ra_ | apply rn_ | apply rd_)); exact HO_10.out⟩, ⟨by (with_reducible repeat (first | apply ra_ | apply rn_ | apply rd_)); exact HO_15.out⟩, ⟨by (with_reducible repeat (first | apply ra_ | apply rn_ | apply rd_)); exact HO_16.out⟩, ⟨by (with_reducible repeat (first | apply ra_ | apply rn_ | apply rd_)); exact HO_17.out⟩, ⟨by repeat (first | (with_reducible first | exact HB.out | apply ba_ | apply pw_below_drewN | apply bd_) | exact HB.out)⟩⟩
             ·
              replace c62 := Bool.eq_false_iff.mpr c62
              subst c62
              have H1 : (laws_FnDistributions.l0 kj52 l0 t360 t361 t366 t373 t374 t379 t386 t387 t392 false (wrap64 (x21_2 + 1))) = some r := by rw [if_neg (show ¬ (false = true) by decide)] at H; exact H
              clear H
              have H := H1
              clear H1
              have H' := am_ H
              clear H
              go_wp2
              go_roundg kj52
              case measure => have := HJ14.out; have := HK2.out; have := HJ43.out; have := HJ52.out; omega
              case rel => exact ⟨(wrap64 (x21_2 + 1)), (by first | rfl | (simp; done) | (simp [*]; done)), H', ⟨by have := HJ14.out; have := HK2.out; have := HJ43.out; have := HJ52.out; omega⟩, ⟨by (with_reducible repeat (first | apply ra_ | apply rn_ | apply rd_)); exact HO_3.out⟩, ⟨by (with_reducible repeat (first | apply ra_ | apply rn_ | apply rd_)); exact HO_4.out⟩, ⟨by (with_reducible repeat (first | apply ra_ | apply rn_ | apply rd_)); exact HO_9.out⟩, ⟨by (with_reducible repeat (first | apply ra_ | apply rn_ | apply rd_)); exact HO_10.out⟩, ⟨by (with_reducible repeat (first | apply ra_ | apply rn_ | apply rd_)); exact HO_15.out⟩, ⟨by (with_reducible repeat (first | apply ra_ | apply rn_ | apply rd_)); exact HO_16.out⟩, ⟨by (with_reducible repeat (first | apply ra_ | apply rn_ | apply rd_)); exact HO_17.out⟩, ⟨by repeat (first | (with_reducible first | exact HB.out | apply ba_ | apply pw_below_drewN | apply bd_) | exact HB.out)⟩⟩
       ·
        rw [if_neg c42] at H
        have c42b0 : decide (x21_2 ≤ 6) = false := decide_eq_false c42
        clear c42
        by_cases c77 : t393 = true
        ·
         subst c77
         have H1 : ((impl_MeanSum.f k2 t392).bind fun bt415 => ((impl_MeanSum.f k2 t386).bind fun bt417 => ((impl_MeanSum.f k2 t387).bind fun bt419 => (if bt419.2 = true then ((laws_vAdd.f k2 t387).bind fun t421 => ((laws_vAdd.f k2 t386).bind fun t422 => (if bt415.1 = (wrap64 ((wrap64 (bt417.1 * t421)) + (wrap64 (bt419.1 * t422)))) then ((laws_vAdd.f k2 t392).bind fun t423 => ((laws_vAdd.f k2 t386).bind fun t424 => ((laws_vAdd.f k2 t387).bind fun t425 => (some (t423 == (wrap64 (t424 * t425))))))) else (some false)))) else (some false))))) = some r := by rw [if_pos rfl] at H; exact H
         clear H
         have H := H1
         clear H1
         replace H := Option.bind_eq_some_iff.mp H
         obtain ⟨⟨t415, t416⟩, A780, H⟩ := H
         replace H : ((impl_MeanSum.f k2 t386).bind fun bt417 => ((impl_MeanSum.f k2 t387).bind fun bt419 => (if bt419.2 = true then ((laws_vAdd.f k2 t387).bind fun t421 => ((laws_vAdd.f k2 t386).bind fun t422 => (if t415 = (wrap64 ((wrap64 (bt417.1 * t421)) + (wrap64 (bt419.1 * t422)))) then ((laws_vAdd.f k2 t392).bind fun t423 => ((laws_vAdd.f k2 t386).bind fun t424 => ((laws_vAdd.f k2 t387).bind fun t425 => (some (t423 == (wrap64 (t424 * t425))))))) else (some false)))) else (some false)))) = some r := H
         have A78 := am_ A780
         clear A780
         replace H := Option.bind_eq_some_iff.mp H
         obtain ⟨⟨t417, t418⟩, A790, H⟩ := H
         replace H : ((impl_MeanSum.f k2 t387).bind fun bt419 => (if bt419.2 = true then ((laws_vAdd.f k2 t387).bind fun t421 => ((laws_vAdd.f k2 t386).bind fun t422 => (if t415 = (wrap64 ((wrap64 (t417 * t421)) + (wrap64 (bt419.1 * t422)))) then ((laws_vAdd.f k2 t392).bind fun t423 => ((laws_vAdd.f k2 t386).bind fun t424 => ((laws_vAdd.f k2 t387).bind fun t425 => (some (t423 == (wrap64 (t424 * t425))))))) else (some false)))) else (some false))) = some r := H
         have A79 := am_ A790
         clear A790
         replace H := Option.bind_eq_some_iff.mp H
         obtain ⟨⟨t419, t420⟩, A800, H⟩ := H
         replace H : (if t420 = true then ((laws_vAdd.f k2 t387).bind fun t421 => ((laws_vAdd.f k2 t386).bind fun t422 => (if t415 = (wrap64 ((wrap64 (t417 * t421)) + (wrap64 (t419 * t422)))) then ((laws_vAdd.f k2 t392).bind fun t423 => ((laws_vAdd.f k2 t386).bind fun t424 => ((laws_vAdd.f k2 t387).bind fun t425 => (some (t423 == (wrap64 (t424 * t425))))))) else (some false)))) else (some false)) = some r := H
         have A80 := am_ A800
         clear A800
         by_cases c81 : t420 = true
         ·
          subst c81
          have H1 : ((laws_vAdd.f k2 t387).bind fun t421 => ((laws_vAdd.f k2 t386).bind fun t422 => (if t415 = (wrap64 ((wrap64 (t417 * t421)) + (wrap64 (t419 * t422)))) then ((laws_vAdd.f k2 t392).bind fun t423 => ((laws_vAdd.f k2 t386).bind fun t424 => ((laws_vAdd.f k2 t387).bind fun t425 => (some (t423 == (wrap64 (t424 * t425))))))) else (some false)))) = some r := by rw [if_pos rfl] at H; exact H
          clear H
          have H := H1
          clear H1
          replace H := Option.bind_eq_some_iff.mp H
          obtain ⟨t421, A820, H⟩ := H
          replace H : ((laws_vAdd.f k2 t386).bind fun t422 => (if t415 = (wrap64 ((wrap64 (t417 * t421)) + (wrap64 (t419 * t422)))) then ((laws_vAdd.f k2 t392).bind fun t423 => ((laws_vAdd.f k2 t386).bind fun t424 => ((laws_vAdd.f k2 t387).bind fun t425 => (some (t423 == (wrap64 (t424 * t425))))))) else (some false))) = some r := H
          have A82 := am_ A820
          clear A820
          replace H := Option.bind_eq_some_iff.mp H
          obtain ⟨t422, A830, H⟩ := H
          replace H : (if t415 = (wrap64 ((wrap64 (t417 * t421)) + (wrap64 (t419 * t422)))) then ((laws_vAdd.f k2 t392).bind fun t423 => ((laws_vAdd.f k2 t386).bind fun t424 => ((laws_vAdd.f k2 t387).bind fun t425 => (some (t423 == (wrap64 (t424 * t425))))))) else (some false)) = some r := H
          have A83 := am_ A830
          clear A830
          by_cases c84 : t415 = (wrap64 ((wrap64 (t417 * t421)) + (wrap64 (t419 * t422))))
          ·
           rw [if_pos c84] at H
           have c84b0 : (t415 == (wrap64 ((wrap64 (t417 * t421)) + (wrap64 (t419 * t422))))) = true := beq_iff_eq.mpr c84
           have c84b1 : (t415 != (wrap64 ((wrap64 (t417 * t421)) + (wrap64 (t419 * t422))))) = false := bne_eq_false_iff_eq.mpr c84
           clear c84
           replace H := Option.bind_eq_some_iff.mp H
           obtain ⟨t423, A850, H⟩ := H
           replace H : ((laws_vAdd.f k2 t386).bind fun t424 => ((laws_vAdd.f k2 t387).bind fun t425 => (some (t423 == (wrap64 (t424 * t425)))))) = some r := H
           have A85 := am_ A850
           clear A850
           replace H := Option.bind_eq_some_iff.mp H
           obtain ⟨t424, A860, H⟩ := H
           replace H : ((laws_vAdd.f k2 t387).bind fun t425 => (some (t423 == (wrap64 (t424 * t425))))) = some r := H
           have A86 := am_ A860
           have E_t424 := am_ (Option.some.inj (A86.out.symm.trans A83.out))
           clear A860
           replace H := Option.bind_eq_some_iff.mp H
           obtain ⟨t425, A870, H⟩ := H
           replace H : (some (t423 == (wrap64 (t424 * t425)))) = some r := H
           have A87 := am_ A870
           have E_t425 := am_ (Option.some.inj (A87.out.symm.trans A82.out))
           clear A870
           obtain rfl := Option.some.inj H
           obtain ⟨Ao88, co88, eo88⟩ := rs_ HO_17.out
           subst eo88
           go_wp2_with (first | ((with_reducible refine gc_ (f := 20) rfl ?_); refine goesL_ (some 188) rfl rfl Try.func20 (by kernel_rfl) rfl #[.slice Ao88 t392.length co88] rfl (by (try simp only [List.map_toArray, List.map_cons, List.map_nil]); first | done | rfl | (simp only [List.length_drop, List.length_take]; rfl)) ?_; (with_reducible refine (impl_MeanSum.calls k2 _ _ t392 t415 t416 _ ?side1 ?side2 A78.out).mono ?_); (case side1 => repeat (first | exact (rr_ HO_17.out).2.2 | (with_reducible refine ca_ ?_ _) | (with_reducible refine cn_ ?_ _) | (with_reducible refine cd_ ?_))); (case side2 => exact (rr_ HO_17.out).2.1); rintro e w' ⟨rfl, ⟨nd, rfl⟩⟩; refine ⟨_, rfl, ?_⟩) | ((with_reducible refine gc_ (f := 20) rfl ?_); refine goesL_ (some 193) rfl rfl Try.func20 (by kernel_rfl) rfl #[.slice Ao29 t386.length co29] rfl (by (try simp only [List.map_toArray, List.map_cons, List.map_nil]); first | done | rfl | (simp only [List.length_drop, List.length_take]; rfl)) ?_; (with_reducible refine (impl_MeanSum.calls k2 _ _ t386 t417 t418 _ ?side1 ?side2 A79.out).mono ?_); (case side1 => repeat (first | exact (rr_ HO_15.out).2.2 | (with_reducible refine ca_ ?_ _) | (with_reducible refine cn_ ?_ _) | (with_reducible refine cd_ ?_))); (case side2 => exact (rr_ HO_15.out).2.1); rintro e w' ⟨rfl, ⟨nd, rfl⟩⟩; refine ⟨_, rfl, ?_⟩) | ((with_reducible refine gc_ (f := 20) rfl ?_); refine goesL_ (some 198) rfl rfl Try.func20 (by kernel_rfl) rfl #[.slice Ao30 t387.length co30] rfl (by (try simp only [List.map_toArray, List.map_cons, List.map_nil]); first | done | rfl | (simp only [List.length_drop, List.length_take]; rfl)) ?_; (with_reducible refine (impl_MeanSum.calls k2 _ _ t387 t419 true _ ?side1 ?side2 A80.out).mono ?_); (case side1 => repeat (first | exact (rr_ HO_16.out).2.2 | (with_reducible refine ca_ ?_ _) | (with_reducible refine cn_ ?_ _) | (with_reducible refine cd_ ?_))); (case side2 => exact (rr_ HO_16.out).2.1); rintro e w' ⟨rfl, ⟨nd, rfl⟩⟩; refine ⟨_, rfl, ?_⟩) | (go_at_call 19; (with_reducible refine (laws_vAdd.calls k2 _ _ t387 t421 _ ?side1 ?side2 A82.out).mono ?_); (case side1 => repeat (first | exact (rr_ HO_16.out).2.2 | (with_reducible refine ca_ ?_ _) | (with_reducible refine cn_ ?_ _) | (with_reducible refine cd_ ?_))); (case side2 => exact (rr_ HO_16.out).2.1); rintro e w' ⟨rfl, ⟨nd, rfl⟩⟩) | (go_at_call 19; (with_reducible refine (laws_vAdd.calls k2 _ _ t386 t422 _ ?side1 ?side2 A83.out).mono ?_); (case side1 => repeat (first | exact (rr_ HO_15.out).2.2 | (with_reducible refine ca_ ?_ _) | (with_reducible refine cn_ ?_ _) | (with_reducible refine cd_ ?_))); (case side2 => exact (rr_ HO_15.out).2.1); rintro e w' ⟨rfl, ⟨nd, rfl⟩⟩) | (go_at_call 19; (with_reducible refine (laws_vAdd.calls k2 _ _ t392 t423 _ ?side1 ?side2 A85.out).mono ?_); (case side1 => repeat (first | exact (rr_ HO_17.out).2.2 | (with_reducible refine ca_ ?_ _) | (with_reducible refine cn_ ?_ _) | (with_reducible refine cd_ ?_))); (case side2 => exact (rr_ HO_17.out).2.1); rintro e w' ⟨rfl, ⟨nd, rfl⟩⟩) | (go_at_call 19; (with_reducible refine (laws_vAdd.calls k2 _ _ t386 t424 _ ?side1 ?side2 A86.out).mono ?_); (case side1 => repeat (first | exact (rr_ HO_15.out).2.2 | (with_reducible refine ca_ ?_ _) | (with_reducible refine cn_ ?_ _) | (with_reducible refine cd_ ?_))); (case side2 => exact (rr_ HO_15.out).2.1); rintro e w' ⟨rfl, ⟨nd, rfl⟩⟩) | (go_at_call 19; (with_reducible refine (laws_vAdd.calls k2 _ _ t387 t425 _ ?side1 ?side2 A87.out).mono ?_); (case side1 => repeat (first | exact (rr_ HO_16.out).2.2 | (with_reducible refine ca_ ?_ _) | (with_reducible refine cn_ ?_ _) | (with_reducible refine cd_ ?_))); (case side2 => exact (rr_ HO_16.out).2.1); rintro e w' ⟨rfl, ⟨nd, rfl⟩⟩))
           go_ret
           exact ⟨by first | rfl | ((rw [E_t424.out, E_t425.out]) <;> rfl) | (simp [errW_none, errW_some] <;> rfl) | (simp [*, errW_none, errW_some] <;> rfl), by repeat (first | (with_reducible first | exact HB.out | apply ba_ | apply pw_below_drewN | apply bd_) | exact HB.out)⟩
          ·
           rw [if_neg c84] at H
           have c84b0 : (t415 == (wrap64 ((wrap64 (t417 * t421)) + (wrap64 (t419 * t422))))) = false := beq_eq_false_iff_ne.mpr c84
           have c84b1 : (t415 != (wrap64 ((wrap64 (t417 * t421)) + (wrap64 (t419 * t422))))) = true := bne_iff_ne.mpr c84
           obtain rfl := Option.some.inj H
           obtain ⟨Ao89, co89, eo89⟩ := rs_ HO_17.out
           subst eo89
           go_wp2_with (first | ((with_reducible refine gc_ (f := 20) rfl ?_); refine goesL_ (some 188) rfl rfl Try.func20 (by kernel_rfl) rfl #[.slice Ao89 t392.length co89] rfl (by (try simp only [List.map_toArray, List.map_cons, List.map_nil]); first | done | rfl | (simp only [List.length_drop, List.length_take]; rfl)) ?_; (with_reducible refine (impl_MeanSum.calls k2 _ _ t392 t415 t416 _ ?side1 ?side2 A78.out).mono ?_); (case side1 => repeat (first | exact (rr_ HO_17.out).2.2 | (with_reducible refine ca_ ?_ _) | (with_reducible refine cn_ ?_ _) | (with_reducible refine cd_ ?_))); (case side2 => exact (rr_ HO_17.out).2.1); rintro e w' ⟨rfl, ⟨nd, rfl⟩⟩; refine ⟨_, rfl, ?_⟩) | ((with_reducible refine gc_ (f := 20) rfl ?_); refine goesL_ (some 193) rfl rfl Try.func20 (by kernel_rfl) rfl #[.slice Ao29 t386.length co29] rfl (by (try simp only [List.map_toArray, List.map_cons, List.map_nil]); first | done | rfl | (simp only [List.length_drop, List.length_take]; rfl)) ?_; (with_reducible refine (impl_MeanSum.calls k2 _ _ t386 t417 t418 _ ?side1 ?side2 A79.out).mono ?_); (case side1 => repeat (first | exact (rr_ HO_15.out).2.2 | (with_reducible refine ca_ ?_ _) | (with_reducible refine cn_ ?_ _) | (with_reducible refine cd_ ?_))); (case side2 => exact (rr_ HO_15.out).2.1); rintro e w' ⟨rfl, ⟨nd, rfl⟩⟩; refine ⟨_, rfl, ?_⟩) | ((with_reducible refine gc_ (f := 20) rfl ?_); refine goesL_ (some 198) rfl rfl Try.func20 (by kernel_rfl) rfl #[.slice Ao30 t387.length co30] rfl (by (try simp only [List.map_toArray, List.map_cons, List.map_nil]); first | done | rfl | (simp only [List.length_drop, List.length_take]; rfl)) ?_; (with_reducible refine (impl_MeanSum.calls k2 _ _ t387 t419 true _ ?side1 ?side2 A80.out).mono ?_); (case side1 => repeat (first | exact (rr_ HO_16.out).2.2 | (with_reducible refine ca_ ?_ _) | (with_reducible refine cn_ ?_ _) | (with_reducible refine cd_ ?_))); (case side2 => exact (rr_ HO_16.out).2.1); rintro e w' ⟨rfl, ⟨nd, rfl⟩⟩; refine ⟨_, rfl, ?_⟩) | (go_at_call 19; (with_reducible refine (laws_vAdd.calls k2 _ _ t387 t421 _ ?side1 ?side2 A82.out).mono ?_); (case side1 => repeat (first | exact (rr_ HO_16.out).2.2 | (with_reducible refine ca_ ?_ _) | (with_reducible refine cn_ ?_ _) | (with_reducible refine cd_ ?_))); (case side2 => exact (rr_ HO_16.out).2.1); rintro e w' ⟨rfl, ⟨nd, rfl⟩⟩) | (go_at_call 19; (with_reducible refine (laws_vAdd.calls k2 _ _ t386 t422 _ ?side1 ?side2 A83.out).mono ?_); (case side1 => repeat (first | exact (rr_ HO_15.out).2.2 | (with_reducible refine ca_ ?_ _) | (with_reducible refine cn_ ?_ _) | (with_reducible refine cd_ ?_))); (case side2 => exact (rr_ HO_15.out).2.1); rintro e w' ⟨rfl, ⟨nd, rfl⟩⟩))
           go_ret
           exact ⟨by first | rfl | (simp [errW_none, errW_some] <;> rfl) | (simp [*, errW_none, errW_some] <;> rfl), by repeat (first | (with_reducible first | exact HB.out | apply ba_ | apply pw_below_drewN | apply bd_) | exact HB.out)⟩
         ·
          replace c81 := Bool.eq_false_iff.mpr c81
          subst c81
          have H1 : (some false) = some r := by rw [if_neg (show ¬ (false = true) by decide)] at H; exact H
          clear H
          have H := H1
          clear H1
          obtain rfl := Option.some.inj H
          obtain ⟨Ao90, co90, eo90⟩ := rs_ HO_17.out
          subst eo90
          go_wp2_with (first | ((with_reducible refine gc_ (f := 20) rfl ?_); refine goesL_ (some 188) rfl rfl Try.func20 (by kernel_rfl) rfl #[.slice Ao90 t392.length co90] rfl (by (try simp only [List.map_toArray, List.map_cons, List.map_nil]); first | done | rfl | (simp only [List.length_drop, List.length_take]; rfl)) ?_; (with_reducible refine (impl_MeanSum.calls k2 _ _ t392 t415 t416 _ ?side1 ?side2 A78.out).mono ?_); (case side1 => repeat (first | exact (rr_ HO_17.out).2.2 | (with_reducible refine ca_ ?_ _) | (with_reducible refine cn_ ?_ _) | (with_reducible refine cd_ ?_))); (case side2 => exact (rr_ HO_17.out).2.1); rintro e w' ⟨rfl, ⟨nd, rfl⟩⟩; refine ⟨_, rfl, ?_⟩) | ((with_reducible refine gc_ (f := 20) rfl ?_); refine goesL_ (some 193) rfl rfl Try.func20 (by kernel_rfl) rfl #[.slice Ao29 t386.length co29] rfl (by (try simp only [List.map_toArray, List.map_cons, List.map_nil]); first | done | rfl | (simp only [List.length_drop, List.length_take]; rfl)) ?_; (with_reducible refine (impl_MeanSum.calls k2 _ _ t386 t417 t418 _ ?side1 ?side2 A79.out).mono ?_); (case side1 => repeat (first | exact (rr_ HO_15.out).2.2 | (with_reducible refine ca_ ?_ _) | (with_reducible refine cn_ ?_ _) | (with_reducible refine cd_ ?_))); (case side2 => exact (rr_ HO_15.out).2.1); rintro e w' ⟨rfl, ⟨nd, rfl⟩⟩; refine ⟨_, rfl, ?_⟩) | ((with_reducible refine gc_ (f := 20) rfl ?_); refine goesL_ (some 198) rfl rfl Try.func20 (by kernel_rfl) rfl #[.slice Ao30 t387.length co30] rfl (by (try simp only [List.map_toArray, List.map_cons, List.map_nil]); first | done | rfl | (simp only [List.length_drop, List.length_take]; rfl)) ?_; (with_reducible refine (impl_MeanSum.calls k2 _ _ t387 t419 false _ ?side1 ?side2 A80.out).mono ?_); (case side1 => repeat (first | exact (rr_ HO_16.out).2.2 | (with_reducible refine ca_ ?_ _) | (with_reducible refine cn_ ?_ _) | (with_reducible refine cd_ ?_))); (case side2 => exact (rr_ HO_16.out).2.1); rintro e w' ⟨rfl, ⟨nd, rfl⟩⟩; refine ⟨_, rfl, ?_⟩))
          go_ret
          exact ⟨by first | rfl | (simp [errW_none, errW_some] <;> rfl) | (simp [*, errW_none, errW_some] <;> rfl), by repeat (first | (with_reducible first | exact HB.out | apply ba_ | apply pw_below_drewN | apply bd_) | exact HB.out)⟩
        ·
         replace c77 := Bool.eq_false_iff.mpr c77
         subst c77
         have H1 : (some true) = some r := by rw [if_neg (show ¬ (false = true) by decide)] at H; exact H
         clear H
         have H := H1
         clear H1
         obtain rfl := Option.some.inj H
         go_wp2
         go_ret
         exact ⟨by first | rfl | (simp [errW_none, errW_some] <;> rfl) | (simp [*, errW_none, errW_some] <;> rfl), by repeat (first | (with_reducible first | exact HB.out | apply ba_ | apply pw_below_drewN | apply bd_) | exact HB.out)⟩

/-- THE ONE PURE STATEMENT of laws_FnDistributions: yours. -/
def laws_FnDistributions.Pure : Prop := ∀ (l0 : List Int), l0.length ≤ maxLen → l0.length * 1 ≤ 140737488351232 → (∀ x ∈ l0, (Lit.int .u8 x).wf = true) → ∃ k, laws_FnDistributions.f k l0 = some true
theorem laws_FnDistributions.walk (P : laws_FnDistributions.Pure) (a0 : Option Addr) (len0 cap0 : Nat) (z0 : List Int) (w : World) (w0 : (a0 = none ∧ len0 = 0 ∧ cap0 = 0 ∧ z0 = []) ∨ ∃ x, a0 = some x ∧ len0 ≤ cap0 ∧ cap0 ≤ maxLen ∧ z0.length = cap0 ∧ (∀ i, i < z0.length → w.cell? (x.add i) = some (.int .u8 (z0.getD i 0))) ∧ ∀ n ∈ z0, (Lit.int .u8 n).wf = true) (y0 : len0 * 1 ≤ 140737488351232) :
  Calls Try.prog 3 #[.slice a0 len0 cap0] w fun e w' => e = .returned (.bool true) ∧ Below w.heap.size w w' := by
 obtain ⟨l0, rfl, hr0, hm0, hw0, hc0⟩ := ReadsInt.ofRowC w0
 obtain ⟨k, h⟩ := P l0 hm0 y0 hw0
 refine (laws_FnDistributions.calls k _ _ l0 true w (Kd.C_of_reads (d := (0 : Int)) (h1 := fun _ => rfl) hr0) hc0 h).mono ?_
 rintro e w' ⟨rfl, hd⟩
 exact ⟨rfl, hd⟩

end Go.Proofs.Ytecciinjpimmmaa.PFnDistributions
