-- Made by wip/xprint.py: the print of the kit, called over a changed copy of what it reads.
-- PRINTED by print.py (a twelfth state) out of the translation. Not trusted: Lean checks it.
import Derived.Test.YtpmcmaffjghiiaaCut
import Derived.Test.YtpmcmaffjghiiaaXFnFamiliesx0
import Derived.Test.YtpmcmaffjghiiaaXFnFamiliesx1
import Derived.Test.YtpmcmaffjghiiaaXFnFamiliesx2
import Derived.Test.YtpmcmaffjghiiaaXFnFamiliesx3
import Derived.Test.YtpmcmaffjghiiaaXFnFamiliesx5
import Derived.Test.YtpmcmaffjghiiaaXFnFamiliesx6
import Derived.Test.YtpmcmaffjghiiaaXFnFamiliesx7
import Derived.Test.YtpmcmaffjghiiaaXFnFamiliesx8
import Derived.Test.YtpmcmaffjghiiaaXFnFamiliesx9
import Derived.Test.YtpmcmaffjghiiaaXFnFamiliesx10
namespace Go.Proofs.Ytpmcmaffjghiiaa.PFnFamilies
open Go.Proofs.Ytpmcmaffjghiiaa.Cut
open Go.Proofs.YtpmcmaffjghiiaaW.PrintWords.Aside0 renaming mk → am_
open Go.Proofs.YtpmcmaffjghiiaaW.PrintWords renaming below_drew1 → bd_, below_alloc → ba_, below_set → bs_, below_size → bz_, below_step → bp_, blk_frozen → kf_, blk_alloc → ka_, blk_drewN → kn_, blk_drew → kd_, blk_cell → kc_, blk_below → kb_, gate_callee → gc_
open Go.Proofs.YtpmcmaffjghiiaaW.PrintWords.Kd renaming R_alloc → ra_, R_drewN → rn_, R_drew → rd_, R_far → rf_, R_below → rb_, R_mono → rm_, R_types → rt_, R_reads' → rr_, R_slice → rs_, C_alloc → ca_, C_drewN → cn_, C_drew → cd_
open Go.RowKit Go.Proofs.YtpmcmaffjghiiaaW.PrintWords Go.Proofs.YtpmcmaffjghiiaaW.PrintLast Go.Proofs.YtpmcmaffjghiiaaW.PrintMore
attribute [local go_sem] max2_int min2_int max_two min_two max_three min_three max_four min_four   -- for this text's walks alone
set_option linter.unusedVariables false
set_option linter.unusedSimpArgs false

attribute [local go_sem high] eqA28
/-! ### laws_FnFamilies: function 3 -/
mutual
def laws_FnFamilies.j1 : Nat → List (S42) → Bool → Int → Int → Option (Bool)
 | 0, _, _, _, _ => none
 | k + 1, x3, x8, x513000, x513001 => if x8 = true then (laws_FnFamilies.l1 k x3 0 x513000 x513001 0 1) else (some true)
def laws_FnFamilies.l1 : Nat → List (S42) → Int → Int → Int → Int → Int → Option (Bool)
 | 0, _, _, _, _, _, _ => none
 | k + 1, x3, x33, x513000, x513001, x559000, x559001 => if x33 < (x3.length : Int) then (if 0 ≤ x33 then ((impl_BestCycle.f k ((rd_T42 x3 x33).f0) ((rd_T42 x3 x33).f1) ((rd_T42 x3 x33).f2) ((rd_T42 x3 x33).f3) ((rd_T42 x3 x33).f4)).bind fun bt561 => ((impl_CycleCost.f k ((rd_T42 x3 x33).f0) ((rd_T42 x3 x33).f1) ((rd_T42 x3 x33).f2) ((rd_T42 x3 x33).f3) ((rd_T42 x3 x33).f4) bt561.1).bind fun bt564 => ((spec_CycleCost.f k ((rd_T42 x3 x33).f0) ((rd_T42 x3 x33).f1) ((rd_T42 x3 x33).f2) ((rd_T42 x3 x33).f3) ((rd_T42 x3 x33).f4) bt561.1).bind fun bt569 => (if bt561.2 = true then (if bt564.2.2 = true then (if bt569.2.2 = true then (if (!(bt564.1 == bt569.1) || (!(bt564.2.1 == bt569.2.1))) = true then (none) else (laws_FnFamilies.l1 k x3 (wrap64 (x33 + 1)) x513000 x513001 (wrap64 ((wrap64 (x559000 * bt564.2.1)) + (wrap64 (bt564.1 * x559001)))) (wrap64 (x559001 * bt564.2.1)))) else (none)) else (none)) else (none))))) else (none)) else ((laws_rLess.f x513000 x513001 x559000 x559001).bind fun t559 => (some (!t559)))
def laws_FnFamilies.l0 : Nat → List (S42) → Bool → List (S42) → Int → Int → Int → Int → Int → Int → Option (Bool)
 | 0, _, _, _, _, _, _, _, _, _ => none
 | k + 1, x3, x8, x17, x18, x27, x513000, x513001, x549000, x549001 => if x27 ≤ 32 then ((impl_BestFactors.f k x17 x27).bind fun bt549 => ((impl_FamilyCost.f k x17 x18 x27 bt549.1).bind fun bt553 => (if bt549.2 = true then (if bt553.2.2 = true then ((laws_rLess.f bt553.1 bt553.2.1 x549000 x549001).bind fun t557 => (if t557 = true then (none) else (laws_FnFamilies.l0 k x3 x8 x17 x18 (wrap64 (2 * x27)) x513000 x513001 x549000 x549001))) else (none)) else (none)))) else (laws_FnFamilies.j1 k x3 x8 x513000 x513001)
end
def laws_FnFamilies.f (k : Nat) (l0 : List Int) : Option (Bool) := (laws_rBig.f l0).bind fun t500 => (if t500 = true then (some true) else ((spec_DrawFamilyCost.f k l0).bind fun bt501 => ((impl_FamilyCost.f k bt501.1 bt501.2.1 bt501.2.2.1 bt501.2.2.2).bind fun bt509 => ((spec_FamilyCost.f k bt501.1 bt501.2.1 bt501.2.2.1 bt501.2.2.2).bind fun bt513 => (if (!(bt509.1 == bt513.1) || (!(bt509.2.1 == bt513.2.1))) = true then (none) else (if (bt509.2.2 != bt513.2.2) = true then (none) else ((spec_DrawBestFactors.f k l0).bind fun bt517 => ((impl_BestFactors.f k bt517.1 bt517.2).bind fun bt521 => ((spec_BestFactors.f k bt517.1 bt517.2).bind fun bt525 => (if (bt521.2 != bt525.2) = true then (none) else ((laws_rInts.f k bt521.1 bt525.1).bind fun t529 => (if t529 = true then ((spec_DrawBestBase.f k l0).bind fun bt530 => ((impl_BestBase.f k bt530.1 bt530.2).bind fun bt534 => ((spec_BestBase.f k bt530.1 bt530.2).bind fun bt539 => (if (bt534.2.2 != bt539.2.2) = true then (none) else (if bt534.1 = bt539.1 then ((laws_rInts.f k bt534.2.1 bt539.2.1).bind fun t544 => (if t544 = true then (if bt534.2.2 = true then ((impl_FamilyCost.f k bt530.1 bt530.2 bt534.1 bt534.2.1).bind fun bt545 => (if bt545.2.2 = true then (laws_FnFamilies.l0 k bt501.1 bt509.2.2 bt530.1 bt530.2 1 bt509.1 bt509.2.1 bt545.1 bt545.2.1) else (none))) else (laws_FnFamilies.j1 k bt501.1 bt509.2.2 bt509.1 bt509.2.1)) else (none))) else (none)))))) else (none)))))))))))))
theorem laws_FnFamilies.mono_l : ∀ k, (∀ y0 y1 y2 y3, LeO (laws_FnFamilies.j1 k y0 y1 y2 y3) (laws_FnFamilies.j1 (k + 1) y0 y1 y2 y3)) ∧ (∀ y0 y1 y2 y3 y4 y5, LeO (laws_FnFamilies.l1 k y0 y1 y2 y3 y4 y5) (laws_FnFamilies.l1 (k + 1) y0 y1 y2 y3 y4 y5)) ∧ (∀ y0 y1 y2 y3 y4 y5 y6 y7 y8, LeO (laws_FnFamilies.l0 k y0 y1 y2 y3 y4 y5 y6 y7 y8) (laws_FnFamilies.l0 (k + 1) y0 y1 y2 y3 y4 y5 y6 y7 y8))
 | 0 => ⟨fun _ _ _ _ r h => by simp [laws_FnFamilies.j1] at h, fun _ _ _ _ _ _ r h => by simp [laws_FnFamilies.l1] at h, fun _ _ _ _ _ _ _ _ _ r h => by simp [laws_FnFamilies.l0] at h⟩
 | k + 1 => by
  obtain ⟨ih0, ih1, ih2⟩ := laws_FnFamilies.mono_l k
  refine ⟨?_, ?_, ?_⟩
  ·
   intro y0 y1 y2 y3
   unfold laws_FnFamilies.j1
   repeat' first
   | (with_reducible exact ih0 _ _ _ _)
   | (with_reducible exact ih1 _ _ _ _ _ _)
   | (with_reducible exact ih2 _ _ _ _ _ _ _ _ _)
   | (with_reducible exact impl_BestBase.mono _ _ _)
   | (with_reducible exact impl_BestCycle.mono _ _ _ _ _ _)
   | (with_reducible exact impl_BestFactors.mono _ _ _)
   | (with_reducible exact impl_CycleCost.mono _ _ _ _ _ _ _)
   | (with_reducible exact impl_FamilyCost.mono _ _ _ _ _)
   | (with_reducible exact laws_rInts.mono _ _ _)
   | (with_reducible exact spec_BestBase.mono _ _ _)
   | (with_reducible exact spec_BestFactors.mono _ _ _)
   | (with_reducible exact spec_CycleCost.mono _ _ _ _ _ _ _)
   | (with_reducible exact spec_DrawBestBase.mono _ _)
   | (with_reducible exact spec_DrawBestFactors.mono _ _)
   | (with_reducible exact spec_DrawFamilyCost.mono _ _)
   | (with_reducible exact spec_FamilyCost.mono _ _ _ _ _)
   | (with_reducible exact LeO.refl _)
   | (with_reducible exact LeO.none _)
   | (with_reducible refine LeO.ite ?_ ?_)
   | (with_reducible refine LeO.bind ?_ (fun _ => ?_))
   | exact ih0 _ _ _ _
   | exact ih1 _ _ _ _ _ _
   | exact ih2 _ _ _ _ _ _ _ _ _
   | exact impl_BestBase.mono _ _ _
   | exact impl_BestCycle.mono _ _ _ _ _ _
   | exact impl_BestFactors.mono _ _ _
   | exact impl_CycleCost.mono _ _ _ _ _ _ _
   | exact impl_FamilyCost.mono _ _ _ _ _
   | exact laws_rInts.mono _ _ _
   | exact spec_BestBase.mono _ _ _
   | exact spec_BestFactors.mono _ _ _
   | exact spec_CycleCost.mono _ _ _ _ _ _ _
   | exact spec_DrawBestBase.mono _ _
   | exact spec_DrawBestFactors.mono _ _
   | exact spec_DrawFamilyCost.mono _ _
   | exact spec_FamilyCost.mono _ _ _ _ _
   | exact LeO.none _
   | refine LeO.ite ?_ ?_
   | refine LeO.bind ?_ (fun _ => ?_)
  ·
   intro y0 y1 y2 y3 y4 y5
   unfold laws_FnFamilies.l1
   repeat' first
   | (with_reducible exact ih0 _ _ _ _)
   | (with_reducible exact ih1 _ _ _ _ _ _)
   | (with_reducible exact ih2 _ _ _ _ _ _ _ _ _)
   | (with_reducible exact impl_BestBase.mono _ _ _)
   | (with_reducible exact impl_BestCycle.mono _ _ _ _ _ _)
   | (with_reducible exact impl_BestFactors.mono _ _ _)
   | (with_reducible exact impl_CycleCost.mono _ _ _ _ _ _ _)
   | (with_reducible exact impl_FamilyCost.mono _ _ _ _ _)
   | (with_reducible exact laws_rInts.mono _ _ _)
   | (with_reducible exact spec_BestBase.mono _ _ _)
   | (with_reducible exact spec_BestFactors.mono _ _ _)
   | (with_reducible exact spec_CycleCost.mono _ _ _ _ _ _ _)
   | (with_reducible exact spec_DrawBestBase.mono _ _)
   | (with_reducible exact spec_DrawBestFactors.mono _ _)
   | (with_reducible exact spec_DrawFamilyCost.mono _ _)
   | (with_reducible exact spec_FamilyCost.mono _ _ _ _ _)
   | (with_reducible exact LeO.refl _)
   | (with_reducible exact LeO.none _)
   | (with_reducible refine LeO.ite ?_ ?_)
   | (with_reducible refine LeO.bind ?_ (fun _ => ?_))
   | exact ih0 _ _ _ _
   | exact ih1 _ _ _ _ _ _
   | exact ih2 _ _ _ _ _ _ _ _ _
   | exact impl_BestBase.mono _ _ _
   | exact impl_BestCycle.mono _ _ _ _ _ _
   | exact impl_BestFactors.mono _ _ _
   | exact impl_CycleCost.mono _ _ _ _ _ _ _
   | exact impl_FamilyCost.mono _ _ _ _ _
   | exact laws_rInts.mono _ _ _
   | exact spec_BestBase.mono _ _ _
   | exact spec_BestFactors.mono _ _ _
   | exact spec_CycleCost.mono _ _ _ _ _ _ _
   | exact spec_DrawBestBase.mono _ _
   | exact spec_DrawBestFactors.mono _ _
   | exact spec_DrawFamilyCost.mono _ _
   | exact spec_FamilyCost.mono _ _ _ _ _
   | exact LeO.none _
   | refine LeO.ite ?_ ?_
   | refine LeO.bind ?_ (fun _ => ?_)
  ·
   intro y0 y1 y2 y3 y4 y5 y6 y7 y8
   unfold laws_FnFamilies.l0
   repeat' first
   | (with_reducible exact ih0 _ _ _ _)
   | (with_reducible exact ih1 _ _ _ _ _ _)
   | (with_reducible exact ih2 _ _ _ _ _ _ _ _ _)
   | (with_reducible exact impl_BestBase.mono _ _ _)
   | (with_reducible exact impl_BestCycle.mono _ _ _ _ _ _)
   | (with_reducible exact impl_BestFactors.mono _ _ _)
   | (with_reducible exact impl_CycleCost.mono _ _ _ _ _ _ _)
   | (with_reducible exact impl_FamilyCost.mono _ _ _ _ _)
   | (with_reducible exact laws_rInts.mono _ _ _)
   | (with_reducible exact spec_BestBase.mono _ _ _)
   | (with_reducible exact spec_BestFactors.mono _ _ _)
   | (with_reducible exact spec_CycleCost.mono _ _ _ _ _ _ _)
   | (with_reducible exact spec_DrawBestBase.mono _ _)
   | (with_reducible exact spec_DrawBestFactors.mono _ _)
   | (with_reducible exact spec_DrawFamilyCost.mono _ _)
   | (with_reducible exact spec_FamilyCost.mono _ _ _ _ _)
   | (with_reducible exact LeO.refl _)
   | (with_reducible exact LeO.none _)
   | (with_reducible refine LeO.ite ?_ ?_)
   | (with_reducible refine LeO.bind ?_ (fun _ => ?_))
   | exact ih0 _ _ _ _
   | exact ih1 _ _ _ _ _ _
   | exact ih2 _ _ _ _ _ _ _ _ _
   | exact impl_BestBase.mono _ _ _
   | exact impl_BestCycle.mono _ _ _ _ _ _
   | exact impl_BestFactors.mono _ _ _
   | exact impl_CycleCost.mono _ _ _ _ _ _ _
   | exact impl_FamilyCost.mono _ _ _ _ _
   | exact laws_rInts.mono _ _ _
   | exact spec_BestBase.mono _ _ _
   | exact spec_BestFactors.mono _ _ _
   | exact spec_CycleCost.mono _ _ _ _ _ _ _
   | exact spec_DrawBestBase.mono _ _
   | exact spec_DrawBestFactors.mono _ _
   | exact spec_DrawFamilyCost.mono _ _
   | exact spec_FamilyCost.mono _ _ _ _ _
   | exact LeO.none _
   | refine LeO.ite ?_ ?_
   | refine LeO.bind ?_ (fun _ => ?_)
theorem laws_FnFamilies.mono : ∀ a0 k, LeO (laws_FnFamilies.f k a0) (laws_FnFamilies.f (k + 1) a0) := by
 intro a0 k
 obtain ⟨ih0, ih1, ih2⟩ := laws_FnFamilies.mono_l k
 unfold laws_FnFamilies.f
 repeat' first
   | (with_reducible exact ih0 _ _ _ _)
   | (with_reducible exact ih1 _ _ _ _ _ _)
   | (with_reducible exact ih2 _ _ _ _ _ _ _ _ _)
   | (with_reducible exact impl_BestBase.mono _ _ _)
   | (with_reducible exact impl_BestCycle.mono _ _ _ _ _ _)
   | (with_reducible exact impl_BestFactors.mono _ _ _)
   | (with_reducible exact impl_CycleCost.mono _ _ _ _ _ _ _)
   | (with_reducible exact impl_FamilyCost.mono _ _ _ _ _)
   | (with_reducible exact laws_rInts.mono _ _ _)
   | (with_reducible exact spec_BestBase.mono _ _ _)
   | (with_reducible exact spec_BestFactors.mono _ _ _)
   | (with_reducible exact spec_CycleCost.mono _ _ _ _ _ _ _)
   | (with_reducible exact spec_DrawBestBase.mono _ _)
   | (with_reducible exact spec_DrawBestFactors.mono _ _)
   | (with_reducible exact spec_DrawFamilyCost.mono _ _)
   | (with_reducible exact spec_FamilyCost.mono _ _ _ _ _)
   | (with_reducible exact LeO.refl _)
   | (with_reducible exact LeO.none _)
   | (with_reducible refine LeO.ite ?_ ?_)
   | (with_reducible refine LeO.bind ?_ (fun _ => ?_))
   | exact ih0 _ _ _ _
   | exact ih1 _ _ _ _ _ _
   | exact ih2 _ _ _ _ _ _ _ _ _
   | exact impl_BestBase.mono _ _ _
   | exact impl_BestCycle.mono _ _ _ _ _ _
   | exact impl_BestFactors.mono _ _ _
   | exact impl_CycleCost.mono _ _ _ _ _ _ _
   | exact impl_FamilyCost.mono _ _ _ _ _
   | exact laws_rInts.mono _ _ _
   | exact spec_BestBase.mono _ _ _
   | exact spec_BestFactors.mono _ _ _
   | exact spec_CycleCost.mono _ _ _ _ _ _ _
   | exact spec_DrawBestBase.mono _ _
   | exact spec_DrawBestFactors.mono _ _
   | exact spec_DrawFamilyCost.mono _ _
   | exact spec_FamilyCost.mono _ _ _ _ _
   | exact LeO.none _
   | refine LeO.ite ?_ ?_
   | refine LeO.bind ?_ (fun _ => ?_)
set_option maxHeartbeats 8000000 in
set_option maxRecDepth 100000 in
theorem laws_FnFamilies.calls (k : Nat) (A0 : Option Addr) (c0 : Nat) (l0 : List Int) (r : Bool) (w : World) (hr0 : Kd.C (Kd.int .u8) w A0 l0.length l0) (hc0 : l0.length ≤ c0) (h : laws_FnFamilies.f k l0 = some r) :
  Calls Try.prog 3 #[.slice A0 l0.length c0] w fun e w' => e = .returned (.bool r) ∧ Below w.heap.size w w' := by
 have hu28 := Try.underlying28
 have hu42 := Try.underlying42
 have HR0 := am_ hr0
 have HC0 := am_ hc0
 clear hr0 hc0
 have HB := am_ (Below.refl w.heap.size w)
 have H : ((laws_rBig.f l0).bind fun t500 => (if t500 = true then (some true) else ((spec_DrawFamilyCost.f k l0).bind fun bt501 => ((impl_FamilyCost.f k bt501.1 bt501.2.1 bt501.2.2.1 bt501.2.2.2).bind fun bt509 => ((spec_FamilyCost.f k bt501.1 bt501.2.1 bt501.2.2.1 bt501.2.2.2).bind fun bt513 => (if (!(bt509.1 == bt513.1) || (!(bt509.2.1 == bt513.2.1))) = true then (none) else (if (bt509.2.2 != bt513.2.2) = true then (none) else ((spec_DrawBestFactors.f k l0).bind fun bt517 => ((impl_BestFactors.f k bt517.1 bt517.2).bind fun bt521 => ((spec_BestFactors.f k bt517.1 bt517.2).bind fun bt525 => (if (bt521.2 != bt525.2) = true then (none) else ((laws_rInts.f k bt521.1 bt525.1).bind fun t529 => (if t529 = true then ((spec_DrawBestBase.f k l0).bind fun bt530 => ((impl_BestBase.f k bt530.1 bt530.2).bind fun bt534 => ((spec_BestBase.f k bt530.1 bt530.2).bind fun bt539 => (if (bt534.2.2 != bt539.2.2) = true then (none) else (if bt534.1 = bt539.1 then ((laws_rInts.f k bt534.2.1 bt539.2.1).bind fun t544 => (if t544 = true then (if bt534.2.2 = true then ((impl_FamilyCost.f k bt530.1 bt530.2 bt534.1 bt534.2.1).bind fun bt545 => (if bt545.2.2 = true then (laws_FnFamilies.l0 k bt501.1 bt509.2.2 bt530.1 bt530.2 1 bt509.1 bt509.2.1 bt545.1 bt545.2.1) else (none))) else (laws_FnFamilies.j1 k bt501.1 bt509.2.2 bt509.1 bt509.2.1)) else (none))) else (none)))))) else (none)))))))))))))) = some r := h
 clear h
 replace H := Option.bind_eq_some_iff.mp H
 obtain ⟨t500, A20, H⟩ := H
 replace H : (if t500 = true then (some true) else ((spec_DrawFamilyCost.f k l0).bind fun bt501 => ((impl_FamilyCost.f k bt501.1 bt501.2.1 bt501.2.2.1 bt501.2.2.2).bind fun bt509 => ((spec_FamilyCost.f k bt501.1 bt501.2.1 bt501.2.2.1 bt501.2.2.2).bind fun bt513 => (if (!(bt509.1 == bt513.1) || (!(bt509.2.1 == bt513.2.1))) = true then (none) else (if (bt509.2.2 != bt513.2.2) = true then (none) else ((spec_DrawBestFactors.f k l0).bind fun bt517 => ((impl_BestFactors.f k bt517.1 bt517.2).bind fun bt521 => ((spec_BestFactors.f k bt517.1 bt517.2).bind fun bt525 => (if (bt521.2 != bt525.2) = true then (none) else ((laws_rInts.f k bt521.1 bt525.1).bind fun t529 => (if t529 = true then ((spec_DrawBestBase.f k l0).bind fun bt530 => ((impl_BestBase.f k bt530.1 bt530.2).bind fun bt534 => ((spec_BestBase.f k bt530.1 bt530.2).bind fun bt539 => (if (bt534.2.2 != bt539.2.2) = true then (none) else (if bt534.1 = bt539.1 then ((laws_rInts.f k bt534.2.1 bt539.2.1).bind fun t544 => (if t544 = true then (if bt534.2.2 = true then ((impl_FamilyCost.f k bt530.1 bt530.2 bt534.1 bt534.2.1).bind fun bt545 => (if bt545.2.2 = true then (laws_FnFamilies.l0 k bt501.1 bt509.2.2 bt530.1 bt530.2 1 bt509.1 bt509.2.1 bt545.1 bt545.2.1) else (none))) else (laws_FnFamilies.j1 k bt501.1 bt509.2.2 bt509.1 bt509.2.1)) else (none))) else (none)))))) else (none))))))))))))) = some r := H
 have A2 := am_ A20
 clear A20
 by_cases c3 : t500 = true
 ·
  subst c3
  have H1 : (some true) = some r := by rw [if_pos rfl] at H; exact H
  clear H
  have H := H1
  clear H1
  obtain rfl := Option.some.inj H
  go_enter Try.func3, Try.ntmps3
  go_wp2_with (first | ((with_reducible refine gc_ (f := 4) rfl ?_); refine goesL_ (some 41) rfl rfl Try.func4 (by kernel_rfl) rfl #[.slice A0 l0.length c0] rfl (by (try simp only [List.map_toArray, List.map_cons, List.map_nil]); first | done | rfl | (simp only [List.length_drop, List.length_take]; rfl)) ?_; (with_reducible refine (laws_rBig.calls _ _ l0 true _ ?side1 ?side2 A2.out).mono ?_); (case side1 => repeat (first | exact HR0.out | (with_reducible refine ca_ ?_ _) | (with_reducible refine cn_ ?_ _) | (with_reducible refine cd_ ?_))); (case side2 => exact HC0.out); rintro e w' ⟨rfl, ⟨nd, rfl⟩⟩; refine ⟨_, rfl, ?_⟩))
  go_ret
  exact ⟨by first | rfl | (simp [errW_none, errW_some] <;> rfl) | (simp [*, errW_none, errW_some] <;> rfl), by repeat (first | (with_reducible first | exact HB.out | apply ba_ | apply pw_below_drewN | apply bd_) | exact HB.out)⟩
 ·
  replace c3 := Bool.eq_false_iff.mpr c3
  subst c3
  have H1 : ((spec_DrawFamilyCost.f k l0).bind fun bt501 => ((impl_FamilyCost.f k bt501.1 bt501.2.1 bt501.2.2.1 bt501.2.2.2).bind fun bt509 => ((spec_FamilyCost.f k bt501.1 bt501.2.1 bt501.2.2.1 bt501.2.2.2).bind fun bt513 => (if (!(bt509.1 == bt513.1) || (!(bt509.2.1 == bt513.2.1))) = true then (none) else (if (bt509.2.2 != bt513.2.2) = true then (none) else ((spec_DrawBestFactors.f k l0).bind fun bt517 => ((impl_BestFactors.f k bt517.1 bt517.2).bind fun bt521 => ((spec_BestFactors.f k bt517.1 bt517.2).bind fun bt525 => (if (bt521.2 != bt525.2) = true then (none) else ((laws_rInts.f k bt521.1 bt525.1).bind fun t529 => (if t529 = true then ((spec_DrawBestBase.f k l0).bind fun bt530 => ((impl_BestBase.f k bt530.1 bt530.2).bind fun bt534 => ((spec_BestBase.f k bt530.1 bt530.2).bind fun bt539 => (if (bt534.2.2 != bt539.2.2) = true then (none) else (if bt534.1 = bt539.1 then ((laws_rInts.f k bt534.2.1 bt539.2.1).bind fun t544 => (if t544 = true then (if bt534.2.2 = true then ((impl_FamilyCost.f k bt530.1 bt530.2 bt534.1 bt534.2.1).bind fun bt545 => (if bt545.2.2 = true then (laws_FnFamilies.l0 k bt501.1 bt509.2.2 bt530.1 bt530.2 1 bt509.1 bt509.2.1 bt545.1 bt545.2.1) else (none))) else (laws_FnFamilies.j1 k bt501.1 bt509.2.2 bt509.1 bt509.2.1)) else (none))) else (none)))))) else (none)))))))))))) = some r := by rw [if_neg (show ¬ (false = true) by decide)] at H; exact H
  clear H
  have H := H1
  clear H1
  replace H := Option.bind_eq_some_iff.mp H
  obtain ⟨⟨t501, t502, t503, t504⟩, A40, H⟩ := H
  replace H : ((impl_FamilyCost.f k t501 t502 t503 t504).bind fun bt509 => ((spec_FamilyCost.f k t501 t502 t503 t504).bind fun bt513 => (if (!(bt509.1 == bt513.1) || (!(bt509.2.1 == bt513.2.1))) = true then (none) else (if (bt509.2.2 != bt513.2.2) = true then (none) else ((spec_DrawBestFactors.f k l0).bind fun bt517 => ((impl_BestFactors.f k bt517.1 bt517.2).bind fun bt521 => ((spec_BestFactors.f k bt517.1 bt517.2).bind fun bt525 => (if (bt521.2 != bt525.2) = true then (none) else ((laws_rInts.f k bt521.1 bt525.1).bind fun t529 => (if t529 = true then ((spec_DrawBestBase.f k l0).bind fun bt530 => ((impl_BestBase.f k bt530.1 bt530.2).bind fun bt534 => ((spec_BestBase.f k bt530.1 bt530.2).bind fun bt539 => (if (bt534.2.2 != bt539.2.2) = true then (none) else (if bt534.1 = bt539.1 then ((laws_rInts.f k bt534.2.1 bt539.2.1).bind fun t544 => (if t544 = true then (if bt534.2.2 = true then ((impl_FamilyCost.f k bt530.1 bt530.2 bt534.1 bt534.2.1).bind fun bt545 => (if bt545.2.2 = true then (laws_FnFamilies.l0 k t501 bt509.2.2 bt530.1 bt530.2 1 bt509.1 bt509.2.1 bt545.1 bt545.2.1) else (none))) else (laws_FnFamilies.j1 k t501 bt509.2.2 bt509.1 bt509.2.1)) else (none))) else (none)))))) else (none))))))))))) = some r := H
  have A4 := am_ A40
  clear A40
  replace H := Option.bind_eq_some_iff.mp H
  obtain ⟨⟨t509, t510, t511⟩, A50, H⟩ := H
  replace H : ((spec_FamilyCost.f k t501 t502 t503 t504).bind fun bt513 => (if (!(t509 == bt513.1) || (!(t510 == bt513.2.1))) = true then (none) else (if (t511 != bt513.2.2) = true then (none) else ((spec_DrawBestFactors.f k l0).bind fun bt517 => ((impl_BestFactors.f k bt517.1 bt517.2).bind fun bt521 => ((spec_BestFactors.f k bt517.1 bt517.2).bind fun bt525 => (if (bt521.2 != bt525.2) = true then (none) else ((laws_rInts.f k bt521.1 bt525.1).bind fun t529 => (if t529 = true then ((spec_DrawBestBase.f k l0).bind fun bt530 => ((impl_BestBase.f k bt530.1 bt530.2).bind fun bt534 => ((spec_BestBase.f k bt530.1 bt530.2).bind fun bt539 => (if (bt534.2.2 != bt539.2.2) = true then (none) else (if bt534.1 = bt539.1 then ((laws_rInts.f k bt534.2.1 bt539.2.1).bind fun t544 => (if t544 = true then (if bt534.2.2 = true then ((impl_FamilyCost.f k bt530.1 bt530.2 bt534.1 bt534.2.1).bind fun bt545 => (if bt545.2.2 = true then (laws_FnFamilies.l0 k t501 t511 bt530.1 bt530.2 1 t509 t510 bt545.1 bt545.2.1) else (none))) else (laws_FnFamilies.j1 k t501 t511 t509 t510)) else (none))) else (none)))))) else (none)))))))))) = some r := H
  have A5 := am_ A50
  clear A50
  replace H := Option.bind_eq_some_iff.mp H
  obtain ⟨⟨t513, t514, t515⟩, A60, H⟩ := H
  replace H : (if (!(t509 == t513) || (!(t510 == t514))) = true then (none) else (if (t511 != t515) = true then (none) else ((spec_DrawBestFactors.f k l0).bind fun bt517 => ((impl_BestFactors.f k bt517.1 bt517.2).bind fun bt521 => ((spec_BestFactors.f k bt517.1 bt517.2).bind fun bt525 => (if (bt521.2 != bt525.2) = true then (none) else ((laws_rInts.f k bt521.1 bt525.1).bind fun t529 => (if t529 = true then ((spec_DrawBestBase.f k l0).bind fun bt530 => ((impl_BestBase.f k bt530.1 bt530.2).bind fun bt534 => ((spec_BestBase.f k bt530.1 bt530.2).bind fun bt539 => (if (bt534.2.2 != bt539.2.2) = true then (none) else (if bt534.1 = bt539.1 then ((laws_rInts.f k bt534.2.1 bt539.2.1).bind fun t544 => (if t544 = true then (if bt534.2.2 = true then ((impl_FamilyCost.f k bt530.1 bt530.2 bt534.1 bt534.2.1).bind fun bt545 => (if bt545.2.2 = true then (laws_FnFamilies.l0 k t501 t511 bt530.1 bt530.2 1 t509 t510 bt545.1 bt545.2.1) else (none))) else (laws_FnFamilies.j1 k t501 t511 t509 t510)) else (none))) else (none)))))) else (none))))))))) = some r := H
  have A6 := am_ A60
  clear A60
  by_cases c7 : (!(t509 == t513) || (!(t510 == t514))) = true
  ·
   rw [if_pos c7] at H
   exact absurd H (by simp)
  ·
   rw [if_neg c7] at H
   have c7b0 : (!(t509 == t513) || (!(t510 == t514))) = false := by simpa using c7
   clear c7
   by_cases c8 : (t511 != t515) = true
   ·
    rw [if_pos c8] at H
    exact absurd H (by simp)
   ·
    rw [if_neg c8] at H
    have c8b0 : (t511 != t515) = false := by simpa using c8
    (try (have c8b1 : decide (t511 = t515) = true := by simpa using c8))
    (try (have c8b2 : (t511 == t515) = true := by simpa using c8))
    clear c8
    replace H := Option.bind_eq_some_iff.mp H
    obtain ⟨⟨t517, t518⟩, A90, H⟩ := H
    replace H : ((impl_BestFactors.f k t517 t518).bind fun bt521 => ((spec_BestFactors.f k t517 t518).bind fun bt525 => (if (bt521.2 != bt525.2) = true then (none) else ((laws_rInts.f k bt521.1 bt525.1).bind fun t529 => (if t529 = true then ((spec_DrawBestBase.f k l0).bind fun bt530 => ((impl_BestBase.f k bt530.1 bt530.2).bind fun bt534 => ((spec_BestBase.f k bt530.1 bt530.2).bind fun bt539 => (if (bt534.2.2 != bt539.2.2) = true then (none) else (if bt534.1 = bt539.1 then ((laws_rInts.f k bt534.2.1 bt539.2.1).bind fun t544 => (if t544 = true then (if bt534.2.2 = true then ((impl_FamilyCost.f k bt530.1 bt530.2 bt534.1 bt534.2.1).bind fun bt545 => (if bt545.2.2 = true then (laws_FnFamilies.l0 k t501 t511 bt530.1 bt530.2 1 t509 t510 bt545.1 bt545.2.1) else (none))) else (laws_FnFamilies.j1 k t501 t511 t509 t510)) else (none))) else (none)))))) else (none)))))) = some r := H
    have A9 := am_ A90
    clear A90
    replace H := Option.bind_eq_some_iff.mp H
    obtain ⟨⟨t521, t522⟩, A100, H⟩ := H
    replace H : ((spec_BestFactors.f k t517 t518).bind fun bt525 => (if (t522 != bt525.2) = true then (none) else ((laws_rInts.f k t521 bt525.1).bind fun t529 => (if t529 = true then ((spec_DrawBestBase.f k l0).bind fun bt530 => ((impl_BestBase.f k bt530.1 bt530.2).bind fun bt534 => ((spec_BestBase.f k bt530.1 bt530.2).bind fun bt539 => (if (bt534.2.2 != bt539.2.2) = true then (none) else (if bt534.1 = bt539.1 then ((laws_rInts.f k bt534.2.1 bt539.2.1).bind fun t544 => (if t544 = true then (if bt534.2.2 = true then ((impl_FamilyCost.f k bt530.1 bt530.2 bt534.1 bt534.2.1).bind fun bt545 => (if bt545.2.2 = true then (laws_FnFamilies.l0 k t501 t511 bt530.1 bt530.2 1 t509 t510 bt545.1 bt545.2.1) else (none))) else (laws_FnFamilies.j1 k t501 t511 t509 t510)) else (none))) else (none)))))) else (none))))) = some r := H
    have A10 := am_ A100
    clear A100
    replace H := Option.bind_eq_some_iff.mp H
    obtain ⟨⟨t525, t526⟩, A110, H⟩ := H
    replace H : (if (t522 != t526) = true then (none) else ((laws_rInts.f k t521 t525).bind fun t529 => (if t529 = true then ((spec_DrawBestBase.f k l0).bind fun bt530 => ((impl_BestBase.f k bt530.1 bt530.2).bind fun bt534 => ((spec_BestBase.f k bt530.1 bt530.2).bind fun bt539 => (if (bt534.2.2 != bt539.2.2) = true then (none) else (if bt534.1 = bt539.1 then ((laws_rInts.f k bt534.2.1 bt539.2.1).bind fun t544 => (if t544 = true then (if bt534.2.2 = true then ((impl_FamilyCost.f k bt530.1 bt530.2 bt534.1 bt534.2.1).bind fun bt545 => (if bt545.2.2 = true then (laws_FnFamilies.l0 k t501 t511 bt530.1 bt530.2 1 t509 t510 bt545.1 bt545.2.1) else (none))) else (laws_FnFamilies.j1 k t501 t511 t509 t510)) else (none))) else (none)))))) else (none)))) = some r := H
    have A11 := am_ A110
    clear A110
    by_cases c12 : (t522 != t526) = true
    ·
     rw [if_pos c12] at H
     exact absurd H (by simp)
    ·
     rw [if_neg c12] at H
     have c12b0 : (t522 != t526) = false := by simpa using c12
     (try (have c12b1 : decide (t522 = t526) = true := by simpa using c12))
     (try (have c12b2 : (t522 == t526) = true := by simpa using c12))
     clear c12
     replace H := Option.bind_eq_some_iff.mp H
     obtain ⟨t529, A130, H⟩ := H
     replace H : (if t529 = true then ((spec_DrawBestBase.f k l0).bind fun bt530 => ((impl_BestBase.f k bt530.1 bt530.2).bind fun bt534 => ((spec_BestBase.f k bt530.1 bt530.2).bind fun bt539 => (if (bt534.2.2 != bt539.2.2) = true then (none) else (if bt534.1 = bt539.1 then ((laws_rInts.f k bt534.2.1 bt539.2.1).bind fun t544 => (if t544 = true then (if bt534.2.2 = true then ((impl_FamilyCost.f k bt530.1 bt530.2 bt534.1 bt534.2.1).bind fun bt545 => (if bt545.2.2 = true then (laws_FnFamilies.l0 k t501 t511 bt530.1 bt530.2 1 t509 t510 bt545.1 bt545.2.1) else (none))) else (laws_FnFamilies.j1 k t501 t511 t509 t510)) else (none))) else (none)))))) else (none)) = some r := H
     have A13 := am_ A130
     clear A130
     by_cases c14 : t529 = true
     ·
      subst c14
      have H1 : ((spec_DrawBestBase.f k l0).bind fun bt530 => ((impl_BestBase.f k bt530.1 bt530.2).bind fun bt534 => ((spec_BestBase.f k bt530.1 bt530.2).bind fun bt539 => (if (bt534.2.2 != bt539.2.2) = true then (none) else (if bt534.1 = bt539.1 then ((laws_rInts.f k bt534.2.1 bt539.2.1).bind fun t544 => (if t544 = true then (if bt534.2.2 = true then ((impl_FamilyCost.f k bt530.1 bt530.2 bt534.1 bt534.2.1).bind fun bt545 => (if bt545.2.2 = true then (laws_FnFamilies.l0 k t501 t511 bt530.1 bt530.2 1 t509 t510 bt545.1 bt545.2.1) else (none))) else (laws_FnFamilies.j1 k t501 t511 t509 t510)) else (none))) else (none)))))) = some r := by rw [if_pos rfl] at H; exact H
      clear H
      have H := H1
      clear H1
      replace H := Option.bind_eq_some_iff.mp H
      obtain ⟨⟨t530, t531⟩, A150, H⟩ := H
      replace H : ((impl_BestBase.f k t530 t531).bind fun bt534 => ((spec_BestBase.f k t530 t531).bind fun bt539 => (if (bt534.2.2 != bt539.2.2) = true then (none) else (if bt534.1 = bt539.1 then ((laws_rInts.f k bt534.2.1 bt539.2.1).bind fun t544 => (if t544 = true then (if bt534.2.2 = true then ((impl_FamilyCost.f k t530 t531 bt534.1 bt534.2.1).bind fun bt545 => (if bt545.2.2 = true then (laws_FnFamilies.l0 k t501 t511 t530 t531 1 t509 t510 bt545.1 bt545.2.1) else (none))) else (laws_FnFamilies.j1 k t501 t511 t509 t510)) else (none))) else (none))))) = some r := H
      have A15 := am_ A150
      clear A150
      replace H := Option.bind_eq_some_iff.mp H
      obtain ⟨⟨t534, t535, t536⟩, A160, H⟩ := H
      replace H : ((spec_BestBase.f k t530 t531).bind fun bt539 => (if (t536 != bt539.2.2) = true then (none) else (if t534 = bt539.1 then ((laws_rInts.f k t535 bt539.2.1).bind fun t544 => (if t544 = true then (if t536 = true then ((impl_FamilyCost.f k t530 t531 t534 t535).bind fun bt545 => (if bt545.2.2 = true then (laws_FnFamilies.l0 k t501 t511 t530 t531 1 t509 t510 bt545.1 bt545.2.1) else (none))) else (laws_FnFamilies.j1 k t501 t511 t509 t510)) else (none))) else (none)))) = some r := H
      have A16 := am_ A160
      clear A160
      replace H := Option.bind_eq_some_iff.mp H
      obtain ⟨⟨t539, t540, t541⟩, A170, H⟩ := H
      replace H : (if (t536 != t541) = true then (none) else (if t534 = t539 then ((laws_rInts.f k t535 t540).bind fun t544 => (if t544 = true then (if t536 = true then ((impl_FamilyCost.f k t530 t531 t534 t535).bind fun bt545 => (if bt545.2.2 = true then (laws_FnFamilies.l0 k t501 t511 t530 t531 1 t509 t510 bt545.1 bt545.2.1) else (none))) else (laws_FnFamilies.j1 k t501 t511 t509 t510)) else (none))) else (none))) = some r := H
      have A17 := am_ A170
      clear A170
      by_cases c18 : (t536 != t541) = true
      ·
       rw [if_pos c18] at H
       exact absurd H (by simp)
      ·
       rw [if_neg c18] at H
       have c18b0 : (t536 != t541) = false := by simpa using c18
       (try (have c18b1 : decide (t536 = t541) = true := by simpa using c18))
       (try (have c18b2 : (t536 == t541) = true := by simpa using c18))
       clear c18
       by_cases c19 : t534 = t539
       ·
        rw [if_pos c19] at H
        have c19b0 : (t534 == t539) = true := beq_iff_eq.mpr c19
        have c19b1 : (t534 != t539) = false := bne_eq_false_iff_eq.mpr c19
        clear c19
        replace H := Option.bind_eq_some_iff.mp H
        obtain ⟨t544, A200, H⟩ := H
        replace H : (if t544 = true then (if t536 = true then ((impl_FamilyCost.f k t530 t531 t534 t535).bind fun bt545 => (if bt545.2.2 = true then (laws_FnFamilies.l0 k t501 t511 t530 t531 1 t509 t510 bt545.1 bt545.2.1) else (none))) else (laws_FnFamilies.j1 k t501 t511 t509 t510)) else (none)) = some r := H
        have A20 := am_ A200
        clear A200
        by_cases c21 : t544 = true
        ·
         subst c21
         have H1 : (if t536 = true then ((impl_FamilyCost.f k t530 t531 t534 t535).bind fun bt545 => (if bt545.2.2 = true then (laws_FnFamilies.l0 k t501 t511 t530 t531 1 t509 t510 bt545.1 bt545.2.1) else (none))) else (laws_FnFamilies.j1 k t501 t511 t509 t510)) = some r := by rw [if_pos rfl] at H; exact H
         clear H
         have H := H1
         clear H1
         have HC22 := am_ H
         clear H
         go_enter Try.func3, Try.ntmps3
         go_upto_if 132 with (first | ((with_reducible refine gc_ (f := 4) rfl ?_); refine goesL_ (some 41) rfl rfl Try.func4 (by kernel_rfl) rfl #[.slice A0 l0.length c0] rfl (by (try simp only [List.map_toArray, List.map_cons, List.map_nil]); first | done | rfl | (simp only [List.length_drop, List.length_take]; rfl)) ?_; (with_reducible refine (laws_rBig.calls _ _ l0 false _ ?side1 ?side2 A2.out).mono ?_); (case side1 => repeat (first | exact HR0.out | (with_reducible refine ca_ ?_ _) | (with_reducible refine cn_ ?_ _) | (with_reducible refine cd_ ?_))); (case side2 => exact HC0.out); rintro e w' ⟨rfl, ⟨nd, rfl⟩⟩; refine ⟨_, rfl, ?_⟩) | ((with_reducible refine gc_ (f := 5) rfl ?_); refine goesL_ (some 44) rfl rfl Try.func5 (by kernel_rfl) rfl #[.slice A0 l0.length c0] rfl (by (try simp only [List.map_toArray, List.map_cons, List.map_nil]); first | done | rfl | (simp only [List.length_drop, List.length_take]; rfl)) ?_; (with_reducible refine (spec_DrawFamilyCost.calls k _ _ l0 t501 t502 t503 t504 _ ?side1 ?side2 A4.out).mono ?_); (case side1 => repeat (first | exact HR0.out | (with_reducible refine ca_ ?_ _) | (with_reducible refine cn_ ?_ _) | (with_reducible refine cd_ ?_))); (case side2 => exact HC0.out); rintro e w23 ⟨v505, v507, rfl, ho0, ho1, hb⟩; refine ⟨_, rfl, ?_⟩; have n0_ := am_ (Kd.R_lower ho0 (bz_ (by repeat (first | (with_reducible first | exact HB.out | apply ba_ | apply pw_below_drewN | apply bd_) | exact HB.out)))); have n1_ := am_ (Kd.R_lower ho1 (bz_ (by repeat (first | (with_reducible first | exact HB.out | apply ba_ | apply pw_below_drewN | apply bd_) | exact HB.out)))); have n2_ := am_ (bp_ (by repeat (first | (with_reducible first | exact HB.out | apply ba_ | apply pw_below_drewN | apply bd_) | exact HB.out)) hb); clear HB; have HO506 := n0_; have HO508 := n1_; have HB := n2_; clear n0_ n1_ n2_; (try clear hb); (try clear hb2); (try clear hk); (try clear hi); (try clear ho0); (try clear ho1); obtain ⟨Ao24, co24, eo24⟩ := rs_ HO506.out; subst eo24; obtain ⟨Ao25, co25, eo25⟩ := rs_ HO508.out; subst eo25) | ((with_reducible refine gc_ (f := 6) rfl ?_); refine goesL_ (some 54) rfl rfl Try.func6 (by kernel_rfl) rfl #[.slice Ao24 t501.length co24, .int .i64 t502, .int .i64 t503, .slice Ao25 t504.length co25] rfl (by (try simp only [List.map_toArray, List.map_cons, List.map_nil]); first | done | rfl | (simp only [List.length_drop, List.length_take]; rfl)) ?_; (with_reducible refine (impl_FamilyCost.calls k _ _ t501 t502 t503 _ _ t504 t509 t510 t511 _ ?side1 ?side2 ?side3 ?side4 A5.out).mono ?_); (case side1 => repeat (first | exact (rr_ HO506.out).2.2 | (with_reducible refine ca_ ?_ _) | (with_reducible refine cn_ ?_ _) | (with_reducible refine cd_ ?_))); (case side2 => exact (rr_ HO506.out).2.1); (case side3 => repeat (first | exact (rr_ HO508.out).2.2 | (with_reducible refine ca_ ?_ _) | (with_reducible refine cn_ ?_ _) | (with_reducible refine cd_ ?_))); (case side4 => exact (rr_ HO508.out).2.1); rintro e w26 ⟨rfl, hb⟩; refine ⟨_, rfl, ?_⟩; have n0_ := am_ (rb_ (by (with_reducible repeat (first | apply ra_ | apply rn_ | apply rd_)); exact HO506.out) hb); have n1_ := am_ (rb_ (by (with_reducible repeat (first | apply ra_ | apply rn_ | apply rd_)); exact HO508.out) hb); have n2_ := am_ (bp_ (by repeat (first | (with_reducible first | exact HB.out | apply ba_ | apply pw_below_drewN | apply bd_) | exact HB.out)) hb); clear HO506; clear HO508; clear HB; have HO506 := n0_; have HO508 := n1_; have HB := n2_; clear n0_ n1_ n2_; (try clear hb); (try clear hb2); (try clear hk); (try clear hi)) | ((with_reducible refine gate_dst (N := 7) rfl ?_); refine box_event ?hg (N := 7) ?hd (cs := #[.int .i64 0, .int .i64 0]) (t := 28) ?hr ?_; (case hd => rfl); (case hg => rfl); (case hr => first | (go_simp; done) | (go_simp; rfl)); intro gb512 hg w27 hbox hb; have n0_ := am_ (rb_ (by (with_reducible repeat (first | apply ra_ | apply rn_ | apply rd_)); exact HO506.out) hb); have n1_ := am_ (rb_ (by (with_reducible repeat (first | apply ra_ | apply rn_ | apply rd_)); exact HO508.out) hb); have n2_ := am_ (bp_ (by repeat (first | (with_reducible first | exact HB.out | apply ba_ | apply pw_below_drewN | apply bd_) | exact HB.out)) hb); have n3_ := am_ (hbox); have n4_ := am_ ((by rw [hg]; exact (bz_ (by repeat (first | (with_reducible first | exact HB.out | apply ba_ | apply pw_below_drewN | apply bd_) | exact HB.out))) : w.heap.size ≤ gb512)); have n5_ := am_ ((by rw [hg]; exact (bz_ (by repeat (first | (with_reducible first | exact HB.out | apply ba_ | apply pw_below_drewN | apply bd_) | exact HB.out))) : w.heap.size ≤ gb512)); clear HO506; clear HO508; clear HB; have HO506 := n0_; have HO508 := n1_; have HB := n2_; have BK512 := n3_; have GW512 := n4_; have GE512 := n5_; clear n0_ n1_ n2_ n3_ n4_ n5_; clear hb hbox hg; have hcz28_0 : w27.cell? ⟨gb512, 0, none⟩ = some (.int .i64 0) := (kc_ BK512.out 0).trans rfl; have hcz28_1 : w27.cell? ⟨gb512, 1, none⟩ = some (.int .i64 0) := (kc_ BK512.out 1).trans rfl; have hfz28_0 := kf_ BK512.out 0; have hfz28_1 := kf_ BK512.out 1) | ((with_reducible refine gc_ (f := 7) rfl ?_); refine goesL_ (some 62) rfl rfl Try.func7 (by kernel_rfl) rfl #[.slice Ao24 t501.length co24, .int .i64 t502, .int .i64 t503, .slice Ao25 t504.length co25] rfl (by (try simp only [List.map_toArray, List.map_cons, List.map_nil]); first | done | rfl | (simp only [List.length_drop, List.length_take]; rfl)) ?_; (with_reducible refine (spec_FamilyCost.calls k _ _ t501 t502 t503 _ _ t504 t513 t514 t515 _ ?side1 ?side2 ?side3 ?side4 A6.out).mono ?_); (case side1 => refine (rr_ (e := 42) (base := w.heap.size) (ok := fun k_ => True) (n := t501.length) (c := co24) ?_).2.2; exact (by (with_reducible repeat (first | apply ra_ | apply rn_ | apply rd_)); exact (rm_ (rf_ (p := ⟨gb512, 1, none⟩) (rf_ (p := ⟨gb512, 0, none⟩) (rt_ HO506.out BK512.out (by decide)) (fun _ hk => hk.2) (.int .i64 t509)) (fun _ hk => hk.2) (.int .i64 t510)) (fun _ h_ => h_.1)))); (case side2 => exact (rr_ HO506.out).2.1); (case side3 => refine (rr_ (e := 3) (base := w.heap.size) (ok := fun k_ => True) (n := t504.length) (c := co25) ?_).2.2; exact (by (with_reducible repeat (first | apply ra_ | apply rn_ | apply rd_)); exact (rm_ (rf_ (p := ⟨gb512, 1, none⟩) (rf_ (p := ⟨gb512, 0, none⟩) (rt_ HO508.out BK512.out (by decide)) (fun _ hk => hk.2) (.int .i64 t509)) (fun _ hk => hk.2) (.int .i64 t510)) (fun _ h_ => h_.1)))); (case side4 => exact (rr_ HO508.out).2.1); rintro e w29 ⟨rfl, hb⟩; refine ⟨_, rfl, ?_⟩; have n0_ := am_ (rb_ (by (with_reducible repeat (first | apply ra_ | apply rn_ | apply rd_)); exact (rm_ (rf_ (p := ⟨gb512, 1, none⟩) (rf_ (p := ⟨gb512, 0, none⟩) (rt_ HO506.out BK512.out (by decide)) (fun _ hk => hk.2) (.int .i64 t509)) (fun _ hk => hk.2) (.int .i64 t510)) (fun _ h_ => h_.1))) hb); have n1_ := am_ (rb_ (by (with_reducible repeat (first | apply ra_ | apply rn_ | apply rd_)); exact (rm_ (rf_ (p := ⟨gb512, 1, none⟩) (rf_ (p := ⟨gb512, 0, none⟩) (rt_ HO508.out BK512.out (by decide)) (fun _ hk => hk.2) (.int .i64 t509)) (fun _ hk => hk.2) (.int .i64 t510)) (fun _ h_ => h_.1))) hb); have n2_ := am_ (kb_ (g := gb512) (o := .cells #[.int .i64 t509, .int .i64 t510] 28 (0, 0)) (by (with_reducible repeat (first | refine kn_ ?_ _ | refine kd_ ?_ | refine ka_ ?_ _)); refine blk_put (cs := #[.int .i64 t509, .int .i64 0]) ?_ 1 _ rfl; (with_reducible repeat (first | refine kn_ ?_ _ | refine kd_ ?_ | refine ka_ ?_ _)); refine blk_put (cs := #[.int .i64 0, .int .i64 0]) ?_ 0 _ rfl; (with_reducible repeat (first | refine kn_ ?_ _ | refine kd_ ?_ | refine ka_ ?_ _)); exact BK512.out) hb); have n3_ := am_ (bp_ (by repeat (first | (with_reducible first | exact HB.out | apply ba_ | apply pw_below_drewN | apply bd_ | refine bs_ ?_ GE512.out) | exact HB.out)) hb); clear HO506; clear HO508; clear BK512; clear HB; have HO506 := n0_; have HO508 := n1_; have BK512 := n2_; have HB := n3_; clear n0_ n1_ n2_ n3_; (try clear hb); (try clear hb2); (try clear hk); (try clear hi)) | ((with_reducible refine gate_dst (N := 9) rfl ?_); refine box_event ?hg (N := 9) ?hd (cs := #[.int .i64 0, .int .i64 0]) (t := 28) ?hr ?_; (case hd => rfl); (case hg => rfl); (case hr => first | (go_simp; done) | (go_simp; rfl)); intro gb516 hg w30 hbox hb; have n0_ := am_ (rb_ (by (with_reducible repeat (first | apply ra_ | apply rn_ | apply rd_)); exact HO506.out) hb); have n1_ := am_ (rb_ (by (with_reducible repeat (first | apply ra_ | apply rn_ | apply rd_)); exact HO508.out) hb); have n2_ := am_ (kb_ (g := gb512) (o := .cells #[.int .i64 t509, .int .i64 t510] 28 (0, 0)) (by (with_reducible repeat (first | refine kn_ ?_ _ | refine kd_ ?_ | refine ka_ ?_ _)); exact BK512.out) hb); have n3_ := am_ (bp_ (by repeat (first | (with_reducible first | exact HB.out | apply ba_ | apply pw_below_drewN | apply bd_ | refine bs_ ?_ GE512.out) | exact HB.out)) hb); have n4_ := am_ (hbox); have n5_ := am_ ((by rw [hg]; exact (bz_ (by repeat (first | (with_reducible first | exact HB.out | apply ba_ | apply pw_below_drewN | apply bd_ | refine bs_ ?_ GE512.out) | exact HB.out))) : w.heap.size ≤ gb516)); have n6_ := am_ ((by rw [hg]; exact (bz_ (by repeat (first | (with_reducible first | exact HB.out | apply ba_ | apply pw_below_drewN | apply bd_ | refine bs_ ?_ GE512.out) | exact HB.out))) : w.heap.size ≤ gb516)); have n7_ := am_ ((by rw [hg]; exact Nat.ne_of_lt (blk_lt (g := gb512) (o := .cells #[.int .i64 t509, .int .i64 t510] 28 (0, 0)) (by (with_reducible repeat (first | refine kn_ ?_ _ | refine kd_ ?_ | refine ka_ ?_ _)); exact BK512.out)) : gb512 ≠ gb516)); have n8_ := am_ ((by rw [hg]; exact Nat.ne_of_gt (blk_lt (g := gb512) (o := .cells #[.int .i64 t509, .int .i64 t510] 28 (0, 0)) (by (with_reducible repeat (first | refine kn_ ?_ _ | refine kd_ ?_ | refine ka_ ?_ _)); exact BK512.out)) : gb516 ≠ gb512)); clear HO506; clear HO508; clear BK512; clear HB; have HO506 := n0_; have HO508 := n1_; have BK512 := n2_; have HB := n3_; have BK516 := n4_; have GW516 := n5_; have GE516 := n6_; have NB512_516 := n7_; have NB516_512 := n8_; clear n0_ n1_ n2_ n3_ n4_ n5_ n6_ n7_ n8_; clear hb hbox hg; have hnb31 := NB516_512.out; have hnc31 := NB512_516.out; have hcz32_0 : w30.cell? ⟨gb516, 0, none⟩ = some (.int .i64 0) := (kc_ BK516.out 0).trans rfl; have hcz32_1 : w30.cell? ⟨gb516, 1, none⟩ = some (.int .i64 0) := (kc_ BK516.out 1).trans rfl; have hfz32_0 := kf_ BK516.out 0; have hfz32_1 := kf_ BK516.out 1; have hcz33_0 : w30.cell? ⟨gb512, 0, none⟩ = some (.int .i64 t509) := (kc_ BK512.out 0).trans rfl; have hcz33_1 : w30.cell? ⟨gb512, 1, none⟩ = some (.int .i64 t510) := (kc_ BK512.out 1).trans rfl; have hfz33_0 := kf_ BK512.out 0; have hfz33_1 := kf_ BK512.out 1) | ((with_reducible refine gc_ (f := 8) rfl ?_); refine goesL_ (some 75) rfl rfl Try.func8 (by kernel_rfl) rfl #[.slice A0 l0.length c0] rfl (by (try simp only [List.map_toArray, List.map_cons, List.map_nil]); first | done | rfl | (simp only [List.length_drop, List.length_take]; rfl)) ?_; (with_reducible refine (spec_DrawBestFactors.calls k _ _ l0 t517 t518 _ ?side1 ?side2 A9.out).mono ?_); (case side1 => exact Kd.C_below HR0.out (by repeat (first | (with_reducible first | exact HB.out | apply ba_ | apply pw_below_drewN | apply bd_ | refine bs_ ?_ GE512.out | refine bs_ ?_ GE516.out) | exact HB.out))); (case side2 => exact HC0.out); rintro e w34 ⟨v519, rfl, ho0, hb⟩; refine ⟨_, rfl, ?_⟩; have n0_ := am_ (Kd.R_elder' (by (with_reducible repeat (first | apply ra_ | apply rn_ | apply rd_)); exact (rm_ (rf_ (p := ⟨gb516, 1, none⟩) (rf_ (p := ⟨gb516, 0, none⟩) (rt_ HO506.out BK516.out (by decide)) (fun _ hk => hk.2) (.int .i64 t513)) (fun _ hk => hk.2) (.int .i64 t514)) (fun _ h_ => h_.1))) (Kd.R_base ho0) hb); have n1_ := am_ (rb_ (by (with_reducible repeat (first | apply ra_ | apply rn_ | apply rd_)); exact (rm_ (rf_ (p := ⟨gb516, 1, none⟩) (rf_ (p := ⟨gb516, 0, none⟩) (rt_ HO508.out BK516.out (by decide)) (fun _ hk => hk.2) (.int .i64 t513)) (fun _ hk => hk.2) (.int .i64 t514)) (fun _ h_ => h_.1))) hb); have n2_ := am_ (Kd.R_lower (Kd.R_new' ho0 (Kd.R_lt (by (with_reducible repeat (first | apply ra_ | apply rn_ | apply rd_)); exact (rm_ (rf_ (p := ⟨gb516, 1, none⟩) (rf_ (p := ⟨gb516, 0, none⟩) (rt_ HO506.out BK516.out (by decide)) (fun _ hk => hk.2) (.int .i64 t513)) (fun _ hk => hk.2) (.int .i64 t514)) (fun _ h_ => h_.1))))) (bz_ (by repeat (first | (with_reducible first | exact HB.out | apply ba_ | apply pw_below_drewN | apply bd_ | refine bs_ ?_ GE512.out | refine bs_ ?_ GE516.out) | exact HB.out)))); have n3_ := am_ (kb_ (g := gb512) (o := .cells #[.int .i64 t509, .int .i64 t510] 28 (0, 0)) (by (with_reducible repeat (first | refine kn_ ?_ _ | refine kd_ ?_ | refine ka_ ?_ _)); refine blk_far ?_ NB512_516.out _; (with_reducible repeat (first | refine kn_ ?_ _ | refine kd_ ?_ | refine ka_ ?_ _)); refine blk_far ?_ NB512_516.out _; (with_reducible repeat (first | refine kn_ ?_ _ | refine kd_ ?_ | refine ka_ ?_ _)); exact BK512.out) hb); have n4_ := am_ (kb_ (g := gb516) (o := .cells #[.int .i64 t513, .int .i64 t514] 28 (0, 0)) (by (with_reducible repeat (first | refine kn_ ?_ _ | refine kd_ ?_ | refine ka_ ?_ _)); refine blk_put (cs := #[.int .i64 t513, .int .i64 0]) ?_ 1 _ rfl; (with_reducible repeat (first | refine kn_ ?_ _ | refine kd_ ?_ | refine ka_ ?_ _)); refine blk_put (cs := #[.int .i64 0, .int .i64 0]) ?_ 0 _ rfl; (with_reducible repeat (first | refine kn_ ?_ _ | refine kd_ ?_ | refine ka_ ?_ _)); exact BK516.out) hb); have n5_ := am_ (bp_ (by repeat (first | (with_reducible first | exact HB.out | apply ba_ | apply pw_below_drewN | apply bd_ | refine bs_ ?_ GE512.out | refine bs_ ?_ GE516.out) | exact HB.out)) hb); clear HO506; clear HO508; clear BK512; clear BK516; clear HB; have HO506 := n0_; have HO508 := n1_; have HO520 := n2_; have BK512 := n3_; have BK516 := n4_; have HB := n5_; clear n0_ n1_ n2_ n3_ n4_ n5_; (try clear hb); (try clear hb2); (try clear hk); (try clear hi); (try clear ho0); obtain ⟨Ao35, co35, eo35⟩ := rs_ HO520.out; subst eo35) | ((with_reducible refine gc_ (f := 9) rfl ?_); refine goesL_ (some 81) rfl rfl Try.func9 (by kernel_rfl) rfl #[.slice Ao35 t517.length co35, .int .i64 t518] rfl (by (try simp only [List.map_toArray, List.map_cons, List.map_nil]); first | done | rfl | (simp only [List.length_drop, List.length_take]; rfl)) ?_; (with_reducible refine (impl_BestFactors.calls k _ _ t517 t518 t521 t522 _ ?side1 ?side2 A10.out).mono ?_); (case side1 => repeat (first | exact (rr_ HO520.out).2.2 | (with_reducible refine ca_ ?_ _) | (with_reducible refine cn_ ?_ _) | (with_reducible refine cd_ ?_))); (case side2 => exact (rr_ HO520.out).2.1); rintro e w36 ⟨v523, rfl, ho0, hb⟩; refine ⟨_, rfl, ?_⟩; have n0_ := am_ (rb_ (by (with_reducible repeat (first | apply ra_ | apply rn_ | apply rd_)); exact HO506.out) hb); have n1_ := am_ (Kd.R_elder' (by (with_reducible repeat (first | apply ra_ | apply rn_ | apply rd_)); exact HO508.out) (Kd.R_base ho0) hb); have n2_ := am_ (rb_ (by (with_reducible repeat (first | apply ra_ | apply rn_ | apply rd_)); exact HO520.out) hb); have n3_ := am_ (Kd.R_lower (Kd.R_new' ho0 (Kd.R_lt (by (with_reducible repeat (first | apply ra_ | apply rn_ | apply rd_)); exact HO508.out))) (bz_ (by repeat (first | (with_reducible first | exact HB.out | apply ba_ | apply pw_below_drewN | apply bd_ | refine bs_ ?_ GE512.out | refine bs_ ?_ GE516.out) | exact HB.out)))); have n4_ := am_ (kb_ (g := gb512) (o := .cells #[.int .i64 t509, .int .i64 t510] 28 (0, 0)) (by (with_reducible repeat (first | refine kn_ ?_ _ | refine kd_ ?_ | refine ka_ ?_ _)); exact BK512.out) hb); have n5_ := am_ (kb_ (g := gb516) (o := .cells #[.int .i64 t513, .int .i64 t514] 28 (0, 0)) (by (with_reducible repeat (first | refine kn_ ?_ _ | refine kd_ ?_ | refine ka_ ?_ _)); exact BK516.out) hb); have n6_ := am_ (bp_ (by repeat (first | (with_reducible first | exact HB.out | apply ba_ | apply pw_below_drewN | apply bd_ | refine bs_ ?_ GE512.out | refine bs_ ?_ GE516.out) | exact HB.out)) hb); clear HO506; clear HO508; clear HO520; clear BK512; clear BK516; clear HB; have HO506 := n0_; have HO508 := n1_; have HO520 := n2_; have HO524 := n3_; have BK512 := n4_; have BK516 := n5_; have HB := n6_; clear n0_ n1_ n2_ n3_ n4_ n5_ n6_; (try clear hb); (try clear hb2); (try clear hk); (try clear hi); (try clear ho0)) | ((with_reducible refine gc_ (f := 10) rfl ?_); refine goesL_ (some 87) rfl rfl Try.func10 (by kernel_rfl) rfl #[.slice Ao35 t517.length co35, .int .i64 t518] rfl (by (try simp only [List.map_toArray, List.map_cons, List.map_nil]); first | done | rfl | (simp only [List.length_drop, List.length_take]; rfl)) ?_; (with_reducible refine (spec_BestFactors.calls k _ _ t517 t518 t525 t526 _ ?side1 ?side2 A11.out).mono ?_); (case side1 => repeat (first | exact (rr_ HO520.out).2.2 | (with_reducible refine ca_ ?_ _) | (with_reducible refine cn_ ?_ _) | (with_reducible refine cd_ ?_))); (case side2 => exact (rr_ HO520.out).2.1); rintro e w37 ⟨v527, rfl, ho0, hb⟩; refine ⟨_, rfl, ?_⟩; have n0_ := am_ (rb_ (by (with_reducible repeat (first | apply ra_ | apply rn_ | apply rd_)); exact HO506.out) hb); have n1_ := am_ (Kd.R_elder' (by (with_reducible repeat (first | apply ra_ | apply rn_ | apply rd_)); exact HO508.out) (Kd.R_base ho0) hb); have n2_ := am_ (rb_ (by (with_reducible repeat (first | apply ra_ | apply rn_ | apply rd_)); exact HO520.out) hb); have n3_ := am_ (Kd.R_elder' (by (with_reducible repeat (first | apply ra_ | apply rn_ | apply rd_)); exact HO524.out) (Kd.R_base ho0) hb); have n4_ := am_ (Kd.R_lower (Kd.R_new' (Kd.R_new' ho0 (Kd.R_lt (by (with_reducible repeat (first | apply ra_ | apply rn_ | apply rd_)); exact HO508.out))) (Kd.R_lt (by (with_reducible repeat (first | apply ra_ | apply rn_ | apply rd_)); exact HO524.out))) (bz_ (by repeat (first | (with_reducible first | exact HB.out | apply ba_ | apply pw_below_drewN | apply bd_ | refine bs_ ?_ GE512.out | refine bs_ ?_ GE516.out) | exact HB.out)))); have n5_ := am_ (kb_ (g := gb512) (o := .cells #[.int .i64 t509, .int .i64 t510] 28 (0, 0)) (by (with_reducible repeat (first | refine kn_ ?_ _ | refine kd_ ?_ | refine ka_ ?_ _)); exact BK512.out) hb); have n6_ := am_ (kb_ (g := gb516) (o := .cells #[.int .i64 t513, .int .i64 t514] 28 (0, 0)) (by (with_reducible repeat (first | refine kn_ ?_ _ | refine kd_ ?_ | refine ka_ ?_ _)); exact BK516.out) hb); have n7_ := am_ (bp_ (by repeat (first | (with_reducible first | exact HB.out | apply ba_ | apply pw_below_drewN | apply bd_ | refine bs_ ?_ GE512.out | refine bs_ ?_ GE516.out) | exact HB.out)) hb); clear HO506; clear HO508; clear HO520; clear HO524; clear BK512; clear BK516; clear HB; have HO506 := n0_; have HO508 := n1_; have HO520 := n2_; have HO524 := n3_; have HO528 := n4_; have BK512 := n5_; have BK516 := n6_; have HB := n7_; clear n0_ n1_ n2_ n3_ n4_ n5_ n6_ n7_; (try clear hb); (try clear hb2); (try clear hk); (try clear hi); (try clear ho0); obtain ⟨Ao38, co38, eo38⟩ := rs_ HO524.out; subst eo38; obtain ⟨Ao39, co39, eo39⟩ := rs_ HO528.out; subst eo39) | ((with_reducible refine gc_ (f := 11) rfl ?_); (with_reducible refine gate_guard (by first | rfl | kernel_rfl) ?_); refine goesL_ (some 96) rfl rfl Try.func11 (by kernel_rfl) rfl #[.slice Ao38 t521.length co38, .slice Ao39 t525.length co39] rfl (by (try simp only [List.map_toArray, List.map_cons, List.map_nil]); first | done | rfl | (simp only [List.length_drop, List.length_take]; rfl)) ?_; (with_reducible refine (laws_rInts.calls k _ _ t521 _ _ t525 true _ ?side1 ?side2 ?side3 ?side4 A13.out).mono ?_); (case side1 => repeat (first | exact (rr_ HO524.out).2.2 | (with_reducible refine ca_ ?_ _) | (with_reducible refine cn_ ?_ _) | (with_reducible refine cd_ ?_))); (case side2 => exact (rr_ HO524.out).2.1); (case side3 => repeat (first | exact (rr_ HO528.out).2.2 | (with_reducible refine ca_ ?_ _) | (with_reducible refine cn_ ?_ _) | (with_reducible refine cd_ ?_))); (case side4 => exact (rr_ HO528.out).2.1); rintro e w' ⟨rfl, ⟨nd, rfl⟩⟩; refine ⟨_, rfl, ?_⟩) | ((with_reducible refine gc_ (f := 12) rfl ?_); refine goesL_ (some 101) rfl rfl Try.func12 (by kernel_rfl) rfl #[.slice A0 l0.length c0] rfl (by (try simp only [List.map_toArray, List.map_cons, List.map_nil]); first | done | rfl | (simp only [List.length_drop, List.length_take]; rfl)) ?_; (with_reducible refine (spec_DrawBestBase.calls k _ _ l0 t530 t531 _ ?side1 ?side2 A15.out).mono ?_); (case side1 => repeat (first | exact (Kd.C_below HR0.out (by repeat (first | (with_reducible first | exact HB.out | apply ba_ | apply pw_below_drewN | apply bd_ | refine bs_ ?_ GE512.out | refine bs_ ?_ GE516.out) | exact HB.out))) | (with_reducible refine ca_ ?_ _) | (with_reducible refine cn_ ?_ _) | (with_reducible refine cd_ ?_))); (case side2 => exact HC0.out); rintro e w40 ⟨v532, rfl, ho0, hb⟩; refine ⟨_, rfl, ?_⟩; have n0_ := am_ (Kd.R_elder' (by (with_reducible repeat (first | apply ra_ | apply rn_ | apply rd_)); exact HO506.out) (Kd.R_base ho0) hb); have n1_ := am_ (rb_ (by (with_reducible repeat (first | apply ra_ | apply rn_ | apply rd_)); exact HO508.out) hb); have n2_ := am_ (Kd.R_elder' (by (with_reducible repeat (first | apply ra_ | apply rn_ | apply rd_)); exact HO520.out) (Kd.R_base ho0) hb); have n3_ := am_ (rb_ (by (with_reducible repeat (first | apply ra_ | apply rn_ | apply rd_)); exact HO524.out) hb); have n4_ := am_ (rb_ (by (with_reducible repeat (first | apply ra_ | apply rn_ | apply rd_)); exact HO528.out) hb); have n5_ := am_ (Kd.R_lower (Kd.R_new' (Kd.R_new' ho0 (Kd.R_lt (by (with_reducible repeat (first | apply ra_ | apply rn_ | apply rd_)); exact HO506.out))) (Kd.R_lt (by (with_reducible repeat (first | apply ra_ | apply rn_ | apply rd_)); exact HO520.out))) (bz_ (by repeat (first | (with_reducible first | exact HB.out | apply ba_ | apply pw_below_drewN | apply bd_ | refine bs_ ?_ GE512.out | refine bs_ ?_ GE516.out) | exact HB.out)))); have n6_ := am_ (kb_ (g := gb512) (o := .cells #[.int .i64 t509, .int .i64 t510] 28 (0, 0)) (by (with_reducible repeat (first | refine kn_ ?_ _ | refine kd_ ?_ | refine ka_ ?_ _)); exact BK512.out) hb); have n7_ := am_ (kb_ (g := gb516) (o := .cells #[.int .i64 t513, .int .i64 t514] 28 (0, 0)) (by (with_reducible repeat (first | refine kn_ ?_ _ | refine kd_ ?_ | refine ka_ ?_ _)); exact BK516.out) hb); have n8_ := am_ (bp_ (by repeat (first | (with_reducible first | exact HB.out | apply ba_ | apply pw_below_drewN | apply bd_ | refine bs_ ?_ GE512.out | refine bs_ ?_ GE516.out) | exact HB.out)) hb); clear HO506; clear HO508; clear HO520; clear HO524; clear HO528; clear BK512; clear BK516; clear HB; have HO506 := n0_; have HO508 := n1_; have HO520 := n2_; have HO524 := n3_; have HO528 := n4_; have HO533 := n5_; have BK512 := n6_; have BK516 := n7_; have HB := n8_; clear n0_ n1_ n2_ n3_ n4_ n5_ n6_ n7_ n8_; (try clear hb); (try clear hb2); (try clear hk); (try clear hi); (try clear ho0); obtain ⟨Ao41, co41, eo41⟩ := rs_ HO533.out; subst eo41) | ((with_reducible refine gc_ (f := 13) rfl ?_); refine goesL_ (some 107) rfl rfl Try.func13 (by kernel_rfl) rfl #[.slice Ao41 t530.length co41, .int .i64 t531] rfl (by (try simp only [List.map_toArray, List.map_cons, List.map_nil]); first | done | rfl | (simp only [List.length_drop, List.length_take]; rfl)) ?_; (with_reducible refine (impl_BestBase.calls k _ _ t530 t531 t534 t535 t536 _ ?side1 ?side2 A16.out).mono ?_); (case side1 => repeat (first | exact (rr_ HO533.out).2.2 | (with_reducible refine ca_ ?_ _) | (with_reducible refine cn_ ?_ _) | (with_reducible refine cd_ ?_))); (case side2 => exact (rr_ HO533.out).2.1); rintro e w42 ⟨v537, rfl, ho0, hb⟩; refine ⟨_, rfl, ?_⟩; have n0_ := am_ (rb_ (by (with_reducible repeat (first | apply ra_ | apply rn_ | apply rd_)); exact HO506.out) hb); have n1_ := am_ (Kd.R_elder' (by (with_reducible repeat (first | apply ra_ | apply rn_ | apply rd_)); exact HO508.out) (Kd.R_base ho0) hb); have n2_ := am_ (rb_ (by (with_reducible repeat (first | apply ra_ | apply rn_ | apply rd_)); exact HO520.out) hb); have n3_ := am_ (Kd.R_elder' (by (with_reducible repeat (first | apply ra_ | apply rn_ | apply rd_)); exact HO524.out) (Kd.R_base ho0) hb); have n4_ := am_ (Kd.R_elder' (by (with_reducible repeat (first | apply ra_ | apply rn_ | apply rd_)); exact HO528.out) (Kd.R_base ho0) hb); have n5_ := am_ (rb_ (by (with_reducible repeat (first | apply ra_ | apply rn_ | apply rd_)); exact HO533.out) hb); have n6_ := am_ (Kd.R_lower (Kd.R_new' (Kd.R_new' (Kd.R_new' ho0 (Kd.R_lt (by (with_reducible repeat (first | apply ra_ | apply rn_ | apply rd_)); exact HO508.out))) (Kd.R_lt (by (with_reducible repeat (first | apply ra_ | apply rn_ | apply rd_)); exact HO524.out))) (Kd.R_lt (by (with_reducible repeat (first | apply ra_ | apply rn_ | apply rd_)); exact HO528.out))) (bz_ (by repeat (first | (with_reducible first | exact HB.out | apply ba_ | apply pw_below_drewN | apply bd_ | refine bs_ ?_ GE512.out | refine bs_ ?_ GE516.out) | exact HB.out)))); have n7_ := am_ (kb_ (g := gb512) (o := .cells #[.int .i64 t509, .int .i64 t510] 28 (0, 0)) (by (with_reducible repeat (first | refine kn_ ?_ _ | refine kd_ ?_ | refine ka_ ?_ _)); exact BK512.out) hb); have n8_ := am_ (kb_ (g := gb516) (o := .cells #[.int .i64 t513, .int .i64 t514] 28 (0, 0)) (by (with_reducible repeat (first | refine kn_ ?_ _ | refine kd_ ?_ | refine ka_ ?_ _)); exact BK516.out) hb); have n9_ := am_ (bp_ (by repeat (first | (with_reducible first | exact HB.out | apply ba_ | apply pw_below_drewN | apply bd_ | refine bs_ ?_ GE512.out | refine bs_ ?_ GE516.out) | exact HB.out)) hb); clear HO506; clear HO508; clear HO520; clear HO524; clear HO528; clear HO533; clear BK512; clear BK516; clear HB; have HO506 := n0_; have HO508 := n1_; have HO520 := n2_; have HO524 := n3_; have HO528 := n4_; have HO533 := n5_; have HO538 := n6_; have BK512 := n7_; have BK516 := n8_; have HB := n9_; clear n0_ n1_ n2_ n3_ n4_ n5_ n6_ n7_ n8_ n9_; (try clear hb); (try clear hb2); (try clear hk); (try clear hi); (try clear ho0)) | ((with_reducible refine gc_ (f := 14) rfl ?_); refine goesL_ (some 114) rfl rfl Try.func14 (by kernel_rfl) rfl #[.slice Ao41 t530.length co41, .int .i64 t531] rfl (by (try simp only [List.map_toArray, List.map_cons, List.map_nil]); first | done | rfl | (simp only [List.length_drop, List.length_take]; rfl)) ?_; (with_reducible refine (spec_BestBase.calls k _ _ t530 t531 t539 t540 t541 _ ?side1 ?side2 A17.out).mono ?_); (case side1 => repeat (first | exact (rr_ HO533.out).2.2 | (with_reducible refine ca_ ?_ _) | (with_reducible refine cn_ ?_ _) | (with_reducible refine cd_ ?_))); (case side2 => exact (rr_ HO533.out).2.1); rintro e w43 ⟨v542, rfl, ho0, hb⟩; refine ⟨_, rfl, ?_⟩; have n0_ := am_ (rb_ (by (with_reducible repeat (first | apply ra_ | apply rn_ | apply rd_)); exact HO506.out) hb); have n1_ := am_ (Kd.R_elder' (by (with_reducible repeat (first | apply ra_ | apply rn_ | apply rd_)); exact HO508.out) (Kd.R_base ho0) hb); have n2_ := am_ (rb_ (by (with_reducible repeat (first | apply ra_ | apply rn_ | apply rd_)); exact HO520.out) hb); have n3_ := am_ (Kd.R_elder' (by (with_reducible repeat (first | apply ra_ | apply rn_ | apply rd_)); exact HO524.out) (Kd.R_base ho0) hb); have n4_ := am_ (Kd.R_elder' (by (with_reducible repeat (first | apply ra_ | apply rn_ | apply rd_)); exact HO528.out) (Kd.R_base ho0) hb); have n5_ := am_ (rb_ (by (with_reducible repeat (first | apply ra_ | apply rn_ | apply rd_)); exact HO533.out) hb); have n6_ := am_ (Kd.R_elder' (by (with_reducible repeat (first | apply ra_ | apply rn_ | apply rd_)); exact HO538.out) (Kd.R_base ho0) hb); have n7_ := am_ (Kd.R_lower (Kd.R_new' (Kd.R_new' (Kd.R_new' (Kd.R_new' ho0 (Kd.R_lt (by (with_reducible repeat (first | apply ra_ | apply rn_ | apply rd_)); exact HO508.out))) (Kd.R_lt (by (with_reducible repeat (first | apply ra_ | apply rn_ | apply rd_)); exact HO524.out))) (Kd.R_lt (by (with_reducible repeat (first | apply ra_ | apply rn_ | apply rd_)); exact HO528.out))) (Kd.R_lt (by (with_reducible repeat (first | apply ra_ | apply rn_ | apply rd_)); exact HO538.out))) (bz_ (by repeat (first | (with_reducible first | exact HB.out | apply ba_ | apply pw_below_drewN | apply bd_ | refine bs_ ?_ GE512.out | refine bs_ ?_ GE516.out) | exact HB.out)))); have n8_ := am_ (kb_ (g := gb512) (o := .cells #[.int .i64 t509, .int .i64 t510] 28 (0, 0)) (by (with_reducible repeat (first | refine kn_ ?_ _ | refine kd_ ?_ | refine ka_ ?_ _)); exact BK512.out) hb); have n9_ := am_ (kb_ (g := gb516) (o := .cells #[.int .i64 t513, .int .i64 t514] 28 (0, 0)) (by (with_reducible repeat (first | refine kn_ ?_ _ | refine kd_ ?_ | refine ka_ ?_ _)); exact BK516.out) hb); have n10_ := am_ (bp_ (by repeat (first | (with_reducible first | exact HB.out | apply ba_ | apply pw_below_drewN | apply bd_ | refine bs_ ?_ GE512.out | refine bs_ ?_ GE516.out) | exact HB.out)) hb); clear HO506; clear HO508; clear HO520; clear HO524; clear HO528; clear HO533; clear HO538; clear BK512; clear BK516; clear HB; have HO506 := n0_; have HO508 := n1_; have HO520 := n2_; have HO524 := n3_; have HO528 := n4_; have HO533 := n5_; have HO538 := n6_; have HO543 := n7_; have BK512 := n8_; have BK516 := n9_; have HB := n10_; clear n0_ n1_ n2_ n3_ n4_ n5_ n6_ n7_ n8_ n9_ n10_; (try clear hb); (try clear hb2); (try clear hk); (try clear hi); (try clear ho0); obtain ⟨Ao44, co44, eo44⟩ := rs_ HO538.out; subst eo44; obtain ⟨Ao45, co45, eo45⟩ := rs_ HO543.out; subst eo45) | ((with_reducible refine gc_ (f := 11) rfl ?_); (with_reducible refine gate_guard (by first | rfl | kernel_rfl) ?_); refine goesL_ (some 129) rfl rfl Try.func11 (by kernel_rfl) rfl #[.slice Ao44 t535.length co44, .slice Ao45 t540.length co45] rfl (by (try simp only [List.map_toArray, List.map_cons, List.map_nil]); first | done | rfl | (simp only [List.length_drop, List.length_take]; rfl)) ?_; (with_reducible refine (laws_rInts.calls k _ _ t535 _ _ t540 true _ ?side1 ?side2 ?side3 ?side4 A20.out).mono ?_); (case side1 => repeat (first | exact (rr_ HO538.out).2.2 | (with_reducible refine ca_ ?_ _) | (with_reducible refine cn_ ?_ _) | (with_reducible refine cd_ ?_))); (case side2 => exact (rr_ HO538.out).2.1); (case side3 => repeat (first | exact (rr_ HO543.out).2.2 | (with_reducible refine ca_ ?_ _) | (with_reducible refine cn_ ?_ _) | (with_reducible refine cd_ ?_))); (case side4 => exact (rr_ HO543.out).2.1); rintro e w' ⟨rfl, ⟨nd, rfl⟩⟩; refine ⟨_, rfl, ?_⟩))
         (try simp only [Act.put, List.setIfInBounds_toArray, List.set_cons_zero, List.set_cons_succ])
         go_cut [] (fun wc => ∃ (kq : Nat), Aside0 (laws_FnFamilies.j1 kq t501 t511 t509 t510 = some r) ∧ Aside0 (kq ≤ k) ∧ Aside0 (Kd.R k42 42 wc w.heap.size (fun _ => True) (.slice Ao24 t501.length co24) t501) ∧ Aside0 (wc.heap[gb512]? = some (.cells #[.int .i64 t509, .int .i64 t510] 28 (0, 0))) ∧ Aside0 (wc.heap[gb516]? = some (.cells #[.int .i64 t513, .int .i64 t514] 28 (0, 0))) ∧ Aside0 (Below w.heap.size w wc))
         case first =>
          have H := HC22.out
          clear HC22
          by_cases c46 : t536 = true
          ·
           subst c46
           have H1 : ((impl_FamilyCost.f k t530 t531 t534 t535).bind fun bt545 => (if bt545.2.2 = true then (laws_FnFamilies.l0 k t501 t511 t530 t531 1 t509 t510 bt545.1 bt545.2.1) else (none))) = some r := by rw [if_pos rfl] at H; exact H
           clear H
           have H := H1
           clear H1
           replace H := Option.bind_eq_some_iff.mp H
           obtain ⟨⟨t545, t546, t547⟩, A470, H⟩ := H
           replace H : (if t547 = true then (laws_FnFamilies.l0 k t501 t511 t530 t531 1 t509 t510 t545 t546) else (none)) = some r := H
           have A47 := am_ A470
           clear A470
           by_cases c48 : t547 = true
           ·
            subst c48
            have H1 : (laws_FnFamilies.l0 k t501 t511 t530 t531 1 t509 t510 t545 t546) = some r := by rw [if_pos rfl] at H; exact H
            clear H
            have H := H1
            clear H1
            have H' := am_ H
            clear H
            go_wp2_with (first | ((with_reducible refine gc_ (f := 6) rfl ?_); refine goesL_ (some 138) rfl rfl Try.func6 (by kernel_rfl) rfl #[.slice Ao41 t530.length co41, .int .i64 t531, .int .i64 t534, .slice Ao44 t535.length co44] rfl (by (try simp only [List.map_toArray, List.map_cons, List.map_nil]); first | done | rfl | (simp only [List.length_drop, List.length_take]; rfl)) ?_; (with_reducible refine (impl_FamilyCost.calls k _ _ t530 t531 t534 _ _ t535 t545 t546 true _ ?side1 ?side2 ?side3 ?side4 A47.out).mono ?_); (case side1 => repeat (first | exact (rr_ HO533.out).2.2 | (with_reducible refine ca_ ?_ _) | (with_reducible refine cn_ ?_ _) | (with_reducible refine cd_ ?_))); (case side2 => exact (rr_ HO533.out).2.1); (case side3 => repeat (first | exact (rr_ HO538.out).2.2 | (with_reducible refine ca_ ?_ _) | (with_reducible refine cn_ ?_ _) | (with_reducible refine cd_ ?_))); (case side4 => exact (rr_ HO538.out).2.1); rintro e w49 ⟨rfl, hb⟩; refine ⟨_, rfl, ?_⟩; have n0_ := am_ (rb_ (by (with_reducible repeat (first | apply ra_ | apply rn_ | apply rd_)); exact HO506.out) hb); have n1_ := am_ (rb_ (by (with_reducible repeat (first | apply ra_ | apply rn_ | apply rd_)); exact HO508.out) hb); have n2_ := am_ (rb_ (by (with_reducible repeat (first | apply ra_ | apply rn_ | apply rd_)); exact HO520.out) hb); have n3_ := am_ (rb_ (by (with_reducible repeat (first | apply ra_ | apply rn_ | apply rd_)); exact HO524.out) hb); have n4_ := am_ (rb_ (by (with_reducible repeat (first | apply ra_ | apply rn_ | apply rd_)); exact HO528.out) hb); have n5_ := am_ (rb_ (by (with_reducible repeat (first | apply ra_ | apply rn_ | apply rd_)); exact HO533.out) hb); have n6_ := am_ (rb_ (by (with_reducible repeat (first | apply ra_ | apply rn_ | apply rd_)); exact HO538.out) hb); have n7_ := am_ (rb_ (by (with_reducible repeat (first | apply ra_ | apply rn_ | apply rd_)); exact HO543.out) hb); have n8_ := am_ (kb_ (g := gb512) (o := .cells #[.int .i64 t509, .int .i64 t510] 28 (0, 0)) (by (with_reducible repeat (first | refine kn_ ?_ _ | refine kd_ ?_ | refine ka_ ?_ _)); exact BK512.out) hb); have n9_ := am_ (kb_ (g := gb516) (o := .cells #[.int .i64 t513, .int .i64 t514] 28 (0, 0)) (by (with_reducible repeat (first | refine kn_ ?_ _ | refine kd_ ?_ | refine ka_ ?_ _)); exact BK516.out) hb); have n10_ := am_ (bp_ (by repeat (first | (with_reducible first | exact HB.out | apply ba_ | apply pw_below_drewN | apply bd_ | refine bs_ ?_ GE512.out | refine bs_ ?_ GE516.out) | exact HB.out)) hb); clear HO506; clear HO508; clear HO520; clear HO524; clear HO528; clear HO533; clear HO538; clear HO543; clear BK512; clear BK516; clear HB; have HO506 := n0_; have HO508 := n1_; have HO520 := n2_; have HO524 := n3_; have HO528 := n4_; have HO533 := n5_; have HO538 := n6_; have HO543 := n7_; have BK512 := n8_; have BK516 := n9_; have HB := n10_; clear n0_ n1_ n2_ n3_ n4_ n5_ n6_ n7_ n8_ n9_ n10_; (try clear hb); (try clear hb2); (try clear hk); (try clear hi)) | ((with_reducible refine gate_dst (N := 25) rfl ?_); refine box_event ?hg (N := 25) ?hd (cs := #[.int .i64 0, .int .i64 0]) (t := 28) ?hr ?_; (case hd => rfl); (case hg => rfl); (case hr => first | (go_simp; done) | (go_simp; rfl)); intro gb548 hg w50 hbox hb; have n0_ := am_ (rb_ (by (with_reducible repeat (first | apply ra_ | apply rn_ | apply rd_)); exact HO506.out) hb); have n1_ := am_ (rb_ (by (with_reducible repeat (first | apply ra_ | apply rn_ | apply rd_)); exact HO508.out) hb); have n2_ := am_ (rb_ (by (with_reducible repeat (first | apply ra_ | apply rn_ | apply rd_)); exact HO520.out) hb); have n3_ := am_ (rb_ (by (with_reducible repeat (first | apply ra_ | apply rn_ | apply rd_)); exact HO524.out) hb); have n4_ := am_ (rb_ (by (with_reducible repeat (first | apply ra_ | apply rn_ | apply rd_)); exact HO528.out) hb); have n5_ := am_ (rb_ (by (with_reducible repeat (first | apply ra_ | apply rn_ | apply rd_)); exact HO533.out) hb); have n6_ := am_ (rb_ (by (with_reducible repeat (first | apply ra_ | apply rn_ | apply rd_)); exact HO538.out) hb); have n7_ := am_ (rb_ (by (with_reducible repeat (first | apply ra_ | apply rn_ | apply rd_)); exact HO543.out) hb); have n8_ := am_ (kb_ (g := gb512) (o := .cells #[.int .i64 t509, .int .i64 t510] 28 (0, 0)) (by (with_reducible repeat (first | refine kn_ ?_ _ | refine kd_ ?_ | refine ka_ ?_ _)); exact BK512.out) hb); have n9_ := am_ (kb_ (g := gb516) (o := .cells #[.int .i64 t513, .int .i64 t514] 28 (0, 0)) (by (with_reducible repeat (first | refine kn_ ?_ _ | refine kd_ ?_ | refine ka_ ?_ _)); exact BK516.out) hb); have n10_ := am_ (bp_ (by repeat (first | (with_reducible first | exact HB.out | apply ba_ | apply pw_below_drewN | apply bd_ | refine bs_ ?_ GE512.out | refine bs_ ?_ GE516.out) | exact HB.out)) hb); have n11_ := am_ (hbox); have n12_ := am_ ((by rw [hg]; exact (bz_ (by repeat (first | (with_reducible first | exact HB.out | apply ba_ | apply pw_below_drewN | apply bd_ | refine bs_ ?_ GE512.out | refine bs_ ?_ GE516.out) | exact HB.out))) : w.heap.size ≤ gb548)); have n13_ := am_ ((by rw [hg]; exact (bz_ (by repeat (first | (with_reducible first | exact HB.out | apply ba_ | apply pw_below_drewN | apply bd_ | refine bs_ ?_ GE512.out | refine bs_ ?_ GE516.out) | exact HB.out))) : w.heap.size ≤ gb548)); have n14_ := am_ ((by rw [hg]; exact Nat.ne_of_lt (blk_lt (g := gb512) (o := .cells #[.int .i64 t509, .int .i64 t510] 28 (0, 0)) (by (with_reducible repeat (first | refine kn_ ?_ _ | refine kd_ ?_ | refine ka_ ?_ _)); exact BK512.out)) : gb512 ≠ gb548)); have n15_ := am_ ((by rw [hg]; exact Nat.ne_of_gt (blk_lt (g := gb512) (o := .cells #[.int .i64 t509, .int .i64 t510] 28 (0, 0)) (by (with_reducible repeat (first | refine kn_ ?_ _ | refine kd_ ?_ | refine ka_ ?_ _)); exact BK512.out)) : gb548 ≠ gb512)); have n16_ := am_ ((by rw [hg]; exact Nat.ne_of_lt (blk_lt (g := gb516) (o := .cells #[.int .i64 t513, .int .i64 t514] 28 (0, 0)) (by (with_reducible repeat (first | refine kn_ ?_ _ | refine kd_ ?_ | refine ka_ ?_ _)); exact BK516.out)) : gb516 ≠ gb548)); have n17_ := am_ ((by rw [hg]; exact Nat.ne_of_gt (blk_lt (g := gb516) (o := .cells #[.int .i64 t513, .int .i64 t514] 28 (0, 0)) (by (with_reducible repeat (first | refine kn_ ?_ _ | refine kd_ ?_ | refine ka_ ?_ _)); exact BK516.out)) : gb548 ≠ gb516)); clear HO506; clear HO508; clear HO520; clear HO524; clear HO528; clear HO533; clear HO538; clear HO543; clear BK512; clear BK516; clear HB; have HO506 := n0_; have HO508 := n1_; have HO520 := n2_; have HO524 := n3_; have HO528 := n4_; have HO533 := n5_; have HO538 := n6_; have HO543 := n7_; have BK512 := n8_; have BK516 := n9_; have HB := n10_; have BK548 := n11_; have GW548 := n12_; have GE548 := n13_; have NB512_548 := n14_; have NB548_512 := n15_; have NB516_548 := n16_; have NB548_516 := n17_; clear n0_ n1_ n2_ n3_ n4_ n5_ n6_ n7_ n8_ n9_ n10_ n11_ n12_ n13_ n14_ n15_ n16_ n17_; clear hb hbox hg; have hnb51 := NB548_512.out; have hnc51 := NB512_548.out; have hnb52 := NB548_516.out; have hnc52 := NB516_548.out; have hcz53_0 : w50.cell? ⟨gb548, 0, none⟩ = some (.int .i64 0) := (kc_ BK548.out 0).trans rfl; have hcz53_1 : w50.cell? ⟨gb548, 1, none⟩ = some (.int .i64 0) := (kc_ BK548.out 1).trans rfl; have hfz53_0 := kf_ BK548.out 0; have hfz53_1 := kf_ BK548.out 1))
            go_loopg [27] k (fun kq v27 w' => ∃ (x27_1 : Int), v27 = .int .i64 x27_1 ∧ Aside0 (laws_FnFamilies.l0 kq t501 t511 t530 t531 x27_1 t509 t510 t545 t546 = some r) ∧ Aside0 (kq ≤ k) ∧ Aside0 (Kd.R k42 42 w' w.heap.size (fun k_ => some k_ ≠ ((.slice Ao41 t530.length co41) : Value).ownBlock) (.slice Ao24 t501.length co24) t501) ∧ Aside0 (Kd.R k42 42 w' w.heap.size (fun k_ => some k_ ≠ ((.slice Ao24 t501.length co24) : Value).ownBlock) (.slice Ao41 t530.length co41) t530) ∧ Aside0 (w'.heap[gb512]? = some (.cells #[.int .i64 t509, .int .i64 t510] 28 (0, 0))) ∧ Aside0 (w'.heap[gb516]? = some (.cells #[.int .i64 t513, .int .i64 t514] 28 (0, 0))) ∧ Aside0 (w'.heap[gb548]? = some (.cells #[.int .i64 t545, .int .i64 t546] 28 (0, 0))) ∧ Aside0 (Below w.heap.size w w'))
            case atStart => exact ⟨(1), (by first | rfl | (simp; done) | (simp [*]; done)), H', ⟨Nat.le_refl _⟩, ⟨by (with_reducible repeat (first | apply ra_ | apply rn_ | apply rd_)); exact rm_ (rf_ (p := ⟨gb548, 1, none⟩) (rf_ (p := ⟨gb548, 0, none⟩) (rt_ HO506.out BK548.out (by decide)) (fun _ hk => hk.2) (.int .i64 t545)) (fun _ hk => hk.2) (.int .i64 t546)) (fun _ hk => hk.1.2)⟩, ⟨by (with_reducible repeat (first | apply ra_ | apply rn_ | apply rd_)); exact rm_ (rf_ (p := ⟨gb548, 1, none⟩) (rf_ (p := ⟨gb548, 0, none⟩) (rt_ HO533.out BK548.out (by decide)) (fun _ hk => hk.2) (.int .i64 t545)) (fun _ hk => hk.2) (.int .i64 t546)) (fun _ hk => hk.1.1.2)⟩, ⟨by (with_reducible repeat (first | refine kn_ ?_ _ | refine kd_ ?_ | refine ka_ ?_ _)); refine blk_far ?_ NB512_548.out _; (with_reducible repeat (first | refine kn_ ?_ _ | refine kd_ ?_ | refine ka_ ?_ _)); refine blk_far ?_ NB512_548.out _; (with_reducible repeat (first | refine kn_ ?_ _ | refine kd_ ?_ | refine ka_ ?_ _)); exact BK512.out⟩, ⟨by (with_reducible repeat (first | refine kn_ ?_ _ | refine kd_ ?_ | refine ka_ ?_ _)); refine blk_far ?_ NB516_548.out _; (with_reducible repeat (first | refine kn_ ?_ _ | refine kd_ ?_ | refine ka_ ?_ _)); refine blk_far ?_ NB516_548.out _; (with_reducible repeat (first | refine kn_ ?_ _ | refine kd_ ?_ | refine ka_ ?_ _)); exact BK516.out⟩, ⟨by (with_reducible repeat (first | refine kn_ ?_ _ | refine kd_ ?_ | refine ka_ ?_ _)); refine blk_put (cs := #[.int .i64 t545, .int .i64 0]) ?_ 1 _ rfl; (with_reducible repeat (first | refine kn_ ?_ _ | refine kd_ ?_ | refine ka_ ?_ _)); refine blk_put (cs := #[.int .i64 0, .int .i64 0]) ?_ 0 _ rfl; (with_reducible repeat (first | refine kn_ ?_ _ | refine kd_ ?_ | refine ka_ ?_ _)); exact BK548.out⟩, ⟨by repeat (first | (with_reducible first | exact HB.out | apply ba_ | apply pw_below_drewN | apply bd_ | refine bs_ ?_ GE512.out | refine bs_ ?_ GE516.out | refine bs_ ?_ GE548.out) | exact HB.out)⟩⟩
            case round =>
             clear H'
             try clear c1
             try clear c2
             try clear p2
             try clear c3
             try clear c4
             try clear c5
             try clear c6
             try clear c7
             try clear c7b0
             try clear c8
             try clear c8b0
             try clear c8b1
             try clear c8b2
             try clear c9
             try clear c10
             try clear c11
             try clear c12
             try clear c12b0
             try clear c12b1
             try clear c12b2
             try clear c13
             try clear c14
             try clear c18
             try clear c18b0
             try clear c18b1
             try clear c18b2
             try clear c19
             try clear c19b0
             try clear c19b1
             try clear c21
             try clear c31
             try clear c46
             try clear c48
             try clear c51
             try clear c52
             try clear hcz28_0
             try clear hcz28_1
             try clear hcz32_0
             try clear hcz32_1
             try clear hcz33_0
             try clear hcz33_1
             try clear hcz53_0
             try clear hcz53_1
             try clear hfz28_0
             try clear hfz28_1
             try clear hfz32_0
             try clear hfz32_1
             try clear hfz33_0
             try clear hfz33_1
             try clear hfz53_0
             try clear hfz53_1
             obtain ⟨x27_1, rfl, HA, HK1, HO_3, HO_17, BK512, BK516, BK548, HB⟩ := hrel
             cases gk with
             | zero => exact absurd HA.out (by simp [laws_FnFamilies.l0])
             | succ k1 =>
              have H := HA.out
              clear HA
              simp only [laws_FnFamilies.l0] at H
              by_cases c54 : x27_1 ≤ 32
              ·
               rw [if_pos c54] at H
               have c54b0 : decide (x27_1 ≤ 32) = true := decide_eq_true c54
               clear c54
               (first | rw [c54b0] | (simp only [i64_w, i32_w]; rw [c54b0]) | skip)
               replace H := Option.bind_eq_some_iff.mp H
               obtain ⟨⟨t549, t550⟩, A550, H⟩ := H
               replace H : ((impl_FamilyCost.f k1 t530 t531 x27_1 t549).bind fun bt553 => (if t550 = true then (if bt553.2.2 = true then ((laws_rLess.f bt553.1 bt553.2.1 t545 t546).bind fun t557 => (if t557 = true then (none) else (laws_FnFamilies.l0 k1 t501 t511 t530 t531 (wrap64 (2 * x27_1)) t509 t510 t545 t546))) else (none)) else (none))) = some r := H
               have A55 := am_ A550
               clear A550
               replace H := Option.bind_eq_some_iff.mp H
               obtain ⟨⟨t553, t554, t555⟩, A560, H⟩ := H
               replace H : (if t550 = true then (if t555 = true then ((laws_rLess.f t553 t554 t545 t546).bind fun t557 => (if t557 = true then (none) else (laws_FnFamilies.l0 k1 t501 t511 t530 t531 (wrap64 (2 * x27_1)) t509 t510 t545 t546))) else (none)) else (none)) = some r := H
               have A56 := am_ A560
               clear A560
               by_cases c57 : t550 = true
               ·
                subst c57
                have H1 : (if t555 = true then ((laws_rLess.f t553 t554 t545 t546).bind fun t557 => (if t557 = true then (none) else (laws_FnFamilies.l0 k1 t501 t511 t530 t531 (wrap64 (2 * x27_1)) t509 t510 t545 t546))) else (none)) = some r := by rw [if_pos rfl] at H; exact H
                clear H
                have H := H1
                clear H1
                by_cases c58 : t555 = true
                ·
                 subst c58
                 have H1 : ((laws_rLess.f t553 t554 t545 t546).bind fun t557 => (if t557 = true then (none) else (laws_FnFamilies.l0 k1 t501 t511 t530 t531 (wrap64 (2 * x27_1)) t509 t510 t545 t546))) = some r := by rw [if_pos rfl] at H; exact H
                 clear H
                 have H := H1
                 clear H1
                 replace H := Option.bind_eq_some_iff.mp H
                 obtain ⟨t557, A590, H⟩ := H
                 replace H : (if t557 = true then (none) else (laws_FnFamilies.l0 k1 t501 t511 t530 t531 (wrap64 (2 * x27_1)) t509 t510 t545 t546)) = some r := H
                 have A59 := am_ A590
                 clear A590
                 by_cases c60 : t557 = true
                 ·
                  subst c60
                  have H1 : (none) = some r := by rw [if_pos rfl] at H; exact H
                  clear H
                  have H := H1
                  clear H1
                  exact absurd H (by simp)
                 ·
                  replace c60 := Bool.eq_false_iff.mpr c60
                  subst c60
                  have H1 : (laws_FnFamilies.l0 k1 t501 t511 t530 t531 (wrap64 (2 * x27_1)) t509 t510 t545 t546) = some r := by rw [if_neg (show ¬ (false = true) by decide)] at H; exact H
                  clear H
                  have H := H1
                  clear H1
                  have H' := am_ H
                  clear H
                  go_wp2_with (first | ((with_reducible refine gc_ (f := 9) rfl ?_); refine goesL_ (some 150) rfl rfl Try.func9 (by kernel_rfl) rfl #[.slice Ao41 t530.length co41, .int .i64 x27_1] rfl (by (try simp only [List.map_toArray, List.map_cons, List.map_nil]); first | done | rfl | (simp only [List.length_drop, List.length_take]; rfl)) ?_; (with_reducible refine (impl_BestFactors.calls k1 _ _ t530 x27_1 t549 true _ ?side1 ?side2 A55.out).mono ?_); (case side1 => repeat (first | exact (rr_ HO_17.out).2.2 | (with_reducible refine ca_ ?_ _) | (with_reducible refine cn_ ?_ _) | (with_reducible refine cd_ ?_))); (case side2 => exact (rr_ HO_17.out).2.1); rintro e w61 ⟨v551, rfl, ho0, hb⟩; refine ⟨_, rfl, ?_⟩; have n0_ := am_ (rb_ (by (with_reducible repeat (first | apply ra_ | apply rn_ | apply rd_)); exact HO_3.out) hb); have n1_ := am_ (rb_ (by (with_reducible repeat (first | apply ra_ | apply rn_ | apply rd_)); exact HO_17.out) hb); have n2_ := am_ (Kd.R_lower ho0 (bz_ (by repeat (first | (with_reducible first | exact HB.out | apply ba_ | apply pw_below_drewN | apply bd_ | refine bs_ ?_ GE512.out | refine bs_ ?_ GE516.out | refine bs_ ?_ GE548.out) | exact HB.out)))); have n3_ := am_ (kb_ (g := gb512) (o := .cells #[.int .i64 t509, .int .i64 t510] 28 (0, 0)) (by (with_reducible repeat (first | refine kn_ ?_ _ | refine kd_ ?_ | refine ka_ ?_ _)); exact BK512.out) hb); have n4_ := am_ (kb_ (g := gb516) (o := .cells #[.int .i64 t513, .int .i64 t514] 28 (0, 0)) (by (with_reducible repeat (first | refine kn_ ?_ _ | refine kd_ ?_ | refine ka_ ?_ _)); exact BK516.out) hb); have n5_ := am_ (kb_ (g := gb548) (o := .cells #[.int .i64 t545, .int .i64 t546] 28 (0, 0)) (by (with_reducible repeat (first | refine kn_ ?_ _ | refine kd_ ?_ | refine ka_ ?_ _)); exact BK548.out) hb); have n6_ := am_ (bp_ (by repeat (first | (with_reducible first | exact HB.out | apply ba_ | apply pw_below_drewN | apply bd_ | refine bs_ ?_ GE512.out | refine bs_ ?_ GE516.out | refine bs_ ?_ GE548.out) | exact HB.out)) hb); clear HO_3; clear HO_17; clear BK512; clear BK516; clear BK548; clear HB; have HO_3 := n0_; have HO_17 := n1_; have HO552 := n2_; have BK512 := n3_; have BK516 := n4_; have BK548 := n5_; have HB := n6_; clear n0_ n1_ n2_ n3_ n4_ n5_ n6_; (try clear hb); (try clear hb2); (try clear hk); (try clear hi); (try clear ho0); obtain ⟨Ao62, co62, eo62⟩ := rs_ HO552.out; subst eo62) | ((with_reducible refine gc_ (f := 6) rfl ?_); refine goesL_ (some 158) rfl rfl Try.func6 (by kernel_rfl) rfl #[.slice Ao41 t530.length co41, .int .i64 t531, .int .i64 x27_1, .slice Ao62 t549.length co62] rfl (by (try simp only [List.map_toArray, List.map_cons, List.map_nil]); first | done | rfl | (simp only [List.length_drop, List.length_take]; rfl)) ?_; (with_reducible refine (impl_FamilyCost.calls k1 _ _ t530 t531 x27_1 _ _ t549 t553 t554 true _ ?side1 ?side2 ?side3 ?side4 A56.out).mono ?_); (case side1 => repeat (first | exact (rr_ HO_17.out).2.2 | (with_reducible refine ca_ ?_ _) | (with_reducible refine cn_ ?_ _) | (with_reducible refine cd_ ?_))); (case side2 => exact (rr_ HO_17.out).2.1); (case side3 => repeat (first | exact (rr_ HO552.out).2.2 | (with_reducible refine ca_ ?_ _) | (with_reducible refine cn_ ?_ _) | (with_reducible refine cd_ ?_))); (case side4 => exact (rr_ HO552.out).2.1); rintro e w63 ⟨rfl, hb⟩; refine ⟨_, rfl, ?_⟩; have n0_ := am_ (rb_ (by (with_reducible repeat (first | apply ra_ | apply rn_ | apply rd_)); exact HO_3.out) hb); have n1_ := am_ (rb_ (by (with_reducible repeat (first | apply ra_ | apply rn_ | apply rd_)); exact HO_17.out) hb); have n2_ := am_ (rb_ (by (with_reducible repeat (first | apply ra_ | apply rn_ | apply rd_)); exact HO552.out) hb); have n3_ := am_ (kb_ (g := gb512) (o := .cells #[.int .i64 t509, .int .i64 t510] 28 (0, 0)) (by (with_reducible repeat (first | refine kn_ ?_ _ | refine kd_ ?_ | refine ka_ ?_ _)); exact BK512.out) hb); have n4_ := am_ (kb_ (g := gb516) (o := .cells #[.int .i64 t513, .int .i64 t514] 28 (0, 0)) (by (with_reducible repeat (first | refine kn_ ?_ _ | refine kd_ ?_ | refine ka_ ?_ _)); exact BK516.out) hb); have n5_ := am_ (kb_ (g := gb548) (o := .cells #[.int .i64 t545, .int .i64 t546] 28 (0, 0)) (by (with_reducible repeat (first | refine kn_ ?_ _ | refine kd_ ?_ | refine ka_ ?_ _)); exact BK548.out) hb); have n6_ := am_ (bp_ (by repeat (first | (with_reducible first | exact HB.out | apply ba_ | apply pw_below_drewN | apply bd_ | refine bs_ ?_ GE512.out | refine bs_ ?_ GE516.out | refine bs_ ?_ GE548.out) | exact HB.out)) hb); clear HO_3; clear HO_17; clear HO552; clear BK512; clear BK516; clear BK548; clear HB; have HO_3 := n0_; have HO_17 := n1_; have HO552 := n2_; have BK512 := n3_; have BK516 := n4_; have BK548 := n5_; have HB := n6_; clear n0_ n1_ n2_ n3_ n4_ n5_ n6_; (try clear hb); (try clear hb2); (try clear hk); (try clear hi)) | ((with_reducible refine gate_dst (N := 30) rfl ?_); refine box_event ?hg (N := 30) ?hd (cs := #[.int .i64 0, .int .i64 0]) (t := 28) ?hr ?_; (case hd => rfl); (case hg => rfl); (case hr => first | (go_simp; done) | (go_simp; rfl)); intro gb556 hg w64 hbox hb; have n0_ := am_ (rb_ (by (with_reducible repeat (first | apply ra_ | apply rn_ | apply rd_)); exact HO_3.out) hb); have n1_ := am_ (rb_ (by (with_reducible repeat (first | apply ra_ | apply rn_ | apply rd_)); exact HO_17.out) hb); have n2_ := am_ (rb_ (by (with_reducible repeat (first | apply ra_ | apply rn_ | apply rd_)); exact HO552.out) hb); have n3_ := am_ (kb_ (g := gb512) (o := .cells #[.int .i64 t509, .int .i64 t510] 28 (0, 0)) (by (with_reducible repeat (first | refine kn_ ?_ _ | refine kd_ ?_ | refine ka_ ?_ _)); exact BK512.out) hb); have n4_ := am_ (kb_ (g := gb516) (o := .cells #[.int .i64 t513, .int .i64 t514] 28 (0, 0)) (by (with_reducible repeat (first | refine kn_ ?_ _ | refine kd_ ?_ | refine ka_ ?_ _)); exact BK516.out) hb); have n5_ := am_ (kb_ (g := gb548) (o := .cells #[.int .i64 t545, .int .i64 t546] 28 (0, 0)) (by (with_reducible repeat (first | refine kn_ ?_ _ | refine kd_ ?_ | refine ka_ ?_ _)); exact BK548.out) hb); have n6_ := am_ (bp_ (by repeat (first | (with_reducible first | exact HB.out | apply ba_ | apply pw_below_drewN | apply bd_ | refine bs_ ?_ GE512.out | refine bs_ ?_ GE516.out | refine bs_ ?_ GE548.out) | exact HB.out)) hb); have n7_ := am_ (hbox); have n8_ := am_ ((by rw [hg]; exact (bz_ (by repeat (first | (with_reducible first | exact HB.out | apply ba_ | apply pw_below_drewN | apply bd_ | refine bs_ ?_ GE512.out | refine bs_ ?_ GE516.out | refine bs_ ?_ GE548.out) | exact HB.out))) : w.heap.size ≤ gb556)); have n9_ := am_ ((by rw [hg]; exact (bz_ (by repeat (first | (with_reducible first | exact HB.out | apply ba_ | apply pw_below_drewN | apply bd_ | refine bs_ ?_ GE512.out | refine bs_ ?_ GE516.out | refine bs_ ?_ GE548.out) | exact HB.out))) : w.heap.size ≤ gb556)); have n10_ := am_ ((by rw [hg]; exact Nat.ne_of_lt (blk_lt (g := gb512) (o := .cells #[.int .i64 t509, .int .i64 t510] 28 (0, 0)) (by (with_reducible repeat (first | refine kn_ ?_ _ | refine kd_ ?_ | refine ka_ ?_ _)); exact BK512.out)) : gb512 ≠ gb556)); have n11_ := am_ ((by rw [hg]; exact Nat.ne_of_gt (blk_lt (g := gb512) (o := .cells #[.int .i64 t509, .int .i64 t510] 28 (0, 0)) (by (with_reducible repeat (first | refine kn_ ?_ _ | refine kd_ ?_ | refine ka_ ?_ _)); exact BK512.out)) : gb556 ≠ gb512)); have n12_ := am_ ((by rw [hg]; exact Nat.ne_of_lt (blk_lt (g := gb516) (o := .cells #[.int .i64 t513, .int .i64 t514] 28 (0, 0)) (by (with_reducible repeat (first | refine kn_ ?_ _ | refine kd_ ?_ | refine ka_ ?_ _)); exact BK516.out)) : gb516 ≠ gb556)); have n13_ := am_ ((by rw [hg]; exact Nat.ne_of_gt (blk_lt (g := gb516) (o := .cells #[.int .i64 t513, .int .i64 t514] 28 (0, 0)) (by (with_reducible repeat (first | refine kn_ ?_ _ | refine kd_ ?_ | refine ka_ ?_ _)); exact BK516.out)) : gb556 ≠ gb516)); have n14_ := am_ ((by rw [hg]; exact Nat.ne_of_lt (blk_lt (g := gb548) (o := .cells #[.int .i64 t545, .int .i64 t546] 28 (0, 0)) (by (with_reducible repeat (first | refine kn_ ?_ _ | refine kd_ ?_ | refine ka_ ?_ _)); exact BK548.out)) : gb548 ≠ gb556)); have n15_ := am_ ((by rw [hg]; exact Nat.ne_of_gt (blk_lt (g := gb548) (o := .cells #[.int .i64 t545, .int .i64 t546] 28 (0, 0)) (by (with_reducible repeat (first | refine kn_ ?_ _ | refine kd_ ?_ | refine ka_ ?_ _)); exact BK548.out)) : gb556 ≠ gb548)); clear HO_3; clear HO_17; clear HO552; clear BK512; clear BK516; clear BK548; clear HB; have HO_3 := n0_; have HO_17 := n1_; have HO552 := n2_; have BK512 := n3_; have BK516 := n4_; have BK548 := n5_; have HB := n6_; have BK556 := n7_; have GW556 := n8_; have GE556 := n9_; have NB512_556 := n10_; have NB556_512 := n11_; have NB516_556 := n12_; have NB556_516 := n13_; have NB548_556 := n14_; have NB556_548 := n15_; clear n0_ n1_ n2_ n3_ n4_ n5_ n6_ n7_ n8_ n9_ n10_ n11_ n12_ n13_ n14_ n15_; clear hb hbox hg; have hnb65 := NB556_512.out; have hnc65 := NB512_556.out; have hnb66 := NB556_516.out; have hnc66 := NB516_556.out; have hnb67 := NB556_548.out; have hnc67 := NB548_556.out; have hcz68_0 : w64.cell? ⟨gb556, 0, none⟩ = some (.int .i64 0) := (kc_ BK556.out 0).trans rfl; have hcz68_1 : w64.cell? ⟨gb556, 1, none⟩ = some (.int .i64 0) := (kc_ BK556.out 1).trans rfl; have hfz68_0 := kf_ BK556.out 0; have hfz68_1 := kf_ BK556.out 1; have hnb69 := NB548_512.out; have hnc69 := NB512_548.out; have hnb70 := NB548_516.out; have hnc70 := NB516_548.out; have hcz71_0 : w64.cell? ⟨gb548, 0, none⟩ = some (.int .i64 t545) := (kc_ BK548.out 0).trans rfl; have hcz71_1 : w64.cell? ⟨gb548, 1, none⟩ = some (.int .i64 t546) := (kc_ BK548.out 1).trans rfl; have hfz71_0 := kf_ BK548.out 0; have hfz71_1 := kf_ BK548.out 1) | ((with_reducible refine gc_ (f := 15) rfl ?_); (with_reducible refine gate_guard (by first | rfl | kernel_rfl) ?_); refine goesL_ (some 170) rfl rfl Try.func15 (by kernel_rfl) rfl #[.agg #[.int .i64 t553, .int .i64 t554], .agg #[.int .i64 t545, .int .i64 t546]] rfl (by (try simp only [List.map_toArray, List.map_cons, List.map_nil]); first | done | rfl | (simp only [List.length_drop, List.length_take]; rfl)) ?_; (with_reducible refine (laws_rLess.calls t553 t554 t545 t546 false _ A59.out).mono ?_); rintro e w72 ⟨rfl, hb⟩; refine ⟨_, rfl, ?_⟩; have n0_ := am_ (rb_ (by (with_reducible repeat (first | apply ra_ | apply rn_ | apply rd_)); exact (rm_ (rf_ (p := ⟨gb556, 1, none⟩) (rf_ (p := ⟨gb556, 0, none⟩) (rt_ HO_3.out BK556.out (by decide)) (fun _ hk => hk.2) (.int .i64 t553)) (fun _ hk => hk.2) (.int .i64 t554)) (fun _ h_ => h_.1))) hb); have n1_ := am_ (rb_ (by (with_reducible repeat (first | apply ra_ | apply rn_ | apply rd_)); exact (rm_ (rf_ (p := ⟨gb556, 1, none⟩) (rf_ (p := ⟨gb556, 0, none⟩) (rt_ HO_17.out BK556.out (by decide)) (fun _ hk => hk.2) (.int .i64 t553)) (fun _ hk => hk.2) (.int .i64 t554)) (fun _ h_ => h_.1))) hb); have n2_ := am_ (rb_ (by (with_reducible repeat (first | apply ra_ | apply rn_ | apply rd_)); exact (rm_ (rf_ (p := ⟨gb556, 1, none⟩) (rf_ (p := ⟨gb556, 0, none⟩) (rt_ HO552.out BK556.out (by decide)) (fun _ hk => hk.2) (.int .i64 t553)) (fun _ hk => hk.2) (.int .i64 t554)) (fun _ h_ => h_.1))) hb); have n3_ := am_ (kb_ (g := gb512) (o := .cells #[.int .i64 t509, .int .i64 t510] 28 (0, 0)) (by (with_reducible repeat (first | refine kn_ ?_ _ | refine kd_ ?_ | refine ka_ ?_ _)); refine blk_far ?_ NB512_556.out _; (with_reducible repeat (first | refine kn_ ?_ _ | refine kd_ ?_ | refine ka_ ?_ _)); refine blk_far ?_ NB512_556.out _; (with_reducible repeat (first | refine kn_ ?_ _ | refine kd_ ?_ | refine ka_ ?_ _)); exact BK512.out) hb); have n4_ := am_ (kb_ (g := gb516) (o := .cells #[.int .i64 t513, .int .i64 t514] 28 (0, 0)) (by (with_reducible repeat (first | refine kn_ ?_ _ | refine kd_ ?_ | refine ka_ ?_ _)); refine blk_far ?_ NB516_556.out _; (with_reducible repeat (first | refine kn_ ?_ _ | refine kd_ ?_ | refine ka_ ?_ _)); refine blk_far ?_ NB516_556.out _; (with_reducible repeat (first | refine kn_ ?_ _ | refine kd_ ?_ | refine ka_ ?_ _)); exact BK516.out) hb); have n5_ := am_ (kb_ (g := gb548) (o := .cells #[.int .i64 t545, .int .i64 t546] 28 (0, 0)) (by (with_reducible repeat (first | refine kn_ ?_ _ | refine kd_ ?_ | refine ka_ ?_ _)); refine blk_far ?_ NB548_556.out _; (with_reducible repeat (first | refine kn_ ?_ _ | refine kd_ ?_ | refine ka_ ?_ _)); refine blk_far ?_ NB548_556.out _; (with_reducible repeat (first | refine kn_ ?_ _ | refine kd_ ?_ | refine ka_ ?_ _)); exact BK548.out) hb); have n6_ := am_ (kb_ (g := gb556) (o := .cells #[.int .i64 t553, .int .i64 t554] 28 (0, 0)) (by (with_reducible repeat (first | refine kn_ ?_ _ | refine kd_ ?_ | refine ka_ ?_ _)); refine blk_put (cs := #[.int .i64 t553, .int .i64 0]) ?_ 1 _ rfl; (with_reducible repeat (first | refine kn_ ?_ _ | refine kd_ ?_ | refine ka_ ?_ _)); refine blk_put (cs := #[.int .i64 0, .int .i64 0]) ?_ 0 _ rfl; (with_reducible repeat (first | refine kn_ ?_ _ | refine kd_ ?_ | refine ka_ ?_ _)); exact BK556.out) hb); have n7_ := am_ (bp_ (by repeat (first | (with_reducible first | exact HB.out | apply ba_ | apply pw_below_drewN | apply bd_ | refine bs_ ?_ GE512.out | refine bs_ ?_ GE516.out | refine bs_ ?_ GE548.out | refine bs_ ?_ GE556.out) | exact HB.out)) hb); clear HO_3; clear HO_17; clear HO552; clear BK512; clear BK516; clear BK548; clear BK556; clear HB; have HO_3 := n0_; have HO_17 := n1_; have HO552 := n2_; have BK512 := n3_; have BK516 := n4_; have BK548 := n5_; have BK556 := n6_; have HB := n7_; clear n0_ n1_ n2_ n3_ n4_ n5_ n6_ n7_; (try clear hb); (try clear hb2); (try clear hk); (try clear hi)))
                  go_roundg k1
                  case measure => have := HK1.out; omega
                  case rel => exact ⟨(wrap64 (2 * x27_1)), (by first | rfl | (simp; done) | (simp [*]; done)), H', ⟨by have := HK1.out; omega⟩, ⟨by (with_reducible repeat (first | apply ra_ | apply rn_ | apply rd_)); exact HO_3.out⟩, ⟨by (with_reducible repeat (first | apply ra_ | apply rn_ | apply rd_)); exact HO_17.out⟩, ⟨by (with_reducible repeat (first | refine kn_ ?_ _ | refine kd_ ?_ | refine ka_ ?_ _)); exact BK512.out⟩, ⟨by (with_reducible repeat (first | refine kn_ ?_ _ | refine kd_ ?_ | refine ka_ ?_ _)); exact BK516.out⟩, ⟨by (with_reducible repeat (first | refine kn_ ?_ _ | refine kd_ ?_ | refine ka_ ?_ _)); exact BK548.out⟩, ⟨by repeat (first | (with_reducible first | exact HB.out | apply ba_ | apply pw_below_drewN | apply bd_ | refine bs_ ?_ GE512.out | refine bs_ ?_ GE516.out | refine bs_ ?_ GE548.out | refine bs_ ?_ GE556.out) | exact HB.out)⟩⟩
                ·
                 replace c58 := Bool.eq_false_iff.mpr c58
                 subst c58
                 have H1 : (none) = some r := by rw [if_neg (show ¬ (false = true) by decide)] at H; exact H
                 clear H
                 have H := H1
                 clear H1
                 exact absurd H (by simp)
               ·
                replace c57 := Bool.eq_false_iff.mpr c57
                subst c57
                have H1 : (none) = some r := by rw [if_neg (show ¬ (false = true) by decide)] at H; exact H
                clear H
                have H := H1
                clear H1
                exact absurd H (by simp)
              ·
               rw [if_neg c54] at H
               have c54b0 : decide (x27_1 ≤ 32) = false := decide_eq_false c54
               clear c54
               (first | rw [c54b0] | (simp only [i64_w, i32_w]; rw [c54b0]) | skip)
               have H' := am_ H
               clear H
               go_wp2
               go_meet
               case rel => exact ⟨_, H', ⟨by have := HK1.out; first | omega | exact Nat.le_refl _⟩, ⟨by (with_reducible repeat (first | apply ra_ | apply rn_ | apply rd_)); exact rm_ HO_3.out (fun _ hk => trivial)⟩, ⟨by (with_reducible repeat (first | refine kn_ ?_ _ | refine kd_ ?_ | refine ka_ ?_ _)); exact BK512.out⟩, ⟨by (with_reducible repeat (first | refine kn_ ?_ _ | refine kd_ ?_ | refine ka_ ?_ _)); exact BK516.out⟩, ⟨by repeat (first | (with_reducible first | exact HB.out | apply ba_ | apply pw_below_drewN | apply bd_ | refine bs_ ?_ GE512.out | refine bs_ ?_ GE516.out | refine bs_ ?_ GE548.out) | exact HB.out)⟩⟩
           ·
            replace c48 := Bool.eq_false_iff.mpr c48
            subst c48
            have H1 : (none) = some r := by rw [if_neg (show ¬ (false = true) by decide)] at H; exact H
            clear H
            have H := H1
            clear H1
            exact absurd H (by simp)
          ·
           replace c46 := Bool.eq_false_iff.mpr c46
           subst c46
           have H1 : (laws_FnFamilies.j1 k t501 t511 t509 t510) = some r := by rw [if_neg (show ¬ (false = true) by decide)] at H; exact H
           clear H
           have H := H1
           clear H1
           have H' := am_ H
           clear H
           go_wp2
           go_meet
           case rel => exact ⟨_, H', ⟨by first | omega | exact Nat.le_refl _⟩, ⟨by (with_reducible repeat (first | apply ra_ | apply rn_ | apply rd_)); exact rm_ HO506.out (fun _ hk => trivial)⟩, ⟨by (with_reducible repeat (first | refine kn_ ?_ _ | refine kd_ ?_ | refine ka_ ?_ _)); exact BK512.out⟩, ⟨by (with_reducible repeat (first | refine kn_ ?_ _ | refine kd_ ?_ | refine ka_ ?_ _)); exact BK516.out⟩, ⟨by repeat (first | (with_reducible first | exact HB.out | apply ba_ | apply pw_below_drewN | apply bd_ | refine bs_ ?_ GE512.out | refine bs_ ?_ GE516.out) | exact HB.out)⟩⟩
         case rest =>
          clear HC22
          try clear c1
          try clear c2
          try clear p2
          try clear c3
          try clear c4
          try clear c5
          try clear c6
          try clear p6
          try clear c7
          try clear c7b0
          try clear c8
          try clear c8b0
          try clear c8b1
          try clear c8b2
          try clear c9
          try clear c10
          try clear c11
          try clear c12
          try clear c12b0
          try clear c12b1
          try clear c12b2
          try clear c13
          try clear c14
          try clear c15
          try clear c18
          try clear c18b0
          try clear c18b1
          try clear c18b2
          try clear c19
          try clear c19b0
          try clear c19b1
          try clear c21
          try clear c31
          try clear c46
          try clear c48
          try clear c51
          try clear c52
          try clear c54
          try clear c54b0
          try clear c57
          try clear c58
          try clear c60
          try clear p64
          try clear c65
          try clear c66
          try clear c67
          try clear c69
          try clear c70
          try clear hcz28_0
          try clear hcz28_1
          try clear hcz32_0
          try clear hcz32_1
          try clear hcz33_0
          try clear hcz33_1
          try clear hcz53_0
          try clear hcz53_1
          try clear hcz68_0
          try clear hcz68_1
          try clear hcz71_0
          try clear hcz71_1
          try clear hfz28_0
          try clear hfz28_1
          try clear hfz32_0
          try clear hfz32_1
          try clear hfz33_0
          try clear hfz33_1
          try clear hfz53_0
          try clear hfz53_1
          try clear hfz68_0
          try clear hfz68_1
          try clear hfz71_0
          try clear hfz71_1
          try clear p2
          obtain ⟨kq, HA, HJ21, HO_3, BK512, BK516, HB⟩ := hcut
          cases kq with
          | zero => exact absurd HA.out (by simp [laws_FnFamilies.j1])
          | succ kj21 =>
           have H := HA.out
           clear HA
           simp only [laws_FnFamilies.j1] at H
           by_cases c73 : t511 = true
           ·
            subst c73
            have H1 : (laws_FnFamilies.l1 kj21 t501 0 t509 t510 0 1) = some r := by rw [if_pos rfl] at H; exact H
            clear H
            have H := H1
            clear H1
            have H' := am_ H
            clear H
            go_wp2_with (first | ((with_reducible refine gate_dst (N := 32) rfl ?_); refine box_event ?hg (N := 32) ?hd (cs := #[.int .i64 0, .int .i64 0]) (t := 28) ?hr ?_; (case hd => rfl); (case hg => rfl); (case hr => first | (go_simp; done) | (go_simp; rfl)); intro gb558 hg w74 hbox hb; have n0_ := am_ (rb_ (by (with_reducible repeat (first | apply ra_ | apply rn_ | apply rd_)); exact HO_3.out) hb); have n1_ := am_ (kb_ (g := gb512) (o := .cells #[.int .i64 t509, .int .i64 t510] 28 (0, 0)) (by (with_reducible repeat (first | refine kn_ ?_ _ | refine kd_ ?_ | refine ka_ ?_ _)); exact BK512.out) hb); have n2_ := am_ (kb_ (g := gb516) (o := .cells #[.int .i64 t513, .int .i64 t514] 28 (0, 0)) (by (with_reducible repeat (first | refine kn_ ?_ _ | refine kd_ ?_ | refine ka_ ?_ _)); exact BK516.out) hb); have n3_ := am_ (bp_ (by repeat (first | (with_reducible first | exact HB.out | apply ba_ | apply pw_below_drewN | apply bd_ | refine bs_ ?_ GE512.out | refine bs_ ?_ GE516.out) | exact HB.out)) hb); have n4_ := am_ (hbox); have n5_ := am_ ((by rw [hg]; exact (bz_ (by repeat (first | (with_reducible first | exact HB.out | apply ba_ | apply pw_below_drewN | apply bd_ | refine bs_ ?_ GE512.out | refine bs_ ?_ GE516.out) | exact HB.out))) : w.heap.size ≤ gb558)); have n6_ := am_ ((by rw [hg]; exact (bz_ (by repeat (first | (with_reducible first | exact HB.out | apply ba_ | apply pw_below_drewN | apply bd_ | refine bs_ ?_ GE512.out | refine bs_ ?_ GE516.out) | exact HB.out))) : w.heap.size ≤ gb558)); have n7_ := am_ ((by rw [hg]; exact Nat.ne_of_lt (blk_lt (g := gb512) (o := .cells #[.int .i64 t509, .int .i64 t510] 28 (0, 0)) (by (with_reducible repeat (first | refine kn_ ?_ _ | refine kd_ ?_ | refine ka_ ?_ _)); exact BK512.out)) : gb512 ≠ gb558)); have n8_ := am_ ((by rw [hg]; exact Nat.ne_of_gt (blk_lt (g := gb512) (o := .cells #[.int .i64 t509, .int .i64 t510] 28 (0, 0)) (by (with_reducible repeat (first | refine kn_ ?_ _ | refine kd_ ?_ | refine ka_ ?_ _)); exact BK512.out)) : gb558 ≠ gb512)); have n9_ := am_ ((by rw [hg]; exact Nat.ne_of_lt (blk_lt (g := gb516) (o := .cells #[.int .i64 t513, .int .i64 t514] 28 (0, 0)) (by (with_reducible repeat (first | refine kn_ ?_ _ | refine kd_ ?_ | refine ka_ ?_ _)); exact BK516.out)) : gb516 ≠ gb558)); have n10_ := am_ ((by rw [hg]; exact Nat.ne_of_gt (blk_lt (g := gb516) (o := .cells #[.int .i64 t513, .int .i64 t514] 28 (0, 0)) (by (with_reducible repeat (first | refine kn_ ?_ _ | refine kd_ ?_ | refine ka_ ?_ _)); exact BK516.out)) : gb558 ≠ gb516)); clear HO_3; clear BK512; clear BK516; clear HB; have HO_3 := n0_; have BK512 := n1_; have BK516 := n2_; have HB := n3_; have BK558 := n4_; have GW558 := n5_; have GE558 := n6_; have NB512_558 := n7_; have NB558_512 := n8_; have NB516_558 := n9_; have NB558_516 := n10_; clear n0_ n1_ n2_ n3_ n4_ n5_ n6_ n7_ n8_ n9_ n10_; clear hb hbox hg; have hnb75 := NB558_512.out; have hnc75 := NB512_558.out; have hnb76 := NB558_516.out; have hnc76 := NB516_558.out; have hcz77_0 : w74.cell? ⟨gb558, 0, none⟩ = some (.int .i64 0) := (kc_ BK558.out 0).trans rfl; have hcz77_1 : w74.cell? ⟨gb558, 1, none⟩ = some (.int .i64 0) := (kc_ BK558.out 1).trans rfl; have hfz77_0 := kf_ BK558.out 0; have hfz77_1 := kf_ BK558.out 1))
            go_loopg [33] kj21 (fun kq v33 w' => ∃ (x33_2 : Int) (x559000_2 : Int) (x559001_2 : Int), v33 = .int .i64 x33_2 ∧ Aside0 (laws_FnFamilies.l1 kq t501 x33_2 t509 t510 x559000_2 x559001_2 = some r) ∧ Aside0 (kq ≤ kj21) ∧ Aside0 (Kd.R k42 42 w' w.heap.size (fun _ => True) (.slice Ao24 t501.length co24) t501) ∧ Aside0 (w'.heap[gb512]? = some (.cells #[.int .i64 t509, .int .i64 t510] 28 (0, 0))) ∧ Aside0 (w'.heap[gb516]? = some (.cells #[.int .i64 t513, .int .i64 t514] 28 (0, 0))) ∧ Aside0 (w'.heap[gb558]? = some (.cells #[.int .i64 x559000_2, .int .i64 x559001_2] 28 (0, 0))) ∧ Aside0 (Below w.heap.size w w'))
            case atStart => exact ⟨(0), (0), (1), (by first | rfl | (simp; done) | (simp [*]; done)), H', ⟨Nat.le_refl _⟩, ⟨by (with_reducible repeat (first | apply ra_ | apply rn_ | apply rd_)); exact rm_ (rf_ (p := ⟨gb558, 1, none⟩) (rf_ (p := ⟨gb558, 0, none⟩) (rt_ HO_3.out BK558.out (by decide)) (fun _ hk => hk.2) (.int .i64 0)) (fun _ hk => hk.2) (.int .i64 1)) (fun _ hk => trivial)⟩, ⟨by (with_reducible repeat (first | refine kn_ ?_ _ | refine kd_ ?_ | refine ka_ ?_ _)); refine blk_far ?_ NB512_558.out _; (with_reducible repeat (first | refine kn_ ?_ _ | refine kd_ ?_ | refine ka_ ?_ _)); refine blk_far ?_ NB512_558.out _; (with_reducible repeat (first | refine kn_ ?_ _ | refine kd_ ?_ | refine ka_ ?_ _)); exact BK512.out⟩, ⟨by (with_reducible repeat (first | refine kn_ ?_ _ | refine kd_ ?_ | refine ka_ ?_ _)); refine blk_far ?_ NB516_558.out _; (with_reducible repeat (first | refine kn_ ?_ _ | refine kd_ ?_ | refine ka_ ?_ _)); refine blk_far ?_ NB516_558.out _; (with_reducible repeat (first | refine kn_ ?_ _ | refine kd_ ?_ | refine ka_ ?_ _)); exact BK516.out⟩, ⟨by (with_reducible repeat (first | refine kn_ ?_ _ | refine kd_ ?_ | refine ka_ ?_ _)); refine blk_put (cs := #[.int .i64 0, .int .i64 0]) ?_ 1 _ rfl; (with_reducible repeat (first | refine kn_ ?_ _ | refine kd_ ?_ | refine ka_ ?_ _)); refine blk_put (cs := #[.int .i64 0, .int .i64 0]) ?_ 0 _ rfl; (with_reducible repeat (first | refine kn_ ?_ _ | refine kd_ ?_ | refine ka_ ?_ _)); exact BK558.out⟩, ⟨by repeat (first | (with_reducible first | exact HB.out | apply ba_ | apply pw_below_drewN | apply bd_ | refine bs_ ?_ GE512.out | refine bs_ ?_ GE516.out | refine bs_ ?_ GE558.out) | exact HB.out)⟩⟩
            case round =>
             clear H'
             try clear c1
             try clear c2
             try clear p2
             try clear c3
             try clear c4
             try clear c5
             try clear c6
             try clear p6
             try clear c7
             try clear c7b0
             try clear c8
             try clear c8b0
             try clear c8b1
             try clear c8b2
             try clear c9
             try clear c10
             try clear c11
             try clear c12
             try clear c12b0
             try clear c12b1
             try clear c12b2
             try clear c13
             try clear c14
             try clear c15
             try clear c18
             try clear c18b0
             try clear c18b1
             try clear c18b2
             try clear c19
             try clear c19b0
             try clear c19b1
             try clear c21
             try clear c31
             try clear c46
             try clear c48
             try clear c51
             try clear c52
             try clear c54
             try clear c54b0
             try clear c57
             try clear c58
             try clear c60
             try clear p64
             try clear c65
             try clear c66
             try clear c67
             try clear c69
             try clear c70
             try clear c73
             try clear c75
             try clear c76
             try clear hcz28_0
             try clear hcz28_1
             try clear hcz32_0
             try clear hcz32_1
             try clear hcz33_0
             try clear hcz33_1
             try clear hcz53_0
             try clear hcz53_1
             try clear hcz68_0
             try clear hcz68_1
             try clear hcz71_0
             try clear hcz71_1
             try clear hcz77_0
             try clear hcz77_1
             try clear hfz28_0
             try clear hfz28_1
             try clear hfz32_0
             try clear hfz32_1
             try clear hfz33_0
             try clear hfz33_1
             try clear hfz53_0
             try clear hfz53_1
             try clear hfz68_0
             try clear hfz68_1
             try clear hfz71_0
             try clear hfz71_1
             try clear hfz77_0
             try clear hfz77_1
             try clear p2
             try clear p6
             try clear p64
             obtain ⟨x33_2, x559000_2, x559001_2, rfl, HA, HK2, HO_3, BK512, BK516, BK558, HB⟩ := hrel
             cases gk with
             | zero => exact absurd HA.out (by simp [laws_FnFamilies.l1])
             | succ k2 =>
              have H := HA.out
              clear HA
              simp only [laws_FnFamilies.l1] at H
              by_cases c78 : x33_2 < (t501.length : Int)
              ·
               rw [if_pos c78] at H
               have c78b0 : decide (x33_2 < (t501.length : Int)) = true := decide_eq_true c78
               clear c78
               by_cases c79 : 0 ≤ x33_2
               ·
                rw [if_pos c79] at H
                have c79b0 : decide (0 ≤ x33_2) = true := decide_eq_true c79
                clear c79
                replace H := Option.bind_eq_some_iff.mp H
                obtain ⟨⟨t561, t562⟩, A800, H⟩ := H
                replace H : ((impl_CycleCost.f k2 ((rd_T42 t501 x33_2).f0) ((rd_T42 t501 x33_2).f1) ((rd_T42 t501 x33_2).f2) ((rd_T42 t501 x33_2).f3) ((rd_T42 t501 x33_2).f4) t561).bind fun bt564 => ((spec_CycleCost.f k2 ((rd_T42 t501 x33_2).f0) ((rd_T42 t501 x33_2).f1) ((rd_T42 t501 x33_2).f2) ((rd_T42 t501 x33_2).f3) ((rd_T42 t501 x33_2).f4) t561).bind fun bt569 => (if t562 = true then (if bt564.2.2 = true then (if bt569.2.2 = true then (if (!(bt564.1 == bt569.1) || (!(bt564.2.1 == bt569.2.1))) = true then (none) else (laws_FnFamilies.l1 k2 t501 (wrap64 (x33_2 + 1)) t509 t510 (wrap64 ((wrap64 (x559000_2 * bt564.2.1)) + (wrap64 (bt564.1 * x559001_2)))) (wrap64 (x559001_2 * bt564.2.1)))) else (none)) else (none)) else (none)))) = some r := H
                have A80 := am_ A800
                clear A800
                replace H := Option.bind_eq_some_iff.mp H
                obtain ⟨⟨t564, t565, t566⟩, A810, H⟩ := H
                replace H : ((spec_CycleCost.f k2 ((rd_T42 t501 x33_2).f0) ((rd_T42 t501 x33_2).f1) ((rd_T42 t501 x33_2).f2) ((rd_T42 t501 x33_2).f3) ((rd_T42 t501 x33_2).f4) t561).bind fun bt569 => (if t562 = true then (if t566 = true then (if bt569.2.2 = true then (if (!(t564 == bt569.1) || (!(t565 == bt569.2.1))) = true then (none) else (laws_FnFamilies.l1 k2 t501 (wrap64 (x33_2 + 1)) t509 t510 (wrap64 ((wrap64 (x559000_2 * t565)) + (wrap64 (t564 * x559001_2)))) (wrap64 (x559001_2 * t565)))) else (none)) else (none)) else (none))) = some r := H
                have A81 := am_ A810
                clear A810
                replace H := Option.bind_eq_some_iff.mp H
                obtain ⟨⟨t569, t570, t571⟩, A820, H⟩ := H
                replace H : (if t562 = true then (if t566 = true then (if t571 = true then (if (!(t564 == t569) || (!(t565 == t570))) = true then (none) else (laws_FnFamilies.l1 k2 t501 (wrap64 (x33_2 + 1)) t509 t510 (wrap64 ((wrap64 (x559000_2 * t565)) + (wrap64 (t564 * x559001_2)))) (wrap64 (x559001_2 * t565)))) else (none)) else (none)) else (none)) = some r := H
                have A82 := am_ A820
                clear A820
                by_cases c83 : t562 = true
                ·
                 subst c83
                 have H1 : (if t566 = true then (if t571 = true then (if (!(t564 == t569) || (!(t565 == t570))) = true then (none) else (laws_FnFamilies.l1 k2 t501 (wrap64 (x33_2 + 1)) t509 t510 (wrap64 ((wrap64 (x559000_2 * t565)) + (wrap64 (t564 * x559001_2)))) (wrap64 (x559001_2 * t565)))) else (none)) else (none)) = some r := by rw [if_pos rfl] at H; exact H
                 clear H
                 have H := H1
                 clear H1
                 by_cases c84 : t566 = true
                 ·
                  subst c84
                  have H1 : (if t571 = true then (if (!(t564 == t569) || (!(t565 == t570))) = true then (none) else (laws_FnFamilies.l1 k2 t501 (wrap64 (x33_2 + 1)) t509 t510 (wrap64 ((wrap64 (x559000_2 * t565)) + (wrap64 (t564 * x559001_2)))) (wrap64 (x559001_2 * t565)))) else (none)) = some r := by rw [if_pos rfl] at H; exact H
                  clear H
                  have H := H1
                  clear H1
                  by_cases c85 : t571 = true
                  ·
                   subst c85
                   have H1 : (if (!(t564 == t569) || (!(t565 == t570))) = true then (none) else (laws_FnFamilies.l1 k2 t501 (wrap64 (x33_2 + 1)) t509 t510 (wrap64 ((wrap64 (x559000_2 * t565)) + (wrap64 (t564 * x559001_2)))) (wrap64 (x559001_2 * t565)))) = some r := by rw [if_pos rfl] at H; exact H
                   clear H
                   have H := H1
                   clear H1
                   by_cases c86 : (!(t564 == t569) || (!(t565 == t570))) = true
                   ·
                    rw [if_pos c86] at H
                    exact absurd H (by simp)
                   ·
                    rw [if_neg c86] at H
                    have c86b0 : (!(t564 == t569) || (!(t565 == t570))) = false := by simpa using c86
                    clear c86
                    have H' := am_ H
                    clear H
                    have p560 : 0 ≤ (x33_2 : Int) := of_decide_eq_true (by first | (with_reducible assumption) | assumption)
                    have q560 : x33_2 < (t501.length : Int) := of_decide_eq_true (by first | (with_reducible assumption) | assumption)
                    obtain ⟨ad560, e560, hx560_0, hx560_1, hx560_2, hx560_3, hx560_4⟩ := at_T42 (rr_ HO_3.out).2.2 x33_2 p560 q560
                    cases e560
                    replace p560 := eq_true p560
                    replace q560 := eq_true q560
                    go_wp2_with (first | ((with_reducible refine gc_ (f := 16) rfl ?_); refine goesL_ (some 186) rfl rfl Try.func16 (by kernel_rfl) rfl #[.agg #[.int .i64 ((rd_T42 t501 x33_2).f0), .int .i64 ((rd_T42 t501 x33_2).f1), .int .i64 ((rd_T42 t501 x33_2).f2), .int .i64 ((rd_T42 t501 x33_2).f3), .int .i64 ((rd_T42 t501 x33_2).f4)]] rfl (by (try simp only [List.map_toArray, List.map_cons, List.map_nil]); first | done | rfl | (simp only [List.length_drop, List.length_take]; rfl)) ?_; (with_reducible refine (impl_BestCycle.calls k2 ((rd_T42 t501 x33_2).f0) ((rd_T42 t501 x33_2).f1) ((rd_T42 t501 x33_2).f2) ((rd_T42 t501 x33_2).f3) ((rd_T42 t501 x33_2).f4) t561 true _ A80.out).mono ?_); rintro e w87 ⟨rfl, hb⟩; refine ⟨_, rfl, ?_⟩; have n0_ := am_ (rb_ (by (with_reducible repeat (first | apply ra_ | apply rn_ | apply rd_)); exact HO_3.out) hb); have n1_ := am_ (kb_ (g := gb512) (o := .cells #[.int .i64 t509, .int .i64 t510] 28 (0, 0)) (by (with_reducible repeat (first | refine kn_ ?_ _ | refine kd_ ?_ | refine ka_ ?_ _)); exact BK512.out) hb); have n2_ := am_ (kb_ (g := gb516) (o := .cells #[.int .i64 t513, .int .i64 t514] 28 (0, 0)) (by (with_reducible repeat (first | refine kn_ ?_ _ | refine kd_ ?_ | refine ka_ ?_ _)); exact BK516.out) hb); have n3_ := am_ (kb_ (g := gb558) (o := .cells #[.int .i64 x559000_2, .int .i64 x559001_2] 28 (0, 0)) (by (with_reducible repeat (first | refine kn_ ?_ _ | refine kd_ ?_ | refine ka_ ?_ _)); exact BK558.out) hb); have n4_ := am_ (bp_ (by repeat (first | (with_reducible first | exact HB.out | apply ba_ | apply pw_below_drewN | apply bd_ | refine bs_ ?_ GE512.out | refine bs_ ?_ GE516.out | refine bs_ ?_ GE558.out) | exact HB.out)) hb); clear HO_3; clear BK512; clear BK516; clear BK558; clear HB; have HO_3 := n0_; have BK512 := n1_; have BK516 := n2_; have BK558 := n3_; have HB := n4_; clear n0_ n1_ n2_ n3_ n4_; (try clear hb); (try clear hb2); (try clear hk); (try clear hi); have p563 : 0 ≤ (x33_2 : Int) := of_decide_eq_true (by first | (with_reducible assumption) | assumption); have q563 : x33_2 < (t501.length : Int) := of_decide_eq_true (by first | (with_reducible assumption) | assumption); obtain ⟨ad563, e563, hx563_0, hx563_1, hx563_2, hx563_3, hx563_4⟩ := at_T42 (rr_ HO_3.out).2.2 x33_2 p563 q563; obtain rfl : ad560 = ad563 := (by injection e563); replace p563 := eq_true p563; replace q563 := eq_true q563) | ((with_reducible refine gc_ (f := 17) rfl ?_); refine goesL_ (some 195) rfl rfl Try.func17 (by kernel_rfl) rfl #[.agg #[.int .i64 ((rd_T42 t501 x33_2).f0), .int .i64 ((rd_T42 t501 x33_2).f1), .int .i64 ((rd_T42 t501 x33_2).f2), .int .i64 ((rd_T42 t501 x33_2).f3), .int .i64 ((rd_T42 t501 x33_2).f4)], .int .i64 t561] rfl (by (try simp only [List.map_toArray, List.map_cons, List.map_nil]); first | done | rfl | (simp only [List.length_drop, List.length_take]; rfl)) ?_; (with_reducible refine (impl_CycleCost.calls k2 ((rd_T42 t501 x33_2).f0) ((rd_T42 t501 x33_2).f1) ((rd_T42 t501 x33_2).f2) ((rd_T42 t501 x33_2).f3) ((rd_T42 t501 x33_2).f4) t561 t564 t565 true _ A81.out).mono ?_); rintro e w88 ⟨rfl, hb⟩; refine ⟨_, rfl, ?_⟩; have n0_ := am_ (rb_ (by (with_reducible repeat (first | apply ra_ | apply rn_ | apply rd_)); exact HO_3.out) hb); have n1_ := am_ (kb_ (g := gb512) (o := .cells #[.int .i64 t509, .int .i64 t510] 28 (0, 0)) (by (with_reducible repeat (first | refine kn_ ?_ _ | refine kd_ ?_ | refine ka_ ?_ _)); exact BK512.out) hb); have n2_ := am_ (kb_ (g := gb516) (o := .cells #[.int .i64 t513, .int .i64 t514] 28 (0, 0)) (by (with_reducible repeat (first | refine kn_ ?_ _ | refine kd_ ?_ | refine ka_ ?_ _)); exact BK516.out) hb); have n3_ := am_ (kb_ (g := gb558) (o := .cells #[.int .i64 x559000_2, .int .i64 x559001_2] 28 (0, 0)) (by (with_reducible repeat (first | refine kn_ ?_ _ | refine kd_ ?_ | refine ka_ ?_ _)); exact BK558.out) hb); have n4_ := am_ (bp_ (by repeat (first | (with_reducible first | exact HB.out | apply ba_ | apply pw_below_drewN | apply bd_ | refine bs_ ?_ GE512.out | refine bs_ ?_ GE516.out | refine bs_ ?_ GE558.out) | exact HB.out)) hb); clear HO_3; clear BK512; clear BK516; clear BK558; clear HB; have HO_3 := n0_; have BK512 := n1_; have BK516 := n2_; have BK558 := n3_; have HB := n4_; clear n0_ n1_ n2_ n3_ n4_; (try clear hb); (try clear hb2); (try clear hk); (try clear hi)) | ((with_reducible refine gate_dst (N := 36) rfl ?_); refine box_event ?hg (N := 36) ?hd (cs := #[.int .i64 0, .int .i64 0]) (t := 28) ?hr ?_; (case hd => rfl); (case hg => rfl); (case hr => first | (go_simp; done) | (go_simp; rfl)); intro gb567 hg w89 hbox hb; have n0_ := am_ (rb_ (by (with_reducible repeat (first | apply ra_ | apply rn_ | apply rd_)); exact HO_3.out) hb); have n1_ := am_ (kb_ (g := gb512) (o := .cells #[.int .i64 t509, .int .i64 t510] 28 (0, 0)) (by (with_reducible repeat (first | refine kn_ ?_ _ | refine kd_ ?_ | refine ka_ ?_ _)); exact BK512.out) hb); have n2_ := am_ (kb_ (g := gb516) (o := .cells #[.int .i64 t513, .int .i64 t514] 28 (0, 0)) (by (with_reducible repeat (first | refine kn_ ?_ _ | refine kd_ ?_ | refine ka_ ?_ _)); exact BK516.out) hb); have n3_ := am_ (kb_ (g := gb558) (o := .cells #[.int .i64 x559000_2, .int .i64 x559001_2] 28 (0, 0)) (by (with_reducible repeat (first | refine kn_ ?_ _ | refine kd_ ?_ | refine ka_ ?_ _)); exact BK558.out) hb); have n4_ := am_ (bp_ (by repeat (first | (with_reducible first | exact HB.out | apply ba_ | apply pw_below_drewN | apply bd_ | refine bs_ ?_ GE512.out | refine bs_ ?_ GE516.out | refine bs_ ?_ GE558.out) | exact HB.out)) hb); have n5_ := am_ (hbox); have n6_ := am_ ((by rw [hg]; exact (bz_ (by repeat (first | (with_reducible first | exact HB.out | apply ba_ | apply pw_below_drewN | apply bd_ | refine bs_ ?_ GE512.out | refine bs_ ?_ GE516.out | refine bs_ ?_ GE558.out) | exact HB.out))) : w.heap.size ≤ gb567)); have n7_ := am_ ((by rw [hg]; exact (bz_ (by repeat (first | (with_reducible first | exact HB.out | apply ba_ | apply pw_below_drewN | apply bd_ | refine bs_ ?_ GE512.out | refine bs_ ?_ GE516.out | refine bs_ ?_ GE558.out) | exact HB.out))) : w.heap.size ≤ gb567)); have n8_ := am_ ((by rw [hg]; exact Nat.ne_of_lt (blk_lt (g := gb512) (o := .cells #[.int .i64 t509, .int .i64 t510] 28 (0, 0)) (by (with_reducible repeat (first | refine kn_ ?_ _ | refine kd_ ?_ | refine ka_ ?_ _)); exact BK512.out)) : gb512 ≠ gb567)); have n9_ := am_ ((by rw [hg]; exact Nat.ne_of_gt (blk_lt (g := gb512) (o := .cells #[.int .i64 t509, .int .i64 t510] 28 (0, 0)) (by (with_reducible repeat (first | refine kn_ ?_ _ | refine kd_ ?_ | refine ka_ ?_ _)); exact BK512.out)) : gb567 ≠ gb512)); have n10_ := am_ ((by rw [hg]; exact Nat.ne_of_lt (blk_lt (g := gb516) (o := .cells #[.int .i64 t513, .int .i64 t514] 28 (0, 0)) (by (with_reducible repeat (first | refine kn_ ?_ _ | refine kd_ ?_ | refine ka_ ?_ _)); exact BK516.out)) : gb516 ≠ gb567)); have n11_ := am_ ((by rw [hg]; exact Nat.ne_of_gt (blk_lt (g := gb516) (o := .cells #[.int .i64 t513, .int .i64 t514] 28 (0, 0)) (by (with_reducible repeat (first | refine kn_ ?_ _ | refine kd_ ?_ | refine ka_ ?_ _)); exact BK516.out)) : gb567 ≠ gb516)); have n12_ := am_ ((by rw [hg]; exact Nat.ne_of_lt (blk_lt (g := gb558) (o := .cells #[.int .i64 x559000_2, .int .i64 x559001_2] 28 (0, 0)) (by (with_reducible repeat (first | refine kn_ ?_ _ | refine kd_ ?_ | refine ka_ ?_ _)); exact BK558.out)) : gb558 ≠ gb567)); have n13_ := am_ ((by rw [hg]; exact Nat.ne_of_gt (blk_lt (g := gb558) (o := .cells #[.int .i64 x559000_2, .int .i64 x559001_2] 28 (0, 0)) (by (with_reducible repeat (first | refine kn_ ?_ _ | refine kd_ ?_ | refine ka_ ?_ _)); exact BK558.out)) : gb567 ≠ gb558)); clear HO_3; clear BK512; clear BK516; clear BK558; clear HB; have HO_3 := n0_; have BK512 := n1_; have BK516 := n2_; have BK558 := n3_; have HB := n4_; have BK567 := n5_; have GW567 := n6_; have GE567 := n7_; have NB512_567 := n8_; have NB567_512 := n9_; have NB516_567 := n10_; have NB567_516 := n11_; have NB558_567 := n12_; have NB567_558 := n13_; clear n0_ n1_ n2_ n3_ n4_ n5_ n6_ n7_ n8_ n9_ n10_ n11_ n12_ n13_; clear hb hbox hg; have hnb90 := NB567_512.out; have hnc90 := NB512_567.out; have hnb91 := NB567_516.out; have hnc91 := NB516_567.out; have hnb92 := NB567_558.out; have hnc92 := NB558_567.out; have hcz93_0 : w89.cell? ⟨gb567, 0, none⟩ = some (.int .i64 0) := (kc_ BK567.out 0).trans rfl; have hcz93_1 : w89.cell? ⟨gb567, 1, none⟩ = some (.int .i64 0) := (kc_ BK567.out 1).trans rfl; have hfz93_0 := kf_ BK567.out 0; have hfz93_1 := kf_ BK567.out 1; have p568 : 0 ≤ (x33_2 : Int) := of_decide_eq_true (by first | (with_reducible assumption) | assumption); have q568 : x33_2 < (t501.length : Int) := of_decide_eq_true (by first | (with_reducible assumption) | assumption); obtain ⟨ad568, e568, hx568_0, hx568_1, hx568_2, hx568_3, hx568_4⟩ := at_T42 (rr_ HO_3.out).2.2 x33_2 p568 q568; obtain rfl : ad560 = ad568 := (by injection e568); have hn568_0 : ad560.block ≠ gb567 := Kd.own_blk (Kd.R_ne HO_3.out BK567.out (by decide)); have hn568_1 : ad560.block ≠ gb567 := Kd.own_blk (Kd.R_ne HO_3.out BK567.out (by decide)); replace hx568_0 := (cell_far (p := ⟨gb567, 0, none⟩) (by first | (rw [add_block]; exact hn568_0) | (show (Addr.add _ _).block ≠ _; rw [add_block]; exact hn568_0) | exact hn568_0) (.int .i64 t564)).trans hx568_0; replace hx568_1 := (cell_far (p := ⟨gb567, 0, none⟩) (by first | (rw [add_block]; exact hn568_0) | (show (Addr.add _ _).block ≠ _; rw [add_block]; exact hn568_0) | exact hn568_0) (.int .i64 t564)).trans hx568_1; replace hx568_2 := (cell_far (p := ⟨gb567, 0, none⟩) (by first | (rw [add_block]; exact hn568_0) | (show (Addr.add _ _).block ≠ _; rw [add_block]; exact hn568_0) | exact hn568_0) (.int .i64 t564)).trans hx568_2; replace hx568_3 := (cell_far (p := ⟨gb567, 0, none⟩) (by first | (rw [add_block]; exact hn568_0) | (show (Addr.add _ _).block ≠ _; rw [add_block]; exact hn568_0) | exact hn568_0) (.int .i64 t564)).trans hx568_3; replace hx568_4 := (cell_far (p := ⟨gb567, 0, none⟩) (by first | (rw [add_block]; exact hn568_0) | (show (Addr.add _ _).block ≠ _; rw [add_block]; exact hn568_0) | exact hn568_0) (.int .i64 t564)).trans hx568_4; replace hx568_0 := (cell_far (p := ⟨gb567, 1, none⟩) (by first | (rw [add_block]; exact hn568_1) | (show (Addr.add _ _).block ≠ _; rw [add_block]; exact hn568_1) | exact hn568_1) (.int .i64 t565)).trans hx568_0; replace hx568_1 := (cell_far (p := ⟨gb567, 1, none⟩) (by first | (rw [add_block]; exact hn568_1) | (show (Addr.add _ _).block ≠ _; rw [add_block]; exact hn568_1) | exact hn568_1) (.int .i64 t565)).trans hx568_1; replace hx568_2 := (cell_far (p := ⟨gb567, 1, none⟩) (by first | (rw [add_block]; exact hn568_1) | (show (Addr.add _ _).block ≠ _; rw [add_block]; exact hn568_1) | exact hn568_1) (.int .i64 t565)).trans hx568_2; replace hx568_3 := (cell_far (p := ⟨gb567, 1, none⟩) (by first | (rw [add_block]; exact hn568_1) | (show (Addr.add _ _).block ≠ _; rw [add_block]; exact hn568_1) | exact hn568_1) (.int .i64 t565)).trans hx568_3; replace hx568_4 := (cell_far (p := ⟨gb567, 1, none⟩) (by first | (rw [add_block]; exact hn568_1) | (show (Addr.add _ _).block ≠ _; rw [add_block]; exact hn568_1) | exact hn568_1) (.int .i64 t565)).trans hx568_4; clear hn568_0; clear hn568_1; replace p568 := eq_true p568; replace q568 := eq_true q568) | ((with_reducible refine gc_ (f := 18) rfl ?_); refine goesL_ (some 204) rfl rfl Try.func18 (by kernel_rfl) rfl #[.agg #[.int .i64 ((rd_T42 t501 x33_2).f0), .int .i64 ((rd_T42 t501 x33_2).f1), .int .i64 ((rd_T42 t501 x33_2).f2), .int .i64 ((rd_T42 t501 x33_2).f3), .int .i64 ((rd_T42 t501 x33_2).f4)], .int .i64 t561] rfl (by (try simp only [List.map_toArray, List.map_cons, List.map_nil]); first | done | rfl | (simp only [List.length_drop, List.length_take]; rfl)) ?_; (with_reducible refine (spec_CycleCost.calls k2 ((rd_T42 t501 x33_2).f0) ((rd_T42 t501 x33_2).f1) ((rd_T42 t501 x33_2).f2) ((rd_T42 t501 x33_2).f3) ((rd_T42 t501 x33_2).f4) t561 t569 t570 true _ A82.out).mono ?_); rintro e w94 ⟨rfl, hb⟩; refine ⟨_, rfl, ?_⟩; have n0_ := am_ (rb_ (by (with_reducible repeat (first | apply ra_ | apply rn_ | apply rd_)); exact (rm_ (rf_ (p := ⟨gb567, 1, none⟩) (rf_ (p := ⟨gb567, 0, none⟩) (rt_ HO_3.out BK567.out (by decide)) (fun _ hk => hk.2) (.int .i64 t564)) (fun _ hk => hk.2) (.int .i64 t565)) (fun _ h_ => h_.1))) hb); have n1_ := am_ (kb_ (g := gb512) (o := .cells #[.int .i64 t509, .int .i64 t510] 28 (0, 0)) (by (with_reducible repeat (first | refine kn_ ?_ _ | refine kd_ ?_ | refine ka_ ?_ _)); refine blk_far ?_ NB512_567.out _; (with_reducible repeat (first | refine kn_ ?_ _ | refine kd_ ?_ | refine ka_ ?_ _)); refine blk_far ?_ NB512_567.out _; (with_reducible repeat (first | refine kn_ ?_ _ | refine kd_ ?_ | refine ka_ ?_ _)); exact BK512.out) hb); have n2_ := am_ (kb_ (g := gb516) (o := .cells #[.int .i64 t513, .int .i64 t514] 28 (0, 0)) (by (with_reducible repeat (first | refine kn_ ?_ _ | refine kd_ ?_ | refine ka_ ?_ _)); refine blk_far ?_ NB516_567.out _; (with_reducible repeat (first | refine kn_ ?_ _ | refine kd_ ?_ | refine ka_ ?_ _)); refine blk_far ?_ NB516_567.out _; (with_reducible repeat (first | refine kn_ ?_ _ | refine kd_ ?_ | refine ka_ ?_ _)); exact BK516.out) hb); have n3_ := am_ (kb_ (g := gb558) (o := .cells #[.int .i64 x559000_2, .int .i64 x559001_2] 28 (0, 0)) (by (with_reducible repeat (first | refine kn_ ?_ _ | refine kd_ ?_ | refine ka_ ?_ _)); refine blk_far ?_ NB558_567.out _; (with_reducible repeat (first | refine kn_ ?_ _ | refine kd_ ?_ | refine ka_ ?_ _)); refine blk_far ?_ NB558_567.out _; (with_reducible repeat (first | refine kn_ ?_ _ | refine kd_ ?_ | refine ka_ ?_ _)); exact BK558.out) hb); have n4_ := am_ (kb_ (g := gb567) (o := .cells #[.int .i64 t564, .int .i64 t565] 28 (0, 0)) (by (with_reducible repeat (first | refine kn_ ?_ _ | refine kd_ ?_ | refine ka_ ?_ _)); refine blk_put (cs := #[.int .i64 t564, .int .i64 0]) ?_ 1 _ rfl; (with_reducible repeat (first | refine kn_ ?_ _ | refine kd_ ?_ | refine ka_ ?_ _)); refine blk_put (cs := #[.int .i64 0, .int .i64 0]) ?_ 0 _ rfl; (with_reducible repeat (first | refine kn_ ?_ _ | refine kd_ ?_ | refine ka_ ?_ _)); exact BK567.out) hb); have n5_ := am_ (bp_ (by repeat (first | (with_reducible first | exact HB.out | apply ba_ | apply pw_below_drewN | apply bd_ | refine bs_ ?_ GE512.out | refine bs_ ?_ GE516.out | refine bs_ ?_ GE558.out | refine bs_ ?_ GE567.out) | exact HB.out)) hb); clear HO_3; clear BK512; clear BK516; clear BK558; clear BK567; clear HB; have HO_3 := n0_; have BK512 := n1_; have BK516 := n2_; have BK558 := n3_; have BK567 := n4_; have HB := n5_; clear n0_ n1_ n2_ n3_ n4_ n5_; (try clear hb); (try clear hb2); (try clear hk); (try clear hi)) | ((with_reducible refine gate_dst (N := 38) rfl ?_); refine box_event ?hg (N := 38) ?hd (cs := #[.int .i64 0, .int .i64 0]) (t := 28) ?hr ?_; (case hd => rfl); (case hg => rfl); (case hr => first | (go_simp; done) | (go_simp; rfl)); intro gb572 hg w95 hbox hb; have n0_ := am_ (rb_ (by (with_reducible repeat (first | apply ra_ | apply rn_ | apply rd_)); exact HO_3.out) hb); have n1_ := am_ (kb_ (g := gb512) (o := .cells #[.int .i64 t509, .int .i64 t510] 28 (0, 0)) (by (with_reducible repeat (first | refine kn_ ?_ _ | refine kd_ ?_ | refine ka_ ?_ _)); exact BK512.out) hb); have n2_ := am_ (kb_ (g := gb516) (o := .cells #[.int .i64 t513, .int .i64 t514] 28 (0, 0)) (by (with_reducible repeat (first | refine kn_ ?_ _ | refine kd_ ?_ | refine ka_ ?_ _)); exact BK516.out) hb); have n3_ := am_ (kb_ (g := gb558) (o := .cells #[.int .i64 x559000_2, .int .i64 x559001_2] 28 (0, 0)) (by (with_reducible repeat (first | refine kn_ ?_ _ | refine kd_ ?_ | refine ka_ ?_ _)); exact BK558.out) hb); have n4_ := am_ (kb_ (g := gb567) (o := .cells #[.int .i64 t564, .int .i64 t565] 28 (0, 0)) (by (with_reducible repeat (first | refine kn_ ?_ _ | refine kd_ ?_ | refine ka_ ?_ _)); exact BK567.out) hb); have n5_ := am_ (bp_ (by repeat (first | (with_reducible first | exact HB.out | apply ba_ | apply pw_below_drewN | apply bd_ | refine bs_ ?_ GE512.out | refine bs_ ?_ GE516.out | refine bs_ ?_ GE558.out | refine bs_ ?_ GE567.out) | exact HB.out)) hb); have n6_ := am_ (hbox); have n7_ := am_ ((by rw [hg]; exact (bz_ (by repeat (first | (with_reducible first | exact HB.out | apply ba_ | apply pw_below_drewN | apply bd_ | refine bs_ ?_ GE512.out | refine bs_ ?_ GE516.out | refine bs_ ?_ GE558.out | refine bs_ ?_ GE567.out) | exact HB.out))) : w.heap.size ≤ gb572)); have n8_ := am_ ((by rw [hg]; exact (bz_ (by repeat (first | (with_reducible first | exact HB.out | apply ba_ | apply pw_below_drewN | apply bd_ | refine bs_ ?_ GE512.out | refine bs_ ?_ GE516.out | refine bs_ ?_ GE558.out | refine bs_ ?_ GE567.out) | exact HB.out))) : w.heap.size ≤ gb572)); have n9_ := am_ ((by rw [hg]; exact Nat.ne_of_lt (blk_lt (g := gb512) (o := .cells #[.int .i64 t509, .int .i64 t510] 28 (0, 0)) (by (with_reducible repeat (first | refine kn_ ?_ _ | refine kd_ ?_ | refine ka_ ?_ _)); exact BK512.out)) : gb512 ≠ gb572)); have n10_ := am_ ((by rw [hg]; exact Nat.ne_of_gt (blk_lt (g := gb512) (o := .cells #[.int .i64 t509, .int .i64 t510] 28 (0, 0)) (by (with_reducible repeat (first | refine kn_ ?_ _ | refine kd_ ?_ | refine ka_ ?_ _)); exact BK512.out)) : gb572 ≠ gb512)); have n11_ := am_ ((by rw [hg]; exact Nat.ne_of_lt (blk_lt (g := gb516) (o := .cells #[.int .i64 t513, .int .i64 t514] 28 (0, 0)) (by (with_reducible repeat (first | refine kn_ ?_ _ | refine kd_ ?_ | refine ka_ ?_ _)); exact BK516.out)) : gb516 ≠ gb572)); have n12_ := am_ ((by rw [hg]; exact Nat.ne_of_gt (blk_lt (g := gb516) (o := .cells #[.int .i64 t513, .int .i64 t514] 28 (0, 0)) (by (with_reducible repeat (first | refine kn_ ?_ _ | refine kd_ ?_ | refine ka_ ?_ _)); exact BK516.out)) : gb572 ≠ gb516)); have n13_ := am_ ((by rw [hg]; exact Nat.ne_of_lt (blk_lt (g := gb558) (o := .cells #[.int .i64 x559000_2, .int .i64 x559001_2] 28 (0, 0)) (by (with_reducible repeat (first | refine kn_ ?_ _ | refine kd_ ?_ | refine ka_ ?_ _)); exact BK558.out)) : gb558 ≠ gb572)); have n14_ := am_ ((by rw [hg]; exact Nat.ne_of_gt (blk_lt (g := gb558) (o := .cells #[.int .i64 x559000_2, .int .i64 x559001_2] 28 (0, 0)) (by (with_reducible repeat (first | refine kn_ ?_ _ | refine kd_ ?_ | refine ka_ ?_ _)); exact BK558.out)) : gb572 ≠ gb558)); have n15_ := am_ ((by rw [hg]; exact Nat.ne_of_lt (blk_lt (g := gb567) (o := .cells #[.int .i64 t564, .int .i64 t565] 28 (0, 0)) (by (with_reducible repeat (first | refine kn_ ?_ _ | refine kd_ ?_ | refine ka_ ?_ _)); exact BK567.out)) : gb567 ≠ gb572)); have n16_ := am_ ((by rw [hg]; exact Nat.ne_of_gt (blk_lt (g := gb567) (o := .cells #[.int .i64 t564, .int .i64 t565] 28 (0, 0)) (by (with_reducible repeat (first | refine kn_ ?_ _ | refine kd_ ?_ | refine ka_ ?_ _)); exact BK567.out)) : gb572 ≠ gb567)); clear HO_3; clear BK512; clear BK516; clear BK558; clear BK567; clear HB; have HO_3 := n0_; have BK512 := n1_; have BK516 := n2_; have BK558 := n3_; have BK567 := n4_; have HB := n5_; have BK572 := n6_; have GW572 := n7_; have GE572 := n8_; have NB512_572 := n9_; have NB572_512 := n10_; have NB516_572 := n11_; have NB572_516 := n12_; have NB558_572 := n13_; have NB572_558 := n14_; have NB567_572 := n15_; have NB572_567 := n16_; clear n0_ n1_ n2_ n3_ n4_ n5_ n6_ n7_ n8_ n9_ n10_ n11_ n12_ n13_ n14_ n15_ n16_; clear hb hbox hg; have hnb96 := NB572_512.out; have hnc96 := NB512_572.out; have hnb97 := NB572_516.out; have hnc97 := NB516_572.out; have hnb98 := NB572_558.out; have hnc98 := NB558_572.out; have hnb99 := NB572_567.out; have hnc99 := NB567_572.out; have hcz100_0 : w95.cell? ⟨gb572, 0, none⟩ = some (.int .i64 0) := (kc_ BK572.out 0).trans rfl; have hcz100_1 : w95.cell? ⟨gb572, 1, none⟩ = some (.int .i64 0) := (kc_ BK572.out 1).trans rfl; have hfz100_0 := kf_ BK572.out 0; have hfz100_1 := kf_ BK572.out 1; have hcz101_0 : w95.cell? ⟨gb567, 0, none⟩ = some (.int .i64 t564) := (kc_ BK567.out 0).trans rfl; have hcz101_1 : w95.cell? ⟨gb567, 1, none⟩ = some (.int .i64 t565) := (kc_ BK567.out 1).trans rfl; have hfz101_0 := kf_ BK567.out 0; have hfz101_1 := kf_ BK567.out 1; have hnb102 := NB558_512.out; have hnc102 := NB512_558.out; have hnb103 := NB558_516.out; have hnc103 := NB516_558.out; have hcz104_0 : w95.cell? ⟨gb558, 0, none⟩ = some (.int .i64 x559000_2) := (kc_ BK558.out 0).trans rfl; have hcz104_1 : w95.cell? ⟨gb558, 1, none⟩ = some (.int .i64 x559001_2) := (kc_ BK558.out 1).trans rfl; have hfz104_0 := kf_ BK558.out 0; have hfz104_1 := kf_ BK558.out 1))
                    go_roundg k2
                    case measure => have := HJ21.out; have := HK2.out; omega
                    case rel => exact ⟨(wrap64 (x33_2 + 1)), (wrap64 ((wrap64 (x559000_2 * t565)) + (wrap64 (t564 * x559001_2)))), (wrap64 (x559001_2 * t565)), (by first | rfl | (simp; done) | (simp [*]; done)), H', ⟨by have := HJ21.out; have := HK2.out; omega⟩, ⟨by (with_reducible repeat (first | apply ra_ | apply rn_ | apply rd_)); exact rm_ (rf_ (p := ⟨gb558, 1, none⟩) (rf_ (p := ⟨gb558, 0, none⟩) (rf_ (p := ⟨gb572, 1, none⟩) (rf_ (p := ⟨gb572, 0, none⟩) (rt_ (rt_ HO_3.out BK572.out (by decide)) BK558.out (by decide)) (fun _ hk => hk.1.2) (.int .i64 t569)) (fun _ hk => hk.1.2) (.int .i64 t570)) (fun _ hk => hk.2) (.int .i64 (wrap64 ((wrap64 (x559000_2 * t565)) + (wrap64 (t564 * x559001_2)))))) (fun _ hk => hk.2) (.int .i64 (wrap64 (x559001_2 * t565)))) (fun _ hk => trivial)⟩, ⟨by (with_reducible repeat (first | refine kn_ ?_ _ | refine kd_ ?_ | refine ka_ ?_ _)); refine blk_far ?_ NB512_558.out _; (with_reducible repeat (first | refine kn_ ?_ _ | refine kd_ ?_ | refine ka_ ?_ _)); refine blk_far ?_ NB512_558.out _; (with_reducible repeat (first | refine kn_ ?_ _ | refine kd_ ?_ | refine ka_ ?_ _)); refine blk_far ?_ NB512_572.out _; (with_reducible repeat (first | refine kn_ ?_ _ | refine kd_ ?_ | refine ka_ ?_ _)); refine blk_far ?_ NB512_572.out _; (with_reducible repeat (first | refine kn_ ?_ _ | refine kd_ ?_ | refine ka_ ?_ _)); exact BK512.out⟩, ⟨by (with_reducible repeat (first | refine kn_ ?_ _ | refine kd_ ?_ | refine ka_ ?_ _)); refine blk_far ?_ NB516_558.out _; (with_reducible repeat (first | refine kn_ ?_ _ | refine kd_ ?_ | refine ka_ ?_ _)); refine blk_far ?_ NB516_558.out _; (with_reducible repeat (first | refine kn_ ?_ _ | refine kd_ ?_ | refine ka_ ?_ _)); refine blk_far ?_ NB516_572.out _; (with_reducible repeat (first | refine kn_ ?_ _ | refine kd_ ?_ | refine ka_ ?_ _)); refine blk_far ?_ NB516_572.out _; (with_reducible repeat (first | refine kn_ ?_ _ | refine kd_ ?_ | refine ka_ ?_ _)); exact BK516.out⟩, ⟨by (with_reducible repeat (first | refine kn_ ?_ _ | refine kd_ ?_ | refine ka_ ?_ _)); refine blk_put (cs := #[.int .i64 (wrap64 ((wrap64 (x559000_2 * t565)) + (wrap64 (t564 * x559001_2)))), .int .i64 x559001_2]) ?_ 1 _ rfl; (with_reducible repeat (first | refine kn_ ?_ _ | refine kd_ ?_ | refine ka_ ?_ _)); refine blk_put (cs := #[.int .i64 x559000_2, .int .i64 x559001_2]) ?_ 0 _ rfl; (with_reducible repeat (first | refine kn_ ?_ _ | refine kd_ ?_ | refine ka_ ?_ _)); refine blk_far ?_ NB558_572.out _; (with_reducible repeat (first | refine kn_ ?_ _ | refine kd_ ?_ | refine ka_ ?_ _)); refine blk_far ?_ NB558_572.out _; (with_reducible repeat (first | refine kn_ ?_ _ | refine kd_ ?_ | refine ka_ ?_ _)); exact BK558.out⟩, ⟨by repeat (first | (with_reducible first | exact HB.out | apply ba_ | apply pw_below_drewN | apply bd_ | refine bs_ ?_ GE512.out | refine bs_ ?_ GE516.out | refine bs_ ?_ GE558.out | refine bs_ ?_ GE567.out | refine bs_ ?_ GE572.out) | exact HB.out)⟩⟩
                  ·
                   replace c85 := Bool.eq_false_iff.mpr c85
                   subst c85
                   have H1 : (none) = some r := by rw [if_neg (show ¬ (false = true) by decide)] at H; exact H
                   clear H
                   have H := H1
                   clear H1
                   exact absurd H (by simp)
                 ·
                  replace c84 := Bool.eq_false_iff.mpr c84
                  subst c84
                  have H1 : (none) = some r := by rw [if_neg (show ¬ (false = true) by decide)] at H; exact H
                  clear H
                  have H := H1
                  clear H1
                  exact absurd H (by simp)
                ·
                 replace c83 := Bool.eq_false_iff.mpr c83
                 subst c83
                 have H1 : (none) = some r := by rw [if_neg (show ¬ (false = true) by decide)] at H; exact H
                 clear H
                 have H := H1
                 clear H1
                 exact absurd H (by simp)
               ·
                rw [if_neg c79] at H
                exact absurd H (by simp)
              ·
               rw [if_neg c78] at H
               have c78b0 : decide (x33_2 < (t501.length : Int)) = false := decide_eq_false c78
               clear c78
               replace H := Option.bind_eq_some_iff.mp H
               obtain ⟨t559, A1050, H⟩ := H
               replace H : (some (!t559)) = some r := H
               have A105 := am_ A1050
               clear A1050
               obtain rfl := Option.some.inj H
               have hnb106 := NB512_516.out
               have hnc106 := NB516_512.out
               have hnb107 := NB512_558.out
               have hnc107 := NB558_512.out
               have hcz108_0 : wr.cell? ⟨gb512, 0, none⟩ = some (.int .i64 t509) := (kc_ BK512.out 0).trans rfl
               have hcz108_1 : wr.cell? ⟨gb512, 1, none⟩ = some (.int .i64 t510) := (kc_ BK512.out 1).trans rfl
               have hfz108_0 := kf_ BK512.out 0
               have hfz108_1 := kf_ BK512.out 1
               have hnb109 := NB558_516.out
               have hnc109 := NB516_558.out
               have hcz110_0 : wr.cell? ⟨gb558, 0, none⟩ = some (.int .i64 x559000_2) := (kc_ BK558.out 0).trans rfl
               have hcz110_1 : wr.cell? ⟨gb558, 1, none⟩ = some (.int .i64 x559001_2) := (kc_ BK558.out 1).trans rfl
               have hfz110_0 := kf_ BK558.out 0
               have hfz110_1 := kf_ BK558.out 1
               go_wp2_with (first | ((with_reducible refine gc_ (f := 15) rfl ?_); refine goesL_ (some 241) rfl rfl Try.func15 (by kernel_rfl) rfl #[.agg #[.int .i64 t509, .int .i64 t510], .agg #[.int .i64 x559000_2, .int .i64 x559001_2]] rfl (by (try simp only [List.map_toArray, List.map_cons, List.map_nil]); first | done | rfl | (simp only [List.length_drop, List.length_take]; rfl)) ?_; (with_reducible refine (laws_rLess.calls t509 t510 x559000_2 x559001_2 t559 _ A105.out).mono ?_); rintro e w111 ⟨rfl, hb⟩; refine ⟨_, rfl, ?_⟩; have n0_ := am_ (rb_ (by (with_reducible repeat (first | apply ra_ | apply rn_ | apply rd_)); exact HO_3.out) hb); have n1_ := am_ (kb_ (g := gb512) (o := .cells #[.int .i64 t509, .int .i64 t510] 28 (0, 0)) (by (with_reducible repeat (first | refine kn_ ?_ _ | refine kd_ ?_ | refine ka_ ?_ _)); exact BK512.out) hb); have n2_ := am_ (kb_ (g := gb516) (o := .cells #[.int .i64 t513, .int .i64 t514] 28 (0, 0)) (by (with_reducible repeat (first | refine kn_ ?_ _ | refine kd_ ?_ | refine ka_ ?_ _)); exact BK516.out) hb); have n3_ := am_ (kb_ (g := gb558) (o := .cells #[.int .i64 x559000_2, .int .i64 x559001_2] 28 (0, 0)) (by (with_reducible repeat (first | refine kn_ ?_ _ | refine kd_ ?_ | refine ka_ ?_ _)); exact BK558.out) hb); have n4_ := am_ (bp_ (by repeat (first | (with_reducible first | exact HB.out | apply ba_ | apply pw_below_drewN | apply bd_ | refine bs_ ?_ GE512.out | refine bs_ ?_ GE516.out | refine bs_ ?_ GE558.out) | exact HB.out)) hb); clear HO_3; clear BK512; clear BK516; clear BK558; clear HB; have HO_3 := n0_; have BK512 := n1_; have BK516 := n2_; have BK558 := n3_; have HB := n4_; clear n0_ n1_ n2_ n3_ n4_; (try clear hb); (try clear hb2); (try clear hk); (try clear hi)))
               go_ret
               exact ⟨by first | rfl | (simp [errW_none, errW_some] <;> rfl) | (simp [*, errW_none, errW_some] <;> rfl), by repeat (first | (with_reducible first | exact HB.out | apply ba_ | apply pw_below_drewN | apply bd_ | refine bs_ ?_ GE512.out | refine bs_ ?_ GE516.out | refine bs_ ?_ GE558.out) | exact HB.out)⟩
           ·
            replace c73 := Bool.eq_false_iff.mpr c73
            subst c73
            have H1 : (some true) = some r := by rw [if_neg (show ¬ (false = true) by decide)] at H; exact H
            clear H
            have H := H1
            clear H1
            obtain rfl := Option.some.inj H
            go_wp2
            go_ret
            exact ⟨by first | rfl | (simp [errW_none, errW_some] <;> rfl) | (simp [*, errW_none, errW_some] <;> rfl), by repeat (first | (with_reducible first | exact HB.out | apply ba_ | apply pw_below_drewN | apply bd_ | refine bs_ ?_ GE512.out | refine bs_ ?_ GE516.out) | exact HB.out)⟩
        ·
         replace c21 := Bool.eq_false_iff.mpr c21
         subst c21
         have H1 : (none) = some r := by rw [if_neg (show ¬ (false = true) by decide)] at H; exact H
         clear H
         have H := H1
         clear H1
         exact absurd H (by simp)
       ·
        rw [if_neg c19] at H
        exact absurd H (by simp)
     ·
      replace c14 := Bool.eq_false_iff.mpr c14
      subst c14
      have H1 : (none) = some r := by rw [if_neg (show ¬ (false = true) by decide)] at H; exact H
      clear H
      have H := H1
      clear H1
      exact absurd H (by simp)

/-- THE ONE PURE STATEMENT of laws_FnFamilies: yours. -/
def laws_FnFamilies.Pure : Prop := ∀ (l0 : List Int), l0.length ≤ maxLen → l0.length * 1 ≤ 140737488351232 → (∀ x ∈ l0, (Lit.int .u8 x).wf = true) → ∃ k, laws_FnFamilies.f k l0 = some true
theorem laws_FnFamilies.walk (P : laws_FnFamilies.Pure) (a0 : Option Addr) (len0 cap0 : Nat) (z0 : List Int) (w : World) (w0 : (a0 = none ∧ len0 = 0 ∧ cap0 = 0 ∧ z0 = []) ∨ ∃ x, a0 = some x ∧ len0 ≤ cap0 ∧ cap0 ≤ maxLen ∧ z0.length = cap0 ∧ (∀ i, i < z0.length → w.cell? (x.add i) = some (.int .u8 (z0.getD i 0))) ∧ ∀ n ∈ z0, (Lit.int .u8 n).wf = true) (y0 : len0 * 1 ≤ 140737488351232) :
  Calls Try.prog 3 #[.slice a0 len0 cap0] w fun e w' => e = .returned (.bool true) ∧ Below w.heap.size w w' := by
 obtain ⟨l0, rfl, hr0, hm0, hw0, hc0⟩ := ReadsInt.ofRowC w0
 obtain ⟨k, h⟩ := P l0 hm0 y0 hw0
 refine (laws_FnFamilies.calls k _ _ l0 true w (Kd.C_of_reads (d := (0 : Int)) (h1 := fun _ => rfl) hr0) hc0 h).mono ?_
 rintro e w' ⟨rfl, hd⟩
 exact ⟨rfl, hd⟩

end Go.Proofs.Ytpmcmaffjghiiaa.PFnFamilies
