/- The row of FnExactRegularPlan: whatever the input, the law returns true and its arguments read as before. It follows from the printed contract of the law's function and the pure statement. No conditions. -/
import Derived.Test.YtaejjkgbcajhoaaRows
import Derived.Test.YtaejjkgbcajhoaaXFnExactRegularPlanx8
import Derived.Test.YtaejjkgbcajhoaaPureFnExactRegularPlan
import Derived.Test.YtaejjkgbcajhoaaOwn
import Derived.WalkKit
import Derived.ProofKit
import Derived.OpenShut
import Derived.ChangeOld
import Derived.Below
import Derived.SizedLaws
namespace Go.Proofs.Ytaejjkgbcajhoaa.fnExactRegularPlan
open Go.ChangeShapes Go.WideShapes Go.ChangeAt Go.RowKit Go.Joins Go.Proofs.Ytaejjkgbcajhoaa.Own
set_option linter.unusedVariables false
theorem own : ownKnob Try.prog.godebug = none := by kernel_rfl
theorem laidOut : laidOutB Try.prog = true := by kernel_rfl
set_option maxRecDepth 100000 in
theorem lifted (os : Os) (started : os.Started) (H : Type) (enc : TypeId × Value → H) :
    ReturnsInHanded {} Try.checked os 3 .any (Rows.fnExactRegularPlanSpec.pre6 enc Try.prog Try.f3 Rows.fnExactRegularPlanRow.domain false) (Rows.fnExactRegularPlanSpec.post enc Try.prog Try.f3 false true false false) := by
  refine returnsInHanded_of_change_sized (C := Try.checked) own started (by kernel_rfl) Try.func3
    (ChangeSpec.witness6 (enc := enc) (C := Try.checked) false ⟨#[], #[.agg #[.slice none 0 0, .slice none 0 0, .slice none 0 0, .slice none 0 0], .slice none 0 0], []⟩ 8 (by kernel_rfl) (by kernel_rfl) (by kernel_rfl) (by kernel_rfl)) ?_
  intro W base args ds gs before hval0 hW hcnd hsz0 _
  have hval : ∀ (j : Nat) t v, Try.f3.params[j]? = some t → args[j]? = some v → Value.okWide Try.prog W .any base t v := hval0
  have hW' := hW
  obtain ⟨p, q, hA0, hV, rfl, hfz, hnd⟩ := hW
  have hA : DataW.TrodAll enc Try.prog W 0 (fun _ => true) true Try.f3.params.toList args.toList ds p := hA0
  rw [Try.params3] at hA hval
  obtain ⟨v0, vs0, d0, ds0, p0, q0, hargs, rfl, rfl, h0, r0⟩ := trodAll_cons hA
  obtain ⟨v1, vs1, d1, ds1, p1, q1, rfl, rfl, rfl, h1, r1⟩ := trodAll_cons r0
  obtain ⟨rfl, rfl, rfl⟩ := trodAll_nil r1
  obtain ⟨rfl, rfl⟩ := trodVars_none hV
  obtain rfl : args = #[v0, v1] := by cases args; simp_all
  have k0 := h0
  have lt0 : ∀ x ∈ p0, x.block < W.heap.size := by obtain ⟨m, hm⟩ := k0; exact DataW.trod_lt m _ _ _ hm
  obtain ⟨v0_0, v0_1, v0_2, v0_3, y0_0, y0_1, y0_2, y0_3, n0, e0, _, _, t0_0, t0_1, t0_2, t0_3⟩ := open_agg4 Try.underlying24 (by kernel_rfl) (by kernel_rfl) (hval 0 24 v0 rfl rfl) h0
  obtain ⟨A0_0, l0_0, c0_0, rfl, hr0_0, hc0_0, hl0_0, hw0_0⟩ := rd_ints Try.underlying22 Try.underlying3 (by kernel_rfl) t0_0
  obtain ⟨A0_1, l0_1, c0_1, rfl, hr0_1, hc0_1, hl0_1, hw0_1⟩ := rd_ints Try.underlying22 Try.underlying3 (by kernel_rfl) t0_1
  obtain ⟨A0_2, l0_2, c0_2, rfl, hr0_2, hc0_2, hl0_2, hw0_2⟩ := rd_ints Try.underlying22 Try.underlying3 (by kernel_rfl) t0_2
  obtain ⟨A0_3, l0_3, c0_3, rfl, hr0_3, hc0_3, hl0_3, hw0_3⟩ := rd_ints Try.underlying22 Try.underlying3 (by kernel_rfl) t0_3
  subst e0
  have k1 := h1
  have lt1 : ∀ x ∈ p1, x.block < W.heap.size := by obtain ⟨m, hm⟩ := k1; exact DataW.trod_lt m _ _ _ hm
  obtain ⟨q1A, q1l, q1c, rfl⟩ := okWide_slice Try.underlying22 (hval 1 22 v1 rfl rfl)
  obtain ⟨n1, t1⟩ := trod_one rfl h1
  obtain ⟨A1, l1, c1, e1, hr1, hc1, hl1, hw1⟩ := rd_ints Try.underlying22 Try.underlying3 (by kernel_rfl) t1
  obtain ⟨rfl, rfl, rfl⟩ : q1A = A1 ∧ q1l = l1.length ∧ q1c = c1 := by simpa using e1
  clear e1
  obtain ⟨k, hk⟩ := Pure.FnExactRegularPlan l0_0 l0_1 l0_2 l0_3 l1 hl0_0 hw0_0 hl0_1 hw0_1 hl0_2 hw0_2 hl0_3 hw0_3 hl1 hw1
  refine (PFnExactRegularPlan.laws_FnExactRegularPlan.calls k _ _ l0_0 _ _ l0_1 _ _ l0_2 _ _ l0_3 _ _ l1 true W hr0_0 hc0_0 hr0_1 hc0_1 hr0_2 hc0_2 hr0_3 hc0_3 hr1 hc1 hk).mono fun e W' ⟨he, bel⟩ => ?_
  subst he
  exact ⟨_, rfl, _, _, _, [], _, [], hW', trodAll_mk1 (shut_bool Try.underlying4 _), (trodAll_cons_mk (Below.trod laidOut (by kernel_rfl) (of_decide_eq_true (by kernel_rfl)) k0 bel lt0) (trodAll_cons_mk (Below.trod laidOut (by kernel_rfl) (of_decide_eq_true (by kernel_rfl)) k1 bel lt1) trodAll_mk0)), rfl, bel.frame _, fun h => by cases h⟩
theorem over : Rows.fnExactRegularPlanRow.holds Try.pinned (OpenSpec.ofChange Rows.fnExactRegularPlanSpec) :=
  OpenClaim.holds_of_wide 3 Try.f3 rfl rfl rfl rfl rfl rfl rfl ⟨rfl, rfl, rfl, rfl, rfl⟩ rfl rfl rfl rfl rfl (by kernel_rfl) Try.func3 (by kernel_rfl)
    (of_decide_eq_true (by kernel_rfl)) (by unfold Func.isWrapper; first | (rw [if_pos (by decide +kernel)]; kernel_rfl) | (rw [if_neg (by decide +kernel)]; exact ⟨rfl, rfl⟩))
    (fun os started H enc _ => lifted os started H enc)
theorem proved : Rows.FnExactRegularPlanSaid := over
#print axioms proved
end Go.Proofs.Ytaejjkgbcajhoaa.fnExactRegularPlan
namespace Go.Proofs.Ytaejjkgbcajhoaa
/-- The row, under a short name, for the claim. -/
theorem fnExactRegularPlan_holds : Rows.FnExactRegularPlanSaid := fnExactRegularPlan.proved
end Go.Proofs.Ytaejjkgbcajhoaa
