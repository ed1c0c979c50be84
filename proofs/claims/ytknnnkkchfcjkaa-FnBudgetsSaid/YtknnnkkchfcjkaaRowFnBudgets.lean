/- The row of FnBudgets: whatever the input, the law returns true and its arguments read as before. It follows from the printed contract of the law's function and the pure statement. No conditions. -/
import Derived.Test.YtknnnkkchfcjkaaRows
import Derived.Test.YtknnnkkchfcjkaaXFnBudgetsx9
import Derived.Test.YtknnnkkchfcjkaaPureFnBudgets
import Derived.Test.YtknnnkkchfcjkaaOwn
import Derived.WalkKit
import Derived.ProofKit
import Derived.OpenShut
import Derived.ChangeOld
import Derived.Below
import Derived.SizedLaws
namespace Go.Proofs.Ytknnnkkchfcjkaa.fnBudgets
open Go.ChangeShapes Go.WideShapes Go.ChangeAt Go.RowKit Go.Joins Go.Proofs.Ytknnnkkchfcjkaa.Own
set_option linter.unusedVariables false
theorem own : ownKnob Try.prog.godebug = none := by kernel_rfl
theorem laidOut : laidOutB Try.prog = true := by kernel_rfl
set_option maxRecDepth 100000 in
theorem lifted (os : Os) (started : os.Started) (H : Type) (enc : TypeId × Value → H) :
    ReturnsInHanded {} Try.checked os 3 .any (Rows.fnBudgetsSpec.pre6 enc Try.prog Try.f3 Rows.fnBudgetsRow.domain false) (Rows.fnBudgetsSpec.post enc Try.prog Try.f3 false true false false) := by
  refine returnsInHanded_of_change_sized (C := Try.checked) own started (by kernel_rfl) Try.func3
    (ChangeSpec.witness6 (enc := enc) (C := Try.checked) false ⟨#[], #[.slice none 0 0], []⟩ 8 (by kernel_rfl) (by kernel_rfl) (by kernel_rfl) (by kernel_rfl)) ?_
  intro W base args ds gs before hval0 hW hcnd hsz0 _
  have hval : ∀ (j : Nat) t v, Try.f3.params[j]? = some t → args[j]? = some v → Value.okWide Try.prog W .any base t v := hval0
  have hW' := hW
  obtain ⟨p, q, hA0, hV, rfl, hfz, hnd⟩ := hW
  have hA : DataW.TrodAll enc Try.prog W 0 (fun _ => true) true Try.f3.params.toList args.toList ds p := hA0
  rw [Try.params3] at hA hval
  obtain ⟨v0, vs0, d0, ds0, p0, q0, hargs, rfl, rfl, h0, r0⟩ := trodAll_cons hA
  obtain ⟨rfl, rfl, rfl⟩ := trodAll_nil r0
  obtain ⟨rfl, rfl⟩ := trodVars_none hV
  obtain rfl : args = #[v0] := by cases args; simp_all
  have k0 := h0
  have lt0 : ∀ x ∈ p0, x.block < W.heap.size := by obtain ⟨m, hm⟩ := k0; exact DataW.trod_lt m _ _ _ hm
  obtain ⟨q0A, q0l, q0c, rfl⟩ := okWide_slice Try.underlying22 (hval 0 22 v0 rfl rfl)
  obtain ⟨n0, t0⟩ := trod_one rfl h0
  obtain ⟨A0, l0, c0, e0, hr0, hc0, hl0, hw0⟩ := rd_ints Try.underlying22 Try.underlying5 (by kernel_rfl) t0
  obtain ⟨rfl, rfl, rfl⟩ : q0A = A0 ∧ q0l = l0.length ∧ q0c = c0 := by simpa using e0
  clear e0
  obtain ⟨k, hk⟩ := Pure.FnBudgets l0 hl0 hw0
  refine (PFnBudgets.laws_FnBudgets.calls k _ _ l0 true W hr0 hc0 hk).mono fun e W' ⟨he, bel⟩ => ?_
  subst he
  exact ⟨_, rfl, _, _, _, [], _, [], hW', trodAll_mk1 (shut_bool Try.underlying4 _), (trodAll_cons_mk (Below.trod laidOut (by kernel_rfl) (of_decide_eq_true (by kernel_rfl)) k0 bel lt0) trodAll_mk0), rfl, bel.frame _, fun h => by cases h⟩
theorem over : Rows.fnBudgetsRow.holds Try.pinned (OpenSpec.ofChange Rows.fnBudgetsSpec) :=
  OpenClaim.holds_of_wide 3 Try.f3 rfl rfl rfl rfl rfl rfl rfl ⟨rfl, rfl, rfl, rfl, rfl⟩ rfl rfl rfl rfl rfl (by kernel_rfl) Try.func3 (by kernel_rfl)
    (of_decide_eq_true (by kernel_rfl)) (by unfold Func.isWrapper; first | (rw [if_pos (by decide +kernel)]; kernel_rfl) | (rw [if_neg (by decide +kernel)]; exact ⟨rfl, rfl⟩))
    (fun os started H enc _ => lifted os started H enc)
theorem proved : Rows.FnBudgetsSaid := over
#print axioms proved
end Go.Proofs.Ytknnnkkchfcjkaa.fnBudgets
namespace Go.Proofs.Ytknnnkkchfcjkaa
/-- The row, under a short name, for the claim. -/
theorem fnBudgets_holds : Rows.FnBudgetsSaid := fnBudgets.proved
end Go.Proofs.Ytknnnkkchfcjkaa
