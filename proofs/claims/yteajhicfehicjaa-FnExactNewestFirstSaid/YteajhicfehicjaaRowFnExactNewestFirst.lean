/- The row of FnExactNewestFirst: whatever the input, the law returns true and its arguments read as before. It follows from the printed contract of the law's function and the pure statement. No conditions. -/
import Derived.Test.YteajhicfehicjaaRows
import Derived.Test.YteajhicfehicjaaXFnExactNewestFirstx6
import Derived.Test.YteajhicfehicjaaPureFnExactNewestFirst
import Derived.Test.YteajhicfehicjaaOwn
import Derived.WalkKit
import Derived.ProofKit
import Derived.OpenShut
import Derived.ChangeOld
import Derived.Below
import Derived.SizedLaws
namespace Go.Proofs.Yteajhicfehicjaa.fnExactNewestFirst
open Go.ChangeShapes Go.WideShapes Go.ChangeAt Go.RowKit Go.Joins Go.Proofs.Yteajhicfehicjaa.Own
set_option linter.unusedVariables false
theorem own : ownKnob Try.prog.godebug = none := by kernel_rfl
theorem laidOut : laidOutB Try.prog = true := by kernel_rfl
set_option maxRecDepth 100000 in
theorem lifted (os : Os) (started : os.Started) (H : Type) (enc : TypeId × Value → H) :
    ReturnsInHanded {} Try.checked os 3 .any (Rows.fnExactNewestFirstSpec.pre6 enc Try.prog Try.f3 Rows.fnExactNewestFirstRow.domain false) (Rows.fnExactNewestFirstSpec.post enc Try.prog Try.f3 false true false false) := by
  refine returnsInHanded_of_change_sized (C := Try.checked) own started (by kernel_rfl) Try.func3
    (ChangeSpec.witness6 (enc := enc) (C := Try.checked) false ⟨#[], #[.agg #[.int .i64 0, .slice none 0 0, .slice none 0 0, .int .i64 0, .int .i64 0]], []⟩ 8 (by kernel_rfl) (by kernel_rfl) (by kernel_rfl) (by kernel_rfl)) ?_
  intro W base args ds gs before hval0 hW hcnd hsz0 _
  have hval : ∀ (j : Nat) t v, Try.f3.params[j]? = some t → args[j]? = some v → Value.okWide Try.prog W .any base t v := hval0
  have hW' := hW
  obtain ⟨p, q, hA0, hV, rfl, hfz, hnd⟩ := hW
  have hA : DataW.TrodAll enc Try.prog W 0 (fun _ => true) true Try.f3.params.toList args.toList ds p := hA0
  rw [Try.params3] at hA hval
  obtain ⟨v0, vs0, d0, ds0, p0, q0, hargs, rfl, rfl, h0, r0⟩ := trodAll_cons hA
  obtain ⟨rfl, rfl, rfl⟩ := trodAll_nil r0
  obtain ⟨rfl, rfl⟩ := trodVars_none hV
  obtain rfl : args = #[v0] := by cases args; simp_all
  have k0 := h0
  have lt0 : ∀ x ∈ p0, x.block < W.heap.size := by obtain ⟨m, hm⟩ := k0; exact DataW.trod_lt m _ _ _ hm
  obtain ⟨v0_0, v0_1, v0_2, v0_3, v0_4, y0_0, y0_1, y0_2, y0_3, y0_4, n0, e0, _, _, t0_0, t0_1, t0_2, t0_3, t0_4⟩ := open_agg5 Try.underlying24 (by kernel_rfl) (by kernel_rfl) (hval 0 24 v0 rfl rfl) h0
  obtain ⟨a0_0, rfl, w0_0⟩ := rd_int Try.underlying3 t0_0
  obtain ⟨A0_1, l0_1, c0_1, rfl, hr0_1, hc0_1, hl0_1, hw0_1⟩ := rd_ints Try.underlying22 Try.underlying3 (by kernel_rfl) t0_1
  obtain ⟨A0_2, l0_2, c0_2, rfl, hr0_2, hc0_2, hl0_2, hw0_2⟩ := rd_ints Try.underlying22 Try.underlying3 (by kernel_rfl) t0_2
  obtain ⟨a0_3, rfl, w0_3⟩ := rd_int Try.underlying3 t0_3
  obtain ⟨a0_4, rfl, w0_4⟩ := rd_int Try.underlying3 t0_4
  subst e0
  obtain ⟨k, hk⟩ := Pure.FnExactNewestFirst a0_0 l0_1 l0_2 a0_3 a0_4 w0_0 hl0_1 hw0_1 hl0_2 hw0_2 w0_3 w0_4
  refine (PFnExactNewestFirst.laws_FnExactNewestFirst.calls k a0_0 _ _ l0_1 _ _ l0_2 a0_3 a0_4 true W hr0_1 hc0_1 hr0_2 hc0_2 hk).mono fun e W' ⟨he, bel⟩ => ?_
  subst he
  exact ⟨_, rfl, _, _, _, [], _, [], hW', trodAll_mk1 (shut_bool Try.underlying4 _), (trodAll_cons_mk (Below.trod laidOut (by kernel_rfl) (of_decide_eq_true (by kernel_rfl)) k0 bel lt0) trodAll_mk0), rfl, bel.frame _, fun h => by cases h⟩
theorem over : Rows.fnExactNewestFirstRow.holds Try.pinned (OpenSpec.ofChange Rows.fnExactNewestFirstSpec) :=
  OpenClaim.holds_of_wide 3 Try.f3 rfl rfl rfl rfl rfl rfl rfl ⟨rfl, rfl, rfl, rfl, rfl⟩ rfl rfl rfl rfl rfl (by kernel_rfl) Try.func3 (by kernel_rfl)
    (of_decide_eq_true (by kernel_rfl)) (by unfold Func.isWrapper; first | (rw [if_pos (by decide +kernel)]; kernel_rfl) | (rw [if_neg (by decide +kernel)]; exact ⟨rfl, rfl⟩))
    (fun os started H enc _ => lifted os started H enc)
theorem proved : Rows.FnExactNewestFirstSaid := over
#print axioms proved
end Go.Proofs.Yteajhicfehicjaa.fnExactNewestFirst
namespace Go.Proofs.Yteajhicfehicjaa
/-- The row, under a short name, for the claim. -/
theorem fnExactNewestFirst_holds : Rows.FnExactNewestFirstSaid := fnExactNewestFirst.proved
end Go.Proofs.Yteajhicfehicjaa
