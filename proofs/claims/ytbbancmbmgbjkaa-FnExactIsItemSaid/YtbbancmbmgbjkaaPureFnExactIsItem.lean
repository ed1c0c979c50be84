/- The program's IsItem and the reference's ask the same five comparisons in the same order. No conditions. -/
import Derived.Test.YtbbancmbmgbjkaaKit
import Derived.Test.YtbbancmbmgbjkaaPFnExactIsItemx1
namespace Go.Proofs.Ytbbancmbmgbjkaa.Pure
set_option linter.unusedVariables false
open Go.RowKit Go.Proofs.Ytbbancmbmgbjkaa.PFnExactIsItem Go.Proofs.YtbbancmbmgbjkaaW.PrintWords Go.Proofs.YtbbancmbmgbjkaaW.PrintLast Go.Proofs.Ytbbancmbmgbjkaa.Kit

theorem same_in (a b c : Int) : impl_within.f a b c = spec_l1In.f a b c := rfl
theorem in_some (a b c : Int) : ∃ r, spec_l1In.f a b c = some r := by
  unfold spec_l1In.f
  split <;> exact ⟨_, rfl⟩
theorem same (a b c d e : Int) : impl_IsItem.f a b c d e = spec_l8Item.f a b c d e := rfl
theorem item_some (a b c d e : Int) : ∃ r, spec_l8Item.f a b c d e = some r := by
  unfold spec_l8Item.f
  obtain ⟨r1, h1⟩ := in_some a 1 20
  obtain ⟨r2, h2⟩ := in_some b 1 99
  obtain ⟨r3, h3⟩ := in_some c 1 9
  obtain ⟨r4, h4⟩ := in_some d (wrap64 (a + 1)) 40
  obtain ⟨r5, h5⟩ := in_some e 0 9
  rw [h1, h2, h3, h4, h5]
  cases r1 <;> cases r2 <;> cases r3 <;> cases r4 <;> simp

theorem FnExactIsItem (a0_0 : Int) (a0_1 : Int) (a0_2 : Int) (a0_3 : Int) (a0_4 : Int) (hw0_0 : (Lit.int .i64 a0_0).wf = true) (hw0_1 : (Lit.int .i64 a0_1).wf = true) (hw0_2 : (Lit.int .i64 a0_2).wf = true) (hw0_3 : (Lit.int .i64 a0_3).wf = true) (hw0_4 : (Lit.int .i64 a0_4).wf = true) :
    laws_FnExactIsItem.f a0_0 a0_1 a0_2 a0_3 a0_4 = some true := by
  unfold laws_FnExactIsItem.f laws_toItem.f spec_IsItem.f
  simp only [Option.bind_some, same]
  obtain ⟨r, h⟩ := item_some a0_0 a0_1 a0_2 a0_3 a0_4
  rw [h]
  simp

end Go.Proofs.Ytbbancmbmgbjkaa.Pure
