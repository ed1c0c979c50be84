-- Made by wip/xprint.py: the print of the kit, called over a changed copy of what it reads.
-- PRINTED by print.py (a twelfth state) out of the translation. Not trusted: Lean checks it.
import Derived.ChangeKeysEq
import Derived.Test.YtikmlhpllgikpaaXFnTimetablesx0
namespace Go.Proofs.Ytikmlhpllgikpaa.PFnTimetables
open Go.RowKit Go.Proofs.YtikmlhpllgikpaaW.PrintWords Go.Proofs.YtikmlhpllgikpaaW.PrintLast Go.Proofs.YtikmlhpllgikpaaW.PrintMore
attribute [local go_sem] max2_int min2_int max_two min_two max_three min_three max_four min_four   -- for this text's walks alone
set_option linter.unusedVariables false
set_option linter.unusedSimpArgs false

theorem eqA33 (d : Nat) (w : World) (x0 y0 : Int) (x1 y1 : Int) :
    (Op.equalIn (d + 2) 33 (.agg #[.int .i64 x0, .int .i64 x1]) (.agg #[.int .i64 y0, .int .i64 y1])).run Try.prog w = .ok (x0 == y0 && (x1 == y1)) w := by
  have p0 : ∀ a b : Value, (part 3 #[a, b] (0 * 1)).run Try.prog w = .ok a w := by intro a b; go_simp
  have p1 : ∀ a b : Value, (part 3 #[a, b] 1).run Try.prog w = .ok b w := by intro a b; go_simp
  have e0 : ∀ a b : Int, (Op.equalIn (d + 1) 3 (.int .i64 a) (.int .i64 b)).run Try.prog w = .ok (a == b) w := fun a b => run_equalIn_int w d 3 .i64 .i64 a b Try.underlying3
  obtain ⟨i_, hi_, _, _, _⟩ := info_parts info3
  rw [show d + 2 = (d + 1) + 1 from rfl, run_equalIn_array (w := w) (d + 1) _ _ Try.underlying33 hi_, show Try.prog.cellsOf 3 = 1 by kernel_rfl, show List.range 2 = [0, 1] from rfl]
  simp only [Op.eqItems, Sem.run_bind, p0, e0, Result.andThen_ok]
  cases (x0 == y0) <;> cases h1 : (x1 == y1) <;> simp [p1, e0, h1]

end Go.Proofs.Ytikmlhpllgikpaa.PFnTimetables
