/- FnExactNextState answers true for each number and each bool. No condition beyond the row's own bounds. -/
import Derived.Test.YtnemglgbginbdaaPFnExactNextStatex1
namespace Go.Proofs.Ytnemglgbginbdaa.Pure
open Go.RowKit Go.Proofs.Ytnemglgbginbdaa.PFnExactNextState Go.Proofs.YtnemglgbginbdaaW.PrintWords Go.Proofs.YtnemglgbginbdaaW.PrintLast
set_option linter.unusedVariables false
set_option linter.unusedSimpArgs false

theorem FnExactNextState : laws_FnExactNextState.Pure := by
  intro a b ha
  unfold laws_FnExactNextState.f spec_NextState.f impl_NextState.f spec_l1In.f impl_in.f impl_nextState.f
  by_cases h0 : 0 ≤ a
  · by_cases h1 : a ≤ 2
    · cases b <;> simp [h0, h1]
    · simp [h0, h1]
  · simp [h0]

end Go.Proofs.Ytnemglgbginbdaa.Pure
