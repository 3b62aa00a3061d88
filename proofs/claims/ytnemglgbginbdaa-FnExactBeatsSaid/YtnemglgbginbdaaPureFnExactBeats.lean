/- FnExactBeats answers true for each two bridges. No condition beyond the row's own bounds. -/
import Derived.Test.YtnemglgbginbdaaSFnExactBeats
namespace Go.Proofs.Ytnemglgbginbdaa.Pure
open Go.RowKit Go.Proofs.Ytnemglgbginbdaa.PFnExactBeats Go.Proofs.YtnemglgbginbdaaW.PrintWords Go.Proofs.YtnemglgbginbdaaW.PrintLast
set_option linter.unusedVariables false
set_option linter.unusedSimpArgs false

theorem FnExactBeats : laws_FnExactBeats.PureS := by
  intro a b c d e f _ _ _ _
  unfold laws_FnExactBeats.f
  have h : impl_Beats.f a b c d e f = spec_Beats.f a b c d e f := rfl
  simp only [laws_toBridge.f, Option.bind_some, h]
  obtain ⟨r, hr⟩ : ∃ r, spec_Beats.f a b c d e f = some r := by
    unfold spec_Beats.f spec_l4Bridge.f spec_l1In.f spec_l4Beats.f
    repeat' (first | exact ⟨_, rfl⟩ | (simp only [Option.bind_some]) | split)
  rw [hr]
  simp

end Go.Proofs.Ytnemglgbginbdaa.Pure
